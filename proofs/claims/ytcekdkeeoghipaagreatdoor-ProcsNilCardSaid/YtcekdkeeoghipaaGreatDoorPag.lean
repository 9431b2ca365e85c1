/- Checkpoints of works (24). -/
import Derived.Test.YtcekdkeeoghipaaGreatDoorPaf
set_option linter.unusedSimpArgs false
set_option linter.unusedVariables false
namespace Go.Ev
set_option maxRecDepth 100000
open Go.RowKit Go.Proofs Go.Proofs.YtcekdkeeoghipaaGreatDoor
def B24_73 : Blk := .cells (.cat 100 (.lit 1 [(.int .i64 (.ofNat 1))]) (.cat 99 (.lit 1 [(.int .i64 (.ofNat 1))]) (.cat 98 (.lit 1 [(.int .i64 (.ofNat 1))]) (.cat 97 (.lit 1 [(.int .i64 (.ofNat 1))]) (.cat 96 (.lit 1 [(.int .i64 (.ofNat 1))]) (.cat 95 (.lit 1 [(.int .i64 (.ofNat 1))]) (.cat 94 (.lit 1 [(.int .i64 (.ofNat 1))]) (.cat 93 (.lit 1 [(.int .i64 (.ofNat 1))]) (.cat 92 (.lit 1 [(.int .i64 (.ofNat 1))]) (.cat 91 (.lit 1 [(.int .i64 (.ofNat 1))]) (.cat 90 (.lit 1 [(.int .i64 (.ofNat 0))]) (.cat 89 (.lit 1 [(.int .i64 (.ofNat 0))]) (.cat 88 (.lit 1 [(.int .i64 (.ofNat 0))]) (.cat 87 (.lit 1 [(.int .i64 (.ofNat 0))]) (.cat 86 (.lit 1 [(.int .i64 (.ofNat 0))]) (.cat 85 (.lit 1 [(.int .i64 (.ofNat 0))]) (.cat 84 (.lit 1 [(.int .i64 (.ofNat 0))]) (.rep 83 (.int .i64 (.ofNat 0)))))))))))))))))))) 3 false false
def B24_74 : Blk := .cells (.lit 3 [(.ptr 38 0), (.tag .nilp), (.int .i64 (.ofNat 10))]) 346 false false
def B24_75 : Blk := .cells (.lit 4 [(.ptr 38 0), (.ptr 36 0), (.tag .nilp), (.slo 1329 0 4 0)]) 210 false false
/- space.Space).Free -/
def ck24_12 : Cp := ⟨[(.ptr 1330 0)], 1337, [(14, B24_0), (15, B24_1), (17, B24_2), (29, B24_3), (30, B24_4), (32, B24_5), (33, B24_60), (34, B24_61), (35, B24_62), (36, B24_63), (37, B24_32), (38, B24_33), (766, B24_43), (1039, B24_35), (1047, B24_36), (1050, B24_37), (1053, B24_64), (1074, B24_35), (1142, B24_44), (1150, B24_45), (1153, B24_46), (1156, B24_65), (1204, B24_66), (1205, B24_67), (1229, B24_68), (1232, B24_69), (1235, B24_64), (1262, B24_70), (1265, B24_71), (1268, B24_65), (1329, B24_27), (1330, B24_72)], .tup (.tag .nil), 1367, [(33, B24_73), (35, B24_41), (36, B24_42), (1205, B24_74), (1330, B24_75)]⟩
theorem ev24_12 : (fun ob => ck24_12.is (cpOut su24_11 39 ck24_12 ob)) = fun ob => some ob := by kernel_rfl
noncomputable def su24_12 : Sums := addS 39 (ck24_12.sum tabl) su24_11
theorem su24_12_ok : SumOK Tryz.prog su24_12 := cp_ok su24_11_ok ev24_12 (by kernel_rfl)
end Go.Ev
