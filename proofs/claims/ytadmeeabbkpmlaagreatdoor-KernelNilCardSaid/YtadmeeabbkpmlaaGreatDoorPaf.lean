/- Checkpoints of works (26). -/
import Derived.Test.YtadmeeabbkpmlaaGreatDoorPae
set_option linter.unusedSimpArgs false
set_option linter.unusedVariables false
namespace Go.Ev
set_option maxRecDepth 100000
open Go.RowKit Go.Proofs Go.Proofs.YtadmeeabbkpmlaaGreatDoor
def B26_61 : Blk := .cells (.lit 4 [(.ptr 35 0), (.ptr 14 0), (.ptr 600 0), (.slo 925 0 5 0)]) 209 false false
def B26_62 : Blk := .cells (.lit 25 [(.int .u64 (.ofNat 4194304)), (.int .u64 (.ofNat 4198400)), (b8 4), (.int .i64 (.ofNat 1)), (.int .u64 (.ofNat 0)), (.int .u64 (.ofNat 4259840)), (.int .u64 (.ofNat 4263936)), (b8 5), (.int .i64 (.ofNat 1)), (.int .u64 (.ofNat 4096)), (.int .u64 (.ofNat 4325376)), (.int .u64 (.ofNat 4329472)), (b8 6), (.int .i64 (.ofNat 1)), (.int .u64 (.ofNat 8192)), (.int .u64 (.ofNat 4294967296)), (.int .u64 (.ofNat 4294971392)), (b8 6), (.int .i64 (.negSucc 0)), (.int .u64 (.ofNat 0)), (.int .u64 (.ofNat 140737488334848)), (.int .u64 (.ofNat 140737488351232)), (b8 6), (.int .i64 (.negSucc 0)), (.int .u64 (.ofNat 0))]) 179 true false
/- space.Space).Map -/
def ck26_11 : Cp := ⟨[(.ptr 601 0), (.agg (.cons (.int .u64 (.ofNat 4294967296)) (.cons (.int .u64 (.ofNat 4294971392)) (.cons (b8 6) (.cons (.int .i64 (.negSucc 0)) (.cons (.int .u64 (.ofNat 0)) (.tag .nil)))))))], 923, [(11, B26_40), (12, B26_41), (13, B26_42), (14, B26_43), (15, B26_1), (16, B26_2), (18, B26_3), (30, B26_4), (31, B26_5), (33, B26_6), (34, B26_33), (35, B26_34), (599, B26_44), (600, B26_19), (601, B26_27), (653, B26_28), (704, B26_36), (712, B26_37), (715, B26_38), (718, B26_39), (739, B26_36), (807, B26_45), (815, B26_46), (818, B26_47), (821, B26_48)], .int .i64 (.ofNat 0), 949, [(601, B26_61), (925, B26_62)]⟩
theorem ev26_11 : (fun ob => ck26_11.is (cpOut su26_10 78 ck26_11 ob)) = fun ob => some ob := by kernel_rfl
noncomputable def su26_11 : Sums := addS 78 (ck26_11.sum tabl) su26_10
theorem su26_11_ok : SumOK Tryz.prog su26_11 := cp_ok su26_10_ok ev26_11 (by kernel_rfl)
/- kernel.Kernel).Do -/
def ck26_12 : Cp := ⟨[(.ptr 868 0), (.int .i64 (.ofNat 1)), (.agg (.cons (b8 5) (.cons (.int .u64 (.ofNat 0)) (.cons (.int .u64 (.ofNat 1)) (.cons (.int .u64 (.ofNat 6)) (.cons (.int .u64 (.ofNat 0)) (.cons (.int .u64 (.ofNat 0)) (.cons (.str []) (.cons (.tag .nils) (.cons (.tag .nils) (.cons (.tag .nils) (.tag .nil))))))))))))], 869, [(11, B26_40), (12, B26_41), (13, B26_42), (14, B26_43), (15, B26_1), (16, B26_2), (18, B26_3), (30, B26_4), (31, B26_5), (33, B26_6), (34, B26_33), (35, B26_34), (36, B26_54), (38, B26_55), (39, B26_56), (599, B26_44), (600, B26_19), (601, B26_27), (653, B26_28), (704, B26_36), (712, B26_37), (715, B26_38), (718, B26_39), (739, B26_36), (807, B26_45), (815, B26_46), (818, B26_47), (821, B26_48), (866, B26_57), (867, B26_58), (868, B26_60)], .agg (.cons (.int .i64 (.ofNat 0)) (.cons (.int .u64 (.ofNat 4294967296)) (.cons (.tag .nils) (.tag .nil)))), 950, [(601, B26_61), (925, B26_62)]⟩
theorem ev26_12 : (fun ob => ck26_12.is (cpOut su26_11 6 ck26_12 ob)) = fun ob => some ob := by kernel_rfl
noncomputable def su26_12 : Sums := addS 6 (ck26_12.sum tabl) su26_11
theorem su26_12_ok : SumOK Tryz.prog su26_12 := cp_ok su26_11_ok ev26_12 (by kernel_rfl)
end Go.Ev
