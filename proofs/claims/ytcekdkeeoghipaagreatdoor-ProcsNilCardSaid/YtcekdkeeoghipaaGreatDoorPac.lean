/- Checkpoints of works (24). -/
import Derived.Test.YtcekdkeeoghipaaGreatDoorPab
set_option linter.unusedSimpArgs false
set_option linter.unusedVariables false
namespace Go.Ev
set_option maxRecDepth 100000
open Go.RowKit Go.Proofs Go.Proofs.YtcekdkeeoghipaaGreatDoor
def B24_24 : Blk := .cells (.lit 4 [(.ptr 38 0), (.ptr 36 0), (.ptr 767 0), (.slo 893 0 3 0)]) 210 false false
def B24_25 : Blk := .cells (.cat 15 (.cat 10 (.lit 5 [(.int .u64 (.ofNat 4194304)), (.int .u64 (.ofNat 4198400)), (b8 4), (.int .i64 (.ofNat 1)), (.int .u64 (.ofNat 0))]) (.lit 5 [(.int .u64 (.ofNat 4259840)), (.int .u64 (.ofNat 4263936)), (b8 5), (.int .i64 (.ofNat 1)), (.int .u64 (.ofNat 4096))])) (.lit 5 [(.int .u64 (.ofNat 4325376)), (.int .u64 (.ofNat 4329472)), (b8 6), (.int .i64 (.ofNat 1)), (.int .u64 (.ofNat 8192))])) 104 true false
/- space.Space).Map -/
def ck24_4 : Cp := ⟨[(.ptr 768 0), (.agg (.cons (.int .u64 (.ofNat 4325376)) (.cons (.int .u64 (.ofNat 4329472)) (.cons (b8 6) (.cons (.int .i64 (.ofNat 1)) (.cons (.int .u64 (.ofNat 8192)) (.tag .nil)))))))], 835, [(14, B24_0), (15, B24_1), (17, B24_2), (29, B24_3), (30, B24_4), (32, B24_5), (33, B24_11), (34, B24_12), (35, B24_13), (36, B24_14), (37, B24_15), (38, B24_16), (766, B24_17), (767, B24_18), (768, B24_22), (824, B24_23)], .int .i64 (.ofNat 0), 903, [(768, B24_24), (893, B24_25)]⟩
theorem ev24_4 : (fun ob => ck24_4.is (cpOut su24_3 43 ck24_4 ob)) = fun ob => some ob := by kernel_rfl
noncomputable def su24_4 : Sums := addS 43 (ck24_4.sum tabl) su24_3
theorem su24_4_ok : SumOK Tryz.prog su24_4 := cp_ok su24_3_ok ev24_4 (by kernel_rfl)
def B24_26 : Blk := .cells (.lit 4 [(.ptr 38 0), (.ptr 36 0), (.ptr 767 0), (.slo 988 0 4 0)]) 210 false false
def B24_27 : Blk := .cells (.cat 20 (.cat 15 (.cat 10 (.lit 5 [(.int .u64 (.ofNat 4194304)), (.int .u64 (.ofNat 4198400)), (b8 4), (.int .i64 (.ofNat 1)), (.int .u64 (.ofNat 0))]) (.lit 5 [(.int .u64 (.ofNat 4259840)), (.int .u64 (.ofNat 4263936)), (b8 5), (.int .i64 (.ofNat 1)), (.int .u64 (.ofNat 4096))])) (.lit 5 [(.int .u64 (.ofNat 4325376)), (.int .u64 (.ofNat 4329472)), (b8 6), (.int .i64 (.ofNat 1)), (.int .u64 (.ofNat 8192))])) (.lit 5 [(.int .u64 (.ofNat 140737488334848)), (.int .u64 (.ofNat 140737488351232)), (b8 6), (.int .i64 (.negSucc 0)), (.int .u64 (.ofNat 0))])) 104 true false
/- space.Space).Map -/
def ck24_5 : Cp := ⟨[(.ptr 768 0), (.agg (.cons (.int .u64 (.ofNat 140737488334848)) (.cons (.int .u64 (.ofNat 140737488351232)) (.cons (b8 6) (.cons (.int .i64 (.negSucc 0)) (.cons (.int .u64 (.ofNat 0)) (.tag .nil)))))))], 904, [(14, B24_0), (15, B24_1), (17, B24_2), (29, B24_3), (30, B24_4), (32, B24_5), (33, B24_11), (34, B24_12), (35, B24_13), (36, B24_14), (37, B24_15), (38, B24_16), (766, B24_17), (767, B24_18), (768, B24_24), (893, B24_25)], .int .i64 (.ofNat 0), 996, [(768, B24_26), (988, B24_27)]⟩
theorem ev24_5 : (fun ob => ck24_5.is (cpOut su24_4 43 ck24_5 ob)) = fun ob => some ob := by kernel_rfl
noncomputable def su24_5 : Sums := addS 43 (ck24_5.sum tabl) su24_4
theorem su24_5_ok : SumOK Tryz.prog su24_5 := cp_ok su24_4_ok ev24_5 (by kernel_rfl)
end Go.Ev
