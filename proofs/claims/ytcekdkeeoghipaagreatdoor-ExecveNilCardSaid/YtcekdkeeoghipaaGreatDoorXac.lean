/- Checkpoints of works (23). -/
import Derived.Test.YtcekdkeeoghipaaGreatDoorXab
set_option linter.unusedSimpArgs false
set_option linter.unusedVariables false
namespace Go.Ev
set_option maxRecDepth 100000
open Go.RowKit Go.Proofs Go.Proofs.YtcekdkeeoghipaaGreatDoor
def B23_26 : Blk := .cells (.lit 4 [(.ptr 38 0), (.ptr 36 0), (.ptr 775 0), (.slo 901 0 3 0)]) 210 false false
def B23_27 : Blk := .cells (.cat 15 (.cat 10 (.lit 5 [(.int .u64 (.ofNat 4194304)), (.int .u64 (.ofNat 4198400)), (b8 4), (.int .i64 (.ofNat 1)), (.int .u64 (.ofNat 0))]) (.lit 5 [(.int .u64 (.ofNat 4259840)), (.int .u64 (.ofNat 4263936)), (b8 5), (.int .i64 (.ofNat 1)), (.int .u64 (.ofNat 4096))])) (.lit 5 [(.int .u64 (.ofNat 4325376)), (.int .u64 (.ofNat 4329472)), (b8 6), (.int .i64 (.ofNat 1)), (.int .u64 (.ofNat 8192))])) 104 true false
/- space.Space).Map -/
def ck23_4 : Cp := ⟨[(.ptr 776 0), (.agg (.cons (.int .u64 (.ofNat 4325376)) (.cons (.int .u64 (.ofNat 4329472)) (.cons (b8 6) (.cons (.int .i64 (.ofNat 1)) (.cons (.int .u64 (.ofNat 8192)) (.tag .nil)))))))], 843, [(14, B23_0), (15, B23_1), (17, B23_2), (29, B23_3), (30, B23_4), (32, B23_5), (33, B23_13), (34, B23_14), (35, B23_15), (36, B23_16), (37, B23_17), (38, B23_18), (774, B23_19), (775, B23_20), (776, B23_24), (832, B23_25)], .int .i64 (.ofNat 0), 911, [(776, B23_26), (901, B23_27)]⟩
theorem ev23_4 : (fun ob => ck23_4.is (cpOut su23_3 43 ck23_4 ob)) = fun ob => some ob := by kernel_rfl
noncomputable def su23_4 : Sums := addS 43 (ck23_4.sum tabl) su23_3
theorem su23_4_ok : SumOK Tryz.prog su23_4 := cp_ok su23_3_ok ev23_4 (by kernel_rfl)
def B23_28 : Blk := .cells (.lit 4 [(.ptr 38 0), (.ptr 36 0), (.ptr 775 0), (.slo 996 0 4 0)]) 210 false false
def B23_29 : Blk := .cells (.cat 20 (.cat 15 (.cat 10 (.lit 5 [(.int .u64 (.ofNat 4194304)), (.int .u64 (.ofNat 4198400)), (b8 4), (.int .i64 (.ofNat 1)), (.int .u64 (.ofNat 0))]) (.lit 5 [(.int .u64 (.ofNat 4259840)), (.int .u64 (.ofNat 4263936)), (b8 5), (.int .i64 (.ofNat 1)), (.int .u64 (.ofNat 4096))])) (.lit 5 [(.int .u64 (.ofNat 4325376)), (.int .u64 (.ofNat 4329472)), (b8 6), (.int .i64 (.ofNat 1)), (.int .u64 (.ofNat 8192))])) (.lit 5 [(.int .u64 (.ofNat 140737488334848)), (.int .u64 (.ofNat 140737488351232)), (b8 6), (.int .i64 (.negSucc 0)), (.int .u64 (.ofNat 0))])) 104 true false
/- space.Space).Map -/
def ck23_5 : Cp := ⟨[(.ptr 776 0), (.agg (.cons (.int .u64 (.ofNat 140737488334848)) (.cons (.int .u64 (.ofNat 140737488351232)) (.cons (b8 6) (.cons (.int .i64 (.negSucc 0)) (.cons (.int .u64 (.ofNat 0)) (.tag .nil)))))))], 912, [(14, B23_0), (15, B23_1), (17, B23_2), (29, B23_3), (30, B23_4), (32, B23_5), (33, B23_13), (34, B23_14), (35, B23_15), (36, B23_16), (37, B23_17), (38, B23_18), (774, B23_19), (775, B23_20), (776, B23_26), (901, B23_27)], .int .i64 (.ofNat 0), 1004, [(776, B23_28), (996, B23_29)]⟩
theorem ev23_5 : (fun ob => ck23_5.is (cpOut su23_4 43 ck23_5 ob)) = fun ob => some ob := by kernel_rfl
noncomputable def su23_5 : Sums := addS 43 (ck23_5.sum tabl) su23_4
theorem su23_5_ok : SumOK Tryz.prog su23_5 := cp_ok su23_4_ok ev23_5 (by kernel_rfl)
end Go.Ev
