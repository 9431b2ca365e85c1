/- Checkpoints of works (23). -/
import Derived.Test.YtcekdkeeoghipaaGreatDoorXaa
set_option linter.unusedSimpArgs false
set_option linter.unusedVariables false
namespace Go.Ev
set_option maxRecDepth 100000
open Go.RowKit Go.Proofs Go.Proofs.YtcekdkeeoghipaaGreatDoor
def B23_13 : Blk := .cells (.cat 60 (.lit 1 [(.int .i64 (.ofNat 1))]) (.rep 59 (.int .i64 (.ofNat 0)))) 3 false false
def B23_14 : Blk := .cells (.cat 60 (.lit 1 [(.ptr 774 0)]) (.rep 59 (.tag .nilp))) 459 false false
def B23_15 : Blk := .cells (.lit 1 [(.int .u64 (.ofNat 1152921504606846974))]) 30 false false
def B23_16 : Blk := .cells (.lit 4 [(.sl 33 0 60 60), (.sl 34 0 60 60), (.sl 35 0 1 1), (.int .i64 (.ofNat 59))]) 109 false false
def B23_17 : Blk := .map [] 0
def B23_18 : Blk := .cells (.lit 4 [(.ptr 36 0), (.ptr 17 0), (.tag (.mapp 37)), (.int .i64 (.ofNat 0))]) 202 false false
def B23_19 : Blk := .cells (.rep 4096 (b8 0)) 511 false false
def B23_20 : Blk := .cells (.lit 3 [(.ptr 38 0), (.ptr 36 0), (.int .i64 (.ofNat 0))]) 346 false false
def B23_21 : Blk := .cells (.lit 4 [(.ptr 38 0), (.ptr 36 0), (.ptr 775 0), (.tag .nils)]) 210 false false
def B23_22 : Blk := .cells (.lit 4 [(.ptr 38 0), (.ptr 36 0), (.ptr 775 0), (.slo 789 0 1 0)]) 210 false false
def B23_23 : Blk := .cells (.lit 5 [(.int .u64 (.ofNat 4194304)), (.int .u64 (.ofNat 4198400)), (b8 4), (.int .i64 (.ofNat 1)), (.int .u64 (.ofNat 0))]) 104 true false
/- space.Space).Map -/
def ck23_2 : Cp := ⟨[(.ptr 776 0), (.agg (.cons (.int .u64 (.ofNat 4194304)) (.cons (.int .u64 (.ofNat 4198400)) (.cons (b8 4) (.cons (.int .i64 (.ofNat 1)) (.cons (.int .u64 (.ofNat 0)) (.tag .nil)))))))], 778, [(14, B23_0), (15, B23_1), (17, B23_2), (29, B23_3), (30, B23_4), (32, B23_5), (33, B23_13), (34, B23_14), (35, B23_15), (36, B23_16), (37, B23_17), (38, B23_18), (774, B23_19), (775, B23_20), (776, B23_21)], .int .i64 (.ofNat 0), 799, [(776, B23_22), (789, B23_23)]⟩
theorem ev23_2 : (fun ob => ck23_2.is (cpOut su23_1 43 ck23_2 ob)) = fun ob => some ob := by kernel_rfl
noncomputable def su23_2 : Sums := addS 43 (ck23_2.sum tabl) su23_1
theorem su23_2_ok : SumOK Tryz.prog su23_2 := cp_ok su23_1_ok ev23_2 (by kernel_rfl)
def B23_24 : Blk := .cells (.lit 4 [(.ptr 38 0), (.ptr 36 0), (.ptr 775 0), (.slo 832 0 2 0)]) 210 false false
def B23_25 : Blk := .cells (.cat 10 (.lit 5 [(.int .u64 (.ofNat 4194304)), (.int .u64 (.ofNat 4198400)), (b8 4), (.int .i64 (.ofNat 1)), (.int .u64 (.ofNat 0))]) (.lit 5 [(.int .u64 (.ofNat 4259840)), (.int .u64 (.ofNat 4263936)), (b8 5), (.int .i64 (.ofNat 1)), (.int .u64 (.ofNat 4096))])) 104 true false
/- space.Space).Map -/
def ck23_3 : Cp := ⟨[(.ptr 776 0), (.agg (.cons (.int .u64 (.ofNat 4259840)) (.cons (.int .u64 (.ofNat 4263936)) (.cons (b8 5) (.cons (.int .i64 (.ofNat 1)) (.cons (.int .u64 (.ofNat 4096)) (.tag .nil)))))))], 800, [(14, B23_0), (15, B23_1), (17, B23_2), (29, B23_3), (30, B23_4), (32, B23_5), (33, B23_13), (34, B23_14), (35, B23_15), (36, B23_16), (37, B23_17), (38, B23_18), (774, B23_19), (775, B23_20), (776, B23_22), (789, B23_23)], .int .i64 (.ofNat 0), 842, [(776, B23_24), (832, B23_25)]⟩
theorem ev23_3 : (fun ob => ck23_3.is (cpOut su23_2 43 ck23_3 ob)) = fun ob => some ob := by kernel_rfl
noncomputable def su23_3 : Sums := addS 43 (ck23_3.sum tabl) su23_2
theorem su23_3_ok : SumOK Tryz.prog su23_3 := cp_ok su23_2_ok ev23_3 (by kernel_rfl)
end Go.Ev
