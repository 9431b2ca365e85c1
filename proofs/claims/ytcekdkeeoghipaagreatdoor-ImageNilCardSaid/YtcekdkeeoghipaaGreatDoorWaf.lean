/- Checkpoints of works (22). -/
import Derived.Test.YtcekdkeeoghipaaGreatDoorWae
set_option linter.unusedSimpArgs false
set_option linter.unusedVariables false
namespace Go.Ev
set_option maxRecDepth 100000
open Go.RowKit Go.Proofs Go.Proofs.YtcekdkeeoghipaaGreatDoor
def B22_13 : Blk := .cells (.cat 2 (.rep 1 (b8 1)) (.rep 1 (b8 2))) 5 false false
/- image.Bytes -/
def ck22_2 : Cp := ⟨[(.ptr 11 0), (.agg (.cons (.slo 578 0 4 0) (.cons (.slo 580 0 2 0) (.cons (.int .u64 (.ofNat 4259840)) (.cons (.int .u64 (.ofNat 140737488350976)) (.cons (.int .u32 (.ofNat 7)) (.cons (.int .u32 (.ofNat 5)) (.cons (.int .u32 (.ofNat 5)) (.cons (.int .u32 (.ofNat 0)) (.cons (.tag .nils) (.cons (.bool true) (.cons (.slo 137 0 1 0) (.tag .nil))))))))))))), (.int .u64 (.ofNat 4259840)), (.int .i64 (.ofNat 2))], 767, [(8, B22_0), (9, B22_1), (11, B22_2), (23, B22_3), (24, B22_4), (26, B22_5), (137, B22_8), (518, B22_9), (572, B22_10), (578, B22_11), (580, B22_12)], .tup (.cons (.sl 768 0 2 2) (.cons (.int .i64 (.ofNat 0)) (.tag .nil))), 785, [(768, B22_13)]⟩
theorem ev22_2 : (fun ob => ck22_2.is (cpOut su22_1 9 ck22_2 ob)) = fun ob => some ob := by kernel_rfl
noncomputable def su22_2 : Sums := addS 9 (ck22_2.sum tabl) su22_1
theorem su22_2_ok : SumOK Tryz.prog su22_2 := cp_ok su22_1_ok ev22_2 (by kernel_rfl)
end Go.Ev
