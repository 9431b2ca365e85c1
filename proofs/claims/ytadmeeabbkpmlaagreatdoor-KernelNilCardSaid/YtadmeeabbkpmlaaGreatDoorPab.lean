/- Checkpoints of works (26). -/
import Derived.Test.YtadmeeabbkpmlaaGreatDoorPaa
set_option linter.unusedSimpArgs false
set_option linter.unusedVariables false
namespace Go.Ev
set_option maxRecDepth 100000
open Go.RowKit Go.Proofs Go.Proofs.YtadmeeabbkpmlaaGreatDoor
def B26_12 : Blk := .cells (.cat 200 (.lit 1 [(.int .i64 (.ofNat 1))]) (.rep 199 (.int .i64 (.ofNat 0)))) 3 false false
def B26_13 : Blk := .cells (.cat 200 (.lit 1 [(.ptr 599 0)]) (.rep 199 (.tag .nilp))) 302 false false
def B26_14 : Blk := .cells (.cat 4 (.lit 1 [(.int .u64 (.ofNat 18446744073709551614))]) (.cat 3 (.lit 1 [(.int .u64 (.ofNat 18446744073709551615))]) (.cat 2 (.lit 1 [(.int .u64 (.ofNat 18446744073709551615))]) (.lit 1 [(.int .u64 (.ofNat 255))])))) 23 false false
def B26_15 : Blk := .cells (.lit 4 [(.sl 11 0 200 200), (.sl 12 0 200 200), (.sl 13 0 4 4), (.int .i64 (.ofNat 199))]) 127 false false
def B26_16 : Blk := .map [] 0
def B26_17 : Blk := .cells (.lit 4 [(.ptr 14 0), (.ptr 18 0), (.tag (.mapp 34)), (.int .i64 (.ofNat 0))]) 142 false false
def B26_18 : Blk := .cells (.rep 4096 (b8 0)) 417 false false
def B26_19 : Blk := .cells (.lit 3 [(.ptr 35 0), (.ptr 14 0), (.int .i64 (.ofNat 0))]) 351 false false
def B26_20 : Blk := .cells (.lit 4 [(.ptr 35 0), (.ptr 14 0), (.ptr 600 0), (.tag .nils)]) 209 false false
def B26_21 : Blk := .cells (.lit 4 [(.ptr 35 0), (.ptr 14 0), (.ptr 600 0), (.slo 614 0 1 0)]) 209 false false
def B26_22 : Blk := .cells (.lit 5 [(.int .u64 (.ofNat 4194304)), (.int .u64 (.ofNat 4198400)), (b8 4), (.int .i64 (.ofNat 1)), (.int .u64 (.ofNat 0))]) 179 true false
/- space.Space).Map -/
def ck26_2 : Cp := ⟨[(.ptr 601 0), (.agg (.cons (.int .u64 (.ofNat 4194304)) (.cons (.int .u64 (.ofNat 4198400)) (.cons (b8 4) (.cons (.int .i64 (.ofNat 1)) (.cons (.int .u64 (.ofNat 0)) (.tag .nil)))))))], 603, [(11, B26_12), (12, B26_13), (13, B26_14), (14, B26_15), (15, B26_1), (16, B26_2), (18, B26_3), (30, B26_4), (31, B26_5), (33, B26_6), (34, B26_16), (35, B26_17), (599, B26_18), (600, B26_19), (601, B26_20)], .int .i64 (.ofNat 0), 624, [(601, B26_21), (614, B26_22)]⟩
theorem ev26_2 : (fun ob => ck26_2.is (cpOut su26_1 78 ck26_2 ob)) = fun ob => some ob := by kernel_rfl
noncomputable def su26_2 : Sums := addS 78 (ck26_2.sum tabl) su26_1
theorem su26_2_ok : SumOK Tryz.prog su26_2 := cp_ok su26_1_ok ev26_2 (by kernel_rfl)
def B26_23 : Blk := .cells (.lit 4 [(.ptr 35 0), (.ptr 14 0), (.ptr 600 0), (.slo 627 0 2 0)]) 209 false false
def B26_24 : Blk := .cells (.lit 10 [(.int .u64 (.ofNat 4194304)), (.int .u64 (.ofNat 4198400)), (b8 4), (.int .i64 (.ofNat 1)), (.int .u64 (.ofNat 0)), (.int .u64 (.ofNat 4259840)), (.int .u64 (.ofNat 4263936)), (b8 5), (.int .i64 (.ofNat 1)), (.int .u64 (.ofNat 4096))]) 179 true false
/- space.Space).Map -/
def ck26_3 : Cp := ⟨[(.ptr 601 0), (.agg (.cons (.int .u64 (.ofNat 4259840)) (.cons (.int .u64 (.ofNat 4263936)) (.cons (b8 5) (.cons (.int .i64 (.ofNat 1)) (.cons (.int .u64 (.ofNat 4096)) (.tag .nil)))))))], 625, [(11, B26_12), (12, B26_13), (13, B26_14), (14, B26_15), (15, B26_1), (16, B26_2), (18, B26_3), (30, B26_4), (31, B26_5), (33, B26_6), (34, B26_16), (35, B26_17), (599, B26_18), (600, B26_19), (601, B26_21), (614, B26_22)], .int .i64 (.ofNat 0), 637, [(601, B26_23), (627, B26_24)]⟩
theorem ev26_3 : (fun ob => ck26_3.is (cpOut su26_2 78 ck26_3 ob)) = fun ob => some ob := by kernel_rfl
noncomputable def su26_3 : Sums := addS 78 (ck26_3.sum tabl) su26_2
theorem su26_3_ok : SumOK Tryz.prog su26_3 := cp_ok su26_2_ok ev26_3 (by kernel_rfl)
end Go.Ev
