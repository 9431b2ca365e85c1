/- Checkpoints of works (24). -/
import Derived.Test.YtcekdkeeoghipaaGreatDoorPaa
set_option linter.unusedSimpArgs false
set_option linter.unusedVariables false
namespace Go.Ev
set_option maxRecDepth 100000
open Go.RowKit Go.Proofs Go.Proofs.YtcekdkeeoghipaaGreatDoor
def B24_11 : Blk := .cells (.cat 100 (.lit 1 [(.int .i64 (.ofNat 1))]) (.rep 99 (.int .i64 (.ofNat 0)))) 3 false false
def B24_12 : Blk := .cells (.cat 100 (.lit 1 [(.ptr 766 0)]) (.rep 99 (.tag .nilp))) 459 false false
def B24_13 : Blk := .cells (.cat 2 (.lit 1 [(.int .u64 (.ofNat 18446744073709551614))]) (.lit 1 [(.int .u64 (.ofNat 68719476735))])) 30 false false
def B24_14 : Blk := .cells (.lit 4 [(.sl 33 0 100 100), (.sl 34 0 100 100), (.sl 35 0 2 2), (.int .i64 (.ofNat 99))]) 109 false false
def B24_15 : Blk := .map [] 0
def B24_16 : Blk := .cells (.lit 4 [(.ptr 36 0), (.ptr 17 0), (.tag (.mapp 37)), (.int .i64 (.ofNat 0))]) 202 false false
def B24_17 : Blk := .cells (.rep 4096 (b8 0)) 511 false false
def B24_18 : Blk := .cells (.lit 3 [(.ptr 38 0), (.ptr 36 0), (.int .i64 (.ofNat 0))]) 346 false false
def B24_19 : Blk := .cells (.lit 4 [(.ptr 38 0), (.ptr 36 0), (.ptr 767 0), (.tag .nils)]) 210 false false
def B24_20 : Blk := .cells (.lit 4 [(.ptr 38 0), (.ptr 36 0), (.ptr 767 0), (.slo 781 0 1 0)]) 210 false false
def B24_21 : Blk := .cells (.lit 5 [(.int .u64 (.ofNat 4194304)), (.int .u64 (.ofNat 4198400)), (b8 4), (.int .i64 (.ofNat 1)), (.int .u64 (.ofNat 0))]) 104 true false
/- space.Space).Map -/
def ck24_2 : Cp := ⟨[(.ptr 768 0), (.agg (.cons (.int .u64 (.ofNat 4194304)) (.cons (.int .u64 (.ofNat 4198400)) (.cons (b8 4) (.cons (.int .i64 (.ofNat 1)) (.cons (.int .u64 (.ofNat 0)) (.tag .nil)))))))], 770, [(14, B24_0), (15, B24_1), (17, B24_2), (29, B24_3), (30, B24_4), (32, B24_5), (33, B24_11), (34, B24_12), (35, B24_13), (36, B24_14), (37, B24_15), (38, B24_16), (766, B24_17), (767, B24_18), (768, B24_19)], .int .i64 (.ofNat 0), 791, [(768, B24_20), (781, B24_21)]⟩
theorem ev24_2 : (fun ob => ck24_2.is (cpOut su24_1 43 ck24_2 ob)) = fun ob => some ob := by kernel_rfl
noncomputable def su24_2 : Sums := addS 43 (ck24_2.sum tabl) su24_1
theorem su24_2_ok : SumOK Tryz.prog su24_2 := cp_ok su24_1_ok ev24_2 (by kernel_rfl)
def B24_22 : Blk := .cells (.lit 4 [(.ptr 38 0), (.ptr 36 0), (.ptr 767 0), (.slo 824 0 2 0)]) 210 false false
def B24_23 : Blk := .cells (.cat 10 (.lit 5 [(.int .u64 (.ofNat 4194304)), (.int .u64 (.ofNat 4198400)), (b8 4), (.int .i64 (.ofNat 1)), (.int .u64 (.ofNat 0))]) (.lit 5 [(.int .u64 (.ofNat 4259840)), (.int .u64 (.ofNat 4263936)), (b8 5), (.int .i64 (.ofNat 1)), (.int .u64 (.ofNat 4096))])) 104 true false
/- space.Space).Map -/
def ck24_3 : Cp := ⟨[(.ptr 768 0), (.agg (.cons (.int .u64 (.ofNat 4259840)) (.cons (.int .u64 (.ofNat 4263936)) (.cons (b8 5) (.cons (.int .i64 (.ofNat 1)) (.cons (.int .u64 (.ofNat 4096)) (.tag .nil)))))))], 792, [(14, B24_0), (15, B24_1), (17, B24_2), (29, B24_3), (30, B24_4), (32, B24_5), (33, B24_11), (34, B24_12), (35, B24_13), (36, B24_14), (37, B24_15), (38, B24_16), (766, B24_17), (767, B24_18), (768, B24_20), (781, B24_21)], .int .i64 (.ofNat 0), 834, [(768, B24_22), (824, B24_23)]⟩
theorem ev24_3 : (fun ob => ck24_3.is (cpOut su24_2 43 ck24_3 ob)) = fun ob => some ob := by kernel_rfl
noncomputable def su24_3 : Sums := addS 43 (ck24_3.sum tabl) su24_2
theorem su24_3_ok : SumOK Tryz.prog su24_3 := cp_ok su24_2_ok ev24_3 (by kernel_rfl)
end Go.Ev
