/- Checkpoints of works (26). -/
import Derived.Test.YtadmeeabbkpmlaaGreatDoorPab
set_option linter.unusedSimpArgs false
set_option linter.unusedVariables false
namespace Go.Ev
set_option maxRecDepth 100000
open Go.RowKit Go.Proofs Go.Proofs.YtadmeeabbkpmlaaGreatDoor
def B26_25 : Blk := .cells (.lit 4 [(.ptr 35 0), (.ptr 14 0), (.ptr 600 0), (.slo 640 0 3 0)]) 209 false false
def B26_26 : Blk := .cells (.lit 15 [(.int .u64 (.ofNat 4194304)), (.int .u64 (.ofNat 4198400)), (b8 4), (.int .i64 (.ofNat 1)), (.int .u64 (.ofNat 0)), (.int .u64 (.ofNat 4259840)), (.int .u64 (.ofNat 4263936)), (b8 5), (.int .i64 (.ofNat 1)), (.int .u64 (.ofNat 4096)), (.int .u64 (.ofNat 4325376)), (.int .u64 (.ofNat 4329472)), (b8 6), (.int .i64 (.ofNat 1)), (.int .u64 (.ofNat 8192))]) 179 true false
/- space.Space).Map -/
def ck26_4 : Cp := ⟨[(.ptr 601 0), (.agg (.cons (.int .u64 (.ofNat 4325376)) (.cons (.int .u64 (.ofNat 4329472)) (.cons (b8 6) (.cons (.int .i64 (.ofNat 1)) (.cons (.int .u64 (.ofNat 8192)) (.tag .nil)))))))], 638, [(11, B26_12), (12, B26_13), (13, B26_14), (14, B26_15), (15, B26_1), (16, B26_2), (18, B26_3), (30, B26_4), (31, B26_5), (33, B26_6), (34, B26_16), (35, B26_17), (599, B26_18), (600, B26_19), (601, B26_23), (627, B26_24)], .int .i64 (.ofNat 0), 650, [(601, B26_25), (640, B26_26)]⟩
theorem ev26_4 : (fun ob => ck26_4.is (cpOut su26_3 78 ck26_4 ob)) = fun ob => some ob := by kernel_rfl
noncomputable def su26_4 : Sums := addS 78 (ck26_4.sum tabl) su26_3
theorem su26_4_ok : SumOK Tryz.prog su26_4 := cp_ok su26_3_ok ev26_4 (by kernel_rfl)
def B26_27 : Blk := .cells (.lit 4 [(.ptr 35 0), (.ptr 14 0), (.ptr 600 0), (.slo 653 0 4 0)]) 209 false false
def B26_28 : Blk := .cells (.lit 20 [(.int .u64 (.ofNat 4194304)), (.int .u64 (.ofNat 4198400)), (b8 4), (.int .i64 (.ofNat 1)), (.int .u64 (.ofNat 0)), (.int .u64 (.ofNat 4259840)), (.int .u64 (.ofNat 4263936)), (b8 5), (.int .i64 (.ofNat 1)), (.int .u64 (.ofNat 4096)), (.int .u64 (.ofNat 4325376)), (.int .u64 (.ofNat 4329472)), (b8 6), (.int .i64 (.ofNat 1)), (.int .u64 (.ofNat 8192)), (.int .u64 (.ofNat 140737488334848)), (.int .u64 (.ofNat 140737488351232)), (b8 6), (.int .i64 (.negSucc 0)), (.int .u64 (.ofNat 0))]) 179 true false
/- space.Space).Map -/
def ck26_5 : Cp := ⟨[(.ptr 601 0), (.agg (.cons (.int .u64 (.ofNat 140737488334848)) (.cons (.int .u64 (.ofNat 140737488351232)) (.cons (b8 6) (.cons (.int .i64 (.negSucc 0)) (.cons (.int .u64 (.ofNat 0)) (.tag .nil)))))))], 651, [(11, B26_12), (12, B26_13), (13, B26_14), (14, B26_15), (15, B26_1), (16, B26_2), (18, B26_3), (30, B26_4), (31, B26_5), (33, B26_6), (34, B26_16), (35, B26_17), (599, B26_18), (600, B26_19), (601, B26_25), (640, B26_26)], .int .i64 (.ofNat 0), 661, [(601, B26_27), (653, B26_28)]⟩
theorem ev26_5 : (fun ob => ck26_5.is (cpOut su26_4 78 ck26_5 ob)) = fun ob => some ob := by kernel_rfl
noncomputable def su26_5 : Sums := addS 78 (ck26_5.sum tabl) su26_4
theorem su26_5_ok : SumOK Tryz.prog su26_5 := cp_ok su26_4_ok ev26_5 (by kernel_rfl)
end Go.Ev
