/- Checkpoints of works (26). -/
import Derived.Test.YtadmeeabbkpmlaaGreatDoorPad
set_option linter.unusedSimpArgs false
set_option linter.unusedVariables false
namespace Go.Ev
set_option maxRecDepth 100000
open Go.RowKit Go.Proofs Go.Proofs.YtadmeeabbkpmlaaGreatDoor
def B26_53 : Blk := .cells (.lit 2 [(.ptr 35 0), (.tag .nils)]) 114 false false
def B26_54 : Blk := .cells (.lit 2 [(.ptr 35 0), (.sl 867 0 1 1)]) 114 false false
def B26_55 : Blk := .cells (.lit 64 [(.bool false), (.int .i64 (.ofNat 0)), (.int .i64 (.ofNat 0)), (.bool false), (.bool false), (.int .i64 (.ofNat 0)), (.int .i64 (.ofNat 0)), (.bool false), (.bool false), (.int .i64 (.ofNat 0)), (.int .i64 (.ofNat 0)), (.bool false), (.bool false), (.int .i64 (.ofNat 0)), (.int .i64 (.ofNat 0)), (.bool false), (.bool false), (.int .i64 (.ofNat 0)), (.int .i64 (.ofNat 0)), (.bool false), (.bool false), (.int .i64 (.ofNat 0)), (.int .i64 (.ofNat 0)), (.bool false), (.bool false), (.int .i64 (.ofNat 0)), (.int .i64 (.ofNat 0)), (.bool false), (.bool false), (.int .i64 (.ofNat 0)), (.int .i64 (.ofNat 0)), (.bool false), (.bool false), (.int .i64 (.ofNat 0)), (.int .i64 (.ofNat 0)), (.bool false), (.bool false), (.int .i64 (.ofNat 0)), (.int .i64 (.ofNat 0)), (.bool false), (.bool false), (.int .i64 (.ofNat 0)), (.int .i64 (.ofNat 0)), (.bool false), (.bool false), (.int .i64 (.ofNat 0)), (.int .i64 (.ofNat 0)), (.bool false), (.bool false), (.int .i64 (.ofNat 0)), (.int .i64 (.ofNat 0)), (.bool false), (.bool false), (.int .i64 (.ofNat 0)), (.int .i64 (.ofNat 0)), (.bool false), (.bool false), (.int .i64 (.ofNat 0)), (.int .i64 (.ofNat 0)), (.bool false), (.bool false), (.int .i64 (.ofNat 0)), (.int .i64 (.ofNat 0)), (.bool false)]) 213 false false
def B26_56 : Blk := .cells (.cat 10 (.lit 1 [(.ptr 601 0)]) (.cat 9 (.lit 5 [(.int .u32 (.ofNat 0)), (.int .u32 (.ofNat 0)), (.int .u32 (.ofNat 0)), (.int .u32 (.ofNat 0)), (.tag .nils)]) (.lit 4 [(.ptr 38 0), (.int .u64 (.ofNat 4259840)), (.int .u64 (.ofNat 140737488350992)), (.bool false)]))) 72 false false
def B26_57 : Blk := .cells (.lit 4 [(.ptr 39 0), (.int .i64 (.ofNat 1)), (.int .i64 (.ofNat 0)), (.int .u64 (.ofNat 0))]) 109 false false
def B26_58 : Blk := .cells (.lit 1 [(.ptr 866 0)]) 106 false false
/- procs.Table).Begin -/
def ck26_9 : Cp := ⟨[(.ptr 36 0), (.agg (.cons (.int .u32 (.ofNat 0)) (.cons (.int .u32 (.ofNat 0)) (.cons (.int .u32 (.ofNat 0)) (.cons (.int .u32 (.ofNat 0)) (.cons (.tag .nils) (.tag .nil))))))), (.str [47, 97]), (.sl 9 0 1 1), (.tag .nils)], 37, [(9, B26_0), (11, B26_49), (12, B26_50), (13, B26_51), (14, B26_52), (15, B26_1), (16, B26_2), (18, B26_3), (30, B26_4), (31, B26_5), (33, B26_6), (34, B26_16), (35, B26_17), (36, B26_53)], .tup (.cons (.int .i64 (.ofNat 1)) (.cons (.int .i64 (.ofNat 0)) (.tag .nil))), 868, [(11, B26_40), (12, B26_41), (13, B26_42), (14, B26_43), (34, B26_33), (35, B26_34), (36, B26_54), (38, B26_55), (39, B26_56), (599, B26_44), (600, B26_19), (601, B26_27), (653, B26_28), (704, B26_36), (712, B26_37), (715, B26_38), (718, B26_39), (739, B26_36), (807, B26_45), (815, B26_46), (818, B26_47), (821, B26_48), (866, B26_57), (867, B26_58)]⟩
theorem ev26_9 : (fun ob => ck26_9.is (cpOut su26_8 23 ck26_9 ob)) = fun ob => some ob := by kernel_rfl
noncomputable def su26_9 : Sums := addS 23 (ck26_9.sum tabl) su26_8
theorem su26_9_ok : SumOK Tryz.prog su26_9 := cp_ok su26_8_ok ev26_9 (by kernel_rfl)
def B26_59 : Blk := .cells (.lit 7 [(.str [47, 97]), (b8 1), (.int .u16 (.ofNat 493)), (.int .u32 (.ofNat 0)), (.int .u32 (.ofNat 0)), (.slo 7 0 8193 0), (.str [])]) 94 false false
def B26_60 : Blk := .cells (.lit 3 [(.ptr 18 0), (.ptr 35 0), (.ptr 36 0)]) 64 false false
/- kernel.New -/
def ck26_10 : Cp := ⟨[(.agg (.cons (.int .i64 (.ofNat 200)) (.cons (.sl 8 0 1 1) (.cons (.str [47, 97]) (.cons (.sl 9 0 1 1) (.cons (.tag .nils) (.cons (.int .u32 (.ofNat 0)) (.cons (.int .u32 (.ofNat 0)) (.cons (.int .u32 (.ofNat 0)) (.cons (.int .u32 (.ofNat 0)) (.cons (.tag .nils) (.tag .nil))))))))))))], 10, [(7, B26_4), (8, B26_59), (9, B26_0)], .tup (.cons (.ptr 868 0) (.cons (.int .i64 (.ofNat 0)) (.tag .nil))), 869, [(11, B26_40), (12, B26_41), (13, B26_42), (14, B26_43), (15, B26_1), (16, B26_2), (18, B26_3), (30, B26_4), (31, B26_5), (33, B26_6), (34, B26_33), (35, B26_34), (36, B26_54), (38, B26_55), (39, B26_56), (599, B26_44), (600, B26_19), (601, B26_27), (653, B26_28), (704, B26_36), (712, B26_37), (715, B26_38), (718, B26_39), (739, B26_36), (807, B26_45), (815, B26_46), (818, B26_47), (821, B26_48), (866, B26_57), (867, B26_58), (868, B26_60)]⟩
theorem ev26_10 : (fun ob => ck26_10.is (cpOut su26_9 12 ck26_10 ob)) = fun ob => some ob := by kernel_rfl
noncomputable def su26_10 : Sums := addS 12 (ck26_10.sum tabl) su26_9
theorem su26_10_ok : SumOK Tryz.prog su26_10 := cp_ok su26_9_ok ev26_10 (by kernel_rfl)
end Go.Ev
