/- Checkpoints of works (24). -/
import Derived.Test.YtcekdkeeoghipaaGreatDoorPad
set_option linter.unusedSimpArgs false
set_option linter.unusedVariables false
namespace Go.Ev
set_option maxRecDepth 100000
open Go.RowKit Go.Proofs Go.Proofs.YtcekdkeeoghipaaGreatDoor
def B24_52 : Blk := .cells (.lit 2 [(.ptr 38 0), (.tag .nils)]) 123 false false
def B24_53 : Blk := .cells (.lit 2 [(.ptr 38 0), (.sl 1202 0 1 1)]) 123 false false
def B24_54 : Blk := .cells (.lit 64 [(.bool false), (.int .i64 (.ofNat 0)), (.int .i64 (.ofNat 0)), (.bool false), (.bool false), (.int .i64 (.ofNat 0)), (.int .i64 (.ofNat 0)), (.bool false), (.bool false), (.int .i64 (.ofNat 0)), (.int .i64 (.ofNat 0)), (.bool false), (.bool false), (.int .i64 (.ofNat 0)), (.int .i64 (.ofNat 0)), (.bool false), (.bool false), (.int .i64 (.ofNat 0)), (.int .i64 (.ofNat 0)), (.bool false), (.bool false), (.int .i64 (.ofNat 0)), (.int .i64 (.ofNat 0)), (.bool false), (.bool false), (.int .i64 (.ofNat 0)), (.int .i64 (.ofNat 0)), (.bool false), (.bool false), (.int .i64 (.ofNat 0)), (.int .i64 (.ofNat 0)), (.bool false), (.bool false), (.int .i64 (.ofNat 0)), (.int .i64 (.ofNat 0)), (.bool false), (.bool false), (.int .i64 (.ofNat 0)), (.int .i64 (.ofNat 0)), (.bool false), (.bool false), (.int .i64 (.ofNat 0)), (.int .i64 (.ofNat 0)), (.bool false), (.bool false), (.int .i64 (.ofNat 0)), (.int .i64 (.ofNat 0)), (.bool false), (.bool false), (.int .i64 (.ofNat 0)), (.int .i64 (.ofNat 0)), (.bool false), (.bool false), (.int .i64 (.ofNat 0)), (.int .i64 (.ofNat 0)), (.bool false), (.bool false), (.int .i64 (.ofNat 0)), (.int .i64 (.ofNat 0)), (.bool false), (.bool false), (.int .i64 (.ofNat 0)), (.int .i64 (.ofNat 0)), (.bool false)]) 207 false false
def B24_55 : Blk := .cells (.cat 10 (.lit 1 [(.ptr 768 0)]) (.cat 9 (.lit 5 [(.int .u32 (.ofNat 0)), (.int .u32 (.ofNat 0)), (.int .u32 (.ofNat 0)), (.int .u32 (.ofNat 0)), (.tag .nils)]) (.lit 4 [(.ptr 43 0), (.int .u64 (.ofNat 4259840)), (.int .u64 (.ofNat 140737488350992)), (.bool false)]))) 53 false false
def B24_56 : Blk := .cells (.lit 4 [(.ptr 44 0), (.int .i64 (.ofNat 1)), (.int .i64 (.ofNat 0)), (.int .u64 (.ofNat 0))]) 126 false false
def B24_57 : Blk := .cells (.lit 1 [(.ptr 1201 0)]) 124 false false
/- procs.Table).Begin -/
def ck24_9 : Cp := ⟨[(.ptr 39 0), (.agg (.cons (.int .u32 (.ofNat 0)) (.cons (.int .u32 (.ofNat 0)) (.cons (.int .u32 (.ofNat 0)) (.cons (.int .u32 (.ofNat 0)) (.cons (.tag .nils) (.tag .nil))))))), (.str [47, 97]), (.sl 40 0 0 0), (.sl 41 0 0 0)], 42, [(14, B24_0), (15, B24_1), (17, B24_2), (29, B24_3), (30, B24_4), (32, B24_5), (33, B24_48), (34, B24_49), (35, B24_50), (36, B24_51), (37, B24_15), (38, B24_16), (39, B24_52), (40, B24_6), (41, B24_6)], .tup (.cons (.int .i64 (.ofNat 1)) (.cons (.int .i64 (.ofNat 0)) (.tag .nil))), 1203, [(33, B24_39), (34, B24_40), (35, B24_41), (36, B24_42), (37, B24_32), (38, B24_33), (39, B24_53), (43, B24_54), (44, B24_55), (766, B24_43), (767, B24_18), (768, B24_26), (988, B24_27), (1039, B24_35), (1047, B24_36), (1050, B24_37), (1053, B24_38), (1074, B24_35), (1142, B24_44), (1150, B24_45), (1153, B24_46), (1156, B24_47), (1201, B24_56), (1202, B24_57)]⟩
theorem ev24_9 : (fun ob => ck24_9.is (cpOut su24_8 17 ck24_9 ob)) = fun ob => some ob := by kernel_rfl
noncomputable def su24_9 : Sums := addS 17 (ck24_9.sum tabl) su24_8
theorem su24_9_ok : SumOK Tryz.prog su24_9 := cp_ok su24_8_ok ev24_9 (by kernel_rfl)
def B24_58 : Blk := .cells (.lit 7 [(.str [47, 97]), (b8 1), (.int .u16 (.ofNat 493)), (.int .u32 (.ofNat 0)), (.int .u32 (.ofNat 0)), (.slo 6 0 8193 0), (.str [])]) 119 false false
def B24_59 : Blk := .cells (.lit 4 [(.ptr 36 0), (.ptr 38 0), (.ptr 39 0), (.int .i64 (.ofNat 0))]) 148 false false
/- hostellaw24.begun -/
def ck24_10 : Cp := ⟨[(.agg (.cons (.sl 7 0 1 1) (.cons (.int .u32 (.ofNat 0)) (.cons (.int .u32 (.ofNat 0)) (.cons (.int .u32 (.ofNat 0)) (.cons (.int .u32 (.ofNat 0)) (.cons (.tag .nils) (.cons (.str [47, 97]) (.cons (.tag .nils) (.cons (.tag .nils) (.cons (.int .i64 (.ofNat 100)) (.tag .nil))))))))))))], 8, [(6, B24_3), (7, B24_58)], .ptr 1203 0, 1204, [(14, B24_0), (15, B24_1), (17, B24_2), (29, B24_3), (30, B24_4), (32, B24_5), (33, B24_39), (34, B24_40), (35, B24_41), (36, B24_42), (37, B24_32), (38, B24_33), (39, B24_53), (43, B24_54), (44, B24_55), (766, B24_43), (767, B24_18), (768, B24_26), (988, B24_27), (1039, B24_35), (1047, B24_36), (1050, B24_37), (1053, B24_38), (1074, B24_35), (1142, B24_44), (1150, B24_45), (1153, B24_46), (1156, B24_47), (1201, B24_56), (1202, B24_57), (1203, B24_59)]⟩
theorem ev24_10 : (fun ob => ck24_10.is (cpOut su24_9 58 ck24_10 ob)) = fun ob => some ob := by kernel_rfl
noncomputable def su24_10 : Sums := addS 58 (ck24_10.sum tabl) su24_9
theorem su24_10_ok : SumOK Tryz.prog su24_10 := cp_ok su24_9_ok ev24_10 (by kernel_rfl)
end Go.Ev
