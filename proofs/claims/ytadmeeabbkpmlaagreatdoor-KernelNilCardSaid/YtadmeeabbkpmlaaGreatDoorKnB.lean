/- No kernel: what Do and Run answer, whatever is asked. -/
import Derived.Test.YtadmeeabbkpmlaaGreatDoorKnA
namespace Go.Proofs.YtadmeeabbkpmlaaGreatDoor
open Go.RowKit Go.Sort
set_option linter.unusedSimpArgs false
set_option linter.unusedVariables false

/-- What a call says, as it lies. -/
structure Ask where
  kind : Int
  a : Int
  b : Int
  c : Int
  d : Int
  e : Int
  path : ByteArray
  A : Option Addr
  al : Nat
  ac : Nat
  E : Option Addr
  el : Nat
  ec : Nat
  B : Option Addr
  bl : Nat
  bc : Nat
def Ask.v (x : Ask) : Value := .agg #[.int .u8 x.kind, .int .u64 x.a, .int .u64 x.b, .int .u64 x.c, .int .u64 x.d, .int .u64 x.e, .string x.path, .slice x.A x.al x.ac, .slice x.E x.el x.ec, .slice x.B x.bl x.bc]
/-- Steps, as they lie. -/
structure StepAt (w : World) (b o : Nat) (pid : Int) (x : Ask) : Prop where
  c0 : w.cell? ⟨b, o, none⟩ = some (.int .i64 pid)
  c1 : w.cell? ⟨b, o + 1, none⟩ = some (.int .u8 x.kind)
  c2 : w.cell? ⟨b, o + 2, none⟩ = some (.int .u64 x.a)
  c3 : w.cell? ⟨b, o + 3, none⟩ = some (.int .u64 x.b)
  c4 : w.cell? ⟨b, o + 4, none⟩ = some (.int .u64 x.c)
  c5 : w.cell? ⟨b, o + 5, none⟩ = some (.int .u64 x.d)
  c6 : w.cell? ⟨b, o + 6, none⟩ = some (.int .u64 x.e)
  c7 : w.cell? ⟨b, o + 7, none⟩ = some (.string x.path)
  c8 : w.cell? ⟨b, o + 8, none⟩ = some (.slice x.A x.al x.ac)
  c9 : w.cell? ⟨b, o + 9, none⟩ = some (.slice x.E x.el x.ec)
  c10 : w.cell? ⟨b, o + 10, none⟩ = some (.slice x.B x.bl x.bc)
def StepsAt (w : World) (P : Option Addr) (n : Nat) : Prop := ∀ k, k < n → ∃ b off pid x, P = some ⟨b, off, none⟩ ∧ b < w.heap.size ∧ StepAt w b (off + k * 11) pid x
theorem StepsAt.below {w w' : World} {P : Option Addr} {n : Nat} (h : StepsAt w P n) (hb : Below w.heap.size w w') : StepsAt w' P n := fun k hk => by
  obtain ⟨b, off, pid, x, h1, hl, h2⟩ := h k hk
  have hc : ∀ i, w'.cell? ⟨b, i, none⟩ = w.cell? ⟨b, i, none⟩ := fun i => hb.cell (p := ⟨b, i, none⟩) hl
  have hz := hb.size
  refine ⟨b, off, pid, x, h1, by omega, ?_⟩
  constructor <;> rw [hc]
  · exact h2.c0
  · exact h2.c1
  · exact h2.c2
  · exact h2.c3
  · exact h2.c4
  · exact h2.c5
  · exact h2.c6
  · exact h2.c7
  · exact h2.c8
  · exact h2.c9
  · exact h2.c10
/-- The answer of no kernel. -/
def resC (_ : Unit) : List Value := [.int .i64 2, .int .u64 0, .slice none 0 0]
theorem res_elem : Elem (α := Unit) 26 31 3 40 (.agg #[.int .i64 0, .int .u64 0, .slice none 0 0]) resC where
  und := Tryz.underlying26
  info := by kernel_rfl
  size := rfl
  pos := by decide
  small := by decide
  len := fun _ => rfl
  one := fun _ v hv => by simp [resC] at hv; rcases hv with rfl | rfl | rfl <;> rfl

set_option maxRecDepth 100000 in
set_option maxHeartbeats 2000000 in
theorem do_nil (pid : Int) (x : Ask) (w : World) :
    Calls Tryz.prog 6 #[.pointer none, .int .i64 pid, x.v] w fun e w' => e = .returned (.agg #[.int .i64 2, .int .u64 0, .slice none 0 0]) ∧ Below w.heap.size w w' := by
  unfold Ask.v
  have hb1 : Below w.heap.size w (w.alloc (.cells #[.int .u8 x.kind, .int .u64 x.a, .int .u64 x.b, .int .u64 x.c, .int .u64 x.d, .int .u64 x.e, .string x.path, .slice x.A x.al x.ac, .slice x.E x.el x.ec, .slice x.B x.bl x.bc] 35)) := (Below.refl _ _).alloc (Nat.le_refl _) _
  have HB1 := Lib.hid (hb1.alloc (Nat.le_of_lt (by simp)) (.cells #[.int .i64 2, .int .u64 0, .slice none 0 0] 31))
  clear hb1
  go_enter Tryz.func6, Tryz.ntmps6
  go_wp2_with fail
  have hlt := (show w.heap.size + 1 < ((w.alloc (.cells #[.int .u8 x.kind, .int .u64 x.a, .int .u64 x.b, .int .u64 x.c, .int .u64 x.d, .int .u64 x.e, .string x.path, .slice x.A x.al x.ac, .slice x.E x.el x.ec, .slice x.B x.bl x.bc] 35)).alloc (.cells #[.int .i64 2, .int .u64 0, .slice none 0 0] 31)).heap.size by simp)
  exact bodyPost_ret (v := .agg #[.int .i64 2, .int .u64 0, .slice none 0 0]) (by simp [results, Tryz.results6, go_sem]) rfl ⟨rfl, HB1.out⟩

set_option maxRecDepth 100000 in
set_option maxHeartbeats 4000000 in
theorem run_nil (P : Option Addr) (n cap : Nat) (w : World) (hl : StepsAt w P n) (hn : n ≤ 200) :
    Calls Tryz.prog 5 #[.pointer none, .slice P n cap] w fun e w' => ∃ R cap', e = .returned (.slice R n cap') ∧ OwnG 31 3 resC w' w.heap.size R cap' (List.replicate n ()) ∧ Below w.heap.size w w' := by
  have HL := Lib.hid hl
  clear hl
  go_enter Tryz.func5, Tryz.ntmps5
  go_wp2_with fail
  go_loopw [5, 10] (fun v i wr => ∃ (k : Nat) (R : Option Addr) (c : Nat), k ≤ n ∧ i = .int .i64 (k : Int) ∧ v = .slice R k c ∧ OwnG 31 3 resC wr w.heap.size R c (List.replicate k ()) ∧ Below w.heap.size w wr) (fun _ i _ => n - (intOf i).toNat)
  case atStart => exact ⟨0, none, 0, by omega, rfl, rfl, OwnG.nil _ _, Below.refl _ _⟩
  case round =>
    obtain ⟨k, R, c, hk, rfl, rfl, hO, hbe⟩ := hrel
    have HO := Lib.hid hO
    have HBE := Lib.hid hbe
    clear hO hbe
    by_cases hlt : k < n
    · obtain ⟨b, off, pid, x, rfl, hbl, ⟨c0, c1, c2, c3, c4, c5, c6, c7, c8, c9, c10⟩⟩ := (HL.out.below HBE.out) k hlt
      have hkn : (k : Int) < (n : Int) := by omega
      go_wp2_with (first
        | (go_at_call 6; refine (do_nil pid x _).mono ?_; rintro e w2 ⟨rfl, hb2⟩; have HO2 := Lib.hid ((((HO.out.alloc (.cells #[.int .i64 pid, .int .u8 x.kind, .int .u64 x.a, .int .u64 x.b, .int .u64 x.c, .int .u64 x.d, .int .u64 x.e, .string x.path, .slice x.A x.al x.ac, .slice x.E x.el x.ec, .slice x.B x.bl x.bc] 37)).kept hb2).alloc (.cells (resC ()).toArray 31))); have HB2 := Lib.hid (((HBE.out.alloc HBE.out.size (.cells #[.int .i64 pid, .int .u8 x.kind, .int .u64 x.a, .int .u64 x.b, .int .u64 x.c, .int .u64 x.d, .int .u64 x.e, .string x.path, .slice x.A x.al x.ac, .slice x.E x.el x.ec, .slice x.B x.bl x.bc] 37)).trans (hb2.mono (Nat.le_trans HBE.out.size (by simp))))); clear hb2)
        | (at_builtin; refine app_gen res_elem rfl (.tmp 14) (.tmp 21) rfl w.heap.size R c k (List.replicate k ()) (by simp) rfl HO2.out () w2.heap.size 1 rfl (heap_alloc_new _ _) (by omega) (by have := HB2.out.size; simp; omega) ?_; intro g cap' w4 ho4 hg4 hat4 hlt4; have HO4 := Lib.hid ho4; have HB4 := Lib.hid (HB2.out.trans (((Below.refl w.heap.size w2).alloc HB2.out.size (.cells (resC ()).toArray 31)).grown hg4 (by have := HB2.out.size; simp; omega) (fun b hb => by rcases HO.out.form with ⟨e, _⟩ | ⟨g1, e, h1, _⟩ <;> rw [e] at hb <;> simp at hb <;> omega))); clear ho4 hg4 hat4)
        | fail)
      go_roundw
      case rel => exact ⟨k + 1, some ⟨g, 0, none⟩, cap', by omega, by go_num, rfl, by rw [List.replicate_succ']; exact HO4.out, HB4.out⟩
      case measure => simp [intOf]; omega
    · obtain rfl : k = n := by omega
      go_wp2_with fail
      go_ret
      exact ⟨R, c, rfl, HO.out, HBE.out⟩

end Go.Proofs.YtadmeeabbkpmlaaGreatDoor
