/- The cache's laws: Get at any page of any files; does: get. -/
import Derived.Test.YtmkgdgfbdmjeeaaDoorVqF
import Derived.StillTailTactics
namespace Go.Proofs.YtmkgdgfbdmjeeaaDoor
open Go.RowKit Go.Sort
set_option linter.unusedSimpArgs false
set_option linter.unusedVariables false

theorem readR_few (F : List Nd) (ino : Int) (off : Nat) : (readR F ino off).2.1 ≤ 4096 := by
  unfold readR
  repeat' split
  all_goals (simp only []; omega)
theorem readR_byte {F : List Nd} (hF : ∀ (i : Nat) (y : Nd), F[i]? = some y → ∀ j, y.dat j < 256) (ino : Int) (off i : Nat) : (readR F ino off).2.2 i < 256 := by
  have h0 : (0 : Nat) < 256 := by decide
  unfold readR
  split
  · exact h0
  · split
    · exact h0
    · next y hy =>
      split
      · exact h0
      · split
        · exact hF _ y hy _
        · exact h0
/-- What the files hold are bytes. -/
def BytesF (F : List Nd) : Prop := ∀ (i : Nat) (y : Nd), F[i]? = some y → ∀ j, y.dat j < 256
theorem cget_any (B1 nb c2 c a fs m : Nat) (ad mp : Nat → Nat) (F : List Nd) (ino page clock : Int) (w : World) (S : Nat → Prop) (p : Pool) (L : List Slot) (h : CacheAt w S c a fs m clock p L) (hF : FsIs w B1 fs nb c2 ad mp F) (hby : BytesF F) (hi : (Lit.int .i64 ino).wf = true) (hck : 0 ≤ clock ∧ clock < 1000000) :
    Calls Tryd.prog 36 #[.pointer (some ⟨c, 0, none⟩), .int .i64 ino, .int .i64 page] w (GetPost w S c a fs m ino page (pageR F ino page).1 (pageR F ino page).2.1 (pageR F ino page).2.2 clock p L) := by
  by_cases hp : page < 0 ∨ 16 ≤ page
  · exact get_bad c a fs m _ ino page _ clock _ w S p L h hp
  have hrd := read_is (ino := ino) (off := (page * 4096).toNat) hF (by omega)
  rw [show (((page * 4096).toNat : Nat) : Int) = page * 4096 by omega] at hrd
  have hrd' : ReadIs w fs ino (page * 4096) (pageR F ino page).1 (pageR F ino page).2.1 (pageR F ino page).2.2 := hrd
  have hk := readR_few F ino (page * 4096).toNat
  have hd := readR_byte hby ino (page * 4096).toNat
  have hk' : (pageR F ino page).2.1 ≤ 4096 := hk
  have hd' : ∀ i, (pageR F ino page).2.2 i < 256 := hd
  clear hrd hk hd
  generalize pageR F ino page = R at hrd' hk' hd' ⊢
  by_cases hr : R.1 = 0
  · rw [hr] at hrd' ⊢
    cases hs : L.find? (Slot.at ino page) with
    | none => exact get_new c a fs m _ ino page 0 clock _ w S p L h (by omega) (by omega) hi hrd' hd' hk' hck hs
    | some s => exact get_hit c a fs m _ ino page 0 clock _ w S p L h (by omega) (by omega) hi hrd' hck s hs
  · exact get_err c a fs m _ ino page _ clock _ w S p L h (by omega) (by omega) hrd' (by rw [bne_iff_ne]; exact hr)

def Does8Post (w : World) (B o a c fs m : Nat) (S : Nat → Prop) (Hl Hh : Option Addr) (F : List Nd) (op : Op8) (s : St8) (e : Ending) (w' : World) : Prop :=
  e = .returned (.tuple #[]) ∧ (∃ s' S' Hl' cl' Hh' ch', Run8 w' B o a c fs m S' F s' Hl' cl' Hh' ch' ∧ Do8 F op s s' ∧ Stay8 B (Foot8 S o c m Hl Hh) (Foot8 S' o c m Hl' Hh') w w')

set_option maxRecDepth 100000 in
set_option maxHeartbeats 4000000 in
theorem does8_get (B o a c fs m n k cl ch : Nat) (ino page N : Int) (w : World) (S : Nat → Prop) (F : List Nd) (s : St8) (ext : Nat → Nat) (Hl Hh : Option Addr) (h : Run8 w B o a c fs m S F s Hl cl Hh ch) (hf : s.Fine F ext n k) (hk : k ≤ 100000) (hby : BytesF F) (hi : (Lit.int .i64 ino).wf = true) :
    Calls Tryd.prog 48 #[.pointer (some ⟨o, 0, none⟩), .agg #[.int .i64 0, .int .i64 ino, .int .i64 page, .int .i64 N]] w (Does8Post w B o a c fs m S Hl Hh F ⟨0, ino, page, N⟩ s) := by
  obtain ⟨l1, l2, l3, l4⟩ := h.lts
  have hBw := h.base
  obtain ⟨w0, hw0⟩ : ∃ w0, w0 = w.alloc (.cells #[.int .i64 (0), .int .i64 ino, .int .i64 page, .int .i64 N] 97) := ⟨_, rfl⟩
  have hB0 : Below w.heap.size w w0 := (by rw [hw0]; exact (Below.refl _ _).alloc (Nat.le_refl _) _)
  have hE0 : w0.heap[w.heap.size]? = some (.cells #[.int .i64 (0), .int .i64 ino, .int .i64 page, .int .i64 N] 97 (0, 0)) := (by rw [hw0]; exact heap_alloc_new w _)
  have e0 : w0.cell? ⟨w.heap.size, 0, none⟩ = some (.int .i64 (0)) := one_block hE0 0
  have e1 : w0.cell? ⟨w.heap.size, 1, none⟩ = some (.int .i64 ino) := one_block hE0 1
  have e2 : w0.cell? ⟨w.heap.size, 2, none⟩ = some (.int .i64 page) := one_block hE0 2
  have e3 : w0.cell? ⟨w.heap.size, 3, none⟩ = some (.int .i64 N) := one_block hE0 3
  have o0 : w0.cell? ⟨o, 0, none⟩ = some (.pointer (some ⟨a, 0, none⟩)) := (hB0.cell (p := ⟨o, 0, none⟩) l1).trans (one_block h.self 0)
  have o2 : w0.cell? ⟨o, 2, none⟩ = some (.pointer (some ⟨c, 0, none⟩)) := (hB0.cell (p := ⟨o, 2, none⟩) l1).trans (one_block h.self 2)
  have o3 : w0.cell? ⟨o, 3, none⟩ = some (.slice Hl s.l.length cl) := (hB0.cell (p := ⟨o, 3, none⟩) l1).trans (one_block h.self 3)
  have o4 : w0.cell? ⟨o, 4, none⟩ = some (.slice Hh s.h.length ch) := (hB0.cell (p := ⟨o, 4, none⟩) l1).trans (one_block h.self 4)
  have hz0 := hB0.size
  have hdr : Below w.heap.size w w0.drew := hB0.drew
  have hzf := hf.few
  have HRUN := Lib.hid h
  have HW0 := Lib.hid hw0
  have HB0 := Lib.hid hB0
  have HF := Lib.hid hf
  clear h hw0 hB0 hf hE0
  obtain ⟨B1, nb, c2, ad, mp, hFs⟩ := HRUN.out.fs (hdr.mono hBw)
  have hget := cget_any B1 nb c2 c a fs m ad mp F ino page s.clock w0.drew S s.p s.L (HRUN.out.cache.below hdr) hFs hby hi ⟨by omega, by omega⟩
  have hget2 : Calls Tryd.prog 36 #[.pointer (some ⟨c, 0, none⟩), .int .i64 ino, .int .i64 page] w0.drew fun e w1 => ∃ r f p' L' clock' S', e = .returned (.tuple #[.int .i64 (f : Nat), .int .i64 r]) ∧ Hid (Run8 w1 B o a c fs m S' F ⟨p', L', clock', s.l, s.h⟩ Hl cl Hh ch) ∧ Hid (Stay8 B (Foot8 S o c m Hl Hh) (Foot8 S' o c m Hl Hh) w w1) ∧ Hid (GetF F ino page s.p s.L s.clock r f p' L' clock') := by
    refine hget.mono ?_
    rintro e w1 ⟨r, f, p', L', clock', S', rfl, hC1, hm1', ho1', hres⟩
    have hm1 : Mod (fun b => S b ∨ b = m ∨ b = c) w0 w1 := hm1'.undrew
    obtain ⟨hrun1, hbel1⟩ := HRUN.out.turn HB0.out hC1 hm1 ho1'
    exact ⟨r, f, p', L', clock', S', rfl, Lib.hid hrun1, Lib.hid hbel1, Lib.hid hres⟩
  have HG := Lib.hid hget2
  clear hget hget2 hFs
  go_enter Tryd.func48, Tryd.ntmps48
  go_upto_region 1 with (fail)
  rw [← HW0.out]
  go_upto_region 3 with (fail)
  go_region_with ((first
    | (go_at_call 36; refine (HG.out).mono ?_; rintro e w1 ⟨r, f, p', L', clock', S', rfl, HR1, HBL1, HRES⟩)))
  all_goals
    clear e0 e1 e2 e3 o0 o2 o3 o4
    by_cases hr0 : r = 0
    rotate_left
    · have hne : (r == 0) = false := by rw [beq_eq_false_iff_ne]; exact hr0
      have HR0 := Lib.hid hr0
      clear hr0
      go_wp2_with fail
      refine bodyPost_ret (results_none rfl _ _ _) rfl ?_
      exact ⟨rfl, ⟨_, S', Hl, cl, Hh, ch, HR1.out, by have h9 := Do8.get (o := ⟨0, ino, page, N⟩) (s := s) r f p' L' clock' rfl HRES.out; rw [if_neg HR0.out] at h9; exact h9, HBL1.out⟩⟩
    · subst hr0
      obtain ⟨q1, q2, q3, q4⟩ := HR1.out.lts
      have v3 : w1.cell? ⟨o, 3, none⟩ = some (.slice Hl s.l.length cl) := one_block HR1.out.self 3
      have v4 := one_free HR1.out.self 3
      have hb13 : Below w1.heap.size w1 (w1.alloc (.cells #[.int .i64 (f : Int)] 3)) := (Below.refl _ _).alloc (Nat.le_refl _) _
      have hBl := HR1.out.base
      have HB13 := Lib.hid hb13
      have hlen : s.l.length < 1000000 := by omega
      clear hb13
      go_wp2_with (first
        | (at_builtin; refine app_int rfl (.tmp 37) (.tmp 39) rfl B Hl cl s.l rfl (HR1.out.rowL.alloc _) f w1.heap.size 1 rfl (heap_alloc_new _ _) hlen (by simp; omega) ?_; intro g' cap' w4 ho4 hg4 hat4 hlt4; have hO4 := (HR1.out.farL HB13.out hg4).trans HR1.out.self; have p1 : w4.cell? ⟨o, 3, none⟩ = some (.slice Hl s.l.length cl) := one_block hO4 3; have p2 := one_free hO4 3; have HPU := Lib.hid (Run8.pushL (f := f) HR1.out HB13.out ho4 hg4 hat4 hlt4); clear hO4 ho4 hg4 hat4)
        | fail)
      refine bodyPost_ret (results_none rfl _ _ _) rfl ?_
      exact ⟨rfl, ⟨_, S', _, _, Hh, ch, HPU.out.1, by have h9 := Do8.get (o := ⟨0, ino, page, N⟩) (s := s) 0 f p' L' clock' rfl HRES.out; rw [if_pos rfl] at h9; exact h9, HBL1.out.trans HPU.out.2⟩⟩

end Go.Proofs.YtmkgdgfbdmjeeaaDoor
