/- Regions: Copy of the references; roomy, kept, own of the statements. -/
import Derived.Test.YtdkhgofnhemhmaaRegD
namespace Go.Proofs.Ytdkhgofnhemhmaa
open Go.RowKit Go.Sort
set_option linter.unusedSimpArgs false
set_option linter.unusedVariables false

def r77 : Reg := ⟨77, 0, 0, 0, 0⟩

theorem OwnR.rsl' {w : World} {base : Nat} {A : Option Addr} {cap : Nat} {l m : List Reg} (h : OwnR w base A cap (l ++ m)) (hf : l.length + m.length ≤ 1000000) : RSl w w.heap.size A l.length cap l := by
  have h' := h.rsl (by simpa using hf)
  exact ⟨rfl, by have := h'.cap; simp at this; omega, by omega, fun k r hr => h'.at_ k r (by
    rw [List.getElem?_append_left ((List.getElem?_eq_some_iff.1 hr).1)]
    exact hr)⟩

set_option maxHeartbeats 400000 in
theorem copy_any (A : Option Addr) (n cap : Nat) (w : World) (l : List Reg) (hl : RSl w w.heap.size A n cap l) :
    Calls Try.prog 31 #[.slice A n cap] w fun e w' => ∃ A' cap', e = .returned (.slice A' n cap') ∧ OwnR w' w.heap.size A' cap' l ∧ Below w.heap.size w w' := by
  obtain ⟨i0, hi0, hz0, hz1, hz2⟩ := info_parts reg_info
  have hlen := Lib.hid hl.len
  have hn := hl.few
  rcases A with _ | ⟨b, off, sp⟩
  · have h0 : l = [] := by
      cases l with
      | nil => rfl
      | cons r l =>
        obtain ⟨b, off, he, _⟩ := hl.at_ 0 r rfl
        cases he
    subst h0
    obtain rfl : n = 0 := by have := hl.len; simp at this; omega
    go_enter Try.func31, Try.ntmps31
    go_wp2
    go_ret
    exact ⟨none, 0, rfl, OwnR.nil _ _, Below.refl _ _⟩
  · have hcells : ∀ j u, (rcs l)[j]? = some u → w.cell? ((⟨b, off, sp⟩ : Addr).add j) = some u := by
      intro j u hu
      cases l with
      | nil => simp [rcs] at hu
      | cons r l =>
        obtain ⟨b', off', he, _⟩ := hl.at_ 0 r rfl
        injection he with he
        rw [he] at hl ⊢
        exact hl.cells j u hu
    have HC := Lib.hid hcells
    clear hcells
    have hlen5 : (rcs l).length = n * 5 := by rw [rcs_length, hl.len]
    have HL := Lib.hid hlen5
    clear hlen5 hl
    go_enter Try.func31, Try.ntmps31
    go_wp2_with (at_builtin; refine wpList_append_own_at w rfl (.tmp 4) (.tmp 5) 22 rfl w.heap.size 25 i0 _ 5 40 Try.underlying22 hi0 hz0 hz1 hz2 rfl (by omega) (.slice none 0 0) 0 [] rfl (World.ownsRow_nil _ _ _ _) ⟨b, off, sp⟩ n cap (rcs l) rfl HL.out HC.out (rcs_one_cell l) (by unfold maxLen; omega) (by omega) (Nat.le_refl _) ?_; intro v1 w1 hown1 hg1 hnil1 hat1)
    have hown2 : ∃ A' cap', v1 = .slice A' n cap' := by
      rcases hown1.2 with ⟨h1, h2⟩ | ⟨g, cap', cur, h1, _⟩
      · exact ⟨none, 0, by rw [h1]; congr 1; omega⟩
      · exact ⟨_, cap', by rw [h1]; congr 1; omega⟩
    obtain ⟨A', cap', rfl⟩ := hown2
    go_ret
    refine ⟨A', cap', rfl, ?_, ?_⟩
    · unfold OwnR
      rw [hlen.out]
      simpa using hown1
    · exact (Below.refl _ _).grown hg1 (Nat.le_refl _) (by simp [Value.ownBlock])

/-- The rows that the statements hand in: with one more behind, in the same memory. -/
def Roomy (w : World) (base : Nat) (A : Option Addr) (cap : Nat) (l : List Reg) : Prop := OwnR w base A cap (l ++ [r77])

theorem Roomy.rsl {w : World} {base : Nat} {A : Option Addr} {cap : Nat} {l : List Reg} (h : Roomy w base A cap l) (hf : l.length ≤ 300) : RSl w w.heap.size A l.length cap l :=
  OwnR.rsl' h (by simp; omega)
theorem Roomy.form {w : World} {base : Nat} {A : Option Addr} {cap : Nat} {l : List Reg} (h : Roomy w base A cap l) : ∃ g, A = some ⟨g, 0, none⟩ ∧ base ≤ g ∧ g < w.heap.size ∧ l.length + 1 ≤ cap := by
  rcases OwnR.form h with ⟨_, h2, _⟩ | ⟨g, h1, h2, h3, h4⟩
  · simp at h2
  · exact ⟨g, h1, h2, h3, by simpa using h4⟩

set_option maxHeartbeats 400000 in
theorem roomy_any (A : Option Addr) (n cap : Nat) (w : World) (l : List Reg) (hl : RSl w w.heap.size A n cap l) (hf : n ≤ 300) :
    Calls Try.prog 11 #[.slice A n cap] w fun e w' => ∃ A' cap', e = .returned (.slice A' n cap') ∧ Roomy w' w.heap.size A' cap' l ∧ Below w.heap.size w w' := by
  have hlen := Lib.hid hl.len
  go_enter Try.func11, Try.ntmps11
  go_wp2_with (first
    | (go_at_call 31; refine (copy_any _ _ _ _ l hl).mono ?_; rintro e w1 ⟨A1, c1, rfl, ho1, hb1⟩; have hz1 := hb1.size)
    | (at_builtin; refine app_reg rfl (.tmp 6) (.tmp 8) rfl w.heap.size A1 c1 l (by rw [hlen.out]; rfl) (ho1.alloc _) r77 w1.heap.size 1 rfl (heap_alloc_new w1 _) (by rw [hlen.out]; omega) (by simp; omega) ?_; intro g cap' w2 ho2 hg2 hat2 hlt2; rw [hlen.out]; have hcap : n ≤ cap' := (by obtain ⟨_, _, _, _, h⟩ := (ho2.form).resolve_left (by simp); have := hlen.out; simp at h; omega)))
  go_ret
  refine ⟨some ⟨g, 0, none⟩, cap', rfl, ho2, ?_⟩
  refine (((Below.refl _ _).trans hb1).alloc (by omega) _).grown hg2 (by simp; omega) (fun k hk => ?_)
  rcases ho1.form with ⟨h1, _, _⟩ | ⟨g1, h1, h2, h3, h4⟩
  · rw [h1] at hk; simp at hk
  · rw [h1] at hk; simp at hk; omega

theorem r77_at {w : World} {base : Nat} {g cap : Nat} {l : List Reg} (h : Roomy w base (some ⟨g, 0, none⟩) cap l) (hf : l.length ≤ 300) : RegAt w g (l.length * 5) r77 := by
  have h1 := OwnR.rsl h (by simp; omega)
  obtain ⟨b, off, he, _, hr⟩ := h1.at_ l.length r77 (by simp)
  obtain ⟨rfl, rfl⟩ : b = g ∧ off = 0 := by simpa [eq_comm] using he
  simpa using hr

set_option maxHeartbeats 400000 in
theorem kept_any (A B : Option Addr) (n c1 c2 m : Nat) (w : World) (base : Nat) (l k : List Reg) (hin : Roomy w base A c1 l) (hn : l.length = n) (hf : n ≤ 300) (hk : RSl w w.heap.size B m c2 k) :
    Calls Try.prog 18 #[.slice A n c1, .slice B m c2] w fun e w' => e = .returned (.bool (decide (l = k))) ∧ Below w.heap.size w w' := by
  obtain ⟨g, rfl, hg1, hg2, hg3⟩ := hin.form
  have hn' : n + 1 ≤ c1 := by omega
  have hrs := hin.rsl (by omega)
  rw [hn] at hrs
  have he := run_eql_reg
  have r7 := r77_at hin (by omega)
  have hE := eq_any (some ⟨g, 0, none⟩) B n m c1 c2 w l k hrs hk
  have HE := Lib.hid hE
  rw [hn] at r7
  obtain ⟨q0, q1, q2, q3, q4⟩ := r7
  have H0 := Lib.hid hn
  clear hE hn
  cases hd : decide (l = k) with
  | true =>
    have HD := Lib.hid hd
    clear hd
    go_enter Try.func18, Try.ntmps18
    go_wp2_with (go_at_call 21; refine (HE.out).mono ?_; rintro e w1 ⟨rfl, hb⟩; rw [HD.out]; have d0 := (hb.cell (p := ⟨g, n * 5, none⟩) hg2).trans q0; have d1 := (hb.cell (p := ⟨g, n * 5 + 1, none⟩) hg2).trans q1; have d2 := (hb.cell (p := ⟨g, n * 5 + 2, none⟩) hg2).trans q2; have d3 := (hb.cell (p := ⟨g, n * 5 + 3, none⟩) hg2).trans q3; have d4 := (hb.cell (p := ⟨g, n * 5 + 4, none⟩) hg2).trans q4; simp only [r77] at d0 d1 d2 d3 d4)
    all_goals go_ways
    go_ret
    exact ⟨ret_bool (by simp [regEq]), by ((repeat' (with_reducible (first | assumption | (refine Below.alloc ?_ ?_ _) | (refine Below.setCell ?_ ?_ _) | (refine Below.drew ?_) | (refine below_drewN ?_ _) | exact Below.refl _ _ | (refine Below.trans ?_ (Below.mono (by assumption) ?_))))) <;> (try simp) <;> (try omega))⟩
  | false =>
    have HD := Lib.hid hd
    clear hd
    go_enter Try.func18, Try.ntmps18
    go_wp2_with (go_at_call 21; refine (HE.out).mono ?_; rintro e w1 ⟨rfl, hb⟩; rw [HD.out])
    go_ret
    exact ⟨ret_bool (by simp), by ((repeat' (with_reducible (first | assumption | (refine Below.alloc ?_ ?_ _) | (refine Below.setCell ?_ ?_ _) | (refine Below.drew ?_) | (refine below_drewN ?_ _) | exact Below.refl _ _ | (refine Below.trans ?_ (Below.mono (by assumption) ?_))))) <;> (try simp) <;> (try omega))⟩

end Go.Proofs.Ytdkhgofnhemhmaa
