/- The cache's laws: a row's number at a place, counted round. -/
import Derived.Test.YtmkgdgfbdmjeeaaDoorVqH
import Derived.Test.YtmkgdgfbdmjeeaaDoorTsB
namespace Go.Proofs.YtmkgdgfbdmjeeaaDoor
open Go.RowKit Go.Sort
set_option linter.unusedSimpArgs false
set_option linter.unusedVariables false

theorem at8_no (A : Option Addr) (cap : Nat) (l : List Nat) (n : Int) (w : World) (hn : pick l n = none) :
    Calls Tryd.prog 85 #[.slice A l.length cap, .int .i64 n] w fun e w' => e = .returned (.tuple #[.int .i64 0, .bool false]) ∧ w = w' := by
  by_cases h0 : l.length = 0
  · rw [h0]
    clear hn h0
    go_enter Tryd.func85, Tryd.ntmps85
    go_wp2_with fail
    go_ret2
    exact ⟨rfl, rfl⟩
  · have h1 : n < 0 := (pick_none hn).elim id fun e => by rw [e] at h0; exact absurd rfl h0
    clear hn
    generalize l.length = k at h0 ⊢
    have h2 : ((k : Int) == 0) = false := by rw [beq_eq_false_iff_ne]; omega
    clear h0
    go_enter Tryd.func85, Tryd.ntmps85
    go_wp2_with fail
    go_ret2
    exact ⟨rfl, rfl⟩
theorem at8_yes (base : Nat) (A : Option Addr) (cap f : Nat) (n : Int) (l : List Nat) (w : World) (h : OwnN w base A cap l) (hf : pick l n = some f) :
    Calls Tryd.prog 85 #[.slice A l.length cap, .int .i64 n] w fun e w' => e = .returned (.tuple #[.int .i64 (f : Int), .bool true]) ∧ w = w' := by
  obtain ⟨hn0, hl0, hfi⟩ := pick_some hf
  rcases h.form with ⟨_, h2, _⟩ | ⟨g, rfl, _, _, hc⟩
  · subst h2; cases hl0
  obtain ⟨i, hi⟩ : ∃ i, i = n.toNat % l.length := ⟨_, rfl⟩
  rw [← hi] at hfi
  have hcell := h.elem hfi
  have hil : i < l.length := (List.getElem?_eq_some_iff.1 hfi).1
  have hrem : n.tmod (l.length : Int) = (i : Int) := by
    obtain ⟨N, rfl⟩ := Int.eq_ofNat_of_zero_le hn0
    rw [hi]
    rfl
  have hii : (i : Int) < (l.length : Int) := by omega
  have hpos : ((l.length : Int) == 0) = false := by rw [beq_eq_false_iff_ne]; omega
  have hneg : decide (n < 0) = false := by rw [decide_eq_false_iff_not]; omega
  clear h hf hfi hi hl0 hn0
  generalize l.length = k at *
  go_enter Tryd.func85, Tryd.ntmps85
  go_wp2_with fail
  go_ret2
  exact ⟨rfl, rfl⟩

end Go.Proofs.YtmkgdgfbdmjeeaaDoor
