/- The cache's laws: how often a frame is held. -/
import Derived.Test.YtmkgdgfbdmjeeaaDoorVqN
namespace Go.Proofs.YtmkgdgfbdmjeeaaDoor
open Go.RowKit Go.Sort
set_option linter.unusedSimpArgs false
set_option linter.unusedVariables false

theorem cntL_take_succ {l : List Nat} {k x f : Nat} (h : l[k]? = some x) : cntL (l.take (k + 1)) f = cntL (l.take k) f + if x = f then 1 else 0 := by
  unfold cntL
  have e : l.take (k + 1) = l.take k ++ [x] := by
    rw [List.take_add_one, h]
    rfl
  rw [e, List.count_append, List.count_singleton]
  by_cases e : x = f
  · subst e; simp
  · simp [e]
set_option maxRecDepth 100000 in
set_option maxHeartbeats 1000000 in
theorem held8_any (B o a c fs m cl ch f : Nat) (w : World) (S : Nat → Prop) (F : List Nd) (s : St8) (Hl Hh : Option Addr) (h : Run8 w B o a c fs m S F s Hl cl Hh ch) (hk : s.h.length ≤ 100000) :
    Calls Tryd.prog 50 #[.pointer (some ⟨o, 0, none⟩), .int .i64 (f : Int)] w fun e w' => e = .returned (.int .i64 (cntL s.h f : Int)) ∧ w = w' := by
  have o4 : w.cell? ⟨o, 4, none⟩ = some (.slice Hh s.h.length ch) := one_block h.self 4
  have hform := h.rowH.form
  have HROW := Lib.hid h.rowH
  obtain ⟨H, hH⟩ : ∃ H, H = s.h := ⟨_, rfl⟩
  rw [← hH] at o4 hform HROW hk ⊢
  clear h hH
  go_enter Tryd.func50, Tryd.ntmps50
  go_wp2_with fail
  go_loopw [5, 6] (fun v i wr => ∃ k : Nat, v = .int .i64 (cntL (H.take k) f : Int) ∧ i = .int .i64 (k : Int) ∧ k ≤ H.length ∧ wr = w) (fun _ i _ => H.length - (intOf i).toNat)
  case atStart => exact ⟨0, rfl, rfl, Nat.zero_le _, rfl⟩
  case round =>
    obtain ⟨k, rfl, rfl, hk2, rfl⟩ := hrel
    by_cases hkl : k < H.length
    · obtain ⟨x, hx⟩ : ∃ x, H[k]? = some x := ⟨H[k], List.getElem?_eq_getElem hkl⟩
      have hcs := cntL_take_succ (f := f) hx
      rcases hform with ⟨_, h2, _⟩ | ⟨g, hg1, _, hg2, hg3⟩
      · rw [h2] at hkl; cases hkl
      subst hg1
      have hcell := HROW.out.elem hx
      have hkc : k < ch := by omega
      have hcb : cntL (H.take k) f ≤ 100000 := by
        unfold cntL
        exact Nat.le_trans List.count_le_length (by rw [List.length_take]; omega)
      have HCS := Lib.hid hcs
      clear hcs hx
      by_cases e : x = f
      · have he : ((x : Int) == (f : Int)) = true := by rw [beq_iff_eq, e]
        have HE := Lib.hid e
        clear e
        go_wp2_with fail
        go_roundw
        case rel => exact ⟨k + 1, by rw [HCS.out, if_pos HE.out]; go_num, by go_num, by omega, trivial⟩
        case measure => (simp [intOf]; omega)
      · have he : ((x : Int) == (f : Int)) = false := by rw [beq_eq_false_iff_ne]; omega
        have HE := Lib.hid e
        clear e
        go_wp2_with fail
        go_roundw
        case rel => exact ⟨k + 1, by rw [HCS.out, if_neg HE.out]; rfl, by go_num, by omega, trivial⟩
        case measure => (simp [intOf]; omega)
    · obtain rfl : k = H.length := by omega
      have HT := Lib.hid (show cntL (H.take H.length) f = cntL H f by rw [List.take_length])
      go_wp2_with fail
      go_ret
      exact ⟨by rw [HT.out]; rfl, rfl⟩

end Go.Proofs.YtmkgdgfbdmjeeaaDoor
