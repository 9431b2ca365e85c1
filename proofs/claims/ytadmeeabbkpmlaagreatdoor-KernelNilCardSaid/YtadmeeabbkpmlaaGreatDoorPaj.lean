/- hostellaw26.Works, evaluated. hostellaw26.Works, as a contract; the law's whole contract. -/
import Derived.Test.YtadmeeabbkpmlaaGreatDoorPai
import Derived.Test.YtadmeeabbkpmlaaGreatDoorKnC
set_option linter.unusedSimpArgs false
set_option linter.unusedVariables false
namespace Go.Ev
set_option maxRecDepth 100000
open Go.RowKit Go.Proofs Go.Proofs.YtadmeeabbkpmlaaGreatDoor
variable {R : Rho} {m : Mem} {w : World}

noncomputable def wOut (ob : Obj) : Option (AEnd × Mem) := (evC Tryz.prog su26_19 100000).call 4 [] (m0t ob)
/-- **hostellaw26.Works, evaluated.** -/
theorem w_eval : (fun ob => resOf (wOut ob)) = fun ob => some ob := by kernel_rfl
theorem wOut_eq (ob : Obj) : wOut ob = (evC Tryz.prog su26_19 100000).call 4 [] (m0t ob) := by delta wOut; exact Eq.refl _
theorem w_out (ob : Obj) : ∃ m l, (ev Tryz.prog su26_19 100000).call 4 [] (m0t ob) = some (.ret (.bool true), m) ∧ m.get 1 = .yes (.tab l ob) := by
  rw [← evC_eq, ← wOut_eq]
  exact resOf_spec (congrFun w_eval ob)
end Go.Ev
namespace Go.Ev
set_option maxRecDepth 100000
open Go.RowKit Go.Proofs Go.Proofs.YtadmeeabbkpmlaaGreatDoor
variable {R : Rho} {m : Mem} {w : World}

theorem m0t_get (ob : Obj) (n : Nat) (hn : n < 32768) : (m0t ob).get n = if n = 1 then .yes (.tab tabl ob) else .no := by
  show tget (tset _ 1 tnil) n = _
  rw [tget_tset _ _ (by omega) hn, tget_nil]
  by_cases h1 : n = 1
  · subst h1; rfl
  · rw [if_neg (fun e => h1 e.symm), if_neg h1]
theorem tabl_nums : ∀ v ∈ tabl, isNum v = true := fun v hv => (List.all_eq_true.1 (by kernel_rfl : tabl.all isNum = true)) v hv
/-- What start-up lays of math/bits. -/
def DB (w : World) : Prop := ∀ (j : Nat) v, tabl[j]? = some v → w.cell? ⟨1, j, none⟩ = some (den ⟨id, id⟩ v)
theorem rel0 {w : World} (hd : DB w) : ∃ ob, w.heap[1]? = some ob ∧ Rel Tryz.prog ⟨id, id⟩ (m0t ob) w := by
  have h0 := hd 0 (b8 0) rfl
  obtain ⟨arr, el, fr, hob⟩ : ∃ arr el fr, w.heap[1]? = some (.cells arr el fr) := by
    unfold World.cell? at h0
    split at h0
    · rename_i arr el fr hh
      exact ⟨arr, el, fr, hh⟩
    · cases h0
  refine ⟨_, hob, ⟨(show 4 ≤ 32768 by decide), fun g _ => rfl, by rw [glob_size]; exact Nat.le_refl 4, fun i j _ _ e => e, fun n bl hn hg => ?_, fun n bl hn hg => ?_, fun n hn hn2 => ?_⟩⟩
  · have hn' : n < 4 := hn
    rw [m0t_get _ n (by omega)] at hg
    by_cases h1 : n = 1
    · rw [if_pos h1] at hg; cases hg
      exact fun v hv => (isNum_den (tabl_nums v hv) ⟨id, id⟩ ⟨id, id⟩).2 _
    · rw [if_neg h1] at hg; cases hg
  · have hn' : n < 4 := hn
    rw [m0t_get _ n (by omega)] at hg
    by_cases h1 : n = 1
    · rw [if_pos h1] at hg; cases hg
      subst h1
      refine ⟨arr, el, fr, hob, rfl, fun j v hv => ?_⟩
      have := hd j v hv
      simp only [World.cell?, hob] at this
      exact this
    · rw [if_neg h1] at hg; cases hg
  · have hn' : 4 ≤ n := hn
    rw [m0t_get _ n hn2, if_neg (by omega)]
/-- **Works: a kernel works at all.** -/
theorem works_any (w : World) (hd : DB w) : Calls Tryz.prog 4 #[] w fun e w' => e = .returned (.bool true) ∧ Below w.heap.size w w' := by
  obtain ⟨ob, hob, hrel⟩ := rel0 hd
  obtain ⟨mF, l', hev, g1⟩ := w_out ob
  have hcall := ev_calls follows_mixed no_gor su26_19_ok (by kernel_rfl) hev hrel (fun v hv => by cases hv)
  refine hcall.mono fun e' w' he => ?_
  obtain ⟨R', hP, rfl, _⟩ := he
  have h1F : 1 < mF.nxt := Nat.lt_of_lt_of_le (by decide : 1 < 4) hP.nxt
  have hR1 : R'.b 1 = 1 := (hP.ext 1 (show 1 < 4 by decide)).1
  refine ⟨by simp [den], hP.os, hP.tape, hP.output, hP.size, fun k hk => ?_⟩
  by_cases h1 : k = 1
  · obtain ⟨_, _, _, k1, _, _⟩ := hP.rel.blk 1 _ h1F g1
    rw [h1, ← hR1, k1, hR1, hob]
  · refine hP.keep k hk fun n hn => ?_
    obtain ⟨hn1, hn2⟩ := hn
    have hn' : n < 4 := hn1
    rw [m0t_get ob n (by omega)] at hn2
    by_cases h2 : n = 1
    · exact fun e => h1 (e.symm.trans h2)
    · rw [if_neg h2] at hn2; exact absurd rfl hn2
theorem DB.below {w w' : World} (h : DB w) (hb : Below w.heap.size w w') : DB w' := fun j v hj => by
  have h1 := h j v hj
  exact (hb.cell (p := ⟨1, j, none⟩) (World.block_lt_of_cell? _ _ h1)).trans h1
theorem yes_at (w : World) (hd : DB w) : YesAt w 4 := fun W hb => works_any W (hd.below hb)
end Go.Ev
