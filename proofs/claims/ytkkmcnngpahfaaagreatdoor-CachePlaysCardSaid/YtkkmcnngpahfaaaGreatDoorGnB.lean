/- A region that draws its order, and whose last operation is a store to a cell that it loads: what holds of the world is asked behind every operation but that one. No program. -/
import Derived.Test.YtkkmcnngpahfaaaGreatDoorGnA
import Derived.OrdersHeld
import Derived.Deep.RegionHeld
namespace Go.Proofs.YtkkmcnngpahfaaaGreatDoor
open Go
set_option linter.unusedSimpArgs false
set_option linter.unusedVariables false

section
variable {P : Program} {ops : Array Oper} {Q : Exit → Act → World → Prop} {md : Region.Mode} {S : World → Prop} {z : Nat}

/-- Whichever order is picked; S behind each operation but number z. -/
def wpAnyZ (P : Program) (md : Region.Mode) (ops : Array Oper) (Q : Exit → Act → World → Prop) (S : World → Prop) (z : Nat) : Nat → Array Bool → Act → World → Prop
  | 0, listed, a, w => Region.ready md ops listed = [] ∧ Q .normal a w
  | n + 1, listed, a, w => (Region.ready md ops listed = [] → Q .normal a w) ∧
    ∀ i ∈ Region.ready md ops listed, wpOp P ops Q i (fun a' w' => (i ≠ z → S w') ∧ wpAnyZ P md ops Q S z n (listed.setIfInBounds i true) a' w') a w
theorem wpAny_of_Z : ∀ (n : Nat) (listed : Array Bool) (a : Act) (w : World), wpAnyZ P md ops Q S z n listed a w → wpAny P md ops Q n listed a w
  | 0, _, _, _, h => h
  | n + 1, _, _, _, h => ⟨h.1, fun i hi => wpOp_mono (fun a' w' h' => wpAny_of_Z n _ a' w' h'.2) (h.2 i hi)⟩

/-- What has come up has all that it waits for come up. -/
def Closed (md : Region.Mode) (ops : Array Oper) (listed : Array Bool) : Prop :=
  ∀ j o, ops[j]? = some o → listed.getD j true = true → ∀ e ∈ o.after, Region.binds md e = true → listed.getD e.on true = true
theorem getD_up {listed : Array Bool} {j : Nat} (h : listed.getD j false = true) : listed.getD j true = true := by
  simp only [Array.getD_eq_getD_getElem?] at *
  cases hc : listed[j]? with
  | none => rfl
  | some b => rw [hc] at h; simpa using h
theorem getD_set_up {listed : Array Bool} {i j : Nat} (h : listed.getD j true = true) : (listed.setIfInBounds i true).getD j true = true := by
  by_cases e : i = j
  · subst e
    simp only [Array.getD_eq_getD_getElem?, Array.getElem?_setIfInBounds_self]
    split <;> rfl
  · rw [getD_set_ne true e]; exact h
theorem Closed.set {listed : Array Bool} {i : Nat} (h : Closed md ops listed) (hi : i ∈ Region.ready md ops listed) : Closed md ops (listed.setIfInBounds i true) := by
  intro j o ho hj e he hb
  by_cases hji : i = j
  · subst hji
    obtain ⟨_, o', ho', hall⟩ := mem_ready.1 hi
    rw [ho] at ho'
    injection ho' with ho'
    subst ho'
    exact getD_set_up (getD_up (hall e he hb))
  · rw [getD_set_ne true hji] at hj
    exact getD_set_up (h j o ho hj e he hb)
/-- Does k wait for j? -/
def waits (md : Region.Mode) (ops : Array Oper) (k j : Nat) : Bool := match ops[k]? with | some o => o.after.toList.any fun e => Region.binds md e && e.on == j | none => false
/-- All that k waits for, over n steps. -/
def back (md : Region.Mode) (ops : Array Oper) (z : Nat) : Nat → List Nat
  | 0 => (List.range ops.size).filter fun j => waits md ops z j
  | n + 1 => let l := back md ops z n; (List.range ops.size).filter fun j => l.contains j || l.any fun k => waits md ops k j
theorem waits_spec {k j : Nat} (h : waits md ops k j = true) : ∃ o, ops[k]? = some o ∧ ∃ e ∈ o.after, Region.binds md e = true ∧ e.on = j := by
  unfold waits at h
  split at h
  · next o ho =>
    obtain ⟨e, he, hp⟩ := List.any_eq_true.1 h
    rw [Bool.and_eq_true, beq_iff_eq] at hp
    exact ⟨o, ho, e, by simpa using he, hp.1, hp.2⟩
  · cases h
theorem back_spec {listed : Array Bool} (hc : Closed md ops listed) (hz : z ∈ Region.ready md ops listed) : ∀ n, ∀ j ∈ back md ops z n, listed.getD j true = true
  | 0, j, hj => by
    obtain ⟨o, ho, e, he, hb, rfl⟩ := waits_spec (List.mem_filter.1 hj).2
    obtain ⟨_, o', ho', hall⟩ := mem_ready.1 hz
    rw [ho] at ho'
    injection ho' with ho'
    subst ho'
    exact getD_up (hall e he hb)
  | n + 1, j, hj => by
    have h1 := (List.mem_filter.1 hj).2
    rw [Bool.or_eq_true] at h1
    rcases h1 with h1 | h1
    · exact back_spec hc hz n j (by simpa using h1)
    · obtain ⟨k, hk, hw⟩ := List.any_eq_true.1 h1
      obtain ⟨o, ho, e, he, hb, rfl⟩ := waits_spec hw
      exact hc k o ho (back_spec hc hz n k hk) e he hb
/-- Number z comes up when all others have. -/
def lastB (md : Region.Mode) (ops : Array Oper) (z n : Nat) : Bool := let l := back md ops z n; (List.range ops.size).all fun j => j == z || l.contains j
theorem last_spec {n : Nat} (h : lastB md ops z n = true) {listed : Array Bool} (hc : Closed md ops listed) (hz : z ∈ Region.ready md ops listed) {j : Nat} (hj : j ∈ Region.ready md ops listed) : j = z := by
  obtain ⟨h1, o, ho, _⟩ := mem_ready.1 hj
  have hlt := (Array.getElem?_eq_some_iff.1 ho).1
  unfold lastB at h
  have h2 := List.all_eq_true.1 h j (List.mem_range.2 hlt)
  rw [Bool.or_eq_true, beq_iff_eq] at h2
  rcases h2 with h2 | h2
  · exact h2
  · have h3 := back_spec hc hz n j (by simpa using h2)
    rw [h1] at h3
    cases h3
theorem Closed.start (md : Region.Mode) (ops : Array Oper) : Closed md ops (Array.replicate ops.size false) := by
  intro j o ho hj
  have hlt := (Array.getElem?_eq_some_iff.1 ho).1
  exfalso
  simp [hlt] at hj

theorem wpAnyZ_first {i : Nat} {oi : Oper} {v : Value} (hi : ops[i]? = some oi) (hsel : ∀ (j : Nat) (o : Oper) cs b, ops[j]? = some o → o.op ≠ .select cs b)
    (hQ : ∀ c a w, Q (.panic c) (a.put oi.dst v) w → Q (.panic c) a w) (hz : ∀ listed, Closed md ops listed → z ∈ Region.ready md ops listed → ∀ j ∈ Region.ready md ops listed, j = z) (hiz : i ≠ z) :
    ∀ (n : Nat) (listed : Array Bool) (a : Act) (w : World), Closed md ops listed →
      (∀ j oj, ops[j]? = some oj → j ≠ i → listed.getD j true = false → (∀ e ∈ oj.after, Region.binds md e = true → e.on ≠ i) → oi.apart ops oj = true) →
      i ∈ Region.ready md ops listed → YieldsIf P ops S oi v a → S w →
      wpAnyZ P md ops Q S z n (listed.setIfInBounds i true) (a.put oi.dst v) w → wpAnyZ P md ops Q S z (n + 1) listed a w := by
  intro n
  induction n with
  | zero =>
    intro listed a w _ _ hr hy hS H
    refine ⟨fun h => (by rw [h] at hr; cases hr), fun j hj => ?_⟩
    by_cases hji : j = i
    · subst hji; exact hy.wpOp hi hS ⟨fun _ => hS, H⟩
    · have := ready_mono hj hji
      rw [H.1] at this
      cases this
  | succ n ih =>
    intro listed a w hcl hfree hr hy hS H
    refine ⟨fun h => (by rw [h] at hr; cases hr), fun j hj => ?_⟩
    by_cases hji : j = i
    · subst hji; exact hy.wpOp hi hS ⟨fun _ => hS, H⟩
    have hjz : j ≠ z := fun e => by subst e; exact hiz (hz listed hcl hj i hr)
    have h1 := H.2 j (ready_mono hj hji)
    obtain ⟨hjun, oj, hoj, hall⟩ := mem_ready.1 hj
    have hnot : ∀ e ∈ oj.after, Region.binds md e = true → e.on ≠ i := fun e he hb heq => by
      have h2 := getD_up (hall e he hb)
      rw [heq, (mem_ready.1 hr).1] at h2
      cases h2
    have h2 := wpOp_putIf hoj (hfree j oj hoj hji hjun hnot) (fun cs b => hsel i oi cs b hi) (fun cs b => hsel j oj cs b hoj) hQ hy h1
    refine wpOp_mono (fun a' w' h3 => ⟨h3.2.1, ih (listed.setIfInBounds j true) a' w' (hcl.set hj) (fun k ok hk hki hun hno => ?_) (ready_mono hr (Ne.symm hji)) h3.1 (h3.2.1 hjz) ?_⟩) h2
    · refine hfree k ok hk hki ?_ hno
      by_cases hjk : j = k
      · subst hjk; exact hjun
      · rw [getD_set_ne true hjk] at hun; exact hun
    · rw [Array.setIfInBounds_comm _ _ hji]
      exact h3.2.2

/-! ### the moves -/
def closedB (md : Region.Mode) (ops : Array Oper) (listed : Array Bool) : Bool :=
  (List.range ops.size).all fun j => !listed.getD j true || match ops[j]? with | some o => o.after.toList.all fun e => !Region.binds md e || listed.getD e.on true | none => true
theorem closedB_spec {listed : Array Bool} (h : closedB md ops listed = true) : Closed md ops listed := by
  intro j o ho hj e he hb
  have hlt := (Array.getElem?_eq_some_iff.1 ho).1
  have h1 := List.all_eq_true.1 h j (List.mem_range.2 hlt)
  rw [hj, ho] at h1
  simp only [Bool.not_true, Bool.false_or] at h1
  have h2 := List.all_eq_true.1 h1 e (by simpa using he)
  rw [hb] at h2
  simpa using h2
/-- The region's facts: number z comes last (n steps back show it). -/
structure LastIs (md : Region.Mode) (ops : Array Oper) (z : Nat) : Prop where
  last : ∀ listed, Closed md ops listed → z ∈ Region.ready md ops listed → ∀ j ∈ Region.ready md ops listed, j = z
  noSel : Region.noSelect ops = true
theorem LastIs.of (n : Nat) (h : lastB md ops z n = true) (h2 : Region.noSelect ops = true) : LastIs md ops z := ⟨fun listed hc hz j hj => last_spec h hc hz hj, h2⟩
theorem wpAnyZ_take (i : Nat) {oi : Oper} {v : Value} {n : Nat} {listed : Array Bool} {a : Act} {w : World} (hl : LastIs md ops z) (hi : ops[i]? = some oi) (hiz : (i == z) = false)
    (hc : closedB md ops listed = true) (hf : Region.free md ops listed i = true) (hr : (Region.ready md ops listed).contains i = true)
    (hQ : ∀ c a w, Q (.panic c) (a.put oi.dst v) w → Q (.panic c) a w) (hy : YieldsIf P ops S oi v a) (hS : S w)
    (h : wpAnyZ P md ops Q S z n (listed.setIfInBounds i true) (a.put oi.dst v) w) : wpAnyZ P md ops Q S z (n + 1) listed a w :=
  wpAnyZ_first hi (Region.noSelect_spec hl.noSel) hQ hl.last (by simpa using hiz) n listed a w (closedB_spec hc) (Region.free_spec hi hf) (by simpa using hr) hy hS h
/-- Number i is taken first; what is asked is found by itself. -/
theorem zt (i : Nat) {oi : Oper} {v : Value} {n : Nat} {listed l2 : Array Bool} {a a2 : Act} {w : World} (h : wpAnyZ P md ops Q S z n l2 a2 w)
    (hl : LastIs md ops z := by assumption) (hi : ops[i]? = some oi := by rfl) (hiz : (i == z) = false := by rfl)
    (hc : closedB md ops listed = true := by kernel_rfl) (hf : Region.free md ops listed i = true := by kernel_rfl) (hr : (Region.ready md ops listed).contains i = true := by kernel_rfl)
    (hQ : ∀ c a w, Q (.panic c) (a.put oi.dst v) w → Q (.panic c) a w := by exact fun _ _ _ h => h)
    (hy : YieldsIf P ops S oi v a := by (refine Or.inl ⟨by rfl, ?_⟩; intro w hSw; (try dsimp only at hSw); go_simp; all_goals (with_reducible rfl))) (hS : S w := by assumption)
    (e1 : listed.setIfInBounds i true = l2 := by ((try simp only [List.setIfInBounds_toArray, List.set_cons_zero, List.set_cons_succ]); exact rfl))
    (e2 : a.put oi.dst v = a2 := by ((try simp only [Act.put, List.setIfInBounds_toArray, List.set_cons_zero, List.set_cons_succ, List.getElem_toArray, List.getElem_cons_succ, List.getElem_cons_zero]); exact rfl)) :
    wpAnyZ P md ops Q S z (n + 1) listed a w := by
  subst e1 e2
  exact wpAnyZ_take i hl hi hiz hc hf hr hQ hy hS h
/-- Number i alone may come up; it is not the last. -/
theorem wpAnyZ_step (i : Nat) {o : Oper} {n : Nat} {listed : Array Bool} {a : Act} {w : World} (hr : Region.ready md ops listed = [i]) (ho : ops[i]? = some o)
    (h : ∀ K' : Act → World → Prop, Shut (∀ a w, S w → (S w → wpAnyZ P md ops Q S z n (listed.setIfInBounds i true) a w) → K' a w) → if Region.wanted o (yielded ops a.tmps) = true then Oper.wp P o a w K' Q else K' (a.put o.dst undef) w) :
    wpAnyZ P md ops Q S z (n + 1) listed a w := by
  refine ⟨fun h0 => absurd (hr ▸ h0) (by simp), fun j hj => ?_⟩
  rw [hr, List.mem_singleton] at hj
  subst hj
  exact wpOp_step ho fun K' hK => h K' (fun a w hS hW => hK a w ⟨fun _ => hS, hW hS⟩)
/-- Two may come up; neither is the last. -/
theorem wpAnyZ_two (i k : Nat) {o o2 : Oper} {n : Nat} {listed : Array Bool} {a : Act} {w : World} (hr : Region.ready md ops listed = [i, k]) (ho : ops[i]? = some o) (ho2 : ops[k]? = some o2)
    (h : ∀ K' : Act → World → Prop, Shut (∀ a w, S w → (S w → wpAnyZ P md ops Q S z n (listed.setIfInBounds i true) a w) → K' a w) → if Region.wanted o (yielded ops a.tmps) = true then Oper.wp P o a w K' Q else K' (a.put o.dst undef) w)
    (h2 : ∀ K' : Act → World → Prop, Shut (∀ a w, S w → (S w → wpAnyZ P md ops Q S z n (listed.setIfInBounds k true) a w) → K' a w) → if Region.wanted o2 (yielded ops a.tmps) = true then Oper.wp P o2 a w K' Q else K' (a.put o2.dst undef) w) :
    wpAnyZ P md ops Q S z (n + 1) listed a w := by
  refine ⟨fun h0 => absurd (hr ▸ h0) (by simp), fun j hj => ?_⟩
  rw [hr, List.mem_cons, List.mem_singleton] at hj
  rcases hj with hj | hj
  · subst hj
    exact wpOp_step ho fun K' hK => h K' (fun a w hS hW => hK a w ⟨fun _ => hS, hW hS⟩)
  · subst hj
    exact wpOp_step ho2 fun K' hK => h2 K' (fun a w hS hW => hK a w ⟨fun _ => hS, hW hS⟩)
/-- The last one. -/
theorem wpAnyZ_last (i : Nat) {o : Oper} {n : Nat} {listed : Array Bool} {a : Act} {w : World} (hr : Region.ready md ops listed = [i]) (hiz : i = z) (ho : ops[i]? = some o)
    (h : ∀ K' : Act → World → Prop, Shut (∀ a w, wpAnyZ P md ops Q S z n (listed.setIfInBounds i true) a w → K' a w) → if Region.wanted o (yielded ops a.tmps) = true then Oper.wp P o a w K' Q else K' (a.put o.dst undef) w) :
    wpAnyZ P md ops Q S z (n + 1) listed a w := by
  refine ⟨fun h0 => absurd (hr ▸ h0) (by simp), fun j hj => ?_⟩
  rw [hr, List.mem_singleton] at hj
  subst hj
  exact wpOp_step ho fun K' hK => h K' (fun a w hW => hK a w ⟨fun e => absurd hiz e, hW⟩)
theorem wpAnyZ_done {listed : Array Bool} {a : Act} {w : World} (hr : Region.ready md ops listed = []) (h : Q .normal a w) : ∀ n, wpAnyZ P md ops Q S z n listed a w
  | 0 => ⟨hr, h⟩
  | _ + 1 => ⟨fun _ => h, by rw [hr]; simp⟩
theorem wp_region_Z {id : Nat} {a : Act} {w : World} (S : World → Prop) (z : Nat) (hm : P.follows .mixedOrders = true) (hl : LastIs .any ops z) (hS : S w.drew)
    (h : LastIs .any ops z → S w.drew → wpAnyZ P .any ops Q S z ops.size (Array.replicate ops.size false) a w.drew) : (Code.region id ops true).wp P Q a w :=
  wp_region_any hm (wpAny_of_Z _ _ _ _ (h hl hS))
end

end Go.Proofs.YtkkmcnngpahfaaaGreatDoor
