/- The document's files, plain: a name's node by looking through all nodes; the mode's bits. No program. -/
import Derived.Test.YtkkmcnngpahfaaaGreatDoorVpY
namespace Go.Proofs.YtkkmcnngpahfaaaGreatDoor
set_option linter.unusedSimpArgs false
set_option linter.unusedVariables false

theorem mode_doc {m : Nat} (h : m < 65536) : (m &&& 2559 = m) ↔ modeBad m = false := by
  have hb : modeBad m = false ↔ m &&& 62976 = 0 := by
    unfold modeBad
    rw [show ((2559 : Int)) = ((2559 : Nat) : Int) from rfl, u16_andNot_nat m 2559 h (by omega)]
    rw [bne_eq_false_iff_eq]
    show ((m &&& 62976 : Nat) : Int) = 0 ↔ _
    omega
  rw [hb]
  have t : ∀ i, i < 16 → Nat.testBit 2559 i = !Nat.testBit 62976 i := by decide
  have big : ∀ i, 16 ≤ i → Nat.testBit m i = false := fun i hi => Nat.testBit_lt_two_pow (Nat.lt_of_lt_of_le h (by
    have : 2 ^ 16 ≤ 2 ^ i := Nat.pow_le_pow_right (by omega) hi
    omega))
  constructor
  · intro e
    refine Nat.eq_of_testBit_eq fun i => ?_
    rw [Nat.testBit_and, Nat.zero_testBit]
    by_cases hi : i < 16
    · have h1 := congrArg (fun x => Nat.testBit x i) e
      simp only [Nat.testBit_and, t i hi] at h1
      cases ha : Nat.testBit m i <;> cases hc : Nat.testBit 62976 i <;> simp_all
    · rw [big i (by omega)]; rfl
  · intro e
    refine Nat.eq_of_testBit_eq fun i => ?_
    rw [Nat.testBit_and]
    by_cases hi : i < 16
    · have h1 := congrArg (fun x => Nat.testBit x i) e
      simp only [Nat.testBit_and, Nat.zero_testBit] at h1
      rw [t i hi]
      cases ha : Nat.testBit m i <;> cases hc : Nat.testBit 62976 i <;> simp_all
    · rw [big i (by omega)]; rfl

/-- Is node i the one of a name in a directory? -/
def isChild (F : List Nd) (d : Nat) (x : ByteArray) (i : Nat) : Prop := 0 < i ∧ ∃ y, F[i]? = some y ∧ y.up = d ∧ y.name = x
theorem filterMap_pre {α β : Type} (f : α → Option β) (p : β → Bool) : ∀ (l : List α) (k : Nat) (a : α) (b : β), l[k]? = some a → f a = some b → p b = true → (∀ j a', j < k → l[j]? = some a' → ∀ b', f a' = some b' → p b' = false) → (l.filterMap f).find? p = some b
  | [], k, a, b, h, _, _, _ => by simp at h
  | x :: l, 0, a, b, h, hf, hp, _ => by
    simp only [List.getElem?_cons_zero, Option.some.injEq] at h
    subst h
    rw [List.filterMap_cons, hf]
    simp only
    rw [List.find?_cons, hp]
  | x :: l, k + 1, a, b, h, hf, hp, hn => by
    rw [List.getElem?_cons_succ] at h
    have ih := filterMap_pre f p l k a b h hf hp fun j a' hj ha b' hb => hn (j + 1) a' (by omega) (by simpa using ha) b' hb
    rw [List.filterMap_cons]
    cases hx : f x with
    | none => exact ih
    | some y =>
      simp only
      rw [List.find?_cons, hn 0 x (by omega) rfl y hx]
      exact ih
theorem lookN_first {F : List Nd} {d i : Nat} {x : ByteArray} (h : isChild F d x i) (hn : ∀ j, j < i → ¬ isChild F d x j) : lookN (namesOf F d) x = some i := by
  obtain ⟨h0, y, hy, hu, hx⟩ := h
  have hi := (List.getElem?_eq_some_iff.1 hy).1
  unfold lookN namesOf
  rw [filterMap_pre _ (fun y => decide (y.1 = x)) (List.range F.length) i i (x, i) (by rw [List.getElem?_range hi]) (by rw [hy]; simp only; rw [if_pos ⟨h0, hu⟩, hx]) (by simp) ?_]
  · rfl
  · intro j a ha hj b hb
    have hjl : j < F.length := by omega
    rw [List.getElem?_range hjl] at hj
    injection hj with hj
    subst hj
    cases hf : F[j]? with
    | none => rw [hf] at hb; cases hb
    | some z =>
      rw [hf] at hb
      simp only at hb
      split at hb
      · next h3 =>
        injection hb with hb
        subst hb
        rw [decide_eq_false_iff_not]
        exact fun e => hn j ha ⟨h3.1, z, hf, h3.2, e⟩
      · cases hb
theorem lookN_noone {F : List Nd} {d : Nat} {x : ByteArray} (hn : ∀ j, j < F.length → ¬ isChild F d x j) : lookN (namesOf F d) x = none := by
  cases h : lookN (namesOf F d) x with
  | none => rfl
  | some j =>
    obtain ⟨h1, h2, y, h3, h4, h5⟩ := namesOf_mem (lookN_some h)
    exact absurd ⟨h2, y, h3, h4, h5⟩ (hn j h1)
/-- All nodes but the root lie in directories. -/
def InDirs (F : List Nd) : Prop := ∀ (i : Nat) (y : Nd), 0 < i → F[i]? = some y → kindOf F y.up = 2
theorem InDirs.start : InDirs [rootNd] := fun i y h0 h => by
  cases i with
  | zero => omega
  | succ i => simp at h
theorem InDirs.add {F : List Nd} {e : Ent} (h : InDirs F) (hF : FOk F) (h0 : (addM F e).1 = 0) : InDirs (addM F e).2 := by
  obtain ⟨_, _, _, up, _, _, hk, hul, e2⟩ := addM_ok hF h0
  rw [e2]
  intro i y hi hy
  by_cases hlt : i < F.length
  · rw [List.getElem?_append_left hlt] at hy
    rw [kindOf_snoc _ (hF.each i y hy).up]
    exact h i y hi hy
  · rw [List.getElem?_append_right (by omega)] at hy
    have hm := List.mem_of_getElem? hy
    rw [List.mem_singleton] at hm
    subst hm
    show kindOf (F ++ [_]) up = 2
    rw [kindOf_snoc _ hul]
    exact hk
theorem InDirs.leaf {F : List Nd} (h : InDirs F) {d : Nat} (hk : kindOf F d ≠ 2) (x : ByteArray) : lookN (namesOf F d) x = none := lookN_noone fun j hj hc => by
  obtain ⟨h0, y, hy, hu, _⟩ := hc
  exact hk (hu ▸ h j y h0 hy)
/-- A step down, with no look at whether it is a directory. -/
theorem InDirs.step {F : List Nd} (h : InDirs F) (d : Nat) (x : ByteArray) (l : List ByteArray) : atM F d (x :: l) = match lookN (namesOf F d) x with | some j => atM F j l | none => none := by
  rw [atM]
  by_cases hk : kindOf F d = 2
  · rw [if_pos hk]
    try (cases lookN (namesOf F d) x <;> rfl)
  · rw [if_neg hk, h.leaf hk x]

end Go.Proofs.YtkkmcnngpahfaaaGreatDoor
