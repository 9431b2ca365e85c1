/- Regions: the plain law of Put: what the program makes is what the references make. -/
import Derived.Test.YtadmeeabbkpmlaaGreatDoorRegM
namespace Go.Proofs.YtadmeeabbkpmlaaGreatDoor
open Go.RowKit Go.Sort
set_option linter.unusedSimpArgs false
set_option linter.unusedVariables false
set_option maxRecDepth 100000

theorem w64_id {x : Int} (h0 : 0 ≤ x) (h1 : x ≤ 18446744073709551615) : w64 x = x := by
  unfold w64
  rw [IntKind.wrap_u64]
  omega
theorem w64_eq (x : Int) : w64 x = x % 18446744073709551616 := by
  unfold w64
  exact IntKind.wrap_u64 x

theorem one_spec {r : Reg} (h : Rg.one r = true) : r.fr < r.to ∧ r.to ≤ 140737488355328 ∧ r.fr % 4096 = 0 ∧ r.to % 4096 = 0 ∧ r.prot ≤ 7 ∧ ((r.ino = -1 ∧ r.off = 0) ∨ (0 ≤ r.ino ∧ r.off % 4096 = 0 ∧ r.off + (r.to - r.fr) ≤ 281474976710656)) := by
  simpa [Rg.one] using h

theorem part_same {x : Reg} (h : Rg.one x = true) (hok : x.Ok) : Rg.part x x.fr x.to = x := by
  obtain ⟨h1, h2, h3, h4, h5, h6⟩ := one_spec h
  unfold Rg.part
  have e : w64 (x.off + w64 (x.fr - x.fr)) = x.off := by
    rw [Int.sub_self, w64_id (x := 0) (by omega) (by omega), Int.add_zero, w64_id hok.off0 hok.off1]
  rcases h6 with ⟨hi, ho⟩ | ⟨hi, _⟩
  · rw [if_pos hi]
    obtain ⟨a, b, c, d, e⟩ := x
    simp_all
  · rw [if_neg (by omega), e]
theorem part_rpart {x : Reg} (h : Rg.one x = true) (a b : Int) : Rg.part x a b = Rg.rpart x a b := by
  obtain ⟨h1, h2, h3, h4, h5, h6⟩ := one_spec h
  unfold Rg.part Rg.rpart
  rcases h6 with ⟨hi, ho⟩ | ⟨hi, _⟩
  · rw [if_pos hi, if_pos hi, ho]
  · rw [if_neg (by omega), if_neg (by omega)]

theorem pc_yes {x : Reg} {a b : Int} (h : a < b) : Rg.pc x a b true = [Rg.part x a b] := by simp [Rg.pc, h]
theorem pc_no {x : Reg} {a b : Int} (h : ¬ a < b) : Rg.pc x a b true = [] := by simp [Rg.pc]; omega
theorem pc_false {x : Reg} {a b : Int} : Rg.pc x a b false = [] := by simp [Rg.pc]

theorem run1_gone {x : Reg} {f t : Int} (h : Rg.one x = true) (hok : x.Ok) (hft : f < t) : Rg.run1 f t hGone x = Rg.wo1 f t x := by
  have hlt := (one_spec h).1
  unfold Rg.run1 hGone Rg.wo1
  simp only [pc_false, List.nil_append]
  by_cases c1 : x.to ≤ f
  · rw [if_pos (.inl c1), Int.min_eq_left c1, pc_yes hlt, Int.max_eq_right (by omega), pc_no (by omega), part_same h hok]
    rfl
  · by_cases c2 : t ≤ x.fr
    · rw [if_pos (.inr c2), Int.min_eq_right (by omega), pc_no (by omega), Int.max_eq_left (by omega), pc_yes hlt, part_same h hok]
      rfl
    · rw [if_neg (by omega), Int.min_eq_right (by omega), Int.max_eq_right (by omega)]
      congr 1
      · split
        · rename_i d; rw [pc_yes d, part_rpart h]
        · rename_i d; rw [pc_no d]
      · split
        · rename_i d; rw [pc_yes d, part_rpart h]
        · rename_i d; rw [pc_no d]
theorem run_gone {l : List Reg} {f t : Int} (h : ∀ x ∈ l, Rg.one x = true) (hok : AllOk l) (hft : f < t) : Rg.run f t hGone l = Rg.without l f t := by
  unfold Rg.run Rg.without
  induction l with
  | nil => rfl
  | cons x l ih =>
    rw [List.flatMap_cons, List.flatMap_cons, run1_gone (h x (by simp)) (hok x (by simp)) hft, ih (fun y hy => h y (by simp [hy])) (fun y hy => hok y (by simp [hy]))]

/-- Each behind the other. -/
def Apart (l : List Reg) : Prop := l.Pairwise (fun a b => a.to ≤ b.fr) ∧ ∀ x ∈ l, x.fr < x.to

theorem right_all {l : List Reg} (h : Rg.right l = true) : (∀ k, k < l.length → Rg.okAt l k = true) ∧ l.length ≤ 64 := by
  unfold Rg.right at h
  rw [Bool.and_eq_true, List.all_eq_true] at h
  exact ⟨fun k hk => h.1 k (List.mem_range.2 hk), by simpa using h.2⟩
theorem right_one {l : List Reg} (h : Rg.right l = true) : ∀ x ∈ l, Rg.one x = true := fun x hx => by
  obtain ⟨k, hk, e⟩ := List.mem_iff_getElem.1 hx
  have h1 := (right_all h).1 k hk
  have h2 : l[k]? = some x := by rw [List.getElem?_eq_getElem hk, e]
  unfold Rg.okAt at h1
  rw [h2] at h1
  simp only [Bool.and_eq_true] at h1
  exact h1.1
theorem right_next {l : List Reg} (h : Rg.right l = true) {j : Nat} {p r : Reg} (hp : l[j]? = some p) (hr : l[j + 1]? = some r) : p.to ≤ r.fr ∧ Rg.joins p r = false := by
  have hk : j + 1 < l.length := (List.getElem?_eq_some_iff.1 hr).1
  have h1 := (right_all h).1 (j + 1) hk
  rw [okAt_succ hr hp, Bool.and_eq_true] at h1
  simpa using h1.2
theorem right_apart {l : List Reg} (h : Rg.right l = true) : Apart l := by
  have h1 : ∀ x ∈ l, x.fr < x.to := fun x hx => (one_spec (right_one h x hx)).1
  refine ⟨?_, h1⟩
  rw [List.pairwise_iff_getElem]
  have key : ∀ d i (hi : i < l.length) (hj : i + d + 1 < l.length), l[i].to ≤ (l[i + d + 1]'hj).fr := by
    intro d
    induction d with
    | zero =>
      intro i hi hj
      exact (right_next h (List.getElem?_eq_getElem hi) (List.getElem?_eq_getElem hj)).1
    | succ d ih =>
      intro i hi hj
      have h2 := ih i hi (by omega)
      have h3 := (right_next h (j := i + d + 1) (List.getElem?_eq_getElem (by omega)) (List.getElem?_eq_getElem hj)).1
      have h4 := h1 (l[i + d + 1]'(by omega)) (List.getElem_mem _)
      exact Int.le_trans h2 (Int.le_trans (Int.le_of_lt h4) h3)
  intro i j hi hj hij
  have e : j = i + (j - i - 1) + 1 := by omega
  have := key (j - i - 1) i hi (by omega)
  simp only [← e] at this
  exact this

theorem wo1_in {f t : Int} {x y : Reg} (hft : f < t) (hx : x.fr < x.to) (h : y ∈ Rg.wo1 f t x) : x.fr ≤ y.fr ∧ y.fr < y.to ∧ y.to ≤ x.to := by
  unfold Rg.wo1 at h
  split at h
  · simp at h; subst h; omega
  · rw [List.mem_append] at h
    rcases h with h | h <;> split at h
    · simp at h; subst h; simp [Rg.rpart]; omega
    · simp at h
    · simp at h; subst h; simp [Rg.rpart]; omega
    · simp at h
theorem wo1_apart {f t : Int} {x : Reg} (hft : f < t) (hx : x.fr < x.to) : (Rg.wo1 f t x).Pairwise (fun a b => a.to ≤ b.fr) := by
  unfold Rg.wo1
  split
  · simp
  · split <;> split <;> simp [Rg.rpart]
    omega
theorem without_apart {l : List Reg} {f t : Int} (h : Apart l) (hft : f < t) : Apart (Rg.without l f t) := by
  refine ⟨?_, fun y hy => ?_⟩
  · unfold Rg.without
    rw [List.pairwise_flatMap]
    refine ⟨fun x hx => wo1_apart hft (h.2 x hx), ?_⟩
    refine List.Pairwise.imp_of_mem (fun {a b} ha hb hab x hx y hy => ?_) h.1
    have h1 := wo1_in hft (h.2 a ha) hx
    have h2 := wo1_in hft (h.2 b hb) hy
    omega
  · obtain ⟨x, hx, hy⟩ := List.mem_flatMap.1 hy
    exact (wo1_in hft (h.2 x hx) hy).2.1
theorem Apart.sorted {l : List Reg} (h : Apart l) : SortedFr l := fun i j a b hij ha hb => by
  obtain ⟨hi, e1⟩ := List.getElem?_eq_some_iff.1 ha
  obtain ⟨hj, e2⟩ := List.getElem?_eq_some_iff.1 hb
  have h1 := List.pairwise_iff_getElem.1 h.1 i j hi hj hij
  rw [e1, e2] at h1
  have h2 := h.2 a (List.mem_of_getElem? ha)
  omega

theorem insAt_ins {l : List Reg} {r : Reg} {i : Nat} (hi : i ≤ l.length) (h : SplitFr l r i i) : Rg.insAt l i r = Rg.ins l r := by
  induction l generalizing i with
  | nil =>
    have : i = 0 := by simpa using hi
    subst this
    rfl
  | cons x l ih =>
    cases i with
    | zero =>
      have := h.2 0 x (by omega) rfl
      simp [Rg.insAt, Rg.ins, this]
    | succ i =>
      have h1 := h.1 0 x (by omega) rfl
      have h2 := ih (i := i) (by simpa using hi) ⟨fun k a hk e => h.1 (k + 1) a (by omega) (by simpa using e), fun k a hk e => h.2 (k + 1) a (by omega) (by simpa using e)⟩
      simp only [Rg.insAt, Rg.ins, if_neg (show ¬ r.fr < x.fr by omega)] at h2 ⊢
      rw [← h2]
      rfl

end Go.Proofs.YtadmeeabbkpmlaaGreatDoor
