/- Regions: what each address has: the plain laws under RegionsFollow. -/
import Derived.Test.YtdkhgofnhemhmaaCutA
namespace Go.Proofs.Ytdkhgofnhemhmaa
set_option linter.unusedSimpArgs false
set_option linter.unusedVariables false

def Rg.hit (a : Int) (r : Reg) : Reg := ⟨0, 0, r.prot, r.ino, if r.ino = -1 then r.off else w64 (r.off + w64 (a - r.fr))⟩
def Rg.ats (l : List Reg) (a : Int) : List Reg := (l.filter (Rg.holds · a)).map (Rg.hit a)
def Rg.at (l : List Reg) (a : Int) : Reg × Bool := match Rg.ats l a with
  | [] => (⟨0, 0, 0, 0, 0⟩, false)
  | x :: _ => (x, true)
theorem ats_append (l k : List Reg) (a : Int) : Rg.ats (l ++ k) a = Rg.ats l a ++ Rg.ats k a := by simp [Rg.ats]
theorem ats_nil (a : Int) : Rg.ats [] a = [] := rfl
theorem ats_cons (x : Reg) (l : List Reg) (a : Int) : Rg.ats (x :: l) a = (if x.fr ≤ a ∧ a < x.to then [Rg.hit a x] else []) ++ Rg.ats l a := by
  unfold Rg.ats
  by_cases h : x.fr ≤ a ∧ a < x.to
  · simp [List.filter_cons, Rg.holds, h]
  · have h' : decide (x.fr ≤ a ∧ a < x.to) = false := by simpa using h
    simp only [List.filter_cons, Rg.holds, h', if_neg h]
    simp
theorem hit_rpart {x : Reg} {f g a : Int} (hf : x.fr ≤ f) (ha : f ≤ a) : Rg.hit a (Rg.rpart x f g) = Rg.hit a x := by
  unfold Rg.hit Rg.rpart
  simp only [Reg.mk.injEq, true_and]
  by_cases h : x.ino = -1
  · simp [h]
  · simp only [if_neg h, w64_eq]
    omega
theorem ats_wo1 {f t a : Int} {x : Reg} (hft : f < t) (hx : x.fr < x.to) : Rg.ats (Rg.wo1 f t x) a = if f ≤ a ∧ a < t then [] else Rg.ats [x] a := by
  unfold Rg.wo1
  by_cases h : x.to ≤ f ∨ t ≤ x.fr
  · rw [if_pos h]
    by_cases hin : f ≤ a ∧ a < t
    · rw [if_pos hin, ats_cons, if_neg (by omega)]; rfl
    · rw [if_neg hin]
  · rw [if_neg h, ats_append]
    by_cases hin : f ≤ a ∧ a < t
    · rw [if_pos hin]
      have e1 : Rg.ats (if x.fr < f then [Rg.rpart x x.fr f] else []) a = [] := by
        split
        · rw [ats_cons, if_neg (by simp only [Rg.rpart]; omega)]; rfl
        · rfl
      have e2 : Rg.ats (if t < x.to then [Rg.rpart x t x.to] else []) a = [] := by
        split
        · rw [ats_cons, if_neg (by simp only [Rg.rpart]; omega)]; rfl
        · rfl
      rw [e1, e2]; rfl
    · rw [if_neg hin]
      by_cases hl : a < f
      · have e2 : Rg.ats (if t < x.to then [Rg.rpart x t x.to] else []) a = [] := by
          split
          · rw [ats_cons, if_neg (by simp only [Rg.rpart]; omega)]; rfl
          · rfl
        rw [e2, List.append_nil]
        split
        · rw [ats_cons, ats_cons]
          by_cases hh : x.fr ≤ a
          · rw [if_pos (by simp only [Rg.rpart]; omega), if_pos (by omega), hit_rpart (Int.le_refl _) hh]
          · rw [if_neg (by simp only [Rg.rpart]; omega), if_neg (by omega)]
        · rw [ats_cons, if_neg (by omega)]; rfl
      · have e1 : Rg.ats (if x.fr < f then [Rg.rpart x x.fr f] else []) a = [] := by
          split
          · rw [ats_cons, if_neg (by simp only [Rg.rpart]; omega)]; rfl
          · rfl
        rw [e1, List.nil_append]
        split
        · rw [ats_cons, ats_cons]
          by_cases hh : a < x.to
          · rw [if_pos (by simp only [Rg.rpart]; omega), if_pos (by omega), hit_rpart (by omega) (by omega)]
          · rw [if_neg (by simp only [Rg.rpart]; omega), if_neg (by omega)]
        · rw [ats_cons, if_neg (by omega)]; rfl
theorem ats_without {f t a : Int} {l : List Reg} (hft : f < t) (hl : ∀ x ∈ l, x.fr < x.to) : Rg.ats (Rg.without l f t) a = if f ≤ a ∧ a < t then [] else Rg.ats l a := by
  induction l with
  | nil => simp [Rg.without, Rg.ats]
  | cons x l ih =>
    have e : Rg.without (x :: l) f t = Rg.wo1 f t x ++ Rg.without l f t := by simp [Rg.without]
    rw [e, ats_append, ats_wo1 hft (hl x (by simp)), ih (fun y hy => hl y (by simp [hy]))]
    by_cases hin : f ≤ a ∧ a < t
    · simp [if_pos hin]
    · simp only [if_neg hin]
      rw [ats_cons x l, ats_cons x [], ats_nil, List.append_nil]

/-! ### joined: what it keeps, what comes of it -/
structure Sound (l : List Reg) : Prop where
  apart : Apart l
  one : ∀ x ∈ l, Rg.one x = true
  ok : AllOk l
theorem push_snoc (A : List Reg) (p r : Reg) : Rg.push (A ++ [p]) r = if Rg.joins p r = true then A ++ [⟨p.fr, r.to, p.prot, p.ino, p.off⟩] else A ++ [p] ++ [r] := by
  unfold Rg.push
  simp only [List.getLast?_append, List.getLast?_singleton, Option.some_or]
  split
  · simp
  · rfl
theorem joins_spec {a b : Reg} (h : Rg.joins a b = true) : a.to = b.fr ∧ a.prot = b.prot ∧ a.ino = b.ino ∧ (a.ino = -1 ∨ b.off = w64 (a.off + w64 (a.to - a.fr))) := by
  simpa [Rg.joins] using h
theorem apart_snoc {A : List Reg} {r : Reg} : Apart (A ++ [r]) ↔ Apart A ∧ (∀ x ∈ A, x.to ≤ r.fr) ∧ r.fr < r.to := by
  unfold Apart
  rw [List.pairwise_append]
  constructor
  · rintro ⟨⟨h1, _, h2⟩, h3⟩
    exact ⟨⟨h1, fun x hx => h3 x (by simp [hx])⟩, fun x hx => h2 x hx r (by simp), h3 r (by simp)⟩
  · rintro ⟨⟨h1, h3⟩, h2, h4⟩
    refine ⟨⟨h1, by simp, fun x hx y hy => by simp at hy; subst hy; exact h2 x hx⟩, fun x hx => ?_⟩
    simp at hx
    rcases hx with hx | rfl
    · exact h3 x hx
    · exact h4
theorem loose_snoc {A : List Reg} {r : Reg} : Loose (A ++ [r]) ↔ Loose A ∧ ∀ x ∈ A, Rg.joins x r = false := by
  unfold Loose
  rw [List.pairwise_append]
  constructor
  · rintro ⟨h1, _, h2⟩
    exact ⟨h1, fun x hx => h2 x hx r (by simp)⟩
  · rintro ⟨h1, h2⟩
    exact ⟨h1, by simp, fun x hx y hy => by simp at hy; subst hy; exact h2 x hx⟩
theorem merged_one {p r : Reg} (hp : Rg.one p = true) (hr : Rg.one r = true) (hpo : p.Ok) (hro : r.Ok) (hj : Rg.joins p r = true) : Rg.one ⟨p.fr, r.to, p.prot, p.ino, p.off⟩ = true ∧ Reg.Ok ⟨p.fr, r.to, p.prot, p.ino, p.off⟩ := by
  obtain ⟨h1, h2, h3, h4⟩ := joins_spec hj
  have a := one_spec hp
  have b := one_spec hr
  obtain ⟨f0, f1, t0, t1, p0, p1, i0, i1, o0, o1⟩ := hpo
  obtain ⟨f0', f1', t0', t1', p0', p1', i0', i1', o0', o1'⟩ := hro
  rw [w64_eq, w64_eq] at h4
  refine ⟨?_, ⟨f0, f1, t0', t1', p0, p1, i0, i1, o0, o1⟩⟩
  unfold Rg.one
  simp only [decide_eq_true_eq]
  refine ⟨by omega, by omega, by omega, by omega, by omega, ?_⟩
  rcases a.2.2.2.2.2 with h | h
  · exact .inl h
  · refine .inr ⟨h.1, h.2.1, ?_⟩
    rcases b.2.2.2.2.2 with h' | h'
    · omega
    · omega
theorem merged_ats {p r : Reg} (hp : Rg.one p = true) (hr : Rg.one r = true) (hj : Rg.joins p r = true) (a : Int) : Rg.ats [⟨p.fr, r.to, p.prot, p.ino, p.off⟩] a = Rg.ats ([p] ++ [r]) a := by
  obtain ⟨h1, h2, h3, h4⟩ := joins_spec hj
  have x := one_spec hp
  have y := one_spec hr
  rw [ats_append, ats_cons, ats_cons, ats_cons, ats_nil]
  simp only [List.append_nil]
  by_cases c1 : p.fr ≤ a ∧ a < p.to
  · rw [if_pos (by omega), if_pos c1, if_neg (by omega), List.append_nil]
    simp only [Rg.hit]
  · by_cases c2 : r.fr ≤ a ∧ a < r.to
    · rw [if_pos (by omega), if_neg c1, if_pos c2, List.nil_append]
      simp only [Rg.hit, h2, h3]
      by_cases hi : r.ino = -1
      · have e1 : p.off = 0 := by rcases x.2.2.2.2.2 with h | h <;> omega
        have e2 : r.off = 0 := by rcases y.2.2.2.2.2 with h | h <;> omega
        simp [hi, e1, e2]
      · rcases h4 with h4 | h4
        · omega
        · simp only [if_neg hi, h4, w64_eq]
          have : (p.off + (a - p.fr) % 18446744073709551616) % 18446744073709551616 = ((p.off + (p.to - p.fr) % 18446744073709551616) % 18446744073709551616 + (a - r.fr) % 18446744073709551616) % 18446744073709551616 := by omega
          rw [this]
    · rw [if_neg (by omega), if_neg c1, if_neg c2]
      rfl

theorem push_law {A : List Reg} {r : Reg} (hs : Sound A) (hl : Loose A) (hr : Rg.one r = true) (hro : r.Ok) (hlt : ∀ x ∈ A, x.to ≤ r.fr) :
    Sound (Rg.push A r) ∧ Loose (Rg.push A r) ∧ (∀ x ∈ Rg.push A r, x.to ≤ r.to) ∧ ∀ a, Rg.ats (Rg.push A r) a = Rg.ats (A ++ [r]) a := by
  have hrr := one_spec hr
  rcases List.eq_nil_or_concat A with rfl | ⟨B, p, rfl⟩
  · rw [push_nil]
    exact ⟨⟨⟨by simp, by simp; omega⟩, by simp [hr], by intro x hx; simp at hx; subst hx; exact hro⟩, by simp [Loose], by simp, fun a => rfl⟩
  · rw [List.concat_eq_append] at *
    have hp := hs.one p (by simp)
    have hpo := hs.ok p (by simp)
    have hpp := one_spec hp
    obtain ⟨ha, hb, hc⟩ := apart_snoc.1 hs.apart
    obtain ⟨la, lb⟩ := loose_snoc.1 hl
    have hpr := hlt p (by simp)
    rw [push_snoc]
    by_cases hj : Rg.joins p r = true
    · rw [if_pos hj]
      obtain ⟨m1, m2⟩ := merged_one hp hr hpo hro hj
      refine ⟨⟨apart_snoc.2 ⟨ha, hb, by show p.fr < r.to; omega⟩, ?_, ?_⟩, loose_snoc.2 ⟨la, fun x hx => ?_⟩, ?_, fun a => ?_⟩
      · intro x hx
        simp at hx
        rcases hx with hx | rfl
        · exact hs.one x (by simp [hx])
        · exact m1
      · intro x hx
        simp at hx
        rcases hx with hx | rfl
        · exact hs.ok x (by simp [hx])
        · exact m2
      · have := lb x hx
        simpa [Rg.joins] using this
      · intro x hx
        simp at hx
        rcases hx with hx | rfl
        · have := hb x hx; omega
        · exact Int.le_refl _
      · rw [ats_append, merged_ats hp hr hj, ats_append, ats_append, ats_append, List.append_assoc]
    · rw [if_neg hj]
      refine ⟨⟨apart_snoc.2 ⟨hs.apart, hlt, hrr.1⟩, ?_, ?_⟩, loose_snoc.2 ⟨hl, fun x hx => ?_⟩, ?_, fun a => rfl⟩
      · intro x hx
        rw [List.mem_append] at hx
        rcases hx with hx | hx
        · exact hs.one x hx
        · simp at hx; subst hx; exact hr
      · intro x hx
        rw [List.mem_append] at hx
        rcases hx with hx | hx
        · exact hs.ok x hx
        · simp at hx; subst hx; exact hro
      · rw [List.mem_append] at hx
        rcases hx with hx | hx
        · have h1 := hb x hx
          unfold Rg.joins
          simp
          omega
        · simp at hx; subst hx
          simpa using hj
      · intro x hx
        rw [List.mem_append] at hx
        rcases hx with hx | hx
        · have := hlt x hx; omega
        · simp at hx; subst hx; exact Int.le_refl _

theorem joined_law {l : List Reg} (hs : Sound l) : Sound (Rg.joined l) ∧ Loose (Rg.joined l) ∧ ∀ a, Rg.ats (Rg.joined l) a = Rg.ats l a := by
  have key : ∀ (l A : List Reg), Sound A → Loose A → Sound l → (∀ x ∈ A, ∀ y ∈ l, x.to ≤ y.fr) → Sound (l.foldl Rg.push A) ∧ Loose (l.foldl Rg.push A) ∧ ∀ a, Rg.ats (l.foldl Rg.push A) a = Rg.ats (A ++ l) a := by
    intro l
    induction l with
    | nil => intro A h1 h2 _ _; exact ⟨h1, h2, fun a => by simp⟩
    | cons r l ih =>
      intro A h1 h2 h3 h4
      obtain ⟨q1, q2, q3, q4⟩ := push_law h1 h2 (h3.one r (by simp)) (h3.ok r (by simp)) (fun x hx => h4 x hx r (by simp))
      have hc := List.pairwise_cons.1 h3.apart.1
      obtain ⟨z1, z2, z3⟩ := ih (Rg.push A r) q1 q2 ⟨⟨hc.2, fun x hx => h3.apart.2 x (by simp [hx])⟩, fun x hx => h3.one x (by simp [hx]), fun x hx => h3.ok x (by simp [hx])⟩ (fun x hx y hy => by have := q3 x hx; have := hc.1 y hy; omega)
      refine ⟨z1, z2, fun a => ?_⟩
      rw [List.foldl_cons, z3 a, ats_append, q4 a, ats_append, ats_append, List.append_assoc, ← ats_append]
      rfl
  have := key l [] ⟨⟨by simp, by simp⟩, by simp, by intro x hx; simp at hx⟩ (by simp [Loose]) hs (by simp)
  simpa [Rg.joined] using this
theorem right_of {l : List Reg} (hs : Sound l) (hl : Loose l) (hn : l.length ≤ 64) : Rg.right l = true := by
  unfold Rg.right
  rw [Bool.and_eq_true, List.all_eq_true]
  refine ⟨fun k hk => ?_, by simpa using hn⟩
  have hk' : k < l.length := List.mem_range.1 hk
  have e := List.getElem?_eq_getElem hk'
  cases k with
  | zero =>
    unfold Rg.okAt
    rw [e]
    simp [hs.one _ (List.getElem_mem hk')]
  | succ j =>
    have e2 := List.getElem?_eq_getElem (show j < l.length by omega)
    rw [okAt_succ e e2, hs.one _ (List.getElem_mem hk')]
    have h1 := List.pairwise_iff_getElem.1 hs.apart.1 j (j + 1) (by omega) hk' (by omega)
    have h2 := List.pairwise_iff_getElem.1 hl j (j + 1) (by omega) hk' (by omega)
    simp [h1, h2]

end Go.Proofs.Ytdkhgofnhemhmaa
