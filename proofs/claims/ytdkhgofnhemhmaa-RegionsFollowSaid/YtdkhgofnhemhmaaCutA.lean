/- Regions: the plain laws of Cut and Protect. -/
import Derived.Test.YtdkhgofnhemhmaaRegR
namespace Go.Proofs.Ytdkhgofnhemhmaa
open Go.RowKit Go.Sort
set_option linter.unusedSimpArgs false
set_option linter.unusedVariables false

def Rg.stretch (l : List Reg) (f t : Int) : Bool := Rg.right l && Rg.one ⟨f, t, 0, -1, 0⟩
def Rg.cut (l : List Reg) (f t : Int) : List Reg × Int := if Rg.stretch l f t = true then Rg.few (Rg.without l f t) else ([], 1)

theorem stretch_spec {l : List Reg} {f t : Int} (h : Rg.stretch l f t = true) : Rg.right l = true ∧ f < t ∧ t ≤ 140737488355328 := by
  unfold Rg.stretch at h
  rw [Bool.and_eq_true] at h
  have := one_spec h.2
  exact ⟨h.1, this.1, this.2.1⟩

/-- No two can be one, whichever. -/
def Loose (l : List Reg) : Prop := l.Pairwise (fun a b => Rg.joins a b = false)

theorem right_loose {l : List Reg} (h : Rg.right l = true) : Loose l := by
  have hap := right_apart h
  unfold Loose
  rw [List.pairwise_iff_getElem]
  intro i j hi hj hij
  by_cases e : j = i + 1
  · subst e
    exact (right_next h (List.getElem?_eq_getElem hi) (List.getElem?_eq_getElem hj)).2
  · have h1 := List.pairwise_iff_getElem.1 hap.1 i (i + 1) hi (by omega) (by omega)
    have h2 := List.pairwise_iff_getElem.1 hap.1 (i + 1) j (by omega) hj (by omega)
    have h3 := hap.2 (l[i + 1]'(by omega)) (List.getElem_mem _)
    unfold Rg.joins
    simp
    omega

theorem joins_of_pieces {f t : Int} {x y p r : Reg} (hft : f < t) (hx : x.Ok) (hy : y.Ok) (hxl : x.fr < x.to) (hyl : y.fr < y.to) (hxy : x.to ≤ y.fr) (hp : p ∈ Rg.wo1 f t x) (hr : r ∈ Rg.wo1 f t y) (hj : Rg.joins p r = true) : Rg.joins x y = true := by
  have hp1 := wo1_in hft hxl hp
  have hr1 := wo1_in hft hyl hr
  have hj' : p.to = r.fr ∧ p.prot = r.prot ∧ p.ino = r.ino ∧ (p.ino = -1 ∨ r.off = w64 (p.off + w64 (p.to - p.fr))) := by simpa [Rg.joins] using hj
  have kp : p.prot = x.prot ∧ p.ino = x.ino ∧ (p.ino = -1 ∨ p.off = w64 (x.off + w64 (p.fr - x.fr))) := by
    unfold Rg.wo1 at hp
    split at hp
    · simp at hp; subst hp
      refine ⟨rfl, rfl, .inr ?_⟩
      rw [Int.sub_self, w64_id (x := 0) (by omega) (by omega), Int.add_zero, w64_id hx.off0 hx.off1]
    · rw [List.mem_append] at hp
      rcases hp with hp | hp <;> split at hp
      · simp at hp; subst hp
        refine ⟨rfl, rfl, ?_⟩
        simp only [Rg.rpart]
        by_cases c : x.ino = -1
        · exact .inl c
        · rw [if_neg c]; exact .inr rfl
      · simp at hp
      · simp at hp; subst hp
        refine ⟨rfl, rfl, ?_⟩
        simp only [Rg.rpart]
        by_cases c : x.ino = -1
        · exact .inl c
        · rw [if_neg c]; exact .inr rfl
      · simp at hp
  have kr : r.prot = y.prot ∧ r.ino = y.ino ∧ (r.ino = -1 ∨ r.off = w64 (y.off + w64 (r.fr - y.fr))) := by
    unfold Rg.wo1 at hr
    split at hr
    · simp at hr; subst hr
      refine ⟨rfl, rfl, .inr ?_⟩
      rw [Int.sub_self, w64_id (x := 0) (by omega) (by omega), Int.add_zero, w64_id hy.off0 hy.off1]
    · rw [List.mem_append] at hr
      rcases hr with hr | hr <;> split at hr
      · simp at hr; subst hr
        refine ⟨rfl, rfl, ?_⟩
        simp only [Rg.rpart]
        by_cases c : y.ino = -1
        · exact .inl c
        · rw [if_neg c]; exact .inr rfl
      · simp at hr
      · simp at hr; subst hr
        refine ⟨rfl, rfl, ?_⟩
        simp only [Rg.rpart]
        by_cases c : y.ino = -1
        · exact .inl c
        · rw [if_neg c]; exact .inr rfl
      · simp at hr
  obtain ⟨j1, j2, j3, j4⟩ := hj'
  obtain ⟨a1, a2, a3⟩ := kp
  obtain ⟨b1, b2, b3⟩ := kr
  have e1 : p.to = x.to := by omega
  have e2 : y.fr = r.fr := by omega
  have hoy := hy.off0
  have hoy1 := hy.off1
  simp only [Rg.joins, decide_eq_true_eq]
  refine ⟨by omega, by omega, by omega, ?_⟩
  by_cases c : x.ino = -1
  · exact .inl c
  · right
    have j5 := j4.resolve_left (by omega)
    have a5 := a3.resolve_left (by omega)
    have b5 := b3.resolve_left (by omega)
    rw [← e2, Int.sub_self, w64_id (x := 0) (by omega) (by omega), Int.add_zero, w64_id hoy hoy1] at b5
    rw [← b5, j5, a5, e1]
    simp only [w64_eq]
    omega

theorem wo1_loose {f t : Int} {x : Reg} (hft : f < t) : (Rg.wo1 f t x).Pairwise (fun a b => Rg.joins a b = false) := by
  unfold Rg.wo1
  split
  · simp
  · split <;> split <;> simp [Rg.rpart, Rg.joins]
    omega
theorem without_loose {l : List Reg} {f t : Int} (h : Rg.right l = true) (hok : AllOk l) (hft : f < t) : Loose (Rg.without l f t) := by
  have hap := right_apart h
  have hlo := right_loose h
  unfold Loose Rg.without
  rw [List.pairwise_flatMap]
  refine ⟨fun x hx => wo1_loose hft, ?_⟩
  have hboth : l.Pairwise (fun a b => a.to ≤ b.fr ∧ Rg.joins a b = false) := by
    rw [List.pairwise_and_iff]
    exact ⟨hap.1, hlo⟩
  refine List.Pairwise.imp_of_mem (fun {a b} ha hb hab p hp r hr => ?_) hboth
  cases hj : Rg.joins p r with
  | false => rfl
  | true =>
    have := joins_of_pieces hft (hok a ha) (hok b hb) (hap.2 a ha) (hap.2 b hb) hab.1 hp hr hj
    rw [hab.2] at this
    cases this

theorem push_loose {acc : List Reg} {r : Reg} (h : ∀ p ∈ acc, Rg.joins p r = false) : Rg.push acc r = acc ++ [r] := by
  unfold Rg.push
  split
  · rfl
  · rename_i p hp
    rw [if_neg (by rw [h p (List.mem_of_getLast? hp)]; simp)]
theorem joined_loose {l : List Reg} (h : Loose l) : Rg.joined l = l := by
  have key : ∀ (l acc : List Reg), Loose (acc ++ l) → l.foldl Rg.push acc = acc ++ l := by
    intro l
    induction l with
    | nil => intro acc _; simp
    | cons r l ih =>
      intro acc ha
      have h1 : ∀ p ∈ acc, Rg.joins p r = false := fun p hp => by
        have := (List.pairwise_append.1 ha).2.2 p hp r (by simp)
        exact this
      rw [List.foldl_cons, push_loose h1, ih (acc ++ [r]) (by simpa using ha)]
      simp
  simpa [Rg.joined] using key l [] (by simpa using h)
theorem cut_law {l : List Reg} {f t : Int} (h : Rg.right l = true) (hok : AllOk l) (hft : f < t) : Rg.joined (Rg.run f t hGone l) = Rg.without l f t := by
  rw [run_gone (right_one h) hok hft, joined_loose (without_loose h hok hft)]

/-! ### Protect -/
def Rg.mid (f t p : Int) (x : Reg) : Reg := ⟨max x.fr f, min x.to t, p, x.ino, (Rg.rpart x (max x.fr f) (min x.to t)).off⟩
def Rg.mid1 (f t p : Int) (x : Reg) : List Reg := if x.to ≤ f ∨ t ≤ x.fr then [] else [Rg.mid f t p x]
def Rg.mids (f t p : Int) (l : List Reg) : List Reg := l.flatMap (Rg.mid1 f t p)
def Rg.prot (l : List Reg) (f t p : Int) : List Reg := (Rg.mids f t p l).foldl Rg.ins (Rg.without l f t)

theorem mids_take {f t p : Int} {l : List Reg} {k : Nat} {r : Reg} (hr : l[k]? = some r) : Rg.mids f t p (l.take (k + 1)) = Rg.mids f t p (l.take k) ++ Rg.mid1 f t p r := by
  rw [List.take_add_one, hr]
  simp [Rg.mids]

theorem ins_before {A B : List Reg} {m : Reg} (h : ∀ x ∈ A, ¬ m.fr < x.fr) : Rg.ins (A ++ B) m = A ++ Rg.ins B m := by
  induction A with
  | nil => rfl
  | cons x A ih =>
    simp only [List.cons_append, Rg.ins, if_neg (h x (by simp)), ih (fun y hy => h y (by simp [hy]))]
theorem ins_head {B : List Reg} {m : Reg} (h : ∀ x ∈ B, m.fr < x.fr) : Rg.ins B m = m :: B := by
  cases B with
  | nil => rfl
  | cons x B => simp [Rg.ins, h x (by simp)]
theorem foldl_ins_before {M A B : List Reg} (h : ∀ m ∈ M, ∀ x ∈ A, ¬ m.fr < x.fr) : M.foldl Rg.ins (A ++ B) = A ++ M.foldl Rg.ins B := by
  induction M generalizing B with
  | nil => rfl
  | cons m M ih =>
    rw [List.foldl_cons, List.foldl_cons, ins_before (h m (by simp)), ih (fun m' hm' => h m' (by simp [hm']))]

theorem mid_pc {f t p : Int} {x : Reg} (h : Rg.one x = true) (hlt : max x.fr f < min x.to t) : Rg.pc (hProt p x).1 (max x.fr f) (min x.to t) (hProt p x).2 = [Rg.mid f t p x] := by
  have := part_rpart h (max x.fr f) (min x.to t)
  simp only [hProt, pc_yes hlt, Rg.mid, ← this]
  rfl
theorem run1_prot {f t p : Int} {x : Reg} (h : Rg.one x = true) (hok : x.Ok) (hft : f < t) :
    Rg.run1 f t (hProt p) x = (if x.to ≤ f ∨ t ≤ x.fr then [x] else (if x.fr < f then [Rg.rpart x x.fr f] else []) ++ (Rg.mid f t p x :: (if t < x.to then [Rg.rpart x t x.to] else []))) := by
  have hlt := (one_spec h).1
  unfold Rg.run1
  by_cases c1 : x.to ≤ f
  · have e1 : Rg.pc (hProt p x).1 (max x.fr f) (min x.to t) (hProt p x).2 = [] := pc_no (by omega)
    rw [if_pos (.inl c1), e1, Int.min_eq_left c1, pc_yes hlt, Int.max_eq_right (by omega), pc_no (by omega), part_same h hok]
    rfl
  · by_cases c2 : t ≤ x.fr
    · have e1 : Rg.pc (hProt p x).1 (max x.fr f) (min x.to t) (hProt p x).2 = [] := pc_no (by omega)
      rw [if_pos (.inr c2), e1, Int.min_eq_right (by omega), pc_no (by omega), Int.max_eq_left (by omega), pc_yes hlt, part_same h hok]
      rfl
    · rw [if_neg (by omega), mid_pc h (by omega), Int.min_eq_right (a := x.to) (b := f) (by omega), Int.max_eq_right (a := x.fr) (b := t) (by omega)]
      congr 1
      · split
        · rename_i d; rw [pc_yes d, part_rpart h]
        · rename_i d; rw [pc_no d]
      · rw [List.cons_append, List.nil_append]
        congr 1
        split
        · rename_i d; rw [pc_yes d, part_rpart h]
        · rename_i d; rw [pc_no d]

theorem mids_in {f t p : Int} {l : List Reg} {m : Reg} (hm : m ∈ Rg.mids f t p l) : ∃ x ∈ l, x.fr ≤ m.fr := by
  obtain ⟨x, hx, hm⟩ := List.mem_flatMap.1 hm
  refine ⟨x, hx, ?_⟩
  unfold Rg.mid1 at hm
  split at hm
  · simp at hm
  · simp at hm; subst hm; simp only [Rg.mid]; omega

theorem prot_law {l : List Reg} {f t p : Int} (h1 : ∀ x ∈ l, Rg.one x = true) (hok : AllOk l) (hap : Apart l) (hft : f < t) : Rg.prot l f t p = Rg.run f t (hProt p) l := by
  unfold Rg.prot
  induction l with
  | nil => rfl
  | cons x l ih =>
    have hx := h1 x (by simp)
    have hxl := hap.2 x (by simp)
    have hhd := (List.pairwise_cons.1 hap.1).1
    have hap' : Apart l := ⟨(List.pairwise_cons.1 hap.1).2, fun y hy => hap.2 y (by simp [hy])⟩
    have ih' := ih (fun y hy => h1 y (by simp [hy])) (fun y hy => hok y (by simp [hy])) hap'
    have hW : ∀ y ∈ Rg.without l f t, x.to ≤ y.fr := fun y hy => by
      obtain ⟨z, hz, hy⟩ := List.mem_flatMap.1 hy
      have := wo1_in hft (hap'.2 z hz) hy
      have := hhd z hz
      omega
    have hM : ∀ m ∈ Rg.mids f t p l, x.to ≤ m.fr := fun m hm => by
      obtain ⟨z, hz, h2⟩ := mids_in hm
      have := hhd z hz
      omega
    have e1 : Rg.without (x :: l) f t = Rg.wo1 f t x ++ Rg.without l f t := by simp [Rg.without]
    have e2 : Rg.mids f t p (x :: l) = Rg.mid1 f t p x ++ Rg.mids f t p l := by simp [Rg.mids]
    have e3 : Rg.run f t (hProt p) (x :: l) = Rg.run1 f t (hProt p) x ++ Rg.run f t (hProt p) l := by simp [Rg.run]
    rw [e1, e2, e3, List.foldl_append, ← ih', run1_prot hx (hok x (by simp)) hft]
    unfold Rg.mid1 Rg.wo1
    by_cases c : x.to ≤ f ∨ t ≤ x.fr
    · rw [if_pos c, if_pos c, if_pos c]
      simp only [List.foldl_nil]
      exact foldl_ins_before (fun m hm y hy => by simp at hy; subst hy; have := hM m hm; omega)
    · rw [if_neg c, if_neg c, if_neg c]
      simp only [List.foldl_cons, List.foldl_nil]
      have hmf : (Rg.mid f t p x).fr = max x.fr f := rfl
      have step : Rg.ins ((if x.fr < f then [Rg.rpart x x.fr f] else []) ++ (if t < x.to then [Rg.rpart x t x.to] else []) ++ Rg.without l f t) (Rg.mid f t p x) =
          ((if x.fr < f then [Rg.rpart x x.fr f] else []) ++ (Rg.mid f t p x :: (if t < x.to then [Rg.rpart x t x.to] else []))) ++ Rg.without l f t := by
        rw [List.append_assoc, ins_before, ins_head]
        · simp
        · intro y hy
          rw [List.mem_append] at hy
          rcases hy with hy | hy
          · split at hy
            · simp at hy; subst hy; rw [hmf]; simp only [Rg.rpart]; omega
            · simp at hy
          · have := hW y hy
            rw [hmf]; omega
        · intro y hy
          split at hy
          · simp at hy; subst hy; rw [hmf]; simp only [Rg.rpart]; omega
          · simp at hy
      rw [step]
      refine foldl_ins_before (fun m hm y hy => ?_)
      have h2 := hM m hm
      rw [List.mem_append] at hy
      rcases hy with hy | hy
      · split at hy
        · simp at hy; subst hy; simp only [Rg.rpart]; omega
        · simp at hy
      · rw [List.mem_cons] at hy
        rcases hy with rfl | hy
        · rw [hmf]; omega
        · split at hy
          · simp at hy; subst hy; simp only [Rg.rpart]; omega
          · simp at hy

/-! ### is it covered? -/
def Rg.cov : List Reg → Int → Int → Bool
  | [], a, t => decide (t ≤ a)
  | r :: l, a, t => if a < t then (if r.fr ≤ a ∧ a < r.to then Rg.cov l r.to t else Rg.cov l a t) else true
theorem cov_done {l : List Reg} {a t : Int} (h : t ≤ a) : Rg.cov l a t = true := by
  cases l with
  | nil => simp [Rg.cov, h]
  | cons r l => simp only [Rg.cov, if_neg (show ¬ a < t by omega)]
theorem cov_none {l : List Reg} {a t : Int} (h : a < t) (hn : l.find? (Rg.holds · a) = none) : Rg.cov l a t = false := by
  induction l with
  | nil => simp [Rg.cov]; omega
  | cons r l ih =>
    rw [List.find?_cons] at hn
    split at hn
    · cases hn
    · rename_i hr
      have : ¬ (r.fr ≤ a ∧ a < r.to) := by simpa [Rg.holds] using hr
      rw [Rg.cov, if_pos h, if_neg this]
      exact ih hn
theorem cov_step {l : List Reg} {a t : Int} {r : Reg} (hap : Apart l) (h : a < t) (hf : l.find? (Rg.holds · a) = some r) : Rg.cov l a t = Rg.cov l r.to t := by
  induction l with
  | nil => simp at hf
  | cons x l ih =>
    have hap' : Apart l := ⟨(List.pairwise_cons.1 hap.1).2, fun y hy => hap.2 y (by simp [hy])⟩
    rw [List.find?_cons] at hf
    split at hf
    · rename_i hx
      injection hf with hf
      subst hf
      have hx' : x.fr ≤ a ∧ a < x.to := by simpa [Rg.holds] using hx
      rw [Rg.cov, if_pos h, if_pos hx', Rg.cov]
      by_cases c : x.to < t
      · rw [if_pos c, if_neg (by omega)]
      · rw [if_neg c]
        exact cov_done (by omega)
    · rename_i hx
      have hx' : ¬ (x.fr ≤ a ∧ a < x.to) := by simpa [Rg.holds] using hx
      have hr := List.mem_of_find?_eq_some hf
      have h1 := (List.pairwise_cons.1 hap.1).1 r hr
      have h2 := hap'.2 r hr
      rw [Rg.cov, if_pos h, if_neg hx', ih hap' hf, Rg.cov]
      by_cases c : r.to < t
      · rw [if_pos c, if_neg (by omega)]
      · rw [if_neg c]
        exact cov_done (by omega)

def Rg.protect (l : List Reg) (f t p : Int) : List Reg × Int := if Rg.stretch l f t = true ∧ p ≤ 7 then (if Rg.cov l f t = true then Rg.few (Rg.joined (Rg.run f t (hProt p) l)) else ([], 6)) else ([], 1)

end Go.Proofs.Ytdkhgofnhemhmaa
