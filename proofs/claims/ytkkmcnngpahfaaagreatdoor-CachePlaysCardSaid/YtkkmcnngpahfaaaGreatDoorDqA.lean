/- The document's cache, plain: its slots stand in the order in which they were asked for; what it answers is what the program answers. -/
import Derived.Test.YtkkmcnngpahfaaaGreatDoorVqD
namespace Go.Proofs.YtkkmcnngpahfaaaGreatDoor
set_option linter.unusedSimpArgs false
set_option linter.unusedVariables false

/-- The document's slots: those of the program, in the order of their asking. -/
structure Ord (L : List Slot) (clock : Int) (D : List Slot) : Prop where
  perm : D.Perm L
  up : D.Pairwise fun a b => a.asked < b.asked
  past : ∀ s ∈ L, s.asked ≤ clock
/-- What the document's Take comes to. -/
def dtake (p : Pool) (D : List Slot) : Int × Nat × Pool × List Slot := match p.lowest with
  | some f => (0, f, p.takeAt f, D)
  | none => match D.findIdx? (fun s => p.cnt s.frame == 1) with
    | none => (4, 0, p, D)
    | some i => match D[i]? with
      | none => (4, 0, p, D)
      | some s => (0, s.frame, (p.down s.frame).takeAt s.frame, D.eraseIdx i)
theorem dtake_free {p : Pool} {D : List Slot} {f : Nat} (h : p.lowest = some f) : dtake p D = (0, f, p.takeAt f, D) := by
  unfold dtake; rw [h]
theorem dtake_none {p : Pool} {D : List Slot} (h : p.lowest = none) (hn : ∀ s ∈ D, p.cnt s.frame ≠ 1) : dtake p D = (4, 0, p, D) := by
  have h1 : D.findIdx? (fun s => p.cnt s.frame == 1) = none := by
    rw [List.findIdx?_eq_none_iff]
    intro s hs
    exact beq_eq_false_iff_ne.2 (hn s hs)
  unfold dtake; simp only [h, h1]
theorem findIdx_at {D : List Slot} {q : Slot → Bool} {i : Nat} {s : Slot} (hs : D[i]? = some s) (hq : q s = true) (hb : ∀ j t, j < i → D[j]? = some t → q t = false) : D.findIdx? q = some i := by
  obtain ⟨hi, he⟩ := List.getElem?_eq_some_iff.1 hs
  rw [List.findIdx?_eq_some_iff_getElem]
  refine ⟨hi, by rw [he]; exact hq, fun j hj => ?_⟩
  rw [hb j _ hj (List.getElem?_eq_getElem (by omega))]
  simp
theorem dtake_loose {p : Pool} {D : List Slot} {i : Nat} {s : Slot} (h : p.lowest = none) (hs : D[i]? = some s) (h1 : p.cnt s.frame = 1) (hb : ∀ j t, j < i → D[j]? = some t → p.cnt t.frame ≠ 1) : dtake p D = (0, s.frame, (p.down s.frame).takeAt s.frame, D.eraseIdx i) := by
  have h2 := findIdx_at (q := fun s => p.cnt s.frame == 1) hs (beq_iff_eq.2 h1) (fun j t hj ht => beq_eq_false_iff_ne.2 (hb j t hj ht))
  unfold dtake
  simp only [h, h2, hs]
theorem Sole.perm {L D : List Slot} (hS : Sole L) (h : L.Perm D) : Sole D := List.Perm.pairwise h hS fun e e2 => e ⟨e2.1.symm, e2.2.symm⟩
theorem Ord.sole {L D : List Slot} {clock : Int} (h : Ord L clock D) (hS : Sole L) : Sole D := hS.perm h.perm.symm
theorem Ord.lt {L D : List Slot} {clock : Int} (h : Ord L clock D) {i j : Nat} {s t : Slot} (hs : D[i]? = some s) (ht : D[j]? = some t) (hij : i < j) : s.asked < t.asked := by
  obtain ⟨h1, e1⟩ := List.getElem?_eq_some_iff.1 hs
  obtain ⟨h2, e2⟩ := List.getElem?_eq_some_iff.1 ht
  subst e1 e2
  exact List.pairwise_iff_getElem.1 h.up i j h1 h2 hij
theorem Ord.erase {L D : List Slot} {clock : Int} (h : Ord L clock D) (hS : Sole L) {i : Nat} {s : Slot} (hs : D[i]? = some s) : Ord (L.filter fun x => !Slot.at s.ino s.page x) clock (D.eraseIdx i) := by
  refine ⟨?_, h.up.sublist (List.eraseIdx_sublist _ _), fun t ht => h.past t (List.mem_filter.1 ht).1⟩
  rw [erase_filter (h.sole hS) hs]
  exact h.perm.filter _
theorem take_same {p p' : Pool} {L L' D : List Slot} {clock r : Int} {f : Nat} (h : Ord L clock D) (hS : Sole L) (hlow : ∀ s ∈ L, s.frame < p.n) (ht : TakeRes p L r f p' L') :
    ∃ D', dtake p D = (r, f, p', D') ∧ Ord L' clock D' := by
  have hcb : ∀ t ∈ L, countB p (t.frame : Int) = p.cnt t.frame := fun t ht => countB_nat (hlow t ht)
  cases ht with
  | free _ hl => exact ⟨D, dtake_free hl, h⟩
  | none hl hn => exact ⟨D, dtake_none hl fun s hs => by have h1 := h.perm.mem_iff.1 hs; rw [← hcb s h1]; exact hn s h1, h⟩
  | loose s hl hs hsn h1 hmin =>
    obtain ⟨i, hi, he⟩ := List.mem_iff_getElem.1 (h.perm.mem_iff.2 hs)
    have hsi : D[i]? = some s := by rw [List.getElem?_eq_getElem hi, he]
    have hb : ∀ j t, j < i → D[j]? = some t → p.cnt t.frame ≠ 1 := fun j t hj htj e => by
      have h2 := h.lt htj hsi hj
      have h3 := h.perm.mem_iff.1 (List.mem_of_getElem? htj)
      have h4 := hmin t h3 (by rw [hcb t h3, e])
      omega
    exact ⟨D.eraseIdx i, dtake_loose hl hsi h1 hb, h.erase hS hsi⟩
/-- What the document's Get comes to. -/
def dget (F : List Nd) (ino page : Int) (p : Pool) (D : List Slot) (clock : Int) : Int × Nat × Pool × List Slot :=
  if page < 0 ∨ 16 ≤ page then (1, 0, p, D) else if (pageR F ino page).1 ≠ 0 then ((pageR F ino page).1, 0, p, D) else
  match D.findIdx? (Slot.at ino page) with
  | some i => match D[i]? with
    | some s => (0, s.frame, p, D.eraseIdx i ++ [⟨ino, page, s.frame, clock + 1⟩])
    | none => (0, 0, p, D)
  | none => if (dtake p D).1 ≠ 0 then ((dtake p D).1, 0, (dtake p D).2.2.1, (dtake p D).2.2.2) else
    (0, (dtake p D).2.1, (dtake p D).2.2.1.store (dtake p D).2.1 (laid ((dtake p D).2.2.1.dat (dtake p D).2.1) (pageR F ino page).2.2 0 (pageR F ino page).2.1), (dtake p D).2.2.2 ++ [⟨ino, page, (dtake p D).2.1, clock + 1⟩])
theorem up_snoc {D : List Slot} {s : Slot} {clock : Int} (h : D.Pairwise fun a b => a.asked < b.asked) (hp : ∀ t ∈ D, t.asked ≤ clock) (hs : s.asked = clock + 1) : (D ++ [s]).Pairwise fun a b => a.asked < b.asked := by
  rw [List.pairwise_append]
  refine ⟨h, List.pairwise_singleton _ _, fun a ha b hb => ?_⟩
  rw [List.mem_singleton] at hb
  subst hb
  have := hp a ha
  omega
/-- One that is there is asked for again. -/
theorem put_again {L : List Slot} {s t : Slot} (hS : Sole L) (hs : s ∈ L) (hi : t.ino = s.ino) (hp : t.page = s.page) : ((L.filter fun x => !Slot.at s.ino s.page x) ++ [t]).Perm (slPut L t) := by
  have hany : L.any (Slot.at t.ino t.page) = true := List.any_eq_true.2 ⟨s, hs, Slot.at_iff.2 ⟨hi.symm, hp.symm⟩⟩
  unfold slPut
  rw [if_pos hany, hi, hp]
  induction L with
  | nil => cases hs
  | cons x L ih =>
    have hSx := List.pairwise_cons.1 hS
    by_cases hx : Slot.at s.ino s.page x = true
    · have hno : ∀ y ∈ L, Slot.at s.ino s.page y = false := fun y hy => by
        cases hq : Slot.at s.ino s.page y with
        | false => rfl
        | true =>
          have e1 := Slot.at_iff.1 hx
          have e2 := Slot.at_iff.1 hq
          exact absurd ⟨e1.1.trans e2.1.symm, e1.2.trans e2.2.symm⟩ (hSx.1 y hy)
      have e1 : (L.filter fun x => !Slot.at s.ino s.page x) = L := List.filter_eq_self.2 fun y hy => by rw [hno y hy]; rfl
      have e2 : (L.map fun x => if Slot.at s.ino s.page x = true then t else x) = L := by
        conv => rhs; rw [← List.map_id L]
        refine List.map_congr_left fun y hy => ?_
        rw [if_neg (by rw [hno y hy]; simp)]
        rfl
      rw [List.map_cons, if_pos hx, List.filter_cons_of_neg (by rw [hx]; simp), e1, e2]
      exact List.perm_append_comm
    · have hs2 : s ∈ L := by
        rcases List.mem_cons.1 hs with e | e
        · subst e; exact absurd (Slot.at_iff.2 ⟨rfl, rfl⟩) hx
        · exact e
      have hany2 : L.any (Slot.at t.ino t.page) = true := List.any_eq_true.2 ⟨s, hs2, Slot.at_iff.2 ⟨hi.symm, hp.symm⟩⟩
      rw [List.map_cons, if_neg hx, List.filter_cons_of_pos (by simpa using hx), List.cons_append]
      exact (ih hSx.2 hs2 hany2).cons x
theorem get_same {F : List Nd} {ino page : Int} {p p' : Pool} {L L' D : List Slot} {clock clock' r : Int} {f : Nat} (h : Ord L clock D) (hS : Sole L) (hlow : ∀ s ∈ L, s.frame < p.n) (hg : GetF F ino page p L clock r f p' L' clock') :
    ∃ D', dget F ino page p D clock = (r, f, p', D') ∧ Ord L' clock' D' := by
  have hD : ∀ t ∈ D, t.asked ≤ clock := fun t ht => h.past t (h.perm.mem_iff.1 ht)
  have past2 : ∀ {M : List Slot} {g : Nat}, (∀ s ∈ M, s.asked ≤ clock) → ∀ s ∈ slPut M ⟨ino, page, g, clock + 1⟩, s.asked ≤ clock + 1 := fun hM s hs => by
    rcases slPut_mem hs with e | e
    · have := hM s e; omega
    · subst e; exact Int.le_refl _
  cases hg with
  | bad h1 => exact ⟨D, by unfold dget; rw [if_pos h1], h⟩
  | err h0 h1 hr => exact ⟨D, by unfold dget; rw [if_neg (by omega), if_pos hr], h⟩
  | hit s h0 h1 hr hs =>
    obtain ⟨hsL, e1, e2⟩ := find_some_at hs
    obtain ⟨i, hi, he⟩ := List.mem_iff_getElem.1 (h.perm.mem_iff.2 hsL)
    have hsi : D[i]? = some s := by rw [List.getElem?_eq_getElem hi, he]
    have hfi : D.findIdx? (Slot.at ino page) = some i := findIdx_at hsi (Slot.at_iff.2 ⟨e1, e2⟩) fun j t hj ht => by
      cases hq : Slot.at ino page t with
      | false => rfl
      | true =>
        have e3 := Slot.at_iff.1 hq
        have e4 := (h.sole hS).eq (List.mem_of_getElem? ht) (List.mem_of_getElem? hsi) ⟨e3.1.trans e1.symm, e3.2.trans e2.symm⟩
        subst e4
        have := h.lt ht hsi hj
        omega
    refine ⟨D.eraseIdx i ++ [⟨ino, page, s.frame, clock + 1⟩], by unfold dget; simp only [hfi, hsi]; rw [if_neg (by omega), if_neg (by rw [hr]; simp)], ?_, ?_, past2 h.past⟩
    · have h9 := h.erase hS hsi
      exact (h9.perm.append_right _).trans (put_again hS hsL e1.symm e2.symm)
    · exact up_snoc (h.erase hS hsi).up (fun t ht => hD t ((List.eraseIdx_sublist _ _).subset ht)) rfl
  | full h0 h1 hr hn ht =>
    have hfi : D.findIdx? (Slot.at ino page) = none := by
      rw [List.findIdx?_eq_none_iff]
      intro s hs
      have := List.find?_eq_none.1 hn s (h.perm.mem_iff.1 hs)
      simpa using this
    obtain ⟨D', hd, hO⟩ := take_same h hS hlow ht
    refine ⟨D', ?_, hO⟩
    unfold dget
    simp only [hfi, hd]
    rw [if_neg (by omega), if_neg (by rw [hr]; simp), if_pos (by decide)]
  | miss f p1 L1 h0 h1 hr hn ht =>
    have hfi : D.findIdx? (Slot.at ino page) = none := by
      rw [List.findIdx?_eq_none_iff]
      intro s hs
      have := List.find?_eq_none.1 hn s (h.perm.mem_iff.1 hs)
      simpa using this
    obtain ⟨D', hd, hO⟩ := take_same h hS hlow ht
    refine ⟨D' ++ [⟨ino, page, f, clock + 1⟩], ?_, ?_, ?_, past2 hO.past⟩
    · unfold dget
      simp only [hfi, hd]
      rw [if_neg (by omega), if_neg (by rw [hr]; simp), if_neg (by simp)]
    · have hno := none_sub (find_none_any hn) ht.sub
      unfold slPut
      rw [if_neg (by rw [hno]; simp)]
      exact hO.perm.append_right _
    · exact up_snoc hO.up (fun t ht => hO.past t (hO.perm.mem_iff.1 ht)) rfl
/-- The document lays a slot among rising ones. -/
def below2 (a b : Slot) : Bool := decide (a.ino < b.ino ∨ a.ino = b.ino ∧ a.page < b.page)
def insS (s : Slot) (l : List Slot) : List Slot := (l.takeWhile fun x => below2 x s) ++ s :: (l.dropWhile fun x => below2 x s)
def sortD (D : List Slot) : List Slot := D.foldl (fun l s => insS s l) []
theorem insS_perm (s : Slot) (l : List Slot) : (insS s l).Perm (s :: l) := by
  unfold insS
  refine List.perm_middle.trans ?_
  rw [List.takeWhile_append_dropWhile]
theorem below2_trans {a b c : Slot} (h1 : below2 a b = true) (h2 : below2 b c = true) : below2 a c = true := by
  unfold below2 at *
  simp only [decide_eq_true_eq] at *
  omega
theorem rising_ins {s : Slot} {l : List Slot} (h : l.Pairwise fun a b => below2 a b = true) (hn : ∀ t ∈ l, ¬ (t.ino = s.ino ∧ t.page = s.page)) : (insS s l).Pairwise fun a b => below2 a b = true := by
  induction l with
  | nil => exact List.pairwise_singleton _ _
  | cons x l ih =>
    obtain ⟨h1, h2⟩ := List.pairwise_cons.1 h
    unfold insS
    by_cases hx : below2 x s = true
    · rw [List.takeWhile_cons_of_pos (p := fun x => below2 x s) hx, List.dropWhile_cons_of_pos (p := fun x => below2 x s) hx, List.cons_append, List.pairwise_cons]
      refine ⟨fun y hy => ?_, ih h2 fun t ht => hn t (List.mem_cons_of_mem _ ht)⟩
      rcases List.mem_cons.1 ((insS_perm s l).mem_iff.1 hy) with e | e
      · subst e; exact hx
      · exact h1 y e
    · rw [List.takeWhile_cons_of_neg (p := fun x => below2 x s) hx, List.dropWhile_cons_of_neg (p := fun x => below2 x s) hx, List.nil_append, List.pairwise_cons]
      have hsx : below2 s x = true := by
        have := hn x List.mem_cons_self
        unfold below2 at *
        simp only [decide_eq_true_eq] at *
        omega
      refine ⟨fun y hy => ?_, h⟩
      rcases List.mem_cons.1 hy with e | e
      · subst e; exact hsx
      · exact below2_trans hsx (h1 y e)
theorem sortD_law (D M : List Slot) (hM : M.Pairwise fun a b => below2 a b = true) (hD : Sole (M ++ D)) : (D.foldl (fun l s => insS s l) M).Perm (M ++ D) ∧ (D.foldl (fun l s => insS s l) M).Pairwise fun a b => below2 a b = true := by
  induction D generalizing M with
  | nil => exact ⟨by simp, hM⟩
  | cons s D ih =>
    have hp := insS_perm s M
    have hS : Sole (M ++ s :: D) := hD
    unfold Sole at hS
    rw [List.pairwise_append] at hS
    have h1 := rising_ins (s := s) hM fun t ht => hS.2.2 t ht s List.mem_cons_self
    have hp2 : (insS s M ++ D).Perm (M ++ s :: D) := (hp.append_right D).trans (by simpa using (List.perm_middle (a := s) (l₁ := M) (l₂ := D)).symm)
    have hS2 : Sole (insS s M ++ D) := Sole.perm hD hp2.symm
    obtain ⟨h3, h4⟩ := ih (insS s M) h1 hS2
    exact ⟨h3.trans hp2, h4⟩
/-- Two rising rows of the same slots are one. -/
theorem rising_one {l m : List Slot} (hp : l.Perm m) (hl : l.Pairwise fun a b => below2 a b = true) (hm : m.Pairwise fun a b => below2 a b = true) : l = m := by
  refine List.Perm.eq_of_pairwise (le := fun a b => below2 a b = true) (fun a b _ _ h1 h2 => ?_) hl hm hp
  exfalso
  unfold below2 at h1 h2
  simp only [decide_eq_true_eq] at h1 h2
  omega
theorem sorted_same {L D l : List Slot} {clock : Int} (h : Ord L clock D) (hS : Sole L) (hp : l.Perm L) (hl : l.Pairwise fun a b => a.ino < b.ino ∨ a.ino = b.ino ∧ a.page < b.page) : sortD D = l := by
  obtain ⟨h1, h2⟩ := sortD_law D [] List.Pairwise.nil (h.sole hS)
  exact rising_one ((h1.trans h.perm).trans hp.symm) h2 (hl.imp fun e => decide_eq_true e)

end Go.Proofs.YtkkmcnngpahfaaaGreatDoor
