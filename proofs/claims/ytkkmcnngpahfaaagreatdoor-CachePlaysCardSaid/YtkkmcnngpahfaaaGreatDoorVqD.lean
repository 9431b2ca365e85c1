/- The cache's laws, plain: each frame is counted by the slots that point to it and by who holds it; what the slots' frames hold; what is done. -/
import Derived.Test.YtkkmcnngpahfaaaGreatDoorCaZ
import Derived.Test.YtkkmcnngpahfaaaGreatDoorVpZ
namespace Go.Proofs.YtkkmcnngpahfaaaGreatDoor
set_option linter.unusedSimpArgs false
set_option linter.unusedVariables false

def cntL (l : List Nat) : Nat → Nat := fun f => l.count f
theorem cntL_snoc (l : List Nat) (f : Nat) : cntL (l ++ [f]) = upd (cntL l) f (cntL l f + 1) := by
  funext x
  unfold cntL
  rw [List.count_append]
  by_cases e : x = f
  · subst e; rw [upd_same]; simp
  · rw [upd_ne _ _ e, List.count_singleton]
    have : (f == x) = false := beq_eq_false_iff_ne.2 fun h => e h.symm
    rw [this]
    simp
theorem cntL_erase {l : List Nat} {i f : Nat} (h : l[i]? = some f) : cntL (l.eraseIdx i) = upd (cntL l) f (cntL l f - 1) := by
  obtain ⟨hi, he⟩ := List.getElem?_eq_some_iff.1 h
  have e1 : l = l.take i ++ f :: l.drop (i + 1) := by
    rw [← he, ← List.drop_eq_getElem_cons hi, List.take_append_drop]
  have e2 : l.eraseIdx i = l.take i ++ l.drop (i + 1) := List.eraseIdx_eq_take_drop_succ _ _
  funext x
  have e3 : cntL l x = (l.take i).count x + (f :: l.drop (i + 1)).count x := by
    unfold cntL
    rw [← List.count_append, ← e1]
  have e4 : cntL (l.eraseIdx i) x = (l.take i).count x + (l.drop (i + 1)).count x := by
    unfold cntL
    rw [e2, List.count_append]
  rw [List.count_cons] at e3
  by_cases e : x = f
  · subst e
    rw [upd_same, e4, e3]
    simp
  · rw [upd_ne _ _ e, e4, e3]
    have : (f == x) = false := beq_eq_false_iff_ne.2 fun h => e h.symm
    rw [this]
    simp
theorem cntL_pos {l : List Nat} {i f : Nat} (h : l[i]? = some f) : 0 < cntL l f := List.count_pos_iff.2 (List.mem_of_getElem? h)

/-- Each frame is counted by the slots that point to it, and as often as hold says. -/
def Even (p : Pool) (L : List Slot) (hold : Nat → Nat) : Prop := ∀ f, f < p.n → p.cnt f = slotN L f + hold f
structure Took8 (p : Pool) (L : List Slot) (hold : Nat → Nat) (f : Nat) (p' : Pool) (L' : List Slot) : Prop where
  even : Even p' L' (upd hold f 1)
  lt : f < p.n
  n : p'.n = p.n
  none : hold f = 0
  zero : p'.dat f = fun _ => 0
  dat : ∀ x, x ≠ f → p'.dat x = p.dat x
  sole : Sole L'
  one : p'.cnt f = 1
  cnt : ∀ x, x ≠ f → p'.cnt x = p.cnt x
  noSlot : slotN L' f = 0
  sub : L'.Sublist L
  keep : ∀ s ∈ L, 2 ≤ p.cnt s.frame → s ∈ L'
theorem Even.take {p p' : Pool} {L L' : List Slot} {hold : Nat → Nat} {f : Nat} (h : Even p L hold) (hS : Sole L) (ht : TakeRes p L 0 f p' L') : Took8 p L hold f p' L' := by
  have hsub := ht.sub
  cases ht with
  | free _ hl =>
    obtain ⟨h1, h2, h3⟩ := lowest_some hl
    have hc := h f h1
    refine ⟨fun g hg => ?_, h1, rfl, by omega, upd_same _ _ _, fun x hx => upd_ne _ _ hx, hS, upd_same _ _ _, fun x hx => upd_ne _ _ hx, by omega, hsub, fun s hs _ => hs⟩
    by_cases e : g = f
    · subst e
      rw [upd_same]
      show upd p.cnt g 1 g = _
      rw [upd_same]
      omega
    · rw [upd_ne _ _ e]
      show upd p.cnt f 1 g = _
      rw [upd_ne _ _ e]
      exact h g hg
  | loose s hl hs hsn h1 hmin =>
    have hc := h s.frame hsn
    have hp := slotN_pos hs
    have hd := slotN_drop hS hs
    have hd0 := hd s.frame
    rw [if_pos rfl] at hd0
    refine ⟨fun g hg => ?_, hsn, rfl, by omega, upd_same _ _ _, fun x hx => upd_ne _ _ hx, hS.drop _, upd_same _ _ _, fun x hx => ?_, by omega, hsub, fun t ht h2 => ?_⟩
    · by_cases e : g = s.frame
      · subst e
        rw [upd_same]
        show upd (upd p.cnt s.frame _) s.frame 1 s.frame = _
        rw [upd_same]
        omega
      · rw [upd_ne _ _ e]
        show upd (upd p.cnt s.frame _) s.frame 1 g = _
        rw [upd_ne _ _ e, upd_ne _ _ e]
        have h2 := hd g
        rw [if_neg (fun e1 => e e1.symm)] at h2
        rw [h g hg]
        omega
    · show upd (upd p.cnt s.frame _) s.frame 1 x = p.cnt x
      rw [upd_ne _ _ hx, upd_ne _ _ hx]
    · refine List.mem_filter.2 ⟨ht, ?_⟩
      cases hq : Slot.at s.ino s.page t with
      | false => rfl
      | true =>
        exfalso
        have e := Slot.at_iff.1 hq
        have e2 := hS.eq ht hs e
        subst e2
        omega

/-- What a page of a file is, with noughts behind. -/
def pageR (F : List Nd) (ino page : Int) : Int × Nat × (Nat → Nat) := readR F ino (page * 4096).toNat
def pageD (F : List Nd) (ino page : Int) : Nat → Nat := laid (fun _ => 0) (pageR F ino page).2.2 0 (pageR F ino page).2.1
def Filled (F : List Nd) (p : Pool) (L : List Slot) : Prop := ∀ s ∈ L, p.dat s.frame = pageD F s.ino s.page ∧ (pageR F s.ino s.page).1 = 0 ∧ 0 ≤ s.page ∧ s.page < 16
abbrev GetF (F : List Nd) (ino page : Int) (p : Pool) (L : List Slot) (clock : Int) (r : Int) (f : Nat) (p' : Pool) (L' : List Slot) (clock' : Int) : Prop :=
  GetRes ino page (pageR F ino page).1 (pageR F ino page).2.1 (pageR F ino page).2.2 p L clock r f p' L' clock'
theorem slotN_none {L : List Slot} {f : Nat} (h : slotN L f = 0) : ∀ s ∈ L, s.frame ≠ f := fun s hs e => by
  have := slotN_pos hs
  rw [e] at this
  omega
theorem Took8.filled {F : List Nd} {p p' : Pool} {L L' : List Slot} {hold : Nat → Nat} {f : Nat} (h : Took8 p L hold f p' L') (hf : Filled F p L) : Filled F p' L' := fun s hs => by
  rw [h.dat _ (slotN_none h.noSlot s hs)]
  exact hf s (h.sub.subset hs)
structure Got8 (F : List Nd) (ino page : Int) (p : Pool) (L : List Slot) (hold : Nat → Nat) (r : Int) (f : Nat) (p' : Pool) (L' : List Slot) : Prop where
  even : Even p' L' hold
  n : p'.n = p.n
  sole : Sole L'
  filled : Filled F p' L'
  there : r = 0 → f < p.n ∧ 1 ≤ p'.cnt f ∧ (∃ s ∈ L', s.ino = ino ∧ s.page = page ∧ s.frame = f) ∧ (pageR F ino page).1 = 0 ∧ 0 ≤ page ∧ page < 16
  keep : ∀ s ∈ L, 2 ≤ p.cnt s.frame → ∃ t ∈ L', t.ino = s.ino ∧ t.page = s.page ∧ t.frame = s.frame
  cntk : ∀ s ∈ L, 2 ≤ p.cnt s.frame → p'.cnt s.frame = p.cnt s.frame ∧ p'.dat s.frame = p.dat s.frame
theorem slPut_has {L : List Slot} {s : Slot} : s ∈ slPut L s := by
  unfold slPut
  split
  · next h =>
    obtain ⟨x, hx, hx2⟩ := List.any_eq_true.1 h
    exact List.mem_map.2 ⟨x, hx, by rw [if_pos hx2]⟩
  · exact List.mem_append_right _ (List.mem_singleton.2 rfl)
theorem slPut_keep {L : List Slot} {s t : Slot} (ht : t ∈ L) : t ∈ slPut L s ∨ (Slot.at s.ino s.page t = true) := by
  by_cases hc : Slot.at s.ino s.page t = true
  · exact .inr hc
  · left
    unfold slPut
    split
    · exact List.mem_map.2 ⟨t, ht, by rw [if_neg hc]⟩
    · exact List.mem_append_left _ ht
theorem Even.get {F : List Nd} {ino page : Int} {p p' : Pool} {L L' : List Slot} {hold : Nat → Nat} {clock clock' r : Int} {f : Nat} (h : Even p L hold) (hS : Sole L) (hfl : Filled F p L) (hlt : ∀ s ∈ L, s.frame < p.n) (hg : GetF F ino page p L clock r f p' L' clock') :
    Got8 F ino page p L hold r f p' L' := by
  cases hg with
  | bad h1 => exact ⟨h, rfl, hS, hfl, (fun e => by cases e), fun s hs _ => ⟨s, hs, rfl, rfl, rfl⟩, fun s hs _ => ⟨rfl, rfl⟩⟩
  | err h1 h2 h3 => exact ⟨h, rfl, hS, hfl, fun e => absurd e h3, fun s hs _ => ⟨s, hs, rfl, rfl, rfl⟩, fun s hs _ => ⟨rfl, rfl⟩⟩
  | hit s h0 h1 hr hs =>
    obtain ⟨hs, hi, hp⟩ := find_some_at hs
    refine ⟨fun g hg => ?_, rfl, slPut_sole hS _, fun t ht => ?_, fun _ => ⟨hlt s hs, ?_, ⟨_, slPut_has, rfl, rfl, rfl⟩, hr, h0, h1⟩, fun t ht _ => ?_, fun t ht _ => ⟨rfl, rfl⟩⟩
    · rw [slotN_old (s0 := s) (s := ⟨ino, page, s.frame, clock + 1⟩) hS hs hi hp rfl]
      exact h g hg
    · rcases slPut_mem ht with e | e
      · exact hfl t e
      · subst e
        have := hfl s hs
        rw [hi, hp] at this
        exact this
    · have := h s.frame (hlt s hs)
      have := slotN_pos hs
      omega
    · rcases slPut_keep (s := ⟨ino, page, s.frame, clock + 1⟩) ht with e | e
      · exact ⟨t, e, rfl, rfl, rfl⟩
      · have e1 := Slot.at_iff.1 e
        have e2 := hS.eq ht hs ⟨e1.1.trans hi.symm, e1.2.trans hp.symm⟩
        subst e2
        exact ⟨_, slPut_has, hi.symm, hp.symm, rfl⟩
  | full h0 h1 hr hn ht => exact ⟨h, rfl, hS, hfl, (fun e => by cases e), fun s hs _ => ⟨s, hs, rfl, rfl, rfl⟩, fun s hs _ => ⟨rfl, rfl⟩⟩
  | miss f p1 L1 h0 h1 hr hn ht =>
    have hT := h.take hS ht
    have hno := none_sub (find_none_any hn) ht.sub
    refine ⟨fun g hg => ?_, hT.n, slPut_sole hT.sole _, fun t ht2 => ?_, fun _ => ⟨hT.lt, ?_, ⟨_, slPut_has, rfl, rfl, rfl⟩, hr, h0, h1⟩, fun t ht2 h2 => ?_, fun t ht2 h2 => ?_⟩
    · rw [slotN_new (s := ⟨ino, page, f, clock + 1⟩) hno]
      have h3 := hT.even g hg
      have h4 := hT.none
      show p1.cnt g = _
      by_cases e : g = f
      · subst e
        rw [upd_same] at h3
        rw [if_pos rfl]
        omega
      · rw [upd_ne _ _ e] at h3
        rw [if_neg (fun e1 => e e1.symm)]
        omega
    · rcases slPut_mem ht2 with e | e
      · have h9 := hT.filled hfl t e
        exact ⟨(upd_ne _ _ (slotN_none hT.noSlot t e)).trans h9.1, h9.2⟩
      · subst e
        refine ⟨?_, hr, h0, h1⟩
        show upd p1.dat f _ f = _
        rw [upd_same, hT.zero]
        rfl
    · show 1 ≤ p1.cnt f
      rw [hT.one]
      omega
    · have hk := hT.keep t ht2 h2
      rcases slPut_keep (s := ⟨ino, page, f, clock + 1⟩) hk with e | e
      · exact ⟨t, e, rfl, rfl, rfl⟩
      · exfalso
        have := List.any_eq_false.1 hno t hk
        exact this e
    · have hk := hT.keep t ht2 h2
      have hne := slotN_none hT.noSlot t hk
      exact ⟨hT.cnt _ hne, (upd_ne _ _ hne).trans (hT.dat _ hne)⟩

end Go.Proofs.YtkkmcnngpahfaaaGreatDoor
