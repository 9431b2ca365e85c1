/- The cache's laws, plain: the room that Take finds; Get again; what a held slot holds. -/
import Derived.Test.YtmkgdgfbdmjeeaaDoorVqE
import Derived.Test.YtmkgdgfbdmjeeaaDoorSlB
namespace Go.Proofs.YtmkgdgfbdmjeeaaDoor
set_option linter.unusedSimpArgs false
set_option linter.unusedVariables false

def loose (p : Pool) (L : List Slot) : Nat := L.countP fun s => p.cnt s.frame == 1
theorem countP_drop {L : List Slot} (h : Sole L) {s : Slot} (hs : s ∈ L) (q : Slot → Bool) (hq : q s = true) : (L.filter fun x => !Slot.at s.ino s.page x).countP q + 1 = L.countP q := by
  induction L with
  | nil => cases hs
  | cons x l ih =>
    have hp := List.pairwise_cons.1 h
    rcases List.mem_cons.1 hs with rfl | h1
    · rw [List.filter_cons_of_neg (by simp [Slot.at]), List.countP_cons]
      have e : (l.filter fun x => !Slot.at s.ino s.page x) = l := List.filter_eq_self.2 fun y hy => by
        cases hc : Slot.at s.ino s.page y with
        | false => rfl
        | true =>
          obtain ⟨a1, a2⟩ := Slot.at_iff.1 hc
          exact absurd ⟨a1.symm, a2.symm⟩ (hp.1 y hy)
      rw [e, if_pos hq]
    · have hx : (!Slot.at s.ino s.page x) = true := by
        cases hc : Slot.at s.ino s.page x with
        | false => rfl
        | true =>
          obtain ⟨a1, a2⟩ := Slot.at_iff.1 hc
          exact absurd ⟨a1, a2⟩ (hp.1 s h1)
      rw [List.filter_cons_of_pos (p := fun x => !Slot.at s.ino s.page x) hx, List.countP_cons, List.countP_cons, ← ih hp.2 h1]
      omega
theorem room_step {p p' : Pool} {L L' : List Slot} {hold : Nat → Nat} {f : Nat} (h : Even p L hold) (hS : Sole L) (hlt : ∀ s ∈ L, s.frame < p.n) (ht : TakeRes p L 0 f p' L') : p'.left + loose p' L' + 1 = p.left + loose p L := by
  cases ht with
  | free _ hl =>
    obtain ⟨h1, h2, h3⟩ := lowest_some hl
    have hu := freeTo_upd (c := p.cnt) (n := p.n) (f := f) (x := 1) h1
    rw [if_pos h2, if_neg (by omega)] at hu
    have e1 : (p.takeAt f).left + 1 = p.left := by
      show freeTo (upd p.cnt f 1) p.n + 1 = freeTo p.cnt p.n
      omega
    have e2 : loose (p.takeAt f) L = loose p L := by
      unfold loose
      refine List.countP_congr fun s hs => ?_
      have hne : s.frame ≠ f := fun e => by
        have := h s.frame (hlt s hs)
        have := slotN_pos hs
        rw [e] at *
        omega
      show ((upd p.cnt f 1 s.frame == 1) = true) ↔ _
      rw [upd_ne _ _ hne]
    omega
  | loose s hl hs hsn h1 hmin =>
    have e0 : p.left = 0 := freeTo_zero.2 (lowest_none hl)
    have ec : ((p.down s.frame).takeAt s.frame).cnt = p.cnt := by
      funext x
      show upd (upd p.cnt s.frame _) s.frame 1 x = _
      by_cases e : x = s.frame
      · subst e; rw [upd_same, h1]
      · rw [upd_ne _ _ e, upd_ne _ _ e]
    have e1 : ((p.down s.frame).takeAt s.frame).left = p.left := by
      show freeTo ((p.down s.frame).takeAt s.frame).cnt p.n = freeTo p.cnt p.n
      rw [ec]
    have e2 : loose ((p.down s.frame).takeAt s.frame) (L.filter fun x => !Slot.at s.ino s.page x) + 1 = loose p L := by
      unfold loose
      rw [ec]
      exact countP_drop hS hs _ (by simp [h1])
    omega
theorem room_none {p : Pool} {L : List Slot} (hlt : ∀ s ∈ L, s.frame < p.n) (ht : TakeRes p L 4 0 p L) : p.left + loose p L = 0 := by
  have e0 := ht.full
  have e1 : loose p L = 0 := by
    unfold loose
    rw [List.countP_eq_zero]
    intro s hs
    cases ht with
    | none hl hn =>
      have := hn s hs
      rw [countB_nat (hlt s hs)] at this
      simp
      exact this
  omega
/-- As many as there is room for, and not one more. -/
theorem room_duo {p p' : Pool} {L L' : List Slot} {hold : Nat → Nat} {r : Int} {f : Nat} (h : Even p L hold) (hS : Sole L) (hlt : ∀ s ∈ L, s.frame < p.n) (ht : TakeRes p L r f p' L') :
    (r = 0 ∧ p'.left + loose p' L' + 1 = p.left + loose p L ∧ f < p'.n ∧ p'.cnt f = 1 ∧ p'.n = p.n ∧ Sole L' ∧ (∀ s ∈ L', s.frame < p'.n) ∧ ∃ hold', Even p' L' hold') ∨ (r = 4 ∧ p.left + loose p L = 0 ∧ p' = p ∧ L' = L) := by
  rcases ht.duo with e | ⟨e, rfl, rfl, rfl⟩
  · subst e
    have hT := h.take hS ht
    exact .inl ⟨rfl, room_step h hS hlt ht, by rw [hT.n]; exact hT.lt, hT.one, hT.n, hT.sole, fun s hs => by rw [hT.n]; exact hlt s (hT.sub.subset hs), _, hT.even⟩
  · subst e
    exact .inr ⟨rfl, room_none hlt ht, rfl, rfl⟩

/-- Get of a page that has a slot. -/
theorem get_again {F : List Nd} {ino page : Int} {p p' : Pool} {L L' : List Slot} {clock clock' r : Int} {f : Nat} (hg : GetF F ino page p L clock r f p' L' clock') (hS : Sole L) {s : Slot} (hs : s ∈ L) (hi : s.ino = ino) (hp : s.page = page) (h0 : 0 ≤ page) (h1 : page < 16) (hr : (pageR F ino page).1 = 0) :
    r = 0 ∧ f = s.frame ∧ p' = p := by
  have hf := find_of_sole hS hs
  rw [hi, hp] at hf
  cases hg with
  | bad h => omega
  | err _ _ h => exact absurd hr h
  | hit s' _ _ _ h =>
    rw [hf] at h
    injection h with h
    exact ⟨rfl, by rw [h], rfl⟩
  | full _ _ _ h => rw [hf] at h; cases h
  | miss _ _ _ _ _ _ h => rw [hf] at h; cases h
theorem readR_err {F : List Nd} {ino : Int} {off : Nat} : (readR F ino off).1 ≠ 4 := by
  unfold readR
  repeat' split
  all_goals (show (_ : Int) ≠ 4; omega)
/-- Where Get is refused for want of frames none is free. -/
theorem get_refused {F : List Nd} {ino page : Int} {p p' : Pool} {L L' : List Slot} {clock clock' r : Int} {f : Nat} (hg : GetF F ino page p L clock r f p' L' clock') (hr : r = 4) : p'.left = 0 := by
  cases hg with
  | bad => cases hr
  | err _ _ _ => exact absurd hr readR_err
  | hit => cases hr
  | full _ _ _ _ ht => exact ht.full
  | miss => cases hr
theorem slotN_take_succ {l : List Slot} {k : Nat} {x : Slot} {f : Nat} (h : l[k]? = some x) : slotN (l.take (k + 1)) f = slotN (l.take k) f + if x.frame = f then 1 else 0 := by
  unfold slotN
  have e : l.take (k + 1) = l.take k ++ [x] := by
    rw [List.take_add_one, h]
    rfl
  rw [e, List.countP_append, List.countP_singleton]
  simp
theorem slotN_perm {l l' : List Slot} (h : l.Perm l') (f : Nat) : slotN l f = slotN l' f := h.countP_eq _
theorem loose_perm {l l' : List Slot} (h : l.Perm l') (p : Pool) : loose p l = loose p l' := h.countP_eq _
theorem loose_take_succ {l : List Slot} {k : Nat} {x : Slot} {p : Pool} (h : l[k]? = some x) : loose p (l.take (k + 1)) = loose p (l.take k) + if p.cnt x.frame = 1 then 1 else 0 := by
  unfold loose
  have e : l.take (k + 1) = l.take k ++ [x] := by
    rw [List.take_add_one, h]
    rfl
  rw [e, List.countP_append, List.countP_singleton]
  simp
theorem Rising.next {l : List Slot} (h : Rising l) {k : Nat} {x y : Slot} (hx : l[k]? = some x) (hy : l[k + 1]? = some y) : x.ino < y.ino ∨ x.ino = y.ino ∧ x.page < y.page := by
  obtain ⟨h1, e1⟩ := List.getElem?_eq_some_iff.1 hx
  obtain ⟨h2, e2⟩ := List.getElem?_eq_some_iff.1 hy
  have := List.pairwise_iff_getElem.1 h k (k + 1) h1 h2 (by omega)
  rw [e1, e2] at this
  exact this
theorem small_small {z : Int} (h0 : 0 ≤ z) (h1 : z < 1000000) : small z = z := by
  unfold small
  omega
theorem St8.Fine.small {s : St8} {F : List Nd} {ext : Nat → Nat} {n k : Nat} (h : s.Fine F ext n k) (hF : F.length ≤ 1000) : Small s.L := fun x hx => by
  obtain ⟨h1, h2, h3, h4⟩ := h.keys x hx
  exact ⟨small_small h1 (by omega), small_small h3 (by omega)⟩

end Go.Proofs.YtmkgdgfbdmjeeaaDoor
