/- The cache's laws, plain: the state behind what is done. -/
import Derived.Test.YtkkmcnngpahfaaaGreatDoorVqD
namespace Go.Proofs.YtkkmcnngpahfaaaGreatDoor
set_option linter.unusedSimpArgs false
set_option linter.unusedVariables false

structure Op8 where
  kind : Int
  ino : Int
  page : Int
  n : Int
structure St8 where
  p : Pool
  L : List Slot
  clock : Int
  l : List Nat
  h : List Nat
/-- What stands at a place, counted round. -/
def pick (l : List Nat) (n : Int) : Option Nat := if n < 0 then none else l[n.toNat % l.length]?
theorem pick_none {l : List Nat} {n : Int} (h : pick l n = none) : n < 0 ∨ l = [] := by
  unfold pick at h
  split at h
  · exact .inl ‹_›
  · right
    cases l with
    | nil => rfl
    | cons a l =>
      exfalso
      rw [List.getElem?_eq_none_iff] at h
      have := Nat.mod_lt n.toNat (show 0 < (a :: l).length by simp)
      omega
theorem pick_some {l : List Nat} {n : Int} {f : Nat} (h : pick l n = some f) : 0 ≤ n ∧ 0 < l.length ∧ l[n.toNat % l.length]? = some f := by
  unfold pick at h
  split at h
  · cases h
  · refine ⟨by omega, ?_, h⟩
    cases l with
    | nil => simp at h
    | cons a l => simp

inductive Do8 (F : List Nd) (o : Op8) (s : St8) : St8 → Prop
  | get (r : Int) (f : Nat) (p' : Pool) (L' : List Slot) (clock' : Int) : o.kind = 0 → GetF F o.ino o.page s.p s.L s.clock r f p' L' clock' → Do8 F o s ⟨p', L', clock', if r = 0 then s.l ++ [f] else s.l, s.h⟩
  | take (r : Int) (f : Nat) (p' : Pool) (L' : List Slot) : o.kind = 1 → TakeRes s.p s.L r f p' L' → Do8 F o s ⟨p', L', s.clock, if r = 0 then s.l ++ [f] else s.l, if r = 0 then s.h ++ [f] else s.h⟩
  | hold (f : Nat) : o.kind = 2 → pick s.l o.n = some f → 0 < s.p.cnt f → Do8 F o s ⟨s.p.up f, s.L, s.clock, s.l, s.h ++ [f]⟩
  | holdNot (f : Nat) : o.kind = 2 → pick s.l o.n = some f → s.p.cnt f = 0 → Do8 F o s s
  | holdNo : o.kind = 2 → pick s.l o.n = none → Do8 F o s s
  | give (f : Nat) : o.kind = 3 → pick s.h o.n = some f → Do8 F o s ⟨s.p.down f, s.L, s.clock, s.l, s.h.eraseIdx (o.n.toNat % s.h.length)⟩
  | giveNo : o.kind = 3 → pick s.h o.n = none → Do8 F o s s
  | drop : o.kind = 4 → Do8 F o s ⟨dropTo s.p s.L [], [], s.clock, s.l, s.h⟩
  | other : o.kind < 0 ∨ 4 < o.kind → Do8 F o s s

structure St8.Fine (s : St8) (F : List Nd) (ext : Nat → Nat) (n k : Nat) : Prop where
  even : Even s.p s.L (fun f => cntL s.h f + ext f)
  sole : Sole s.L
  filled : Filled F s.p s.L
  size : s.p.n = n
  few : s.L.length ≤ k ∧ s.l.length ≤ k ∧ s.h.length ≤ k ∧ 0 ≤ s.clock ∧ s.clock ≤ k
  lowL : ∀ f ∈ s.l, f < n
  lowH : ∀ f ∈ s.h, f < n
  slow : ∀ x ∈ s.L, x.frame < n
  keys : ∀ x ∈ s.L, 0 ≤ x.ino ∧ x.ino < F.length ∧ 0 ≤ x.page ∧ x.page < 16
theorem readR_ok {F : List Nd} {ino : Int} {off : Nat} (h : (readR F ino off).1 = 0) : 0 ≤ ino ∧ ino < F.length := by
  unfold readR at h
  split at h
  · cases h
  · omega
theorem GetRes.keysF {F : List Nd} {ino page : Int} {p p' : Pool} {L L' : List Slot} {clock clock' r : Int} {f : Nat} (h : GetF F ino page p L clock r f p' L' clock') (hL : ∀ x ∈ L, 0 ≤ x.ino ∧ x.ino < F.length ∧ 0 ≤ x.page ∧ x.page < 16) : ∀ x ∈ L', 0 ≤ x.ino ∧ x.ino < F.length ∧ 0 ≤ x.page ∧ x.page < 16 := by
  cases h with
  | bad => exact hL
  | err => exact hL
  | hit s h0 h1 hr hs =>
    intro x hx
    rcases slPut_mem hx with e | e
    · exact hL x e
    · subst e
      exact ⟨(readR_ok hr).1, (readR_ok hr).2, h0, h1⟩
  | full => exact hL
  | miss f p1 L1 h0 h1 hr hn ht =>
    intro x hx
    rcases slPut_mem hx with e | e
    · exact hL x (ht.sub.subset e)
    · subst e
      exact ⟨(readR_ok hr).1, (readR_ok hr).2, h0, h1⟩
theorem snoc_low {l : List Nat} {f n : Nat} (h : ∀ x ∈ l, x < n) (hf : f < n) : ∀ x ∈ l ++ [f], x < n := fun x hx => by
  rcases List.mem_append.1 hx with e | e
  · exact h x e
  · rw [List.mem_singleton] at e
    omega
theorem ext_take {h : List Nat} {ext : Nat → Nat} {f : Nat} (h0 : cntL h f + ext f = 0) : upd (fun x => cntL h x + ext x) f 1 = fun x => cntL (h ++ [f]) x + ext x := by
  funext x
  rw [cntL_snoc]
  by_cases e : x = f
  · subst e
    rw [upd_same, upd_same]
    omega
  · rw [upd_ne _ _ e, upd_ne _ _ e]
theorem St8.Fine.step {F : List Nd} {o : Op8} {s s' : St8} {ext : Nat → Nat} {n k : Nat} (h : s.Fine F ext n k) (hd : Do8 F o s s') : s'.Fine F ext n (k + 1) := by
  obtain ⟨f1, f2, f3, f4, f5⟩ := h.few
  have same : s.Fine F ext n (k + 1) := ⟨h.even, h.sole, h.filled, h.size, ⟨by omega, by omega, by omega, f4, by omega⟩, h.lowL, h.lowH, h.slow, h.keys⟩
  cases hd with
  | get r f p' L' clock' hk hg =>
    have hG := h.even.get h.sole h.filled (fun x hx => h.size ▸ h.slow x hx) hg
    have hlen := hg.len
    refine ⟨hG.even, hG.sole, hG.filled, hG.n.trans h.size, ⟨by show L'.length ≤ _; omega, ?_, by show s.h.length ≤ _; omega, by show 0 ≤ clock'; omega, by show clock' ≤ _; omega⟩, ?_, h.lowH, hg.slow h.size h.slow, hg.keysF h.keys⟩
    · show (if r = 0 then s.l ++ [f] else s.l).length ≤ k + 1
      split
      · rw [List.length_append, List.length_singleton]; omega
      · omega
    · show ∀ x ∈ (if r = 0 then s.l ++ [f] else s.l), x < n
      split
      · next e => exact snoc_low h.lowL (h.size ▸ (hG.there e).1)
      · exact h.lowL
  | take r f p' L' hk ht =>
    rcases ht.duo with e | ⟨e, rfl, rfl, rfl⟩
    · subst e
      have hT := h.even.take h.sole ht
      have he := hT.even
      rw [ext_take hT.none] at he
      refine ⟨he, hT.sole, hT.filled h.filled, hT.n.trans h.size, ⟨by have := hT.sub.length_le; show L'.length ≤ _; omega, by simp; omega, by simp; omega, f4, by show s.clock ≤ _; omega⟩, ?_, ?_, fun x hx => h.slow x (hT.sub.subset hx), fun x hx => h.keys x (hT.sub.subset hx)⟩
      · exact snoc_low h.lowL (h.size ▸ hT.lt)
      · exact snoc_low h.lowH (h.size ▸ hT.lt)
    · subst e
      exact same
  | hold f hk hp hc =>
    have hf := h.lowL f (List.mem_of_getElem? (pick_some hp).2.2)
    refine ⟨fun g hg => ?_, h.sole, h.filled, h.size, ⟨by show s.L.length ≤ _; omega, by show s.l.length ≤ _; omega, by simp; omega, f4, by show s.clock ≤ _; omega⟩, h.lowL, snoc_low h.lowH hf, h.slow, h.keys⟩
    have h1 : s.p.cnt g = slotN s.L g + (cntL s.h g + ext g) := h.even g hg
    show upd s.p.cnt f (s.p.cnt f + 1) g = slotN s.L g + (cntL (s.h ++ [f]) g + ext g)
    rw [cntL_snoc]
    by_cases e : g = f
    · subst e
      rw [upd_same, upd_same]
      omega
    · rw [upd_ne _ _ e, upd_ne _ _ e]
      omega
  | holdNot => exact same
  | holdNo => exact same
  | give f hk hp =>
    obtain ⟨_, hl0, hpk⟩ := pick_some hp
    have hpos := cntL_pos hpk
    refine ⟨fun g hg => ?_, h.sole, h.filled, h.size, ⟨by show s.L.length ≤ _; omega, by show s.l.length ≤ _; omega, by show (s.h.eraseIdx _).length ≤ _; have := List.length_eraseIdx_le s.h (o.n.toNat % s.h.length); omega, f4, by show s.clock ≤ _; omega⟩, h.lowL, fun x hx => h.lowH x (List.mem_of_mem_eraseIdx hx), h.slow, h.keys⟩
    have h1 : s.p.cnt g = slotN s.L g + (cntL s.h g + ext g) := h.even g hg
    show upd s.p.cnt f (s.p.cnt f - 1) g = slotN s.L g + (cntL (s.h.eraseIdx _) g + ext g)
    rw [cntL_erase hpk]
    by_cases e : g = f
    · subst e
      rw [upd_same, upd_same]
      omega
    · rw [upd_ne _ _ e, upd_ne _ _ e]
      omega
  | giveNo => exact same
  | drop hk =>
    refine ⟨fun g hg => ?_, by unfold Sole; exact List.Pairwise.nil, (fun x hx => by cases hx), h.size, ⟨Nat.zero_le _, by show s.l.length ≤ _; omega, by show s.h.length ≤ _; omega, f4, by show s.clock ≤ _; omega⟩, h.lowL, h.lowH, (fun x hx => by cases hx), (fun x hx => by cases hx)⟩
    have h1 : s.p.cnt g = slotN s.L g + (cntL s.h g + ext g) := h.even g hg
    show s.p.cnt g - (slotN s.L g - slotN [] g) = slotN [] g + (cntL s.h g + ext g)
    have e0 : slotN [] g = 0 := rfl
    rw [e0]
    omega
  | other => exact same
/-- A slot whose frame is held beside stays, its frame and its bytes, whatever is done but Drop. -/
theorem Do8.stays {F : List Nd} {o : Op8} {s s' : St8} {ext : Nat → Nat} {n k : Nat} (h : s.Fine F ext n k) (hd : Do8 F o s s') (ho : o.kind ≠ 4) {x : Slot} (hx : x ∈ s.L) (he : 1 ≤ ext x.frame) :
    ∃ y ∈ s'.L, y.ino = x.ino ∧ y.page = x.page ∧ y.frame = x.frame := by
  have hxn := h.slow x hx
  have hc : s.p.cnt x.frame = slotN s.L x.frame + (cntL s.h x.frame + ext x.frame) := h.even x.frame (by rw [h.size]; exact hxn)
  have hp := slotN_pos hx
  have h2 : 2 ≤ s.p.cnt x.frame := by omega
  cases hd with
  | get r f p' L' clock' hk hg => exact (h.even.get h.sole h.filled (fun x hx => h.size ▸ h.slow x hx) hg).keep x hx h2
  | take r f p' L' hk ht =>
    rcases ht.duo with e | ⟨e, rfl, rfl, rfl⟩
    · subst e
      exact ⟨x, (h.even.take h.sole ht).keep x hx h2, rfl, rfl, rfl⟩
    · exact ⟨x, hx, rfl, rfl, rfl⟩
  | hold => exact ⟨x, hx, rfl, rfl, rfl⟩
  | holdNot => exact ⟨x, hx, rfl, rfl, rfl⟩
  | holdNo => exact ⟨x, hx, rfl, rfl, rfl⟩
  | give => exact ⟨x, hx, rfl, rfl, rfl⟩
  | giveNo => exact ⟨x, hx, rfl, rfl, rfl⟩
  | drop hk => exact absurd hk ho
  | other => exact ⟨x, hx, rfl, rfl, rfl⟩

end Go.Proofs.YtkkmcnngpahfaaaGreatDoor
