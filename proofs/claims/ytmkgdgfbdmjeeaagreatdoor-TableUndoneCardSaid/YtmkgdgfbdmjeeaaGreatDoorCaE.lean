/- The cache and a table in plain Lean: frames taken, and what is counted. Frames taken one behind the other, and given up again. Plain. Frames that were taken become nodes, one below the other; a leaf is laid. Plain. The table with a root alone. Plain. -/
import Derived.Test.YtmkgdgfbdmjeeaaGreatDoorCaC
import Derived.Test.YtmkgdgfbdmjeeaaGreatDoorTbA

namespace Go.Proofs.YtmkgdgfbdmjeeaaGreatDoor
set_option linter.unusedSimpArgs false
set_option linter.unusedVariables false

def slotN (L : List Slot) (f : Nat) : Nat := L.countP fun s => s.frame == f
theorem slotN_drop {L : List Slot} (h : Sole L) {s : Slot} (hs : s ∈ L) (f : Nat) : slotN (L.filter fun x => !Slot.at s.ino s.page x) f + (if s.frame = f then 1 else 0) = slotN L f := by
  unfold slotN
  induction L with
  | nil => cases hs
  | cons x l ih =>
    have hp := List.pairwise_cons.1 h
    rcases List.mem_cons.1 hs with rfl | h1
    · rw [List.filter_cons_of_neg (by simp [Slot.at]), List.countP_cons]
      have e : (l.filter fun x => !Slot.at s.ino s.page x) = l := List.filter_eq_self.2 fun y hy => by
        cases hc : Slot.at s.ino s.page y with
        | false => rfl
        | true =>
          obtain ⟨a1, a2⟩ := Slot.at_iff.1 hc
          exact absurd ⟨a1.symm, a2.symm⟩ (hp.1 y hy)
      rw [e]
      simp
    · have hx : (!Slot.at s.ino s.page x) = true := by
        cases hc : Slot.at s.ino s.page x with
        | false => rfl
        | true =>
          obtain ⟨a1, a2⟩ := Slot.at_iff.1 hc
          exact absurd ⟨a1, a2⟩ (hp.1 s h1)
      rw [List.filter_cons_of_pos (p := fun x => !Slot.at s.ino s.page x) hx, List.countP_cons, List.countP_cons, ← ih hp.2 h1]
      omega
theorem slotN_pos {L : List Slot} {s : Slot} (hs : s ∈ L) : 0 < slotN L s.frame := List.countP_pos_iff.2 ⟨s, hs, by simp⟩
theorem Sole.drop {L : List Slot} (h : Sole L) (q : Slot → Bool) : Sole (L.filter q) := List.Pairwise.sublist List.filter_sublist h

/-- What is counted beside the table: slots, and who holds. -/
def held (L : List Slot) (hold : Nat → Nat) : Nat → Nat := fun x => slotN L x + hold x

theorem Tab.Good.ctake {p p' : Pool} {T : Tab} {L L' : List Slot} {hold : Nat → Nat} {pg lv f : Nat} (h : T.Good p (held L hold) pg lv) (hS : Sole L) (ht : TakeRes p L 0 f p' L') :
    T.Good p' (held L' (upd hold f 1)) pg lv ∧ f < p.n ∧ p'.n = p.n ∧ hold f = 0 ∧ ¬ isNode T f ∧ (p'.dat f = fun _ => 0) ∧ (∀ x, x ≠ f → p'.dat x = p.dat x) ∧ Sole L' ∧ p'.cnt f = 1 ∧ (∀ x, x ≠ f → p'.cnt x = p.cnt x) := by
  cases ht with
  | free _ hl =>
    obtain ⟨h1, h2, h3⟩ := lowest_some hl
    obtain ⟨a1, a2, a3⟩ := h.fresh h1 h2
    have a4 : slotN L f = 0 ∧ hold f = 0 := by unfold held at a3; omega
    have hg := h.take h1 h2
    have e : upd (held L hold) f 1 = held L (upd hold f 1) := by
      funext x
      unfold held
      by_cases e : x = f
      · subst e
        rw [upd_same, upd_same, a4.1]
      · rw [upd_ne _ _ e, upd_ne _ _ e]
    rw [e] at hg
    exact ⟨hg, h1, rfl, a4.2, a1, upd_same _ _ _, fun x hx => upd_ne _ _ hx, hS, upd_same _ _ _, fun x hx => upd_ne _ _ hx⟩
  | loose s hl hs hsn h1 hmin =>
    have hc := h.cnt s.frame hsn
    have hp := slotN_pos hs
    have hd := slotN_drop hS hs
    have a1 : slotN L s.frame = 1 ∧ hold s.frame = 0 ∧ nodeCnt T s.frame = 0 ∧ leafCnt T s.frame = 0 := by unfold held at hc; omega
    have hn : ¬ isNode T s.frame := fun e => by
      have := nodeCnt_yes e
      omega
    have hg := (h.down (f := s.frame) (by unfold held; omega)).take (f := s.frame) hsn (by simp only [Pool.down, upd_same]; omega)
    have e : upd (upd (held L hold) s.frame (held L hold s.frame - 1)) s.frame 1 = held (L.filter fun x => !Slot.at s.ino s.page x) (upd hold s.frame 1) := by
      funext x
      have h2 := hd x
      unfold held
      by_cases e : x = s.frame
      · subst e
        rw [if_pos rfl] at h2
        rw [upd_same, upd_same]
        omega
      · rw [if_neg (fun e1 => e e1.symm)] at h2
        rw [upd_ne _ _ e, upd_ne _ _ e, upd_ne _ _ e]
        omega
    rw [e] at hg
    refine ⟨hg, hsn, rfl, a1.2.1, hn, upd_same _ _ _, fun x hx => upd_ne _ _ hx, hS.drop _, upd_same _ _ _, fun x hx => ?_⟩
    show upd (upd p.cnt s.frame _) s.frame 1 x = p.cnt x
    rw [upd_ne _ _ hx, upd_ne _ _ hx]
theorem held_upd (L : List Slot) (hold : Nat → Nat) (f d : Nat) : upd (held L hold) f (held L hold f + d) = held L (upd hold f (hold f + d)) := by
  funext x
  unfold held
  by_cases e : x = f
  · subst e
    rw [upd_same, upd_same]
    omega
  · rw [upd_ne _ _ e, upd_ne _ _ e]
theorem held_less (L : List Slot) (hold : Nat → Nat) (f : Nat) (h : 0 < hold f) : upd (held L hold) f (held L hold f - 1) = held L (upd hold f (hold f - 1)) := by
  funext x
  unfold held
  by_cases e : x = f
  · subst e
    rw [upd_same, upd_same]
    omega
  · rw [upd_ne _ _ e, upd_ne _ _ e]

end Go.Proofs.YtmkgdgfbdmjeeaaGreatDoor

namespace Go.Proofs.YtmkgdgfbdmjeeaaGreatDoor
set_option linter.unusedSimpArgs false
set_option linter.unusedVariables false

/-- One more for each frame of a list. -/
def plus (hold : Nat → Nat) (fs : List Nat) : Nat → Nat := fun x => hold x + if x ∈ fs then 1 else 0
theorem plus_nil (hold : Nat → Nat) : plus hold [] = hold := by
  funext x
  unfold plus
  simp
theorem plus_snoc {hold : Nat → Nat} {fs : List Nat} {f : Nat} (h0 : plus hold fs f = 0) : upd (plus hold fs) f 1 = plus hold (fs ++ [f]) := by
  funext x
  unfold plus at h0 ⊢
  by_cases e : x = f
  · subst e
    rw [upd_same]
    have : hold x = 0 := by omega
    simp [this]
  · rw [upd_ne _ _ e]
    simp [e]
theorem plus_cons {hold : Nat → Nat} {fs : List Nat} {f : Nat} (hn : f ∉ fs) (h0 : hold f = 0) : upd (plus hold (f :: fs)) f (plus hold (f :: fs) f - 1) = plus hold fs := by
  funext x
  unfold plus
  by_cases e : x = f
  · subst e
    rw [upd_same]
    simp [hn, h0]
  · rw [upd_ne _ _ e]
    simp [e]

theorem Sole.nodup {L : List Slot} (h : Sole L) : L.Nodup := List.Pairwise.imp (fun h e => h (by subst e; exact ⟨rfl, rfl⟩)) h
/-- A slot that alone counts its frame. -/
def Loose (T : Tab) (L : List Slot) (hold : Nat → Nat) (s : Slot) : Prop := slotN L s.frame = 1 ∧ leafCnt T s.frame = 0 ∧ ¬ isNode T s.frame ∧ hold s.frame = 0
theorem slotN_two {L : List Slot} (h : Sole L) {s t : Slot} (hs : s ∈ L) (ht : t ∈ L) (hne : t ≠ s) (hf : t.frame = s.frame) : 2 ≤ slotN L s.frame := by
  have h1 := slotN_drop h hs s.frame
  rw [if_pos rfl] at h1
  have h2 : t ∈ L.filter fun x => !Slot.at s.ino s.page x := by
    rw [List.mem_filter]
    refine ⟨ht, ?_⟩
    rw [Bool.not_eq_true', Bool.eq_false_iff]
    intro e
    have e2 := Slot.at_iff.1 e
    exact hne (h.eq ht hs e2)
  have h3 := slotN_pos h2
  rw [hf] at h3
  omega
theorem slotN_sub {L L1 : List Slot} (h : L.Sublist L1) (hn : L1.Nodup) {f : Nat} (hf : ∀ t ∈ L1, t ∉ L → t.frame ≠ f) : slotN L1 f = slotN L f := by
  induction h with
  | slnil => rfl
  | cons a h ih =>
    have hn1 := List.nodup_cons.1 hn
    have ha := hf a (List.mem_cons_self ..) fun e => hn1.1 (h.subset e)
    have := ih hn1.2 fun t ht => hf t (List.mem_cons_of_mem _ ht)
    rw [← this]
    unfold slotN
    rw [List.countP_cons_of_neg (by simpa using ha)]
  | cons_cons a h ih =>
    have hn1 := List.nodup_cons.1 hn
    have := ih hn1.2 fun t ht hnt => hf t (List.mem_cons_of_mem _ ht) fun e => by
      rcases List.mem_cons.1 e with e | e
      · exact hn1.1 (e ▸ ht)
      · exact hnt e
    unfold slotN at *
    rw [List.countP_cons, List.countP_cons, this]

/-- Frames have been taken. -/
structure Took (T : Tab) (n r0 : Nat) (L1 : List Slot) (hold : Nat → Nat) (pg : Nat) (fs : List Nat) (p : Pool) (L : List Slot) : Prop where
  good : T.Good p (held L (plus hold fs)) pg 4
  nodup : fs.Nodup
  each : ∀ f ∈ fs, f < p.n ∧ ¬ isNode T f ∧ (p.dat f = fun _ => 0) ∧ hold f = 0 ∧ p.cnt f = 1
  n : p.n = n
  sole : Sole L
  sub : L.Sublist L1
  room : r0 ≤ p.left + fs.length
  sole1 : Sole L1
  drop : ∀ s ∈ L1, s ∉ L → Loose T L1 hold s
theorem Took.nil {T : Tab} {p : Pool} {L : List Slot} {hold : Nat → Nat} {pg0 : Nat} (h : T.Good p (held L hold) pg0 4) (hS : Sole L) (pg : Nat) : Took T p.n p.left L hold pg [] p L :=
  ⟨by rw [plus_nil]; exact h.any pg 4, List.nodup_nil, (fun f hf => absurd hf (by simp)), rfl, hS, List.Sublist.refl _, by simp, hS, fun s h1 h2 => absurd h1 h2⟩
theorem TakeRes.sub {p p' : Pool} {L L' : List Slot} {r : Int} {f : Nat} (h : TakeRes p L r f p' L') : L'.Sublist L := by
  cases h
  · exact List.Sublist.refl _
  · exact List.filter_sublist
  · exact List.Sublist.refl _
theorem TakeRes.full {p p' : Pool} {L L' : List Slot} {f : Nat} (h : TakeRes p L 4 f p' L') : p.left = 0 := by
  cases h with
  | none h1 => exact freeTo_zero.2 (lowest_none h1)
theorem TakeRes.left {p p' : Pool} {L L' : List Slot} {f : Nat} (h : TakeRes p L 0 f p' L') : p.left ≤ p'.left + 1 := by
  cases h with
  | free f h1 =>
    obtain ⟨h2, h3, _⟩ := lowest_some h1
    have := freeTo_upd (c := p.cnt) (n := p.n) (f := f) (x := 1) h2
    rw [if_pos h3] at this
    show freeTo p.cnt p.n ≤ freeTo (upd p.cnt f 1) p.n + 1
    omega
  | loose s h1 =>
    have : p.left = 0 := freeTo_zero.2 (lowest_none h1)
    omega
theorem left_up {p : Pool} {f : Nat} (h : 1 ≤ p.cnt f) : (p.up f).left = p.left := by
  refine freeTo_congr fun i _ => ?_
  show upd p.cnt f (p.cnt f + 1) i = 0 ↔ _
  by_cases e : i = f
  · subst e; rw [upd_same]; omega
  · rw [upd_ne _ _ e]
theorem Took.step {T : Tab} {n r0 : Nat} {L1 : List Slot} {hold : Nat → Nat} {pg : Nat} {fs : List Nat} {p p' : Pool} {L L' : List Slot} {f : Nat} (h : Took T n r0 L1 hold pg fs p L) (ht : TakeRes p L 0 f p' L') : Took T n r0 L1 hold pg (fs ++ [f]) p' L' := by
  have hroom : r0 ≤ p'.left + (fs ++ [f]).length := by have h1 := h.room; have h2 := ht.left; rw [List.length_append]; show r0 ≤ p'.left + (fs.length + 1); omega
  obtain ⟨a1, a2, a3, a4, a5, a6, a7, a8, a9, a10⟩ := h.good.ctake h.sole ht
  have hnot : f ∉ fs := fun e => by
    unfold plus at a4
    rw [if_pos e] at a4
    omega
  have h0 : hold f = 0 := by
    unfold plus at a4
    omega
  have hdr : ∀ s ∈ L1, s ∉ L' → Loose T L1 hold s := fun s hs1 hs2 => by
    by_cases hs3 : s ∈ L
    · have hlo : p.cnt s.frame = 1 ∧ s.frame < p.n := by
        cases ht with
        | free => exact absurd hs3 hs2
        | loose s0 hl hs0 hsn h1 hmin =>
          have : s = s0 := by
            apply Classical.byContradiction
            intro hne
            refine hs2 (List.mem_filter.2 ⟨hs3, ?_⟩)
            rw [Bool.not_eq_true', Bool.eq_false_iff]
            intro e
            exact hne (h.sole.eq hs3 hs0 (Slot.at_iff.1 e))
          subst this
          exact ⟨h1, hsn⟩
      have hc := h.good.cnt s.frame hlo.2
      have hp := slotN_pos hs3
      have b1 : slotN L s.frame = 1 ∧ plus hold fs s.frame = 0 ∧ nodeCnt T s.frame = 0 ∧ leafCnt T s.frame = 0 := by unfold held at hc; omega
      have b2 : slotN L1 s.frame = slotN L s.frame := slotN_sub h.sub h.sole1.nodup fun t ht1 ht2 e => by
        have h5 := (h.drop t ht1 ht2).1
        have h6 := slotN_two h.sole1 hs1 ht1 (fun e2 => ht2 (e2 ▸ hs3)) e
        rw [e] at h5
        omega
      exact ⟨by omega, b1.2.2.2, fun e => by have := nodeCnt_yes e; omega, by have := b1.2.1; unfold plus at this; omega⟩
    · exact h.drop s hs1 hs3
  refine ⟨by rw [← plus_snoc a4]; exact a1, ?_, fun x hx => ?_, a3.trans h.n, a8, ht.sub.trans h.sub, hroom, h.sole1, hdr⟩
  · rw [List.nodup_append]
    exact ⟨h.nodup, by simp, fun x hx y hy => by simp only [List.mem_singleton] at hy; subst hy; exact fun e => hnot (e ▸ hx)⟩
  · rcases List.mem_append.1 hx with h1 | h1
    · obtain ⟨b1, b2, b3, b4, b5⟩ := h.each x h1
      have hne : x ≠ f := fun e => hnot (e ▸ h1)
      exact ⟨by rw [a3]; exact b1, b2, by rw [a7 x hne]; exact b3, b4, by rw [a10 x hne]; exact b5⟩
    · simp only [List.mem_singleton] at h1
      subst h1
      exact ⟨by rw [a3]; exact a2, a5, a6, h0, a9⟩

/-- Some of them are to be given up still. -/
structure Undo (T : Tab) (n : Nat) (L : List Slot) (hold : Nat → Nat) (pg : Nat) (fs : List Nat) (p : Pool) : Prop where
  good : T.Good p (held L (plus hold fs)) pg 4
  nodup : fs.Nodup
  each : ∀ f ∈ fs, f < p.n ∧ hold f = 0
  n : p.n = n
theorem Took.undo {T : Tab} {n r0 : Nat} {L1 : List Slot} {hold : Nat → Nat} {pg : Nat} {fs : List Nat} {p : Pool} {L : List Slot} (h : Took T n r0 L1 hold pg fs p L) : Undo T n L hold pg fs p :=
  ⟨h.good, h.nodup, fun f hf => ⟨(h.each f hf).1, (h.each f hf).2.2.2.1⟩, h.n⟩
theorem Undo.live {T : Tab} {n : Nat} {L : List Slot} {hold : Nat → Nat} {pg f : Nat} {fs : List Nat} {p : Pool} (h : Undo T n L hold pg (f :: fs) p) : f < p.n ∧ 1 ≤ p.cnt f := by
  have h1 := (h.each f (List.mem_cons_self ..)).1
  have h2 := h.good.cnt f h1
  unfold held plus at h2
  rw [if_pos (List.mem_cons_self ..)] at h2
  exact ⟨h1, by omega⟩
theorem Undo.step {T : Tab} {n : Nat} {L : List Slot} {hold : Nat → Nat} {pg f : Nat} {fs : List Nat} {p : Pool} (h : Undo T n L hold pg (f :: fs) p) : Undo T n L hold pg fs (p.down f) := by
  have hp := List.nodup_cons.1 h.nodup
  have h0 := (h.each f (List.mem_cons_self ..)).2
  have h1 : 0 < plus hold (f :: fs) f := by unfold plus; rw [if_pos (List.mem_cons_self ..)]; omega
  have hg := h.good.down (f := f) (by unfold held; omega)
  rw [held_less _ _ _ h1, plus_cons hp.1 h0] at hg
  exact ⟨hg, hp.2, fun x hx => h.each x (List.mem_cons_of_mem _ hx), h.n⟩

end Go.Proofs.YtmkgdgfbdmjeeaaGreatDoor

namespace Go.Proofs.YtmkgdgfbdmjeeaaGreatDoor
set_option linter.unusedSimpArgs false
set_option linter.unusedVariables false

/-- k nodes of a page's way were there below the root's level; j more have been linked; the frames fs wait. -/
structure Linked (T : Tab) (n : Nat) (L : List Slot) (hold : Nat → Nat) (pg d : Nat) (g : Nat) (fs : List Nat) (p : Pool) (T' : Tab) : Prop where
  good : T'.Good p (held L (plus hold fs)) pg (4 - d)
  deep : d + fs.length = 3
  node : T'.nd (4 - d) (part pg (4 - d)) = some g
  below : d = 3 ∨ T'.nd (3 - d) (part pg (3 - d)) = none
  nodup : fs.Nodup
  each : ∀ f ∈ fs, f < p.n ∧ ¬ isNode T' f ∧ (p.dat f = fun _ => 0) ∧ hold f = 0
  lf : T'.lf = T.lf
  mono : ∀ lv q f, T.nd lv q = some f → T'.nd lv q = some f
  only : ∀ f, isNode T' f → isNode T f ∨ hold f = 0
  n : p.n = n

theorem Linked.start {T : Tab} {n r0 : Nat} {L1 : List Slot} {hold : Nat → Nat} {pg d g : Nat} {fs : List Nat} {p : Pool} {L : List Slot} (h : Took T n r0 L1 hold pg fs p L) (hd : d + fs.length = 3) (hg : T.nd (4 - d) (part pg (4 - d)) = some g) (hb : d = 3 ∨ T.nd (3 - d) (part pg (3 - d)) = none) :
    Linked T n L hold pg d g fs p T :=
  ⟨h.good.any pg _, hd, hg, hb, h.nodup, fun f hf => ⟨(h.each f hf).1, (h.each f hf).2.1, (h.each f hf).2.2.1, (h.each f hf).2.2.2.1⟩, rfl, fun _ _ _ e => e, fun _ e => .inl e, h.n⟩
theorem Linked.live {T T' : Tab} {n : Nat} {L : List Slot} {hold : Nat → Nat} {pg d g : Nat} {fs : List Nat} {p : Pool} (h : Linked T n L hold pg d g fs p T') : g < p.n ∧ 1 ≤ p.cnt g := h.good.node h.node
theorem Linked.step {T T' : Tab} {n : Nat} {L : List Slot} {hold : Nat → Nat} {pg d g f : Nat} {fs : List Nat} {p : Pool} (h : Linked T n L hold pg d g (f :: fs) p T') :
    Linked T n L hold pg (d + 1) f fs (p.store g (setWord (p.dat g) (num pg (4 - d)) (f * 4096 + 1))) (T'.put (3 - d) (part pg (3 - d)) (some f)) := by
  have hd := h.deep
  simp only [List.length_cons] at hd
  have hd3 : d < 3 := by omega
  have hnone : T'.nd (3 - d) (part pg (3 - d)) = none := h.below.resolve_left (by omega)
  obtain ⟨f1, f2, f3, f4⟩ := h.each f (List.mem_cons_self ..)
  have hp := List.nodup_cons.1 h.nodup
  have e1 : 4 - d = (3 - d) + 1 := by omega
  have hnode := h.node
  rw [e1] at hnode
  have hr : 0 < plus hold (f :: fs) f := by unfold plus; rw [if_pos (List.mem_cons_self ..)]; omega
  have hl := h.good.link (lv := 3 - d) (f := f) (by omega) (by omega) (.inr e1) hnone hnode f1 f2 f3 (by unfold held; omega)
  rw [held_less _ _ _ hr, plus_cons hp.1 f4] at hl
  have e2 : 4 - (d + 1) = 3 - d := by omega
  have e3 : 3 - (d + 1) = 2 - d := by omega
  have hgf : ∀ x, x ∈ fs → x ≠ g := fun x hx e => (h.each x (List.mem_cons_of_mem _ hx)).2.1 ⟨4 - d, part pg (4 - d), by rw [h.node, e]⟩
  refine ⟨by rw [e2, e1]; exact hl, by omega, by rw [e2]; exact Tab.put_at _ _ _ _, ?_, hp.2, fun x hx => ?_, h.lf, fun lv q x hx => ?_, fun x hx => ?_, h.n⟩
  · rcases Nat.lt_or_ge d 2 with h2 | h2
    · right
      rw [e3, Tab.put_ne _ _ _ _ (by omega)]
      cases hc : T'.nd (2 - d) (part pg (2 - d)) with
      | none => rfl
      | some y =>
        have h5 := h.good.but.above _ _ _ hc (by omega)
        rw [part_up, show 2 - d + 1 = 3 - d from by omega, hnone] at h5
        cases h5
    · left; omega
  · obtain ⟨x1, x2, x3, x4⟩ := h.each x (List.mem_cons_of_mem _ hx)
    refine ⟨x1, fun e => ?_, (upd_ne _ _ (hgf x hx)).trans x3, x4⟩
    rcases isNode_put.1 e with e4 | ⟨l, r, _, e5⟩
    · injection e4 with e4
      exact hp.1 (e4 ▸ hx)
    · exact x2 ⟨l, r, e5⟩
  · have h5 := h.mono lv q x hx
    rw [Tab.put_ne]
    · exact h5
    · rintro ⟨rfl, rfl⟩
      rw [hnone] at h5
      cases h5
  · rcases isNode_put.1 hx with e4 | ⟨l, r, _, e5⟩
    · injection e4 with e4
      exact .inr (e4 ▸ f4)
    · exact h.only x ⟨l, r, e5⟩
/-- All are linked: the leaf is laid. -/
theorem Linked.fin {T T' : Tab} {n : Nat} {L : List Slot} {hold : Nat → Nat} {pg g : Nat} {p : Pool} {l : Leaf} (h : Linked T n L hold pg 3 g [] p T') (hpg : pg < pagesN) (hno : T.lf pg = none) (h7 : l.prot ≤ 7) (hf : l.frame < n) (hh : 0 < hold l.frame) :
    (T'.lay pg (some l)).Good (p.store g (setWord (p.dat g) (num pg 1) l.pack)) (held L (upd hold l.frame (hold l.frame - 1))) pg 4 ∧ (T'.lay pg (some l)).lf = upd T.lf pg (some l) ∧ (∀ lv q f, T.nd lv q = some f → (T'.lay pg (some l)).nd lv q = some f) ∧ (isNode (T'.lay pg (some l)) l.frame → isNode T l.frame) := by
  have hg := h.good
  rw [plus_nil] at hg
  have hl := hg.layNew (.inr rfl) hpg h.node (by rw [h.lf]; exact hno) h7 (by rw [h.n]; exact hf) (by unfold held; omega)
  rw [held_less _ _ _ hh] at hl
  exact ⟨hl, by show upd T'.lf pg (some l) = _; rw [h.lf], h.mono, fun e => (h.only _ e).resolve_right (by omega)⟩

end Go.Proofs.YtmkgdgfbdmjeeaaGreatDoor

namespace Go.Proofs.YtmkgdgfbdmjeeaaGreatDoor
set_option linter.unusedSimpArgs false
set_option linter.unusedVariables false

def fresh (n : Nat) : Pool := ⟨n, fun _ => 0, fun _ _ => 0⟩
theorem fresh_lowest {n : Nat} (h : 1 ≤ n) : (fresh n).lowest = some 0 := lowest_is (p := fresh n) (by show 0 < n; omega) rfl (fun g hg => by omega)
def rootTab (r : Nat) : Tab := ⟨fun lv q => if lv = 4 ∧ q = 0 then some r else none, fun _ => none⟩
theorem rootTab_nd {r lv q f : Nat} : (rootTab r).nd lv q = some f ↔ lv = 4 ∧ q = 0 ∧ f = r := by
  show (if lv = 4 ∧ q = 0 then some r else none) = some f ↔ _
  constructor
  · intro h
    by_cases c : lv = 4 ∧ q = 0
    · rw [if_pos c] at h
      injection h with h
      exact ⟨c.1, c.2, h.symm⟩
    · rw [if_neg c] at h
      cases h
  · rintro ⟨h1, h2, h3⟩
    rw [if_pos ⟨h1, h2⟩, h3]
theorem rootTab_root (r : Nat) : (rootTab r).nd 4 0 = some r := rootTab_nd.2 ⟨rfl, rfl, rfl⟩
theorem rootTab_node {r f : Nat} : isNode (rootTab r) f ↔ f = r := by
  constructor
  · rintro ⟨lv, q, h⟩
    exact (rootTab_nd.1 h).2.2
  · rintro rfl
    exact ⟨4, 0, rootTab_root _⟩
theorem rootTab_leafCnt (r f : Nat) : leafCnt (rootTab r) f = 0 := cntTo_zero.2 fun i _ => rfl
theorem rootTab_good {n : Nat} (h1 : 1 ≤ n) (h2 : n ≤ 1024) : (rootTab 0).Good ((fresh n).takeAt 0) (held [] fun _ => 0) 0 4 := by
  constructor
  · constructor
    · rw [rootTab_root]; rfl
    · intro q f h; exact (rootTab_nd.1 h).2.1
    · intro lv q f h; have := (rootTab_nd.1 h).1; omega
    · intro lv q f h h4; have := (rootTab_nd.1 h).1; omega
    · intro pg l h; cases h
    · intro l1 p1 l2 p2 f h h'
      have a := rootTab_nd.1 h
      have b := rootTab_nd.1 h'
      exact ⟨by omega, by omega⟩
    · intro lv q f h
      obtain ⟨rfl, rfl, rfl⟩ := rootTab_nd.1 h
      refine ⟨(by show 0 < n; omega), fun k hk => ?_⟩
      have e1 : ((fresh n).takeAt 0).dat 0 = fun _ => 0 := upd_same (fun _ _ => 0) 0 (fun _ => 0)
      rw [e1, word_zero]
      unfold Tab.word
      rw [if_neg (by omega)]
      show 0 = match (rootTab 0).nd 3 (0 * 512 + k) with | some f => f * 4096 + 1 | none => 0
      have e2 : (rootTab 0).nd 3 (0 * 512 + k) = none := rfl
      rw [e2]
    · intro lv q f h h4; have := (rootTab_nd.1 h).1; omega
    · exact h2
  · intro f hf
    show upd (fun _ => 0) 0 1 f = _
    rw [rootTab_leafCnt]
    have e : held [] (fun _ => 0) f = 0 := rfl
    rw [e]
    by_cases c : f = 0
    · subst c
      rw [upd_same, nodeCnt_yes (rootTab_node.2 rfl)]
    · rw [upd_ne _ _ c, nodeCnt_no (fun h => c (rootTab_node.1 h))]

theorem leafCnt_one {t T' : Tab} {pg f : Nat} {l : Leaf} (hpg : pg < pagesN) (h0 : leafCnt t f = 0) (hno : leafIs t f pg = false) (hlf : T'.lf = upd t.lf pg (some l)) (hf : l.frame = f) : leafCnt T' f = 1 := by
  have e2 : leafIs T' f = leafIs (t.lay pg (some l)) f := by
    funext i
    unfold leafIs Tab.lay
    rw [hlf]
  have h1 : leafCnt T' f = leafCnt (t.lay pg (some l)) f := by
    unfold leafCnt
    rw [e2]
  have h2 := leafCnt_lay (t := t) hpg (some l) f
  rw [h0, hno, ← h1] at h2
  generalize leafCnt T' f = x at h2 ⊢
  simpa [hf] using h2

end Go.Proofs.YtmkgdgfbdmjeeaaGreatDoor
