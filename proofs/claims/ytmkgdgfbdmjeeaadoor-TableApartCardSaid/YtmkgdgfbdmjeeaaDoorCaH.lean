/- The cache's Get. Plain. -/
import Derived.Test.YtmkgdgfbdmjeeaaDoorCaE
namespace Go.Proofs.YtmkgdgfbdmjeeaaDoor
set_option linter.unusedSimpArgs false
set_option linter.unusedVariables false

/-- What Get comes to: the files' Read answers r0, and k bytes d. -/
inductive GetRes (ino page r0 : Int) (k : Nat) (d : Nat → Nat) (p : Pool) (L : List Slot) (clock : Int) : Int → Nat → Pool → List Slot → Int → Prop
  | bad : page < 0 ∨ 16 ≤ page → GetRes ino page r0 k d p L clock 1 0 p L clock
  | err : 0 ≤ page → page < 16 → r0 ≠ 0 → GetRes ino page r0 k d p L clock r0 0 p L clock
  | hit (s : Slot) : 0 ≤ page → page < 16 → r0 = 0 → L.find? (Slot.at ino page) = some s → GetRes ino page r0 k d p L clock 0 s.frame p (slPut L ⟨ino, page, s.frame, clock + 1⟩) (clock + 1)
  | full : 0 ≤ page → page < 16 → r0 = 0 → L.find? (Slot.at ino page) = none → TakeRes p L 4 0 p L → GetRes ino page r0 k d p L clock 4 0 p L clock
  | miss (f : Nat) (p1 : Pool) (L1 : List Slot) : 0 ≤ page → page < 16 → r0 = 0 → L.find? (Slot.at ino page) = none → TakeRes p L 0 f p1 L1 → GetRes ino page r0 k d p L clock 0 f (p1.store f (laid (p1.dat f) d 0 k)) (slPut L1 ⟨ino, page, f, clock + 1⟩) (clock + 1)

theorem find_none_any {L : List Slot} {i g : Int} (h : L.find? (Slot.at i g) = none) : L.any (Slot.at i g) = false := by
  rw [List.any_eq_false]
  rw [List.find?_eq_none] at h
  exact h
theorem find_some_at {L : List Slot} {i g : Int} {s : Slot} (h : L.find? (Slot.at i g) = some s) : s ∈ L ∧ s.ino = i ∧ s.page = g := ⟨List.mem_of_find?_eq_some h, Slot.at_iff.1 (List.find?_some h)⟩
theorem slotN_new {L : List Slot} {s : Slot} (h : L.any (Slot.at s.ino s.page) = false) (f : Nat) : slotN (slPut L s) f = slotN L f + if s.frame = f then 1 else 0 := by
  unfold slPut slotN
  rw [if_neg (by rw [h]; decide), List.countP_append]
  by_cases e : s.frame = f
  · simp [e]
  · simp [e]
theorem slotN_old {L : List Slot} (h : Sole L) {s0 s : Slot} (hs : s0 ∈ L) (hi : s0.ino = s.ino) (hp : s0.page = s.page) (hf : s0.frame = s.frame) (f : Nat) : slotN (slPut L s) f = slotN L f := by
  unfold slPut slotN
  have hany : L.any (Slot.at s.ino s.page) = true := List.any_eq_true.2 ⟨s0, hs, Slot.at_iff.2 ⟨hi, hp⟩⟩
  rw [if_pos hany, List.countP_map]
  refine List.countP_congr fun x hx => ?_
  simp only [Function.comp_apply]
  by_cases c : Slot.at s.ino s.page x = true
  · rw [if_pos c]
    have hk := Slot.at_iff.1 c
    have : x = s0 := h.eq hx hs ⟨hk.1.trans hi.symm, hk.2.trans hp.symm⟩
    rw [this, hf]
  · rw [if_neg c]
theorem none_sub {L L1 : List Slot} {i g : Int} (h : L.any (Slot.at i g) = false) (hs : L1.Sublist L) : L1.any (Slot.at i g) = false := by
  rw [List.any_eq_false] at h ⊢
  exact fun x hx => h x (hs.subset hx)
theorem held_put {L : List Slot} {hold : Nat → Nat} {s : Slot} (h : L.any (Slot.at s.ino s.page) = false) (h0 : hold s.frame = 0) : held (slPut L s) hold = held L (upd hold s.frame 1) := by
  funext x
  unfold held
  rw [slotN_new h]
  by_cases e : s.frame = x
  · subst e; rw [if_pos rfl, upd_same]; omega
  · rw [if_neg e, upd_ne _ _ (fun h => e h.symm)]; omega
theorem Tab.Good.get {ino page r0 : Int} {k : Nat} {d : Nat → Nat} {p p' : Pool} {T : Tab} {L L' : List Slot} {clock clock' r : Int} {hold : Nat → Nat} {pg f : Nat} (h : T.Good p (held L hold) pg 4) (hS : Sole L) (hg : GetRes ino page r0 k d p L clock r f p' L' clock') :
    T.Good p' (held L' hold) pg 4 ∧ p'.n = p.n := by
  cases hg with
  | bad h1 => exact ⟨h, rfl⟩
  | err => exact ⟨h, rfl⟩
  | hit s h0 h1 hr hs =>
    obtain ⟨hs, hi, hp⟩ := find_some_at hs
    refine ⟨?_, rfl⟩
    have : held (slPut L ⟨ino, page, s.frame, clock + 1⟩) hold = held L hold := by
      funext x
      unfold held
      rw [slotN_old (s0 := s) (s := ⟨ino, page, s.frame, clock + 1⟩) hS hs hi hp rfl]
    rw [this]
    exact h
  | full h0 h1 hr hn ht => exact ⟨h, rfl⟩
  | miss f p1 L1 h0 h1 hr hn ht =>
    obtain ⟨a1, a2, a3, a4, a5, a6, a7, a8, a9, a10⟩ := h.ctake hS ht
    have e := held_put (s := ⟨ino, page, f, clock + 1⟩) (hold := hold) (none_sub (find_none_any hn) ht.sub) a4
    rw [e]
    refine ⟨⟨a1.but.same rfl fun x hx => ?_, a1.cnt⟩, a3⟩
    show upd p1.dat f _ x = p1.dat x
    rw [upd_ne _ _ (fun e : x = f => a5 (by rw [← e]; exact hx))]
theorem GetRes.len {ino page r0 : Int} {k : Nat} {d : Nat → Nat} {p p' : Pool} {L L' : List Slot} {clock clock' r : Int} {f : Nat} (h : GetRes ino page r0 k d p L clock r f p' L' clock') : L'.length ≤ L.length + 1 ∧ clock ≤ clock' ∧ clock' ≤ clock + 1 := by
  have hput : ∀ (L : List Slot) (s : Slot), (slPut L s).length ≤ L.length + 1 := fun L s => by
    unfold slPut
    split <;> simp
  cases h with
  | bad h1 => exact ⟨by omega, by omega, by omega⟩
  | err => exact ⟨by omega, by omega, by omega⟩
  | hit s => exact ⟨hput _ _, by omega, by omega⟩
  | full => exact ⟨by omega, by omega, by omega⟩
  | miss f p1 L1 _ _ _ _ ht => exact ⟨Nat.le_trans (hput _ _) (Nat.succ_le_succ ht.sub.length_le), by omega, by omega⟩
theorem slPut_sole {L : List Slot} (h : Sole L) (s : Slot) : Sole (slPut L s) := by
  unfold slPut
  by_cases c : L.any (Slot.at s.ino s.page) = true
  · rw [if_pos c]
    refine List.pairwise_map.2 (h.imp ?_)
    intro a b hab
    have hk : ∀ x : Slot, (if Slot.at s.ino s.page x = true then s else x).ino = x.ino ∧ (if Slot.at s.ino s.page x = true then s else x).page = x.page := by
      intro x
      by_cases e : Slot.at s.ino s.page x = true
      · rw [if_pos e]
        have := Slot.at_iff.1 e
        exact ⟨this.1.symm, this.2.symm⟩
      · rw [if_neg e]; exact ⟨rfl, rfl⟩
    rw [(hk a).1, (hk a).2, (hk b).1, (hk b).2]
    exact hab
  · rw [if_neg c]
    refine List.pairwise_append.2 ⟨h, List.pairwise_singleton _ _, ?_⟩
    intro a ha b hb
    rw [List.mem_singleton] at hb
    subst hb
    intro e
    exact c (List.any_eq_true.2 ⟨a, ha, Slot.at_iff.2 e⟩)
theorem slPut_mem {L : List Slot} {s x : Slot} (h : x ∈ slPut L s) : x ∈ L ∨ x = s := by
  unfold slPut at h
  split at h
  · obtain ⟨y, hy, e⟩ := List.mem_map.1 h
    split at e
    · exact .inr e.symm
    · exact .inl (e ▸ hy)
  · rcases List.mem_append.1 h with h | h
    · exact .inl h
    · exact .inr (List.mem_singleton.1 h)
theorem TakeRes.size {p p' : Pool} {L L' : List Slot} {r : Int} {f : Nat} (h : TakeRes p L r f p' L') : p'.n = p.n ∧ (r = 0 → f < p.n) := by
  cases h with
  | free f h1 => exact ⟨rfl, fun _ => (lowest_some h1).1⟩
  | loose s h1 h2 h3 => exact ⟨rfl, fun _ => h3⟩
  | none => exact ⟨rfl, fun e => by cases e⟩
theorem GetRes.slow {ino page r0 : Int} {k : Nat} {d : Nat → Nat} {p p' : Pool} {L L' : List Slot} {clock clock' r : Int} {f n : Nat} (h : GetRes ino page r0 k d p L clock r f p' L' clock') (hn : p.n = n) (hL : ∀ s ∈ L, s.frame < n) : ∀ s ∈ L', s.frame < n := by
  cases h with
  | bad => exact hL
  | err => exact hL
  | hit s _ _ _ hs =>
    intro x hx
    rcases slPut_mem hx with hx | rfl
    · exact hL x hx
    · exact hL s (find_some_at hs).1
  | full => exact hL
  | miss f p1 L1 _ _ _ _ ht =>
    intro x hx
    rcases slPut_mem hx with hx | rfl
    · exact hL x (ht.sub.subset hx)
    · rw [← hn]; exact ht.size.2 rfl
theorem GetRes.sole {ino page r0 : Int} {k : Nat} {d : Nat → Nat} {p p' : Pool} {L L' : List Slot} {clock clock' r : Int} {f : Nat} (h : GetRes ino page r0 k d p L clock r f p' L' clock') (hS : Sole L) : Sole L' := by
  cases h with
  | bad => exact hS
  | err => exact hS
  | hit s => exact slPut_sole hS _
  | full => exact hS
  | miss f p1 L1 _ _ _ _ ht => exact slPut_sole (hS.sublist ht.sub) _

end Go.Proofs.YtmkgdgfbdmjeeaaDoor
