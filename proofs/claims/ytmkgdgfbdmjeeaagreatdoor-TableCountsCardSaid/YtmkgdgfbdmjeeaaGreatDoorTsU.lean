/- The room after a Map that was refused: what the cache dropped is free. Plain. -/
import Derived.Test.YtmkgdgfbdmjeeaaGreatDoorCaZ
namespace Go.Proofs.YtmkgdgfbdmjeeaaGreatDoor
set_option linter.unusedSimpArgs false
set_option linter.unusedVariables false

theorem slotN_cons (a : Slot) (L : List Slot) (f : Nat) : slotN (a :: L) f = slotN L f + if a.frame = f then 1 else 0 := by
  unfold slotN
  rw [List.countP_cons]
  by_cases e : a.frame = f
  · simp [e]
  · simp [e]
theorem free_drop {L L' : List Slot} (h : L'.Sublist L) (n : Nat) : ∀ (A : Nat → Nat), L.Nodup → (∀ s ∈ L, s.frame < n) → (∀ s ∈ L, s ∉ L' → slotN L s.frame = 1 ∧ A s.frame = 0) →
    freeTo (fun f => A f + slotN L' f) n + L'.length = freeTo (fun f => A f + slotN L f) n + L.length := by
  induction h with
  | slnil => intro A _ _ _; rfl
  | @cons l1 l2 a h ih =>
    intro A hn hf hd
    have hn1 := List.nodup_cons.1 hn
    obtain ⟨d1, d2⟩ := hd a (List.mem_cons_self ..) fun e => hn1.1 (h.subset e)
    rw [slotN_cons, if_pos rfl] at d1
    have hih := ih A hn1.2 (fun s hs => hf s (List.mem_cons_of_mem _ hs)) fun s hs hs' => by
      obtain ⟨e1, e2⟩ := hd s (List.mem_cons_of_mem _ hs) hs'
      rw [slotN_cons] at e1
      have := slotN_pos hs
      exact ⟨by split at e1 <;> omega, e2⟩
    have hu := freeTo_upd (c := fun f => A f + slotN l2 f) (n := n) (f := a.frame) (x := 1) (hf a (List.mem_cons_self ..))
    rw [if_pos (by omega), if_neg (by omega)] at hu
    have hc : freeTo (fun f => A f + slotN (a :: l2) f) n = freeTo (upd (fun f => A f + slotN l2 f) a.frame 1) n := freeTo_congr fun i _ => by
      rw [slotN_cons]
      by_cases e : i = a.frame
      · subst e
        rw [upd_same, if_pos rfl]
        omega
      · rw [upd_ne _ _ e, if_neg (fun e1 => e e1.symm)]
        simp
    rw [hc, List.length_cons]
    omega
  | @cons_cons l1 l2 a h ih =>
    intro A hn hf hd
    have hn1 := List.nodup_cons.1 hn
    have hih := ih (fun f => A f + if a.frame = f then 1 else 0) hn1.2 (fun s hs => hf s (List.mem_cons_of_mem _ hs)) fun s hs hs' => by
      obtain ⟨e1, e2⟩ := hd s (List.mem_cons_of_mem _ hs) fun e => by
        rcases List.mem_cons.1 e with e | e
        · exact hn1.1 (e ▸ hs)
        · exact hs' e
      rw [slotN_cons] at e1
      have := slotN_pos hs
      by_cases c : a.frame = s.frame
      · rw [if_pos c] at e1; omega
      · rw [if_neg c] at e1
        exact ⟨by omega, by simp [c, e2]⟩
    have c1 : ∀ l : List Slot, freeTo (fun f => A f + slotN (a :: l) f) n = freeTo (fun f => (A f + if a.frame = f then 1 else 0) + slotN l f) n := fun l => by
      congr 1
      funext f
      rw [slotN_cons]
      omega
    rw [c1, c1, List.length_cons, List.length_cons]
    omega

theorem left_drop {p p' : Pool} {T : Tab} {L L' : List Slot} {hold : Nat → Nat} {pg lv : Nat} (h : T.Good p (held L hold) pg lv) (h' : T.Good p' (held L' hold) pg lv) (hn : p'.n = p.n) (hS : Sole L) (hsub : L'.Sublist L) (hf : ∀ s ∈ L, s.frame < p.n)
    (hl : ∀ s ∈ L, s ∉ L' → Loose T L hold s) : p'.left + L'.length = p.left + L.length := by
  have key : freeTo (fun f => leafCnt T f + nodeCnt T f + hold f + slotN L' f) p.n + L'.length = freeTo (fun f => leafCnt T f + nodeCnt T f + hold f + slotN L f) p.n + L.length := free_drop hsub p.n (fun f => leafCnt T f + nodeCnt T f + hold f) hS.nodup hf fun s hs hs' => by
    obtain ⟨l1, l2, l3, l4⟩ := hl s hs hs'
    refine ⟨l1, ?_⟩
    have := nodeCnt_no l3
    omega
  have e1 : p.left = freeTo (fun f => leafCnt T f + nodeCnt T f + hold f + slotN L f) p.n := freeTo_congr fun i hi => by
    have := h.cnt i hi
    unfold held at this
    omega
  have e2 : p'.left = freeTo (fun f => leafCnt T f + nodeCnt T f + hold f + slotN L' f) p.n := by
    unfold Pool.left
    rw [hn]
    exact freeTo_congr fun i hi => by
      have := h'.cnt i (by omega)
      unfold held at this
      omega
  omega

end Go.Proofs.YtmkgdgfbdmjeeaaGreatDoor
