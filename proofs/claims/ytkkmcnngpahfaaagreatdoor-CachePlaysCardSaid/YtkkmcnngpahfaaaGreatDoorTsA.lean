/- What is done with a table and its cache: what it comes to. Plain. -/
import Derived.Test.YtkkmcnngpahfaaaGreatDoorTmC
import Derived.Test.YtkkmcnngpahfaaaGreatDoorTtH
import Derived.Test.YtkkmcnngpahfaaaGreatDoorCaZ
import Derived.Test.YtkkmcnngpahfaaaGreatDoorPrA
import Derived.Test.YtkkmcnngpahfaaaGreatDoorVpY
namespace Go.Proofs.YtkkmcnngpahfaaaGreatDoor
set_option linter.unusedSimpArgs false
set_option linter.unusedVariables false

structure Sta where
  p : Pool
  T : Tab
  L : List Slot
  clock : Int
  hold : List Nat
def cntH (l : List Nat) : Nat → Nat := fun f => l.count f
def Op.pg (o : Op) : Nat := o.addr.toNat / 4096
def Op.leaf (o : Op) : Leaf := ⟨o.frame.toNat, o.prot.toNat, o.copy⟩

structure Sta.Fine (s : Sta) (root n k : Nat) : Prop where
  good : s.T.Good s.p (held s.L (cntH s.hold)) 0 4
  root : s.T.nd 4 0 = some root
  sole : Sole s.L
  size : s.p.n = n
  few : s.L.length ≤ k ∧ s.hold.length ≤ k ∧ 0 ≤ s.clock ∧ s.clock ≤ k
  low : ∀ f ∈ s.hold, f < n
  slow : ∀ x ∈ s.L, x.frame < n
  keys : ∀ x ∈ s.L, x.ino = 1 ∧ 0 ≤ x.page ∧ x.page < 16

structure Told where
  frame : Int
  leaf : Leaf
  e : Int
def Told.err (r : Int) : Told := ⟨0, noLeaf, r⟩

/-- What the file of three pages answers at a page. -/
def fileK (page : Int) : Nat := min 4096 (8201 - (page * 4096).toNat)
def fileD (page : Int) : Nat → Nat := fun i => if i < fileK page then fileDat ((page * 4096).toNat + i) else 0

inductive DoRes (o : Op) (s : Sta) : Told → Sta → Prop
  | mapBad : o.kind = 0 → MapBad s.p o.addr o.frame o.prot → DoRes o s (.err 1) s
  | mapThere : o.kind = 0 → ¬ MapBad s.p o.addr o.frame o.prot → (s.T.lf o.pg).isSome = true → DoRes o s (.err 7) s
  | mapGo (r : Int) (p' : Pool) (T' : Tab) (L' : List Slot) : o.kind = 0 → ¬ MapBad s.p o.addr o.frame o.prot → (s.T.lf o.pg).isSome = false → MapRes s.p s.T s.L (cntH s.hold) o.pg o.leaf r p' T' L' → DoRes o s (.err r) ⟨p', T', L', s.clock, s.hold⟩
  | unmap (r : Int) (p' : Pool) (T' : Tab) : o.kind = 1 → UnRes s.p s.T (held s.L (cntH s.hold)) o.addr r p' T' → DoRes o s (.err r) ⟨p', T', s.L, s.clock, s.hold⟩
  | set : o.kind = 2 → DoRes o s (.err (setRes s.p s.T o.addr o.frame o.prot o.copy).1) ⟨(setRes s.p s.T o.addr o.frame o.prot o.copy).2.1, (setRes s.p s.T o.addr o.frame o.prot o.copy).2.2, s.L, s.clock, s.hold⟩
  | find : o.kind = 3 → DoRes o s ⟨0, (findRes s.T o.addr).1, (findRes s.T o.addr).2⟩ s
  | take (r : Int) (f : Nat) (p' : Pool) (L' : List Slot) : o.kind = 4 → TakeRes s.p s.L r f p' L' → DoRes o s ⟨f, noLeaf, r⟩ ⟨p', s.T, L', s.clock, if r = 0 then s.hold ++ [f] else s.hold⟩
  | get (r : Int) (f : Nat) (p' : Pool) (L' : List Slot) (clock' : Int) : o.kind = 5 → GetRes 1 o.n 0 (fileK o.n) (fileD o.n) s.p s.L s.clock r f p' L' clock' → DoRes o s ⟨f, noLeaf, r⟩ ⟨p', s.T, L', clock', s.hold⟩
  | give (f : Nat) : o.kind = 6 → 0 ≤ o.n → s.hold[o.n.toNat]? = some f → DoRes o s (.err 0) ⟨s.p.down f, s.T, s.L, s.clock, s.hold.eraseIdx o.n.toNat⟩
  | giveNone : o.kind = 6 → (o.n < 0 ∨ (s.hold.length : Int) ≤ o.n) → DoRes o s (.err 0) s
  | other : o.kind < 0 ∨ 7 < o.kind → DoRes o s (.err 0) s

theorem cntH_snoc (l : List Nat) (f : Nat) : cntH (l ++ [f]) = upd (cntH l) f (cntH l f + 1) := by
  funext x
  unfold cntH
  rw [List.count_append]
  by_cases e : x = f
  · subst e; rw [upd_same]; simp
  · rw [upd_ne _ _ e, List.count_singleton]
    have : (f == x) = false := beq_eq_false_iff_ne.2 fun h => e h.symm
    rw [this]
    simp
theorem cntH_erase {l : List Nat} {i f : Nat} (h : l[i]? = some f) : cntH (l.eraseIdx i) = upd (cntH l) f (cntH l f - 1) := by
  obtain ⟨hi, he⟩ := List.getElem?_eq_some_iff.1 h
  have e1 : l = l.take i ++ f :: l.drop (i + 1) := by
    rw [← he, ← List.drop_eq_getElem_cons hi, List.take_append_drop]
  have e2 : l.eraseIdx i = l.take i ++ l.drop (i + 1) := List.eraseIdx_eq_take_drop_succ _ _
  funext x
  have e3 : cntH l x = (l.take i).count x + (f :: l.drop (i + 1)).count x := by
    unfold cntH
    rw [← List.count_append, ← e1]
  have e4 : cntH (l.eraseIdx i) x = (l.take i).count x + (l.drop (i + 1)).count x := by
    unfold cntH
    rw [e2, List.count_append]
  rw [List.count_cons] at e3
  by_cases e : x = f
  · subst e
    rw [upd_same, e4, e3]
    simp
  · rw [upd_ne _ _ e, e4, e3]
    have : (f == x) = false := beq_eq_false_iff_ne.2 fun h => e h.symm
    rw [this]
    simp
theorem cntH_pos {l : List Nat} {i f : Nat} (h : l[i]? = some f) : 0 < cntH l f := List.count_pos_iff.2 (List.mem_of_getElem? h)
theorem setRes_ok {p : Pool} {T : Tab} {A fr q : Int} {cp : Bool} {rest : Nat → Nat} (h : T.Good p rest 0 4) (hq : 0 ≤ q) :
    ((setRes p T A fr q cp).2.2).Good (setRes p T A fr q cp).2.1 rest 0 4 ∧ (setRes p T A fr q cp).2.1.n = p.n ∧ (setRes p T A fr q cp).2.2.nd = T.nd ∧ ∀ pg, pg ≠ A.toNat / 4096 → (setRes p T A fr q cp).2.2.lf pg = T.lf pg := by
  unfold setRes
  by_cases h1 : 7 < q ∨ countB p fr = 0
  · rw [if_pos h1]; exact ⟨h, rfl, rfl, fun _ _ => rfl⟩
  · rw [if_neg h1]
    by_cases h2 : 140737488355328 ≤ A
    · rw [if_pos h2]; exact ⟨h, rfl, rfl, fun _ _ => rfl⟩
    · rw [if_neg h2]
      have h3 : takenB p fr = true := by
        cases hc : takenB p fr with
        | true => rfl
        | false => exact absurd (.inr (by unfold countB; rw [hc]; rfl)) h1
      obtain ⟨g, rfl, hgn, hg0⟩ := takenB_yes h3
      cases hl : T.lf (A.toNat / 4096) with
      | none => exact ⟨h, rfl, rfl, fun _ _ => rfl⟩
      | some was =>
        cases hn : T.nd 1 (part (A.toNat / 4096) 1) with
        | none => exact ⟨h, rfl, rfl, fun _ _ => rfl⟩
        | some x =>
          refine ⟨((h.any (A.toNat / 4096) 4).laySet (h.ok.rootPage hl) hn hl (l := ⟨((g : Int)).toNat, q.toNat, cp⟩) (by show q.toNat ≤ 7; omega) (by show ((g : Int)).toNat < p.n; omega)).any 0 4, rfl, rfl, fun pg hpg => upd_ne _ _ hpg⟩

theorem GetRes.keys {page r0 : Int} {k : Nat} {d : Nat → Nat} {p p' : Pool} {L L' : List Slot} {clock clock' r : Int} {f : Nat} (h : GetRes 1 page r0 k d p L clock r f p' L' clock') (hL : ∀ s ∈ L, s.ino = 1 ∧ 0 ≤ s.page ∧ s.page < 16) : ∀ s ∈ L', s.ino = 1 ∧ 0 ≤ s.page ∧ s.page < 16 := by
  cases h with
  | bad => exact hL
  | err => exact hL
  | hit s h0 h16 _ hs =>
    intro x hx
    rcases slPut_mem hx with hx | rfl
    · exact hL x hx
    · exact ⟨rfl, h0, h16⟩
  | full => exact hL
  | miss f p1 L1 h0 h16 _ _ ht =>
    intro x hx
    rcases slPut_mem hx with hx | rfl
    · exact hL x (ht.sub.subset hx)
    · exact ⟨rfl, h0, h16⟩
theorem Sta.Fine.step {o : Op} {s s' : Sta} {x : Told} {root n m : Nat} (h : s.Fine root n m) (ho : o.Ok) (hd : DoRes o s x s') : s'.Fine root n (m + 1) := by
  obtain ⟨h1, h2, h3, h4, ⟨h5, h6, h7, h8⟩, hlow, hslow, hkeys⟩ := h
  have same : s.Fine root n (m + 1) := ⟨h1, h2, h3, h4, ⟨by omega, by omega, h7, by omega⟩, hlow, hslow, hkeys⟩
  have f1 : s.L.length ≤ m + 1 := by omega
  have f2 : s.hold.length ≤ m + 1 := by omega
  have f3 : s.clock ≤ ((m + 1 : Nat) : Int) := by omega
  cases hd with
  | mapBad => exact same
  | mapThere => exact same
  | mapGo r p' T' L' _ _ _ hr =>
    obtain ⟨g1, g2, g3, g4, g5⟩ := hr
    refine ⟨g1.any 0 4, ?_, g3, g2.trans h4, ⟨?_, f2, h7, f3⟩, hlow, fun x hx => hslow x (g4.subset hx), fun x hx => hkeys x (g4.subset hx)⟩
    · rcases g5 with ⟨_, rfl, _⟩ | ⟨_, _, g6, _⟩
      · exact h2
      · exact g6 _ _ _ h2
    · show L'.length ≤ m + 1
      have := g4.length_le
      omega
  | unmap r p' T' _ hr =>
    rcases hr with ⟨_, rfl, rfl, _⟩ | ⟨_, _, _, hg⟩
    · exact same
    · exact ⟨hg.good.any 0 4, (hg.top 4 0 (by omega)).trans h2, h3, hg.n.trans h4, ⟨f1, f2, h7, f3⟩, hlow, hslow, hkeys⟩
  | set =>
    obtain ⟨g1, g2, g3, _⟩ := setRes_ok (A := o.addr) (fr := o.frame) (q := o.prot) (cp := o.copy) h1 ho.p0
    exact ⟨g1, (congrFun (congrFun g3 4) 0).trans h2, h3, g2.trans h4, ⟨f1, f2, h7, f3⟩, hlow, hslow, hkeys⟩
  | find => exact same
  | take r f p' L' _ ht =>
    rcases ht.two with rfl | ⟨rfl, rfl, rfl, rfl⟩
    · obtain ⟨a1, a2, a3, a4, a5, a6, a7, a8, a9, a10⟩ := h1.ctake h3 ht
      refine ⟨?_, h2, a8, a3.trans h4, ⟨?_, ?_, h7, f3⟩, ?_, fun x hx => hslow x (ht.sub.subset hx), fun x hx => hkeys x (ht.sub.subset hx)⟩
      · show s.T.Good p' (held L' (cntH (if (0 : Int) = 0 then s.hold ++ [f] else s.hold))) 0 4
        rw [if_pos rfl, cntH_snoc, a4]
        exact a1
      · show L'.length ≤ m + 1
        have := ht.sub.length_le
        omega
      · show (if (0 : Int) = 0 then s.hold ++ [f] else s.hold).length ≤ m + 1
        rw [if_pos rfl, List.length_append]
        simp only [List.length_singleton]
        omega
      · show ∀ x ∈ (if (0 : Int) = 0 then s.hold ++ [f] else s.hold), x < n
        rw [if_pos rfl]
        intro x hx
        rcases List.mem_append.1 hx with hx | hx
        · exact hlow x hx
        · rw [List.mem_singleton] at hx
          subst hx
          rw [← h4]
          exact a2
    · refine ⟨?_, h2, h3, h4, ⟨f1, ?_, h7, f3⟩, ?_, hslow, hkeys⟩
      · show s.T.Good s.p (held s.L (cntH (if (4 : Int) = 0 then s.hold ++ [0] else s.hold))) 0 4
        rw [if_neg (by decide)]
        exact h1
      · show (if (4 : Int) = 0 then s.hold ++ [0] else s.hold).length ≤ m + 1
        rw [if_neg (by decide)]
        omega
      · show ∀ x ∈ (if (4 : Int) = 0 then s.hold ++ [0] else s.hold), x < n
        rw [if_neg (by decide)]
        exact hlow
  | get r f p' L' clock' _ hg =>
    obtain ⟨g1, g2⟩ := h1.get h3 hg
    obtain ⟨g3, g4, g5⟩ := hg.len
    exact ⟨g1, h2, hg.sole h3, g2.trans h4, ⟨by show L'.length ≤ m + 1; omega, f2, by show 0 ≤ clock'; omega, by show clock' ≤ ((m + 1 : Nat) : Int); omega⟩, hlow, hg.slow h4 hslow, hg.keys hkeys⟩
  | give f _ _ hf =>
    refine ⟨?_, h2, h3, h4, ⟨f1, ?_, h7, f3⟩, fun x hx => hlow x (List.eraseIdx_sublist _ _ |>.subset hx), hslow, hkeys⟩
    · show s.T.Good (s.p.down f) (held s.L (cntH (s.hold.eraseIdx o.n.toNat))) 0 4
      have hp := cntH_pos hf
      rw [cntH_erase hf, ← held_less _ _ _ hp]
      exact h1.down (by unfold held; omega)
    · show (s.hold.eraseIdx o.n.toNat).length ≤ m + 1
      rw [List.length_eraseIdx]
      split <;> omega
  | giveNone => exact same
  | other => exact same

/-- What is done at a page changes no leaf of another page. -/
theorem DoRes.apart {o : Op} {s s' : Sta} {x : Told} {root n m : Nat} (h : s.Fine root n m) (ho : o.Ok) (hd : DoRes o s x s') {pg : Nat} (hpg : pg ≠ o.pg) : s'.T.lf pg = s.T.lf pg := by
  cases hd with
  | mapGo r p' T' L' _ _ _ hr =>
    obtain ⟨_, _, _, _, hr⟩ := hr
    rcases hr with ⟨_, rfl, _⟩ | ⟨_, hlf, _⟩
    · rfl
    · show T'.lf pg = _
      rw [hlf, upd_ne _ _ hpg]
  | unmap r p' T' _ hr =>
    rcases hr with ⟨_, rfl, rfl, _⟩ | ⟨_, _, _, hg⟩
    · rfl
    · show T'.lf pg = _
      rw [hg.lf]
      exact upd_ne _ _ hpg
  | set => exact (setRes_ok (A := o.addr) (fr := o.frame) (q := o.prot) (cp := o.copy) h.good ho.p0).2.2.2 pg hpg
  | _ => rfl

end Go.Proofs.YtkkmcnngpahfaaaGreatDoor
