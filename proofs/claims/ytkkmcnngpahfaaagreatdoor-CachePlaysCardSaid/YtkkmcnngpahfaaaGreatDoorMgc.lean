/- The cache's laws: the object in memory, and how it is turned. (The lemmas on its two rows are printed by wip/bin/gen_vqf.py.) The cache's laws: Get at any page of any files; does: get. The cache's laws: does: take, and what does nothing. The cache's laws: a row's number at a place, counted round. The cache's laws: does: hold, drop. The cache's laws: does: give; does at anything. The cache's laws: does at anything; ops in memory; what New makes holds bytes. -/
import Derived.Test.YtkkmcnngpahfaaaGreatDoorVqE
import Derived.Test.YtkkmcnngpahfaaaGreatDoorTwA
import Derived.Test.YtkkmcnngpahfaaaGreatDoorMga
import Derived.StillTailTactics
import Derived.Test.YtkkmcnngpahfaaaGreatDoorTsB
import Derived.Deep.RegionLaw
import Derived.Deep.AppendLies
import Derived.Deep.QuietTactic
import Derived.BigQuiet
import Derived.Lib.QuietBelow
import Derived.Test.YtkkmcnngpahfaaaGreatDoorFlA

namespace Go.Proofs.YtkkmcnngpahfaaaGreatDoor
open Go.RowKit Go.Sort
set_option linter.unusedSimpArgs false
set_option linter.unusedVariables false

/-- A row lies apart from the pool, the object, the cache and its slots. -/
def RowNo (S : Nat → Prop) (o c m : Nat) (H : Option Addr) : Prop := ∀ b, H = some ⟨b, 0, none⟩ → ¬ S b ∧ b ≠ o ∧ b ≠ c ∧ b ≠ m
/-- What the object is made of, but what was there ahead of it. -/
def Foot8 (S : Nat → Prop) (o c m : Nat) (Hl Hh : Option Addr) : Nat → Prop := fun b => S b ∨ b = o ∨ b = c ∨ b = m ∨ Hl = some ⟨b, 0, none⟩ ∨ Hh = some ⟨b, 0, none⟩
/-- What stays: all that was there ahead, and all that is not the object's. -/
structure Stay8 (B : Nat) (X Y : Nat → Prop) (w w' : World) : Prop where
  below : Below B w w'
  mod : Mod X w w'
  out : Out X Y w
theorem Stay8.trans {B : Nat} {X Y Z : Nat → Prop} {w w1 w2 : World} (h : Stay8 B X Y w w1) (k : Stay8 B Y Z w1 w2) : Stay8 B X Z w w2 := ⟨h.below.trans k.below, h.mod.trans h.out k.mod, h.out.trans k.out h.mod.size⟩
theorem Stay8.of {B : Nat} {X : Nat → Prop} {w w' : World} (h : Below w.heap.size w w') (hB : B ≤ w.heap.size) : Stay8 B X X w w' := ⟨h.mono hB, Mod.of h, Out.refl _ _⟩
theorem row8_lt {w : World} {base : Nat} {A : Option Addr} {cap : Nat} {l : List Nat} (h : OwnN w base A cap l) : ∀ b, A = some ⟨b, 0, none⟩ → base ≤ b ∧ b < w.heap.size := fun b hb => by
  rcases h.form with ⟨e, _⟩ | ⟨g, e, h1, h2, _⟩
  · rw [e] at hb; cases hb
  · rw [e] at hb; injection hb with hb; injection hb with hb; subst hb; exact ⟨h1, h2⟩
end Go.Proofs.YtkkmcnngpahfaaaGreatDoor

namespace Go.Proofs.YtkkmcnngpahfaaaGreatDoor
open Go.RowKit Go.Sort
set_option linter.unusedSimpArgs false
set_option linter.unusedVariables false

end Go.Proofs.YtkkmcnngpahfaaaGreatDoor

namespace Go.Proofs.YtkkmcnngpahfaaaGreatDoor
open Go.RowKit Go.Sort
set_option linter.unusedSimpArgs false
set_option linter.unusedVariables false

end Go.Proofs.YtkkmcnngpahfaaaGreatDoor

namespace Go.Proofs.YtkkmcnngpahfaaaGreatDoor
open Go.RowKit Go.Sort
set_option linter.unusedSimpArgs false
set_option linter.unusedVariables false

theorem at8_no (A : Option Addr) (cap : Nat) (l : List Nat) (n : Int) (w : World) (hn : pick l n = none) :
    Calls Tryz.prog 63 #[.slice A l.length cap, .int .i64 n] w fun e w' => e = .returned (.tuple #[.int .i64 0, .bool false]) ∧ w = w' := by
  by_cases h0 : l.length = 0
  · rw [h0]
    clear hn h0
    go_enter Tryz.func63, Tryz.ntmps63
    go_wp2_with fail
    go_ret2
    exact ⟨rfl, rfl⟩
  · have h1 : n < 0 := (pick_none hn).elim id fun e => by rw [e] at h0; exact absurd rfl h0
    clear hn
    generalize l.length = k at h0 ⊢
    have h2 : ((k : Int) == 0) = false := by rw [beq_eq_false_iff_ne]; omega
    clear h0
    go_enter Tryz.func63, Tryz.ntmps63
    go_wp2_with fail
    go_ret2
    exact ⟨rfl, rfl⟩
theorem at8_yes (base : Nat) (A : Option Addr) (cap f : Nat) (n : Int) (l : List Nat) (w : World) (h : OwnN w base A cap l) (hf : pick l n = some f) :
    Calls Tryz.prog 63 #[.slice A l.length cap, .int .i64 n] w fun e w' => e = .returned (.tuple #[.int .i64 (f : Int), .bool true]) ∧ w = w' := by
  obtain ⟨hn0, hl0, hfi⟩ := pick_some hf
  rcases h.form with ⟨_, h2, _⟩ | ⟨g, rfl, _, _, hc⟩
  · subst h2; cases hl0
  obtain ⟨i, hi⟩ : ∃ i, i = n.toNat % l.length := ⟨_, rfl⟩
  rw [← hi] at hfi
  have hcell := h.elem hfi
  have hil : i < l.length := (List.getElem?_eq_some_iff.1 hfi).1
  have hrem : n.tmod (l.length : Int) = (i : Int) := by
    obtain ⟨N, rfl⟩ := Int.eq_ofNat_of_zero_le hn0
    rw [hi]
    rfl
  have hii : (i : Int) < (l.length : Int) := by omega
  have hpos : ((l.length : Int) == 0) = false := by rw [beq_eq_false_iff_ne]; omega
  have hneg : decide (n < 0) = false := by rw [decide_eq_false_iff_not]; omega
  clear h hf hfi hi hl0 hn0
  generalize l.length = k at *
  go_enter Tryz.func63, Tryz.ntmps63
  go_wp2_with fail
  go_ret2
  exact ⟨rfl, rfl⟩

end Go.Proofs.YtkkmcnngpahfaaaGreatDoor

namespace Go.Proofs.YtkkmcnngpahfaaaGreatDoor
open Go.RowKit Go.Sort
set_option linter.unusedSimpArgs false
set_option linter.unusedVariables false

theorem slotN_le (L : List Slot) (f : Nat) : slotN L f ≤ L.length := by
  unfold slotN
  exact List.countP_le_length
theorem cntL_le (l : List Nat) (f : Nat) : cntL l f ≤ l.length := by
  unfold cntL
  exact List.count_le_length

end Go.Proofs.YtkkmcnngpahfaaaGreatDoor

namespace Go.Proofs.YtkkmcnngpahfaaaGreatDoor
open Go.RowKit Go.Sort
set_option linter.unusedSimpArgs false
set_option linter.unusedVariables false

/-- append of a row's numbers, none or more, to a row that is there -/
theorem app_intsX {w : World} {ops : Array Oper} {rest : List Oper} {o : Oper} {a : Act} {Q : Exit → Act → World → Prop} (hgd : o.guard = none) (s x : Operand)
    (ho : o.op = .call { callee := .builtin .append, args := #[s, x], argTypes := #[55, 55] })
    (base g0 : Nat) (cap k m : Nat) (l l2 : List Nat) (hk : l.length = k) (hm : l2.length = m) (hs : a.eval s = .slice (some ⟨g0, 0, none⟩) k cap) (hown : OwnN w base (some ⟨g0, 0, none⟩) cap l)
    (ad : Addr) (c : Nat) (hx : a.eval x = .slice (some ad) m c) (hA : ∀ (j f : Nat), l2[j]? = some f → w.cell? (ad.add j) = some (.int .i64 (f : Int))) (hfew : k + m ≤ 10000000) (hbase : base ≤ w.heap.size)
    (h : ∀ g cap' w', OwnN w' base (some ⟨g, 0, none⟩) cap' (l ++ l2) → Below base w w' → wpList Tryz.prog ops Q rest (a.put o.dst (.slice (some ⟨g, 0, none⟩) (k + m) cap')) w') :
    wpList Tryz.prog ops Q (o :: rest) a w := by
  by_cases hm0 : m = 0
  · subst hm0
    have hl2 : l2 = [] := List.eq_nil_of_length_eq_zero hm
    subst hl2
    refine app_none hgd s x ho (some ⟨g0, 0, none⟩) k cap hs (hk ▸ hown.formS.2.2) ad c hx ?_
    exact h g0 cap w (by rw [List.append_nil]; exact hown) (Below.refl _ _)
  · refine app_ints hgd s x ho base (some ⟨g0, 0, none⟩) cap k m l l2 hk hm hs hown ad c hx hA (by omega) hfew hbase ?_
    intro g cap' w' h1 h2 h3 h4
    have hg0 := hown.formS
    exact h g cap' w' h1 ((Below.refl _ _).grown h2 hbase (fun k hk => by simp at hk; omega))

end Go.Proofs.YtkkmcnngpahfaaaGreatDoor

namespace Go.Proofs.YtkkmcnngpahfaaaGreatDoor
open Go.RowKit Go.Sort
set_option linter.unusedSimpArgs false
set_option linter.unusedVariables false

def Op8.val (o : Op8) : Value := .agg #[.int .i64 o.kind, .int .i64 o.ino, .int .i64 o.page, .int .i64 o.n]
structure Op8.Ok (o : Op8) : Prop where
  kind : (Lit.int .i64 o.kind).wf = true
  ino : (Lit.int .i64 o.ino).wf = true
  page : (Lit.int .i64 o.page).wf = true
  n : (Lit.int .i64 o.n).wf = true
structure OpAt8 (w : World) (b o : Nat) (x : Op8) : Prop where
  c0 : w.cell? ⟨b, o, none⟩ = some (.int .i64 x.kind)
  c1 : w.cell? ⟨b, o + 1, none⟩ = some (.int .i64 x.ino)
  c2 : w.cell? ⟨b, o + 2, none⟩ = some (.int .i64 x.page)
  c3 : w.cell? ⟨b, o + 3, none⟩ = some (.int .i64 x.n)
theorem OpAt8.below {w w' : World} {B b o : Nat} {x : Op8} (h : OpAt8 w b o x) (hb : Below B w w') (hB : b < B) : OpAt8 w' b o x :=
  ⟨(hb.cell (p := ⟨b, o, none⟩) hB).trans h.c0, (hb.cell (p := ⟨b, o + 1, none⟩) hB).trans h.c1, (hb.cell (p := ⟨b, o + 2, none⟩) hB).trans h.c2, (hb.cell (p := ⟨b, o + 3, none⟩) hB).trans h.c3⟩
/-- A slice that reads as a list of ops, below block B. -/
structure OSl8 (w : World) (B : Nat) (A : Option Addr) (n cap : Nat) (l : List Op8) : Prop where
  len : l.length = n
  cap : n ≤ cap
  few : n ≤ 1000000
  at_ : ∀ k x, l[k]? = some x → ∃ b off, A = some ⟨b, off, none⟩ ∧ b < B ∧ OpAt8 w b (off + k * 4) x
  ok : ∀ x ∈ l, x.Ok
theorem OSl8.below {w w' : World} {B B' : Nat} {A : Option Addr} {n cap : Nat} {l : List Op8} (h : OSl8 w B A n cap l) (hb : Below B' w w') (hB : B ≤ B') : OSl8 w' B A n cap l :=
  ⟨h.len, h.cap, h.few, fun k r hr => by
    obtain ⟨b, off, e, hlt, hra⟩ := h.at_ k r hr
    exact ⟨b, off, e, hlt, hra.below hb (by omega)⟩, h.ok⟩
theorem OSl8.more {w : World} {B B' : Nat} {A : Option Addr} {n cap : Nat} {l : List Op8} (h : OSl8 w B A n cap l) (hB : B ≤ B') : OSl8 w B' A n cap l :=
  ⟨h.len, h.cap, h.few, fun k r hr => by
    obtain ⟨b, off, e, hlt, hra⟩ := h.at_ k r hr
    exact ⟨b, off, e, by omega, hra⟩, h.ok⟩
theorem OSl8.nil (w : World) (B : Nat) : OSl8 w B none 0 0 [] := ⟨rfl, Nat.le_refl _, by omega, (fun k x h => by simp at h), (fun x h => by cases h)⟩

/-- The state ahead of all that is done. -/
theorem start8 (F : List Nd) (n : Nat) : (St8.mk (fresh n) [] 0 [] []).Fine F (fun _ => 0) n 0 :=
  ⟨fun f _ => rfl, (by unfold Sole; exact List.Pairwise.nil), (fun s hs => by cases hs), rfl, ⟨Nat.le_refl _, Nat.le_refl _, Nat.le_refl _, Int.le_refl _, Int.le_refl _⟩, (fun f hf => by cases hf), (fun f hf => by cases hf), (fun f hf => by cases hf), (fun f hf => by cases hf)⟩
theorem St8.Fine.more {s : St8} {F : List Nd} {ext : Nat → Nat} {n k k' : Nat} (h : s.Fine F ext n k) (hk : k ≤ k') : s.Fine F ext n k' :=
  ⟨h.even, h.sole, h.filled, h.size, by have := h.few; omega, h.lowL, h.lowH, h.slow, h.keys⟩

end Go.Proofs.YtkkmcnngpahfaaaGreatDoor
