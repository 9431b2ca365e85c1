/- Tables: visit. -/
import Derived.Test.YtmkgdgfbdmjeeaaDoorTtF
import Derived.Test.YtmkgdgfbdmjeeaaDoorTbA
namespace Go.Proofs.YtmkgdgfbdmjeeaaDoor
open Go.RowKit
set_option linter.unusedSimpArgs false
set_option linter.unusedVariables false

/-- New memory alone turns nothing of what a visit's functions hold. -/
def VisStays (R : World → List Ev → (Nat → Prop) → Prop) : Prop := ∀ w w' l X, R w l X → Below w.heap.size w w' → R w' l X
/-- A visit has come to l; its functions' blocks are X, apart from the pool's and the table's. -/
structure VisOk (R : World → List Ev → (Nat → Prop) → Prop) (S : Nat → Prop) (t : Nat) (w : World) (l : List Ev) (X : Nat → Prop) : Prop where
  rel : R w l X
  low : ∀ b, X b → b < w.heap.size
  apart : ∀ b, S b → ¬ X b
  noT : ¬ X t
  no0 : ¬ X 0
theorem VisOk.below {R : World → List Ev → (Nat → Prop) → Prop} {S : Nat → Prop} {t : Nat} {w w' : World} {l : List Ev} {X : Nat → Prop} (h : VisOk R S t w l X) (hR : VisStays R) (hb : Below w.heap.size w w') : VisOk R S t w' l X :=
  ⟨hR w w' l X h.rel hb, fun b hx => Nat.lt_of_lt_of_le (h.low b hx) hb.size, h.apart, h.noT, h.no0⟩
def VisPost (w : World) (X : Nat → Prop) (R : World → List Ev → (Nat → Prop) → Prop) (S : Nat → Prop) (t : Nat) (l : List Ev) (e : Ending) (w' : World) : Prop :=
  e = .returned (.tuple #[]) ∧ ∃ X', VisOk R S t w' l X' ∧ Mod X w w' ∧ Out X X' w

theorem or_at {a b i : Nat} (hb : b < 2 ^ i) (h : a * 2 ^ i + b < 18446744073709551616) : bits .or .u64 ((a * 2 ^ i : Nat) : Int) (b : Int) = ((a * 2 ^ i + b : Nat) : Int) := by
  rw [bits_or_u64_nat _ _ (by omega) (by omega)]
  have := Nat.two_pow_add_eq_or_of_lt hb a
  rw [Nat.mul_comm a (2 ^ i)]
  exact congrArg _ this.symm

set_option maxRecDepth 100000 in
set_option maxHeartbeats 4000000 in
theorem vis_nodes1 (t c a root g q : Nat) (bo : Nat)(R : World → List Ev → (Nat → Prop) → Prop) (w : World) (S : Nat → Prop) (p : Pool) (T : Tab) (rest : Nat → Nat) (pg0 : Nat) (X : Nat → Prop) (l : List Ev) (h : PoolAt w S a p) (ht : TabSelf w t c a root) (hgood : T.Good p rest pg0 4) (hq : T.nd 1 q = some g) (hqb : q < 512 ^ (4 - 1))
    (hv : VisOk R S t w l X) (hlen : l.length + (T.evs 1 q).length < 1000000) (hR : VisStays R)
    (hn : ∀ (w : World) (l : List Ev) (X : Nat → Prop) (f : Nat), VisOk R S t w l X → l.length < 1000000 → Calls Tryd.prog 72 (#[.int .i64 (f : Int)] ++ #[.pointer (some ⟨bo, 0, none⟩)]) w (VisPost w X R S t (l ++ [.node f])))
    (hl : ∀ (w : World) (l : List Ev) (X : Nat → Prop) (pg : Nat) (y : Leaf), VisOk R S t w l X → l.length < 1000000 → Calls Tryd.prog 73 (#[.int .u64 ((pg * 4096 : Nat) : Int), .agg #[.int .i64 (y.frame : Int), .int .u8 (y.prot : Int), .bool y.copy]] ++ #[]) w (VisPost w X R S t (l ++ [.leaf pg y])))
    (fr : Int) (hfr : fr = ((q * 512 ^ 1 * 4096 : Nat) : Int)) :
    Calls Tryd.prog 55 #[.pointer (some ⟨t, 0, none⟩), .int .i64 (g : Int), .int .i64 3, .int .u64 fr, .func (.func 72) #[] #[.pointer (some ⟨bo, 0, none⟩)], .func (.func 73) #[] #[]] w (VisPost w X R S t (l ++ T.evs 1 q)) := by
  have hev := Tab.evs_node hq
  obtain ⟨g1, g2⟩ := hgood.node hq
  have hwords := (hgood.but.words 1 q g hq).2
  have hfew := hgood.but.few
  have HEV := Lib.hid hev
  have HQ := Lib.hid hq
  have HV := Lib.hid hv
  have HP := Lib.hid h
  have HT := Lib.hid ht
  have HN := Lib.hid hn
  have HLF := Lib.hid hl
  have HG := Lib.hid hgood
  have HW := Lib.hid hwords
  have HFR := Lib.hid hfr
  have htw : t < w.heap.size := (Array.getElem?_eq_some_iff.1 ht).1
  rw [hev] at hlen
  simp only [List.length_cons] at hlen
  have HLEN := Lib.hid hlen
  clear hev hq hv h ht hn hl hgood hwords hfr hlen
  go_enter Tryd.func55, Tryd.ntmps55
  go_wp2_with fail
  refine (HN.out w l X g HV.out (by have := HLEN.out; omega)).mono ?_
  rintro e w1 ⟨rfl, X1, hv1, hm1, ho1⟩
  have hT1 : TabSelf w1 t c a root := (hm1.block t htw HV.out.noT).trans HT.out
  have hP1 : PoolAt w1 S a p := HP.out.mod hm1 HV.out.apart HV.out.no0
  have c1 : w1.cell? ⟨t, 1, none⟩ = some (.pointer (some ⟨a, 0, none⟩)) := one_block hT1 1
  have HT1 := Lib.hid hT1
  have HP1 := Lib.hid hP1
  have HV1 := Lib.hid hv1
  clear hT1 hP1 hv1
  go_wp2_with fail
  refine (load_yes a g 0 4096 w1 S p HP1.out g1 g2 (by omega) (by omega)).mono ?_
  rintro e w2 ⟨rfl, hB2, hz2, hb2⟩
  have hsm : ∀ i, p.dat g i < 256 := by
    obtain ⟨⟨C, B, F, wd, pt, hi, hS⟩, _, _, _⟩ := HP1.out
    exact fun i => hi.small g i
  have hX1 : ¬ X1 w1.heap.size := fun e => by have := HV1.out.low _ e; omega
  have HV2 := Lib.hid (HV1.out.below hR hb2)
  have hz1 := hm1.size
  have HB2 := Lib.hid hB2
  clear hB2 c1
  go_wp2_with fail
  go_loopw [30] (fun i wr => ∃ (k : Nat) (X' : Nat → Prop), i = .int .i64 (k : Int) ∧ k ≤ 512 ∧ VisOk R S t wr (l ++ .node g :: T.upto 0 q k) X' ∧ Mod X1 w2 wr ∧ Out X1 X' w2) (fun i _ => 512 - (intOf i).toNat)
  case atStart => exact ⟨0, X1, rfl, by omega, by rw [Tab.upto_zero]; exact HV2.out, Mod.refl _ _, Out.refl _ _⟩
  case round =>
    obtain ⟨k, X', rfl, hk, hv', hm', ho'⟩ := hrel
    have HV' := Lib.hid hv'
    have hz' := hm'.size
    clear hv'
    by_cases hlt : k < 512
    · have hB' : BytesAt wr w1.heap.size 4096 (fun i => p.dat g (0 + i)) := (hm'.block _ hz2 hX1).trans HB2.out
      have hT' : TabSelf wr t c a root := (hm'.block t (by omega) HV1.out.noT).trans ((hb2.block t (by omega)).trans HT1.out)
      have hP' : PoolAt wr S a p := (HP1.out.below hb2).mod hm' HV1.out.apart HV1.out.no0
      have HT' := Lib.hid hT'
      have HP' := Lib.hid hP'
      have hlen' : l.length + (T.upto 0 q k).length + (T.evs 0 (q * 512 + k)).length + 1 < 1000000 := by
        have h1 := T.upto_le 0 q (show k + 1 ≤ 512 by omega)
        rw [Tab.upto_succ, List.length_append] at h1
        have := HLEN.out
        omega
      have hqk : q * 512 + k < 512 ^ (4 - 0) := by
        have h9 := hqb
        simp only [Nat.reducePow, Nat.reduceSub] at h9 ⊢
        omega
      have HLEN' := Lib.hid hlen'
      clear hT' hP' hlen'
      go_wp2_with fail
      refine (get_8 (8 * k) 4096 4096 w1.heap.size (fun i => p.dat g (0 + i)) wr (by omega) (by omega) hB' (fun i => hsm _) (by omega)).mono ?_
      rintro e w3 ⟨rfl, hb3⟩
      have hword : leVal (fun i => p.dat g (0 + i)) (8 * k) 8 = T.word 1 q k := by
        rw [← HW.out k hlt]
        unfold word
        refine leVal_congr fun i _ => ?_
        rw [Nat.zero_add]
      rw [hword]
      have hm3 : Mod X1 w2 w3 := hm'.trans ho' (Mod.of hb3)
      have HV3 := Lib.hid (HV'.out.below hR hb3)
      have HP3 := Lib.hid (HP'.out.below hb3)
      have HT3 := Lib.hid ((hb3.block t (by omega)).trans HT'.out)
      have hz3 := hb3.size
      clear hword hB'
      cases hch : T.lf (q * 512 + k) with
      | none =>
        have e0 : T.word 1 q k = 0 := by (unfold Tab.word; rw [if_pos rfl, hch])
        have hes := Tab.evs_noleaf hch
        have HES := Lib.hid hes
        rw [e0]
        have hz := and_none
        clear hch hes
        go_wp2_with fail
        go_roundw
        case rel => exact ⟨k + 1, X', by go_num, by omega, by rw [Tab.upto_succ, HES.out, List.append_nil]; exact HV3.out, hm3, ho'⟩
        case measure => (simp [intOf]; omega)
      | some y =>
        have e0 : T.word 1 q k = y.pack := by (unfold Tab.word; rw [if_pos rfl, hch])
        obtain ⟨p7, pf⟩ := (HG.out.but.leaf _ y hch).2
        obtain ⟨x, hx⟩ : ∃ x, x = y.pack := ⟨_, rfl⟩
        rw [e0, ← hx]
        have hx9 : x < 18446744073709551616 := by (rw [hx]; have := pack_lt y p7 (by omega); omega)
        have hodd := and_odd hx9 (by rw [hx]; exact pack_odd y)
        have hup : unpack x = y := by (rw [hx]; exact unpack_pack y p7)
        have hes := Tab.evs_leaf hch
        have HES := Lib.hid hes
        have HUP := Lib.hid hup
        have haddr : bits .or .u64 fr ((k : Int) * 4096) = (((q * 512 + k) * 4096 : Nat) : Int) := by
          rw [HFR.out]
          have h9 := hqb
          simp only [Nat.reducePow, Nat.reduceSub] at h9
          have h1 := or_at (a := q) (b := k * 4096) (i := 21) (by omega) (by omega)
          have e1 : ((k : Int) * 4096) = ((k * 4096 : Nat) : Int) := by omega
          rw [e1, show q * 512 ^ 1 * 4096 = q * 2 ^ 21 from by omega, h1]
          exact congrArg _ (by omega)
        have HADDR := Lib.hid haddr
        clear hch hes hup hx e0 haddr
        go_wp2_with fail
        refine (tunpack_any x w3 hx9).mono ?_
        rintro e w4 ⟨rfl, hb4⟩
        rw [HUP.out]
        go_wp2_with fail
        rw [HADDR.out]
        refine (HLF.out w4 _ X' (q * 512 + k) y (HV3.out.below hR hb4) (by have := HLEN'.out; simp; omega)).mono ?_
        rintro e w5 ⟨rfl, X5, hv5, hm5, ho5⟩
        have hm4 : Mod X1 w2 w4 := hm3.trans (fun b hb => (ho' b hb).imp id (fun h => h)) (Mod.of hb4)
        have ho5' : Out X1 X5 w2 := ho'.trans ho5 hm4.size
        have hm5' := hm4.trans ho' hm5
        have HV5 := Lib.hid hv5
        clear hv5
        go_wp2_with fail
        go_roundw
        case rel => exact ⟨k + 1, X5, by go_num, by omega, by (rw [Tab.upto_succ, HES.out]; have := HV5.out; simpa using this), hm5', ho5'⟩
        case measure => (simp [intOf]; omega)
    · obtain rfl : k = 512 := by omega
      go_wp2_with fail
      go_end0
      exact ⟨rfl, X', by rw [HEV.out]; exact HV'.out, hm1.trans ho1 ((Mod.of hb2).trans (Out.refl _ _) hm'), ho1.trans (fun b hb => (ho' b hb).imp id (fun h => Nat.le_trans hb2.size h)) hz1⟩


set_option maxRecDepth 100000 in
set_option maxHeartbeats 4000000 in
theorem vis_nodes2 (t c a root g q : Nat) (bo : Nat)(R : World → List Ev → (Nat → Prop) → Prop) (w : World) (S : Nat → Prop) (p : Pool) (T : Tab) (rest : Nat → Nat) (pg0 : Nat) (X : Nat → Prop) (l : List Ev) (h : PoolAt w S a p) (ht : TabSelf w t c a root) (hgood : T.Good p rest pg0 4) (hq : T.nd 2 q = some g) (hqb : q < 512 ^ (4 - 2))
    (hv : VisOk R S t w l X) (hlen : l.length + (T.evs 2 q).length < 1000000) (hR : VisStays R)
    (hn : ∀ (w : World) (l : List Ev) (X : Nat → Prop) (f : Nat), VisOk R S t w l X → l.length < 1000000 → Calls Tryd.prog 72 (#[.int .i64 (f : Int)] ++ #[.pointer (some ⟨bo, 0, none⟩)]) w (VisPost w X R S t (l ++ [.node f])))
    (hl : ∀ (w : World) (l : List Ev) (X : Nat → Prop) (pg : Nat) (y : Leaf), VisOk R S t w l X → l.length < 1000000 → Calls Tryd.prog 73 (#[.int .u64 ((pg * 4096 : Nat) : Int), .agg #[.int .i64 (y.frame : Int), .int .u8 (y.prot : Int), .bool y.copy]] ++ #[]) w (VisPost w X R S t (l ++ [.leaf pg y])))
    (fr : Int) (hfr : fr = ((q * 512 ^ 2 * 4096 : Nat) : Int)) :
    Calls Tryd.prog 55 #[.pointer (some ⟨t, 0, none⟩), .int .i64 (g : Int), .int .i64 2, .int .u64 fr, .func (.func 72) #[] #[.pointer (some ⟨bo, 0, none⟩)], .func (.func 73) #[] #[]] w (VisPost w X R S t (l ++ T.evs 2 q)) := by
  have hev := Tab.evs_node hq
  obtain ⟨g1, g2⟩ := hgood.node hq
  have hwords := (hgood.but.words 2 q g hq).2
  have hfew := hgood.but.few
  have HEV := Lib.hid hev
  have HQ := Lib.hid hq
  have HV := Lib.hid hv
  have HP := Lib.hid h
  have HT := Lib.hid ht
  have HN := Lib.hid hn
  have HLF := Lib.hid hl
  have HG := Lib.hid hgood
  have HW := Lib.hid hwords
  have HFR := Lib.hid hfr
  have htw : t < w.heap.size := (Array.getElem?_eq_some_iff.1 ht).1
  rw [hev] at hlen
  simp only [List.length_cons] at hlen
  have HLEN := Lib.hid hlen
  clear hev hq hv h ht hn hl hgood hwords hfr hlen
  go_enter Tryd.func55, Tryd.ntmps55
  go_wp2_with fail
  refine (HN.out w l X g HV.out (by have := HLEN.out; omega)).mono ?_
  rintro e w1 ⟨rfl, X1, hv1, hm1, ho1⟩
  have hT1 : TabSelf w1 t c a root := (hm1.block t htw HV.out.noT).trans HT.out
  have hP1 : PoolAt w1 S a p := HP.out.mod hm1 HV.out.apart HV.out.no0
  have c1 : w1.cell? ⟨t, 1, none⟩ = some (.pointer (some ⟨a, 0, none⟩)) := one_block hT1 1
  have HT1 := Lib.hid hT1
  have HP1 := Lib.hid hP1
  have HV1 := Lib.hid hv1
  clear hT1 hP1 hv1
  go_wp2_with fail
  refine (load_yes a g 0 4096 w1 S p HP1.out g1 g2 (by omega) (by omega)).mono ?_
  rintro e w2 ⟨rfl, hB2, hz2, hb2⟩
  have hsm : ∀ i, p.dat g i < 256 := by
    obtain ⟨⟨C, B, F, wd, pt, hi, hS⟩, _, _, _⟩ := HP1.out
    exact fun i => hi.small g i
  have hX1 : ¬ X1 w1.heap.size := fun e => by have := HV1.out.low _ e; omega
  have HV2 := Lib.hid (HV1.out.below hR hb2)
  have hz1 := hm1.size
  have HB2 := Lib.hid hB2
  clear hB2 c1
  go_wp2_with fail
  go_loopw [30] (fun i wr => ∃ (k : Nat) (X' : Nat → Prop), i = .int .i64 (k : Int) ∧ k ≤ 512 ∧ VisOk R S t wr (l ++ .node g :: T.upto 1 q k) X' ∧ Mod X1 w2 wr ∧ Out X1 X' w2) (fun i _ => 512 - (intOf i).toNat)
  case atStart => exact ⟨0, X1, rfl, by omega, by rw [Tab.upto_zero]; exact HV2.out, Mod.refl _ _, Out.refl _ _⟩
  case round =>
    obtain ⟨k, X', rfl, hk, hv', hm', ho'⟩ := hrel
    have HV' := Lib.hid hv'
    have hz' := hm'.size
    clear hv'
    by_cases hlt : k < 512
    · have hB' : BytesAt wr w1.heap.size 4096 (fun i => p.dat g (0 + i)) := (hm'.block _ hz2 hX1).trans HB2.out
      have hT' : TabSelf wr t c a root := (hm'.block t (by omega) HV1.out.noT).trans ((hb2.block t (by omega)).trans HT1.out)
      have hP' : PoolAt wr S a p := (HP1.out.below hb2).mod hm' HV1.out.apart HV1.out.no0
      have HT' := Lib.hid hT'
      have HP' := Lib.hid hP'
      have hlen' : l.length + (T.upto 1 q k).length + (T.evs 1 (q * 512 + k)).length + 1 < 1000000 := by
        have h1 := T.upto_le 1 q (show k + 1 ≤ 512 by omega)
        rw [Tab.upto_succ, List.length_append] at h1
        have := HLEN.out
        omega
      have hqk : q * 512 + k < 512 ^ (4 - 1) := by
        have h9 := hqb
        simp only [Nat.reducePow, Nat.reduceSub] at h9 ⊢
        omega
      have HLEN' := Lib.hid hlen'
      clear hT' hP' hlen'
      go_wp2_with fail
      refine (get_8 (8 * k) 4096 4096 w1.heap.size (fun i => p.dat g (0 + i)) wr (by omega) (by omega) hB' (fun i => hsm _) (by omega)).mono ?_
      rintro e w3 ⟨rfl, hb3⟩
      have hword : leVal (fun i => p.dat g (0 + i)) (8 * k) 8 = T.word 2 q k := by
        rw [← HW.out k hlt]
        unfold word
        refine leVal_congr fun i _ => ?_
        rw [Nat.zero_add]
      rw [hword]
      have hm3 : Mod X1 w2 w3 := hm'.trans ho' (Mod.of hb3)
      have HV3 := Lib.hid (HV'.out.below hR hb3)
      have HP3 := Lib.hid (HP'.out.below hb3)
      have HT3 := Lib.hid ((hb3.block t (by omega)).trans HT'.out)
      have hz3 := hb3.size
      clear hword hB'
      cases hch : T.nd 1 (q * 512 + k) with
      | none =>
        have e0 : T.word 2 q k = 0 := by (unfold Tab.word; rw [if_neg (by omega)]; show (match T.nd 1 (q * 512 + k) with | some f => f * 4096 + 1 | none => 0) = _; rw [hch])
        have hes := Tab.evs_none hch
        have HES := Lib.hid hes
        rw [e0]
        have hz := and_none
        clear hch hes
        go_wp2_with fail
        go_roundw
        case rel => exact ⟨k + 1, X', by go_num, by omega, by rw [Tab.upto_succ, HES.out, List.append_nil]; exact HV3.out, hm3, ho'⟩
        case measure => (simp [intOf]; omega)
      | some f =>
        have e0 : T.word 2 q k = f * 4096 + 1 := by (unfold Tab.word; rw [if_neg (by omega)]; show (match T.nd 1 (q * 512 + k) with | some f => f * 4096 + 1 | none => 0) = _; rw [hch])
        obtain ⟨n1, n2⟩ := HG.out.node hch
        obtain ⟨x, hx⟩ : ∃ x, x = f * 4096 + 1 := ⟨_, rfl⟩
        rw [e0, ← hx]
        have hx9 : x < 18446744073709551616 := by omega
        have hodd := and_odd hx9 (by omega)
        have hsh : ((x : Int) / 4096) = (f : Int) := by omega
        have HSH := Lib.hid hsh
        have HCH := Lib.hid hch
        have haddr : bits .or .u64 fr ((k : Int) * 2097152) = (((q * 512 + k) * 512 ^ 1 * 4096 : Nat) : Int) := by
          rw [HFR.out]
          have h9 := hqb
          simp only [Nat.reducePow, Nat.reduceSub] at h9
          have h1 := or_at (a := q) (b := k * 2097152) (i := 30) (by omega) (by omega)
          have e1 : ((k : Int) * 2097152) = ((k * 2097152 : Nat) : Int) := by omega
          rw [e1, show q * 512 ^ 2 * 4096 = q * 2 ^ 30 from by omega, h1]
          exact congrArg _ (by omega)
        have HADDR := Lib.hid haddr
        clear hch hsh hx e0 haddr
        go_wp2_with fail
        rw [HSH.out]
        refine (vis_nodes1 t c a root f (q * 512 + k) bo R w3 S p T rest pg0 X' _ HP3.out HT3.out HG.out HCH.out hqk HV3.out (by have := HLEN'.out; simp; omega) hR HN.out HLF.out _ HADDR.out).mono ?_
        rintro e w5 ⟨rfl, X5, hv5, hm5, ho5⟩
        have ho5' : Out X1 X5 w2 := ho'.trans ho5 hm3.size
        have hm5' := hm3.trans ho' hm5
        have HV5 := Lib.hid hv5
        clear hv5
        go_wp2_with fail
        go_roundw
        case rel => exact ⟨k + 1, X5, by go_num, by omega, by (rw [Tab.upto_succ]; have := HV5.out; simpa using this), hm5', ho5'⟩
        case measure => (simp [intOf]; omega)

    · obtain rfl : k = 512 := by omega
      go_wp2_with fail
      go_end0
      exact ⟨rfl, X', by rw [HEV.out]; exact HV'.out, hm1.trans ho1 ((Mod.of hb2).trans (Out.refl _ _) hm'), ho1.trans (fun b hb => (ho' b hb).imp id (fun h => Nat.le_trans hb2.size h)) hz1⟩


set_option maxRecDepth 100000 in
set_option maxHeartbeats 4000000 in
theorem vis_nodes3 (t c a root g q : Nat) (bo : Nat)(R : World → List Ev → (Nat → Prop) → Prop) (w : World) (S : Nat → Prop) (p : Pool) (T : Tab) (rest : Nat → Nat) (pg0 : Nat) (X : Nat → Prop) (l : List Ev) (h : PoolAt w S a p) (ht : TabSelf w t c a root) (hgood : T.Good p rest pg0 4) (hq : T.nd 3 q = some g) (hqb : q < 512 ^ (4 - 3))
    (hv : VisOk R S t w l X) (hlen : l.length + (T.evs 3 q).length < 1000000) (hR : VisStays R)
    (hn : ∀ (w : World) (l : List Ev) (X : Nat → Prop) (f : Nat), VisOk R S t w l X → l.length < 1000000 → Calls Tryd.prog 72 (#[.int .i64 (f : Int)] ++ #[.pointer (some ⟨bo, 0, none⟩)]) w (VisPost w X R S t (l ++ [.node f])))
    (hl : ∀ (w : World) (l : List Ev) (X : Nat → Prop) (pg : Nat) (y : Leaf), VisOk R S t w l X → l.length < 1000000 → Calls Tryd.prog 73 (#[.int .u64 ((pg * 4096 : Nat) : Int), .agg #[.int .i64 (y.frame : Int), .int .u8 (y.prot : Int), .bool y.copy]] ++ #[]) w (VisPost w X R S t (l ++ [.leaf pg y])))
    (fr : Int) (hfr : fr = ((q * 512 ^ 3 * 4096 : Nat) : Int)) :
    Calls Tryd.prog 55 #[.pointer (some ⟨t, 0, none⟩), .int .i64 (g : Int), .int .i64 1, .int .u64 fr, .func (.func 72) #[] #[.pointer (some ⟨bo, 0, none⟩)], .func (.func 73) #[] #[]] w (VisPost w X R S t (l ++ T.evs 3 q)) := by
  have hev := Tab.evs_node hq
  obtain ⟨g1, g2⟩ := hgood.node hq
  have hwords := (hgood.but.words 3 q g hq).2
  have hfew := hgood.but.few
  have HEV := Lib.hid hev
  have HQ := Lib.hid hq
  have HV := Lib.hid hv
  have HP := Lib.hid h
  have HT := Lib.hid ht
  have HN := Lib.hid hn
  have HLF := Lib.hid hl
  have HG := Lib.hid hgood
  have HW := Lib.hid hwords
  have HFR := Lib.hid hfr
  have htw : t < w.heap.size := (Array.getElem?_eq_some_iff.1 ht).1
  rw [hev] at hlen
  simp only [List.length_cons] at hlen
  have HLEN := Lib.hid hlen
  clear hev hq hv h ht hn hl hgood hwords hfr hlen
  go_enter Tryd.func55, Tryd.ntmps55
  go_wp2_with fail
  refine (HN.out w l X g HV.out (by have := HLEN.out; omega)).mono ?_
  rintro e w1 ⟨rfl, X1, hv1, hm1, ho1⟩
  have hT1 : TabSelf w1 t c a root := (hm1.block t htw HV.out.noT).trans HT.out
  have hP1 : PoolAt w1 S a p := HP.out.mod hm1 HV.out.apart HV.out.no0
  have c1 : w1.cell? ⟨t, 1, none⟩ = some (.pointer (some ⟨a, 0, none⟩)) := one_block hT1 1
  have HT1 := Lib.hid hT1
  have HP1 := Lib.hid hP1
  have HV1 := Lib.hid hv1
  clear hT1 hP1 hv1
  go_wp2_with fail
  refine (load_yes a g 0 4096 w1 S p HP1.out g1 g2 (by omega) (by omega)).mono ?_
  rintro e w2 ⟨rfl, hB2, hz2, hb2⟩
  have hsm : ∀ i, p.dat g i < 256 := by
    obtain ⟨⟨C, B, F, wd, pt, hi, hS⟩, _, _, _⟩ := HP1.out
    exact fun i => hi.small g i
  have hX1 : ¬ X1 w1.heap.size := fun e => by have := HV1.out.low _ e; omega
  have HV2 := Lib.hid (HV1.out.below hR hb2)
  have hz1 := hm1.size
  have HB2 := Lib.hid hB2
  clear hB2 c1
  go_wp2_with fail
  go_loopw [30] (fun i wr => ∃ (k : Nat) (X' : Nat → Prop), i = .int .i64 (k : Int) ∧ k ≤ 512 ∧ VisOk R S t wr (l ++ .node g :: T.upto 2 q k) X' ∧ Mod X1 w2 wr ∧ Out X1 X' w2) (fun i _ => 512 - (intOf i).toNat)
  case atStart => exact ⟨0, X1, rfl, by omega, by rw [Tab.upto_zero]; exact HV2.out, Mod.refl _ _, Out.refl _ _⟩
  case round =>
    obtain ⟨k, X', rfl, hk, hv', hm', ho'⟩ := hrel
    have HV' := Lib.hid hv'
    have hz' := hm'.size
    clear hv'
    by_cases hlt : k < 512
    · have hB' : BytesAt wr w1.heap.size 4096 (fun i => p.dat g (0 + i)) := (hm'.block _ hz2 hX1).trans HB2.out
      have hT' : TabSelf wr t c a root := (hm'.block t (by omega) HV1.out.noT).trans ((hb2.block t (by omega)).trans HT1.out)
      have hP' : PoolAt wr S a p := (HP1.out.below hb2).mod hm' HV1.out.apart HV1.out.no0
      have HT' := Lib.hid hT'
      have HP' := Lib.hid hP'
      have hlen' : l.length + (T.upto 2 q k).length + (T.evs 2 (q * 512 + k)).length + 1 < 1000000 := by
        have h1 := T.upto_le 2 q (show k + 1 ≤ 512 by omega)
        rw [Tab.upto_succ, List.length_append] at h1
        have := HLEN.out
        omega
      have hqk : q * 512 + k < 512 ^ (4 - 2) := by
        have h9 := hqb
        simp only [Nat.reducePow, Nat.reduceSub] at h9 ⊢
        omega
      have HLEN' := Lib.hid hlen'
      clear hT' hP' hlen'
      go_wp2_with fail
      refine (get_8 (8 * k) 4096 4096 w1.heap.size (fun i => p.dat g (0 + i)) wr (by omega) (by omega) hB' (fun i => hsm _) (by omega)).mono ?_
      rintro e w3 ⟨rfl, hb3⟩
      have hword : leVal (fun i => p.dat g (0 + i)) (8 * k) 8 = T.word 3 q k := by
        rw [← HW.out k hlt]
        unfold word
        refine leVal_congr fun i _ => ?_
        rw [Nat.zero_add]
      rw [hword]
      have hm3 : Mod X1 w2 w3 := hm'.trans ho' (Mod.of hb3)
      have HV3 := Lib.hid (HV'.out.below hR hb3)
      have HP3 := Lib.hid (HP'.out.below hb3)
      have HT3 := Lib.hid ((hb3.block t (by omega)).trans HT'.out)
      have hz3 := hb3.size
      clear hword hB'
      cases hch : T.nd 2 (q * 512 + k) with
      | none =>
        have e0 : T.word 3 q k = 0 := by (unfold Tab.word; rw [if_neg (by omega)]; show (match T.nd 2 (q * 512 + k) with | some f => f * 4096 + 1 | none => 0) = _; rw [hch])
        have hes := Tab.evs_none hch
        have HES := Lib.hid hes
        rw [e0]
        have hz := and_none
        clear hch hes
        go_wp2_with fail
        go_roundw
        case rel => exact ⟨k + 1, X', by go_num, by omega, by rw [Tab.upto_succ, HES.out, List.append_nil]; exact HV3.out, hm3, ho'⟩
        case measure => (simp [intOf]; omega)
      | some f =>
        have e0 : T.word 3 q k = f * 4096 + 1 := by (unfold Tab.word; rw [if_neg (by omega)]; show (match T.nd 2 (q * 512 + k) with | some f => f * 4096 + 1 | none => 0) = _; rw [hch])
        obtain ⟨n1, n2⟩ := HG.out.node hch
        obtain ⟨x, hx⟩ : ∃ x, x = f * 4096 + 1 := ⟨_, rfl⟩
        rw [e0, ← hx]
        have hx9 : x < 18446744073709551616 := by omega
        have hodd := and_odd hx9 (by omega)
        have hsh : ((x : Int) / 4096) = (f : Int) := by omega
        have HSH := Lib.hid hsh
        have HCH := Lib.hid hch
        have haddr : bits .or .u64 fr ((k : Int) * 1073741824) = (((q * 512 + k) * 512 ^ 2 * 4096 : Nat) : Int) := by
          rw [HFR.out]
          have h9 := hqb
          simp only [Nat.reducePow, Nat.reduceSub] at h9
          have h1 := or_at (a := q) (b := k * 1073741824) (i := 39) (by omega) (by omega)
          have e1 : ((k : Int) * 1073741824) = ((k * 1073741824 : Nat) : Int) := by omega
          rw [e1, show q * 512 ^ 3 * 4096 = q * 2 ^ 39 from by omega, h1]
          exact congrArg _ (by omega)
        have HADDR := Lib.hid haddr
        clear hch hsh hx e0 haddr
        go_wp2_with fail
        rw [HSH.out]
        refine (vis_nodes2 t c a root f (q * 512 + k) bo R w3 S p T rest pg0 X' _ HP3.out HT3.out HG.out HCH.out hqk HV3.out (by have := HLEN'.out; simp; omega) hR HN.out HLF.out _ HADDR.out).mono ?_
        rintro e w5 ⟨rfl, X5, hv5, hm5, ho5⟩
        have ho5' : Out X1 X5 w2 := ho'.trans ho5 hm3.size
        have hm5' := hm3.trans ho' hm5
        have HV5 := Lib.hid hv5
        clear hv5
        go_wp2_with fail
        go_roundw
        case rel => exact ⟨k + 1, X5, by go_num, by omega, by (rw [Tab.upto_succ]; have := HV5.out; simpa using this), hm5', ho5'⟩
        case measure => (simp [intOf]; omega)

    · obtain rfl : k = 512 := by omega
      go_wp2_with fail
      go_end0
      exact ⟨rfl, X', by rw [HEV.out]; exact HV'.out, hm1.trans ho1 ((Mod.of hb2).trans (Out.refl _ _) hm'), ho1.trans (fun b hb => (ho' b hb).imp id (fun h => Nat.le_trans hb2.size h)) hz1⟩


set_option maxRecDepth 100000 in
set_option maxHeartbeats 4000000 in
theorem vis_nodes4 (t c a root g q : Nat) (bo : Nat)(R : World → List Ev → (Nat → Prop) → Prop) (w : World) (S : Nat → Prop) (p : Pool) (T : Tab) (rest : Nat → Nat) (pg0 : Nat) (X : Nat → Prop) (l : List Ev) (h : PoolAt w S a p) (ht : TabSelf w t c a root) (hgood : T.Good p rest pg0 4) (hq : T.nd 4 q = some g) (hqb : q < 512 ^ (4 - 4))
    (hv : VisOk R S t w l X) (hlen : l.length + (T.evs 4 q).length < 1000000) (hR : VisStays R)
    (hn : ∀ (w : World) (l : List Ev) (X : Nat → Prop) (f : Nat), VisOk R S t w l X → l.length < 1000000 → Calls Tryd.prog 72 (#[.int .i64 (f : Int)] ++ #[.pointer (some ⟨bo, 0, none⟩)]) w (VisPost w X R S t (l ++ [.node f])))
    (hl : ∀ (w : World) (l : List Ev) (X : Nat → Prop) (pg : Nat) (y : Leaf), VisOk R S t w l X → l.length < 1000000 → Calls Tryd.prog 73 (#[.int .u64 ((pg * 4096 : Nat) : Int), .agg #[.int .i64 (y.frame : Int), .int .u8 (y.prot : Int), .bool y.copy]] ++ #[]) w (VisPost w X R S t (l ++ [.leaf pg y])))
    (fr : Int) (hfr : fr = ((q * 512 ^ 4 * 4096 : Nat) : Int)) :
    Calls Tryd.prog 55 #[.pointer (some ⟨t, 0, none⟩), .int .i64 (g : Int), .int .i64 0, .int .u64 fr, .func (.func 72) #[] #[.pointer (some ⟨bo, 0, none⟩)], .func (.func 73) #[] #[]] w (VisPost w X R S t (l ++ T.evs 4 q)) := by
  have hev := Tab.evs_node hq
  obtain ⟨g1, g2⟩ := hgood.node hq
  have hwords := (hgood.but.words 4 q g hq).2
  have hfew := hgood.but.few
  have HEV := Lib.hid hev
  have HQ := Lib.hid hq
  have HV := Lib.hid hv
  have HP := Lib.hid h
  have HT := Lib.hid ht
  have HN := Lib.hid hn
  have HLF := Lib.hid hl
  have HG := Lib.hid hgood
  have HW := Lib.hid hwords
  have HFR := Lib.hid hfr
  have htw : t < w.heap.size := (Array.getElem?_eq_some_iff.1 ht).1
  rw [hev] at hlen
  simp only [List.length_cons] at hlen
  have HLEN := Lib.hid hlen
  clear hev hq hv h ht hn hl hgood hwords hfr hlen
  go_enter Tryd.func55, Tryd.ntmps55
  go_wp2_with fail
  refine (HN.out w l X g HV.out (by have := HLEN.out; omega)).mono ?_
  rintro e w1 ⟨rfl, X1, hv1, hm1, ho1⟩
  have hT1 : TabSelf w1 t c a root := (hm1.block t htw HV.out.noT).trans HT.out
  have hP1 : PoolAt w1 S a p := HP.out.mod hm1 HV.out.apart HV.out.no0
  have c1 : w1.cell? ⟨t, 1, none⟩ = some (.pointer (some ⟨a, 0, none⟩)) := one_block hT1 1
  have HT1 := Lib.hid hT1
  have HP1 := Lib.hid hP1
  have HV1 := Lib.hid hv1
  clear hT1 hP1 hv1
  go_wp2_with fail
  refine (load_yes a g 0 4096 w1 S p HP1.out g1 g2 (by omega) (by omega)).mono ?_
  rintro e w2 ⟨rfl, hB2, hz2, hb2⟩
  have hsm : ∀ i, p.dat g i < 256 := by
    obtain ⟨⟨C, B, F, wd, pt, hi, hS⟩, _, _, _⟩ := HP1.out
    exact fun i => hi.small g i
  have hX1 : ¬ X1 w1.heap.size := fun e => by have := HV1.out.low _ e; omega
  have HV2 := Lib.hid (HV1.out.below hR hb2)
  have hz1 := hm1.size
  have HB2 := Lib.hid hB2
  clear hB2 c1
  go_wp2_with fail
  go_loopw [30] (fun i wr => ∃ (k : Nat) (X' : Nat → Prop), i = .int .i64 (k : Int) ∧ k ≤ 512 ∧ VisOk R S t wr (l ++ .node g :: T.upto 3 q k) X' ∧ Mod X1 w2 wr ∧ Out X1 X' w2) (fun i _ => 512 - (intOf i).toNat)
  case atStart => exact ⟨0, X1, rfl, by omega, by rw [Tab.upto_zero]; exact HV2.out, Mod.refl _ _, Out.refl _ _⟩
  case round =>
    obtain ⟨k, X', rfl, hk, hv', hm', ho'⟩ := hrel
    have HV' := Lib.hid hv'
    have hz' := hm'.size
    clear hv'
    by_cases hlt : k < 512
    · have hB' : BytesAt wr w1.heap.size 4096 (fun i => p.dat g (0 + i)) := (hm'.block _ hz2 hX1).trans HB2.out
      have hT' : TabSelf wr t c a root := (hm'.block t (by omega) HV1.out.noT).trans ((hb2.block t (by omega)).trans HT1.out)
      have hP' : PoolAt wr S a p := (HP1.out.below hb2).mod hm' HV1.out.apart HV1.out.no0
      have HT' := Lib.hid hT'
      have HP' := Lib.hid hP'
      have hlen' : l.length + (T.upto 3 q k).length + (T.evs 3 (q * 512 + k)).length + 1 < 1000000 := by
        have h1 := T.upto_le 3 q (show k + 1 ≤ 512 by omega)
        rw [Tab.upto_succ, List.length_append] at h1
        have := HLEN.out
        omega
      have hqk : q * 512 + k < 512 ^ (4 - 3) := by
        have h9 := hqb
        simp only [Nat.reducePow, Nat.reduceSub] at h9 ⊢
        omega
      have HLEN' := Lib.hid hlen'
      clear hT' hP' hlen'
      go_wp2_with fail
      refine (get_8 (8 * k) 4096 4096 w1.heap.size (fun i => p.dat g (0 + i)) wr (by omega) (by omega) hB' (fun i => hsm _) (by omega)).mono ?_
      rintro e w3 ⟨rfl, hb3⟩
      have hword : leVal (fun i => p.dat g (0 + i)) (8 * k) 8 = T.word 4 q k := by
        rw [← HW.out k hlt]
        unfold word
        refine leVal_congr fun i _ => ?_
        rw [Nat.zero_add]
      rw [hword]
      have hm3 : Mod X1 w2 w3 := hm'.trans ho' (Mod.of hb3)
      have HV3 := Lib.hid (HV'.out.below hR hb3)
      have HP3 := Lib.hid (HP'.out.below hb3)
      have HT3 := Lib.hid ((hb3.block t (by omega)).trans HT'.out)
      have hz3 := hb3.size
      clear hword hB'
      cases hch : T.nd 3 (q * 512 + k) with
      | none =>
        have e0 : T.word 4 q k = 0 := by (unfold Tab.word; rw [if_neg (by omega)]; show (match T.nd 3 (q * 512 + k) with | some f => f * 4096 + 1 | none => 0) = _; rw [hch])
        have hes := Tab.evs_none hch
        have HES := Lib.hid hes
        rw [e0]
        have hz := and_none
        clear hch hes
        go_wp2_with fail
        go_roundw
        case rel => exact ⟨k + 1, X', by go_num, by omega, by rw [Tab.upto_succ, HES.out, List.append_nil]; exact HV3.out, hm3, ho'⟩
        case measure => (simp [intOf]; omega)
      | some f =>
        have e0 : T.word 4 q k = f * 4096 + 1 := by (unfold Tab.word; rw [if_neg (by omega)]; show (match T.nd 3 (q * 512 + k) with | some f => f * 4096 + 1 | none => 0) = _; rw [hch])
        obtain ⟨n1, n2⟩ := HG.out.node hch
        obtain ⟨x, hx⟩ : ∃ x, x = f * 4096 + 1 := ⟨_, rfl⟩
        rw [e0, ← hx]
        have hx9 : x < 18446744073709551616 := by omega
        have hodd := and_odd hx9 (by omega)
        have hsh : ((x : Int) / 4096) = (f : Int) := by omega
        have HSH := Lib.hid hsh
        have HCH := Lib.hid hch
        have haddr : bits .or .u64 fr ((k : Int) * 549755813888) = (((q * 512 + k) * 512 ^ 3 * 4096 : Nat) : Int) := by
          rw [HFR.out]
          have h9 := hqb
          simp only [Nat.reducePow, Nat.reduceSub] at h9
          have h1 := or_at (a := q) (b := k * 549755813888) (i := 48) (by omega) (by omega)
          have e1 : ((k : Int) * 549755813888) = ((k * 549755813888 : Nat) : Int) := by omega
          rw [e1, show q * 512 ^ 4 * 4096 = q * 2 ^ 48 from by omega, h1]
          exact congrArg _ (by omega)
        have HADDR := Lib.hid haddr
        clear hch hsh hx e0 haddr
        go_wp2_with fail
        rw [HSH.out]
        refine (vis_nodes3 t c a root f (q * 512 + k) bo R w3 S p T rest pg0 X' _ HP3.out HT3.out HG.out HCH.out hqk HV3.out (by have := HLEN'.out; simp; omega) hR HN.out HLF.out _ HADDR.out).mono ?_
        rintro e w5 ⟨rfl, X5, hv5, hm5, ho5⟩
        have ho5' : Out X1 X5 w2 := ho'.trans ho5 hm3.size
        have hm5' := hm3.trans ho' hm5
        have HV5 := Lib.hid hv5
        clear hv5
        go_wp2_with fail
        go_roundw
        case rel => exact ⟨k + 1, X5, by go_num, by omega, by (rw [Tab.upto_succ]; have := HV5.out; simpa using this), hm5', ho5'⟩
        case measure => (simp [intOf]; omega)

    · obtain rfl : k = 512 := by omega
      go_wp2_with fail
      go_end0
      exact ⟨rfl, X', by rw [HEV.out]; exact HV'.out, hm1.trans ho1 ((Mod.of hb2).trans (Out.refl _ _) hm'), ho1.trans (fun b hb => (ho' b hb).imp id (fun h => Nat.le_trans hb2.size h)) hz1⟩


end Go.Proofs.YtmkgdgfbdmjeeaaDoor
