/- Tables: visit. Tables: what collects a visit's frames and leaves. Tables: visit with All's closures. Tables: visit with Free's closures. Tables: the functions that All, Nodes and Free hand to visit. Tables: Nodes, All. Tables: Free. -/
import Derived.Test.YtkkmcnngpahfaaaGreatDoorTtZ
import Derived.Test.YtkkmcnngpahfaaaGreatDoorTbA
import Derived.Test.YtkkmcnngpahfaaaGreatDoorTwA

namespace Go.Proofs.YtkkmcnngpahfaaaGreatDoor
open Go.RowKit
set_option linter.unusedSimpArgs false
set_option linter.unusedVariables false

/-- New memory alone turns nothing of what a visit's functions hold. -/
def VisStays (R : World → List Ev → (Nat → Prop) → Prop) : Prop := ∀ w w' l X, R w l X → Below w.heap.size w w' → R w' l X
/-- A visit has come to l; its functions' blocks are X, apart from the pool's and the table's. -/
structure VisOk (R : World → List Ev → (Nat → Prop) → Prop) (S : Nat → Prop) (t : Nat) (w : World) (l : List Ev) (X : Nat → Prop) : Prop where
  rel : R w l X
  low : ∀ b, X b → b < w.heap.size
  apart : ∀ b, S b → ¬ X b
  noT : ¬ X t
  no0 : ¬ X 0
theorem VisOk.below {R : World → List Ev → (Nat → Prop) → Prop} {S : Nat → Prop} {t : Nat} {w w' : World} {l : List Ev} {X : Nat → Prop} (h : VisOk R S t w l X) (hR : VisStays R) (hb : Below w.heap.size w w') : VisOk R S t w' l X :=
  ⟨hR w w' l X h.rel hb, fun b hx => Nat.lt_of_lt_of_le (h.low b hx) hb.size, h.apart, h.noT, h.no0⟩
def VisPost (w : World) (X : Nat → Prop) (R : World → List Ev → (Nat → Prop) → Prop) (S : Nat → Prop) (t : Nat) (l : List Ev) (e : Ending) (w' : World) : Prop :=
  e = .returned (.tuple #[]) ∧ ∃ X', VisOk R S t w' l X' ∧ Mod X w w' ∧ Out X X' w

theorem or_at {a b i : Nat} (hb : b < 2 ^ i) (h : a * 2 ^ i + b < 18446744073709551616) : bits .or .u64 ((a * 2 ^ i : Nat) : Int) (b : Int) = ((a * 2 ^ i + b : Nat) : Int) := by
  rw [bits_or_u64_nat _ _ (by omega) (by omega)]
  have := Nat.two_pow_add_eq_or_of_lt hb a
  rw [Nat.mul_comm a (2 ^ i)]
  exact congrArg _ this.symm

/-- The functions that go along, and what they have captured. -/
def VisKind (bo : Nat) (f1 : FuncId) (C1 : Array Value) (f2 : FuncId) (C2 : Array Value) : Prop :=
  (f1 = 114 ∧ C1 = #[.pointer (some ⟨bo, 0, none⟩)] ∧ f2 = 115 ∧ C2 = #[]) ∨ (f1 = 112 ∧ C1 = #[] ∧ f2 = 113 ∧ C2 = #[.pointer (some ⟨bo, 0, none⟩)]) ∨ (f1 = 95 ∧ C1 = #[.pointer (some ⟨bo, 0, none⟩)] ∧ f2 = 96 ∧ C2 = #[.pointer (some ⟨bo, 0, none⟩)])
def VisLaw (f1 : FuncId) (C1 : Array Value) (f2 : FuncId) (C2 : Array Value) (LV : Nat) (D : Int) : Prop :=
  ∀ (t c a root g q : Nat) (R : World → List Ev → (Nat → Prop) → Prop) (w : World) (S : Nat → Prop) (p : Pool) (T : Tab) (rest : Nat → Nat) (pg0 : Nat) (X : Nat → Prop) (l : List Ev), PoolAt w S a p → TabSelf w t c a root → T.Good p rest pg0 4 → T.nd LV q = some g → q < 512 ^ (4 - LV) →
    VisOk R S t w l X → l.length + (T.evs LV q).length < 1000000 → VisStays R →
    (∀ (w : World) (l : List Ev) (X : Nat → Prop) (f : Nat), VisOk R S t w l X → l.length < 1000000 → Calls Tryz.prog f1 (#[.int .i64 (f : Int)] ++ C1) w (VisPost w X R S t (l ++ [.node f]))) →
    (∀ (w : World) (l : List Ev) (X : Nat → Prop) (pg : Nat) (y : Leaf), VisOk R S t w l X → l.length < 1000000 → Calls Tryz.prog f2 (#[.int .u64 ((pg * 4096 : Nat) : Int), .agg #[.int .i64 (y.frame : Int), .int .u8 (y.prot : Int), .bool y.copy]] ++ C2) w (VisPost w X R S t (l ++ [.leaf pg y]))) →
    ∀ fr : Int, fr = ((q * 512 ^ LV * 4096 : Nat) : Int) →
    Calls Tryz.prog 94 #[.pointer (some ⟨t, 0, none⟩), .int .i64 (g : Int), .int .i64 D, .int .u64 fr, .func (.func f1) #[] C1, .func (.func f2) #[] C2] w (VisPost w X R S t (l ++ T.evs LV q))
theorem or_part {LW q k i c : Nat} (hi : i = 12 + 9 * (LW + 1)) (hc : c = 512 ^ LW * 4096) (hL : LW < 4) (hq : q < 512 ^ (4 - (LW + 1))) (hk : k < 512) : bits .or .u64 ((q * 512 ^ (LW + 1) * 4096 : Nat) : Int) ((k : Int) * (c : Int)) = (((q * 512 + k) * 512 ^ LW * 4096 : Nat) : Int) := by
  have hL' : LW = 0 ∨ LW = 1 ∨ LW = 2 ∨ LW = 3 := by omega
  have key : q * 512 ^ (LW + 1) * 4096 = q * 2 ^ i ∧ (q * 512 + k) * 512 ^ LW * 4096 = q * 2 ^ i + k * c ∧ k * c < 2 ^ i ∧ q * 2 ^ i + k * c < 18446744073709551616 := by
    subst hi hc
    rcases hL' with rfl | rfl | rfl | rfl <;> (simp only [Nat.reducePow, Nat.reduceSub, Nat.reduceAdd, Nat.reduceMul] at hq ⊢; omega)
  obtain ⟨e2, e3, b1, b2⟩ := key
  rw [show ((k : Int) * (c : Int)) = ((k * c : Nat) : Int) from (Int.natCast_mul k c).symm, e2, e3]
  exact or_at b1 b2
set_option maxRecDepth 100000 in
set_option maxHeartbeats 16000000 in
theorem vis_leaf {bo : Nat} {f1 f2 : FuncId} {C1 C2 : Array Value} (hk : VisKind bo f1 C1 f2 C2) : VisLaw f1 C1 f2 C2 1 3 := by
  intro t c a root g q R w S p T rest pg0 X l h ht hgood hq hqb hv hlen hR hn hl fr hfr
  have hev := Tab.evs_node hq
  obtain ⟨g1, g2⟩ := hgood.node hq
  have hwords := (hgood.but.words _ q g hq).2
  have hfew := hgood.but.few
  have htw : t < w.heap.size := (Array.getElem?_eq_some_iff.1 ht).1
  rw [hev] at hlen ⊢
  simp only [List.length_cons] at hlen
  have hlen1 : ∀ k, k < 512 → l.length + (T.upto 0 q k).length + (T.evs 0 (q * 512 + k)).length + 1 < 1000000 := fun k hk => by
    have h1 := T.upto_le 0 q (show k + 1 ≤ 512 by omega)
    rw [Tab.upto_succ, List.length_append] at h1
    omega
  obtain ⟨wd, hwd⟩ : ∃ wd, wd = T.word 1 q := ⟨_, rfl⟩
  obtain ⟨up, hup⟩ : ∃ up, up = T.upto 0 q := ⟨_, rfl⟩
  have hwd2 : ∀ k, k < 512 → leVal (fun i => p.dat g (0 + i)) (8 * k) 8 = wd k := fun k hk => by
    rw [hwd, ← hwords k hk]
    unfold word
    refine leVal_congr fun i _ => ?_
    rw [Nat.zero_add]
  have hstep : ∀ k, k < 512 → (wd k = 0 ∧ up (k + 1) = up k) ∨ ∃ (y : Leaf) (x : Nat), wd k = x ∧ x < 18446744073709551616 ∧ (bits .and .u64 (x : Int) 1 == 0) = false ∧ unpack x = y ∧ ∀ (w4 : World) (X' : Nat → Prop), VisOk R S t w4 (l ++ .node g :: up k) X' → Calls Tryz.prog f2 (#[.int .u64 (bits .or .u64 fr ((k : Int) * 4096)), .agg #[.int .i64 (y.frame : Int), .int .u8 (y.prot : Int), .bool y.copy]] ++ C2) w4 (VisPost w4 X' R S t (l ++ .node g :: up (k + 1))) := fun k hk => by
    have hs := T.upto_succ 0 q k
    cases hch : T.lf (q * 512 + k) with
    | none => exact .inl ⟨by rw [hwd]; unfold Tab.word; rw [if_pos rfl, hch], by rw [hup, hs, Tab.evs_noleaf hch, List.append_nil]⟩
    | some y =>
      obtain ⟨p7, pf⟩ := (hgood.but.leaf _ y hch).2
      have hx9 : y.pack < 18446744073709551616 := by have := pack_lt y p7 (by omega); omega
      refine .inr ⟨y, y.pack, by rw [hwd]; unfold Tab.word; rw [if_pos rfl, hch], hx9, and_odd hx9 (pack_odd y), unpack_pack y p7, fun w4 X' hv4 => ?_⟩
      have ho : bits .or .u64 ((q * 512 ^ 1 * 4096 : Nat) : Int) ((k : Int) * 4096) = (((q * 512 + k) * 4096 : Nat) : Int) := (or_part (LW := 0) (i := 21) (c := 4096) rfl rfl (by omega) hqb hk).trans (by rw [Nat.pow_zero, Nat.mul_one])
      have h1 := hlen1 k hk
      rw [hfr, ho, hup, hs, Tab.evs_leaf hch]
      have h9 := hl w4 (l ++ .node g :: up k) X' (q * 512 + k) y hv4 (by rw [hup, List.length_append, List.length_cons]; omega)
      rw [hup] at h9
      simpa using h9
  have HUP0 := Lib.hid (show up 0 = [] by rw [hup]; rfl)
  rw [← hup]
  have HN := Lib.hid (hn w l X g hv (by omega))
  have HV := Lib.hid hv
  have HP := Lib.hid h
  have HT := Lib.hid ht
  have HWD := Lib.hid hwd2
  have HST := Lib.hid hstep
  clear hev hq hv h ht hn hl hgood hwords hfr hlen hlen1 hwd hup hwd2 hstep hqb
  rcases hk with ⟨rfl, rfl, rfl, rfl⟩ | ⟨rfl, rfl, rfl, rfl⟩ | ⟨rfl, rfl, rfl, rfl⟩ <;> (
    go_enter Tryz.func94, Tryz.ntmps94
    go_wp2_with fail
    refine (HN.out).mono ?_
    rintro e w1 ⟨rfl, X1, hv1, hm1, ho1⟩
    have hT1 : TabSelf w1 t c a root := (hm1.block t htw HV.out.noT).trans HT.out
    have hP1 : PoolAt w1 S a p := HP.out.mod hm1 HV.out.apart HV.out.no0
    have c1 : w1.cell? ⟨t, 1, none⟩ = some (.pointer (some ⟨a, 0, none⟩)) := one_block hT1 1
    have HT1 := Lib.hid hT1
    have HP1 := Lib.hid hP1
    have HV1 := Lib.hid hv1
    clear hT1 hP1 hv1
    go_wp2_with fail
    refine (load_yes a g 0 4096 w1 S p HP1.out g1 g2 (by omega) (by omega)).mono ?_
    rintro e w2 ⟨rfl, hB2, hz2, hb2⟩
    have hsm : ∀ i, p.dat g i < 256 := by
      obtain ⟨⟨C, B, F, wd, pt, hi, hS⟩, _, _, _⟩ := HP1.out
      exact fun i => hi.small g i
    have hX1 : ¬ X1 w1.heap.size := fun e => by have := HV1.out.low _ e; omega
    have HV2 := Lib.hid (HV1.out.below hR hb2)
    have hz1 := hm1.size
    have HB2 := Lib.hid hB2
    clear hB2 c1
    go_wp2_with fail
    go_loopw [30] (fun i wr => ∃ (k : Nat) (X' : Nat → Prop), i = .int .i64 (k : Int) ∧ k ≤ 512 ∧ VisOk R S t wr (l ++ .node g :: up k) X' ∧ Mod X1 w2 wr ∧ Out X1 X' w2) (fun i _ => 512 - (intOf i).toNat)
    case atStart => exact ⟨0, X1, rfl, by omega, by rw [HUP0.out]; exact HV2.out, Mod.refl _ _, Out.refl _ _⟩
    case round =>
      obtain ⟨k, X', rfl, hk, hv', hm', ho'⟩ := hrel
      have HV' := Lib.hid hv'
      have hz' := hm'.size
      clear hv'
      by_cases hlt : k < 512
      · have hB' : BytesAt wr w1.heap.size 4096 (fun i => p.dat g (0 + i)) := (hm'.block _ hz2 hX1).trans HB2.out
        have HT' := Lib.hid (show TabSelf wr t c a root from (hm'.block t (by omega) HV1.out.noT).trans ((hb2.block t (by omega)).trans HT1.out))
        have HP' := Lib.hid ((HP1.out.below hb2).mod hm' HV1.out.apart HV1.out.no0)
        go_wp2_with fail
        refine (get_8 (8 * k) 4096 4096 w1.heap.size (fun i => p.dat g (0 + i)) wr (by omega) (by omega) hB' (fun i => hsm _) (by omega)).mono ?_
        rintro e w3 ⟨rfl, hb3⟩
        rw [HWD.out k hlt]
        have hm3 : Mod X1 w2 w3 := hm'.trans ho' (Mod.of hb3)
        have HV3 := Lib.hid (HV'.out.below hR hb3)
        have HP3 := Lib.hid (HP'.out.below hb3)
        have HT3 := Lib.hid ((hb3.block t (by omega)).trans HT'.out)
        have hz3 := hb3.size
        clear hB'
        rcases HST.out k hlt with ⟨e0, es⟩ | ⟨y, x, e0, hx9, hodd, hup, hcl⟩
        · have ES := Lib.hid es
          rw [e0]
          have hz := and_none
          clear es e0
          go_wp2_with fail
          go_roundw
          case rel => exact ⟨k + 1, X', by go_num, by omega, by rw [ES.out]; exact HV3.out, hm3, ho'⟩
          case measure => (simp [intOf]; omega)
        · rw [e0]
          have HUP := Lib.hid hup
          have HCL := Lib.hid hcl
          clear hup hcl e0
          go_wp2_with fail
          refine (tunpack_any x w3 hx9).mono ?_
          rintro e w4 ⟨rfl, hb4⟩
          rw [HUP.out]
          go_wp2_with fail
          refine (HCL.out w4 X' (HV3.out.below hR hb4)).mono ?_
          rintro e w5 ⟨rfl, X5, hv5, hm5, ho5⟩
          have hm4 : Mod X1 w2 w4 := hm3.trans (fun b hb => (ho' b hb).imp id (fun h => h)) (Mod.of hb4)
          have ho5' : Out X1 X5 w2 := ho'.trans ho5 hm4.size
          have hm5' := hm4.trans ho' hm5
          have HV5 := Lib.hid hv5
          clear hv5
          go_wp2_with fail
          go_roundw
          case rel => exact ⟨k + 1, X5, by go_num, by omega, HV5.out, hm5', ho5'⟩
          case measure => (simp [intOf]; omega)
      · obtain rfl : k = 512 := by omega
        go_wp2_with fail
        go_end0
        exact ⟨rfl, X', HV'.out, hm1.trans ho1 ((Mod.of hb2).trans (Out.refl _ _) hm'), ho1.trans (fun b hb => (ho' b hb).imp id (fun h => Nat.le_trans hb2.size h)) hz1⟩)
set_option maxRecDepth 100000 in
set_option maxHeartbeats 40000000 in
theorem vis_nodeS {bo : Nat} {f1 f2 : FuncId} {C1 C2 : Array Value} (hk : VisKind bo f1 C1 f2 C2) {LW cc : Nat} {D E : Int} (hc : (LW = 1 ∧ D = 2 ∧ E = 3 ∧ cc = 2097152) ∨ (LW = 2 ∧ D = 1 ∧ E = 2 ∧ cc = 1073741824) ∨ (LW = 3 ∧ D = 0 ∧ E = 1 ∧ cc = 549755813888)) (ih : VisLaw f1 C1 f2 C2 LW E) : VisLaw f1 C1 f2 C2 (LW + 1) D := by
  intro t c a root g q R w S p T rest pg0 X l h ht hgood hq hqb hv hlen hR hn hl fr hfr
  have hev := Tab.evs_node hq
  obtain ⟨g1, g2⟩ := hgood.node hq
  have hwords := (hgood.but.words _ q g hq).2
  have hfew := hgood.but.few
  have htw : t < w.heap.size := (Array.getElem?_eq_some_iff.1 ht).1
  rw [hev] at hlen ⊢
  simp only [List.length_cons] at hlen
  have hlen1 : ∀ k, k < 512 → l.length + (T.upto LW q k).length + (T.evs LW (q * 512 + k)).length + 1 < 1000000 := fun k hk => by
    have h1 := T.upto_le LW q (show k + 1 ≤ 512 by omega)
    rw [Tab.upto_succ, List.length_append] at h1
    omega
  obtain ⟨wd, hwd⟩ : ∃ wd, wd = T.word (LW + 1) q := ⟨_, rfl⟩
  obtain ⟨up, hup⟩ : ∃ up, up = T.upto LW q := ⟨_, rfl⟩
  have hwd2 : ∀ k, k < 512 → leVal (fun i => p.dat g (0 + i)) (8 * k) 8 = wd k := fun k hk => by
    rw [hwd, ← hwords k hk]
    unfold word
    refine leVal_congr fun i _ => ?_
    rw [Nat.zero_add]
  have h1L : 1 ≤ LW ∧ LW < 4 ∧ cc = 512 ^ LW * 4096 := by rcases hc with ⟨rfl, _, _, rfl⟩ | ⟨rfl, _, _, rfl⟩ | ⟨rfl, _, _, rfl⟩ <;> decide
  obtain ⟨h1L, h4L, hcc⟩ := h1L
  have hstep : ∀ k, k < 512 → (wd k = 0 ∧ up (k + 1) = up k) ∨ ∃ (f x : Nat), wd k = x ∧ x < 18446744073709551616 ∧ (bits .and .u64 (x : Int) 1 == 0) = false ∧ ((x : Int) / 4096) = (f : Int) ∧ ∀ (w3 : World) (X' : Nat → Prop), PoolAt w3 S a p → TabSelf w3 t c a root → VisOk R S t w3 (l ++ .node g :: up k) X' → Calls Tryz.prog 94 #[.pointer (some ⟨t, 0, none⟩), .int .i64 (f : Int), .int .i64 E, .int .u64 (bits .or .u64 fr ((k : Int) * (cc : Int))), .func (.func f1) #[] C1, .func (.func f2) #[] C2] w3 (VisPost w3 X' R S t (l ++ .node g :: up (k + 1))) := fun k hk => by
    have hs := T.upto_succ LW q k
    have hw0 : wd k = match T.nd LW (q * 512 + k) with | some f => f * 4096 + 1 | none => 0 := by
      rw [hwd]
      unfold Tab.word
      rw [if_neg (by omega)]
      rfl
    cases hch : T.nd LW (q * 512 + k) with
    | none =>
      obtain ⟨m, rfl⟩ : ∃ m, LW = m + 1 := ⟨LW - 1, by omega⟩
      exact .inl ⟨by rw [hw0, hch], by rw [hup, hs, Tab.evs_none hch, List.append_nil]⟩
    | some f =>
      obtain ⟨n1, n2⟩ := hgood.node hch
      have hx9 : f * 4096 + 1 < 18446744073709551616 := by omega
      refine .inr ⟨f, f * 4096 + 1, by rw [hw0, hch], hx9, and_odd hx9 (by omega), by omega, fun w3 X' hP hT hv3 => ?_⟩
      have h1 := hlen1 k hk
      have hqk : q * 512 + k < 512 ^ (4 - LW) := by
        have e9 : 512 ^ (4 - LW) = 512 ^ (4 - (LW + 1)) * 512 := by rw [← Nat.pow_succ]; congr 1; omega
        rw [e9]
        omega
      have h9 := ih t c a root f (q * 512 + k) R w3 S p T rest pg0 X' (l ++ .node g :: up k) hP hT hgood hch hqk hv3 (by rw [hup, List.length_append, List.length_cons]; omega) hR hn hl (bits .or .u64 fr ((k : Int) * (cc : Int))) (by rw [hfr]; exact or_part rfl hcc h4L hqb hk)
      have e8 : (l ++ .node g :: up k) ++ T.evs LW (q * 512 + k) = l ++ .node g :: up (k + 1) := by rw [hup, hs]; simp
      rw [e8] at h9
      exact h9
  have HUP0 := Lib.hid (show up 0 = [] by rw [hup]; rfl)
  rw [← hup]
  have HN := Lib.hid (hn w l X g hv (by omega))
  have HV := Lib.hid hv
  have HP := Lib.hid h
  have HT := Lib.hid ht
  have HWD := Lib.hid hwd2
  have HST := Lib.hid hstep
  clear hev hq hv h ht hn hl hgood hwords hfr hlen hlen1 hwd hup hwd2 hstep hqb ih hcc h1L h4L
  rcases hk with ⟨rfl, rfl, rfl, rfl⟩ | ⟨rfl, rfl, rfl, rfl⟩ | ⟨rfl, rfl, rfl, rfl⟩ <;> rcases hc with ⟨rfl, rfl, rfl, rfl⟩ | ⟨rfl, rfl, rfl, rfl⟩ | ⟨rfl, rfl, rfl, rfl⟩ <;> (
    go_enter Tryz.func94, Tryz.ntmps94
    go_wp2_with fail
    refine (HN.out).mono ?_
    rintro e w1 ⟨rfl, X1, hv1, hm1, ho1⟩
    have hT1 : TabSelf w1 t c a root := (hm1.block t htw HV.out.noT).trans HT.out
    have hP1 : PoolAt w1 S a p := HP.out.mod hm1 HV.out.apart HV.out.no0
    have c1 : w1.cell? ⟨t, 1, none⟩ = some (.pointer (some ⟨a, 0, none⟩)) := one_block hT1 1
    have HT1 := Lib.hid hT1
    have HP1 := Lib.hid hP1
    have HV1 := Lib.hid hv1
    clear hT1 hP1 hv1
    go_wp2_with fail
    refine (load_yes a g 0 4096 w1 S p HP1.out g1 g2 (by omega) (by omega)).mono ?_
    rintro e w2 ⟨rfl, hB2, hz2, hb2⟩
    have hsm : ∀ i, p.dat g i < 256 := by
      obtain ⟨⟨C, B, F, wd, pt, hi, hS⟩, _, _, _⟩ := HP1.out
      exact fun i => hi.small g i
    have hX1 : ¬ X1 w1.heap.size := fun e => by have := HV1.out.low _ e; omega
    have HV2 := Lib.hid (HV1.out.below hR hb2)
    have hz1 := hm1.size
    have HB2 := Lib.hid hB2
    clear hB2 c1
    go_wp2_with fail
    go_loopw [30] (fun i wr => ∃ (k : Nat) (X' : Nat → Prop), i = .int .i64 (k : Int) ∧ k ≤ 512 ∧ VisOk R S t wr (l ++ .node g :: up k) X' ∧ Mod X1 w2 wr ∧ Out X1 X' w2) (fun i _ => 512 - (intOf i).toNat)
    case atStart => exact ⟨0, X1, rfl, by omega, by rw [HUP0.out]; exact HV2.out, Mod.refl _ _, Out.refl _ _⟩
    case round =>
      obtain ⟨k, X', rfl, hk, hv', hm', ho'⟩ := hrel
      have HV' := Lib.hid hv'
      have hz' := hm'.size
      clear hv'
      by_cases hlt : k < 512
      · have hB' : BytesAt wr w1.heap.size 4096 (fun i => p.dat g (0 + i)) := (hm'.block _ hz2 hX1).trans HB2.out
        have HT' := Lib.hid (show TabSelf wr t c a root from (hm'.block t (by omega) HV1.out.noT).trans ((hb2.block t (by omega)).trans HT1.out))
        have HP' := Lib.hid ((HP1.out.below hb2).mod hm' HV1.out.apart HV1.out.no0)
        go_wp2_with fail
        refine (get_8 (8 * k) 4096 4096 w1.heap.size (fun i => p.dat g (0 + i)) wr (by omega) (by omega) hB' (fun i => hsm _) (by omega)).mono ?_
        rintro e w3 ⟨rfl, hb3⟩
        rw [HWD.out k hlt]
        have hm3 : Mod X1 w2 w3 := hm'.trans ho' (Mod.of hb3)
        have HV3 := Lib.hid (HV'.out.below hR hb3)
        have HP3 := Lib.hid (HP'.out.below hb3)
        have HT3 := Lib.hid ((hb3.block t (by omega)).trans HT'.out)
        have hz3 := hb3.size
        clear hB'
        rcases HST.out k hlt with ⟨e0, es⟩ | ⟨f, x, e0, hx9, hodd, hsh, hcl⟩
        · have ES := Lib.hid es
          rw [e0]
          have hz := and_none
          clear es e0
          go_wp2_with fail
          go_roundw
          case rel => exact ⟨k + 1, X', by go_num, by omega, by rw [ES.out]; exact HV3.out, hm3, ho'⟩
          case measure => (simp [intOf]; omega)
        · rw [e0]
          have HSH := Lib.hid hsh
          have HCL := Lib.hid hcl
          clear hsh hcl e0
          go_wp2_with fail
          rw [HSH.out]
          refine (HCL.out w3 X' HP3.out HT3.out HV3.out).mono ?_
          rintro e w5 ⟨rfl, X5, hv5, hm5, ho5⟩
          have ho5' : Out X1 X5 w2 := ho'.trans ho5 hm3.size
          have hm5' := hm3.trans ho' hm5
          have HV5 := Lib.hid hv5
          clear hv5
          go_wp2_with fail
          go_roundw
          case rel => exact ⟨k + 1, X5, by go_num, by omega, HV5.out, hm5', ho5'⟩
          case measure => (simp [intOf]; omega)
      · obtain rfl : k = 512 := by omega
        go_wp2_with fail
        go_end0
        exact ⟨rfl, X', HV'.out, hm1.trans ho1 ((Mod.of hb2).trans (Out.refl _ _) hm'), ho1.trans (fun b hb => (ho' b hb).imp id (fun h => Nat.le_trans hb2.size h)) hz1⟩)
theorem vis_any {bo : Nat} {f1 f2 : FuncId} {C1 C2 : Array Value} (hk : VisKind bo f1 C1 f2 C2) : VisLaw f1 C1 f2 C2 4 0 :=
  vis_nodeS hk (.inr (.inr ⟨rfl, rfl, rfl, rfl⟩)) (vis_nodeS hk (.inr (.inl ⟨rfl, rfl, rfl, rfl⟩)) (vis_nodeS hk (.inl ⟨rfl, rfl, rfl, rfl⟩) (vis_leaf hk)))

end Go.Proofs.YtkkmcnngpahfaaaGreatDoor

namespace Go.Proofs.YtkkmcnngpahfaaaGreatDoor
open Go.RowKit
set_option linter.unusedSimpArgs false
set_option linter.unusedVariables false

def pc (x : Nat × Leaf) : List Value := [.int .u64 ((x.1 * 4096 : Nat) : Int), .int .i64 (x.2.frame : Int), .int .u8 (x.2.prot : Int), .bool x.2.copy]
/-- A row of Puts of the call's own. -/
def OwnP (w : World) (base : Nat) (A : Option Addr) (cap : Nat) (l : List (Nat × Leaf)) : Prop := w.ownsRow base 193 4 (.slice A l.length cap) l.length (l.flatMap pc)
theorem put_info : (Tryz.prog.info? 193).map (fun i => (i.zero, i.size, i.bytes)) = some (some (.agg #[.int .u64 0, .int .i64 0, .int .u8 0, .bool false]), 4, 24) := by kernel_rfl

/-- What a row of the call's own bears. -/
structure RowLike {α : Type} (Own : World → Nat → Option Addr → Nat → List α → Prop) : Prop where
  same : ∀ {w w' : World} {base : Nat} {A : Option Addr} {cap : Nat} {l : List α}, Own w base A cap l → (∀ g, A = some ⟨g, 0, none⟩ → w'.heap[g]? = w.heap[g]?) → Own w' base A cap l
  form : ∀ {w : World} {base : Nat} {A : Option Addr} {cap : Nat} {l : List α}, Own w base A cap l → (A = none ∧ l = [] ∧ cap = 0) ∨ ∃ g, A = some ⟨g, 0, none⟩ ∧ base ≤ g ∧ g < w.heap.size ∧ l.length ≤ cap
theorem rowLikeN : RowLike OwnN := ⟨fun h hb => h.same hb, fun h => h.form⟩
theorem rowLikeP : RowLike OwnP := by
  constructor
  · intro w w' base A cap l h hb
    refine ⟨h.1, ?_⟩
    rcases h.2 with h2 | ⟨g, cap', cur, h1, h2, h3, h4⟩
    · exact .inl h2
    · injection h1 with e1 e2 e3
      exact .inr ⟨g, cap', cur, by rw [e1, e2, e3], h2, (hb g e1).trans h3, h4⟩
  · intro w base A cap l h
    rcases h.2 with ⟨h2, h3⟩ | ⟨g, cap', cur, h1, h2, h3, h4, _⟩
    · injection h2 with h4 h5 h6
      exact .inl ⟨h4, List.eq_nil_of_length_eq_zero h3, h6⟩
    · injection h1 with e1 e2 e3
      subst e3
      exact .inr ⟨g, e1, h2, (Array.getElem?_eq_some_iff.1 h3).1, h4⟩

/-- The captured variable at block bo holds the row of what was picked so far. -/
def Pick {α : Type} (Own : World → Nat → Option Addr → Nat → List α → Prop) (ty : TypeId) (F : Ev → List α) (base bo : Nat) : World → List Ev → (Nat → Prop) → Prop := fun w l X =>
  ∃ A cap, Own w base A cap (l.flatMap F) ∧ w.heap[bo]? = some (.cells #[.slice A (l.flatMap F).length cap] ty (0, 0)) ∧ (∀ g, A = some ⟨g, 0, none⟩ → g ≠ bo) ∧ ∀ b, X b ↔ b = bo ∨ A = some ⟨b, 0, none⟩
theorem Pick.stays {α : Type} {Own : World → Nat → Option Addr → Nat → List α → Prop} (hO : RowLike Own) {ty : TypeId} {F : Ev → List α} {base bo : Nat} : VisStays (Pick Own ty F base bo) := by
  rintro w w' l X ⟨A, cap, h1, h2, h3, h4⟩ hb
  refine ⟨A, cap, hO.same h1 fun g hg => ?_, (hb.block bo (Array.getElem?_eq_some_iff.1 h2).1).trans h2, h3, h4⟩
  rcases hO.form h1 with ⟨e, _⟩ | ⟨g', e, _, hlt, _⟩
  · rw [e] at hg; cases hg
  · rw [e] at hg; injection hg with hg; injection hg with hg; subst hg; exact hb.block _ hlt
/-- What is not picked turns nothing. -/
theorem Pick.pass {α : Type} {Own : World → Nat → Option Addr → Nat → List α → Prop} {ty : TypeId} {F : Ev → List α} {base bo : Nat} {w : World} {l : List Ev} {X : Nat → Prop} {e : Ev} {S : Nat → Prop} {t : Nat} (h : VisOk (Pick Own ty F base bo) S t w l X) (he : F e = []) :
    VisPost w X (Pick Own ty F base bo) S t (l ++ [e]) (.returned (.tuple #[])) w := by
  refine ⟨rfl, X, ⟨?_, h.low, h.apart, h.noT, h.no0⟩, Mod.refl _ _, Out.refl _ _⟩
  obtain ⟨A, cap, h1, h2, h3, h4⟩ := h.rel
  have e1 : (l ++ [e]).flatMap F = l.flatMap F := by simp [he]
  exact ⟨A, cap, by rw [e1]; exact h1, by rw [e1]; exact h2, h3, h4⟩
/-- One more is picked: its row turned, and the captured variable. -/
theorem Pick.more {α : Type} {Own : World → Nat → Option Addr → Nat → List α → Prop} (hO : RowLike Own) {ty : TypeId} {F : Ev → List α} {base bo : Nat} {w w0 w1 w2 : World} {l : List Ev} {X : Nat → Prop} {e : Ev} {x : α} {S : Nat → Prop} {t : Nat} (h : VisOk (Pick Own ty F base bo) S t w l X) (he : F e = [x])
    {A : Option Addr} {cap g cap' : Nat} (hX : ∀ b, X b ↔ b = bo ∨ A = some ⟨b, 0, none⟩) (hA : Own w base A cap (l.flatMap F)) (hb0 : Below w.heap.size w w0) (hg : w0.grownBy w1 (A.map (·.block))) (hat : A.map (·.block) = some g ∨ g = w0.heap.size) (hlt : g < w1.heap.size)
    (hown : Own w1 base (some ⟨g, 0, none⟩) cap' (l.flatMap F ++ [x])) (hAb : ∀ g, A = some ⟨g, 0, none⟩ → g ≠ bo) (hbo : bo < w.heap.size) (hSb : ∀ b, S b → b < base) (htb : t < base) (hb1 : 0 < base)
    (h2 : w2.heap[bo]? = some (.cells #[.slice (some ⟨g, 0, none⟩) (l.flatMap F ++ [x]).length cap'] ty (0, 0))) (hm2 : Mod (fun b => b = bo) w1 w2) (hz2 : w2.heap.size = w1.heap.size) :
    VisPost w X (Pick Own ty F base bo) S t (l ++ [e]) (.returned (.tuple #[])) w2 := by
  have hform := hO.form hA
  have hz0 := hb0.size
  have hz1 := hg.size
  have hgbo : g ≠ bo := by
    rcases hat with e | e
    · rcases hform with ⟨e', _⟩ | ⟨g', e', _, _, _⟩
      · rw [e'] at e; cases e
      · rw [e'] at e; injection e with e; exact e ▸ hAb g' e'
    · omega
  have hgb : base ≤ g := by
    rcases hO.form hown with ⟨e', _⟩ | ⟨g', e', h9, _, _⟩
    · cases e'
    · injection e' with e'; injection e' with e'; omega
  have hXA : ∀ b, A.map (·.block) = some b → X b := by
    intro b hb
    rcases hform with ⟨e', _⟩ | ⟨g', e', _, _, _⟩
    · rw [e'] at hb; cases hb
    · rw [e'] at hb; injection hb with hb; exact (hX b).2 (.inr (hb ▸ e'))
  have hm1 : Mod X w0 w1 := ⟨hg.os, hg.tape, hg.output, hg.size, fun b hb hn => hg.block b hb fun e => hn (hXA b e.symm)⟩
  have hXbo : X bo := (hX bo).2 (.inl rfl)
  have hmod : Mod X w w2 := ((Mod.of hb0).trans (Out.refl _ _) hm1).trans (Out.refl _ _) (hm2.sub fun b hb => hb ▸ hXbo)
  refine ⟨rfl, fun b => b = bo ∨ b = g, ⟨⟨some ⟨g, 0, none⟩, cap', ?_, ?_, fun g' e' => ?_, fun b => ?_⟩, ?_, ?_, ?_, ?_⟩, hmod, ?_⟩
  · rw [show (l ++ [e]).flatMap F = l.flatMap F ++ [x] from by simp [he]]
    refine hO.same hown fun g' e' => ?_
    injection e' with e'; injection e' with e'; subst e'
    exact hm2.block g hlt hgbo
  · rw [show (l ++ [e]).flatMap F = l.flatMap F ++ [x] from by simp [he]]
    exact h2
  · injection e' with e'; injection e' with e'; omega
  · constructor
    · rintro (rfl | rfl)
      · exact .inl rfl
      · exact .inr rfl
    · rintro (rfl | e')
      · exact .inl rfl
      · injection e' with e'; injection e' with e'; exact .inr e'.symm
  · rintro b (rfl | rfl)
    · omega
    · omega
  · intro b hb
    have h9 := hSb b hb
    rintro (rfl | rfl)
    · exact h.apart _ hb hXbo
    · omega
  · rintro (rfl | rfl)
    · exact h.noT hXbo
    · omega
  · rintro (e' | e')
    · exact h.no0 (e' ▸ hXbo)
    · omega
  · rintro b (rfl | rfl)
    · exact .inl hXbo
    · rcases hat with e' | e'
      · exact .inl (hXA _ e')
      · exact .inr (by omega)
theorem Pick.start {α : Type} {Own : World → Nat → Option Addr → Nat → List α → Prop} {ty : TypeId} {F : Ev → List α} {base bo : Nat} {w : World} {S : Nat → Prop} {t : Nat} (hO : Own w base none 0 []) (hb : w.heap[bo]? = some (.cells #[.slice none 0 0] ty (0, 0))) (hSb : ∀ b, S b → b ≠ bo) (ht : t ≠ bo) (h0 : bo ≠ 0) :
    VisOk (Pick Own ty F base bo) S t w [] (fun b => b = bo) :=
  ⟨⟨none, 0, hO, hb, fun g e => (by cases e), fun b => ⟨.inl, fun h => h.elim id (fun e => by cases e)⟩⟩, fun b e => e ▸ (Array.getElem?_eq_some_iff.1 hb).1, fun b hs e => hSb b hs e, fun e => ht e, fun e => h0 e.symm⟩

end Go.Proofs.YtkkmcnngpahfaaaGreatDoor

namespace Go.Proofs.YtkkmcnngpahfaaaGreatDoor
open Go.RowKit
set_option linter.unusedSimpArgs false
set_option linter.unusedVariables false


end Go.Proofs.YtkkmcnngpahfaaaGreatDoor

namespace Go.Proofs.YtkkmcnngpahfaaaGreatDoor
open Go.RowKit
set_option linter.unusedSimpArgs false
set_option linter.unusedVariables false


end Go.Proofs.YtkkmcnngpahfaaaGreatDoor

namespace Go.Proofs.YtkkmcnngpahfaaaGreatDoor
open Go.RowKit
set_option linter.unusedSimpArgs false
set_option linter.unusedVariables false

theorem flatMap_few {α : Type} {F : Ev → List α} (hF : ∀ e, (F e).length ≤ 1) (l : List Ev) : (l.flatMap F).length ≤ l.length := by
  induction l with
  | nil => simp
  | cons e l ih => rw [List.flatMap_cons, List.length_append, List.length_cons]; have := hF e; omega

theorem app_put {w : World} {ops : Array Oper} {rest : List Oper} {o : Oper} {a : Act} {Q : Exit → Act → World → Prop} (hgd : o.guard = none) (s x : Operand)
    (ho : o.op = .call { callee := .builtin .append, args := #[s, x], argTypes := #[94, 94] })
    (base : Nat) (A : Option Addr) (cap : Nat) (l : List (Nat × Leaf)) (hs : a.eval s = .slice A l.length cap) (hown : OwnP w base A cap l)
    (r : Nat × Leaf) (b c : Nat) (hx : a.eval x = .slice (some ⟨b, 0, none⟩) 1 c) (hb : w.heap[b]? = some (.cells #[.int .u64 ((r.1 * 4096 : Nat) : Int), .int .i64 (r.2.frame : Int), .int .u8 (r.2.prot : Int), .bool r.2.copy] 193 (0, 0)))
    (hfew : l.length < 1000000) (hbase : base ≤ w.heap.size)
    (h : ∀ g cap' w', OwnP w' base (some ⟨g, 0, none⟩) cap' (l ++ [r]) → w.grownBy w' (A.map (·.block)) → (A.map (·.block) = some g ∨ g = w.heap.size) → g < w'.heap.size → wpList Tryz.prog ops Q rest (a.put o.dst (.slice (some ⟨g, 0, none⟩) (l.length + 1) cap')) w') :
    wpList Tryz.prog ops Q (o :: rest) a w := by
  obtain ⟨i0, hi0, hz0, hz1, hz2⟩ := info_parts put_info
  refine wpList_append_lies w hgd s x 94 ho base 193 i0 _ 4 24 Tryz.underlying94 hi0 hz0 hz1 hz2 rfl (by omega) _ l.length (l.flatMap pc) hs hown ⟨b, 0, none⟩ 1 c (pc r) hx rfl (World.news_of_block (cs := #[.int .u64 ((r.1 * 4096 : Nat) : Int), .int .i64 (r.2.frame : Int), .int .u8 (r.2.prot : Int), .bool r.2.copy]) hb)
    (by simp [pc, Value.oneCell']) (by omega) (by unfold maxLen; omega) (by omega) hbase w.heap.size rfl ?_
  intro g cap' w' ho' hg hat hlt
  refine h g cap' w' ?_ ?_ ?_ hlt
  · unfold OwnP
    rw [List.flatMap_append, List.length_append]
    simpa [pc] using ho'
  · cases A <;> simpa [Value.ownBlock] using hg
  · cases A <;> simpa [Value.ownBlock] using hat

theorem Pick.cell {α : Type} {l : List α} {w w0 w1 : World} {base bo n cap : Nat} {A : Option Addr} {ty : TypeId} (hF : (A = none ∧ l = [] ∧ cap = 0) ∨ ∃ g, A = some ⟨g, 0, none⟩ ∧ base ≤ g ∧ g < w.heap.size ∧ l.length ≤ cap) (hAB : ∀ g, A = some ⟨g, 0, none⟩ → g ≠ bo)
    (hB : w.heap[bo]? = some (.cells #[.slice A n cap] ty (0, 0))) (hb : Below w.heap.size w w0) (hg : w0.grownBy w1 (A.map (·.block))) : w1.heap[bo]? = some (.cells #[.slice A n cap] ty (0, 0)) := by
  have hbw := (Array.getElem?_eq_some_iff.1 hB).1
  refine (hg.block bo (Nat.lt_of_lt_of_le hbw hb.size) fun e => ?_).trans ((hb.block bo hbw).trans hB)
  rcases hF with ⟨e', _⟩ | ⟨g', e', _, _, _⟩
  · rw [e'] at e; cases e
  · rw [e'] at e
    exact hAB g' e' (by simpa using e.symm)
theorem one_set {w : World} {b : Nat} {x y : Value} {t : TypeId} (h : w.heap[b]? = some (.cells #[x] t (0, 0))) : (w.setCell ⟨b, 0, none⟩ y).heap[b]? = some (.cells #[y] t (0, 0)) := by
  have h1 := Joins.block_setCell (i := 0) h y
  simpa using h1

/-- What the functions of a visit take for given. -/
structure PickOk (S : Nat → Prop) (t base bo : Nat) : Prop where
  low : ∀ b, S b → b < base
  tab : t < base
  pos : 0 < base
  box : base ≤ bo

set_option maxHeartbeats 1000000 in
theorem nodes1_any (base bo t : Nat) (S : Nat → Prop) (hp : PickOk S t base bo) (w : World) (l : List Ev) (X : Nat → Prop) (f : Nat)
    (hv : VisOk (Pick OwnN 55 Ev.ns base bo) S t w l X) (hfew : l.length < 1000000) :
    Calls Tryz.prog 114 (#[.int .i64 (f : Int)] ++ #[.pointer (some ⟨bo, 0, none⟩)]) w (VisPost w X (Pick OwnN 55 Ev.ns base bo) S t (l ++ [.node f])) := by
  obtain ⟨A, cap, hO, hB, hAb, hX⟩ := hv.rel
  have hlen := flatMap_few (F := Ev.ns) (fun e => by cases e <;> simp [Ev.ns]) l
  have hform := rowLikeN.form hO
  have hbw : bo < w.heap.size := (Array.getElem?_eq_some_iff.1 hB).1
  have c0 : w.cell? ⟨bo, 0, none⟩ = some (.slice A (l.flatMap Ev.ns).length cap) := one_block hB 0
  have f0 : w.frozen? ⟨bo, 0, none⟩ = false := one_free hB 0
  obtain ⟨L, hL⟩ : ∃ L, L = l.flatMap Ev.ns := ⟨_, rfl⟩
  rw [← hL] at hlen c0
  have HV := Lib.hid hv
  have HO := Lib.hid hO
  have HB := Lib.hid hB
  have HX := Lib.hid hX
  have HAB := Lib.hid hAb
  have HF := Lib.hid hform
  have HL := Lib.hid hL
  clear hv hO hB hX hAb hform hL
  have hbox := hp.box
  have hbe := Lib.hid ((Below.refl w.heap.size w).alloc (Nat.le_refl _) (.cells #[.int .i64 (f : Int)] 3))
  go_enter Tryz.func114, Tryz.ntmps114
  go_wp2_with (first
    | (at_builtin; refine app_int rfl (.tmp 3) (.tmp 5) rfl base A cap L rfl ((HL.out ▸ HO.out : OwnN w base A cap L).alloc _) f w.heap.size 1 rfl (heap_alloc_new _ _) (by omega) (by simp; omega) ?_; intro g cap' w1 ho hg hat hlt; have hB2 := Pick.cell HF.out HAB.out HB.out hbe.out hg; rw [← HL.out] at hB2; have c1 : w1.cell? ⟨bo, 0, none⟩ = some (.slice A L.length cap) := one_block hB2 0; have f1 : w1.frozen? ⟨bo, 0, none⟩ = false := one_free hB2 0; have HO1 := Lib.hid ho; have HG := Lib.hid hg; have HAT := Lib.hid hat; have HB2 := Lib.hid hB2; clear ho hg hat hB2)
    | fail)
  go_end0
  exact Pick.more rowLikeN HV.out (x := f) rfl HX.out HO.out hbe.out HG.out HAT.out hlt (HL.out ▸ HO1.out) HAB.out hbw hp.low hp.tab hp.pos (by rw [List.length_append, ← HL.out]; exact one_set HB2.out) (mod_set (S := fun b => b = bo) (b := bo) rfl 0 _) (by simp)

theorem nodes2_any (ty : TypeId) (base bo t : Nat) (S : Nat → Prop) (w : World) (l : List Ev) (X : Nat → Prop) (pg : Nat) (y : Leaf) (hv : VisOk (Pick OwnN ty Ev.ns base bo) S t w l X) :
    Calls Tryz.prog 115 (#[.int .u64 ((pg * 4096 : Nat) : Int), .agg #[.int .i64 (y.frame : Int), .int .u8 (y.prot : Int), .bool y.copy]] ++ #[]) w (VisPost w X (Pick OwnN ty Ev.ns base bo) S t (l ++ [.leaf pg y])) := by
  have hb := (Below.refl w.heap.size w).alloc (Nat.le_refl _) (.cells #[.int .i64 (y.frame : Int), .int .u8 (y.prot : Int), .bool y.copy] 31)
  have hp := (Pick.pass (VisOk.below hv (Pick.stays rowLikeN) hb) (e := .leaf pg y) rfl).2
  have HP := Lib.hid hp
  have HB := Lib.hid hb
  clear hv hp hb
  go_enter Tryz.func115, Tryz.ntmps115
  go_wp2_with fail
  go_end0
  obtain ⟨X', h1, h2, h3⟩ := HP.out
  exact ⟨rfl, X', h1, (Mod.of HB.out).trans (Out.refl _ _) h2, (Out.refl _ _).trans (fun b hb => (h3 b hb).imp id (fun h => Nat.le_trans HB.out.size h)) (Nat.le_refl _)⟩

theorem all1_any (ty : TypeId) (base bo t : Nat) (S : Nat → Prop) (w : World) (l : List Ev) (X : Nat → Prop) (f : Nat) (hv : VisOk (Pick OwnP ty Ev.ls base bo) S t w l X) :
    Calls Tryz.prog 112 (#[.int .i64 (f : Int)] ++ #[]) w (VisPost w X (Pick OwnP ty Ev.ls base bo) S t (l ++ [.node f])) := by
  have hp := Pick.pass hv (e := .node f) rfl
  have HP := Lib.hid hp
  clear hv hp
  go_enter Tryz.func112, Tryz.ntmps112
  go_wp2_with fail
  go_end0
  exact HP.out

set_option maxHeartbeats 1000000 in
theorem free1_any (base bo t : Nat) (S : Nat → Prop) (hp : PickOk S t base bo) (w : World) (l : List Ev) (X : Nat → Prop) (f : Nat)
    (hv : VisOk (Pick OwnN 55 Ev.fs base bo) S t w l X) (hfew : l.length < 1000000) :
    Calls Tryz.prog 95 (#[.int .i64 (f : Int)] ++ #[.pointer (some ⟨bo, 0, none⟩)]) w (VisPost w X (Pick OwnN 55 Ev.fs base bo) S t (l ++ [.node f])) := by
  obtain ⟨A, cap, hO, hB, hAb, hX⟩ := hv.rel
  have hlen := flatMap_few (F := Ev.fs) (fun e => by cases e <;> simp [Ev.fs]) l
  have hform := rowLikeN.form hO
  have hbw : bo < w.heap.size := (Array.getElem?_eq_some_iff.1 hB).1
  have c0 : w.cell? ⟨bo, 0, none⟩ = some (.slice A (l.flatMap Ev.fs).length cap) := one_block hB 0
  have f0 : w.frozen? ⟨bo, 0, none⟩ = false := one_free hB 0
  obtain ⟨L, hL⟩ : ∃ L, L = l.flatMap Ev.fs := ⟨_, rfl⟩
  rw [← hL] at hlen c0
  have HV := Lib.hid hv
  have HO := Lib.hid hO
  have HB := Lib.hid hB
  have HX := Lib.hid hX
  have HAB := Lib.hid hAb
  have HF := Lib.hid hform
  have HL := Lib.hid hL
  clear hv hO hB hX hAb hform hL
  have hbox := hp.box
  have hbe := Lib.hid ((Below.refl w.heap.size w).alloc (Nat.le_refl _) (.cells #[.int .i64 (f : Int)] 3))
  go_enter Tryz.func95, Tryz.ntmps95
  go_wp2_with (first
    | (at_builtin; refine app_int rfl (.tmp 3) (.tmp 5) rfl base A cap L rfl ((HL.out ▸ HO.out : OwnN w base A cap L).alloc _) f w.heap.size 1 rfl (heap_alloc_new _ _) (by omega) (by simp; omega) ?_; intro g cap' w1 ho hg hat hlt; have hB2 := Pick.cell HF.out HAB.out HB.out hbe.out hg; rw [← HL.out] at hB2; have c1 : w1.cell? ⟨bo, 0, none⟩ = some (.slice A L.length cap) := one_block hB2 0; have f1 : w1.frozen? ⟨bo, 0, none⟩ = false := one_free hB2 0; have HO1 := Lib.hid ho; have HG := Lib.hid hg; have HAT := Lib.hid hat; have HB2 := Lib.hid hB2; clear ho hg hat hB2)
    | fail)
  go_end0
  exact Pick.more rowLikeN HV.out (x := f) rfl HX.out HO.out hbe.out HG.out HAT.out hlt (HL.out ▸ HO1.out) HAB.out hbw hp.low hp.tab hp.pos (by rw [List.length_append, ← HL.out]; exact one_set HB2.out) (mod_set (S := fun b => b = bo) (b := bo) rfl 0 _) (by simp)

set_option maxHeartbeats 1000000 in
theorem free2_any (base bo t : Nat) (S : Nat → Prop) (hp : PickOk S t base bo) (w : World) (l : List Ev) (X : Nat → Prop) (pg : Nat) (y : Leaf)
    (hv : VisOk (Pick OwnN 55 Ev.fs base bo) S t w l X) (hfew : l.length < 1000000) :
    Calls Tryz.prog 96 (#[.int .u64 ((pg * 4096 : Nat) : Int), .agg #[.int .i64 (y.frame : Int), .int .u8 (y.prot : Int), .bool y.copy]] ++ #[.pointer (some ⟨bo, 0, none⟩)]) w (VisPost w X (Pick OwnN 55 Ev.fs base bo) S t (l ++ [.leaf pg y])) := by
  obtain ⟨A, cap, hO, hB, hAb, hX⟩ := hv.rel
  have hlen := flatMap_few (F := Ev.fs) (fun e => by cases e <;> simp [Ev.fs]) l
  have hform := rowLikeN.form hO
  have hbw : bo < w.heap.size := (Array.getElem?_eq_some_iff.1 hB).1
  have c0 : w.cell? ⟨bo, 0, none⟩ = some (.slice A (l.flatMap Ev.fs).length cap) := one_block hB 0
  have f0 : w.frozen? ⟨bo, 0, none⟩ = false := one_free hB 0
  obtain ⟨L, hL⟩ : ∃ L, L = l.flatMap Ev.fs := ⟨_, rfl⟩
  rw [← hL] at hlen c0
  have HV := Lib.hid hv
  have HO := Lib.hid hO
  have HB := Lib.hid hB
  have HX := Lib.hid hX
  have HAB := Lib.hid hAb
  have HF := Lib.hid hform
  have HL := Lib.hid hL
  clear hv hO hB hX hAb hform hL
  have hbox := hp.box
  obtain ⟨w0, hw0⟩ : ∃ w0, w0 = w.alloc (.cells #[.int .i64 (y.frame : Int), .int .u8 (y.prot : Int), .bool y.copy] 31) := ⟨_, rfl⟩
  have hb0 : Below w.heap.size w w0 := by rw [hw0]; exact (Below.refl _ _).alloc (Nat.le_refl _) _
  have hL0 : w0.heap[w.heap.size]? = some (.cells #[.int .i64 (y.frame : Int), .int .u8 (y.prot : Int), .bool y.copy] 31 (0, 0)) := by rw [hw0]; exact heap_alloc_new _ _
  have d0 : w0.cell? ⟨w.heap.size, 0, none⟩ = some (.int .i64 (y.frame : Int)) := one_block hL0 0
  have c0' : w0.cell? ⟨bo, 0, none⟩ = some (.slice A L.length cap) := (hb0.cell hbw).trans c0
  have f0' : w0.frozen? ⟨bo, 0, none⟩ = false := (hb0.frozen hbw).trans f0
  have hz0 := hb0.size
  have hbe := Lib.hid (hb0.alloc hb0.size (.cells #[.int .i64 (y.frame : Int)] 3))
  have hO0 : OwnN w0 base A cap L := (HL.out ▸ HO.out : OwnN w base A cap L).below hb0 (Nat.le_refl _)
  have HO0 := Lib.hid hO0
  have HW0 := Lib.hid hw0
  clear hw0 hO0 c0 f0 hL0 hb0
  go_enter Tryz.func96, Tryz.ntmps96
  go_upto_region 1 with (fail)
  rw [← HW0.out]
  go_wp2_with (first
    | (at_builtin; refine app_int rfl (.tmp 5) (.tmp 8) rfl base A cap L rfl (HO0.out.alloc _) y.frame w0.heap.size 1 rfl (heap_alloc_new _ _) (by omega) (by simp; omega) ?_; intro g cap' w1 ho hg hat hlt; have hB2 := Pick.cell HF.out HAB.out HB.out hbe.out hg; rw [← HL.out] at hB2; have c1 : w1.cell? ⟨bo, 0, none⟩ = some (.slice A L.length cap) := one_block hB2 0; have f1 : w1.frozen? ⟨bo, 0, none⟩ = false := one_free hB2 0; have HO1 := Lib.hid ho; have HG := Lib.hid hg; have HAT := Lib.hid hat; have HB2 := Lib.hid hB2; clear ho hg hat hB2)
    | fail)
  go_end0
  exact Pick.more rowLikeN HV.out (x := y.frame) rfl HX.out HO.out hbe.out HG.out HAT.out hlt (HL.out ▸ HO1.out) HAB.out hbw hp.low hp.tab hp.pos (by rw [List.length_append, ← HL.out]; exact one_set HB2.out) (mod_set (S := fun b => b = bo) (b := bo) rfl 0 _) (by simp)

set_option maxHeartbeats 1000000 in
theorem all2_any (base bo t : Nat) (S : Nat → Prop) (hp : PickOk S t base bo) (w : World) (l : List Ev) (X : Nat → Prop) (pg : Nat) (y : Leaf)
    (hv : VisOk (Pick OwnP 94 Ev.ls base bo) S t w l X) (hfew : l.length < 1000000) :
    Calls Tryz.prog 113 (#[.int .u64 ((pg * 4096 : Nat) : Int), .agg #[.int .i64 (y.frame : Int), .int .u8 (y.prot : Int), .bool y.copy]] ++ #[.pointer (some ⟨bo, 0, none⟩)]) w (VisPost w X (Pick OwnP 94 Ev.ls base bo) S t (l ++ [.leaf pg y])) := by
  obtain ⟨A, cap, hO, hB, hAb, hX⟩ := hv.rel
  have hlen := flatMap_few (F := Ev.ls) (fun e => by cases e <;> simp [Ev.ls]) l
  have hform := rowLikeP.form hO
  have hbw : bo < w.heap.size := (Array.getElem?_eq_some_iff.1 hB).1
  have c0 : w.cell? ⟨bo, 0, none⟩ = some (.slice A (l.flatMap Ev.ls).length cap) := one_block hB 0
  have f0 : w.frozen? ⟨bo, 0, none⟩ = false := one_free hB 0
  obtain ⟨L, hL⟩ : ∃ L, L = l.flatMap Ev.ls := ⟨_, rfl⟩
  rw [← hL] at hlen c0
  have HV := Lib.hid hv
  have HO := Lib.hid hO
  have HB := Lib.hid hB
  have HX := Lib.hid hX
  have HAB := Lib.hid hAb
  have HF := Lib.hid hform
  have HL := Lib.hid hL
  clear hv hO hB hX hAb hform hL
  have hbox := hp.box
  obtain ⟨w0, hw0⟩ : ∃ w0, w0 = w.alloc (.cells #[.int .i64 (y.frame : Int), .int .u8 (y.prot : Int), .bool y.copy] 31) := ⟨_, rfl⟩
  have hb0 : Below w.heap.size w w0 := by rw [hw0]; exact (Below.refl _ _).alloc (Nat.le_refl _) _
  have hL0 : w0.heap[w.heap.size]? = some (.cells #[.int .i64 (y.frame : Int), .int .u8 (y.prot : Int), .bool y.copy] 31 (0, 0)) := by rw [hw0]; exact heap_alloc_new _ _
  have d0 : w0.cell? ⟨w.heap.size, 0, none⟩ = some (.int .i64 (y.frame : Int)) := one_block hL0 0
  have d1 : w0.cell? ⟨w.heap.size, 1, none⟩ = some (.int .u8 (y.prot : Int)) := one_block hL0 1
  have d2 : w0.cell? ⟨w.heap.size, 2, none⟩ = some (.bool y.copy) := one_block hL0 2
  have c0' : w0.cell? ⟨bo, 0, none⟩ = some (.slice A L.length cap) := (hb0.cell hbw).trans c0
  have f0' : w0.frozen? ⟨bo, 0, none⟩ = false := (hb0.frozen hbw).trans f0
  have hz0 := hb0.size
  have hbe := Lib.hid (hb0.alloc hb0.size (.cells #[.int .u64 ((pg * 4096 : Nat) : Int), .int .i64 (y.frame : Int), .int .u8 (y.prot : Int), .bool y.copy] 193))
  have hO0 : OwnP w0 base A cap L := rowLikeP.same (HL.out ▸ HO.out : OwnP w base A cap L) (fun g hg => hb0.block g (by
    rcases HF.out with ⟨e, _⟩ | ⟨g', e, _, hlt, _⟩
    · rw [e] at hg; cases hg
    · rw [e] at hg; injection hg with hg; injection hg with hg; omega))
  have HO0 := Lib.hid hO0
  have HW0 := Lib.hid hw0
  clear hw0 hO0 c0 f0 hL0 hb0
  go_enter Tryz.func113, Tryz.ntmps113
  go_upto_region 1 with (fail)
  rw [← HW0.out]
  go_wp2_with (first
    | (at_builtin; refine app_put rfl (.tmp 5) (.tmp 9) rfl base A cap L rfl (rowLikeP.same HO0.out (fun g hg => Below.heap_alloc _ _ _ (by
        rcases rowLikeP.form HO0.out with ⟨e, _⟩ | ⟨g', e, _, hlt, _⟩
        · rw [e] at hg; cases hg
        · rw [e] at hg; injection hg with hg; injection hg with hg; omega))) (pg, y) w0.heap.size 1 rfl (heap_alloc_new _ _) (by omega) (by simp; omega) ?_; intro g cap' w1 ho hg hat hlt; have hB2 := Pick.cell HF.out HAB.out HB.out hbe.out hg; rw [← HL.out] at hB2; have c1 : w1.cell? ⟨bo, 0, none⟩ = some (.slice A L.length cap) := one_block hB2 0; have f1 : w1.frozen? ⟨bo, 0, none⟩ = false := one_free hB2 0; have HO1 := Lib.hid ho; have HG := Lib.hid hg; have HAT := Lib.hid hat; have HB2 := Lib.hid hB2; clear ho hg hat hB2)
    | fail)
  go_end0
  exact Pick.more rowLikeP HV.out (x := (pg, y)) rfl HX.out HO.out hbe.out HG.out HAT.out hlt (HL.out ▸ HO1.out) HAB.out hbw hp.low hp.tab hp.pos (by rw [List.length_append, ← HL.out]; exact one_set HB2.out) (mod_set (S := fun b => b = bo) (b := bo) rfl 0 _) (by simp)

end Go.Proofs.YtkkmcnngpahfaaaGreatDoor

namespace Go.Proofs.YtkkmcnngpahfaaaGreatDoor
open Go.RowKit Go.Sort
set_option linter.unusedSimpArgs false
set_option linter.unusedVariables false

def RowPost {α : Type} (Own : World → Nat → Option Addr → Nat → List α → Prop) (w : World) (l : List α) (e : Ending) (w' : World) : Prop := ∃ A cap, e = .returned (.slice A l.length cap) ∧ Own w' w.heap.size A cap l ∧ Below w.heap.size w w'
theorem Pick.end {α : Type} {Own : World → Nat → Option Addr → Nat → List α → Prop} {ty : TypeId} {F : Ev → List α} {w w0 w1 : World} {S X0 : Nat → Prop} {t : Nat} {l : List Ev} {bo : Nat} (hbo : bo = w.heap.size) (hb0 : Below w.heap.size w w0) (hX : ∀ b, X0 b → b = bo) {X1 : Nat → Prop} (hv : VisOk (Pick Own ty F w.heap.size bo) S t w1 l X1) (hm : Mod X0 w0 w1) :
    ∃ A cap, w1.cell? ⟨bo, 0, none⟩ = some (.slice A (l.flatMap F).length cap) ∧ Own w1 w.heap.size A cap (l.flatMap F) ∧ Below w.heap.size w w1 := by
  obtain ⟨A, cap, h1, h2, h3, h4⟩ := hv.rel
  refine ⟨A, cap, one_block h2 0, h1, ?_⟩
  exact ((Mod.of hb0).trans (Out.refl _ _) (hm.sub fun b hb => by have := hX b hb; omega)).below (S := fun b => b = bo) (fun b hb => by omega) (Nat.le_refl _)

set_option maxHeartbeats 1000000 in
theorem tnodes_any (t c a root : Nat) (w : World) (S : Nat → Prop) (p : Pool) (T : Tab) (rest : Nat → Nat) (pg0 : Nat) (h : PoolAt w S a p) (ht : TabSelf w t c a root) (hg : T.Good p rest pg0 4) (hr : T.nd 4 0 = some root) :
    Calls Tryz.prog 52 #[.pointer (some ⟨t, 0, none⟩)] w (RowPost OwnN w ((T.evs 4 0).flatMap Ev.ns)) := by
  have htw : t < w.heap.size := (Array.getElem?_eq_some_iff.1 ht).1
  have hpos := h.pos
  have hlow := h.low
  have hshort := hg.ok.short
  obtain ⟨w0, hw0⟩ : ∃ w0, w0 = w.alloc (.cells #[.slice none 0 0] 55) := ⟨_, rfl⟩
  have hb0 : Below w.heap.size w w0 := by rw [hw0]; exact (Below.refl _ _).alloc (Nat.le_refl _) _
  have hB0 : w0.heap[w.heap.size]? = some (.cells #[.slice none 0 0] 55 (0, 0)) := by rw [hw0]; exact heap_alloc_new _ _
  have hT0 : TabSelf w0 t c a root := (hb0.block t htw).trans ht
  have c2 : w0.cell? ⟨t, 2, none⟩ = some (.int .i64 (root : Int)) := one_block hT0 2
  have hp : PickOk S t w.heap.size w.heap.size := ⟨hlow, htw, hpos, Nat.le_refl _⟩
  have hvis := vis_any (bo := w.heap.size) (.inl ⟨rfl, rfl, rfl, rfl⟩) t c a root root 0 (Pick OwnN 55 Ev.ns w.heap.size w.heap.size) w0 S p T rest pg0 (fun b => b = w.heap.size) [] (h.below hb0) hT0 hg hr (by decide) (Pick.start (OwnN.nil _ _) hB0 (fun b hb => by have := hlow b hb; omega) (by omega) (by omega)) (by simp; omega) (Pick.stays rowLikeN)
    (fun w l X f hv hl => nodes1_any _ _ _ S hp w l X f hv hl) (fun w l X pg y hv hl => nodes2_any _ _ _ _ S w l X pg y hv) 0 (by simp)
  have HT := Lib.hid ht
  have HV := Lib.hid hvis
  have HW0 := Lib.hid hw0
  have HB := Lib.hid hb0
  clear ht h hg hr hvis hw0 hb0 hT0 hB0 hp hlow
  go_enter Tryz.func52, Tryz.ntmps52
  go_wp2_with fail
  refine (tgone_any t c a root _ HT.out).mono ?_
  rintro e w1 ⟨rfl, rfl⟩
  go_upto_region 4 with (fail)
  rw [← HW0.out]
  go_wp2_with fail
  refine HV.out.mono ?_
  rintro e w1 ⟨rfl, X1, hv1, hm1, ho1⟩
  obtain ⟨A, cap, d1, hO1, hB1⟩ := Pick.end rfl HB.out (fun b hb => hb) hv1 hm1
  rw [List.nil_append] at d1 hO1
  have HO1 := Lib.hid hO1
  obtain ⟨n, hn⟩ : ∃ n, n = ((T.evs 4 0).flatMap Ev.ns).length := ⟨_, rfl⟩
  rw [← hn] at d1
  have HN := Lib.hid hn
  clear hv1 hm1 ho1 hO1 hn
  go_wp2_with fail
  go_ret
  exact ⟨A, cap, (by rw [← HN.out]; rfl), HO1.out, hB1⟩

set_option maxHeartbeats 1000000 in
theorem tall_any (t c a root : Nat) (w : World) (S : Nat → Prop) (p : Pool) (T : Tab) (rest : Nat → Nat) (pg0 : Nat) (h : PoolAt w S a p) (ht : TabSelf w t c a root) (hg : T.Good p rest pg0 4) (hr : T.nd 4 0 = some root) :
    Calls Tryz.prog 49 #[.pointer (some ⟨t, 0, none⟩)] w (RowPost OwnP w ((T.evs 4 0).flatMap Ev.ls)) := by
  have htw : t < w.heap.size := (Array.getElem?_eq_some_iff.1 ht).1
  have hpos := h.pos
  have hlow := h.low
  have hshort := hg.ok.short
  obtain ⟨w0, hw0⟩ : ∃ w0, w0 = w.alloc (.cells #[.slice none 0 0] 94) := ⟨_, rfl⟩
  have hb0 : Below w.heap.size w w0 := by rw [hw0]; exact (Below.refl _ _).alloc (Nat.le_refl _) _
  have hB0 : w0.heap[w.heap.size]? = some (.cells #[.slice none 0 0] 94 (0, 0)) := by rw [hw0]; exact heap_alloc_new _ _
  have hT0 : TabSelf w0 t c a root := (hb0.block t htw).trans ht
  have c2 : w0.cell? ⟨t, 2, none⟩ = some (.int .i64 (root : Int)) := one_block hT0 2
  have hp : PickOk S t w.heap.size w.heap.size := ⟨hlow, htw, hpos, Nat.le_refl _⟩
  have hvis := vis_any (bo := w.heap.size) (.inr (.inl ⟨rfl, rfl, rfl, rfl⟩)) t c a root root 0 (Pick OwnP 94 Ev.ls w.heap.size w.heap.size) w0 S p T rest pg0 (fun b => b = w.heap.size) [] (h.below hb0) hT0 hg hr (by decide) (Pick.start (World.ownsRow_nil _ _ _ 4) hB0 (fun b hb => by have := hlow b hb; omega) (by omega) (by omega)) (by simp; omega) (Pick.stays rowLikeP)
    (fun w l X f hv hl => all1_any _ _ _ _ S w l X f hv) (fun w l X pg y hv hl => all2_any _ _ _ S hp w l X pg y hv hl) 0 (by simp)
  have HT := Lib.hid ht
  have HV := Lib.hid hvis
  have HW0 := Lib.hid hw0
  have HB := Lib.hid hb0
  clear ht h hg hr hvis hw0 hb0 hT0 hB0 hp hlow
  go_enter Tryz.func49, Tryz.ntmps49
  go_wp2_with fail
  refine (tgone_any t c a root _ HT.out).mono ?_
  rintro e w1 ⟨rfl, rfl⟩
  go_upto_region 4 with (fail)
  rw [← HW0.out]
  go_wp2_with fail
  refine HV.out.mono ?_
  rintro e w1 ⟨rfl, X1, hv1, hm1, ho1⟩
  obtain ⟨A, cap, d1, hO1, hB1⟩ := Pick.end rfl HB.out (fun b hb => hb) hv1 hm1
  rw [List.nil_append] at d1 hO1
  have HO1 := Lib.hid hO1
  obtain ⟨n, hn⟩ : ∃ n, n = ((T.evs 4 0).flatMap Ev.ls).length := ⟨_, rfl⟩
  rw [← hn] at d1
  have HN := Lib.hid hn
  clear hv1 hm1 ho1 hO1 hn
  go_wp2_with fail
  go_ret
  exact ⟨A, cap, (by rw [← HN.out]; rfl), HO1.out, hB1⟩

/-- No table, or one that was freed. -/
def TabGone (w : World) : Option Addr → Prop
  | none => True
  | some ad => ∃ t, ad = ⟨t, 0, none⟩ ∧ w.cell? ⟨t, 1, none⟩ = some (.pointer none)
theorem gone_any (P : Option Addr) (w : World) (h : TabGone w P) : Calls Tryz.prog 73 #[.pointer P] w fun e w' => e = .returned (.bool true) ∧ w = w' := by
  cases P with
  | none => exact tgone_nil w
  | some ad =>
    obtain ⟨t, rfl, h1⟩ := h
    exact tgone_freed t w h1
theorem nodes_gone (P : Option Addr) (w : World) (h : TabGone w P) : Calls Tryz.prog 52 #[.pointer P] w fun e w' => e = .returned (.slice none 0 0) ∧ w = w' := by
  have H := Lib.hid h
  clear h
  go_enter Tryz.func52, Tryz.ntmps52
  go_wp2_with fail
  refine (gone_any P _ H.out).mono ?_
  rintro e w1 ⟨rfl, rfl⟩
  go_wp2_with fail
  go_ret
  exact ⟨rfl, rfl⟩
theorem all_gone (P : Option Addr) (w : World) (h : TabGone w P) : Calls Tryz.prog 49 #[.pointer P] w fun e w' => e = .returned (.slice none 0 0) ∧ w = w' := by
  have H := Lib.hid h
  clear h
  go_enter Tryz.func49, Tryz.ntmps49
  go_wp2_with fail
  refine (gone_any P _ H.out).mono ?_
  rintro e w1 ⟨rfl, rfl⟩
  go_wp2_with fail
  go_ret
  exact ⟨rfl, rfl⟩
theorem tfree_gone (P : Option Addr) (w : World) (h : TabGone w P) : Calls Tryz.prog 39 #[.pointer P] w fun e w' => e = .returned (.tuple #[]) ∧ w = w' := by
  have H := Lib.hid h
  clear h
  go_enter Tryz.func39, Tryz.ntmps39
  go_wp2_with fail
  refine (gone_any P _ H.out).mono ?_
  rintro e w1 ⟨rfl, rfl⟩
  go_wp2_with fail
  refine bodyPost_ret (results_none rfl _ _ _) rfl ?_
  exact ⟨rfl, rfl⟩

end Go.Proofs.YtkkmcnngpahfaaaGreatDoor

namespace Go.Proofs.YtkkmcnngpahfaaaGreatDoor
open Go.RowKit Go.Sort
set_option linter.unusedSimpArgs false
set_option linter.unusedVariables false

/-- Frames given up one behind the other. -/
def downs (p : Pool) (L : List Nat) : Pool := L.foldl Pool.down p
theorem downs_n (p : Pool) (L : List Nat) : (downs p L).n = p.n := by
  induction L generalizing p with
  | nil => rfl
  | cons f L ih => exact ih (p.down f)
theorem downs_dat (p : Pool) (L : List Nat) : (downs p L).dat = p.dat := by
  induction L generalizing p with
  | nil => rfl
  | cons f L ih => exact ih (p.down f)
theorem downs_cnt (p : Pool) (L : List Nat) (f : Nat) : (downs p L).cnt f = p.cnt f - L.count f := by
  induction L generalizing p with
  | nil => rfl
  | cons g L ih =>
    show (downs (p.down g) L).cnt f = _
    rw [ih, List.count_cons]
    show upd p.cnt g (p.cnt g - 1) f - _ = _
    by_cases c : f = g
    · subst c; rw [upd_same]; simp; omega
    · rw [upd_ne _ _ c]
      have : (g == f) = false := by simpa using fun e => c e.symm
      simp [this]
theorem downs_snoc (p : Pool) (L : List Nat) (f : Nat) : downs p (L ++ [f]) = (downs p L).down f := by
  unfold downs
  rw [List.foldl_append]
  rfl
theorem take_snoc {α : Type} {L : List α} {k : Nat} {x : α} (h : L[k]? = some x) : L.take (k + 1) = L.take k ++ [x] := by
  rw [List.take_add_one, h]
  rfl
theorem count_take_lt {L : List Nat} {k f : Nat} (h : L[k]? = some f) : (L.take k).count f + 1 ≤ L.count f := by
  have h1 : (L.take (k + 1)).count f ≤ L.count f := (List.take_sublist _ _).count_le f
  rw [take_snoc h, List.count_append] at h1
  simpa using h1

def FreePost (w : World) (S : Nat → Prop) (t a : Nat) (p : Pool) (L : List Nat) (e : Ending) (w' : World) : Prop :=
  e = .returned (.tuple #[]) ∧ PoolAt w' S a (downs p L) ∧ Mod (fun b => S b ∨ b = t) w w' ∧ w'.cell? ⟨t, 1, none⟩ = some (.pointer none)

set_option maxHeartbeats 1000000 in
theorem tfree_any (t c a root : Nat) (w : World) (S : Nat → Prop) (p : Pool) (T : Tab) (rest : Nat → Nat) (pg0 : Nat) (h : PoolAt w S a p) (ht : TabSelf w t c a root) (htS : ¬ S t) (ht0 : t ≠ 0) (hg : T.Good p rest pg0 4) (hr : T.nd 4 0 = some root) :
    Calls Tryz.prog 39 #[.pointer (some ⟨t, 0, none⟩)] w (FreePost w S t a p ((T.evs 4 0).flatMap Ev.fs)) := by
  have htw : t < w.heap.size := (Array.getElem?_eq_some_iff.1 ht).1
  have hpos := h.pos
  have hlow := h.low
  have hshort := hg.ok.short
  have hcnt : ∀ f, f < p.n → ((T.evs 4 0).flatMap Ev.fs).count f ≤ p.cnt f := fun f hf => by rw [hg.ok.frames_cnt, hg.cnt f hf]; omega
  have hin : ∀ f, f ∈ (T.evs 4 0).flatMap Ev.fs → f < p.n := by
    intro f hf
    have h1 := List.count_pos_iff.2 hf
    rw [hg.ok.frames_cnt] at h1
    by_cases c : isNode T f
    · obtain ⟨l, q, hl⟩ := c
      exact (hg.node hl).1
    · rw [nodeCnt_no c] at h1
      have h2 : 0 < leafCnt T f := by omega
      by_cases c9 : ∃ i, i < pagesN ∧ leafIs T f i = true
      · obtain ⟨i, _, hi⟩ := c9
        unfold leafIs at hi
        cases hl : T.lf i with
        | none => rw [hl] at hi; cases hi
        | some l =>
          rw [hl] at hi
          have e : l.frame = f := by simpa using hi
          rw [← e]
          exact (hg.but.leaf _ l hl).2.2
      · have : leafCnt T f = 0 := cntTo_zero.2 fun i hi => by
          by_cases c8 : leafIs T f i = true
          · exact absurd ⟨i, hi, c8⟩ c9
          · simpa using c8
        omega
  obtain ⟨w0, hw0⟩ : ∃ w0, w0 = w.alloc (.cells #[.slice none 0 0] 55) := ⟨_, rfl⟩
  have hb0 : Below w.heap.size w w0 := by rw [hw0]; exact (Below.refl _ _).alloc (Nat.le_refl _) _
  have hB0 : w0.heap[w.heap.size]? = some (.cells #[.slice none 0 0] 55 (0, 0)) := by rw [hw0]; exact heap_alloc_new _ _
  have hT0 : TabSelf w0 t c a root := (hb0.block t htw).trans ht
  have c2 : w0.cell? ⟨t, 2, none⟩ = some (.int .i64 (root : Int)) := one_block hT0 2
  have hp : PickOk S t w.heap.size w.heap.size := ⟨hlow, htw, hpos, Nat.le_refl _⟩
  have hvis := vis_any (bo := w.heap.size) (.inr (.inr ⟨rfl, rfl, rfl, rfl⟩)) t c a root root 0 (Pick OwnN 55 Ev.fs w.heap.size w.heap.size) w0 S p T rest pg0 (fun b => b = w.heap.size) [] (h.below hb0) hT0 hg hr (by decide) (Pick.start (OwnN.nil _ _) hB0 (fun b hb => by have := hlow b hb; omega) (by omega) (by omega)) (by simp; omega) (Pick.stays rowLikeN)
    (fun w l X f hv hl => free1_any _ _ _ S hp w l X f hv hl) (fun w l X pg y hv hl => free2_any _ _ _ S hp w l X pg y hv hl) 0 (by simp)
  rw [List.nil_append] at hvis
  have hlen := flatMap_few (F := Ev.fs) (fun e => by cases e <;> simp [Ev.fs]) (T.evs 4 0)
  obtain ⟨L, hL⟩ : ∃ L, L = (T.evs 4 0).flatMap Ev.fs := ⟨_, rfl⟩
  obtain ⟨n, hn⟩ : ∃ n, n = L.length := ⟨_, rfl⟩
  rw [← hL] at hcnt hin hlen ⊢
  have HT := Lib.hid ht
  have HV := Lib.hid hvis
  have HW0 := Lib.hid hw0
  have HB := Lib.hid hb0
  have HP := Lib.hid h
  have HL := Lib.hid hL
  have HN := Lib.hid hn
  have HCNT := Lib.hid hcnt
  have HIN := Lib.hid hin
  rw [← hn] at hlen
  clear ht h hg hr hvis hw0 hb0 hT0 hB0 hp hL hn hcnt hin
  go_enter Tryz.func39, Tryz.ntmps39
  go_wp2_with fail
  refine (tgone_any t c a root _ HT.out).mono ?_
  rintro e w1 ⟨rfl, rfl⟩
  go_upto_region 2 with (fail)
  rw [← HW0.out]
  go_wp2_with fail
  refine HV.out.mono ?_
  rintro e w1 ⟨rfl, X1, hv1, hm1, ho1⟩
  obtain ⟨A, cap, d1, hO1, hB1⟩ := Pick.end rfl HB.out (fun b hb => hb) hv1 hm1
  rw [← HL.out] at d1 hO1
  rw [← HN.out] at d1
  have HO1 := Lib.hid hO1
  have HB1 := Lib.hid hB1
  have hz1 := hB1.size
  clear hv1 hm1 ho1 hO1
  go_wp2_with fail
  go_loopw [17] (fun i wr => ∃ (k : Nat), i = .int .i64 (k : Int) ∧ k ≤ n ∧ PoolAt wr S a (downs p (L.take k)) ∧ Mod S w1 wr) (fun i _ => n - (intOf i).toNat)
  case atStart => exact ⟨0, rfl, by omega, HP.out.below HB1.out, Mod.refl _ _⟩
  case round =>
    obtain ⟨k, rfl, hk, hpk, hmk⟩ := hrel
    have HPK := Lib.hid hpk
    have HMK := Lib.hid hmk
    have hzk := hmk.size
    have hTk : TabSelf wr t c a root := (hmk.block t (by omega) htS).trans ((HB1.out.block t htw).trans HT.out)
    have d2 : wr.cell? ⟨t, 1, none⟩ = some (.pointer (some ⟨a, 0, none⟩)) := one_block hTk 1
    have d3 : wr.frozen? ⟨t, 1, none⟩ = false := one_free hTk 1
    have HTK := Lib.hid hTk
    clear hpk hmk hTk d1
    by_cases hlt : k < n
    · obtain ⟨f, hf⟩ : ∃ f, L[k]? = some f := ⟨L[k]'(by rw [← HN.out]; exact hlt), List.getElem?_eq_getElem _⟩
      have hfm : f ∈ L := List.mem_of_getElem? hf
      have hfn := HIN.out f hfm
      have hc1 := HCNT.out f hfn
      have hc2 := count_take_lt hf
      have hc3 := downs_cnt p (L.take k) f
      have hc4 : 1 ≤ (downs p (L.take k)).cnt f := by omega
      have hn4 : f < (downs p (L.take k)).n := by rw [downs_n]; exact hfn
      rcases OwnN.form HO1.out with ⟨_, e, _⟩ | ⟨g, e, hbg, hgw, _⟩
      · rw [e] at hf; cases hf
      have hgS : ¬ S g := fun e' => by have := hlow g e'; omega
      have hOk : OwnN wr w.heap.size A cap L := HO1.out.same fun g' e' => by
        rw [e] at e'
        injection e' with e'
        injection e' with e'
        subst e'
        exact HMK.out.block g hgw hgS
      rw [e] at hOk
      have d4 := hOk.elem hf
      subst e
      have HF := Lib.hid hf
      have HC4 := Lib.hid hc4
      have HN4 := Lib.hid hn4
      clear hf hfm hfn hc1 hc2 hc3 hc4 hn4 hOk
      go_wp2_with fail
      refine (down_yes a f _ S _ HPK.out HN4.out HC4.out).mono ?_
      rintro e w2 ⟨rfl, hp2, hm2⟩
      have HP2 := Lib.hid hp2
      have HM2 := Lib.hid hm2
      clear hp2 hm2
      go_wp2_with fail
      go_roundw
      case rel => exact ⟨k + 1, by go_num, by omega, by rw [take_snoc HF.out, downs_snoc]; exact HP2.out, HMK.out.trans (Out.refl _ _) HM2.out⟩
      case measure => (simp [intOf]; omega)
    · obtain rfl : k = n := by omega
      go_wp2_with fail
      go_end0
      have hall : L.take k = L := List.take_of_length_le (by rw [← HN.out]; exact Nat.le_refl _)
      have hpk := HPK.out
      rw [hall] at hpk
      refine ⟨rfl, hpk.mod (mod_set (S := fun b => b = t) rfl 1 _) (fun b hb e => htS (e ▸ hb)) (fun e => ht0 e.symm), ?_, ?_⟩
      · exact ((Mod.of HB1.out).trans (Out.refl _ _) (HMK.out.sub fun b hb => .inl hb)).trans (Out.refl _ _) (mod_set (S := fun b => S b ∨ b = t) (.inr rfl) 1 _)
      · exact one_block (Joins.block_setCell (i := 1) HTK.out (.pointer none)) 1

end Go.Proofs.YtkkmcnngpahfaaaGreatDoor
