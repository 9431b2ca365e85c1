/- The document's files: what an entry by itself may not be; New. -/
import Derived.Test.YtkkmcnngpahfaaaGreatDoorHrC
namespace Go.Proofs.YtkkmcnngpahfaaaGreatDoor
open Go.RowKit Go.Sort
set_option linter.unusedSimpArgs false
set_option linter.unusedVariables false

theorem dots_yes {L : List ByteArray} {q : Nat} (h : L[q]? = some ⟨#[46, 46]⟩) : dots L = true := by
  unfold dots
  exact List.any_eq_true.2 ⟨_, List.mem_of_getElem? h, rfl⟩
theorem dots_no {L : List ByteArray} (h : ∀ j y, j < L.length → L[j]? = some y → y ≠ ⟨#[46, 46]⟩) : dots L = false := by
  unfold dots
  rw [List.any_eq_false]
  intro x hx
  obtain ⟨j, hj, e⟩ := List.mem_iff_getElem.1 hx
  have h1 := h j x hj (by rw [List.getElem?_eq_getElem hj, e])
  intro e2
  apply h1
  cases x with
  | mk d => exact congrArg ByteArray.mk (eq_of_beq e2)
theorem str_neq_dots {y : ByteArray} (h : y ≠ ⟨#[46, 46]⟩) : (y.toList == [46, 46]) = false := by
  have h1 := str_neq h
  rw [ByteArray.toList_eq (ByteArray.mk #[46, 46])] at h1
  exact h1
/-- No part up to a place is "..". -/
def NoDot (L : List ByteArray) (q : Nat) : Prop := ∀ j y, j < q → L[j]? = some y → y ≠ ⟨#[46, 46]⟩
theorem dots_clash {L : List ByteArray} {q : Nat} (h : dots L = false) (hq : L[q]? = some ⟨#[46, 46]⟩) : False := by
  rw [dots_yes hq] at h
  cases h
theorem mode_test {m : Nat} (h : m < 65536) : (bits .and .u16 (m : Int) 2559 != (m : Int)) = modeBad m := by
  rw [show ((2559 : Int)) = ((2559 : Nat) : Int) from rfl, u16_and_nat m 2559 h (by omega)]
  cases hc : modeBad m with
  | false =>
    have := (mode_doc h).2 hc
    rw [this]
    simp
  | true =>
    rw [bne_iff_ne]
    intro e
    have e2 : m &&& 2559 = m := by omega
    rw [(mode_doc h).1 e2] at hc
    cases hc

set_option maxRecDepth 100000 in
set_option maxHeartbeats 8000000 in
theorem rmay_any (x : Ent) (A : Option Addr) (c : Nat) (w : World) (hp : x.path.size ≤ 1000000000) (ht : x.to.size ≤ 1000000000) (hn : x.n ≤ 9223372036854775807) (hm : x.mode < 65536) :
    Calls Tryz.prog 85 #[x.val A c] w fun e w' => e = .returned (.int .i64 (may x)) ∧ Below w.heap.size w w' := by
  obtain ⟨path, kind, mode, uid, gid, n, dat, lk⟩ := x
  simp only at hp ht hn hm
  obtain ⟨K, hKK⟩ : ∃ K : Int, K = (kind : Int) := ⟨_, rfl⟩
  have hK0 : 0 ≤ K := by omega
  obtain ⟨w0, hw0⟩ : ∃ w0, w0 = w.alloc (.cells #[.string path, .int .u8 K, .int .u16 (mode : Int), .int .u32 (uid : Int), .int .u32 (gid : Int), .slice A n c, .string lk] 106) := ⟨_, rfl⟩
  have hb0 : Below w.heap.size w w0 := by rw [hw0]; exact (Below.refl _ _).alloc (Nat.le_refl _) _
  have hE : w0.heap[w.heap.size]? = some (.cells #[.string path, .int .u8 K, .int .u16 (mode : Int), .int .u32 (uid : Int), .int .u32 (gid : Int), .slice A n c, .string lk] 106 (0, 0)) := by rw [hw0]; exact heap_alloc_new w _
  have hlt0 : w.heap.size < w0.heap.size := (Array.getElem?_eq_some_iff.1 hE).1
  have d0 : w0.cell? ⟨w.heap.size, 0, none⟩ = some (.string path) := one_block hE 0
  have d1 : w0.cell? ⟨w.heap.size, 1, none⟩ = some (.int .u8 K) := one_block hE 1
  have d2 : w0.cell? ⟨w.heap.size, 2, none⟩ = some (.int .u16 (mode : Int)) := one_block hE 2
  have HE := Lib.hid hE
  have HW0 := Lib.hid hw0
  clear hE hw0
  unfold Ent.val
  simp only
  rw [← hKK]
  obtain ⟨mb, hmb⟩ : ∃ mb, mb = modeBad mode := ⟨_, rfl⟩
  have hmt := mode_test hm
  rw [← hmb] at hmt
  obtain ⟨ct, hct⟩ : ∃ ct, ct = chk lk := ⟨_, rfl⟩
  have hch := fun W => rchk_any lk W ht
  rw [← hct] at hch
  have HCT := Lib.hid hch
  by_cases hc : chk path = 0
  rotate_left
  · obtain ⟨mr, hmr⟩ : ∃ mr, mr = may ⟨path, kind, mode, uid, gid, n, dat, lk⟩ := ⟨_, rfl⟩
    have hmay : mr = 1 := by
      rw [hmr]
      unfold may
      simp only
      split
      · rfl
      · rw [if_pos (.inl hc)]
    rw [← hmr, hmay]
    have HPE := Lib.hid (fun W => rparts_err path W hp hc)
    have hne : (chk path != 0) = true := by rw [bne_iff_ne]; exact hc
    obtain ⟨r, hr⟩ : ∃ r, r = chk path := ⟨_, rfl⟩
    rw [← hr] at hne HPE
    clear hmr hmay hc hr hKK hct hch hmb
    by_cases hk : K = 1 ∨ K = 2 ∨ K = 3
    · rcases (by cases mb <;> simp : mb = true ∨ mb = false) with rfl | rfl
      all_goals
        rcases hk with rfl | rfl | rfl
        all_goals
          go_enter Tryz.func85, Tryz.ntmps85
          go_upto_region 1 with (fail)
          rw [← HW0.out]
          go_wp2_with (first
            | (go_at_call 86; refine (HPE.out _).mono ?_; rintro e w1 ⟨rfl, hb1⟩; have HB1 := Lib.hid (hb0.trans (hb1.mono hb0.size)); clear hb1)
            | fail)
          go_ret
          first
            | exact ⟨rfl, hb0⟩
            | exact ⟨rfl, HB1.out⟩
    · have k1 : (K != 1) = true := by rw [bne_iff_ne]; omega
      have k2 : (K != 2) = true := by rw [bne_iff_ne]; omega
      have k3 : (K != 3) = true := by rw [bne_iff_ne]; omega
      clear hk
      go_enter Tryz.func85, Tryz.ntmps85
      go_upto_region 1 with (fail)
      rw [← HW0.out]
      go_wp2_with fail
      go_ret
      exact ⟨rfl, hb0⟩
  have hps := chk_zero hc
  have hpt : path.size ≤ 200 := hps.2.1
  obtain ⟨L, hL⟩ : ∃ L, L = partsOf path := ⟨_, rfl⟩
  obtain ⟨k, hk⟩ : ∃ k, k = L.length := ⟨_, rfl⟩
  have hkf : k ≤ 201 := by rw [hk, hL]; have := partsOf_length path; omega
  obtain ⟨pb, hpb⟩ : ∃ pb, pb = Lib.hasPrefix path.data.toList [47] := ⟨_, rfl⟩
  obtain ⟨tb, htb⟩ : ∃ tb, tb = Lib.hasSuffix path.data.toList [47] := ⟨_, rfl⟩
  obtain ⟨db, hdb⟩ : ∃ db, db = dots L := ⟨_, rfl⟩
  have hpo := fun W => rparts_ok path W hc
  unfold PartsOkPost at hpo
  rw [← hL, ← hpb, ← hk] at hpo
  have hta := fun W => rtail_any path W (by omega)
  rw [← htb] at hta
  obtain ⟨mr, hmr⟩ : ∃ mr, mr = may ⟨path, kind, mode, uid, gid, n, dat, lk⟩ := ⟨_, rfl⟩
  rw [← hmr]
  have hmay : mr = if K < 1 ∨ 3 < K ∨ mb = true then 1 else if pb = false ∨ k = 0 ∨ tb = true ∨ db = true then 1
      else if (K ≠ 1 ∧ 0 < n) ∨ (K ≠ 3 ∧ lk.size ≠ 0) then 1 else if K = 3 ∧ ct ≠ 0 then 1 else if 65536 < n then 12 else 0 := by
    have i1 : (K < 1) = (kind < 1) := by apply propext; omega
    have i2 : (3 < K) = (3 < kind) := by apply propext; omega
    have i3 : (K = 1) = (kind = 1) := by apply propext; omega
    have i4 : (K = 3) = (kind = 3) := by apply propext; omega
    rw [hmr, hpb, hk, htb, hdb, hct, hL, hmb]
    simp only [i1, i2, i3, i4, ne_eq]
    unfold may
    simp only [hc, ne_eq, not_true_eq_false, false_or, List.length_eq_zero_iff]
  have HPO := Lib.hid hpo
  have HTA := Lib.hid hta
  have HK := Lib.hid hk
  have HDB := Lib.hid hdb
  clear hpo hta hch hdb hpb htb hct hmr hk hL hc hps hKK hmb
  by_cases hkk : K = 1 ∨ K = 2 ∨ K = 3
  rotate_left
  · have k1 : (K != 1) = true := by rw [bne_iff_ne]; omega
    have k2 : (K != 2) = true := by rw [bne_iff_ne]; omega
    have k3 : (K != 3) = true := by rw [bne_iff_ne]; omega
    have hkb : K < 1 ∨ 3 < K ∨ mb = true := by omega
    clear hkk
    (
     have hv9 : mr = 1 := (by rw [hmay, if_pos hkb])
     rw [hv9]
     clear hmay hv9
     go_enter Tryz.func85, Tryz.ntmps85
     go_upto_region 1 with (fail)
     rw [← HW0.out]
     go_wp2_with fail
     go_ret
     exact ⟨rfl, hb0⟩)
  rcases (by cases mb <;> simp : mb = true ∨ mb = false) with rfl | rfl
  · rcases hkk with rfl | rfl | rfl
    all_goals (
     have hv9 : mr = 1 := (by rw [hmay, if_pos (.inr (.inr rfl))])
     rw [hv9]
     clear hmay hv9
     go_enter Tryz.func85, Tryz.ntmps85
     go_upto_region 1 with (fail)
     rw [← HW0.out]
     go_wp2_with fail
     go_ret
     exact ⟨rfl, hb0⟩)
  have n1 : ¬ (K < 1 ∨ 3 < K ∨ false = true) := by simp; omega
  rw [if_neg n1] at hmay
  clear n1
  rcases (by cases pb <;> simp : pb = false ∨ pb = true) with rfl | rfl
  · rcases hkk with rfl | rfl | rfl
    all_goals (
     have hv9 : mr = 1 := (by rw [hmay, if_pos (.inl rfl)])
     rw [hv9]
     clear hmay hv9
     go_enter Tryz.func85, Tryz.ntmps85
     go_upto_region 1 with (fail)
     rw [← HW0.out]
     go_wp2_with (first
      | (go_at_call 86; refine (HPO.out _).mono ?_; rintro e w1 ⟨A1, cap1, rfl, hO1, hb1⟩; have hE1 := (hb1.block _ hlt0).trans HE.out; have f0 : w1.cell? ⟨w.heap.size, 0, none⟩ = some (.string path) := one_block hE1 0; have f1 := one_block hE1 1; have f5 : w1.cell? ⟨w.heap.size, 5, none⟩ = some (.slice A _ c) := one_block hE1 5; have hl1 : w.heap.size < w1.heap.size := (Array.getElem?_eq_some_iff.1 hE1).1; have f6 : w1.cell? ⟨w.heap.size, 6, none⟩ = some (.string lk) := one_block hE1 6; have HO1 := Lib.hid hO1; have HB1 := Lib.hid (hb0.trans (hb1.mono hb0.size)); have hz1 := HB1.out.size; clear hO1 hb1 hE1)
      | (go_at_call 125; refine (HTA.out _).mono ?_; rintro e w2 ⟨rfl, rfl⟩)
      | fail)
     go_ret
     exact ⟨rfl, HB1.out⟩)
  by_cases c5 : k = 0
  · subst c5
    rcases hkk with rfl | rfl | rfl
    all_goals (
     have hv9 : mr = 1 := (by rw [hmay, if_pos (.inr (.inl rfl))])
     rw [hv9]
     clear hmay hv9
     go_enter Tryz.func85, Tryz.ntmps85
     go_upto_region 1 with (fail)
     rw [← HW0.out]
     go_wp2_with (first
      | (go_at_call 86; refine (HPO.out _).mono ?_; rintro e w1 ⟨A1, cap1, rfl, hO1, hb1⟩; have hE1 := (hb1.block _ hlt0).trans HE.out; have f0 : w1.cell? ⟨w.heap.size, 0, none⟩ = some (.string path) := one_block hE1 0; have f1 := one_block hE1 1; have f5 : w1.cell? ⟨w.heap.size, 5, none⟩ = some (.slice A _ c) := one_block hE1 5; have hl1 : w.heap.size < w1.heap.size := (Array.getElem?_eq_some_iff.1 hE1).1; have f6 : w1.cell? ⟨w.heap.size, 6, none⟩ = some (.string lk) := one_block hE1 6; have HO1 := Lib.hid hO1; have HB1 := Lib.hid (hb0.trans (hb1.mono hb0.size)); have hz1 := HB1.out.size; clear hO1 hb1 hE1)
      | (go_at_call 125; refine (HTA.out _).mono ?_; rintro e w2 ⟨rfl, rfl⟩)
      | fail)
     go_ret
     exact ⟨rfl, HB1.out⟩)
  have hk0 : ¬ (k : Int) = 0 := by omega
  rcases (by cases tb <;> simp : tb = true ∨ tb = false) with rfl | rfl
  · rcases hkk with rfl | rfl | rfl
    all_goals (
     have hv9 : mr = 1 := (by rw [hmay, if_pos (.inr (.inr (.inl rfl)))])
     rw [hv9]
     clear hmay hv9
     go_enter Tryz.func85, Tryz.ntmps85
     go_upto_region 1 with (fail)
     rw [← HW0.out]
     go_wp2_with (first
      | (go_at_call 86; refine (HPO.out _).mono ?_; rintro e w1 ⟨A1, cap1, rfl, hO1, hb1⟩; have hE1 := (hb1.block _ hlt0).trans HE.out; have f0 : w1.cell? ⟨w.heap.size, 0, none⟩ = some (.string path) := one_block hE1 0; have f1 := one_block hE1 1; have f5 : w1.cell? ⟨w.heap.size, 5, none⟩ = some (.slice A _ c) := one_block hE1 5; have hl1 : w.heap.size < w1.heap.size := (Array.getElem?_eq_some_iff.1 hE1).1; have f6 : w1.cell? ⟨w.heap.size, 6, none⟩ = some (.string lk) := one_block hE1 6; have HO1 := Lib.hid hO1; have HB1 := Lib.hid (hb0.trans (hb1.mono hb0.size)); have hz1 := HB1.out.size; clear hO1 hb1 hE1)
      | (go_at_call 125; refine (HTA.out _).mono ?_; rintro e w2 ⟨rfl, rfl⟩)
      | fail)
     go_ret
     exact ⟨rfl, HB1.out⟩)
  rcases (by cases db <;> simp : db = true ∨ db = false) with rfl | rfl
  · have hv9 : mr = 1 := by rw [hmay, if_pos (.inr (.inr (.inr rfl)))]
    rw [hv9]
    clear hmay hv9
    rcases hkk with rfl | rfl | rfl
    all_goals
      (
     go_enter Tryz.func85, Tryz.ntmps85
     go_upto_region 1 with (fail)
     rw [← HW0.out]
     go_upto_region 6 with (first
      | (go_at_call 86; refine (HPO.out _).mono ?_; rintro e w1 ⟨A1, cap1, rfl, hO1, hb1⟩; have hE1 := (hb1.block _ hlt0).trans HE.out; have f0 : w1.cell? ⟨w.heap.size, 0, none⟩ = some (.string path) := one_block hE1 0; have f1 := one_block hE1 1; have f5 : w1.cell? ⟨w.heap.size, 5, none⟩ = some (.slice A _ c) := one_block hE1 5; have hl1 : w.heap.size < w1.heap.size := (Array.getElem?_eq_some_iff.1 hE1).1; have f6 : w1.cell? ⟨w.heap.size, 6, none⟩ = some (.string lk) := one_block hE1 6; have HO1 := Lib.hid hO1; have HB1 := Lib.hid (hb0.trans (hb1.mono hb0.size)); have hz1 := HB1.out.size; clear hO1 hb1 hE1)
      | (go_at_call 125; refine (HTA.out _).mono ?_; rintro e w2 ⟨rfl, rfl⟩)
      | fail)
     go_wp2_with fail
     go_loopw [6] (fun i wr => ∃ q : Nat, i = .int .i64 (q : Int) ∧ q ≤ k ∧ NoDot L q ∧ w1 = wr) (fun i _ => k - (intOf i).toNat)
     case atStart => exact ⟨0, rfl, Nat.zero_le _, (fun j y hj => by omega), rfl⟩
     case round =>
       obtain ⟨q, rfl, hq, hno, rfl⟩ := hrel
       have HNO := Lib.hid hno
       clear hno
       by_cases hlt : q < k
       · obtain ⟨y, hy⟩ : ∃ y, L[q]? = some y := ⟨_, List.getElem?_eq_getElem (by rw [← HK.out]; exact hlt)⟩
         rcases HO1.out.form with ⟨_, h2, _⟩ | ⟨g, hg1, _, hg2, hg3⟩
         · rw [h2] at hy; simp at hy
         subst hg1
         have hcell := HO1.out.elem hy
         have hqc : q < cap1 := by have := HK.out; omega
         by_cases e : y = ⟨#[46, 46]⟩
         · have HYY := Lib.hid (show L[q]? = some ⟨#[46, 46]⟩ from e ▸ hy)
           subst e
           clear hy
           (go_wp2_with fail; go_ret; exact ⟨rfl, HB1.out⟩)
         · have b1 : (y.toList == [46, 46]) = false := str_neq_dots e
           have HN2 := Lib.hid (show NoDot L (q + 1) from fun j z hj hz => by
             by_cases ej : j = q
             · subst ej
               rw [hy] at hz
               injection hz with hz
               exact hz ▸ e
             · exact HNO.out j z (by omega) hz)
           clear e hy
           go_wp2_with fail
           go_roundw
           case rel => exact ⟨q + 1, by go_num, by omega, HN2.out, trivial⟩
           case measure => (simp [intOf]; omega)
       · obtain rfl : q = k := by omega
         exact absurd (dots_no (fun j y hj hy => HNO.out j y (by rw [HK.out]; exact hj) hy)) (by rw [← HDB.out]; decide))
  have n2 : ¬ (true = false ∨ k = 0 ∨ false = true ∨ false = true) := by simp; omega
  rw [if_neg n2] at hmay
  clear n2
  have hall := may_end hkk hmay
  clear hmay hkk
  rcases hall with ⟨rfl, t0, hv⟩ | ⟨rfl, t0, hn9, hv⟩ | ⟨rfl, t0, hn9, hv⟩ | ⟨hk23, hn9, hv⟩ | ⟨rfl, rfl, t0, hv⟩ | ⟨rfl, rfl, t0, hv⟩ | ⟨rfl, rfl, t0, hv⟩ | ⟨rfl, rfl, rfl, hv⟩
  rotate_left 3
  rcases hk23 with rfl | rfl
  all_goals
    rw [hv]
    clear hv
    first
      | replace t0 := to_some t0
      | replace t0 := to_empty t0
      | (have hct9 : (ct != 0) = true := by rw [bne_iff_ne]; exact t0)
      | skip
    (
     go_enter Tryz.func85, Tryz.ntmps85
     go_upto_region 1 with (fail)
     rw [← HW0.out]
     go_upto_region 6 with (first
      | (go_at_call 86; refine (HPO.out _).mono ?_; rintro e w1 ⟨A1, cap1, rfl, hO1, hb1⟩; have hE1 := (hb1.block _ hlt0).trans HE.out; have f0 : w1.cell? ⟨w.heap.size, 0, none⟩ = some (.string path) := one_block hE1 0; have f1 := one_block hE1 1; have f5 : w1.cell? ⟨w.heap.size, 5, none⟩ = some (.slice A _ c) := one_block hE1 5; have hl1 : w.heap.size < w1.heap.size := (Array.getElem?_eq_some_iff.1 hE1).1; have f6 : w1.cell? ⟨w.heap.size, 6, none⟩ = some (.string lk) := one_block hE1 6; have HO1 := Lib.hid hO1; have HB1 := Lib.hid (hb0.trans (hb1.mono hb0.size)); have hz1 := HB1.out.size; clear hO1 hb1 hE1)
      | (go_at_call 125; refine (HTA.out _).mono ?_; rintro e w2 ⟨rfl, rfl⟩)
      | fail)
     go_wp2_with fail
     go_loopw [6] (fun i wr => ∃ q : Nat, i = .int .i64 (q : Int) ∧ q ≤ k ∧ NoDot L q ∧ w1 = wr) (fun i _ => k - (intOf i).toNat)
     case atStart => exact ⟨0, rfl, Nat.zero_le _, (fun j y hj => by omega), rfl⟩
     case round =>
       obtain ⟨q, rfl, hq, hno, rfl⟩ := hrel
       have HNO := Lib.hid hno
       clear hno
       by_cases hlt : q < k
       · obtain ⟨y, hy⟩ : ∃ y, L[q]? = some y := ⟨_, List.getElem?_eq_getElem (by rw [← HK.out]; exact hlt)⟩
         rcases HO1.out.form with ⟨_, h2, _⟩ | ⟨g, hg1, _, hg2, hg3⟩
         · rw [h2] at hy; simp at hy
         subst hg1
         have hcell := HO1.out.elem hy
         have hqc : q < cap1 := by have := HK.out; omega
         by_cases e : y = ⟨#[46, 46]⟩
         · have HYY := Lib.hid (show L[q]? = some ⟨#[46, 46]⟩ from e ▸ hy)
           subst e
           clear hy
           exact (dots_clash HDB.out.symm HYY.out).elim
         · have b1 : (y.toList == [46, 46]) = false := str_neq_dots e
           have HN2 := Lib.hid (show NoDot L (q + 1) from fun j z hj hz => by
             by_cases ej : j = q
             · subst ej
               rw [hy] at hz
               injection hz with hz
               exact hz ▸ e
             · exact HNO.out j z (by omega) hz)
           clear e hy
           go_wp2_with fail
           go_roundw
           case rel => exact ⟨q + 1, by go_num, by omega, HN2.out, trivial⟩
           case measure => (simp [intOf]; omega)
       · obtain rfl : q = k := by omega
         (first
         | (go_wp2_with (first | (go_at_call 126; refine (HCT.out _).mono ?_; rintro e w4 ⟨rfl, hb4⟩; have g5 := (hb4.cell (p := ⟨w.heap.size, 5, none⟩) hl1).trans f5) | fail); go_ret; exact ⟨rfl, HB1.out.trans (hb4.mono hz1)⟩)
         | (go_wp2_with fail; go_ret; exact ⟨rfl, HB1.out⟩)))

end Go.Proofs.YtkkmcnngpahfaaaGreatDoor
