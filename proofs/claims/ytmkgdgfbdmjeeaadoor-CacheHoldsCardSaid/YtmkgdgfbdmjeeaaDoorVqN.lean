/- The cache's laws: made: a cache behind what is done. -/
import Derived.Test.YtmkgdgfbdmjeeaaDoorVqL
import Derived.Test.YtmkgdgfbdmjeeaaDoorVqM
import Derived.Test.YtmkgdgfbdmjeeaaDoorVqC
import Derived.Test.YtmkgdgfbdmjeeaaDoorNwA
namespace Go.Proofs.YtmkgdgfbdmjeeaaDoor
open Go.RowKit Go.Sort
set_option linter.unusedSimpArgs false
set_option linter.unusedVariables false

theorem newM_len : ∀ {l : List Ent} {F : List Nd} {i : Nat}, (newM F i l).2.2.length ≤ F.length + l.length
  | [], F, i => Nat.le_refl _
  | e :: l, F, i => by
    unfold newM
    split
    · show F.length ≤ F.length + (l.length + 1)
      omega
    · have h1 := @newM_len l (addM F e).2 (i + 1)
      have h2 : (addM F e).2.length ≤ F.length + 1 := by
        unfold addM
        repeat' split
        all_goals (simp)
      show _ ≤ F.length + (l.length + 1)
      omega
/-- What the files are that New makes. -/
def filesOf (l : List Ent) : List Nd := (newM [rootNd] 0 l).2.2
theorem filesOf_bytes {l : List Ent} (h : ∀ x ∈ l, ∀ i, x.dat i < 256) : BytesF (filesOf l) := newM_bytes root_bytes h
theorem filesOf_len {l : List Ent} (h : l.length ≤ 64) : (filesOf l).length ≤ 1000 := by
  have := @newM_len l [rootNd] 0
  unfold filesOf
  simp at this
  omega
theorem vnew_bad (P : Option Addr) (cap : Nat) (l : List Ent) (w : World) (hl : EntsAt w P l) (hcap : l.length ≤ cap) (h64 : l.length ≤ 64) (hr : (newM [rootNd] 0 l).1 ≠ 0) :
    Calls Tryd.prog 38 #[.slice P l.length cap] w fun e w' => ∃ r q, e = .returned (.tuple #[.pointer none, .int .i64 r, .int .i64 q]) ∧ (r != 0) = true ∧ Below w.heap.size w w' := by
  refine (vnew_any P l.length cap l w hl rfl hcap (by omega)).mono fun e w' h => ?_
  unfold VNewPostG at h
  rw [if_neg (by omega), if_pos hr] at h
  exact ⟨_, _, h.1, by rw [bne_iff_ne]; exact hr, h.2⟩
theorem vnew_good (P : Option Addr) (cap : Nat) (l : List Ent) (w : World) (hl : EntsAt w P l) (hcap : l.length ≤ cap) (h64 : l.length ≤ 64) (hr : (newM [rootNd] 0 l).1 = 0) :
    Calls Tryd.prog 38 #[.slice P l.length cap] w fun e w' => ∃ fs, e = .returned (.tuple #[.pointer (some ⟨fs, 0, none⟩), .int .i64 0, .int .i64 0]) ∧ (∃ nb c2 ad mp, FsIs w' w.heap.size fs nb c2 ad mp (filesOf l)) ∧ Below w.heap.size w w' := by
  refine (vnew_any P l.length cap l w hl rfl hcap (by omega)).mono fun e w' h => ?_
  unfold VNewPostG at h
  rw [if_neg (by omega), if_neg (by omega)] at h
  obtain ⟨fs, nb, c2, ad, mp, h1, h2, h3⟩ := h
  exact ⟨fs, h1, ⟨nb, c2, ad, mp, h2⟩, h3⟩
theorem fnew8_bad (n : Int) (w : World) (h : n < 1) : Calls Tryd.prog 37 #[.int .i64 n] w fun e w' => e = .returned (.tuple #[.pointer none, .int .i64 1]) ∧ w = w' := by
  go_enter Tryd.func37, Tryd.ntmps37
  go_wp2_with fail
  go_ret2
  exact ⟨rfl, rfl⟩
/-- New of any number of frames, good or not. -/
theorem fnew_duo (N : Int) (w : World) (hN : N ≤ 64) (hdb : DB w) (hw0 : 0 < w.heap.size) :
    Calls Tryd.prog 37 #[.int .i64 N] w fun e w' => ∃ v h, e = .returned (.tuple #[.pointer v, .int .i64 h]) ∧ Below w.heap.size w w' := by
  by_cases h : N < 1
  · exact (fnew8_bad N w h).mono fun e w' ⟨h1, h2⟩ => ⟨_, _, h1, h2 ▸ Below.refl _ _⟩
  · obtain ⟨n, rfl⟩ : ∃ n : Nat, N = (n : Int) := ⟨N.toNat, by omega⟩
    exact (fnew_any n w (by omega) (by omega) hdb hw0).mono fun e w' ⟨a, S, h1, h2, h3, _⟩ => ⟨_, _, h1, h3⟩

/-- What made's arguments are: entries that are not too many, not too great. -/
structure In8 (w : World) (P : Option Addr) (n : Nat) (l : List Ent) : Prop where
  ents : EntsIn w P l
  len : n = l.length
  few : n ≤ 64
  small : ∀ x ∈ l, x.n ≤ 524288 ∧ x.path.size ≤ 524288 ∧ x.to.size ≤ 524288
theorem EntsIn.bytes {w : World} {P : Option Addr} {l : List Ent} (h : EntsIn w P l) : ∀ x ∈ l, ∀ i, x.dat i < 256 := fun x hx => by
  obtain ⟨j, hj, e⟩ := List.mem_iff_getElem.1 hx
  obtain ⟨b, off, A, c, h1, h2, h3, h4, h5⟩ := h j x (by rw [List.getElem?_eq_getElem hj, e])
  exact h5.dat

set_option maxRecDepth 100000 in
set_option maxHeartbeats 4000000 in
theorem made8_bad (P Q : Option Addr) (n cap k cap2 : Nat) (N : Int) (l : List Ent) (w : World) (hin : In8 w P n l) (hN : N ≤ 64) (hbad : (newM [rootNd] 0 l).1 ≠ 0 ∨ N < 1) (hdb : DB w) (hw0 : 0 < w.heap.size) :
    Calls Tryd.prog 45 #[.agg #[.slice P n cap, .int .i64 N], .slice Q k cap2] w fun e w' => e = .returned (.pointer none) ∧ Below w.heap.size w w' := by
  obtain ⟨w0, hw0'⟩ : ∃ w0, w0 = w.alloc (.cells #[.slice P n cap, .int .i64 N] 85) := ⟨_, rfl⟩
  have hb0 : Below w.heap.size w w0 := by rw [hw0']; exact (Below.refl _ _).alloc (Nat.le_refl _) _
  have hX0 : w0.heap[w.heap.size]? = some (.cells #[.slice P n cap, .int .i64 N] 85 (0, 0)) := by rw [hw0']; exact heap_alloc_new w _
  have htw := twins_any P n cap l w0 (hin.ents.below hb0) hin.len hin.few hin.small
  have hz0 := hb0.size
  have x0 : w0.cell? ⟨w.heap.size, 0, none⟩ = some (.slice P n cap) := one_block hX0 0
  have hl64 : l.length ≤ 64 := by rw [← hin.len]; exact hin.few
  have HTW := Lib.hid htw
  have HW0 := Lib.hid hw0'
  have HB0 := Lib.hid hb0
  have HX0 := Lib.hid hX0
  have HDB := Lib.hid hdb
  have HL64 := Lib.hid hl64
  clear htw hw0' hb0 hX0 hdb hin hl64
  by_cases hr : (newM [rootNd] 0 l).1 = 0
  · have hN1 : N < 1 := hbad.elim (fun e => absurd hr e) id
    have HR := Lib.hid hr
    clear hbad hr
    go_enter Tryd.func45, Tryd.ntmps45
    go_upto_region 1 with (fail)
    rw [← HW0.out]
    go_wp2_with (first
      | (go_at_call 84; refine (HTW.out).mono ?_; rintro e w1 ⟨R, cp, rfl, hE, hcp, hb1⟩; have HE := Lib.hid hE; have HCP := Lib.hid hcp; have HB1 := Lib.hid (HB0.out.trans (hb1.mono hz0)); have x1 : w1.cell? ⟨w.heap.size, 1, none⟩ = some (.int .i64 N) := (hb1.cell (p := ⟨w.heap.size, 1, none⟩) (Array.getElem?_eq_some_iff.1 HX0.out).1).trans (one_block HX0.out 1); have HX1 := Lib.hid ((hb1.block _ (Array.getElem?_eq_some_iff.1 HX0.out).1).trans HX0.out); clear hE hcp hb1)
      | (go_at_call 38; refine (vnew_good R cp l _ HE.out HCP.out HL64.out HR.out).mono ?_; rintro e w2 ⟨fs, rfl, hF, hb2⟩; have hz1 := HB1.out.size; have HB2 := Lib.hid (HB1.out.trans (hb2.mono hz1)); have x2 : w2.cell? ⟨w.heap.size, 1, none⟩ = some (.int .i64 N) := (hb2.cell (p := ⟨w.heap.size, 1, none⟩) (Array.getElem?_eq_some_iff.1 HX1.out).1).trans (one_block HX1.out 1); clear hF hb2)
      | (go_at_call 37; refine (fnew8_bad N _ hN1).mono ?_; rintro e w3 ⟨rfl, rfl⟩)
      | fail)
    go_ret
    exact ⟨rfl, HB2.out⟩
  · have HR := Lib.hid hr
    clear hbad hr
    go_enter Tryd.func45, Tryd.ntmps45
    go_upto_region 1 with (fail)
    rw [← HW0.out]
    go_wp2_with (first
      | (go_at_call 84; refine (HTW.out).mono ?_; rintro e w1 ⟨R, cp, rfl, hE, hcp, hb1⟩; have HE := Lib.hid hE; have HCP := Lib.hid hcp; have HB1 := Lib.hid (HB0.out.trans (hb1.mono hz0)); have x1 : w1.cell? ⟨w.heap.size, 1, none⟩ = some (.int .i64 N) := (hb1.cell (p := ⟨w.heap.size, 1, none⟩) (Array.getElem?_eq_some_iff.1 HX0.out).1).trans (one_block HX0.out 1); have HX1 := Lib.hid ((hb1.block _ (Array.getElem?_eq_some_iff.1 HX0.out).1).trans HX0.out); clear hE hcp hb1)
      | (go_at_call 38; refine (vnew_bad R cp l _ HE.out HCP.out HL64.out HR.out).mono ?_; rintro e w2 ⟨r, q, rfl, hrne, hb2⟩; have hz1 := HB1.out.size; have HB2 := Lib.hid (HB1.out.trans (hb2.mono hz1)); have x2 : w2.cell? ⟨w.heap.size, 1, none⟩ = some (.int .i64 N) := (hb2.cell (p := ⟨w.heap.size, 1, none⟩) (Array.getElem?_eq_some_iff.1 HX1.out).1).trans (one_block HX1.out 1); have hz2 := HB2.out.size; clear hb2)
      | (go_at_call 37; refine (fnew_duo N _ hN (HDB.out.same (HB2.out.block 0 hw0)) (by omega)).mono ?_; rintro e w3 ⟨v, h3, rfl, hb3⟩)
      | fail)
    go_ret
    exact ⟨rfl, HB2.out.trans (hb3.mono hz2)⟩

/-- What made answers where files and frames can be. -/
def Made8Post (w : World) (n k : Nat) (l : List Ent) (e : Ending) (w' : World) : Prop :=
  ∃ B o a c fs m S s Hl cl Hh ch, e = .returned (.pointer (some ⟨o, 0, none⟩)) ∧ Run8 w' B o a c fs m S (filesOf l) s Hl cl Hh ch ∧ s.Fine (filesOf l) (fun _ => 0) n k ∧ Below w.heap.size w w' ∧ w.heap.size ≤ B
theorem made_run8 {w2 w4 : World} {fs nb c2 a c m n : Nat} {ad mp : Nat → Nat} {S : Nat → Prop} {F : List Nd} {B1 : Nat} (hF : FsIs w2 B1 fs nb c2 ad mp F) (h24 : Below w2.heap.size w2 w4) (hC : CacheAt w4 S c a fs m 0 (fresh n) []) (hS : ∀ b, S b → w2.heap.size ≤ b) (hc : w2.heap.size ≤ c) (hm : w2.heap.size ≤ m) (h0 : 0 < w2.heap.size) :
    Run8 (w4.alloc (.cells #[.pointer (some ⟨a, 0, none⟩), .pointer (some ⟨fs, 0, none⟩), .pointer (some ⟨c, 0, none⟩), .slice none 0 0, .slice none 0 0] 91)) w2.heap.size w4.heap.size a c fs m S F ⟨fresh n, [], 0, [], []⟩ none 0 none 0 := by
  have h45 := (Below.refl w4.heap.size w4).alloc (Nat.le_refl _) (.cells #[.pointer (some ⟨a, 0, none⟩), .pointer (some ⟨fs, 0, none⟩), .pointer (some ⟨c, 0, none⟩), .slice none 0 0, .slice none 0 0] 91)
  have hl := hC.lts
  have hz := h24.size
  exact ⟨heap_alloc_new _ _, hC.below h45, ⟨w2, B1, nb, c2, ad, mp, rfl, hF, h24.trans (h45.mono hz)⟩, OwnN.nil _ _, OwnN.nil _ _, (fun b e => by cases e), (fun b e => by cases e), (fun b e => by cases e), hS, ⟨by omega, hc, hm, h0⟩, fun e => by have := hC.pool.low _ e; omega, by omega, by omega⟩

set_option maxRecDepth 100000 in
set_option maxHeartbeats 4000000 in
theorem made8_any (P Q : Option Addr) (n cap k cap2 nf : Nat) (l : List Ent) (ops : List Op8) (w : World) (hin : In8 w P n l) (h1 : 1 ≤ nf) (h2 : nf ≤ 64) (hr : (newM [rootNd] 0 l).1 = 0) (hl : OSl8 w w.heap.size Q k cap2 ops) (hk : k ≤ 200) (hdb : DB w) (hw0 : 0 < w.heap.size) :
    Calls Tryd.prog 45 #[.agg #[.slice P n cap, .int .i64 (nf : Int)], .slice Q k cap2] w (Made8Post w nf k l) := by
  obtain ⟨w0, hw0'⟩ : ∃ w0, w0 = w.alloc (.cells #[.slice P n cap, .int .i64 (nf : Int)] 85) := ⟨_, rfl⟩
  have hb0 : Below w.heap.size w w0 := by rw [hw0']; exact (Below.refl _ _).alloc (Nat.le_refl _) _
  have hX0 : w0.heap[w.heap.size]? = some (.cells #[.slice P n cap, .int .i64 (nf : Int)] 85 (0, 0)) := by rw [hw0']; exact heap_alloc_new w _
  have htw := twins_any P n cap l w0 (hin.ents.below hb0) hin.len hin.few hin.small
  have hz0 := hb0.size
  have x0 : w0.cell? ⟨w.heap.size, 0, none⟩ = some (.slice P n cap) := one_block hX0 0
  have hl64 : l.length ≤ 64 := by rw [← hin.len]; exact hin.few
  have hby := filesOf_bytes hin.ents.bytes
  have HTW := Lib.hid htw
  have HW0 := Lib.hid hw0'
  have HB0 := Lib.hid hb0
  have HX0 := Lib.hid hX0
  have HDB := Lib.hid hdb
  have HL64 := Lib.hid hl64
  have HBY := Lib.hid hby
  have HR := Lib.hid hr
  have HL := Lib.hid hl
  clear htw hw0' hb0 hX0 hdb hin hl64 hr hl hby
  go_enter Tryd.func45, Tryd.ntmps45
  go_upto_region 1 with (fail)
  rw [← HW0.out]
  go_wp2_with (first
    | (go_at_call 84; refine (HTW.out).mono ?_; rintro e w1 ⟨R, cp, rfl, hE, hcp, hb1⟩; have HE := Lib.hid hE; have HCP := Lib.hid hcp; have HB1 := Lib.hid (HB0.out.trans (hb1.mono hz0)); have HX1 := Lib.hid ((hb1.block _ (Array.getElem?_eq_some_iff.1 HX0.out).1).trans HX0.out); clear hE hcp hb1)
    | (go_at_call 38; refine (vnew_good R cp l _ HE.out HCP.out HL64.out HR.out).mono ?_; rintro e w2 ⟨fs, rfl, hF, hb2⟩; have hz1 := HB1.out.size; have HF := Lib.hid hF; have HB2 := Lib.hid (HB1.out.trans (hb2.mono hz1)); have hz2 := HB2.out.size; have x2 : w2.cell? ⟨w.heap.size, 1, none⟩ = some (.int .i64 (nf : Int)) := (hb2.cell (p := ⟨w.heap.size, 1, none⟩) (Array.getElem?_eq_some_iff.1 HX1.out).1).trans (one_block HX1.out 1); clear hF hb2)
    | (go_at_call 37; refine (fnew_any nf _ h1 (by omega) (HDB.out.same (HB2.out.block 0 hw0)) (by omega)).mono ?_; rintro e w3 ⟨a, S, rfl, hP, hb3, hS3⟩; have HP := Lib.hid hP; have HB3 := Lib.hid hb3; have HS3 := Lib.hid hS3; have hz3 := hb3.size; clear hP hb3 hS3)
    | (go_at_call 39; refine (cnew_any a fs _ S (fresh nf) HP.out).mono ?_; rintro e w4 ⟨c, m, rfl, hC, hb4, hc4, hm4⟩; have HC := Lib.hid hC; have HB4 := Lib.hid hb4; have hz4 := hb4.size; clear hC hb4)
    | fail)
  obtain ⟨nb, c2, ad, mp, hFs⟩ := HF.out
  have h24 : Below w2.heap.size w2 w4 := HB3.out.trans (HB4.out.mono hz3)
  have hrun := made_run8 hFs h24 HC.out HS3.out (by omega) (by omega) (by omega)
  have h45 := (Below.refl w4.heap.size w4).alloc (Nat.le_refl _) (.cells #[.pointer (some ⟨a, 0, none⟩), .pointer (some ⟨fs, 0, none⟩), .pointer (some ⟨c, 0, none⟩), .slice none 0 0, .slice none 0 0] 91)
  have hbe : Below w.heap.size w (w4.alloc (.cells #[.pointer (some ⟨a, 0, none⟩), .pointer (some ⟨fs, 0, none⟩), .pointer (some ⟨c, 0, none⟩), .slice none 0 0, .slice none 0 0] 91)) := HB2.out.trans ((h24.trans (h45.mono (by omega))).mono hz2)
  have HRUN := Lib.hid hrun
  have HBE := Lib.hid hbe
  clear hrun hbe h45 hFs h24
  go_loopw [12] (fun i wr => ∃ (j : Nat) (S : Nat → Prop) (s : St8) (Hl : Option Addr) (cl : Nat) (Hh : Option Addr) (ch : Nat), i = .int .i64 (j : Int) ∧ j ≤ k ∧ Run8 wr w2.heap.size w4.heap.size a c fs m S (filesOf l) s Hl cl Hh ch ∧ s.Fine (filesOf l) (fun _ => 0) nf j ∧ Below w.heap.size w wr) (fun i _ => k - (intOf i).toNat)
  case atStart => exact ⟨0, S, _, none, 0, none, 0, rfl, Nat.zero_le _, HRUN.out, start8 _ nf, HBE.out⟩
  case round =>
    obtain ⟨j, S, s, Hl, cl, Hh, ch, rfl, hj, hrun, hfine, hbel⟩ := hrel
    have HR8 := Lib.hid hrun
    have HBE := Lib.hid hbel
    clear hrun hbel
    by_cases hlt : j < k
    · obtain ⟨x, hx⟩ : ∃ x, ops[j]? = some x := ⟨ops[j]'(by rw [HL.out.len]; exact hlt), List.getElem?_eq_getElem _⟩
      obtain ⟨b, off, rfl, hbw, hat⟩ := HL.out.at_ j x hx
      have hok := HL.out.ok x (List.mem_of_getElem? hx)
      have hat2 := hat.below HBE.out hbw
      obtain ⟨c0, c1, c2, c3⟩ := hat2
      have hdo := does8_any w2.heap.size w4.heap.size a c fs m nf j cl ch x wr S _ s _ Hl Hh HR8.out hfine (by omega) HBY.out (fun _ => Nat.zero_le _) hok
      obtain ⟨K, ino, page, N⟩ := x
      simp only at c0 c1 c2 c3
      have hdo' : Calls Tryd.prog 48 #[.pointer (some ⟨w4.heap.size, 0, none⟩), .agg #[.int .i64 K, .int .i64 ino, .int .i64 page, .int .i64 N]] wr (Does8Post wr w2.heap.size w4.heap.size a c fs m S Hl Hh (filesOf l) ⟨K, ino, page, N⟩ s) := hdo
      have HDO := Lib.hid hdo'
      clear hat hx hok hdo hdo'
      go_wp2_with (first
        | (go_at_call 48; refine (HDO.out).mono ?_; rintro e w5 ⟨rfl, s', S', Hl', cl', Hh', ch', hrun2, hres, hst⟩; have hb2 := hst.below; have HR2 := Lib.hid hrun2; have HB5 := Lib.hid hb2; have HRES := Lib.hid hres; clear hrun2 hb2 hres hst)
        | fail)
      go_roundw
      case rel => exact ⟨j + 1, S', s', Hl', cl', Hh', ch', by go_num, by omega, HR2.out, hfine.step HRES.out, HBE.out.trans (HB5.out.mono hz2)⟩
      case measure => (simp [intOf]; omega)
    · obtain rfl : j = k := by omega
      go_wp2_with fail
      go_ret
      exact ⟨w2.heap.size, w4.heap.size, a, c, fs, m, S, s, Hl, cl, Hh, ch, rfl, HR8.out, hfine, HBE.out, hz2⟩

end Go.Proofs.YtmkgdgfbdmjeeaaDoor
