/- The document's files: New. -/
import Derived.Test.YtkkmcnngpahfaaaGreatDoorHrD
import Derived.Deep.RegionHeld3
import Derived.Deep.RegionLaw
import Derived.Test.YtkkmcnngpahfaaaGreatDoorGnB
namespace Go.Proofs.YtkkmcnngpahfaaaGreatDoor
open Go.RowKit Go.Sort
set_option linter.unusedSimpArgs false
set_option linter.unusedVariables false

theorem OwnG.blockT {α : Type} {T : TypeId} {k : Nat} {C : α → List Value} {w : World} {base g cap : Nat} {L : List α} (h : OwnG T k C w base (some ⟨g, 0, none⟩) cap L) : ∃ cur, w.heap[g]? = some (.cells cur T (0, 0)) := by
  rcases h.2 with ⟨h2, _⟩ | ⟨g', cap', cur, h1, h3, h4, h5, _⟩
  · injection h2 with h2; cases h2
  · injection h1 with e1 _ e3
    injection e1 with e1
    injection e1 with e1
    subst e1
    exact ⟨cur, h4⟩
/-- A node more. -/
theorem DocFs.grow {w w2 : World} {base q cap : Nat} {R : Option Addr} {L : List NdR} {F : List Nd} {g cap2 : Nat} {r : NdR}
    (h : DocFs w base q R cap L F) (hr : ByteRow w r.A r.nd.n r.c r.nd.dat) (hrb : ∀ x, r.A = some x → base ≤ x.block) (hown : OwnG 162 9 ndC w2 base (some ⟨g, 0, none⟩) cap2 (L ++ [r])) (hg : w.grownBy w2 (R.map (·.block)))
    (hat : R.map (·.block) = some g ∨ g = w.heap.size) :
    DocFs (w2.setCell ⟨q, 0, none⟩ (.slice (some ⟨g, 0, none⟩) (L.length + 1) cap2)) base q (some ⟨g, 0, none⟩) cap2 (L ++ [r]) (F ++ [r.nd]) := by
  have hq := (Array.getElem?_eq_some_iff.1 h.self).1
  have hqR : some q ≠ R.map (·.block) := fun e => by
    rcases h.row.form with ⟨h1, _⟩ | ⟨g1, h1, _⟩
    · rw [h1] at e; cases e
    · rw [h1] at e
      simp only [Option.map_some, Option.some.injEq] at e
      exact h.ne (by rw [h1, e])
  have hgq : g ≠ q := fun e => by
    rcases hat with h1 | h1
    · exact hqR (by rw [h1, e])
    · omega
  have hS2 := (hg.block q hq hqR).trans h.self
  have hkeep : ∀ (b : Nat) (cs : Array Value) (f : Nat × Nat), w.heap[b]? = some (.cells cs 5 f) → (w2.setCell ⟨q, 0, none⟩ (.slice (some ⟨g, 0, none⟩) (L.length + 1) cap2)).heap[b]? = w.heap[b]? := fun b cs f hb => by
    have hbl := (Array.getElem?_eq_some_iff.1 hb).1
    have hbq : b ≠ q := fun e => by
      subst e
      rw [h.self] at hb
      injection hb with hb
      injection hb with _ hb
      exact absurd hb (by decide)
    have hbR : some b ≠ R.map (·.block) := fun e => by
      rcases h.row.form with ⟨h1, _⟩ | ⟨g1, h1, _⟩
      · rw [h1] at e; cases e
      · rw [h1] at e
        simp only [Option.map_some, Option.some.injEq] at e
        subst e
        have h9 := h.row
        rw [h1] at h9
        obtain ⟨cur, h8⟩ := h9.blockT
        rw [h8] at hb
        injection hb with hb
        injection hb with _ hb
        exact absurd hb (by decide)
    exact ((mod_set (S := fun b => b = q) rfl 0 _).block b (by have := hg.size; omega) hbq).trans (hg.block b hbl hbR)
  refine ⟨by rw [List.map_append, h.map]; rfl, ?_, ?_, ?_, h.low, fun e => by injection e with e; injection e with e; exact hgq e, fun r1 hr1 => (List.mem_append.1 hr1).elim (h.blow r1) (fun h1 => by rw [List.mem_singleton] at h1; subst h1; exact hrb)⟩
  · have h9 := Joins.block_setCell (i := 0) hS2 (.slice (some ⟨g, 0, none⟩) (L.length + 1) cap2)
    rw [List.length_append]
    simpa using h9
  · refine hown.same fun g1 hg1 => ?_
    injection hg1 with hg1
    injection hg1 with hg1
    subst hg1
    exact (mod_set (S := fun b => b = q) rfl 0 _).block g hown.formS.2.1 hgq
  · intro r1 hr1
    rcases List.mem_append.1 hr1 with h1 | h1
    · exact (h.bytes r1 h1).keep hkeep
    · rw [List.mem_singleton] at h1
      subst h1
      exact hr.keep hkeep
theorem addM_err {F : List Nd} {x : Ent} (hm : may x ≠ 0) : addM F x = (may x, F) := by
  unfold addM
  rw [if_pos hm]
theorem docFs_root (w : World) : DocFs (w.alloc (.cells #[.slice none 0 0] 160)) w.heap.size w.heap.size none 0 [] [] :=
  ⟨rfl, heap_alloc_new _ _, OwnG.nil _ _, (fun r hr => by cases hr), Nat.le_refl _, by simp, (fun r hr => by cases hr)⟩

/-- What New answers: the error, or the nodes in memory of the call's own. -/
def RNewPost (l : List Ent) (w : World) (e : Ending) (w' : World) : Prop :=
  (if 64 < l.length then e = .returned (.tuple #[.pointer none, .int .i64 15, .int .i64 (-1)])
   else if (newM [rootNd] 0 l).1 ≠ 0 then e = .returned (.tuple #[.pointer none, .int .i64 (newM [rootNd] 0 l).1, .int .i64 (newM [rootNd] 0 l).2.1])
   else ∃ q R cap L, e = .returned (.tuple #[.pointer (some ⟨q, 0, none⟩), .int .i64 0, .int .i64 0]) ∧ DocFs w' w.heap.size q R cap L (newM [rootNd] 0 l).2.2) ∧ Below w.heap.size w w'
theorem RNewPost.stop {l : List Ent} {w w' : World} {r i : Int} {F : List Nd} (h64 : ¬ 64 < l.length) (h : newM [rootNd] 0 l = (r, i, F)) (hr : r ≠ 0) (hb : Below w.heap.size w w') : RNewPost l w (.returned (.tuple #[.pointer none, .int .i64 r, .int .i64 i])) w' := by
  refine ⟨?_, hb⟩
  rw [if_neg h64, h, if_pos hr]
def entC2 (x : Ent) (A : Option Addr) (c : Nat) : Array Value := #[.string x.path, .int .u8 (x.kind : Int), .int .u16 (x.mode : Int), .int .u32 (x.uid : Int), .int .u32 (x.gid : Int), .slice A x.n c, .string x.to]
/-- An entry in a box. -/
def BoxE (w : World) (b : Nat) (x : Ent) (A : Option Addr) (c : Nat) : Prop := w.heap[b]? = some (.cells #[.string x.path, .int .u8 (x.kind : Int), .int .u16 (x.mode : Int), .int .u32 (x.uid : Int), .int .u32 (x.gid : Int), .slice A x.n c, .string x.to] 106 (0, 0))

set_option maxRecDepth 100000 in
set_option maxHeartbeats 8000000 in
theorem rnew_any (P : Option Addr) (n cap : Nat) (l : List Ent) (w : World) (hl : EntsIn w P l) (hn : n = l.length) (hcap : n ≤ cap) (hbig : n ≤ 9223372036854775807) (hsm : ∀ x ∈ l, x.n ≤ 524288 ∧ x.path.size ≤ 524288 ∧ x.to.size ≤ 524288) :
    Calls Tryz.prog 28 #[.slice P n cap] w (RNewPost l w) := by
  by_cases h64 : 64 < n
  · have hv : ∀ e w', (e = .returned (.tuple #[.pointer none, .int .i64 15, .int .i64 (-1)]) ∧ Below w.heap.size w w') → RNewPost l w e w' := fun e w' h => by
      unfold RNewPost
      rw [if_pos (by omega)]
      exact h
    have HV := Lib.hid hv
    clear hv hl hn hsm
    go_enter Tryz.func28, Tryz.ntmps28
    go_wp2_with fail
    go_ret3
    exact HV.out _ _ ⟨rfl, Below.refl _ _⟩
  obtain ⟨q, hq⟩ : ∃ q, q = w.heap.size := ⟨_, rfl⟩
  have hroot := docFs_root w
  obtain ⟨w0, hw0⟩ : ∃ w0, w0 = w.alloc (.cells #[.slice none 0 0] 160) := ⟨_, rfl⟩
  rw [← hw0] at hroot
  have hb0 : Below w.heap.size w w0 := by rw [hw0]; exact (Below.refl _ _).alloc (Nat.le_refl _) _
  have q0 : w0.cell? ⟨w.heap.size, 0, none⟩ = some (.slice none 0 0) := one_block hroot.self 0
  have qf := one_free hroot.self 0
  have qlt : w.heap.size < w0.heap.size := (Array.getElem?_eq_some_iff.1 hroot.self).1
  have NQ : Hid (some w.heap.size ≠ (none : Option Addr).map (·.block)) := Lib.hid (by simp)
  have HW0 := Lib.hid hw0
  have HB0 := Lib.hid hb0
  have HROOT := Lib.hid hroot
  have HLN := Lib.hid hn
  have HL0 := Lib.hid hl
  have HSM := Lib.hid hsm
  have HQ := Lib.hid hq
  have hz0 := hb0.size
  clear hb0 hw0 hroot hn hl hsm hq
  go_enter Tryz.func28, Tryz.ntmps28
  go_upto_region 4 with (fail)
  rw [← HW0.out]
  go_upto_region 5 with (first
    | (at_builtin; refine app_gen nd_elem rfl (.tmp 22) (.tmp 25) rfl w.heap.size none 0 0 [] rfl rfl (OwnG.nil _ _) ⟨rootNd, none, 0⟩ w0.heap.size 1 rfl (heap_alloc_new w0 _) (by omega) (by simp; omega) ?_; intro g1 cap1 w1 ho1 hg1 hat1 hlt1; have q1 := (hg1.cell_far ⟨w.heap.size, 0, none⟩ (by simp; omega) NQ.out); have qf1 := hg1.frozen_far ⟨w.heap.size, 0, none⟩ (by simp; omega) NQ.out)
    | fail)
  obtain ⟨w2, hw2⟩ : ∃ w2, w2 = w1.setCell ⟨w.heap.size, 0, none⟩ (.slice (some ⟨g1, 0, none⟩) 1 cap1) := ⟨_, rfl⟩
  have hF2 : DocFs w2 w.heap.size w.heap.size (some ⟨g1, 0, none⟩) cap1 [⟨rootNd, none, 0⟩] [rootNd] := by
    rw [hw2]
    exact (HROOT.out.kept ((Below.refl _ _).alloc (Nat.le_refl _) _)).grow ⟨(fun h => absurd h (by decide)), (fun x hx => by cases hx), Nat.le_refl _, fun _ => ⟨rfl, rfl⟩⟩ (fun x hx => by cases hx) ho1 hg1 hat1
  have hb2 : Below w.heap.size w w2 := by
    rw [hw2]
    exact (((HB0.out.alloc hz0 _).grown hg1 (by simp; omega) (fun b hb => by simp at hb))).setCell (Nat.le_refl _) _
  have HW2 := Lib.hid hw2
  have HF2 := Lib.hid hF2
  have HB2 := Lib.hid hb2
  clear hw2 hF2 hb2
  go_upto_region 6 with (fail)
  rw [← HW2.out]
  clear q0 qf q1 qf1 qlt ho1 hg1 hat1 hlt1
  go_wp2_with fail
  go_loopw [6] (fun i wr => ∃ k F R cp L, k ≤ n ∧ i = .int .i64 ((k : Nat) : Int) ∧ DocFs wr w.heap.size w.heap.size R cp L F ∧ FOk F ∧ InDirs F ∧ newM [rootNd] 0 l = newM F k (l.drop k) ∧ F.length = k + 1 ∧ Below w.heap.size w wr) (fun i _ => n - (intOf i).toNat)
  case atStart => exact ⟨0, [rootNd], _, _, _, by omega, rfl, HF2.out, FOk.start, InDirs.start, rfl, rfl, HB2.out⟩
  case round =>
    obtain ⟨k, F, R, cp, L, hk, rfl, hF, hok, hind, hnew, hlen, hbe⟩ := hrel
    have HF := Lib.hid hF
    have HOK := Lib.hid hok
    have HIND := Lib.hid hind
    have HNEW := Lib.hid hnew
    have HLEN := Lib.hid hlen
    have HBE := Lib.hid hbe
    have hwz := hbe.size
    clear hF hok hind hnew hlen hbe
    by_cases hlt : k < n
    · obtain ⟨x, hx⟩ : ∃ x, l[k]? = some x := ⟨_, List.getElem?_eq_getElem (by rw [← HLN.out]; exact hlt)⟩
      have hdrop : l.drop k = x :: l.drop (k + 1) := (List.drop_eq_getElem_cons (by rw [← HLN.out]; exact hlt)).trans (by
        obtain ⟨h1, h2⟩ := List.getElem?_eq_some_iff.1 hx
        rw [h2])
      have hxs := HSM.out x (List.mem_of_getElem? hx)
      obtain ⟨bb, off, A, c, rfl, ⟨c0, c1, c2, c3, c4, c5, c6⟩, hA, hAok, hfit⟩ := (HL0.out.below HBE.out) k x hx
      obtain ⟨w3, hw3⟩ : ∃ w3, w3 = wr.alloc (.cells #[.string x.path, .int .u8 (x.kind : Int), .int .u16 (x.mode : Int), .int .u32 (x.uid : Int), .int .u32 (x.gid : Int), .slice A x.n c, .string x.to] 106) := ⟨_, rfl⟩
      have hX3 : BoxE w3 wr.heap.size x A c := by rw [hw3]; exact heap_alloc_new wr _
      have hb3 : Below wr.heap.size wr w3 := by rw [hw3]; exact (Below.refl _ _).alloc (Nat.le_refl _) _
      have hx3l : wr.heap.size < w3.heap.size := (Array.getElem?_eq_some_iff.1 hX3).1
      have hmay := rmay_any x A c w3 (by omega) (by omega) (by omega) hfit.mode
      unfold Ent.val at hmay
      obtain ⟨r, hr⟩ : ∃ r, r = may x := ⟨_, rfl⟩
      rw [← hr] at hmay
      have HW3 := Lib.hid hw3
      have HX3 := Lib.hid hX3
      have HDR := Lib.hid hdrop
      have HA3 := Lib.hid (hA.kept hb3)
      have HAL := Lib.hid (show ∀ a, A = some a → 0 < x.n → a.block < w3.heap.size from fun a ha h0 => by
        obtain ⟨a', e, hcl⟩ := hA.kept hb3 h0
        rw [ha] at e
        injection e with e
        subst e
        have := World.block_lt_of_cell? _ _ (hcl 0 h0)
        have hbk : (a.add 0).block = a.block := by unfold Addr.add; split <;> rfl
        rwa [hbk] at this)
      have HMAY := Lib.hid hmay
      have HFK3 := Lib.hid (HBE.out.trans (hb3.mono hwz))
      have hkn : (k : Int) < (n : Int) := by omega
      have hz3 := hb3.size
      clear hw3 hX3 hdrop hx hmay hA hAok hfit
      go_upto_region 9 with (fail)
      rw [← HW3.out]
      clear c0 c1 c2 c3 c4 c5 c6
      have x0 : w3.cell? ⟨wr.heap.size, 0, none⟩ = some (.string x.path) := one_block HX3.out 0
      have x1 : w3.cell? ⟨wr.heap.size, 1, none⟩ = some (.int .u8 (x.kind : Int)) := one_block HX3.out 1
      have x2 : w3.cell? ⟨wr.heap.size, 2, none⟩ = some (.int .u16 (x.mode : Int)) := one_block HX3.out 2
      have x3 : w3.cell? ⟨wr.heap.size, 3, none⟩ = some (.int .u32 (x.uid : Int)) := one_block HX3.out 3
      have x4 : w3.cell? ⟨wr.heap.size, 4, none⟩ = some (.int .u32 (x.gid : Int)) := one_block HX3.out 4
      have x5 : w3.cell? ⟨wr.heap.size, 5, none⟩ = some (.slice A x.n c) := one_block HX3.out 5
      have x6 : w3.cell? ⟨wr.heap.size, 6, none⟩ = some (.string x.to) := one_block HX3.out 6
      by_cases hr0 : r = 0
      rotate_left
      · have hne : (r != 0) = true := by rw [bne_iff_ne]; exact hr0
        have HN2 := Lib.hid (show newM [rootNd] 0 l = (r, (k : Int), F) by rw [HNEW.out, HDR.out, newM_stop (by rw [addM_err (by rw [← hr]; exact hr0)]; show may x ≠ 0; rw [← hr]; exact hr0), addM_err (by rw [← hr]; exact hr0), hr])
        have HR0 := Lib.hid hr0
        clear hr hr0
        go_wp2_with (first
          | (go_at_call 85; refine (HMAY.out).mono ?_; rintro e w4 ⟨rfl, hb4⟩)
          | fail)
        go_ret3
        exact RNewPost.stop (by rw [← HLN.out]; exact h64) HN2.out HR0.out (HFK3.out.trans (hb4.mono (by omega)))
      have hm0 : may x = 0 := by rw [← hr]; exact hr0
      subst hr0
      have HM0 := Lib.hid hm0
      clear hr hm0
      go_upto_region 12 with (first
        | (go_at_call 85; refine (HMAY.out).mono ?_; rintro e w4 ⟨rfl, hb4⟩)
        | fail)
      have HX4 : Hid (BoxE w4 wr.heap.size x A c) := Lib.hid ((hb4.block _ hx3l).trans HX3.out)
      have hx4l : wr.heap.size < w4.heap.size := Nat.lt_of_lt_of_le hx3l hb4.size
      have hz4 := hb4.size
      clear x0 x1 x2 x3 x4 x5 x6
      have x0 : w4.cell? ⟨wr.heap.size, 0, none⟩ = some (.string x.path) := one_block HX4.out 0
      have HFK4 := Lib.hid (HFK3.out.trans (hb4.mono (by omega)))
      have HB4 := Lib.hid hb4
      clear hb4
      have hmz := may_zero HM0.out
      have hxn : x.n ≤ 65536 := by omega
      have hpl := partsOf_length x.path
      have hps := (chk_zero hmz.2.2.2.1).2.1
      have hpar := rparts_ok x.path w4 hmz.2.2.2.1
      unfold PartsOkPost at hpar
      obtain ⟨pb, hpb⟩ : ∃ pb, pb = Lib.hasPrefix x.path.data.toList [47] := ⟨_, rfl⟩
      rw [← hpb] at hpar
      obtain ⟨T, hT⟩ : ∃ T, T = partsOf x.path := ⟨_, rfl⟩
      rw [← hT] at hpar hpl
      obtain ⟨m, hm⟩ : ∃ m, m + 1 = T.length := ⟨T.length - 1, by
        have h9 : T ≠ [] := by rw [hT]; exact hmz.2.2.2.2.2.1
        have := List.length_pos_iff.2 h9
        omega⟩
      rw [← hm] at hpar
      have hm9 : m + 1 ≤ 201 := by omega
      have HPA := Lib.hid hpar
      have HM := Lib.hid hm
      have HT := Lib.hid hT
      obtain ⟨d1, hd1⟩ : ∃ d1, d1 = atM F 0 T := ⟨_, rfl⟩
      obtain ⟨d2, hd2⟩ : ∃ d2, d2 = atM F 0 T.dropLast := ⟨_, rfl⟩
      have hat1 : ∀ W A1 cap1 base, Below w4.heap.size w4 W → OwnS W base A1 cap1 T → m + 1 ≤ cap1 → Calls Tryz.prog 87 #[.pointer (some ⟨w.heap.size, 0, none⟩), .slice A1 (m + 1) cap1] W fun e w' => e = .returned (.int .i64 (optI d1)) ∧ W = w' := fun W A1 cap1 base hW hO hc => by
        rw [hd1]
        exact rat_any w.heap.size w.heap.size cp (m + 1) cap1 R A1 L F T W ((HF.out.kept (hb3.trans (HB4.out.mono (by omega)))).kept hW) HIND.out (by have := HLEN.out; omega) (by have := HLEN.out; omega) (by have h9 := hO.texts T.length; rwa [List.take_length] at h9) hm.symm hc (by omega)
      have hat2 : ∀ W A1 cap1 base, Below w4.heap.size w4 W → OwnS W base A1 cap1 T → m + 1 ≤ cap1 → Calls Tryz.prog 87 #[.pointer (some ⟨w.heap.size, 0, none⟩), .slice A1 m cap1] W fun e w' => e = .returned (.int .i64 (optI d2)) ∧ W = w' := fun W A1 cap1 base hW hO hc => by
        rw [hd2]
        have hdl : T.dropLast.length = m := by rw [List.length_dropLast]; omega
        exact rat_any w.heap.size w.heap.size cp m cap1 R A1 L F T.dropLast W ((HF.out.kept (hb3.trans (HB4.out.mono (by omega)))).kept hW) HIND.out (by have := HLEN.out; omega) (by have := HLEN.out; omega) (by have h9 := hO.texts m; rwa [show T.take m = T.dropLast by rw [List.dropLast_eq_take]; congr 1; omega] at h9) hdl (by omega) (by omega)
      have HAT1 := Lib.hid hat1
      have HAT2 := Lib.hid hat2
      have HD1 := Lib.hid hd1
      have HD2 := Lib.hid hd2
      clear hmz hpl hps hpar hpb hT hm hat1 hat2 hd1 hd2
      go_upto_region 13 with (first
        | (go_at_call 86; refine (HPA.out).mono ?_; rintro e w5 ⟨A1, cap1, rfl, hO5, hb5⟩; have HO5 := Lib.hid hO5; have HB5 := Lib.hid hb5; clear hO5 hb5)
        | fail)
      have hz5 := HB5.out.size
      obtain ⟨g5, hgA, hg51, hg52, hg53⟩ : ∃ g, A1 = some ⟨g, 0, none⟩ ∧ w4.heap.size ≤ g ∧ g < w5.heap.size ∧ m + 1 ≤ cap1 := by
        rcases HO5.out.form with ⟨_, e, _⟩ | ⟨g, e1, e2, e3, e4⟩
        · exfalso; have := HM.out; rw [e] at this; cases this
        · exact ⟨g, e1, e2, e3, by have := HM.out; omega⟩
      subst hgA
      have HC1 := Lib.hid (HAT1.out w5 _ cap1 _ HB5.out HO5.out hg53)
      have HC2 := Lib.hid (HAT2.out w5 _ cap1 _ HB5.out HO5.out hg53)
      have HX5 : Hid (BoxE w5 wr.heap.size x A c) := Lib.hid ((HB5.out.block _ hx4l).trans HX4.out)
      clear x0 HAT1 HAT2
      obtain ⟨v1, hv1⟩ : ∃ v1, v1 = optI d1 := ⟨_, rfl⟩
      obtain ⟨v2, hv2⟩ : ∃ v2, v2 = optI d2 := ⟨_, rfl⟩
      rw [← hv1] at HC1
      rw [← hv2] at HC2
      have HFK5 := Lib.hid (HFK4.out.trans (HB5.out.mono (by omega)))
      cases d1 with
      | some j =>
        have hge : (0 : Int) ≤ v1 := by rw [hv1]; show (0 : Int) ≤ (j : Int); omega
        have HN2 := Lib.hid (show newM [rootNd] 0 l = (7, (k : Int), F) by
          have h9 := addM_there HM0.out (show atM F 0 (partsOf x.path) = some j by rw [← HT.out]; exact HD1.out.symm)
          rw [HNEW.out, HDR.out, newM_stop (by rw [h9]; show (_ : Int) ≠ 0; simp), h9])
        clear hv1 hv2
        go_wp2_with (first
          | (go_at_call 87; refine (HC1.out).mono ?_; rintro e w6 ⟨rfl, rfl⟩)
          | fail)
        go_ret3
        exact RNewPost.stop (by rw [← HLN.out]; exact h64) HN2.out (by decide) HFK5.out
      | none =>
      have hv1' : v1 = -1 := hv1
      subst hv1'
      clear hv1
      cases d2 with
      | none =>
        have hv2' : v2 = -1 := hv2
        subst hv2'
        have HN2 := Lib.hid (show newM [rootNd] 0 l = (3, (k : Int), F) by
          have h9 := addM_noent HM0.out (show atM F 0 (partsOf x.path) = none by rw [← HT.out]; exact HD1.out.symm) (show atM F 0 (partsOf x.path).dropLast = none by rw [← HT.out]; exact HD2.out.symm)
          rw [HNEW.out, HDR.out, newM_stop (by rw [h9]; show (_ : Int) ≠ 0; simp), h9])
        clear hv2
        have hmc : (m : Int) ≤ (cap1 : Int) := by omega
        go_upto_region 15 with (first
          | (go_at_call 87; refine (HC1.out).mono ?_; rintro e w6 ⟨rfl, rfl⟩)
          | fail)
        go_wp2_with (first
          | (go_at_call 87; refine (HC2.out).mono ?_; rintro e w6 ⟨rfl, rfl⟩)
          | fail)
        go_ret3
        exact RNewPost.stop (by rw [← HLN.out]; exact h64) HN2.out (by decide) HFK5.out
      | some up =>
      have hv2' : v2 = (up : Int) := hv2
      subst hv2'
      clear hv2
      have hup := atM_lt _ HOK.out.pos HD2.out.symm
      obtain ⟨y, hy⟩ : ∃ y, F[up]? = some y := ⟨_, List.getElem?_eq_getElem hup⟩
      have hki := kindOf_some hy
      have HF5 := Lib.hid ((HF.out.kept (hb3.trans (HB4.out.mono (by omega)))).kept HB5.out)
      obtain ⟨ry, gR, hry, hryy, hRg, hgRl, hRcap, hcellR⟩ := HF5.out.at hy
      have hlen5 := HF5.out.len
      have hF1 := HLEN.out
      obtain ⟨N, hN⟩ : ∃ N, N = F.length := ⟨_, rfl⟩
      have q5 : w5.cell? ⟨w.heap.size, 0, none⟩ = some (.slice R N cp) := by rw [hN, ← hlen5]; exact one_block HF5.out.self 0
      have qf5 := one_free HF5.out.self 0
      have r5 : w5.cell? ⟨gR, up * 9, none⟩ = some (.int .u8 (y.kind : Int)) := by
        have h9 := hcellR 0 (by omega)
        rw [Nat.add_zero] at h9
        rw [h9, ← hryy]
        rfl
      subst hRg
      have hupN : up < N := by omega
      have hNc : N ≤ cp := by omega
      have hupI : (up : Int) < (N : Int) := by omega
      have hmc : (m : Int) ≤ (cap1 : Int) := by omega
      have HKI := Lib.hid hki
      have HNN := Lib.hid hN
      have HYY := Lib.hid hy
      clear hup hry hryy hcellR hlen5 hF1 hki hN hy
      by_cases hk2 : y.kind = 2
      rotate_left
      · have hne : ((y.kind : Int) != 2) = true := by rw [bne_iff_ne]; omega
        have HN2 := Lib.hid (show newM [rootNd] 0 l = (8, (k : Int), F) by
          have h9 := addM_notdir HM0.out (show atM F 0 (partsOf x.path) = none by rw [← HT.out]; exact HD1.out.symm) (show atM F 0 (partsOf x.path).dropLast = some up by rw [← HT.out]; exact HD2.out.symm) (by rw [HKI.out]; exact hk2)
          rw [HNEW.out, HDR.out, newM_stop (by rw [h9]; show (_ : Int) ≠ 0; simp), h9])
        clear hk2
        go_upto_region 15 with (first
          | (go_at_call 87; refine (HC1.out).mono ?_; rintro e w6 ⟨rfl, rfl⟩)
          | fail)
        go_wp2_with (first
          | (go_at_call 87; refine (HC2.out).mono ?_; rintro e w6 ⟨rfl, rfl⟩)
          | fail)
        go_ret3
        exact RNewPost.stop (by rw [← HLN.out]; exact h64) HN2.out (by decide) HFK5.out
      have hkE : ((y.kind : Int) != 2) = false := by rw [hk2]; rfl
      have HK2 := Lib.hid hk2
      clear hk2
      go_upto_region 15 with (first
          | (go_at_call 87; refine (HC1.out).mono ?_; rintro e w6 ⟨rfl, rfl⟩)
          | fail)
      go_upto_region 20 with (first
          | (go_at_call 87; refine (HC2.out).mono ?_; rintro e w6 ⟨rfl, rfl⟩)
          | fail)
      obtain ⟨t, ht, htL, htD⟩ := last_part HM.out
      have g5m : w5.cell? ⟨g5, m, none⟩ = some (.string t) := OwnS.elem HO5.out ht
      have l1 : w.heap.size < w5.heap.size := (Array.getElem?_eq_some_iff.1 HF5.out.self).1
      have hx5l : wr.heap.size < w5.heap.size := (Array.getElem?_eq_some_iff.1 HX5.out).1
      have x1 : w5.cell? ⟨wr.heap.size, 1, none⟩ = some (.int .u8 (x.kind : Int)) := one_block HX5.out 1
      have x2 : w5.cell? ⟨wr.heap.size, 2, none⟩ = some (.int .u16 (x.mode : Int)) := one_block HX5.out 2
      have x3 : w5.cell? ⟨wr.heap.size, 3, none⟩ = some (.int .u32 (x.uid : Int)) := one_block HX5.out 3
      have x4 : w5.cell? ⟨wr.heap.size, 4, none⟩ = some (.int .u32 (x.gid : Int)) := one_block HX5.out 4
      have x5 : w5.cell? ⟨wr.heap.size, 5, none⟩ = some (.slice A x.n c) := one_block HX5.out 5
      have x6 : w5.cell? ⟨wr.heap.size, 6, none⟩ = some (.string x.to) := one_block HX5.out 6
      have HTL := Lib.hid htL
      have HCP := Lib.hid (rcopy_any A x.n c x.dat w5.drew (by omega) ((HA3.out.kept (HB4.out.trans (HB5.out.mono (by omega)))).kept (Below.refl _ _).drew) (fun a ha h0 => by have h9 := HAL.out a ha h0; show a.block < w5.heap.size; omega))
      have NR : Hid (some w.heap.size ≠ (some (⟨gR, 0, none⟩ : Addr)).map (·.block)) := Lib.hid (fun e => by
        simp only [Option.map_some, Option.some.injEq] at e
        exact HF5.out.ne (by rw [e]))
      have hmm1 : (m : Int) < (m : Int) + 1 := by omega
      have hmcap : m < cap1 := by omega
      have hmw : IntKind.i64.wrap (m : Int) = (m : Int) := by rw [IntKind.wrap_i64]; omega
      have hm00 : (0 : Int) ≤ (m : Int) := by omega
      have HNL : Hid (N = L.length) := Lib.hid (by rw [HNN.out]; exact HF5.out.len.symm)
      have hNf : N ≤ 65 := by have := HNN.out; have := HLEN.out; omega
      have hgRw := (HF.out.row.lt gR rfl).2
      have nx : wr.heap.size ≠ gR := by omega
      have ng : g5 ≠ gR := by omega
      have nxq : wr.heap.size ≠ w.heap.size := by have := (Array.getElem?_eq_some_iff.1 HF.out.self).1; omega
      have ngq : g5 ≠ w.heap.size := by omega
      have nq : w.heap.size ≠ gR := fun e => HF5.out.ne (by rw [e])
      clear HC1 HC2 ht htL htD r5
      refine wp_region_Z (fun w' => w'.cell? ⟨wr.heap.size, 1, none⟩ = some (.int .u8 (x.kind : Int)) ∧ w'.cell? ⟨wr.heap.size, 2, none⟩ = some (.int .u16 (x.mode : Int)) ∧ w'.cell? ⟨wr.heap.size, 3, none⟩ = some (.int .u32 (x.uid : Int)) ∧ w'.cell? ⟨wr.heap.size, 4, none⟩ = some (.int .u32 (x.gid : Int)) ∧ w'.cell? ⟨wr.heap.size, 5, none⟩ = some (.slice A x.n c) ∧ w'.cell? ⟨wr.heap.size, 6, none⟩ = some (.string x.to) ∧ w'.cell? ⟨w.heap.size, 0, none⟩ = some (.slice (some ⟨gR, 0, none⟩) N cp) ∧ w'.cell? ⟨g5, m, none⟩ = some (.string t)) 34 (by kernel_rfl) (LastIs.of 14 (by kernel_rfl) (by kernel_rfl)) ⟨x1, x2, x3, x4, x5, x6, q5, g5m⟩ ?_
      intro HLZ HSW
      refine zt 0 ?_
      refine zt 1 ?_
      refine zt 2 ?_
      refine zt 3 ?_
      refine zt 4 ?_
      refine zt 5 ?_
      refine zt 6 ?_
      refine zt 7 ?_
      refine zt 8 ?_
      refine zt 9 ?_
      refine zt 10 ?_
      refine zt 11 ?_
      refine zt 12 ?_
      refine zt 13 ?_
      refine zt 14 ?_
      refine zt 15 ?_
      refine zt 16 ?_
      refine zt 17 ?_
      refine zt 18 ?_
      refine zt 19 ?_
      refine zt 20 ?_
      refine zt 21 ?_
      refine zt 22 ?_
      refine zt 23 ?_
      refine zt 24 ?_
      refine zt 25 ?_
      refine zt 27 ?_
      refine zt 28 ?_
      refine wpAnyZ_step 26 (by kernel_rfl) rfl (fun K' hK => ?_)
      go_simp
      go_at_call 88
      refine (HCP.out).mono ?_
      rintro e w7 ⟨A7, cap7, rfl, hO7, hL7, hb7⟩
      have hb57 : Below w5.heap.size w5 w7 := (Below.refl w5.heap.size w5).drew.trans hb7
      have q7 := (hb57.cell (p := ⟨w.heap.size, 0, none⟩) l1).trans q5
      have y1 := (hb57.cell (p := ⟨wr.heap.size, 1, none⟩) hx5l).trans x1
      have y2 := (hb57.cell (p := ⟨wr.heap.size, 2, none⟩) hx5l).trans x2
      have y3 := (hb57.cell (p := ⟨wr.heap.size, 3, none⟩) hx5l).trans x3
      have y4 := (hb57.cell (p := ⟨wr.heap.size, 4, none⟩) hx5l).trans x4
      have y5 := (hb57.cell (p := ⟨wr.heap.size, 5, none⟩) hx5l).trans x5
      have y6 := (hb57.cell (p := ⟨wr.heap.size, 6, none⟩) hx5l).trans x6
      have g7m := (hb57.cell (p := ⟨g5, m, none⟩) hg52).trans g5m
      have HO7 := Lib.hid hO7
      have HL7 := Lib.hid hL7
      clear hO7 hL7
      go_wp2_with fail
      refine hK.out _ _ ⟨y1, y2, y3, y4, y5, y6, q7, g7m⟩ (fun HSW => ?_)
      clear hK K'
      try simp only [Act.put, List.setIfInBounds_toArray, List.set_cons_zero, List.set_cons_succ, List.getElem_toArray, List.getElem_cons_succ, List.getElem_cons_zero]
      refine zt 29 ?_
      refine wpAnyZ_step 30 (by kernel_rfl) rfl (fun K' hK => ?_)
      go_simp
      have lx : wr.heap.size < w7.heap.size := by have := hb57.size; omega
      have l7 : w.heap.size < w7.heap.size := by have := hb57.size; omega
      have lg : g5 < w7.heap.size := by have := hb57.size; omega
      have hal : ∀ b i v o, b < w7.heap.size → w7.cell? ⟨b, i, none⟩ = some v → (w7.alloc o).cell? ⟨b, i, none⟩ = some v := fun b i v o h1 h2 => (((Below.refl w7.heap.size w7).alloc (Nat.le_refl _) o).cell (p := ⟨b, i, none⟩) h1).trans h2
      refine hK.out _ _ ⟨hal _ _ _ _ lx y1, hal _ _ _ _ lx y2, hal _ _ _ _ lx y3, hal _ _ _ _ lx y4, hal _ _ _ _ lx y5, hal _ _ _ _ lx y6, hal _ _ _ _ l7 q7, hal _ _ _ _ lg g7m⟩ (fun HSW => ?_)
      clear hK K'
      try simp only [Act.put, List.setIfInBounds_toArray, List.set_cons_zero, List.set_cons_succ, List.getElem_toArray, List.getElem_cons_succ, List.getElem_cons_zero]
      refine wpAnyZ_step 31 (by kernel_rfl) rfl (fun K' hK => ?_)
      refine step_gen nd_elem (by rfl) (.tmp 82) (.tmp 108) (by rfl) w.heap.size (some ⟨gR, 0, none⟩) cp N L HNL.out (by rfl) ((HF5.out.kept hb57).row.alloc _) ⟨newNd x up t, A7, cap7⟩ w7.heap.size 1 (by rfl) (heap_alloc_new w7 _) (by omega) (by have := hb57.size; simp; omega) ?_
      intro g8 cap8 w8 ho8 hg8 hat8 hlt8
      have z8 := (hg8.cell_far ⟨w.heap.size, 0, none⟩ (by have := hb57.size; simp; omega) NR.out).trans (hal _ _ _ _ l7 q7)
      have hz57 := hb57.size
      have hall : ∀ b i v, b < w7.heap.size → b ≠ gR → w7.cell? ⟨b, i, none⟩ = some v → w8.cell? ⟨b, i, none⟩ = some v := (fun b i v h1 h2 h3 => (hg8.cell_far ⟨b, i, none⟩ (by simp; omega) (by simp; omega)).trans (hal _ _ _ _ h1 h3))
      have zf8 := (hg8.frozen_far ⟨w.heap.size, 0, none⟩ (by have := hb57.size; simp; omega) NR.out).trans ((((Below.refl w7.heap.size w7).alloc (Nat.le_refl _) _).frozen (p := ⟨w.heap.size, 0, none⟩) l7).trans ((hb57.frozen (p := ⟨w.heap.size, 0, none⟩) l1).trans qf5))
      refine hK.out _ _ ⟨hall _ _ _ lx nx y1, hall _ _ _ lx nx y2, hall _ _ _ lx nx y3, hall _ _ _ lx nx y4, hall _ _ _ lx nx y5, hall _ _ _ lx nx y6, hall _ _ _ l7 nq q7, hall _ _ _ lg ng g7m⟩ (fun HSW => ?_)
      clear hK K'
      try simp only [Act.put, List.setIfInBounds_toArray, List.set_cons_zero, List.set_cons_succ, List.getElem_toArray, List.getElem_cons_succ, List.getElem_cons_zero]
      refine zt 32 ?_
      refine zt 33 ?_
      refine wpAnyZ_last 34 (by kernel_rfl) rfl rfl (fun K' hK => ?_)
      go_simp
      refine hK.out _ _ ?_
      clear hK K'
      refine wpAnyZ_done (by kernel_rfl) ?_ _
      all_goals
        have hF7 := (HF5.out.kept hb57).kept ((Below.refl w7.heap.size w7).alloc (Nat.le_refl _) (.cells (ndC ⟨newNd x up t, A7, cap7⟩).toArray 162))
        have hF9 := hF7.grow (r := ⟨newNd x up t, A7, cap7⟩) (HO7.out.keep fun g cs f hg => Below.heap_alloc _ _ _ (Array.getElem?_eq_some_iff.1 hg).1) (fun x hx => Nat.le_trans HFK5.out.size (HL7.out x hx)) ho8 hg8 hat8
        rw [← HNL.out] at hF9
        have hz7 := hb57.size
        have hgRb := HF5.out.row.formS.1
        have hb9 : Below w.heap.size w (w8.setCell ⟨w.heap.size, 0, none⟩ (.slice (some ⟨g8, 0, none⟩) (N + 1) cap8)) := (((HFK5.out.trans (hb57.mono (by omega))).alloc (by omega) _).grown hg8 (by simp; omega) (fun b hb => by simp at hb; omega)).setCell (Nat.le_refl _) _
        have HF9 := Lib.hid hF9
        have HB9 := Lib.hid hb9
        have hadd := addM_done HM0.out (show atM F 0 (partsOf x.path) = none by rw [← HT.out]; exact HD1.out.symm) (show atM F 0 (partsOf x.path).dropLast = some up by rw [← HT.out]; exact HD2.out.symm) (by rw [HKI.out]; exact HK2.out)
        rw [← HT.out, HTL.out] at hadd
        have hr0 : (addM F x).1 = 0 := by rw [hadd]
        have HN9 := Lib.hid (show newM [rootNd] 0 l = newM (F ++ [newNd x up t]) (k + 1) (l.drop (k + 1)) by rw [HNEW.out, HDR.out, newM_step hr0, hadd])
        have hok9 := (addM_ok HOK.out hr0).1
        have hin9 := HIND.out.add HOK.out hr0
        rw [hadd] at hok9 hin9
        have HOK9 := Lib.hid (show FOk (F ++ [newNd x up t]) from hok9)
        have HIN9 := Lib.hid (show InDirs (F ++ [newNd x up t]) from hin9)
        have HL9 := Lib.hid (show (F ++ [newNd x up t]).length = k + 1 + 1 by rw [List.length_append, HLEN.out]; rfl)
        clear hF7 hF9 hb9 hadd hr0 hok9 hin9 z8 zf8 q7 y1 y2 y3 y4 y5 y6 g7m ho8 hg8 hat8 x1 x2 x3 x4 x5 x6 q5 qf5 g5m
        go_wp2_with fail
        go_roundw
        case rel => exact ⟨k + 1, _, _, cap8, _, by omega, by go_num, HF9.out, HOK9.out, HIN9.out, HN9.out, HL9.out, HB9.out⟩
        case measure => (simp [intOf]; omega)
    · obtain rfl : k = n := by omega
      have HN2 := Lib.hid (show newM [rootNd] 0 l = (0, 0, F) by rw [HNEW.out, List.drop_of_length_le (by rw [HLN.out]; exact Nat.le_refl _)]; rfl)
      go_wp2_with fail
      go_ret3
      refine ⟨?_, HBE.out⟩
      rw [if_neg (by rw [← HLN.out]; exact h64), HN2.out, if_neg (by simp)]
      exact ⟨_, R, cp, L, rfl, HF.out⟩

end Go.Proofs.YtkkmcnngpahfaaaGreatDoor
