/- The table's statements: vast, made of too few, does, behind. -/
import Derived.Test.YtmkgdgfbdmjeeaaGreatDoorTsD
import Derived.Test.YtmkgdgfbdmjeeaaGreatDoorTsG
import Derived.Test.YtmkgdgfbdmjeeaaGreatDoorTsI
import Derived.Test.YtmkgdgfbdmjeeaaGreatDoorPrA
namespace Go.Proofs.YtmkgdgfbdmjeeaaGreatDoor
open Go.RowKit Go.Sort
set_option linter.unusedSimpArgs false
set_option linter.unusedVariables false

theorem vast_no (n : Int) (A : Option Addr) (k cap : Nat) (w : World) (hn : n ≤ 96) (hk : (k : Int) ≤ 120) : Calls Tryz.prog 7 #[.int .i64 n, .slice A k cap] w fun e w' => e = .returned (.bool false) ∧ w = w' := by
  go_enter Tryz.func7, Tryz.ntmps7
  go_wp2_with fail
  go_ret
  exact ⟨ret_bool (a := decide (96 < n) || decide (120 < (k : Int))) (by simp; omega), rfl⟩
theorem vast_yes (n : Int) (A : Option Addr) (k cap : Nat) (w : World) (h : 96 < n ∨ (120 : Int) < (k : Int)) : Calls Tryz.prog 7 #[.int .i64 n, .slice A k cap] w fun e w' => e = .returned (.bool true) ∧ w = w' := by
  by_cases h1 : 96 < n
  · clear h
    go_enter Tryz.func7, Tryz.ntmps7
    go_wp2_with fail
    go_ret
    exact ⟨rfl, rfl⟩
  · have h2 : (120 : Int) < (k : Int) := by omega
    have h3 : n ≤ 96 := by omega
    clear h
    go_enter Tryz.func7, Tryz.ntmps7
    go_wp2_with fail
    go_ret
    exact ⟨rfl, rfl⟩
theorem fnew_bad (n : Int) (w : World) (h : n < 1) : Calls Tryz.prog 36 #[.int .i64 n] w fun e w' => e = .returned (.tuple #[.pointer none, .int .i64 1]) ∧ w = w' := by
  go_enter Tryz.func36, Tryz.ntmps36
  go_wp2_with fail
  go_ret2
  exact ⟨rfl, rfl⟩
theorem made_bad (n : Int) (w : World) (h : n < 1) (hw0 : 0 < w.heap.size) : Calls Tryz.prog 9 #[.int .i64 n] w fun e w' => e = .returned (.tuple #[.pointer none, .bool true]) ∧ Below w.heap.size w w' := by
  go_enter Tryz.func9, Tryz.ntmps9
  go_wp2_with (first
    | (go_at_call 35; refine (file_any _).mono ?_; rintro e w1 ⟨b, g, rfl, hE, hA, hg, hb1⟩; have HE := Lib.hid hE; have HA := Lib.hid hA; have HB1 := Lib.hid hb1; clear hE hA hb1)
    | (go_at_call 34; refine (vnew_a b 8201 8201 ⟨g, 0, none⟩ fileDat _ HE.out HA.out hg (by omega) (by omega)).mono ?_; rintro e w2 ⟨fs, rfl, hF, hb2⟩; have hB2 := HB1.out.trans (hb2.mono HB1.out.size); have HB2 := Lib.hid hB2; clear hF hb2 hB2)
    | (go_at_call 36; refine (fnew_bad n _ h).mono ?_; rintro e w3 ⟨rfl, rfl⟩))
  go_ret2
  exact ⟨rfl, HB2.out⟩

theorem does_any (B o a c fs m t root n k : Nat) (op : Op) (w : World) (S : Nat → Prop) (s : Sta) (H : Option Addr) (cap : Nat) (h : RunAt w B o a c fs m t root S s H cap) (hf : s.Fine root n k) (hk : k ≤ 100000) (hop : op.Ok) (h7 : op.kind ≠ 7) :
    Calls Tryz.prog 11 #[.pointer (some ⟨o, 0, none⟩), op.val] w (DoesPost w B o a c fs m t root S H op s) := by
  obtain ⟨K, A, fr, q, cp, N⟩ := op
  simp only at h7
  have hc : K = 0 ∨ K = 1 ∨ K = 2 ∨ K = 3 ∨ K = 4 ∨ K = 5 ∨ K = 6 ∨ (K < 0 ∨ 7 < K) := by omega
  rcases hc with rfl | rfl | rfl | rfl | rfl | rfl | rfl | hK
  · exact does_map B o a c fs m t root n k A fr q N cp w S s H cap h hf hk hop
  · exact does_unmap B o a c fs m t root n k A fr q N cp w S s H cap h hf hk hop
  · exact does_set B o a c fs m t root n k A fr q N cp w S s H cap h hf hk hop
  · exact does_find B o a c fs m t root n k A fr q N cp w S s H cap h hf hk hop
  · exact does_take B o a c fs m t root n k A fr q N cp w S s H cap h hf hk
  · exact does_get B o a c fs m t root n k A fr q N cp w S s H cap h hf hk hop
  · by_cases hN : N < 0 ∨ (s.hold.length : Int) ≤ N
    · exact does_giveNo B o a c fs m t root n k A fr q N cp w S s H cap h hf hk hN
    · obtain ⟨i, rfl⟩ : ∃ i : Nat, N = (i : Int) := ⟨N.toNat, by omega⟩
      have hi : i < s.hold.length := by omega
      exact does_give B o a c fs m t root n k i s.hold[i] A fr q cp w S s H cap h hf hk (List.getElem?_eq_getElem hi)
  · exact does_other B o a c fs m t root n k K A fr q N cp w S s H cap h hf hK

def BehindPost (w : World) (n len : Nat) (e : Ending) (w' : World) : Prop :=
  ∃ B o a c fs m t S s H cap, e = .returned (.tuple #[.pointer (some ⟨o, 0, none⟩), .bool true]) ∧ RunAt w' B o a c fs m t 0 S s H cap ∧ s.Fine 0 n len ∧ Below w.heap.size w w' ∧ w.heap.size ≤ B
theorem start_fine {n : Nat} (h1 : 1 ≤ n) (h2 : n ≤ 1024) : (Sta.mk ((fresh n).takeAt 0) (rootTab 0) [] 0 []).Fine 0 n 0 :=
  ⟨rootTab_good h1 h2, rootTab_root 0, (by unfold Sole; exact List.Pairwise.nil), rfl, ⟨Nat.le_refl _, Nat.le_refl _, Int.le_refl _, Int.le_refl _⟩, (fun f hf => by cases hf), (fun f hf => by cases hf), (fun f hf => by cases hf)⟩
theorem made_run {w : World} {n B o a c fs m t : Nat} {S : Nat → Prop} (hown : OwnAt w B o a c fs m t 0 0 S ((fresh n).takeAt 0) [] none 0 []) (hf : ∃ w1, w1.heap.size = B ∧ FilesAt w1 fs 8201 fileDat ∧ Below B w1 w) : RunAt w B o a c fs m t 0 S ⟨(fresh n).takeAt 0, rootTab 0, [], 0, []⟩ none 0 :=
  ⟨hown, OwnN.nil _ _, (fun b hb => by cases hb), hf⟩

set_option maxRecDepth 100000 in
set_option maxHeartbeats 4000000 in
theorem behind_any (n len cap : Nat) (A : Option Addr) (l : List Op) (w : World) (h1 : 1 ≤ n) (h2 : n ≤ 1024) (hl : OSl w w.heap.size A len cap l) (hlen : len ≤ 1000) (hdb : DB w) (hw0 : 0 < w.heap.size) :
    Calls Tryz.prog 27 #[.int .i64 (n : Int), .slice A len cap] w (BehindPost w n len) := by
  have hmade := made_any n w h1 h2 hdb hw0
  have HMADE := Lib.hid hmade
  have HL := Lib.hid hl
  clear hmade hl hdb
  go_enter Tryz.func27, Tryz.ntmps27
  go_wp2_with fail
  refine (HMADE.out).mono ?_
  rintro e w1 ⟨B, o, a, c, fs, m, t, S, rfl, hown, hb1, hB, hfl⟩
  have HRUN := Lib.hid (made_run hown hfl)
  have HB1 := Lib.hid hb1
  clear hown hfl hb1 HMADE
  go_wp2_with fail
  go_loopw [8] (fun i wr => ∃ (k : Nat) (S : Nat → Prop) (s : Sta) (H : Option Addr) (cp : Nat), i = .int .i64 (k : Int) ∧ k ≤ len ∧ RunAt wr B o a c fs m t 0 S s H cp ∧ s.Fine 0 n k ∧ Below w.heap.size w wr) (fun i _ => len - (intOf i).toNat)
  case atStart => exact ⟨0, S, _, none, 0, rfl, Nat.zero_le _, HRUN.out, start_fine h1 h2, HB1.out⟩
  case round =>
    obtain ⟨k, S, s, H, cp, rfl, hk, hrun, hfine, hbel⟩ := hrel
    have HR := Lib.hid hrun
    have HBE := Lib.hid hbel
    clear hrun hbel
    by_cases hlt : k < len
    · obtain ⟨x, hx⟩ : ∃ x, l[k]? = some x := ⟨l[k]'(by rw [HL.out.len]; exact hlt), List.getElem?_eq_getElem _⟩
      obtain ⟨b, off, rfl, hbw, hat⟩ := HL.out.at_ k x hx
      have hok := HL.out.ok x (List.mem_of_getElem? hx)
      have hat2 := hat.below HBE.out hbw
      obtain ⟨c0, c1, c2, c3, c4, c5⟩ := hat2
      have HOK := Lib.hid hok
      clear hat hx hok
      obtain ⟨K, AA, fr, q, cpy, N⟩ := x
      simp only at c0 c1 c2 c3 c4 c5
      by_cases h7 : K = 7
      · subst h7
        go_wp2_with fail
        go_roundw
        case rel => exact ⟨k + 1, S, s, H, cp, by go_num, by omega, HR.out, ⟨hfine.good, hfine.root, hfine.sole, hfine.size, ⟨by have := hfine.few; omega, by have := hfine.few; omega, by have := hfine.few; omega, by have := hfine.few; omega⟩, hfine.low, hfine.slow, hfine.keys⟩, HBE.out⟩
        case measure => (simp [intOf]; omega)
      · have hdo := does_any B o a c fs m t 0 n k ⟨K, AA, fr, q, cpy, N⟩ wr S s H cp HR.out hfine (by omega) HOK.out h7
        have hdo' : Calls Tryz.prog 11 #[.pointer (some ⟨o, 0, none⟩), .agg #[.int .i64 K, .int .u64 AA, .int .i64 fr, .int .u8 q, .bool cpy, .int .i64 N]] wr (DoesPost wr B o a c fs m t 0 S H ⟨K, AA, fr, q, cpy, N⟩ s) := hdo
        have HDO := Lib.hid hdo'
        have k7 : (K != 7) = true := by rw [bne_iff_ne]; exact h7
        clear hdo hdo' h7
        go_wp2_with (first
          | (go_at_call 11; refine (HDO.out).mono ?_; rintro e w2 ⟨y, s', S', H', cap', rfl, hrun2, hb2, hres⟩; have HR2 := Lib.hid hrun2; have HB2 := Lib.hid (HR.out.belowOf hb2); have HRES := Lib.hid hres; clear hrun2 hb2 hres)
          | fail)
        go_roundw
        case rel => exact ⟨k + 1, S', s', H', cap', by go_num, by omega, HR2.out, hfine.step HOK.out HRES.out, HBE.out.trans (HB2.out.mono hB)⟩
        case measure => (simp [intOf]; omega)
    · obtain rfl : k = len := by omega
      go_wp2_with fail
      go_ret2
      exact ⟨B, o, a, c, fs, m, t, S, s, H, cp, rfl, HR.out, hfine, HBE.out, hB⟩

end Go.Proofs.YtmkgdgfbdmjeeaaGreatDoor
