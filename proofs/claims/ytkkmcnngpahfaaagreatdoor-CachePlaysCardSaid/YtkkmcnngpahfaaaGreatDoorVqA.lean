/- The cache's laws: what comes in: entries; Great. -/
import Derived.Test.YtkkmcnngpahfaaaGreatDoorVpZ
import Derived.Lib.MinMax
import Derived.IntWalk
namespace Go.Proofs.YtkkmcnngpahfaaaGreatDoor
open Go.RowKit Go.Sort
set_option linter.unusedSimpArgs false
set_option linter.unusedVariables false

/-- Entries as they come in: a row at an address. -/
def EntCell (w : World) (b o : Nat) (x : Ent) (A : Option Addr) (c : Nat) : Prop :=
  w.cell? ⟨b, o, none⟩ = some (.string x.path) ∧ w.cell? ⟨b, o + 1, none⟩ = some (.int .u8 (x.kind : Int)) ∧ w.cell? ⟨b, o + 2, none⟩ = some (.int .u16 (x.mode : Int)) ∧ w.cell? ⟨b, o + 3, none⟩ = some (.int .u32 (x.uid : Int)) ∧
  w.cell? ⟨b, o + 4, none⟩ = some (.int .u32 (x.gid : Int)) ∧ w.cell? ⟨b, o + 5, none⟩ = some (.slice A x.n c) ∧ w.cell? ⟨b, o + 6, none⟩ = some (.string x.to)
/-- What is in range of a machine. -/
structure EntFit (x : Ent) : Prop where
  path : x.path.size ≤ 9223372036854775807
  link : x.to.size ≤ 9223372036854775807
  n : x.n ≤ 9223372036854775807
  mode : x.mode < 65536
  dat : ∀ i, x.dat i < 256
def EntsIn (w : World) (P : Option Addr) (l : List Ent) : Prop := ∀ (j : Nat) (x : Ent), l[j]? = some x → ∃ b off A c, P = some ⟨b, off, none⟩ ∧ EntCell w b (off + j * 7) x A c ∧ BytesV w A x.n x.dat ∧ SliceOk A x.n c ∧ EntFit x
theorem EntsIn.below {w w' : World} {P : Option Addr} {l : List Ent} (h : EntsIn w P l) (hb : Below w.heap.size w w') : EntsIn w' P l := fun j x hx => by
  obtain ⟨b, off, A, c, h1, ⟨c0, c1, c2, c3, c4, c5, c6⟩, h4, h5, h6⟩ := h j x hx
  have hl : b < w.heap.size := World.block_lt_of_cell? _ _ c0
  have hc : ∀ i, w'.cell? ⟨b, i, none⟩ = w.cell? ⟨b, i, none⟩ := fun i => hb.cell (p := ⟨b, i, none⟩) hl
  refine ⟨b, off, A, c, h1, ⟨?_, ?_, ?_, ?_, ?_, ?_, ?_⟩, h4.kept hb, h5, h6⟩
  all_goals (rw [hc]; assumption)

def cap20 (k : Nat) : Nat := min k 1048576
def entW (x : Ent) : Nat := cap20 x.n + cap20 x.path.size + cap20 x.to.size
/-- Is the sum greater than half a MiB at any time? -/
def greatN : Nat → List Ent → Bool
  | _, [] => false
  | s, x :: l => if 524288 < s + entW x then true else greatN (s + entW x) l
theorem greatN_small {l : List Ent} : ∀ {s : Nat}, greatN s l = false → ∀ x ∈ l, entW x ≤ 524288 := by
  induction l with
  | nil => intro s _ x hx; cases hx
  | cons y l ih =>
    intro s h x hx
    unfold greatN at h
    split at h
    · cases h
    · rcases List.mem_cons.1 hx with rfl | h2
      · omega
      · exact ih h x h2
theorem entW_small {x : Ent} (h : entW x ≤ 524288) : x.n ≤ 524288 ∧ x.path.size ≤ 524288 ∧ x.to.size ≤ 524288 := by
  unfold entW cap20 at h
  omega

set_option maxRecDepth 100000 in
set_option maxHeartbeats 2000000 in
theorem great_any (P : Option Addr) (n cap : Nat) (l : List Ent) (w : World) (hl : EntsIn w P l) (hn : n = l.length) (hn2 : n ≤ 128) :
    Calls Tryz.prog 58 #[.slice P n cap] w fun e w' => e = .returned (.bool (greatN 0 l)) ∧ Below w.heap.size w w' := by
  obtain ⟨gb, hgb⟩ : ∃ gb, gb = greatN 0 l := ⟨_, rfl⟩
  rw [← hgb]
  have HGB := Lib.hid hgb
  have HL0 := Lib.hid hl
  have HN := Lib.hid hn
  clear hl hn hgb
  go_enter Tryz.func58, Tryz.ntmps58
  go_wp2_with fail
  go_loopw [3, 4] (fun sv i wr => ∃ k s : Nat, k ≤ n ∧ i = .int .i64 (k : Int) ∧ sv = .int .i64 (s : Int) ∧ s ≤ 524288 ∧ gb = greatN s (l.drop k) ∧ Below w.heap.size w wr) (fun _ i _ => n - (intOf i).toNat)
  case atStart => exact ⟨0, 0, by omega, rfl, rfl, by omega, HGB.out, Below.refl _ _⟩
  case round =>
    obtain ⟨k, s, hk, rfl, rfl, hs, hg, hbe⟩ := hrel
    have HG := Lib.hid hg
    have HBE := Lib.hid hbe
    clear hg hbe
    by_cases hlt : k < n
    · obtain ⟨x, hx⟩ : ∃ x, l[k]? = some x := ⟨_, List.getElem?_eq_getElem (by rw [← HN.out]; exact hlt)⟩
      have hdrop : l.drop k = x :: l.drop (k + 1) := (List.drop_eq_getElem_cons (by rw [← HN.out]; exact hlt)).trans (by
        obtain ⟨h1, h2⟩ := List.getElem?_eq_some_iff.1 hx
        rw [h2])
      obtain ⟨bb, off, A, c, rfl, ⟨c0, c1, c2, c3, c4, c5, c6⟩, _, _, hfit'⟩ := (HL0.out.below HBE.out) k x hx
      have HDR := Lib.hid hdrop
      obtain ⟨a, ha⟩ : ∃ a, a = cap20 x.n := ⟨_, rfl⟩
      obtain ⟨b, hb⟩ : ∃ b, b = cap20 x.path.size := ⟨_, rfl⟩
      obtain ⟨d, hd⟩ : ∃ d, d = cap20 x.to.size := ⟨_, rfl⟩
      have ha2 : a ≤ 1048576 := by rw [ha]; unfold cap20; omega
      have hb2 : b ≤ 1048576 := by rw [hb]; unfold cap20; omega
      have hd2 : d ≤ 1048576 := by rw [hd]; unfold cap20; omega
      have HSUM : Hid (s + entW x = s + a + b + d) := Lib.hid (by unfold entW; omega)
      have f1 := hfit'.n
      have f2 := hfit'.path
      have f3 := hfit'.link
      have i1 : min (x.n : Int) 1048576 = (a : Int) := by rw [ha]; unfold cap20; omega
      have i2 : min (x.path.size : Int) 1048576 = (b : Int) := by rw [hb]; unfold cap20; omega
      have i3 : min (x.to.size : Int) 1048576 = (d : Int) := by rw [hd]; unfold cap20; omega
      have j1 : IntKind.i64.wrap ((s : Int) + (a : Int)) = (s : Int) + (a : Int) := IntWalk.i64_in _ (by omega)
      have j2 : IntKind.i64.wrap ((s : Int) + (a : Int) + (b : Int)) = (s : Int) + (a : Int) + (b : Int) := IntWalk.i64_in _ (by omega)
      have j3 : IntKind.i64.wrap ((s : Int) + (a : Int) + (b : Int) + (d : Int)) = (s : Int) + (a : Int) + (b : Int) + (d : Int) := IntWalk.i64_in _ (by omega)
      have hkn : (k : Int) < (n : Int) := by omega
      clear c1 c2 c3 c4 hx hdrop hfit' ha hb hd
      go_upto_region 7 with (fail)
      go_region_held3 (fun w' => w'.cell? ⟨bb, off + k * 7, none⟩ = some (.string x.path) ∧ w'.cell? ⟨bb, off + k * 7 + 5, none⟩ = some (.slice A x.n c) ∧ w'.cell? ⟨bb, off + k * 7 + 6, none⟩ = some (.string x.to)) (go_keep) (fail)
      all_goals
        by_cases hgt : (524288 : Int) < (s : Int) + (a : Int) + (b : Int) + (d : Int)
        · have HG2 : Hid (gb = true) := Lib.hid (by rw [HG.out, HDR.out, greatN, if_pos (by rw [HSUM.out]; omega)])
          go_wp2_with fail
          go_ret
          exact ⟨by rw [HG2.out]; rfl, HBE.out.drew⟩
        · have HG2 : Hid (gb = greatN (s + a + b + d) (l.drop (k + 1))) := Lib.hid (by rw [HG.out, HDR.out, greatN, HSUM.out, if_neg (by omega)])
          go_wp2_with fail
          go_roundw
          case rel => exact ⟨k + 1, s + a + b + d, by omega, by go_num, by go_num, by omega, HG2.out, HBE.out.drew⟩
          case measure => simp [intOf]; omega
    · obtain rfl : k = n := by omega
      have HG2 : Hid (gb = false) := Lib.hid (by rw [HG.out, List.drop_of_length_le (by rw [HN.out]; exact Nat.le_refl _)]; rfl)
      go_wp2_with fail
      go_ret
      exact ⟨by rw [HG2.out]; rfl, HBE.out⟩

end Go.Proofs.YtkkmcnngpahfaaaGreatDoor
