/- Regions: Protect of the references. -/
import Derived.Test.YtdkhgofnhemhmaaCutC
import Derived.Lib.SmallJoins
namespace Go.Proofs.Ytdkhgofnhemhmaa
open Go.RowKit Go.Sort
set_option linter.unusedSimpArgs false
set_option linter.unusedVariables false

def Rg.protTo (l : List Reg) (f t p : Int) (k : Nat) : List Reg := (Rg.mids f t p (l.take k)).foldl Rg.ins (Rg.without l f t)
theorem protTo_zero (l : List Reg) (f t p : Int) : Rg.protTo l f t p 0 = Rg.without l f t := rfl
theorem protTo_skip {l : List Reg} {f t p : Int} {k : Nat} {x : Reg} (hx : l[k]? = some x) (h : x.to ≤ f ∨ t ≤ x.fr) : Rg.protTo l f t p (k + 1) = Rg.protTo l f t p k := by
  unfold Rg.protTo
  rw [mids_take hx, Rg.mid1, if_pos h, List.append_nil]
theorem protTo_on {l : List Reg} {f t p : Int} {k : Nat} {x : Reg} (hx : l[k]? = some x) (h : ¬ (x.to ≤ f ∨ t ≤ x.fr)) : Rg.protTo l f t p (k + 1) = Rg.ins (Rg.protTo l f t p k) (Rg.mid f t p x) := by
  unfold Rg.protTo
  rw [mids_take hx, Rg.mid1, if_neg h, List.foldl_append]
  rfl
theorem protTo_all {l : List Reg} {f t p : Int} {k : Nat} (hk : l.length ≤ k) : Rg.protTo l f t p k = Rg.prot l f t p := by
  unfold Rg.protTo Rg.prot
  rw [List.take_of_length_le hk]
theorem newbox1 (w : World) (o : Obj) : (w.alloc o).drew.heap[w.heap.size]? = some o := by
  show (w.heap.push o)[w.heap.size]? = some o
  simp
theorem newbox2 (w : World) (o : Obj) : (w.drew.alloc o).heap[w.heap.size]? = some o := by
  show (w.heap.push o)[w.heap.size]? = some o
  simp
theorem box_all {w : World} {b : Nat} {v0 v1 v2 v3 v4 : Value} (h : w.heap[b]? = some (.cells #[v0, v1, v2, v3, v4] 25 (0, 0))) : (w.cell? ⟨b, 0, none⟩ = some v0 ∧ w.cell? ⟨b, 1, none⟩ = some v1 ∧ w.cell? ⟨b, 2, none⟩ = some v2 ∧ w.cell? ⟨b, 3, none⟩ = some v3 ∧ w.cell? ⟨b, 4, none⟩ = some v4) ∧ w.frozen? ⟨b, 0, none⟩ = false ∧ w.frozen? ⟨b, 1, none⟩ = false ∧ w.frozen? ⟨b, 2, none⟩ = false ∧ w.frozen? ⟨b, 3, none⟩ = false ∧ w.frozen? ⟨b, 4, none⟩ = false :=
  ⟨⟨one_block h 0, one_block h 1, one_block h 2, one_block h 3, one_block h 4⟩, by simp [World.frozen?, h]⟩
theorem box_set2 {w : World} {b : Nat} {v0 v1 v2 v3 v4 : Value} {T : TypeId} (h : w.heap[b]? = some (.cells #[v0, v1, v2, v3, v4] T (0, 0))) (u : Value) : (w.setCell ⟨b, 2, none⟩ u).heap[b]? = some (.cells #[v0, v1, u, v3, v4] T (0, 0)) := by
  have := Joins.block_setCell (i := 2) h u
  simpa using this
theorem box5 {w : World} {b : Nat} {v0 v1 v2 v3 v4 : Value} {T : TypeId} (h : w.heap[b]? = some (.cells #[v0, v1, v2, v3, v4] T (0, 0))) (u0 u1 u2 u3 u4 : Value) : (((((w.setCell ⟨b, 0, none⟩ u0).setCell ⟨b, 1, none⟩ u1).setCell ⟨b, 2, none⟩ u2).setCell ⟨b, 3, none⟩ u3).setCell ⟨b, 4, none⟩ u4).heap[b]? = some (.cells #[u0, u1, u2, u3, u4] T (0, 0)) := by
  have := Joins.block_setCell (i := 4) (Joins.block_setCell (i := 3) (Joins.block_setCell (i := 2) (Joins.block_setCell (i := 1) (Joins.block_setCell (i := 0) h u0) u1) u2) u3) u4
  simpa using this
theorem newbox0 (w : World) (o : Obj) : (w.alloc o).heap[w.heap.size]? = some o := newbox1 w o
theorem exit_gen {K : Act → World → Prop} {R : Exit → Act → World → Prop} {e : Exit} {a : Act} {W : World} (h : ∀ W', W' = W → Exit.then K R e a W') : Exit.then K R e a W := h W rfl
theorem zero_box {w : World} {b : Nat} (h : w.heap[b]? = some (.cells #[.int .u64 0, .int .u64 0, .int .u8 0, .int .i64 0, .int .u64 0] 25 (0, 0))) : (w.cell? ⟨b, 0, none⟩ = some (.int .u64 0) ∧ w.cell? ⟨b, 1, none⟩ = some (.int .u64 0) ∧ w.cell? ⟨b, 2, none⟩ = some (.int .u8 0) ∧ w.cell? ⟨b, 3, none⟩ = some (.int .i64 0) ∧ w.cell? ⟨b, 4, none⟩ = some (.int .u64 0)) ∧ w.frozen? ⟨b, 0, none⟩ = false ∧ w.frozen? ⟨b, 1, none⟩ = false ∧ w.frozen? ⟨b, 2, none⟩ = false ∧ w.frozen? ⟨b, 3, none⟩ = false ∧ w.frozen? ⟨b, 4, none⟩ = false :=
  ⟨⟨one_block h 0, one_block h 1, one_block h 2, one_block h 3, one_block h 4⟩, by simp [World.frozen?, h]⟩
theorem foldl_ins_len (M B : List Reg) : (M.foldl Rg.ins B).length = B.length + M.length := by
  induction M generalizing B with
  | nil => rfl
  | cons m M ih => rw [List.foldl_cons, ih, ins_len, List.length_cons]; omega
theorem mids_len (f t p : Int) (l : List Reg) : (Rg.mids f t p l).length ≤ l.length := by
  induction l with
  | nil => simp [Rg.mids]
  | cons x l ih =>
    have h1 : (Rg.mid1 f t p x).length ≤ 1 := by unfold Rg.mid1; split <;> simp
    simp only [Rg.mids, List.flatMap_cons, List.length_append, List.length_cons] at *
    omega
theorem protTo_len (l : List Reg) (f t p : Int) (k : Nat) : (Rg.protTo l f t p k).length ≤ 3 * l.length := by
  unfold Rg.protTo
  rw [foldl_ins_len]
  have h1 := without_len l f t
  have h2 := mids_len f t p (l.take k)
  have h3 : (l.take k).length ≤ l.length := by rw [List.length_take]; omega
  omega

set_option maxHeartbeats 40000000 in
set_option maxRecDepth 100000 in
theorem rprotect_any (A : Option Addr) (n cap : Nat) (f t p : Int) (w : World) (l : List Reg) (hl : RSl w w.heap.size A n cap l) (hok : AllOk l) (h0 : 0 ≤ f) (h1 : f ≤ 18446744073709551615) (h2 : 0 ≤ t) (h3 : t ≤ 18446744073709551615) :
    Calls Try.prog 28 #[.slice A n cap, .int .u64 f, .int .u64 t, .int .u8 p] w (ListPost w (Rg.protect l f t p)) := by
  have hln := Lib.hid hl.len
  have hS := rstretch_any A n cap f t _ l hl hok h0 h1 h2 h3
  cases hst : Rg.stretch l f t with
  | false =>
    have HP : Hid (Rg.protect l f t p = ([], 1)) := Lib.hid (by simp [Rg.protect, hst])
    rw [hst] at hS
    have HS := Lib.hid hS
    clear hS hst hl
    go_enter Try.func28, Try.ntmps28
    go_wp2_with (go_at_call 46; refine (HS.out).mono ?_; rintro e w1 ⟨rfl, hb1⟩)
    go_ret2
    rw [HP.out]
    exact ⟨none, 0, rfl, OwnR.nil _ _, by ((repeat' (with_reducible (first | assumption | (refine Below.alloc ?_ ?_ _) | (refine Below.setCell ?_ ?_ _) | (refine Below.drew ?_) | (refine below_drewN ?_ _) | exact Below.refl _ _ | (refine Below.trans ?_ (Below.mono (by assumption) ?_))))) <;> (try simp) <;> (try omega))⟩
  | true =>
    obtain ⟨hr, hft, _⟩ := stretch_spec hst
    have h64 := (right_all hr).2
    have hap := right_apart hr
    rw [hst] at hS
    have HS := Lib.hid hS
    by_cases hp : p ≤ 7
    · have HP : Hid (Rg.protect l f t p = if Rg.cov l f t = true then Rg.few (Rg.joined (Rg.prot l f t p)) else ([], 6)) := Lib.hid (by simp [Rg.protect, hst, hp, prot_law (right_one hr) hok hap hft])
      have hC := fun W (h : RSl W W.heap.size A n cap l) => covered_any A n cap f t W l h
      cases hcv : Rg.cov l f t with
      | false =>
        rw [hcv] at hC
        have HC := Lib.hid hC
        have HQ : Hid (Rg.protect l f t p = ([], 6)) := Lib.hid (by rw [HP.out, hcv]; simp)
        clear hC hcv hr hap hst hS HP
        go_enter Try.func28, Try.ntmps28
        go_wp2_with fail
        refine (HS.out).mono ?_
        rintro e w1 ⟨rfl, hb1⟩
        have hz1 := hb1.size
        have hl1 := (hl.below hb1 (Nat.le_refl _)).more hb1.size
        go_wp2_with fail
        refine (HC.out _ hl1).mono ?_
        rintro e w2 ⟨rfl, hb2⟩
        go_wp2_with fail
        go_ret2
        rw [HQ.out]
        exact ⟨none, 0, rfl, OwnR.nil _ _, by ((repeat' (with_reducible (first | assumption | (refine Below.alloc ?_ ?_ _) | (refine Below.setCell ?_ ?_ _) | (refine Below.drew ?_) | (refine below_drewN ?_ _) | exact Below.refl _ _ | (refine Below.trans ?_ (Below.mono (by assumption) ?_))))) <;> (try simp) <;> (try omega))⟩
      | true =>
        rw [hcv] at hC
        have HC := Lib.hid hC
        have HQ : Hid (Rg.protect l f t p = Rg.few (Rg.joined (Rg.prot l f t p))) := Lib.hid (by rw [HP.out, if_pos hcv])
        clear hC hcv hr hap hst hS HP
        have hwl := without_len l f t
        go_enter Try.func28, Try.ntmps28
        go_wp2_with fail
        refine (HS.out).mono ?_
        rintro e w1 ⟨rfl, hb1⟩
        have hz1 := hb1.size
        have hl1 := (hl.below hb1 (Nat.le_refl _)).more hb1.size
        go_wp2_with fail
        refine (HC.out _ hl1).mono ?_
        rintro e w2 ⟨rfl, hb2⟩
        have hz2 := hb2.size
        have hl2 := (hl1.below hb2 (Nat.le_refl _)).more hb2.size
        go_wp2_with fail
        refine (without_any f t A n cap w2 l hl2 (by have := hln.out; omega)).mono ?_
        rintro e w3 ⟨A3, c3, rfl, ho3, hb3⟩
        have hz3 := hb3.size
        have hq3 : Below w.heap.size w w3 := (hb1.trans (hb2.mono (by omega))).trans (hb3.mono (by omega))
        have HO3 := Lib.hid ho3
        clear ho3 hl1 hl2
        go_wp2_with fail
        go_loopw [10, 11] (fun v i wr => ∃ k : Nat, k ≤ n ∧ i = .int .i64 k ∧ Below w.heap.size w wr ∧ ∃ A cap, v = .slice A (Rg.protTo l f t p k).length cap ∧ OwnR wr w.heap.size A cap (Rg.protTo l f t p k)) (fun _ i _ => n - (intOf i).toNat)
        case atStart => exact ⟨0, Nat.zero_le _, rfl, hq3, A3, c3, rfl, HO3.out.lower (by omega)⟩
        case round =>
          obtain ⟨k, hk, rfl, hB, A4, c4, rfl, ho⟩ := hrel
          have hBs := hB.size
          have hpl := protTo_len l f t p k
          by_cases hlt : k < n
          · obtain ⟨x, hx⟩ : ∃ x, l[k]? = some x := ⟨_, List.getElem?_eq_getElem (by have := hln.out; omega)⟩
            obtain ⟨b, off, rfl, hb, hra⟩ := hl.at_ k x hx
            obtain ⟨g0, g1, g2, g3, g4⟩ := hra.below hB hb
            have hkn : (k : Int) < (n : Int) := by omega
            have hn64 : n ≤ 64 := by have := hln.out; omega
            have hk64 : (k : Int) < 64 := by omega
            have hi1 : IntKind.i64.wrap ((k : Int) + 1) = (k : Int) + 1 := IntWalk.i64_in _ (by omega)
            have hk0 : (0 : Int) ≤ (k : Int) := by omega
            have hbw : b < wr.heap.size := by omega
            have hbne : ¬ b = wr.heap.size := by omega
            have hbne' : ¬ wr.heap.size = b := by omega
            by_cases hc : x.to ≤ f ∨ t ≤ x.fr
            · have hsk := Lib.hid (protTo_skip (p := p) hx hc)
              generalize hacc : Rg.protTo l f t p k = acc at *
              generalize hm : acc.length = m at *
              have HM := Lib.hid hm
              have HO := Lib.hid ho
              clear hx hra ho hacc hm hpl
              by_cases c1 : x.to ≤ f
              · clear hc
                go_wp2
                go_roundw
                case rel => exact ⟨k + 1, by omega, by go_num, hB, A4, c4, by rw [hsk.out, HM.out], by rw [hsk.out]; exact HO.out⟩
                case measure => simp [intOf]; omega
              · have c2 : t ≤ x.fr := by omega
                clear hc
                go_wp2
                go_roundw
                case rel => exact ⟨k + 1, by omega, by go_num, hB, A4, c4, by rw [hsk.out, HM.out], by rw [hsk.out]; exact HO.out⟩
                case measure => simp [intOf]; omega
            · have hon := Lib.hid (protTo_on (p := p) hx hc)
              have hrs := ho.rsl (by omega)
              generalize hacc : Rg.protTo l f t p k = acc at *
              have hml : acc.length ≤ 192 := by omega
              have HRS := Lib.hid hrs
              have HO := Lib.hid ho
              have c1 : ¬ x.to ≤ f := by omega
              have c2 : ¬ t ≤ x.fr := by omega
              clear hx hra ho hacc hc hpl hrs
              go_wp2_with fail
              go_region_held3 (fun w' => w'.cell? ⟨b, off + k * 5, none⟩ = some (.int .u64 x.fr) ∧ w'.cell? ⟨b, off + k * 5 + 1, none⟩ = some (.int .u64 x.to) ∧ w'.cell? ⟨b, off + k * 5 + 2, none⟩ = some (.int .u8 x.prot) ∧ w'.cell? ⟨b, off + k * 5 + 3, none⟩ = some (.int .i64 x.ino) ∧ w'.cell? ⟨b, off + k * 5 + 4, none⟩ = some (.int .u64 x.off) ∧ b < w'.heap.size)
                (simp [*, World.cell?_alloc_some, World.cell?_setCell_far] <;> omega)
                ((go_at_call 49; refine (rpart_any x _ _ _).mono ?_; rintro e w5 ⟨rfl, hb5⟩; have hz5 := hb5.size; have hz5w : wr.heap.size ≤ w5.heap.size := Nat.le_trans (by simp) hz5; have hlt5 : b < w5.heap.size := Nat.lt_of_lt_of_le (by simp <;> omega) hz5; have x0 := hb5.cell (p := ⟨b, off + k * 5, none⟩) (by simp <;> omega); have x1 := hb5.cell (p := ⟨b, off + k * 5 + 1, none⟩) (by simp <;> omega); have x2 := hb5.cell (p := ⟨b, off + k * 5 + 2, none⟩) (by simp <;> omega); have x3 := hb5.cell (p := ⟨b, off + k * 5 + 3, none⟩) (by simp <;> omega); have x4 := hb5.cell (p := ⟨b, off + k * 5 + 4, none⟩) (by simp <;> omega); have hne5 : ¬ b = w5.heap.size := (by omega); have hne5' : ¬ w5.heap.size = b := (by omega); (first | (have hx5 : w5.heap[wr.heap.size]? = some (.cells #[.int .u64 0, .int .u64 0, .int .u8 0, .int .i64 0, .int .u64 0] 25 (0, 0)) := (hb5.block wr.heap.size (by solve | simp)).trans (by first | exact newbox1 _ _ | exact newbox2 _ _); obtain ⟨⟨y0, y1, y2, y3, y4⟩, z0, z1, z2, z3, z4⟩ := zero_box hx5) | skip)))
              · refine exit_gen ?_
                intro W6 hW6
                (
                 have hx6 : W6.heap[w5.heap.size]? = some (.cells #[.int .u64 (Rg.mid f t p x).fr, .int .u64 (Rg.mid f t p x).to, .int .u8 x.prot, .int .i64 (Rg.mid f t p x).ino, .int .u64 (Rg.mid f t p x).off] 25 (0, 0)) := (by rw [hW6]; exact newbox0 _ _)
                 have hb6 : Below wr.heap.size wr W6 := (by rw [hW6]; ((repeat' (with_reducible (first | assumption | (refine Below.alloc ?_ ?_ _) | (refine Below.setCell ?_ ?_ _) | (refine Below.drew ?_) | (refine below_drewN ?_ _) | exact Below.refl _ _ | (refine Below.trans ?_ (Below.mono (by assumption) ?_))))) <;> (try simp) <;> (try omega)))
                 have hlt6 : w5.heap.size < W6.heap.size := (by rcases Nat.lt_or_ge (w5.heap.size) W6.heap.size with h | h; exact h; rw [Array.getElem?_eq_none h] at hx6; cases hx6)
                 have hz6 := hb6.size
                 have hge6 : wr.heap.size ≤ w5.heap.size := (by omega)
                 have hb7 : Below wr.heap.size wr (W6.setCell ⟨w5.heap.size, 2, none⟩ (.int .u8 p)) := Below.setCell hb6 (p := ⟨w5.heap.size, 2, none⟩) hge6 (.int .u8 p)
                 have hx7 := box_set2 hx6 (.int .u8 p)
                 have hrs7 := (HRS.out.below hb7 (Nat.le_refl _)).more (B' := (W6.setCell ⟨w5.heap.size, 2, none⟩ (.int .u8 p)).heap.size) (by simpa using hz6)
                 have hs7 : (W6.setCell ⟨w5.heap.size, 2, none⟩ (.int .u8 p)).heap.size = W6.heap.size := (by simp)
                 generalize hW7 : W6.setCell ⟨w5.heap.size, 2, none⟩ (.int .u8 p) = W7 at hb7 hx7 hrs7 hs7
                 obtain ⟨⟨y0, y1, y2, y3, y4⟩, z0, z1, z2, z3, z4⟩ := box_all hx6
                 obtain ⟨⟨q0, q1, q2, q3, q4⟩, _⟩ := box_all hx7
                 clear hx6 hx7 hW6
                 go_wp2_with fail
                 refine (sorted_any (Rg.mid f t p x) A4 _ c4 W7 acc hrs7 (by omega)).mono ?_
                 rintro e w8 ⟨A8, c8, rfl, ho8, hb8⟩
                 have hz8 := hb8.size
                 have hb9 : Below w.heap.size w w8 := (hB.trans (hb7.mono hBs)).trans (hb8.mono (by omega))
                 go_wp2
                 go_roundw
                 case rel => exact ⟨k + 1, by omega, by go_num, hb9, A8, c8, by rw [hon.out], by rw [hon.out]; exact ho8.lower (by omega)⟩
                 case measure => simp [intOf]; omega)
              · refine exit_gen ?_
                intro W6 hW6
                (
                 have hx6 : W6.heap[wr.heap.size]? = some (.cells #[.int .u64 (Rg.mid f t p x).fr, .int .u64 (Rg.mid f t p x).to, .int .u8 x.prot, .int .i64 (Rg.mid f t p x).ino, .int .u64 (Rg.mid f t p x).off] 25 (0, 0)) := (by rw [hW6]; exact box5 hx5 _ _ _ _ _)
                 have hb6 : Below wr.heap.size wr W6 := (by rw [hW6]; ((repeat' (with_reducible (first | assumption | (refine Below.alloc ?_ ?_ _) | (refine Below.setCell ?_ ?_ _) | (refine Below.drew ?_) | (refine below_drewN ?_ _) | exact Below.refl _ _ | (refine Below.trans ?_ (Below.mono (by assumption) ?_))))) <;> (try simp) <;> (try omega)))
                 have hlt6 : wr.heap.size < W6.heap.size := (by rcases Nat.lt_or_ge (wr.heap.size) W6.heap.size with h | h; exact h; rw [Array.getElem?_eq_none h] at hx6; cases hx6)
                 have hz6 := hb6.size
                 have hge6 : wr.heap.size ≤ wr.heap.size := (by omega)
                 have hb7 : Below wr.heap.size wr (W6.setCell ⟨wr.heap.size, 2, none⟩ (.int .u8 p)) := Below.setCell hb6 (p := ⟨wr.heap.size, 2, none⟩) hge6 (.int .u8 p)
                 have hx7 := box_set2 hx6 (.int .u8 p)
                 have hrs7 := (HRS.out.below hb7 (Nat.le_refl _)).more (B' := (W6.setCell ⟨wr.heap.size, 2, none⟩ (.int .u8 p)).heap.size) (by simpa using hz6)
                 have hs7 : (W6.setCell ⟨wr.heap.size, 2, none⟩ (.int .u8 p)).heap.size = W6.heap.size := (by simp)
                 generalize hW7 : W6.setCell ⟨wr.heap.size, 2, none⟩ (.int .u8 p) = W7 at hb7 hx7 hrs7 hs7
                 obtain ⟨⟨y0, y1, y2, y3, y4⟩, z0, z1, z2, z3, z4⟩ := box_all hx6
                 obtain ⟨⟨q0, q1, q2, q3, q4⟩, _⟩ := box_all hx7
                 clear hx6 hx7 hW6
                 go_wp2_with fail
                 refine (sorted_any (Rg.mid f t p x) A4 _ c4 W7 acc hrs7 (by omega)).mono ?_
                 rintro e w8 ⟨A8, c8, rfl, ho8, hb8⟩
                 have hz8 := hb8.size
                 have hb9 : Below w.heap.size w w8 := (hB.trans (hb7.mono hBs)).trans (hb8.mono (by omega))
                 go_wp2
                 go_roundw
                 case rel => exact ⟨k + 1, by omega, by go_num, hb9, A8, c8, by rw [hon.out], by rw [hon.out]; exact ho8.lower (by omega)⟩
                 case measure => simp [intOf]; omega)
              · refine exit_gen ?_
                intro W6 hW6
                (
                 have hx6 : W6.heap[wr.heap.size]? = some (.cells #[.int .u64 (Rg.mid f t p x).fr, .int .u64 (Rg.mid f t p x).to, .int .u8 x.prot, .int .i64 (Rg.mid f t p x).ino, .int .u64 (Rg.mid f t p x).off] 25 (0, 0)) := (by rw [hW6]; exact box5 hx5 _ _ _ _ _)
                 have hb6 : Below wr.heap.size wr W6 := (by rw [hW6]; ((repeat' (with_reducible (first | assumption | (refine Below.alloc ?_ ?_ _) | (refine Below.setCell ?_ ?_ _) | (refine Below.drew ?_) | (refine below_drewN ?_ _) | exact Below.refl _ _ | (refine Below.trans ?_ (Below.mono (by assumption) ?_))))) <;> (try simp) <;> (try omega)))
                 have hlt6 : wr.heap.size < W6.heap.size := (by rcases Nat.lt_or_ge (wr.heap.size) W6.heap.size with h | h; exact h; rw [Array.getElem?_eq_none h] at hx6; cases hx6)
                 have hz6 := hb6.size
                 have hge6 : wr.heap.size ≤ wr.heap.size := (by omega)
                 have hb7 : Below wr.heap.size wr (W6.setCell ⟨wr.heap.size, 2, none⟩ (.int .u8 p)) := Below.setCell hb6 (p := ⟨wr.heap.size, 2, none⟩) hge6 (.int .u8 p)
                 have hx7 := box_set2 hx6 (.int .u8 p)
                 have hrs7 := (HRS.out.below hb7 (Nat.le_refl _)).more (B' := (W6.setCell ⟨wr.heap.size, 2, none⟩ (.int .u8 p)).heap.size) (by simpa using hz6)
                 have hs7 : (W6.setCell ⟨wr.heap.size, 2, none⟩ (.int .u8 p)).heap.size = W6.heap.size := (by simp)
                 generalize hW7 : W6.setCell ⟨wr.heap.size, 2, none⟩ (.int .u8 p) = W7 at hb7 hx7 hrs7 hs7
                 obtain ⟨⟨y0, y1, y2, y3, y4⟩, z0, z1, z2, z3, z4⟩ := box_all hx6
                 obtain ⟨⟨q0, q1, q2, q3, q4⟩, _⟩ := box_all hx7
                 clear hx6 hx7 hW6
                 go_wp2_with fail
                 refine (sorted_any (Rg.mid f t p x) A4 _ c4 W7 acc hrs7 (by omega)).mono ?_
                 rintro e w8 ⟨A8, c8, rfl, ho8, hb8⟩
                 have hz8 := hb8.size
                 have hb9 : Below w.heap.size w w8 := (hB.trans (hb7.mono hBs)).trans (hb8.mono (by omega))
                 go_wp2
                 go_roundw
                 case rel => exact ⟨k + 1, by omega, by go_num, hb9, A8, c8, by rw [hon.out], by rw [hon.out]; exact ho8.lower (by omega)⟩
                 case measure => simp [intOf]; omega)
              · refine exit_gen ?_
                intro W6 hW6
                (
                 have hx6 : W6.heap[w5.heap.size]? = some (.cells #[.int .u64 (Rg.mid f t p x).fr, .int .u64 (Rg.mid f t p x).to, .int .u8 x.prot, .int .i64 (Rg.mid f t p x).ino, .int .u64 (Rg.mid f t p x).off] 25 (0, 0)) := (by rw [hW6]; exact newbox0 _ _)
                 have hb6 : Below wr.heap.size wr W6 := (by rw [hW6]; ((repeat' (with_reducible (first | assumption | (refine Below.alloc ?_ ?_ _) | (refine Below.setCell ?_ ?_ _) | (refine Below.drew ?_) | (refine below_drewN ?_ _) | exact Below.refl _ _ | (refine Below.trans ?_ (Below.mono (by assumption) ?_))))) <;> (try simp) <;> (try omega)))
                 have hlt6 : w5.heap.size < W6.heap.size := (by rcases Nat.lt_or_ge (w5.heap.size) W6.heap.size with h | h; exact h; rw [Array.getElem?_eq_none h] at hx6; cases hx6)
                 have hz6 := hb6.size
                 have hge6 : wr.heap.size ≤ w5.heap.size := (by omega)
                 have hb7 : Below wr.heap.size wr (W6.setCell ⟨w5.heap.size, 2, none⟩ (.int .u8 p)) := Below.setCell hb6 (p := ⟨w5.heap.size, 2, none⟩) hge6 (.int .u8 p)
                 have hx7 := box_set2 hx6 (.int .u8 p)
                 have hrs7 := (HRS.out.below hb7 (Nat.le_refl _)).more (B' := (W6.setCell ⟨w5.heap.size, 2, none⟩ (.int .u8 p)).heap.size) (by simpa using hz6)
                 have hs7 : (W6.setCell ⟨w5.heap.size, 2, none⟩ (.int .u8 p)).heap.size = W6.heap.size := (by simp)
                 generalize hW7 : W6.setCell ⟨w5.heap.size, 2, none⟩ (.int .u8 p) = W7 at hb7 hx7 hrs7 hs7
                 obtain ⟨⟨y0, y1, y2, y3, y4⟩, z0, z1, z2, z3, z4⟩ := box_all hx6
                 obtain ⟨⟨q0, q1, q2, q3, q4⟩, _⟩ := box_all hx7
                 clear hx6 hx7 hW6
                 go_wp2_with fail
                 refine (sorted_any (Rg.mid f t p x) A4 _ c4 W7 acc hrs7 (by omega)).mono ?_
                 rintro e w8 ⟨A8, c8, rfl, ho8, hb8⟩
                 have hz8 := hb8.size
                 have hb9 : Below w.heap.size w w8 := (hB.trans (hb7.mono hBs)).trans (hb8.mono (by omega))
                 go_wp2
                 go_roundw
                 case rel => exact ⟨k + 1, by omega, by go_num, hb9, A8, c8, by rw [hon.out], by rw [hon.out]; exact ho8.lower (by omega)⟩
                 case measure => simp [intOf]; omega)
              · refine exit_gen ?_
                intro W6 hW6
                (
                 have hx6 : W6.heap[wr.heap.size]? = some (.cells #[.int .u64 (Rg.mid f t p x).fr, .int .u64 (Rg.mid f t p x).to, .int .u8 x.prot, .int .i64 (Rg.mid f t p x).ino, .int .u64 (Rg.mid f t p x).off] 25 (0, 0)) := (by rw [hW6]; exact box5 hx5 _ _ _ _ _)
                 have hb6 : Below wr.heap.size wr W6 := (by rw [hW6]; ((repeat' (with_reducible (first | assumption | (refine Below.alloc ?_ ?_ _) | (refine Below.setCell ?_ ?_ _) | (refine Below.drew ?_) | (refine below_drewN ?_ _) | exact Below.refl _ _ | (refine Below.trans ?_ (Below.mono (by assumption) ?_))))) <;> (try simp) <;> (try omega)))
                 have hlt6 : wr.heap.size < W6.heap.size := (by rcases Nat.lt_or_ge (wr.heap.size) W6.heap.size with h | h; exact h; rw [Array.getElem?_eq_none h] at hx6; cases hx6)
                 have hz6 := hb6.size
                 have hge6 : wr.heap.size ≤ wr.heap.size := (by omega)
                 have hb7 : Below wr.heap.size wr (W6.setCell ⟨wr.heap.size, 2, none⟩ (.int .u8 p)) := Below.setCell hb6 (p := ⟨wr.heap.size, 2, none⟩) hge6 (.int .u8 p)
                 have hx7 := box_set2 hx6 (.int .u8 p)
                 have hrs7 := (HRS.out.below hb7 (Nat.le_refl _)).more (B' := (W6.setCell ⟨wr.heap.size, 2, none⟩ (.int .u8 p)).heap.size) (by simpa using hz6)
                 have hs7 : (W6.setCell ⟨wr.heap.size, 2, none⟩ (.int .u8 p)).heap.size = W6.heap.size := (by simp)
                 generalize hW7 : W6.setCell ⟨wr.heap.size, 2, none⟩ (.int .u8 p) = W7 at hb7 hx7 hrs7 hs7
                 obtain ⟨⟨y0, y1, y2, y3, y4⟩, z0, z1, z2, z3, z4⟩ := box_all hx6
                 obtain ⟨⟨q0, q1, q2, q3, q4⟩, _⟩ := box_all hx7
                 clear hx6 hx7 hW6
                 go_wp2_with fail
                 refine (sorted_any (Rg.mid f t p x) A4 _ c4 W7 acc hrs7 (by omega)).mono ?_
                 rintro e w8 ⟨A8, c8, rfl, ho8, hb8⟩
                 have hz8 := hb8.size
                 have hb9 : Below w.heap.size w w8 := (hB.trans (hb7.mono hBs)).trans (hb8.mono (by omega))
                 go_wp2
                 go_roundw
                 case rel => exact ⟨k + 1, by omega, by go_num, hb9, A8, c8, by rw [hon.out], by rw [hon.out]; exact ho8.lower (by omega)⟩
                 case measure => simp [intOf]; omega)
              · refine exit_gen ?_
                intro W6 hW6
                (
                 have hx6 : W6.heap[wr.heap.size]? = some (.cells #[.int .u64 (Rg.mid f t p x).fr, .int .u64 (Rg.mid f t p x).to, .int .u8 x.prot, .int .i64 (Rg.mid f t p x).ino, .int .u64 (Rg.mid f t p x).off] 25 (0, 0)) := (by rw [hW6]; exact box5 hx5 _ _ _ _ _)
                 have hb6 : Below wr.heap.size wr W6 := (by rw [hW6]; ((repeat' (with_reducible (first | assumption | (refine Below.alloc ?_ ?_ _) | (refine Below.setCell ?_ ?_ _) | (refine Below.drew ?_) | (refine below_drewN ?_ _) | exact Below.refl _ _ | (refine Below.trans ?_ (Below.mono (by assumption) ?_))))) <;> (try simp) <;> (try omega)))
                 have hlt6 : wr.heap.size < W6.heap.size := (by rcases Nat.lt_or_ge (wr.heap.size) W6.heap.size with h | h; exact h; rw [Array.getElem?_eq_none h] at hx6; cases hx6)
                 have hz6 := hb6.size
                 have hge6 : wr.heap.size ≤ wr.heap.size := (by omega)
                 have hb7 : Below wr.heap.size wr (W6.setCell ⟨wr.heap.size, 2, none⟩ (.int .u8 p)) := Below.setCell hb6 (p := ⟨wr.heap.size, 2, none⟩) hge6 (.int .u8 p)
                 have hx7 := box_set2 hx6 (.int .u8 p)
                 have hrs7 := (HRS.out.below hb7 (Nat.le_refl _)).more (B' := (W6.setCell ⟨wr.heap.size, 2, none⟩ (.int .u8 p)).heap.size) (by simpa using hz6)
                 have hs7 : (W6.setCell ⟨wr.heap.size, 2, none⟩ (.int .u8 p)).heap.size = W6.heap.size := (by simp)
                 generalize hW7 : W6.setCell ⟨wr.heap.size, 2, none⟩ (.int .u8 p) = W7 at hb7 hx7 hrs7 hs7
                 obtain ⟨⟨y0, y1, y2, y3, y4⟩, z0, z1, z2, z3, z4⟩ := box_all hx6
                 obtain ⟨⟨q0, q1, q2, q3, q4⟩, _⟩ := box_all hx7
                 clear hx6 hx7 hW6
                 go_wp2_with fail
                 refine (sorted_any (Rg.mid f t p x) A4 _ c4 W7 acc hrs7 (by omega)).mono ?_
                 rintro e w8 ⟨A8, c8, rfl, ho8, hb8⟩
                 have hz8 := hb8.size
                 have hb9 : Below w.heap.size w w8 := (hB.trans (hb7.mono hBs)).trans (hb8.mono (by omega))
                 go_wp2
                 go_roundw
                 case rel => exact ⟨k + 1, by omega, by go_num, hb9, A8, c8, by rw [hon.out], by rw [hon.out]; exact ho8.lower (by omega)⟩
                 case measure => simp [intOf]; omega)
              · refine exit_gen ?_
                intro W6 hW6
                (
                 have hx6 : W6.heap[wr.heap.size]? = some (.cells #[.int .u64 (Rg.mid f t p x).fr, .int .u64 (Rg.mid f t p x).to, .int .u8 x.prot, .int .i64 (Rg.mid f t p x).ino, .int .u64 (Rg.mid f t p x).off] 25 (0, 0)) := (by rw [hW6]; exact box5 hx5 _ _ _ _ _)
                 have hb6 : Below wr.heap.size wr W6 := (by rw [hW6]; ((repeat' (with_reducible (first | assumption | (refine Below.alloc ?_ ?_ _) | (refine Below.setCell ?_ ?_ _) | (refine Below.drew ?_) | (refine below_drewN ?_ _) | exact Below.refl _ _ | (refine Below.trans ?_ (Below.mono (by assumption) ?_))))) <;> (try simp) <;> (try omega)))
                 have hlt6 : wr.heap.size < W6.heap.size := (by rcases Nat.lt_or_ge (wr.heap.size) W6.heap.size with h | h; exact h; rw [Array.getElem?_eq_none h] at hx6; cases hx6)
                 have hz6 := hb6.size
                 have hge6 : wr.heap.size ≤ wr.heap.size := (by omega)
                 have hb7 : Below wr.heap.size wr (W6.setCell ⟨wr.heap.size, 2, none⟩ (.int .u8 p)) := Below.setCell hb6 (p := ⟨wr.heap.size, 2, none⟩) hge6 (.int .u8 p)
                 have hx7 := box_set2 hx6 (.int .u8 p)
                 have hrs7 := (HRS.out.below hb7 (Nat.le_refl _)).more (B' := (W6.setCell ⟨wr.heap.size, 2, none⟩ (.int .u8 p)).heap.size) (by simpa using hz6)
                 have hs7 : (W6.setCell ⟨wr.heap.size, 2, none⟩ (.int .u8 p)).heap.size = W6.heap.size := (by simp)
                 generalize hW7 : W6.setCell ⟨wr.heap.size, 2, none⟩ (.int .u8 p) = W7 at hb7 hx7 hrs7 hs7
                 obtain ⟨⟨y0, y1, y2, y3, y4⟩, z0, z1, z2, z3, z4⟩ := box_all hx6
                 obtain ⟨⟨q0, q1, q2, q3, q4⟩, _⟩ := box_all hx7
                 clear hx6 hx7 hW6
                 go_wp2_with fail
                 refine (sorted_any (Rg.mid f t p x) A4 _ c4 W7 acc hrs7 (by omega)).mono ?_
                 rintro e w8 ⟨A8, c8, rfl, ho8, hb8⟩
                 have hz8 := hb8.size
                 have hb9 : Below w.heap.size w w8 := (hB.trans (hb7.mono hBs)).trans (hb8.mono (by omega))
                 go_wp2
                 go_roundw
                 case rel => exact ⟨k + 1, by omega, by go_num, hb9, A8, c8, by rw [hon.out], by rw [hon.out]; exact ho8.lower (by omega)⟩
                 case measure => simp [intOf]; omega)
              · refine exit_gen ?_
                intro W6 hW6
                (
                 have hx6 : W6.heap[wr.heap.size]? = some (.cells #[.int .u64 (Rg.mid f t p x).fr, .int .u64 (Rg.mid f t p x).to, .int .u8 x.prot, .int .i64 (Rg.mid f t p x).ino, .int .u64 (Rg.mid f t p x).off] 25 (0, 0)) := (by rw [hW6]; exact box5 hx5 _ _ _ _ _)
                 have hb6 : Below wr.heap.size wr W6 := (by rw [hW6]; ((repeat' (with_reducible (first | assumption | (refine Below.alloc ?_ ?_ _) | (refine Below.setCell ?_ ?_ _) | (refine Below.drew ?_) | (refine below_drewN ?_ _) | exact Below.refl _ _ | (refine Below.trans ?_ (Below.mono (by assumption) ?_))))) <;> (try simp) <;> (try omega)))
                 have hlt6 : wr.heap.size < W6.heap.size := (by rcases Nat.lt_or_ge (wr.heap.size) W6.heap.size with h | h; exact h; rw [Array.getElem?_eq_none h] at hx6; cases hx6)
                 have hz6 := hb6.size
                 have hge6 : wr.heap.size ≤ wr.heap.size := (by omega)
                 have hb7 : Below wr.heap.size wr (W6.setCell ⟨wr.heap.size, 2, none⟩ (.int .u8 p)) := Below.setCell hb6 (p := ⟨wr.heap.size, 2, none⟩) hge6 (.int .u8 p)
                 have hx7 := box_set2 hx6 (.int .u8 p)
                 have hrs7 := (HRS.out.below hb7 (Nat.le_refl _)).more (B' := (W6.setCell ⟨wr.heap.size, 2, none⟩ (.int .u8 p)).heap.size) (by simpa using hz6)
                 have hs7 : (W6.setCell ⟨wr.heap.size, 2, none⟩ (.int .u8 p)).heap.size = W6.heap.size := (by simp)
                 generalize hW7 : W6.setCell ⟨wr.heap.size, 2, none⟩ (.int .u8 p) = W7 at hb7 hx7 hrs7 hs7
                 obtain ⟨⟨y0, y1, y2, y3, y4⟩, z0, z1, z2, z3, z4⟩ := box_all hx6
                 obtain ⟨⟨q0, q1, q2, q3, q4⟩, _⟩ := box_all hx7
                 clear hx6 hx7 hW6
                 go_wp2_with fail
                 refine (sorted_any (Rg.mid f t p x) A4 _ c4 W7 acc hrs7 (by omega)).mono ?_
                 rintro e w8 ⟨A8, c8, rfl, ho8, hb8⟩
                 have hz8 := hb8.size
                 have hb9 : Below w.heap.size w w8 := (hB.trans (hb7.mono hBs)).trans (hb8.mono (by omega))
                 go_wp2
                 go_roundw
                 case rel => exact ⟨k + 1, by omega, by go_num, hb9, A8, c8, by rw [hon.out], by rw [hon.out]; exact ho8.lower (by omega)⟩
                 case measure => simp [intOf]; omega)
          · have hke : k = n := by omega
            have hall := Lib.hid (protTo_all (f := f) (t := t) (p := p) (l := l) (k := k) (by have := hln.out; omega))
            have hrs := ho.rsl (by omega)
            generalize hacc : Rg.protTo l f t p k = acc at *
            have hml : acc.length ≤ 192 := by omega
            have HRS := Lib.hid hrs
            have HO := Lib.hid ho
            have hjl := joined_len acc
            clear hacc ho hrs hke hpl
            have hkf : decide ((k : Int) < (n : Int)) = false := by simp; omega
            go_wp2_with fail
            refine (rjoined_any A4 _ c4 _ acc HRS.out (by omega)).mono ?_
            rintro e w5 ⟨A5, c5, rfl, ho5, hb5⟩
            have hz5 := hb5.size
            go_wp2_with fail
            refine (few_any A5 c5 w5 _ _ ho5 (by omega)).mono ?_
            rintro e w6 ⟨A6, c6, rfl, ho6, rfl⟩
            go_wp2
            go_ret2
            refine ⟨A6, c6, ?_, ?_, ?_⟩
            · rw [HQ.out, ← hall.out]; rfl
            · rw [HQ.out, ← hall.out]; exact ho6.lower (by omega)
            · exact hB.trans (hb5.mono (by omega))
    · have HP : Hid (Rg.protect l f t p = ([], 1)) := Lib.hid (by simp [Rg.protect, hp])
      clear hS hst hr hap hl
      go_enter Try.func28, Try.ntmps28
      go_wp2_with (go_at_call 46; refine (HS.out).mono ?_; rintro e w1 ⟨rfl, hb1⟩)
      go_ret2
      rw [HP.out]
      exact ⟨none, 0, rfl, OwnR.nil _ _, by ((repeat' (with_reducible (first | assumption | (refine Below.alloc ?_ ?_ _) | (refine Below.setCell ?_ ?_ _) | (refine Below.drew ?_) | (refine below_drewN ?_ _) | exact Below.refl _ _ | (refine Below.trans ?_ (Below.mono (by assumption) ?_))))) <;> (try simp) <;> (try omega))⟩

end Go.Proofs.Ytdkhgofnhemhmaa
