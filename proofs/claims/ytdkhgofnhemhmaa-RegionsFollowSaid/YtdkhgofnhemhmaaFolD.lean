/- Regions: the addresses that are looked at: edges. -/
import Derived.Test.YtdkhgofnhemhmaaFolC
import Derived.Test.YtdkhgofnhemhmaaRegW
import Derived.Deep.Upon
import Derived.Deep.RegionHeld3
namespace Go.Proofs.Ytdkhgofnhemhmaa
open Go.RowKit Go.Sort
set_option linter.unusedSimpArgs false
set_option linter.unusedVariables false

/-- append of a whole slice (nil, or none of it, included) to a row of the call's own -/
theorem app_many {w : World} {ops : Array Oper} {rest : List Oper} {o : Oper} {a : Act} {Q : Exit → Act → World → Prop} (hgd : o.guard = none) (s x : Operand)
    (ho : o.op = .call { callee := .builtin .append, args := #[s, x], argTypes := #[22, 22] })
    (base : Nat) (A : Option Addr) (cap : Nat) (l : List Reg) (hs : a.eval s = .slice A l.length cap) (hown : OwnR w base A cap l)
    (X : Option Addr) (m c : Nat) (k : List Reg) (hx : a.eval x = .slice X m c) (hk : RSl w w.heap.size X m c k)
    (hfew : l.length + m < 1000000) (hbase : base ≤ w.heap.size)
    (h : ∀ A' cap' w', OwnR w' base A' cap' (l ++ k) → w.grownBy w' (A.map (·.block)) → wpList Try.prog ops Q rest (a.put o.dst (.slice A' (l.length + m) cap')) w') :
    wpList Try.prog ops Q (o :: rest) a w := by
  obtain ⟨i0, hi0, hz0, hz1, hz2⟩ := info_parts reg_info
  have hkl := hk.len
  rcases Nat.eq_zero_or_pos m with rfl | hm
  · obtain rfl : k = [] := List.eq_nil_of_length_eq_zero hkl
    have hsrc : Src Try.prog i0.size 22 (.slice X 0 c) 0 [] w := by
      cases X with
      | none => exact Src.ofNil w Try.underlying22 c
      | some ad => exact Src.ofSlice w Try.underlying22 ad 0 c [] (by simp) (by simp) (by simp)
    have hle : l.length ≤ cap := by
      rcases hown.form with ⟨_, h2, h3⟩ | ⟨g, _, _, _, h4⟩
      · rw [h2]; simp
      · exact h4
    have hrun := run_append_nothing (P := Try.prog) w 22 22 o.type 25 i0 Try.underlying22 hi0 A l.length cap hle (.slice X 0 c) hsrc
    have h' := h A cap w (by simpa using hown) ⟨rfl, rfl, rfl, Nat.le_refl _, fun _ _ _ => rfl⟩
    refine wpList_plain hgd fun K hK => ?_
    unfold Oper.wp
    simp [execOp, ho, resolve, invoke, builtin, hs, hx, hrun, Result.andThen]
    exact hK _ _ h'
  · obtain ⟨b, off, rfl, _⟩ : ∃ b off, X = some ⟨b, off, none⟩ ∧ True := by
      obtain ⟨b, off, e, _⟩ := hk.at_ 0 (k[0]'(by omega)) (List.getElem?_eq_getElem (by omega))
      exact ⟨b, off, e, trivial⟩
    refine wpList_append_lies w hgd s x 22 ho base 25 i0 _ 5 40 Try.underlying22 hi0 hz0 hz1 hz2 rfl (by omega) _ l.length (rcs l) hs hown ⟨b, off, none⟩ m c (rcs k) hx (by rw [rcs_length, hkl]) hk.cells
      (rcs_one_cell k) hm (by unfold maxLen; omega) (by omega) hbase w.heap.size rfl ?_
    intro g cap' w' ho' hg hat hlt
    refine h (some ⟨g, 0, none⟩) cap' w' ?_ ?_
    · unfold OwnR
      rw [rcs_append, List.length_append, hkl]
      exact ho'
    · cases A <;> simpa [Value.ownBlock] using hg

/-- append of several uint64 that lie in one block, at a step of a region that draws its order -/
theorem step_app_u64s {w : World} {ops : Array Oper} {o : Oper} {a : Act} {K : Act → World → Prop} {Q : Exit → Act → World → Prop} {E : Prop} (hgd : o.guard = none) (s x : Operand)
    (ho : o.op = .call { callee := .builtin .append, args := #[s, x], argTypes := #[42, 42] })
    (base : Nat) (A : Option Addr) (cap : Nat) (l : List Int) (hs : a.eval s = .slice A l.length cap) (hown : OwnU w base A cap l)
    (ts : List Int) (m b c : Nat) (hx : a.eval x = .slice (some ⟨b, 0, none⟩) m c) (hb : w.heap[b]? = some (.cells (ts.map (Value.int .u64)).toArray 23 (0, 0))) (hm : ts.length = m) (hm0 : 0 < m)
    (hfew : l.length + m < 1000000) (hbase : base ≤ w.heap.size)
    (h : ∀ g cap' w', OwnU w' base (some ⟨g, 0, none⟩) cap' (l ++ ts) → w.grownBy w' (A.map (·.block)) → (A.map (·.block) = some g ∨ g = w.heap.size) → g < w'.heap.size → K (a.put o.dst (.slice (some ⟨g, 0, none⟩) (l.length + m) cap')) w') :
    if Region.wanted o (yielded ops a.tmps) = true then Oper.wp Try.prog o a w K Q else E := by
  obtain ⟨i0, hi0, hz0, hz1, hz2⟩ := info_parts u64_info
  refine step_append_lies w hgd s x 42 ho base 23 i0 _ 1 8 Try.underlying42 hi0 hz0 hz1 hz2 rfl (by omega) _ l.length (l.map (Value.int .u64)) hs hown ⟨b, 0, none⟩ m c (ts.map (Value.int .u64)) hx (by simp [hm]) (by simpa using World.news_of_block hb)
    (by simp [Value.oneCell']) hm0 (by unfold maxLen; omega) (by omega) hbase w.heap.size rfl ?_
  intro g cap' w' ho' hg hat hlt
  refine h g cap' w' ?_ ?_ ?_ hlt
  · unfold OwnU
    rw [List.map_append, List.length_append, hm]
    exact ho'
  · cases A <;> simpa [Value.ownBlock] using hg
  · cases A <;> simpa [Value.ownBlock] using hat

theorem below_grown {base : Nat} {w X w2 : World} {A : Option Addr} (hb : Below base w X) (hg : X.grownBy w2 (A.map (·.block))) (hbase : base ≤ X.heap.size) (hr : ∀ k, A.map (·.block) = some k → base ≤ k) : Below base w w2 :=
  hb.grown hg hbase fun k hk => hr k hk

theorem OwnU.drew {w : World} {base : Nat} {A : Option Addr} {cap : Nat} {l : List Int} (h : OwnU w base A cap l) : OwnU w.drew base A cap l := World.ownsRow.drew h
theorem OwnU.lower {w : World} {base base' : Nat} {A : Option Addr} {cap : Nat} {l : List Int} (h : OwnU w base A cap l) (hb : base' ≤ base) : OwnU w base' A cap l := by
  rcases h with ⟨h1, h2 | ⟨g, cap', cur, e1, e2, e3⟩⟩
  · exact ⟨h1, .inl h2⟩
  · exact ⟨h1, .inr ⟨g, cap', cur, e1, by omega, e3⟩⟩
theorem OwnU.nil (w : World) (base : Nat) : OwnU w base none 0 [] := ⟨rfl, .inl ⟨rfl, rfl⟩⟩
theorem OwnU.kept {w w' : World} {base : Nat} {A : Option Addr} {cap : Nat} {l : List Int} (h : OwnU w base A cap l) {row : Option Nat} (hg : w.grownBy w' row) (hr : row = none ∨ row ≠ A.map (·.block)) : OwnU w' base A cap l :=
  World.ownsRow.kept (row := row) h hg (by rcases hr with h | h <;> cases A <;> simp_all [Value.ownBlock]; exact fun e => h e.symm)

set_option maxHeartbeats 4000000 in
theorem edges_any (A B : Option Addr) (n m c1 c2 : Nat) (r : Reg) (w : World) (l k : List Reg) (hl : RSl w w.heap.size A n c1 l) (hk : RSl w w.heap.size B m c2 k) (hn : n ≤ 1000) (hm : m ≤ 1000) :
    Calls Try.prog 30 #[.slice A n c1, .slice B m c2, .agg #[.int .u64 (r).fr, .int .u64 (r).to, .int .u8 (r).prot, .int .i64 (r).ino, .int .u64 (r).off]] w
      fun e w' => ∃ A' cap' ts, e = .returned (.slice A' (List.length ts) cap') ∧ ts.length ≤ 10000 ∧ OwnU w' w.heap.size A' cap' ts ∧ Below w.heap.size w w' := by
  have hB0 : Below w.heap.size w (w.alloc (.cells #[.int .u64 r.fr, .int .u64 r.to, .int .u8 r.prot, .int .i64 r.ino, .int .u64 r.off] 25)) := by ((repeat' (with_reducible (first | assumption | (refine Below.alloc ?_ ?_ _) | (refine Below.setCell ?_ ?_ _) | (refine Below.drew ?_) | (refine below_drewN ?_ _) | exact Below.refl _ _ | (refine Below.trans ?_ (Below.mono (by assumption) ?_))))) <;> (try simp) <;> (try omega))
  have hl0 := (hl.below hB0 (Nat.le_refl _)).more (B' := (w.alloc (.cells #[.int .u64 r.fr, .int .u64 r.to, .int .u8 r.prot, .int .i64 r.ino, .int .u64 r.off] 25)).heap.size) (by simp)
  have hk0 := (hk.below hB0 (Nat.le_refl _)).more (B' := (w.alloc (.cells #[.int .u64 r.fr, .int .u64 r.to, .int .u8 r.prot, .int .i64 r.ino, .int .u64 r.off] 25)).heap.size) (by simp)
  have hx0 := heap_alloc_new w (.cells #[.int .u64 r.fr, .int .u64 r.to, .int .u8 r.prot, .int .i64 r.ino, .int .u64 r.off] 25)
  have hln := Lib.hid hl.len
  have hkn := Lib.hid hk.len
  go_enter Try.func30, Try.ntmps30
  go_upto_region 2 with (fail)
  generalize hw0 : w.alloc (.cells #[.int .u64 r.fr, .int .u64 r.to, .int .u8 r.prot, .int .i64 r.ino, .int .u64 r.off] 25) = w0 at *
  have hs0 : w0.heap.size = w.heap.size + 1 := by rw [← hw0]; simp
  have HS0 := Lib.hid hs0
  have hs0' : w.heap.size < w0.heap.size := by omega
  clear hw0 hs0
  obtain ⟨NV, hNV⟩ : ∃ v : Value, v = .slice none 0 0 := ⟨_, rfl⟩
  rw [← hNV]
  have HNV := Lib.hid hNV
  clear hNV
  go_upto_region 3 with (at_builtin; refine app_many rfl (.tmp 10) (.tmp 11) rfl w0.heap.size none 0 [] HNV.out (OwnR.nil _ _) A n c1 l rfl hl0 (by simp; omega) (Nat.le_refl _) ?_; intro A1 d1 w1 ho1 hg1)
  have hB1 : Below w0.heap.size w0 w1 := below_grown (Below.refl _ _) hg1 (Nat.le_refl _) (by simp)
  have hk1 := hk0.below hB1 (Nat.le_refl _)
  have hz1 := hB1.size
  have hx1 := (hB1.block _ hs0').trans hx0
  rw [List.nil_append] at ho1
  have HO1 := Lib.hid ho1
  have hk1' := hk1.more hz1
  obtain ⟨V1, hV1⟩ : ∃ v : Value, v = .slice A1 n d1 := ⟨_, rfl⟩
  rw [← hV1]
  have HV1 : Hid (V1 = .slice A1 l.length d1) := Lib.hid (by rw [hV1, hln.out])
  clear hg1 ho1 hl0 hk0 hx0 hV1 hk1
  go_upto_region 4 with (at_builtin; refine app_many rfl (.tmp 13) (.tmp 14) rfl w0.heap.size A1 d1 l HV1.out HO1.out B m c2 k rfl hk1' (by rw [hln.out]; omega) hz1 ?_; intro A2 d2 w2 ho2 hg2)
  have hB2 : Below w0.heap.size w0 w2 := below_grown hB1 hg2 hz1 (fun b hb => (HO1.out.row b hb).1)
  have hz2 := hB2.size
  have hx2 := (hB2.block _ hs0').trans ((hB1.block _ hs0').symm.trans hx1)
  have HL2 : Hid ((l ++ k).length = n + m) := Lib.hid (by rw [List.length_append, hln.out, hkn.out])
  obtain ⟨V2, hV2⟩ : ∃ v : Value, v = .slice A2 (l.length + m) d2 := ⟨_, rfl⟩
  rw [← hV2]
  have HV2 : Hid (V2 = .slice A2 (l ++ k).length d2) := Lib.hid (by rw [hV2, HL2.out, hln.out])
  have HO2 := Lib.hid ho2
  clear hg2 ho2 hx1 hV2 hB1 hk1' hz1 HV1 HO1
  obtain ⟨g0, g1, g2, g3, g4⟩ := box_facts hx2
  go_upto_region 5 with (at_builtin; refine app_reg rfl (.tmp 16) (.tmp 18) rfl w0.heap.size A2 d2 (l ++ k) HV2.out (HO2.out.alloc _) r w2.heap.size 1 rfl (heap_alloc_new _ _) (by rw [HL2.out]; omega) (by simp; omega) ?_; intro g3' d3 w3 ho3 hg3 hat3 hlt3)
  have hB3 : Below w0.heap.size w0 w3 := below_grown (hB2.alloc hz2 _) hg3 (by simp; omega) (fun b hb => (HO2.out.row b hb).1)
  have hz3 := hB3.size
  have HO3 := Lib.hid ho3
  have HL3 : Hid ((l ++ k ++ [r]).length = n + m + 1) := Lib.hid (by rw [List.length_append, HL2.out]; rfl)
  obtain ⟨N, hN⟩ : ∃ N : Nat, N = l.length + k.length + 1 := ⟨_, rfl⟩
  rw [← hN]
  have hN9 : N ≤ 2001 := by rw [hN, hln.out, hkn.out]; omega
  obtain ⟨all, hall⟩ : ∃ all, all = l ++ k ++ [r] := ⟨_, rfl⟩
  have HL3 : Hid (all.length = N) := Lib.hid (by rw [hall, hN, List.length_append, List.length_append]; rfl)
  rw [← hall] at ho3
  have HO3 := Lib.hid ho3
  have HZ0 := Lib.hid (hB0.size)
  clear hg3 ho3 hx2 hat3 hlt3 hB2 hz2 HV2 HO2 g0 g1 g2 g3 g4 hN hall hl hk HL2
  go_wp2_with fail
  go_loopw [8, 9] (fun v i wr => ∃ k : Nat, k ≤ N ∧ i = .int .i64 k ∧ ∃ A' cap' ts, v = .slice A' (List.length ts) cap' ∧ ts.length = 4 * k ∧ OwnU wr w0.heap.size A' cap' ts ∧ OwnR wr w0.heap.size (some ⟨g3', 0, none⟩) d3 all ∧ Below w0.heap.size w0 wr ∧ A'.map (·.block) ≠ some g3') (fun _ i _ => N - (intOf i).toNat)
  case atStart => exact ⟨0, Nat.zero_le _, rfl, none, 0, [], rfl, rfl, OwnU.nil _ _, HO3.out, hB3, by simp⟩
  case round =>
    obtain ⟨k, hk', rfl, A', c', ts, rfl, hts, hou, hor, hB, hne⟩ := hrel
    have hBs := hB.size
    by_cases hlt : k < N
    · obtain ⟨x, hx⟩ : ∃ x, all[k]? = some x := ⟨_, List.getElem?_eq_getElem (by rw [HL3.out]; omega)⟩
      obtain ⟨c0, c1, c2, c3, c4⟩ := hor.elem hx
      have HX := Lib.hid hx
      have HTS := Lib.hid hts
      have hts9 : ts.length ≤ 10000 := by omega
      have HOU := Lib.hid hou
      have HOR := Lib.hid hor
      clear hx hts hou hor
      have i0 : (0 : Int) ≤ (k : Int) := by omega
      have i1 : (k : Int) < (N : Int) := by omega
      have HG3 : g3' < wr.heap.size := (HOR.out.row g3' rfl).2
      have HNE : Hid (some g3' ≠ A'.map (·.block)) := Lib.hid fun e => hne e.symm
      clear hne
      go_wp2_with fail
      go_region_held3 (fun w' => w'.cell? ⟨g3', k * 5, none⟩ = some (.int .u64 x.fr) ∧ w'.cell? ⟨g3', k * 5 + 1, none⟩ = some (.int .u64 x.to))
        (first | (simp [*, World.cell?_alloc_some]; done) | (refine ⟨?_, ?_⟩ <;> (rw [hg4.cell_far _ (by simp; omega) HNE.out]; simp [*, World.cell?_alloc_some]; done)))
        ((refine step_app_u64s (by rfl) (.tmp 26) (.tmp 49) (by rfl) w0.heap.size A' c' ts (by rfl) ((HOU.out.drew).alloc _) [x.fr, IntKind.u64.wrap (x.fr - 1), x.to, IntKind.u64.wrap (x.to - 1)] 4 wr.heap.size 4 (by rfl) (heap_alloc_new _ _) rfl (by omega) (by omega) (by simp; omega) ?_; intro g' cap' w4 ho4 hg4 hat4 hlt4))
      have hor4 := OwnR.kept ((HOR.out.drew).alloc _) hg4 (.inr HNE.out)
      have hB4 : Below w0.heap.size w0 w4 := below_grown ((hB.drew).alloc (by simpa using hBs) _) hg4 (by simp; omega) (fun b hb => (HOU.out.row b hb).1)
      have hn4 : (some (⟨g', 0, none⟩ : Addr)).map (·.block) ≠ some g3' := by
        rcases hat4 with h | h
        · intro e
          exact HNE.out (by rw [h]; simpa using e.symm)
        · simp at h
          simp
          omega
      have HN4 := Lib.hid hn4
      have HTS4 : Hid ((ts ++ [x.fr, IntKind.u64.wrap (x.fr - 1), x.to, IntKind.u64.wrap (x.to - 1)]).length = 4 * (k + 1)) := Lib.hid (by rw [List.length_append, HTS.out]; simp; omega)
      have HO4 := Lib.hid ho4
      have HL4 : Hid ((ts ++ [x.fr, IntKind.u64.wrap (x.fr - 1), x.to, IntKind.u64.wrap (x.to - 1)]).length = ts.length + 4) := Lib.hid (by rw [List.length_append]; rfl)
      clear hat4 hg4 ho4 hn4 c0 c1 c2 c3 c4 i0 i1
      go_wp2
      go_roundw
      case rel => exact ⟨k + 1, by omega, by go_num, some ⟨g', 0, none⟩, cap', _, by rw [HL4.out], HTS4.out, HO4.out, hor4, hB4, HN4.out⟩
      case measure => simp [intOf]; omega
    · have HTS := Lib.hid hts
      have HOU := Lib.hid hou
      have h9 : ts.length ≤ 10000 := by omega
      clear hts hou hor
      go_wp2
      go_ret
      exact ⟨A', c', ts, rfl, h9, (HOU.out).lower (by have := HZ0.out; omega), hB0.trans (hB.mono HZ0.out)⟩

end Go.Proofs.Ytdkhgofnhemhmaa
