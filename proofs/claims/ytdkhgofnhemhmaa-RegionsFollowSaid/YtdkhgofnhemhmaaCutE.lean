/- Regions: a list of its own, and the walk of the statement RegionsCuts. -/
import Derived.Test.YtdkhgofnhemhmaaCutD
namespace Go.Proofs.Ytdkhgofnhemhmaa
open Go.RowKit Go.Sort
set_option linter.unusedSimpArgs false
set_option linter.unusedVariables false

/-- Every block that lay there ahead reads as before, but for one. -/
def Aside (A : Option Addr) (w w' : World) : Prop := ∀ b, b < w.heap.size → A.map (·.block) ≠ some b → w'.heap[b]? = w.heap[b]?
theorem Aside.below {A : Option Addr} {w w' w'' : World} (h : Aside A w w') (hb : Below w'.heap.size w' w'') (hz : w.heap.size ≤ w'.heap.size) : Aside A w w'' := fun b hb' hne => (hb.block b (by omega)).trans (h b hb' hne)
theorem aside_set {A : Option Addr} {w w' : World} {g : Nat} (h : Aside A w w') (hg : ∀ b, b < w.heap.size → A.map (·.block) ≠ some b → b ≠ g) (o : Nat) (v : Value) : Aside A w (w'.setCell ⟨g, o, none⟩ v) := fun b hb hne => (Below.heap_setCell _ _ _ _ (hg b hb hne)).trans (h b hb hne)
theorem aside_app {A : Option Addr} {w w2 : World} {o : Obj} (hg : (w.alloc o).grownBy w2 (A.map (·.block))) : Aside A w w2 := fun b hb hne => by
  have h1 := hg.block b (by simp; omega) (fun e => hne e.symm)
  rw [h1]
  show (w.heap.push o)[b]? = _
  rw [Array.getElem?_push_lt hb, Array.getElem?_eq_getElem hb]

set_option maxHeartbeats 2000000 in
theorem own_any2 (Ao Ai B : Option Addr) (co ci n m cl : Nat) (w : World) (base b0 : Nat) (out l : List Reg) (ho : OwnR w base Ao co out) (hbw : base ≤ w.heap.size) (hof : out.length ≤ 100000)
    (hin : Roomy w b0 Ai ci l) (hn : l.length = n) (hf : n ≤ 300) (hib : ∀ b, Ai.map (·.block) = some b → b < base) (hk : RSl w base B n cl l) (hm : out.length = m) :
    Calls Try.prog 22 #[.slice Ao m co, .slice Ai n ci, .slice B n cl] w fun e w' => e = .returned (.bool true) ∧ Below base w w' ∧ Aside Ao w w' := by
  have HM := Lib.hid hm
  have HIN := Lib.hid hin
  have HN := Lib.hid hn
  have HIB := Lib.hid hib
  have hm9 : m ≤ 100000 := by omega
  clear hm hin hn hib
  go_enter Try.func22, Try.ntmps22
  go_wp2_with (at_builtin; refine app_reg rfl (.tmp 8) (.tmp 10) rfl (base) Ao co out (by rw [HM.out]; rfl) (ho.alloc _) r5 (w.heap.size) 1 rfl (heap_alloc_new _ _) (by rw [HM.out]; omega) (by simp; omega) ?_; rw [HM.out]; intro g' cap' w2 ho2 hg2 hat2 hlt2; (have hB2 := below_app (w := w) (by ((repeat' (with_reducible (first | assumption | (refine Below.alloc ?_ ?_ _) | (refine Below.setCell ?_ ?_ _) | (refine Below.drew ?_) | (refine below_drewN ?_ _) | exact Below.refl _ _ | (refine Below.trans ?_ (Below.mono (by assumption) ?_))))) <;> (try simp) <;> (try omega))) (ho.alloc _) hg2 (by simp; omega)))
  have hA2 : Aside Ao w w2 := aside_app hg2
  have hgo : ∀ b, b < w.heap.size → Ao.map (·.block) ≠ some b → b ≠ g' := by
    intro b hb hne e
    rcases hat2 with h | h
    · exact hne (by rw [h, e])
    · simp at h; omega
  obtain ⟨g1, he, hgb, hgs, hgc⟩ := (ho2.form).resolve_left (by simp)
  obtain rfl : g' = g1 := by simpa using he
  have hl2 : (out ++ [r5]).length = m + 1 := by rw [List.length_append, HM.out]; rfl
  have HO2 := Lib.hid ho2
  have HL2 := Lib.hid hl2
  clear hg2 hat2 he ho2 hl2 hgc
  have HGO := Lib.hid hgo
  clear hgo
  go_loopw [7] (fun i wr => ∃ k : Nat, k ≤ m + 1 ∧ i = .int .i64 k ∧ Below base w wr ∧ w2.heap.size ≤ wr.heap.size ∧ Aside Ao w wr ∧ ∃ acc : List Reg, acc.length = m + 1 ∧ OwnR wr base (some ⟨g', 0, none⟩) cap' acc) (fun i _ => m + 1 - (intOf i).toNat)
  case atStart => exact ⟨0, Nat.zero_le _, rfl, hB2, Nat.le_refl _, hA2, _, HL2.out, HO2.out⟩
  case round =>
    obtain ⟨k, hk', rfl, hB, hsz, hAs, acc, hal, hoa⟩ := hrel
    by_cases hlt : k < m + 1
    · obtain ⟨x, hx⟩ : ∃ x, acc[k]? = some x := ⟨_, List.getElem?_eq_getElem (by omega)⟩
      obtain ⟨c0, c1, c2, c3, c4⟩ := hoa.elem hx
      have f0 := World.ownsRow.frozenAt hoa (k * 5)
      have f1 := World.ownsRow.frozenAt hoa (k * 5 + 1)
      have f2 := World.ownsRow.frozenAt hoa (k * 5 + 2)
      have f3 := World.ownsRow.frozenAt hoa (k * 5 + 3)
      have f4 := World.ownsRow.frozenAt hoa (k * 5 + 4)
      have hput := Lib.hid (hoa.put (k := k) (by omega) r9)
      have HAL := Lib.hid hal
      clear hx hoa hal
      go_wp2
      go_roundw
      case rel => exact ⟨k + 1, by omega, by go_num, by ((repeat' (with_reducible (first | assumption | (refine Below.alloc ?_ ?_ _) | (refine Below.setCell ?_ ?_ _) | (refine Below.drew ?_) | (refine below_drewN ?_ _) | exact Below.refl _ _ | (refine Below.trans ?_ (Below.mono (by assumption) ?_))))) <;> (try simp) <;> (try omega)), by simp; omega, (by repeat' (first | (with_reducible refine aside_set ?_ HGO.out _ _) | (with_reducible exact hAs))), acc.set k r9, by rw [List.length_set]; exact HAL.out, hput.out⟩
      case measure => simp [intOf]; omega
    · have hin' : Roomy wr b0 Ai ci l := HIN.out.stays hB HIB.out
      have hkept := kept_any Ai B n ci cl n wr b0 l l hin' HN.out hf ((hk.below hB (Nat.le_refl _)).more (by have := hB.size; omega))
      have HK := Lib.hid hkept
      have HBB := Lib.hid (hB.size)
      clear hkept hoa
      go_wp2_with (go_at_call 18; refine (HK.out).mono ?_; rintro e w3 ⟨rfl, hb3⟩)
      go_ret
      exact ⟨ret_bool (by simp), hB.trans (hb3.mono (by have := HBB.out; omega)), hAs.below hb3 hB.size⟩


theorem cut_short (l : List Reg) (f t : Int) : (Rg.cut l f t).1.length ≤ 100 := by
  unfold Rg.cut Rg.few
  (repeat' split) <;> (try simp) <;> (try omega)
theorem protect_short (l : List Reg) (f t p : Int) : (Rg.protect l f t p).1.length ≤ 100 := by
  unfold Rg.protect Rg.few
  (repeat' split) <;> (try simp) <;> (try omega)

theorem lawCuts_big (A : Option Addr) (n cap : Nat) (f t p : Int) (w : World) (hn : 300 < n) (hm : n ≤ 9223372036854775807) :
    Calls Try.prog 7 #[.slice A n cap, .agg #[.int .u64 f, .int .u64 t, .int .u8 p]] w fun e w' => e = .returned (.bool true) ∧ Below w.heap.size w w' := by
  have hd : decide (300 < n) = true := by simpa using hn
  have hL := fun W => large_any A n cap W hm
  rw [hd] at hL
  have HL := Lib.hid hL
  clear hL
  go_enter Try.func7, Try.ntmps7
  go_wp2_with (first
    | (go_at_call 9; refine (HL.out _).mono ?_; rintro e w1 ⟨rfl, rfl⟩)
    | (go_at_call 10; refine (works_any _).mono ?_; rintro e w2 ⟨rfl, hb2⟩))
  go_ret
  exact ⟨rfl, by ((repeat' (with_reducible (first | assumption | (refine Below.alloc ?_ ?_ _) | (refine Below.setCell ?_ ?_ _) | (refine Below.drew ?_) | (refine below_drewN ?_ _) | exact Below.refl _ _ | (refine Below.trans ?_ (Below.mono (by assumption) ?_))))) <;> (try simp) <;> (try omega))⟩

theorem box3_all {w : World} {b : Nat} {v0 v1 v2 : Value} (h : w.heap[b]? = some (.cells #[v0, v1, v2] 44 (0, 0))) : w.cell? ⟨b, 0, none⟩ = some v0 ∧ w.cell? ⟨b, 1, none⟩ = some v1 ∧ w.cell? ⟨b, 2, none⟩ = some v2 :=
  ⟨one_block h 0, one_block h 1, one_block h 2⟩

set_option maxHeartbeats 20000000 in
theorem lawCuts (A : Option Addr) (n cap : Nat) (f t p : Int) (w : World) (l : List Reg) (hl : RSl w w.heap.size A n cap l) (hok : AllOk l) (h0 : 0 ≤ f) (h1 : f ≤ 18446744073709551615) (h2 : 0 ≤ t) (h3 : t ≤ 18446744073709551615) (hn : n ≤ 300) :
    Calls Try.prog 7 #[.slice A n cap, .agg #[.int .u64 f, .int .u64 t, .int .u8 p]] w fun e w' => e = .returned (.bool true) ∧ Below w.heap.size w w' := by
  have hd : decide (300 < n) = false := by simp; omega
  have hL := fun W => large_any A n cap W (by omega)
  rw [hd] at hL
  have HL := Lib.hid hL
  have hln := Lib.hid hl.len
  clear hL
  go_enter Try.func7, Try.ntmps7
  go_wp2_with fail
  refine (HL.out _).mono ?_
  rintro e w0 ⟨rfl, hw0⟩
  have hl0 := (hl.below (w' := w0) (B' := w.heap.size) (by subst hw0; ((repeat' (with_reducible (first | assumption | (refine Below.alloc ?_ ?_ _) | (refine Below.setCell ?_ ?_ _) | (refine Below.drew ?_) | (refine below_drewN ?_ _) | exact Below.refl _ _ | (refine Below.trans ?_ (Below.mono (by assumption) ?_))))) <;> (try simp) <;> (try omega))) (Nat.le_refl _)).more (B' := w0.heap.size) (by subst hw0; simp)
  have hB0 : Below w.heap.size w w0 := by subst hw0; ((repeat' (with_reducible (first | assumption | (refine Below.alloc ?_ ?_ _) | (refine Below.setCell ?_ ?_ _) | (refine Below.drew ?_) | (refine below_drewN ?_ _) | exact Below.refl _ _ | (refine Below.trans ?_ (Below.mono (by assumption) ?_))))) <;> (try simp) <;> (try omega))
  have hx0 : w0.heap[w.heap.size]? = some (.cells #[.int .u64 f, .int .u64 t, .int .u8 p] 44 (0, 0)) := by subst hw0; exact heap_alloc_new w _
  have hs0 : w.heap.size < w0.heap.size := by subst hw0; simp
  clear hw0
  go_wp2_with fail
  refine (roomy_any A n cap _ l hl0 hn).mono ?_
  rintro e w1 ⟨A1, c1, rfl, hr1, hb1⟩
  have hz1 := hb1.size
  have hrs := hr1.rsl (by have := hln.out; omega)
  rw [hln.out] at hrs
  have hl1 := (hl0.below hb1 (Nat.le_refl _)).more hb1.size
  have hx1 := (hb1.block _ hs0).trans hx0
  obtain ⟨a0, a1, a2⟩ := box3_all hx1
  clear hl0 hx0
  go_wp2_with fail
  refine (cut_any A1 n c1 f t w1 l hrs hok h0 h1 h2 h3).mono ?_
  rintro e w2 ⟨A2, c2, rfl, ho2, hb2⟩
  have hz2 := hb2.size
  have hl2 := (hl1.below hb2 (Nat.le_refl _)).more hb2.size
  have hr2 := OwnR.below hr1 hb2 (Nat.le_refl _)
  have hx2 := (hb2.block _ (by omega)).trans hx1
  have hrow := hr1.row
  clear a0 a1 a2 hl1 hx1
  obtain ⟨a0, a1, a2⟩ := box3_all hx2
  go_wp2_with fail
  refine (rcut_any A n cap f t w2 l hl2 hok h0 h1 h2 h3).mono ?_
  rintro e w3 ⟨A3, c3, rfl, ho3, hb3⟩
  have hz3 := hb3.size
  have hl3 := (hl2.below hb3 (Nat.le_refl _)).more hb3.size
  have hr3 := OwnR.below hr2 hb3 (Nat.le_refl _)
  have hx3 := (hb3.block _ (by omega)).trans hx2
  have hrs3 : RSl w3 w3.heap.size A1 n c1 l := ((hrs.below hb2 (Nat.le_refl _)).below hb3 (by omega)).more (by omega)
  clear a0 a1 a2 hx2 hl2
  obtain ⟨a0, a1, a2⟩ := box3_all hx3
  go_wp2_with fail
  refine (protect_any A1 n c1 f t p w3 l hrs3 hok h0 h1 h2 h3).mono ?_
  rintro e w4 ⟨A4, c4, rfl, ho4, hb4⟩
  have hz4 := hb4.size
  have hl4 := (hl3.below hb4 (Nat.le_refl _)).more hb4.size
  have hr4 := OwnR.below hr3 hb4 (Nat.le_refl _)
  have hx4 := (hb4.block _ (by omega)).trans hx3
  clear a0 a1 a2 hx3 hl3
  obtain ⟨a0, a1, a2⟩ := box3_all hx4
  go_wp2_with fail
  refine (rprotect_any A n cap f t p w4 l hl4 hok h0 h1 h2 h3).mono ?_
  rintro e w5 ⟨A5, c5, rfl, ho5, hb5⟩
  have hz5 := hb5.size
  have hr5 := OwnR.below hr4 hb5 (Nat.le_refl _)
  clear a0 a1 a2 hx4
  have hcl := cut_short l f t
  have hpl := protect_short l f t p
  have hrow2 := ho2.row
  have hrow4 := ho4.row
  have ha5 := ((ho2.below hb3 (Nat.le_refl _)).below hb4 (Nat.le_refl _)).below hb5 (Nat.le_refl _)
  have hb5' := (ho3.below hb4 (Nat.le_refl _)).below hb5 (Nat.le_refl _)
  have hc5 := ho4.below hb5 (Nat.le_refl _)
  have hBw : Below w1.heap.size w1 w5 := ((hb2.trans (hb3.mono (by omega))).trans (hb4.mono (by omega))).trans (hb5.mono (by omega))
  have hlB : RSl w1 w1.heap.size A n cap l := by
    refine ⟨hl4.len, hl4.cap, hl4.few, fun k x hx => ?_⟩
    obtain ⟨b, off, e, hb, hra⟩ := hl.at_ k x hx
    exact ⟨b, off, e, by omega, hra.below (hB0.trans (hb1.mono (by omega))) hb⟩
  have hl5 := hlB.below hBw (Nat.le_refl _)
  generalize hcp : Rg.cut l f t = pc at *
  generalize hpp : Rg.protect l f t p = pp at *
  have hE1 := eq_any A2 A3 _ _ c2 c3 w5 pc.1 pc.1 (ha5.rsl (by omega)) (hb5'.rsl (by omega))
  have hE2 := fun W (hW : Below w5.heap.size w5 W) => eq_any A4 A5 _ _ c4 c5 W pp.1 pp.1 ((hc5.below hW (Nat.le_refl _)).rsl (by omega)) ((ho5.below hW (Nat.le_refl _)).rsl (by omega))
  have hde : decide (pc.1 = pc.1) = true := by simp
  have hde2 : decide (pp.1 = pp.1) = true := by simp
  rw [hde] at hE1
  rw [hde2] at hE2
  have HE1 := Lib.hid hE1
  have HE2 := Lib.hid hE2
  have hib : ∀ b, A1.map (·.block) = some b → b < w1.heap.size := fun b hb => (hrow b hb).2
  have hO1 : ∀ W, Below w5.heap.size w5 W → Calls Try.prog 22 #[.slice A2 pc.1.length c2, .slice A1 n c1, .slice A n cap] W fun e w' => e = .returned (.bool true) ∧ Below w1.heap.size W w' ∧ Aside A2 W w' := fun W hW =>
    own_any2 A2 A1 A c2 c1 n pc.1.length cap W w1.heap.size _ pc.1 l (ha5.below hW (Nat.le_refl _)) (by have := hW.size; omega) (by omega) (OwnR.below hr5 hW (Nat.le_refl _)) hln.out hn hib (hl5.below hW (by omega)) rfl
  have hO2 : ∀ W W', Below w5.heap.size w5 W → Below w1.heap.size W W' → Aside A2 W W' → Calls Try.prog 22 #[.slice A4 pp.1.length c4, .slice A1 n c1, .slice A n cap] W' fun e w' => e = .returned (.bool true) ∧ Below w1.heap.size W' w' ∧ Aside A4 W' w' := fun W W' hW hW' hAs =>
    own_any2 A4 A1 A c4 c1 n pp.1.length cap W' w1.heap.size _ pp.1 l (((hc5.below hW (Nat.le_refl _)).kept (row := A2.map (·.block)) ⟨hW'.os, hW'.tape, hW'.output, hW'.size, fun k hk hne => hAs k hk (fun e => hne e.symm)⟩ (by
      cases h4 : A4.map (·.block) with
      | none => exact .inl rfl
      | some k =>
        refine .inr fun e => ?_
        have q1 := (hrow4 k h4).1
        have q2 := (hrow2 k e.symm).2
        omega)).lower (by omega)) (by have := hW.size; have := hW'.size; omega) (by omega) ((OwnR.below hr5 hW (Nat.le_refl _)).stays hW' hib) hln.out hn hib ((hl5.below hW (by omega)).below hW' (Nat.le_refl _)) rfl
  have HO1 := Lib.hid hO1
  have HO2 := Lib.hid hO2
  have q1 : Below w.heap.size w w1 := hB0.trans (hb1.mono (by omega))
  have q5 : Below w.heap.size w w5 := q1.trans (hBw.mono (by omega))
  clear hO1 hO2 hE1 hE2 hde hde2 hl4 hr1 hr2 hr3 hr4 hr5 hl5 hlB ho2 ho3 ho4 ho5 ha5 hb5' hc5 hcp hpp hl hrow hrow2 hrow4 hrs hrs3 hib
  go_wp2_with fail
  refine (HE1.out).mono ?_
  rintro e w6 ⟨rfl, hb6⟩
  have hz6 := hb6.size
  go_wp2_with fail
  refine (HE2.out _ hb6).mono ?_
  rintro e w7 ⟨rfl, hb7⟩
  have hz7 := hb7.size
  have hq7 := hb6.trans (hb7.mono hz6)
  go_wp2_with fail
  refine (HO1.out _ hq7).mono ?_
  rintro e w8 ⟨rfl, hb8, hAs8⟩
  have hz8 := hb8.size
  have HA8 := Lib.hid hAs8
  clear hAs8
  go_wp2_with fail
  refine (HO2.out _ _ hq7 hb8 HA8.out).mono ?_
  rintro e w9 ⟨rfl, hb9, _⟩
  have hz9 := hb9.size
  go_wp2_with fail
  refine (works_any _).mono ?_
  rintro e w10 ⟨rfl, hb10⟩
  go_wp2
  go_ret
  refine ⟨rfl, ?_⟩
  have q7 : Below w.heap.size w w7 := q5.trans (hq7.mono (by omega))
  have q9 : Below w.heap.size w w9 := (q7.trans (hb8.mono (by omega))).trans (hb9.mono (by omega))
  exact q9.trans (hb10.mono (by omega))

end Go.Proofs.Ytdkhgofnhemhmaa
