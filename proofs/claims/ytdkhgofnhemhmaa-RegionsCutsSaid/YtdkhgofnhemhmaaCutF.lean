/-
  RegionsCuts holds: for every slice of regions and every stretch the law returns true, and each argument reads afterwards as before. No condition.
-/
import Derived.Test.YtdkhgofnhemhmaaCutE
import Derived.Test.YtdkhgofnhemhmaaRegR
namespace Go.Proofs.Ytdkhgofnhemhmaa.lawCuts
open Go.ChangeShapes Go.WideShapes Go.ChangeAt Go.RowKit Go.Joins
open Go.Proofs.Ytdkhgofnhemhmaa
set_option linter.unusedVariables false

section
variable {H : Type} {enc : TypeId × Value → H} {w : World} {base : Nat} {spare : Nat → Bool} {held : Bool}
theorem stretch_cells : Try.prog.cellsOf 44 = 3 := by kernel_rfl
theorem open_stretch {b0 : Nat} {v : Value} {d : DataW H} {p : List MemPlace} (hv : Value.okWide Try.prog w .any b0 44 v) (h : DataW.Trod enc Try.prog w base spare held 44 v d p) :
    ∃ f t q : Int, (0 ≤ f ∧ f ≤ 18446744073709551615 ∧ 0 ≤ t ∧ t ≤ 18446744073709551615) ∧ v = .agg #[.int .u64 f, .int .u64 t, .int .u8 q] := by
  obtain ⟨c0, c1, c2, y0, y1, y2, n, rfl, _, _, e0, e1, e2⟩ := open_agg3 Try.underlying44 (by kernel_rfl) stretch_cells hv h
  obtain ⟨x0, h0, _, w0⟩ := DataW.trod_int Try.underlying23 e0
  obtain ⟨x1, h1, _, w1⟩ := DataW.trod_int Try.underlying23 e1
  obtain ⟨x2, h2, _, w2⟩ := DataW.trod_int Try.underlying5 e2
  simp at h0 h1 h2
  subst h0 h1 h2
  have r0 := bounds_u64 w0
  have r1 := bounds_u64 w1
  exact ⟨x0, x1, x2, ⟨r0.1, r0.2, r1.1, r1.2⟩, rfl⟩
end

theorem walk (a0 : Option Addr) (len0 cap0 : Nat) (f t q : Int) (w : World) (w0 : ArgR w a0 len0 cap0) (w1 : 0 ≤ f ∧ f ≤ 18446744073709551615 ∧ 0 ≤ t ∧ t ≤ 18446744073709551615) :
    Calls Try.prog 7 #[.slice a0 len0 cap0, .agg #[.int .u64 f, .int .u64 t, .int .u8 q]] w fun e w' => e = .returned (.bool true) ∧ Below w.heap.size w w' := by
  by_cases h : 300 < len0
  · exact lawCuts_big a0 len0 cap0 f t q w h w0.1
  · obtain ⟨l, hl, hok⟩ := w0.2 (by omega)
    exact Ytdkhgofnhemhmaa.lawCuts a0 len0 cap0 f t q w l hl hok w1.1 w1.2.1 w1.2.2.1 w1.2.2.2 (by omega)

theorem own : ownKnob Try.prog.godebug = none := by kernel_rfl
theorem laidOut : laidOutB Try.prog = true := by kernel_rfl

set_option maxRecDepth 100000 in
theorem lifted (os : Os) (started : os.Started) (H : Type) (enc : TypeId × Value → H) :
    ReturnsInHanded {} Try.checked os 7 .any (Rows.regionsCutsSpec.pre6 enc Try.prog Try.f7 Rows.regionsCutsRow.domain false) (Rows.regionsCutsSpec.post enc Try.prog Try.f7 false true false false) := by
  refine returnsInHanded_of_change (C := Try.checked) own started (by kernel_rfl) Try.func7
    (ChangeSpec.witness6 (enc := enc) (C := Try.checked) false ⟨#[], #[.slice none 0 0, .agg #[.int .u64 0, .int .u64 0, .int .u8 0]], []⟩ 8 (by kernel_rfl) (by kernel_rfl) (by kernel_rfl) (by kernel_rfl)) ?_
  intro W base args ds gs before hval0 hW hcnd _
  have hval : ∀ (j : Nat) t v, Try.f7.params[j]? = some t → args[j]? = some v → Value.okWide Try.prog W .any base t v := hval0
  have hW' := hW
  obtain ⟨p, q, hA0, hV, rfl, hfz, hnd⟩ := hW
  have hA : DataW.TrodAll enc Try.prog W 0 (fun _ => true) true Try.f7.params.toList args.toList ds p := hA0
  rw [Try.params7] at hA hval
  obtain ⟨v0, vs0, d0, ds0, p0, q0, hargs, rfl, rfl, h0, r0⟩ := trodAll_cons hA
  obtain ⟨v1, vs1, d1, ds1, p1, q1, rfl, rfl, rfl, h1, r1⟩ := trodAll_cons r0
  obtain ⟨rfl, rfl, rfl⟩ := trodAll_nil r1
  obtain rfl : args = #[v0, v1] := by cases args; simp_all
  obtain ⟨rfl, rfl⟩ := trodVars_none hV
  obtain ⟨a0, len0, cap0, rfl⟩ := okWide_slice Try.underlying22 (hval 0 22 v0 rfl rfl)
  have k0 := h0
  have lt0 : ∀ x ∈ p0, x.block < W.heap.size := by obtain ⟨m, hm⟩ := k0; exact DataW.trod_lt m _ _ _ hm
  have w0 := open_regs h0
  have k1 := h1
  have lt1 : ∀ x ∈ p1, x.block < W.heap.size := by obtain ⟨m, hm⟩ := k1; exact DataW.trod_lt m _ _ _ hm
  obtain ⟨a1, b1, c1, w1, rfl⟩ := open_stretch (hval 1 44 v1 rfl rfl) h1
  clear hA0 hval0
  refine (walk a0 len0 cap0 a1 b1 c1 W w0 w1).mono fun e W' ⟨he, bel⟩ => ?_
  subst he
  exact ⟨_, rfl, _, _, _, [], _, [], hW', trodAll_mk1 (shut_bool Try.underlying4 _), (trodAll_cons_mk (Below.trod laidOut (by kernel_rfl) (of_decide_eq_true (by kernel_rfl)) k0 bel lt0) (trodAll_cons_mk (Below.trod laidOut (by kernel_rfl) (of_decide_eq_true (by kernel_rfl)) k1 bel lt1) trodAll_mk0)), rfl, bel.frame _, fun h => by cases h⟩

theorem over : Rows.regionsCutsRow.holds Try.pinned (OpenSpec.ofChange Rows.regionsCutsSpec) :=
  OpenClaim.holds_of_wide 7 Try.f7 rfl rfl rfl rfl rfl rfl rfl ⟨rfl, rfl, rfl, rfl, rfl⟩ rfl rfl rfl rfl rfl (by kernel_rfl) Try.func7 (by kernel_rfl)
    (of_decide_eq_true (by kernel_rfl)) (by unfold Func.isWrapper; first | (rw [if_pos (by decide +kernel)]; kernel_rfl) | (rw [if_neg (by decide +kernel)]; exact ⟨rfl, rfl⟩))
    (fun os started H enc _ => lifted os started H enc)

theorem proved : Rows.RegionsCutsSaid := over
#print axioms proved
end Go.Proofs.Ytdkhgofnhemhmaa.lawCuts
