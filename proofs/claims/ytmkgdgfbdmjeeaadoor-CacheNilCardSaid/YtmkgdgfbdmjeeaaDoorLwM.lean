/- CacheNil's walk. -/
import Derived.Test.YtmkgdgfbdmjeeaaDoorLwL
import Derived.Test.YtmkgdgfbdmjeeaaDoorSlN
namespace Go.Proofs.YtmkgdgfbdmjeeaaDoor
open Go.RowKit Go.Sort
set_option linter.unusedSimpArgs false
set_option linter.unusedVariables false

set_option maxRecDepth 100000 in
set_option maxHeartbeats 4000000 in
theorem nil8_any (i p : Int) (w : World) (hdb : DB w) (hw0 : 0 < w.heap.size) : Calls Tryd.prog 8 #[.int .i64 i, .int .i64 p] w fun e w' => e = .returned (.bool true) ∧ Below w.heap.size w w' := by
  have HDB := Lib.hid hdb
  clear hdb
  go_enter Tryd.func8, Tryd.ntmps8
  go_upto_region 10 with (first
    | (go_at_call 35; refine (ctake_nil _).mono ?_; rintro e w1 ⟨rfl, rfl⟩)
    | (go_at_call 36; refine (cget_nil _ _ _).mono ?_; rintro e w1 ⟨rfl, rfl⟩)
    | (go_at_call 28; refine (cdrop_nil _).mono ?_; rintro e w1 ⟨rfl, rfl⟩)
    | (go_at_call 37; refine (fnew_any 1 _ (by omega) (by omega) HDB.out (by omega)).mono ?_; rintro e w2 ⟨a, S, rfl, hP, hb2, hS2⟩; have HDB2 := Lib.hid (HDB.out.same (hb2.block 0 hw0)); have HB2 := Lib.hid hb2; have hz2 := hb2.size; clear hP hb2 hS2)
    | (go_at_call 38; refine (vnew_nil _).mono ?_; rintro e w3 ⟨fs, rfl, hb3⟩; have HB3 := Lib.hid hb3; have HDB3 := Lib.hid (HDB2.out.same (hb3.block 0 (by omega))); have hz3 := hb3.size; clear hb3)
    | (go_at_call 39; refine (cnew_nil _ _ (by first | exact .inl rfl | exact .inr rfl) _).mono ?_; rintro e w4 ⟨rfl, rfl⟩))
  have hwk := works8_any _ HDB3.out (by omega)
  have HWK := Lib.hid hwk
  clear hwk
  go_wp2_with (first
    | (go_at_call 40; refine (cslots_nil _).mono ?_; rintro e w1 ⟨rfl, rfl⟩)
    | (go_at_call 41; refine (cpool_nil _).mono ?_; rintro e w1 ⟨rfl, rfl⟩)
    | (go_at_call 42; refine (cfiles_nil _).mono ?_; rintro e w1 ⟨rfl, rfl⟩)
    | (go_at_call 43; refine (HWK.out).mono ?_; rintro e w6 ⟨rfl, hb6⟩))
  go_ret
  have h2 := HB2.out
  have h3 := h2.trans (HB3.out.mono h2.size)
  exact ⟨rfl, h3.trans (hb6.mono h3.size)⟩

end Go.Proofs.YtmkgdgfbdmjeeaaDoor
