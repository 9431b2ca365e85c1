/- ImageNil holds: for every world of files, credentials, path, arguments and environment, address and number of bytes the law returns true, and the arguments read afterwards as before; the tables that start-up lays are tied to the program's text. No other condition. The opener of rows of structs is the guide's own (howto/extra-structs.md), as it asks it to be copied. -/
import Derived.Test.YtcekdkeeoghipaaGreatDoorWah
import Derived.Test.YtcekdkeeoghipaaGreatDoorWab
import Derived.Test.YtcekdkeeoghipaaGreatDoorWaj
import Derived.Test.YtcekdkeeoghipaaGreatDoorWak
import Derived.Deep.Slices
import Derived.Deep.Fields
import Derived.SliceStrings
import Derived.HandedShaped
set_option linter.unusedSimpArgs false
set_option linter.unusedVariables false
namespace Go.Proofs.YtcekdkeeoghipaaGreatDoor.lawImageNil
open Go.ChangeShapes Go.WideShapes Go.ChangeAt Go.RowKit Go.Joins Go.ChangeMaps Go.Deep
open Go.Proofs.YtcekdkeeoghipaaGreatDoor
set_option linter.unusedVariables false
set_option linter.unusedSimpArgs false
set_option maxRecDepth 100000

theorem own : ownKnob Tryz.prog.godebug = none := by kernel_rfl
theorem laidOut : laidOutB Tryz.prog = true := Go.Ev.laid_out
def laids : List (String × DataW Unit) := [("unicode/utf8.acceptRanges", Rows.laid_unicode_utf8_acceptRanges), ("unicode/utf8.first", Rows.laid_unicode_utf8_first)]
theorem door_met (os : Os) (args : Array Value) : laidMetH Tryz.prog laids ((Go.Ev.doorW os).forCall (fun _ _ => 0) ⟨#[], args, []⟩).memory := by
  rw [MakeChecks.laidMetH_plain _ _ _ (by kernel_rfl)]
  exact Go.Ev.met_of 8 300 (by kernel_rfl)

section
variable {H : Type} {enc : TypeId × Value → H} {P : Program} {w : World} {base : Nat} {spare : Nat → Bool} {held : Bool}
theorem open_slice_fields {t e : TypeId} {fs : Array Field} {fuel : Nat} {cs : List Value} {x : DataW H × List MemPlace} (ht : P.underlying t = some (.slice e)) (he : P.underlying e = some (.struct fs))
    (hone : oneCellFields P fs = true) (hC : P.cellsOf e = fs.size) (h : DataW.trod enc P w base spare held fuel t cs = some x) :
    (cs = [.slice none 0 0] ∧ x = (.nil, [])) ∨
    ∃ (a : Addr) (len cap m : Nat) (D : Nat → DataW H) (Pl : Nat → List MemPlace), cs = [.slice (some a) len cap] ∧ base ≤ a.block ∧ len ≤ cap ∧ cap ≤ maxLen ∧ m = (if spare a.block then cap else len) ∧
      x = (.slice ((List.range len).map D) ((List.range (m - len)).map fun j => D (len + j)), MemPlace.row a (m * fs.size) ++ (List.range m).flatMap Pl) ∧
      ∀ i, i < m → ∃ (ys : List (DataW H × List MemPlace)) (n : Nat), D i = .agg (ys.map (·.1)) ∧ Pl i = ys.flatMap (·.2) ∧ ys.length = fs.size ∧
        ∀ (j : Nat) (f : Field), fs[j]? = some f → ∃ (v : Value) (y : DataW H × List MemPlace), w.cell? (a.add (i * fs.size + j)) = some v ∧ ys[j]? = some y ∧ DataW.trod enc P w base spare held n f.type [v] = some y := by
  rcases open_slice ht h with h0 | ⟨a, len, cap, m, n, D, Pl, hcs, hb, hl, hm, hmm, hx, hi⟩
  · exact .inl h0
  · refine .inr ⟨a, len, cap, m, D, Pl, hcs, hb, hl, hm, hmm, by rw [hC] at hx; exact hx, fun i him => ?_⟩
    obtain ⟨cs', hc, ht'⟩ := hi i him
    rw [hC] at hc
    obtain ⟨ys, n', hn', hy, hlen, hyl, hf⟩ := DataW.trod_struct he ht'
    obtain ⟨_, hcl, hat⟩ := World.cells?_some hc
    simp only [Prod.mk.injEq] at hy
    refine ⟨ys, n', hy.1, hy.2, hyl, fun j f hj => ?_⟩
    obtain ⟨ho, hk⟩ := hone_of hone j f hj
    have hjl : j < fs.size := (Array.getElem?_eq_some_iff.1 hj).1
    have hcell := hat j hjl
    have hv : cs'[j]? = some (cs'[j]'(by omega)) := List.getElem?_eq_getElem (by omega)
    have h1 := hf j f hj
    rw [ho, hk] at h1
    have hone' : (cs'.drop j).take 1 = [cs'[j]'(by omega)] := by
      rw [List.drop_eq_getElem_cons (by omega)]
      rfl
    rw [hone'] at h1
    have hys : ys[j]? = some (ys[j]'(by omega)) := List.getElem?_eq_getElem (by omega)
    refine ⟨_, _, ?_, hys, h1.trans hys⟩
    rw [← Go.Deep.add_add, hcell, hv]
theorem change_shaped {a : Assume} {C : Checked} {os : Os} {f : FuncId} {fn : Func} {s : ChangeSpec} {conds : List PathCond} {apart fresh handsOn again : Bool} {X : World → Array Value → Prop}
    (own : ownKnob C.prog.godebug = none) (started : os.Started) (noInit : C.prog.inits.idxOf? f = none) (hfn : C.prog.funcs[f]? = some fn)
    (witness : ∃ (w : World) (tape : Tape) (i : Input), w.os = os ∧ (w.forCall tape i).Shaped C.prog ∧ i.vars = [] ∧ Input.okWide C.prog (w.forCall tape i) .any w.heap.size f i ∧
      ((s.pre enc C.prog fn conds apart (w.forCall tape i).memory i.args ∧ X (w.forCall tape i).memory i.args) ∧ sizedMet enc C.prog fn (OpenSpec.ofChange s) apart (w.forCall tape i).memory i.args) ∧ a.holds C.prog (lone (Frame.enter C.prog f i.args .normal) [] (w.forCall tape i)))
    (contract : ∀ (W : World) (base : Nat) (args : Array Value) (ds gs : List (DataW H)) (before : List MemPlace),
      (∀ (j : Nat) t v, fn.params[j]? = some t → args[j]? = some v → Value.okWide C.prog W .any base t v) →
      DataW.Whole enc C.prog fn.params.toList s.vars apart W args.toList ds gs before →
      W.ShapedOpen C.prog →
      Calls C.prog f args W fun e W' => ∃ v, e = .returned v ∧ s.post enc C.prog fn apart fresh handsOn again W args v W') :
    ReturnsInHanded a C os f .any (fun w args => (s.pre enc C.prog fn conds apart w args ∧ X w args) ∧ sizedMet enc C.prog fn (OpenSpec.ofChange s) apart w args) (s.post enc C.prog fn apart fresh handsOn again) := by
  refine returnsInHanded_of_calls own started noInit witness ?_
  intro w tape i _ hsh _ hok hpre hholds
  obtain ⟨_, _, _, fn', hfn', _, _, _, _, hval⟩ := hok
  have e : fn' = fn := Option.some.inj (hfn'.symm.trans hfn)
  subst e
  obtain ⟨⟨⟨ds, gs, before, hw, hc⟩, hx⟩, hz⟩ := hpre
  have hw' := DataW.Whole.of_heap (w' := w.forCall tape i) (by rfl) hw
  refine (contract (w.forCall tape i) w.heap.size i.args ds gs before hval hw' hsh).mono fun e W' ⟨v, he, hp⟩ => ?_
  subst he
  exact ChangeSpec.post_blind hp
end

theorem add_at {b o i : Nat} : (⟨b, o, none⟩ : Addr).add i = ⟨b, o + i, none⟩ := by
  unfold Addr.add
  split
  · next h => subst h; rfl
  · rfl
section
variable {w : World} {r : Reach} {base : Nat} {v : Value}
theorem cell_u32 (h : Cell.okWide Tryz.prog w r base 23 v) : ∃ n, v = .int .u32 n := by
  cases v <;> simp [Cell.okWide, Cell.ok, Tryz.underlying23] at h
  obtain ⟨rfl, _⟩ := h
  exact ⟨_, rfl⟩
theorem cell_str (h : Cell.okWide Tryz.prog w r base 9 v) : ∃ s, v = .string s ∧ s.size ≤ 9223372036854775807 := by
  cases v <;> simp [Cell.okWide, Cell.ok, Tryz.underlying9] at h
  rename_i s
  have h : (s.size : Int) ≤ 9223372036854775807 := by simpa [IntKind.max] using h
  exact ⟨_, rfl, by omega⟩
theorem cell_slice {t e : TypeId} (ht : Tryz.prog.underlying t = some (.slice e)) (h : Cell.okWide Tryz.prog w r base t v) : ∃ a l c, v = .slice a l c ∧ l ≤ 9223372036854775807 ∧ Go.Ev.RowIn (.slice a l c) := by
  cases v <;> simp [Cell.okWide, Cell.ok, ht] at h
  rename_i a l c
  cases a with
  | none =>
    cases l with
    | zero => cases c with
      | zero => exact ⟨_, _, _, rfl, by omega, .inl rfl⟩
      | succ n => simp at h
    | succ n => simp at h
  | some a =>
    obtain ⟨h1, h2, _, h3, _⟩ := h
    obtain ⟨b, o, sp⟩ := a
    obtain rfl : sp = none := h3
    refine ⟨_, _, _, rfl, ?_, .inr ⟨_, _, _, _, rfl⟩⟩
    have : (c : Int) ≤ 9223372036854775807 := h2
    omega
end

section
variable {H : Type} {enc : TypeId × Value → H} {w : World} {base : Nat} {spare : Nat → Bool} {held : Bool}
theorem texts_at {fuel : Nat} {a : Option Addr} {l c : Nat} {x : DataW H × List MemPlace} (hf : DataW.trod enc Tryz.prog w base spare held fuel 27 [.slice a l c] = some x) (hr : Go.Ev.RowIn (.slice a l c)) : TextsAt w a l := by
  rcases open_strings Tryz.underlying27 Tryz.underlying9 (by kernel_rfl) hf with ⟨hcs, _⟩ | ⟨ad, len, cap, ss, hcs, _, _, _, hss, _, hcell, hsz⟩
  · simp at hcs
    obtain ⟨rfl, rfl, rfl⟩ := hcs
    exact fun k hk => by omega
  · simp at hcs
    obtain ⟨rfl, rfl, rfl⟩ := hcs
    rcases hr with hr | ⟨b, o, l', c', hr⟩
    · cases hr
    · cases hr
      intro k hk
      have hk2 : k < ss.length := by rw [hss]; split <;> omega
      refine ⟨b, o, ss.getD k ByteArray.empty, rfl, by rw [← add_at]; exact hcell k hk2, ?_⟩
      have hm : ss.getD k ByteArray.empty ∈ ss := by
        rw [List.getD_eq_getElem?_getD, List.getElem?_eq_getElem hk2, Option.getD_some]
        exact List.getElem_mem hk2
      have := hsz _ hm
      unfold maxLen at this
      omega
theorem ent_cells : Tryz.prog.cellsOf 119 = 7 := by kernel_rfl
theorem ent_one : oneCellFields Tryz.prog (Tryz.prog.fieldsOf 119) = true := by kernel_rfl
theorem ent_und : Tryz.prog.underlying 119 = some (.struct (Tryz.prog.fieldsOf 119)) := by kernel_rfl
theorem ent_fs : (Tryz.prog.fieldsOf 119).size = 7 := by kernel_rfl
theorem ent_f0 : ((Tryz.prog.fieldsOf 119)[0]?).map (·.type) = some 9 := by kernel_rfl
theorem ent_f5 : ((Tryz.prog.fieldsOf 119)[5]?).map (·.type) = some 40 := by kernel_rfl
theorem ent_f6 : ((Tryz.prog.fieldsOf 119)[6]?).map (·.type) = some 9 := by kernel_rfl
theorem field_string {n fuel : Nat} {j : Nat} {fs : Array Field} (hf : (fs[j]?).map (·.type) = some 9) {a : Addr} {ys : List (DataW H × List MemPlace)}
    (h : ∀ (j : Nat) (f : Field), fs[j]? = some f → ∃ (v : Value) (y : DataW H × List MemPlace), w.cell? (a.add (n + j)) = some v ∧ ys[j]? = some y ∧ DataW.trod enc Tryz.prog w base spare held fuel f.type [v] = some y) :
    ∃ x : ByteArray, w.cell? (a.add (n + j)) = some (.string x) ∧ x.size ≤ 9223372036854775807 := by
  obtain ⟨f, hf1, hf2⟩ := Option.map_eq_some_iff.1 hf
  obtain ⟨v, y, hc, _, htr⟩ := h j f hf1
  rw [hf2] at htr
  obtain ⟨x, hx, _, hw⟩ := DataW.trod_string Tryz.underlying9 htr
  simp at hx
  subst hx
  exact ⟨x, hc, by unfold maxLen at hw; omega⟩
theorem field_bytes {n fuel : Nat} {j : Nat} {fs : Array Field} (hf : (fs[j]?).map (·.type) = some 40) {a : Addr} {ys : List (DataW H × List MemPlace)}
    (h : ∀ (j : Nat) (f : Field), fs[j]? = some f → ∃ (v : Value) (y : DataW H × List MemPlace), w.cell? (a.add (n + j)) = some v ∧ ys[j]? = some y ∧ DataW.trod enc Tryz.prog w base spare held fuel f.type [v] = some y) :
    ∃ (A : Option Addr) (k c : Nat), w.cell? (a.add (n + j)) = some (.slice A k c) ∧ k ≤ 9223372036854775807 := by
  obtain ⟨f, hf1, hf2⟩ := Option.map_eq_some_iff.1 hf
  obtain ⟨v, y, hc, _, htr⟩ := h j f hf1
  rw [hf2] at htr
  rcases open_ints Tryz.underlying40 Tryz.underlying5 (by kernel_rfl) htr with ⟨hx, _⟩ | ⟨ad, len, cap, zs, hx, _, hl, hm, hz, _, hcell, hwf⟩
  · simp at hx
    subst hx
    exact ⟨none, 0, 0, hc, by omega⟩
  · simp at hx
    subst hx
    exact ⟨some ad, len, cap, hc, by unfold maxLen at hm; omega⟩
theorem ents_at {fuel : Nat} {a : Option Addr} {l c : Nat} {x : DataW H × List MemPlace} (hf : DataW.trod enc Tryz.prog w base spare held fuel 22 [.slice a l c] = some x) (hr : Go.Ev.RowIn (.slice a l c)) : EntsAt w a l := by
  rcases open_slice_fields Tryz.underlying22 ent_und ent_one (by rw [ent_cells, ent_fs]) hf with ⟨hcs, _⟩ | ⟨x, len, cap, m, D, Pl, hcs, _, hl, hm, hmm, _, hi⟩
  · simp at hcs
    obtain ⟨rfl, rfl, rfl⟩ := hcs
    exact fun k hk => by omega
  · simp at hcs
    obtain ⟨rfl, rfl, rfl⟩ := hcs
    rcases hr with hr | ⟨b, o, l', c', hr⟩
    · cases hr
    · cases hr
      intro k hk
      have hlm : l ≤ m := by rw [hmm]; split <;> omega
      obtain ⟨ys, n, _, _, _, hfl⟩ := hi k (by omega)
      rw [ent_fs] at hfl
      obtain ⟨s0, c0, w0⟩ := field_string ent_f0 hfl
      obtain ⟨A, q, cc, c5, w5⟩ := field_bytes ent_f5 hfl
      obtain ⟨s6, c6, w6⟩ := field_string ent_f6 hfl
      rw [add_at] at c0 c5 c6
      exact ⟨b, o, A, q, cc, s0, s6, rfl, c0, c5, c6, w0, w5, w6⟩
theorem wd_und : Tryz.prog.underlying 29 = some (.struct (Tryz.prog.fieldsOf 29)) := by kernel_rfl
theorem wd_f0 : ((Tryz.prog.fieldsOf 29)[0]?).map (fun f => (f.type, f.offset)) = some (22, 0) := by kernel_rfl
theorem wd_f3 : ((Tryz.prog.fieldsOf 29)[3]?).map (fun f => (f.type, f.offset)) = some (27, 7) := by kernel_rfl
theorem wd_f4 : ((Tryz.prog.fieldsOf 29)[4]?).map (fun f => (f.type, f.offset)) = some (27, 8) := by kernel_rfl
theorem wd_ts : Tryz.prog.cellTypes Tryz.prog.depth 29 = some [22, 23, 23, 23, 23, 24, 9, 27, 27] := by kernel_rfl
theorem wd_cells : Tryz.prog.cellsOf 29 = 9 := by kernel_rfl
theorem c22 : Tryz.prog.cellsOf 22 = 1 := by kernel_rfl
theorem c27 : Tryz.prog.cellsOf 27 = 1 := by kernel_rfl
/-- A world of files, opened. -/
theorem open_world {b0 : Nat} {v : Value} {d : DataW H} {p : List MemPlace} (hv : Value.okWide Tryz.prog w .any b0 29 v) (h : DataW.Trod enc Tryz.prog w base spare held 29 v d p) :
    ∃ P n cap u0 u1 u2 u3 G g gc path A a ac E e ec, v = .agg #[.slice P n cap, .int .u32 u0, .int .u32 u1, .int .u32 u2, .int .u32 u3, .slice G g gc, .string path, .slice A a ac, .slice E e ec] ∧ EntsAt w P n ∧ n ≤ 9223372036854775807 ∧
      g ≤ 9223372036854775807 ∧ path.size ≤ 9223372036854775807 ∧ TextsAt w A a ∧ a ≤ 9223372036854775807 ∧ TextsAt w E e ∧ e ≤ 9223372036854775807 ∧ Go.Ev.RowIn (.slice G g gc) ∧ Go.Ev.RowIn (.slice A a ac) ∧ Go.Ev.RowIn (.slice E e ec) := by
  have hv' := hv
  simp only [Value.okWide, wd_und] at hv'
  obtain ⟨cs, rfl, hsz, ts, hts, _, hrow⟩ := hv'
  rw [wd_ts] at hts
  obtain rfl := Option.some.inj hts
  rw [wd_cells] at hsz
  obtain ⟨l⟩ := cs
  match l, hsz with
  | [v0, v1, v2, v3, v4, v5, v6, v7, v8], _ =>
    have cell : ∀ (i : Nat) (v : Value) (u : TypeId), (#[v0, v1, v2, v3, v4, v5, v6, v7, v8] : Array Value)[i]? = some v → [22, 23, 23, 23, 23, 24, 9, 27, 27][i % 9]? = some u → Cell.okWide Tryz.prog w .any b0 u v := fun i v u hi hu => by
      obtain ⟨u', h1, h2⟩ := hrow i v hi
      have h1 : [22, 23, 23, 23, 23, 24, 9, 27, 27][i % 9]? = some u' := h1
      rw [hu] at h1
      cases h1
      exact h2
    obtain ⟨P, n, cap, rfl, hn, rP⟩ := cell_slice Tryz.underlying22 (cell 0 v0 22 rfl rfl)
    obtain ⟨u0, rfl⟩ := cell_u32 (cell 1 v1 23 rfl rfl)
    obtain ⟨u1, rfl⟩ := cell_u32 (cell 2 v2 23 rfl rfl)
    obtain ⟨u2, rfl⟩ := cell_u32 (cell 3 v3 23 rfl rfl)
    obtain ⟨u3, rfl⟩ := cell_u32 (cell 4 v4 23 rfl rfl)
    obtain ⟨G, g, gc, rfl, hg, rG⟩ := cell_slice Tryz.underlying24 (cell 5 v5 24 rfl rfl)
    obtain ⟨path, rfl, hp⟩ := cell_str (cell 6 v6 9 rfl rfl)
    obtain ⟨A, a, ac, rfl, ha, rA⟩ := cell_slice Tryz.underlying27 (cell 7 v7 27 rfl rfl)
    obtain ⟨E, e, ec, rfl, he, rE⟩ := cell_slice Tryz.underlying27 (cell 8 v8 27 rfl rfl)
    obtain ⟨fuel, hf⟩ := h
    obtain ⟨xs, k, _, _, _, hlen, hfld⟩ := DataW.trod_struct wd_und hf
    have field : ∀ (j t o : Nat) (v : Value), ((Tryz.prog.fieldsOf 29)[j]?).map (fun f => (f.type, f.offset)) = some (t, o) → Tryz.prog.cellsOf t = 1 → (#[.slice P n cap, .int .u32 u0, .int .u32 u1, .int .u32 u2, .int .u32 u3, .slice G g gc, .string path, .slice A a ac, .slice E e ec] : Array Value).toList[o]? = some v → ∃ y, DataW.trod enc Tryz.prog w base spare held k t [v] = some y := fun j t o v hj hc ho => by
      obtain ⟨f, hf1, hf2⟩ := Option.map_eq_some_iff.1 hj
      simp only [Prod.mk.injEq] at hf2
      obtain ⟨rfl, rfl⟩ := hf2
      have h1 := hfld j f hf1
      rw [hc] at h1
      have hlt := (List.getElem?_eq_some_iff.1 ho).1
      have hone : ((#[.slice P n cap, .int .u32 u0, .int .u32 u1, .int .u32 u2, .int .u32 u3, .slice G g gc, .string path, .slice A a ac, .slice E e ec] : Array Value).toList.drop f.offset).take 1 = [v] := by
        rw [List.drop_eq_getElem_cons hlt, (List.getElem?_eq_some_iff.1 ho).2]
        rfl
      have h2 : DataW.trod enc Tryz.prog w base spare held k f.type ((#[.slice P n cap, .int .u32 u0, .int .u32 u1, .int .u32 u2, .int .u32 u3, .slice G g gc, .string path, .slice A a ac, .slice E e ec] : Array Value).toList.drop f.offset |>.take 1) = xs[j]? := h1
      rw [hone] at h2
      have hjl : j < xs.length := by rw [hlen]; exact (Array.getElem?_eq_some_iff.1 hf1).1
      exact ⟨_, h2.trans (List.getElem?_eq_getElem hjl)⟩
    obtain ⟨_, e0⟩ := field 0 22 0 _ wd_f0 c22 rfl
    obtain ⟨_, e3⟩ := field 3 27 7 _ wd_f3 c27 rfl
    obtain ⟨_, e4⟩ := field 4 27 8 _ wd_f4 c27 rfl
    exact ⟨_, _, _, _, _, _, _, _, _, _, _, _, _, _, _, _, _, rfl, ents_at e0 rP, hn, hg, hp, texts_at e3 rA, ha, texts_at e4 rE, he, rG, rA, rE⟩
end
theorem cells_of {W : World} (h : W.ShapedOpen Tryz.prog) : ∃ arr el fr, W.heap[1]? = some (.cells arr el fr) := by
  have h0 : (((begin Tryz.prog (fun _ _ => 0) default).world.heap[1]?).bind Obj.row?).map (·.2) = some 528 := by kernel_rfl
  obtain ⟨⟨z, t⟩, h1, h2⟩ := Option.map_eq_some_iff.1 h0
  obtain ⟨cs, h3, _⟩ := h.1 1 z t (by rw [Go.Ev.glob_size]; decide) h1
  exact ⟨_, _, _, h3⟩

theorem lifted (os : Os) (started : os.Started) (H : Type) (enc : TypeId × Value → H) :
    ReturnsInHanded {} Tryz.checked os 3 .any (fun w args => (Rows.imageNilSpec.pre enc Tryz.prog Tryz.f3 [] false w args ∧ laidMetH Tryz.prog laids w) ∧ sizedMet enc Tryz.prog Tryz.f3 (OpenSpec.ofChange Rows.imageNilSpec) false w args)
      (Rows.imageNilSpec.post enc Tryz.prog Tryz.f3 false true false false) := by
  refine change_shaped (C := Tryz.checked) (X := fun w _ => laidMetH Tryz.prog laids w) own started (by kernel_rfl) Tryz.func3
    (ChangeSpec.witness_shaped (enc := enc) (C := Tryz.checked) (os := os) (X := fun w _ => laidMetH Tryz.prog laids w) false (Go.Ev.doorW os) #[.agg #[.slice none 0 0, .int .u32 0, .int .u32 0, .int .u32 0, .int .u32 0, .slice none 0 0, .string ⟨#[]⟩, .slice none 0 0, .slice none 0 0], .int .u64 0, .int .i64 0] 8 rfl (World.shaped_of_RefB (by kernel_rfl) (by kernel_rfl)) (by kernel_rfl) (by kernel_rfl) (by kernel_rfl) (door_met os _)) ?_
  intro W base args ds gs before hval0 hW hsh
  have hval : ∀ (j : Nat) t v, Tryz.f3.params[j]? = some t → args[j]? = some v → Value.okWide Tryz.prog W .any base t v := hval0
  have hW' := hW
  obtain ⟨p, q, hA0, hV, rfl, hfz, hnd⟩ := hW
  have hA : DataW.TrodAll enc Tryz.prog W 0 (fun _ => true) true Tryz.f3.params.toList args.toList ds p := hA0
  rw [Tryz.params3] at hA hval
  obtain ⟨v0, vs0, d0, ds0, p0, q0, hargs, rfl, rfl, h0, r0⟩ := trodAll_cons hA
  obtain ⟨v1, vs1, d1, ds1, p1, q1, rfl, rfl, rfl, h1, r1⟩ := trodAll_cons r0
  obtain ⟨v2, vs2, d2, ds2, p2, q2, rfl, rfl, rfl, h2, r2⟩ := trodAll_cons r1
  obtain ⟨rfl, rfl, rfl⟩ := trodAll_nil r2
  obtain rfl : args = #[v0, v1, v2] := by cases args; simp_all
  obtain ⟨rfl, rfl⟩ := trodVars_none hV
  have k0 := h0
  have lt0 : ∀ x ∈ p0, x.block < W.heap.size := by obtain ⟨m, hm⟩ := k0; exact DataW.trod_lt m _ _ _ hm
  obtain ⟨P, n, cap, u0, u1, u2, u3, G, g, gc, path, A, a, ac, E, e, ec, rfl, f1, f2, f3, f4, f5, f6, f7, f8, f9, f10, f11⟩ := open_world (hval 0 29 v0 rfl rfl) h0
  obtain ⟨a1, rfl, rfl, rfl, w1⟩ := open_int Tryz.underlying30 (hval 1 30 v1 rfl rfl) h1
  obtain ⟨a2, rfl, rfl, rfl, w2⟩ := open_int Tryz.underlying3 (hval 2 3 v2 rfl rfl) h2
  clear hA0 hval0
  refine (imageNil_any P n cap u0 u1 u2 u3 G g gc path A a ac E e ec a1 a2 W (fun _ => f1) f2 f3 f4 (fun _ => f5) f6 (fun _ => f7) f8 f9 f10 f11 (cells_of hsh)).mono fun e W' ⟨he, bel⟩ => ?_
  subst he
  exact ⟨_, rfl, _, _, _, [], _, [], hW', trodAll_mk1 (shut_bool Tryz.underlying4 _), (trodAll_cons_mk (Below.trod laidOut (by kernel_rfl) (of_decide_eq_true (by kernel_rfl)) k0 bel lt0) (trodAll_cons_mk (shut_int Tryz.underlying30 w1) (trodAll_cons_mk (shut_int Tryz.underlying3 w2) trodAll_mk0))), rfl, bel.frame _, fun h => by cases h⟩

theorem over : Rows.ImageNilSaid :=
  OpenClaim.holds_of_wide 3 Tryz.f3 rfl rfl rfl rfl rfl rfl rfl ⟨rfl, rfl, rfl, rfl, rfl⟩ rfl rfl rfl rfl rfl Go.Ev.named_is Tryz.func3 Go.Ev.joined
    (of_decide_eq_true (by kernel_rfl)) (by unfold Func.isWrapper; first | (rw [if_pos (by decide +kernel)]; kernel_rfl) | (rw [if_neg (by decide +kernel)]; exact ⟨rfl, rfl⟩))
    (fun os started H enc _ => lifted os started H enc)

theorem proved : Rows.ImageNilCardSaid :=
  Claim7.holds_tied_plain_at .later [] [.data, .pinned] true Rows.imageNilCard.stood.harness Rows.imageNilCard.stood.looks
    over (fun _ h => by cases h) (by kernel_rfl) (fun _ h => by cases h) imageNil_row_tie rfl ⟨rfl, rfl⟩ (by kernel_rfl) rfl
    (fun f fn hf hfn => by
      obtain rfl : f = 3 := Option.some.inj ((show Tryz.prog.funcNamed "hostel/hostellaw22.ImageNil" = some 3 from Go.Ev.named_is).symm.trans hf) |>.symm
      obtain rfl : fn = Tryz.f3 := (Option.some.inj (Tryz.func3.symm.trans hfn)).symm
      exact ⟨by kernel_rfl, fun j t ht => by
        rw [Tryz.params3] at ht
        have hm : t ∈ [29, 30, 3] := by simpa using Array.mem_of_getElem? ht
        have hall : ([29, 30, 3].all fun u => !Tryz.prog.wantsStandIn u) = true := by kernel_rfl
        exact (show Tryz.prog.wantsStandIn t = false by simpa using List.all_eq_true.1 hall t hm)⟩)
    Go.Ev.goes_by
#print axioms proved
end Go.Proofs.YtcekdkeeoghipaaGreatDoor.lawImageNil
