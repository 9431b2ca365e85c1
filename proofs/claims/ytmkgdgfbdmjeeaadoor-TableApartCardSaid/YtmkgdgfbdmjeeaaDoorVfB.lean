/- Files: at. -/
import Derived.Test.YtmkgdgfbdmjeeaaDoorPaA
import Derived.WideMake
import Derived.Carry
namespace Go.Proofs.YtmkgdgfbdmjeeaaDoor
open Go.RowKit Go.Sort
set_option linter.unusedSimpArgs false
set_option linter.unusedVariables false

/-- The root alone. -/
structure TopAt (w : World) (m d nb fs : Nat) : Prop where
  names : w.heap[m]? = some (.map #[] 0)
  dir : w.heap[d]? = some (.cells #[.int .u8 2, .int .u16 493, .int .u32 0, .int .u32 0, .int .i64 0, .int .i64 0, .pointer (some ⟨d, 0, none⟩), .string ⟨#[]⟩, .map (some m)] 151 (0, 0))
  nodes : w.heap[nb]? = some (.cells #[.iface 146 (.pointer (some ⟨d, 0, none⟩))] 164 (0, 0))
  self : w.heap[fs]? = some (.cells #[.slice (some ⟨nb, 0, none⟩) 1 1] 154 (0, 0))
theorem TopAt.below {w w' : World} {m d nb fs : Nat} (h : TopAt w m d nb fs) (hb : Below w.heap.size w w') : TopAt w' m d nb fs :=
  ⟨(hb.block _ (Array.getElem?_eq_some_iff.1 h.names).1).trans h.names, (hb.block _ (Array.getElem?_eq_some_iff.1 h.dir).1).trans h.dir, (hb.block _ (Array.getElem?_eq_some_iff.1 h.nodes).1).trans h.nodes, (hb.block _ (Array.getElem?_eq_some_iff.1 h.self).1).trans h.self⟩

theorem str_und : Tryd.prog.underlying 9 = some .string := by kernel_rfl
theorem names_none {w : World} {m : Nat} {clk : Nat} (hb : w.heap[m]? = some (.map #[] clk)) (s : ByteArray) :
    (Instr.lookup 149 (.map (some m)) (.string s) true).run Tryd.prog w = .ok (.tuple #[.nilIface, .bool false]) w := by
  have hf : Instr.findNow .string (.string s) ([] : List MapEntry) 0 = some none := rfl
  have hc : (Instr.checkKey true 10000 9 (.string s)).run Tryd.prog w = .ok () w := MapKept.run_checkKey (k := .string s) str_und (by simp [MapKept.IsKey]) true 9999
  have hz : (zeroValue 164).run Tryd.prog w = .ok .nilIface w := by kernel_rfl
  simp [Instr.lookup, run_underlying Tryd.underlying149, MapKept.run_getObj_map hb, hc, MapKept.run_findKey str_und hf, hz, Result.andThen]

theorem assert_dir (v : Value) (w : World) : (Instr.typeAssert (.iface 146 v) 164 146 true).run Tryd.prog w = .ok (.tuple #[v, .bool true]) w := by kernel_rfl
theorem assert_file (v : Value) (w : World) : (Instr.typeAssert (.iface 168 v) 164 168 true).run Tryd.prog w = .ok (.tuple #[v, .bool true]) w := by kernel_rfl

set_option maxRecDepth 100000 in
theorem vat_top (m d nb fs g cap : Nat) (w : World) (h : TopAt w m d nb fs) : Calls Tryd.prog 93 #[.pointer (some ⟨fs, 0, none⟩), .slice (some ⟨g, 0, none⟩) 0 cap] w fun e w' => e = .returned (.iface 146 (.pointer (some ⟨d, 0, none⟩))) ∧ w' = w := by
  have c0 : w.cell? ⟨fs, 0, none⟩ = some (.slice (some ⟨nb, 0, none⟩) 1 1) := one_block h.self 0
  have c1 : w.cell? ⟨nb, 0, none⟩ = some (.iface 146 (.pointer (some ⟨d, 0, none⟩))) := one_block h.nodes 0
  clear h
  go_enter Tryd.func93, Tryd.ntmps93
  go_wp2_with fail
  go_loop [5, 18] (fun n i => n = .iface 146 (.pointer (some ⟨d, 0, none⟩)) ∧ i = .int .i64 0) (fun _ _ => 0)
  case atStart => exact ⟨rfl, rfl⟩
  case round =>
    obtain ⟨rfl, rfl⟩ := hrel
    go_wp2
    go_ret
    exact ⟨rfl, rfl⟩

set_option maxRecDepth 100000 in
theorem vat_miss (m d nb fs g cap : Nat) (w : World) (h : TopAt w m d nb fs) (hc : w.cell? ⟨g, 0, none⟩ = some (.string ⟨#[97]⟩)) : Calls Tryd.prog 93 #[.pointer (some ⟨fs, 0, none⟩), .slice (some ⟨g, 0, none⟩) 1 cap] w fun e w' => e = .returned .nilIface ∧ w' = w := by
  have c0 : w.cell? ⟨fs, 0, none⟩ = some (.slice (some ⟨nb, 0, none⟩) 1 1) := one_block h.self 0
  have c1 : w.cell? ⟨nb, 0, none⟩ = some (.iface 146 (.pointer (some ⟨d, 0, none⟩))) := one_block h.nodes 0
  have c2 : w.cell? ⟨d, 8, none⟩ = some (.map (some m)) := one_block h.dir 8
  have hl := fun s => names_none h.names s
  have had := fun v => assert_dir v w
  clear h
  obtain ⟨s, hs⟩ : ∃ s : ByteArray, s = ⟨#[97]⟩ := ⟨_, rfl⟩
  rw [← hs] at hc
  clear hs
  go_enter Tryd.func93, Tryd.ntmps93
  go_wp2_with fail
  go_loop [5, 18] (fun n i => n = .iface 146 (.pointer (some ⟨d, 0, none⟩)) ∧ i = .int .i64 0) (fun _ _ => 0)
  case atStart => exact ⟨rfl, rfl⟩
  case round =>
    obtain ⟨rfl, rfl⟩ := hrel
    go_wp2
    go_ret
    exact ⟨rfl, rfl⟩

end Go.Proofs.YtmkgdgfbdmjeeaaDoor
