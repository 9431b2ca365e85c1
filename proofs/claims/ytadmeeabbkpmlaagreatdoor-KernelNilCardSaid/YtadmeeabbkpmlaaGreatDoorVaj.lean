/- What the evaluator takes from contracts: bytealg.IndexByteString, strings.Join, words.Get at eight bytes. words.Get at eight bytes, for the evaluator; what it takes from contracts, together. -/
import Derived.Test.YtadmeeabbkpmlaaGreatDoorGwA
import Derived.Test.YtadmeeabbkpmlaaGreatDoorShJ
import Derived.Lib.Bytealg
import Derived.Laws.Externs
import Derived.Test.YtadmeeabbkpmlaaGreatDoorVah
set_option linter.unusedSimpArgs false
set_option linter.unusedVariables false
namespace Go.Ev
set_option maxRecDepth 100000
open Go.RowKit Go.Proofs Go.Proofs.YtadmeeabbkpmlaaGreatDoor
variable {R : Rho} {m : Mem} {w : World}

theorem follows_mixed : Tryz.prog.follows .mixedOrders = true := by kernel_rfl
theorem no_gor_all : (Tryz.prog.funcs.all fun fn => fn.body.isNone || !(fn.name == "runtime.NumGoroutine")) = true := by kernel_rfl
theorem no_gor : NoGor Tryz.prog := by
  intro f fn hf hb
  obtain ⟨hlt, he⟩ := Array.getElem?_eq_some_iff.1 hf
  have := (Array.all_eq_true.1 no_gor_all) f hlt
  rw [he, hb, Bool.false_or] at this
  simpa using this

theorem post_below {P : Program} (h : Rel P R m w) {w' : World} (hb : Below w.heap.size w w') : Post P R m w R m w' := by
  refine ⟨⟨h.lim, h.glob, h.gl, h.inj, h.ok, fun n b hn hg => ?_, h.top⟩, Rho.ext_refl _ _, Nat.le_refl _, hb.size, fun k hk _ => hb.block k hk, fun n hn => .inl ⟨n, hn, rfl⟩, hb.os, hb.tape, hb.output⟩
  rw [hb.block _ (h.block_lt ⟨hn, by rw [hg]; exact fun e => by cases e⟩)]
  exact h.blk n b hn hg
theorem calls_res {f : FuncId} {args : Array Value} {K : Ending → World → Prop} (hb : hasBody Tryz.prog f = true) (h : Calls Tryz.prog f args w K) : CallRes Tryz.prog ((callFunc f args).run Tryz.prog w) K := by
  rw [hasBody_run no_gor hb]
  exact callsIn_wide.2 h

/-! ### bytealg.IndexByteString -/
def ibs (a : List SV) (m : Mem) : Option (AEnd × Mem) := match a with
  | [.str s, .int .u8 (.ofNat c)] => some (.ret (.int .i64 (Lib.indexByte s c.toUInt8)), m)
  | _ => none
theorem ibs_find : Extern.find Tryz.f287 = some Extern.BytealgIndexByte.indexByte := rfl
theorem ibs_ok {args : List SV} {e : AEnd} {m' : Mem} (hs : ibs args m = some (e, m')) (h : Rel Tryz.prog R m w) : CallRes Tryz.prog ((callFunc 287 (args.map (den R)).toArray).run Tryz.prog w) (EndOK Tryz.prog R m w e m') := by
  unfold ibs at hs
  split at hs
  · rename_i s c
    simp only [Option.some.injEq, Prod.mk.injEq] at hs
    obtain ⟨rfl, rfl⟩ := hs
    rw [run_callFunc_extern Tryz.func287 (by kernel_rfl) (by kernel_rfl) (by rfl) ibs_find]
    have := Lib.run_indexByteString (P := Tryz.prog) ⟨s.toArray⟩ (c : Int) w
    simp only [List.map_cons, List.map_nil, den]
    rw [show (Int.ofNat c) = (c : Int) from rfl, this]
    exact ⟨R, Post.refl h, by simp [den], trivial⟩
  · cases hs

/-! ### strings.Join -/
def strsL : List SV → Option (List (List UInt8))
  | [] => some []
  | .str s :: l => match strsL l with
    | some r => some (s :: r)
    | none => none
  | _ => none
theorem strsL_eq : ∀ (l : List SV) (xs : List (List UInt8)), strsL l = some xs → l = xs.map SV.str
  | [], xs, h => by
    simp only [strsL, Option.some.injEq] at h
    subst h
    rfl
  | v :: l, xs, h => by
    cases v <;> first
      | (simp only [strsL] at h; cases h; done)
      | skip
    rename_i s
    simp only [strsL] at h
    cases hr : strsL l with
    | none => rw [hr] at h; cases h
    | some r =>
      rw [hr] at h
      simp only [Option.some.injEq] at h
      subst h
      rw [strsL_eq l r hr]
      rfl
noncomputable def joins (a : List SV) (m : Mem) : Option (AEnd × Mem) := match a with
  | [.sl nm off len cap, .str sep] => match m.get nm with
    | .yes (.cells r _ _ _) => match r.list len off with
      | some l => match strsL l with
        | some xs => cond (Nat.beq xs.length len && Nat.ble len cap && Nat.ble len 1000 && Nat.ble (Lib.join xs sep).length 100000) (some (.ret (.str (Lib.join xs sep)), m)) none
        | none => none
      | none => none
    | _ => none
  | _ => none
theorem joins_ok {args : List SV} {e : AEnd} {m' : Mem} (hs : joins args m = some (e, m')) (h : Rel Tryz.prog R m w) (hb : ∀ v ∈ args, v.bel m.nxt) : CallRes Tryz.prog ((callFunc 107 (args.map (den R)).toArray).run Tryz.prog w) (EndOK Tryz.prog R m w e m') := by
  unfold joins at hs
  split at hs
  · rename_i nm off len cap sep
    cases hg : m.get nm with
    | no => rw [hg] at hs; cases hs
    | yes b =>
      cases b with
      | cells r el o s =>
        rw [hg] at hs
        simp only at hs
        cases hl : r.list len off with
        | none => rw [hl] at hs; cases hs
        | some l =>
          rw [hl] at hs
          simp only at hs
          cases hx : strsL l with
          | none => rw [hx] at hs; cases hs
          | some xs =>
            rw [hx] at hs
            simp only at hs
            cases hc : (Nat.beq xs.length len && Nat.ble len cap && Nat.ble len 1000 && Nat.ble (Lib.join xs sep).length 100000) with
            | false => rw [hc] at hs; cases hs
            | true =>
              rw [hc] at hs
              simp only [cond_true, Option.some.injEq, Prod.mk.injEq] at hs
              obtain ⟨rfl, rfl⟩ := hs
              simp only [Bool.and_eq_true, Nat.ble_eq] at hc
              obtain ⟨⟨⟨h1, h2⟩, h3⟩, h4⟩ := hc
              have h1 := Nat.eq_of_beq_eq_true h1
              have hnm : nm < m.nxt := hb (.sl nm off len cap) (by simp)
              have hok := (h.ok nm _ hnm hg).1
              obtain ⟨arr, fr, rest, b1, b2, _⟩ := h.blk nm _ hnm hg
              have hll := strsL_eq l xs hx
              have hcell : ∀ (j : Nat) x, (xs.map fun s => (⟨s.toArray⟩ : ByteArray))[j]? = some x → w.cell? ⟨R.b nm, off + j, none⟩ = some (.string x) := by
                intro j x hj
                rw [List.getElem?_map] at hj
                cases hxj : xs[j]? with
                | none => rw [hxj] at hj; cases hj
                | some s =>
                  rw [hxj] at hj
                  simp only [Option.map_some, Option.some.injEq] at hj
                  subst hj
                  have hjl : j < len := by rw [← h1]; exact (List.getElem?_eq_some_iff.1 hxj).1
                  rcases Rp.list_eq hok hl with ⟨k1, k2⟩ | ⟨k1, _⟩
                  · have hlj : l[j]? = some (.str s) := by rw [hll, List.getElem?_map, hxj]; rfl
                    rw [k2, List.getElem?_take, if_pos hjl, List.getElem?_drop] at hlj
                    rw [one_block b1]
                    have : arr[off + j]? = arr.toList[off + j]? := by simp
                    rw [this, b2, List.getElem?_append_left (by rw [List.length_map, Rp.length hok]; omega), List.getElem?_map, hlj]
                    simp [den]
                  · omega
              have hlive : R.b nm < w.heap.size := h.block_lt ⟨hnm, by rw [hg]; exact fun e => by cases e⟩
              have hmap : (xs.map fun s => (⟨s.toArray⟩ : ByteArray)).map (·.data.toList) = xs := by
                rw [List.map_map]
                exact List.map_id'' (fun s => rfl) xs
              have hcall := Tryz.strings_Join (R.b nm) off cap (xs.map fun s => ⟨s.toArray⟩) ⟨sep.toArray⟩ w hcell hlive (by rw [List.length_map, h1]; omega) (by rw [List.length_map, h1]; exact h2) (by rw [hmap]; exact Nat.le_trans h4 (by decide))
              rw [hmap, List.length_map, h1] at hcall
              have hargs : ([SV.sl nm off len cap, SV.str sep].map (den R)).toArray = #[.slice (some ⟨R.b nm, off, none⟩) len cap, .string ⟨sep.toArray⟩] := by simp [den]
              rw [hargs]
              refine calls_res (by kernel_rfl) (hcall.mono fun e' w' he => ?_)
              obtain ⟨rfl, hbl⟩ := he
              exact ⟨R, post_below h hbl, by simp [den], trivial⟩
      | _ => rw [hg] at hs; cases hs
  · cases hs
end Go.Ev
namespace Go.Ev
set_option maxRecDepth 100000
open Go.RowKit Go.Proofs Go.Proofs.YtadmeeabbkpmlaaGreatDoor
variable {R : Rho} {m : Mem} {w : World}

inductive OB8 | no | yes (n : Nat)
noncomputable def byteO (v : SV) : OB8 := OI.rec (motive := fun _ => OB8) .no (fun k n => cond (beqK k .u8) (Int.rec (motive := fun _ => OB8) (fun b => cond (Nat.blt b 256) (.yes b) .no) (fun _ => .no) n) .no) (asInt v)
noncomputable def byteR (r : Rp) (i : Nat) : OB8 := Option.rec (motive := fun _ => OB8) .no byteO (r.getR i)
/-- The number that n bytes from o on say. -/
noncomputable def leR (r : Rp) (n : Nat) : Nat → OB8 := Nat.rec (motive := fun _ => Nat → OB8) (fun _ => .yes 0) (fun _ ih o => OB8.rec (motive := fun _ => OB8) .no (fun b => OB8.rec (motive := fun _ => OB8) .no (fun x => .yes (Nat.add b (Nat.mul 256 x))) (ih (Nat.add o 1))) (byteR r o)) n
noncomputable def dOf (r : Rp) (i : Nat) : Nat := OB8.rec (motive := fun _ => Nat) 0 (fun b => b) (byteR r i)
theorem byteR_spec {r : Rp} (hok : r.ok) {i b : Nat} (h : byteR r i = .yes b) : r.toList[i]? = some (.int .u8 (b : Int)) ∧ b < 256 := by
  unfold byteR at h
  rw [Rp.getR_eq, Rp.get_eq hok] at h
  cases hv : r.toList[i]? with
  | none => rw [hv] at h; cases h
  | some v =>
    rw [hv] at h
    have h : byteO v = .yes b := h
    cases v <;> first
      | (cases h; done)
      | skip
    rename_i k n _
    have h : cond (beqK k .u8) (Int.rec (motive := fun _ => OB8) (fun b => cond (Nat.blt b 256) (.yes b) .no) (fun _ => .no) n) .no = OB8.yes b := h
    cases hk : beqK k .u8 with
    | false => rw [hk] at h; cases h
    | true =>
      rw [hk] at h
      rw [beqK_eq hk]
      cases n with
      | negSucc a => cases h
      | ofNat a =>
        have h : cond (Nat.blt a 256) (OB8.yes a) .no = .yes b := h
        cases hl : Nat.blt a 256 with
        | false => rw [hl] at h; cases h
        | true =>
          rw [hl] at h
          simp only [cond_true, OB8.yes.injEq] at h
          subst h
          exact ⟨rfl, by simpa using hl⟩
theorem dOf_lt {r : Rp} (hok : r.ok) (i : Nat) : dOf r i < 256 := by
  unfold dOf
  cases h : byteR r i with
  | no => exact (by decide : 0 < 256)
  | yes b => exact (byteR_spec hok h).2
theorem leVal_succ (d : Nat → Nat) (o n : Nat) : leVal d o (n + 1) = d o + 256 * leVal d (o + 1) n := by
  induction n with
  | zero => simp [leVal]
  | succ n ih =>
    have e1 : leVal d o (n + 1 + 1) = leVal d o (n + 1) + d (o + (n + 1)) * 256 ^ (n + 1) := rfl
    have e2 : leVal d (o + 1) (n + 1) = leVal d (o + 1) n + d (o + 1 + n) * 256 ^ n := rfl
    rw [e1, ih, e2, show o + 1 + n = o + (n + 1) by omega, Nat.pow_succ, Nat.mul_add, Nat.add_assoc]
    congr 2
    rw [Nat.mul_comm (256 ^ n) 256, ← Nat.mul_assoc, Nat.mul_comm _ 256, Nat.mul_assoc]
theorem leR_spec {r : Rp} (hok : r.ok) : ∀ (n o x : Nat), leR r n o = .yes x → (∀ k, k < n → r.toList[o + k]? = some (.int .u8 (dOf r (o + k) : Int))) ∧ x = leVal (dOf r) o n
  | 0, o, x, h => by
    have h : OB8.yes 0 = .yes x := h
    cases h
    exact ⟨fun k hk => by omega, rfl⟩
  | n + 1, o, x, h => by
    have h : OB8.rec (motive := fun _ => OB8) .no (fun b => OB8.rec (motive := fun _ => OB8) .no (fun x => .yes (Nat.add b (Nat.mul 256 x))) (leR r n (o + 1))) (byteR r o) = .yes x := h
    cases hb : byteR r o with
    | no => rw [hb] at h; cases h
    | yes b =>
      rw [hb] at h
      have h : OB8.rec (motive := fun _ => OB8) .no (fun x => .yes (Nat.add b (Nat.mul 256 x))) (leR r n (o + 1)) = OB8.yes x := h
      cases hr : leR r n (o + 1) with
      | no => rw [hr] at h; cases h
      | yes y =>
        rw [hr] at h
        have h : OB8.yes (b + 256 * y) = .yes x := h
        cases h
        obtain ⟨k1, k2⟩ := leR_spec hok n (o + 1) y hr
        have hd : dOf r o = b := by unfold dOf; rw [hb]
        refine ⟨fun k hk => ?_, ?_⟩
        · cases k with
          | zero => rw [Nat.add_zero, hd]; exact (byteR_spec hok hb).1
          | succ k =>
            have := k1 k (by omega)
            rw [show o + 1 + k = o + (k + 1) by omega] at this
            exact this
        · rw [leVal_succ, hd, k2]

noncomputable def get8 (nm len : Nat) (a : Nat) (m : Mem) : Option (AEnd × Mem) := cond (Nat.ble (Nat.add a 8) len) (cond (Nat.ble len 1000000) (OC.rec (motive := fun _ => Option (AEnd × Mem)) none
  (fun r _ _ _ => OB8.rec (motive := fun _ => Option (AEnd × Mem)) none (fun x => some (.ret (.tup (.cons (.int .u64 (.ofNat x)) (.cons (.int .i64 0) (.tag .nil)))), m)) (leR r 8 a)) (asCells (m.getR nm))) none) none
theorem get8_ok {nm len cap a : Nat} {e : AEnd} {m' : Mem} (hs : get8 nm len a m = some (e, m')) (h : Rel Tryz.prog R m w) (hb : nm < m.nxt) :
    CallRes Tryz.prog ((callFunc 241 #[.slice (some ⟨R.b nm, 0, none⟩) len cap, .int .u64 (a : Int), .int .i64 8]).run Tryz.prog w) (EndOK Tryz.prog R m w e m') := by
  unfold get8 at hs
  cases h1 : Nat.ble (Nat.add a 8) len with
  | false => rw [h1] at hs; cases hs
  | true =>
    cases h2 : Nat.ble len 1000000 with
    | false => rw [h1, h2] at hs; cases hs
    | true =>
      rw [h1, h2, Mem.getR_eq] at hs
      simp only [cond_true] at hs
      cases hg : m.get nm with
      | no => rw [hg] at hs; cases hs
      | yes b =>
        cases b with
        | cells r el o s =>
          rw [hg] at hs
          have hs : OB8.rec (motive := fun _ => Option (AEnd × Mem)) none (fun x => some (.ret (.tup (.cons (.int .u64 (.ofNat x)) (.cons (.int .i64 0) (.tag .nil)))), m)) (leR r 8 a) = some (e, m') := hs
          cases hx : leR r 8 a with
          | no => rw [hx] at hs; cases hs
          | yes x =>
            rw [hx] at hs
            simp only [Option.some.injEq, Prod.mk.injEq] at hs
            obtain ⟨rfl, rfl⟩ := hs
            have hok := (h.ok nm _ hb hg).1
            obtain ⟨k1, k2⟩ := leR_spec hok 8 a x hx
            obtain ⟨arr, fr, rest, b1, b2, _⟩ := h.blk nm _ hb hg
            have hlive : R.b nm < w.heap.size := h.block_lt ⟨hb, by rw [hg]; exact fun e => by cases e⟩
            have hcell : ∀ k, k < 8 → arr[a + k]? = some (.int .u8 (dOf r (a + k) : Int)) := fun k hk => by
              have h9 := k1 k hk
              have hlt : a + k < r.toList.length := (List.getElem?_eq_some_iff.1 h9).1
              have : arr[a + k]? = arr.toList[a + k]? := by simp
              rw [this, b2, List.getElem?_append_left (by rw [List.length_map]; exact hlt), List.getElem?_map, h9]
              simp [den]
            have hcall := get_8 a len cap (R.b nm) arr el fr (dOf r) w (Nat.le_of_ble_eq_true h1) (Nat.le_of_ble_eq_true h2) b1 hcell (dOf_lt hok) hlive
            refine calls_res (by kernel_rfl) (hcall.mono fun e' w' he => ?_)
            obtain ⟨rfl, hbl⟩ := he
            exact ⟨R, post_below h hbl, by simp [den, denL, k2], ⟨trivial, trivial, trivial⟩⟩
        | _ => rw [hg] at hs; cases hs
noncomputable def gets (args : List SV) (m : Mem) : Option (AEnd × Mem) := match args with
  | [.sl nm 0 len _, .int .u64 (.ofNat a), .int .i64 (.ofNat 8)] => get8 nm len a m
  | [.slo nm 0 len _, .int .u64 (.ofNat a), .int .i64 (.ofNat 8)] => get8 nm len a m
  | _ => none
theorem gets_ok {args : List SV} {e : AEnd} {m' : Mem} (hs : gets args m = some (e, m')) (h : Rel Tryz.prog R m w) (hb : ∀ v ∈ args, v.bel m.nxt) : CallRes Tryz.prog ((callFunc 241 (args.map (den R)).toArray).run Tryz.prog w) (EndOK Tryz.prog R m w e m') := by
  unfold gets at hs
  split at hs
  · rename_i nm len cap a
    have hn : nm < m.nxt := hb (.sl nm 0 len cap) (by simp)
    have := get8_ok (cap := cap) hs h hn
    simpa [den] using this
  · rename_i nm len cap a
    have hn : nm < m.nxt := hb (.slo nm 0 len cap) (by simp)
    have := get8_ok (cap := R.k nm - cap) hs h hn
    simpa [den] using this
  · cases hs

noncomputable def sumA (f : FuncId) : Option (List SV → Mem → Option (AEnd × Mem)) := cond (Nat.beq f 287) (some ibs) (cond (Nat.beq f 107) (some joins) (cond (Nat.beq f 241) (some gets) none))
theorem sumA_ok : SumOK Tryz.prog sumA := by
  intro f g hf args m e m' hg R w h hb
  unfold sumA at hf
  cases h1 : Nat.beq f 287 with
  | true =>
    rw [h1, cond_true, Option.some.injEq] at hf
    subst hf
    rw [Nat.eq_of_beq_eq_true h1]
    exact ibs_ok hg h
  | false =>
    rw [h1, cond_false] at hf
    cases h2 : Nat.beq f 107 with
    | true =>
      rw [h2, cond_true, Option.some.injEq] at hf
      subst hf
      rw [Nat.eq_of_beq_eq_true h2]
      exact joins_ok hg h hb
    | false =>
      rw [h2, cond_false] at hf
      cases h3 : Nat.beq f 241 with
      | true =>
        rw [h3, cond_true, Option.some.injEq] at hf
        subst hf
        rw [Nat.eq_of_beq_eq_true h3]
        exact gets_ok hg h hb
      | false => rw [h3] at hf; cases hf
end Go.Ev
