/- The document's files in memory: copies of bytes, the nodes' row; child, at. -/
import Derived.Test.YtkkmcnngpahfaaaGreatDoorHrB
import Derived.Test.YtkkmcnngpahfaaaGreatDoorGnA
import Derived.Test.YtkkmcnngpahfaaaGreatDoorEnA
import Derived.Lib.QuietBelow
namespace Go.Proofs.YtkkmcnngpahfaaaGreatDoor
open Go.RowKit Go.Sort
set_option linter.unusedSimpArgs false
set_option linter.unusedVariables false

theorem BytesAt.congr9 {w : World} {b n : Nat} {d e : Nat → Nat} (h : BytesAt w b n d) (he : ∀ i, i < n → d i = e i) : BytesAt w b n e := by
  unfold BytesAt at h ⊢
  rw [h, rowV_congr (h := fun i => .int .u8 (e i : Int)) (fun i hi => by rw [he i hi])]
/-- What CopyBytes answers. -/
def CopyPost (n : Nat) (d : Nat → Nat) (w : World) (e : Ending) (w' : World) : Prop := ∃ R cap, e = .returned (.slice R n cap) ∧ ByteRow w' R n cap d ∧ (∀ x, R = some x → w.heap.size ≤ x.block) ∧ Below w.heap.size w w'
set_option maxHeartbeats 2000000 in
set_option maxRecDepth 100000 in
theorem rcopy_any (A : Option Addr) (n c : Nat) (d : Nat → Nat) (w : World) (hn : n ≤ 600000) (hA : BytesV w A n d) (hAlt : ∀ x, A = some x → 0 < n → x.block < w.heap.size) :
    Calls Tryz.prog 88 #[.slice A n c] w (CopyPost n d w) := by
  by_cases h0 : n = 0
  · subst h0
    clear hA hAlt
    go_enter Tryz.func88, Tryz.ntmps88
    go_wp2_with fail
    go_ret
    exact ⟨none, 0, rfl, ⟨(fun h => by omega), (fun x hx => by cases hx), Nat.le_refl _, fun _ => ⟨rfl, rfl⟩⟩, (fun x hx => by cases hx), Below.refl _ _⟩
  obtain ⟨ad, rfl, hcell⟩ := hA (by omega)
  have hlt := hAlt ad rfl (by omega)
  have hsp : ad.spot = none := World.cell?_spot (by have := hcell 0 (by omega); simpa [Addr.add] using this)
  obtain ⟨b, off, sp⟩ := ad
  obtain rfl : sp = none := hsp
  have hlt' : b < w.heap.size := hlt
  have hcell' : ∀ j, j < n → w.cell? ⟨b, off + j, none⟩ = some (.int .u8 (d j : Int)) := fun j hj => by
    have := hcell j hj
    rwa [Addr.add_mid] at this
  have hmk := fun W => make_bytes n (by omega) W
  obtain ⟨g, hg⟩ : ∃ g, g = w.heap.size := ⟨_, rfl⟩
  obtain ⟨w1, hw1⟩ : ∃ w1, w1 = w.alloc (.cells (rowV n fun _ => .int .u8 0) 5) := ⟨_, rfl⟩
  have hb1 : Below w.heap.size w w1 := by rw [hw1]; exact (Below.refl _ _).alloc (Nat.le_refl _) _
  have hrow1 : BytesAt w1 g n (fun _ => 0) := by rw [hw1, hg]; exact heap_alloc_new w _
  have hgl : g < w1.heap.size := (Array.getElem?_eq_some_iff.1 hrow1).1
  have HC := Lib.hid hcell'
  have HW1 := Lib.hid hw1
  have HB1 := Lib.hid hb1
  have HROW1 := Lib.hid hrow1
  have HG := Lib.hid hg
  have hn0 : 0 < n := by omega
  have hnI : ¬ (n : Int) = 0 := by omega
  clear hA hAlt hcell hcell' hlt hw1 hb1 hrow1 h0 hg
  go_enter Tryz.func88, Tryz.ntmps88
  go_upto_region 4 with (fail)
  rw [← HW1.out, ← HG.out]
  clear hmk
  go_wp2_with fail
  go_loopw [4] (fun i wr => ∃ k : Nat, k ≤ n ∧ i = .int .i64 ((k : Int) - 1) ∧ BytesAt wr g n (fun j => if j < k then 0 else d j) ∧ Below w.heap.size w wr) (fun i _ => (intOf i + 1).toNat)
  case atStart => exact ⟨n, Nat.le_refl _, rfl, HROW1.out.congr9 fun i hi => (by rw [if_pos hi]), HB1.out⟩
  case round =>
    obtain ⟨k, hk, rfl, hrow, hb⟩ := hrel
    have HROW := Lib.hid hrow
    have HB := Lib.hid hb
    clear hrow hb
    by_cases hk0 : k = 0
    · subst hk0
      go_wp2_with fail
      go_ret
      have hr : BytesAt wr g n d := HROW.out.congr9 fun i hi => by rw [if_neg (Nat.not_lt_zero _)]
      refine ⟨some ⟨g, 0, none⟩, n, rfl, ⟨hr.v, fun x hx => ?_, Nat.le_refl _, fun e => by cases e⟩, fun x hx => ?_, HB.out⟩
      · injection hx with hx
        subst hx
        exact ⟨g, _, _, rfl, hr⟩
      · injection hx with hx
        subst hx
        have := HG.out
        show w.heap.size ≤ g
        omega
    · obtain ⟨m, rfl⟩ : ∃ m, k = m + 1 := ⟨k - 1, by omega⟩
      have e0 : wr.cell? ⟨b, off + m, none⟩ = some (.int .u8 (d m : Int)) := (HB.out.cell (p := ⟨b, off + m, none⟩) hlt').trans (HC.out m (by omega))
      have e1 : wr.cell? ⟨g, m, none⟩ = some (.int .u8 ((0 : Nat) : Int)) := by
        have := row_cell HROW.out (show m < n by omega)
        simpa using this
      have e2 : wr.frozen? ⟨g, m, none⟩ = false := one_free HROW.out m
      have hi1 : ((m + 1 : Nat) : Int) - 1 = (m : Int) := by omega
      have hset : BytesAt (wr.setCell ⟨g, m, none⟩ (.int .u8 (d m : Int))) g n (fun j => if j < m then 0 else d j) := by
        have h9 := HROW.out
        unfold BytesAt at h9 ⊢
        rw [Joins.block_setCell (i := m) h9 (.int .u8 (d m : Int)), rowV_set]
        refine congrArg (fun r => some (Obj.cells r 5 (0, 0))) (rowV_congr fun i hi => ?_)
        by_cases e : i = m
        · subst e
          rw [upd_same]
          show Value.int .u8 _ = Value.int .u8 ((if i < i then 0 else d i : Nat) : Int)
          rw [if_neg (Nat.lt_irrefl _)]
        · rw [upd_ne _ _ e]
          show Value.int .u8 ((if i < m + 1 then 0 else d i : Nat) : Int) = Value.int .u8 ((if i < m then 0 else d i : Nat) : Int)
          by_cases h : i < m
          · rw [if_pos h, if_pos (by omega)]
          · rw [if_neg h, if_neg (by omega)]
      have HSET := Lib.hid hset
      have hmn : (m : Int) < (n : Int) := by omega
      have hbs : Below w.heap.size w (wr.setCell ⟨g, m, none⟩ (.int .u8 (d m : Int))) := HB.out.trans ((mod_set (S := fun b => b = g) rfl m _).below (fun b hb => by have := HG.out; omega) HB.out.size)
      have HBS := Lib.hid hbs
      have HI1 := Lib.hid hi1
      have hw8 : IntKind.i64.wrap ((m : Int) - 1) = (m : Int) - 1 := by rw [IntKind.wrap_i64]; omega
      rw [HI1.out]
      clear hset hbs hi1
      go_wp2_with fail
      go_roundw
      case rel => exact ⟨m, by omega, rfl, HSET.out, HBS.out⟩
      case measure => (simp [intOf] <;> omega)

/-! ### the nodes' row -/
structure NdR where
  nd : Nd
  A : Option Addr
  c : Nat
def ndC (x : NdR) : List Value := [.int .u8 (x.nd.kind : Int), .int .u16 (x.nd.mode : Int), .int .u32 (x.nd.uid : Int), .int .u32 (x.nd.gid : Int), .int .i64 (x.nd.n : Int), .int .i64 (x.nd.up : Int), .string x.nd.name, .slice x.A x.nd.n x.c, .string x.nd.to]
theorem nd_elem : Elem 158 162 9 88 (.agg #[.int .u8 0, .int .u16 0, .int .u32 0, .int .u32 0, .int .i64 0, .int .i64 0, .string ByteArray.empty, .slice none 0 0, .string ByteArray.empty]) ndC where
  und := Tryz.underlying158
  info := by kernel_rfl
  size := rfl
  pos := by omega
  small := by omega
  len _ := rfl
  one x v hv := by
    simp only [ndC, List.mem_cons, List.not_mem_nil, or_false] at hv
    rcases hv with rfl | rfl | rfl | rfl | rfl | rfl | rfl | rfl | rfl <;> rfl
/-- The document's files: nodes F, the object at q, its row with room. -/
structure DocFs (w : World) (base q : Nat) (R : Option Addr) (cap : Nat) (L : List NdR) (F : List Nd) : Prop where
  map : L.map NdR.nd = F
  self : w.heap[q]? = some (.cells #[.slice R L.length cap] 160 (0, 0))
  row : OwnG 162 9 ndC w base R cap L
  bytes : ∀ r ∈ L, ByteRow w r.A r.nd.n r.c r.nd.dat
  low : base ≤ q
  ne : R ≠ some ⟨q, 0, none⟩
  blow : ∀ r ∈ L, ∀ x, r.A = some x → base ≤ x.block
theorem DocFs.len {w : World} {base q cap : Nat} {R : Option Addr} {L : List NdR} {F : List Nd} (h : DocFs w base q R cap L F) : L.length = F.length := by rw [← h.map, List.length_map]
theorem DocFs.kept {w w' : World} {base q cap : Nat} {R : Option Addr} {L : List NdR} {F : List Nd} (h : DocFs w base q R cap L F) (hb : Below w.heap.size w w') : DocFs w' base q R cap L F :=
  ⟨h.map, (hb.block q (Array.getElem?_eq_some_iff.1 h.self).1).trans h.self, h.row.kept hb, fun r hr => (h.bytes r hr).keep fun g cs f hg => hb.block g (Array.getElem?_eq_some_iff.1 hg).1, h.low, h.ne, h.blow⟩
theorem DocFs.at {w : World} {base q cap : Nat} {R : Option Addr} {L : List NdR} {F : List Nd} (h : DocFs w base q R cap L F) {i : Nat} {y : Nd} (hy : F[i]? = some y) : ∃ r g, L[i]? = some r ∧ r.nd = y ∧ R = some ⟨g, 0, none⟩ ∧ g < w.heap.size ∧ L.length ≤ cap ∧ ∀ j, j < 9 → w.cell? ⟨g, i * 9 + j, none⟩ = (ndC r)[j]? := by
  rw [← h.map, List.getElem?_map] at hy
  cases hr : L[i]? with
  | none => rw [hr] at hy; cases hy
  | some r =>
    rw [hr] at hy
    injection hy with hy
    rcases h.row.form with ⟨_, e, _⟩ | ⟨g, e, _, hl, hc⟩
    · rw [e] at hr; simp at hr
    · subst e
      exact ⟨r, g, rfl, hy, rfl, hl, hc, fun j hj => h.row.cell nd_elem hr j hj⟩
def optI : Option Nat → Int
  | some n => (n : Int)
  | none => -1
theorem str_neq {a b : ByteArray} (h : a ≠ b) : (a.toList == b.toList) = false := by
  rw [beq_eq_false_iff_ne]
  intro e
  apply h
  rw [ByteArray.toList_eq, ByteArray.toList_eq] at e
  cases a with | mk a => cases b with | mk b => exact congrArg ByteArray.mk (Array.toList_inj.1 e)

set_option maxHeartbeats 2000000 in
set_option maxRecDepth 100000 in
theorem rchild_any (base q cap d : Nat) (R : Option Addr) (L : List NdR) (F : List Nd) (x : ByteArray) (w : World) (h : DocFs w base q R cap L F) (h1 : 1 ≤ F.length) (hfew : F.length ≤ 1000) (hd : d ≤ 1000) :
    Calls Tryz.prog 128 #[.pointer (some ⟨q, 0, none⟩), .int .i64 (d : Int), .string x] w fun e w' => e = .returned (.int .i64 (optI (lookN (namesOf F d) x))) ∧ w = w' := by
  have q0 : w.cell? ⟨q, 0, none⟩ = some (.slice R L.length cap) := one_block h.self 0
  have hlen := h.len
  rw [hlen] at q0
  have H := Lib.hid h
  obtain ⟨res, hres⟩ : ∃ res, res = optI (lookN (namesOf F d) x) := ⟨_, rfl⟩
  rw [← hres]
  have HRES := Lib.hid hres
  clear h hlen hres
  go_enter Tryz.func128, Tryz.ntmps128
  go_wp2_with fail
  go_loopw [7] (fun i wr => ∃ k : Nat, i = .int .i64 (k : Int) ∧ 1 ≤ k ∧ k ≤ F.length ∧ (∀ j, j < k → ¬ isChild F d x j) ∧ w = wr) (fun i _ => F.length - (intOf i).toNat)
  case atStart => exact ⟨1, rfl, Nat.le_refl _, h1, (fun j hj hc => by have := hc.1; omega), rfl⟩
  case round =>
    obtain ⟨k, rfl, hk1, hk, hno, rfl⟩ := hrel
    have HNO := Lib.hid hno
    clear hno
    by_cases hlt : k < F.length
    · obtain ⟨y, hy⟩ : ∃ y, F[k]? = some y := ⟨F[k], List.getElem?_eq_getElem hlt⟩
      obtain ⟨r, g, hr, hry, hRg, hgl, hcap, hcell⟩ := H.out.at hy
      subst hRg
      have c5 : w.cell? ⟨g, k * 9 + 5, none⟩ = some (.int .i64 (y.up : Int)) := by rw [hcell 5 (by omega), ← hry]; rfl
      have c6 : w.cell? ⟨g, k * 9 + 6, none⟩ = some (.string y.name) := by rw [hcell 6 (by omega), ← hry]; rfl
      have hll := H.out.len
      have hkc : k < cap := by omega
      have HY := Lib.hid hy
      clear hcell hr hry hy hll
      by_cases hu : y.up = d
      · have b1 : ((y.up : Int) == (d : Int)) = true := by rw [beq_iff_eq, hu]
        by_cases hx : y.name = x
        · have hc : isChild F d x k := ⟨by omega, y, HY.out, hu, hx⟩
          have HRK := Lib.hid (show res = (k : Int) by rw [HRES.out, lookN_first hc HNO.out]; rfl)
          have b2 : (y.name.toList == x.toList) = true := by rw [hx]; exact beq_self_eq_true _
          clear hu hx hc
          go_wp2_with fail
          go_ret
          exact ⟨by rw [HRK.out]; rfl, rfl⟩
        · have HN2 := Lib.hid (show ∀ j, j < k + 1 → ¬ isChild F d x j from fun j hj hc => by
            by_cases e : j = k
            · subst e
              obtain ⟨_, y', hy', _, hx'⟩ := hc
              rw [HY.out] at hy'
              injection hy' with hy'
              exact hx (hy' ▸ hx')
            · exact HNO.out j (by omega) hc)
          have b2 : (y.name.toList == x.toList) = false := str_neq hx
          clear hu hx
          go_wp2_with fail
          go_roundw
          case rel => exact ⟨k + 1, by go_num, by omega, by omega, HN2.out, trivial⟩
          case measure => (simp [intOf]; omega)
      · have HN2 := Lib.hid (show ∀ j, j < k + 1 → ¬ isChild F d x j from fun j hj hc => by
          by_cases e : j = k
          · subst e
            obtain ⟨_, y', hy', hu', _⟩ := hc
            rw [HY.out] at hy'
            injection hy' with hy'
            exact hu (hy' ▸ hu')
          · exact HNO.out j (by omega) hc)
        have b1 : ((y.up : Int) == (d : Int)) = false := by rw [beq_eq_false_iff_ne]; omega
        clear hu
        go_wp2_with fail
        go_roundw
        case rel => exact ⟨k + 1, by go_num, by omega, by omega, HN2.out, trivial⟩
        case measure => (simp [intOf]; omega)
    · obtain rfl : k = F.length := by omega
      have HRK := Lib.hid (show res = -1 by rw [HRES.out, lookN_noone HNO.out]; rfl)
      go_wp2_with fail
      go_ret
      exact ⟨by rw [HRK.out]; rfl, rfl⟩

/-- Texts that lie in a row. -/
def TextsIn (w : World) (A : Option Addr) (l : List ByteArray) : Prop := ∀ j x, l[j]? = some x → ∃ g, A = some ⟨g, 0, none⟩ ∧ w.cell? ⟨g, j, none⟩ = some (.string x)
theorem OwnS.texts {w : World} {base cap : Nat} {A : Option Addr} {l : List ByteArray} (h : OwnS w base A cap l) (m : Nat) : TextsIn w A (l.take m) := fun j x hx => by
  rw [List.getElem?_take] at hx
  split at hx
  · rcases h.form with ⟨_, e, _⟩ | ⟨g, e, _⟩
    · rw [e] at hx; simp at hx
    · subst e
      exact ⟨g, rfl, h.elem hx⟩
  · cases hx

set_option maxHeartbeats 2000000 in
set_option maxRecDepth 100000 in
theorem rat_any (base q cap m c2 : Nat) (R A : Option Addr) (L : List NdR) (F : List Nd) (l : List ByteArray) (w : World) (h : DocFs w base q R cap L F) (hD : InDirs F) (h1 : 1 ≤ F.length) (hfew : F.length ≤ 1000) (hl : TextsIn w A l) (hm : l.length = m) (hm2 : m ≤ c2) (hm3 : m ≤ 1000) :
    Calls Tryz.prog 87 #[.pointer (some ⟨q, 0, none⟩), .slice A m c2] w fun e w' => e = .returned (.int .i64 (optI (atM F 0 l))) ∧ w = w' := by
  have hch := fun d x (hd : d ≤ 1000) => rchild_any base q cap d R L F x w h h1 hfew hd
  have HCH := Lib.hid hch
  have HL := Lib.hid hl
  have HM := Lib.hid hm
  have HD := Lib.hid hD
  obtain ⟨res, hres⟩ : ∃ res, res = atM F 0 l := ⟨_, rfl⟩
  rw [← hres]
  have HRES := Lib.hid hres
  clear hch hl hm h hres hD
  go_enter Tryz.func87, Tryz.ntmps87
  go_wp2_with fail
  go_loopw [5, 6] (fun v i wr => ∃ k : Nat, i = .int .i64 (k : Int) ∧ k ≤ m ∧ w = wr ∧ ((∃ u : Nat, v = .int .i64 (u : Int) ∧ u < F.length ∧ atM F u (l.drop k) = res) ∨ (v = .int .i64 (-1) ∧ res = none))) (fun _ i _ => m - (intOf i).toNat)
  case atStart => exact ⟨0, rfl, Nat.zero_le _, rfl, .inl ⟨0, rfl, by omega, HRES.out.symm⟩⟩
  case round =>
    obtain ⟨k, rfl, hk, rfl, hst⟩ := hrel
    rcases hst with ⟨u, rfl, hu, hat⟩ | ⟨rfl, hat⟩
    · have HAT := Lib.hid hat
      clear hat
      by_cases hlt : k < m
      · obtain ⟨x, hx⟩ : ∃ x, l[k]? = some x := ⟨_, List.getElem?_eq_getElem (by rw [HM.out]; exact hlt)⟩
        obtain ⟨g, rfl, hcell⟩ := HL.out k x hx
        have hdr : l.drop k = x :: l.drop (k + 1) := by
          obtain ⟨h2, h3⟩ := List.getElem?_eq_some_iff.1 hx
          rw [← h3]
          exact List.drop_eq_getElem_cons h2
        have hstep := HAT.out
        rw [hdr, HD.out.step u x] at hstep
        have HC := Lib.hid (HCH.out u x (by omega))
        have hkc : k < c2 := by omega
        have hu0 : (0 : Int) ≤ (u : Int) := by omega
        cases hlk : lookN (namesOf F u) x with
        | none =>
          rw [hlk] at hstep HC
          have HST := Lib.hid hstep
          clear hstep hdr hx hlk
          go_wp2_with (first
            | (go_at_call 128; refine (HC.out).mono ?_; rintro e w1 ⟨rfl, rfl⟩)
            | fail)
          go_roundw
          case rel => exact ⟨k + 1, by go_num, by omega, trivial, .inr ⟨rfl, HST.out.symm⟩⟩
          case measure => (simp [intOf]; omega)
        | some j =>
          rw [hlk] at hstep HC
          have HST := Lib.hid hstep
          have HJ := Lib.hid (namesOf_mem (lookN_some hlk)).1
          clear hstep hdr hx hlk
          go_wp2_with (first
            | (go_at_call 128; refine (HC.out).mono ?_; rintro e w1 ⟨rfl, rfl⟩)
            | fail)
          go_roundw
          case rel => exact ⟨k + 1, by go_num, by omega, trivial, .inl ⟨j, rfl, HJ.out, HST.out⟩⟩
          case measure => (simp [intOf]; omega)
      · obtain rfl : k = m := by omega
        have HR := Lib.hid (show res = some u by rw [← HAT.out, List.drop_eq_nil_of_le (by rw [HM.out]; exact Nat.le_refl _)]; rfl)
        go_wp2_with fail
        go_ret
        exact ⟨by rw [HR.out]; rfl, rfl⟩
    · have HR := Lib.hid hat
      clear hat
      by_cases hlt : k < m
      · go_wp2_with fail
        go_ret
        exact ⟨by rw [HR.out]; rfl, rfl⟩
      · obtain rfl : k = m := by omega
        go_wp2_with fail
        go_ret
        exact ⟨by rw [HR.out]; rfl, rfl⟩

end Go.Proofs.YtkkmcnngpahfaaaGreatDoor
