/- The document's paths: pieces, Check, Parts, Tail; its copies of bytes. -/
import Derived.Test.YtkkmcnngpahfaaaGreatDoorHrA
import Derived.Test.YtkkmcnngpahfaaaGreatDoorTvA
import Derived.Lib.IndexLaws
import Derived.Lib.IndexAny
namespace Go.Proofs.YtkkmcnngpahfaaaGreatDoor
open Go.RowKit Go.Sort
set_option linter.unusedSimpArgs false
set_option linter.unusedVariables false

theorem get_byte {s : ByteArray} {i : Nat} (h : i < s.size) : s.get! i = s[i] := by
  cases s with
  | mk d =>
    show d[i]! = d[i]
    exact getElem!_pos d i h
/-- What Pieces answers: a row of the call's own. -/
def PcsPost (l : List ByteArray) (w : World) (e : Ending) (w' : World) : Prop := ∃ A cap, e = .returned (.slice A l.length cap) ∧ OwnS w' w.heap.size A cap l ∧ Below w.heap.size w w'

set_option maxHeartbeats 2000000 in
set_option maxRecDepth 100000 in
theorem rpieces_any (s : ByteArray) (w : World) (hs : s.size ≤ 200) : Calls Tryz.prog 127 #[.string s] w (PcsPost (pieces s) w) := by
  go_enter Tryz.func127, Tryz.ntmps127
  go_wp2_with fail
  go_loopw [3, 4, 5] (fun v u i wr => ∃ (A : Option Addr) (cap : Nat) (l : List ByteArray) (fr k : Nat), v = .slice A l.length cap ∧ u = .int .i64 (fr : Int) ∧ i = .int .i64 (k : Int) ∧ OwnS wr w.heap.size A cap l ∧ Below w.heap.size w wr ∧ l.length ≤ k ∧ ((fr ≤ k ∧ k ≤ s.size ∧ l ++ cuts s k fr = pieces s) ∨ (k = s.size + 1 ∧ l = pieces s))) (fun _ _ i _ => s.size + 1 - (intOf i).toNat)
  case atStart => exact ⟨none, 0, [], 0, 0, rfl, rfl, rfl, OwnS.nil _ _, Below.refl _ _, Nat.le_refl _, .inl ⟨Nat.le_refl _, Nat.zero_le _, rfl⟩⟩
  case round =>
    obtain ⟨A, cap, l, fr, k, rfl, rfl, rfl, hO, hb, hlen, hrel⟩ := hrel
    have HO := Lib.hid hO
    have HB := Lib.hid hb
    have hzb := hb.size
    clear hO hb
    rcases hrel with ⟨hfr, hk, hcut⟩ | ⟨hk, hl⟩
    rotate_left
    · have HL := Lib.hid hl
      have hk' : ¬ (k : Int) ≤ (s.size : Int) := by omega
      clear hl hk
      go_wp2_with fail
      go_ret
      exact ⟨A, cap, by rw [HL.out]; rfl, by rw [← HL.out]; exact HO.out, HB.out⟩
    have hk1 : (k : Int) ≤ (s.size : Int) := by omega
    have hf1 : (fr : Int) ≤ (k : Int) := by omega
    have HOA := Lib.hid (HO.out : World.ownsRow _ _ _ _ _ _ _)
    have HCUT := Lib.hid hcut
    clear hcut
    by_cases hend : k = s.size ∨ (∃ h : k < s.size, s[k] = 47)
    · -- a piece ends here
      have HCUT2 := Lib.hid (show (k < s.size ∧ l ++ s.extract fr k :: cuts s (k + 1) (k + 1) = pieces s) ∨ (k = s.size ∧ l ++ [s.extract fr k] = pieces s) from by
        rcases hend with e | ⟨h1, h2⟩
        · right
          refine ⟨e, ?_⟩
          rw [← HCUT.out, cuts_end (by omega), e]
        · left
          refine ⟨h1, ?_⟩
          rw [← HCUT.out, cuts_slash h1 (by rw [get_byte h1]; exact h2)])
      have hOal : ∀ o, OwnS (wr.alloc o) w.heap.size A cap l := fun o => World.ownsRow.alloc HO.out o
      have HOal := Lib.hid hOal
      have HF := Lib.hid HO.out.form
      clear hOal
      have hgo : ∀ (g' cap' : Nat) (w4 : World), OwnS w4 w.heap.size (some ⟨g', 0, none⟩) cap' (l ++ [s.extract fr k]) → (wr.alloc (.cells #[.string (s.extract fr k)] 9)).grownBy w4 (A.map (·.block)) → Below w.heap.size w w4 := fun g' cap' w4 ho4 hg4 => ((HB.out.alloc hzb _).grown hg4 (by simp; omega) (fun b hb => by
        rcases HF.out with ⟨e, _⟩ | ⟨g, e, h1, _⟩
        · rw [e] at hb; cases hb
        · rw [e] at hb; simp at hb; omega))
      have HGO := Lib.hid hgo
      clear hgo
      rcases hend with he | ⟨h1, h2⟩
      · have b1 : ((k : Int) == (s.size : Int)) = true := by rw [beq_iff_eq]; omega
        have HE := Lib.hid he
        clear he
        go_wp2_with (first
          | (at_builtin; refine app_str rfl (.tmp 22) (.tmp 27) rfl w.heap.size A cap l rfl (HOal.out _) (s.extract fr k) wr.heap.size 1 rfl (heap_alloc_new _ _) (by omega) (by simp; omega) ?_; intro g' cap' w4 ho4 hg4 hat4 hlt4; have HO4 := Lib.hid ho4; have HB4 := Lib.hid (HGO.out g' cap' w4 ho4 hg4); clear ho4 hg4 hat4)
          | fail)
        go_roundw
        case rel => exact ⟨some ⟨g', 0, none⟩, cap', l ++ [s.extract fr k], k + 1, k + 1, by rw [List.length_append]; rfl, by go_num, by go_num, HO4.out, HB4.out, by rw [List.length_append, List.length_singleton]; omega, .inr ⟨by have := HE.out; omega, (HCUT2.out.elim (fun h => by have := HE.out; omega) fun h => h.2)⟩⟩
        case measure => (simp [intOf]; omega)
      · have b1 : ((k : Int) == (s.size : Int)) = false := by rw [beq_eq_false_iff_ne]; omega
        have b2 : ((s[k].toNat : Int) == 47) = true := by rw [h2]; rfl
        clear h2
        go_wp2_with (first
          | (at_builtin; refine app_str rfl (.tmp 22) (.tmp 27) rfl w.heap.size A cap l rfl (HOal.out _) (s.extract fr k) wr.heap.size 1 rfl (heap_alloc_new _ _) (by omega) (by simp; omega) ?_; intro g' cap' w4 ho4 hg4 hat4 hlt4; have HO4 := Lib.hid ho4; have HB4 := Lib.hid (HGO.out g' cap' w4 ho4 hg4); clear ho4 hg4 hat4)
          | fail)
        go_roundw
        case rel => exact ⟨some ⟨g', 0, none⟩, cap', l ++ [s.extract fr k], k + 1, k + 1, by rw [List.length_append]; rfl, by go_num, by go_num, HO4.out, HB4.out, by rw [List.length_append, List.length_singleton]; omega, .inl ⟨Nat.le_refl _, by omega, (HCUT2.out.elim (fun h => by rw [List.append_assoc]; exact h.2) fun h => by omega)⟩⟩
        case measure => (simp [intOf]; omega)
    · have h1 : k < s.size := by
        rcases Nat.lt_or_ge k s.size with h | h
        · exact h
        · exact absurd (.inl (by omega)) hend
      have h2 : s[k] ≠ 47 := fun e => hend (.inr ⟨h1, e⟩)
      have b1 : ((k : Int) == (s.size : Int)) = false := by rw [beq_eq_false_iff_ne]; omega
      have b2 : ((s[k].toNat : Int) == 47) = false := by
        rw [beq_eq_false_iff_ne]
        intro e
        exact h2 (UInt8.toNat_inj.1 (by show s[k].toNat = 47; omega))
      have HC2 := Lib.hid (show l ++ cuts s (k + 1) fr = pieces s by rw [← HCUT.out, cuts_other h1 (by rw [get_byte h1]; exact h2)])
      clear hend h2
      go_wp2_with fail
      go_roundw
      case rel => exact ⟨A, cap, l, fr, k + 1, rfl, rfl, by go_num, HO.out, HB.out, by omega, .inl ⟨by omega, by omega, HC2.out⟩⟩
      case measure => (simp [intOf]; omega)

theorem str_empty {s : ByteArray} (h : s.size = 0) : s = ⟨#[]⟩ := by
  cases s with
  | mk d => cases d with
    | mk l => cases l with
      | nil => rfl
      | cons x l => simp [ByteArray.size] at h
theorem str_some {s : ByteArray} (h0 : s.size ≠ 0) : s.toList.isEmpty = false := by
  cases hc : s.toList with
  | nil =>
    exfalso
    apply h0
    have h9 : s.data.toList = [] := by rw [← hc]; exact (ByteArray.toList_eq s).symm
    have h8 : s.data.toList.length = 0 := by rw [h9]; rfl
    exact h8
  | cons x l => rfl
theorem data_get {s : ByteArray} {k : Nat} (h : k < s.size) : s.data.toList[k]? = some s[k] := by
  rw [Array.getElem?_toList]
  exact Array.getElem?_eq_getElem h
/-- The first byte nought, or none. -/
theorem zero_at {s : ByteArray} (h : 0 ≤ Lib.indexByte s.data.toList 0) : ∃ (o : Nat) (h : o < s.size), s[o] = 0 ∧ ∀ k (hk : k < s.size), k < o → s[k] ≠ 0 := by
  obtain ⟨o, ho⟩ := Int.eq_ofNat_of_zero_le h
  obtain ⟨h1, h2⟩ := Lib.indexByte_some ho
  have h3 := (List.getElem?_eq_some_iff.1 h1).1
  have hlt : o < s.size := by simpa using h3
  rw [data_get hlt] at h1
  injection h1 with h1
  exact ⟨o, hlt, h1, fun k hk hko e => h2 k hko (by rw [data_get hk, e])⟩
theorem zero_no {s : ByteArray} (h : ¬ 0 ≤ Lib.indexByte s.data.toList 0) : ∀ k (hk : k < s.size), s[k] ≠ 0 := fun k hk e => by
  have h1 := Lib.indexByte_ge s.data.toList 0
  have h2 : Lib.indexByte s.data.toList 0 = -1 := by omega
  exact Lib.indexByte_none h2 k (by rw [data_get hk, e])

set_option maxHeartbeats 2000000 in
set_option maxRecDepth 100000 in
theorem rchk_any (s : ByteArray) (w : World) (hs : s.size ≤ 1000000000) : Calls Tryz.prog 126 #[.string s] w fun e w' => e = .returned (.int .i64 (chk s)) ∧ Below w.heap.size w w' := by
  by_cases h0 : s.size = 0
  · obtain rfl := str_empty h0
    have hc : chk ⟨#[]⟩ = 3 := rfl
    rw [hc]
    clear hc hs h0
    go_enter Tryz.func126, Tryz.ntmps126
    go_wp2_with fail
    go_ret
    exact ⟨rfl, Below.refl _ _⟩
  have hne := str_some h0
  have hne2 : ¬ s.toList = [] := fun e => by rw [e] at hne; cases hne
  by_cases hz : 0 ≤ Lib.indexByte s.data.toList 0
  · have hc : chk s = 1 := by unfold chk; rw [if_neg h0, if_pos hz]
    obtain ⟨o, hol, ho1, ho2⟩ := zero_at hz
    rw [hc]
    have HO2 := Lib.hid ho2
    have b0 : ((s[o].toNat : Int) == 0) = true := by rw [ho1]; rfl
    clear hc hz ho1 ho2
    go_enter Tryz.func126, Tryz.ntmps126
    go_wp2_with fail
    go_loopw [3] (fun i wr => ∃ k : Nat, i = .int .i64 (k : Int) ∧ k ≤ o ∧ w = wr) (fun i _ => o - (intOf i).toNat)
    case atStart => exact ⟨0, rfl, Nat.zero_le _, rfl⟩
    case round =>
      obtain ⟨k, rfl, hk, rfl⟩ := hrel
      by_cases e : k = o
      · subst e
        go_wp2_with fail
        go_ret
        exact ⟨rfl, Below.refl _ _⟩
      · have hkl : k < s.size := by omega
        have h9 := HO2.out k hkl (by omega)
        have b1 : ((s[k].toNat : Int) == 0) = false := by
          rw [beq_eq_false_iff_ne]
          intro e2
          exact h9 (UInt8.toNat_inj.1 (by show s[k].toNat = 0; omega))
        clear h9
        go_wp2_with fail
        go_roundw
        case rel => exact ⟨k + 1, by go_num, by omega, trivial⟩
        case measure => (simp [intOf]; omega)
  have HZ := Lib.hid (zero_no hz)
  by_cases hl : 200 < s.size
  · have hc : chk s = 11 := by unfold chk; rw [if_neg h0, if_neg hz, if_pos hl]
    rw [hc]
    clear hc hz
    go_enter Tryz.func126, Tryz.ntmps126
    go_wp2_with fail
    go_loopw [3] (fun i wr => ∃ k : Nat, i = .int .i64 (k : Int) ∧ k ≤ s.size ∧ w = wr) (fun i _ => s.size - (intOf i).toNat)
    case atStart => exact ⟨0, rfl, Nat.zero_le _, rfl⟩
    case round =>
      obtain ⟨k, rfl, hk, rfl⟩ := hrel
      by_cases hkl : k < s.size
      · have h9 := HZ.out k hkl
        have b1 : ((s[k].toNat : Int) == 0) = false := by
          rw [beq_eq_false_iff_ne]
          intro e2
          exact h9 (UInt8.toNat_inj.1 (by show s[k].toNat = 0; omega))
        clear h9
        go_wp2_with fail
        go_roundw
        case rel => exact ⟨k + 1, by go_num, by omega, trivial⟩
        case measure => (simp [intOf]; omega)
      · obtain rfl : k = s.size := by omega
        go_wp2_with fail
        go_ret
        exact ⟨rfl, Below.refl _ _⟩
  have hc : chk s = if longP (pieces s) = true then 11 else 0 := by unfold chk; rw [if_neg h0, if_neg hz, if_neg hl]
  rw [hc]
  have HP := Lib.hid (rpieces_any s w (by omega))
  have hpl := pieces_length s
  obtain ⟨l, hle⟩ : ∃ l, l = pieces s := ⟨_, rfl⟩
  rw [← hle] at HP hpl ⊢
  obtain ⟨rv, hrv⟩ : ∃ rv : Int, rv = if longP l = true then 11 else 0 := ⟨_, rfl⟩
  rw [← hrv]
  have HRV := Lib.hid hrv
  clear hc hz hle hrv
  go_enter Tryz.func126, Tryz.ntmps126
  go_wp2_with fail
  go_loopw [3] (fun i wr => ∃ k : Nat, i = .int .i64 (k : Int) ∧ k ≤ s.size ∧ w = wr) (fun i _ => s.size - (intOf i).toNat)
  case atStart => exact ⟨0, rfl, Nat.zero_le _, rfl⟩
  case round =>
    obtain ⟨k, rfl, hk, rfl⟩ := hrel
    by_cases hkl : k < s.size
    · have h9 := HZ.out k hkl
      have b1 : ((s[k].toNat : Int) == 0) = false := by
        rw [beq_eq_false_iff_ne]
        intro e2
        exact h9 (UInt8.toNat_inj.1 (by show s[k].toNat = 0; omega))
      clear h9
      go_wp2_with fail
      go_roundw
      case rel => exact ⟨k + 1, by go_num, by omega, trivial⟩
      case measure => (simp [intOf]; omega)
    · obtain rfl : k = s.size := by omega
      go_wp2_with (first
        | (go_at_call 127; refine (HP.out).mono ?_; rintro e w1 ⟨A, cap, rfl, hO, hb1⟩; have HO := Lib.hid hO; have HB1 := Lib.hid hb1; clear hO hb1)
        | fail)
      go_loopw [5] (fun i wr => ∃ q : Nat, i = .int .i64 (q : Int) ∧ q ≤ l.length ∧ longP (l.take q) = false ∧ w1 = wr) (fun i _ => l.length - (intOf i).toNat)
      case atStart => exact ⟨0, rfl, Nat.zero_le _, rfl, rfl⟩
      case round =>
        obtain ⟨q, rfl, hq, hlong, rfl⟩ := hrel
        have HLG := Lib.hid hlong
        clear hlong
        by_cases hql : q < l.length
        · obtain ⟨x, hx⟩ : ∃ x, l[q]? = some x := ⟨l[q], List.getElem?_eq_getElem hql⟩
          rcases HO.out.form with ⟨_, h2, _⟩ | ⟨g, hg1, _, hg2, hg3⟩
          · rw [h2] at hql; exact absurd hql (Nat.not_lt_zero _)
          subst hg1
          have hcell := HO.out.elem hx
          have hts := take_snoc hx
          have hqc : q < cap := by omega
          by_cases hbig : 32 < x.size
          · have hlp : longP l = true := by
              rw [← List.take_append_drop (q + 1) l]
              refine longP_sub ?_
              rw [hts, longP_snoc]
              simp [hbig]
            have HLP := Lib.hid (show rv = 11 by rw [HRV.out, if_pos hlp])
            have hb9 : (32 : Int) < (x.size : Int) := by omega
            clear hts hx hlp
            go_wp2_with fail
            go_ret
            exact ⟨by rw [HLP.out]; rfl, HB1.out⟩
          · have HL2 := Lib.hid (show longP (l.take (q + 1)) = false by rw [hts, longP_snoc, HLG.out]; simp; omega)
            have hb9 : ¬ (32 : Int) < (x.size : Int) := by omega
            clear hts hx
            go_wp2_with fail
            go_roundw
            case rel => exact ⟨q + 1, by go_num, by omega, HL2.out, trivial⟩
            case measure => (simp [intOf]; omega)
        · obtain rfl : q = l.length := by omega
          have HLP := Lib.hid (show rv = 0 by
            have h9 := HLG.out
            rw [List.take_length] at h9
            rw [HRV.out, h9]
            rfl)
          go_wp2_with fail
          go_ret
          exact ⟨by rw [HLP.out]; rfl, HB1.out⟩

theorem prefix_byte {s : ByteArray} (h : 0 < s.size) : ((s[0].toNat : Int) == 47) = Lib.hasPrefix s.data.toList [47] := by
  unfold Lib.hasPrefix
  have h0 := data_get h
  cases hd : s.data.toList with
  | nil => rw [hd] at h0; cases h0
  | cons x l =>
    rw [hd] at h0
    simp only [List.getElem?_cons_zero, Option.some.injEq] at h0
    rw [← h0]
    have e : List.isPrefixOf [(47 : UInt8)] (x :: l) = ((47 : UInt8) == x) := by simp [List.isPrefixOf]
    rw [e, Bool.eq_iff_iff, beq_iff_eq, beq_iff_eq]
    constructor
    · intro hx; exact (UInt8.toNat_inj.1 (by show x.toNat = 47; omega)).symm
    · intro hx; rw [← hx]; rfl
theorem suffix_byte {s : ByteArray} (h : 0 < s.size) : ((s[s.size - 1].toNat : Int) == 47) = Lib.hasSuffix s.data.toList [47] := by
  unfold Lib.hasSuffix
  have h0 := data_get (show s.size - 1 < s.size by omega)
  have hl : s.data.toList.length = s.size := rfl
  have hne : s.data.toList ≠ [] := fun e => by rw [e] at hl; simp at hl; omega
  have hlast : s.data.toList.getLast hne = s[s.size - 1] := by
    rw [List.getLast_eq_getElem]
    have h1 := List.getElem?_eq_getElem (show s.data.toList.length - 1 < s.data.toList.length by omega)
    have h2 : s.data.toList[s.data.toList.length - 1]? = some s[s.size - 1] := by rw [hl]; exact h0
    rw [h1] at h2
    injection h2
  have hsp := List.dropLast_concat_getLast hne
  rw [hlast] at hsp
  rw [Bool.eq_iff_iff, beq_iff_eq, List.isSuffixOf_iff_suffix]
  constructor
  · intro hx
    have h47 : s[s.size - 1] = 47 := UInt8.toNat_inj.1 (by show s[s.size - 1].toNat = 47; omega)
    rw [h47] at hsp
    exact ⟨_, hsp⟩
  · rintro ⟨t, ht⟩
    rw [← ht] at hsp
    have := List.append_inj_right' hsp rfl
    simp at this
    rw [this]
    rfl
theorem suffix_empty : Lib.hasSuffix (ByteArray.mk #[]).data.toList [47] = false := rfl

set_option maxHeartbeats 1000000 in
theorem rtail_any (s : ByteArray) (w : World) (hs : s.size ≤ 1000000000) : Calls Tryz.prog 125 #[.string s] w fun e w' => e = .returned (.bool (Lib.hasSuffix s.data.toList [47])) ∧ w = w' := by
  by_cases h0 : s.size = 0
  · obtain rfl := str_empty h0
    rw [suffix_empty]
    clear hs h0
    go_enter Tryz.func125, Tryz.ntmps125
    go_wp2_with fail
    go_ret
    exact ⟨rfl, rfl⟩
  · obtain ⟨m, hm⟩ : ∃ m, s.size = m + 1 := ⟨s.size - 1, by omega⟩
    have hml : m < s.size := by omega
    obtain ⟨b, hb⟩ : ∃ b, b = Lib.hasSuffix s.data.toList [47] := ⟨_, rfl⟩
    have h1 : ((s[m].toNat : Int) == 47) = b := by
      rw [hb, ← suffix_byte (by omega)]
      simp only [hm, Nat.add_sub_cancel]
    have i1 : (0 : Int) < (s.size : Int) := by omega
    have i2 : IntKind.i64.wrap ((s.size : Int) - 1) = (m : Int) := by rw [IntKind.wrap_i64]; omega
    rw [← hb]
    have HM := Lib.hid hm
    clear hb hm
    go_enter Tryz.func125, Tryz.ntmps125
    go_wp2_with fail
    go_ret
    exact ⟨rfl, rfl⟩

set_option maxHeartbeats 1000000 in
theorem rparts_err (s : ByteArray) (w : World) (hs : s.size ≤ 1000000000) (hc : chk s ≠ 0) : Calls Tryz.prog 86 #[.string s] w fun e w' => e = .returned (.tuple #[.slice none 0 0, .bool false, .int .i64 (chk s)]) ∧ Below w.heap.size w w' := by
  have HC := Lib.hid (rchk_any s w hs)
  obtain ⟨r, hr⟩ : ∃ r, r = chk s := ⟨_, rfl⟩
  rw [← hr] at HC hc ⊢
  have r1 : (r != 0) = true := by rw [bne_iff_ne]; exact hc
  clear hc hr
  go_enter Tryz.func86, Tryz.ntmps86
  go_wp2_with (first
    | (go_at_call 126; refine (HC.out).mono ?_; rintro e w1 ⟨rfl, hb1⟩)
    | fail)
  go_ret3
  exact ⟨rfl, hb1⟩
set_option maxHeartbeats 2000000 in
set_option maxRecDepth 100000 in
theorem rparts_ok (s : ByteArray) (w : World) (hc : chk s = 0) : Calls Tryz.prog 86 #[.string s] w (PartsOkPost s w) := by
  obtain ⟨z0, z200, _, _⟩ := chk_zero hc
  have hchk := rchk_any s w (by omega)
  rw [hc] at hchk
  have HC := Lib.hid hchk
  have HP := Lib.hid (fun W => rpieces_any s W z200)
  have hpl := pieces_length s
  have hb := prefix_byte z0
  obtain ⟨pb, hpb⟩ : ∃ pb, pb = Lib.hasPrefix s.data.toList [47] := ⟨_, rfl⟩
  rw [← hpb] at hb
  obtain ⟨l, hl⟩ : ∃ l, l = pieces s := ⟨_, rfl⟩
  have hpo : partsOf s = l.filter isPart := by rw [hl]; rfl
  rw [← hl] at HP hpl
  unfold PartsOkPost
  rw [← hpb, hpo]
  have HB := Lib.hid hb
  clear hc hchk hb hpb hl hpo
  go_enter Tryz.func86, Tryz.ntmps86
  go_wp2_with (first
    | (go_at_call 126; refine (HC.out).mono ?_; rintro e w1 ⟨rfl, hb1⟩; have HB1 := Lib.hid hb1; have hz1 := hb1.size; clear hb1)
    | (go_at_call 127; refine (HP.out _).mono ?_; rintro e w2 ⟨A2, cap2, rfl, hO2, hb2⟩; have HO2 := Lib.hid hO2; have HB2 := Lib.hid (HB1.out.trans (hb2.mono hz1)); have hz2 := hb2.size; clear hO2 hb2)
    | fail)
  go_loopw [6, 8] (fun v i wr => ∃ (A : Option Addr) (cap q : Nat), v = .slice A ((l.take q).filter isPart).length cap ∧ i = .int .i64 (q : Int) ∧ q ≤ l.length ∧ OwnS wr w2.heap.size A cap ((l.take q).filter isPart) ∧ Below w2.heap.size w2 wr) (fun _ i _ => l.length - (intOf i).toNat)
  case atStart => exact ⟨none, 0, 0, rfl, rfl, Nat.zero_le _, OwnS.nil _ _, Below.refl _ _⟩
  case round =>
    obtain ⟨A, cap, q, rfl, rfl, hq, hO, hbe⟩ := hrel
    have HO := Lib.hid hO
    have HBE := Lib.hid hbe
    have hzr := hbe.size
    clear hO hbe
    by_cases hql : q < l.length
    · obtain ⟨x, hx⟩ : ∃ x, l[q]? = some x := ⟨l[q], List.getElem?_eq_getElem hql⟩
      have hts := take_snoc hx
      rcases HO2.out.form with ⟨_, h2, _⟩ | ⟨g, hg1, _, hg2, hg3⟩
      · rw [h2] at hql; exact absurd hql (Nat.not_lt_zero _)
      have hcell : wr.cell? ⟨g, q, none⟩ = some (.string x) := by
        have h9 := HO2.out
        rw [hg1] at h9
        exact (HBE.out.cell (p := ⟨g, q, none⟩) hg2).trans (h9.elem hx)
      subst hg1
      have hqc : q < cap2 := by omega
      have hfl : ((l.take q).filter isPart).length ≤ 300 := Nat.le_trans (List.length_filter_le _ _) (by rw [List.length_take]; omega)
      by_cases hp : isPart x = true
      · obtain ⟨t1, t2, t3⟩ := isPart_tests hp
        have HTS := Lib.hid (show (l.take (q + 1)).filter isPart = (l.take q).filter isPart ++ [x] by rw [hts, filter_snoc_yes _ hp])
        obtain ⟨m, hm⟩ : ∃ m, m = (l.take q).filter isPart := ⟨_, rfl⟩
        rw [← hm] at HO hfl HTS ⊢
        have HOal := Lib.hid (fun o => (World.ownsRow.alloc HO.out o : OwnS (wr.alloc o) w2.heap.size A cap m))
        have HF := Lib.hid HO.out.form
        clear hts hx hp hm
        go_wp2_with (first
          | (at_builtin; refine app_str rfl (.tmp 34) (.tmp 39) rfl w2.heap.size A cap m rfl (HOal.out _) x wr.heap.size 1 rfl (heap_alloc_new _ _) (by omega) (by simp; omega) ?_; intro g' cap' w4 ho4 hg4 hat4 hlt4; have HO4 := Lib.hid ho4; have HB4 := Lib.hid ((HBE.out.alloc hzr (.cells #[.string x] 9)).grown hg4 (by simp; omega) (fun b hb => (by rcases HF.out with ⟨e, _⟩ | ⟨g, e, h1, _⟩; (rw [e] at hb; cases hb); (rw [e] at hb; simp at hb; omega)))); clear ho4 hg4 hat4)
          | fail)
        go_roundw
        case rel => exact ⟨some ⟨g', 0, none⟩, cap', q + 1, by rw [HTS.out, List.length_append]; rfl, by go_num, by omega, by rw [HTS.out]; exact HO4.out, HB4.out⟩
        case measure => (simp [intOf]; omega)
      · have hp' : isPart x = false := by simpa using hp
        have HTS := Lib.hid (show (l.take (q + 1)).filter isPart = (l.take q).filter isPart by rw [hts, filter_snoc_no _ hp'])
        have hno := isPart_no hp'
        obtain ⟨m, hm⟩ : ∃ m, m = (l.take q).filter isPart := ⟨_, rfl⟩
        rw [← hm] at HO hfl HTS ⊢
        clear hts hx hp hp' hm
        rcases hno with rfl | rfl
        all_goals
          go_wp2_with fail
          go_roundw
          case rel => exact ⟨A, cap, q + 1, by rw [HTS.out], by go_num, by omega, by rw [HTS.out]; exact HO.out, HBE.out⟩
          case measure => (simp [intOf]; omega)
    · obtain rfl : q = l.length := by omega
      have HT := Lib.hid (show l.take l.length = l from List.take_length)
      obtain ⟨l2, hl2⟩ : ∃ l2, l2 = l.take l.length := ⟨_, rfl⟩
      rw [← hl2] at HO HT ⊢
      have hb9 := HB.out
      have i0 : (0 : Int) < (s.size : Int) := by omega
      clear hl2
      go_upto_region 11 with (fail)
      go_region
      all_goals
        go_wp2_with fail
        go_ret3
        exact ⟨A, cap, by rw [HT.out]; rfl, by rw [HT.out] at HO; exact (HO.out.lower HB2.out.size).kept ((Below.refl _ _).drew), HB2.out.trans ((HBE.out.drew).mono HB2.out.size)⟩

end Go.Proofs.YtkkmcnngpahfaaaGreatDoor
