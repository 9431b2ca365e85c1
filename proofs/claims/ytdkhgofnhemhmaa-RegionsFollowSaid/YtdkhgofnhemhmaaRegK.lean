/- Regions: without of the references. -/
import Derived.Test.YtdkhgofnhemhmaaRegJ
namespace Go.Proofs.Ytdkhgofnhemhmaa
open Go.RowKit Go.Sort
set_option linter.unusedSimpArgs false
set_option linter.unusedVariables false

def Rg.wo1 (f t : Int) (r : Reg) : List Reg := if r.to ≤ f ∨ t ≤ r.fr then [r] else (if r.fr < f then [Rg.rpart r r.fr f] else []) ++ (if t < r.to then [Rg.rpart r t r.to] else [])
def Rg.without (l : List Reg) (f t : Int) : List Reg := l.flatMap (Rg.wo1 f t)
theorem without_take {f t : Int} {l : List Reg} {k : Nat} {r : Reg} (hr : l[k]? = some r) : Rg.without (l.take (k + 1)) f t = Rg.without (l.take k) f t ++ Rg.wo1 f t r := by
  rw [List.take_add_one, hr]
  simp [Rg.without]
theorem wo1_len (f t : Int) (r : Reg) : (Rg.wo1 f t r).length ≤ 2 := by
  unfold Rg.wo1
  split
  · simp
  · rw [List.length_append]
    split <;> split <;> simp
theorem without_len (l : List Reg) (f t : Int) : (Rg.without l f t).length ≤ 2 * l.length := by
  induction l with
  | nil => simp [Rg.without]
  | cons r l ih =>
    have h1 := wo1_len f t r
    simp only [Rg.without, List.flatMap_cons, List.length_append, List.length_cons] at *
    omega

theorem app_keep {X w2 : World} {row : Option Nat} {b : Nat} {o : Obj} (hg : X.grownBy w2 row) (hb : X.heap[b]? = some o) (hne : some b ≠ row) : w2.heap[b]? = some o :=
  (hg.block b (Array.getElem?_eq_some_iff.1 hb).1 hne).trans hb

theorem box_facts {w : World} {b : Nat} {r : Reg} (h : w.heap[b]? = some (.cells #[.int .u64 r.fr, .int .u64 r.to, .int .u8 r.prot, .int .i64 r.ino, .int .u64 r.off] 25 (0, 0))) : BoxAt w b r :=
  ⟨one_block h 0, one_block h 1, one_block h 2, one_block h 3, one_block h 4⟩

set_option maxHeartbeats 4000000 in
theorem without_any (f t : Int) (A : Option Addr) (n cap : Nat) (w : World) (l : List Reg) (hl : RSl w w.heap.size A n cap l) (hf : n ≤ 1000) :
    Calls Try.prog 44 #[.slice A n cap, .int .u64 f, .int .u64 t] w
      fun e w' => ∃ A' cap', e = .returned (.slice A' (Rg.without l f t).length cap') ∧ OwnR w' w.heap.size A' cap' (Rg.without l f t) ∧ Below w.heap.size w w' := by
  have hln := Lib.hid hl.len
  go_enter Try.func44, Try.ntmps44
  go_wp2
  go_loopw [7, 8] (fun v i wr => ∃ k : Nat, k ≤ n ∧ i = .int .i64 k ∧ Below w.heap.size w wr ∧ ∃ A cap, v = .slice A (Rg.without (l.take k) f t).length cap ∧ OwnR wr w.heap.size A cap (Rg.without (l.take k) f t)) (fun _ i _ => n - (intOf i).toNat)
  case atStart => exact ⟨0, Nat.zero_le _, rfl, Below.refl _ _, none, 0, rfl, OwnR.nil _ _⟩
  case round =>
    obtain ⟨k, hk, rfl, hB, A1, ca, rfl, ho⟩ := hrel
    have hBs := hB.size
    have hjl := without_len (l.take k) f t
    have hlk : (l.take k).length ≤ 1000 := by rw [List.length_take]; omega
    by_cases hlt : k < n
    · obtain ⟨r, hr⟩ : ∃ r, l[k]? = some r := ⟨_, List.getElem?_eq_getElem (by have := hln.out; omega)⟩
      obtain ⟨b, off, rfl, hb, hra⟩ := hl.at_ k r hr
      obtain ⟨h0, h1, h2, h3, h4⟩ := hra.below hB hb
      have hkn : (k : Int) < (n : Int) := by omega
      have hk0 : (0 : Int) ≤ (k : Int) := by omega
      have HT := Lib.hid (without_take (f := f) (t := t) hr)
      generalize hacc : Rg.without (l.take k) f t = acc at *
      have hfew : acc.length < 1000000 := by omega
      generalize hm : acc.length = m at *
      have HM := Lib.hid hm
      have HO := Lib.hid ho
      have hrow := ho.row
      have hnb : Hid (some wr.heap.size ≠ A1.map (·.block)) := Lib.hid fun e => by have := hrow _ e.symm; omega
      have HBX := Lib.hid (heap_alloc_new wr (.cells #[.int .u64 r.fr, .int .u64 r.to, .int .u8 r.prot, .int .i64 r.ino, .int .u64 r.off] 25))
      clear hr ho hacc hm hrow hl
      have HMm : m ≤ 2000 := by omega
      clear hjl hlk
      by_cases hc : r.to ≤ f ∨ t ≤ r.fr
      · have hfin := Lib.hid (HT.out.trans (by rw [Rg.wo1, if_pos hc]))
        have key : ∀ w2 g' cap', Below w.heap.size w w2 → OwnR w2 w.heap.size (some ⟨g', 0, none⟩) cap' (acc ++ [r]) → ∃ A cap, Value.slice (some ⟨g', 0, none⟩) (m + 1) cap' = .slice A (Rg.without (l.take (k + 1)) f t).length cap ∧ OwnR w2 w.heap.size A cap (Rg.without (l.take (k + 1)) f t) := fun w2 g' cap' h1 h2 => by
          refine ⟨some ⟨g', 0, none⟩, cap', ?_, ?_⟩
          · rw [hfin.out, List.length_append, HM.out]; rfl
          · rw [hfin.out]; exact h2
        have KEY := Lib.hid key
        clear key
        by_cases c1 : r.to ≤ f
        · clear hc
          go_wp2_with (at_builtin; refine app_reg rfl (.tmp 30) (.tmp 32) rfl (w.heap.size) A1 ca acc (by rw [HM.out]; rfl) ((HO.out.alloc _).alloc _) r ((wr.heap.size + 1)) 1 rfl (by have := heap_alloc_new (wr.alloc (.cells #[.int .u64 r.fr, .int .u64 r.to, .int .u8 r.prot, .int .i64 r.ino, .int .u64 r.off] 25)) (.cells #[.int .u64 r.fr, .int .u64 r.to, .int .u8 r.prot, .int .i64 r.ino, .int .u64 r.off] 25); simpa using this) (by rw [HM.out]; omega) (by simp; omega) ?_; rw [HM.out]; intro g' cap' w2 ho2 hg2 hat2 hlt2; have hB2 := below_app (w := w) (by ((repeat' (with_reducible (first | assumption | (refine Below.alloc ?_ ?_ _) | (refine Below.setCell ?_ ?_ _) | (refine Below.drew ?_) | (refine below_drewN ?_ _) | exact Below.refl _ _ | (refine Below.trans ?_ (Below.mono (by assumption) ?_))))) <;> (try simp) <;> (try omega))) ((HO.out.alloc _).alloc _) hg2 (by simp; omega))
          go_roundw
          case rel => exact ⟨k + 1, by omega, by go_num, hB2, KEY.out _ _ _ hB2 ho2⟩
          case measure => simp [intOf]; omega
        · have c2 : t ≤ r.fr := by omega
          clear hc
          go_wp2_with (at_builtin; refine app_reg rfl (.tmp 30) (.tmp 32) rfl (w.heap.size) A1 ca acc (by rw [HM.out]; rfl) ((HO.out.alloc _).alloc _) r ((wr.heap.size + 1)) 1 rfl (by have := heap_alloc_new (wr.alloc (.cells #[.int .u64 r.fr, .int .u64 r.to, .int .u8 r.prot, .int .i64 r.ino, .int .u64 r.off] 25)) (.cells #[.int .u64 r.fr, .int .u64 r.to, .int .u8 r.prot, .int .i64 r.ino, .int .u64 r.off] 25); simpa using this) (by rw [HM.out]; omega) (by simp; omega) ?_; rw [HM.out]; intro g' cap' w2 ho2 hg2 hat2 hlt2; have hB2 := below_app (w := w) (by ((repeat' (with_reducible (first | assumption | (refine Below.alloc ?_ ?_ _) | (refine Below.setCell ?_ ?_ _) | (refine Below.drew ?_) | (refine below_drewN ?_ _) | exact Below.refl _ _ | (refine Below.trans ?_ (Below.mono (by assumption) ?_))))) <;> (try simp) <;> (try omega))) ((HO.out.alloc _).alloc _) hg2 (by simp; omega))
          go_roundw
          case rel => exact ⟨k + 1, by omega, by go_num, hB2, KEY.out _ _ _ hB2 ho2⟩
          case measure => simp [intOf]; omega
      · have c1 : ¬ r.to ≤ f := by omega
        have c2 : ¬ t ≤ r.fr := by omega
        have hfin0 := HT.out
        rw [Rg.wo1, if_neg hc] at hfin0
        clear hc
        by_cases d1 : r.fr < f
        · rw [if_pos d1] at hfin0
          go_wp2_with fail
          refine (rpart_any r _ _ _).mono ?_
          rintro e w1 ⟨rfl, hb1⟩
          have hs1 := hb1.size
          simp at hs1
          have hx1 := (hb1.block _ (by simp)).trans HBX.out
          have ho1 := Lib.hid ((HO.out.alloc (.cells #[.int .u64 r.fr, .int .u64 r.to, .int .u8 r.prot, .int .i64 r.ino, .int .u64 r.off] 25)).below hb1 (Nat.le_refl _))
          have HX1 := Lib.hid hx1
          clear hx1 h0 h1 h2 h3 h4
          by_cases d2 : t < r.to
          · rw [if_pos d2] at hfin0
            have hfin := Lib.hid hfin0
            clear hfin0
            go_wp2_with (at_builtin; refine app_reg rfl (.tmp 38) (.tmp 44) rfl (w.heap.size) A1 ca acc (by rw [HM.out]; rfl) (ho1.out.alloc _) (Rg.rpart r r.fr f) (w1.heap.size) 1 rfl (heap_alloc_new w1 _) (by rw [HM.out]; omega) (by simp; omega) ?_; rw [HM.out]; intro g' cap' w2 ho2 hg2 hat2 hlt2; (have hB2 := below_app (w := w) (by ((repeat' (with_reducible (first | assumption | (refine Below.alloc ?_ ?_ _) | (refine Below.setCell ?_ ?_ _) | (refine Below.drew ?_) | (refine below_drewN ?_ _) | exact Below.refl _ _ | (refine Below.trans ?_ (Below.mono (by assumption) ?_))))) <;> (try simp) <;> (try omega))) (ho1.out.alloc _) hg2 (by simp; omega); have hx2 := app_keep hg2 ((Below.heap_alloc w1 _ _ (by omega)).trans HX1.out) hnb.out; obtain ⟨k0, k1, k2, k3, k4⟩ := box_facts hx2; have HX2 := Lib.hid hx2; clear hx2))
            have HM2 : Hid ((acc ++ [Rg.rpart r r.fr f]).length = m + 1) := Lib.hid (by rw [List.length_append, HM.out]; rfl)
            have hs2 := hB2.size
            refine (rpart_any r _ _ _).mono ?_
            rintro e w3 ⟨rfl, hb3⟩
            have hs3 := hb3.size
            have ho3 := Lib.hid (ho2.below hb3 (Nat.le_refl _))
            clear k0 k1 k2 k3 k4
            go_wp2_with (at_builtin; refine app_reg rfl (.tmp 50) (.tmp 56) rfl w.heap.size (some ⟨g', 0, none⟩) cap' (acc ++ [Rg.rpart r r.fr f]) (by rw [HM2.out]; rfl) (ho3.out.alloc _) (Rg.rpart r t r.to) w3.heap.size 1 rfl (heap_alloc_new w3 _) (by rw [HM2.out]; omega) (by simp; omega) ?_; rw [HM2.out]; intro g4 cap4 w4 ho4 hg4 hat4 hlt4; have hB4 := below_app (w := w) (by ((repeat' (with_reducible (first | assumption | (refine Below.alloc ?_ ?_ _) | (refine Below.setCell ?_ ?_ _) | (refine Below.drew ?_) | (refine below_drewN ?_ _) | exact Below.refl _ _ | (refine Below.trans ?_ (Below.mono (by assumption) ?_))))) <;> (try simp) <;> (try omega))) (ho3.out.alloc _) hg4 (by simp; omega))
            have hl4 : (acc ++ [Rg.rpart r r.fr f] ++ [Rg.rpart r t r.to]).length = m + 1 + 1 := by rw [List.length_append, HM2.out]; rfl
            have hf4 := hfin.out
            rw [← List.append_assoc] at hf4
            go_roundw
            case rel => exact ⟨k + 1, by omega, by go_num, hB4, some ⟨g4, 0, none⟩, cap4, by rw [hf4, hl4], by rw [hf4]; exact ho4⟩
            case measure => simp [intOf]; omega
          · rw [if_neg d2, List.append_nil] at hfin0
            have hfin := Lib.hid hfin0
            clear hfin0
            go_wp2_with (at_builtin; refine app_reg rfl (.tmp 38) (.tmp 44) rfl (w.heap.size) A1 ca acc (by rw [HM.out]; rfl) (ho1.out.alloc _) (Rg.rpart r r.fr f) (w1.heap.size) 1 rfl (heap_alloc_new w1 _) (by rw [HM.out]; omega) (by simp; omega) ?_; rw [HM.out]; intro g' cap' w2 ho2 hg2 hat2 hlt2; (have hB2 := below_app (w := w) (by ((repeat' (with_reducible (first | assumption | (refine Below.alloc ?_ ?_ _) | (refine Below.setCell ?_ ?_ _) | (refine Below.drew ?_) | (refine below_drewN ?_ _) | exact Below.refl _ _ | (refine Below.trans ?_ (Below.mono (by assumption) ?_))))) <;> (try simp) <;> (try omega))) (ho1.out.alloc _) hg2 (by simp; omega); have hx2 := app_keep hg2 ((Below.heap_alloc w1 _ _ (by omega)).trans HX1.out) hnb.out; obtain ⟨k0, k1, k2, k3, k4⟩ := box_facts hx2; have HX2 := Lib.hid hx2; clear hx2))
            have hl2 : (acc ++ [Rg.rpart r r.fr f]).length = m + 1 := by rw [List.length_append, HM.out]; rfl
            go_roundw
            case rel => exact ⟨k + 1, by omega, by go_num, hB2, some ⟨g', 0, none⟩, cap', by rw [hfin.out, hl2], by rw [hfin.out]; exact ho2⟩
            case measure => simp [intOf]; omega
        · rw [if_neg d1, List.nil_append] at hfin0
          by_cases d2 : t < r.to
          · rw [if_pos d2] at hfin0
            have hfin := Lib.hid hfin0
            clear hfin0
            go_wp2_with fail
            refine (rpart_any r _ _ _).mono ?_
            rintro e w1 ⟨rfl, hb1⟩
            have hs1 := hb1.size
            simp at hs1
            have ho1 := Lib.hid ((HO.out.alloc (.cells #[.int .u64 r.fr, .int .u64 r.to, .int .u8 r.prot, .int .i64 r.ino, .int .u64 r.off] 25)).below hb1 (Nat.le_refl _))
            clear h0 h1 h2 h3 h4
            go_wp2_with (at_builtin; refine app_reg rfl (.tmp 50) (.tmp 56) rfl (w.heap.size) A1 ca acc (by rw [HM.out]; rfl) (ho1.out.alloc _) (Rg.rpart r t r.to) (w1.heap.size) 1 rfl (heap_alloc_new w1 _) (by rw [HM.out]; omega) (by simp; omega) ?_; rw [HM.out]; intro g' cap' w2 ho2 hg2 hat2 hlt2; (have hB2 := below_app (w := w) (by ((repeat' (with_reducible (first | assumption | (refine Below.alloc ?_ ?_ _) | (refine Below.setCell ?_ ?_ _) | (refine Below.drew ?_) | (refine below_drewN ?_ _) | exact Below.refl _ _ | (refine Below.trans ?_ (Below.mono (by assumption) ?_))))) <;> (try simp) <;> (try omega))) (ho1.out.alloc _) hg2 (by simp; omega)))
            have hl2 : (acc ++ [Rg.rpart r t r.to]).length = m + 1 := by rw [List.length_append, HM.out]; rfl
            go_roundw
            case rel => exact ⟨k + 1, by omega, by go_num, hB2, some ⟨g', 0, none⟩, cap', by rw [hfin.out, hl2], by rw [hfin.out]; exact ho2⟩
            case measure => simp [intOf]; omega
          · rw [if_neg d2, List.append_nil] at hfin0
            have hfin := Lib.hid hfin0
            clear hfin0
            go_wp2
            go_roundw
            case rel => exact ⟨k + 1, by omega, by go_num, by ((repeat' (with_reducible (first | assumption | (refine Below.alloc ?_ ?_ _) | (refine Below.setCell ?_ ?_ _) | (refine Below.drew ?_) | (refine below_drewN ?_ _) | exact Below.refl _ _ | (refine Below.trans ?_ (Below.mono (by assumption) ?_))))) <;> (try simp) <;> (try omega)), A1, ca, by rw [hfin.out, HM.out], by rw [hfin.out]; exact HO.out.alloc _⟩
            case measure => simp [intOf]; omega
    · have ht : l.take k = l := List.take_of_length_le (by have := hln.out; omega)
      rw [ht] at ho
      rw [ht]
      have HO := Lib.hid ho
      clear ho hjl
      generalize hacc : Rg.without l f t = acc at *
      have HA := Lib.hid hacc
      clear hacc
      go_wp2
      go_ret
      refine ⟨A1, ca, ?_, ?_, hB⟩
      · rw [HA.out]; rfl
      · rw [HA.out]; exact HO.out

end Go.Proofs.Ytdkhgofnhemhmaa
