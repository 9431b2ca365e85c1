/- Regions: the walk of the statement RegionsLowest. -/
import Derived.Test.YtdkhgofnhemhmaaRegW
namespace Go.Proofs.Ytdkhgofnhemhmaa
open Go.RowKit Go.Sort
set_option linter.unusedSimpArgs false
set_option linter.unusedVariables false

theorem lawLowest_big (A : Option Addr) (n cap : Nat) (s lo : Int) (w : World) (hn : 300 < n) (hm : n ≤ 9223372036854775807) :
    Calls Try.prog 6 #[.slice A n cap, .int .u64 s, .int .u64 lo] w fun e w' => e = .returned (.bool true) ∧ Below w.heap.size w w' := by
  have hd : decide (300 < n) = true := by simpa using hn
  have hL := fun W => large_any A n cap W hm
  rw [hd] at hL
  have HL := Lib.hid hL
  clear hL
  go_enter Try.func6, Try.ntmps6
  go_wp2_with (first
    | (go_at_call 9; refine (HL.out _).mono ?_; rintro e w1 ⟨rfl, rfl⟩)
    | (go_at_call 10; refine (works_any _).mono ?_; rintro e w2 ⟨rfl, hb2⟩))
  go_ret
  exact ⟨rfl, by ((repeat' (with_reducible (first | assumption | (refine Below.alloc ?_ ?_ _) | (refine Below.setCell ?_ ?_ _) | (refine Below.drew ?_) | (refine below_drewN ?_ _) | exact Below.refl _ _ | (refine Below.trans ?_ (Below.mono (by assumption) ?_))))) <;> (try simp) <;> (try omega))⟩

set_option maxRecDepth 100000 in
set_option maxHeartbeats 4000000 in
theorem lawLowest (A : Option Addr) (n cap : Nat) (s lo : Int) (w : World) (l : List Reg) (hl : RSl w w.heap.size A n cap l) (hok : AllOk l) (hn : n ≤ 300) (hs0 : 0 ≤ s) (ha0 : 0 ≤ lo) (ha1 : lo ≤ 18446744073709551615) :
    Calls Try.prog 6 #[.slice A n cap, .int .u64 s, .int .u64 lo] w fun e w' => e = .returned (.bool true) ∧ Below w.heap.size w w' := by
  have hd : decide (300 < n) = false := by simp; omega
  have hL := fun W => large_any A n cap W (by omega)
  rw [hd] at hL
  have HL := Lib.hid hL
  have hln := Lib.hid hl.len
  have hG := gap_any A n cap s lo w l hl hok hs0 ha0 ha1
  clear hL
  rcases gap_cases (l := l) (s := s) (a := lo) hs0 with ⟨e0, he, he1⟩ | ⟨x, hx, gk, h64⟩
  · rw [he] at hG
    have HG := Lib.hid hG
    clear hG he
    rcases he1 with rfl | rfl
    all_goals
      go_enter Try.func6, Try.ntmps6
      go_wp2_with (first
        | (go_at_call 9; refine (HL.out _).mono ?_; rintro e w1 ⟨rfl, rfl⟩)
        | (go_at_call 23; refine (HG.out).mono ?_; rintro e w2 ⟨rfl, hb2⟩; have hz2 := hb2.size)
        | (go_at_call 10; refine (works_any _).mono ?_; rintro e w3 ⟨rfl, hb3⟩))
      go_ret
      exact ⟨rfl, by ((repeat' (with_reducible (first | assumption | (refine Below.alloc ?_ ?_ _) | (refine Below.setCell ?_ ?_ _) | (refine Below.drew ?_) | (refine below_drewN ?_ _) | exact Below.refl _ _ | (refine Below.trans ?_ (Below.mono (by assumption) ?_))))) <;> (try simp) <;> (try omega))⟩
  · rw [hx] at hG
    have HG := Lib.hid hG
    have GK := Lib.hid gk
    obtain ⟨_, p1, p2, p3, p4, _, _, _⟩ := gk
    have p5 : (x % 4096 != 0) = false := by simp [p4]
    clear hG hx
    go_enter Try.func6, Try.ntmps6
    go_wp2_with fail
    refine (HL.out _).mono ?_
    rintro e w1 ⟨rfl, rfl⟩
    go_wp2_with fail
    refine (HG.out).mono ?_
    rintro e w2 ⟨rfl, hb2⟩
    have hz2 := hb2.size
    go_wp2
    go_loopw [9] (fun i wr => ∃ k : Nat, k ≤ n ∧ i = .int .i64 k ∧ Below w1.heap.size w1 wr) (fun i _ => n - (intOf i).toNat)
    case atStart => exact ⟨0, Nat.zero_le _, rfl, hb2⟩
    case round =>
      obtain ⟨k, hk, rfl, hB⟩ := hrel
      have hBs := hB.size
      by_cases hlt : k < n
      · obtain ⟨r, hr⟩ : ∃ r, l[k]? = some r := ⟨_, List.getElem?_eq_getElem (by have := hln.out; omega)⟩
        obtain ⟨b, off, rfl, hb, hra⟩ := hl.at_ k r hr
        obtain ⟨h0, h1, h2, h3, h4⟩ := hra.below hB hb
        have hfr := GK.out.free r (List.mem_of_getElem? hr)
        have hkn : (k : Int) < (n : Int) := by omega
        have hk0 : (0 : Int) ≤ (k : Int) := by omega
        clear hr hra
        by_cases c1 : r.fr < x + s
        · have c2 : ¬ x < r.to := by omega
          clear hfr
          go_wp2
          go_roundw
          case rel => exact ⟨k + 1, by omega, by go_num, by ((repeat' (with_reducible (first | assumption | (refine Below.alloc ?_ ?_ _) | (refine Below.setCell ?_ ?_ _) | (refine Below.drew ?_) | (refine below_drewN ?_ _) | exact Below.refl _ _ | (refine Below.trans ?_ (Below.mono (by assumption) ?_))))) <;> (try simp) <;> (try omega))⟩
          case measure => simp [intOf]; omega
        · clear hfr
          go_wp2
          go_roundw
          case rel => exact ⟨k + 1, by omega, by go_num, by ((repeat' (with_reducible (first | assumption | (refine Below.alloc ?_ ?_ _) | (refine Below.setCell ?_ ?_ _) | (refine Below.drew ?_) | (refine below_drewN ?_ _) | exact Below.refl _ _ | (refine Below.trans ?_ (Below.mono (by assumption) ?_))))) <;> (try simp) <;> (try omega))⟩
          case measure => simp [intOf]; omega
      · by_cases hxl : x = lo
        · have hxl' : (x == lo) = true := by simp [hxl]
          clear hxl
          go_wp2_with (go_at_call 10; refine (works_any _).mono ?_; rintro e w3 ⟨rfl, hb3⟩)
          go_ret
          exact ⟨rfl, by ((repeat' (with_reducible (first | assumption | (refine Below.alloc ?_ ?_ _) | (refine Below.setCell ?_ ?_ _) | (refine Below.drew ?_) | (refine below_drewN ?_ _) | exact Below.refl _ _ | (refine Below.trans ?_ (Below.mono (by assumption) ?_))))) <;> (try simp) <;> (try omega))⟩
        · have hxl' : (x == lo) = false := by simp [hxl]
          have hlox : lo < x := by omega
          have hmet0 : Met l s lo := ⟨ha0, by omega, GK.out.low1 hlox⟩
          have MET0 := Lib.hid hmet0
          clear hmet0 hxl
          go_wp2
          obtain ⟨wo, rfl⟩ : ∃ wo : World, wo = wr := ⟨_, rfl⟩
          have hone := OwnU.one wo lo
          go_loopw [10, 11] (fun v i wq => ∃ k : Nat, k ≤ n ∧ i = .int .i64 k ∧ Below w1.heap.size w1 wq ∧ ∃ A cap acc, v = .slice A (List.length acc) cap ∧ OwnU wq w1.heap.size A cap acc ∧ acc.length ≤ k + 1 ∧ ∀ t ∈ acc, Met l s t) (fun _ i _ => n - (intOf i).toNat)
          case atStart =>
            refine ⟨0, Nat.zero_le _, rfl, by ((repeat' (with_reducible (first | assumption | (refine Below.alloc ?_ ?_ _) | (refine Below.setCell ?_ ?_ _) | (refine Below.drew ?_) | (refine below_drewN ?_ _) | exact Below.refl _ _ | (refine Below.trans ?_ (Below.mono (by assumption) ?_))))) <;> (try simp) <;> (try omega)), some ⟨wo.heap.size, 0, none⟩, 1, [lo], rfl, ?_, by simp, fun t ht => ?_⟩
            · refine ⟨hone.1, ?_⟩
              rcases hone.2 with h | ⟨g, cap', cur, e1, e2, e3⟩
              · exact .inl h
              · exact .inr ⟨g, cap', cur, e1, by omega, e3⟩
            · simp at ht
              subst ht
              exact MET0.out
          case round =>
            obtain ⟨j, hj, rfl, hB2, A2, c2, acc, rfl, hou, hal, hmt⟩ := hrel
            have hBs2 := hB2.size
            generalize hm : acc.length = m at *
            have HM := Lib.hid hm
            have HO := Lib.hid hou
            have HT := Lib.hid hmt
            clear hm hou hmt
            by_cases hlt2 : j < n
            · obtain ⟨r, hr⟩ : ∃ r, l[j]? = some r := ⟨_, List.getElem?_eq_getElem (by have := hln.out; omega)⟩
              obtain ⟨b, off, rfl, hb, hra⟩ := hl.at_ j r hr
              obtain ⟨h0, h1, h2, h3, h4⟩ := hra.below hB2 hb
              have hrok := (hok.at_ hr).to0
              have hlow := Lib.hid (GK.out.low2 r (List.mem_of_getElem? hr))
              have hkn : (j : Int) < (n : Int) := by omega
              have hk0 : (0 : Int) ≤ (j : Int) := by omega
              clear hr hra
              by_cases c1 : lo < r.to
              · by_cases c3 : r.to < x
                · have hnew : Met l s r.to := ⟨hrok, by omega, hlow.out c1 c3⟩
                  have HN := Lib.hid hnew
                  clear hnew
                  go_wp2_with (at_builtin; refine app_u64 rfl (.tmp 102) (.tmp 108) rfl w1.heap.size A2 c2 acc (by rw [HM.out]; rfl) (HO.out.alloc _) r.to wr.heap.size 1 rfl (heap_alloc_new _ _) (by rw [HM.out]; omega) (by simp; omega) ?_; rw [HM.out]; intro g' cap' w4 ho4 hg4 hat4 hlt4)
                  have hB4 : Below w1.heap.size w1 w4 := (hB2.alloc (by omega) _).grown hg4 (by simp; omega) (fun k hk => (HO.out.row k hk).1)
                  have hl2 : (acc ++ [r.to]).length = m + 1 := by rw [List.length_append, HM.out]; rfl
                  go_roundw
                  case rel =>
                    refine ⟨j + 1, by omega, by go_num, hB4, some ⟨g', 0, none⟩, cap', acc ++ [r.to], by rw [hl2], ho4, by rw [hl2]; omega, fun t ht => ?_⟩
                    rw [List.mem_append] at ht
                    rcases ht with ht | ht
                    · exact HT.out t ht
                    · simp at ht
                      subst ht
                      exact HN.out
                  case measure => simp [intOf]; omega
                · go_wp2
                  go_roundw
                  case rel => exact ⟨j + 1, by omega, by go_num, by ((repeat' (with_reducible (first | assumption | (refine Below.alloc ?_ ?_ _) | (refine Below.setCell ?_ ?_ _) | (refine Below.drew ?_) | (refine below_drewN ?_ _) | exact Below.refl _ _ | (refine Below.trans ?_ (Below.mono (by assumption) ?_))))) <;> (try simp) <;> (try omega)), A2, c2, acc, by rw [HM.out], HO.out, by rw [HM.out]; omega, HT.out⟩
                  case measure => simp [intOf]; omega
              · go_wp2
                go_roundw
                case rel => exact ⟨j + 1, by omega, by go_num, by ((repeat' (with_reducible (first | assumption | (refine Below.alloc ?_ ?_ _) | (refine Below.setCell ?_ ?_ _) | (refine Below.drew ?_) | (refine below_drewN ?_ _) | exact Below.refl _ _ | (refine Below.trans ?_ (Below.mono (by assumption) ?_))))) <;> (try simp) <;> (try omega)), A2, c2, acc, by rw [HM.out], HO.out, by rw [HM.out]; omega, HT.out⟩
                case measure => simp [intOf]; omega
            · go_wp2
              obtain ⟨wu, rfl⟩ : ∃ wu : World, wu = wr := ⟨_, rfl⟩
              go_loopw [12] (fun i wq => ∃ k : Nat, k ≤ m ∧ i = .int .i64 k ∧ Below wu.heap.size wu wq) (fun i _ => m - (intOf i).toNat)
              case atStart => exact ⟨0, Nat.zero_le _, rfl, Below.refl _ _⟩
              case round =>
                obtain ⟨u, hu, rfl, hB5⟩ := hrel
                have hBs5 := hB5.size
                by_cases hlt5 : u < m
                · obtain ⟨t, ht⟩ : ∃ t, acc[u]? = some t := ⟨_, List.getElem?_eq_getElem (by have := HM.out; omega)⟩
                  obtain ⟨g, rfl, hg1, hg2, hg3⟩ := (HO.out.form).resolve_left (by rintro ⟨_, h, _⟩; rw [h] at ht; simp at ht)
                  rw [HM.out] at hg3
                  have hmt := HT.out t (List.mem_of_getElem? ht)
                  obtain ⟨m0, m1, _⟩ := hmt
                  have MT := Lib.hid (HT.out t (List.mem_of_getElem? ht))
                  have HE := Lib.hid ht
                  have hum : (u : Int) < (m : Int) := by omega
                  have hu0 : (0 : Int) ≤ (u : Int) := by omega
                  clear ht
                  go_wp2
                  obtain ⟨wv, rfl⟩ : ∃ wv : World, wv = wr := ⟨_, rfl⟩
                  go_loopw [13, 14] (fun q i wq => ∃ k : Nat, k ≤ n ∧ i = .int .i64 k ∧ q = .bool (metTo l s t k) ∧ Below wv.heap.size wv wq) (fun _ i _ => n - (intOf i).toNat)
                  case atStart => exact ⟨0, Nat.zero_le _, rfl, rfl, Below.refl _ _⟩
                  case round =>
                    obtain ⟨v, hv, rfl, rfl, hB6⟩ := hrel
                    have hBs6 := hB6.size
                    by_cases hlt6 : v < n
                    · obtain ⟨r, hr⟩ : ∃ r, l[v]? = some r := ⟨_, List.getElem?_eq_getElem (by have := hln.out; omega)⟩
                      obtain ⟨b, off, rfl, hb, hra⟩ := hl.at_ v r hr
                      have hB7 : Below w1.heap.size w1 wr := (hB2.trans (hB5.mono (by omega))).trans (hB6.mono (by omega))
                      obtain ⟨h0, h1, h2, h3, h4⟩ := hra.below hB7 hb
                      have k0 := ((HO.out.below hB5 (Nat.le_refl _)).below hB6 (Nat.le_refl _)).elem HE.out
                      have hS := Lib.hid (metTo_succ (s := s) (t := t) hr)
                      have hvn : (v : Int) < (n : Int) := by omega
                      have hv0 : (0 : Int) ≤ (v : Int) := by omega
                      have hw1 : IntKind.u64.wrap (t + s) = t + s := by rw [IntKind.wrap_u64]; omega
                      clear hr hra hl
                      cases hmv : metTo l s t v with
                      | true =>
                        rw [hmv] at hS
                        clear hmv
                        go_wp2
                        go_quiet (fail)
                        go_wp2
                        go_roundw
                        case rel => exact ⟨v + 1, by omega, by go_num, by rw [hS.out]; rfl, by ((repeat' (with_reducible (first | assumption | (refine Below.alloc ?_ ?_ _) | (refine Below.setCell ?_ ?_ _) | (refine Below.drew ?_) | (refine below_drewN ?_ _) | exact Below.refl _ _ | (refine Below.trans ?_ (Below.mono (by assumption) ?_))))) <;> (try simp) <;> (try omega))⟩
                        case measure => simp [intOf]; omega
                      | false =>
                        rw [hmv] at hS
                        clear hmv
                        cases c1 : decide (r.fr < t + s) with
                        | true =>
                          cases c2 : decide (t < r.to) with
                          | true =>
                            rw [c1, c2] at hS
                            go_wp2
                            go_quiet (fail)
                            go_wp2
                            go_roundw
                            case rel => exact ⟨v + 1, by omega, by go_num, by rw [hS.out]; rfl, by ((repeat' (with_reducible (first | assumption | (refine Below.alloc ?_ ?_ _) | (refine Below.setCell ?_ ?_ _) | (refine Below.drew ?_) | (refine below_drewN ?_ _) | exact Below.refl _ _ | (refine Below.trans ?_ (Below.mono (by assumption) ?_))))) <;> (try simp) <;> (try omega))⟩
                            case measure => simp [intOf]; omega
                          | false =>
                            rw [c1, c2] at hS
                            go_wp2
                            go_quiet (fail)
                            go_wp2
                            go_roundw
                            case rel => exact ⟨v + 1, by omega, by go_num, by rw [hS.out]; rfl, by ((repeat' (with_reducible (first | assumption | (refine Below.alloc ?_ ?_ _) | (refine Below.setCell ?_ ?_ _) | (refine Below.drew ?_) | (refine below_drewN ?_ _) | exact Below.refl _ _ | (refine Below.trans ?_ (Below.mono (by assumption) ?_))))) <;> (try simp) <;> (try omega))⟩
                            case measure => simp [intOf]; omega
                        | false =>
                          rw [c1] at hS
                          go_wp2
                          go_quiet (fail)
                          go_wp2
                          go_roundw
                          case rel => exact ⟨v + 1, by omega, by go_num, by rw [hS.out]; rfl, by ((repeat' (with_reducible (first | assumption | (refine Below.alloc ?_ ?_ _) | (refine Below.setCell ?_ ?_ _) | (refine Below.drew ?_) | (refine below_drewN ?_ _) | exact Below.refl _ _ | (refine Below.trans ?_ (Below.mono (by assumption) ?_))))) <;> (try simp) <;> (try omega))⟩
                          case measure => simp [intOf]; omega
                    · have hall := metTo_all (k := v) (by have := hln.out; omega) MT.out
                      rw [hall]
                      clear hall
                      go_wp2
                      go_roundw
                      case rel => exact ⟨u + 1, by omega, by go_num, by ((repeat' (with_reducible (first | assumption | (refine Below.alloc ?_ ?_ _) | (refine Below.setCell ?_ ?_ _) | (refine Below.drew ?_) | (refine below_drewN ?_ _) | exact Below.refl _ _ | (refine Below.trans ?_ (Below.mono (by assumption) ?_))))) <;> (try simp) <;> (try omega))⟩
                      case measure => simp [intOf]; omega
                · go_wp2_with (go_at_call 10; refine (works_any _).mono ?_; rintro e w9 ⟨rfl, hb9⟩)
                  go_ret
                  refine ⟨rfl, ?_⟩
                  exact (hB2.trans (hB5.mono (by omega))).trans (hb9.mono (by omega))

end Go.Proofs.Ytdkhgofnhemhmaa
