/- What is done with a table: Map and Set at anything; a row's number at a place, a row without it. -/
import Derived.Test.YtkkmcnngpahfaaaGreatDoorTsA
import Derived.Test.YtkkmcnngpahfaaaGreatDoorTwA
import Derived.Deep.Upon
namespace Go.Proofs.YtkkmcnngpahfaaaGreatDoor
open Go.RowKit Go.Sort
set_option linter.unusedSimpArgs false
set_option linter.unusedVariables false

/-- What Map comes to. -/
def MapDo (p : Pool) (T : Tab) (L : List Slot) (hold : Nat → Nat) (A fr q : Int) (cp : Bool) (r : Int) (p' : Pool) (T' : Tab) (L' : List Slot) : Prop :=
  (MapBad p A fr q ∧ r = 1 ∧ p' = p ∧ T' = T ∧ L' = L) ∨ (¬ MapBad p A fr q ∧ (T.lf (A.toNat / 4096)).isSome = true ∧ r = 7 ∧ p' = p ∧ T' = T ∧ L' = L) ∨
  (¬ MapBad p A fr q ∧ (T.lf (A.toNat / 4096)).isSome = false ∧ MapRes p T L hold (A.toNat / 4096) ⟨fr.toNat, q.toNat, cp⟩ r p' T' L')
def MapAnyPost (w : World) (S : Nat → Prop) (c a fs m : Nat) (clock : Int) (p : Pool) (T : Tab) (L : List Slot) (hold : Nat → Nat) (A fr q : Int) (cp : Bool) (e : Ending) (w' : World) : Prop :=
  ∃ r p' T' L' S', e = .returned (.int .i64 r) ∧ CacheAt w' S' c a fs m clock p' L' ∧ Mod (Both S m) w w' ∧ Out S S' w ∧ MapDo p T L hold A fr q cp r p' T' L'
theorem countB_yes {p : Pool} {fr : Int} (h : countB p fr ≠ 0) : ∃ g : Nat, fr = (g : Int) ∧ g < p.n ∧ 1 ≤ p.cnt g := by
  have h3 : takenB p fr = true := by
    cases hc : takenB p fr with
    | true => rfl
    | false => exact absurd (by unfold countB; rw [hc]; rfl) h
  obtain ⟨g, rfl, hgn, hg0⟩ := takenB_yes h3
  exact ⟨g, rfl, hgn, hg0⟩
theorem tmap_any (t c a root fs m : Nat) (clock : Int) (A fr q : Int) (cp : Bool) (w : World) (S : Nat → Prop) (p : Pool) (T : Tab) (L : List Slot) (hold : Nat → Nat) (pg0 : Nat)
    (h : CacheAt w S c a fs m clock p L) (ht : TabSelf w t c a root) (htS : ¬ S t) (htm : t ≠ m) (hg : T.Good p (held L hold) pg0 4) (hr : T.nd 4 0 = some root) (hA0 : 0 ≤ A) (hq0 : 0 ≤ q) (hcap : ∀ f, f < p.n → p.cnt f + 1 < 1000000000000) :
    Calls Tryz.prog 20 #[.pointer (some ⟨t, 0, none⟩), .int .u64 A, .agg #[.int .i64 fr, .int .u8 q, .bool cp]] w (MapAnyPost w S c a fs m clock p T L hold A fr q cp) := by
  by_cases hbad : MapBad p A fr q
  · refine (tmap_bad t c a root A fr q cp w S p h.pool ht hbad hA0).mono ?_
    rintro e w1 ⟨rfl, hb⟩
    exact ⟨1, p, T, L, S, rfl, h.below hb, Mod.of hb, Out.refl _ _, .inl ⟨hbad, rfl, rfl, rfl, rfl⟩⟩
  · have hb4 : A < 140737488355328 ∧ A % 4096 = 0 ∧ ¬ 7 < q ∧ countB p fr ≠ 0 := by
      unfold MapBad at hbad
      omega
    obtain ⟨b1, b2, b3, b4⟩ := hb4
    cases hlf : (T.lf (A.toNat / 4096)).isSome with
    | true =>
      refine (tmap_there t c a root fs m clock A fr q cp w S p T L hold pg0 noLeaf h ht htS htm hg hr hA0 b1 b2 b3 b4 hlf).mono ?_
      rintro e w1 ⟨rfl, hb⟩
      exact ⟨7, p, T, L, S, rfl, h.below hb, Mod.of hb, Out.refl _ _, .inr (.inl ⟨hbad, hlf, rfl, rfl, rfl, rfl⟩)⟩
    | false =>
      obtain ⟨g, rfl, hgn, hg1⟩ := countB_yes b4
      refine (tmap_go t c a root fs m clock A (g : Int) q cp w S p T L hold pg0 ⟨((g : Int)).toNat, q.toNat, cp⟩ h ht htS htm hg hr hA0 b1 b2 b3 b4 hlf (by simp) (by simp only; omega) rfl hgn hg1 (hcap g hgn)).mono ?_
      rintro e w1 ⟨r, p', T', L', S', rfl, h1, h2, h3, h4⟩
      exact ⟨r, p', T', L', S', rfl, h1, h2, h3, .inr (.inr ⟨hbad, hlf, h4⟩)⟩
theorem tset_any (t c a root pg0 : Nat) (A fr q : Int) (cp : Bool) (w : World) (S : Nat → Prop) (p : Pool) (T : Tab) (rest : Nat → Nat) (h : PoolAt w S a p) (ht : TabSelf w t c a root) (htS : ¬ S t) (hg : T.Good p rest pg0 4) (hr : T.nd 4 0 = some root) (hA0 : 0 ≤ A) (hq0 : 0 ≤ q) (hcap : ∀ f, f < p.n → p.cnt f + 1 < 1000000000000) :
    Calls Tryz.prog 33 #[.pointer (some ⟨t, 0, none⟩), .int .u64 A, .agg #[.int .i64 fr, .int .u8 q, .bool cp]] w (SetPost w S a (setRes p T A fr q cp)) := by
  by_cases hbad : 7 < q ∨ countB p fr = 0
  · refine (tset_bad t c a root A fr q cp w S p h ht ((Array.getElem?_eq_some_iff.1 ht).1) hbad).mono ?_
    rintro e w1 ⟨rfl, hb⟩
    have e1 : setRes p T A fr q cp = (1, p, T) := by unfold setRes; rw [if_pos hbad]
    rw [e1]
    exact ⟨rfl, h.below hb, Mod.of hb⟩
  · obtain ⟨g, rfl, hgn, hg1⟩ := countB_yes (p := p) (fr := fr) (fun e => hbad (.inr e))
    exact tset_good t c a root pg0 A ⟨g, q.toNat, cp⟩ w S p T rest h ht htS hg hr hA0 (by simp only; omega) hgn hg1 (hcap g hgn) (g : Int) q rfl (by simp only; omega)

/-- A row's number at a place. -/
theorem lat_no (A : Option Addr) (k cap : Nat) (n : Int) (w : World) (hn : n < 0 ∨ (k : Int) ≤ n) :
    Calls Tryz.prog 36 #[.slice A k cap, .int .i64 n] w fun e w' => e = .returned (.tuple #[.int .i64 0, .bool false]) ∧ w = w' := by
  by_cases h0 : n < 0
  · clear hn
    go_enter Tryz.func36, Tryz.ntmps36
    go_wp2_with fail
    go_ret2
    exact ⟨rfl, rfl⟩
  · have h1 : (k : Int) ≤ n := by omega
    clear hn
    go_enter Tryz.func36, Tryz.ntmps36
    go_wp2_with fail
    go_ret2
    exact ⟨rfl, rfl⟩
theorem lat_yes (base : Nat) (A : Option Addr) (cap i f : Nat) (l : List Nat) (w : World) (h : OwnN w base A cap l) (hf : l[i]? = some f) :
    Calls Tryz.prog 36 #[.slice A l.length cap, .int .i64 (i : Int)] w fun e w' => e = .returned (.tuple #[.int .i64 (f : Int), .bool true]) ∧ w = w' := by
  have hi : i < l.length := (List.getElem?_eq_some_iff.1 hf).1
  rcases h.form with ⟨_, h2, _⟩ | ⟨g, rfl, _, _, hc⟩
  · subst h2; cases hi
  have hcell := h.elem hf
  have hii : (i : Int) < (l.length : Int) := by omega
  clear h hf
  go_enter Tryz.func36, Tryz.ntmps36
  go_wp2_with fail
  go_ret2
  exact ⟨rfl, rfl⟩

theorem OwnN.empty_made (w : World) : OwnN (w.alloc (.cells #[] 3)) w.heap.size (some ⟨w.heap.size, 0, none⟩) 0 [] :=
  ⟨rfl, .inr ⟨w.heap.size, 0, #[], rfl, Nat.le_refl _, heap_alloc_new w _, Nat.le_refl _, by decide, rfl, rfl⟩⟩
theorem OwnN.lower {w : World} {base base' cap : Nat} {A : Option Addr} {l : List Nat} (h : OwnN w base A cap l) (hb : base' ≤ base) : OwnN w base' A cap l := by
  rcases h with ⟨h1, h2 | ⟨g, cap', cur, e1, e2, e3⟩⟩
  · exact ⟨h1, .inl h2⟩
  · exact ⟨h1, .inr ⟨g, cap', cur, e1, by omega, e3⟩⟩
/-- append of some of a row's numbers -/
theorem app_ints {w : World} {ops : Array Oper} {rest : List Oper} {o : Oper} {a : Act} {Q : Exit → Act → World → Prop} (hgd : o.guard = none) (s x : Operand)
    (ho : o.op = .call { callee := .builtin .append, args := #[s, x], argTypes := #[55, 55] })
    (base : Nat) (A : Option Addr) (cap k m : Nat) (l l2 : List Nat) (hk : l.length = k) (hm : l2.length = m) (hs : a.eval s = .slice A k cap) (hown : OwnN w base A cap l)
    (ad : Addr) (c : Nat) (hx : a.eval x = .slice (some ad) m c) (hA : ∀ (j f : Nat), l2[j]? = some f → w.cell? (ad.add j) = some (.int .i64 (f : Int))) (hn : 0 < m) (hfew : k + m ≤ 10000000) (hbase : base ≤ w.heap.size)
    (h : ∀ g cap' w', OwnN w' base (some ⟨g, 0, none⟩) cap' (l ++ l2) → w.grownBy w' (A.map (·.block)) → (A.map (·.block) = some g ∨ g = w.heap.size) → g < w'.heap.size → wpList Tryz.prog ops Q rest (a.put o.dst (.slice (some ⟨g, 0, none⟩) (k + m) cap')) w') :
    wpList Tryz.prog ops Q (o :: rest) a w := by
  subst hk hm
  obtain ⟨i0, hi0, hz0, hz1, hz2⟩ := info_parts int_info
  refine wpList_append_lies w hgd s x 55 ho base 3 i0 (.int .i64 0) 1 8 Tryz.underlying55 hi0 hz0 hz1 hz2 rfl (by decide) _ l.length _ hs hown ad l2.length c (l2.map fun x : Nat => Value.int .i64 (x : Int)) hx (by simp) (fun j u hu => ?_) (fun u hu => ?_) hn (by unfold maxLen; omega) (by omega) hbase w.heap.size rfl ?_
  · rw [List.getElem?_map] at hu
    obtain ⟨f, hf, rfl⟩ := Option.map_eq_some_iff.1 hu
    exact hA j f hf
  · obtain ⟨i, _, rfl⟩ := List.mem_map.1 hu
    rfl
  · intro g cap' w' ho' hg hat hlt
    refine h g cap' w' ?_ ?_ ?_ hlt
    · unfold OwnN
      rw [List.map_append, List.length_append]
      exact ho'
    · cases A <;> simpa [Value.ownBlock] using hg
    · cases A <;> simpa [Value.ownBlock] using hat
theorem app_none {w : World} {ops : Array Oper} {rest : List Oper} {o : Oper} {a : Act} {Q : Exit → Act → World → Prop} (hgd : o.guard = none) (s x : Operand)
    (ho : o.op = .call { callee := .builtin .append, args := #[s, x], argTypes := #[55, 55] })
    (A : Option Addr) (k cap : Nat) (hs : a.eval s = .slice A k cap) (hle : k ≤ cap) (ad : Addr) (c : Nat) (hx : a.eval x = .slice (some ad) 0 c)
    (h : wpList Tryz.prog ops Q rest (a.put o.dst (.slice A k cap)) w) : wpList Tryz.prog ops Q (o :: rest) a w := by
  obtain ⟨i0, hi0, hz0, hz1, hz2⟩ := info_parts int_info
  refine wpList_plain hgd fun K hK => ?_
  have hrun := run_append_nothing (P := Tryz.prog) w 55 55 o.type 3 i0 Tryz.underlying55 hi0 A k cap hle (.slice (some ad) 0 c) (Src.ofSlice w Tryz.underlying55 ad 0 c [] (by simp) (fun j u hu => by simp at hu) (fun u hu => by cases hu))
  unfold Oper.wp
  simp [execOp, ho, resolve, invoke, builtin, hs, hx, hrun, Result.andThen]
  exact hK _ _ h

theorem OwnN.formS {w : World} {base g cap : Nat} {l : List Nat} (h : OwnN w base (some ⟨g, 0, none⟩) cap l) : base ≤ g ∧ g < w.heap.size ∧ l.length ≤ cap := by
  rcases h.form with ⟨h1, _⟩ | ⟨g', h1, h2, h3, h4⟩
  · cases h1
  · injection h1 with h1
    injection h1 with h1
    subst h1
    exact ⟨h2, h3, h4⟩
theorem OwnN.cap {w : World} {base g cap k : Nat} {l : List Nat} (h : OwnN w base (some ⟨g, 0, none⟩) cap l) (hk : l.length = k) : k ≤ cap := hk ▸ h.formS.2.2
/-- A row without the one at a place, in new memory. -/
def LessPost (w : World) (l : List Nat) (e : Ending) (w' : World) : Prop := ∃ g cap, e = .returned (.slice (some ⟨g, 0, none⟩) l.length cap) ∧ OwnN w' w.heap.size (some ⟨g, 0, none⟩) cap l ∧ Below w.heap.size w w'
set_option maxHeartbeats 1000000 in
theorem less_any (base : Nat) (A : Option Addr) (cap i : Nat) (l : List Nat) (w : World) (h : OwnN w base A cap l) (hi : i < l.length) (hfew : l.length ≤ 100000) :
    Calls Tryz.prog 37 #[.slice A l.length cap, .int .i64 (i : Int)] w (LessPost w (l.eraseIdx i)) := by
  rcases h.form with ⟨_, h2, _⟩ | ⟨g, rfl, _, hgw, hc⟩
  · subst h2; cases hi
  have he : l.eraseIdx i = l.take i ++ l.drop (i + 1) := List.eraseIdx_eq_take_drop_succ _ _
  have hl1 : (l.take i).length = i := by rw [List.length_take]; omega
  obtain ⟨n, hn⟩ : ∃ n, n = l.length := ⟨_, rfl⟩
  have hl2 : (l.drop (i + 1)).length = n - (i + 1) := by rw [hn]; exact List.length_drop
  have hb0 : Below w.heap.size w (w.alloc (.cells #[] 3)) := (Below.refl _ _).alloc (Nat.le_refl _) _
  have hO0 : OwnN (w.alloc (.cells #[] 3)) w.heap.size (some ⟨w.heap.size, 0, none⟩) 0 [] := OwnN.empty_made w
  have hcl : ∀ W : World, W.heap[g]? = w.heap[g]? → ∀ (j f : Nat), l[j]? = some f → W.cell? ⟨g, j, none⟩ = some (.int .i64 (f : Int)) := fun W hW j f hf => OwnN.elem (h.same (w' := W) fun b hb => by injection hb with hb; injection hb with hb; subst hb; exact hW) hf
  have hc1 : ∀ (j f : Nat), (l.take i)[j]? = some f → (w.alloc (.cells #[] 3)).cell? ((⟨g, 0, none⟩ : Addr).add j) = some (.int .i64 (f : Int)) := fun j f hf => by
    rw [Addr.add_mid, Nat.zero_add]
    refine hcl _ (hb0.block _ hgw) j f ?_
    rw [List.getElem?_take] at hf
    split at hf
    · exact hf
    · cases hf
  have hc2 : ∀ W, Below w.heap.size w W → ∀ (j f : Nat), (l.drop (i + 1))[j]? = some f → W.cell? ((⟨g, i + 1, none⟩ : Addr).add j) = some (.int .i64 (f : Int)) := fun W hW j f hf => by
    rw [Addr.add_mid]
    refine hcl _ (hW.block _ hgw) _ f ?_
    rw [List.getElem?_drop] at hf
    exact hf
  obtain ⟨Q, hQ⟩ : ∃ Q, Q = LessPost w (l.eraseIdx i) := ⟨_, rfl⟩
  have hfin : ∀ (g : Nat) (cap : Nat) W, OwnN W w.heap.size (some ⟨g, 0, none⟩) cap (l.take i ++ l.drop (i + 1)) → Below w.heap.size w W → Q (.returned (.slice (some ⟨g, 0, none⟩) (n - 1) cap)) W := by
    intro g cap W h1 h2
    rw [hQ]
    refine ⟨g, cap, ?_, ?_, h2⟩
    · rw [List.length_eraseIdx, if_pos hi, hn]
    · rw [he]; exact h1
  have hwr : IntKind.i64.wrap ((i : Int) + 1) = (i : Int) + 1 := by rw [IntKind.wrap_i64]; omega
  rw [← hn, ← hQ]
  rw [← hn] at hi hfew hc
  have HL1 := Lib.hid hl1
  have HL2 := Lib.hid hl2
  have HO0 := Lib.hid hO0
  have HC1 := Lib.hid hc1
  have HC2 := Lib.hid hc2
  have HFIN := Lib.hid hfin
  have HN := Lib.hid hn
  have HI := Lib.hid hi
  have hr1 : (i : Int) ≤ (n : Int) := by omega
  have hr2 : (i : Int) + 1 ≤ (n : Int) := by omega
  clear h he hl1 hl2 hO0 hcl hc1 hc2 hfin hQ hn
  by_cases hi0 : i = 0
  · subst hi0
    have HO1 := Lib.hid (show OwnN (w.alloc (.cells #[] 3)) w.heap.size (some ⟨w.heap.size, 0, none⟩) 0 (l.take 0) from HO0.out)
    have hwr0 : IntKind.i64.wrap (0 + 1) = 1 := by decide
    by_cases hmore : 1 < n
    · have hic : 1 < cap := by omega
      have hm1 : (1 : Int) ≤ (n : Int) := by omega
      go_enter Tryz.func37, Tryz.ntmps37
      go_upto_region 2 with (first
        | (at_builtin; refine app_none rfl (.tmp 6) (.tmp 9) rfl _ 0 0 rfl (Nat.le_refl _) ⟨g, 0, none⟩ cap rfl ?_)
        | fail)
      go_wp2_with (first
        | (at_builtin; refine app_ints rfl (.tmp 11) (.tmp 15) rfl w.heap.size (some ⟨w.heap.size, 0, none⟩) 0 0 (n - 1) (l.take 0) (l.drop (0 + 1)) HL1.out HL2.out rfl HO1.out ⟨g, 1, none⟩ _ rfl (HC2.out _ hb0) (by omega) (by omega) hb0.size ?_; intro g2 cap2 w2 ho2 hg2 hat2 hlt2; have hb2 : Below w.heap.size w w2 := hb0.grown hg2 hb0.size (fun k hk => by simp at hk; omega); have HO2 := Lib.hid ho2; clear ho2 hg2 hat2)
        | fail)
      have hfin := HFIN.out g2 cap2 w2 HO2.out hb2
      exact hfin
    · have hn1 : n = 1 := by omega
      subst hn1
      by_cases hcap : cap = 1
      · subst hcap
        go_enter Tryz.func37, Tryz.ntmps37
        go_upto_region 2 with (first
          | (at_builtin; refine app_none rfl (.tmp 6) (.tmp 9) rfl _ 0 0 rfl (Nat.le_refl _) ⟨g, 0, none⟩ 1 rfl ?_)
          | fail)
        go_wp2_with (first
          | (at_builtin; refine app_none rfl (.tmp 11) (.tmp 15) rfl _ 0 0 rfl (Nat.le_refl _) _ _ rfl ?_)
          | fail)
        have hd : l.drop (0 + 1) = [] := List.eq_nil_of_length_eq_zero (by rw [HL2.out])
        have hfin := HFIN.out w.heap.size 0 _ (by rw [hd, List.append_nil]; exact HO1.out) hb0
        exact hfin
      · have hic : 1 < cap := by omega
        go_enter Tryz.func37, Tryz.ntmps37
        go_upto_region 2 with (first
          | (at_builtin; refine app_none rfl (.tmp 6) (.tmp 9) rfl _ 0 0 rfl (Nat.le_refl _) ⟨g, 0, none⟩ cap rfl ?_)
          | fail)
        go_wp2_with (first
          | (at_builtin; refine app_none rfl (.tmp 11) (.tmp 15) rfl _ 0 0 rfl (Nat.le_refl _) _ _ rfl ?_)
          | fail)
        have hd : l.drop (0 + 1) = [] := List.eq_nil_of_length_eq_zero (by rw [HL2.out])
        have hfin := HFIN.out w.heap.size 0 _ (by rw [hd, List.append_nil]; exact HO1.out) hb0
        exact hfin
  · by_cases hmore : i + 1 < n
    · have hic : i + 1 < cap := by omega
      go_enter Tryz.func37, Tryz.ntmps37
      go_wp2_with (first
        | (at_builtin; refine app_ints rfl (.tmp 6) (.tmp 9) rfl w.heap.size (some ⟨w.heap.size, 0, none⟩) 0 0 i [] (l.take i) rfl HL1.out rfl HO0.out ⟨g, 0, none⟩ _ rfl HC1.out (by omega) (by omega) (by simp) ?_; intro g1 cap1 w1 ho1 hg1 hat1 hlt1; have hb1 : Below w.heap.size w w1 := hb0.grown hg1 (by simp) (fun k hk => by simp at hk; omega); have HO1 := Lib.hid ho1; clear ho1 hg1 hat1; rw [Nat.zero_add])
        | (at_builtin; refine app_ints rfl (.tmp 11) (.tmp 15) rfl w.heap.size (some ⟨g1, 0, none⟩) cap1 i (n - (i + 1)) (l.take i) (l.drop (i + 1)) HL1.out HL2.out rfl HO1.out ⟨g, i + 1, none⟩ _ rfl (HC2.out _ hb1) (by omega) (by omega) hb1.size ?_; intro g2 cap2 w2 ho2 hg2 hat2 hlt2; have hg1w := HO1.out.formS; have hb2 : Below w.heap.size w w2 := hb1.grown hg2 hb1.size (fun k hk => by simp at hk; omega); have HO2 := Lib.hid ho2; clear ho2 hg2 hat2)
        | fail)
      have hfin := HFIN.out g2 cap2 w2 HO2.out hb2
      rw [show n - 1 = i + (n - (i + 1)) from by omega] at hfin
      exact hfin
    · obtain rfl : n = i + 1 := by omega
      by_cases hcap : cap = i + 1
      · subst hcap
        go_enter Tryz.func37, Tryz.ntmps37
        go_wp2_with (first
          | (at_builtin; refine app_ints rfl (.tmp 6) (.tmp 9) rfl w.heap.size (some ⟨w.heap.size, 0, none⟩) 0 0 i [] (l.take i) rfl HL1.out rfl HO0.out ⟨g, 0, none⟩ _ rfl HC1.out (by omega) (by omega) (by simp) ?_; intro g1 cap1 w1 ho1 hg1 hat1 hlt1; have hb1 : Below w.heap.size w w1 := hb0.grown hg1 (by simp) (fun k hk => by simp at hk; omega); have HO1 := Lib.hid ho1; clear ho1 hg1 hat1; rw [Nat.zero_add])
          | (at_builtin; refine app_none rfl (.tmp 11) (.tmp 15) rfl _ i cap1 rfl (HO1.out.cap HL1.out) _ _ rfl ?_)
          | fail)
        have hd : l.drop (i + 1) = [] := List.eq_nil_of_length_eq_zero (by rw [HL2.out]; omega)
        have hfin := HFIN.out g1 cap1 w1 (by rw [hd, List.append_nil]; exact HO1.out) hb1
        rw [show i + 1 - 1 = i from by omega] at hfin
        exact hfin
      · have hic : i + 1 < cap := by omega
        go_enter Tryz.func37, Tryz.ntmps37
        go_wp2_with (first
          | (at_builtin; refine app_ints rfl (.tmp 6) (.tmp 9) rfl w.heap.size (some ⟨w.heap.size, 0, none⟩) 0 0 i [] (l.take i) rfl HL1.out rfl HO0.out ⟨g, 0, none⟩ _ rfl HC1.out (by omega) (by omega) (by simp) ?_; intro g1 cap1 w1 ho1 hg1 hat1 hlt1; have hb1 : Below w.heap.size w w1 := hb0.grown hg1 (by simp) (fun k hk => by simp at hk; omega); have HO1 := Lib.hid ho1; clear ho1 hg1 hat1; rw [Nat.zero_add])
          | (at_builtin; refine app_none rfl (.tmp 11) (.tmp 15) rfl _ i cap1 rfl (HO1.out.cap HL1.out) _ _ rfl ?_)
          | fail)
        have hd : l.drop (i + 1) = [] := List.eq_nil_of_length_eq_zero (by rw [HL2.out]; omega)
        have hfin := HFIN.out g1 cap1 w1 (by rw [hd, List.append_nil]; exact HO1.out) hb1
        rw [show i + 1 - 1 = i from by omega] at hfin
        exact hfin

end Go.Proofs.YtkkmcnngpahfaaaGreatDoor
