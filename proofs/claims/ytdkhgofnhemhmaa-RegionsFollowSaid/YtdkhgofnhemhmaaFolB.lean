/- Regions: what Put, Cut, Protect do to each address. -/
import Derived.Test.YtdkhgofnhemhmaaFolA
namespace Go.Proofs.Ytdkhgofnhemhmaa
set_option linter.unusedSimpArgs false
set_option linter.unusedVariables false

theorem mem_ins {B : List Reg} {r x : Reg} : x ∈ Rg.ins B r ↔ x = r ∨ x ∈ B := by
  induction B with
  | nil => simp [Rg.ins]
  | cons y B ih =>
    unfold Rg.ins
    split
    · simp
    · simp only [List.mem_cons, ih]
      constructor
      · rintro (h | h | h) <;> simp [h]
      · rintro (h | h | h) <;> simp [h]
theorem apart_ins {B : List Reg} {r : Reg} (hB : Apart B) (hr : r.fr < r.to) (h : ∀ x ∈ B, x.to ≤ r.fr ∨ r.to ≤ x.fr) : Apart (Rg.ins B r) := by
  refine ⟨?_, fun x hx => by rcases mem_ins.1 hx with rfl | hx; exact hr; exact hB.2 x hx⟩
  induction B with
  | nil => simp [Rg.ins]
  | cons y B ih =>
    have hc := List.pairwise_cons.1 hB.1
    have hy := h y (by simp)
    have hyl := hB.2 y (by simp)
    unfold Rg.ins
    split
    · refine List.pairwise_cons.2 ⟨fun x hx => ?_, hB.1⟩
      simp at hx
      rcases hx with rfl | hx
      · omega
      · have := hc.1 x hx; omega
    · refine List.pairwise_cons.2 ⟨fun x hx => ?_, ih ⟨hc.2, fun x hx => hB.2 x (by simp [hx])⟩ (fun x hx => h x (by simp [hx]))⟩
      rcases mem_ins.1 hx with rfl | hx
      · omega
      · exact hc.1 x hx
theorem ats_ins_out {B : List Reg} {r : Reg} {a : Int} (h : ¬ (r.fr ≤ a ∧ a < r.to)) : Rg.ats (Rg.ins B r) a = Rg.ats B a := by
  induction B with
  | nil => simp only [Rg.ins]; rw [ats_cons, if_neg h]; rfl
  | cons y B ih =>
    unfold Rg.ins
    split
    · rw [ats_cons r, if_neg h]; rfl
    · rw [ats_cons y, ats_cons y, ih]
theorem ats_ins_in {B : List Reg} {r : Reg} {a : Int} (h : r.fr ≤ a ∧ a < r.to) (hB : Rg.ats B a = []) : Rg.ats (Rg.ins B r) a = Rg.ats [r] a := by
  induction B with
  | nil => rfl
  | cons y B ih =>
    rw [ats_cons, List.append_eq_nil_iff] at hB
    unfold Rg.ins
    split
    · rw [ats_cons r, ats_cons r, ats_cons y, hB.1, hB.2]; rfl
    · rw [ats_cons y, hB.1, ih hB.2]; rfl

theorem wo1_out {f t : Int} {x y : Reg} (hft : f < t) (h : y ∈ Rg.wo1 f t x) : y.to ≤ f ∨ t ≤ y.fr := by
  unfold Rg.wo1 at h
  split at h
  · simp at h; subst h; assumption
  · rw [List.mem_append] at h
    rcases h with h | h
    · split at h
      · simp at h; subst h; exact .inl (Int.le_refl _)
      · simp at h
    · split at h
      · simp at h; subst h; exact .inr (Int.le_refl _)
      · simp at h
theorem rpart_sound {x : Reg} {f g : Int} (h : Rg.one x = true) (hok : x.Ok) (h1 : x.fr ≤ f) (h2 : f < g) (h3 : g ≤ x.to) (h4 : f % 4096 = 0) (h5 : g % 4096 = 0) : Rg.one (Rg.rpart x f g) = true ∧ (Rg.rpart x f g).Ok := by
  have a := one_spec h
  obtain ⟨f0, f1, t0, t1, p0, p1, i0, i1, o0, o1⟩ := hok
  by_cases hi : x.ino = -1
  · have e : x.off = 0 := by rcases a.2.2.2.2.2 with h | h <;> omega
    have er : Rg.rpart x f g = ⟨f, g, x.prot, -1, 0⟩ := by unfold Rg.rpart; simp [hi, e]
    rw [er]
    refine ⟨?_, ?_⟩
    · unfold Rg.one
      simp only [decide_eq_true_eq]
      exact ⟨h2, by omega, h4, h5, by omega, .inl ⟨trivial, trivial⟩⟩
    · constructor <;> (simp only; omega)
  · have b : 0 ≤ x.ino ∧ x.off % 4096 = 0 ∧ x.off + (x.to - x.fr) ≤ 281474976710656 := by rcases a.2.2.2.2.2 with h | h; omega; exact h
    have e : w64 (x.off + w64 (f - x.fr)) = x.off + (f - x.fr) := by rw [w64_eq, w64_eq]; omega
    refine ⟨?_, ?_⟩
    · unfold Rg.one Rg.rpart
      simp only [if_neg hi, decide_eq_true_eq, e]
      omega
    · unfold Rg.rpart
      simp only [if_neg hi, e]
      constructor <;> (simp only; omega)
theorem wo1_sound {f t : Int} {x y : Reg} (h : Rg.one x = true) (hok : x.Ok) (hf : f % 4096 = 0) (ht : t % 4096 = 0) (hy : y ∈ Rg.wo1 f t x) : Rg.one y = true ∧ y.Ok := by
  have a := one_spec h
  unfold Rg.wo1 at hy
  split at hy
  · simp at hy; subst hy; exact ⟨h, hok⟩
  · rw [List.mem_append] at hy
    rcases hy with hy | hy
    · split at hy
      · simp at hy; subst hy; exact rpart_sound h hok (Int.le_refl _) (by assumption) (by omega) (by omega) hf
      · simp at hy
    · split at hy
      · simp at hy; subst hy; exact rpart_sound h hok (by omega) (by assumption) (Int.le_refl _) ht (by omega)
      · simp at hy
theorem without_sound {l : List Reg} {f t : Int} (hs : Sound l) (hft : f < t) (hf : f % 4096 = 0) (ht : t % 4096 = 0) : Sound (Rg.without l f t) := by
  refine ⟨without_apart hs.apart hft, fun y hy => ?_, fun y hy => ?_⟩
  · obtain ⟨x, hx, hy⟩ := List.mem_flatMap.1 hy
    exact (wo1_sound (hs.one x hx) (hs.ok x hx) hf ht hy).1
  · obtain ⟨x, hx, hy⟩ := List.mem_flatMap.1 hy
    exact (wo1_sound (hs.one x hx) (hs.ok x hx) hf ht hy).2
theorem right_sound {l : List Reg} (h : Rg.right l = true) (hok : AllOk l) : Sound l := ⟨right_apart h, right_one h, hok⟩

theorem few_zero {l out : List Reg} (h : Rg.few l = (out, 0)) : out = l ∧ l.length ≤ 64 := by
  unfold Rg.few at h
  split at h
  · simp at h
  · simp at h; exact ⟨h.symm, by omega⟩

/-- PUT. -/
theorem put_fits {l out : List Reg} {r : Reg} (hok : AllOk l) (hro : r.Ok) (h : Rg.put l r = (out, 0)) :
    Rg.right out = true ∧ AllOk out ∧ ∀ a, Rg.ats out a = if r.fr ≤ a ∧ a < r.to then Rg.ats [r] a else Rg.ats l a := by
  unfold Rg.put at h
  split at h
  · rename_i hc
    obtain ⟨hr, h1⟩ := hc
    obtain ⟨rfl, hn⟩ := few_zero h
    have a := one_spec h1
    have hs := right_sound hr hok
    have hw := without_sound hs a.1 a.2.2.1 a.2.2.2.1
    have hout : ∀ x ∈ Rg.without l r.fr r.to, x.to ≤ r.fr ∨ r.to ≤ x.fr := fun y hy => by
      obtain ⟨x, hx, hy⟩ := List.mem_flatMap.1 hy
      exact wo1_out a.1 hy
    have hi : Sound (Rg.ins (Rg.without l r.fr r.to) r) := ⟨apart_ins hw.apart a.1 hout, fun x hx => by rcases mem_ins.1 hx with rfl | hx; exact h1; exact hw.one x hx, fun x hx => by rcases mem_ins.1 hx with rfl | hx; exact hro; exact hw.ok x hx⟩
    obtain ⟨j1, j2, j3⟩ := joined_law hi
    refine ⟨right_of j1 j2 hn, j1.ok, fun b => ?_⟩
    rw [j3 b]
    have hw2 := ats_without (a := b) a.1 hs.apart.2
    by_cases hb : r.fr ≤ b ∧ b < r.to
    · rw [if_pos hb] at hw2 ⊢
      exact ats_ins_in hb hw2
    · rw [if_neg hb] at hw2 ⊢
      rw [ats_ins_out hb, hw2]
  · simp at h
theorem put_err {l : List Reg} {r : Reg} (h : (Rg.put l r).2 ≠ 0) : (Rg.put l r).1 = [] := by
  unfold Rg.put Rg.few at *
  (repeat' split) <;> simp_all

theorem stretch_more {l : List Reg} {f t : Int} (h : Rg.stretch l f t = true) : f % 4096 = 0 ∧ t % 4096 = 0 := by
  unfold Rg.stretch at h
  rw [Bool.and_eq_true] at h
  have := one_spec h.2
  exact ⟨this.2.2.1, this.2.2.2.1⟩
/-- CUT. -/
theorem cut_fits {l out : List Reg} {f t : Int} (hok : AllOk l) (h : Rg.cut l f t = (out, 0)) :
    Rg.right out = true ∧ AllOk out ∧ ∀ a, Rg.ats out a = if f ≤ a ∧ a < t then [] else Rg.ats l a := by
  unfold Rg.cut at h
  split at h
  · rename_i hc
    obtain ⟨rfl, hn⟩ := few_zero h
    obtain ⟨hr, hft, _⟩ := stretch_spec hc
    obtain ⟨m1, m2⟩ := stretch_more hc
    have hs := right_sound hr hok
    have hw := without_sound hs hft m1 m2
    exact ⟨right_of hw (without_loose hr hok hft) hn, hw.ok, fun a => ats_without hft hs.apart.2⟩
  · simp at h
theorem cut_err {l : List Reg} {f t : Int} (h : (Rg.cut l f t).2 ≠ 0) : (Rg.cut l f t).1 = [] := by
  unfold Rg.cut Rg.few at *
  (repeat' split) <;> simp_all

/-! ### Protect -/
def Reg.withProt (p : Int) (x : Reg) : Reg := ⟨x.fr, x.to, p, x.ino, x.off⟩
theorem run1_in {f t p : Int} {x y : Reg} (h : Rg.one x = true) (hok : x.Ok) (hft : f < t) (hf : f % 4096 = 0) (ht : t % 4096 = 0) (hp0 : 0 ≤ p) (hp : p ≤ 7) (hy : y ∈ Rg.run1 f t (hProt p) x) :
    x.fr ≤ y.fr ∧ y.fr < y.to ∧ y.to ≤ x.to ∧ Rg.one y = true ∧ y.Ok := by
  have a := one_spec h
  rw [run1_prot h hok hft] at hy
  split at hy
  · simp at hy; subst hy; exact ⟨Int.le_refl _, a.1, Int.le_refl _, h, hok⟩
  · rename_i hc
    rw [List.mem_append, List.mem_cons] at hy
    rcases hy with hy | hy | hy
    · split at hy
      · rename_i d
        simp at hy; subst hy
        have q := rpart_sound h hok (Int.le_refl _) d (by omega) a.2.2.1 hf
        exact ⟨Int.le_refl _, d, by simp only [Rg.rpart]; omega, q⟩
      · simp at hy
    · subst hy
      have q := rpart_sound (f := max x.fr f) (g := min x.to t) h hok (by omega) (by omega) (by omega) (by omega) (by omega)
      have b := one_spec q.1
      obtain ⟨f0, f1, t0, t1, p0, p1, i0, i1, o0, o1⟩ := q.2
      refine ⟨by simp only [Rg.mid]; omega, by simp only [Rg.mid]; omega, by simp only [Rg.mid]; omega, ?_, ?_⟩
      · unfold Rg.one Rg.mid
        simp only [decide_eq_true_eq]
        simp only [Rg.rpart] at b
        simp only [Rg.rpart]
        refine ⟨b.1, b.2.1, b.2.2.1, b.2.2.2.1, hp, b.2.2.2.2.2⟩
      · exact ⟨f0, f1, t0, t1, hp0, by simp only [Rg.mid]; omega, i0, i1, o0, o1⟩
    · split at hy
      · rename_i d
        simp at hy; subst hy
        have q := rpart_sound h hok (by omega) d (Int.le_refl _) ht a.2.2.2.1
        exact ⟨by simp only [Rg.rpart]; omega, d, Int.le_refl _, q⟩
      · simp at hy
theorem run1_apart {f t p : Int} {x : Reg} (h : Rg.one x = true) (hok : x.Ok) (hft : f < t) : (Rg.run1 f t (hProt p) x).Pairwise (fun a b => a.to ≤ b.fr) := by
  rw [run1_prot h hok hft]
  have a := one_spec h
  split
  · simp
  · split <;> split <;> simp [Rg.rpart, Rg.mid] <;> omega
theorem run_apart {l : List Reg} {f t p : Int} (hs : Sound l) (hft : f < t) (hf : f % 4096 = 0) (ht : t % 4096 = 0) (hp0 : 0 ≤ p) (hp : p ≤ 7) : Sound (Rg.run f t (hProt p) l) := by
  have key : ∀ y ∈ Rg.run f t (hProt p) l, ∃ x ∈ l, x.fr ≤ y.fr ∧ y.fr < y.to ∧ y.to ≤ x.to ∧ Rg.one y = true ∧ y.Ok := fun y hy => by
    obtain ⟨x, hx, hy⟩ := List.mem_flatMap.1 hy
    exact ⟨x, hx, run1_in (hs.one x hx) (hs.ok x hx) hft hf ht hp0 hp hy⟩
  refine ⟨⟨?_, fun y hy => ?_⟩, fun y hy => ?_, fun y hy => ?_⟩
  · clear key
    induction l with
    | nil => simp [Rg.run]
    | cons x l ih =>
      have hc := List.pairwise_cons.1 hs.apart.1
      have hs' : Sound l := ⟨⟨hc.2, fun y hy => hs.apart.2 y (by simp [hy])⟩, fun y hy => hs.one y (by simp [hy]), fun y hy => hs.ok y (by simp [hy])⟩
      have e : Rg.run f t (hProt p) (x :: l) = Rg.run1 f t (hProt p) x ++ Rg.run f t (hProt p) l := by simp [Rg.run]
      rw [e, List.pairwise_append]
      refine ⟨run1_apart (hs.one x (by simp)) (hs.ok x (by simp)) hft, ih hs', fun u hu v hv => ?_⟩
      obtain ⟨z, hz, hv⟩ := List.mem_flatMap.1 hv
      have h1 := run1_in (hs.one x (by simp)) (hs.ok x (by simp)) hft hf ht hp0 hp hu
      have h2 := run1_in (hs.one z (by simp [hz])) (hs.ok z (by simp [hz])) hft hf ht hp0 hp hv
      have h3 := hc.1 z hz
      omega
  · obtain ⟨x, _, _, h, _⟩ := key y hy; exact h
  · obtain ⟨x, _, _, _, _, h, _⟩ := key y hy; exact h
  · obtain ⟨x, _, _, _, _, _, h⟩ := key y hy; exact h
theorem hit_mid {f t p a : Int} {x : Reg} (h1 : max x.fr f ≤ a) : Rg.hit a (Rg.mid f t p x) = (Rg.hit a x).withProt p := by
  have e := hit_rpart (x := x) (f := max x.fr f) (g := min x.to t) (a := a) (by omega) h1
  have e2 : (Rg.hit a (Rg.mid f t p x)).off = (Rg.hit a (Rg.rpart x (max x.fr f) (min x.to t))).off := rfl
  rw [e] at e2
  have e3 : Rg.hit a (Rg.mid f t p x) = ⟨0, 0, p, x.ino, (Rg.hit a (Rg.mid f t p x)).off⟩ := by simp only [Rg.hit, Rg.mid]
  rw [e3, e2]
  simp only [Reg.withProt, Rg.hit]
theorem ats_run1 {f t p a : Int} {x : Reg} (h : Rg.one x = true) (hok : x.Ok) (hft : f < t) : Rg.ats (Rg.run1 f t (hProt p) x) a = if f ≤ a ∧ a < t then (Rg.ats [x] a).map (Reg.withProt p) else Rg.ats [x] a := by
  have b := one_spec h
  have hw := ats_wo1 (a := a) hft b.1
  rw [run1_prot h hok hft]
  unfold Rg.wo1 at hw
  by_cases hc : x.to ≤ f ∨ t ≤ x.fr
  · rw [if_pos hc] at hw ⊢
    by_cases hin : f ≤ a ∧ a < t
    · rw [if_pos hin] at hw ⊢; rw [hw]; rfl
    · rw [if_neg hin]
  · rw [if_neg hc] at hw ⊢
    rw [ats_append] at hw
    generalize (if t < x.to then [Rg.rpart x t x.to] else []) = R at hw ⊢
    generalize (if x.fr < f then [Rg.rpart x x.fr f] else []) = L at hw ⊢
    rw [ats_append, ats_cons]
    by_cases hin : f ≤ a ∧ a < t
    · rw [if_pos hin] at hw ⊢
      rw [List.append_eq_nil_iff] at hw
      rw [hw.1, hw.2, ats_cons, ats_nil]
      by_cases hh : x.fr ≤ a ∧ a < x.to
      · rw [if_pos hh, if_pos (by simp only [Rg.mid]; omega), hit_mid (by omega)]; rfl
      · rw [if_neg hh, if_neg (by simp only [Rg.mid]; omega)]; rfl
    · rw [if_neg hin] at hw ⊢
      rw [if_neg (by simp only [Rg.mid]; omega), List.nil_append]
      exact hw
theorem ats_run {f t p a : Int} {l : List Reg} (hs : Sound l) (hft : f < t) : Rg.ats (Rg.run f t (hProt p) l) a = if f ≤ a ∧ a < t then (Rg.ats l a).map (Reg.withProt p) else Rg.ats l a := by
  induction l with
  | nil => simp [Rg.run, Rg.ats]
  | cons x l ih =>
    have hc := List.pairwise_cons.1 hs.apart.1
    have hs' : Sound l := ⟨⟨hc.2, fun y hy => hs.apart.2 y (by simp [hy])⟩, fun y hy => hs.one y (by simp [hy]), fun y hy => hs.ok y (by simp [hy])⟩
    have e : Rg.run f t (hProt p) (x :: l) = Rg.run1 f t (hProt p) x ++ Rg.run f t (hProt p) l := by simp [Rg.run]
    have e2 : Rg.ats (x :: l) a = Rg.ats [x] a ++ Rg.ats l a := ats_append [x] l a
    rw [e, ats_append, ats_run1 (hs.one x (by simp)) (hs.ok x (by simp)) hft, ih hs', e2]
    split <;> simp
theorem cov_at {l : List Reg} {f t a : Int} (hap : Apart l) (h : Rg.cov l f t = true) (h1 : f ≤ a) (h2 : a < t) : Rg.ats l a ≠ [] := by
  induction l generalizing f with
  | nil => simp [Rg.cov] at h; omega
  | cons x l ih =>
    have hap' : Apart l := ⟨(List.pairwise_cons.1 hap.1).2, fun y hy => hap.2 y (by simp [hy])⟩
    rw [ats_cons]
    rw [Rg.cov, if_pos (by omega)] at h
    by_cases hh : x.fr ≤ a ∧ a < x.to
    · rw [if_pos hh]; simp
    · rw [if_neg hh, List.nil_append]
      split at h
      · exact ih hap' h (by omega)
      · exact ih hap' h h1
theorem ats_one {l : List Reg} (hap : Apart l) (a : Int) : (Rg.ats l a).length ≤ 1 := by
  induction l with
  | nil => simp [Rg.ats]
  | cons x l ih =>
    have hc := List.pairwise_cons.1 hap.1
    have hap' : Apart l := ⟨hc.2, fun y hy => hap.2 y (by simp [hy])⟩
    rw [ats_cons]
    split
    · have : Rg.ats l a = [] := by
        unfold Rg.ats
        rw [List.map_eq_nil_iff, List.filter_eq_nil_iff]
        intro y hy
        have h1 := hc.1 y hy
        simp [Rg.holds]; omega
      rw [this]; simp
    · simpa using ih hap'
/-- PROTECT. -/
theorem protect_fits {l out : List Reg} {f t p : Int} (hok : AllOk l) (hp0 : 0 ≤ p) (h : Rg.protect l f t p = (out, 0)) :
    Rg.right out = true ∧ AllOk out ∧ (∀ a, Rg.ats out a = if f ≤ a ∧ a < t then (Rg.ats l a).map (Reg.withProt p) else Rg.ats l a) ∧ ∀ a, f ≤ a → a < t → Rg.ats l a ≠ [] := by
  unfold Rg.protect at h
  split at h
  · rename_i hc
    obtain ⟨hst, hp⟩ := hc
    split at h
    · rename_i hcv
      obtain ⟨rfl, hn⟩ := few_zero h
      obtain ⟨hr, hft, _⟩ := stretch_spec hst
      obtain ⟨m1, m2⟩ := stretch_more hst
      have hs := right_sound hr hok
      have hw := run_apart hs hft m1 m2 hp0 hp
      obtain ⟨j1, j2, j3⟩ := joined_law hw
      exact ⟨right_of j1 j2 hn, j1.ok, fun a => by rw [j3 a]; exact ats_run hs hft, fun a h1 h2 => cov_at hs.apart hcv h1 h2⟩
    · simp at h
  · simp at h
theorem protect_err {l : List Reg} {f t p : Int} (h : (Rg.protect l f t p).2 ≠ 0) : (Rg.protect l f t p).1 = [] := by
  unfold Rg.protect Rg.few at *
  (repeat' split) <;> simp_all

end Go.Proofs.Ytdkhgofnhemhmaa
