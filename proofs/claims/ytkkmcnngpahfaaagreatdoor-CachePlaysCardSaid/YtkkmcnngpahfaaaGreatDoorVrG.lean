/- What is asked of the program's cache, and of the document's, beside each other: each call's contract. -/
import Derived.Test.YtkkmcnngpahfaaaGreatDoorVrF
import Derived.Test.YtkkmcnngpahfaaaGreatDoorDqE
import Derived.Test.YtkkmcnngpahfaaaGreatDoorMga
import Derived.Test.YtkkmcnngpahfaaaGreatDoorMgb
namespace Go.Proofs.YtkkmcnngpahfaaaGreatDoor
open Go.RowKit Go.Sort
set_option linter.unusedSimpArgs false
set_option linter.unusedVariables false
variable {w : World} {x : Loc} {S : Nat → Prop} {y : DcW} {F : List Nd} {s : St8} {q : Pool} {D : List Slot} {Hl Hh : Option Addr} {cl ch : Nat}

theorem r2_pget (ino page : Int) (h : Run2 w x S y F s q D Hl cl Hh ch) (hby : BytesF F) (hi : (Lit.int .i64 ino).wf = true) (hck : 0 ≤ s.clock ∧ s.clock < 1000000) :
    Calls Tryz.prog 35 #[.pointer (some ⟨x.c, 0, none⟩), .int .i64 ino, .int .i64 page] w fun e w1 => ∃ r f p' L' clock' S', e = .returned (.tuple #[.int .i64 (f : Nat), .int .i64 r]) ∧ Hid (Run2 w1 x S' y F ⟨p', L', clock', s.l, s.h⟩ q D Hl cl Hh ch) ∧ Hid (Below x.B w w1) ∧ Hid (Mod (xP S x.c x.m) w w1) ∧ Hid (GetF F ino page s.p s.L s.clock r f p' L' clock') := by
  obtain ⟨⟨B1, nb, c2, ad, mp, hFs⟩, -⟩ := h.fs (Below.refl _ _)
  refine (cget_any B1 nb c2 x.c x.a x.fs x.m ad mp F ino page s.clock w S s.p s.L h.cache hFs hby hi hck).mono ?_
  rintro e w1 ⟨r, f, p', L', clock', S', rfl, hC, hm, ho, hres⟩
  obtain ⟨h1, h2⟩ := h.prog (Below.refl _ _) hC hm ho
  exact ⟨r, f, p', L', clock', S', rfl, Lib.hid h1, Lib.hid h2, Lib.hid hm, Lib.hid hres⟩
theorem r2_ptake (h : Run2 w x S y F s q D Hl cl Hh ch) :
    Calls Tryz.prog 34 #[.pointer (some ⟨x.c, 0, none⟩)] w fun e w1 => ∃ r f p' L' S', e = .returned (.tuple #[.int .i64 (f : Nat), .int .i64 r]) ∧ Hid (Run2 w1 x S' y F ⟨p', L', s.clock, s.l, s.h⟩ q D Hl cl Hh ch) ∧ Hid (Below x.B w w1) ∧ Hid (Mod (xP S x.c x.m) w w1) ∧ Hid (TakeRes s.p s.L r f p' L') := by
  refine (ctake_any x.c x.a x.fs x.m s.clock w S s.p s.L h.cache).mono ?_
  rintro e w1 ⟨r, f, p', L', S', rfl, hC, hm, ho, hres⟩
  have hm2 : Mod (xP S x.c x.m) w w1 := hm.sub fun b e => e.elim .inl fun e => .inr (.inl e)
  obtain ⟨h1, h2⟩ := h.prog (Below.refl _ _) hC hm2 ho
  exact ⟨r, f, p', L', S', rfl, Lib.hid h1, Lib.hid h2, Lib.hid hm2, Lib.hid hres⟩
theorem r2_pdrop (h : Run2 w x S y F s q D Hl cl Hh ch) (hcnt : ∀ x ∈ s.L, x.frame < s.p.n ∧ slotN s.L x.frame ≤ s.p.cnt x.frame) :
    Calls Tryz.prog 66 #[.pointer (some ⟨x.c, 0, none⟩)] w fun e w1 => e = .returned (.tuple #[]) ∧ Hid (Run2 w1 x S y F ⟨dropTo s.p s.L [], [], s.clock, s.l, s.h⟩ q D Hl cl Hh ch) ∧ Hid (Below x.B w w1) ∧ Hid (Mod (xP S x.c x.m) w w1) := by
  refine (drop_any x.c x.a x.fs x.m s.clock w S s.p s.L h.cache hcnt).mono ?_
  rintro e w1 ⟨rfl, hC, hm⟩
  have hm2 : Mod (xP S x.c x.m) w w1 := hm.sub fun b e => e.elim .inl fun e => .inr (.inl e)
  obtain ⟨h1, h2⟩ := h.prog (Below.refl _ _) hC hm2 (Out.refl _ _)
  exact ⟨rfl, Lib.hid h1, Lib.hid h2, Lib.hid hm2⟩
theorem r2_pup (f : Nat) (h : Run2 w x S y F s q D Hl cl Hh ch) (hcap : s.p.cnt f + 1 < 1000000000000) :
    Calls Tryz.prog 64 #[.pointer (some ⟨x.a, 0, none⟩), .int .i64 (f : Int)] w fun e w1 => e = .returned (.int .i64 (upR s.p f).1) ∧ Hid (Run2 w1 x S y F ⟨(upR s.p f).2, s.L, s.clock, s.l, s.h⟩ q D Hl cl Hh ch) ∧ Hid (Below x.B w w1) ∧ Hid (Mod (xP S x.c x.m) w w1) := by
  unfold upR
  cases ht : takenB s.p (f : Int) with
  | true =>
    refine (up_yes x.a f w S s.p h.cache.pool ht hcap).mono ?_
    rintro e w1 ⟨rfl, hP, hm⟩
    obtain ⟨h1, h2⟩ := h.prog (Below.refl _ _) (h.cache.turn hm hP (Out.refl _ _)) (hm.sub fun b e => .inl e) (Out.refl _ _)
    exact ⟨rfl, Lib.hid (by rw [if_pos rfl, Int.toNat_natCast]; exact h1), Lib.hid h2, Lib.hid (hm.sub fun b e => .inl e)⟩
  | false =>
    refine (up_no x.a f w S s.p h.cache.pool ht).mono ?_
    rintro e w1 ⟨rfl, rfl⟩
    exact ⟨rfl, Lib.hid (by rw [if_neg (by simp)]; exact h), Lib.hid (Below.refl _ _), Lib.hid (Mod.refl _ _)⟩
theorem r2_pdown (f : Nat) (h : Run2 w x S y F s q D Hl cl Hh ch) :
    Calls Tryz.prog 38 #[.pointer (some ⟨x.a, 0, none⟩), .int .i64 (f : Int)] w fun e w1 => e = .returned (.int .i64 (downR s.p f).1) ∧ Hid (Run2 w1 x S y F ⟨(downR s.p f).2, s.L, s.clock, s.l, s.h⟩ q D Hl cl Hh ch) ∧ Hid (Below x.B w w1) ∧ Hid (Mod (xP S x.c x.m) w w1) := by
  unfold downR
  cases ht : takenB s.p (f : Int) with
  | true =>
    have h9 := of_decide_eq_true (takenB_nat.symm.trans ht)
    refine (down_yes x.a f w S s.p h.cache.pool h9.1 h9.2).mono ?_
    rintro e w1 ⟨rfl, hP, hm⟩
    obtain ⟨h1, h2⟩ := h.prog (Below.refl _ _) (h.cache.turn hm hP (Out.refl _ _)) (hm.sub fun b e => .inl e) (Out.refl _ _)
    exact ⟨rfl, Lib.hid (by rw [if_pos rfl, Int.toNat_natCast]; exact h1), Lib.hid h2, Lib.hid (hm.sub fun b e => .inl e)⟩
  | false =>
    refine (down_no x.a f w S s.p h.cache.pool ht).mono ?_
    rintro e w1 ⟨rfl, rfl⟩
    exact ⟨rfl, Lib.hid (by rw [if_neg (by simp)]; exact h), Lib.hid (Below.refl _ _), Lib.hid (Mod.refl _ _)⟩
theorem r2_dget (ino page clock : Int) (h : Run2 w x S y F s q D Hl cl Hh ch) (hF : F.length ≤ 1000) (hlow : ∀ s ∈ D, s.frame < q.n) (hfew : D.length ≤ 100000) (hcap : ∀ f, q.cnt f < 1000000000000) :
    Calls Tryz.prog 45 #[.pointer (some ⟨y.d, 0, none⟩), .int .i64 ino, .int .i64 page] w fun e w1 => ∃ y', e = .returned (.tuple #[.int .i64 ((dget F ino page q D clock).2.1 : Nat), .int .i64 (dget F ino page q D clock).1]) ∧ Hid (Run2 w1 x S y' F s (dget F ino page q D clock).2.2.1 (dget F ino page q D clock).2.2.2 Hl cl Hh ch) ∧ Hid (Below x.B w w1) ∧ Hid (Mod (dcB y q.n) w w1) := by
  obtain ⟨⟨B1, nb, c2, ad, mp, hFs⟩, b3, R3, cap3, L3, hDF⟩ := h.fs (Below.refl _ _)
  refine (dget_any ino page clock h.doc hDF hFs.ok hF hlow hfew hcap h.base).mono ?_
  rintro e w1 ⟨y', rfl, hn⟩
  obtain ⟨h1, h2⟩ := h.docs (Below.refl _ _) hn
  exact ⟨y', rfl, Lib.hid h1, Lib.hid h2, Lib.hid hn.mod⟩
theorem r2_dtake (h : Run2 w x S y F s q D Hl cl Hh ch) (hlow : ∀ s ∈ D, s.frame < q.n) (hfew : D.length ≤ 100000) (hcap : ∀ f, q.cnt f < 1000000000000) :
    Calls Tryz.prog 44 #[.pointer (some ⟨y.d, 0, none⟩)] w fun e w1 => ∃ y', e = .returned (.tuple #[.int .i64 ((dtake q D).2.1 : Nat), .int .i64 (dtake q D).1]) ∧ Hid (Run2 w1 x S y' F s (dtake q D).2.2.1 (dtake q D).2.2.2 Hl cl Hh ch) ∧ Hid (Below x.B w w1) ∧ Hid (Mod (dcB y q.n) w w1) := by
  refine (dtake_any h.doc hlow hfew hcap h.base).mono ?_
  rintro e w1 ⟨y', rfl, hn⟩
  obtain ⟨h1, h2⟩ := h.docs (Below.refl _ _) hn
  exact ⟨y', rfl, Lib.hid h1, Lib.hid h2, Lib.hid hn.mod⟩
theorem r2_ddrop (h : Run2 w x S y F s q D Hl cl Hh ch) (hS : Sole D) (hcnt : ∀ x ∈ D, x.frame < q.n ∧ slotN D x.frame ≤ q.cnt x.frame) (hfew : D.length ≤ 100000) (hcap : ∀ f, q.cnt f < 1000000000000) :
    Calls Tryz.prog 67 #[.pointer (some ⟨y.d, 0, none⟩)] w fun e w1 => ∃ y', e = .returned (.tuple #[]) ∧ Hid (Run2 w1 x S y' F s (dropTo q D []) [] Hl cl Hh ch) ∧ Hid (Below x.B w w1) ∧ Hid (Mod (dcB y q.n) w w1) := by
  refine (ddrop_any h.doc hS hcnt hfew hcap h.base).mono ?_
  rintro e w1 ⟨y', rfl, hn⟩
  obtain ⟨h1, h2⟩ := h.docs (Below.refl _ _) hn
  exact ⟨y', rfl, Lib.hid h1, Lib.hid h2, Lib.hid hn.mod⟩
theorem r2_dup (f : Nat) (h : Run2 w x S y F s q D Hl cl Hh ch) (hcap : ∀ f, q.cnt f < 1000000000000) :
    Calls Tryz.prog 65 #[.pointer (some ⟨y.z.q, 0, none⟩), .int .i64 (f : Int)] w fun e w1 => e = .returned (.int .i64 (upR q f).1) ∧ Hid (Run2 w1 x S y F s (upR q f).2 D Hl cl Hh ch) ∧ Hid (Below x.B w w1) ∧ Hid (Mod (dcB y q.n) w w1) := by
  refine (qup_any f h.doc.pool hcap).mono ?_
  rintro e w1 ⟨rfl, hn⟩
  obtain ⟨h1, h2⟩ := h.docs (Below.refl _ _) (h.doc.pooled hn)
  exact ⟨rfl, Lib.hid h1, Lib.hid h2, Lib.hid (h.doc.pooled hn).mod⟩
theorem r2_ddown (f : Nat) (h : Run2 w x S y F s q D Hl cl Hh ch) (hcap : ∀ f, q.cnt f < 1000000000000) :
    Calls Tryz.prog 46 #[.pointer (some ⟨y.z.q, 0, none⟩), .int .i64 (f : Int)] w fun e w1 => e = .returned (.int .i64 (downR q f).1) ∧ Hid (Run2 w1 x S y F s (downR q f).2 D Hl cl Hh ch) ∧ Hid (Below x.B w w1) ∧ Hid (Mod (dcB y q.n) w w1) := by
  refine (qdown_any f h.doc.pool hcap).mono ?_
  rintro e w1 ⟨rfl, hn⟩
  obtain ⟨h1, h2⟩ := h.docs (Below.refl _ _) (h.doc.pooled hn)
  exact ⟨rfl, Lib.hid h1, Lib.hid h2, Lib.hid (h.doc.pooled hn).mod⟩

theorem r2_dgetE {ino page clock : Int} {r : Int} {f : Nat} {p' : Pool} {D' : List Slot} (hd : dget F ino page q D clock = (r, f, p', D')) (h : Run2 w x S y F s q D Hl cl Hh ch) (hF : F.length ≤ 1000) (hlow : ∀ s ∈ D, s.frame < q.n) (hfew : D.length ≤ 100000) (hcap : ∀ f, q.cnt f < 1000000000000) :
    Calls Tryz.prog 45 #[.pointer (some ⟨y.d, 0, none⟩), .int .i64 ino, .int .i64 page] w fun e w1 => ∃ y', e = .returned (.tuple #[.int .i64 (f : Nat), .int .i64 r]) ∧ Hid (Run2 w1 x S y' F s p' D' Hl cl Hh ch) ∧ Hid (Below x.B w w1) ∧ Hid (Mod (dcB y q.n) w w1) := by
  have h9 := r2_dget ino page clock h hF hlow hfew hcap
  rw [hd] at h9
  exact h9
theorem r2_dtakeE {r : Int} {f : Nat} {p' : Pool} {D' : List Slot} (hd : dtake q D = (r, f, p', D')) (h : Run2 w x S y F s q D Hl cl Hh ch) (hlow : ∀ s ∈ D, s.frame < q.n) (hfew : D.length ≤ 100000) (hcap : ∀ f, q.cnt f < 1000000000000) :
    Calls Tryz.prog 44 #[.pointer (some ⟨y.d, 0, none⟩)] w fun e w1 => ∃ y', e = .returned (.tuple #[.int .i64 (f : Nat), .int .i64 r]) ∧ Hid (Run2 w1 x S y' F s p' D' Hl cl Hh ch) ∧ Hid (Below x.B w w1) ∧ Hid (Mod (dcB y q.n) w w1) := by
  have h9 := r2_dtake h hlow hfew hcap
  rw [hd] at h9
  exact h9
theorem Run2.cap (h : Run2 w x S y F s q D Hl cl Hh ch) : ∀ f, s.p.cnt f < 1000000000000 := by
  obtain ⟨⟨C, B, F2, wd, pt, hi, _⟩, _, _, _⟩ := h.cache.pool
  exact hi.cap
theorem r2_pslots (h : Run2 w x S y F s q D Hl cl Hh ch) (hfew : s.L.length < 100000) (hsm : Small s.L) :
    Calls Tryz.prog 61 #[.pointer (some ⟨x.c, 0, none⟩)] w (SlotsPost w s.L) := slots_any x.c x.a x.fs x.m s.clock w s.L h.cache.self h.cache.slots hfew hsm
theorem r2_dslots (h : Run2 w x S y F s q D Hl cl Hh ch) (hfew : D.length ≤ 100000) :
    Calls Tryz.prog 68 #[.pointer (some ⟨y.d, 0, none⟩)] w (DSlotsP w D) := dslots_any h.doc hfew
/-- Both are alike. -/
structure Alike8 (F : List Nd) (n k : Nat) (s : St8) (q : Pool) (D : List Slot) : Prop where
  fine : s.Fine F (fun _ => 0) n k
  pool : q = s.p
  ord : Ord s.L s.clock D
theorem Alike8.facts {n k : Nat} (h : Alike8 F n k s q D) (hk : k ≤ 1000) : (∀ s ∈ D, s.frame < q.n) ∧ D.length ≤ 100000 ∧ (∀ f, f < q.n → q.cnt f ≤ 2000) := by
  have hf := h.fine.few
  refine ⟨fun t ht => ?_, ?_, fun f hf2 => ?_⟩
  · rw [h.pool, h.fine.size]
    exact h.fine.slow t (h.ord.perm.mem_iff.1 ht)
  · have := h.ord.perm.length_eq
    omega
  · rw [h.pool] at hf2 ⊢
    have h1 : s.p.cnt f = slotN s.L f + (cntL s.h f + 0) := h.fine.even f hf2
    have h2 : slotN s.L f ≤ s.L.length := by unfold slotN; exact List.countP_le_length
    have h3 : cntL s.h f ≤ s.h.length := by unfold cntL; exact List.count_le_length
    omega
/-- What does comes to: yes, and both are alike. -/
def Does2P (w : World) (x : Loc) (F : List Nd) (n k : Nat) (op : Op8) (s : St8) (e : Ending) (w' : World) : Prop :=
  e = .returned (.bool true) ∧ ∃ s' S' y' D' Hl' cl' Hh' ch', Run2 w' x S' y' F s' s'.p D' Hl' cl' Hh' ch' ∧ Do8 F op s s' ∧ Ord s'.L s'.clock D' ∧ Below x.B w w'

end Go.Proofs.YtkkmcnngpahfaaaGreatDoor
