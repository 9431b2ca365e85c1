/- The document's files: what is known of a number; bytes read. -/
import Derived.Test.YtkkmcnngpahfaaaGreatDoorHrC
namespace Go.Proofs.YtkkmcnngpahfaaaGreatDoor
open Go.RowKit Go.Sort
set_option linter.unusedSimpArgs false
set_option linter.unusedVariables false
variable {w : World} {base q cap : Nat} {R : Option Addr} {L : List NdR} {F : List Nd}

/-- What Meta answers: of a number that is there, or not. -/
def RMeta (F : List Nd) (ino : Int) (kd md u g n : Nat) (me : Int) : Prop := (me = 3 ∧ kd = 0 ∧ (ino < 0 ∨ (F.length : Int) ≤ ino)) ∨ (me = 0 ∧ 0 ≤ ino ∧ ∃ y, F[ino.toNat]? = some y ∧ kd = y.kind ∧ n = y.n)
set_option maxHeartbeats 2000000 in
set_option maxRecDepth 100000 in
theorem rmeta_any (ino : Int) (h : DocFs w base q R cap L F) (hfew : F.length ≤ 1000) :
    ∃ kd md u g n me, RMeta F ino kd md u g n me ∧ Calls Tryz.prog 132 #[.pointer (some ⟨q, 0, none⟩), .int .i64 ino] w fun e w' => e = .returned (.tuple #[.agg #[.int .u8 (kd : Int), .int .u16 (md : Int), .int .u32 (u : Int), .int .u32 (g : Int), .int .i64 (n : Int)], .int .i64 me]) ∧ Below w.heap.size w w' := by
  obtain ⟨w0, hw0⟩ : ∃ w0, w0 = w.alloc (.cells #[.int .u8 0, .int .u16 0, .int .u32 0, .int .u32 0, .int .i64 0] 145) := ⟨_, rfl⟩
  have hb0 : Below w.heap.size w w0 := by rw [hw0]; exact (Below.refl _ _).alloc (Nat.le_refl _) _
  have hM : w0.heap[w.heap.size]? = some (.cells #[.int .u8 0, .int .u16 0, .int .u32 0, .int .u32 0, .int .i64 0] 145 (0, 0)) := by rw [hw0]; exact heap_alloc_new w _
  have hF := h.kept hb0
  have hlen := hF.len
  have q0 : w0.cell? ⟨q, 0, none⟩ = some (.slice R L.length cap) := one_block hF.self 0
  rw [hlen] at q0
  have y0 : w0.cell? ⟨w.heap.size, 0, none⟩ = some (.int .u8 0) := one_block hM 0
  have y1 : w0.cell? ⟨w.heap.size, 1, none⟩ = some (.int .u16 0) := one_block hM 1
  have y2 : w0.cell? ⟨w.heap.size, 2, none⟩ = some (.int .u32 0) := one_block hM 2
  have y3 : w0.cell? ⟨w.heap.size, 3, none⟩ = some (.int .u32 0) := one_block hM 3
  have y4 : w0.cell? ⟨w.heap.size, 4, none⟩ = some (.int .i64 0) := one_block hM 4
  have z0 := one_free hM 0
  have z1 := one_free hM 1
  have z2 := one_free hM 2
  have z3 := one_free hM 3
  have z4 := one_free hM 4
  have hlt := (Array.getElem?_eq_some_iff.1 hM).1
  have HW0 := Lib.hid hw0
  have hb1 : w.heap.size ≤ w.heap.size := Nat.le_refl _
  by_cases hr : ino < 0 ∨ (F.length : Int) ≤ ino
  · refine ⟨0, 0, 0, 0, 0, 3, .inl ⟨rfl, rfl, hr⟩, ?_⟩
    clear h hF hw0 hM
    go_enter Tryz.func132, Tryz.ntmps132
    go_upto_region 1 with (fail)
    rw [← HW0.out]
    rcases hr with hr | hr
    · go_wp2_with fail
      exact bodyPost_ret (v := .tuple #[.agg #[.int .u8 ((0 : Nat) : Int), .int .u16 ((0 : Nat) : Int), .int .u32 ((0 : Nat) : Int), .int .u32 ((0 : Nat) : Int), .int .i64 ((0 : Nat) : Int)], .int .i64 3]) (by simp [results, Tryz.results132, go_sem, hlt, y0, y1, y2, y3, y4, z0, z1, z2, z3, z4]) rfl ⟨rfl, ((((hb0.setCell hb1 _).setCell hb1 _).setCell hb1 _).setCell hb1 _).setCell hb1 _⟩
    · have hr2 : ¬ ino < 0 := by omega
      go_wp2_with fail
      exact bodyPost_ret (v := .tuple #[.agg #[.int .u8 ((0 : Nat) : Int), .int .u16 ((0 : Nat) : Int), .int .u32 ((0 : Nat) : Int), .int .u32 ((0 : Nat) : Int), .int .i64 ((0 : Nat) : Int)], .int .i64 3]) (by simp [results, Tryz.results132, go_sem, hlt, y0, y1, y2, y3, y4, z0, z1, z2, z3, z4]) rfl ⟨rfl, ((((hb0.setCell hb1 _).setCell hb1 _).setCell hb1 _).setCell hb1 _).setCell hb1 _⟩
  · obtain ⟨i, rfl⟩ : ∃ i : Nat, ino = (i : Int) := ⟨ino.toNat, by omega⟩
    have hi : i < F.length := by omega
    obtain ⟨y, hy⟩ : ∃ y, F[i]? = some y := ⟨_, List.getElem?_eq_getElem hi⟩
    refine ⟨y.kind, y.mode, y.uid, y.gid, y.n, 0, .inr ⟨rfl, by omega, y, by rw [Int.toNat_natCast]; exact hy, rfl, rfl⟩, ?_⟩
    obtain ⟨r, g, hrL, rfl, rfl, hg, hcap, hc⟩ := hF.at hy
    have c0 : w0.cell? ⟨g, i * 9, none⟩ = some (.int .u8 (r.nd.kind : Int)) := hc 0 (by omega)
    have c1 : w0.cell? ⟨g, i * 9 + 1, none⟩ = some (.int .u16 (r.nd.mode : Int)) := hc 1 (by omega)
    have c2 : w0.cell? ⟨g, i * 9 + 2, none⟩ = some (.int .u32 (r.nd.uid : Int)) := hc 2 (by omega)
    have c3 : w0.cell? ⟨g, i * 9 + 3, none⟩ = some (.int .u32 (r.nd.gid : Int)) := hc 3 (by omega)
    have c4 : w0.cell? ⟨g, i * 9 + 4, none⟩ = some (.int .i64 (r.nd.n : Int)) := hc 4 (by omega)
    have hll := hF.len
    have hic : i < cap := by omega
    have hn0 : ¬ (i : Int) < 0 := by omega
    clear h hF hw0 hM hc hr hy hrL hll
    go_enter Tryz.func132, Tryz.ntmps132
    go_upto_region 1 with (fail)
    rw [← HW0.out]
    go_wp2_with fail
    exact bodyPost_ret (v := .tuple #[.agg #[.int .u8 (r.nd.kind : Int), .int .u16 (r.nd.mode : Int), .int .u32 (r.nd.uid : Int), .int .u32 (r.nd.gid : Int), .int .i64 (r.nd.n : Int)], .int .i64 0]) (by simp [results, Tryz.results132, go_sem, hlt, y0, y1, y2, y3, y4, z0, z1, z2, z3, z4]) rfl ⟨rfl, ((((hb0.setCell hb1 _).setCell hb1 _).setCell hb1 _).setCell hb1 _).setCell hb1 _⟩

theorem BytesV.drop {g n m : Nat} {d : Nat → Nat} (h : BytesV w (some ⟨g, 0, none⟩) n d) (hm : m < n) : BytesV w (some ⟨g, m, none⟩) (n - m) fun j => d (m + j) := fun h0 => by
  obtain ⟨y, e, h1⟩ := h (by omega)
  injection e with e
  subst e
  refine ⟨_, rfl, fun j hj => ?_⟩
  have := h1 (m + j) (by omega)
  rw [Addr.add_mid] at this ⊢
  rwa [Nat.zero_add] at this
/-- What Read comes to, by the nodes. -/
def readN (F : List Nd) (ino : Int) (off n : Nat) : Int × Nat × (Nat → Nat) :=
  if ino < 0 ∨ (F.length : Int) ≤ ino then (3, 0, fun _ => 0)
  else match F[ino.toNat]? with
    | none => (3, 0, fun _ => 0)
    | some y => if y.kind = 2 then (9, 0, fun _ => 0) else if y.kind = 1 then (0, min n (y.n - off), fun i => y.dat (off + i)) else (1, 0, fun _ => 0)
theorem readN_out {ino : Int} {off n : Nat} (h : ino < 0 ∨ (F.length : Int) ≤ ino) : readN F ino off n = (3, 0, fun _ => 0) := by unfold readN; rw [if_pos h]
theorem readN_at {i off n : Nat} {y : Nd} (hy : F[i]? = some y) : readN F (i : Int) off n = if y.kind = 2 then (9, 0, fun _ => 0) else if y.kind = 1 then (0, min n (y.n - off), fun i => y.dat (off + i)) else (1, 0, fun _ => 0) := by
  have hi := (List.getElem?_eq_some_iff.1 hy).1
  unfold readN
  rw [if_neg (by omega), Int.toNat_natCast, hy]
/-- What Read answers: no more bytes than asked for; just those that the nodes tell. -/
def RRead (F : List Nd) (ino : Int) (off n : Nat) (w : World) (e : Ending) (w' : World) : Prop := ∃ Rb k cp er d, e = .returned (.tuple #[.slice Rb k cp, .int .i64 er]) ∧ k ≤ n ∧ BytesV w' Rb k d ∧ (∀ y, Rb = some y → ∃ g, y = ⟨g, 0, none⟩ ∧ w.heap.size ≤ g) ∧ Below w.heap.size w w' ∧ (FOk F → er = (readN F ino off n).1 ∧ k = (readN F ino off n).2.1 ∧ (0 < k → d = (readN F ino off n).2.2))
set_option maxHeartbeats 2000000 in
set_option maxRecDepth 100000 in
theorem rread_any (ino : Int) (off n : Nat) (h : DocFs w base q R cap L F) (hfew : F.length ≤ 1000) (hn : n ≤ 600000) :
    Calls Tryz.prog 108 #[.pointer (some ⟨q, 0, none⟩), .int .i64 ino, .int .i64 (off : Int), .int .i64 (n : Int)] w (RRead F ino off n w) := by
  obtain ⟨kd, md, u, g, nn, me, hme, hC⟩ := rmeta_any ino h hfew
  have hoff : ¬ (off : Int) < 0 := by omega
  have hnn : ¬ (n : Int) < 0 := by omega
  have HC := Lib.hid hC
  have H := Lib.hid h
  clear hC h
  rcases hme with ⟨rfl, rfl, hout⟩ | ⟨rfl, h0, y, hy, rfl, rfl⟩
  · have HX : Hid (readN F ino off n = (3, 0, fun _ => 0)) := Lib.hid (readN_out hout)
    clear hout
    go_enter Tryz.func108, Tryz.ntmps108
    go_wp2_with (first
      | (go_at_call 132; refine (HC.out).mono ?_; rintro e w1 ⟨rfl, hb1⟩)
      | fail)
    go_ret2
    exact ⟨none, 0, 0, 3, fun _ => 0, rfl, Nat.zero_le _, (fun h => by omega), (fun y hy => by cases hy), hb1.alloc hb1.size _, fun _ => by rw [HX.out]; exact ⟨rfl, rfl, fun _ => rfl⟩⟩
  · obtain ⟨i, rfl⟩ : ∃ i : Nat, ino = (i : Int) := ⟨ino.toNat, by omega⟩
    rw [Int.toNat_natCast] at hy
    obtain ⟨r, g', hrL, rfl, rfl, hg, hcap, hc⟩ := H.out.at hy
    obtain ⟨hBV, hBA, hfit, hsl⟩ := H.out.bytes r (List.mem_of_getElem? hrL)
    have q0 := one_block H.out.self 0
    have c7 := hc 7 (by omega)
    have hll := H.out.len
    have hX := readN_at (off := off) (n := n) hy
    by_cases hk2 : r.nd.kind = 2
    · rw [hk2] at HC
      rw [if_pos hk2] at hX
      have HX := Lib.hid hX
      clear hX
      go_enter Tryz.func108, Tryz.ntmps108
      go_wp2_with (first
        | (go_at_call 132; refine (HC.out).mono ?_; rintro e w1 ⟨rfl, hb1⟩)
        | fail)
      go_ret2
      exact ⟨none, 0, 0, 9, fun _ => 0, rfl, Nat.zero_le _, (fun h => by omega), (fun y hy => by cases hy), hb1.alloc hb1.size _, fun _ => by rw [HX.out]; exact ⟨rfl, rfl, fun _ => rfl⟩⟩
    have b2 : ((r.nd.kind : Int) == 2) = false := by rw [beq_eq_false_iff_ne]; omega
    rw [if_neg hk2] at hX
    by_cases hk3 : r.nd.kind = 3
    · rw [hk3] at HC
      rw [if_neg (by omega)] at hX
      have HX := Lib.hid hX
      clear hX
      go_enter Tryz.func108, Tryz.ntmps108
      go_wp2_with (first
        | (go_at_call 132; refine (HC.out).mono ?_; rintro e w1 ⟨rfl, hb1⟩)
        | fail)
      go_ret2
      exact ⟨none, 0, 0, 1, fun _ => 0, rfl, Nat.zero_le _, (fun h => by omega), (fun y hy => by cases hy), hb1.alloc hb1.size _, fun _ => by rw [HX.out]; exact ⟨rfl, rfl, fun _ => rfl⟩⟩
    have b3 : ((r.nd.kind : Int) == 3) = false := by rw [beq_eq_false_iff_ne]; omega
    have HX : Hid (FOk F → readN F (i : Int) off n = (0, min n (r.nd.n - off), fun j => r.nd.dat (off + j))) := Lib.hid fun hf => by
      have := (hf.each i r.nd hy).kind
      rw [hX, if_pos (by omega)]
    clear hX
    have HR := Lib.hid H.out
    have HBV := Lib.hid hBV
    have hln : i < cap := by have := (List.getElem?_eq_some_iff.1 hy).1; omega
    have hlF : i < L.length := by have := (List.getElem?_eq_some_iff.1 hy).1; omega
    have e7 : ∀ W, Below w.heap.size w W → W.cell? ⟨q, 0, none⟩ = some (.slice (some ⟨g', 0, none⟩) L.length cap) ∧ W.cell? ⟨g', i * 9 + 7, none⟩ = some (.slice r.A r.nd.n r.c) := fun W hW => ⟨(hW.cell (Array.getElem?_eq_some_iff.1 H.out.self).1).trans q0, (hW.cell hg).trans c7⟩
    have HE := Lib.hid e7
    obtain ⟨N, hN⟩ : ∃ N, N = r.nd.n := ⟨_, rfl⟩
    by_cases ho : r.nd.n ≤ off
    · clear hBV hc q0 c7 H hrL hy e7 hll
      go_enter Tryz.func108, Tryz.ntmps108
      go_upto_region 8 with (first
        | (go_at_call 132; refine (HC.out).mono ?_; rintro e w1 ⟨rfl, hb1⟩)
        | fail)
      obtain ⟨W, hW⟩ : ∃ W, W = w1.alloc (.cells #[.int .u8 (r.nd.kind : Int), .int .u16 (md : Int), .int .u32 (u : Int), .int .u32 (g : Int), .int .i64 (r.nd.n : Int)] 145) := ⟨_, rfl⟩
      have hbW : Below w.heap.size w W := by rw [hW]; exact hb1.alloc hb1.size _
      rw [← hW]
      obtain ⟨x0, x7⟩ := HE.out W hbW
      clear hW
      go_wp2_with fail
      go_ret2
      exact ⟨none, 0, 0, 0, fun _ => 0, rfl, Nat.zero_le _, (fun h => by omega), (fun y hy => by cases hy), hbW, fun hf => by rw [HX.out hf]; exact ⟨rfl, by show 0 = min n (r.nd.n - off); omega, fun h => by omega⟩⟩
    · have h1 : r.nd.n - off > 0 := by omega
      obtain ⟨⟨gb, ob, sp⟩, hA, _⟩ := hBV (by omega)
      obtain ⟨g2, cs, f, e, hcs⟩ := hBA _ hA
      injection e with e1 e2 e3
      subst e1 e2 e3
      rw [hA] at HBV
      rw [hA] at HE
      have hlo : off < r.nd.n := by omega
      have hgb := (Array.getElem?_eq_some_iff.1 hcs).1
      have hoc : off ≤ r.c := by omega
      have hd := Lib.hid (HBV.out.drop hlo)
      have i1 : (off : Int) ≤ (r.c : Int) := by omega
      have i2 : ((r.nd.n : Int) - (off : Int)) = ((r.nd.n - off : Nat) : Int) := by omega
      have i3 : (r.nd.n : Int) ≤ (r.c : Int) := by omega
      clear hBV hc q0 c7 H hrL hy e7 hll hBA hsl
      go_enter Tryz.func108, Tryz.ntmps108
      go_upto_region 8 with (first
        | (go_at_call 132; refine (HC.out).mono ?_; rintro e w1 ⟨rfl, hb1⟩)
        | fail)
      obtain ⟨W, hW⟩ : ∃ W, W = w1.alloc (.cells #[.int .u8 (r.nd.kind : Int), .int .u16 (md : Int), .int .u32 (u : Int), .int .u32 (g : Int), .int .i64 (r.nd.n : Int)] 145) := ⟨_, rfl⟩
      have hbW : Below w.heap.size w W := by rw [hW]; exact hb1.alloc hb1.size _
      rw [← hW]
      obtain ⟨x0, x7⟩ := HE.out W hbW
      clear hW
      go_upto_region 12 with fail
      have hcp : ∀ (k c2 : Nat) (W2 : World), k ≤ n → k ≤ r.nd.n - off → Below w.heap.size w W2 → Calls Tryz.prog 88 #[.slice (some ⟨gb, off, none⟩) k c2] W2 (CopyPost k (fun j => r.nd.dat (off + j)) W2) := fun k c2 W2 h1 h2 hW2 => rcopy_any _ k c2 _ W2 (by omega) (fun h0 => by
          obtain ⟨x, e, hx⟩ := hd.out.kept hW2 (by omega)
          exact ⟨x, e, fun j hj => hx j (by omega)⟩) (fun x e _ => by injection e with e; subst e; exact Nat.lt_of_lt_of_le hgb hW2.size)
      have HCP := Lib.hid hcp
      by_cases hsm : n < r.nd.n - off
      · have i4 : (n : Int) < ((r.nd.n - off : Nat) : Int) := by omega
        have i5 : (n : Int) ≤ (r.c : Int) - (off : Int) := by omega
        go_wp2_with (first
          | (go_at_call 88; refine (HCP.out n _ _ (Nat.le_refl _) (by omega) hbW).mono ?_; rintro e w3 ⟨Rb, cp, rfl, h3, h4, h5⟩)
          | fail)
        go_ret2
        exact ⟨Rb, n, cp, 0, _, rfl, Nat.le_refl _, h3.1, (fun y hy => by obtain ⟨g3, _, _, e, _⟩ := h3.2.1 y hy; subst e; exact ⟨g3, rfl, Nat.le_trans hbW.size (h4 _ hy)⟩), hbW.trans (h5.mono hbW.size), fun hf => by rw [HX.out hf]; exact ⟨rfl, by show n = min n (r.nd.n - off); omega, fun _ => rfl⟩⟩
      · have i4 : ¬ (n : Int) < ((r.nd.n - off : Nat) : Int) := by omega
        go_wp2_with (first
          | (go_at_call 88; refine (HCP.out (r.nd.n - off) _ _ (by omega) (Nat.le_refl _) hbW).mono ?_; rintro e w3 ⟨Rb, cp, rfl, h3, h4, h5⟩)
          | fail)
        go_ret2
        exact ⟨Rb, _, cp, 0, _, rfl, by omega, h3.1, (fun y hy => by obtain ⟨g3, _, _, e, _⟩ := h3.2.1 y hy; subst e; exact ⟨g3, rfl, Nat.le_trans hbW.size (h4 _ hy)⟩), hbW.trans (h5.mono hbW.size), fun hf => by rw [HX.out hf]; exact ⟨rfl, by show r.nd.n - off = min n (r.nd.n - off); omega, fun _ => rfl⟩⟩

end Go.Proofs.YtkkmcnngpahfaaaGreatDoor
