/- The cache's Get. Plain. The cache: Drop. -/
import Derived.Test.YtmkgdgfbdmjeeaaGreatDoorCaE
import Derived.Test.YtmkgdgfbdmjeeaaGreatDoorTfC
import Derived.StillTailTactics

namespace Go.Proofs.YtmkgdgfbdmjeeaaGreatDoor
set_option linter.unusedSimpArgs false
set_option linter.unusedVariables false

/-- What Get comes to: the files' Read answers r0, and k bytes d. -/
inductive GetRes (ino page r0 : Int) (k : Nat) (d : Nat → Nat) (p : Pool) (L : List Slot) (clock : Int) : Int → Nat → Pool → List Slot → Int → Prop
  | bad : page < 0 ∨ 16 ≤ page → GetRes ino page r0 k d p L clock 1 0 p L clock
  | err : 0 ≤ page → page < 16 → r0 ≠ 0 → GetRes ino page r0 k d p L clock r0 0 p L clock
  | hit (s : Slot) : 0 ≤ page → page < 16 → r0 = 0 → L.find? (Slot.at ino page) = some s → GetRes ino page r0 k d p L clock 0 s.frame p (slPut L ⟨ino, page, s.frame, clock + 1⟩) (clock + 1)
  | full : 0 ≤ page → page < 16 → r0 = 0 → L.find? (Slot.at ino page) = none → TakeRes p L 4 0 p L → GetRes ino page r0 k d p L clock 4 0 p L clock
  | miss (f : Nat) (p1 : Pool) (L1 : List Slot) : 0 ≤ page → page < 16 → r0 = 0 → L.find? (Slot.at ino page) = none → TakeRes p L 0 f p1 L1 → GetRes ino page r0 k d p L clock 0 f (p1.store f (laid (p1.dat f) d 0 k)) (slPut L1 ⟨ino, page, f, clock + 1⟩) (clock + 1)

theorem find_none_any {L : List Slot} {i g : Int} (h : L.find? (Slot.at i g) = none) : L.any (Slot.at i g) = false := by
  rw [List.any_eq_false]
  rw [List.find?_eq_none] at h
  exact h
theorem find_some_at {L : List Slot} {i g : Int} {s : Slot} (h : L.find? (Slot.at i g) = some s) : s ∈ L ∧ s.ino = i ∧ s.page = g := ⟨List.mem_of_find?_eq_some h, Slot.at_iff.1 (List.find?_some h)⟩
theorem slotN_new {L : List Slot} {s : Slot} (h : L.any (Slot.at s.ino s.page) = false) (f : Nat) : slotN (slPut L s) f = slotN L f + if s.frame = f then 1 else 0 := by
  unfold slPut slotN
  rw [if_neg (by rw [h]; decide), List.countP_append]
  by_cases e : s.frame = f
  · simp [e]
  · simp [e]
theorem slotN_old {L : List Slot} (h : Sole L) {s0 s : Slot} (hs : s0 ∈ L) (hi : s0.ino = s.ino) (hp : s0.page = s.page) (hf : s0.frame = s.frame) (f : Nat) : slotN (slPut L s) f = slotN L f := by
  unfold slPut slotN
  have hany : L.any (Slot.at s.ino s.page) = true := List.any_eq_true.2 ⟨s0, hs, Slot.at_iff.2 ⟨hi, hp⟩⟩
  rw [if_pos hany, List.countP_map]
  refine List.countP_congr fun x hx => ?_
  simp only [Function.comp_apply]
  by_cases c : Slot.at s.ino s.page x = true
  · rw [if_pos c]
    have hk := Slot.at_iff.1 c
    have : x = s0 := h.eq hx hs ⟨hk.1.trans hi.symm, hk.2.trans hp.symm⟩
    rw [this, hf]
  · rw [if_neg c]
theorem none_sub {L L1 : List Slot} {i g : Int} (h : L.any (Slot.at i g) = false) (hs : L1.Sublist L) : L1.any (Slot.at i g) = false := by
  rw [List.any_eq_false] at h ⊢
  exact fun x hx => h x (hs.subset hx)
theorem held_put {L : List Slot} {hold : Nat → Nat} {s : Slot} (h : L.any (Slot.at s.ino s.page) = false) (h0 : hold s.frame = 0) : held (slPut L s) hold = held L (upd hold s.frame 1) := by
  funext x
  unfold held
  rw [slotN_new h]
  by_cases e : s.frame = x
  · subst e; rw [if_pos rfl, upd_same]; omega
  · rw [if_neg e, upd_ne _ _ (fun h => e h.symm)]; omega
theorem Tab.Good.get {ino page r0 : Int} {k : Nat} {d : Nat → Nat} {p p' : Pool} {T : Tab} {L L' : List Slot} {clock clock' r : Int} {hold : Nat → Nat} {pg f : Nat} (h : T.Good p (held L hold) pg 4) (hS : Sole L) (hg : GetRes ino page r0 k d p L clock r f p' L' clock') :
    T.Good p' (held L' hold) pg 4 ∧ p'.n = p.n := by
  cases hg with
  | bad h1 => exact ⟨h, rfl⟩
  | err => exact ⟨h, rfl⟩
  | hit s h0 h1 hr hs =>
    obtain ⟨hs, hi, hp⟩ := find_some_at hs
    refine ⟨?_, rfl⟩
    have : held (slPut L ⟨ino, page, s.frame, clock + 1⟩) hold = held L hold := by
      funext x
      unfold held
      rw [slotN_old (s0 := s) (s := ⟨ino, page, s.frame, clock + 1⟩) hS hs hi hp rfl]
    rw [this]
    exact h
  | full h0 h1 hr hn ht => exact ⟨h, rfl⟩
  | miss f p1 L1 h0 h1 hr hn ht =>
    obtain ⟨a1, a2, a3, a4, a5, a6, a7, a8, a9, a10⟩ := h.ctake hS ht
    have e := held_put (s := ⟨ino, page, f, clock + 1⟩) (hold := hold) (none_sub (find_none_any hn) ht.sub) a4
    rw [e]
    refine ⟨⟨a1.but.same rfl fun x hx => ?_, a1.cnt⟩, a3⟩
    show upd p1.dat f _ x = p1.dat x
    rw [upd_ne _ _ (fun e : x = f => a5 (by rw [← e]; exact hx))]
theorem GetRes.len {ino page r0 : Int} {k : Nat} {d : Nat → Nat} {p p' : Pool} {L L' : List Slot} {clock clock' r : Int} {f : Nat} (h : GetRes ino page r0 k d p L clock r f p' L' clock') : L'.length ≤ L.length + 1 ∧ clock ≤ clock' ∧ clock' ≤ clock + 1 := by
  have hput : ∀ (L : List Slot) (s : Slot), (slPut L s).length ≤ L.length + 1 := fun L s => by
    unfold slPut
    split <;> simp
  cases h with
  | bad h1 => exact ⟨by omega, by omega, by omega⟩
  | err => exact ⟨by omega, by omega, by omega⟩
  | hit s => exact ⟨hput _ _, by omega, by omega⟩
  | full => exact ⟨by omega, by omega, by omega⟩
  | miss f p1 L1 _ _ _ _ ht => exact ⟨Nat.le_trans (hput _ _) (Nat.succ_le_succ ht.sub.length_le), by omega, by omega⟩
theorem slPut_sole {L : List Slot} (h : Sole L) (s : Slot) : Sole (slPut L s) := by
  unfold slPut
  by_cases c : L.any (Slot.at s.ino s.page) = true
  · rw [if_pos c]
    refine List.pairwise_map.2 (h.imp ?_)
    intro a b hab
    have hk : ∀ x : Slot, (if Slot.at s.ino s.page x = true then s else x).ino = x.ino ∧ (if Slot.at s.ino s.page x = true then s else x).page = x.page := by
      intro x
      by_cases e : Slot.at s.ino s.page x = true
      · rw [if_pos e]
        have := Slot.at_iff.1 e
        exact ⟨this.1.symm, this.2.symm⟩
      · rw [if_neg e]; exact ⟨rfl, rfl⟩
    rw [(hk a).1, (hk a).2, (hk b).1, (hk b).2]
    exact hab
  · rw [if_neg c]
    refine List.pairwise_append.2 ⟨h, List.pairwise_singleton _ _, ?_⟩
    intro a ha b hb
    rw [List.mem_singleton] at hb
    subst hb
    intro e
    exact c (List.any_eq_true.2 ⟨a, ha, Slot.at_iff.2 e⟩)
theorem slPut_mem {L : List Slot} {s x : Slot} (h : x ∈ slPut L s) : x ∈ L ∨ x = s := by
  unfold slPut at h
  split at h
  · obtain ⟨y, hy, e⟩ := List.mem_map.1 h
    split at e
    · exact .inr e.symm
    · exact .inl (e ▸ hy)
  · rcases List.mem_append.1 h with h | h
    · exact .inl h
    · exact .inr (List.mem_singleton.1 h)
theorem TakeRes.size {p p' : Pool} {L L' : List Slot} {r : Int} {f : Nat} (h : TakeRes p L r f p' L') : p'.n = p.n ∧ (r = 0 → f < p.n) := by
  cases h with
  | free f h1 => exact ⟨rfl, fun _ => (lowest_some h1).1⟩
  | loose s h1 h2 h3 => exact ⟨rfl, fun _ => h3⟩
  | none => exact ⟨rfl, fun e => by cases e⟩
theorem GetRes.slow {ino page r0 : Int} {k : Nat} {d : Nat → Nat} {p p' : Pool} {L L' : List Slot} {clock clock' r : Int} {f n : Nat} (h : GetRes ino page r0 k d p L clock r f p' L' clock') (hn : p.n = n) (hL : ∀ s ∈ L, s.frame < n) : ∀ s ∈ L', s.frame < n := by
  cases h with
  | bad => exact hL
  | err => exact hL
  | hit s _ _ _ hs =>
    intro x hx
    rcases slPut_mem hx with hx | rfl
    · exact hL x hx
    · exact hL s (find_some_at hs).1
  | full => exact hL
  | miss f p1 L1 _ _ _ _ ht =>
    intro x hx
    rcases slPut_mem hx with hx | rfl
    · exact hL x (ht.sub.subset hx)
    · rw [← hn]; exact ht.size.2 rfl
theorem GetRes.sole {ino page r0 : Int} {k : Nat} {d : Nat → Nat} {p p' : Pool} {L L' : List Slot} {clock clock' r : Int} {f : Nat} (h : GetRes ino page r0 k d p L clock r f p' L' clock') (hS : Sole L) : Sole L' := by
  cases h with
  | bad => exact hS
  | err => exact hS
  | hit s => exact slPut_sole hS _
  | full => exact hS
  | miss f p1 L1 _ _ _ _ ht => exact slPut_sole (hS.sublist ht.sub) _

end Go.Proofs.YtmkgdgfbdmjeeaaGreatDoor

namespace Go.Proofs.YtmkgdgfbdmjeeaaGreatDoor
open Go.RowKit Go.Maps Go.WideMaps Go.Sort
open Go.ChangeMaps (setBlock)
set_option linter.unusedSimpArgs false
set_option linter.unusedVariables false

/-- The pool when all but some of the slots are given up. -/
def dropTo (p : Pool) (L left : List Slot) : Pool := ⟨p.n, fun f => p.cnt f - (slotN L f - slotN left f), p.dat⟩
theorem dropTo_start (p : Pool) (L : List Slot) : dropTo p L L = p := by
  obtain ⟨n, c, d⟩ := p
  unfold dropTo
  congr 1
  funext f
  simp
theorem slotN_filter (L : List Slot) (q : Slot → Bool) (f : Nat) : slotN (L.filter q) f ≤ slotN L f := List.Sublist.countP_le List.filter_sublist
structure DropOk (p : Pool) (L left : List Slot) : Prop where
  sole : Sole left
  le : ∀ f, slotN left f ≤ slotN L f
  sub : ∀ s ∈ left, s ∈ L
theorem dropTo_step {p : Pool} {L left : List Slot} (h : DropOk p L left) (hc : ∀ s ∈ L, s.frame < p.n ∧ slotN L s.frame ≤ p.cnt s.frame) {s : Slot} (hs : s ∈ left) :
    s.frame < (dropTo p L left).n ∧ 1 ≤ (dropTo p L left).cnt s.frame ∧ (dropTo p L left).down s.frame = dropTo p L (left.filter fun x => !Slot.at s.ino s.page x) ∧ DropOk p L (left.filter fun x => !Slot.at s.ino s.page x) := by
  have hc1 := hc s (h.sub s hs)
  have h1 := slotN_pos hs
  have h2 := h.le s.frame
  refine ⟨hc1.1, ?_, ?_, h.sole.drop _, fun f => Nat.le_trans (slotN_filter _ _ f) (h.le f), fun x hx => h.sub x (List.mem_filter.1 hx).1⟩
  · show 1 ≤ p.cnt s.frame - (slotN L s.frame - slotN left s.frame)
    omega
  · unfold Pool.down dropTo
    simp only
    congr 1
    funext f
    have h3 := slotN_drop h.sole hs f
    have h4 := h.le f
    by_cases e : f = s.frame
    · subst e
      rw [upd_same]
      rw [if_pos rfl] at h3
      omega
    · rw [upd_ne _ _ e]
      rw [if_neg (fun e2 => e e2.symm)] at h3
      omega
theorem wpList_clear_slots {ops : Array Oper} {rest : List Oper} {o : Oper} {A : Act} {w : World} {Q : Exit → Act → World → Prop} (hg : o.guard = none) (x : Operand) (hop : o.op = Op.call { callee := Callee.builtin Builtin.clear, args := #[x], argTypes := #[133] })
    (m : Nat) (L : List Slot) (hx : A.eval x = .map (some m)) (h : SlotsAt w m L)
    (hK : ∀ w', SlotsAt w' m [] → Mod (fun j => j = m) w w' → w'.heap.size = w.heap.size → wpList Tryz.prog ops Q rest (A.put o.dst (.tuple #[])) w') :
    wpList Tryz.prog ops Q (o :: rest) A w := by
  refine wpList_plain hg fun K' hK' => ?_
  obtain ⟨es, clk, h1⟩ := h
  have hb := h1.block
  have hlt : m < w.heap.size := (Array.getElem?_eq_some_iff.1 hb).1
  have hrun : (Builtin.clear_ #[133] o.type #[.map (some m)]).run Tryz.prog w = .ok (.tuple #[]) (setBlock w m (.map #[] clk)) := by
    simp [Builtin.clear_, run_underlying Tryz.underlying133, MapKept.run_getObj_map hb, MapKept.run_setObj_map _ hb, Result.andThen, setBlock]
  unfold Oper.wp
  simp [execOp, hop, resolve, invoke, builtin, hx, hrun, Result.andThen]
  exact hK' _ _ (hK _ ⟨#[], clk, sb_same hlt, ⟨(fun x hx => by cases hx), List.nodup_nil, List.nodup_nil⟩, rfl, (fun s hs => by cases hs)⟩ setBlock_mod setBlock_size)

def DropPost (w : World) (S : Nat → Prop) (c a fs m : Nat) (clock : Int) (p : Pool) (L : List Slot) (e : Ending) (w' : World) : Prop := e = .returned (.tuple #[]) ∧ CacheAt w' S c a fs m clock (dropTo p L []) [] ∧ Mod (Both S m) w w'
set_option maxRecDepth 100000 in
set_option maxHeartbeats 4000000 in
theorem drop_any (c a fs m : Nat) (clock : Int) (w : World) (S : Nat → Prop) (p : Pool) (L : List Slot) (h : CacheAt w S c a fs m clock p L) (hcnt : ∀ s ∈ L, s.frame < p.n ∧ slotN L s.frame ≤ p.cnt s.frame) :
    Calls Tryz.prog 72 #[.pointer (some ⟨c, 0, none⟩)] w (DropPost w S c a fs m clock p L) := by
  obtain ⟨hcw, hmw, hcm, hm0⟩ := h.lts
  have hslow := h.pool.low
  have hSole := h.slots.sole
  have c2 : w.cell? ⟨c, 2, none⟩ = some (.map (some m)) := one_block h.self 2
  have hsl := h.slots
  have H := Lib.hid h
  have HSL := Lib.hid hsl
  have HCNT := Lib.hid hcnt
  clear h hsl hcnt
  go_enter Tryz.func72, Tryz.ntmps72
  go_wp2_with (first
    | (at_range; refine wpList_range_slots rfl _ rfl m L rfl HSL.out ?_; intro w1 hrg1 hb1 hs1; go_frame)
    | fail)
  have HC1 := Lib.hid (H.out.below hb1)
  have HB1 := Lib.hid hb1
  have HRG := Lib.hid hrg1
  clear hb1 hrg1
  go_loopw [] (fun wr => ∃ left, RangeIs wr m w.heap.size L left ∧ DropOk p L left ∧ CacheAt wr S c a fs m clock (dropTo p L left) L ∧ Mod (Both S m) w wr ∧ w.heap.size < wr.heap.size)
    (fun wr => leftN wr m w.heap.size)
  case atStart =>
    exact ⟨L, HRG.out, ⟨hSole, fun _ => Nat.le_refl _, fun _ h => h⟩, by rw [dropTo_start]; exact HC1.out, Mod.of HB1.out, by omega⟩
  case round =>
    obtain ⟨left, hrg, hok, hC, hm, hlt⟩ := hrel
    have HC := Lib.hid hC
    have HM := Lib.hid hm
    have HOK := Lib.hid hok
    clear hC hm hok
    go_wp2_with (first
      | (at_next; refine wpList_next_slots rfl _ rfl m w.heap.size L left rfl hrg ?_ ?_)
      | fail)
    · intro hl0
      subst hl0
      have d2 : wr.cell? ⟨c, 2, none⟩ = some (.map (some m)) := one_block HC.out.self 2
      have hsl2 := HC.out.slots
      go_wp2_with (first
        | (refine wpList_clear_slots rfl _ rfl m L rfl hsl2 ?_; intro w5 hsl5 hm5 hs5)
        | fail)
      go_end0
      have hC5 : CacheAt w5 S c a fs m clock (dropTo p L []) [] := ⟨HC.out.pool.mod hm5 (fun b hb e => H.out.noM (e ▸ hb)) (fun e => hm0 e.symm), (hm5.block c HC.out.lts.1 hcm).trans HC.out.self, hsl5, H.out.noC, H.out.noM⟩
      exact ⟨rfl, hC5, HM.out.trans (Out.refl _ _) (hm5.sub fun b hb => .inr hb)⟩
    · intro s w1 hs hrg1 hm1 hs1 hen
      have HRG1 := Lib.hid hrg1
      have HEN := Lib.hid hen
      have hrl := hrg.lt
      obtain ⟨hsn, hs1c, hdown, hok2⟩ := dropTo_step HOK.out HCNT.out hs
      have hleft : (left.filter fun x => !Slot.at s.ino s.page x).length < left.length := List.length_filter_lt_length_iff_exists.2 ⟨s, hs, by simp [Slot.at]⟩
      have hleftn := hrg.leftN
      have HDN := Lib.hid hdown
      have HOK2 := Lib.hid hok2
      have HLN := Lib.hid hleftn
      clear hrg1 hdown hok2 hrg hleftn
      go_upto_region 4 with (fail)
      obtain ⟨w2, hw2⟩ : ∃ w2, w2 = w1.alloc (.cells #[.int .i64 (s.frame : Int), .int .i64 s.asked] 139) := ⟨_, rfl⟩
      rw [← hw2]
      have hb2 : Below w1.heap.size w1 w2 := by rw [hw2]; exact (Below.refl _ _).alloc (Nat.le_refl _) _
      have hH2 : w2.heap[w1.heap.size]? = some (.cells #[.int .i64 (s.frame : Int), .int .i64 s.asked] 139 (0, 0)) := by rw [hw2]; exact heap_alloc_new _ _
      have hr0 : ¬ S w.heap.size := fun e => by have := hslow _ e; omega
      have hC1 := HC.out.mod hm1 (fun b hb e => hr0 (e ▸ hb)) (by omega) (by omega) (by omega)
      have hC2 := hC1.below hb2
      have e0 : w2.cell? ⟨c, 0, none⟩ = some (.pointer (some ⟨a, 0, none⟩)) := one_block hC2.self 0
      have e1 : w2.cell? ⟨wr.heap.size, 0, none⟩ = some (.int .i64 (s.frame : Int)) := by rw [← hs1]; exact one_block hH2 0
      have hz2 := hb2.size
      have hrg2 : RangeIs w2 m w.heap.size L (left.filter fun x => !Slot.at s.ino s.page x) := HRG1.out.same (hb2.block m (by omega)) (hb2.block _ (by omega))
      have hm02 : Mod (fun b => Both S m b ∨ b = w.heap.size) w w2 := (HM.out.sub fun b hb => .inl hb).trans (Out.refl _ _) ((hm1.sub fun b hb => .inr hb).trans (Out.refl _ _) (Mod.of hb2))
      have HM02 := Lib.hid hm02
      have HC2 := Lib.hid hC2
      have HRG2 := Lib.hid hrg2
      clear hw2 hH2 hC1 hC2 hrg2 hm02
      go_still_tail 6, (by kernel_rfl)
      go_wp2_with fail
      refine (down_yes a s.frame w2.drew S _ HC2.out.pool.drew hsn hs1c).mono ?_
      rintro e w4 ⟨rfl, hP4, hm4'⟩
      rw [HDN.out] at hP4
      have hm4 := hm4'.undrew
      have hz4 := hm4.size
      have hC4 := HC2.out.turn hm4 hP4 (Out.refl _ _)
      have hrg4 : RangeIs w4 m w.heap.size L (left.filter fun x => !Slot.at s.ino s.page x) := HRG2.out.same (hm4.block m (by omega) H.out.noM) (hm4.block _ (by omega) hr0)
      have hm04 := HM02.out.trans (Out.refl _ _) (hm4.sub fun b hb => .inl (.inl hb))
      have hmB : Mod (Both S m) w w4 := ⟨hm04.os, hm04.tape, hm04.output, hm04.size, fun b hb hn => hm04.block b hb (fun e => e.elim hn (by omega))⟩
      have HRG4 := Lib.hid hrg4
      have HC4 := Lib.hid hC4
      have HMB := Lib.hid hmB
      clear hrg4 hC4 hm04 hmB hP4 hm4' hm4 e0 e1
      go_wp2_with fail
      go_roundw
      case rel => exact ⟨_, HRG4.out, HOK2.out, HC4.out, HMB.out, by omega⟩
      case measure => rw [HRG4.out.leftN, HLN.out]; exact hleft

end Go.Proofs.YtmkgdgfbdmjeeaaGreatDoor
