/- Regions: a region's plain form; the small functions (part, Joins, may) of the program and of the references, each by its contract: whatever the arguments. -/
import Derived.Test.YtadmeeabbkpmlaaGreatDoorRows
import Derived.WalkKit
import Derived.WalkSpells
import Derived.WalkLawsBesides
import Derived.Lib.Hide
namespace Go.Proofs.YtadmeeabbkpmlaaGreatDoor
open Go.RowKit
set_option linter.unusedSimpArgs false
set_option linter.unusedVariables false

structure Reg where
  fr : Int
  to : Int
  prot : Int
  ino : Int
  off : Int
deriving DecidableEq

def w64 (x : Int) : Int := IntKind.u64.wrap x

def Rg.part (r : Reg) (f t : Int) : Reg := ⟨f, t, r.prot, r.ino, if r.ino = -1 then 0 else w64 (r.off + w64 (f - r.fr))⟩
def Rg.rpart (r : Reg) (f t : Int) : Reg := ⟨f, t, r.prot, r.ino, if r.ino = -1 then r.off else w64 (r.off + w64 (f - r.fr))⟩
def Rg.joins (a b : Reg) : Bool := decide (a.to = b.fr ∧ a.prot = b.prot ∧ a.ino = b.ino ∧ (a.ino = -1 ∨ b.off = w64 (a.off + w64 (a.to - a.fr))))

theorem w64_def (x : Int) : IntKind.u64.wrap x = w64 x := rfl

set_option maxHeartbeats 400000 in
theorem part_any (r : Reg) (f g : Int) (w : World) :
    Calls Tryz.prog 237 #[.agg #[.int .u64 r.fr, .int .u64 r.to, .int .u8 r.prot, .int .i64 r.ino, .int .u64 r.off], .int .u64 f, .int .u64 g] w
      fun e w' => e = .returned (.agg #[.int .u64 (Rg.part r f g).fr, .int .u64 (Rg.part r f g).to, .int .u8 (Rg.part r f g).prot, .int .i64 (Rg.part r f g).ino, .int .u64 (Rg.part r f g).off]) ∧ Below w.heap.size w w' := by
  go_enter Tryz.func237, Tryz.ntmps237
  go_wp2
  · rename_i h
    have h' : r.ino ≠ -1 := by simpa using h
    refine bodyPost_ret (v := .agg #[.int .u64 f, .int .u64 g, .int .u8 r.prot, .int .i64 r.ino, .int .u64 (w64 (r.off + w64 (f - r.fr)))]) (by simp [results, Tryz.results237, go_sem]; rfl) rfl ⟨by simp [Rg.part, h'], ?_⟩
    exact ((Below.refl _ _).alloc (Nat.le_refl _) _).alloc (by simp) _
  · rename_i h
    have h' : r.ino = -1 := by simpa using h
    refine bodyPost_ret (v := .agg #[.int .u64 f, .int .u64 g, .int .u8 r.prot, .int .i64 r.ino, .int .u64 0]) (by simp [results, Tryz.results237, go_sem]) rfl ⟨by simp [Rg.part, h'], ?_⟩
    exact ((Below.refl _ _).alloc (Nat.le_refl _) _).alloc (by simp) _

def regEq (r s : Reg) : Bool := decide (r = s)
theorem run_eql_reg (a b c d e a' b' c' d' e' : Int) (w : World) : (binOp .eql 179 (.agg #[.int .u64 a, .int .u64 b, .int .u8 c, .int .i64 d, .int .u64 e]) (.agg #[.int .u64 a', .int .u64 b', .int .u8 c', .int .i64 d', .int .u64 e'])).run Tryz.prog w = .ok (.bool (regEq ⟨a, b, c, d, e⟩ ⟨a', b', c', d', e'⟩)) w := by
  have h : regEq ⟨a, b, c, d, e⟩ ⟨a', b', c', d', e'⟩ = (a == a' && (b == b' && (c == c' && (d == d' && e == e')))) := by
    unfold regEq
    rw [Bool.eq_iff_iff]
    simp
  rw [h]
  go_simp
  by_cases h1 : a = a' <;> by_cases h2 : b = b' <;> by_cases h3 : c = c' <;> by_cases h4 : d = d' <;> by_cases h5 : e = e' <;> simp [h1, h2, h3, h4, h5]

theorem bcell {W w1 : World} (hb : Below W.heap.size W w1) : (∀ b o, b < W.heap.size → w1.cell? ⟨b, o, none⟩ = W.cell? ⟨b, o, none⟩) ∧ (∀ b o, b < W.heap.size → w1.frozen? ⟨b, o, none⟩ = W.frozen? ⟨b, o, none⟩) :=
  ⟨fun b o h => hb.cell (p := ⟨b, o, none⟩) h, fun b o h => hb.frozen (p := ⟨b, o, none⟩) h⟩

theorem joins_part (a b : Reg) (h : ¬ a.ino = -1) : decide (Rg.part a a.to b.to = b) = Rg.joins a b := by
  obtain ⟨a1, a2, a3, a4, a5⟩ := a
  obtain ⟨b1, b2, b3, b4, b5⟩ := b
  simp [Rg.part, Rg.joins] at *
  rw [Bool.eq_iff_iff]
  simp [h]
  intros
  exact eq_comm
theorem joins_anon (a b : Reg) (h : a.ino = -1) : decide (({ Rg.part a a.to b.to with off := b.off } : Reg) = b) = Rg.joins a b := by
  obtain ⟨a1, a2, a3, a4, a5⟩ := a
  obtain ⟨b1, b2, b3, b4, b5⟩ := b
  simp [Rg.part, Rg.joins] at *
  rw [Bool.eq_iff_iff]
  simp [h]

set_option maxHeartbeats 400000 in
theorem joins_any (r s : Reg) (w : World) :
    Calls Tryz.prog 176 #[.agg #[.int .u64 (r).fr, .int .u64 (r).to, .int .u8 (r).prot, .int .i64 (r).ino, .int .u64 (r).off], .agg #[.int .u64 (s).fr, .int .u64 (s).to, .int .u8 (s).prot, .int .i64 (s).ino, .int .u64 (s).off]] w
      fun e w' => e = .returned (.bool (Rg.joins r s)) ∧ Below w.heap.size w w' := by
  have he := run_eql_reg
  have e1 := joins_part r s
  have e2 := joins_anon r s
  have E1 := Lib.hid e1
  have E2 := Lib.hid e2
  clear e1 e2
  go_enter Tryz.func176, Tryz.ntmps176
  go_wp2_with (go_at_call 237; refine (part_any _ _ _ _).mono ?_; rintro e w1 ⟨rfl, hb⟩; obtain ⟨hc, hf⟩ := bcell hb; have hz := hb.size; simp at hz; have hz0 : w.heap.size < w1.heap.size := (by omega); have hz1 : w.heap.size + 1 < w1.heap.size := (by omega))
  · rename_i h
    go_ret
    refine ⟨?_, ?_⟩
    · rw [← E2.out (by simpa using h)]
      rfl
    · ((repeat' (with_reducible (first | assumption | (refine Below.alloc ?_ ?_ _) | (refine Below.setCell ?_ ?_ _) | (refine Below.drew ?_) | (refine below_drewN ?_ _) | exact Below.refl _ _ | (refine Below.trans ?_ (Below.mono (by assumption) ?_))))) <;> (try simp) <;> (try omega))
  · rename_i h
    go_ret
    refine ⟨?_, ?_⟩
    · rw [← E1.out (by simpa using h)]
      rfl
    · ((repeat' (with_reducible (first | assumption | (refine Below.alloc ?_ ?_ _) | (refine Below.setCell ?_ ?_ _) | (refine Below.drew ?_) | (refine below_drewN ?_ _) | exact Below.refl _ _ | (refine Below.trans ?_ (Below.mono (by assumption) ?_))))) <;> (try simp) <;> (try omega))

theorem ret_boolR {a b : Bool} (h : a = b) : Ending.returned (.bool a) = .returned (.bool b) := by rw [h]

/-- May a region be? -/
def Rg.one (r : Reg) : Bool := decide (r.fr < r.to ∧ r.to ≤ 140737488355328 ∧ r.fr % 4096 = 0 ∧ r.to % 4096 = 0 ∧ r.prot ≤ 7 ∧
  ((r.ino = -1 ∧ r.off = 0) ∨ (0 ≤ r.ino ∧ r.off % 4096 = 0 ∧ r.off + (r.to - r.fr) ≤ 281474976710656)))

/-- The fields are numbers of their kinds. -/
structure Reg.Ok (r : Reg) : Prop where
  fr0 : 0 ≤ r.fr
  fr1 : r.fr ≤ 18446744073709551615
  to0 : 0 ≤ r.to
  to1 : r.to ≤ 18446744073709551615
  prot0 : 0 ≤ r.prot
  prot1 : r.prot ≤ 255
  ino0 : -9223372036854775808 ≤ r.ino
  ino1 : r.ino ≤ 9223372036854775807
  off0 : 0 ≤ r.off
  off1 : r.off ≤ 18446744073709551615

set_option maxHeartbeats 400000 in
theorem may_any (r : Reg) (w : World) (hr : r.Ok) :
    Calls Tryz.prog 175 #[.agg #[.int .u64 (r).fr, .int .u64 (r).to, .int .u8 (r).prot, .int .i64 (r).ino, .int .u64 (r).off]] w
      fun e w' => e = .returned (.bool (Rg.one r)) ∧ Below w.heap.size w w' := by
  have h1 := hr.fr0
  have h2 := hr.to0
  have h3 := hr.off0
  have h4 := hr.prot0
  rcases Decidable.em (r.ino = -1) with hi | hi
  all_goals
    have hi1 := hi
    rw [← beq_iff_eq] at hi
    try rw [Bool.not_eq_true] at hi
    have HI := Lib.hid hi1
    clear hi1
    go_enter Tryz.func175, Tryz.ntmps175
    go_wp2_with fail
    all_goals
      go_ret
      refine ⟨ret_boolR ?_, ?_⟩
      · have hi2 := HI.out
        clear HI
        rw [Bool.eq_iff_iff]
        simp [Rg.one, w64, hi2, *]
        try omega
        done
      · ((repeat' (with_reducible (first | assumption | (refine Below.alloc ?_ ?_ _) | (refine Below.setCell ?_ ?_ _) | (refine Below.drew ?_) | (refine below_drewN ?_ _) | exact Below.refl _ _ | (refine Below.trans ?_ (Below.mono (by assumption) ?_))))) <;> (try simp) <;> (try omega))

end Go.Proofs.YtadmeeabbkpmlaaGreatDoor
