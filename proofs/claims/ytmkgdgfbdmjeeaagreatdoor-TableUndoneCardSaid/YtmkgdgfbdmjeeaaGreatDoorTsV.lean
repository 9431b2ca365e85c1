/- How many leaves a table tells. Plain. -/
import Derived.Test.YtmkgdgfbdmjeeaaGreatDoorCaE
namespace Go.Proofs.YtmkgdgfbdmjeeaaGreatDoor
set_option linter.unusedSimpArgs false
set_option linter.unusedVariables false

def leafB (t : Tab) (pg : Nat) : Bool := (t.lf pg).isSome
theorem leafB_none {t : Tab} {pg : Nat} (h : t.lf pg = none) : leafB t pg = false := by unfold leafB; rw [h]; rfl
theorem Tab.Ok.leaf_len {p : Pool} {t : Tab} (h : t.Ok p) (lv : Nat) : ∀ q, lv ≤ 4 → ((t.evs lv q).flatMap Ev.ls).length = cntTo (fun i => leafB t (q * 512 ^ lv + i)) (512 ^ lv) := by
  induction lv with
  | zero =>
    intro q _
    simp only [Nat.pow_zero, Nat.mul_one, cntTo, Nat.add_zero, Nat.zero_add]
    cases hl : t.lf q with
    | none => simp [Tab.evs_noleaf hl, leafB, hl]
    | some l => simp [Tab.evs_leaf hl, leafB, hl, Ev.ls]
  | succ lv ih =>
    intro q hlv
    cases hn : t.nd (lv + 1) q with
    | none =>
      rw [Tab.evs_none hn]
      symm
      refine cntTo_zero.2 fun i hi => leafB_none (h.noLeaf (lv := lv + 1) (by omega) hlv ?_)
      have : part (q * 512 ^ (lv + 1) + i) (lv + 1) = q := by
        unfold part
        rw [Nat.mul_comm, Nat.mul_add_div (Nat.pos_of_ne_zero (by simp)), Nat.div_eq_of_lt hi, Nat.add_zero]
      rw [this]
      exact hn
    | some g =>
      rw [Tab.evs_node hn, List.flatMap_cons]
      have : ∀ k, ((t.upto lv q k).flatMap Ev.ls).length = cntTo (fun i => leafB t (q * 512 ^ (lv + 1) + i)) (k * 512 ^ lv) := by
        intro k
        induction k with
        | zero => rw [Tab.upto_zero, Nat.zero_mul]; rfl
        | succ k ih' =>
          rw [Tab.upto_succ, List.flatMap_append, List.length_append, ih', ih _ (by omega), Nat.succ_mul, cntTo_add]
          congr 1
          refine cntTo_congr fun i hi => ?_
          congr 1
          rw [Nat.pow_succ, Nat.add_mul, Nat.mul_assoc, Nat.mul_comm 512 (512 ^ lv), ← Nat.mul_assoc]
          omega
      rw [List.length_append, this 512, Nat.pow_succ, Nat.mul_comm (512 ^ lv) 512]
      simp [Ev.ls]
theorem Tab.Ok.leaves_len {p : Pool} {t : Tab} (h : t.Ok p) : ((t.evs 4 0).flatMap Ev.ls).length = cntTo (leafB t) pagesN := by
  rw [h.leaf_len 4 0 (by omega)]
  refine cntTo_congr fun i _ => ?_
  congr 1
  omega
/-- One leaf more. -/
theorem leaves_more {p p' : Pool} {t t' : Tab} (h : t.Ok p) (h' : t'.Ok p') {pg : Nat} {l : Leaf} (hpg : pg < pagesN) (hno : t.lf pg = none) (hlf : t'.lf = upd t.lf pg (some l)) : ((t'.evs 4 0).flatMap Ev.ls).length = ((t.evs 4 0).flatMap Ev.ls).length + 1 := by
  rw [h.leaves_len, h'.leaves_len]
  have h1 := cntTo_upd (q := leafB t) (r := leafB t') hpg fun j hj => by unfold leafB; rw [hlf, upd_ne _ _ hj]
  rw [if_neg (by rw [leafB_none hno]; decide), if_pos (by unfold leafB; rw [hlf, upd_same]; rfl)] at h1
  omega

end Go.Proofs.YtmkgdgfbdmjeeaaGreatDoor
