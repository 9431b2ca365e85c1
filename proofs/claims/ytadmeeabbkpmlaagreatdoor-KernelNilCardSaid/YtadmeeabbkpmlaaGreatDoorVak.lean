/- What maker.Make makes of the one description that the laws' works hand it: evaluated once. -/
import Derived.Test.YtadmeeabbkpmlaaGreatDoorVaj
set_option linter.unusedSimpArgs false
set_option linter.unusedVariables false
namespace Go.Ev
set_option maxRecDepth 100000
open Go.RowKit Go.Proofs Go.Proofs.YtadmeeabbkpmlaaGreatDoor
variable {R : Rho} {m : Mem} {w : World}

def b8 (n : Nat) : SV := .int .u8 (.ofNat n)
def rImg : Rp := (.cat 8193 (.cat 154 (.cat 68 (.cat 32 (.lit 16 [b8 127, b8 69, b8 76, b8 70, b8 2, b8 1, b8 1, b8 0, b8 0, b8 0, b8 0, b8 0, b8 0, b8 0, b8 0, b8 0]) (.lit 16 [b8 2, b8 0, b8 62, b8 0, b8 1, b8 0, b8 0, b8 0, b8 0, b8 0, b8 65, b8 0, b8 0, b8 0, b8 0, b8 0])) (.cat 36 (.lit 1 [b8 64]) (.cat 35 (.rep 19 (b8 0)) (.lit 16 [b8 64, b8 0, b8 56, b8 0, b8 4, b8 0, b8 64, b8 0, b8 0, b8 0, b8 0, b8 0, b8 6, b8 0, b8 0, b8 0])))) (.cat 86 (.cat 48 (.lit 16 [b8 4, b8 0, b8 0, b8 0, b8 64, b8 0, b8 0, b8 0, b8 0, b8 0, b8 0, b8 0, b8 64, b8 0, b8 64, b8 0]) (.cat 32 (.lit 16 [b8 0, b8 0, b8 0, b8 0, b8 64, b8 0, b8 64, b8 0, b8 0, b8 0, b8 0, b8 0, b8 224, b8 0, b8 0, b8 0]) (.lit 16 [b8 0, b8 0, b8 0, b8 0, b8 224, b8 0, b8 0, b8 0, b8 0, b8 0, b8 0, b8 0, b8 8, b8 0, b8 0, b8 0]))) (.cat 38 (.lit 9 [b8 0, b8 0, b8 0, b8 0, b8 1, b8 0, b8 0, b8 0, b8 4]) (.cat 29 (.rep 13 (b8 0)) (.lit 16 [b8 64, b8 0, b8 0, b8 0, b8 0, b8 0, b8 0, b8 0, b8 64, b8 0, b8 0, b8 0, b8 0, b8 0, b8 32, b8 1]))))) (.cat 8039 (.cat 96 (.cat 48 (.lit 16 [b8 0, b8 0, b8 0, b8 0, b8 0, b8 0, b8 32, b8 1, b8 0, b8 0, b8 0, b8 0, b8 0, b8 0, b8 0, b8 16]) (.cat 32 (.lit 16 [b8 0, b8 0, b8 0, b8 0, b8 0, b8 0, b8 1, b8 0, b8 0, b8 0, b8 5, b8 0, b8 0, b8 0, b8 0, b8 16]) (.lit 16 [b8 0, b8 0, b8 0, b8 0, b8 0, b8 0, b8 0, b8 0, b8 65, b8 0, b8 0, b8 0, b8 0, b8 0, b8 0, b8 0]))) (.cat 48 (.lit 16 [b8 65, b8 0, b8 0, b8 0, b8 0, b8 0, b8 2, b8 0, b8 0, b8 0, b8 0, b8 0, b8 0, b8 0, b8 2, b8 0]) (.cat 32 (.lit 16 [b8 0, b8 0, b8 0, b8 0, b8 0, b8 0, b8 0, b8 16, b8 0, b8 0, b8 0, b8 0, b8 0, b8 0, b8 1, b8 0]) (.lit 16 [b8 0, b8 0, b8 6, b8 0, b8 0, b8 0, b8 0, b8 32, b8 0, b8 0, b8 0, b8 0, b8 0, b8 0, b8 0, b8 0])))) (.cat 7943 (.cat 3846 (.lit 16 [b8 66, b8 0, b8 0, b8 0, b8 0, b8 0, b8 0, b8 0, b8 66, b8 0, b8 0, b8 0, b8 0, b8 0, b8 1, b8 0]) (.cat 3830 (.lit 16 [b8 0, b8 0, b8 0, b8 0, b8 0, b8 0, b8 6, b8 0, b8 0, b8 0, b8 0, b8 0, b8 0, b8 0, b8 0, b8 16]) (.rep 3814 (b8 0)))) (.cat 4097 (.lit 2 [b8 1, b8 2]) (.cat 4095 (.rep 4094 (b8 0)) (.lit 1 [b8 3]))))))
noncomputable def listSame (l : List SV) : List SV → Bool := List.rec (motive := fun _ => List SV → Bool) (fun k => List.rec (motive := fun _ => Bool) true (fun _ _ _ => false) k) (fun a _ ih k => List.rec (motive := fun _ => Bool) false (fun b k _ => cond (repEqR a b) (ih k) false) k) l
theorem listSame_eq : ∀ (l k : List SV), listSame l k = true → l = k
  | [], [], _ => rfl
  | [], _ :: _, h => by cases h
  | _ :: _, [], h => by cases h
  | a :: l, b :: k, h => by
    have h : cond (repEqR a b) (listSame l k) false = true := h
    cases hr : repEqR a b with
    | false => rw [hr] at h; cases h
    | true =>
      rw [hr] at h
      rw [repEqR_eq] at hr
      rw [repEq_eq hr, listSame_eq l k h]
/-- Numbers alone. -/
noncomputable def isNum (v : SV) : Bool := OI.rec (motive := fun _ => Bool) false (fun _ _ => true) (asInt v)
theorem isNum_den {v : SV} (h : isNum v = true) (R R' : Rho) : den R' v = den R v ∧ ∀ N, v.bel N := by
  cases v <;> first
    | (cases h; done)
    | skip
  exact ⟨by simp [den], fun N => trivial⟩
/-- A block that is a row of such numbers, not open, or open. -/
noncomputable def rowIs (b : OB) (l : List SV) (opn : Bool) : Bool := OC.rec (motive := fun _ => Bool) false (fun r el o s => cond (Nat.beq el 5) (cond s false (cond (cond o opn (!opn)) (listSame r.toList l) false)) false) (asCells b)
theorem rowIs_spec {b : OB} {l : List SV} {opn : Bool} (h : rowIs b l opn = true) : ∃ r, b = .yes (.cells r 5 opn false) ∧ r.toList = l := by
  cases b with
  | no => cases h
  | yes b =>
    cases b with
    | cells r el o s =>
      have h : cond (Nat.beq el 5) (cond s false (cond (cond o opn (!opn)) (listSame r.toList l) false)) false = true := h
      cases h1 : Nat.beq el 5 with
      | false => rw [h1] at h; cases h
      | true =>
        rw [h1] at h
        cases s with
        | true => cases h
        | false =>
          have h : cond (cond o opn (!opn)) (listSame r.toList l) false = true := h
          have h2 : el = 5 := Nat.eq_of_beq_eq_true h1
          subst h2
          cases o <;> cases opn <;> first
            | (cases h; done)
            | exact ⟨r, rfl, listSame_eq _ _ h⟩
    | _ => cases h

def argOf (a b : Nat) : SV := .agg (.cons (.int .u16 2) (.cons (.int .u64 4259840) (.cons (.str []) (.cons (.sl a 0 2 2) (.cons (.sl b 0 1 1) (.cons (.int .u64 5) (.cons (.bool false) (.cons (.tag .nils) (.cons (.str []) (.cons (.str []) (.cons (.tag .nils) (.cons (.tag .nils) (.cons (.int .i64 0) (.tag .nil))))))))))))))
def l2 : List SV := [b8 1, b8 2]
def l1 : List SV := [b8 3]
noncomputable def mc : Mem := ⟨6, tset (.yes (.cells (.lit 2 l2) 5 false false)) 4 (tset (.yes (.cells (.lit 1 l1) 5 false false)) 5 tnil)⟩
noncomputable def mkOut : Option (AEnd × Mem) := (evC Tryz.prog sumA 100000).call 24 [argOf 4 5] mc
noncomputable def mkIs (x : Option (AEnd × Mem)) : Bool := match x with
  | some (.ret (.tup (.cons (.slo q 0 8193 0) (.cons (.int .i64 (.ofNat 0)) (.tag .nil)))), m) => rowIs (m.getR 4) l2 false && rowIs (m.getR 5) l1 false && rowIs (m.getR q) rImg.toList true
  | _ => false
/-- **maker.Make, evaluated.** -/
theorem mk_eval : mkIs mkOut = true := by kernel_rfl
end Go.Ev
