/- An evaluator for closed calls: octal tries, values with names for blocks, ropes of cells. The evaluator's memory, and how it tells the model's. The evaluator's memory: its steps, and the model's. The evaluator: its operations. -/
import Derived.RangeFuncLeaves
import Derived.RecoverIn
import Derived.OrdersIn
import Derived.Below
set_option linter.unusedSimpArgs false
set_option linter.unusedVariables false
namespace Go.Ev

inductive Oc | a0 | a1 | a2 | a3 | a4 | a5 | a6 | a7
  deriving DecidableEq

def oc : Nat → Oc
  | 0 => .a0 | 1 => .a1 | 2 => .a2 | 3 => .a3 | 4 => .a4 | 5 => .a5 | 6 => .a6 | _ => .a7

theorem oc_inj {a b : Nat} (ha : a < 8) (hb : b < 8) (h : oc a = oc b) : a = b := by
  match a, b, ha, hb with
  | 0, 0, _, _ | 1, 1, _, _ | 2, 2, _, _ | 3, 3, _, _ | 4, 4, _, _ | 5, 5, _, _ | 6, 6, _, _ | 7, 7, _, _ => rfl
  | 0, 1, _, _ | 0, 2, _, _ | 0, 3, _, _ | 0, 4, _, _ | 0, 5, _, _ | 0, 6, _, _ | 0, 7, _, _ => cases h
  | 1, 0, _, _ | 1, 2, _, _ | 1, 3, _, _ | 1, 4, _, _ | 1, 5, _, _ | 1, 6, _, _ | 1, 7, _, _ => cases h
  | 2, 0, _, _ | 2, 1, _, _ | 2, 3, _, _ | 2, 4, _, _ | 2, 5, _, _ | 2, 6, _, _ | 2, 7, _, _ => cases h
  | 3, 0, _, _ | 3, 1, _, _ | 3, 2, _, _ | 3, 4, _, _ | 3, 5, _, _ | 3, 6, _, _ | 3, 7, _, _ => cases h
  | 4, 0, _, _ | 4, 1, _, _ | 4, 2, _, _ | 4, 3, _, _ | 4, 5, _, _ | 4, 6, _, _ | 4, 7, _, _ => cases h
  | 5, 0, _, _ | 5, 1, _, _ | 5, 2, _, _ | 5, 3, _, _ | 5, 4, _, _ | 5, 6, _, _ | 5, 7, _, _ => cases h
  | 6, 0, _, _ | 6, 1, _, _ | 6, 2, _, _ | 6, 3, _, _ | 6, 4, _, _ | 6, 5, _, _ | 6, 7, _, _ => cases h
  | 7, 0, _, _ | 7, 1, _, _ | 7, 2, _, _ | 7, 3, _, _ | 7, 4, _, _ | 7, 5, _, _ | 7, 6, _, _ => cases h

/-- What has no parts. -/
inductive Tg
  | nilp | nils | nilm | nilf | nili
  | nil
  | mapp (nm : Nat)
  | yld (nm : Nat)

inductive SV
  | int (k : IntKind) (n : Int)
  | bool (b : Bool)
  | ptr (nm off : Nat)
  | sl (nm off len cap : Nat)
  | slo (nm off len e : Nat)
  | sle (nm off l d e : Nat)
  | str (s : List UInt8)
  | agg (l : SV)
  | tup (l : SV)
  | ifc (t : TypeId) (v : SV)
  | fn (f : FuncId) (fst cap : SV)
  | mth (name : String) (t : TypeId) (v : SV)
  | via (t : TypeId) (path : List FieldStep) (f : FuncId) (p : Bool) (x : SV)
  | cons (a l : SV)
  | tag (t : Tg)

def SV.und : SV := .tup (.tag .nil)
instance : Inhabited SV := ⟨.und⟩

def SV.toL : SV → List SV
  | .cons a l => a :: l.toL
  | _ => []
def SV.ofL : List SV → SV
  | [] => .tag .nil
  | a :: l => .cons a (SV.ofL l)
theorem SV.toL_ofL (l : List SV) : (SV.ofL l).toL = l := by
  induction l with
  | nil => rfl
  | cons a l ih => simp [SV.ofL, SV.toL, ih]

/-- The block that a name stands for; how many elements an open row's block has. -/
structure Rho where
  b : Nat → Nat
  k : Nat → Nat

mutual
def den (R : Rho) : SV → Value
  | .int k n => .int k n
  | .bool b => .bool b
  | .ptr nm off => .pointer (some ⟨R.b nm, off, none⟩)
  | .sl nm off len cap => .slice (some ⟨R.b nm, off, none⟩) len cap
  | .slo nm off len e => .slice (some ⟨R.b nm, off, none⟩) len (R.k nm - e)
  | .sle nm off l d e => .slice (some ⟨R.b nm, if R.k nm - e = l then off else off + d, none⟩) 0 (R.k nm - e - l)
  | .str s => .string ⟨s.toArray⟩
  | .agg l => .agg (denL R l).toArray
  | .tup l => .tuple (denL R l).toArray
  | .ifc t v => .iface t (den R v)
  | .fn f a c => .func (.func f) (denL R a).toArray (denL R c).toArray
  | .mth name t v => .func (.method name) #[.iface t (den R v)] #[]
  | .via t path f p x => .func (.via t path.toArray f p) #[den R x] #[]
  | .cons _ _ => undef
  | .tag t => match t with
    | .nilp => .pointer none
    | .nils => .slice none 0 0
    | .nilm => .map none
    | .nilf => .nilFunc
    | .nili => .nilIface
    | .nil => undef
    | .mapp nm => .map (some (R.b nm))
    | .yld nm => .func (.yield (R.b nm)) #[] #[]
def denL (R : Rho) : SV → List Value
  | .cons a l => den R a :: denL R l
  | _ => []
end

theorem denL_toL (R : Rho) : (l : SV) → denL R l = l.toL.map (den R)
  | .cons a l => by simp [denL, SV.toL, denL_toL R l]
  | .int .. | .bool _ | .ptr .. | .sl .. | .slo .. | .sle .. | .str _ | .agg _ | .tup _ | .ifc .. | .fn .. | .mth .. | .via .. | .tag _ => by simp [denL, SV.toL]
theorem denL_ofL (R : Rho) (l : List SV) : denL R (SV.ofL l) = l.map (den R) := by rw [denL_toL, SV.toL_ofL]
theorem den_und (R : Rho) : den R .und = undef := by simp [SV.und, den, denL, undef]

/-- The names that a value bears are below a bound. -/
def SV.bel (N : Nat) : SV → Prop
  | .ptr nm _ | .sl nm _ _ _ | .slo nm _ _ _ | .sle nm _ _ _ _ => nm < N
  | .agg l | .tup l => l.bel N
  | .ifc _ v | .mth _ _ v | .via _ _ _ _ v => v.bel N
  | .fn _ a c => a.bel N ∧ c.bel N
  | .cons a l => a.bel N ∧ l.bel N
  | .tag t => match t with
    | .mapp nm | .yld nm => nm < N
    | _ => True
  | .int .. | .bool _ | .str _ => True
def Rho.ext (R R' : Rho) (N : Nat) : Prop := ∀ n, n < N → R'.b n = R.b n ∧ R'.k n = R.k n

/-! ### Tries -/
inductive E1 | mk (c0 c1 c2 c3 c4 c5 c6 c7 : SV)
noncomputable def E1.sel (d : Oc) : SV → SV → SV → SV → SV → SV → SV → SV → SV := Oc.rec (motive := fun _ => SV → SV → SV → SV → SV → SV → SV → SV → SV) (fun c0 _ _ _ _ _ _ _ => c0) (fun _ c1 _ _ _ _ _ _ => c1) (fun _ _ c2 _ _ _ _ _ => c2) (fun _ _ _ c3 _ _ _ _ => c3) (fun _ _ _ _ c4 _ _ _ => c4) (fun _ _ _ _ _ c5 _ _ => c5) (fun _ _ _ _ _ _ c6 _ => c6) (fun _ _ _ _ _ _ _ c7 => c7) d
noncomputable def E1.kid (d : Oc) : (SV → SV) → SV → SV → SV → SV → SV → SV → SV → SV → E1 := Oc.rec (motive := fun _ => (SV → SV) → SV → SV → SV → SV → SV → SV → SV → SV → E1) (fun f c0 c1 c2 c3 c4 c5 c6 c7 => .mk (f c0) c1 c2 c3 c4 c5 c6 c7) (fun f c0 c1 c2 c3 c4 c5 c6 c7 => .mk c0 (f c1) c2 c3 c4 c5 c6 c7) (fun f c0 c1 c2 c3 c4 c5 c6 c7 => .mk c0 c1 (f c2) c3 c4 c5 c6 c7) (fun f c0 c1 c2 c3 c4 c5 c6 c7 => .mk c0 c1 c2 (f c3) c4 c5 c6 c7) (fun f c0 c1 c2 c3 c4 c5 c6 c7 => .mk c0 c1 c2 c3 (f c4) c5 c6 c7) (fun f c0 c1 c2 c3 c4 c5 c6 c7 => .mk c0 c1 c2 c3 c4 (f c5) c6 c7) (fun f c0 c1 c2 c3 c4 c5 c6 c7 => .mk c0 c1 c2 c3 c4 c5 (f c6) c7) (fun f c0 c1 c2 c3 c4 c5 c6 c7 => .mk c0 c1 c2 c3 c4 c5 c6 (f c7)) d
noncomputable def E1.get (d : Oc) (x : E1) : SV := E1.rec (motive := fun _ => SV) (E1.sel d) x
noncomputable def E1.put (d : Oc) (f : SV → SV) (x : E1) : E1 := E1.rec (motive := fun _ => E1) (E1.kid d f) x
theorem E1.get_put (d e : Oc) (f : SV → SV) (x : E1) : E1.get e (E1.put d f x) = if d = e then f (E1.get e x) else E1.get e x := by
  obtain ⟨c0, c1, c2, c3, c4, c5, c6, c7⟩ := x; cases d <;> cases e <;> rfl
def E1.all (a : SV) : E1 := .mk a a a a a a a a
theorem E1.get_all (d : Oc) (a : SV) : E1.get d (E1.all a) = a := by cases d <;> rfl
inductive E2 | mk (c0 c1 c2 c3 c4 c5 c6 c7 : E1)
noncomputable def E2.sel (d : Oc) : E1 → E1 → E1 → E1 → E1 → E1 → E1 → E1 → E1 := Oc.rec (motive := fun _ => E1 → E1 → E1 → E1 → E1 → E1 → E1 → E1 → E1) (fun c0 _ _ _ _ _ _ _ => c0) (fun _ c1 _ _ _ _ _ _ => c1) (fun _ _ c2 _ _ _ _ _ => c2) (fun _ _ _ c3 _ _ _ _ => c3) (fun _ _ _ _ c4 _ _ _ => c4) (fun _ _ _ _ _ c5 _ _ => c5) (fun _ _ _ _ _ _ c6 _ => c6) (fun _ _ _ _ _ _ _ c7 => c7) d
noncomputable def E2.kid (d : Oc) : (E1 → E1) → E1 → E1 → E1 → E1 → E1 → E1 → E1 → E1 → E2 := Oc.rec (motive := fun _ => (E1 → E1) → E1 → E1 → E1 → E1 → E1 → E1 → E1 → E1 → E2) (fun f c0 c1 c2 c3 c4 c5 c6 c7 => .mk (f c0) c1 c2 c3 c4 c5 c6 c7) (fun f c0 c1 c2 c3 c4 c5 c6 c7 => .mk c0 (f c1) c2 c3 c4 c5 c6 c7) (fun f c0 c1 c2 c3 c4 c5 c6 c7 => .mk c0 c1 (f c2) c3 c4 c5 c6 c7) (fun f c0 c1 c2 c3 c4 c5 c6 c7 => .mk c0 c1 c2 (f c3) c4 c5 c6 c7) (fun f c0 c1 c2 c3 c4 c5 c6 c7 => .mk c0 c1 c2 c3 (f c4) c5 c6 c7) (fun f c0 c1 c2 c3 c4 c5 c6 c7 => .mk c0 c1 c2 c3 c4 (f c5) c6 c7) (fun f c0 c1 c2 c3 c4 c5 c6 c7 => .mk c0 c1 c2 c3 c4 c5 (f c6) c7) (fun f c0 c1 c2 c3 c4 c5 c6 c7 => .mk c0 c1 c2 c3 c4 c5 c6 (f c7)) d
noncomputable def E2.get (d : Oc) (x : E2) : E1 := E2.rec (motive := fun _ => E1) (E2.sel d) x
noncomputable def E2.put (d : Oc) (f : E1 → E1) (x : E2) : E2 := E2.rec (motive := fun _ => E2) (E2.kid d f) x
theorem E2.get_put (d e : Oc) (f : E1 → E1) (x : E2) : E2.get e (E2.put d f x) = if d = e then f (E2.get e x) else E2.get e x := by
  obtain ⟨c0, c1, c2, c3, c4, c5, c6, c7⟩ := x; cases d <;> cases e <;> rfl
def E2.all (a : E1) : E2 := .mk a a a a a a a a
theorem E2.get_all (d : Oc) (a : E1) : E2.get d (E2.all a) = a := by cases d <;> rfl
inductive E3 | mk (c0 c1 c2 c3 c4 c5 c6 c7 : E2)
noncomputable def E3.sel (d : Oc) : E2 → E2 → E2 → E2 → E2 → E2 → E2 → E2 → E2 := Oc.rec (motive := fun _ => E2 → E2 → E2 → E2 → E2 → E2 → E2 → E2 → E2) (fun c0 _ _ _ _ _ _ _ => c0) (fun _ c1 _ _ _ _ _ _ => c1) (fun _ _ c2 _ _ _ _ _ => c2) (fun _ _ _ c3 _ _ _ _ => c3) (fun _ _ _ _ c4 _ _ _ => c4) (fun _ _ _ _ _ c5 _ _ => c5) (fun _ _ _ _ _ _ c6 _ => c6) (fun _ _ _ _ _ _ _ c7 => c7) d
noncomputable def E3.kid (d : Oc) : (E2 → E2) → E2 → E2 → E2 → E2 → E2 → E2 → E2 → E2 → E3 := Oc.rec (motive := fun _ => (E2 → E2) → E2 → E2 → E2 → E2 → E2 → E2 → E2 → E2 → E3) (fun f c0 c1 c2 c3 c4 c5 c6 c7 => .mk (f c0) c1 c2 c3 c4 c5 c6 c7) (fun f c0 c1 c2 c3 c4 c5 c6 c7 => .mk c0 (f c1) c2 c3 c4 c5 c6 c7) (fun f c0 c1 c2 c3 c4 c5 c6 c7 => .mk c0 c1 (f c2) c3 c4 c5 c6 c7) (fun f c0 c1 c2 c3 c4 c5 c6 c7 => .mk c0 c1 c2 (f c3) c4 c5 c6 c7) (fun f c0 c1 c2 c3 c4 c5 c6 c7 => .mk c0 c1 c2 c3 (f c4) c5 c6 c7) (fun f c0 c1 c2 c3 c4 c5 c6 c7 => .mk c0 c1 c2 c3 c4 (f c5) c6 c7) (fun f c0 c1 c2 c3 c4 c5 c6 c7 => .mk c0 c1 c2 c3 c4 c5 (f c6) c7) (fun f c0 c1 c2 c3 c4 c5 c6 c7 => .mk c0 c1 c2 c3 c4 c5 c6 (f c7)) d
noncomputable def E3.get (d : Oc) (x : E3) : E2 := E3.rec (motive := fun _ => E2) (E3.sel d) x
noncomputable def E3.put (d : Oc) (f : E2 → E2) (x : E3) : E3 := E3.rec (motive := fun _ => E3) (E3.kid d f) x
theorem E3.get_put (d e : Oc) (f : E2 → E2) (x : E3) : E3.get e (E3.put d f x) = if d = e then f (E3.get e x) else E3.get e x := by
  obtain ⟨c0, c1, c2, c3, c4, c5, c6, c7⟩ := x; cases d <;> cases e <;> rfl
def E3.all (a : E2) : E3 := .mk a a a a a a a a
theorem E3.get_all (d : Oc) (a : E2) : E3.get d (E3.all a) = a := by cases d <;> rfl

structure K3 where
  (a b c : Oc)
def dig3 (n : Nat) : K3 := ⟨oc (n / 64 % 8), oc (n / 8 % 8), oc (n % 8)⟩
abbrev Env := E3
noncomputable def Env.get (e : Env) (t : Nat) : SV := E1.get (dig3 t).c (E2.get (dig3 t).b (E3.get (dig3 t).a e))
noncomputable def Env.set (e : Env) (t : Nat) (v : SV) : Env := E3.put (dig3 t).a (E2.put (dig3 t).b (E1.put (dig3 t).c fun _ => v)) e
def Env.none : Env := E3.all (E2.all (E1.all .und))

theorem dig3_inj {t u : Nat} (ht : t < 512) (hu : u < 512) : dig3 t = dig3 u → t = u := by
  intro h
  simp only [dig3, K3.mk.injEq] at h
  have h1 := oc_inj (Nat.mod_lt _ (by decide)) (Nat.mod_lt _ (by decide)) h.1
  have h2 := oc_inj (Nat.mod_lt _ (by decide)) (Nat.mod_lt _ (by decide)) h.2.1
  have h3 := oc_inj (Nat.mod_lt _ (by decide)) (Nat.mod_lt _ (by decide)) h.2.2
  omega
theorem Env.get_set (e : Env) {t u : Nat} (v : SV) (ht : t < 512) (hu : u < 512) : Env.get (Env.set e t v) u = if t = u then v else Env.get e u := by
  unfold Env.get Env.set
  rw [E3.get_put]
  by_cases h1 : (dig3 t).a = (dig3 u).a
  · rw [if_pos h1, E2.get_put]
    by_cases h2 : (dig3 t).b = (dig3 u).b
    · rw [if_pos h2, E1.get_put]
      by_cases h3 : (dig3 t).c = (dig3 u).c
      · rw [if_pos h3, if_pos]
        refine dig3_inj ht hu ?_
        cases hd : dig3 t; cases hd2 : dig3 u
        simp_all
      · rw [if_neg h3, if_neg (fun e => h3 (by rw [e]))]
    · rw [if_neg h2, if_neg (fun e => h2 (by rw [e]))]
  · rw [if_neg h1, if_neg (fun e => h1 (by rw [e]))]
theorem Env.get_none (t : Nat) : Env.get Env.none t = .und := by
  simp only [Env.get, Env.none, E3.get_all, E2.get_all, E1.get_all]

theorem blt_t {a b : Nat} (h : a < b) : Nat.blt a b = true := by simpa using h
theorem blt_f {a b : Nat} (h : ¬ a < b) : Nat.blt a b = false := by
  cases e : Nat.blt a b with
  | false => rfl
  | true => exact absurd (by simpa using e) h
theorem ble_t {a b : Nat} (h : a ≤ b) : Nat.ble a b = true := by simpa using h
theorem ble_f {a b : Nat} (h : ¬ a ≤ b) : Nat.ble a b = false := by
  cases e : Nat.ble a b with
  | false => rfl
  | true => exact absurd (by simpa using e) h

/-! ### Ropes of cells -/
inductive Rp
  | lit (n : Nat) (l : List SV)
  | rep (n : Nat) (v : SV)
  | cat (n : Nat) (a b : Rp)
instance : Inhabited Rp := ⟨.lit 0 []⟩

def Rp.size : Rp → Nat
  | .lit n _ => n
  | .rep n _ => n
  | .cat n _ _ => n

def nth {α : Type} : List α → Nat → Option α
  | [] => fun _ => none
  | a :: l => fun i => match i with
    | 0 => some a
    | i + 1 => nth l i
theorem nth_eq {α : Type} (l : List α) (i : Nat) : nth l i = l[i]? := by
  induction l generalizing i with
  | nil => simp [nth]
  | cons a l ih => cases i <;> simp [nth, ih]

def setL {α : Type} (v : α) : List α → Nat → List α
  | [] => fun _ => []
  | a :: l => fun i => match i with
    | 0 => v :: l
    | i + 1 => a :: setL v l i
theorem setL_eq {α : Type} (v : α) (l : List α) (i : Nat) : setL v l i = l.set i v := by
  induction l generalizing i with
  | nil => simp [setL]
  | cons a l ih => cases i <;> simp [setL, ih]

def Rp.cat' (a b : Rp) : Rp := match a.size with
  | 0 => b
  | n + 1 => match b.size with
    | 0 => a
    | m + 1 => .cat (n + 1 + (m + 1)) a b

def Rp.get : Rp → Nat → Option SV
  | .lit _ l => fun i => nth l i
  | .rep n v => fun i => cond (Nat.blt i n) (some v) none
  | .cat _ a b => fun i => cond (Nat.blt i a.size) (a.get i) (b.get (i - a.size))

def Rp.set (v : SV) : Rp → Nat → Rp
  | .lit n l => fun i => .lit n (setL v l i)
  | .rep n x => fun i => Rp.cat' (.rep i x) (Rp.cat' (.lit 1 [v]) (.rep (n - i - 1) x))
  | .cat n a b => fun i => cond (Nat.blt i a.size) (.cat n (a.set v i) b) (.cat n a (b.set v (i - a.size)))

def Rp.sub : Rp → Nat → Nat → Rp
  | .lit _ l => fun o n => .lit n ((l.drop o).take n)
  | .rep _ v => fun _ n => .rep n v
  | .cat _ a b => fun o n =>
    cond (Nat.ble (o + n) a.size) (a.sub o n)
      (cond (Nat.ble a.size o) (b.sub (o - a.size) n) (Rp.cat' (a.sub o (a.size - o)) (b.sub 0 (n - (a.size - o)))))

def Rp.put (r : Rp) (o : Nat) (s : Rp) : Rp :=
  Rp.cat' (r.sub 0 o) (Rp.cat' s (r.sub (o + s.size) (r.size - (o + s.size))))

def Rp.toList : Rp → List SV
  | .lit _ l => l
  | .rep n v => List.replicate n v
  | .cat _ a b => a.toList ++ b.toList

def Rp.ok : Rp → Prop
  | .lit n l => l.length = n
  | .rep _ _ => True
  | .cat n a b => n = a.size + b.size ∧ a.ok ∧ b.ok

theorem Rp.length {r : Rp} (h : r.ok) : r.toList.length = r.size := by
  induction r with
  | lit n l => exact h
  | rep n v => simp [Rp.toList, Rp.size]
  | cat n a b iha ihb =>
    obtain ⟨h1, h2, h3⟩ := h
    simp only [Rp.toList, List.length_append, iha h2, ihb h3, Rp.size, h1]

theorem Rp.cat'_ok {a b : Rp} (ha : a.ok) (hb : b.ok) : (Rp.cat' a b).ok ∧ (Rp.cat' a b).toList = a.toList ++ b.toList ∧ (Rp.cat' a b).size = a.size + b.size := by
  have la := Rp.length ha
  have lb := Rp.length hb
  unfold Rp.cat'
  cases hsa : a.size with
  | zero =>
    rw [hsa] at la
    have : a.toList = [] := List.eq_nil_of_length_eq_zero la
    exact ⟨hb, by rw [this]; rfl, by simp⟩
  | succ n =>
    cases hsb : b.size with
    | zero =>
      rw [hsb] at lb
      have : b.toList = [] := List.eq_nil_of_length_eq_zero lb
      exact ⟨ha, by simp [this], by simp [hsa]⟩
    | succ m => exact ⟨⟨by rw [hsa, hsb], ha, hb⟩, rfl, rfl⟩

theorem Rp.get_eq {r : Rp} (h : r.ok) (i : Nat) : r.get i = r.toList[i]? := by
  induction r generalizing i with
  | lit n l => exact nth_eq l i
  | rep n v =>
    simp only [Rp.get, Rp.toList, List.getElem?_replicate]
    by_cases hi : i < n
    · rw [blt_t hi, if_pos hi]
      rfl
    · rw [blt_f hi, if_neg hi]
      rfl
  | cat n a b iha ihb =>
    obtain ⟨h1, h2, h3⟩ := h
    have la := Rp.length h2
    simp only [Rp.get, Rp.toList]
    by_cases hi : i < a.size
    · rw [List.getElem?_append_left (by omega)]
      rw [blt_t hi]
      exact iha h2 i
    · rw [List.getElem?_append_right (by omega), la]
      rw [blt_f hi]
      exact ihb h3 _

theorem Rp.set_ok {r : Rp} (h : r.ok) (v : SV) {i : Nat} (hi : i < r.size) : (r.set v i).ok ∧ (r.set v i).toList = r.toList.set i v ∧ (r.set v i).size = r.size := by
  induction r generalizing i with
  | lit n l => exact ⟨by simp only [Rp.set, Rp.ok, setL_eq, List.length_set]; exact h, by simp only [Rp.set, Rp.toList, setL_eq], rfl⟩
  | rep n x =>
    have hn : i < n := hi
    have h1 : (Rp.lit 1 [v]).ok := rfl
    have h2 := Rp.cat'_ok (a := .lit 1 [v]) (b := .rep (n - i - 1) x) h1 trivial
    have h3 := Rp.cat'_ok (a := .rep i x) (b := Rp.cat' (.lit 1 [v]) (.rep (n - i - 1) x)) trivial h2.1
    refine ⟨h3.1, ?_, ?_⟩
    · simp only [Rp.set]
      rw [h3.2.1, h2.2.1]
      simp only [Rp.toList]
      apply List.ext_getElem?
      intro j
      rw [List.getElem?_set]
      simp only [List.getElem?_replicate, List.length_replicate]
      rcases Nat.lt_trichotomy j i with hj | hj | hj
      · rw [List.getElem?_append_left (by simpa using hj)]
        simp [List.getElem?_replicate, hj, Nat.ne_of_gt hj, Nat.lt_trans hj hn]
      · subst hj
        rw [List.getElem?_append_right (by simp)]
        simp [hn]
      · rw [List.getElem?_append_right (by simp; omega)]
        have e : j - i = (j - i - 1) + 1 := by omega
        simp only [List.length_replicate]
        rw [e]
        simp only [List.singleton_append, List.getElem?_cons_succ, List.getElem?_replicate]
        have : ¬ i = j := by omega
        simp only [this, if_false]
        by_cases hjn : j < n
        · rw [if_pos (by omega), if_pos hjn]
        · rw [if_neg (by omega), if_neg hjn]
    · simp only [Rp.set]
      rw [h3.2.2, h2.2.2]
      simp only [Rp.size]
      omega
  | cat n a b iha ihb =>
    obtain ⟨h1, h2, h3⟩ := h
    have la := Rp.length h2
    have hn : i < n := hi
    simp only [Rp.set]
    by_cases hia : i < a.size
    · obtain ⟨k1, k2, k3⟩ := iha h2 hia
      have hb := blt_t hia
      rw [hb]
      refine ⟨⟨by rw [h1]; exact congrArg (· + b.size) k3.symm, k1, h3⟩, ?_, rfl⟩
      simp only [cond_true, Rp.toList]
      rw [k2, List.set_append_left _ _ (by omega)]
    · obtain ⟨k1, k2, k3⟩ := ihb h3 (i := i - a.size) (by omega)
      have hb := blt_f hia
      rw [hb]
      refine ⟨⟨by rw [h1]; exact congrArg (a.size + ·) k3.symm, h2, k1⟩, ?_, rfl⟩
      simp only [cond_false, Rp.toList]
      rw [k2, List.set_append_right _ _ (by omega), la]

theorem Rp.sub_ok {r : Rp} (h : r.ok) {o n : Nat} (hn : o + n ≤ r.size) : (r.sub o n).ok ∧ (r.sub o n).toList = (r.toList.drop o).take n ∧ (r.sub o n).size = n := by
  induction r generalizing o n with
  | lit m l =>
    have hl : l.length = m := h
    have hm : o + n ≤ m := hn
    exact ⟨by simp only [Rp.sub, Rp.ok, List.length_take, List.length_drop]; omega, rfl, rfl⟩
  | rep m v =>
    have hm : o + n ≤ m := hn
    refine ⟨trivial, ?_, rfl⟩
    simp only [Rp.sub, Rp.toList, List.drop_replicate, List.take_replicate]
    rw [Nat.min_eq_left (by omega)]
  | cat m a b iha ihb =>
    obtain ⟨h1, h2, h3⟩ := h
    have la := Rp.length h2
    have hm : o + n ≤ m := hn
    simp only [Rp.sub]
    by_cases c1 : o + n ≤ a.size
    · have hb := ble_t c1
      rw [hb]
      obtain ⟨k1, k2, k3⟩ := iha h2 c1
      refine ⟨k1, ?_, k3⟩
      simp only [cond_true, Rp.toList]
      rw [k2, List.drop_append_of_le_length (by omega), List.take_append_of_le_length (by simp; omega)]
    · have hb := ble_f c1
      rw [hb]
      simp only [cond_false]
      by_cases c2 : a.size ≤ o
      · have hb2 := ble_t c2
        rw [hb2]
        obtain ⟨k1, k2, k3⟩ := ihb h3 (o := o - a.size) (n := n) (by omega)
        refine ⟨k1, ?_, k3⟩
        simp only [cond_true, Rp.toList]
        rw [k2, List.drop_append, la, List.drop_of_length_le (l := a.toList) (by omega)]
        rfl
      · have hb2 := ble_f c2
        rw [hb2]
        obtain ⟨k1, k2, k3⟩ := iha h2 (o := o) (n := a.size - o) (by omega)
        obtain ⟨j1, j2, j3⟩ := ihb h3 (o := 0) (n := n - (a.size - o)) (by omega)
        obtain ⟨i1, i2, i3⟩ := Rp.cat'_ok k1 j1
        simp only [cond_false]
        refine ⟨i1, ?_, by rw [i3, k3, j3]; omega⟩
        rw [i2, k2, j2]
        simp only [Rp.toList, List.drop_zero]
        rw [List.drop_append_of_le_length (by omega), List.take_append]
        congr 1
        · rw [List.take_of_length_le (by simp; omega), List.take_of_length_le (by simp; omega)]
        · simp only [List.length_drop, la]

theorem Rp.put_ok {r s : Rp} (h : r.ok) (hs : s.ok) {o : Nat} (hn : o + s.size ≤ r.size) :
    (r.put o s).ok ∧ (r.put o s).toList = r.toList.take o ++ (s.toList ++ r.toList.drop (o + s.size)) ∧ (r.put o s).size = r.size := by
  have lr := Rp.length h
  obtain ⟨k1, k2, k3⟩ := Rp.sub_ok h (o := 0) (n := o) (by omega)
  obtain ⟨j1, j2, j3⟩ := Rp.sub_ok h (o := o + s.size) (n := r.size - (o + s.size)) (by omega)
  obtain ⟨i1, i2, i3⟩ := Rp.cat'_ok hs j1
  obtain ⟨l1, l2, l3⟩ := Rp.cat'_ok k1 i1
  refine ⟨l1, ?_, by unfold Rp.put; rw [l3, i3, k3, j3]; omega⟩
  unfold Rp.put
  rw [l2, i2, k2, j2, List.drop_zero]
  congr 2
  rw [List.take_of_length_le (by simp; omega)]

/-- n cells from o on, as a list. -/
def Rp.list (r : Rp) : Nat → Nat → Option (List SV)
  | 0 => fun _ => some []
  | n + 1 => fun o => match r.get o with
    | none => none
    | some v => match Rp.list r n (o + 1) with
      | none => none
      | some l => some (v :: l)
theorem Rp.list_eq {r : Rp} (h : r.ok) : ∀ {n o : Nat} {l : List SV}, r.list n o = some l → o + n ≤ r.size ∧ l = (r.toList.drop o).take n ∨ n = 0 ∧ l = []
  | 0, o, l, e => by
    simp only [Rp.list, Option.some.injEq] at e
    exact .inr ⟨rfl, e.symm⟩
  | n + 1, o, l, e => by
    have lr := Rp.length h
    simp only [Rp.list, Rp.get_eq h] at e
    cases hv : r.toList[o]? with
    | none => rw [hv] at e; cases e
    | some v =>
      rw [hv] at e
      cases hl : r.list n (o + 1) with
      | none => rw [hl] at e; cases e
      | some l' =>
        rw [hl] at e
        simp only [Option.some.injEq] at e
        have ho := (List.getElem?_eq_some_iff.1 hv).1
        have hd : r.toList.drop o = v :: r.toList.drop (o + 1) := by
          rw [List.drop_eq_getElem_cons ho]
          congr 1
          exact (List.getElem?_eq_some_iff.1 hv).2
        rcases Rp.list_eq h hl with ⟨h1, h2⟩ | ⟨h1, h2⟩
        · exact .inl ⟨by omega, by rw [← e, hd, h2]; rfl⟩
        · subst h1
          exact .inl ⟨by omega, by rw [← e, hd, h2]; rfl⟩
end Go.Ev
namespace Go.Ev

inductive Blk
  | cells (r : Rp) (el : TypeId) (opn sty : Bool)
  | map (es : List (SV × SV × Nat)) (clock : Nat)
  | strI (s : List UInt8) (pos : Nat)
  | loop (st : LoopState) (pend : Option Code) (env : Env) (N : Nat) (ps : Array Tmp) (asg body : Code) (dfr : Nat)
  | dfr (opn : Bool)
  | tab (l : List SV) (ob : Obj)
inductive OB
  | no
  | yes (b : Blk)
inductive M1 | mk (c0 c1 c2 c3 c4 c5 c6 c7 : OB)
noncomputable def M1.sel (d : Oc) : OB → OB → OB → OB → OB → OB → OB → OB → OB := Oc.rec (motive := fun _ => OB → OB → OB → OB → OB → OB → OB → OB → OB) (fun c0 _ _ _ _ _ _ _ => c0) (fun _ c1 _ _ _ _ _ _ => c1) (fun _ _ c2 _ _ _ _ _ => c2) (fun _ _ _ c3 _ _ _ _ => c3) (fun _ _ _ _ c4 _ _ _ => c4) (fun _ _ _ _ _ c5 _ _ => c5) (fun _ _ _ _ _ _ c6 _ => c6) (fun _ _ _ _ _ _ _ c7 => c7) d
noncomputable def M1.kid (d : Oc) : (OB → OB) → OB → OB → OB → OB → OB → OB → OB → OB → M1 := Oc.rec (motive := fun _ => (OB → OB) → OB → OB → OB → OB → OB → OB → OB → OB → M1) (fun f c0 c1 c2 c3 c4 c5 c6 c7 => .mk (f c0) c1 c2 c3 c4 c5 c6 c7) (fun f c0 c1 c2 c3 c4 c5 c6 c7 => .mk c0 (f c1) c2 c3 c4 c5 c6 c7) (fun f c0 c1 c2 c3 c4 c5 c6 c7 => .mk c0 c1 (f c2) c3 c4 c5 c6 c7) (fun f c0 c1 c2 c3 c4 c5 c6 c7 => .mk c0 c1 c2 (f c3) c4 c5 c6 c7) (fun f c0 c1 c2 c3 c4 c5 c6 c7 => .mk c0 c1 c2 c3 (f c4) c5 c6 c7) (fun f c0 c1 c2 c3 c4 c5 c6 c7 => .mk c0 c1 c2 c3 c4 (f c5) c6 c7) (fun f c0 c1 c2 c3 c4 c5 c6 c7 => .mk c0 c1 c2 c3 c4 c5 (f c6) c7) (fun f c0 c1 c2 c3 c4 c5 c6 c7 => .mk c0 c1 c2 c3 c4 c5 c6 (f c7)) d
noncomputable def M1.get (d : Oc) (x : M1) : OB := M1.rec (motive := fun _ => OB) (M1.sel d) x
noncomputable def M1.put (d : Oc) (f : OB → OB) (x : M1) : M1 := M1.rec (motive := fun _ => M1) (M1.kid d f) x
theorem M1.get_put (d e : Oc) (f : OB → OB) (x : M1) : M1.get e (M1.put d f x) = if d = e then f (M1.get e x) else M1.get e x := by
  obtain ⟨c0, c1, c2, c3, c4, c5, c6, c7⟩ := x; cases d <;> cases e <;> rfl
def M1.all (a : OB) : M1 := .mk a a a a a a a a
theorem M1.get_all (d : Oc) (a : OB) : M1.get d (M1.all a) = a := by cases d <;> rfl
inductive M2 | mk (c0 c1 c2 c3 c4 c5 c6 c7 : M1)
noncomputable def M2.sel (d : Oc) : M1 → M1 → M1 → M1 → M1 → M1 → M1 → M1 → M1 := Oc.rec (motive := fun _ => M1 → M1 → M1 → M1 → M1 → M1 → M1 → M1 → M1) (fun c0 _ _ _ _ _ _ _ => c0) (fun _ c1 _ _ _ _ _ _ => c1) (fun _ _ c2 _ _ _ _ _ => c2) (fun _ _ _ c3 _ _ _ _ => c3) (fun _ _ _ _ c4 _ _ _ => c4) (fun _ _ _ _ _ c5 _ _ => c5) (fun _ _ _ _ _ _ c6 _ => c6) (fun _ _ _ _ _ _ _ c7 => c7) d
noncomputable def M2.kid (d : Oc) : (M1 → M1) → M1 → M1 → M1 → M1 → M1 → M1 → M1 → M1 → M2 := Oc.rec (motive := fun _ => (M1 → M1) → M1 → M1 → M1 → M1 → M1 → M1 → M1 → M1 → M2) (fun f c0 c1 c2 c3 c4 c5 c6 c7 => .mk (f c0) c1 c2 c3 c4 c5 c6 c7) (fun f c0 c1 c2 c3 c4 c5 c6 c7 => .mk c0 (f c1) c2 c3 c4 c5 c6 c7) (fun f c0 c1 c2 c3 c4 c5 c6 c7 => .mk c0 c1 (f c2) c3 c4 c5 c6 c7) (fun f c0 c1 c2 c3 c4 c5 c6 c7 => .mk c0 c1 c2 (f c3) c4 c5 c6 c7) (fun f c0 c1 c2 c3 c4 c5 c6 c7 => .mk c0 c1 c2 c3 (f c4) c5 c6 c7) (fun f c0 c1 c2 c3 c4 c5 c6 c7 => .mk c0 c1 c2 c3 c4 (f c5) c6 c7) (fun f c0 c1 c2 c3 c4 c5 c6 c7 => .mk c0 c1 c2 c3 c4 c5 (f c6) c7) (fun f c0 c1 c2 c3 c4 c5 c6 c7 => .mk c0 c1 c2 c3 c4 c5 c6 (f c7)) d
noncomputable def M2.get (d : Oc) (x : M2) : M1 := M2.rec (motive := fun _ => M1) (M2.sel d) x
noncomputable def M2.put (d : Oc) (f : M1 → M1) (x : M2) : M2 := M2.rec (motive := fun _ => M2) (M2.kid d f) x
theorem M2.get_put (d e : Oc) (f : M1 → M1) (x : M2) : M2.get e (M2.put d f x) = if d = e then f (M2.get e x) else M2.get e x := by
  obtain ⟨c0, c1, c2, c3, c4, c5, c6, c7⟩ := x; cases d <;> cases e <;> rfl
def M2.all (a : M1) : M2 := .mk a a a a a a a a
theorem M2.get_all (d : Oc) (a : M1) : M2.get d (M2.all a) = a := by cases d <;> rfl
inductive M3 | mk (c0 c1 c2 c3 c4 c5 c6 c7 : M2)
noncomputable def M3.sel (d : Oc) : M2 → M2 → M2 → M2 → M2 → M2 → M2 → M2 → M2 := Oc.rec (motive := fun _ => M2 → M2 → M2 → M2 → M2 → M2 → M2 → M2 → M2) (fun c0 _ _ _ _ _ _ _ => c0) (fun _ c1 _ _ _ _ _ _ => c1) (fun _ _ c2 _ _ _ _ _ => c2) (fun _ _ _ c3 _ _ _ _ => c3) (fun _ _ _ _ c4 _ _ _ => c4) (fun _ _ _ _ _ c5 _ _ => c5) (fun _ _ _ _ _ _ c6 _ => c6) (fun _ _ _ _ _ _ _ c7 => c7) d
noncomputable def M3.kid (d : Oc) : (M2 → M2) → M2 → M2 → M2 → M2 → M2 → M2 → M2 → M2 → M3 := Oc.rec (motive := fun _ => (M2 → M2) → M2 → M2 → M2 → M2 → M2 → M2 → M2 → M2 → M3) (fun f c0 c1 c2 c3 c4 c5 c6 c7 => .mk (f c0) c1 c2 c3 c4 c5 c6 c7) (fun f c0 c1 c2 c3 c4 c5 c6 c7 => .mk c0 (f c1) c2 c3 c4 c5 c6 c7) (fun f c0 c1 c2 c3 c4 c5 c6 c7 => .mk c0 c1 (f c2) c3 c4 c5 c6 c7) (fun f c0 c1 c2 c3 c4 c5 c6 c7 => .mk c0 c1 c2 (f c3) c4 c5 c6 c7) (fun f c0 c1 c2 c3 c4 c5 c6 c7 => .mk c0 c1 c2 c3 (f c4) c5 c6 c7) (fun f c0 c1 c2 c3 c4 c5 c6 c7 => .mk c0 c1 c2 c3 c4 (f c5) c6 c7) (fun f c0 c1 c2 c3 c4 c5 c6 c7 => .mk c0 c1 c2 c3 c4 c5 (f c6) c7) (fun f c0 c1 c2 c3 c4 c5 c6 c7 => .mk c0 c1 c2 c3 c4 c5 c6 (f c7)) d
noncomputable def M3.get (d : Oc) (x : M3) : M2 := M3.rec (motive := fun _ => M2) (M3.sel d) x
noncomputable def M3.put (d : Oc) (f : M2 → M2) (x : M3) : M3 := M3.rec (motive := fun _ => M3) (M3.kid d f) x
theorem M3.get_put (d e : Oc) (f : M2 → M2) (x : M3) : M3.get e (M3.put d f x) = if d = e then f (M3.get e x) else M3.get e x := by
  obtain ⟨c0, c1, c2, c3, c4, c5, c6, c7⟩ := x; cases d <;> cases e <;> rfl
def M3.all (a : M2) : M3 := .mk a a a a a a a a
theorem M3.get_all (d : Oc) (a : M2) : M3.get d (M3.all a) = a := by cases d <;> rfl
inductive M4 | mk (c0 c1 c2 c3 c4 c5 c6 c7 : M3)
noncomputable def M4.sel (d : Oc) : M3 → M3 → M3 → M3 → M3 → M3 → M3 → M3 → M3 := Oc.rec (motive := fun _ => M3 → M3 → M3 → M3 → M3 → M3 → M3 → M3 → M3) (fun c0 _ _ _ _ _ _ _ => c0) (fun _ c1 _ _ _ _ _ _ => c1) (fun _ _ c2 _ _ _ _ _ => c2) (fun _ _ _ c3 _ _ _ _ => c3) (fun _ _ _ _ c4 _ _ _ => c4) (fun _ _ _ _ _ c5 _ _ => c5) (fun _ _ _ _ _ _ c6 _ => c6) (fun _ _ _ _ _ _ _ c7 => c7) d
noncomputable def M4.kid (d : Oc) : (M3 → M3) → M3 → M3 → M3 → M3 → M3 → M3 → M3 → M3 → M4 := Oc.rec (motive := fun _ => (M3 → M3) → M3 → M3 → M3 → M3 → M3 → M3 → M3 → M3 → M4) (fun f c0 c1 c2 c3 c4 c5 c6 c7 => .mk (f c0) c1 c2 c3 c4 c5 c6 c7) (fun f c0 c1 c2 c3 c4 c5 c6 c7 => .mk c0 (f c1) c2 c3 c4 c5 c6 c7) (fun f c0 c1 c2 c3 c4 c5 c6 c7 => .mk c0 c1 (f c2) c3 c4 c5 c6 c7) (fun f c0 c1 c2 c3 c4 c5 c6 c7 => .mk c0 c1 c2 (f c3) c4 c5 c6 c7) (fun f c0 c1 c2 c3 c4 c5 c6 c7 => .mk c0 c1 c2 c3 (f c4) c5 c6 c7) (fun f c0 c1 c2 c3 c4 c5 c6 c7 => .mk c0 c1 c2 c3 c4 (f c5) c6 c7) (fun f c0 c1 c2 c3 c4 c5 c6 c7 => .mk c0 c1 c2 c3 c4 c5 (f c6) c7) (fun f c0 c1 c2 c3 c4 c5 c6 c7 => .mk c0 c1 c2 c3 c4 c5 c6 (f c7)) d
noncomputable def M4.get (d : Oc) (x : M4) : M3 := M4.rec (motive := fun _ => M3) (M4.sel d) x
noncomputable def M4.put (d : Oc) (f : M3 → M3) (x : M4) : M4 := M4.rec (motive := fun _ => M4) (M4.kid d f) x
theorem M4.get_put (d e : Oc) (f : M3 → M3) (x : M4) : M4.get e (M4.put d f x) = if d = e then f (M4.get e x) else M4.get e x := by
  obtain ⟨c0, c1, c2, c3, c4, c5, c6, c7⟩ := x; cases d <;> cases e <;> rfl
def M4.all (a : M3) : M4 := .mk a a a a a a a a
theorem M4.get_all (d : Oc) (a : M3) : M4.get d (M4.all a) = a := by cases d <;> rfl
inductive M5 | mk (c0 c1 c2 c3 c4 c5 c6 c7 : M4)
noncomputable def M5.sel (d : Oc) : M4 → M4 → M4 → M4 → M4 → M4 → M4 → M4 → M4 := Oc.rec (motive := fun _ => M4 → M4 → M4 → M4 → M4 → M4 → M4 → M4 → M4) (fun c0 _ _ _ _ _ _ _ => c0) (fun _ c1 _ _ _ _ _ _ => c1) (fun _ _ c2 _ _ _ _ _ => c2) (fun _ _ _ c3 _ _ _ _ => c3) (fun _ _ _ _ c4 _ _ _ => c4) (fun _ _ _ _ _ c5 _ _ => c5) (fun _ _ _ _ _ _ c6 _ => c6) (fun _ _ _ _ _ _ _ c7 => c7) d
noncomputable def M5.kid (d : Oc) : (M4 → M4) → M4 → M4 → M4 → M4 → M4 → M4 → M4 → M4 → M5 := Oc.rec (motive := fun _ => (M4 → M4) → M4 → M4 → M4 → M4 → M4 → M4 → M4 → M4 → M5) (fun f c0 c1 c2 c3 c4 c5 c6 c7 => .mk (f c0) c1 c2 c3 c4 c5 c6 c7) (fun f c0 c1 c2 c3 c4 c5 c6 c7 => .mk c0 (f c1) c2 c3 c4 c5 c6 c7) (fun f c0 c1 c2 c3 c4 c5 c6 c7 => .mk c0 c1 (f c2) c3 c4 c5 c6 c7) (fun f c0 c1 c2 c3 c4 c5 c6 c7 => .mk c0 c1 c2 (f c3) c4 c5 c6 c7) (fun f c0 c1 c2 c3 c4 c5 c6 c7 => .mk c0 c1 c2 c3 (f c4) c5 c6 c7) (fun f c0 c1 c2 c3 c4 c5 c6 c7 => .mk c0 c1 c2 c3 c4 (f c5) c6 c7) (fun f c0 c1 c2 c3 c4 c5 c6 c7 => .mk c0 c1 c2 c3 c4 c5 (f c6) c7) (fun f c0 c1 c2 c3 c4 c5 c6 c7 => .mk c0 c1 c2 c3 c4 c5 c6 (f c7)) d
noncomputable def M5.get (d : Oc) (x : M5) : M4 := M5.rec (motive := fun _ => M4) (M5.sel d) x
noncomputable def M5.put (d : Oc) (f : M4 → M4) (x : M5) : M5 := M5.rec (motive := fun _ => M5) (M5.kid d f) x
theorem M5.get_put (d e : Oc) (f : M4 → M4) (x : M5) : M5.get e (M5.put d f x) = if d = e then f (M5.get e x) else M5.get e x := by
  obtain ⟨c0, c1, c2, c3, c4, c5, c6, c7⟩ := x; cases d <;> cases e <;> rfl
def M5.all (a : M4) : M5 := .mk a a a a a a a a
theorem M5.get_all (d : Oc) (a : M4) : M5.get d (M5.all a) = a := by cases d <;> rfl


structure K5 where
  (a b c d e : Oc)
def dig5 (n : Nat) : K5 := ⟨oc (n / 4096 % 8), oc (n / 512 % 8), oc (n / 64 % 8), oc (n / 8 % 8), oc (n % 8)⟩
theorem dig5_inj {t u : Nat} (ht : t < 32768) (hu : u < 32768) : dig5 t = dig5 u → t = u := by
  intro h
  simp only [dig5, K5.mk.injEq] at h
  have h1 := oc_inj (Nat.mod_lt _ (by decide)) (Nat.mod_lt _ (by decide)) h.1
  have h2 := oc_inj (Nat.mod_lt _ (by decide)) (Nat.mod_lt _ (by decide)) h.2.1
  have h3 := oc_inj (Nat.mod_lt _ (by decide)) (Nat.mod_lt _ (by decide)) h.2.2.1
  have h4 := oc_inj (Nat.mod_lt _ (by decide)) (Nat.mod_lt _ (by decide)) h.2.2.2.1
  have h5 := oc_inj (Nat.mod_lt _ (by decide)) (Nat.mod_lt _ (by decide)) h.2.2.2.2
  omega
noncomputable def tget (t : M5) (n : Nat) : OB := M1.get (dig5 n).e (M2.get (dig5 n).d (M3.get (dig5 n).c (M4.get (dig5 n).b (M5.get (dig5 n).a t))))
noncomputable def tset (b : OB) (n : Nat) (t : M5) : M5 := M5.put (dig5 n).a (M4.put (dig5 n).b (M3.put (dig5 n).c (M2.put (dig5 n).d (M1.put (dig5 n).e fun _ => b)))) t
def tnil : M5 := M5.all (M4.all (M3.all (M2.all (M1.all .no))))
theorem tget_nil (n : Nat) : tget tnil n = .no := by
  simp only [tget, tnil, M5.get_all, M4.get_all, M3.get_all, M2.get_all, M1.get_all]
theorem tget_tset (t : M5) {n k : Nat} (b : OB) (hn : n < 32768) (hk : k < 32768) : tget (tset b n t) k = if n = k then b else tget t k := by
  unfold tget tset
  rw [M5.get_put]
  by_cases h1 : (dig5 n).a = (dig5 k).a
  · rw [if_pos h1, M4.get_put]
    by_cases h2 : (dig5 n).b = (dig5 k).b
    · rw [if_pos h2, M3.get_put]
      by_cases h3 : (dig5 n).c = (dig5 k).c
      · rw [if_pos h3, M2.get_put]
        by_cases h4 : (dig5 n).d = (dig5 k).d
        · rw [if_pos h4, M1.get_put]
          by_cases h5 : (dig5 n).e = (dig5 k).e
          · rw [if_pos h5, if_pos]
            refine dig5_inj hn hk ?_
            cases hd : dig5 n; cases hd2 : dig5 k
            simp_all
          · rw [if_neg h5, if_neg (fun e => h5 (by rw [e]))]
        · rw [if_neg h4, if_neg (fun e => h4 (by rw [e]))]
      · rw [if_neg h3, if_neg (fun e => h3 (by rw [e]))]
    · rw [if_neg h2, if_neg (fun e => h2 (by rw [e]))]
  · rw [if_neg h1, if_neg (fun e => h1 (by rw [e]))]

structure Mem where
  nxt : Nat
  t : M5
noncomputable def Mem.get (m : Mem) (n : Nat) : OB := tget m.t n
noncomputable def Mem.set (m : Mem) (n : Nat) (b : Blk) : Mem := ⟨m.nxt, tset (.yes b) n m.t⟩
noncomputable def Mem.new (m : Mem) (b : Blk) : Mem := ⟨m.nxt + 1, tset (.yes b) m.nxt m.t⟩
noncomputable def Mem.kill (m : Mem) (n : Nat) : Mem := ⟨m.nxt, tset .no n m.t⟩
def Mem.live (m : Mem) (n : Nat) : Prop := n < m.nxt ∧ m.get n ≠ .no

/-! ### What is told of the model's memory -/
section
variable (P : Program)

def envRel (R : Rho) (N : Nat) (e : Env) (tm : Array Value) : Prop := tm.size = N ∧ N ≤ 512 ∧ ∀ t, t < N → tm.getD t undef = den R (e.get t)

def cellsRel (R : Rho) (nm : Nat) (r : Rp) (el : TypeId) (opn sty : Bool) (o : Option Obj) : Prop :=
  ∃ (arr : Array Value) (fr : Nat × Nat) (rest : List Value), o = some (.cells arr el fr) ∧ arr.toList = r.toList.map (den R) ++ rest ∧ (opn = false → rest = []) ∧
    (fr = (0, 0) ∨ sty = true ∧ fr = (arr.size, arr.size + 1)) ∧ (opn = true → arr.size = R.k nm * P.cellsOf el)

def blkRel (R : Rho) (nm : Nat) : Blk → Option Obj → Prop
  | .cells r el opn sty, o => cellsRel P R nm r el opn sty o
  | .map es c, o => o = some (.map (es.map fun e => ⟨den R e.1, den R e.2.1, e.2.2⟩).toArray c)
  | .strI s pos, o => o = some (.stringIter ⟨s.toArray⟩ pos)
  | .loop st pend env N ps asg body d, o => ∃ fn tm, o = some (.loop ⟨st, pend, fn, tm, ps, asg, body, R.b d⟩) ∧ envRel R N env tm
  | .dfr opn, o => o = some (.deferred (if opn then some [] else none))
  | .tab l ob, o => ∃ arr el fr, o = some ob ∧ ob = .cells arr el fr ∧ ∀ (j : Nat) v, l[j]? = some v → arr[j]? = some (den R v)

def Blk.ok (N : Nat) : Blk → Prop
  | .cells r _ _ _ => r.ok ∧ ∀ v ∈ r.toList, v.bel N
  | .map es _ => ∀ e ∈ es, e.1.bel N ∧ e.2.1.bel N
  | .strI _ _ => True
  | .loop _ _ env M _ _ _ d => d < N ∧ ∀ t, t < M → (env.get t).bel N
  | .dfr _ => True
  | .tab l _ => ∀ v ∈ l, v.bel N

structure Rel (R : Rho) (m : Mem) (w : World) : Prop where
  lim : m.nxt ≤ 32768
  glob : ∀ g, g < P.globals.size → R.b g = g
  gl : P.globals.size ≤ m.nxt
  inj : ∀ n k, m.live n → m.live k → R.b n = R.b k → n = k
  ok : ∀ n b, n < m.nxt → m.get n = .yes b → b.ok m.nxt
  blk : ∀ n b, n < m.nxt → m.get n = .yes b → blkRel P R n b w.heap[R.b n]?
  top : ∀ n, m.nxt ≤ n → n < 32768 → m.get n = .no

structure Post (R : Rho) (m : Mem) (w : World) (R' : Rho) (m' : Mem) (w' : World) : Prop where
  rel : Rel P R' m' w'
  ext : R.ext R' m.nxt
  nxt : m.nxt ≤ m'.nxt
  size : w.heap.size ≤ w'.heap.size
  keep : ∀ b, b < w.heap.size → (∀ n, m.live n → R.b n ≠ b) → w'.heap[b]? = w.heap[b]?
  new : ∀ n, m'.live n → (∃ k, m.live k ∧ R'.b n = R.b k) ∨ w.heap.size ≤ R'.b n
  os : w'.os = w.os
  tape : w'.tape = w.tape
  output : w'.output = w.output
end

mutual
theorem den_ext {R R' : Rho} {N : Nat} (h : R.ext R' N) : (v : SV) → v.bel N → den R' v = den R v
  | .int .., _ | .bool _, _ | .str _, _ => by simp [den]
  | .ptr nm off, hv => by simp [den, (h nm hv).1]
  | .sl nm _ _ _, hv => by simp [den, (h nm hv).1]
  | .slo nm _ _ _, hv => by simp [den, (h nm hv).1, (h nm hv).2]
  | .sle nm _ _ _ _, hv => by simp [den, (h nm hv).1, (h nm hv).2]
  | .agg l, hv => by simp only [den]; rw [denL_ext h l hv]
  | .tup l, hv => by simp only [den]; rw [denL_ext h l hv]
  | .ifc _ v, hv => by simp only [den]; rw [den_ext h v hv]
  | .fn _ a c, hv => by simp only [den]; rw [denL_ext h a hv.1, denL_ext h c hv.2]
  | .mth _ _ v, hv => by simp only [den]; rw [den_ext h v hv]
  | .via _ _ _ _ v, hv => by simp only [den]; rw [den_ext h v hv]
  | .cons _ _, _ => by simp [den]
  | .tag t, hv => by
    cases t with
    | mapp nm => simp only [den, (h nm hv).1]
    | yld nm => simp only [den, (h nm hv).1]
    | _ => simp [den]
theorem denL_ext {R R' : Rho} {N : Nat} (h : R.ext R' N) : (v : SV) → v.bel N → denL R' v = denL R v
  | .cons a l, hv => by simp only [denL]; rw [den_ext h a hv.1, denL_ext h l hv.2]
  | .int .., _ | .bool _, _ | .ptr .., _ | .sl .., _ | .slo .., _ | .sle .., _ | .str _, _ | .agg _, _ | .tup _, _ | .ifc .., _ | .fn .., _ | .mth .., _ | .via .., _ | .tag _, _ => by simp [denL]
end

theorem SV.bel_mono {N M : Nat} (h : N ≤ M) : (v : SV) → v.bel N → v.bel M
  | .int .., _ | .bool _, _ | .str _, _ => trivial
  | .ptr _ _, hv => Nat.lt_of_lt_of_le hv h
  | .sl _ _ _ _, hv => Nat.lt_of_lt_of_le hv h
  | .slo _ _ _ _, hv => Nat.lt_of_lt_of_le hv h
  | .sle _ _ _ _ _, hv => Nat.lt_of_lt_of_le hv h
  | .agg l, hv => SV.bel_mono h l hv
  | .tup l, hv => SV.bel_mono h l hv
  | .ifc _ v, hv => SV.bel_mono h v hv
  | .fn _ a c, hv => ⟨SV.bel_mono h a hv.1, SV.bel_mono h c hv.2⟩
  | .mth _ _ v, hv => SV.bel_mono h v hv
  | .via _ _ _ _ v, hv => SV.bel_mono h v hv
  | .cons a l, hv => ⟨SV.bel_mono h a hv.1, SV.bel_mono h l hv.2⟩
  | .tag t, hv => by cases t <;> first | trivial | exact Nat.lt_of_lt_of_le hv h

theorem Rho.ext_refl (R : Rho) (N : Nat) : R.ext R N := fun _ _ => ⟨rfl, rfl⟩
theorem Rho.ext_trans {R R' R'' : Rho} {N M : Nat} (h : R.ext R' N) (h' : R'.ext R'' M) (hle : N ≤ M) : R.ext R'' N := fun n hn =>
  ⟨(h' n (Nat.lt_of_lt_of_le hn hle)).1.trans (h n hn).1, (h' n (Nat.lt_of_lt_of_le hn hle)).2.trans (h n hn).2⟩
end Go.Ev
namespace Go.Ev
open Go.RowKit
variable {P : Program} {R R' R'' : Rho} {m m' m'' : Mem} {w w' w'' : World}

theorem Blk.ok_mono {N M : Nat} (h : N ≤ M) {b : Blk} (hb : b.ok N) : b.ok M := by
  cases b with
  | cells r el opn sty => exact ⟨hb.1, fun v hv => SV.bel_mono h v (hb.2 v hv)⟩
  | map es c => exact fun e he => ⟨SV.bel_mono h _ (hb e he).1, SV.bel_mono h _ (hb e he).2⟩
  | strI s p => trivial
  | loop st pend env k ps a b d => exact ⟨Nat.lt_of_lt_of_le hb.1 h, fun t ht => SV.bel_mono h _ (hb.2 t ht)⟩
  | dfr o => trivial
  | tab l ob => exact fun v hv => SV.bel_mono h v (hb v hv)

theorem envRel.ext {N M : Nat} (he : R.ext R' M) {e : Env} {tm : Array Value} (h : envRel R N e tm) (hb : ∀ t, t < N → (e.get t).bel M) : envRel R' N e tm :=
  ⟨h.1, h.2.1, fun t ht => by rw [h.2.2 t ht, den_ext he _ (hb t ht)]⟩

theorem map_den_ext {N : Nat} (he : R.ext R' N) {l : List SV} (h : ∀ v ∈ l, v.bel N) : l.map (den R') = l.map (den R) :=
  List.map_congr_left fun v hv => den_ext he v (h v hv)

theorem blkRel.ext {N nm : Nat} (he : R.ext R' N) (hn : nm < N) {b : Blk} (hb : b.ok N) {o : Option Obj} (h : blkRel P R nm b o) : blkRel P R' nm b o := by
  cases b with
  | cells r el opn sty =>
    obtain ⟨arr, fr, rest, h1, h2, h3, h4, h5⟩ := h
    exact ⟨arr, fr, rest, h1, by rw [map_den_ext he hb.2]; exact h2, h3, h4, fun ho => by rw [(he nm hn).2]; exact h5 ho⟩
  | map es c =>
    have : (es.map fun e => (⟨den R' e.1, den R' e.2.1, e.2.2⟩ : MapEntry)) = es.map fun e => ⟨den R e.1, den R e.2.1, e.2.2⟩ :=
      List.map_congr_left fun e hm => by rw [den_ext he _ (hb e hm).1, den_ext he _ (hb e hm).2]
    show o = _
    rw [this]
    exact h
  | strI s p => exact h
  | loop st pend env k ps a b d =>
    obtain ⟨fn, tm, h1, h2⟩ := h
    exact ⟨fn, tm, by rw [(he d hb.1).1]; exact h1, h2.ext he hb.2⟩
  | dfr o => exact h
  | tab l ob =>
    obtain ⟨arr, el, fr, h1, h3, h2⟩ := h
    exact ⟨arr, el, fr, h1, h3, fun j v hv => by rw [den_ext he v (hb v (List.mem_of_getElem? hv))]; exact h2 j v hv⟩

theorem Mem.get_new {m : Mem} (b : Blk) (h : m.nxt < 32768) {n : Nat} (hn : n < 32768) : (m.new b).get n = if m.nxt = n then .yes b else m.get n := tget_tset m.t (.yes b) h hn
theorem Mem.get_set {m : Mem} (b : Blk) {k n : Nat} (h : k < 32768) (hn : n < 32768) : (m.set k b).get n = if k = n then .yes b else m.get n := tget_tset m.t (.yes b) h hn
theorem Mem.get_kill {m : Mem} {k n : Nat} (h : k < 32768) (hn : n < 32768) : (m.kill k).get n = if k = n then .no else m.get n := tget_tset m.t .no h hn

theorem Post.refl (h : Rel P R m w) : Post P R m w R m w :=
  ⟨h, Rho.ext_refl _ _, Nat.le_refl _, Nat.le_refl _, fun _ _ _ => rfl, fun n hn => .inl ⟨n, hn, rfl⟩, rfl, rfl, rfl⟩

theorem Rel.block_lt (h : Rel P R m w) {n : Nat} (hn : m.live n) : R.b n < w.heap.size := by
  obtain ⟨h1, h2⟩ := hn
  cases hg : m.get n with
  | no => exact absurd hg h2
  | yes b =>
    have hb := h.blk n b h1 hg
    rcases Nat.lt_or_ge (R.b n) w.heap.size with hl | hl
    · exact hl
    · rw [Array.getElem?_eq_none hl] at hb
      cases b with
      | cells r el opn sty => obtain ⟨_, _, _, e, _⟩ := hb; cases e
      | map es c => cases hb
      | strI s p => cases hb
      | loop st pend env k ps a b d => obtain ⟨_, _, e, _⟩ := hb; cases e
      | dfr o => cases hb
      | tab l ob => obtain ⟨_, _, _, e, _⟩ := hb; cases e

theorem Post.trans (h : Post P R m w R' m' w') (k : Post P R' m' w' R'' m'' w'') : Post P R m w R'' m'' w'' where
  rel := k.rel
  ext := Rho.ext_trans h.ext k.ext h.nxt
  nxt := Nat.le_trans h.nxt k.nxt
  size := Nat.le_trans h.size k.size
  keep b hb hn := by
    refine (k.keep b (Nat.lt_of_lt_of_le hb h.size) (fun n hl e => ?_)).trans (h.keep b hb hn)
    rcases h.new n hl with ⟨j, hj, ej⟩ | hge
    · exact hn j hj (ej.symm.trans e)
    · omega
  new n hl := by
    rcases k.new n hl with ⟨j, hj, ej⟩ | hge
    · rcases h.new j hj with ⟨i, hi, ei⟩ | hge
      · exact .inl ⟨i, hi, ej.trans ei⟩
      · exact .inr (by rw [ej]; exact hge)
    · exact .inr (Nat.le_trans h.size hge)
  os := k.os.trans h.os
  tape := k.tape.trans h.tape
  output := k.output.trans h.output

/-- A new block. -/
theorem Rel.new (h : Rel P R m w) (hl : m.nxt < 32768) (b : Blk) (o : Obj) (κ : Nat) (hb : b.ok (m.nxt + 1))
    (hr : ∀ R', R.ext R' m.nxt → R'.b m.nxt = w.heap.size → R'.k m.nxt = κ → blkRel P R' m.nxt b (some o)) :
    ∃ R', R'.b m.nxt = w.heap.size ∧ R'.k m.nxt = κ ∧ Post P R m w R' (m.new b) { w with heap := w.heap.push o } := by
  refine ⟨⟨fun n => if n = m.nxt then w.heap.size else R.b n, fun n => if n = m.nxt then κ else R.k n⟩, by simp, by simp, ?_⟩
  have hext : R.ext ⟨fun n => if n = m.nxt then w.heap.size else R.b n, fun n => if n = m.nxt then κ else R.k n⟩ m.nxt := fun n hn => by
    have : n ≠ m.nxt := by omega
    simp [this]
  have hlive : ∀ n, (m.new b).live n → n ≠ m.nxt → m.live n := fun n hn hne => by
    obtain ⟨h1, h2⟩ := hn
    have h1' : n < m.nxt + 1 := h1
    refine ⟨by omega, fun e => h2 ?_⟩
    rw [Mem.get_new b hl (by omega), if_neg (fun e => hne e.symm)]
    exact e
  have hold : ∀ k, k < w.heap.size → (w.heap.push o)[k]? = w.heap[k]? := fun k hk => by rw [Array.getElem?_push, if_neg (by omega)]
  refine ⟨⟨by show m.nxt + 1 ≤ _; omega, fun g hg => ?_, ?_, ?_, ?_, ?_, fun n hn hn2 => (by have hn' : m.nxt + 1 ≤ n := hn; rw [Mem.get_new b hl hn2, if_neg (by omega)]; exact h.top n (by omega) hn2)⟩, hext, ?_, ?_, ?_, ?_, rfl, rfl, rfl⟩
  · have := h.gl
    rw [(hext g (by omega)).1]
    exact h.glob g hg
  · have := h.gl
    show _ ≤ m.nxt + 1
    omega
  · intro n k hn hk e
    by_cases hn0 : n = m.nxt
    · by_cases hk0 : k = m.nxt
      · omega
      · have := h.block_lt (hlive k hk hk0)
        simp only [hn0, hk0, if_true, if_false] at e
        omega
    · by_cases hk0 : k = m.nxt
      · have := h.block_lt (hlive n hn hn0)
        simp only [hn0, hk0, if_true, if_false] at e
        omega
      · simp only [hn0, hk0, if_false] at e
        exact h.inj n k (hlive n hn hn0) (hlive k hk hk0) e
  · intro n b' hn hg
    have hn' : n < m.nxt + 1 := hn
    rw [Mem.get_new b hl (by omega)] at hg
    by_cases hn0 : m.nxt = n
    · rw [if_pos hn0] at hg
      cases hg
      exact hb
    · rw [if_neg hn0] at hg
      exact Blk.ok_mono (Nat.le_succ _) (h.ok n b' (by omega) hg)
  · intro n b' hn hg
    have hn' : n < m.nxt + 1 := hn
    rw [Mem.get_new b hl (by omega)] at hg
    by_cases hn0 : m.nxt = n
    · rw [if_pos hn0] at hg
      cases hg
      subst hn0
      have := hr _ hext (by simp) (by simp)
      simpa using this
    · rw [if_neg hn0] at hg
      have hnl : n < m.nxt := by omega
      have hlt := h.block_lt (n := n) ⟨hnl, by rw [hg]; exact fun e => by cases e⟩
      have hb' := blkRel.ext hext hnl (h.ok n b' hnl hg) (h.blk n b' hnl hg)
      rw [(hext n hnl).1]
      show blkRel P _ n b' (w.heap.push o)[R.b n]?
      rw [hold _ hlt]
      exact hb'
  · show m.nxt ≤ m.nxt + 1
    omega
  · show w.heap.size ≤ (w.heap.push o).size
    simp
  · exact fun k hk _ => hold k hk
  · intro n hn
    by_cases hn0 : n = m.nxt
    · exact .inr (by simp [hn0])
    · exact .inl ⟨n, hlive n hn hn0, by simp [hn0]⟩

/-- A block changed in its place. -/
theorem Rel.upd (h : Rel P R m w) {n : Nat} (hn : n < m.nxt) (hl : m.get n ≠ .no) (b : Blk) (heap : Array Obj) (hb : b.ok m.nxt)
    (hs : heap.size = w.heap.size) (hk : ∀ k, k ≠ R.b n → heap[k]? = w.heap[k]?) (hr : blkRel P R n b heap[R.b n]?) :
    Post P R m w R (m.set n b) { w with heap := heap } := by
  have hlim := h.lim
  have hlive : ∀ k, (m.set n b).live k → m.live k := fun k hk => by
    obtain ⟨h1, h2⟩ := hk
    have h1' : k < m.nxt := h1
    refine ⟨h1', fun e => ?_⟩
    rw [Mem.get_set b (by omega) (by omega)] at h2
    by_cases hnk : n = k
    · subst hnk
      exact hl e
    · rw [if_neg hnk] at h2
      exact h2 e
  refine ⟨⟨hlim, h.glob, h.gl, fun i j hi hj e => h.inj i j (hlive i hi) (hlive j hj) e, ?_, ?_, fun k hk hk2 => (by have hk' : m.nxt ≤ k := hk; rw [Mem.get_set b (by omega) hk2, if_neg (by omega)]; exact h.top k hk' hk2)⟩, Rho.ext_refl _ _, Nat.le_refl _, Nat.le_of_eq hs.symm, ?_, fun i hi => .inl ⟨i, hlive i hi, rfl⟩, rfl, rfl, rfl⟩
  · intro k b' hk' hg
    have hk1 : k < m.nxt := hk'
    rw [Mem.get_set b (by omega) (by omega)] at hg
    by_cases hnk : n = k
    · rw [if_pos hnk] at hg
      cases hg
      exact hb
    · rw [if_neg hnk] at hg
      exact h.ok k b' hk1 hg
  · intro k b' hk' hg
    have hk1 : k < m.nxt := hk'
    rw [Mem.get_set b (by omega) (by omega)] at hg
    by_cases hnk : n = k
    · rw [if_pos hnk] at hg
      cases hg
      subst hnk
      exact hr
    · rw [if_neg hnk] at hg
      have hne : R.b k ≠ R.b n := fun e => hnk (h.inj k n ⟨hk1, by rw [hg]; exact fun e => by cases e⟩ ⟨hn, hl⟩ e).symm
      show blkRel P R k b' heap[R.b k]?
      rw [hk _ hne]
      exact h.blk k b' hk1 hg
  · intro k hk' hno
    exact hk k (fun e => hno n ⟨hn, hl⟩ e.symm)

/-- A name given up. -/
theorem Rel.kill (h : Rel P R m w) {n : Nat} (hn : n < m.nxt) : Post P R m w R (m.kill n) w := by
  have hlim := h.lim
  have hget : ∀ k b, k < m.nxt → (m.kill n).get k = .yes b → m.get k = .yes b := fun k b hk hg => by
    rw [Mem.get_kill (by omega) (by omega)] at hg
    by_cases hnk : n = k
    · rw [if_pos hnk] at hg
      cases hg
    · rw [if_neg hnk] at hg
      exact hg
  have hlive : ∀ k, (m.kill n).live k → m.live k := fun k hk => by
    obtain ⟨h1, h2⟩ := hk
    have h1' : k < m.nxt := h1
    refine ⟨h1', ?_⟩
    cases hg : (m.kill n).get k with
    | no => exact absurd hg h2
    | yes b =>
      rw [hget k b h1' hg]
      exact fun e => by cases e
  exact ⟨⟨hlim, h.glob, h.gl, fun i j hi hj e => h.inj i j (hlive i hi) (hlive j hj) e, fun k b hk hg => h.ok k b hk (hget k b hk hg), fun k b hk hg => h.blk k b hk (hget k b hk hg), fun k hk hk2 => (by have hk' : m.nxt ≤ k := hk; rw [Mem.get_kill (by omega) hk2, if_neg (by omega)]; exact h.top k hk' hk2)⟩,
    Rho.ext_refl _ _, Nat.le_refl _, Nat.le_refl _, fun _ _ _ => rfl, fun i hi => .inl ⟨i, hlive i hi, rfl⟩, rfl, rfl, rfl⟩

theorem Rel.drew (h : Rel P R m w) (k : Nat) : Post P R m w R m { w with drawn := k } :=
  ⟨⟨h.lim, h.glob, h.gl, h.inj, h.ok, h.blk, h.top⟩, Rho.ext_refl _ _, Nat.le_refl _, Nat.le_refl _, fun _ _ _ => rfl, fun n hn => .inl ⟨n, hn, rfl⟩, rfl, rfl, rfl⟩
end Go.Ev
namespace Go.Ev

/-! ### Constants of the text as values -/
mutual
def ofV : Value → Option SV
  | .bool b => some (.bool b)
  | .int k n => some (.int k n)
  | .string s => some (.str s.data.toList)
  | .pointer none => some (.tag .nilp)
  | .slice none 0 0 => some (.tag .nils)
  | .map none => some (.tag .nilm)
  | .nilFunc => some (.tag .nilf)
  | .nilIface => some (.tag .nili)
  | .func (.func f) ⟨[]⟩ ⟨[]⟩ => some (.fn f (.tag .nil) (.tag .nil))
  | .iface t v => match ofV v with
    | some x => some (.ifc t x)
    | none => none
  | .agg ⟨l⟩ => match ofVs l with
    | some x => some (.agg x)
    | none => none
  | .tuple ⟨l⟩ => match ofVs l with
    | some x => some (.tup x)
    | none => none
  | _ => none
def ofVs : List Value → Option SV
  | [] => some (.tag .nil)
  | v :: l => match ofV v with
    | none => none
    | some x => match ofVs l with
      | none => none
      | some y => some (.cons x y)
end

def SV.cells : SV → List SV
  | .agg l => l.toL
  | v => [v]
def SV.nc : SV → Bool
  | .cons _ _ => false
  | _ => true
def SV.one : SV → Bool
  | .agg _ | .tup _ | .cons _ _ => false
  | .tag t => match t with
    | .nil => false
    | _ => true
  | _ => true

def constS (v : Value) : Option SV := ofV v
noncomputable def opd (P : Program) (N : Nat) : Operand → Env → Option SV
  | .tmp t => fun e => cond (Nat.blt t N) (some (e.get t)) none
  | .const v => fun _ => constS v
  | .global g => fun _ => cond (Nat.blt g P.globals.size) (some (.ptr g 0)) none
  | .func f => fun _ => some (.fn f (.tag .nil) (.tag .nil))

structure ADf where
  fn : FuncId
  args : List SV

inductive Nx
  | val (v : SV) (m : Mem)
  | enter (f : FuncId) (args : List SV) (m : Mem)
  | round (l : Nat) (args : List SV) (m : Mem)
  | defer (d : ADf)
  | recover
  | panic (v : SV) (m : Mem)
  | bad

def vOf (m : Mem) : Option SV → Nx
  | some v => .val v m
  | none => .bad
def mOf : Option Mem → Nx
  | some m => .val .und m
  | none => .bad
def vmOf : Option (SV × Mem) → Nx
  | some x => .val x.1 x.2
  | none => .bad

/-! ### Integers and texts -/
def hiK : IntKind → Nat
  | .i8 => 128 | .i16 => 32768 | .i32 => 2147483648 | .i64 => 9223372036854775808
  | .u8 => 256 | .u16 => 65536 | .u32 => 4294967296 | .u64 => 18446744073709551616
def wrapF (k : IntKind) : Int → Int
  | .ofNat m => cond (Nat.blt m (hiK k)) (.ofNat m) (k.wrap (.ofNat m))
  | .negSucc m => k.wrap (.negSucc m)
def ieq : Int → Int → Bool
  | .ofNat a => fun y => match y with
    | .ofNat b => Nat.beq a b
    | .negSucc _ => false
  | .negSucc a => fun y => match y with
    | .ofNat _ => false
    | .negSucc b => Nat.beq a b
def ile : Int → Int → Bool
  | .ofNat a => fun y => match y with
    | .ofNat b => Nat.ble a b
    | .negSucc _ => false
  | .negSucc a => fun y => match y with
    | .ofNat _ => true
    | .negSucc b => Nat.ble b a
def numK : IntKind → Nat
  | .i8 => 0 | .i16 => 1 | .i32 => 2 | .i64 => 3 | .u8 => 4 | .u16 => 5 | .u32 => 6 | .u64 => 7
def beqK (j k : IntKind) : Bool := Nat.beq (numK j) (numK k)

def bits2 (f : Nat → Nat → Nat) (k : IntKind) : Int → Int → Option SV
  | .ofNat x => fun b => match b with
    | .ofNat y => cond (Nat.blt x (hiK k) && Nat.blt y (hiK k)) (some (.int k (.ofNat (f x y)))) none
    | .negSucc _ => none
  | .negSucc _ => fun _ => none
def intOp : BinOp → IntKind → Int → Int → Option SV
  | .add => fun k a b => some (.int k (wrapF k (a + b)))
  | .sub => fun k a b => some (.int k (wrapF k (a - b)))
  | .mul => fun k a b => some (.int k (wrapF k (a * b)))
  | .quo => fun k a b => cond (ieq b 0) none (some (.int k (wrapF k (a.tdiv b))))
  | .rem => fun k a b => cond (ieq b 0) none (some (.int k (a.tmod b)))
  | .and => fun k a b => bits2 Nat.land k a b
  | .or => fun k a b => bits2 Nat.lor k a b
  | .xor => fun k a b => bits2 Nat.xor k a b
  | .andNot => fun k a b => bits2 (fun x y => x - Nat.land x y) k a b
  | .eql => fun _ a b => some (.bool (ieq a b))
  | .neq => fun _ a b => some (.bool (!ieq a b))
  | .lss => fun _ a b => some (.bool (!ile b a))
  | .leq => fun _ a b => some (.bool (ile a b))
  | .gtr => fun _ a b => some (.bool (!ile a b))
  | .geq => fun _ a b => some (.bool (ile b a))
  | _ => fun _ _ _ => none
def shiftOp (op : BinOp) (k : IntKind) : Int → Int → Option SV
  | .ofNat x => fun b => match b with
    | .negSucc _ => none
    | .ofNat n => match op with
      | .shl => some (.int k (wrapF k (.ofNat (x * 2 ^ (min n k.bits)))))
      | .shr => some (.int k (.ofNat (x / 2 ^ (min n k.bits))))
      | _ => none
  | .negSucc _ => fun _ => none

def ueq (a b : UInt8) : Bool := Nat.beq a.toNat b.toNat
def seq : List UInt8 → List UInt8 → Bool
  | [] => fun y => match y with
    | [] => true
    | _ :: _ => false
  | a :: x => fun y => match y with
    | [] => false
    | b :: y => cond (ueq a b) (seq x y) false
def slt : List UInt8 → List UInt8 → Bool
  | [] => fun y => match y with
    | [] => false
    | _ :: _ => true
  | a :: x => fun y => match y with
    | [] => false
    | b :: y => cond (Nat.blt a.toNat b.toNat) true (cond (ueq a b) (slt x y) false)
def strOp : BinOp → List UInt8 → List UInt8 → Option SV
  | .add => fun x y => cond (Nat.ble (x.length + y.length) 1000000) (some (.str (x ++ y))) none
  | .eql => fun x y => some (.bool (seq x y))
  | .neq => fun x y => some (.bool (!seq x y))
  | .lss => fun x y => some (.bool (slt x y))
  | .leq => fun x y => some (.bool (!slt y x))
  | .gtr => fun x y => some (.bool (slt y x))
  | .geq => fun x y => some (.bool (!slt x y))
  | _ => fun _ _ => none

def SV.isNil : SV → Bool
  | .tag t => match t with
    | .nil | .mapp _ | .yld _ => false
    | _ => true
  | _ => false
def SV.isRef : SV → Bool
  | .ptr .. | .sl .. | .slo .. | .sle .. | .fn .. | .mth .. | .via .. | .ifc .. => true
  | .tag t => match t with
    | .mapp _ | .yld _ => true
    | _ => false
  | _ => false
/-- Equality, where it needs no memory: equal kinds of plain things; something against nothing. -/
def cellEq : SV → SV → Option Bool
  | .bool a => fun y => match y with
    | .bool b => some (cond a b (!b))
    | _ => none
  | .int k a => fun y => match y with
    | .int j b => cond (beqK k j) (some (ieq a b)) none
    | _ => none
  | .str a => fun y => match y with
    | .str b => some (seq a b)
    | _ => none
  | x => fun y => cond (x.isNil) (cond y.isNil (some true) (cond y.isRef (some false) none))
      (cond (x.isRef && y.isNil) (some false) none)
def cellsEq : List SV → List SV → Option Bool
  | [] => fun y => match y with
    | [] => some true
    | _ :: _ => none
  | a :: x => fun y => match y with
    | [] => none
    | b :: y => match cellEq a b with
      | none => none
      | some e => match cellsEq x y with
        | none => none
        | some r => some (cond e r false)

/-! ### Operations that look at types -/
section
variable (P : Program)

def okE (t : TypeId) : Bool := (P.info? t).isSome
def isAggD : TypeDesc → Bool
  | .struct _ | .array _ _ => true
  | _ => false

noncomputable def loadS (t : TypeId) (m : Mem) (nm off : Nat) : Option SV := match P.underlying t, m.get nm with
  | some d, .yes (.cells r _ _ _) => cond (isAggD d) (match r.list (P.cellsOf t) off with
      | none => none
      | some l => some (.agg (.ofL l))) (r.get off)
  | some d, .yes (.tab l _) => cond (isAggD d) none (nth l off)
  | _, _ => none

def repEq : SV → SV → Bool
  | .int j a => fun y => match y with
    | .int k b => beqK j k && ieq a b
    | _ => false
  | .bool a => fun y => match y with
    | .bool b => cond a b (!b)
    | _ => false
  | _ => fun _ => false
def allRep (v : SV) : List SV → Bool
  | [] => true
  | x :: l => cond (repEq v x) (allRep v l) false
/-- A variable's cells as a rope. -/
def litZ (l : List SV) : Rp := match l with
  | [] => .lit 0 []
  | v :: k => cond (Nat.blt 64 k.length) (cond (allRep v k) (.rep (k.length + 1) v) (.lit (k.length + 1) (v :: k))) (.lit (k.length + 1) (v :: k))
theorem repEq_eq {x y : SV} (h : repEq x y = true) : x = y := by
  cases x <;> cases y <;> simp only [repEq, Bool.false_eq_true, Bool.and_eq_true] at h
  · rename_i j a k b
    have h1 : j = k := by
      have := h.1
      unfold beqK at this
      cases j <;> cases k <;> first | rfl | (exact absurd this (by decide))
    have h2 : a = b := by
      have := h.2
      cases a <;> cases b <;> simp only [ieq, Bool.false_eq_true] at this
      · rw [Nat.eq_of_beq_eq_true this]
      · rw [Nat.eq_of_beq_eq_true this]
    rw [h1, h2]
  · rename_i a b
    cases a <;> cases b <;> first | rfl | (cases h)
theorem allRep_eq {v : SV} : ∀ {l : List SV}, allRep v l = true → l = List.replicate l.length v
  | [], _ => rfl
  | x :: l, h => by
    have h : cond (repEq v x) (allRep v l) false = true := h
    cases hr : repEq v x with
    | false => rw [hr] at h; cases h
    | true =>
      rw [hr] at h
      rw [← repEq_eq hr, List.length_cons, List.replicate_succ, ← allRep_eq h]
theorem litZ_ok (l : List SV) : (litZ l).ok ∧ (litZ l).toList = l ∧ (litZ l).size = l.length := by
  cases l with
  | nil => exact ⟨rfl, rfl, rfl⟩
  | cons v k =>
    show (cond _ _ _ : Rp).ok ∧ (cond _ _ _ : Rp).toList = _ ∧ (cond _ _ _ : Rp).size = _
    cases Nat.blt 64 k.length with
    | false => exact ⟨rfl, rfl, rfl⟩
    | true =>
      cases hr : allRep v k with
      | false => exact ⟨rfl, rfl, rfl⟩
      | true =>
        refine ⟨trivial, ?_, rfl⟩
        show List.replicate (k.length + 1) v = v :: k
        rw [List.replicate_succ, ← allRep_eq hr]
noncomputable def storeS (t : TypeId) (m : Mem) (nm off : Nat) (v : SV) : Option Mem := match m.get nm with
  | .yes (.cells r el o s) =>
    cond (Nat.beq v.cells.length (P.cellsOf t) && v.cells.all SV.one && Nat.ble (off + v.cells.length) r.size && (P.info? t).isSome)
      (match v.cells with
       | [x] => some (m.set nm (.cells (r.set x off) el o s))
       | cs => some (m.set nm (.cells (r.put off (litZ cs)) el o s)))
      none
  | _ => none

def sameV : Value → Value → Bool
  | .int k a => fun y => match y with
    | .int j b => beqK k j && ieq a b
    | _ => false
  | _ => fun _ => false
def allSame (v : Value) : List Value → Bool
  | [] => true
  | x :: l => cond (sameV v x) (allSame v l) false

def zeroCs (t : TypeId) : Option (List SV) := match P.info? t with
  | none => none
  | some i => match i.zero with
    | none => none
    | some z => match ofV z with
      | none => none
      | some x => some x.cells
/-- A variable's first cells. -/
def zeroRp (t : TypeId) : Option Rp := match P.info? t with
  | none => none
  | some i => match i.zero with
    | some (.agg ⟨v :: l⟩) => cond (Nat.ble l.length 63) (match ofVs (v :: l) with
        | none => none
        | some x => some (.lit (l.length + 1) x.toL))
      (cond (allSame v l) (match ofV v with
        | none => none
        | some x => some (.rep (l.length + 1) x)) none)
    | some (.agg ⟨[]⟩) => some (.lit 0 [])
    | some v => match ofV v with
      | none => none
      | some x => some (.lit 1 [x])
    | none => none
def zerosRp (t : TypeId) (n : Nat) : Option Rp := match n with
  | 0 => some (.lit 0 [])
  | n + 1 => match zeroCs P t with
    | none => none
    | some l => cond (Nat.beq l.length (P.cellsOf t)) (match l with
      | [v] => some (.rep (n + 1) v)
      | l => some (.lit ((n + 1) * l.length) ((List.range (n + 1)).flatMap fun _ => l))) none

def putAt (v : List SV) : Nat → List SV → Option (List SV)
  | 0 => fun l => cond (Nat.ble v.length l.length) (some (v ++ l.drop v.length)) none
  | n + 1 => fun l => match l with
    | [] => none
    | a :: l => match putAt v n l with
      | none => none
      | some r => some (a :: r)
def fillS (place : Nat → Option (Nat × Nat)) : List (Nat × SV) → List SV → Option (List SV)
  | [] => fun l => some l
  | p :: r => fun l => match place p.1 with
    | none => none
    | some q => cond (Nat.beq p.2.cells.length q.2 && p.2.nc) (match putAt p.2.cells q.1 l with
      | none => none
      | some l' => fillS place r l') none

def natOf : SV → Option Nat
  | .int _ n => match n with
    | .ofNat a => some a
    | .negSucc _ => none
  | _ => none
def natO (d : Nat) : Option SV → Option Nat
  | none => some d
  | some v => natOf v

/-- Bounds l ≤ h ≤ m ≤ c of a slicing. -/
def bnds (len c : Nat) (lo hi mx : Option SV) : Option (Nat × Nat × Nat) := match natO 0 lo, natO len hi, natO c mx with
  | some l, some h, some m => cond (Nat.ble l h && Nat.ble h m && Nat.ble m c && (hi.isSome || mx.isNone)) (some (l, h, m)) none
  | _, _, _ => none

noncomputable def sliceS (t : TypeId) (x : SV) (lo hi mx : Option SV) (mm : Mem) : Option SV := match P.underlying t with
  | some .string => match x with
    | .str s => match mx, bnds s.length s.length lo hi none with
      | none, some b => some (.str ((s.drop b.1).take (b.2.1 - b.1)))
      | _, _ => none
    | _ => none
  | some (.slice e) => cond (okE P e) (match x with
    | .tag .nils => match bnds 0 0 lo hi mx with
      | some _ => some (.tag .nils)
      | none => none
    | .sl nm off len cap => match bnds len cap lo hi mx with
      | some b => some (.sl nm (cond (Nat.beq b.2.2 b.1) off (off + b.1 * P.cellsOf e)) (b.2.1 - b.1) (b.2.2 - b.1))
      | none => none
    | .slo nm off len c => match mm.get nm with
      | .yes (.cells r el true _) => cond (Nat.beq off (c * P.cellsOf e) && Nat.beq (P.cellsOf el) (P.cellsOf e))
        (match bnds len ((r.size - off) / P.cellsOf e) lo hi mx with
          | some b => cond mx.isNone
              (cond (Nat.blt b.1 b.2.2 || Nat.beq b.1 0) (some (.slo nm (off + b.1 * P.cellsOf e) (b.2.1 - b.1) (c + b.1)))
                (some (.sle nm off b.1 (b.1 * P.cellsOf e) c)))
              (some (.sl nm (cond (Nat.beq b.2.2 b.1) off (off + b.1 * P.cellsOf e)) (b.2.1 - b.1) (b.2.2 - b.1)))
          | none => none) none
      | _ => none
    | _ => none) none
  | some (.array n e) => cond (okE P e) (match x with
    | .ptr nm off => match bnds n n lo hi mx with
      | some b => some (.sl nm (cond (Nat.beq b.2.2 b.1) off (off + b.1 * P.cellsOf e)) (b.2.1 - b.1) (b.2.2 - b.1))
      | none => none
    | _ => none) none
  | _ => none

def indexAddrS (t : TypeId) (x ix : SV) : Option SV := match natOf ix, P.underlying t with
  | some i, some (.array n e) => match x with
    | .ptr nm off => cond (Nat.blt i n && okE P e) (some (.ptr nm (off + i * P.cellsOf e))) none
    | _ => none
  | some i, some (.slice e) => match x with
    | .sl nm off len _ => cond (Nat.blt i len && okE P e) (some (.ptr nm (off + i * P.cellsOf e))) none
    | .slo nm off len _ => cond (Nat.blt i len && okE P e) (some (.ptr nm (off + i * P.cellsOf e))) none
    | _ => none
  | _, _ => none

def partS (t : TypeId) (cs : List SV) (off : Nat) : Option SV := match P.underlying t with
  | none => none
  | some d => cond (isAggD d) (some (.agg (.ofL ((cs.drop off).take (P.cellsOf t))))) (nth cs off)

def byteOf1 : SV → Option UInt8
  | .int k n => match k, n with
    | .u8, .ofNat a => cond (Nat.blt a 256) (some (UInt8.ofNat a)) none
    | _, _ => none
  | _ => none
def bytesL : List SV → Option (List UInt8)
  | [] => some []
  | v :: l => match byteOf1 v with
    | none => none
    | some b => match bytesL l with
      | none => none
      | some r => some (b :: r)
def u8s (s : List UInt8) : List SV := s.map fun b => .int .u8 b.toNat
/-- Runs of zeros apart: text of a string as cells. -/
def litL (l : List SV) : Rp := .lit l.length l

noncomputable def rowS (m : Mem) : SV → Option (Rp × Nat × Nat)
  | .sl nm off len _ | .slo nm off len _ => match m.get nm with
    | .yes (.cells r _ _ _) => some (r, off, len)
    | _ => none
  | _ => none

noncomputable def bytesS (m : Mem) (x : SV) : Option (List UInt8) := match x with
  | .tag .nils => some []
  | x => match rowS m x with
    | none => none
    | some q => match q.1.list q.2.2 q.2.1 with
      | none => none
      | some l => bytesL l

noncomputable def convS (src dst : TypeId) (x : SV) (m : Mem) : Option (SV × Mem) := match P.underlying src, P.underlying dst with
  | some _, some (.int k) => match x with
    | .int _ n => some (.int k (wrapF k n), m)
    | _ => none
  | some s, some .string => match x with
    | .int _ n => some (.str (Utf8.encode n).data.toList, m)
    | .str s => some (.str s, m)
    | x => match s with
      | .slice e => match P.underlying e with
        | some (.int .u8) => match bytesS m x with
          | some s => some (.str s, m)
          | none => none
        | _ => none
      | _ => none
  | some s, some (.slice e) => match P.underlying e with
    | some (.int .u8) => match x with
      | .str t => match s with
        | .string => cond (Nat.blt m.nxt 32768 && Nat.beq (P.cellsOf e) 1) (some (.slo m.nxt 0 t.length 0, m.new (.cells (litL (u8s t)) e true true))) none
        | _ => none
      | .sl nm _ _ _ | .slo nm _ _ _ => match s, m.get nm with
        | .slice _, .yes (.cells r el o _) => cond (Nat.beq src dst) (some (x, m.set nm (.cells r el o true))) none
        | _, _ => none
      | _ => none
    | _ => none
  | _, _ => none

/-- One-cell values alone. -/
def Rp.one : Rp → Bool
  | .lit _ l => l.all SV.one
  | .rep _ v => v.one
  | .cat _ a b => a.one && b.one
def zOK (e : TypeId) : Bool := match zeroCs P e with
  | some l => Nat.beq l.length (P.cellsOf e) && Nat.ble (P.bytesOf e) 1000000
  | none => false

def lenS : SV → Option Nat
  | .sl _ _ len _ | .slo _ _ len _ => some len
  | .sle .. => some 0
  | .tag .nils => some 0
  | .str s => some s.length
  | _ => none
/-- The first n elements of a slice or a string. -/
noncomputable def firstS (size n : Nat) (m : Mem) (x : SV) : Option Rp := match n with
  | 0 => some (.lit 0 [])
  | n + 1 => match x with
    | .str s => cond (Nat.beq size 1 && Nat.ble (n + 1) s.length) (some (litL (u8s (s.take (n + 1))))) none
    | x => match rowS m x with
      | none => none
      | some q => cond (Nat.ble (q.2.1 + (n + 1) * size) q.1.size) (some (q.1.sub q.2.1 ((n + 1) * size))) none

/-- A part that may be the whole. -/
def Rp.cut (r : Rp) (o n : Nat) : Rp := cond (Nat.beq o 0 && Nat.beq n r.size) r (r.sub o n)
/-- A rope and one more value, or a rope. -/
def Rp.push (v : SV) : Rp → Rp
  | .rep k u => cond (repEq u v) (.rep (k + 1) u) (Rp.cat' (.rep k u) (.rep 1 v))
  | .cat n a b => match b with
    | .rep k u => cond (repEq u v) (.cat (n + 1) a (.rep (k + 1) u)) (Rp.cat' (.cat n a (.rep k u)) (.rep 1 v))
    | b => Rp.cat' (.cat n a b) (.rep 1 v)
  | .lit n l => Rp.cat' (.lit n l) (.rep 1 v)
def Rp.snoc (a b : Rp) : Rp := match b with
  | .lit n l => match l with
    | [v] => cond (Nat.beq n 1) (a.push v) (Rp.cat' a (.lit n [v]))
    | l => Rp.cat' a (.lit n l)
  | b => Rp.cat' a b
theorem Rp.cut_ok {r : Rp} (h : r.ok) {o n : Nat} (hn : o + n ≤ r.size) : (r.cut o n).ok ∧ (r.cut o n).toList = (r.toList.drop o).take n ∧ (r.cut o n).size = n := by
  unfold Rp.cut
  cases hc : (Nat.beq o 0 && Nat.beq n r.size) with
  | false => exact Rp.sub_ok h hn
  | true =>
    simp only [Bool.and_eq_true] at hc
    have h1 := Nat.eq_of_beq_eq_true hc.1
    have h2 := Nat.eq_of_beq_eq_true hc.2
    subst h1
    subst h2
    refine ⟨h, ?_, rfl⟩
    rw [cond_true, List.drop_zero, ← Rp.length h, List.take_length]
theorem Rp.push_ok {a : Rp} (ha : a.ok) (v : SV) : (a.push v).ok ∧ (a.push v).toList = a.toList ++ [v] ∧ (a.push v).size = a.size + 1 := by
  have gen : ∀ {a : Rp}, a.ok → (Rp.cat' a (.rep 1 v)).ok ∧ (Rp.cat' a (.rep 1 v)).toList = a.toList ++ [v] ∧ (Rp.cat' a (.rep 1 v)).size = a.size + 1 := fun h => Rp.cat'_ok h (b := .rep 1 v) trivial
  cases a with
  | lit n l => exact gen ha
  | rep k u =>
    simp only [Rp.push]
    cases he : repEq u v with
    | false => exact gen ha
    | true =>
      rw [repEq_eq he]
      exact ⟨trivial, by simp only [cond_true, Rp.toList, List.replicate_succ'], rfl⟩
  | cat n x b =>
    cases b with
    | rep k u =>
      simp only [Rp.push]
      cases he : repEq u v with
      | false => exact gen ha
      | true =>
        obtain ⟨h1, h2, h3⟩ := ha
        rw [repEq_eq he]
        refine ⟨⟨?_, h2, trivial⟩, ?_, rfl⟩
        · simp only [Rp.size] at h1 ⊢
          omega
        · simp only [cond_true, Rp.toList, List.replicate_succ', List.append_assoc]
    | lit _ _ => exact gen ha
    | cat _ _ _ => exact gen ha
theorem Rp.snoc_ok {a b : Rp} (ha : a.ok) (hb : b.ok) : (Rp.snoc a b).ok ∧ (Rp.snoc a b).toList = a.toList ++ b.toList ∧ (Rp.snoc a b).size = a.size + b.size := by
  cases b with
  | rep k u => exact Rp.cat'_ok ha hb
  | cat n x y => exact Rp.cat'_ok ha hb
  | lit n l =>
    cases l with
    | nil => exact Rp.cat'_ok ha hb
    | cons v l =>
      cases l with
      | cons _ _ => exact Rp.cat'_ok ha hb
      | nil =>
        simp only [Rp.snoc]
        cases hn : Nat.beq n 1 with
        | false => exact Rp.cat'_ok ha hb
        | true =>
          have := Nat.eq_of_beq_eq_true hn
          subst this
          exact Rp.push_ok ha v
noncomputable def appendS (z : Bool) (t : TypeId) (s x : SV) (m : Mem) : Option (SV × Mem) := match P.underlying t with
  | some (.slice e) => match lenS s, cond z (natOf x) (lenS x) with
    | some sl, some n => match cond z (zerosRp P e n) (firstS (P.cellsOf e) n m x) with
      | none => none
      | some new => cond (Nat.blt (sl + n) 1000000 && okE P e && zOK P e && new.one && Nat.blt m.nxt 32768) (match s with
        | .tag .nils => cond (Nat.beq n 0) (some (.tag .nils, m)) (some (.slo m.nxt 0 n 0, m.new (.cells new e true false)))
        | .sl nm off _ cap => match m.get nm with
          | .yes (.cells r el o st) => cond (Nat.ble (sl + n) cap)
              (cond (Nat.ble (off + (sl + n) * P.cellsOf e) r.size) (some (.sl nm off (sl + n) cap, m.set nm (.cells (r.put (off + sl * P.cellsOf e) new) el o st))) none)
              (cond (Nat.ble (off + sl * P.cellsOf e) r.size) (some (.slo m.nxt 0 (sl + n) 0, m.new (.cells (Rp.snoc (r.cut off (sl * P.cellsOf e)) new) e true false))) none)
          | _ => none
        | .slo nm off _ c => match m.get nm with
          | .yes (.cells r el true st) => cond (Nat.beq off (c * P.cellsOf e) && Nat.beq (P.cellsOf el) (P.cellsOf e) && Nat.blt 0 (P.cellsOf e)) (cond (Nat.ble (off + (sl + n) * P.cellsOf e) r.size)
              (some (.slo nm off (sl + n) c, m.set nm (.cells (r.put (off + sl * P.cellsOf e) new) el true st)))
              (cond (Nat.beq off 0 && Nat.beq c 0 && Nat.beq el e && Nat.ble (sl * P.cellsOf e) r.size) (some (.slo m.nxt 0 (sl + n) 0, (m.kill nm).new (.cells (Rp.snoc (r.cut 0 (sl * P.cellsOf e)) new) e true st))) none)) none
          | _ => none
        | _ => none) none
    | _, _ => none
  | _ => none

def SV.row : SV → Bool
  | .sl .. | .slo .. | .sle .. => true
  | .tag t => match t with
    | .nils => true
    | _ => false
  | _ => false
noncomputable def copyS (t : TypeId) (d s : SV) (m : Mem) : Option (SV × Mem) := match P.underlying t with
  | some (.slice e) => match lenS d, lenS s with
    | some dl, some sl => cond (okE P e && d.row) (match Nat.min sl dl with
      | 0 => some (.int .i64 0, m)
      | n + 1 => match firstS (P.cellsOf e) (n + 1) m s, d with
        | some new, .sl nm off _ _ | some new, .slo nm off _ _ => match m.get nm with
          | .yes (.cells r el o st) => cond (Nat.ble (off + (n + 1) * P.cellsOf e) r.size && new.one) (some (.int .i64 (.ofNat (n + 1)), m.set nm (.cells (r.put off new) el o st))) none
          | _ => none
        | _, _ => none) none
    | _, _ => none
  | _ => none

/-- Is it the nothing of its type? -/
def isNilAt : TypeDesc → SV → Option Bool
  | .pointer _ => fun x => match x with
    | .ptr .. => some false
    | .tag t => match t with
      | .nilp => some true
      | _ => none
    | _ => none
  | .slice _ => fun x => match x with
    | .sl .. | .slo .. | .sle .. => some false
    | .tag t => match t with
      | .nils => some true
      | _ => none
    | _ => none
  | .map _ _ => fun x => match x with
    | .tag t => match t with
      | .nilm => some true
      | .mapp _ => some false
      | _ => none
    | _ => none
  | .func _ _ _ => fun x => match x with
    | .fn .. | .mth .. | .via .. => some false
    | .tag t => match t with
      | .nilf => some true
      | .yld _ => some false
      | _ => none
    | _ => none
  | .interface _ => fun x => match x with
    | .ifc .. => some false
    | .tag t => match t with
      | .nili => some true
      | _ => none
    | _ => none
  | _ => fun _ => none
def nilEq (D : TypeDesc) (x y : SV) : Option Bool := match isNilAt D x with
  | none => none
  | some a => match isNilAt D y with
    | none => none
    | some b => cond a (some b) (cond b (some false) none)
def eqF (eq : TypeId → SV → SV → Option Bool) (xs ys : List SV) : List Field → Option Bool
  | [] => some true
  | f :: fs => cond (f.name == "_") (eqF eq xs ys fs) (match partS P f.type xs f.offset with
    | none => none
    | some a => match partS P f.type ys f.offset with
      | none => none
      | some b => match eq f.type a b with
        | none => none
        | some r => cond r (eqF eq xs ys fs) (some false))
/-- Equality at a type, where it needs no memory: equal kinds of plain things; something against nothing; structs of such. -/
def eqT : Nat → TypeId → SV → SV → Option Bool
  | 0 => fun _ _ _ => none
  | d + 1 => fun t x y => match P.underlying t with
    | none => none
    | some D => match D with
      | .bool => match x with
        | .bool a => match y with
          | .bool b => some (cond a b (!b))
          | _ => none
        | _ => none
      | .int _ => match x with
        | .int k a => match y with
          | .int j b => cond (beqK k j) (some (ieq a b)) none
          | _ => none
        | _ => none
      | .string => match x with
        | .str a => match y with
          | .str b => some (seq a b)
          | _ => none
        | _ => none
      | .struct fs => match x with
        | .agg a => match y with
          | .agg b => cond (P.stoodInHeld t) none (eqF P (eqT d) a.toL b.toL fs.toList)
          | _ => none
        | _ => none
      | D => nilEq D x y
def findS (kt : TypeId) (k : SV) : List (SV × SV × Nat) → Nat → Option (Option (Nat × SV))
  | [] => fun _ => some none
  | e :: l => fun i => match eqT P 3 kt k e.1 with
    | none => none
    | some true => some (some (i, e.2.1))
    | some false => findS kt k l (i + 1)
/-- A key of plain parts. -/
def chkF (chk : TypeId → SV → Bool) (xs : List SV) : List Field → Bool
  | [] => true
  | f :: fs => cond (f.name == "_") (chkF chk xs fs) (match partS P f.type xs f.offset with
    | none => false
    | some a => cond (chk f.type a) (chkF chk xs fs) false)
def chkT : Nat → TypeId → SV → Bool
  | 0 => fun _ _ => false
  | d + 1 => fun t x => match P.underlying t with
    | none => false
    | some D => match D with
      | .bool | .int _ | .string => match x with
        | .bool _ | .int .. | .str _ => true
        | _ => false
      | .struct fs => match x with
        | .agg a => chkF P (chkT d) a.toL fs.toList
        | _ => false
      | _ => false
def same1 : SV → SV → Bool
  | .bool a => fun y => match y with
    | .bool b => cond a b (!b)
    | _ => false
  | .int k a => fun y => match y with
    | .int j b => cond (beqK k j) (ieq a b) false
    | _ => false
  | .str a => fun y => match y with
    | .str b => seq a b
    | _ => false
  | _ => fun _ => false
def sameL : List SV → List SV → Bool
  | [] => fun y => match y with
    | [] => true
    | _ => false
  | a :: l => fun y => match y with
    | [] => false
    | b :: r => cond (same1 a b) (sameL l r) false
def sameS : SV → SV → Bool
  | .agg a => fun y => match y with
    | .agg b => sameL a.toL b.toL
    | _ => false
  | x => same1 x

noncomputable def putE (kt : TypeId) (k v : SV) (m : Mem) (nm : Nat) (es : List (SV × SV × Nat)) (c : Nat) : Option Mem :=
  cond (chkT P 3 kt k) (match findS P kt k es 0 with
    | none => none
    | some none => some (m.set nm (.map (es ++ [(k, v, c)]) (c + 1)))
    | some (some p) => match nth es p.1 with
      | some q => cond (sameS q.1 k) (some (m.set nm (.map (setL (k, v, q.2.2) es p.1) c))) none
      | none => none) none
noncomputable def putM (kt : TypeId) (k v : SV) (m : Mem) : SV → Option Mem
  | .tag (.mapp nm) => match m.get nm with
    | .yes (.map es c) => putE P kt k v m nm es c
    | _ => none
  | _ => none
noncomputable def mapPut (t : TypeId) (k v : SV) (m : Mem) (x : SV) : Option Mem := match P.underlying t with
  | some (.map kt _) => putM P kt k v m x
  | _ => none
noncomputable def mapList (m : Mem) : SV → Option (List (SV × SV × Nat))
  | .tag .nilm => some []
  | .tag (.mapp nm) => match m.get nm with
    | .yes (.map es _) => some es
    | _ => none
  | _ => none
end
end Go.Ev
