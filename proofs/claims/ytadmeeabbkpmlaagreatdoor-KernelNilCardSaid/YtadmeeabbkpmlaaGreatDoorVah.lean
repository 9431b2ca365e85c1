/- The evaluator in stages: what is done most, by the recursors alone. The evaluator in stages: slots. The evaluator in stages: memory's places, one more element, a slice of one. The evaluator in stages: what the text alone decides is decided once. The evaluator in stages: regions, code, calls. -/
import Derived.Test.YtadmeeabbkpmlaaGreatDoorVag
set_option linter.unusedSimpArgs false
set_option linter.unusedVariables false
namespace Go.Ev
noncomputable def ocR (n : Nat) : Oc := Nat.rec (motive := fun _ => Oc) .a0 (fun n _ => Nat.rec (motive := fun _ => Oc) .a1 (fun n _ => Nat.rec (motive := fun _ => Oc) .a2 (fun n _ => Nat.rec (motive := fun _ => Oc) .a3 (fun n _ => Nat.rec (motive := fun _ => Oc) .a4 (fun n _ => Nat.rec (motive := fun _ => Oc) .a5 (fun n _ => Nat.rec (motive := fun _ => Oc) .a6 (fun _ _ => .a7) n) n) n) n) n) n) n
theorem ocR_eq (n : Nat) : ocR n = oc n := by
  match n with
  | 0 | 1 | 2 | 3 | 4 | 5 | 6 => rfl
  | _ + 7 => rfl
noncomputable def tgetR (t : M5) (n : Nat) : OB := M1.get (ocR (Nat.mod n 8)) (M2.get (ocR (Nat.mod (Nat.div n 8) 8)) (M3.get (ocR (Nat.mod (Nat.div n 64) 8)) (M4.get (ocR (Nat.mod (Nat.div n 512) 8)) (M5.get (ocR (Nat.mod (Nat.div n 4096) 8)) t))))
theorem tgetR_eq (t : M5) (n : Nat) : tgetR t n = tget t n := by
  unfold tgetR tget
  simp only [ocR_eq]
  rfl
noncomputable def tsetR (b : OB) (n : Nat) (t : M5) : M5 := M5.put (ocR (Nat.mod (Nat.div n 4096) 8)) (M4.put (ocR (Nat.mod (Nat.div n 512) 8)) (M3.put (ocR (Nat.mod (Nat.div n 64) 8)) (M2.put (ocR (Nat.mod (Nat.div n 8) 8)) (M1.put (ocR (Nat.mod n 8)) fun _ => b)))) t
theorem tsetR_eq (b : OB) (n : Nat) (t : M5) : tsetR b n t = tset b n t := by
  unfold tsetR tset
  simp only [ocR_eq]
  rfl
noncomputable def Mem.n (m : Mem) : Nat := Mem.rec (motive := fun _ => Nat) (fun n _ => n) m
noncomputable def Mem.getR (m : Mem) (n : Nat) : OB := Mem.rec (motive := fun _ => OB) (fun _ t => tgetR t n) m
noncomputable def Mem.setR (m : Mem) (n : Nat) (b : Blk) : Mem := Mem.rec (motive := fun _ => Mem) (fun k t => ⟨k, tsetR (.yes b) n t⟩) m
noncomputable def Mem.newR (m : Mem) (b : Blk) : Mem := Mem.rec (motive := fun _ => Mem) (fun k t => ⟨Nat.add k 1, tsetR (.yes b) k t⟩) m
noncomputable def Mem.renR (m : Mem) (n : Nat) (b : Blk) : Mem := Mem.rec (motive := fun _ => Mem) (fun k t => ⟨Nat.add k 1, tsetR (.yes b) k (tsetR .no n t)⟩) m
theorem Mem.n_eq (m : Mem) : m.n = m.nxt := rfl
theorem Mem.getR_eq (m : Mem) (n : Nat) : m.getR n = m.get n := tgetR_eq m.t n
theorem Mem.setR_eq (m : Mem) (n : Nat) (b : Blk) : m.setR n b = m.set n b := by
  show (⟨m.nxt, tsetR (.yes b) n m.t⟩ : Mem) = ⟨m.nxt, tset (.yes b) n m.t⟩
  rw [tsetR_eq]
theorem Mem.newR_eq (m : Mem) (b : Blk) : m.newR b = m.new b := by
  show (⟨m.nxt + 1, tsetR (.yes b) m.nxt m.t⟩ : Mem) = ⟨m.nxt + 1, tset (.yes b) m.nxt m.t⟩
  rw [tsetR_eq]
theorem Mem.renR_eq (m : Mem) (n : Nat) (b : Blk) : m.renR n b = (m.kill n).new b := by
  show (⟨m.nxt + 1, tsetR (.yes b) m.nxt (tsetR .no n m.t)⟩ : Mem) = ⟨m.nxt + 1, tset (.yes b) m.nxt (tset .no n m.t)⟩
  rw [tsetR_eq, tsetR_eq]

inductive OI | no | yes (k : IntKind) (n : Int)
inductive OP | no | yes (nm off : Nat)
inductive OW | no | yes (nm off len : Nat)
inductive ON | no | yes (n : Nat)
inductive OT | no | yes (b : Bool)
inductive OL | no | yes (l : SV)
inductive OC | no | yes (r : Rp) (el : TypeId) (o s : Bool)
noncomputable def asInt (v : SV) : OI := SV.rec (motive := fun _ => OI) (fun k n => .yes k n) (fun _ => .no) (fun _ _ => .no) (fun _ _ _ _ => .no) (fun _ _ _ _ => .no) (fun _ _ _ _ _ => .no) (fun _ => .no) (fun _ _ => .no) (fun _ _ => .no) (fun _ _ _ => .no) (fun _ _ _ _ _ => .no) (fun _ _ _ _ => .no) (fun _ _ _ _ _ _ => .no) (fun _ _ _ _ => .no) (fun _ => .no) v
noncomputable def asPtr (v : SV) : OP := SV.rec (motive := fun _ => OP) (fun _ _ => .no) (fun _ => .no) (fun nm off => .yes nm off) (fun _ _ _ _ => .no) (fun _ _ _ _ => .no) (fun _ _ _ _ _ => .no) (fun _ => .no) (fun _ _ => .no) (fun _ _ => .no) (fun _ _ _ => .no) (fun _ _ _ _ _ => .no) (fun _ _ _ _ => .no) (fun _ _ _ _ _ _ => .no) (fun _ _ _ _ => .no) (fun _ => .no) v
noncomputable def asRow (v : SV) : OW := SV.rec (motive := fun _ => OW) (fun _ _ => .no) (fun _ => .no) (fun _ _ => .no) (fun nm off len _ => .yes nm off len) (fun nm off len _ => .yes nm off len) (fun _ _ _ _ _ => .no) (fun _ => .no) (fun _ _ => .no) (fun _ _ => .no) (fun _ _ _ => .no) (fun _ _ _ _ _ => .no) (fun _ _ _ _ => .no) (fun _ _ _ _ _ _ => .no) (fun _ _ _ _ => .no) (fun _ => .no) v
noncomputable def asBool (v : SV) : OT := SV.rec (motive := fun _ => OT) (fun _ _ => .no) (fun b => .yes b) (fun _ _ => .no) (fun _ _ _ _ => .no) (fun _ _ _ _ => .no) (fun _ _ _ _ _ => .no) (fun _ => .no) (fun _ _ => .no) (fun _ _ => .no) (fun _ _ _ => .no) (fun _ _ _ _ _ => .no) (fun _ _ _ _ => .no) (fun _ _ _ _ _ _ => .no) (fun _ _ _ _ => .no) (fun _ => .no) v
noncomputable def asTup (v : SV) : OL := SV.rec (motive := fun _ => OL) (fun _ _ => .no) (fun _ => .no) (fun _ _ => .no) (fun _ _ _ _ => .no) (fun _ _ _ _ => .no) (fun _ _ _ _ _ => .no) (fun _ => .no) (fun _ _ => .no) (fun l _ => .yes l) (fun _ _ _ => .no) (fun _ _ _ _ _ => .no) (fun _ _ _ _ => .no) (fun _ _ _ _ _ _ => .no) (fun _ _ _ _ => .no) (fun _ => .no) v
noncomputable def oneR (v : SV) : Bool := SV.rec (motive := fun _ => Bool) (fun _ _ => true) (fun _ => true) (fun _ _ => true) (fun _ _ _ _ => true) (fun _ _ _ _ => true) (fun _ _ _ _ _ => true) (fun _ => true) (fun _ _ => false) (fun _ _ => false) (fun _ _ _ => true) (fun _ _ _ _ _ => true) (fun _ _ _ _ => true) (fun _ _ _ _ _ _ => true) (fun _ _ _ _ => false) (fun t => Tg.rec (motive := fun _ => Bool) true true true true true false (fun _ => true) (fun _ => true) t) v
noncomputable def asCells (b : OB) : OC := OB.rec (motive := fun _ => OC) .no (fun b => Blk.rec (motive := fun _ => OC) (fun r el o s => .yes r el o s) (fun _ _ => .no) (fun _ _ => .no) (fun _ _ _ _ _ _ _ _ => .no) (fun _ => .no) (fun _ _ => .no) b) b
noncomputable def natR (v : SV) : ON := OI.rec (motive := fun _ => ON) .no (fun _ n => Int.rec (motive := fun _ => ON) (fun a => .yes a) (fun _ => .no) n) (asInt v)
theorem oneR_eq (v : SV) : oneR v = v.one := by
  cases v <;> first
    | rfl
    | (rename_i t; cases t <;> rfl)
theorem cells_one {v : SV} (h : oneR v = true) : v.cells = [v] := by
  cases v <;> first
    | rfl
    | (cases h)

/-! ### Numbers -/
noncomputable def iadd (a b : Int) : Int := Int.rec (motive := fun _ => Int) (fun m => Int.rec (motive := fun _ => Int) (fun n => .ofNat (Nat.add m n)) (fun n => .ofNat m + .negSucc n) b) (fun m => .negSucc m + b) a
theorem iadd_eq (a b : Int) : iadd a b = a + b := by cases a <;> cases b <;> rfl
noncomputable def isub (a b : Int) : Int := Int.rec (motive := fun _ => Int) (fun m => Int.rec (motive := fun _ => Int) (fun n => cond (Nat.ble n m) (.ofNat (Nat.sub m n)) (.ofNat m - .ofNat n)) (fun n => .ofNat m - .negSucc n) b) (fun m => .negSucc m - b) a
theorem isub_eq (a b : Int) : isub a b = a - b := by
  cases a with
  | negSucc m => rfl
  | ofNat m =>
    cases b with
    | negSucc n => rfl
    | ofNat n =>
      show cond (Nat.ble n m) (Int.ofNat (m - n)) (Int.ofNat m - Int.ofNat n) = _
      cases h : Nat.ble n m with
      | false => rfl
      | true =>
        have := Nat.le_of_ble_eq_true h
        simp only [cond_true, Int.ofNat_eq_natCast]
        omega
noncomputable def imul (a b : Int) : Int := Int.rec (motive := fun _ => Int) (fun m => Int.rec (motive := fun _ => Int) (fun n => .ofNat (Nat.mul m n)) (fun n => .ofNat m * .negSucc n) b) (fun m => .negSucc m * b) a
theorem imul_eq (a b : Int) : imul a b = a * b := by cases a <;> cases b <;> rfl
noncomputable def wrapR (k : IntKind) (n : Int) : Int := Int.rec (motive := fun _ => Int) (fun m => cond (Nat.blt m (hiK k)) (.ofNat m) (k.wrap (.ofNat m))) (fun m => k.wrap (.negSucc m)) n
theorem wrapR_eq (k : IntKind) (n : Int) : wrapR k n = wrapF k n := by cases n <;> rfl
noncomputable def ieqR (a b : Int) : Bool := Int.rec (motive := fun _ => Bool) (fun m => Int.rec (motive := fun _ => Bool) (fun n => Nat.beq m n) (fun _ => false) b) (fun m => Int.rec (motive := fun _ => Bool) (fun _ => false) (fun n => Nat.beq m n) b) a
theorem ieqR_eq (a b : Int) : ieqR a b = ieq a b := by cases a <;> cases b <;> rfl
noncomputable def ileR (a b : Int) : Bool := Int.rec (motive := fun _ => Bool) (fun m => Int.rec (motive := fun _ => Bool) (fun n => Nat.ble m n) (fun _ => false) b) (fun m => Int.rec (motive := fun _ => Bool) (fun _ => true) (fun n => Nat.ble n m) b) a
theorem ileR_eq (a b : Int) : ileR a b = ile a b := by cases a <;> cases b <;> rfl
noncomputable def notR (b : Bool) : Bool := Bool.rec (motive := fun _ => Bool) true false b
theorem notR_eq (b : Bool) : notR b = !b := by cases b <;> rfl
noncomputable def remR (k : IntKind) (a b : Int) : Option SV := Int.rec (motive := fun _ => Option SV) (fun m => Int.rec (motive := fun _ => Option SV) (fun n => cond (Nat.beq n 0) none (some (.int k (.ofNat (Nat.mod m n))))) (fun n => intOp .rem k (.ofNat m) (.negSucc n)) b) (fun m => intOp .rem k (.negSucc m) b) a
theorem remR_eq (k : IntKind) (a b : Int) : remR k a b = intOp .rem k a b := by
  cases a <;> cases b <;> rfl
inductive BI | mk (f : IntKind → Int → Int → Option SV)
noncomputable def BI.run (b : BI) : IntKind → Int → Int → Option SV := BI.rec (fun f => f) b
noncomputable def intR (op : BinOp) : BI := match op with
  | .add => .mk fun k a b => some (.int k (wrapR k (iadd a b)))
  | .sub => .mk fun k a b => some (.int k (wrapR k (isub a b)))
  | .mul => .mk fun k a b => some (.int k (wrapR k (imul a b)))
  | .rem => .mk fun k a b => remR k a b
  | .eql => .mk fun _ a b => some (.bool (ieqR a b))
  | .neq => .mk fun _ a b => some (.bool (notR (ieqR a b)))
  | .lss => .mk fun _ a b => some (.bool (notR (ileR b a)))
  | .leq => .mk fun _ a b => some (.bool (ileR a b))
  | .gtr => .mk fun _ a b => some (.bool (notR (ileR a b)))
  | .geq => .mk fun _ a b => some (.bool (ileR b a))
  | op => .mk fun k a b => intOp op k a b
theorem intR_run (op : BinOp) (k : IntKind) (a b : Int) : (intR op).run k a b = intOp op k a b := by
  cases op <;> first
    | rfl
    | exact remR_eq k a b
    | (simp only [intR, intOp, BI.run, wrapR_eq, iadd_eq, isub_eq, imul_eq, ieqR_eq, ileR_eq, notR_eq]; done)

/-! ### Ropes -/
noncomputable def nthR (l : List SV) (i : Nat) : Option SV := List.rec (motive := fun _ => Nat → Option SV) (fun _ => none) (fun a _ ih i => Nat.rec (motive := fun _ => Option SV) (some a) (fun j _ => ih j) i) l i
theorem nthR_eq (l : List SV) : ∀ i, nthR l i = nth l i := by
  induction l with
  | nil => intro i; rfl
  | cons a l ih =>
    intro i
    cases i with
    | zero => rfl
    | succ j => exact ih j
noncomputable def setLR (v : SV) (l : List SV) (i : Nat) : List SV := List.rec (motive := fun _ => Nat → List SV) (fun _ => []) (fun a l ih i => Nat.rec (motive := fun _ => List SV) (v :: l) (fun j _ => a :: ih j) i) l i
theorem setLR_eq (v : SV) (l : List SV) : ∀ i, setLR v l i = setL v l i := by
  induction l with
  | nil => intro i; rfl
  | cons a l ih =>
    intro i
    cases i with
    | zero => rfl
    | succ j => exact congrArg (a :: ·) (ih j)
noncomputable def Rp.sizeR (r : Rp) : Nat := Rp.rec (motive := fun _ => Nat) (fun n _ => n) (fun n _ => n) (fun n _ _ _ _ => n) r
theorem Rp.sizeR_eq (r : Rp) : r.sizeR = r.size := by cases r <;> rfl
noncomputable def Rp.getR (r : Rp) (i : Nat) : Option SV := Rp.rec (motive := fun _ => Nat → Option SV) (fun _ l i => nthR l i) (fun n v i => cond (Nat.blt i n) (some v) none) (fun _ a _ iha ihb i => cond (Nat.blt i a.sizeR) (iha i) (ihb (Nat.sub i a.sizeR))) r i
theorem Rp.getR_eq (r : Rp) : ∀ i, r.getR i = r.get i := by
  induction r with
  | lit n l => intro i; exact nthR_eq l i
  | rep n v => intro i; rfl
  | cat n a b iha ihb =>
    intro i
    show cond (Nat.blt i a.sizeR) (a.getR i) (b.getR (i - a.sizeR)) = _
    rw [iha, ihb, Rp.sizeR_eq]
    rfl
noncomputable def Rp.setR (v : SV) (r : Rp) (i : Nat) : Rp := Rp.rec (motive := fun _ => Nat → Rp) (fun n l i => .lit n (setLR v l i)) (fun n x i => Rp.set v (.rep n x) i) (fun n a b iha ihb i => cond (Nat.blt i a.sizeR) (.cat n (iha i) b) (.cat n a (ihb (Nat.sub i a.sizeR)))) r i
theorem Rp.setR_eq (v : SV) (r : Rp) : ∀ i, Rp.setR v r i = r.set v i := by
  induction r with
  | lit n l => intro i; show Rp.lit n (setLR v l i) = _; rw [setLR_eq]; rfl
  | rep n x => intro i; rfl
  | cat n a b iha ihb =>
    intro i
    show cond (Nat.blt i a.sizeR) (Rp.cat n (Rp.setR v a i) b) (Rp.cat n a (Rp.setR v b (i - a.sizeR))) = _
    rw [iha, ihb, Rp.sizeR_eq]
    rfl

section
variable (P : Program)
inductive B2 | mk (f : SV → SV → Option SV)
noncomputable def B2.run (b : B2) : SV → SV → Option SV := B2.rec (fun f => f) b
def isShift : BinOp → Bool
  | .shl | .shr => true
  | _ => false
noncomputable def binC (t : TypeId) (op : BinOp) (k : Bool) : B2 := cond (isShift op) (.mk fun a b => binS P t op k a b)
  ((fun f : BI => .mk fun a b => OI.rec (motive := fun _ => Option SV) (binS P t op k a b) (fun j x => OI.rec (motive := fun _ => Option SV) (binS P t op k a b) (fun i y => cond (beqK j i) (f.run j x y) none) (asInt b)) (asInt a)) (intR op))
theorem binC_run (t : TypeId) (op : BinOp) (k : Bool) (a b : SV) : (binC P t op k).run a b = binS P t op k a b := by
  unfold binC
  cases hs : isShift op with
  | true => rfl
  | false =>
    show OI.rec (motive := fun _ => Option SV) (binS P t op k a b) (fun j x => OI.rec (motive := fun _ => Option SV) (binS P t op k a b) (fun i y => cond (beqK j i) ((intR op).run j x y) none) (asInt b)) (asInt a) = _
    cases a <;> first
      | rfl
      | (cases b <;> first
          | rfl
          | (rename_i j x i y
             show cond (beqK j i) ((intR op).run j x y) none = _
             rw [intR_run]
             cases op <;> first
               | rfl
               | (cases hs)))

inductive B3 | mk (f : Mem → Nat → Nat → Option SV)
noncomputable def B3.run (b : B3) : Mem → Nat → Nat → Option SV := B3.rec (fun f => f) b
noncomputable def loadC (t : TypeId) : B3 := match P.underlying t with
  | none => .mk fun _ _ _ => none
  | some d => cond (isAggD d) (.mk fun m nm off => loadS P t m nm off) (.mk fun m nm off => OC.rec (motive := fun _ => Option SV) (loadS P t m nm off) (fun r _ _ _ => r.getR off) (asCells (m.getR nm)))
theorem loadC_run (t : TypeId) (m : Mem) (nm off : Nat) : (loadC P t).run m nm off = loadS P t m nm off := by
  unfold loadC
  cases hu : P.underlying t with
  | none => unfold loadS; rw [hu]; cases m.get nm <;> rfl
  | some d =>
    simp only
    cases ha : isAggD d with
    | true => rfl
    | false =>
      show OC.rec (motive := fun _ => Option SV) (loadS P t m nm off) (fun r _ _ _ => r.getR off) (asCells (m.getR nm)) = _
      rw [Mem.getR_eq]
      cases hg : m.get nm with
      | no => rfl
      | yes b =>
        cases b with
        | cells r el o s =>
          show r.getR off = _
          unfold loadS
          rw [hu, hg]
          simp only [ha, cond_false]
          exact Rp.getR_eq r off
        | _ => rfl

inductive B4 | mk (f : Mem → Nat → Nat → SV → Option Mem)
noncomputable def B4.run (b : B4) : Mem → Nat → Nat → SV → Option Mem := B4.rec (fun f => f) b
noncomputable def storeC (t : TypeId) : B4 := cond (Nat.beq (P.cellsOf t) 1 && (P.info? t).isSome)
  (.mk fun m nm off v => cond (oneR v) (OC.rec (motive := fun _ => Option Mem) none (fun r el o s => cond (Nat.ble (Nat.add off 1) r.sizeR) (some (m.setR nm (.cells (Rp.setR v r off) el o s))) none) (asCells (m.getR nm))) (storeS P t m nm off v))
  (.mk fun m nm off v => storeS P t m nm off v)
theorem storeC_run (t : TypeId) (m : Mem) (nm off : Nat) (v : SV) : (storeC P t).run m nm off v = storeS P t m nm off v := by
  unfold storeC
  cases hc : (Nat.beq (P.cellsOf t) 1 && (P.info? t).isSome) with
  | false => rfl
  | true =>
    show cond (oneR v) (OC.rec (motive := fun _ => Option Mem) none (fun r el o s => cond (Nat.ble (Nat.add off 1) r.sizeR) (some (m.setR nm (.cells (Rp.setR v r off) el o s))) none) (asCells (m.getR nm))) (storeS P t m nm off v) = _
    cases ho : oneR v with
    | false => rfl
    | true =>
      have hv := cells_one ho
      rw [oneR_eq] at ho
      simp only [Bool.and_eq_true] at hc
      have h1 := Nat.eq_of_beq_eq_true hc.1
      unfold storeS
      rw [cond_true, hv]
      simp only [Mem.getR_eq, Mem.setR_eq]
      cases m.get nm with
      | no => rfl
      | yes b =>
        cases b with
        | cells r el o s =>
          have hb : Nat.beq [v].length (P.cellsOf t) = true := by rw [h1]; rfl
          simp only [hb, List.all_cons, List.all_nil, ho, hc.2, Bool.true_and, Bool.and_true]
          show cond (Nat.ble (off + 1) r.sizeR) (some (m.set nm (.cells (Rp.setR v r off) el o s))) none = _
          rw [Rp.setR_eq, Rp.sizeR_eq]
          rfl
        | _ => rfl

theorem natR_eq (v : SV) : natR v = (match natOf v with
    | some n => .yes n
    | none => .no) := by
  cases v <;> first
    | rfl
    | (rename_i k n; cases n <;> rfl)
noncomputable def idxAddrC (t : TypeId) : B2 := match P.underlying t with
  | some (.slice e) => cond (okE P e) ((fun c : Nat => .mk fun x ix => ON.rec (motive := fun _ => Option SV) none (fun i => OW.rec (motive := fun _ => Option SV) none (fun nm off len => cond (Nat.blt i len) (some (.ptr nm (Nat.add off (Nat.mul i c)))) none) (asRow x)) (natR ix)) (P.cellsOf e)) (.mk fun x ix => indexAddrS P t x ix)
  | _ => .mk fun x ix => indexAddrS P t x ix
theorem idxAddrC_run (t : TypeId) (x ix : SV) : (idxAddrC P t).run x ix = indexAddrS P t x ix := by
  unfold idxAddrC
  cases hu : P.underlying t with
  | none => rfl
  | some d =>
    cases d with
    | slice e =>
      simp only
      cases he : okE P e with
      | false => rfl
      | true =>
        show ON.rec (motive := fun _ => Option SV) none (fun i => OW.rec (motive := fun _ => Option SV) none (fun nm off len => cond (Nat.blt i len) (some (.ptr nm (Nat.add off (Nat.mul i (P.cellsOf e))))) none) (asRow x)) (natR ix) = _
        rw [natR_eq]
        unfold indexAddrS
        rw [hu]
        cases natOf ix with
        | none => rfl
        | some i =>
          simp only [he, Bool.and_true]
          cases x <;> rfl
    | _ => rfl
inductive B1 | mk (f : SV → Option SV)
noncomputable def B1.run (b : B1) : SV → Option SV := B1.rec (fun f => f) b
noncomputable def lenR (v : SV) : Option SV := SV.rec (motive := fun _ => Option SV) (fun _ _ => none) (fun _ => none) (fun _ _ => none) (fun _ _ n _ => some (.int .i64 (.ofNat n))) (fun _ _ n _ => some (.int .i64 (.ofNat n))) (fun _ _ _ _ _ => some (.int .i64 (.ofNat 0))) (fun _ => none) (fun _ _ => none) (fun _ _ => none) (fun _ _ _ => none) (fun _ _ _ _ _ => none) (fun _ _ _ _ => none) (fun _ _ _ _ _ _ => none) (fun _ _ _ _ => none) (fun t => Tg.rec (motive := fun _ => Option SV) none (some (.int .i64 (.ofNat 0))) none none none none (fun _ => none) (fun _ => none) t) v
def isSliceD : Option TypeDesc → Bool
  | some (.slice _) => true
  | _ => false
theorem lenR_eq {t : TypeId} (h : isSliceD (P.underlying t) = true) (x : SV) (m : Mem) : lenR x = lenB P t x m := by
  unfold lenB
  cases hu : P.underlying t with
  | none => rw [hu] at h; cases h
  | some d =>
    rw [hu] at h
    cases d with
    | slice e =>
      cases x <;> first
        | rfl
        | (rename_i t; cases t <;> rfl)
    | _ => cases h
noncomputable def vOfR (m : Mem) (o : Option SV) : Nx := Option.rec (motive := fun _ => Nx) .bad (fun v => .val v m) o
theorem vOfR_eq (m : Mem) (o : Option SV) : vOfR m o = vOf m o := by cases o <;> rfl
end
end Go.Ev
namespace Go.Ev
inductive G1 | mk (f : E1 → SV)
inductive G2 | mk (f : E2 → SV)
inductive G3 | mk (f : E3 → SV)
inductive S1 | mk (f : SV → E1 → E1)
inductive S2 | mk (f : SV → E2 → E2)
inductive S3 | mk (f : SV → E3 → E3)
noncomputable def G1.run (b : G1) : E1 → SV := G1.rec (fun f => f) b
noncomputable def S1.run (b : S1) : SV → E1 → E1 := S1.rec (fun f => f) b
noncomputable def G2.run (b : G2) : E2 → SV := G2.rec (fun f => f) b
noncomputable def S2.run (b : S2) : SV → E2 → E2 := S2.rec (fun f => f) b
noncomputable def G3.run (b : G3) : E3 → SV := G3.rec (fun f => f) b
noncomputable def S3.run (b : S3) : SV → E3 → E3 := S3.rec (fun f => f) b
noncomputable def get1 (d : Oc) : G1 := Oc.rec (motive := fun _ => G1) (.mk fun x => E1.rec (motive := fun _ => SV) (fun c0 _ _ _ _ _ _ _ => c0) x) (.mk fun x => E1.rec (motive := fun _ => SV) (fun _ c1 _ _ _ _ _ _ => c1) x) (.mk fun x => E1.rec (motive := fun _ => SV) (fun _ _ c2 _ _ _ _ _ => c2) x) (.mk fun x => E1.rec (motive := fun _ => SV) (fun _ _ _ c3 _ _ _ _ => c3) x) (.mk fun x => E1.rec (motive := fun _ => SV) (fun _ _ _ _ c4 _ _ _ => c4) x) (.mk fun x => E1.rec (motive := fun _ => SV) (fun _ _ _ _ _ c5 _ _ => c5) x) (.mk fun x => E1.rec (motive := fun _ => SV) (fun _ _ _ _ _ _ c6 _ => c6) x) (.mk fun x => E1.rec (motive := fun _ => SV) (fun _ _ _ _ _ _ _ c7 => c7) x) d
noncomputable def get2 (d : Oc) (g : G1) : G2 := G1.rec (motive := fun _ => G2) (fun f => Oc.rec (motive := fun _ => G2) (.mk fun x => f (E2.rec (motive := fun _ => E1) (fun c0 _ _ _ _ _ _ _ => c0) x)) (.mk fun x => f (E2.rec (motive := fun _ => E1) (fun _ c1 _ _ _ _ _ _ => c1) x)) (.mk fun x => f (E2.rec (motive := fun _ => E1) (fun _ _ c2 _ _ _ _ _ => c2) x)) (.mk fun x => f (E2.rec (motive := fun _ => E1) (fun _ _ _ c3 _ _ _ _ => c3) x)) (.mk fun x => f (E2.rec (motive := fun _ => E1) (fun _ _ _ _ c4 _ _ _ => c4) x)) (.mk fun x => f (E2.rec (motive := fun _ => E1) (fun _ _ _ _ _ c5 _ _ => c5) x)) (.mk fun x => f (E2.rec (motive := fun _ => E1) (fun _ _ _ _ _ _ c6 _ => c6) x)) (.mk fun x => f (E2.rec (motive := fun _ => E1) (fun _ _ _ _ _ _ _ c7 => c7) x)) d) g
noncomputable def get3 (d : Oc) (g : G2) : G3 := G2.rec (motive := fun _ => G3) (fun f => Oc.rec (motive := fun _ => G3) (.mk fun x => f (E3.rec (motive := fun _ => E2) (fun c0 _ _ _ _ _ _ _ => c0) x)) (.mk fun x => f (E3.rec (motive := fun _ => E2) (fun _ c1 _ _ _ _ _ _ => c1) x)) (.mk fun x => f (E3.rec (motive := fun _ => E2) (fun _ _ c2 _ _ _ _ _ => c2) x)) (.mk fun x => f (E3.rec (motive := fun _ => E2) (fun _ _ _ c3 _ _ _ _ => c3) x)) (.mk fun x => f (E3.rec (motive := fun _ => E2) (fun _ _ _ _ c4 _ _ _ => c4) x)) (.mk fun x => f (E3.rec (motive := fun _ => E2) (fun _ _ _ _ _ c5 _ _ => c5) x)) (.mk fun x => f (E3.rec (motive := fun _ => E2) (fun _ _ _ _ _ _ c6 _ => c6) x)) (.mk fun x => f (E3.rec (motive := fun _ => E2) (fun _ _ _ _ _ _ _ c7 => c7) x)) d) g
noncomputable def set1 (d : Oc) : S1 := Oc.rec (motive := fun _ => S1) (.mk fun v x => E1.rec (motive := fun _ => E1) (fun _ c1 c2 c3 c4 c5 c6 c7 => .mk v c1 c2 c3 c4 c5 c6 c7) x) (.mk fun v x => E1.rec (motive := fun _ => E1) (fun c0 _ c2 c3 c4 c5 c6 c7 => .mk c0 v c2 c3 c4 c5 c6 c7) x) (.mk fun v x => E1.rec (motive := fun _ => E1) (fun c0 c1 _ c3 c4 c5 c6 c7 => .mk c0 c1 v c3 c4 c5 c6 c7) x) (.mk fun v x => E1.rec (motive := fun _ => E1) (fun c0 c1 c2 _ c4 c5 c6 c7 => .mk c0 c1 c2 v c4 c5 c6 c7) x) (.mk fun v x => E1.rec (motive := fun _ => E1) (fun c0 c1 c2 c3 _ c5 c6 c7 => .mk c0 c1 c2 c3 v c5 c6 c7) x) (.mk fun v x => E1.rec (motive := fun _ => E1) (fun c0 c1 c2 c3 c4 _ c6 c7 => .mk c0 c1 c2 c3 c4 v c6 c7) x) (.mk fun v x => E1.rec (motive := fun _ => E1) (fun c0 c1 c2 c3 c4 c5 _ c7 => .mk c0 c1 c2 c3 c4 c5 v c7) x) (.mk fun v x => E1.rec (motive := fun _ => E1) (fun c0 c1 c2 c3 c4 c5 c6 _ => .mk c0 c1 c2 c3 c4 c5 c6 v) x) d
noncomputable def set2 (d : Oc) (s : S1) : S2 := S1.rec (motive := fun _ => S2) (fun f => Oc.rec (motive := fun _ => S2) (.mk fun v x => E2.rec (motive := fun _ => E2) (fun c0 c1 c2 c3 c4 c5 c6 c7 => .mk (f v c0) c1 c2 c3 c4 c5 c6 c7) x) (.mk fun v x => E2.rec (motive := fun _ => E2) (fun c0 c1 c2 c3 c4 c5 c6 c7 => .mk c0 (f v c1) c2 c3 c4 c5 c6 c7) x) (.mk fun v x => E2.rec (motive := fun _ => E2) (fun c0 c1 c2 c3 c4 c5 c6 c7 => .mk c0 c1 (f v c2) c3 c4 c5 c6 c7) x) (.mk fun v x => E2.rec (motive := fun _ => E2) (fun c0 c1 c2 c3 c4 c5 c6 c7 => .mk c0 c1 c2 (f v c3) c4 c5 c6 c7) x) (.mk fun v x => E2.rec (motive := fun _ => E2) (fun c0 c1 c2 c3 c4 c5 c6 c7 => .mk c0 c1 c2 c3 (f v c4) c5 c6 c7) x) (.mk fun v x => E2.rec (motive := fun _ => E2) (fun c0 c1 c2 c3 c4 c5 c6 c7 => .mk c0 c1 c2 c3 c4 (f v c5) c6 c7) x) (.mk fun v x => E2.rec (motive := fun _ => E2) (fun c0 c1 c2 c3 c4 c5 c6 c7 => .mk c0 c1 c2 c3 c4 c5 (f v c6) c7) x) (.mk fun v x => E2.rec (motive := fun _ => E2) (fun c0 c1 c2 c3 c4 c5 c6 c7 => .mk c0 c1 c2 c3 c4 c5 c6 (f v c7)) x) d) s
noncomputable def set3 (d : Oc) (s : S2) : S3 := S2.rec (motive := fun _ => S3) (fun f => Oc.rec (motive := fun _ => S3) (.mk fun v x => E3.rec (motive := fun _ => E3) (fun c0 c1 c2 c3 c4 c5 c6 c7 => .mk (f v c0) c1 c2 c3 c4 c5 c6 c7) x) (.mk fun v x => E3.rec (motive := fun _ => E3) (fun c0 c1 c2 c3 c4 c5 c6 c7 => .mk c0 (f v c1) c2 c3 c4 c5 c6 c7) x) (.mk fun v x => E3.rec (motive := fun _ => E3) (fun c0 c1 c2 c3 c4 c5 c6 c7 => .mk c0 c1 (f v c2) c3 c4 c5 c6 c7) x) (.mk fun v x => E3.rec (motive := fun _ => E3) (fun c0 c1 c2 c3 c4 c5 c6 c7 => .mk c0 c1 c2 (f v c3) c4 c5 c6 c7) x) (.mk fun v x => E3.rec (motive := fun _ => E3) (fun c0 c1 c2 c3 c4 c5 c6 c7 => .mk c0 c1 c2 c3 (f v c4) c5 c6 c7) x) (.mk fun v x => E3.rec (motive := fun _ => E3) (fun c0 c1 c2 c3 c4 c5 c6 c7 => .mk c0 c1 c2 c3 c4 (f v c5) c6 c7) x) (.mk fun v x => E3.rec (motive := fun _ => E3) (fun c0 c1 c2 c3 c4 c5 c6 c7 => .mk c0 c1 c2 c3 c4 c5 (f v c6) c7) x) (.mk fun v x => E3.rec (motive := fun _ => E3) (fun c0 c1 c2 c3 c4 c5 c6 c7 => .mk c0 c1 c2 c3 c4 c5 c6 (f v c7)) x) d) s
theorem get1_run (d : Oc) (x : E1) : (get1 d).run x = E1.get d x := by cases d <;> rfl
theorem get2_run (d : Oc) (g : G1) (x : E2) : (get2 d g).run x = g.run (E2.get d x) := by cases g; cases d <;> rfl
theorem get3_run (d : Oc) (g : G2) (x : E3) : (get3 d g).run x = g.run (E3.get d x) := by cases g; cases d <;> rfl
theorem set1_run (d : Oc) (v : SV) (x : E1) : (set1 d).run v x = E1.put d (fun _ => v) x := by cases d <;> cases x <;> rfl
theorem set2_run (d : Oc) (s : S1) (v : SV) (x : E2) : (set2 d s).run v x = E2.put d (fun y => s.run v y) x := by cases s; cases d <;> cases x <;> rfl
theorem set3_run (d : Oc) (s : S2) (v : SV) (x : E3) : (set3 d s).run v x = E3.put d (fun y => s.run v y) x := by cases s; cases d <;> cases x <;> rfl
noncomputable def getT (t : Nat) : G3 := get3 (dig3 t).a (get2 (dig3 t).b (get1 (dig3 t).c))
noncomputable def setT (t : Nat) : S3 := set3 (dig3 t).a (set2 (dig3 t).b (set1 (dig3 t).c))
theorem getT_run (t : Nat) (e : Env) : (getT t).run e = e.get t := by
  unfold getT Env.get
  rw [get3_run, get2_run, get1_run]
theorem setT_run (t : Nat) (v : SV) (e : Env) : (setT t).run v e = e.set t v := by
  unfold setT Env.set
  rw [set3_run]
  congr 1
  funext y
  rw [set2_run]
  congr 1
  funext z
  exact set1_run _ _ _
end Go.Ev
namespace Go.Ev
inductive OS | no | yes (nm off len e : Nat)
inductive OR | no | yes (k : Nat) (l : List SV)
noncomputable def asLit (r : Rp) : OR := Rp.rec (motive := fun _ => OR) (fun k l => .yes k l) (fun _ _ => .no) (fun _ _ _ _ _ => .no) r
noncomputable def asSlo (v : SV) : OS := SV.rec (motive := fun _ => OS) (fun _ _ => .no) (fun _ => .no) (fun _ _ => .no) (fun _ _ _ _ => .no) (fun nm off len e => .yes nm off len e) (fun _ _ _ _ _ => .no) (fun _ => .no) (fun _ _ => .no) (fun _ _ => .no) (fun _ _ _ => .no) (fun _ _ _ _ _ => .no) (fun _ _ _ _ => .no) (fun _ _ _ _ _ _ => .no) (fun _ _ _ _ => .no) (fun _ => .no) v
noncomputable def nilOkR (v : SV) : Bool := SV.rec (motive := fun _ => Bool) (fun _ _ => false) (fun _ => false) (fun _ _ => true) (fun _ _ _ _ => false) (fun _ _ _ _ => false) (fun _ _ _ _ _ => false) (fun _ => false) (fun _ _ => false) (fun _ _ => false) (fun _ _ _ => true) (fun _ _ _ _ _ => true) (fun _ _ _ _ => false) (fun _ _ _ _ _ _ => true) (fun _ _ _ _ => false) (fun t => Tg.rec (motive := fun _ => Bool) false false false false false false (fun _ => false) (fun _ => true) t) v
theorem nilOkR_eq (v : SV) : nilOkR v = nilOk v := by
  cases v <;> first
    | rfl
    | (rename_i t; cases t <;> rfl)
noncomputable def repEqR (x y : SV) : Bool := OI.rec (motive := fun _ => Bool) (repEq x y) (fun j a => OI.rec (motive := fun _ => Bool) (repEq x y) (fun k b => cond (beqK j k) (ieqR a b) false) (asInt y)) (asInt x)
theorem repEqR_eq (x y : SV) : repEqR x y = repEq x y := by
  cases x <;> first
    | rfl
    | (cases y <;> first
        | rfl
        | (rename_i j a k b
           show cond (beqK j k) (ieqR a b) false = (beqK j k && ieq a b)
           rw [ieqR_eq]
           cases beqK j k <;> rfl))
noncomputable def Rp.pushR (v : SV) (r : Rp) : Rp := Rp.rec (motive := fun _ => Rp) (fun n l => Rp.push v (.lit n l)) (fun k u => cond (repEqR u v) (.rep (Nat.add k 1) u) (Rp.push v (.rep k u)))
  (fun n a b _ _ => Rp.rec (motive := fun _ => Rp) (fun k l => Rp.push v (.cat n a (.lit k l))) (fun k u => cond (repEqR u v) (.cat (Nat.add n 1) a (.rep (Nat.add k 1) u)) (Rp.push v (.cat n a (.rep k u)))) (fun k x y _ _ => Rp.push v (.cat n a (.cat k x y))) b) r
theorem Rp.pushR_eq (v : SV) (r : Rp) : Rp.pushR v r = Rp.push v r := by
  cases r with
  | lit n l => rfl
  | rep k u =>
    show cond (repEqR u v) (.rep (k + 1) u) (Rp.push v (.rep k u)) = _
    rw [repEqR_eq]
    simp only [Rp.push]
    cases repEq u v <;> rfl
  | cat n a b =>
    cases b with
    | lit k l => rfl
    | cat k x y => rfl
    | rep k u =>
      show cond (repEqR u v) (.cat (n + 1) a (.rep (k + 1) u)) (Rp.push v (.cat n a (.rep k u))) = _
      rw [repEqR_eq]
      simp only [Rp.push]
      cases repEq u v <;> rfl

section
variable (P : Program)
inductive B5 | mk (f : SV → SV → Mem → Nx)
noncomputable def B5.run (b : B5) : SV → SV → Mem → Nx := B5.rec (fun f => f) b
def appOK (e : TypeId) : Bool := okE P e && zOK P e && Nat.beq (P.cellsOf e) 1
/-- One more element behind a row that ends at its block's end. -/
noncomputable def app1 (e : TypeId) (s x : SV) (m : Mem) (g : Nx) : Nx :=
  OS.rec (motive := fun _ => Nx) g (fun nm off len c => OW.rec (motive := fun _ => Nx) g (fun nm2 o2 n2 => cond (Nat.beq off 0) (cond (Nat.beq c 0) (cond (Nat.beq n2 1)
    (OC.rec (motive := fun _ => Nx) g (fun r2 _ _ _ => OR.rec (motive := fun _ => Nx) g (fun k l => Option.rec (motive := fun _ => Nx) g (fun v => cond (oneR v) (cond (Nat.ble (Nat.add o2 1) k)
      (OC.rec (motive := fun _ => Nx) g (fun r el o st => cond o (cond (Nat.beq el e) (cond (Nat.beq len r.sizeR) (cond (Nat.blt (Nat.add len 1) 1000000) (cond (Nat.blt m.n 32768)
        (.val (.slo m.n 0 (Nat.add len 1) 0) (m.renR nm (.cells (Rp.pushR v r) e true st))) g) g) g) g) g) (asCells (m.getR nm))) g) g) (nthR l o2)) (asLit r2)) (asCells (m.getR nm2))) g) g) g) (asRow x)) (asSlo s)
theorem app1_eq {t e : TypeId} (hu : P.underlying t = some (.slice e)) (hE : appOK P e = true) (s x : SV) (m : Mem) : app1 e s x m (vmOf (appendS P false t s x m)) = vmOf (appendS P false t s x m) := by
  simp only [appOK, Bool.and_eq_true] at hE
  obtain ⟨⟨hE1, hE2⟩, hE3⟩ := hE
  have hc1 : P.cellsOf e = 1 := Nat.eq_of_beq_eq_true hE3
  generalize hg : vmOf (appendS P false t s x m) = g
  cases s <;> first
    | rfl
    | skip
  rename_i nm off len c
  have key : ∀ (nm2 o2 n2 : Nat) (k : Nat) (l : List SV) (el2 : TypeId) (b2 b3 : Bool) (v : SV) (r : Rp) (st : Bool), lenS x = some n2 → rowS m x = (match m.get nm2 with
      | .yes (.cells r _ _ _) => some (r, o2, n2)
      | _ => none) → (∀ t, x ≠ .str t) → off = 0 → c = 0 → n2 = 1 → m.get nm2 = .yes (.cells (.lit k l) el2 b2 b3) → nth l o2 = some v → v.one = true → o2 + 1 ≤ k → m.get nm = .yes (.cells r e true st) → len = r.size → len + 1 < 1000000 → m.nxt < 32768 →
      .val (.slo m.nxt 0 (len + 1) 0) ((m.kill nm).new (.cells (Rp.push v r) e true st)) = g := by
    intro nm2 o2 n2 k l el2 b2 b3 v r st h1 h2 h3 e1 e2 e3 h4 h5 h6 h7 h8 h9 h10 h11
    subst e1
    subst e2
    subst e3
    rw [h4] at h2
    simp only at h2
    have hsub : (l.drop o2).take 1 = [v] := by
      rw [nth_eq] at h5
      have hlt : o2 < l.length := (List.getElem?_eq_some_iff.1 h5).1
      rw [List.drop_eq_getElem_cons hlt]
      have : l[o2] = v := (List.getElem?_eq_some_iff.1 h5).2
      rw [this]
      rfl
    have hfirst : firstS (P.cellsOf e) 1 m x = some (.lit 1 [v]) := by
      have h7' : Nat.ble (o2 + (0 + 1) * P.cellsOf e) (Rp.lit k l).size = true := by
        rw [hc1]
        rw [Nat.ble_eq]; exact h7
      have : firstS (P.cellsOf e) (0 + 1) m x = (match rowS m x with
          | none => none
          | some q => cond (Nat.ble (q.2.1 + (0 + 1) * P.cellsOf e) q.1.size) (some (q.1.sub q.2.1 ((0 + 1) * P.cellsOf e))) none) := by
        cases x <;> first
          | rfl
          | (exact absurd rfl (h3 _))
      rw [show (1 : Nat) = 0 + 1 from rfl, this, h2]
      simp only [h7', cond_true]
      rw [hc1]
      simp only [Rp.sub]
      rw [show (0 + 1) * 1 = 1 from rfl, hsub]
    rw [← hg]
    unfold appendS
    rw [hu]
    have hls : lenS (.slo nm 0 len 0) = some len := rfl
    simp only [hls, h1, cond_false, hfirst]
    have h10' : Nat.blt (len + 1) 1000000 = true := by simpa using h10
    have h11' : Nat.blt m.nxt 32768 = true := by simpa using h11
    have hone : (Rp.lit 1 [v]).one = true := by simp only [Rp.one, List.all_cons, List.all_nil, h6, Bool.and_true]
    simp only [h10', h11', hone, hE1, hE2, Bool.and_self, cond_true, h8]
    rw [hc1]
    have hno : Nat.ble (0 + (len + 1) * 1) r.size = false := by
      rw [← h9]
      cases hb : Nat.ble (0 + (len + 1) * 1) len with
      | false => rfl
      | true => have := Nat.le_of_ble_eq_true hb; omega
    have hfit : Nat.ble (len * 1) r.size = true := by rw [Nat.ble_eq]; omega
    have hself : Nat.beq e e = true := Nat.beq_refl e
    have h01 : Nat.beq 0 (0 * 1) = true := rfl
    have h00 : Nat.beq 0 0 = true := rfl
    have h11'' : Nat.beq 1 1 = true := rfl
    have hlt1 : Nat.blt 0 1 = true := rfl
    simp only [h01, h11'', hlt1, Bool.and_self, cond_true, hno, cond_false, h00, hself, hfit, vmOf]
    congr 2
    congr 1
    have hcut : r.cut 0 (len * 1) = r := by
      unfold Rp.cut
      have : Nat.beq (len * 1) r.size = true := by rw [h9, Nat.mul_one]; exact Nat.beq_refl _
      rw [h00, this]
      rfl
    rw [hcut]
    rfl
  have go : ∀ (nm2 o2 n2 : Nat), lenS x = some n2 → rowS m x = (match m.get nm2 with
      | .yes (.cells r _ _ _) => some (r, o2, n2)
      | _ => none) → (∀ t, x ≠ .str t) → cond (Nat.beq off 0) (cond (Nat.beq c 0) (cond (Nat.beq n2 1)
    (OC.rec (motive := fun _ => Nx) g (fun r2 _ _ _ => OR.rec (motive := fun _ => Nx) g (fun k l => Option.rec (motive := fun _ => Nx) g (fun v => cond (oneR v) (cond (Nat.ble (Nat.add o2 1) k)
      (OC.rec (motive := fun _ => Nx) g (fun r el o st => cond o (cond (Nat.beq el e) (cond (Nat.beq len r.sizeR) (cond (Nat.blt (Nat.add len 1) 1000000) (cond (Nat.blt m.n 32768)
        (.val (.slo m.n 0 (Nat.add len 1) 0) (m.renR nm (.cells (Rp.pushR v r) e true st))) g) g) g) g) g) (asCells (m.getR nm))) g) g) (nthR l o2)) (asLit r2)) (asCells (m.getR nm2))) g) g) g = g := by
    intro nm2 o2 n2 h1 h2 h3
    cases e1 : Nat.beq off 0 <;> first | rfl | skip
    cases e2 : Nat.beq c 0 <;> first | rfl | skip
    cases e3 : Nat.beq n2 1 <;> first | rfl | skip
    simp only [cond_true, Mem.getR_eq]
    cases h4 : m.get nm2 with
    | no => rfl
    | yes b =>
      cases b with
      | cells r2 el2 b2 b3 =>
        cases r2 with
        | lit k l =>
          show Option.rec (motive := fun _ => Nx) g _ (nthR l o2) = g
          rw [nthR_eq]
          cases h5 : nth l o2 with
          | none => rfl
          | some v =>
            simp only
            rw [oneR_eq]
            cases h6 : v.one <;> first | rfl | skip
            cases h7 : Nat.ble (Nat.add o2 1) k <;> first | rfl | skip
            simp only [cond_true]
            cases h8 : m.get nm with
            | no => rfl
            | yes b =>
              cases b with
              | cells r el o st =>
                show cond o _ g = g
                cases o <;> first | rfl | skip
                cases h9 : Nat.beq el e <;> first | rfl | skip
                rw [Rp.sizeR_eq]
                cases h10 : Nat.beq len r.size <;> first | rfl | skip
                cases h11 : Nat.blt (Nat.add len 1) 1000000 <;> first | rfl | skip
                cases h12 : Nat.blt m.n 32768 <;> first | rfl | skip
                simp only [cond_true]
                rw [Mem.renR_eq, Rp.pushR_eq]
                have hel := Nat.eq_of_beq_eq_true h9
                subst hel
                exact key nm2 o2 n2 k l el2 b2 b3 v r st h1 h2 h3 (Nat.eq_of_beq_eq_true e1) (Nat.eq_of_beq_eq_true e2) (Nat.eq_of_beq_eq_true e3) h4 h5 h6 (Nat.le_of_ble_eq_true h7) h8 (Nat.eq_of_beq_eq_true h10) (by simpa using h11) (by simpa [Mem.n_eq] using h12)
              | _ => rfl
        | rep _ _ => rfl
        | cat _ _ _ => rfl
      | _ => rfl
  cases x with
  | sl nm2 o2 n2 c2 => exact go nm2 o2 n2 rfl rfl (fun t h => by cases h)
  | slo nm2 o2 n2 c2 => exact go nm2 o2 n2 rfl rfl (fun t h => by cases h)
  | _ => rfl
end
end Go.Ev
namespace Go.Ev
section
variable (P : Program)

inductive BO | bad | mk (f : Env → SV)
inductive BL | bad | mk (f : Env → List SV)
inductive BX | mk (f : Env → Mem → Nx)
noncomputable def BO.run (b : BO) (e : Env) : Option SV := BO.rec none (fun f => some (f e)) b
noncomputable def BL.run (b : BL) (e : Env) : Option (List SV) := BL.rec none (fun f => some (f e)) b
noncomputable def BX.run (b : BX) : Env → Mem → Nx := BX.rec (fun f => f) b
noncomputable def opdC (N : Nat) (x : Operand) : BO := match x with
  | .tmp t => cond (Nat.blt t N) (G3.rec (motive := fun _ => BO) (fun f => .mk f) (getT t)) .bad
  | .const v => Option.rec .bad (fun s => .mk fun _ => s) (constS v)
  | .global g => cond (Nat.blt g P.globals.size) (.mk fun _ => .ptr g 0) .bad
  | .func f => .mk fun _ => .fn f (.tag .nil) (.tag .nil)
theorem opdC_run (N : Nat) (x : Operand) (e : Env) : (opdC P N x).run e = opd P N x e := by
  cases x with
  | tmp t =>
    simp only [opdC, opd]
    cases Nat.blt t N with
    | false => rfl
    | true =>
      have := getT_run t e
      cases hg : getT t with
      | mk f =>
        rw [hg] at this
        exact congrArg some this
  | const v => simp only [opdC, opd]; cases constS v <;> rfl
  | global g => simp only [opdC, opd]; cases Nat.blt g P.globals.size <;> rfl
  | func f => rfl
noncomputable def allC (N : Nat) : List Operand → BL
  | [] => .mk fun _ => []
  | x :: l => BO.rec .bad (fun f => BL.rec .bad (fun g => .mk fun e => f e :: g e) (allC N l)) (opdC P N x)
theorem allC_run (N : Nat) (e : Env) : ∀ l, (allC P N l).run e = oall (fun x => opd P N x e) l
  | [] => rfl
  | x :: l => by
    simp only [allC, oall]
    rw [← opdC_run, ← allC_run N e l]
    cases opdC P N x with
    | bad => rfl
    | mk f => cases allC P N l <;> rfl
/-- An operation of one operand, or of several. -/
noncomputable def k1 (x : BO) (k : (Env → SV) → BX) : BX := BO.rec (.mk fun _ _ => .bad) (fun f => k f) x
noncomputable def kl (x : BL) (k : (Env → List SV) → BX) : BX := BL.rec (.mk fun _ _ => .bad) (fun f => k f) x
theorem k1_run {x : BO} {k : (Env → SV) → BX} {g : SV → Env → Mem → Nx} (h : ∀ f e m, (k f).run e m = g (f e) e m) (e : Env) (m : Mem) : (k1 x k).run e m = w1 (x.run e) fun v => g v e m := by
  cases x with
  | bad => rfl
  | mk f => exact h f e m
theorem kl_run {x : BL} {k : (Env → List SV) → BX} {g : List SV → Env → Mem → Nx} (h : ∀ f e m, (k f).run e m = g (f e) e m) (e : Env) (m : Mem) : (kl x k).run e m = wl (x.run e) fun v => g v e m := by
  cases x with
  | bad => rfl
  | mk f => exact h f e m


/-! Operations of one, two, three operands. -/
noncomputable def c1 (N : Nat) (x : Operand) (G : SV → Mem → Nx) : BX := k1 (opdC P N x) fun f => .mk fun e m => G (f e) m
noncomputable def c2 (N : Nat) (x y : Operand) (G : SV → SV → Mem → Nx) : BX := k1 (opdC P N x) fun f => k1 (opdC P N y) fun g => .mk fun e m => G (f e) (g e) m
noncomputable def c3 (N : Nat) (x y z : Operand) (G : SV → SV → SV → Mem → Nx) : BX := k1 (opdC P N x) fun f => k1 (opdC P N y) fun g => k1 (opdC P N z) fun h => .mk fun e m => G (f e) (g e) (h e) m
theorem c1_run (N : Nat) (x : Operand) (G : SV → Mem → Nx) (e : Env) (m : Mem) : (c1 P N x G).run e m = w1 (opd P N x e) fun v => G v m := by
  unfold c1
  rw [k1_run (g := fun v _ m => G v m) (fun f e m => rfl), opdC_run]
theorem c2_run (N : Nat) (x y : Operand) (G : SV → SV → Mem → Nx) (e : Env) (m : Mem) : (c2 P N x y G).run e m = w1 (opd P N x e) fun v => w1 (opd P N y e) fun u => G v u m := by
  unfold c2
  rw [k1_run (g := fun v e m => w1 ((opdC P N y).run e) fun u => G v u m) (fun f e m => k1_run (g := fun u e m => G (f e) u m) (fun g e m => rfl) e m), opdC_run, opdC_run]
theorem c3_run (N : Nat) (x y z : Operand) (G : SV → SV → SV → Mem → Nx) (e : Env) (m : Mem) : (c3 P N x y z G).run e m = w1 (opd P N x e) fun v => w1 (opd P N y e) fun u => w1 (opd P N z e) fun t => G v u t m := by
  unfold c3
  rw [k1_run (g := fun v e m => w1 ((opdC P N y).run e) fun u => w1 ((opdC P N z).run e) fun t => G v u t m) (fun f e m => k1_run (g := fun u e m => w1 ((opdC P N z).run e) fun t => G (f e) u t m) (fun g e m => k1_run (g := fun t e m => G (f e) (g e) t m) (fun h e m => rfl) e m) e m), opdC_run, opdC_run, opdC_run]
inductive BQ | bad | mk (f : Env → Option SV)
noncomputable def BQ.run (b : BQ) (e : Env) : Option (Option SV) := BQ.rec none (fun f => some (f e)) b
noncomputable def optC (N : Nat) (x : Option Operand) : BQ := match x with
  | none => .mk fun _ => none
  | some x => BO.rec (motive := fun _ => BQ) .bad (fun f => .mk fun e => some (f e)) (opdC P N x)
theorem optC_run (N : Nat) (x : Option Operand) (e : Env) : (optC P N x).run e = oopt (fun x => opd P N x e) x := by
  cases x with
  | none => rfl
  | some x =>
    simp only [optC, oopt]
    rw [← opdC_run]
    cases opdC P N x <;> rfl
inductive BPs | bad | mk (f : Env → List (Nat × SV))
noncomputable def BPs.run (b : BPs) (e : Env) : Option (List (Nat × SV)) := BPs.rec none (fun f => some (f e)) b
noncomputable def partsC (N : Nat) : List (Nat × Operand) → BPs
  | [] => .mk fun _ => []
  | x :: l => BO.rec (motive := fun _ => BPs) .bad (fun f => BPs.rec (motive := fun _ => BPs) .bad (fun g => .mk fun e => (x.1, f e) :: g e) (partsC N l)) (opdC P N x.2)
theorem partsC_run (N : Nat) (e : Env) : ∀ l, (partsC P N l).run e = oparts (fun x => opd P N x e) l
  | [] => rfl
  | x :: l => by
    simp only [partsC, oparts]
    rw [← opdC_run, ← partsC_run N e l]
    cases opdC P N x.2 with
    | bad => rfl
    | mk f => cases partsC P N l <;> rfl
noncomputable def cp (N : Nat) (l : List (Nat × Operand)) (G : List (Nat × SV) → Mem → Nx) : BX := BPs.rec (motive := fun _ => BX) (.mk fun _ _ => .bad) (fun f => .mk fun e m => G (f e) m) (partsC P N l)
theorem cp_run (N : Nat) (l : List (Nat × Operand)) (G : List (Nat × SV) → Mem → Nx) (e : Env) (m : Mem) : (cp P N l G).run e m = (match oparts (fun x => opd P N x e) l with
    | some l => G l m
    | none => .bad) := by
  unfold cp
  rw [← partsC_run]
  cases partsC P N l <;> rfl
noncomputable def sliceC (N : Nat) (t : TypeId) (x : Operand) (lo hi mx : Option Operand) : BX := k1 (opdC P N x) fun f => BQ.rec (motive := fun _ => BX) (.mk fun _ _ => .bad) (fun l => BQ.rec (motive := fun _ => BX) (.mk fun _ _ => .bad) (fun h => BQ.rec (motive := fun _ => BX) (.mk fun _ _ => .bad) (fun k => .mk fun e m => vOfR m (sliceS P t (f e) (l e) (h e) (k e) m)) (optC P N mx)) (optC P N hi)) (optC P N lo)
theorem sliceC_run (N : Nat) (t : TypeId) (x : Operand) (lo hi mx : Option Operand) (e : Env) (m : Mem) : (sliceC P N t x lo hi mx).run e m = opS P (.slice t x lo hi mx) (fun x => opd P N x e) m := by
  simp only [sliceC, opS]
  rw [← opdC_run, ← optC_run, ← optC_run, ← optC_run]
  cases opdC P N x with
  | bad => rfl
  | mk f =>
    cases optC P N lo with
    | bad => rfl
    | mk l =>
      cases optC P N hi with
      | bad => rfl
      | mk h =>
        cases optC P N mx with
        | bad => rfl
        | mk k =>
          show vOfR m (sliceS P t (f e) (l e) (h e) (k e) m) = _
          rw [vOfR_eq]
          rfl
noncomputable def boxK (e : TypeId) (v : SV) (m : Mem) : Nx := cond (oneR v) (cond (Nat.blt m.n 32768) (.val (.ptr m.n 0) (m.newR (.cells (.lit 1 [v]) e false false))) .bad) (cond (v.nc && Nat.blt m.nxt 32768) (.val (.ptr m.nxt 0) (m.new (.cells (litZ v.cells) e false false))) .bad)
theorem boxK_eq (e : TypeId) (v : SV) (m : Mem) : boxK e v m = cond (v.nc && Nat.blt m.nxt 32768) (.val (.ptr m.nxt 0) (m.new (.cells (litZ v.cells) e false false))) .bad := by
  unfold boxK
  cases ho : oneR v with
  | false => rfl
  | true =>
    have hv := cells_one ho
    have hnc : v.nc = true := by cases v <;> first | rfl | (cases ho)
    rw [cond_true, hnc, hv, Mem.newR_eq, Mem.n_eq, Bool.true_and]
    rfl
def notIntD : Option TypeDesc → Bool
  | none => false
  | some (.int _) => false
  | some _ => true
def bsOK (e : TypeId) : Bool := match zeroCs P e with
  | some z => Nat.beq z.length 1 && Nat.beq (P.cellsOf e) 1
  | none => false
theorem bs_eq {t e : TypeId} (hu : P.underlying t = some (.slice e)) (hb : bsOK P e = true) (v : SV) (m : Mem) :
    cond (oneR v) (cond (Nat.blt m.n 32768) (.val (.sl m.n 0 1 1) (m.newR (.cells (.lit 1 [v]) e false false))) .bad) (vmOf (buildSl P t 1 [(0, v)] m)) = vmOf (buildSl P t 1 [(0, v)] m) := by
  cases ho : oneR v with
  | false => rfl
  | true =>
    have hv := cells_one ho
    have hnc : v.nc = true := by cases v <;> first | rfl | (cases ho)
    unfold bsOK at hb
    unfold buildSl
    rw [hu]
    cases hz : zeroCs P e with
    | none => rw [hz] at hb; cases hb
    | some z =>
      rw [hz] at hb
      simp only [Bool.and_eq_true] at hb
      have h1 := Nat.eq_of_beq_eq_true hb.1
      have h2 := Nat.eq_of_beq_eq_true hb.2
      have h3 : Nat.beq z.length (P.cellsOf e) = true := by rw [h1, h2]; rfl
      have h4 : Nat.ble (1 * P.cellsOf e) 100000 = true := by rw [h2]; rfl
      have hfl : ((List.range 1).flatMap fun _ => z) = z := by simp [List.range_succ]
      simp only [hz, hfl, cond_true, h3, h4, Bool.true_and, Bool.and_true, Mem.n_eq]
      cases hl : Nat.blt m.nxt 32768 with
      | false => rfl
      | true =>
        match z, h1 with
        | [z0], _ =>
          simp only [fillS, hnc, cond_true, hv, h2, Mem.newR_eq]
          rfl
noncomputable def opC (N : Nat) (op : Op) : BX := match op with
  | .move x => k1 (opdC P N x) fun f => .mk fun e m => .val (f e) m
  | .assign x => k1 (opdC P N x) fun f => .mk fun e m => .val (f e) m
  | .binOp op t x y _ => k1 (opdC P N x) fun f => k1 (opdC P N y) fun g => (fun b : B2 => .mk fun e m => vOfR m (b.run (f e) (g e))) (binC P t op (isK x || isK y))
  | .load t a => k1 (opdC P N a) fun f => (fun b : B3 => .mk fun e m => OP.rec (motive := fun _ => Nx) .bad (fun nm off => vOfR m (b.run m nm off)) (asPtr (f e))) (loadC P t)
  | .store t a x => k1 (opdC P N a) fun f => k1 (opdC P N x) fun g => (fun b : B4 => .mk fun e m => OP.rec (motive := fun _ => Nx) .bad (fun nm off => mOf (b.run m nm off (g e))) (asPtr (f e))) (storeC P t)
  | .fieldAddr t x i => match fieldP P t i with
    | some fl => cond (Nat.beq (P.cellsOf fl.type) 0 || !okE P fl.type) (.mk fun _ _ => .bad) (k1 (opdC P N x) fun f => .mk fun e m => OP.rec (motive := fun _ => Nx) .bad (fun nm off => .val (.ptr nm (Nat.add off fl.offset)) m) (asPtr (f e)))
    | none => .mk fun _ _ => .bad
  | .indexAddr t x i => k1 (opdC P N x) fun f => k1 (opdC P N i) fun g => (fun b : B2 => .mk fun e m => vOfR m (b.run (f e) (g e))) (idxAddrC P t)
  | .convert s d x => k1 (opdC P N x) fun f => .mk fun e m => vmOf (convS P s d (f e) m)
  | .extract x i => k1 (opdC P N x) fun f => .mk fun e m => OL.rec (motive := fun _ => Nx) .bad (fun l => vOfR m (nthR l.toL i)) (asTup (f e))
  | .nilCheck x => k1 (opdC P N x) fun f => .mk fun e m => cond (nilOkR (f e)) (.val (f e) m) (cond (nilOk (f e) || nilMth P (f e)) (.val (f e) m) .bad)
  | .call c => match c.callee with
    | .builtin b => (fun d : BX => match b with
        | .len => match c.argTypes.toList, c.args.toList with
          | t :: _, [x] => cond (isSliceD (P.underlying t)) (k1 (opdC P N x) fun f => .mk fun e m => vOfR m (lenR (f e))) d
          | _, _ => d
        | .append => match c.argTypes.toList, c.args.toList with
          | t :: u :: _, [s, x] => match P.underlying t with
            | some (.slice el) => cond (appOK P el && notIntD (P.underlying u)) (k1 (opdC P N s) fun f => k1 (opdC P N x) fun g => .mk fun e m => app1 el (f e) (g e) m (vmOf (appendS P false t (f e) (g e) m))) d
            | _ => d
          | _, _ => d
        | _ => d) (kl (allC P N c.args.toList) fun a => .mk fun e m => builtinS P b c.argTypes.toList (a e) m)
    | .invoke r name => k1 (opdC P N r) fun f => kl (allC P N c.args.toList) fun a => .mk fun e m => match f e with
      | .ifc t y => match methodS P t name y m with
        | some q => .enter q.1 (q.2 :: a e) m
        | none => .bad
      | _ => .bad
    | .value g => k1 (opdC P N g) fun f => kl (allC P N c.args.toList) fun a => .mk fun e m => callV P (f e) (a e) m
  | .unOp op _ x => c1 P N x fun a m => vOfR m (unS op a)
  | .field t x i => match fieldP P t i with
    | some fl => c1 P N x fun a m => match a with
      | .agg cs => vOf m (partS P fl.type cs.toL fl.offset)
      | _ => .bad
    | none => .mk fun _ _ => .bad
  | .index t x i => c2 P N x i fun a b m => vOf m (indexS P t a b)
  | .lookup t x k ok => c2 P N x k fun a b m => vOf m (lookupS P t a b ok m)
  | .mapUpdate t x k v => c3 P N x k v fun a b c m => mOf (mapPut P t b c m a)
  | .insert t x k v => c3 P N x k v fun a b c m => mOf (mapPut P t b c m a)
  | .makeSlice t n c => c2 P N n c fun a b m => vmOf (makeSl P t a b m)
  | .typeAssert x _ a ok => c1 P N x fun v m => vOf m (assertS P a ok v)
  | .box e x => c1 P N x (boxK e)
  | .build t ps => cp P N ps.toList fun l m => vOf m (buildS P t l)
  | .slice t x lo hi mx => sliceC P N t x lo hi mx
  | .alloc e => match zeroRp P e with
    | some r => .mk fun _ m => cond (Nat.blt m.n 32768) (.val (.ptr m.n 0) (m.newR (.cells r e false false))) .bad
    | none => .mk fun _ _ => .bad
  | .makeInterface t x => match P.underlying t with
    | some (.interface _) => .mk fun _ _ => .bad
    | none => .mk fun _ _ => .bad
    | some _ => c1 P N x fun a m => .val (.ifc t a) m
  | .buildSlice t n ps => match n, ps.toList, P.underlying t with
    | 1, [(0, x)], some (.slice el) => cond (bsOK P el) (k1 (opdC P N x) fun f => .mk fun e m => cond (oneR (f e)) (cond (Nat.blt m.n 32768) (.val (.sl m.n 0 1 1) (m.newR (.cells (.lit 1 [f e]) el false false))) .bad) (vmOf (buildSl P t 1 [(0, f e)] m))) (cp P N ps.toList fun l m => vmOf (buildSl P t n l m))
    | _, _, _ => cp P N ps.toList fun l m => vmOf (buildSl P t n l m)
  | op => .mk fun e m => opS P op (fun x => opd P N x e) m

theorem vOf_some (m : Mem) (v : SV) : vOf m (some v) = .val v m := rfl
theorem opC_run (N : Nat) (op : Op) (e : Env) (m : Mem) : (opC P N op).run e m = opS P op (fun x => opd P N x e) m := by
  cases op with
  | move x =>
    simp only [opC, opS]
    rw [k1_run (g := fun v _ m => .val v m) (fun f e m => rfl), opdC_run]
    cases opd P N x e <;> rfl
  | assign x =>
    simp only [opC, opS]
    rw [k1_run (g := fun v _ m => .val v m) (fun f e m => rfl), opdC_run]
    cases opd P N x e <;> rfl
  | binOp op t x y k =>
    simp only [opC, opS]
    rw [k1_run (g := fun a e m => w1 ((opdC P N y).run e) fun b => vOf m (binS P t op (isK x || isK y) a b)) (fun f e m => k1_run (g := fun b e m => vOf m (binS P t op (isK x || isK y) (f e) b)) (fun g e m => by show vOfR m ((binC P t op (isK x || isK y)).run (f e) (g e)) = _; rw [vOfR_eq, binC_run]) e m), opdC_run, opdC_run]
  | load t a =>
    simp only [opC, opS]
    rw [k1_run (g := fun v _ m => match v with
      | .ptr nm off => vOf m (loadS P t m nm off)
      | _ => .bad) (fun f e m => by
        show OP.rec (motive := fun _ => Nx) .bad (fun nm off => vOfR m ((loadC P t).run m nm off)) (asPtr (f e)) = _
        cases f e <;> first
          | rfl
          | (rename_i nm off; show vOfR m ((loadC P t).run m nm off) = _; rw [vOfR_eq, loadC_run])), opdC_run]
    cases opd P N a e with
    | none => rfl
    | some v => cases v <;> rfl
  | store t a x =>
    simp only [opC, opS]
    rw [k1_run (g := fun v e m => w1 ((opdC P N x).run e) fun y => match v with
      | .ptr nm off => mOf (storeS P t m nm off y)
      | _ => .bad) (fun f e m => k1_run (g := fun y e m => match f e with
      | .ptr nm off => mOf (storeS P t m nm off y)
      | _ => .bad) (fun g e m => by
        show OP.rec (motive := fun _ => Nx) .bad (fun nm off => mOf ((storeC P t).run m nm off (g e))) (asPtr (f e)) = _
        cases f e <;> first
          | rfl
          | (rename_i nm off; show mOf ((storeC P t).run m nm off (g e)) = _; rw [storeC_run])) e m), opdC_run, opdC_run]
    cases opd P N a e with
    | none => rfl
    | some v => cases opd P N x e with
      | none => rfl
      | some y => cases v <;> rfl
  | fieldAddr t x i =>
    simp only [opC, opS]
    cases fieldP P t i with
    | none => rfl
    | some fl =>
      simp only
      cases (Nat.beq (P.cellsOf fl.type) 0 || !okE P fl.type) with
      | true => rfl
      | false =>
        simp only [cond_false]
        rw [k1_run (g := fun v _ m => match v with
          | .ptr nm off => .val (.ptr nm (off + fl.offset)) m
          | _ => .bad) (fun f e m => by
            show OP.rec (motive := fun _ => Nx) .bad (fun nm off => .val (.ptr nm (Nat.add off fl.offset)) m) (asPtr (f e)) = _
            cases f e <;> rfl), opdC_run]
        cases opd P N x e with
        | none => rfl
        | some v => cases v <;> rfl
  | indexAddr t x i =>
    simp only [opC, opS]
    rw [k1_run (g := fun a e m => w1 ((opdC P N i).run e) fun b => vOf m (indexAddrS P t a b)) (fun f e m => k1_run (g := fun b e m => vOf m (indexAddrS P t (f e) b)) (fun g e m => by show vOfR m ((idxAddrC P t).run (f e) (g e)) = _; rw [vOfR_eq, idxAddrC_run]) e m), opdC_run, opdC_run]
  | convert s d x =>
    simp only [opC, opS]
    rw [k1_run (g := fun v _ m => vmOf (convS P s d v m)) (fun f e m => rfl), opdC_run]
  | extract x i =>
    simp only [opC, opS]
    rw [k1_run (g := fun v _ m => match v with
      | .tup l => vOf m (nth l.toL i)
      | _ => .bad) (fun f e m => by
        show OL.rec (motive := fun _ => Nx) .bad (fun l => vOfR m (nthR l.toL i)) (asTup (f e)) = _
        cases f e <;> first
          | rfl
          | (rename_i l; show vOfR m (nthR l.toL i) = _; rw [vOfR_eq, nthR_eq])), opdC_run]
    cases opd P N x e with
    | none => rfl
    | some v => cases v <;> rfl
  | nilCheck x =>
    simp only [opC, opS]
    rw [k1_run (g := fun v _ m => cond (nilOk v || nilMth P v) (.val v m) .bad) (fun f e m => by
      show cond (nilOkR (f e)) (Nx.val (f e) m) (cond (nilOk (f e) || nilMth P (f e)) (Nx.val (f e) m) Nx.bad) = _
      rw [nilOkR_eq]
      cases nilOk (f e) <;> rfl), opdC_run]
  | call c =>
    cases hc : c.callee with
    | builtin b =>
      have gen : (kl (allC P N c.args.toList) fun a => .mk fun e m => builtinS P b c.argTypes.toList (a e) m).run e m = wl (oall (fun x => opd P N x e) c.args.toList) fun a => builtinS P b c.argTypes.toList a m := by
        rw [kl_run (g := fun a _ m => builtinS P b c.argTypes.toList a m) (fun f e m => rfl), allC_run]
      simp only [opC, opS, hc]
      cases b <;> first
        | exact gen
        | skip
      · match ht : c.argTypes.toList, ha : c.args.toList with
        | [], _ => rw [ht, ha] at gen; exact gen
        | [_], _ => rw [ht, ha] at gen; exact gen
        | _ :: _ :: _, [] => rw [ht, ha] at gen; exact gen
        | _ :: _ :: _, [_] => rw [ht, ha] at gen; exact gen
        | _ :: _ :: _, _ :: _ :: _ :: _ => rw [ht, ha] at gen; exact gen
        | t :: u :: ts, [s, x] =>
          rw [ht, ha] at gen
          simp only
          cases hu : P.underlying t with
          | none => exact gen
          | some D =>
            cases D <;> first
              | exact gen
              | skip
            rename_i el
            simp only
            cases hok : (appOK P el && notIntD (P.underlying u)) with
            | false => exact gen
            | true =>
              simp only [Bool.and_eq_true] at hok
              rw [cond_true, k1_run (g := fun a e m => w1 ((opdC P N x).run e) fun b => vmOf (appendS P false t a b m)) (fun f e m => k1_run (g := fun b e m => vmOf (appendS P false t (f e) b m)) (fun g e m => by exact app1_eq P hu hok.1 (f e) (g e) m) e m), opdC_run, opdC_run]
              simp only [oall]
              cases opd P N s e with
              | none => rfl
              | some a =>
                cases opd P N x e with
                | none => rfl
                | some b =>
                  simp only [w1, wl, builtinS]
                  cases hD : P.underlying u with
                  | none => rw [hD] at hok; cases hok.2
                  | some D => cases D <;> first
                    | rfl
                    | (rw [hD] at hok; cases hok.2)
      match ht : c.argTypes.toList, ha : c.args.toList with
      | [], _ => rw [ht, ha] at gen; exact gen
      | _ :: _, [] => rw [ht, ha] at gen; exact gen
      | _ :: _, _ :: _ :: _ => rw [ht, ha] at gen; exact gen
      | t :: ts, [x] =>
        rw [ht, ha] at gen
        simp only
        cases hs : isSliceD (P.underlying t) with
        | false => exact gen
        | true =>
          rw [cond_true, k1_run (g := fun v _ m => vOf m (lenB P t v m)) (fun f e m => by show vOfR m (lenR (f e)) = _; rw [vOfR_eq, lenR_eq (P := P) hs _ m]), opdC_run]
          simp only [oall]
          cases opd P N x e <;> rfl
    | invoke r name =>
      simp only [opC, opS, hc]
      rw [k1_run (g := fun v e m => wl ((allC P N c.args.toList).run e) fun a => match v with
        | .ifc t y => match methodS P t name y m with
          | some q => .enter q.1 (q.2 :: a) m
          | none => .bad
        | _ => .bad) (fun f e m => kl_run (g := fun a e m => match f e with
        | .ifc t y => match methodS P t name y m with
          | some q => .enter q.1 (q.2 :: a) m
          | none => .bad
        | _ => .bad) (fun g e m => rfl) e m), opdC_run, allC_run]
      cases opd P N r e with
      | none => rfl
      | some v => cases oall (fun x => opd P N x e) c.args.toList with
        | none => rfl
        | some l => cases v <;> rfl
    | value g =>
      simp only [opC, opS, hc]
      rw [k1_run (g := fun v e m => wl ((allC P N c.args.toList).run e) fun a => callV P v a m) (fun f e m => kl_run (g := fun a e m => callV P (f e) a m) (fun g e m => rfl) e m), opdC_run, allC_run]
  | unOp op t x => simp only [opC, opS]; rw [c1_run]; simp only [vOfR_eq]
  | field t x i =>
    simp only [opC, opS]
    cases fieldP P t i with
    | none => rfl
    | some fl =>
      simp only
      rw [c1_run]
      cases opd P N x e with
      | none => rfl
      | some v => cases v <;> rfl
  | index t x i => simp only [opC, opS]; rw [c2_run]
  | lookup t x k ok => simp only [opC, opS]; rw [c2_run]
  | mapUpdate t x k v => simp only [opC, opS]; rw [c3_run]
  | insert t x k v => simp only [opC, opS]; rw [c3_run]
  | makeSlice t n c => simp only [opC, opS]; rw [c2_run]
  | typeAssert x y a ok => simp only [opC, opS]; rw [c1_run]
  | box t x =>
    simp only [opC, opS]
    rw [c1_run]
    simp only [boxK_eq]
  | build t ps =>
    simp only [opC, opS]
    rw [cp_run]
    cases oparts (fun x => opd P N x e) ps.toList <;> rfl
  | slice t x lo hi mx => exact sliceC_run P N t x lo hi mx e m
  | alloc t =>
    simp only [opC, opS]
    cases zeroRp P t with
    | none => rfl
    | some r =>
      show cond (Nat.blt m.n 32768) (Nx.val (.ptr m.n 0) (m.newR (.cells r t false false))) Nx.bad = _
      rw [Mem.newR_eq, Mem.n_eq]
  | makeInterface t x =>
    simp only [opC, opS]
    cases P.underlying t with
    | none => rfl
    | some D => cases D <;> first
      | rfl
      | exact c1_run P N x _ e m
  | buildSlice t n ps =>
    have gen : (cp P N ps.toList fun l m => vmOf (buildSl P t n l m)).run e m = opS P (.buildSlice t n ps) (fun x => opd P N x e) m := by
      simp only [opS]
      rw [cp_run]
      cases oparts (fun x => opd P N x e) ps.toList <;> rfl
    simp only [opC]
    split
    · rename_i x el hps hu
      cases hb : bsOK P el with
      | false => exact gen
      | true =>
        rw [cond_true, k1_run (g := fun v _ m => vmOf (buildSl P t 1 [(0, v)] m)) (fun f e m => by exact bs_eq P hu hb (f e) m), opdC_run]
        simp only [opS, hps, oparts]
        cases opd P N x e <;> rfl
    · exact gen
  | _ => rfl
end
end Go.Ev
namespace Go.Ev
section
variable (P : Program)

abbrev Rs := Option (AEx × St)
inductive BG | yes | mk (f : Env → Bool)
noncomputable def BG.run (b : BG) (e : Env) : Bool := BG.rec true (fun f => f e) b
noncomputable def guardC (N : Nat) (ops : Array Oper) (o : Oper) : BG := match o.guard with
  | none => .yes
  | some g => match (ops[g.1]?).bind (·.dst) with
    | none => .mk fun _ => false
    | some t => cond (Nat.blt t N) (G3.rec (motive := fun _ => BG) (fun f => .mk fun e => OT.rec (motive := fun _ => Bool) false (fun b => cond g.2 b (!b)) (asBool (f e))) (getT t)) (.mk fun _ => false)
theorem guardC_run (N : Nat) (ops : Array Oper) (o : Oper) (e : Env) : (guardC N ops o).run e = guardS N ops o e := by
  unfold guardC guardS
  cases o.guard with
  | none => rfl
  | some g =>
    simp only
    cases (ops[g.1]?).bind (·.dst) with
    | none => rfl
    | some t =>
      simp only
      cases Nat.blt t N with
      | false => rfl
      | true =>
        simp only [cond_true]
        have := getT_run t e
        rw [← this]
        cases hg : getT t with
        | mk f =>
          show OT.rec (motive := fun _ => Bool) false (fun b => cond g.2 b (!b)) (asBool (f e)) = (match f e with
            | .bool b => cond g.2 b (!b)
            | _ => false)
          cases f e <;> rfl
inductive BP | bad | mk (f : SV → Env → Env)
noncomputable def BP.run (b : BP) (v : SV) (e : Env) : Option Env := BP.rec none (fun f => some (f v e)) b
noncomputable def putC (N : Nat) (d : Option Tmp) : BP := match d with
  | none => .mk fun _ e => e
  | some t => cond (Nat.blt t N) (S3.rec (motive := fun _ => BP) (fun f => .mk f) (setT t)) .bad
theorem putC_run (N : Nat) (d : Option Tmp) (v : SV) (e : Env) : (putC N d).run v e = putD N d v e := by
  cases d with
  | none => rfl
  | some t =>
    simp only [putC, putD]
    cases Nat.blt t N with
    | false => rfl
    | true =>
      have := setT_run t v e
      cases hg : setT t with
      | mk f =>
        rw [hg] at this
        exact congrArg some this

inductive BR | mk (f : EvF → Env → List (ADf ⊕ Nat) → Mem → Rs)
noncomputable def BR.run (b : BR) : EvF → Env → List (ADf ⊕ Nat) → Mem → Rs := BR.rec (fun f => f) b
noncomputable def valK (x : Nx) (k : SV → Mem → Rs) : Rs := Nx.rec (motive := fun _ => Rs) (fun v m => k v m) (fun _ _ _ => none) (fun _ _ _ => none) (fun _ => none) none (fun _ _ => none) none x
noncomputable def endK (x : Option (AEnd × Mem)) (e : Env) (d : List (ADf ⊕ Nat)) (k : SV → List (ADf ⊕ Nat) → Mem → Rs) : Rs := match x with
  | none => none
  | some (.ret v, m') => k v d m'
  | some (.pan ch, m') => some (.pan ch, ⟨e, d, m'⟩)
noncomputable def nxK (rd : Bool) (E : EvF) (x : Nx) (e : Env) (d : List (ADf ⊕ Nat)) (m0 : Mem) (k : SV → List (ADf ⊕ Nat) → Mem → Rs) : Rs :=
  Nx.rec (motive := fun _ => Rs) (fun v m => k v d m) (fun f args m => endK (E.call f args m) e d k) (fun l args m => match E.round l args m with
    | none => none
    | some q => k q.1 d q.2) (fun x => cond rd none (k .und (.inl x :: d) m0)) none (fun v m => some (.pan [(v, false)], ⟨e, d, m⟩)) none x
noncomputable def opsK (rd pl : Bool) (g : BG) (x : BX) (p : SV → Env → Env) (r : BR) : BR :=
  BG.rec (cond pl (.mk fun E e d m => valK (x.run e m) fun v m' => r.run E (p v e) d m') (.mk fun E e d m => nxK rd E (x.run e m) e d m fun v d' m' => r.run E (p v e) d' m'))
    (fun g => cond pl (.mk fun E e d m => cond (g e) (valK (x.run e m) fun v m' => r.run E (p v e) d m') (r.run E (p .und e) d m))
      (.mk fun E e d m => cond (g e) (nxK rd E (x.run e m) e d m fun v d' m' => r.run E (p v e) d' m') (r.run E (p .und e) d m))) g
noncomputable def opsC (ops : Array Oper) (N : Nat) (rd : Bool) : List Oper → BR
  | [] => .mk fun _ e d m => some (.normal, ⟨e, d, m⟩)
  | o :: l => BP.rec (.mk fun E e d m => opsS P ops N rd E (o :: l) ⟨e, d, m⟩) (fun p => opsK rd (!opEnters o.op) (guardC N ops o) (opC P N o.op) p (opsC ops N rd l)) (putC N o.dst)
theorem opsC_run (ops : Array Oper) (N : Nat) (rd : Bool) (E : EvF) : ∀ (l : List Oper) (e : Env) (d : List (ADf ⊕ Nat)) (m : Mem), (opsC P ops N rd l).run E e d m = opsS P ops N rd E l ⟨e, d, m⟩
  | [], _, _, _ => rfl
  | o :: l, e, d, m => by
    have hp := putC_run N o.dst
    have ih := opsC_run ops N rd E l
    simp only [opsC]
    cases hc : putC N o.dst with
    | bad => rfl
    | mk p =>
      rw [hc] at hp
      have hp' : ∀ v e, putD N o.dst v e = some (p v e) := fun v e => (hp v e).symm
      simp only [opsS, hp', ← ih, ← guardC_run]
      have hpl := op_plain (P := P) (ρ := fun x => opd P N x e) (m := m) o.op
      have hv : opEnters o.op = false → ∀ k : SV → Mem → Rs, valK (opS P o.op (fun x => opd P N x e) m) k = (match opS P o.op (fun x => opd P N x e) m with
          | .val v m => k v m
          | _ => none) := fun _ k => by
        cases opS P o.op (fun x => opd P N x e) m <;> rfl
      cases hg : guardC N ops o with
      | yes =>
        cases hpe : opEnters o.op with
        | false =>
          show valK ((opC P N o.op).run e m) _ = _
          rw [opC_run]
          have h1 := hpl hpe
          cases hx : opS P o.op (fun x => opd P N x e) m with
          | val v m' => rfl
          | bad => rfl
          | _ => rw [hx] at h1; cases h1
        | true =>
          show nxK rd E ((opC P N o.op).run e m) e d m _ = _
          rw [opC_run]
          cases hx : opS P o.op (fun x => opd P N x e) m with
          | enter f args m1 =>
            show endK (E.call f args m1) e d _ = _
            simp only [BG.run, cond_true]
            unfold endK
            cases E.call f args m1 with
            | none => rfl
            | some q => obtain ⟨y, m2⟩ := q; cases y <;> rfl
          | _ => rfl
      | mk g =>
        have hgr : (BG.mk g).run e = g e := rfl
        rw [hgr]
        cases hpe : opEnters o.op with
        | false =>
          show cond (g e) (valK ((opC P N o.op).run e m) _) _ = _
          rw [opC_run]
          cases g e with
          | false => rfl
          | true =>
            simp only [cond_true]
            have h1 := hpl hpe
            cases hx : opS P o.op (fun x => opd P N x e) m with
            | val v m' => rfl
            | bad => rfl
            | _ => rw [hx] at h1; cases h1
        | true =>
          show cond (g e) (nxK rd E ((opC P N o.op).run e m) e d m _) _ = _
          rw [opC_run]
          cases g e with
          | false => rfl
          | true =>
            simp only [cond_true]
            cases hx : opS P o.op (fun x => opd P N x e) m with
            | enter f args m1 =>
              show endK (E.call f args m1) e d _ = _
              simp only
              unfold endK
              cases E.call f args m1 with
              | none => rfl
              | some q => obtain ⟨y, m2⟩ := q; cases y <;> rfl
            | _ => rfl

/-! ### Drawn regions -/
inductive BD | mk (f : EvF → Dr → Option (SV × Dr))
noncomputable def BD.run (b : BD) : EvF → Dr → Option (SV × Dr) := BD.rec (fun f => f) b
noncomputable def loudK (E : EvF) (x : Nx) : Option (SV × Mem) := match x with
  | .val v m => some (v, m)
  | .enter f args m => match E.call f args m with
    | some (.ret v, m') => some (v, m')
    | _ => none
  | .round lp args m => E.round lp args m
  | _ => none
noncomputable def runC (b : List Nat) (N : Nat) (o : Oper) (i : Nat) (x : BX) : BD := match clsOf P o.op with
  | .pure => .mk fun _ d => valD (x.run d.env d.mem) fun v _ => some (v, d)
  | .fresh => .mk fun _ d => valD (x.run d.env d.mem) fun v m => some (v, { d with mem := m, als := (i, d.mem.nxt, m.nxt) :: d.als })
  | .read => .mk fun _ d => valD (x.run d.env d.base) fun v _ => cond (d.olds.all fun q => hasB b i q.1 || again P N o d.env v q.2) (some (v, { d with rds := (i, o, d.env, v) :: d.rds })) none
  | .loud => .mk fun E d => match loudK E (x.run d.env d.mem) with
    | some q => cond (d.rds.all fun r => hasB b i r.1 || again P N r.2.1 r.2.2.1 r.2.2.2 q.2)
        (some (q.1, { d with mem := q.2, base := q.2, olds := (i, d.base) :: d.olds, als := (i, d.mem.nxt, q.2.nxt) :: d.als })) none
    | none => none
where valD (x : Nx) (k : SV → Mem → Option (SV × Dr)) : Option (SV × Dr) := match x with
  | .val v m => k v m
  | _ => none
theorem runC_run (b : List Nat) (N : Nat) (E : EvF) (o : Oper) (i : Nat) (d : Dr) : (runC P b N o i (opC P N o.op)).run E d = runD P b N E o i d := by
  unfold runC runD
  cases clsOf P o.op with
  | pure =>
    show runC.valD ((opC P N o.op).run d.env d.mem) _ = _
    rw [opC_run]
    simp only
    cases opS P o.op (fun x => opd P N x d.env) d.mem <;> rfl
  | fresh =>
    show runC.valD ((opC P N o.op).run d.env d.mem) _ = _
    rw [opC_run]
    simp only
    cases opS P o.op (fun x => opd P N x d.env) d.mem <;> rfl
  | read =>
    show runC.valD ((opC P N o.op).run d.env d.base) _ = _
    rw [opC_run]
    simp only
    cases opS P o.op (fun x => opd P N x d.env) d.base <;> rfl
  | loud =>
    show (match loudK E ((opC P N o.op).run d.env d.mem) with
      | some q => cond (d.rds.all fun r => hasB b i r.1 || again P N r.2.1 r.2.2.1 r.2.2.2 q.2)
          (some (q.1, { d with mem := q.2, base := q.2, olds := (i, d.base) :: d.olds, als := (i, d.mem.nxt, q.2.nxt) :: d.als })) none
      | none => none) = _
    rw [opC_run]
    have : loudK E (opS P o.op (fun x => opd P N x d.env) d.mem) = loudS P E o.op (fun x => opd P N x d.env) d.mem := by
      unfold loudK loudS
      cases opS P o.op (fun x => opd P N x d.env) d.mem <;> rfl
    rw [this]
    simp only
    cases loudS P E o.op (fun x => opd P N x d.env) d.mem <;> rfl

inductive BE | mk (f : EvF → Dr → Option (Env × Mem))
noncomputable def BE.run (b : BE) : EvF → Dr → Option (Env × Mem) := BE.rec (fun f => f) b
noncomputable def drawC (ops : Array Oper) (b : List Nat) (N : Nat) : List Oper → Nat → BE
  | [] => fun _ => .mk fun _ d => some (d.env, d.mem)
  | o :: l => fun i => (fun (g : BG) (p : BP) (r : BD) (k : BE) => .mk fun E d => match cond (g.run d.env) (r.run E d) (some (.und, d)) with
    | none => none
    | some q => cond (outD P b i o d q.1 q.2) (match p.run q.1 d.env with
      | some e => k.run E { q.2 with env := e }
      | none => none) none) (guardC N ops o) (putC N o.dst) (runC P b N o i (opC P N o.op)) (drawC ops b N l (i + 1))
theorem drawC_run (ops : Array Oper) (b : List Nat) (N : Nat) (E : EvF) : ∀ (l : List Oper) (i : Nat) (d : Dr), (drawC P ops b N l i).run E d = drawS P ops b N E l i d
  | [], _, _ => rfl
  | o :: l, i, d => by
    show (match cond ((guardC N ops o).run d.env) ((runC P b N o i (opC P N o.op)).run E d) (some (.und, d)) with
      | none => none
      | some q => cond (outD P b i o d q.1 q.2) (match (putC N o.dst).run q.1 d.env with
        | some e => (drawC P ops b N l (i + 1)).run E { q.2 with env := e }
        | none => none) none) = _
    simp only [guardC_run, runC_run, putC_run, drawC_run ops b N E l (i + 1), drawS, stepD]
    cases hq : cond (guardS N ops o d.env) (runD P b N E o i d) (some (SV.und, d)) with
    | none => rfl
    | some q =>
      simp only
      cases outD P b i o d q.1 q.2 with
      | false => rfl
      | true =>
        simp only [cond_true]
        cases putD N o.dst q.1 d.env <;> rfl

/-! ### Code -/
inductive BC | mk (f : EvF → Option Nat → St → Rs)
noncomputable def BC.run (b : BC) : EvF → Option Nat → St → Rs := BC.rec (fun f => f) b
noncomputable def seqK (x : Rs) (k : St → Rs) : Rs := match x with
  | some (.normal, s) => k s
  | x => x
noncomputable def codeC (N : Nat) : Code → BC
  | .skip => .mk fun _ _ s => some (.normal, s)
  | .label _ => .mk fun _ _ s => some (.normal, s)
  | .region _ ops draw => cond draw
      (cond (drawOK P ops) ((fun (b : BE) => .mk fun E _ s => match b.run E ⟨s.env, s.mem, s.mem, [], [], []⟩ with
        | some q => some (.normal, ⟨q.1, s.dfs, q.2⟩)
        | none => none) (drawC P ops (befs ops.toList) N ops.toList 0)) (.mk fun _ _ _ => none))
      ((fun (b c : BR) => .mk fun E r s => Option.rec (b.run E s.env s.dfs s.mem) (fun _ => c.run E s.env s.dfs s.mem) r) (opsC P ops N false ops.toList) (opsC P ops N true ops.toList))
  | .seq a b => (fun (a b : BC) => .mk fun E r s => seqK (a.run E r s) fun s' => b.run E r s') (codeC N a) (codeC N b)
  | .cond c a b => (fun (a b : BC) => BO.rec (.mk fun _ _ _ => none) (fun f => .mk fun E r s => OT.rec (motive := fun _ => Rs) none (fun t => cond t (a.run E r s) (b.run E r s)) (asBool (f s.env))) (opdC P N c)) (codeC N a) (codeC N b)
  | .block id c => (fun (c : BC) => .mk fun E r s => match c.run E r s with
    | some (.exit j, s') => cond (Nat.beq j id) (some (.normal, s')) (some (.exit j, s'))
    | x => x) (codeC N c)
  | .scope c => codeC N c
  | .loop c => (fun (b : BC) => .mk fun E r s => seqK (b.run E r s) fun s' => E.loop N r c s') (codeC N c)
  | .exit id => .mk fun _ _ s => some (.exit id, s)
  | .ret => .mk fun _ _ s => some (.ret, s)
  | .rangeFunc g ps asg body => .mk fun E r s => rangeS P N E ps asg body r s (opd P N g s.env)
  | .goto _ => .mk fun _ _ _ => none
  | .refuse _ => .mk fun _ _ _ => none
theorem codeC_run (N : Nat) (E : EvF) : ∀ (c : Code) (r : Option Nat) (s : St), (codeC P N c).run E r s = codeS P N c E r s := by
  intro c
  induction c with
  | skip => intro r s; rfl
  | label l => intro r s; rfl
  | exit id => intro r s; rfl
  | ret => intro r s; rfl
  | goto l => intro r s; rfl
  | refuse x => intro r s; rfl
  | rangeFunc g ps asg body => intro r s; rfl
  | scope c ih => intro r s; exact ih r s
  | seq a b iha ihb =>
    intro r s
    show seqK ((codeC P N a).run E r s) (fun s' => (codeC P N b).run E r s') = _
    simp only [iha, ihb, codeS]
    unfold seqK
    cases codeS P N a E r s with
    | none => rfl
    | some q => obtain ⟨x, s'⟩ := q; cases x <;> rfl
  | loop c ih =>
    intro r s
    show seqK ((codeC P N c).run E r s) (fun s' => E.loop N r c s') = _
    simp only [ih, codeS]
    unfold seqK
    cases codeS P N c E r s with
    | none => rfl
    | some q => obtain ⟨x, s'⟩ := q; cases x <;> rfl
  | block id c ih =>
    intro r s
    show (match (codeC P N c).run E r s with
      | some (AEx.exit j, s') => cond (Nat.beq j id) (some (AEx.normal, s')) (some (AEx.exit j, s'))
      | x => x) = _
    simp only [ih, codeS]
    cases codeS P N c E r s with
    | none => rfl
    | some q => obtain ⟨x, s'⟩ := q; cases x <;> rfl
  | cond c a b iha ihb =>
    intro r s
    simp only [codeS, ← opdC_run, ← iha, ← ihb]
    show BC.run (BO.rec (.mk fun _ _ _ => none) (fun f => .mk fun E r s => OT.rec (motive := fun _ => Rs) none (fun t => cond t ((codeC P N a).run E r s) ((codeC P N b).run E r s)) (asBool (f s.env))) (opdC P N c)) E r s = _
    cases opdC P N c with
    | bad => rfl
    | mk f =>
      show OT.rec (motive := fun _ => Rs) none (fun t => cond t ((codeC P N a).run E r s) ((codeC P N b).run E r s)) (asBool (f s.env)) = (match some (f s.env) with
        | some (.bool t) => cond t ((codeC P N a).run E r s) ((codeC P N b).run E r s)
        | _ => none)
      cases f s.env <;> rfl
  | region id ops draw =>
    intro r s
    cases draw with
    | false =>
      show Option.rec (motive := fun _ => Rs) ((opsC P ops N false ops.toList).run E s.env s.dfs s.mem) (fun _ => (opsC P ops N true ops.toList).run E s.env s.dfs s.mem) r = _
      cases r with
      | none => exact opsC_run P ops N false E ops.toList s.env s.dfs s.mem
      | some l => exact opsC_run P ops N true E ops.toList s.env s.dfs s.mem
    | true =>
      simp only [codeC, codeS, cond_true]
      cases drawOK P ops with
      | false => rfl
      | true =>
        show (match (drawC P ops (befs ops.toList) N ops.toList 0).run E ⟨s.env, s.mem, s.mem, [], [], []⟩ with
          | some q => some (AEx.normal, (⟨q.1, s.dfs, q.2⟩ : St))
          | none => none) = _
        rw [drawC_run]
        simp only [cond_true]
        cases drawS P ops (befs ops.toList) N E ops.toList 0 ⟨s.env, s.mem, s.mem, [], [], []⟩ <;> rfl

/-! ### Calls -/
inductive BF | mk (f : EvF → List SV → Mem → Option (AEnd × Mem))
noncomputable def BF.run (b : BF) : EvF → List SV → Mem → Option (AEnd × Mem) := BF.rec (fun f => f) b
noncomputable def callK (x : Rs) (ret : Env → List (ADf ⊕ Nat) → Md → Mem → Option (AEnd × Mem)) : Option (AEnd × Mem) := match x with
  | some (.normal, s) => ret s.env s.dfs none s.mem
  | some (.ret, s) => ret s.env s.dfs none s.mem
  | some (.pan ch, s) => ret s.env s.dfs (some ch) s.mem
  | _ => none
noncomputable def argsR (args : List SV) (i : Nat) (e : Env) : Env := List.rec (motive := fun _ => Nat → Env → Env) (fun _ e => e) (fun v _ ih i e => ih (Nat.add i 1) ((setT i).run v e)) args i e
theorem argsR_eq : ∀ (args : List SV) (i : Nat) (e : Env), argsR args i e = argsE args i e
  | [], _, _ => rfl
  | v :: l, i, e => by
    show argsR l (i + 1) ((setT i).run v e) = _
    rw [argsR_eq l, setT_run]
    rfl
inductive BRes | mk (f : Env → Mem → Option SV)
noncomputable def BRes.run (b : BRes) : Env → Mem → Option SV := BRes.rec (fun f => f) b
noncomputable def resC (rs : List ResultVar) (N : Nat) : BRes := match rs with
  | [.tmp t] => cond (Nat.blt t N) (G3.rec (motive := fun _ => BRes) (fun f => .mk fun e _ => some (f e)) (getT t)) (.mk fun _ _ => none)
  | [.tmp t, .tmp u] => cond (Nat.blt t N && Nat.blt u N) (G3.rec (motive := fun _ => BRes) (fun f => G3.rec (motive := fun _ => BRes) (fun g => .mk fun e _ => some (.tup (.cons (f e) (.cons (g e) (.tag .nil))))) (getT u)) (getT t)) (.mk fun _ _ => none)
  | rs => .mk fun e m => resV P e m N rs
theorem resC_run (rs : List ResultVar) (N : Nat) (e : Env) (m : Mem) : (resC P rs N).run e m = resV P e m N rs := by
  unfold resC
  split
  · rename_i t
    simp only [resV, resS]
    have ht := getT_run t e
    cases hb : Nat.blt t N with
    | false => rfl
    | true =>
      cases hg : getT t with
      | mk f =>
        rw [hg] at ht
        show some (f e) = some (e.get t)
        rw [← ht]
        rfl
  · rename_i t u
    simp only [resV, resS]
    have ht := getT_run t e
    have hu := getT_run u e
    cases hb : Nat.blt t N with
    | false => cases Nat.blt u N <;> rfl
    | true =>
      cases hc : Nat.blt u N with
      | false => rfl
      | true =>
        cases hg : getT t with
        | mk f =>
          cases hh : getT u with
          | mk g =>
            rw [hg] at ht
            rw [hh] at hu
            show some (SV.tup (.cons (f e) (.cons (g e) (.tag .nil)))) = some (.tup (.ofL [e.get t, e.get u]))
            rw [← ht, ← hu]
            rfl
  · rfl
noncomputable def leaveR (res : Env → Mem → Option SV) (gen : Option (AEnd × Mem)) (e : Env) (d : List (ADf ⊕ Nat)) (md : Md) (m : Mem) : Option (AEnd × Mem) :=
  List.rec (motive := fun _ => Option (AEnd × Mem)) (Option.rec (motive := fun _ => Option (AEnd × Mem)) (Option.rec (motive := fun _ => Option (AEnd × Mem)) none (fun v => some (.ret v, m)) (res e m)) (fun _ => gen) md) (fun _ _ _ => gen) d
theorem leaveR_eq (E : EvF) (rs : List ResultVar) (N : Nat) (e : Env) (d : List (ADf ⊕ Nat)) (md : Md) (m : Mem) : leaveR (resC P rs N).run (leaveS P E rs N e d md m) e d md m = leaveS P E rs N e d md m := by
  cases d with
  | cons x l => rfl
  | nil =>
    cases md with
    | some ch => rfl
    | none =>
      show Option.rec (motive := fun _ => Option (AEnd × Mem)) none (fun v => some (.ret v, m)) ((resC P rs N).run e m) = _
      rw [resC_run]
      simp only [leaveS]
      cases resV P e m N rs <;> rfl
noncomputable def bodyC (f : FuncId) : BF := match P.funcs[f]? with
  | none => .mk fun _ _ _ => none
  | some fn => match fn.body with
    | none => .mk fun _ _ _ => none
    | some c => (fun (b : BC) (rs : BRes) => cond (Nat.ble fn.ntmps 512) (.mk fun E args m => cond (Nat.ble args.length fn.ntmps)
        (callK (b.run E none ⟨argsR args 0 Env.none, [], m⟩) fun e d md m' => leaveR rs.run (leaveS P E fn.results.toList fn.ntmps e d md m') e d md m') none) (.mk fun _ _ _ => none)) (codeC P fn.ntmps c) (resC P fn.results.toList fn.ntmps)
theorem bodyC_run (E : EvF) (f : FuncId) (args : List SV) (m : Mem) : (bodyC P f).run E args m = bodyS P E f args m := by
  unfold bodyC bodyS
  cases P.funcs[f]? with
  | none => rfl
  | some fn =>
    simp only
    cases fn.body with
    | none => rfl
    | some c =>
      simp only
      cases hb : Nat.ble fn.ntmps 512 with
      | false => simp only [Bool.and_false, cond_false]; rfl
      | true =>
        simp only [Bool.and_true, cond_true]
        show cond (Nat.ble args.length fn.ntmps) (callK ((codeC P fn.ntmps c).run E none ⟨argsR args 0 Env.none, [], m⟩) fun e d md m' => leaveR (resC P fn.results.toList fn.ntmps).run (leaveS P E fn.results.toList fn.ntmps e d md m') e d md m') none = _
        simp only [leaveR_eq, argsR_eq]
        rw [codeC_run]
        cases Nat.ble args.length fn.ntmps with
        | false => rfl
        | true =>
          simp only [cond_true]
          unfold callK
          cases codeS P fn.ntmps c E none ⟨argsE args 0 Env.none, [], m⟩ with
          | none => rfl
          | some q => obtain ⟨x, s⟩ := q; cases x <;> rfl
variable (sum : FuncId → Option (List SV → Mem → Option (AEnd × Mem)))
noncomputable def orK (x : Option (AEnd × Mem)) (y : Option (AEnd × Mem)) : Option (AEnd × Mem) := match x with
  | some q => some q
  | none => y
noncomputable def callC (f : FuncId) : BF := match sum f with
  | none => bodyC P f
  | some g => .mk fun E args m => orK (g args m) ((bodyC P f).run E args m)
theorem callC_run (E : EvF) (f : FuncId) (args : List SV) (m : Mem) : (callC P sum f).run E args m = callS P sum E f args m := by
  unfold callC callS
  cases sum f with
  | none => exact bodyC_run P E f args m
  | some g =>
    show orK (g args m) ((bodyC P f).run E args m) = _
    rw [bodyC_run]
    simp only
    unfold orK
    cases g args m <;> rfl

noncomputable def roundC (E : EvF) (l : Nat) (args : List SV) (m : Mem) : Option (SV × Mem) := match m.get l with
  | .yes (.loop _ _ env N ps asg body _) => match zipSet N ps.toList args env with
    | none => none
    | some e => match (codeC P N asg).run E (some l) ⟨e, [], m⟩ with
      | some (.normal, s) => match s.mem.get l with
        | .yes (.loop .ready pd en n ps2 asg2 body2 d) =>
          match (codeC P N body).run E (some l) ⟨s.env, s.dfs, s.mem.set l (.loop .busy pd en n ps2 asg2 body2 d)⟩ with
          | some (ex, s2) => endRd l ex s2
          | none => none
        | _ => none
      | _ => none
  | _ => none
theorem roundC_eq (E : EvF) : roundC P E = roundS P E := by
  funext l args m
  unfold roundC roundS
  cases m.get l with
  | no => rfl
  | yes b =>
    cases b with
    | loop st pd env N ps asg body d =>
      simp only [codeC_run]
      cases zipSet N ps.toList args env with
      | none => rfl
      | some e =>
        simp only
        cases codeS P N asg E (some l) ⟨e, [], m⟩ with
        | none => rfl
        | some q =>
          obtain ⟨x, s⟩ := q
          cases x with
          | normal =>
            simp only
            cases s.mem.get l with
            | no => rfl
            | yes b =>
              cases b with
              | loop st2 pd2 en2 n2 ps2 asg2 body2 d2 =>
                cases st2 with
                | ready =>
                  simp only
                  cases codeS P N body E (some l) ⟨s.env, s.dfs, s.mem.set l (.loop .busy pd2 en2 n2 ps2 asg2 body2 d2)⟩ <;> rfl
                | _ => rfl
              | _ => rfl
          | _ => rfl
    | _ => rfl

noncomputable def stepC (E : EvF) : EvF where
  call := fun f args m => (callC P sum f).run E args m
  dcall := dcallS P E
  round := roundC P E
  loop := fun N r c s => seqK ((codeC P N c).run E r s) fun s' => E.loop N r c s'
noncomputable def evC : Nat → EvF
  | 0 => ⟨fun _ _ _ => none, fun _ _ _ _ => none, fun _ _ _ => none, fun _ _ _ _ => none⟩
  | n + 1 => stepC P sum (evC n)
theorem stepC_eq (E : EvF) : stepC P sum E = stepE P sum E := by
  unfold stepC stepE
  congr 1
  · funext f args m; exact callC_run P sum E f args m
  · exact roundC_eq P E
  · funext N r c s
    have := codeC_run P N E (.loop c) r s
    exact this
theorem evC_eq : ∀ n, evC P sum n = ev P sum n
  | 0 => rfl
  | n + 1 => by
    show stepC P sum (evC P sum n) = stepE P sum (ev P sum n)
    rw [evC_eq n, stepC_eq]
end
end Go.Ev
