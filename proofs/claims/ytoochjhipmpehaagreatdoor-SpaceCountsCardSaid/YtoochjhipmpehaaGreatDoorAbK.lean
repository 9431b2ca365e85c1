/- Short names for two laws of the library. -/
import Derived.Lib.Hide
import Derived.Below
namespace Go.Proofs.YtoochjhipmpehaaGreatDoor
theorem vo {α : Type _} {xs : Array α} {i : Nat} {a : α} (h : xs[i]? = some a) : ∃ h : i < xs.size, xs[i] = a := Array.getElem?_eq_some_iff.1 h
theorem vp {p : Prop} (h : p) : Go.RowKit.Hid p := h
open Go.RowKit
theorem vq{p:Prop} (h:p:=by ((repeat' (with_reducible(first|assumption|(refine Below.alloc ?_ ?_ _)|(refine Below.setCell ?_ ?_ _)|(refine Below.drew ?_)|(refine below_drewN ?_ _)|exact Below.refl _ _ |(refine Below.trans ?_ (Below.mono (by assumption) ?_)))))<;>(try simp)<;>(try omega))):p:=h
theorem vr{w:Go.World} {o:Go.Obj}:Below w.heap.size w (w.alloc o):=(Below.refl _ _).alloc (Nat.le_refl _) _
theorem vs(n:Nat):n<=n:=Nat.le_refl n
theorem vt(w:World) (o:Obj) (k:Nat) (h:k<w.heap.size):(w.alloc o).heap[k]? =w.heap[k]?:=Below.heap_alloc w o k h
theorem vu{α:Type _} {a b:List α}:(a++b).length=a.length+b.length:=List.length_append
theorem vv{α:Type _} {l:List α} {i:Nat} (h:i<l.length):l[i]? =some l[i]:=List.getElem?_eq_getElem h
theorem vw{n m k:Nat}:n<m->m<=k->n<k:=Nat.lt_of_lt_of_le
theorem vx(w:World) (a:Addr) (u:Value) (k:Nat) (h:k≠a.block):(w.setCell a u).heap[k]? =w.heap[k]?:=Below.heap_setCell w a u k h
theorem vy{α:Type _} {a b:List α} {i:Nat} (h:a.length<=i):(a++b)[i]? =b[i-a.length]?:=List.getElem?_append_right h
theorem vz{α:Type _} {a b:List α} {i:Nat} (h:i<a.length):(a++b)[i]? =a[i]?:=List.getElem?_append_left h
theorem vA{α:Type _} {l:List α} {i:Nat} {a:α} (h:l[i]? =some a):a∈l:=List.mem_of_getElem? h
theorem vB{α:Type _} {a:α}:[a].length=1:=List.length_singleton
theorem vC{α:Type _} {a:α} {l:List α}:(a::l).length=l.length+1:=List.length_cons
theorem vD{p:Prop} (h: ¬p->False):p:=Classical.byContradiction h
theorem vE{α:Type _} [BEq α] [LawfulBEq α] {a b:α}:(a==b)=false↔a≠b:=beq_eq_false_iff_ne
theorem vF{p:Prop} [inst:Decidable p]: ¬p->decide p=false:=decide_eq_false
theorem vG{p:Prop} [inst:Decidable p]:p->decide p=true:=decide_eq_true
theorem vH{p:Prop} [inst:Decidable p]:decide p=true->p:=of_decide_eq_true
theorem vI{α:Type _} {β:Type _} {f:α->β} {l:List α} {i:Nat}:(List.map f l)[i]? =Option.map f l[i]?:=List.getElem?_map
theorem vJ{α:Type _} (y:α) {a:α} {l:List α}:a∈l->a∈y::l:=List.mem_cons_of_mem y
theorem vK{α:Type _} {a:α} {l:List α}:a∈a::l:=List.mem_cons_self
theorem vL(n:Nat):0<=n:=Nat.zero_le n
theorem vM{n m k:Nat}:n<=m->m<=k->n<=k:=Nat.le_trans
theorem vN{α:Type _} {β:Type _} {x:α} {l:List α} {f:α->List β}:List.flatMap f (x::l)=f x++List.flatMap f l:=List.flatMap_cons
theorem vO(n:Nat) (w:World):Below n w w:=Below.refl n w
