/- Short names for two laws of the library. -/
import Derived.Lib.Hide
import Derived.Below
namespace Go.Proofs.YtoochjhipmpehaaGreatDoor
theorem uZ {α : Type _} {xs : Array α} {i : Nat} {a : α} (h : xs[i]? = some a) : ∃ h : i < xs.size, xs[i] = a := Array.getElem?_eq_some_iff.1 h
theorem va {p : Prop} (h : p) : Go.RowKit.Hid p := h
open Go.RowKit
theorem vb{p:Prop} (h:p:=by ((repeat' (with_reducible(first|assumption|(refine Below.alloc ?_ ?_ _)|(refine Below.setCell ?_ ?_ _)|(refine Below.drew ?_)|(refine below_drewN ?_ _)|exact Below.refl _ _ |(refine Below.trans ?_ (Below.mono (by assumption) ?_)))))<;>(try simp)<;>(try omega))):p:=h
theorem vc{w:Go.World} {o:Go.Obj}:Below w.heap.size w (w.alloc o):=(Below.refl _ _).alloc (Nat.le_refl _) _
theorem vd(n:Nat):n<=n:=Nat.le_refl n
theorem ve(w:World) (o:Obj) (k:Nat) (h:k<w.heap.size):(w.alloc o).heap[k]? =w.heap[k]?:=Below.heap_alloc w o k h
theorem vf{α:Type _} {a b:List α}:(a++b).length=a.length+b.length:=List.length_append
theorem vg{α:Type _} {l:List α} {i:Nat} (h:i<l.length):l[i]? =some l[i]:=List.getElem?_eq_getElem h
theorem vh{n m k:Nat}:n<m->m<=k->n<k:=Nat.lt_of_lt_of_le
theorem vi(w:World) (a:Addr) (u:Value) (k:Nat) (h:k≠a.block):(w.setCell a u).heap[k]? =w.heap[k]?:=Below.heap_setCell w a u k h
theorem vj{α:Type _} {a b:List α} {i:Nat} (h:a.length<=i):(a++b)[i]? =b[i-a.length]?:=List.getElem?_append_right h
theorem vk{α:Type _} {a b:List α} {i:Nat} (h:i<a.length):(a++b)[i]? =a[i]?:=List.getElem?_append_left h
theorem vl{α:Type _} {l:List α} {i:Nat} {a:α} (h:l[i]? =some a):a∈l:=List.mem_of_getElem? h
theorem vm{α:Type _} {a:α}:[a].length=1:=List.length_singleton
theorem vn{α:Type _} {a:α} {l:List α}:(a::l).length=l.length+1:=List.length_cons
theorem vo{p:Prop} (h: ¬p->False):p:=Classical.byContradiction h
theorem vp{α:Type _} [BEq α] [LawfulBEq α] {a b:α}:(a==b)=false↔a≠b:=beq_eq_false_iff_ne
theorem vq{p:Prop} [inst:Decidable p]: ¬p->decide p=false:=decide_eq_false
theorem vr{p:Prop} [inst:Decidable p]:p->decide p=true:=decide_eq_true
theorem vs{p:Prop} [inst:Decidable p]:decide p=true->p:=of_decide_eq_true
theorem vt{α:Type _} {β:Type _} {f:α->β} {l:List α} {i:Nat}:(List.map f l)[i]? =Option.map f l[i]?:=List.getElem?_map
theorem vu{α:Type _} (y:α) {a:α} {l:List α}:a∈l->a∈y::l:=List.mem_cons_of_mem y
theorem vv{α:Type _} {a:α} {l:List α}:a∈a::l:=List.mem_cons_self
theorem vw(n:Nat):0<=n:=Nat.zero_le n
theorem vx{n m k:Nat}:n<=m->m<=k->n<=k:=Nat.le_trans
theorem vy{α:Type _} {β:Type _} {x:α} {l:List α} {f:α->List β}:List.flatMap f (x::l)=f x++List.flatMap f l:=List.flatMap_cons
theorem vz(n:Nat) (w:World):Below n w w:=Below.refl n w
