/- Short names for two laws of the library. -/
import Derived.Lib.Hide
import Derived.Below
namespace Go.Proofs.YtoochjhipmpehaaGreatDoor
theorem wO {α : Type _} {xs : Array α} {i : Nat} {a : α} (h : xs[i]? = some a) : ∃ h : i < xs.size, xs[i] = a := Array.getElem?_eq_some_iff.1 h
theorem wP {p : Prop} (h : p) : Go.RowKit.Hid p := h
open Go.RowKit
theorem wQ{p:Prop} (h:p:=by ((repeat' (with_reducible(first|assumption|(refine Below.alloc ?_ ?_ _)|(refine Below.setCell ?_ ?_ _)|(refine Below.drew ?_)|(refine below_drewN ?_ _)|exact Below.refl _ _ |(refine Below.trans ?_ (Below.mono (by assumption) ?_)))))<;>(try simp)<;>(try omega))):p:=h
theorem wR{w:Go.World} {o:Go.Obj}:Below w.heap.size w (w.alloc o):=(Below.refl _ _).alloc (Nat.le_refl _) _
theorem wS(n:Nat):n<=n:=Nat.le_refl n
theorem wT(w:World) (o:Obj) (k:Nat) (h:k<w.heap.size):(w.alloc o).heap[k]? =w.heap[k]?:=Below.heap_alloc w o k h
theorem wU{α:Type _} {a b:List α}:(a++b).length=a.length+b.length:=List.length_append
theorem wV{α:Type _} {l:List α} {i:Nat} (h:i<l.length):l[i]? =some l[i]:=List.getElem?_eq_getElem h
theorem wW{n m k:Nat}:n<m->m<=k->n<k:=Nat.lt_of_lt_of_le
theorem wX(w:World) (a:Addr) (u:Value) (k:Nat) (h:k≠a.block):(w.setCell a u).heap[k]? =w.heap[k]?:=Below.heap_setCell w a u k h
theorem wY{α:Type _} {a b:List α} {i:Nat} (h:a.length<=i):(a++b)[i]? =b[i-a.length]?:=List.getElem?_append_right h
theorem wZ{α:Type _} {a b:List α} {i:Nat} (h:i<a.length):(a++b)[i]? =a[i]?:=List.getElem?_append_left h
theorem xb{α:Type _} {l:List α} {i:Nat} {a:α} (h:l[i]? =some a):a∈l:=List.mem_of_getElem? h
theorem xc{α:Type _} {a:α}:[a].length=1:=List.length_singleton
theorem xd{α:Type _} {a:α} {l:List α}:(a::l).length=l.length+1:=List.length_cons
theorem xe{p:Prop} (h: ¬p->False):p:=Classical.byContradiction h
theorem xf{α:Type _} [BEq α] [LawfulBEq α] {a b:α}:(a==b)=false↔a≠b:=beq_eq_false_iff_ne
theorem xg{p:Prop} [inst:Decidable p]: ¬p->decide p=false:=decide_eq_false
theorem xh{p:Prop} [inst:Decidable p]:p->decide p=true:=decide_eq_true
theorem xi{p:Prop} [inst:Decidable p]:decide p=true->p:=of_decide_eq_true
theorem xj{α:Type _} {β:Type _} {f:α->β} {l:List α} {i:Nat}:(List.map f l)[i]? =Option.map f l[i]?:=List.getElem?_map
theorem xk{α:Type _} (y:α) {a:α} {l:List α}:a∈l->a∈y::l:=List.mem_cons_of_mem y
theorem xl{α:Type _} {a:α} {l:List α}:a∈a::l:=List.mem_cons_self
theorem xm(n:Nat):0<=n:=Nat.zero_le n
theorem xn{n m k:Nat}:n<=m->m<=k->n<=k:=Nat.le_trans
theorem xo{α:Type _} {β:Type _} {x:α} {l:List α} {f:α->List β}:List.flatMap f (x::l)=f x++List.flatMap f l:=List.flatMap_cons
theorem xp(n:Nat) (w:World):Below n w w:=Below.refl n w
theorem zh2{a b:Prop} (a':a) (b':b):Hid a/\Hid b:=⟨wP a',wP b'⟩
theorem zh3{a b c:Prop} (a':a) (b':b) (c':c):Hid a/\Hid b/\Hid c:=⟨wP a',wP b',wP c'⟩
theorem zh4{a b c d:Prop} (a':a) (b':b) (c':c) (d':d):Hid a/\Hid b/\Hid c/\Hid d:=⟨wP a',wP b',wP c',wP d'⟩
theorem zh5{a b c d e:Prop} (a':a) (b':b) (c':c) (d':d) (e':e):Hid a/\Hid b/\Hid c/\Hid d/\Hid e:=⟨wP a',wP b',wP c',wP d',wP e'⟩
theorem zh6{a b c d e f:Prop} (a':a) (b':b) (c':c) (d':d) (e':e) (f':f):Hid a/\Hid b/\Hid c/\Hid d/\Hid e/\Hid f:=⟨wP a',wP b',wP c',wP d',wP e',wP f'⟩
theorem zh7{a b c d e f g:Prop} (a':a) (b':b) (c':c) (d':d) (e':e) (f':f) (g':g):Hid a/\Hid b/\Hid c/\Hid d/\Hid e/\Hid f/\Hid g:=⟨wP a',wP b',wP c',wP d',wP e',wP f',wP g'⟩
theorem zh8{a b c d e f g h:Prop} (a':a) (b':b) (c':c) (d':d) (e':e) (f':f) (g':g) (h':h):Hid a/\Hid b/\Hid c/\Hid d/\Hid e/\Hid f/\Hid g/\Hid h:=⟨wP a',wP b',wP c',wP d',wP e',wP f',wP g',wP h'⟩
theorem o_{p:Prop} (h:p:=by omega):p:=h
theorem k_{p:Prop} (h:p:=by kernel_rfl):p:=h
theorem s_{p:Prop} (h:p:=by simp):p:=h
theorem d_{p:Prop} (h:p:=by decide):p:=h
theorem t_{p:Prop} (h:p:=by simp;omega):p:=h
theorem v_{p:Prop} (h:p:=by rw[IntKind.wrap_u64];omega):p:=h
theorem e_{α:Sort _}(a:α):∃b,b=a:=⟨a,rfl⟩
theorem _root_.Go.RowKit.Hid.o{p:Prop}(h:Go.RowKit.Hid p):p:=h
