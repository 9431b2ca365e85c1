/- Frames and page tables in plain Lean: words in bytes, a pool, what is counted. -/
import Derived.Test.YtoochjhipmpehaaGreatDoorAbK
set_option linter.unusedVariables false
set_option linter.unusedSimpArgs false
set_option maxRecDepth 100000
namespace Go.Proofs.YtoochjhipmpehaaGreatDoor
section
def upd {α:Type} (f:Nat->α) (i:Nat) (x:α):Nat->α:=fun j=>if j=i then x else f j
theorem af {α:Type} (f:Nat->α) (i:Nat) (x:α):upd f i x i=x:=by simp[upd]
variable {j:Nat}
theorem ag {α:Type} (f:Nat->α) {i:Nat} (x:α) (h:j≠i):upd f i x j=f j:=by simp[upd,h]
def dw (d:Nat->Nat) (o:Nat):Nat->Nat
 |0=>0
 |n+1=>dw d o n+d (o+n)*256^n
variable {d:Nat->Nat}
theorem leVal_lt (hd: ∀i,d i<256) (o n:Nat):dw d o n<256^n:=by
 induction n with
 |zero=>simp[dw]
 |succ n ih=>
  unfold dw;have h1:=hd (o+n);have h2:d (o+n)*256^n<=255*256^n:=Nat.mul_le_mul_right _ (by omega);rw[Nat.pow_succ];omega
variable {e:Nat->Nat} {o n:Nat}
theorem fZ (h: ∀i,i<n->d (o+i)=e (o+i)):dw d o n=dw e o n:=by
 induction n with
 |zero=>rfl
 |succ n ih=>
  unfold dw;rw[ih (fun i hi=>h i (by omega)),h n (by omega)]
theorem nD (x o:Nat) (d:Nat->Nat) (n:Nat) (h: ∀i,i<n->d (o+i)=x/256^i % 256):dw d o n=x % 256^n:=by
 induction n with
 |zero=>simp[dw,Nat.mod_one]
 |succ n ih=>
  unfold dw;rw[ih (fun i hi=>h i (by omega)),h n (by omega),Nat.pow_succ,Nat.mod_mul];rw[Nat.mul_comm]
theorem iC :dw d o n=0↔ ∀i,i<n->d (o+i)=0:=by
 induction n with
 |zero=>simp[dw]
 |succ n ih=>
  unfold dw;have hp:0<256^n:=Nat.pow_pos (by decide);constructor
  ·intro h i hi;have h1:dw d o n=0:=(by omega);have h2:d (o+n)*256^n=0:=(by omega);have h3:d (o+n)=0:=by
    rcases Nat.mul_eq_zero.1 h2 with h|h
    ·exact h
    ·omega
   rcases Nat.lt_or_ge i n with h4|h4
   ·exact ih.1 h1 i h4
   ·have:i=n:=(by omega);rw[this];exact h3
  ·intro h;rw[ih.2 (fun i hi=>h i (by omega)),h n (by omega)];simp
def word (d:Nat->Nat) (k:Nat):Nat:=dw d (8*k) 8
def aF (d:Nat->Nat) (k x:Nat):Nat->Nat:=fun i=>if 8*k<=i/\i<8*k+8 then x/256^(i-8*k) % 256 else d i
variable {x:Nat}
theorem eW {k:Nat} (hx:x<18446744073709551616):word (aF d k x) j=if j=k then x else word d j:=by
 unfold word;split
 ·rename_i h;subst h;rw[nD x (8*j) _ 8 (fun i hi=>by unfold aF;rw[if_pos (by omega)];congr 3;omega)];exact Nat.mod_eq_of_lt hx
 ·rename_i h;exact fZ fun i hi=>by
   unfold aF;rw[if_neg (by omega)]
theorem mC (k:Nat):word (fun _ =>0) k=0:=iC.2 fun _ _ =>rfl
theorem qz :(∀i,i<4096->d i=0)↔ ∀k,k<512->word d k=0:=by
 constructor
 ·intro h k hk;exact iC.2 fun i hi=>h _ (by omega)
 ·intro h i hi;have:=iC.1 (h (i/8) (by omega)) (i % 8) (by omega)
  rwa [show 8*(i/8)+i % 8=i from by omega]at this
structure Pool where
 n:Nat
 cnt:Nat->Nat
 dat:Nat->Nat->Nat
def Pool.lowest (p:Pool):Option Nat:=(List.range p.n).find? fun f=>p.cnt f==0
def Pool.takeAt (p:Pool) (f:Nat):Pool:=⟨p.n,upd p.cnt f 1,upd p.dat f (fun _ =>0)⟩
def Pool.up (p:Pool) (f:Nat):Pool:=⟨p.n,upd p.cnt f (p.cnt f+1),p.dat⟩
def Pool.down (p:Pool) (f:Nat):Pool:=⟨p.n,upd p.cnt f (p.cnt f-1),p.dat⟩
def Pool.store (p:Pool) (f:Nat) (d:Nat->Nat):Pool:=⟨p.n,p.cnt,upd p.dat f d⟩
def bV (c:Nat->Nat):Nat->Nat
 |0=>0
 |n+1=>bV c n+if c n=0 then 1 else 0
def Pool.left (p:Pool):Nat:=bV p.cnt p.n
theorem nK (c:Nat->Nat) (n:Nat):bV c n<=n:=by
 induction n with
 |zero=>simp[bV]
 |succ n ih=>unfold bV;split<;>omega
variable {c:Nat->Nat}
theorem ff (h: ∀i,i<n->(c i=0↔e i=0)):bV c n=bV e n:=by
 induction n with
 |zero=>rfl
 |succ n ih=>
  unfold bV;rw[ih (fun i hi=>h i (by omega))];have:=h n (by omega);split<;>split<;>simp_all
variable {f:Nat}
theorem fJ (hf:f<n):bV (upd c f x) n+(if c f=0 then 1 else 0)=bV c n+(if x=0 then 1 else 0):=by
 induction n with
 |zero=>omega
 |succ n ih=>
  unfold bV;by_cases h:f=n
  ·subst h;rw[af,ff (c:=upd c f x) (e:=c) (fun i hi=>by rw[ag _ _ (by omega)])];omega
  ·have:=ih (by omega);rw[ag _ _ (fun e=>h e.symm)];omega
theorem ki :bV c n=0↔ ∀i,i<n->c i≠0:=by
 induction n with
 |zero=>simp[bV]
 |succ n ih=>
  unfold bV;constructor
  ·intro h i hi;have h1:bV c n=0:=(by omega);rcases Nat.lt_or_ge i n with h2|h2
   ·exact ih.1 h1 i h2
   ·have:i=n:=(by omega);subst this;intro h3;rw[if_pos h3]at h;omega
  ·intro h;rw[ih.2 (fun i hi=>h i (by omega)),if_neg (h n (by omega))]
variable {p:Pool}
theorem cG (h:p.lowest=some f):f<p.n/\p.cnt f=0/\ ∀g,g<f->p.cnt g≠0:=by
 unfold Pool.lowest at h;rw[List.find?_range_eq_some]at h;obtain⟨h1,h2,h3⟩:=h;refine⟨by simpa using h2,by simpa using h1,fun g hg h4=>?_⟩;have:=h3 g hg;simp[h4]at this
theorem cH (h:p.lowest=none): ∀f,f<p.n->p.cnt f≠0:=by
 intro f hf h0;unfold Pool.lowest at h;rw[List.find?_eq_none]at h;have:=h f (List.mem_range.2 hf);simp[h0]at this
theorem ny (h1:f<p.n) (h2:p.cnt f=0) (h3: ∀g,g<f->p.cnt g≠0):p.lowest=some f:=by
 unfold Pool.lowest;rw[List.find?_range_eq_some];exact⟨by simpa using h2,by simpa using h1,fun g hg=>by simpa using h3 g hg⟩
end
section
structure Leaf where
 frame:Nat
 prot:Nat
 copy:Bool
deriving DecidableEq
def Leaf.pack (l:Leaf):Nat:=l.frame*4096+l.prot*2+1+(if l.copy=true then 16 else 0)
def fO (x:Nat):Leaf:=⟨x/4096,x/2 % 8,x/16 % 2==1⟩
theorem ey (l:Leaf) (h:l.prot<=7):fO l.pack=l:=by
 obtain⟨f,p,c⟩:=l;simp only at h;unfold fO Leaf.pack;cases c
 ·simp only[Leaf.mk.injEq];refine⟨by simp;omega,by simp;omega,?_⟩;rw[vp];simp;omega
 ·simp only[Leaf.mk.injEq];refine⟨by simp;omega,by simp;omega,?_⟩;rw[beq_iff_eq];simp;omega
theorem fC (l:Leaf):l.pack % 2=1:=by
 unfold Leaf.pack;split<;>omega
theorem eB (l:Leaf) (h:l.prot<=7) (hf:l.frame<1024):l.pack<4194304:=by
 unfold Leaf.pack;split<;>omega
structure Tab where
 nd:Nat->Nat->Option Nat
 lf:Nat->Option Leaf
def Tab.word (t:Tab) (lv part k:Nat):Nat:=
 if lv=1 then(match t.lf (part*512+k)with|some l=>l.pack|none=>0)
 else match t.nd (lv-1) (part*512+k)with|some f=>f*4096+1|none=>0
structure Tab.Ok (p:Pool) (t:Tab):Prop where
 root:(t.nd 4 0).isSome=true
 only: ∀part f,t.nd 4 part=some f->part=0
 level: ∀lv part f,t.nd lv part=some f->1<=lv/\lv<=4
 above: ∀lv part f,t.nd lv part=some f->lv<4->(t.nd (lv+1) (part/512)).isSome=true
 leaf: ∀pg l,t.lf pg=some l->(t.nd 1 (pg/512)).isSome=true/\l.prot<=7/\l.frame<p.n
 inj: ∀l1 p1 l2 p2 f,t.nd l1 p1=some f->t.nd l2 p2=some f->l1=l2/\p1=p2
 live: ∀lv part f,t.nd lv part=some f->f<p.n/\0<p.cnt f
 words: ∀lv part f,t.nd lv part=some f-> ∀k,k<512->Go.Proofs.YtoochjhipmpehaaGreatDoor.word (p.dat f) k=t.word lv part k
 full: ∀lv part f,t.nd lv part=some f->lv<4-> ∃k,k<512/\t.word lv part k≠0
 few:p.n<=1024
def part (pg lv:Nat):Nat:=pg/512^lv
def num (pg lv:Nat):Nat:=pg/512^(lv-1) % 512
theorem gI (pg lv:Nat) (h:1<=lv):part pg lv*512+num pg lv=part pg (lv-1):=by
 unfold part num;obtain⟨m,rfl⟩: ∃m,lv=m+1:=⟨lv-1,by omega⟩;rw[Nat.pow_succ,<-Nat.div_div_eq_div_mul,Nat.add_sub_cancel];omega
theorem jS (pg:Nat):part pg 0=pg:=by simp[part]
theorem lP (pg lv:Nat):part pg lv/512=part pg (lv+1):=by
 unfold part;rw[Nat.pow_succ,<-Nat.div_div_eq_div_mul]
theorem bU (pg lv:Nat):num pg lv<512:=Nat.mod_lt _ (by decide)
theorem gJ (pg:Nat) (h:pg<68719476736):part pg 4=0:=by
 unfold part;exact Nat.div_eq_of_lt (by simpa using h)
def Tab.on (t:Tab) (pg lv:Nat):Nat:=t.word lv (part pg lv) (num pg lv)
theorem Tab.on_one (t:Tab) (pg:Nat):t.on pg 1=match t.lf pg with|some l=>l.pack|none=>0:=by
 unfold Tab.on Tab.word;rw[if_pos rfl,gI pg 1 (vd _),jS]
theorem Tab.on_more (t:Tab) (pg lv:Nat) (h:2<=lv):t.on pg lv=match t.nd (lv-1) (part pg (lv-1))with|some f=>f*4096+1|none=>0:=by
 unfold Tab.on Tab.word;rw[if_neg (by omega),gI pg lv (by omega)]
theorem bE {α:Type} {o:Option α} (h:o.isSome=true): ∃x,o=some x:=Option.isSome_iff_exists.1 h
variable {p:Pool} {t:Tab} {pg lv:Nat}
theorem Tab.Ok.ups (h:t.Ok p) (hs:(t.nd lv (part pg lv)).isSome=true): ∀m,lv<=m->m<=4->(t.nd m (part pg m)).isSome=true:=by
 have key: ∀d,lv+d<=4->(t.nd (lv+d) (part pg (lv+d))).isSome=true:=by
  intro d
  induction d with
  |zero=>intro _;exact hs
  |succ d ih=>
   intro h4;obtain⟨f,hf⟩:=bE (ih (by omega));have:=h.above (lv+d) _ f hf (by omega)
   rwa [lP]at this
 intro m hm h4;have:=key (m-lv) (by omega)
 rwa [show lv+(m-lv)=m from by omega]at this
variable {l:Leaf}
theorem Tab.Ok.leafUp (h:t.Ok p) (hl:t.lf pg=some l) (m:Nat) (h1:1<=m) (h4:m<=4):(t.nd m (part pg m)).isSome=true:=by
 have:=(h.leaf pg l hl).1;have e:pg/512=part pg 1:=(by simp[part]);rw[e]at this;exact h.ups this m h1 h4
theorem Tab.Ok.noLeaf (h:t.Ok p) (h1:1<=lv) (h4:lv<=4) (hn:t.nd lv (part pg lv)=none):t.lf pg=none:=by
 cases hl:t.lf pg with
 |none=>rfl
 |some l=>
  have:=h.leafUp hl lv h1 h4;rw[hn]at this;simp at this
theorem Tab.Ok.rootPage (h:t.Ok p) (hl:t.lf pg=some l):pg<68719476736:=by
 obtain⟨f,hf⟩:=bE (h.leafUp hl 4 (by omega) (by omega));have:=h.only _ f hf;unfold part at this;have h2:(512:Nat)^4=68719476736:=(by decide);rw[h2]at this;omega
end
section
def ep (q:Nat->Bool):Nat->Nat
 |0=>0
 |n+1=>ep q n+if q n=true then 1 else 0
variable {q r:Nat->Bool} {n:Nat}
theorem gj (h: ∀i,i<n->q i=r i):ep q n=ep r n:=by
 induction n with
 |zero=>rfl
 |succ n ih=>unfold ep;rw[ih (fun i hi=>h i (by omega)),h n (by omega)]
variable {i:Nat}
theorem ue (hi:i<n) (h: ∀j,j≠i->q j=r j):ep r n+(if q i=true then 1 else 0)=ep q n+(if r i=true then 1 else 0):=by
 induction n with
 |zero=>omega
 |succ n ih=>
  unfold ep;by_cases e:i=n
  ·subst e;rw[gj (q:=q) (r:=r) (fun j hj=>h j (by omega))];omega
  ·have:=ih (by omega);rw[h n (fun e'=>e e'.symm)];omega
theorem eo :ep q n=0↔ ∀i,i<n->q i=false:=by
 induction n with
 |zero=>simp[ep]
 |succ n ih=>
  unfold ep;constructor
  ·intro h i hi;rcases Nat.lt_or_ge i n with h2|h2
   ·exact ih.1 (by omega) i h2
   ·have:i=n:=(by omega);subst this;cases hq:q i with
    |false=>rfl
    |true=>rw[if_pos hq]at h;omega
  ·intro h;rw[ih.2 (fun i hi=>h i (by omega)),h n (by omega)];simp
theorem uf (hi:i<n) (h:q i=true):0<ep q n:=by
 rcases Nat.eq_zero_or_pos (ep q n)with h0|h0
 ·have:=eo.1 h0 i hi;rw[h]at this;cases this
 ·exact h0
def bz:Nat:=68719476736
def cE (t:Tab) (f:Nat):Nat->Bool:=fun pg=>match t.lf pg with|some l=>l.frame==f|none=>false
def ah (t:Tab) (f:Nat):Nat:=ep (cE t f) bz
def an (t:Tab) (f:Nat):Prop:= ∃lv part,t.nd lv part=some f
open Classical in
noncomputable def az (t:Tab) (f:Nat):Nat:=if an t f then 1 else 0
variable {t:Tab} {f:Nat}
theorem ao (h:an t f):az t f=1:=by unfold az;rw[if_pos h]
theorem aE (h: ¬an t f):az t f=0:=by unfold az;rw[if_neg h]
theorem eF {t':Tab} (h:an t f↔an t' f):az t f=az t' f:=by
 unfold az;by_cases h1:an t f
 ·rw[if_pos h1,if_pos (h.1 h1)]
 ·rw[if_neg h1,if_neg (fun e=>h1 (h.2 e))]
structure Tab.But (p:Pool) (t:Tab) (pg lv0:Nat):Prop where
 root:(t.nd 4 0).isSome=true
 only: ∀part f,t.nd 4 part=some f->part=0
 level: ∀lv part f,t.nd lv part=some f->1<=lv/\lv<=4
 above: ∀lv part f,t.nd lv part=some f->lv<4->(t.nd (lv+1) (part/512)).isSome=true
 leaf: ∀pg l,t.lf pg=some l->(t.nd 1 (pg/512)).isSome=true/\l.prot<=7/\l.frame<p.n
 inj: ∀l1 p1 l2 p2 f,t.nd l1 p1=some f->t.nd l2 p2=some f->l1=l2/\p1=p2
 words: ∀lv part f,t.nd lv part=some f->f<p.n/\ ∀k,k<512->Go.Proofs.YtoochjhipmpehaaGreatDoor.word (p.dat f) k=t.word lv part k
 full: ∀lv part f,t.nd lv part=some f->lv<4-> ¬(lv=lv0/\part=Go.Proofs.YtoochjhipmpehaaGreatDoor.part pg lv0)-> ∃k,k<512/\t.word lv part k≠0
 few:p.n<=1024
structure Tab.Good (p:Pool) (t:Tab) (rest:Nat->Nat) (pg lv0:Nat):Prop where
 but:t.But p pg lv0
 cnt: ∀f,f<p.n->p.cnt f=ah t f+az t f+rest f
variable {p:Pool} {rest:Nat->Nat} {pg lv0:Nat}
theorem Tab.Good.node {lv part:Nat} (h:t.Good p rest pg lv0) (hf:t.nd lv part=some f):f<p.n/\0<p.cnt f:=by
 have h1:=(h.but.words lv part f hf).1;have h2:=h.cnt f h1;rw[ao ⟨lv,part,hf⟩]at h2;exact⟨h1,by omega⟩
theorem Tab.Good.ok (h:t.Good p rest pg 4):t.Ok p:=
 ⟨h.but.root,h.but.only,h.but.level,h.but.above,h.but.leaf,h.but.inj,fun lv part f hf=>h.node hf,fun lv part f hf=>(h.but.words lv part f hf).2,fun lv part f hf hl=>h.but.full lv part f hf hl (fun e=>by omega),h.but.few⟩
theorem Tab.But.any (h:t.But p pg 4) (pg' lv0:Nat):t.But p pg' lv0:=
 ⟨h.root,h.only,h.level,h.above,h.leaf,h.inj,h.words,fun lv part f hf hl _ =>h.full lv part f hf hl (fun e=>by omega),h.few⟩
theorem Tab.But.whole (h:t.But p pg lv0) (hw:(t.nd lv0 (Go.Proofs.YtoochjhipmpehaaGreatDoor.part pg lv0)).isSome=true-> ∃k,k<512/\t.word lv0 (Go.Proofs.YtoochjhipmpehaaGreatDoor.part pg lv0) k≠0) (pg':Nat):t.But p pg' 4:=
 ⟨h.root,h.only,h.level,h.above,h.leaf,h.inj,h.words,fun lv part f hf hl _ =>by
  by_cases e:lv=lv0/\part=Go.Proofs.YtoochjhipmpehaaGreatDoor.part pg lv0
  ·obtain⟨rfl,rfl⟩:=e;exact hw (by rw[hf];rfl)
  ·exact h.full lv part f hf hl e,h.few⟩
def Tab.lay (t:Tab) (pg:Nat) (o:Option Leaf):Tab:=⟨t.nd,upd t.lf pg o⟩
def jo:Option Leaf->Nat
 |some l=>l.pack
 |none=>0
theorem Tab.lay_word (t:Tab) (pg:Nat) (o:Option Leaf) (lv q k:Nat) (hk:k<512):
  (t.lay pg o).word lv q k=if lv=1/\q=part pg 1/\k=num pg 1 then jo o else t.word lv q k:=by
 unfold Tab.word Tab.lay;by_cases h1:lv=1
 ·subst h1;rw[if_pos rfl,if_pos rfl];have hp:part pg 1*512+num pg 1=pg:=(by rw[gI pg 1 (vd _),jS]);have hn:=bU pg 1;by_cases h2:q=part pg 1/\k=num pg 1
  ·rw[if_pos ⟨rfl,h2⟩,h2.1,h2.2,hp];simp only[af];cases o<;>rfl
  ·rw[if_neg (fun e=>h2 e.2)];have:q*512+k≠pg:=by
    intro e;apply h2;constructor<;>omega
   simp only[ag _ _ this]
 ·rw[if_neg h1,if_neg h1,if_neg (fun e=>h1 e.1)]
theorem dv (yt:pg<bz) (o:Option Leaf) (f:Nat):
  ah (t.lay pg o) f+(if cE t f pg=true then 1 else 0)=ah t f+(match o with|some l=>if l.frame=f then 1 else 0|none=>0):=by
 unfold ah;have:=ue (q:=cE t f) (r:=cE (t.lay pg o) f) yt (fun j hj=>by unfold cE Tab.lay;simp only[ag _ _ hj]);rw[this];congr 1;unfold cE Tab.lay;simp only[af];cases o with
 |none=>rfl
 |some l=>simp
theorem eE (t:Tab) (pg:Nat) (o:Option Leaf) (f:Nat):az (t.lay pg o) f=az t f:=eF Iff.rfl
theorem Tab.But.lay {g:Nat} (h:t.But p pg lv0) (xc:lv0=4\/lv0=1) (hg:t.nd 1 (part pg 1)=some g) (o:Option Leaf) (ho: ∀l,o=some l->l.prot<=7/\l.frame<p.n):
  (t.lay pg o).But (p.store g (aF (p.dat g) (num pg 1) (jo o))) pg (match o with|some _ =>4|none=>1):=by
 refine⟨h.root,h.only,h.level,h.above,fun q l hq=>?_,h.inj,fun lv q f hf=>?_,fun lv q f hf hl vK=>?_,h.few⟩
 ·by_cases e:q=pg
  ·subst e;simp only[Tab.lay,af]at hq;have e1:q/512=part q 1:=(by simp[part]);refine⟨?_,ho l hq⟩;show(t.nd 1 (q/512)).isSome=true;rw[e1,hg];rfl
  ·simp only[Tab.lay,ag _ _ e]at hq;exact h.leaf q l hq
 ·have Ii:t.nd lv q=some f:=hf;refine⟨(h.words lv q f Ii).1,fun k hk=>?_⟩;rw[Tab.lay_word t pg o lv q k hk];have hx:jo o<18446744073709551616:=by
   cases o with
   |none=>decide
   |some l=>
    have:=ho l rfl;have:=eB l this.1 (by have:=h.few;omega);simp only[jo];omega
  by_cases e:f=g
  ·subst e;obtain⟨rfl,rfl⟩:=h.inj _ _ _ _ _ Ii hg;simp only[Pool.store,af];rw[eW hx];by_cases e2:k=num pg 1
   ·rw[if_pos e2,if_pos (by simp[e2])]
   ·rw[if_neg e2,if_neg (fun e=>e2 e.2.2)];exact(h.words _ _ _ Ii).2 k hk
  ·simp only[Pool.store,ag _ _ e];rw[if_neg (fun e2=>e (by
    obtain⟨rfl,rfl,_⟩:=e2;rw[hg]at Ii;injection Ii with e3;exact e3.symm))]
   exact(h.words _ _ _ Ii).2 k hk
 ·have Ii:t.nd lv q=some f:=hf;by_cases e:lv=1/\q=part pg 1
  ·obtain⟨rfl,rfl⟩:=e;cases o with
   |none=>exact(vK ⟨rfl,rfl⟩).elim
   |some l=>
    refine⟨num pg 1,bU pg 1,?_⟩;rw[Tab.lay_word t pg _ 1 _ _ (bU pg 1),if_pos ⟨rfl,rfl,rfl⟩];have:=fC l;show l.pack≠0;omega
  ·obtain⟨k,hk,hw⟩:=h.full lv q f Ii hl (fun e2=>by
    rcases xc with rfl|rfl
    ·omega
    ·exact e e2)
   refine⟨k,hk,?_⟩;rw[Tab.lay_word t pg o lv q k hk,if_neg (fun e2=>e ⟨e2.1,e2.2.1⟩)];exact hw
end
section
def Tab.put (t:Tab) (lv q:Nat) (o:Option Nat):Tab:=⟨upd t.nd lv (upd (t.nd lv) q o),t.lf⟩
def eD:Option Nat->Nat
 |some f=>f*4096+1
 |none=>0
theorem Tab.put_at (t:Tab) (lv q:Nat) (o:Option Nat):(t.put lv q o).nd lv q=o:=by simp[Tab.put,af]
variable {q':Nat}
theorem Tab.put_ne (t:Tab) (lv q:Nat) (o:Option Nat) {lv':Nat} (h: ¬(lv'=lv/\q'=q)):(t.put lv q o).nd lv' q'=t.nd lv' q':=by
 unfold Tab.put;by_cases h1:lv'=lv
 ·subst h1;simp only[af];exact ag _ _ (fun e=>h ⟨rfl,e⟩)
 ·simp only[ag _ _ h1]
variable {lv:Nat}
theorem Tab.put_word (t:Tab) (xc:1<=lv) (pg:Nat) (o:Option Nat) (lv' q k:Nat) (hk:k<512):
  (t.put lv (part pg lv) o).word lv' q k=if lv'=lv+1/\q=part pg (lv+1)/\k=num pg (lv+1)then eD o else t.word lv' q k:=by
 have hp:part pg (lv+1)*512+num pg (lv+1)=part pg lv:=by
  have:=gI pg (lv+1) (by omega);simpa using this
 have hn:=bU pg (lv+1);unfold Tab.word;by_cases h1:lv'=1
 ·subst h1;rw[if_pos rfl,if_pos rfl,if_neg (by omega)];rfl
 ·rw[if_neg h1,if_neg h1];by_cases h2:lv'=lv+1/\q=part pg (lv+1)/\k=num pg (lv+1)
  ·rw[if_pos h2];obtain⟨rfl,rfl,rfl⟩:=h2;rw[hp,Nat.add_sub_cancel,Tab.put_at];cases o<;>rfl
  ·rw[if_neg h2,Tab.put_ne];intro e;apply h2;refine⟨by omega,?_,?_⟩<;>omega
theorem oN {o:Option Nat} (h: ∀f,o=some f->f<1024):eD o<18446744073709551616:=by
 cases o with
 |none=>decide
 |some f=>have:=h f rfl;simp only[eD];omega
variable {p:Pool} {t:Tab} {pg lv0 q:Nat}
theorem Tab.But.bare (h:t.But p pg lv0) (hn:t.nd lv q=none) (xc:1<=lv) (Md:lv<=4) (k:Nat) (hk:k<512):t.word lv q k=0:=by
 unfold Tab.word;by_cases h1:lv=1
 ·subst h1;rw[if_pos rfl];cases hl:t.lf (q*512+k)with
  |none=>rfl
  |some l=>
   have:=(h.leaf _ l hl).1;rw[show(q*512+k)/512=q from by omega,hn]at this;cases this
 ·rw[if_neg h1];cases hf:t.nd (lv-1) (q*512+k)with
  |none=>rfl
  |some f=>
   have:=h.above _ _ f hf (by omega);rw[show lv-1+1=lv from by omega,show(q*512+k)/512=q from by omega,hn]at this;cases this
theorem Tab.clear (xc:2<=lv) (hz: ∀k,k<512->t.word lv q k=0) (hq:q'/512=q):t.nd (lv-1) q'=none:=by
 cases hf:t.nd (lv-1) q' with
 |none=>rfl
 |some f=>
  have:=hz (q' % 512) (Nat.mod_lt _ (by decide));unfold Tab.word at this;rw[if_neg (by omega),show q*512+q' % 512=q' from by omega,hf]at this;simp at this
theorem Tab.clear1 (hz: ∀k,k<512->t.word 1 q k=0) (hq:q'/512=q):t.lf q'=none:=by
 cases hf:t.lf q' with
 |none=>rfl
 |some l=>
  have:=hz (q' % 512) (Nat.mod_lt _ (by decide));unfold Tab.word at this;rw[if_pos rfl,show q*512+q' % 512=q' from by omega,hf]at this;have:=fC l;simp at *
  omega
variable {g f:Nat}
theorem Tab.But.link (h:t.But p pg lv0) (h1:1<=lv) (h3:lv<=3) (xc:lv0=4\/lv0=lv+1) (hn:t.nd lv (part pg lv)=none) (hg:t.nd (lv+1) (part pg (lv+1))=some g)
  (hf:f<p.n) (hnew: ¬an t f) (hz:p.dat f=fun _ =>0):
  (t.put lv (part pg lv) (some f)).But (p.store g (aF (p.dat g) (num pg (lv+1)) (eD (some f)))) pg lv:=by
 have wb:=h.few;have Za:g≠f:=fun e=>hnew ⟨lv+1,part pg (lv+1),by rw[hg,e]⟩;have hx:eD (some f)<18446744073709551616:=oN (fun f' e=>by injection e with e;omega);refine⟨?_,fun q x hq=>?_,fun l q x hq=>?_,fun l q x hq hl=>?_,fun q l hq=>?_,fun l1 p1 l2 p2 x zA yY=>?_,fun l q x hq=>?_,fun l q x hq hl vK=>?_,h.few⟩
 ·rw[Tab.put_ne _ _ _ _ (by omega)];exact h.root
 ·rw[Tab.put_ne _ _ _ _ (by omega)]at hq;exact h.only q x hq
 ·by_cases e:l=lv/\q=part pg lv
  ·omega
  ·rw[Tab.put_ne _ _ _ _ e]at hq;exact h.level l q x hq
 ·by_cases e:l=lv/\q=part pg lv
  ·obtain⟨rfl,rfl⟩:=e;rw[lP,Tab.put_ne _ _ _ _ (by omega),hg];rfl
  ·rw[Tab.put_ne _ _ _ _ e]at hq;have:=h.above l q x hq hl;by_cases e2:l+1=lv/\q/512=part pg lv
   ·rw[e2.1,e2.2,Tab.put_at];rfl
   ·rw[Tab.put_ne _ _ _ _ e2];exact this
 ·have:=h.leaf q l hq;refine⟨?_,this.2⟩;by_cases e2:1=lv/\q/512=part pg lv
  ·rw[e2.2];obtain⟨rfl,_⟩:=e2;rw[Tab.put_at];rfl
  ·rw[Tab.put_ne _ _ _ _ e2];exact this.1
 ·by_cases e1:l1=lv/\p1=part pg lv
  ·by_cases e2:l2=lv/\p2=part pg lv
   ·omega
   ·obtain⟨rfl,rfl⟩:=e1;rw[Tab.put_at]at zA;rw[Tab.put_ne _ _ _ _ e2]at yY;injection zA with zA;subst zA;exact absurd ⟨_,_,yY⟩ hnew
  ·rw[Tab.put_ne _ _ _ _ e1]at zA;by_cases e2:l2=lv/\p2=part pg lv
   ·obtain⟨rfl,rfl⟩:=e2;rw[Tab.put_at]at yY;injection yY with yY;subst yY;exact absurd ⟨_,_,zA⟩ hnew
   ·rw[Tab.put_ne _ _ _ _ e2]at yY;exact h.inj _ _ _ _ _ zA yY
 ·by_cases e:l=lv/\q=part pg lv
  ·obtain⟨rfl,rfl⟩:=e;rw[Tab.put_at]at hq;injection hq with hq;subst hq;refine⟨hf,fun k hk=>?_⟩;rw[Tab.put_word t h1 pg _ _ _ k hk,if_neg (by omega),h.bare hn h1 (by omega) k hk];simp only[Pool.store,ag _ _ Za.symm];rw[hz];exact mC k
  ·rw[Tab.put_ne _ _ _ _ e]at hq;obtain⟨w1,w2⟩:=h.words l q x hq;refine⟨w1,fun k hk=>?_⟩;rw[Tab.put_word t h1 pg _ _ _ k hk];by_cases ex:x=g
   ·subst ex;obtain⟨rfl,rfl⟩:=h.inj _ _ _ _ _ hq hg;simp only[Pool.store,af];rw[eW hx];by_cases e2:k=num pg (lv+1)
    ·rw[if_pos e2,if_pos (by simp[e2])]
    ·rw[if_neg e2,if_neg (fun e=>e2 e.2.2)];exact w2 k hk
   ·simp only[Pool.store,ag _ _ ex];rw[if_neg (fun e2=>ex (by
     obtain⟨rfl,rfl,_⟩:=e2;rw[hg]at hq;injection hq with e3;exact e3.symm))]
    exact w2 k hk
 ·by_cases e:l=lv+1/\q=part pg (lv+1)
  ·obtain⟨rfl,rfl⟩:=e;refine⟨num pg (lv+1),bU _ _,?_⟩;rw[Tab.put_word t h1 pg _ _ _ _ (bU _ _),if_pos ⟨rfl,rfl,rfl⟩];simp[eD]
  ·rw[Tab.put_ne _ _ _ _ vK]at hq;obtain⟨k,hk,hw⟩:=h.full l q x hq hl (fun e2=>by
    rcases xc with rfl|rfl
    ·omega
    ·exact e e2)
   refine⟨k,hk,?_⟩;rw[Tab.put_word t h1 pg _ _ _ k hk,if_neg (fun e2=>e ⟨e2.1,e2.2.1⟩)];exact hw
theorem Tab.But.prune (h:t.But p pg lv) (h1:1<=lv) (h3:lv<=3) (hf:t.nd lv (part pg lv)=some f) (hg:t.nd (lv+1) (part pg (lv+1))=some g) (hz: ∀k,k<512->t.word lv (part pg lv) k=0):
  (t.put lv (part pg lv) none).But ((p.store g (aF (p.dat g) (num pg (lv+1)) 0)).down f) pg (lv+1):=by
 have hx:(0:Nat)<18446744073709551616:=(by decide);refine⟨?_,fun q x hq=>?_,fun l q x hq=>?_,fun l q x hq hl=>?_,fun q l hq=>?_,fun l1 p1 l2 p2 x zA yY=>?_,fun l q x hq=>?_,fun l q x hq hl vK=>?_,h.few⟩
 ·rw[Tab.put_ne _ _ _ _ (by omega)];exact h.root
 ·rw[Tab.put_ne _ _ _ _ (by omega)]at hq;exact h.only q x hq
 ·by_cases e:l=lv/\q=part pg lv
  ·omega
  ·rw[Tab.put_ne _ _ _ _ e]at hq;exact h.level l q x hq
 ·by_cases e:l=lv/\q=part pg lv
  ·obtain⟨rfl,rfl⟩:=e;rw[Tab.put_at]at hq;cases hq
  ·rw[Tab.put_ne _ _ _ _ e]at hq;have:=h.above l q x hq hl;by_cases e2:l+1=lv/\q/512=part pg lv
   ·have h5:=(h.level l q x hq).1;have:=Tab.clear (t:=t) (lv:=lv) (by omega) hz e2.2;rw[show lv-1=l from by omega,hq]at this;cases this
   ·rw[Tab.put_ne _ _ _ _ e2];exact this
 ·have:=h.leaf q l hq;refine⟨?_,this.2⟩;by_cases e2:1=lv/\q/512=part pg lv
  ·obtain⟨rfl,e3⟩:=e2;have h5:t.lf q=none:=Tab.clear1 (t:=t) hz e3;have h6:t.lf q=some l:=hq;rw[h5]at h6;cases h6
  ·rw[Tab.put_ne _ _ _ _ e2];exact this.1
 ·by_cases e1:l1=lv/\p1=part pg lv
  ·obtain⟨rfl,rfl⟩:=e1;rw[Tab.put_at]at zA;cases zA
  ·by_cases e2:l2=lv/\p2=part pg lv
   ·obtain⟨rfl,rfl⟩:=e2;rw[Tab.put_at]at yY;cases yY
   ·rw[Tab.put_ne _ _ _ _ e1]at zA;rw[Tab.put_ne _ _ _ _ e2]at yY;exact h.inj _ _ _ _ _ zA yY
 ·by_cases e:l=lv/\q=part pg lv
  ·obtain⟨rfl,rfl⟩:=e;rw[Tab.put_at]at hq;cases hq
  ·rw[Tab.put_ne _ _ _ _ e]at hq;obtain⟨w1,w2⟩:=h.words l q x hq;refine⟨w1,fun k hk=>?_⟩;rw[Tab.put_word t h1 pg _ _ _ k hk];by_cases ex:x=g
   ·subst ex;obtain⟨rfl,rfl⟩:=h.inj _ _ _ _ _ hq hg;simp only[Pool.store,Pool.down,af];rw[eW hx];by_cases e2:k=num pg (lv+1)
    ·rw[if_pos e2,if_pos (by simp[e2])];rfl
    ·rw[if_neg e2,if_neg (fun e=>e2 e.2.2)];exact w2 k hk
   ·simp only[Pool.store,Pool.down,ag _ _ ex];rw[if_neg (fun e2=>ex (by
     obtain⟨rfl,rfl,_⟩:=e2;rw[hg]at hq;injection hq with e3;exact e3.symm))]
    exact w2 k hk
 ·by_cases e:l=lv/\q=part pg lv
  ·obtain⟨rfl,rfl⟩:=e;rw[Tab.put_at]at hq;cases hq
  ·rw[Tab.put_ne _ _ _ _ e]at hq;obtain⟨k,hk,hw⟩:=h.full l q x hq hl e;refine⟨k,hk,?_⟩;rw[Tab.put_word t h1 pg _ _ _ k hk,if_neg (fun e2=>vK ⟨e2.1,e2.2.1⟩)];exact hw
end
section
variable {p:Pool} {t:Tab} {pg lv0:Nat}
theorem Tab.But.same {p':Pool} (h:t.But p pg lv0) (hn:p'.n=p.n) (hd: ∀f,an t f->p'.dat f=p.dat f):t.But p' pg lv0:=
 ⟨h.root,h.only,h.level,h.above,fun q l hq=>by rw[hn];exact h.leaf q l hq,h.inj,fun lv q f hf=>by rw[hn,hd f ⟨lv,q,hf⟩];exact h.words lv q f hf,h.full,by rw[hn];exact h.few⟩
variable {rest:Nat->Nat} {f:Nat}
theorem Tab.Good.fresh (h:t.Good p rest pg lv0) (hf:f<p.n) (h0:p.cnt f=0): ¬an t f/\ah t f=0/\rest f=0:=by
 have h1:=h.cnt f hf;refine⟨fun e=>?_,by omega,by omega⟩;rw[ao e]at h1;omega
theorem Tab.Good.take (h:t.Good p rest pg lv0) (hf:f<p.n) (h0:p.cnt f=0):t.Good (p.takeAt f) (upd rest f 1) pg lv0:=by
 obtain⟨h1,h2,h3⟩:=h.fresh hf h0;refine⟨h.but.same rfl (fun x hx=>ag _ _ (fun e=>h1 (e▸hx))),fun x hx=>?_⟩;by_cases e:x=f
 ·subst e;rw[aE h1];simp only[Pool.takeAt,af];omega
 ·simp only[Pool.takeAt,ag _ _ e];exact h.cnt x hx
theorem Tab.Good.up (h:t.Good p rest pg lv0) (f:Nat):t.Good (p.up f) (upd rest f (rest f+1)) pg lv0:=by
 refine⟨h.but.same rfl (fun x hx=>rfl),fun x hx=>?_⟩;have h1:=h.cnt x hx;by_cases e:x=f
 ·subst e;simp only[Pool.up,af];omega
 ·simp only[Pool.up,ag _ _ e];exact h1
theorem Tab.Good.down (h:t.Good p rest pg lv0) (hr:0<rest f):t.Good (p.down f) (upd rest f (rest f-1)) pg lv0:=by
 refine⟨h.but.same rfl (fun x hx=>rfl),fun x hx=>?_⟩;have h1:=h.cnt x hx;by_cases e:x=f
 ·subst e;simp only[Pool.down,af];omega
 ·simp only[Pool.down,ag _ _ e];exact h1
variable {l:Leaf}
theorem du (h:t.lf pg=some l):cE t f pg=(l.frame==f):=by unfold cE;rw[h]
theorem dt (h:t.lf pg=none):cE t f pg=false:=by unfold cE;rw[h]
theorem bO (yt:pg<bz) (h:t.lf pg=some l):0<ah t l.frame:=uf yt (by rw[du h];simp)
variable {g:Nat}
theorem Tab.Good.layNew (h:t.Good p rest pg lv0) (xc:lv0=4\/lv0=1) (yt:pg<bz) (hg:t.nd 1 (part pg 1)=some g) (vW:t.lf pg=none) (h7:l.prot<=7) (hf:l.frame<p.n) (hr:0<rest l.frame):
  (t.lay pg (some l)).Good (p.store g (aF (p.dat g) (num pg 1) l.pack)) (upd rest l.frame (rest l.frame-1)) pg 4:=by
 refine⟨h.but.lay xc hg (some l) (fun x hx=>by injection hx with hx;subst hx;exact⟨h7,hf⟩),fun x hx=>?_⟩;have h1:=h.cnt x hx;have h2:=dv yt (some l) (t:=t) x;rw[dt vW]at h2;rw[eE];by_cases e:l.frame=x
 ·subst e;rw[af];show p.cnt l.frame=_;simp only[if_pos]at h2;rw[if_neg (by simp)]at h2;omega
 ·rw[ag _ _ (fun e'=>e e'.symm)];show p.cnt x=_;simp only[if_neg e]at h2;rw[if_neg (by simp)]at h2;omega
theorem up_down (c:Nat->Nat) (a b x L L' R:Nat) (h1:c x=L+R) (h2:L'+(if b=x then 1 else 0)=L+(if a=x then 1 else 0)) (h3:b=x->0<L):
  upd (upd c a (c a+1)) b (upd c a (c a+1) b-1) x=L'+R:=by
 unfold upd;by_cases e1:b=x
 ·subst e1;have:=h3 rfl;rw[if_pos rfl]at h2⊢;by_cases e2:b=a
  ·subst e2;rw[if_pos rfl]at h2⊢;omega
  ·rw[if_neg (fun e=>e2 e.symm)]at h2;rw[if_neg e2];omega
 ·rw[if_neg e1]at h2;rw[if_neg (fun e=>e1 e.symm)];by_cases e2:x=a
  ·subst e2;rw[if_pos rfl]at h2⊢;omega
  ·rw[if_neg (fun e=>e2 e.symm)]at h2;rw[if_neg e2];omega
theorem tG (c:Nat->Nat) (b x L L' R:Nat) (h1:c x=L+R) (h2:L'+(if b=x then 1 else 0)=L) (h3:b=x->0<L):upd c b (c b-1) x=L'+R:=by
 unfold upd;by_cases e1:b=x
 ·subst e1;have:=h3 rfl;rw[if_pos rfl]at h2⊢;omega
 ·rw[if_neg e1]at h2;rw[if_neg (fun e=>e1 e.symm)];omega
variable {was:Leaf}
theorem Tab.Good.laySet (h:t.Good p rest pg 4) (yt:pg<bz) (hg:t.nd 1 (part pg 1)=some g) (hw:t.lf pg=some was) (h7:l.prot<=7) (hf:l.frame<p.n):
  (t.lay pg (some l)).Good (((p.up l.frame).down was.frame).store g (aF (p.dat g) (num pg 1) l.pack)) rest pg 4:=by
 refine⟨(h.but.lay (.inl rfl) hg (some l) (fun x hx=>by injection hx with hx;subst hx;exact⟨h7,hf⟩)).same rfl (fun _ _ =>rfl),fun x hx=>?_⟩;have h1:=h.cnt x hx;have h2:=dv yt (some l) (t:=t) x;rw[du hw]at h2;rw[eE];have h3:=bO yt hw;have h4:=up_down p.cnt l.frame was.frame x (ah t x) (ah (t.lay pg (some l)) x) (az t x+rest x) (by omega) (by simpa using h2) (fun e=>by rw[<-e];exact h3);rw[Nat.add_assoc];exact h4
theorem Tab.Good.layNone (h:t.Good p rest pg 4) (yt:pg<bz) (hg:t.nd 1 (part pg 1)=some g) (hw:t.lf pg=some was):
  (t.lay pg none).Good ((p.down was.frame).store g (aF (p.dat g) (num pg 1) 0)) rest pg 1:=by
 refine⟨(h.but.lay (.inl rfl) hg none (fun x hx=>by cases hx)).same rfl (fun _ _ =>rfl),fun x hx=>?_⟩;have h1:=h.cnt x hx;have h2:=dv yt none (t:=t) x;rw[du hw]at h2;rw[eE];have h3:=bO yt hw;have h4:=tG p.cnt was.frame x (ah t x) (ah (t.lay pg none) x) (az t x+rest x) (by omega) (by simpa using h2) (fun e=>by rw[<-e];exact h3);rw[Nat.add_assoc];exact h4
variable {lv:Nat}
theorem cK {q:Nat} {o:Option Nat} {x:Nat} :an (t.put lv q o) x↔o=some x\/ ∃l r,¬(l=lv/\r=q)/\t.nd l r=some x:=by
 constructor
 ·rintro⟨l,r,h⟩;by_cases e:l=lv/\r=q
  ·obtain⟨rfl,rfl⟩:=e;rw[Tab.put_at]at h;exact .inl h
  ·rw[Tab.put_ne _ _ _ _ e]at h;exact .inr ⟨l,r,e,h⟩
 ·rintro(h|⟨l,r,e,h⟩)
  ·exact⟨lv,q,by rw[Tab.put_at];exact h⟩
  ·exact⟨l,r,by rw[Tab.put_ne _ _ _ _ e];exact h⟩
theorem ka (t:Tab) (lv q:Nat) (o:Option Nat) (f:Nat):ah (t.put lv q o) f=ah t f:=rfl
theorem Tab.Good.link (h:t.Good p rest pg lv0) (h1:1<=lv) (h3:lv<=3) (xc:lv0=4\/lv0=lv+1) (hn:t.nd lv (part pg lv)=none) (hg:t.nd (lv+1) (part pg (lv+1))=some g)
  (hf:f<p.n) (hnew: ¬an t f) (hz:p.dat f=fun _ =>0) (hr:0<rest f):
  (t.put lv (part pg lv) (some f)).Good (p.store g (aF (p.dat g) (num pg (lv+1)) (eD (some f)))) (upd rest f (rest f-1)) pg lv:=by
 refine⟨h.but.link h1 h3 xc hn hg hf hnew hz,fun x hx=>?_⟩;have hc:=h.cnt x hx;rw[ka];by_cases e:x=f
 ·subst e;rw[ao (cK.2 (.inl rfl)),af];rw[aE hnew]at hc;simp only[Pool.store];omega
 ·rw[ag _ _ e,eF (t':=t)]
  ·exact hc
  ·rw[cK];constructor
   ·rintro(h5|⟨l,r,_,h5⟩)
    ·injection h5 with h5;exact absurd h5.symm e
    ·exact⟨l,r,h5⟩
   ·rintro⟨l,r,h5⟩;refine .inr ⟨l,r,fun e2=>?_,h5⟩;rw[e2.1,e2.2,hn]at h5;cases h5
theorem Tab.Good.prune (h:t.Good p rest pg lv) (h1:1<=lv) (h3:lv<=3) (hf:t.nd lv (part pg lv)=some f) (hg:t.nd (lv+1) (part pg (lv+1))=some g) (hz: ∀k,k<512->t.word lv (part pg lv) k=0):
  (t.put lv (part pg lv) none).Good ((p.store g (aF (p.dat g) (num pg (lv+1)) 0)).down f) rest pg (lv+1):=by
 refine⟨h.but.prune h1 h3 hf hg hz,fun x hx=>?_⟩;have hc:=h.cnt x hx;rw[ka];by_cases e:x=f
 ·subst e;have: ¬an (t.put lv (part pg lv) none) x:=by
   rw[cK];rintro(h5|⟨l,r,h6,h5⟩)
   ·cases h5
   ·exact h6 (h.but.inj _ _ _ _ _ h5 hf)
  rw[aE this];rw[ao ⟨_,_,hf⟩]at hc;simp only[Pool.store,Pool.down,af];omega
 ·simp only[Pool.store,Pool.down,ag _ _ e];rw[eF (t':=t)]
  ·exact hc
  ·rw[cK];constructor
   ·rintro(h5|⟨l,r,_,h5⟩)
    ·cases h5
    ·exact⟨l,r,h5⟩
   ·rintro⟨l,r,h5⟩;refine .inr ⟨l,r,fun e2=>?_,h5⟩;rw[e2.1,e2.2,hf]at h5;injection h5 with h5;exact e h5.symm
end
section
variable {p:Pool} {t:Tab} {rest:Nat->Nat} {pg0 pg:Nat} {l:Leaf}
theorem Tab.Good.leafOf (h:t.Good p rest pg0 4) (hl:t.lf pg=some l):l.prot<=7/\l.frame<p.n/\1<=p.cnt l.frame:=by
 have h1:=h.but.leaf pg l hl;have h2:=h.cnt l.frame h1.2.2;have yt:pg<bz:=h.ok.rootPage hl;have h3:=bO yt hl;exact⟨h1.2.1,h1.2.2,by omega⟩
variable {lv g:Nat}
theorem Tab.Good.safe {q:Nat} (h:t.Good p rest pg0 4) (hl:t.lf pg=some l) (hg:t.nd lv q=some g):2<=p.cnt g\/(g≠l.frame/\1<=p.cnt g):=by
 have h1:=h.node hg;by_cases e:g=l.frame
 ·left;have h2:=h.cnt g h1.1;rw[ao ⟨lv,q,hg⟩]at h2;have h3:=bO (h.ok.rootPage hl) hl;rw[<-e]at h3;omega
 ·exact .inr ⟨e,h1.2⟩
theorem Tab.Good.any (h:t.Good p rest pg0 4) (pg lv:Nat):t.Good p rest pg lv:=⟨h.but.any pg lv,h.cnt⟩
structure Gone (p:Pool) (T:Tab) (rest:Nat->Nat) (pg lv:Nat) (p':Pool) (T':Tab):Prop where
 good:T'.Good p' rest pg lv
 lf:T'.lf=upd T.lf pg none
 sub: ∀l q f,T'.nd l q=some f->T.nd l q=some f
 top: ∀l q,lv<=l->T'.nd l q=T.nd l q
 n:p'.n=p.n
 kept: ∀x,¬an T x->p'.dat x=p.dat x
variable {T:Tab}
theorem Gone.start {was:Leaf} (h:T.Good p rest pg0 4) (hw:T.lf pg=some was) (hg:T.nd 1 (part pg 1)=some g):
  Gone p T rest pg 1 ((p.down was.frame).store g (aF (p.dat g) (num pg 1) 0)) (T.lay pg none):=
 ⟨(h.any pg 4).layNone (h.ok.rootPage hw) hg hw,rfl,fun _ _ _ e=>e,fun _ _ _ =>rfl,rfl,fun x hx=>ag _ _ fun e=>hx (e▸⟨_,_,hg⟩)⟩
variable {p':Pool} {T':Tab}
theorem Gone.zero (h:Gone p T rest pg lv p' T') (hg:T'.nd lv (part pg lv)=some g):
  (∀i,i<4096->p'.dat g i=0)↔ ∀k,k<512->T'.word lv (part pg lv) k=0:=by
 rw[qz];have h1:=(h.good.but.words lv _ g hg).2;constructor
 ·intro h2 k hk;rw[<-h1 k hk];exact h2 k hk
 ·intro h2 k hk;rw[h1 k hk];exact h2 k hk
theorem Gone.keep (h:Gone p T rest pg lv p' T') (hg:T'.nd lv (part pg lv)=some g) (hz: ¬ ∀i,i<4096->p'.dat g i=0) (m:Nat) (hm:lv<=m):
  Gone p T rest pg m p' T':=by
 have h1: ∃k,k<512/\T'.word lv (part pg lv) k≠0:=vo fun e=>hz ((h.zero hg).2 fun k hk=>vo fun e2=>e ⟨k,hk,e2⟩);exact⟨⟨(h.good.but.whole (fun _ =>h1) 0).any pg m,h.good.cnt⟩,h.lf,h.sub,fun l q hl=>h.top l q (by omega),h.n,h.kept⟩
theorem Gone.prune (h:Gone p T rest pg lv p' T') (h1:1<=lv) (h3:lv<=3) {f:Nat} (hg:T'.nd lv (part pg lv)=some g) (hf:T'.nd (lv+1) (part pg (lv+1))=some f)
  (hz: ∀i,i<4096->p'.dat g i=0):
  Gone p T rest pg (lv+1) ((p'.store f (aF (p'.dat f) (num pg (lv+1)) 0)).down g) (T'.put lv (part pg lv) none):=
 ⟨h.good.prune h1 h3 hg hf ((h.zero hg).1 hz),h.lf,fun l q x hx=>by
  by_cases e:l=lv/\q=part pg lv
  ·obtain⟨rfl,rfl⟩:=e;rw[Tab.put_at]at hx;cases hx
  ·rw[Tab.put_ne _ _ _ _ e]at hx;exact h.sub l q x hx,fun l q hl=>by
  rw[Tab.put_ne _ _ _ _ (by omega)];exact h.top l q (by omega),h.n,fun x hx=>(show upd p'.dat f _ x=_ from ag _ _ fun e=>hx (e▸⟨_,_,h.sub _ _ _ hf⟩)).trans (h.kept x hx)⟩
end
section
inductive Ev where
 |node (f:Nat)
 |leaf (pg:Nat) (l:Leaf)
deriving DecidableEq
def Tab.evs (T:Tab):Nat->Nat->List Ev
 |0,q=>match T.lf q with|some l=>[.leaf q l]|none=>[]
 |lv+1,q=>match T.nd (lv+1) q with|some f=> .node f::(List.range 512).flatMap fun i=>T.evs lv (q*512+i)|none=>[]
def Tab.upto (T:Tab) (lv q k:Nat):List Ev:=(List.range k).flatMap fun i=>T.evs lv (q*512+i)
theorem Tab.upto_zero (T:Tab) (lv q:Nat):T.upto lv q 0=[]:=rfl
theorem Tab.upto_succ (T:Tab) (lv q k:Nat):T.upto lv q (k+1)=T.upto lv q k++T.evs lv (q*512+k):=by
 unfold Tab.upto;rw[List.range_succ,List.flatMap_append];simp
variable {T:Tab} {lv q:Nat}
theorem Tab.evs_node {f:Nat} (h:T.nd (lv+1) q=some f):T.evs (lv+1) q= .node f::T.upto lv q 512:=by
 unfold Tab.upto;rw[Tab.evs,h]
theorem Tab.evs_none (h:T.nd (lv+1) q=none):T.evs (lv+1) q=[]:=by rw[Tab.evs,h]
theorem Tab.evs_leaf {l:Leaf} (h:T.lf q=some l):T.evs 0 q=[.leaf q l]:=by rw[Tab.evs,h]
theorem Tab.evs_noleaf (h:T.lf q=none):T.evs 0 q=[]:=by rw[Tab.evs,h]
theorem Tab.upto_le (T:Tab) (lv q:Nat) {k m:Nat} (h:k<=m):(T.upto lv q k).length<=(T.upto lv q m).length:=by
 induction m with
 |zero=>
      obtain rfl:k=0:=(by omega);exact vd _
 |succ m ih=>
  rcases Nat.lt_or_ge m k with h1|h1
  ·obtain rfl:k=m+1:=(by omega);exact vd _
  ·rw[Tab.upto_succ,vf];exact vx (ih h1) (Nat.le_add_right _ _)
end
section
def Ev.ns:Ev->List Nat
 | .node f=>[f]
 | .leaf _ _ =>[]
def Ev.ls:Ev->List (Nat×Leaf)
 | .node _ =>[]
 | .leaf pg y=>[(pg,y)]
def Ev.fs:Ev->List Nat
 | .node f=>[f]
 | .leaf _ y=>[y.frame]
variable {p:Pool} {t:Tab}
theorem Tab.Ok.over (h:t.Ok p) {l x f:Nat} (hf:t.nd l x=some f) (d:Nat) (hd:l+d<=4):(t.nd (l+d) (x/512^d)).isSome=true:=by
 induction d with
 |zero=>simp[hf]
 |succ d ih=>
  obtain⟨g,hg⟩:=bE (ih (by omega));have:=h.above _ _ g hg (by omega);rw[Nat.div_div_eq_div_mul,<-Nat.pow_succ]at this;exact this
theorem Tab.evs_ns {lv q g:Nat} (h:t.nd (lv+1) q=some g):(t.evs (lv+1) q).flatMap Ev.ns=g::(List.range 512).flatMap fun i=>(t.evs lv (q*512+i)).flatMap Ev.ns:=by
 rw[Tab.evs_node h,vy,Tab.upto,List.flatMap_assoc];simp only[Ev.ns,List.cons_append,List.nil_append]
theorem Tab.evs0_ns (t:Tab) (q:Nat):(t.evs 0 q).flatMap Ev.ns=[]:=by
 cases h:t.lf q with
 |none=>rw[Tab.evs_noleaf h];rfl
 |some l=>rw[Tab.evs_leaf h];rfl
theorem Tab.Ok.mem_ns (h:t.Ok p) (f:Nat) (lv:Nat): ∀(q:Nat),lv<=4->(f∈(t.evs lv q).flatMap Ev.ns↔ ∃l d x,1<=l/\l+d=lv/\x/512^d=q/\t.nd l x=some f):=by
 induction lv with
 |zero=>
  intro q _;rw[Tab.evs0_ns];constructor
  ·intro e;simp at e
  ·rintro⟨l,d,x,h1,h2,_⟩;omega
 |succ lv ih=>
  intro q xc;cases hn:t.nd (lv+1) q with
  |none=>
   rw[Tab.evs_none hn];constructor
   ·intro e;simp at e
   ·rintro⟨l,d,x,h1,h2,h3,h4⟩;have:=h.over h4 d (by omega);rw[h2,h3,hn]at this;simp at this
  |some g=>
   rw[Tab.evs_ns hn,List.mem_cons,List.mem_flatMap];constructor
   ·rintro(rfl|⟨i,hi,hm⟩)
    ·exact⟨lv+1,0,q,by omega,by omega,by simp,hn⟩
    ·obtain⟨l,d,x,h1,h2,h3,h4⟩:=(ih _ (by omega)).1 hm;refine⟨l,d+1,x,h1,by omega,?_,h4⟩;rw[Nat.pow_succ,<-Nat.div_div_eq_div_mul,h3];have:=List.mem_range.1 hi;omega
   ·rintro⟨l,d,x,h1,h2,h3,h4⟩;cases d with
    |zero=>
     have e1:l=lv+1:=(by omega);subst e1;simp at h3;subst h3;left;rw[hn]at h4;injection h4 with h4;exact h4.symm
    |succ d=>
     right;rw[Nat.pow_succ,<-Nat.div_div_eq_div_mul]at h3;refine⟨x/512^d % 512,List.mem_range.2 (Nat.mod_lt _ (by omega)),(ih _ (by omega)).2 ⟨l,d,x,h1,by omega,?_,h4⟩⟩;omega
theorem Tab.Ok.nodup_ns (h:t.Ok p) (lv:Nat): ∀(q:Nat),lv<=4->((t.evs lv q).flatMap Ev.ns).Nodup:=by
 induction lv with
 |zero=>intro q _;rw[Tab.evs0_ns];exact List.nodup_nil
 |succ lv ih=>
  intro q xc;cases hn:t.nd (lv+1) q with
  |none=>rw[Tab.evs_none hn];exact List.nodup_nil
  |some g=>
   rw[Tab.evs_ns hn,List.nodup_cons];refine⟨?_,?_⟩
   ·intro e;obtain⟨i,hi,hm⟩:=List.mem_flatMap.1 e;obtain⟨l,d,x,h1,h2,h3,h4⟩:=(h.mem_ns g lv _ (by omega)).1 hm;have:=(h.inj _ _ _ _ _ h4 hn).1;omega
   ·refine List.pairwise_flatMap.2 ⟨fun i _ =>ih _ (by omega),?_⟩;refine List.Pairwise.imp ?_ (List.pairwise_lt_range (n:=512));intro i j CH x hx y hy e;subst e;obtain⟨l,d,z,h1,h2,h3,h4⟩:=(h.mem_ns x lv _ (by omega)).1 hx;obtain⟨l',d',z',h1',h2',h3',RP⟩:=(h.mem_ns x lv _ (by omega)).1 hy;obtain⟨e1,e2⟩:=h.inj _ _ _ _ _ h4 RP;subst e1 e2;have e3:d=d':=(by omega);subst e3;omega
theorem Tab.Ok.nodes_cnt (h:t.Ok p) (f:Nat):((t.evs 4 0).flatMap Ev.ns).count f=az t f:=by
 by_cases hn:an t f
 ·rw[ao hn];obtain⟨l,x,hl⟩:=hn;have h4:=(h.level _ _ _ hl);have hm:f∈(t.evs 4 0).flatMap Ev.ns:=by
   refine(h.mem_ns f 4 0 (by omega)).2 ⟨l,4-l,x,h4.1,by omega,?_,hl⟩;obtain⟨g,hg⟩:=bE (h.over hl (4-l) (by omega));rw[show l+(4-l)=4 from by omega]at hg;exact h.only _ _ hg
  have h1:=List.nodup_iff_count.1 (h.nodup_ns 4 0 (by omega)) f;have h2:=List.count_pos_iff.2 hm;omega
 ·rw[aE hn];refine List.count_eq_zero.2 fun e=>hn ?_;obtain⟨l,d,x,_,_,_,h4⟩:=(h.mem_ns f 4 0 (by omega)).1 e;exact⟨l,x,h4⟩
theorem tV (n:Nat): ∀(l:List Nat),l.Nodup->(∀x,x∈l->x<n)->l.length<=n:=by
 induction n with
 |zero=>
  intro l _ h;cases l with
  |nil=>simp
  |cons a l=>exact absurd (h a (by simp)) (by omega)
 |succ n ih=>
  intro l hl h;by_cases hn:n∈l
  ·have h1:=ih (l.erase n) (hl.erase n) (fun x hx=>by
    have:=(hl.mem_erase_iff.1 hx);have:=h x this.2;have:=(hl.mem_erase_iff.1 hx).1;omega)
   rw[List.length_erase_of_mem hn]at h1;have:=List.length_pos_of_mem hn;omega
  ·have:=ih l hl (fun x hx=>by
    have h1:=h x hx;have:x≠n:=fun e=>hn (e▸hx);omega)
   omega
theorem Tab.evs_short (t:Tab) (lv:Nat): ∀q,(t.evs (lv+1) q).length<=513*((t.evs (lv+1) q).flatMap Ev.ns).length:=by
 induction lv with
 |zero=>
  intro q;cases hn:t.nd (0+1) q with
  |none=>rw[Tab.evs_none hn];simp
  |some g=>
   rw[Tab.evs_ns hn,Tab.evs_node hn];have: ∀k,(t.upto 0 q k).length<=k:=by
    intro k
    induction k with
    |zero=>rw[Tab.upto_zero];simp
    |succ k ih=>
     rw[Tab.upto_succ,vf];have:(t.evs 0 (q*512+k)).length<=1:=by
      cases h:t.lf (q*512+k)with
      |none=>rw[Tab.evs_noleaf h];simp
      |some l=>rw[Tab.evs_leaf h];simp
     omega
   have:=this 512;simp only[vn];omega
 |succ lv ih=>
  intro q;cases hn:t.nd (lv+1+1) q with
  |none=>rw[Tab.evs_none hn];simp
  |some g=>
   rw[Tab.evs_node hn,vy];have: ∀k,(t.upto (lv+1) q k).length<=513*((t.upto (lv+1) q k).flatMap Ev.ns).length:=by
    intro k
    induction k with
    |zero=>rw[Tab.upto_zero];simp
    |succ k ih'=>
     rw[Tab.upto_succ,vf,List.flatMap_append,vf];have:=ih (q*512+k);omega
   have:=this 512;simp only[vn,vf,Ev.ns,List.length_nil];omega
theorem Tab.Ok.short (h:t.Ok p):(t.evs 4 0).length<=525312:=by
 have h1:(t.evs 4 0).length<=513*((t.evs 4 0).flatMap Ev.ns).length:=Tab.evs_short t 3 0;have h2:=tV p.n _ (h.nodup_ns 4 0 (by omega)) (fun x hx=>by
  obtain⟨l,d,y,_,_,_,h4⟩:=(h.mem_ns x 4 0 (by omega)).1 hx;exact(h.live _ _ _ h4).1)
 have h3:=h.few;omega
theorem ug (q:Nat->Bool) (a b:Nat):ep q (a+b)=ep q a+ep (fun i=>q (a+i)) b:=by
 induction b with
 |zero=>rfl
 |succ b ih=>rw[<-Nat.add_assoc];simp only[ep];rw[ih];omega
theorem Tab.Ok.leaf_cnt (h:t.Ok p) (f:Nat) (lv:Nat): ∀q,lv<=4->((t.evs lv q).flatMap Ev.ls).countP (fun y=>y.2.frame==f)=ep (fun i=>cE t f (q*512^lv+i)) (512^lv):=by
 induction lv with
 |zero=>
  intro q _;simp only[Nat.pow_zero,Nat.mul_one,ep,Nat.add_zero,Nat.zero_add];cases hl:t.lf q with
  |none=>simp[Tab.evs_noleaf hl,dt hl]
  |some l=>simp[Tab.evs_leaf hl,du hl,Ev.ls,List.countP_cons]
 |succ lv ih=>
  intro q xc;cases hn:t.nd (lv+1) q with
  |none=>
   rw[Tab.evs_none hn];symm;refine eo.2 fun i hi=>dt (h.noLeaf (lv:=lv+1) (by omega) xc ?_);have:part (q*512^(lv+1)+i) (lv+1)=q:=by
    unfold part;rw[Nat.mul_comm,Nat.mul_add_div (Nat.pos_of_ne_zero (by simp)),Nat.div_eq_of_lt hi,Nat.add_zero]
   rw[this];exact hn
  |some g=>
   rw[Tab.evs_node hn,vy];have: ∀k,((t.upto lv q k).flatMap Ev.ls).countP (fun y=>y.2.frame==f)=ep (fun i=>cE t f (q*512^(lv+1)+i)) (k*512^lv):=by
    intro k
    induction k with
    |zero=>rw[Tab.upto_zero,Nat.zero_mul];rfl
    |succ k ih'=>
     rw[Tab.upto_succ,List.flatMap_append,List.countP_append,ih',ih _ (by omega),Nat.succ_mul,ug];congr 1;refine gj fun i hi=>?_;congr 1;rw[Nat.pow_succ,Nat.add_mul,Nat.mul_assoc,Nat.mul_comm 512 (512^lv),<-Nat.mul_assoc];omega
   rw[List.countP_append,this 512,Nat.pow_succ,Nat.mul_comm (512^lv) 512];simp[Ev.ls]
theorem Tab.Ok.leaves_cnt (h:t.Ok p) (f:Nat):((t.evs 4 0).flatMap Ev.ls).countP (fun y=>y.2.frame==f)=ah t f:=by
 rw[h.leaf_cnt f 4 0 (by omega)];refine gj fun i _ =>?_;congr 1;omega
theorem evs_fs (l:List Ev) (f:Nat):(l.flatMap Ev.fs).count f=(l.flatMap Ev.ns).count f+(l.flatMap Ev.ls).countP (fun y=>y.2.frame==f):=by
 induction l with
 |nil=>rfl
 |cons e l ih=>
  rw[vy,vy,vy,List.count_append,List.count_append,List.countP_append,ih];cases e<;>simp[Ev.fs,Ev.ns,Ev.ls,List.count_cons,List.countP_cons]<;>omega
theorem Tab.Ok.frames_cnt (h:t.Ok p) (f:Nat):((t.evs 4 0).flatMap Ev.fs).count f=ah t f+az t f:=by
 rw[evs_fs,h.nodes_cnt,h.leaves_cnt,Nat.add_comm]
theorem Tab.evs_sound (t:Tab) (pg:Nat) (y:Leaf) (lv:Nat): ∀q,(pg,y)∈(t.evs lv q).flatMap Ev.ls->t.lf pg=some y:=by
 induction lv with
 |zero=>
  intro q hm;cases hl:t.lf q with
  |none=>rw[Tab.evs_noleaf hl]at hm;simp at hm
  |some l=>
   rw[Tab.evs_leaf hl]at hm;simp[Ev.ls]at hm;obtain⟨rfl,rfl⟩:=hm;exact hl
 |succ lv ih=>
  intro q hm;cases hn:t.nd (lv+1) q with
  |none=>rw[Tab.evs_none hn]at hm;simp at hm
  |some g=>
   rw[Tab.evs_node hn,vy,List.mem_append]at hm;rcases hm with hm|hm
   ·simp[Ev.ls]at hm
   ·rw[Tab.upto,List.flatMap_assoc]at hm;obtain⟨i,_,hi⟩:=List.mem_flatMap.1 hm;exact ih _ hi
end
section
def Tab.there (t:Tab):Nat->Nat->Bool
 |0,q=>(t.lf q).isSome
 |lv+1,q=>(t.nd (lv+1) q).isSome
theorem Tab.word_there (t:Tab) (lv q k:Nat):t.word (lv+1) q k≠0↔t.there lv (q*512+k)=true:=by
 cases lv with
 |zero=>
  show t.word 1 q k≠0↔(t.lf (q*512+k)).isSome=true;unfold Tab.word;rw[if_pos rfl];cases h:t.lf (q*512+k)with
  |none=>simp
  |some l=>
   have:=fC l;have h0:l.pack≠0:=(by omega);simpa using h0
 |succ lv=>
  show t.word (lv+1+1) q k≠0↔(t.nd (lv+1) (q*512+k)).isSome=true;unfold Tab.word;rw[if_neg (by omega)];simp only[Nat.add_sub_cancel];cases h:t.nd (lv+1) (q*512+k)with
  |none=>simp
  |some f=>simp
end
