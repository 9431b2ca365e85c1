/- Spaces in memory over one cache: what each doing comes to. Spaces over one cache: New, Map, load, store, Fork: what each comes to in a house. Spaces over one cache: Free. -/
import Derived.Test.YtoochjhipmpehaaGreatDoorSpJK
import Derived.Test.YtoochjhipmpehaaGreatDoorSpQK
import Derived.Test.YtoochjhipmpehaaGreatDoorSpRK
set_option linter.unusedVariables false
set_option linter.unusedSimpArgs false
set_option maxRecDepth 100000
namespace Go.Proofs.YtoochjhipmpehaaGreatDoor
section
open Go.RowKit Go.Sort
structure SpM where
 s:Nat
 t:Nat
 root:Nat
 A:Option Addr
 n:Nat
 cap:Nat
 rl:List Reg
 T:Option Tab
structure Live (w:World) (B c a m:Nat) (S:Nat->Prop) (F:List Nd) (x:SpM) (T:Tab):Prop where
 one:One w B c a m S x.s x.t x.root x.A x.n x.cap x.rl
 root:T.nd 4 0=some x.root
 rgs:Rgs F x.rl
 low: ∀g l,T.lf g=some l->g<34359738368
structure Dead (w:World) (B c m:Nat) (S:Nat->Prop) (x:SpM):Prop where
 cell:w.cell? ⟨x.s,2,none⟩=some (.pointer none)
 noS: ¬S x.s/\x.s≠m/\x.s≠c/\B<=x.s
def SpIs (w:World) (B c a m:Nat) (S:Nat->Prop) (F:List Nd) (x:SpM):Prop:=match x.T with|some T=>Live w B c a m S F x T|none=>Dead w B c m S x
theorem SpIs.live {w:World} {B c a m:Nat} {S:Nat->Prop} {F:List Nd} {x:SpM} {T:Tab} (h:SpIs w B c a m S F x) (hT:x.T=some T):Live w B c a m S F x T:=by unfold SpIs at h;rw[hT]at h;exact h
theorem SpIs.of {w:World} {B c a m:Nat} {S:Nat->Prop} {F:List Nd} {x:SpM} {T:Tab} (hT:x.T=some T) (h:Live w B c a m S F x T):SpIs w B c a m S F x:=by unfold SpIs;rw[hT];exact h
theorem SpIs.dead {w:World} {B c a m:Nat} {S:Nat->Prop} {F:List Nd} {x:SpM} (h:SpIs w B c a m S F x) (hT:x.T=none):Dead w B c m S x:=by unfold SpIs at h;rw[hT]at h;exact h
structure Far2 (x y:SpM):Prop where
 ss:x.s≠y.s
 st:x.s≠y.t
 ts:x.t≠y.s
 tt:x.t≠y.t
 rs: ∀ad,y.A=some ad->ad.block≠x.s/\ad.block≠x.t
structure LtW (w:World) (x:SpM):Prop where
 s:x.s<w.heap.size
 t:x.t<w.heap.size
 r: ∀ad,x.A=some ad->ad.block<w.heap.size
structure Hse (w:World) (B c a fs m:Nat) (S:Nat->Prop) (F:List Nd) (clock:Int) (p:Pool) (L:List Slot) (l:List SpM):Prop where
 home:Home w B c a fs m S F clock p L
 hs:Hs F p L (l.map (·.T))
 each: ∀(k:Nat) (x:SpM),l[k]? =some x->SpIs w B c a m S F x
 apart: ∀(j k:Nat) (x y:SpM),j≠k->l[j]? =some x->l[k]? =some y->Far2 x y
 lt: ∀(k:Nat) (x:SpM),l[k]? =some x->LtW w x
variable {w w':World} {B c a fs m:Nat} {S S':Nat->Prop} {F:List Nd} {clock vB:Int} {p p':Pool} {L L':List Slot} {l:List SpM} {k:Nat} {x x' y:SpM} {T T':Tab}
variable {X:Nat->Prop}
theorem SpIs.keep (h:SpIs w B c a m S F y) (hl:LtW w y) (hm:Mod X w w') (hX: ∀b,X b->aw S c m b\/w.heap.size<=b\/(b≠y.s/\b≠y.t/\ ∀ad,y.A=some ad->ad.block≠b)) (ho:Out S S' w):SpIs w' B c a m S' F y:=by
 have hz:=hm.size;have key: ∀b,b<w.heap.size-> ¬aw S c m b->(b=y.s\/b=y.t\/ ∃ad,y.A=some ad/\ad.block=b)-> ¬X b:=fun b hb h1 h2 e=>by
  rcases hX b e with e|e|⟨e1,e2,e3⟩
  ·exact h1 e
  ·omega
  ·rcases h2 with h2|h2|⟨ad,h2,h3⟩
   ·exact e1 h2
   ·exact e2 h2
   ·exact e3 ad h2 h3
 have vW: ∀b,b<w.heap.size-> ¬S b-> ¬S' b:=fun b hb h1 e=>(ho b e).elim h1 (fun e=>by omega);unfold SpIs at *
 cases hT:y.T with
 |none=>
  rw[hT]at h;obtain⟨h1,h2,h3,h4,h5⟩:=h;exact⟨(aS (hm.block y.s hl.s (key _ hl.s (fun e=>e.elim h2 fun e=>e.elim h3 h4) (.inl rfl)))).trans h1,vW _ hl.s h2,h3,h4,h5⟩
 |some T=>
  rw[hT]at h;obtain⟨h1,h2,h3,h4⟩:=h;obtain⟨s1,s2,s3,s4⟩:=h1.noS;obtain⟨t1,t2,t3,t4⟩:=h1.noT;refine⟨⟨(hm.block _ hl.s (key _ hl.s (fun e=>e.elim s1 fun e=>e.elim s2 s3) (.inl rfl))).trans h1.self,(hm.block _ hl.t (key _ hl.t (fun e=>e.elim t1 fun e=>e.elim t2 t3) (.inr (.inl rfl)))).trans h1.tab,h1.row.mod hm fun ad e=>?_,⟨vW _ hl.s s1,s2,s3,s4⟩,⟨vW _ hl.t t1,t2,t3,t4⟩,fun ad e=>?_⟩,h2,h3,h4⟩
  ·obtain⟨n1,n2,n3,n4,n5,n6,n7⟩:=h1.noR ad e;exact key _ n7 (fun e=>e.elim n1 fun e=>e.elim n2 n3) (.inr (.inr ⟨ad,e,rfl⟩))
  ·obtain⟨n1,n2,n3,n4,n5,n6,n7⟩:=h1.noR ad e;exact⟨vW _ n7 n1,n2,n3,n4,n5,n6,by omega⟩
theorem LtW.more (h:LtW w y) (hz:w.heap.size<=w'.heap.size):LtW w' y:=⟨vh h.s hz,vh h.t hz,fun ad e=>vh (h.r ad e) hz⟩
theorem Hse.step (h:Hse w B c a fs m S F clock p L l) (hk:l[k]? =some x) (hH:Home w' B c a fs m S' F vB p' L') (hm:Mod X w w') (hX: ∀b,X b->aw S c m b\/w.heap.size<=b\/b=x.s\/b=x.t) (ho:Out S S' w) (Jf:SpIs w' B c a m S' F x') (hs:x'.s=x.s) (ht:x'.t=x.t) (GN:LtW w' x') (hA: ∀ad,x'.A=some ad->x.A=some ad\/w.heap.size<=ad.block)
  (TO:Hs F p' L' ((l.map (·.T)).set k x'.T)):Hse w' B c a fs m S' F vB p' L' (l.set k x'):=by
 have hz:=hm.size;refine⟨hH,by rw[List.map_set];exact TO,fun j y hj=>?_,fun i j y z CH hi hj=>?_,fun j y hj=>?_⟩
 ·rcases cA hj with⟨_,rfl,_⟩|⟨vK,hj⟩
  ·exact Jf
  ·have hf:=h.apart k j x y (fun e=>vK e.symm) hk hj;exact(h.each j y hj).keep (h.lt j y hj) hm (fun b hb=>(hX b hb).imp id (fun e=>e.imp id fun e=>by
    rcases e with e|e
    ·subst e;exact⟨hf.ss,hf.st,fun ad e=>(hf.rs ad e).1⟩
    ·subst e;exact⟨hf.ts,hf.tt,fun ad e=>(hf.rs ad e).2⟩)) ho
 ·rcases cA hi with⟨rfl,rfl,_⟩|⟨vK,Ca⟩
  ·rcases cA hj with⟨e,_⟩|⟨_,hj⟩
   ·exact absurd e.symm CH
   ·have hf:=h.apart i j x z CH hk hj;exact⟨by rw[hs];exact hf.ss,by rw[hs];exact hf.st,by rw[ht];exact hf.ts,by rw[ht];exact hf.tt,fun ad e=>by rw[hs,ht];exact hf.rs ad e⟩
  ·rcases cA hj with⟨rfl,rfl,_⟩|⟨_,hj⟩
   ·have hf:=h.apart i j y x CH Ca hk;have Xe:=h.lt i y Ca;refine⟨by rw[hs];exact hf.ss,by rw[ht];exact hf.st,by rw[hs];exact hf.ts,by rw[ht];exact hf.tt,fun ad e=>?_⟩;rcases hA ad e with e|e
    ·exact hf.rs ad e
    ·have:=Xe.s;have:=Xe.t;exact⟨by omega,by omega⟩
   ·exact h.apart i j y z CH Ca hj
 ·rcases cA hj with⟨_,rfl,_⟩|⟨_,hj⟩
  ·exact GN
  ·exact(h.lt j y hj).more hz
theorem Hse.same (h:Hse w B c a fs m S F clock p L l) (hH:Home w' B c a fs m S' F vB p' L') (hm:Mod X w w') (hX: ∀b,X b->aw S c m b\/w.heap.size<=b) (ho:Out S S' w) (TO:Hs F p' L' (l.map (·.T))):Hse w' B c a fs m S' F vB p' L' l:=
 ⟨hH,TO,fun j y hj=>(h.each j y hj).keep (h.lt j y hj) hm (fun b hb=>(hX b hb).imp id .inl) ho,h.apart,fun j y hj=>(h.lt j y hj).more hm.size⟩
theorem Hse.below (h:Hse w B c a fs m S F clock p L l) (hb:Below w.heap.size w w'):Hse w' B c a fs m S F clock p L l:=
 h.same (X:=fun _ =>False) (h.home.below hb) (Mod.of hb) (fun _ e=>e.elim) (Out.refl _ _) h.hs
theorem Hse.append (h:Hse w B c a fs m S F clock p L l) (hH:Home w' B c a fs m S' F vB p' L') (hm:Mod X w w') (hX: ∀b,X b->aw S c m b\/w.heap.size<=b) (ho:Out S S' w) (hy:SpIs w' B c a m S' F y) (Xe:LtW w' y) (hs:w.heap.size<=y.s) (ht:w.heap.size<=y.t) (hA: ∀ad,y.A=some ad->w.heap.size<=ad.block)
  (l':List SpM) (hlen:l'.length=l.length) (GN: ∀(j:Nat) (z:SpM),l'[j]? =some z->SpIs w' B c a m S' F z/\ ∃z0,l[j]? =some z0/\z.s=z0.s/\z.t=z0.t/\z.A=z0.A)
  (TO:Hs F p' L' (l'.map (·.T)++[y.T])):Hse w' B c a fs m S' F vB p' L' (l'++[y]):=by
 have hz:=hm.size;have vH: ∀(j:Nat) (z:SpM),l'[j]? =some z->LtW w z:=fun j z hj=>by
  obtain⟨_,z0,h1,h2,h3,h4⟩:=GN j z hj;have h5:=h.lt j z0 h1;exact⟨by rw[h2];exact h5.s,by rw[h3];exact h5.t,fun ad e=>h5.r ad (by rw[<-h4];exact e)⟩
 have cas: ∀(j:Nat) (z:SpM),(l'++[y])[j]? =some z->(j<l'.length/\l'[j]? =some z)\/(j=l'.length/\z=y):=fun j z hj=>by
  rcases Nat.lt_or_ge j l'.length with h1|h1
  ·rw[vk h1]at hj;exact .inl ⟨h1,hj⟩
  ·have h2:j=l'.length:=by
    have:=(List.getElem?_eq_some_iff.1 hj).1;rw[vf,vm]at this;omega
   subst h2;rw[vj (vd _),Nat.sub_self]at hj;injection hj with hj;exact .inr ⟨rfl,hj.symm⟩
 refine⟨hH,by rw[List.map_append];exact TO,fun j z hj=>?_,fun i j u v CH hi hj=>?_,fun j z hj=>?_⟩
 ·rcases cas j z hj with⟨_,hj⟩|⟨_,rfl⟩
  ·exact(GN j z hj).1
  ·exact hy
 ·rcases cas i u hi with⟨i1,Ca⟩|⟨i1,rfl⟩
  ·rcases cas j v hj with⟨j1,hj⟩|⟨j1,rfl⟩
   ·obtain⟨_,u0,a1,a2,a3,a4⟩:=GN i u Ca;obtain⟨_,v0,b1,b2,b3,b4⟩:=GN j v hj;have hf:=h.apart i j u0 v0 CH a1 b1;exact⟨by rw[a2,b2];exact hf.ss,by rw[a2,b3];exact hf.st,by rw[a3,b2];exact hf.ts,by rw[a3,b3];exact hf.tt,fun ad e=>by rw[a2,a3];exact hf.rs ad (by rw[<-b4];exact e)⟩
   ·have h5:=vH i u Ca;have e1:=h5.s;have e2:=h5.t;exact⟨by omega,by omega,by omega,by omega,fun ad e=>by have:=hA ad e;exact⟨by omega,by omega⟩⟩
  ·rcases cas j v hj with⟨j1,hj⟩|⟨j1,rfl⟩
   ·have h5:=vH j v hj;have e1:=h5.s;have e2:=h5.t;exact⟨by omega,by omega,by omega,by omega,fun ad e=>by have:=h5.r ad e;exact⟨by omega,by omega⟩⟩
   ·omega
 ·rcases cas j z hj with⟨_,hj⟩|⟨_,rfl⟩
  ·exact(vH j z hj).more hz
  ·exact Xe
end
section
open Go.RowKit Go.Sort
variable {w:World} {B c a fs m:Nat} {S:Nat->Prop} {F:List Nd} {clock:Int} {p:Pool} {L:List Slot} {l:List SpM} {k:Nat} {x:SpM} {T:Tab}
theorem eQ (hk:l[k]? =some x) (hT:x.T=some T):(l.map (·.T))[k]? =some (some T):=by rw[vt,hk];exact congrArg some hT
theorem Hse.sp (h:Hse w B c a fs m S F clock p L l) (hk:l[k]? =some x) (hT:x.T=some T):Sp F (tnS ((l.map (·.T)).set k none)) p L T:=h.hs.at_ (eQ hk hT)
theorem Hse.ownT (h:Hse w B c a fs m S F clock p L l) (hk:l[k]? =some x) (hT:x.T=some T):Own p T:=h.hs.own k T (eQ hk hT)
theorem Hse.live (h:Hse w B c a fs m S F clock p L l) (hk:l[k]? =some x) (hT:x.T=some T):Live w B c a m S F x T:=(h.each k x hk).live hT
theorem Hse.caps (h:Hse w B c a fs m S F clock p L l) (hl:l.length<=100) (k f:Nat):tnS ((l.map (·.T)).set k none) f<=100000000000:=h.hs.cap (by rw[List.length_map];exact hl) k f
def SpM.withT (x:SpM) (T:Tab):SpM:= { x with T:=some T}
theorem LtW.withT (h:LtW w x):LtW w (x.withT T):=⟨h.s,h.t,h.r⟩
variable {w':World} {p':Pool} {L':List Slot} {T':Tab}
theorem Hse.kept {S':Nat->Prop} {vB:Int} (h:Hse w B c a fs m S F clock p L l) (hk:l[k]? =some x) (hT:x.T=some T) (hC:ar w' S' c a fs m vB p' L') (hm:Mod (aw S c m) w w') (ho:Out S S' w)
  (hq:Kept F (tnS ((l.map (·.T)).set k none)) p L T p' L' T') (wk: ∀g y,T'.lf g=some y->g<34359738368):Hse w' B c a fs m S' F vB p' L' (l.set k (x.withT T')):=by
 have xc:=h.live hk hT;have hO:=xc.one.foot hm ho;refine h.step hk (h.home.step hC hm ho) hm (fun b e=> .inl e) ho (SpIs.of (T:=T') rfl ⟨hO,hq.root _ xc.root,xc.rgs,wk⟩) rfl rfl ((h.lt k x hk).more hm.size).withT (fun ad e=> .inl e) ?_;exact h.hs.step (eQ hk hT) (hq.far _) hq.sp hq.own
variable {hold d:Nat->Nat} {rl:List Reg} {addr kk:Nat} {len want er:Int}
theorem eN.kept (h:eN F hold rl p L T addr len want er kk d p' L' T') (hs:Sp F hold p L T) (ho:Own p T):Kept F hold p L T p' L' T':=by
 rcases h with⟨_,_,rfl,rfl,rfl⟩|⟨_,_,_,_,rfl,rfl,rfl⟩|⟨_,_,_,_,h⟩|⟨_,_,_,_,_,⟨j,_,h⟩,_⟩
 ·exact Kept.refl hs ho
 ·exact Kept.refl hs ho
 ·exact h.seen.kept
 ·exact h.seen.kept
theorem lN {x:Nat×Nat} (h:dE rl x want=true):Perm rl x want:=by
 unfold dE at h;exact @vs _ (Classical.propDecidable _) h
theorem lK {x:Nat×Nat} {j:Nat} (hx:x.1+x.2<=140737488355328) (hj:0<(pst x j).2):(pst x j).1/4096<34359738368:=by
 have:=dm x j;omega
theorem eN.low (h:eN F hold rl p L T addr len want er kk d p' L' T') (wk: ∀g y,T.lf g=some y->g<34359738368): ∀g y,T'.lf g=some y->g<34359738368:=by
 intro g y hy;cases ht:T.lf g with
 |some z=>exact wk g z ht
 |none=>
  rcases h with⟨_,_,rfl,rfl,rfl⟩|⟨_,_,_,_,rfl,rfl,rfl⟩|⟨_,_,hp,_,h⟩|⟨_,_,hp,_,_,⟨j,_,h⟩,_⟩
  ·exact wk g y hy
  ·exact wk g y hy
  ·refine vo fun vW=>?_;have:=h.only g ht fun i hi e=>vW (e▸lK (lN hp).1 hi);rw[this]at hy;cases hy
  ·refine vo fun vW=>?_;have:=h.only g ht fun i hi e=>vW (e▸lK (lN hp).1 (h.pos i hi));rw[this]at hy;cases hy
def uR (w:World) (B c a fs m:Nat) (S:Nat->Prop) (F:List Nd) (clock:Int) (p:Pool) (L:List Slot) (l:List SpM) (k:Nat) (x:SpM) (T:Tab) (addr:Nat) (len want:Int) (e:Ending) (w':World):Prop:=
 ∃er R kk cp d p' L' T' vB S',e= .returned (.tuple #[.slice R kk cp, .int .i64 er])/\Hse w' B c a fs m S' F vB p' L' (l.set k (x.withT T'))/\Mod (aw S c m) w w'/\Out S S' w/\clock<=vB/\vB<=clock+32/\OwnB w' w.heap.size R cp kk d/\((∀g,R.map (·.block)=some g-> ¬S' g)/\kk<=65536)/\eN F (tnS ((l.map (·.T)).set k none)) x.rl p L T addr len want er kk d p' L' T'
theorem jb (h:Hse w B c a fs m S F clock p L l) (hk:l[k]? =some x) (hT:x.T=some T) (hl:l.length<=100) (addr:Nat) (len want:Int) (zq:addr<18446744073709551616) (yA:0<=clock/\clock+32<1000000):
  Calls Tryz.prog 70 #[.pointer (some ⟨x.s,0,none⟩), .int .u64 (addr:Int), .int .i64 len, .int .u8 want] w (uR w B c a fs m S F clock p L l k x T addr len want):=by
 have xc:=h.live hk hT;refine(sA B c a fs m x.s x.t x.root x.n x.cap addr len want x.A x.rl clock w S F p L T _ h.home xc.one (h.sp hk hT) (h.ownT hk hT) xc.root xc.rgs zq (h.caps hl k) yA).mono ?_;rintro e w' ⟨er,R,kk,cp,d,p',L',T',vB,S',rfl,hC,hm,ho,xU,zM,vR,Hz,vO⟩;exact⟨er,R,kk,cp,d,p',L',T',vB,S',rfl,h.kept hk hT hC hm ho (vO.kept (h.sp hk hT) (h.ownT hk hT)) (vO.low xc.low),hm,ho,xU,zM,vR,Hz,vO⟩
def rW (w:World) (B c a fs m:Nat) (S:Nat->Prop) (F:List Nd) (clock:Int) (p:Pool) (L:List Slot) (l:List SpM) (k:Nat) (x:SpM) (T:Tab) (addr q:Nat) (d:Nat->Nat) (want:Int) (e:Ending) (w':World):Prop:=
 ∃er p' L' T' vB S',e= .returned (.int .i64 er)/\Hse w' B c a fs m S' F vB p' L' (l.set k (x.withT T'))/\Mod (aw S c m) w w'/\Out S S' w/\clock<=vB/\vB<=clock+32/\dN F (tnS ((l.map (·.T)).set k none)) x.rl p L T addr q d want er p' L' T'
variable {q:Nat}
theorem dN.left (h:dN F hold rl p L T addr q d want er p' L' T') (hs:Sp F hold p L T) (ho:Own p T):Sp F hold p' L' T'/\(∀E,Far hold T E p p')/\Own p' T'/\(∀f,T.nd 4 0=some f->T'.nd 4 0=some f):=by
 rcases h with⟨_,_,rfl,rfl,rfl⟩|⟨_,_,_,rfl,rfl,rfl⟩|⟨_,_,_,h⟩|⟨_,_,_,j,all,p1,_,h1,h2⟩
 ·exact⟨hs,fun _ =>Far.refl,ho,fun _ h=>h⟩
 ·exact⟨hs,fun _ =>Far.refl,ho,fun _ h=>h⟩
 ·exact⟨h.seen.kept.sp,h.seen.kept.far,h.seen.kept.own,h.seen.kept.root⟩
 ·exact⟨h2.sp,fun E=>(h1.seen.kept.far E).trans h1.seen.kept.sp (h2.far E),h2.own,h1.seen.kept.root⟩
theorem dN.low (h:dN F hold rl p L T addr q d want er p' L' T') (wk: ∀g y,T.lf g=some y->g<34359738368): ∀g y,T'.lf g=some y->g<34359738368:=by
 intro g y hy;cases ht:T.lf g with
 |some z=>exact wk g z ht
 |none=>
  rcases h with⟨_,_,rfl,rfl,rfl⟩|⟨_,_,_,rfl,rfl,rfl⟩|⟨_,hp,_,h⟩|⟨_,hp,_,j,all,p1,_,h1,h2⟩
  ·exact wk g y hy
  ·exact wk g y hy
  ·refine vo fun vW=>?_;have:=h.only g ht fun i hi e=>vW (e▸lK (lN hp).1 hi);rw[this]at hy;cases hy
  ·refine vo fun vW=>?_;have:=h1.only g ht fun i hi e=>vW (e▸lK (lN hp).1 (h1.pos i hi));rw[this]at hy;cases hy
theorem nH (h:Hse w B c a fs m S F clock p L l) (hk:l[k]? =some x) (hT:x.T=some T) (hl:l.length<=100) (addr q cq:Nat) (want:Int) (Ab:Option Addr) (d:Nat->Nat) (zq:addr<18446744073709551616) (yA:0<=clock/\clock+32<1000000)
  (hq:q<9223372036854775808) (EH:q<=cq) (hb:au w Ab q d) (hd: ∀j,d j<256) (Eo: ∀ad,Ab=some ad->ad.block<w.heap.size/\ ¬aw S c m ad.block):
  Calls Tryz.prog 71 #[.pointer (some ⟨x.s,0,none⟩), .int .u64 (addr:Int), .slice Ab q cq, .int .u8 want] w (rW w B c a fs m S F clock p L l k x T addr q d want):=by
 have xc:=h.live hk hT;refine(qK B c a fs m x.s x.t x.root x.n x.cap addr q cq want x.A Ab d x.rl clock w S F p L T _ h.home xc.one (h.sp hk hT) (h.ownT hk hT) xc.root xc.rgs zq (h.caps hl k) yA hq EH hb hd Eo).mono ?_;rintro e w' ⟨er,p',L',T',vB,S',rfl,hC,hm,ho,xU,zM,vO⟩;obtain⟨a1,a2,a3,a4⟩:=vO.left (h.sp hk hT) (h.ownT hk hT);refine⟨er,p',L',T',vB,S',rfl,h.step hk (h.home.step hC hm ho) hm (fun b e=> .inl e) ho (SpIs.of (T:=T') rfl ⟨xc.one.foot hm ho,a4 _ xc.root,xc.rgs,vO.low xc.low⟩) rfl rfl ((h.lt k x hk).more hm.size).withT (fun ad e=> .inl e) (h.hs.step (eQ hk hT) (a2 _) a1 a3),hm,ho,xU,zM,vO⟩
def HNewPost (w:World) (B c a fs m:Nat) (S:Nat->Prop) (F:List Nd) (clock:Int) (p:Pool) (L:List Slot) (l:List SpM) (e:Ending) (w':World):Prop:=
 (∃s t f p' L' S',e= .returned (.tuple #[.pointer (some ⟨s,0,none⟩), .int .i64 0])/\Hse w' B c a fs m S' F clock p' L' (l++[⟨s,t,f,none,0,0,[],some (aG f)⟩])/\Mod (aw S c m) w w'/\Out S S' w/\(w.heap.size<=s/\w.heap.size<=t)/\ax p L 0 f p' L')\/
 (∃f p' L' S',e= .returned (.tuple #[.pointer none, .int .i64 4])/\Hse w' B c a fs m S' F clock p' L' l/\Mod (aw S c m) w w'/\Out S S' w/\ax p L 4 f p' L'/\p'=p/\L'=L)
theorem rgs_nil (F:List Nd):Rgs F []:=⟨by decide,fun r hr=>absurd hr List.not_mem_nil,fun r hr _ =>absurd hr List.not_mem_nil⟩
theorem rsl_nil (w:World):RSl w w.heap.size none 0 0 []:=⟨rfl,vd _,by omega,fun k r h=>by rw[List.getElem?_nil]at h;cases h⟩
theorem hnew (h:Hse w B c a fs m S F clock p L l):Calls Tryz.prog 24 #[.pointer (some ⟨c,0,none⟩)] w (HNewPost w B c a fs m S F clock p L l):=by
 refine(snew_any c a fs m clock w S p L h.home.cache).mono ?_;rintro e w' (⟨f,p',L',S',s,t,rfl,hC,hs,ht,BX,ho,h1,h2,h3,h4,h5,h6⟩|⟨f,p',L',S',rfl,hC,BX,ho,h6,rfl,rfl⟩)
 ·have hm:Mod (aw S c m) w w':=BX.sub fun b e=>e.elim .inl fun e=> .inr (.inl e);have hH:=h.home.step hC hm ho;have hl:=h.home.lts;have hB:=h.home.base;refine .inl ⟨s,t,f,p',L',S',rfl,h.append hH hm (fun b e=> .inl e) ho (SpIs.of (T:=aG f) rfl ⟨⟨hs,ht,rsl_nil _,⟨h5,by dsimp only;omega,by dsimp only;omega,by dsimp only;omega⟩,⟨h4,by dsimp only;omega,by dsimp only;omega,by dsimp only;omega⟩,fun ad e=>by cases e⟩,dK f,rgs_nil F,fun g y e=>by cases e⟩) ⟨h3,by dsimp only;omega,fun ad e=>by cases e⟩ (by dsimp only;omega) h1 (fun ad e=>by cases e) l rfl (fun j z hj=>⟨(h.each j z hj).keep (h.lt j z hj) hm (fun b e=> .inl e) ho,z,hj,rfl,rfl,rfl⟩) (h.hs.more h6),hm,ho,⟨by omega,h1⟩,h6⟩
 ·have hm:Mod (aw S c m) w w':=BX.sub fun b e=>e.elim .inl fun e=> .inr (.inl e);exact .inr ⟨f,_,_,S',rfl,h.same (h.home.step hC hm ho) hm (fun b e=> .inl e) ho h.hs,hm,ho,h6,rfl,rfl⟩
def SpM.withR (x:SpM) (A:Option Addr) (cap:Nat) (rl:List Reg) (T:Tab):SpM:= { x with A:=A,n:=rl.length,cap:=cap,rl:=rl,T:=some T}
def fu (w:World) (B c a fs m:Nat) (S:Nat->Prop) (F:List Nd) (clock:Int) (L:List Slot) (l:List SpM) (k:Nat) (x:SpM) (p:Pool) (res:List Reg) (No:Int->Prop) (Rel:Pool->Tab->Prop) (e:Ending) (w':World):Prop:=
 (∃er,e= .returned (.int .i64 er)/\er≠0/\No er/\Below w.heap.size w w'/\Hse w' B c a fs m S F clock p L l)\/
 (e= .returned (.int .i64 0)/\No 0/\ ∃A' vA p' T',Hse w' B c a fs m S F clock p' L (l.set k (x.withR A' vA res T'))/\Mod (fun b=>aw S c m b\/b=x.s) w w'/\(∀ad,A'=some ad->w.heap.size<=ad.block)/\Rel p' T')
theorem hturn {res:List Reg} {No:Int->Prop} {Rel:Pool->Tab->Prop} {e:Ending} (h:Hse w B c a fs m S F clock p L l) (hk:l[k]? =some x) (hT:x.T=some T) (hp:jr w B c a fs m x.s x.t x.root S F clock L res No (fun p'=> ∃T',Rel p' T') e w')
  (EE:No 0->Rgs F res) (hrel: ∀p' T',Rel p' T'->Sp F (tnS ((l.map (·.T)).set k none)) p' L T'/\(∀E,Far (tnS ((l.map (·.T)).set k none)) T E p p')/\Own p' T'/\T'.nd 4 0=T.nd 4 0/\ ∀g y,T'.lf g=some y-> ∃z,T.lf g=some z):fu w B c a fs m S F clock L l k x p res No Rel e w':=by
 have xc:=h.live hk hT;rcases hp with⟨er,rfl,h1,h2,h3⟩|⟨rfl,h0,A',vA,p',hH,hO,hm,hA,T',hr⟩
 ·exact .inl ⟨er,rfl,h1,h2,h3,h.below h3⟩
 ·obtain⟨a1,a2,a3,a4,a5⟩:=hrel p' T' hr;refine .inr ⟨rfl,h0,A',vA,p',T',h.step hk hH hm (fun b e=>e.imp id fun e=> .inr (.inl e)) (Out.refl _ _) (SpIs.of (T:=T') rfl ⟨hO,a4.trans xc.root,EE h0,fun g y hy=>by obtain⟨z,hz⟩:=a5 g y hy;exact xc.low g z hz⟩) rfl rfl ⟨hO.lts.1,hO.lts.2.1,fun ad e=>(hO.noR ad e).2.2.2.2.2.2⟩ (fun ad e=> .inr (hA ad e)) (h.hs.step (eQ hk hT) (a2 _) a1 a3),hm,hA,hr⟩
theorem cC.rel {f t:Int} (h0:Sp F hold p L T) (ho:Own p T) (h:cC F hold f t p L T kk p' T'):Sp F hold p' L T'/\(∀E,Far hold T E p p')/\Own p' T'/\T'.nd 4 0=T.nd 4 0/\ ∀g y,T'.lf g=some y-> ∃z,T.lf g=some z:=by
 refine⟨h.sp,h.far,h.own ho,h.top,fun g y hy=>?_⟩;have h1:=h.lf g;rw[hy]at h1;split at h1
 ·cases h1
 ·exact⟨y,h1.symm⟩
theorem sV (rl:List Reg) (r:Reg):(Rg.put rl r).1.length<=64/\((Rg.put rl r).2=0->r.to<=140737488355328):=by
 unfold Rg.put;split
 ·rename_i hc;have h1:=aD hc.2;unfold Rg.few;split
  ·exact⟨by simp,fun e=>by simp at e⟩
  ·exact⟨by dsimp only;omega,fun _ =>by omega⟩
 ·exact⟨by simp,fun e=>by simp at e⟩
theorem jX {r:Reg} (h:0=eh F rl r):(Rg.put rl r).2=0/\(0<=r.ino->dS F r.ino):=by
 unfold eh at h;split at h
 ·rename_i h1;exact absurd h.symm h1
 ·rename_i h1;refine⟨Classical.not_not.1 h1,fun h2=>?_⟩;split at h
  ·cases h
  ·rename_i h3;exact vo fun e=>h3 ⟨h2,e⟩
theorem hmap (h:Hse w B c a fs m S F clock p L l) (hk:l[k]? =some x) (hT:x.T=some T) (r:Reg) (ED:r.Ok) (EE:(Rg.put x.rl r).2=0->(0<=r.ino->dS F r.ino)->Rgs F (Rg.put x.rl r).1):
  Calls Tryz.prog 25 #[.pointer (some ⟨x.s,0,none⟩), .agg #[.int .u64 (r).fr, .int .u64 (r).to, .int .u8 (r).prot, .int .i64 (r).ino, .int .u64 (r).off]] w (fu w B c a fs m S F clock L l k x p (Rg.put x.rl r).1 (fun er=>er=eh F x.rl r) (fun p' T'=>cC F (tnS ((l.map (·.T)).set k none)) r.fr r.to p L T T.puts.length p' T')):=by
 have xc:=h.live hk hT;refine(smap_any B c a fs m x.s x.t x.root x.n x.cap r x.A x.rl clock w S F p L T _ h.home xc.one (h.sp hk hT) xc.root xc.rgs.ok ED (by have:=(sV x.rl r).1;omega) (sV x.rl r).2).mono fun e w' hp=>?_;exact hturn h hk hT hp (fun h0=>EE (jX h0).1 (jX h0).2) (fun p' T' hr=>hr.rel (h.sp hk hT) (h.ownT hk hT))
def uS (w:World) (B c a fs m:Nat) (S:Nat->Prop) (F:List Nd) (clock:Int) (p:Pool) (L:List Slot) (l:List SpM) (k:Nat) (x:SpM) (T:Tab) (e:Ending) (w':World):Prop:=
 (∃p' L' S',e= .returned (.tuple #[.pointer none, .int .i64 4])/\Hse w' B c a fs m S' F clock p' L' l/\Mod (aw S c m) w w'/\Out S S' w/\qv F (tnS ((l.map (·.T)).set k none)) p L T p' L')\/
 (∃s2 t2 f A' vA p' L' T' T2 S',e= .returned (.tuple #[.pointer (some ⟨s2,0,none⟩), .int .i64 0])/\Hse w' B c a fs m S' F clock p' L' (l.set k (x.withT T')++[⟨s2,t2,f,A',x.n,vA,x.rl,some T2⟩])/\Mod (aw S c m) w w'/\Out S S' w/\(w.heap.size<=s2/\w.heap.size<=t2/\ ∀ad,A'=some ad->w.heap.size<=ad.block)/\gZ F (tnS ((l.map (·.T)).set k none)) p L T p' L' T' T2)
theorem hfork (h:Hse w B c a fs m S F clock p L l) (hk:l[k]? =some x) (hT:x.T=some T) (hl:l.length<=100) (LX:x.n<900000):
  Calls Tryz.prog 32 #[.pointer (some ⟨x.s,0,none⟩)] w (uS w B c a fs m S F clock p L l k x T):=by
 have xc:=h.live hk hT;refine(sF B c a fs m x.s x.t x.root x.n x.cap x.A x.rl clock w S F p L T _ h.home xc.one (h.sp hk hT) xc.root (h.caps hl k) xc.low LX).mono ?_;rintro e w' (⟨p',L',S',rfl,hH,hO,hm,ho,vW⟩|⟨s2,t2,f,p',L',T',T2,S',A',vA,rfl,hH,hO,yQ,FP,h1,h2,h3,hm,ho,hd⟩)
 ·refine .inl ⟨p',L',S',rfl,h.same hH hm (fun b e=> .inl e) ho ?_,hm,ho,vW⟩;exact h.hs.same (eQ hk hT) (vW.far _) vW.sp (vW.own (h.ownT hk hT))
 ·refine .inr ⟨s2,t2,f,A',vA,p',L',T',T2,S',rfl,?_,hm,ho,⟨h1,h2,h3⟩,hd⟩;have vH:=h.lt k x hk;have xj:=xc.one.foot hm ho;have wk: ∀(Y:Tab),(∀g,Y.lf g=(T.lf g).map cpy)-> ∀g y,Y.lf g=some y->g<34359738368:=fun Y hY g y hy=>by
   rw[hY g]at hy;cases hz:T.lf g with
   |none=>rw[hz]at hy;cases hy
   |some z=>exact xc.low g z hz
  refine h.append (y:=⟨s2,t2,f,A',x.n,vA,x.rl,some T2⟩) hH hm (fun b e=> .inl e) ho (SpIs.of (T:=T2) rfl ⟨yQ,FP,xc.rgs,wk T2 hd.lf2⟩) ⟨yQ.lts.1,yQ.lts.2.1,fun ad e=>(yQ.noR ad e).2.2.2.2.2.2⟩ h1 h2 h3 _ List.length_set (fun j z hj=>?_) ?_
  ·rcases cA hj with⟨rfl,rfl,_⟩|⟨vK,Pw⟩
   ·exact⟨SpIs.of (T:=T') rfl ⟨xj,by rw[hd.nd];exact xc.root,xc.rgs,wk T' hd.lf1⟩,x,hk,rfl,rfl,rfl⟩
   ·exact⟨(h.each j z Pw).keep (h.lt j z Pw) hm (fun b e=> .inl e) ho,z,Pw,rfl,rfl,rfl⟩
  ·rw[List.map_set];exact h.hs.forks (eQ hk hT) hd
end
section
open Go.RowKit Go.Sort
variable {w:World} {B c a fs m:Nat} {S:Nat->Prop} {F:List Nd} {clock:Int} {p:Pool} {L:List Slot} {l:List SpM} {k:Nat} {x:SpM} {T:Tab}
def SpM.dead (x:SpM):SpM:= { x with T:=none}
theorem oW (h:Hse w B c a fs m S F clock p L l) (hk:l[k]? =some x) (hT:x.T=some T):
  Calls Tryz.prog 21 #[.pointer (some ⟨x.s,0,none⟩)] w fun e w'=>e= .returned (.tuple #[])/\Hse w' B c a fs m S F clock (cj p ((T.evs 4 0).flatMap Ev.fs)) L (l.set k x.dead)/\Mod (fun b=>aw S c m b\/b=x.s\/b=x.t) w w':=by
 have xc:=h.live hk hT;have ya:=h.sp hk hT;have NB:=h.home.lows;obtain⟨s1,s2,s3,s4⟩:=xc.one.noS;obtain⟨t1,t2,t3,t4⟩:=xc.one.noT;refine(sE x.s c a x.t x.n x.cap x.root x.A w S p T _ 0 xc.one.self h.home.cache.pool xc.one.tab t1 (by omega) s1 (by omega) xc.one.lts.2.2 ya.good xc.root).mono ?_;rintro e w' ⟨rfl,hP,hm,hc⟩;have Cd:=h.home.cache;have vT:Mod (fun b=>aw S c m b\/b=x.s\/b=x.t) w w':=hm.sub fun b e=>e.elim (fun e=> .inl (.inl e)) fun e=> .inr e.symm;have hC:ar w' S c a fs m clock (cj p ((T.evs 4 0).flatMap Ev.fs)) L:=⟨hP,(hm.block c Cd.lts.1 (fun e=>e.elim Cd.noC fun e=>e.elim (fun e=>t3 e.symm) (fun e=>s3 e.symm))).trans Cd.self,Cd.slots.same (hm.block m Cd.lts.2.1 (fun e=>e.elim Cd.noM fun e=>e.elim (fun e=>t2 e.symm) (fun e=>s2 e.symm))),Cd.noC,Cd.noM⟩;have hB:=h.home.base;obtain⟨w1,B1,nb,c2,ad,mp,f1,f2,f3⟩:=h.home.files;have hH:Home w' B c a fs m S F clock (cj p ((T.evs 4 0).flatMap Ev.fs)) L:=⟨hC,⟨w1,B1,nb,c2,ad,mp,f1,f2,f3.trans (hm.below (fun b hb=>hb.elim (h.home.low b) (fun e=>e.elim (fun e=>by omega) (fun e=>by omega))) hB)⟩,h.home.bytes,h.home.low,NB⟩;refine⟨rfl,h.step hk hH vT (fun b e=>e.imp id .inr) (Out.refl _ _) ?_ rfl rfl ⟨((h.lt k x hk).more hm.size).s,((h.lt k x hk).more hm.size).t,((h.lt k x hk).more hm.size).r⟩ (fun ad e=> .inl e) (h.hs.gone (eQ hk hT)),vT⟩;exact⟨hc,s1,s2,s3,s4⟩
end
