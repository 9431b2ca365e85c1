/- Spaces in memory over one cache: what each doing comes to. -/
import Derived.Test.YtoochjhipmpehaaGreatDoorSpRK
set_option linter.unusedVariables false
set_option linter.unusedSimpArgs false
set_option maxRecDepth 100000
set_option maxHeartbeats 8000000
namespace Go.Proofs.YtoochjhipmpehaaGreatDoor
open Go.Proofs.Tryz
section
open Go.RowKit Go.Sort
structure SpM where
 s:Nat
 t:Nat
 root:Nat
 A:Option Addr
 n:Nat
 cap:Nat
 rl:List Reg
 T:Option Tab
structure Live (w:World)(B c a m:Nat)(S:Nat->Prop)(F:List Nd)(x:SpM)(T:Tab):Prop where
 one:One w B c a m S x.s x.t x.root x.A x.n x.cap x.rl
 root:T.nd 4 0=some x.root
 rgs:Rgs F x.rl
 low: ∀g l,T.lf g=some l->g<34359738368
structure Dead (w:World)(B c m:Nat)(S:Nat->Prop)(x:SpM):Prop where
 cell:w.cell? ⟨x.s,2,none⟩=some (.pointer none)
 noS: ¬S x.s/\x.s≠m/\x.s≠c/\B<=x.s
def SpIs (w:World)(B c a m:Nat)(S:Nat->Prop)(F:List Nd)(x:SpM):Prop:=match x.T with|some T=>Live w B c a m S F x T|none=>Dead w B c m S x
theorem SpIs.live {w:World}{B c a m:Nat}{S:Nat->Prop}{F:List Nd}{x:SpM}{T:Tab}(h:SpIs w B c a m S F x)(hT:x.T=some T):Live w B c a m S F x T:=by unfold SpIs at h;rw[hT]at h;exact h
theorem SpIs.of {w:World}{B c a m:Nat}{S:Nat->Prop}{F:List Nd}{x:SpM}{T:Tab}(hT:x.T=some T)(h:Live w B c a m S F x T):SpIs w B c a m S F x:=by unfold SpIs;rw[hT];exact h
theorem SpIs.dead {w:World}{B c a m:Nat}{S:Nat->Prop}{F:List Nd}{x:SpM}(h:SpIs w B c a m S F x)(hT:x.T=none):Dead w B c m S x:=by unfold SpIs at h;rw[hT]at h;exact h
structure Far2 (x y:SpM):Prop where
 ss:x.s≠y.s
 st:x.s≠y.t
 ts:x.t≠y.s
 tt:x.t≠y.t
 rs: ∀ad,y.A=some ad->ad.block≠x.s/\ad.block≠x.t
structure LtW (w:World)(x:SpM):Prop where
 s:x.s<w.heap.size
 t:x.t<w.heap.size
 r: ∀ad,x.A=some ad->ad.block<w.heap.size
structure Hse (w:World)(B c a fs m:Nat)(S:Nat->Prop)(F:List Nd)(clock:Int)(p:Pool)(L:List Slot)(l:List SpM):Prop where
 home:Home w B c a fs m S F clock p L
 hs:Hs F p L (l.map (·.T))
 each: ∀(k:Nat) (x:SpM),l[k]? =some x->SpIs w B c a m S F x
 apart: ∀(j k:Nat) (x y:SpM),j≠k->l[j]? =some x->l[k]? =some y->Far2 x y
 lt: ∀(k:Nat) (x:SpM),l[k]? =some x->LtW w x
variable {w w':World}{B c a fs m:Nat}{S S':Nat->Prop}{F:List Nd}{clock xr:Int}{p p':Pool}{L L':List Slot}{l:List SpM}{k:Nat}{x x' y:SpM}{T T':Tab}
variable {X:Nat->Prop}
theorem SpIs.keep (h:SpIs w B c a m S F y)(hl:LtW w y)(hm:Mod X w w')(hX: ∀b,X b->av S c m b\/w.heap.size<=b\/(b≠y.s/\b≠y.t/\ ∀ad,y.A=some ad->ad.block≠b))(ho:Out S S' w):SpIs w' B c a m S' F y:=by
 have hz:=hm.size;have key: ∀b,b<w.heap.size-> ¬av S c m b->(b=y.s\/b=y.t\/ ∃ad,y.A=some ad/\ad.block=b)-> ¬X b:=fun b hb h1 h2 e=>by
  rcases hX b e with e|e|⟨e1,e2,e3⟩
  ·exact h1 e
  ·omega
  ·rcases h2 with h2|h2|⟨ad,h2,h3⟩
   ·exact e1 h2
   ·exact e2 h2
   ·exact e3 ad h2 h3
 have xL: ∀b,b<w.heap.size-> ¬S b-> ¬S' b:=fun b hb h1 e=>(ho b e).elim h1 (fun e=>o_);unfold SpIs at *
 cases hT:y.T with
 |none=>
  rw[hT]at h;obtain⟨h1,h2,h3,h4,h5⟩:=h;exact⟨(bI (hm.block y.s hl.s (key _ hl.s (fun e=>e.elim h2 fun e=>e.elim h3 h4) (.inl rfl)))).trans h1,xL _ hl.s h2,h3,h4,h5⟩
 |some T=>
  rw[hT]at h;obtain⟨h1,h2,h3,h4⟩:=h;obtain⟨s1,s2,s3,s4⟩:=h1.noS;obtain⟨t1,t2,t3,t4⟩:=h1.noT;refine⟨⟨(hm.block _ hl.s (key _ hl.s (fun e=>e.elim s1 fun e=>e.elim s2 s3) (.inl rfl))).trans h1.self,(hm.block _ hl.t (key _ hl.t (fun e=>e.elim t1 fun e=>e.elim t2 t3) (.inr (.inl rfl)))).trans h1.tab,h1.row.mod hm fun ad e=>?_,⟨xL _ hl.s s1,s2,s3,s4⟩,⟨xL _ hl.t t1,t2,t3,t4⟩,fun ad e=>?_⟩,h2,h3,h4⟩
  ·obtain⟨n1,n2,n3,n4,n5,n6,n7⟩:=h1.noR ad e;exact key _ n7 (fun e=>e.elim n1 fun e=>e.elim n2 n3) (.inr (.inr ⟨ad,e,rfl⟩))
  ·obtain⟨n1,n2,n3,n4,n5,n6,n7⟩:=h1.noR ad e;exact⟨xL _ n7 n1,n2,n3,n4,n5,n6,o_⟩
theorem LtW.more (h:LtW w y)(hz:w.heap.size<=w'.heap.size):LtW w' y:=⟨wW h.s hz,wW h.t hz,fun ad e=>wW (h.r ad e) hz⟩
theorem Hse.step (h:Hse w B c a fs m S F clock p L l)(hk:l[k]? =some x)(hH:Home w' B c a fs m S' F xr p' L')(hm:Mod X w w')(hX: ∀b,X b->av S c m b\/w.heap.size<=b\/b=x.s\/b=x.t)(ho:Out S S' w)(Lt:SpIs w' B c a m S' F x')(hs:x'.s=x.s)(ht:x'.t=x.t)(JH:LtW w' x')(hA: ∀ad,x'.A=some ad->x.A=some ad\/w.heap.size<=ad.block)
  (Wp:Hs F p' L' ((l.map (·.T)).set k x'.T)):Hse w' B c a fs m S' F xr p' L' (l.set k x'):=by
 have hz:=hm.size;refine⟨hH,by rw[List.map_set];exact Wp,fun j y hj=>?_,fun i j y z ER hi hj=>?_,fun j y hj=>?_⟩
 ·rcases bJ hj with⟨_,rfl,_⟩|⟨xA,hj⟩
  ·exact Lt
  ·have hf:=h.apart k j x y (fun e=>xA e.symm) hk hj;exact(h.each j y hj).keep (h.lt j y hj) hm (fun b hb=>(hX b hb).imp id (fun e=>e.imp id fun e=>by
    rcases e with e|e
    ·subst e;exact⟨hf.ss,hf.st,fun ad e=>(hf.rs ad e).1⟩
    ·subst e;exact⟨hf.ts,hf.tt,fun ad e=>(hf.rs ad e).2⟩)) ho
 ·rcases bJ hi with⟨rfl,rfl,_⟩|⟨xA,Bn⟩
  ·rcases bJ hj with⟨e,_⟩|⟨_,hj⟩
   ·exact absurd e.symm ER
   ·have hf:=h.apart i j x z ER hk hj;exact⟨by rw[hs];exact hf.ss,by rw[hs];exact hf.st,by rw[ht];exact hf.ts,by rw[ht];exact hf.tt,fun ad e=>by rw[hs,ht];exact hf.rs ad e⟩
  ·rcases bJ hj with⟨rfl,rfl,_⟩|⟨_,hj⟩
   ·have hf:=h.apart i j y x ER Bn hk;have VZ:=h.lt i y Bn;refine⟨by rw[hs];exact hf.ss,by rw[ht];exact hf.st,by rw[hs];exact hf.ts,by rw[ht];exact hf.tt,fun ad e=>?_⟩;rcases hA ad e with e|e
    ·exact hf.rs ad e
    ·have:=VZ.s;have:=VZ.t;exact⟨o_,o_⟩
   ·exact h.apart i j y z ER Bn hj
 ·rcases bJ hj with⟨_,rfl,_⟩|⟨_,hj⟩
  ·exact JH
  ·exact(h.lt j y hj).more hz
theorem Hse.same (h:Hse w B c a fs m S F clock p L l)(hH:Home w' B c a fs m S' F xr p' L')(hm:Mod X w w')(hX: ∀b,X b->av S c m b\/w.heap.size<=b)(ho:Out S S' w)(Wp:Hs F p' L' (l.map (·.T))):Hse w' B c a fs m S' F xr p' L' l:=
 ⟨hH,Wp,fun j y hj=>(h.each j y hj).keep (h.lt j y hj) hm (fun b hb=>(hX b hb).imp id .inl) ho,h.apart,fun j y hj=>(h.lt j y hj).more hm.size⟩
theorem Hse.below (h:Hse w B c a fs m S F clock p L l)(hb:Below w.heap.size w w'):Hse w' B c a fs m S F clock p L l:=
 h.same (X:=fun _ =>False) (h.home.below hb) (Mod.of hb) (fun _ e=>e.elim) (Out.refl _ _) h.hs
theorem Hse.append (h:Hse w B c a fs m S F clock p L l)(hH:Home w' B c a fs m S' F xr p' L')(hm:Mod X w w')(hX: ∀b,X b->av S c m b\/w.heap.size<=b)(ho:Out S S' w)(hy:SpIs w' B c a m S' F y)(VZ:LtW w' y)(hs:w.heap.size<=y.s)(ht:w.heap.size<=y.t)(hA: ∀ad,y.A=some ad->w.heap.size<=ad.block)
  (l':List SpM)(hlen:l'.length=l.length)(JH: ∀(j:Nat) (z:SpM),l'[j]? =some z->SpIs w' B c a m S' F z/\ ∃z0,l[j]? =some z0/\z.s=z0.s/\z.t=z0.t/\z.A=z0.A)
  (Wp:Hs F p' L' (l'.map (·.T)++[y.T])):Hse w' B c a fs m S' F xr p' L' (l'++[y]):=by
 have hz:=hm.size;have xw: ∀(j:Nat) (z:SpM),l'[j]? =some z->LtW w z:=fun j z hj=>by
  obtain⟨_,z0,h1,h2,h3,h4⟩:=JH j z hj;have h5:=h.lt j z0 h1;exact⟨by rw[h2];exact h5.s,by rw[h3];exact h5.t,fun ad e=>h5.r ad (by rw[<-h4];exact e)⟩
 have cas: ∀(j:Nat) (z:SpM),(l'++[y])[j]? =some z->(j<l'.length/\l'[j]? =some z)\/(j=l'.length/\z=y):=fun j z hj=>by
  rcases Nat.lt_or_ge j l'.length with h1|h1
  ·rw[wZ h1]at hj;exact .inl ⟨h1,hj⟩
  ·have h2:j=l'.length:=by
    have:=(List.getElem?_eq_some_iff.1 hj).1;rw[wU,xc]at this;omega
   subst h2;rw[wY (wS _),Nat.sub_self]at hj;injection hj with hj;exact .inr ⟨rfl,hj.symm⟩
 refine⟨hH,by rw[List.map_append];exact Wp,fun j z hj=>?_,fun i j u v ER hi hj=>?_,fun j z hj=>?_⟩
 ·rcases cas j z hj with⟨_,hj⟩|⟨_,rfl⟩
  ·exact(JH j z hj).1
  ·exact hy
 ·rcases cas i u hi with⟨i1,Bn⟩|⟨i1,rfl⟩
  ·rcases cas j v hj with⟨j1,hj⟩|⟨j1,rfl⟩
   ·obtain⟨_,u0,a1,a2,a3,a4⟩:=JH i u Bn;obtain⟨_,v0,b1,b2,b3,b4⟩:=JH j v hj;have hf:=h.apart i j u0 v0 ER a1 b1;exact⟨by rw[a2,b2];exact hf.ss,by rw[a2,b3];exact hf.st,by rw[a3,b2];exact hf.ts,by rw[a3,b3];exact hf.tt,fun ad e=>by rw[a2,a3];exact hf.rs ad (by rw[<-b4];exact e)⟩
   ·have h5:=xw i u Bn;have e1:=h5.s;have e2:=h5.t;exact⟨o_,o_,o_,o_,fun ad e=>by have:=hA ad e;exact⟨o_,o_⟩⟩
  ·rcases cas j v hj with⟨j1,hj⟩|⟨j1,rfl⟩
   ·have h5:=xw j v hj;have e1:=h5.s;have e2:=h5.t;exact⟨o_,o_,o_,o_,fun ad e=>by have:=h5.r ad e;exact⟨o_,o_⟩⟩
   ·omega
 ·rcases cas j z hj with⟨_,hj⟩|⟨_,rfl⟩
  ·exact(xw j z hj).more hz
  ·exact VZ
end
section
open Go.RowKit Go.Sort
variable {w:World}{B c a fs m:Nat}{S:Nat->Prop}{F:List Nd}{clock:Int}{p:Pool}{L:List Slot}{l:List SpM}{k:Nat}{x:SpM}{T:Tab}
theorem fi (hk:l[k]? =some x)(hT:x.T=some T):(l.map (·.T))[k]? =some (some T):=by rw[xj,hk];exact congrArg some hT
theorem Hse.sp (h:Hse w B c a fs m S F clock p L l)(hk:l[k]? =some x)(hT:x.T=some T):Sp F (tnS ((l.map (·.T)).set k none)) p L T:=h.hs.at_ (fi hk hT)
theorem Hse.ownT (h:Hse w B c a fs m S F clock p L l)(hk:l[k]? =some x)(hT:x.T=some T):Own p T:=h.hs.own k T (fi hk hT)
theorem Hse.live (h:Hse w B c a fs m S F clock p L l)(hk:l[k]? =some x)(hT:x.T=some T):Live w B c a m S F x T:=(h.each k x hk).live hT
theorem Hse.caps (h:Hse w B c a fs m S F clock p L l)(hl:l.length<=100)(k f:Nat):tnS ((l.map (·.T)).set k none) f<=100000000000:=h.hs.cap (by rw[List.length_map];exact hl) k f
def SpM.withT (x:SpM)(T:Tab):SpM:= { x with T:=some T}
theorem LtW.withT (h:LtW w x):LtW w (x.withT T):=⟨h.s,h.t,h.r⟩
variable {w':World}{p':Pool}{L':List Slot}{T':Tab}
theorem Hse.kept {S':Nat->Prop}{xr:Int}(h:Hse w B c a fs m S F clock p L l)(hk:l[k]? =some x)(hT:x.T=some T)(hC:au w' S' c a fs m xr p' L')(hm:Mod (av S c m) w w')(ho:Out S S' w)
  (hq:Kept F (tnS ((l.map (·.T)).set k none)) p L T p' L' T')(xY: ∀g y,T'.lf g=some y->g<34359738368):Hse w' B c a fs m S' F xr p' L' (l.set k (x.withT T')):=by
 have yR:=h.live hk hT;have hO:=yR.one.foot hm ho;refine h.step hk (h.home.step hC hm ho) hm (fun b e=> .inl e) ho (SpIs.of (T:=T') rfl ⟨hO,hq.root _ yR.root,yR.rgs,xY⟩) rfl rfl ((h.lt k x hk).more hm.size).withT (fun ad e=> .inl e) ?_;exact h.hs.step (fi hk hT) (hq.far _) hq.sp hq.own
variable {hold d:Nat->Nat}{rl:List Reg}{addr kk:Nat}{len want er:Int}
theorem ff.kept (h:ff F hold rl p L T addr len want er kk d p' L' T')(hs:Sp F hold p L T)(ho:Own p T):Kept F hold p L T p' L' T':=by
 rcases h with⟨_,_,rfl,rfl,rfl⟩|⟨_,_,_,_,rfl,rfl,rfl⟩|⟨_,_,_,_,h⟩|⟨_,_,_,_,_,⟨j,_,h⟩,_⟩
 ·exact Kept.refl hs ho
 ·exact Kept.refl hs ho
 ·exact h.seen.kept
 ·exact h.seen.kept
theorem mJ {x:Nat×Nat}(h:df rl x want=true):Perm rl x want:=by
 unfold df at h;exact @xi _ (Classical.propDecidable _) h
theorem mF {x:Nat×Nat}{j:Nat}(hx:x.1+x.2<=140737488355328)(hj:0<(pst x j).2):(pst x j).1/4096<34359738368:=by
 have:=cA x j;omega
theorem ff.low (h:ff F hold rl p L T addr len want er kk d p' L' T')(xY: ∀g y,T.lf g=some y->g<34359738368): ∀g y,T'.lf g=some y->g<34359738368:=by
 intro g y hy;cases ht:T.lf g with
 |some z=>exact xY g z ht
 |none=>
  rcases h with⟨_,_,rfl,rfl,rfl⟩|⟨_,_,_,_,rfl,rfl,rfl⟩|⟨_,_,hp,_,h⟩|⟨_,_,hp,_,_,⟨j,_,h⟩,_⟩
  ·exact xY g y hy
  ·exact xY g y hy
  ·refine xe fun xL=>?_;have:=h.only g ht fun i hi e=>xL (e▸mF (mJ hp).1 hi);rw[this]at hy;cases hy
  ·refine xe fun xL=>?_;have:=h.only g ht fun i hi e=>xL (e▸mF (mJ hp).1 (h.pos i hi));rw[this]at hy;cases hy
def wG (w:World)(B c a fs m:Nat)(S:Nat->Prop)(F:List Nd)(clock:Int)(p:Pool)(L:List Slot)(l:List SpM)(k:Nat)(x:SpM)(T:Tab)(addr:Nat)(len want:Int)(e:Ending)(w':World):Prop:=
 ∃er R kk cp d p' L' T' xr S',e= .returned (.tuple #[.slice R kk cp,.int .i64 er])/\Hse w' B c a fs m S' F xr p' L' (l.set k (x.withT T'))/\Mod (av S c m) w w'/\Out S S' w/\clock<=xr/\xr<=clock+32/\OwnB w' w.heap.size R cp kk d/\((∀g,R.map (·.block)=some g-> ¬S' g)/\kk<=65536)/\ff F (tnS ((l.map (·.T)).set k none)) x.rl p L T addr len want er kk d p' L' T'
theorem kR (h:Hse w B c a fs m S F clock p L l)(hk:l[k]? =some x)(hT:x.T=some T)(hl:l.length<=100)(addr:Nat)(len want:Int)(Bh:addr<18446744073709551616)(BU:0<=clock/\clock+32<1000000):
  Calls prog 70 #[.pointer (some ⟨x.s,0,none⟩),.int .u64 (addr:Int),.int .i64 len,.int .u8 want] w (wG w B c a fs m S F clock p L l k x T addr len want):=by
 have yR:=h.live hk hT;refine(uq B c a fs m x.s x.t x.root x.n x.cap addr len want x.A x.rl clock w S F p L T _ h.home yR.one (h.sp hk hT) (h.ownT hk hT) yR.root yR.rgs Bh (h.caps hl k) BU).mono ?_;rintro e w'⟨er,R,kk,cp,d,p',L',T',xr,S',rfl,hC,hm,ho,zT,Ar,xC,Me,xJ⟩;exact⟨er,R,kk,cp,d,p',L',T',xr,S',rfl,h.kept hk hT hC hm ho (xJ.kept (h.sp hk hT) (h.ownT hk hT)) (xJ.low yR.low),hm,ho,zT,Ar,xC,Me,xJ⟩
def tN (w:World)(B c a fs m:Nat)(S:Nat->Prop)(F:List Nd)(clock:Int)(p:Pool)(L:List Slot)(l:List SpM)(k:Nat)(x:SpM)(T:Tab)(addr q:Nat)(d:Nat->Nat)(want:Int)(e:Ending)(w':World):Prop:=
 ∃er p' L' T' xr S',e= .returned (.int .i64 er)/\Hse w' B c a fs m S' F xr p' L' (l.set k (x.withT T'))/\Mod (av S c m) w w'/\Out S S' w/\clock<=xr/\xr<=clock+32/\eh F (tnS ((l.map (·.T)).set k none)) x.rl p L T addr q d want er p' L' T'
variable {q:Nat}
theorem eh.left (h:eh F hold rl p L T addr q d want er p' L' T')(hs:Sp F hold p L T)(ho:Own p T):Sp F hold p' L' T'/\(∀E,Far hold T E p p')/\Own p' T'/\(∀f,T.nd 4 0=some f->T'.nd 4 0=some f):=by
 rcases h with⟨_,_,rfl,rfl,rfl⟩|⟨_,_,_,rfl,rfl,rfl⟩|⟨_,_,_,h⟩|⟨_,_,_,j,all,p1,_,h1,h2⟩
 ·exact⟨hs,fun _ =>Far.refl,ho,fun _ h=>h⟩
 ·exact⟨hs,fun _ =>Far.refl,ho,fun _ h=>h⟩
 ·exact⟨h.seen.kept.sp,h.seen.kept.far,h.seen.kept.own,h.seen.kept.root⟩
 ·exact⟨h2.sp,fun E=>(h1.seen.kept.far E).trans h1.seen.kept.sp (h2.far E),h2.own,h1.seen.kept.root⟩
theorem eh.low (h:eh F hold rl p L T addr q d want er p' L' T')(xY: ∀g y,T.lf g=some y->g<34359738368): ∀g y,T'.lf g=some y->g<34359738368:=by
 intro g y hy;cases ht:T.lf g with
 |some z=>exact xY g z ht
 |none=>
  rcases h with⟨_,_,rfl,rfl,rfl⟩|⟨_,_,_,rfl,rfl,rfl⟩|⟨_,hp,_,h⟩|⟨_,hp,_,j,all,p1,_,h1,h2⟩
  ·exact xY g y hy
  ·exact xY g y hy
  ·refine xe fun xL=>?_;have:=h.only g ht fun i hi e=>xL (e▸mF (mJ hp).1 hi);rw[this]at hy;cases hy
  ·refine xe fun xL=>?_;have:=h1.only g ht fun i hi e=>xL (e▸mF (mJ hp).1 (h1.pos i hi));rw[this]at hy;cases hy
theorem oM (h:Hse w B c a fs m S F clock p L l)(hk:l[k]? =some x)(hT:x.T=some T)(hl:l.length<=100)(addr q cq:Nat)(want:Int)(Ab:Option Addr)(d:Nat->Nat)(Bh:addr<18446744073709551616)(BU:0<=clock/\clock+32<1000000)
  (hq:q<9223372036854775808)(Ot:q<=cq)(hb:ap w Ab q d)(hd: ∀j,d j<256)(Gw: ∀ad,Ab=some ad->ad.block<w.heap.size/\ ¬av S c m ad.block):
  Calls prog 71 #[.pointer (some ⟨x.s,0,none⟩),.int .u64 (addr:Int),.slice Ab q cq,.int .u8 want] w (tN w B c a fs m S F clock p L l k x T addr q d want):=by
 have yR:=h.live hk hT;refine(sj B c a fs m x.s x.t x.root x.n x.cap addr q cq want x.A Ab d x.rl clock w S F p L T _ h.home yR.one (h.sp hk hT) (h.ownT hk hT) yR.root yR.rgs Bh (h.caps hl k) BU hq Ot hb hd Gw).mono ?_;rintro e w'⟨er,p',L',T',xr,S',rfl,hC,hm,ho,zT,Ar,xJ⟩;obtain⟨a1,a2,a3,a4⟩:=xJ.left (h.sp hk hT) (h.ownT hk hT);refine⟨er,p',L',T',xr,S',rfl,h.step hk (h.home.step hC hm ho) hm (fun b e=> .inl e) ho (SpIs.of (T:=T') rfl ⟨yR.one.foot hm ho,a4 _ yR.root,yR.rgs,xJ.low yR.low⟩) rfl rfl ((h.lt k x hk).more hm.size).withT (fun ad e=> .inl e) (h.hs.step (fi hk hT) (a2 _) a1 a3),hm,ho,zT,Ar,xJ⟩
def HNewPost (w:World)(B c a fs m:Nat)(S:Nat->Prop)(F:List Nd)(clock:Int)(p:Pool)(L:List Slot)(l:List SpM)(e:Ending)(w':World):Prop:=
 (∃s t f p' L' S',e= .returned (.tuple #[.pointer (some ⟨s,0,none⟩),.int .i64 0])/\Hse w' B c a fs m S' F clock p' L' (l++[⟨s,t,f,none,0,0,[],some (aH f)⟩])/\Mod (av S c m) w w'/\Out S S' w/\(w.heap.size<=s/\w.heap.size<=t)/\aw p L 0 f p' L')\/
 (∃f p' L' S',e= .returned (.tuple #[.pointer none,.int .i64 4])/\Hse w' B c a fs m S' F clock p' L' l/\Mod (av S c m) w w'/\Out S S' w/\aw p L 4 f p' L'/\p'=p/\L'=L)
theorem rgs_nil (F:List Nd):Rgs F []:=⟨d_,fun r hr=>absurd hr List.not_mem_nil,fun r hr _ =>absurd hr List.not_mem_nil⟩
theorem rsl_nil (w:World):RSl w w.heap.size none 0 0 []:=⟨rfl,wS _,o_,fun k r h=>by rw[List.getElem?_nil]at h;cases h⟩
theorem hnew (h:Hse w B c a fs m S F clock p L l):Calls prog 24 #[.pointer (some ⟨c,0,none⟩)] w (HNewPost w B c a fs m S F clock p L l):=by
 refine(snew_any c a fs m clock w S p L h.home.cache).mono ?_;rintro e w' (⟨f,p',L',S',s,t,rfl,hC,hs,ht,Dw,ho,h1,h2,h3,h4,h5,h6⟩|⟨f,p',L',S',rfl,hC,Dw,ho,h6,rfl,rfl⟩)
 ·have hm:Mod (av S c m) w w':=Dw.sub fun b e=>e.elim .inl fun e=> .inr (.inl e);have hH:=h.home.step hC hm ho;have hl:=h.home.lts;have hB:=h.home.base;refine .inl ⟨s,t,f,p',L',S',rfl,h.append hH hm (fun b e=> .inl e) ho (SpIs.of (T:=aH f) rfl ⟨⟨hs,ht,rsl_nil _,⟨h5,by dsimp only;omega,by dsimp only;omega,by dsimp only;omega⟩,⟨h4,by dsimp only;omega,by dsimp only;omega,by dsimp only;omega⟩,fun ad e=>by cases e⟩,dZ f,rgs_nil F,fun g y e=>by cases e⟩) ⟨h3,by dsimp only;omega,fun ad e=>by cases e⟩ (by dsimp only;omega) h1 (fun ad e=>by cases e) l rfl (fun j z hj=>⟨(h.each j z hj).keep (h.lt j z hj) hm (fun b e=> .inl e) ho,z,hj,rfl,rfl,rfl⟩) (h.hs.more h6),hm,ho,⟨o_,h1⟩,h6⟩
 ·have hm:Mod (av S c m) w w':=Dw.sub fun b e=>e.elim .inl fun e=> .inr (.inl e);exact .inr ⟨f,_,_,S',rfl,h.same (h.home.step hC hm ho) hm (fun b e=> .inl e) ho h.hs,hm,ho,h6,rfl,rfl⟩
def SpM.withR (x:SpM)(A:Option Addr)(cap:Nat)(rl:List Reg)(T:Tab):SpM:= { x with A:=A,n:=rl.length,cap:=cap,rl:=rl,T:=some T}
def fR (w:World)(B c a fs m:Nat)(S:Nat->Prop)(F:List Nd)(clock:Int)(L:List Slot)(l:List SpM)(k:Nat)(x:SpM)(p:Pool)(res:List Reg)(No:Int->Prop)(Rel:Pool->Tab->Prop)(e:Ending)(w':World):Prop:=
 (∃er,e= .returned (.int .i64 er)/\er≠0/\No er/\Below w.heap.size w w'/\Hse w' B c a fs m S F clock p L l)\/
 (e= .returned (.int .i64 0)/\No 0/\ ∃A' xq p' T',Hse w' B c a fs m S F clock p' L (l.set k (x.withR A' xq res T'))/\Mod (fun b=>av S c m b\/b=x.s) w w'/\(∀ad,A'=some ad->w.heap.size<=ad.block)/\Rel p' T')
theorem hturn {res:List Reg}{No:Int->Prop}{Rel:Pool->Tab->Prop}{e:Ending}(h:Hse w B c a fs m S F clock p L l)(hk:l[k]? =some x)(hT:x.T=some T)(hp:jW w B c a fs m x.s x.t x.root S F clock L res No (fun p'=> ∃T',Rel p' T') e w')
  (GI:No 0->Rgs F res)(hrel: ∀p' T',Rel p' T'->Sp F (tnS ((l.map (·.T)).set k none)) p' L T'/\(∀E,Far (tnS ((l.map (·.T)).set k none)) T E p p')/\Own p' T'/\T'.nd 4 0=T.nd 4 0/\ ∀g y,T'.lf g=some y-> ∃z,T.lf g=some z):fR w B c a fs m S F clock L l k x p res No Rel e w':=by
 have yR:=h.live hk hT;rcases hp with⟨er,rfl,h1,h2,h3⟩|⟨rfl,h0,A',xq,p',hH,hO,hm,hA,T',hr⟩
 ·exact .inl ⟨er,rfl,h1,h2,h3,h.below h3⟩
 ·obtain⟨a1,a2,a3,a4,a5⟩:=hrel p' T' hr;refine .inr ⟨rfl,h0,A',xq,p',T',h.step hk hH hm (fun b e=>e.imp id fun e=> .inr (.inl e)) (Out.refl _ _) (SpIs.of (T:=T') rfl ⟨hO,a4.trans yR.root,GI h0,fun g y hy=>by obtain⟨z,hz⟩:=a5 g y hy;exact yR.low g z hz⟩) rfl rfl ⟨hO.lts.1,hO.lts.2.1,fun ad e=>(hO.noR ad e).2.2.2.2.2.2⟩ (fun ad e=> .inr (hA ad e)) (h.hs.step (fi hk hT) (a2 _) a1 a3),hm,hA,hr⟩
theorem dk.rel {f t:Int}(h0:Sp F hold p L T)(ho:Own p T)(h:dk F hold f t p L T kk p' T'):Sp F hold p' L T'/\(∀E,Far hold T E p p')/\Own p' T'/\T'.nd 4 0=T.nd 4 0/\ ∀g y,T'.lf g=some y-> ∃z,T.lf g=some z:=by
 refine⟨h.sp,h.far,h.own ho,h.top,fun g y hy=>?_⟩;have h1:=h.lf g;rw[hy]at h1;split at h1
 ·cases h1
 ·exact⟨y,h1.symm⟩
theorem uJ (rl:List Reg)(r:Reg):(Rg.put rl r).1.length<=64/\((Rg.put rl r).2=0->r.to<=140737488355328):=by
 unfold Rg.put;split
 ·rename_i hc;have h1:=aE hc.2;unfold Rg.few;split
  ·exact⟨s_,fun e=>by simp at e⟩
  ·exact⟨by dsimp only;omega,fun _ =>o_⟩
 ·exact⟨s_,fun e=>by simp at e⟩
theorem kL {r:Reg}(h:0=di F rl r):(Rg.put rl r).2=0/\(0<=r.ino->ep F r.ino):=by
 unfold di at h;split at h
 ·rename_i h1;exact absurd h.symm h1
 ·rename_i h1;refine⟨Classical.not_not.1 h1,fun h2=>?_⟩;split at h
  ·cases h
  ·rename_i h3;exact xe fun e=>h3 ⟨h2,e⟩
theorem hmap (h:Hse w B c a fs m S F clock p L l)(hk:l[k]? =some x)(hT:x.T=some T)(r:Reg)(EL:r.Ok)(GI:(Rg.put x.rl r).2=0->(0<=r.ino->ep F r.ino)->Rgs F (Rg.put x.rl r).1):
  Calls prog 25 #[.pointer (some ⟨x.s,0,none⟩),.agg #[.int .u64 (r).fr,.int .u64 (r).to,.int .u8 (r).prot,.int .i64 (r).ino,.int .u64 (r).off]] w (fR w B c a fs m S F clock L l k x p (Rg.put x.rl r).1 (fun er=>er=di F x.rl r) (fun p' T'=>dk F (tnS ((l.map (·.T)).set k none)) r.fr r.to p L T T.puts.length p' T')):=by
 have yR:=h.live hk hT;refine(smap_any B c a fs m x.s x.t x.root x.n x.cap r x.A x.rl clock w S F p L T _ h.home yR.one (h.sp hk hT) yR.root yR.rgs.ok EL (by have:=(uJ x.rl r).1;omega) (uJ x.rl r).2).mono fun e w' hp=>?_;exact hturn h hk hT hp (fun h0=>GI (kL h0).1 (kL h0).2) (fun p' T' hr=>hr.rel (h.sp hk hT) (h.ownT hk hT))
def wH (w:World)(B c a fs m:Nat)(S:Nat->Prop)(F:List Nd)(clock:Int)(p:Pool)(L:List Slot)(l:List SpM)(k:Nat)(x:SpM)(T:Tab)(e:Ending)(w':World):Prop:=
 (∃p' L' S',e= .returned (.tuple #[.pointer none,.int .i64 4])/\Hse w' B c a fs m S' F clock p' L' l/\Mod (av S c m) w w'/\Out S S' w/\rR F (tnS ((l.map (·.T)).set k none)) p L T p' L')\/
 (∃s2 t2 f A' xq p' L' T' T2 S',e= .returned (.tuple #[.pointer (some ⟨s2,0,none⟩),.int .i64 0])/\Hse w' B c a fs m S' F clock p' L' (l.set k (x.withT T')++[⟨s2,t2,f,A',x.n,xq,x.rl,some T2⟩])/\Mod (av S c m) w w'/\Out S S' w/\(w.heap.size<=s2/\w.heap.size<=t2/\ ∀ad,A'=some ad->w.heap.size<=ad.block)/\iL F (tnS ((l.map (·.T)).set k none)) p L T p' L' T' T2)
theorem hfork (h:Hse w B c a fs m S F clock p L l)(hk:l[k]? =some x)(hT:x.T=some T)(hl:l.length<=100)(Mf:x.n<900000):
  Calls prog 32 #[.pointer (some ⟨x.s,0,none⟩)] w (wH w B c a fs m S F clock p L l k x T):=by
 have yR:=h.live hk hT;refine(uw B c a fs m x.s x.t x.root x.n x.cap x.A x.rl clock w S F p L T _ h.home yR.one (h.sp hk hT) yR.root (h.caps hl k) yR.low Mf).mono ?_;rintro e w' (⟨p',L',S',rfl,hH,hO,hm,ho,xL⟩|⟨s2,t2,f,p',L',T',T2,S',A',xq,rfl,hH,hO,CA,LR,h1,h2,h3,hm,ho,hd⟩)
 ·refine .inl ⟨p',L',S',rfl,h.same hH hm (fun b e=> .inl e) ho ?_,hm,ho,xL⟩;exact h.hs.same (fi hk hT) (xL.far _) xL.sp (xL.own (h.ownT hk hT))
 ·refine .inr ⟨s2,t2,f,A',xq,p',L',T',T2,S',rfl,?_,hm,ho,⟨h1,h2,h3⟩,hd⟩;have xw:=h.lt k x hk;have yv:=yR.one.foot hm ho;have xY: ∀(Y:Tab),(∀g,Y.lf g=(T.lf g).map cpy)-> ∀g y,Y.lf g=some y->g<34359738368:=fun Y hY g y hy=>by
   rw[hY g]at hy;cases hz:T.lf g with
   |none=>rw[hz]at hy;cases hy
   |some z=>exact yR.low g z hz
  refine h.append (y:=⟨s2,t2,f,A',x.n,xq,x.rl,some T2⟩) hH hm (fun b e=> .inl e) ho (SpIs.of (T:=T2) rfl ⟨CA,LR,yR.rgs,xY T2 hd.lf2⟩) ⟨CA.lts.1,CA.lts.2.1,fun ad e=>(CA.noR ad e).2.2.2.2.2.2⟩ h1 h2 h3 _ List.length_set (fun j z hj=>?_) ?_
  ·rcases bJ hj with⟨rfl,rfl,_⟩|⟨xA,RP⟩
   ·exact⟨SpIs.of (T:=T') rfl ⟨yv,by rw[hd.nd];exact yR.root,yR.rgs,xY T' hd.lf1⟩,x,hk,rfl,rfl,rfl⟩
   ·exact⟨(h.each j z RP).keep (h.lt j z RP) hm (fun b e=> .inl e) ho,z,RP,rfl,rfl,rfl⟩
  ·rw[List.map_set];exact h.hs.forks (fi hk hT) hd
end
section
open Go.RowKit Go.Sort
variable {w:World}{B c a fs m:Nat}{S:Nat->Prop}{F:List Nd}{clock:Int}{p:Pool}{L:List Slot}{l:List SpM}{k:Nat}{x:SpM}{T:Tab}
def SpM.dead (x:SpM):SpM:= { x with T:=none}
theorem qg (h:Hse w B c a fs m S F clock p L l)(hk:l[k]? =some x)(hT:x.T=some T):
  Calls prog 21 #[.pointer (some ⟨x.s,0,none⟩)] w fun e w'=>e= .returned (.tuple #[])/\Hse w' B c a fs m S F clock (cD p ((T.evs 4 0).flatMap Ev.fs)) L (l.set k x.dead)/\Mod (fun b=>av S c m b\/b=x.s\/b=x.t) w w':=by
 have yR:=h.live hk hT;have zZ:=h.sp hk hT;have NM:=h.home.lows;obtain⟨s1,s2,s3,s4⟩:=yR.one.noS;obtain⟨t1,t2,t3,t4⟩:=yR.one.noT;refine(uv x.s c a x.t x.n x.cap x.root x.A w S p T _ 0 yR.one.self h.home.cache.pool yR.one.tab t1 o_ s1 o_ yR.one.lts.2.2 zZ.good yR.root).mono ?_;rintro e w'⟨rfl,hP,hm,hc⟩;have Ee:=h.home.cache;have xS:Mod (fun b=>av S c m b\/b=x.s\/b=x.t) w w':=hm.sub fun b e=>e.elim (fun e=> .inl (.inl e)) fun e=> .inr e.symm;have hC:au w' S c a fs m clock (cD p ((T.evs 4 0).flatMap Ev.fs)) L:=⟨hP,(hm.block c Ee.lts.1 (fun e=>e.elim Ee.noC fun e=>e.elim (fun e=>t3 e.symm) (fun e=>s3 e.symm))).trans Ee.self,Ee.slots.same (hm.block m Ee.lts.2.1 (fun e=>e.elim Ee.noM fun e=>e.elim (fun e=>t2 e.symm) (fun e=>s2 e.symm))),Ee.noC,Ee.noM⟩;have hB:=h.home.base;obtain⟨w1,B1,nb,c2,ad,mp,f1,f2,f3⟩:=h.home.files;have hH:Home w' B c a fs m S F clock (cD p ((T.evs 4 0).flatMap Ev.fs)) L:=⟨hC,⟨w1,B1,nb,c2,ad,mp,f1,f2,f3.trans (hm.below (fun b hb=>hb.elim (h.home.low b) (fun e=>e.elim (fun e=>o_) (fun e=>o_))) hB)⟩,h.home.bytes,h.home.low,NM⟩;refine⟨rfl,h.step hk hH xS (fun b e=>e.imp id .inr) (Out.refl _ _) ?_ rfl rfl ⟨((h.lt k x hk).more hm.size).s,((h.lt k x hk).more hm.size).t,((h.lt k x hk).more hm.size).r⟩ (fun ad e=> .inl e) (h.hs.gone (fi hk hT)),xS⟩;exact⟨hc,s1,s2,s3,s4⟩
end
section
open Go.RowKit Go.Sort
attribute [local go_sem] Oper.semAt_some
def prt (q:Nat)(l:Leaf):Leaf:= { l with prot:=q}
theorem nU (B c a fs m s t root n cap:Nat)(fr ot:Int)(q:Nat)(A:Option Addr)(rl:List Reg)(clock:Int)(w:World)(S:Nat->Prop)(F:List Nd)(p:Pool)(L:List Slot)(T:Tab)(hold:Nat->Nat)
  (hH:Home w B c a fs m S F clock p L)(hO:One w B c a m S s t root A n cap rl)(zZ:Sp F hold p L T)(hr:T.nd 4 0=some root)(ya:bG rl)(h0:0<=fr)(h1:fr<=18446744073709551615)(h2:0<=ot)(h3:ot<=18446744073709551615)(xD:(Rg.protect rl fr ot q).1.length<=1000000)(DU:(Rg.protect rl fr ot q).2=0->ot<=140737488355328/\q<=7)(yA: ∀f,hold f<=100000000000):
  Calls prog 27 #[.pointer (some ⟨s,0,none⟩),.int .u64 fr,.int .u64 ot,.int .u8 (q:Int)] w (jW w B c a fs m s t root S F clock L (Rg.protect rl fr ot q).1 (fun er=>er=(Rg.protect rl fr ot q).2) (fun p'=> ∃T',bO F hold (prt q) fr ot p L T T.puts.length p' T')):=by
 refine(callsIn_wide (n:=9)).1 ?_;refine callsIn_of_wp_marks func27 rfl trivial ?_;simp only[ntmps27,List.size_toArray,xd,List.length_nil,Nat.reduceAdd,Nat.reduceSub,Array.replicate_succ,Array.replicate_zero,List.push_toArray,List.append_toArray,List.nil_append,List.cons_append];obtain⟨w0,xv⟩:=e_ ((w.alloc (.cells #[.pointer (some ⟨s,0,none⟩)] 60)).alloc (.cells #[.int .u8 (q:Int)] 5));have xT:w0.heap.size=w.heap.size+2:=(by rw[xv];simp);have xz:Below w.heap.size w w0:=(by rw[xv];exact wR.alloc s_ _);have BH:w0.heap[w.heap.size]? =some (.cells #[.pointer (some ⟨s,0,none⟩)] 60 (0,0)):=(by rw[xv];exact(wT _ _ _ s_).trans (ab w _));have hQ0:w0.heap[w.heap.size+1]? =some (.cells #[.int .u8 (q:Int)] 5 (0,0)):=(by rw[xv];have:=ab (w.alloc (.cells #[.pointer (some ⟨s,0,none⟩)] 60)) (.cells #[.int .u8 (q:Int)] 5);simpa using this);have CB:=hO.below xz;have Gv:=hH.below xz;have zv:=eO s c a t n cap A w0 CB.self;have hdw:Below w0.heap.size w0 w0.drew:=(xp w0.heap.size w0).drew;have JD:=pP A n cap fr ot (q:Int) w0.drew rl (CB.row.below hdw (wS _)) ya h0 h1 h2 h3;have s0:w0.cell? ⟨w.heap.size,0,none⟩=some (.pointer (some ⟨s,0,none⟩)):=aa BH 0;have q0:w0.cell? ⟨w.heap.size+1,0,none⟩=some (.int .u8 (q:Int)):=aa hQ0 0;have s3:w0.cell? ⟨s,3,none⟩=some (.slice A n cap):=aa CB.self 3;obtain⟨l2,xW⟩:=e_ ((Rg.protect rl fr ot q).1);obtain⟨e2,JQ⟩:=e_ ((Rg.protect rl fr ot q).2);unfold gw at JD;rw[<-xW,<-JQ]at JD;rw[<-xW,<-JQ];rw[<-xW]at xD;rw[<-JQ]at DU;have LU:Calls prog 68 #[.slice A n cap,.int .u64 fr,.int .u64 ot,.int .u8 (q:Int)] w0.drew fun e w'=> ∃A' xq,e= .returned (.tuple #[.slice A' l2.length xq,.int .i64 e2])/\Hid (OwnR w' w0.heap.size A' xq l2)/\Hid (Below w0.heap.size w0 w'):=by
  refine JD.mono ?_;rintro e W⟨A5,Bj,rfl,NV,OY⟩;exact⟨A5,Bj,rfl,wP NV,wP (bw OY)⟩
 have PF:=hO.lts.1;obtain⟨yu,Yo,xU,EH,yd,Bp,HQ0,Kc⟩:=zh8 zv LU xv xT xz BH hQ0 CB;obtain⟨Fc,AA,HR,Pn⟩:=zh4 Gv zZ hr (show¬S w.heap.size/\ ¬S (w.heap.size+1)from⟨fun e=>by have:=hH.lts.2.2 _ e;omega,fun e=>by have:=hH.lts.2.2 _ e;omega⟩);have Sh:c<w.heap.size/\m<w.heap.size:=⟨hH.lts.1,hH.lts.2.1⟩;have CK:s<w0.heap.size:=(by have:=EH.o;omega);have Sc:w.heap.size<w0.heap.size/\w.heap.size+1<w0.heap.size:=(by have:=EH.o;omega);clear zv JD LU xv xT xz BH hQ0 CB Gv hH hO zZ hr xW JQ hdw;refine wpIn_wide.2 ?_;go_upto_region 3 with(first
  |(rw[<-xU.o];go_at_call 56;refine(yu.o).mono ?_;rintro e w1⟨rfl,rfl⟩)
  |fail)
 go_region_held3 (fun w'=>w'.cell? ⟨w.heap.size,0,none⟩=some (.pointer (some ⟨s,0,none⟩))/\w'.cell? ⟨w.heap.size+1,0,none⟩=some (.int .u8 (q:Int))/\w'.cell? ⟨s,3,none⟩=some (.slice A n cap))
  (go_keep)
  ((first
  |(go_at_call 68;refine(Yo.o).mono ?_;rintro e w1⟨A1,xt,rfl,yB,xI⟩;have d0:w1.cell? ⟨w.heap.size,0,none⟩=some (.pointer (some ⟨s,0,none⟩)):=(xI.o.cell Sc.1).trans s0;have d1:w1.cell? ⟨w.heap.size+1,0,none⟩=some (.int .u8 (q:Int)):=(xI.o.cell Sc.2).trans q0;have d3:w1.cell? ⟨s,3,none⟩=some (.slice A n cap):=(xI.o.cell CK).trans s3)))
 rename_i Q9 K9 hK9 hH9;refine hK9 _ _ ?_;clear hK9 hH9;refine(wpIn_wide (n:=9)).1 ?_;by_cases xJ:e2=0
 rotate_left
 ·have xA:(e2 != 0)=true:=(by rw[bne_iff_ne];exact xJ);have yc:=wP xJ;clear xJ
  gi_wp2
  refine⟨.int .i64 e2,by simp[results,results27,go_sem],.inl ⟨e2,rfl,yc.o,rfl,yd.o.trans (xI.o.mono yd.o.size)⟩⟩
 subst xJ;obtain⟨Zs,hq7⟩:=DU rfl;clear DU;obtain⟨w2,yl⟩:=e_ (w1.setCell ⟨s,3,none⟩ (.slice A1 l2.length xt));obtain⟨MV,CA,xS,xX⟩:=One.laid Fc.o Kc.o xI.o yB.o (wS _) xD;rw[<-yl]at MV CA xS xX;have zB:=Kc.o.below xI.o;have hQ2:=(xS.block _ (wO HQ0.o).1 o_).trans HQ0.o;have EE:=(xI.o.block _ (wO Bp.o).1).trans Bp.o;have EU:=(xS.block _ (wO Bp.o).1 o_).trans Bp.o;have s0:w1.cell? ⟨w.heap.size,0,none⟩=some (.pointer (some ⟨s,0,none⟩)):=aa EE 0;have s3:w1.cell? ⟨s,3,none⟩=some (.slice A n cap):=aa zB.self 3;have sf3:=ae zB.self 3;have t0:w2.cell? ⟨w.heap.size,0,none⟩=some (.pointer (some ⟨s,0,none⟩)):=aa EU 0;obtain⟨Gc,QQ,Fa,Ex,Nc,Ux⟩:=zh6 yl MV CA xS EU hQ2;have Lw:w.heap.size<w2.heap.size:=(wO EU).1;clear yl MV CA xS zB EE EU xX hQ2;gi_upto_region 7 with(fail);rw[<-Gc.o];gi_wp2_with (first
  |(refine⟨trivial,?_⟩;refine(callsIn_wide.2 (iS _ _ _ w2)).mono ?_;rintro e w3⟨rfl,yU⟩;have Fw:=wP yU;clear yU)
  |fail)
 have zy:w3.heap.size=w2.heap.size+3:=(by rw[Fw.o];simp);refine cv rfl o_ (gf:=107) (lb:= #[.pointer (some ⟨w2.heap.size,0,none⟩),.pointer (some ⟨w2.heap.size+1,0,none⟩),.pointer (some ⟨w2.heap.size+1+1,0,none⟩)]) rfl trivial (enters_of func107 k_ rfl) ?_;rw[zy];intro fn FP rec zr;refine(ue (9-1) o_ B c a fs m s t root A1 l2.length xt l2 S F clock p L T hold fr ot (.loop (rec .ready none)) (fun k p'=> ∃T',bO F hold (prt q) fr ot p L T k p' T') w2 w3 QQ.o Fa.o AA.o HR.o Fw.o ⟨T,bO.start AA.o⟩ (fun k p' x ⟨T',h⟩ hx ym=>⟨T',h.skip hx ym⟩) ?_).mono ?_
 ·rintro R cp k W⟨pg,fq,pr,cb⟩ p1 hj hx ym;dsimp only at ym;refine bP trivial zr hj.box.loop rfl ?_;obtain⟨ad,Au⟩: ∃ad:Int,ad=((pg*4096:Nat):Int):=⟨_,rfl⟩;dsimp only;rw[<-Au];obtain⟨T1,Dm⟩:=hj.rel;obtain⟨HX,yQ,HJ,Gz,BX⟩:=zh5 hx ym hj Au Dm;clear hx ym hj zr Au Dm
  gi_wp2
  obtain⟨W1,DA⟩:=e_ (W.alloc (.cells #[.int .u64 ad,.int .i64 (fq:Int),.int .u8 (pr:Int),.bool cb] 85));rw[<-DA];have xu:Below W.heap.size W W1:=(by rw[DA];exact wR);have EF:W1.heap[W.heap.size]? =some (.cells #[.int .u64 ad,.int .i64 (fq:Int),.int .u8 (pr:Int),.bool cb] 85 (0,0)):=(by rw[DA];exact ab W _);have zi:=HJ.o.below xu;refine⟨zi.box.loop,?_⟩;obtain⟨W2,yo⟩:=e_ (W1.putObj (w2.heap.size+3+1) (.loop (rec .busy none)));rw[<-yo];have xS:Mod (fun b=>b=w2.heap.size+3+1) W1 W2:=(by rw[yo];exact aC);have yN:=zi.box.loop;have hlW:=HJ.o.box.lts;have xW:W2.heap[w2.heap.size+3+1]? =some (.loop (rec .busy none)):=(by rw[yo];exact World.putObj_heap_same (wO yN).1);have xF:=zi.run.set xS (fun b e=> .inl o_);have yV:lC W2 s w2.heap.size fr ot (.loop (rec .busy none)):=⟨(xS.block _ (wO zi.box.b1).1 o_).trans zi.box.b1,(xS.block _ (wO zi.box.b2).1 o_).trans zi.box.b2,(xS.block _ (wO zi.box.b3).1 o_).trans zi.box.b3,(xS.block _ (wO zi.box.mark).1 o_).trans zi.box.mark,xW⟩;have zk:OwnP W2 (w2.heap.size+5) R cp T.puts:=zi.row.same fun g hg=>by
   have h9:=zi.row.blk g (by rw[hg];rfl);exact xS.block g h9.2 o_
  have Dp:=(xS.block _ (wO EF).1 o_).trans EF;have BP:=QQ.o.lts;have yE: ∀g,R.map (·.block)=some g->g<W.heap.size:=fun g hg=>(HJ.o.row.blk g hg).2;have SU: ∀ad,A1=some ad->ad.block<w2.heap.size:=fun ad e=>(Fa.o.noR ad e).2.2.2.2.2.2;have hSW: ¬S W.heap.size:=fun e=>by have:=HJ.o.run.home.lts.2.2 _ e;omega
  have aa4:W2.heap.size=W.heap.size+1:=(by rw[yo,DA];simp);have hWz:=HJ.o.run.size;have LI:=xF.add (K':=fun b=>ThK w2.heap.size R b\/b=W.heap.size) SU (fun b e=>e.elim .inl (fun e=> .inr ⟨e▸hSW,o_,o_⟩));have fP2:=ae Dp 2;have q0:W2.cell? ⟨w.heap.size+1,0,none⟩=some (.int .u8 (q:Int)):=aa ((xF.mod.block (w.heap.size+1) (wO Ux.o).1 (fun e=>e.elim (fun e=>Pn.o.2 e) (fun e=>o_))).trans Ux.o) 0;have x2:W2.cell? ⟨W.heap.size,2,none⟩=some (.int .u8 (pr:Int)):=aa Dp 2;obtain⟨W3,CT⟩:=e_ (W2.setCell ⟨W.heap.size,2,none⟩ (.int .u8 (q:Int)));have zF:Mod (fun b=>b=W.heap.size) W2 W3:=(by rw[CT];exact aj (S:=fun b=>b=W.heap.size) rfl 2 _);have Ek:W3.heap[W.heap.size]? =some (.cells #[.int .u64 ad,.int .i64 (fq:Int),.int .u8 (q:Int),.bool cb] 85 (0,0)):=by
   rw[CT];have h9:=Joins.block_setCell (i:=2) Dp (.int .u8 (q:Int));simpa using h9
  have yx:=(LI.set zF (fun b e=> .inr e)).sub (K':=ThK w2.heap.size R) (fun b e=> .inl e);have Qn:=yV.keep (W':=W3) (fun b h1 h2=>zF.block b o_ o_);have GH:OwnP W3 (w2.heap.size+5) R cp T.puts:=zk.same fun g hg=>zF.block g (by have:=yE g (by rw[hg];rfl);omega) (by have:=yE g (by rw[hg];rfl);omega);have Lg:W3.heap[w.heap.size]? =w2.heap[w.heap.size]? :=yx.mod.block w.heap.size Lw (fun e=>e.elim (fun e=>Pn.o.1 e) (fun e=>o_));have c0:W3.cell? ⟨w.heap.size,0,none⟩=some (.pointer (some ⟨s,0,none⟩)):=aa (Lg.trans Nc.o) 0;have s2:W3.cell? ⟨s,2,none⟩=some (.pointer (some ⟨t,0,none⟩)):=aa yx.one.self 2;have x0:W3.cell? ⟨W.heap.size,0,none⟩=some (.int .u64 ad):=aa Ek 0;have y1:W3.cell? ⟨W.heap.size,1,none⟩=some (.int .i64 (fq:Int)):=aa Ek 1;have y2:W3.cell? ⟨W.heap.size,2,none⟩=some (.int .u8 (q:Int)):=aa Ek 2;have y3:W3.cell? ⟨W.heap.size,3,none⟩=some (.bool cb):=aa Ek 3;have yD:T1.nd 4 0=some root:=(by rw[BX.o.nd];exact HR.o);obtain⟨was,hw,Ie⟩:=BX.o.was AA.o HX.o (fun _ =>rfl);dsimp only at hw Ie;obtain⟨gg,RW⟩:=BX.o.sp.node1 hw;obtain⟨n1,n2,n3,n4,n5,n6⟩:=BX.o.sp.leaf hw;rw[Ie]at n3 n4;have zq:pg<34359738368:=(by have h9:=eY.1 yQ.o;omega);have yq:=ia t c a root 0 ad ⟨fq,q,cb⟩ W3.drew S p1 T1 (held L hold) yx.home.cache.pool.drew yx.one.tab yx.one.noT.1 BX.o.sp.good yD (by have:=Gz.o;omega) hq7 n3 n4 (by have h9:=BX.o.sp.cap n3;have h8:=yA fq;show p1.cnt fq+1<_;omega) (fq:Int) (q:Int) rfl rfl;have AF:Calls prog 69 #[.pointer (some ⟨t,0,none⟩),.int .u64 ad,.agg #[.int .i64 (fq:Int),.int .u8 (q:Int),.bool cb]] W3.drew fun e W=>e= .returned (.int .i64 0)/\Hid (am W S a (bc p1 was ⟨fq,q,cb⟩ gg pg))/\Hid (Mod S W3 W):=by
   refine yq.mono ?_;rw[fW (was:=was) (g:=gg) Gz.o zq o_ (by rw[aO n3];omega) hw RW];rintro e W⟨rfl,hP,Dw⟩;exact⟨rfl,wP (by simpa using hP),wP Dw.undrew⟩
  obtain⟨Ge,yh,zS,Dq,HW3',HW,HGG⟩:=zh7 AF yx Qn GH CT hw RW;clear yq AF xF LI yx yV Qn zk GH DA yo CT xu EF Dp Ek xS zF yN xW zi Lg yD hw RW Ie n5 n6 aa4 hWz;gi_upto_region 10 with(fail);rw[<-HW3'.o];refine cK (fun w'=>w'.cell? ⟨w.heap.size,0,none⟩=some (.pointer (some ⟨s,0,none⟩))/\w'.cell? ⟨s,2,none⟩=some (.pointer (some ⟨t,0,none⟩))/\w'.cell? ⟨W.heap.size,0,none⟩=some (.int .u64 ad)/\w'.cell? ⟨W.heap.size,1,none⟩=some (.int .i64 (fq:Int))/\w'.cell? ⟨W.heap.size,2,none⟩=some (.int .u8 (q:Int))/\w'.cell? ⟨W.heap.size,3,none⟩=some (.bool cb)) 8 k_ k_ (dS.of 7 k_ k_) ⟨c0,s2,x0,y1,y2,y3⟩ ?_;intro Uz Jg;refine zt 0 ?_;refine zt 1 ?_;refine zt 2 ?_;refine zt 3 ?_;refine zt 4 ?_;refine zt 5 ?_;refine zt 6 ?_;refine zt 7 ?_;refine cw 8 k_ rfl rfl (fun K' hK=>?_)
  go_simp
  refine(Ge.o).mono ?_;rintro e W6⟨rfl,Jj,Oa⟩;obtain⟨zp,EP⟩:=yh.o.pool Jj.o Oa.o;go_wp2_with fail;refine hK.out _ _ ?_;clear hK K';refine cx k_ ?_ _;refine bV ?_;have yt:=zS.o.keep (W':=W6) (fun b h1 h2=>EP b (.inl ⟨h1,h2⟩));have Dc:OwnP W6 (w2.heap.size+5) R cp T.puts:=Dq.o.same fun g hg=>EP g (.inr (by rw[hg];rfl));have yY:=aC (l:=w2.heap.size+3+1) (o:= .loop (rec .ready none)) (W:=W6);have zG:=yt.loop;have Eb: ∀ {b:Nat} {o:Obj},W6.heap[b]? =some o->b≠w2.heap.size+3+1->(W6.putObj (w2.heap.size+3+1) (.loop (rec .ready none))).heap[b]? =some o:=fun h1 h2=>(yY.block _ (wO h1).1 h2).trans h1;refine⟨zG,rfl,_,zp.set yY (fun b e=> .inl o_),⟨Eb yt.b1 o_,Eb yt.b2 o_,Eb yt.b3 o_,Eb yt.mark o_,World.putObj_heap_same (wO zG).1⟩,Dc.same fun g hg=>?_,_,BX.o.step AA.o HX.o yQ.o (fun _ =>rfl) hq7 HW.o HGG.o⟩;have h9:=Dc.blk g (by rw[hg];rfl);exact yY.block g h9.2 o_
 ·rintro e W⟨hv,R,cp,p1,hj⟩;refine⟨hv,.inl ⟨hj.box.loop,?_⟩⟩;obtain⟨W2,yo⟩:=e_ (W.putObj (w2.heap.size+3+1) (.loop (rec .exhausted none)));rw[<-yo];have xS:Mod (fun b=>b=w2.heap.size+3+1) W W2:=(by rw[yo];exact aC);have xF:=hj.run.set xS (fun b e=> .inl o_);have EV:=(xS.block _ (wO hj.box.mark).1 o_).trans hj.box.mark;obtain⟨yh,Ew,Nj⟩:=zh3 xF EV hj.rel;clear yo xS xF EV hj zr hv;unfold ec
  gi_wp2
  refine⟨s_,.inl ⟨_,_,rfl,run_takeDeferred Ew.o,?_⟩⟩;have EO:=aC (l:=w2.heap.size+3) (o:= .deferred none) (W:=W2);have xK:=yh.o.set EO (fun b e=> .inl o_);refine⟨.int .i64 0,by simp[results,results27,go_sem],.inr ⟨rfl,rfl,A1,xt,p1,xK.home,xK.one,?_,(fun ad e=>by have h1:=yB.o.row ad.block (by rw[e];rfl);have h2:=yd.o.size;omega),Nj.o⟩⟩;have hA:Mod (fun b=>av S c m b\/b=s) w w2:=((Mod.of yd.o).trans (Out.refl _ _) (Ex.o)).sub fun b e=> .inr e;exact hA.trans (Out.refl _ _) (xK.mod.sub fun b e=> .inl e)
end
section
variable {l:List Reg}{a:Int}{x:Reg}
theorem vY (h:x∈Rg.ats l a): ∃r∈l,x.ino=r.ino:=by
 obtain⟨r,hr,e⟩:=List.mem_map.1 h;exact⟨r,(List.mem_filter.1 hr).1,by rw[<-e];rfl⟩
variable {r:Reg}
theorem ats_mem (hr:r∈l)(h:r.fr<r.to):Rg.hit r.fr r∈Rg.ats l r.fr:=
 List.mem_map.2 ⟨r,List.mem_filter.2 ⟨hr,by simp[Rg.holds];omega⟩,rfl⟩
variable {F:List Nd}
theorem Rgs.of {out:List Reg}(hr:Rg.right out=true)(ya:bG out)(h: ∀a,∀x∈Rg.ats out a,0<=x.ino->ep F x.ino):Rgs F out:=
 ⟨hr,ya,fun r hm h0=>h r.fr (Rg.hit r.fr r) (ats_mem hm (aE (dE hr r hm)).1) h0⟩
theorem Rgs.ats (h:Rgs F l)(hx:x∈Rg.ats l a)(h0:0<=x.ino):ep F x.ino:=by
 obtain⟨r,hr,e⟩:=vY hx;rw[e]at h0⊢;exact h.file r hr h0
theorem Rgs.put (h:Rgs F l)(BZ:r.Ok)(he:(Rg.put l r).2=0)(hf:0<=r.ino->ep F r.ino):Rgs F (Rg.put l r).1:=by
 obtain⟨a1,a2,a3⟩:=rf (l:=l) (out:=(Rg.put l r).1) h.ok BZ (by rw[<-he]);refine Rgs.of a1 a2 fun a x hx h0=>?_;rw[a3 a]at hx;split at hx
 ·obtain⟨y,hy,e⟩:=vY hx;rw[List.mem_singleton.1 hy]at e;rw[e]at h0⊢;exact hf h0
 ·exact h.ats hx h0
variable {f t:Int}
theorem Rgs.cut (h:Rgs F l)(he:(Rg.cut l f t).2=0):Rgs F (Rg.cut l f t).1:=by
 obtain⟨a1,a2,a3⟩:=rG (l:=l) (out:=(Rg.cut l f t).1) h.ok (by rw[<-he]);refine Rgs.of a1 a2 fun a x hx h0=>?_;rw[a3 a]at hx;split at hx
 ·cases hx
 ·exact h.ats hx h0
theorem Rgs.prot {p:Int}(h:Rgs F l)(hp:0<=p)(he:(Rg.protect l f t p).2=0):Rgs F (Rg.protect l f t p).1:=by
 obtain⟨a1,a2,a3,_⟩:=jt (l:=l) (out:=(Rg.protect l f t p).1) h.ok hp (by rw[<-he]);refine Rgs.of a1 a2 fun a x hx h0=>?_;rw[a3 a]at hx;split at hx
 ·obtain⟨y,hy,e⟩:=List.mem_map.1 hx;rw[<-e]at h0⊢;exact Rgs.ats (x:=y) h hy h0
 ·exact h.ats hx h0
theorem qs (rl:List Reg)(f t:Int):(Rg.cut rl f t).1.length<=64/\((Rg.cut rl f t).2=0->t<=140737488355328):=by
 unfold Rg.cut;split
 ·rename_i hc;have h1:=bu hc;unfold Rg.few;split
  ·exact⟨s_,fun e=>by simp at e⟩
  ·exact⟨by dsimp only;omega,fun _ =>o_⟩
 ·exact⟨s_,fun e=>by simp at e⟩
theorem rh (rl:List Reg)(f t:Int)(q:Nat):(Rg.protect rl f t q).1.length<=64/\((Rg.protect rl f t q).2=0->t<=140737488355328/\q<=7):=by
 unfold Rg.protect;split
 ·rename_i hc;have h1:=bu hc.1;have h2:=hc.2;split
  ·unfold Rg.few;split
   ·exact⟨s_,fun e=>by simp at e⟩
   ·exact⟨by dsimp only;omega,fun _ =>⟨o_,o_⟩⟩
  ·exact⟨s_,fun e=>by simp at e⟩
 ·exact⟨s_,fun e=>by simp at e⟩
end
section
open Go.RowKit Go.Sort
variable {w:World}{B c a fs m:Nat}{S:Nat->Prop}{F:List Nd}{clock:Int}{p:Pool}{L:List Slot}{l:List SpM}{k:Nat}{x:SpM}{T:Tab}
theorem bO.rel {f t:Int}{q kk:Nat}{hold:Nat->Nat}{p':Pool}{T':Tab}(h0:Sp F hold p L T)(ho:Own p T)(h:bO F hold (prt q) f t p L T kk p' T'):Sp F hold p' L T'/\(∀E,Far hold T E p p')/\Own p' T'/\T'.nd 4 0=T.nd 4 0/\ ∀g y,T'.lf g=some y-> ∃z,T.lf g=some z:=by
 refine⟨h.sp,h.far,h.own h0 (fun _ =>rfl) (fun _ e=>e) ho,by rw[h.nd],fun g y hy=>?_⟩;have h1:=h.lf g;rw[hy]at h1;split at h1
 ·cases hz:T.lf g with
  |none=>rw[hz]at h1;cases h1
  |some z=>exact⟨z,rfl⟩
 ·exact⟨y,h1.symm⟩
theorem hmap' (h:Hse w B c a fs m S F clock p L l)(hk:l[k]? =some x)(hT:x.T=some T)(r:Reg)(EL:r.Ok):
  Calls prog 25 #[.pointer (some ⟨x.s,0,none⟩),.agg #[.int .u64 (r).fr,.int .u64 (r).to,.int .u8 (r).prot,.int .i64 (r).ino,.int .u64 (r).off]] w (fR w B c a fs m S F clock L l k x p (Rg.put x.rl r).1 (fun er=>er=di F x.rl r) (fun p' T'=>dk F (tnS ((l.map (·.T)).set k none)) r.fr r.to p L T T.puts.length p' T')):=
 hmap h hk hT r EL fun e hf=>(h.live hk hT).rgs.put EL e hf
theorem hunmap (h:Hse w B c a fs m S F clock p L l)(hk:l[k]? =some x)(hT:x.T=some T)(fr ot:Int)(h0:0<=fr)(h1:fr<=18446744073709551615)(h2:0<=ot)(h3:ot<=18446744073709551615):
  Calls prog 26 #[.pointer (some ⟨x.s,0,none⟩),.int .u64 fr,.int .u64 ot] w (fR w B c a fs m S F clock L l k x p (Rg.cut x.rl fr ot).1 (fun er=>er=(Rg.cut x.rl fr ot).2) (fun p' T'=>dk F (tnS ((l.map (·.T)).set k none)) fr ot p L T T.puts.length p' T')):=by
 have yR:=h.live hk hT;refine(si B c a fs m x.s x.t x.root x.n x.cap fr ot x.A x.rl clock w S F p L T _ h.home yR.one (h.sp hk hT) yR.root yR.rgs.ok h0 h1 h2 h3 (by have:=(qs x.rl fr ot).1;omega) (qs x.rl fr ot).2).mono fun e w' hp=>?_;exact hturn h hk hT hp (fun h0=>yR.rgs.cut h0.symm) (fun p' T' hr=>hr.rel (h.sp hk hT) (h.ownT hk hT))
theorem hprotect (h:Hse w B c a fs m S F clock p L l)(hk:l[k]? =some x)(hT:x.T=some T)(hl:l.length<=100)(fr ot:Int)(q:Nat)(h0:0<=fr)(h1:fr<=18446744073709551615)(h2:0<=ot)(h3:ot<=18446744073709551615):
  Calls prog 27 #[.pointer (some ⟨x.s,0,none⟩),.int .u64 fr,.int .u64 ot,.int .u8 (q:Int)] w (fR w B c a fs m S F clock L l k x p (Rg.protect x.rl fr ot q).1 (fun er=>er=(Rg.protect x.rl fr ot q).2) (fun p' T'=>bO F (tnS ((l.map (·.T)).set k none)) (prt q) fr ot p L T T.puts.length p' T')):=by
 have yR:=h.live hk hT;refine(nU B c a fs m x.s x.t x.root x.n x.cap fr ot q x.A x.rl clock w S F p L T _ h.home yR.one (h.sp hk hT) yR.root yR.rgs.ok h0 h1 h2 h3 (by have:=(rh x.rl fr ot q).1;omega) (rh x.rl fr ot q).2 (h.caps hl k)).mono fun e w' hp=>?_;exact hturn h hk hT hp (fun h0=>yR.rgs.prot o_ h0.symm) (fun p' T' hr=>hr.rel (h.sp hk hT) (h.ownT hk hT))
end
section
open Go.RowKit Go.Sort
def rA:Reg:=⟨4096,8192,6,1,0⟩
theorem rA_ok:rA.Ok:=by constructor<;>decide
theorem rd:Rg.put [] rA=([rA],0):=by decide+kernel
theorem rA_right:Rg.right [rA]=true:=by decide+kernel
theorem uI:Rg.find [rA] 4096=(rA,true):=by decide+kernel
variable {n:Nat}
theorem mD {a j:Nat}(h:a % 4096+n<=4096)(hj:0<(pst (a,n) j).2):j=0:=by
 rcases Nat.eq_zero_or_pos j with h0|h0
 ·exact h0
 ·have h1:(pst (a,n) 1).2=0:=by
   show n-pm (a,n)=0;unfold pm;dsimp only;omega
  have:=eQ h1 (j-1);rw[show 1+(j-1)=j by omega]at this;omega
theorem px (hn:n<=2){want:Int}(hw:bits .and .u8 6 want=want):df [rA] (4096,n) want=true:=by
 refine fB ⟨by dsimp only;omega,fun k hk=>?_⟩;have:=mD o_ hk;subst this;exact⟨rA,uI,hw⟩
variable {F:List Nd}
theorem py (hF: ∃y,F[1]? =some y/\y.kind=1/\y.n=1/\ ∀i,y.dat i=7):ep F 1/\ov F 1 0 0=7/\ov F 1 0 1=0:=by
 obtain⟨y,h1,h2,h3,h4⟩:=hF;have hl:=(List.getElem?_eq_some_iff.1 h1).1;have hR:dV F 1 0=(0,min 4096 (y.n-0),fun i=>y.dat (0+i)):=by
  unfold dV jJ;rw[if_neg o_];rw[show(1:Int).toNat=1 from rfl,h1];dsimp only;rw[if_neg o_,if_pos h2];rfl
 refine⟨⟨y,h1,h2⟩,?_,?_⟩
 ·unfold ov laid;rw[hR,h3];dsimp only;rw[if_pos o_,h4]
 ·unfold ov laid;rw[hR,h3];dsimp only;rw[if_neg o_]
theorem wk_src (hF: ∃y,F[1]? =some y/\y.kind=1/\y.n=1/\ ∀i,y.dat i=7):pH F [rA] 1 0=7/\pH F [rA] 1 1=0:=by
 obtain⟨_,h1,h2⟩:=py hF;have e:(Rg.find [rA] (((1:Nat):Int)*4096)).1=rA:=(by rw[show(((1:Nat):Int)*4096)=4096 from rfl,uI]);have hs:srcD F rA 1=ov F 1 0:=by
  unfold srcD;rw[if_pos (by decide+kernel)];rfl
 unfold pH;rw[e,hs];exact⟨h1,h2⟩
theorem wk_rgs (hF: ∃y,F[1]? =some y/\y.kind=1/\y.n=1/\ ∀i,y.dat i=7):Rgs F [rA]:=by
 obtain⟨⟨y,h1,h2⟩,_⟩:=py hF;refine⟨rA_right,fun r hr=>?_,fun r hr _ =>?_⟩
 ·rw[List.mem_singleton]at hr;subst hr;exact rA_ok
 ·rw[List.mem_singleton]at hr;subst hr;exact⟨y,h1,h2⟩
variable {hold d:Nat->Nat}{p p':Pool}{L L':List Slot}{T T':Tab}{er:Int}{k:Nat}
theorem wk_load1 (hF: ∃y,F[1]? =some y/\y.kind=1/\y.n=1/\ ∀i,y.dat i=7)(h:ff F hold [rA] p L T 4096 2 4 er k d p' L' T')(h0: ∀x,hold x=0)(hn:p.n=16)(hT: ∀g,T.lf g=none):
  er=0/\k=2/\d 0=7/\d 1=0/\p'.n=16/\(∀g y,T'.lf g=some y->g=1)/\ ∃y,T'.lf 1=some y/\p'.dat y.frame 0=7:=by
 have xZ: ∀j,0<(pst (4096,(2:Int).toNat) j).2->(pst (4096,(2:Int).toNat) j).1/4096=1:=fun j hj=>by
  have:=mD (a:=4096) (n:=(2:Int).toNat) d_ hj;subst this;rfl
 rcases h with⟨h,_⟩|⟨_,_,h,_⟩|⟨_,_,_,_,h⟩|⟨_,_,_,he,hk,⟨j,hj,h⟩,hd⟩
 ·omega
 ·rw[px d_ (by decide+kernel)]at h;cases h
 ·exfalso;have h1:=h.full.few h.seen.kept.sp.good.ok (G:=[1]) (us:=[]) (fun g y hy=>by
   refine List.mem_singleton.2 (xe fun xA=>?_);have:=h.only g (hT g) fun j hj e=>xA (e.trans (xZ j hj));rw[this]at hy;cases hy) (fun x hx=>by rw[h0]at hx;omega)
  rw[(h.seen.kept.far (fun _ =>False)).n,hn]at h1;simp at h1
 ·have Ec:k=2:=o_;have zi:0<j:=by
   rcases Nat.eq_zero_or_pos j with e|e
   ·subst e;exact absurd hj d_
   ·exact e
  have Qk:=hd 0 o_;have Lc:=hd 1 o_;rw[show(4096+0)/4096=1 from rfl,bX (hT 1)]at Qk;rw[show(4096+1)/4096=1 from rfl,bX (hT 1)]at Lc;obtain⟨s0,s1⟩:=wk_src hF;obtain⟨y,Lr⟩:=h.there 0 zi;have hy:T'.lf 1=some y:=Lr;refine⟨he,Ec,by rw[Qk];exact s0,by rw[Lc];exact s1,by rw[(h.seen.kept.far (fun _ =>False)).n,hn],fun g y hy=>?_,y,hy,?_⟩
  ·refine xe fun xA=>?_;have:=h.only g (hT g) fun i hi e=>xA (e.trans (xZ i (h.pos i hi)));rw[this]at hy;cases hy
  ·have h9:=h.seen.cont 1 0 o_;rw[bq hy,bX (hT 1),s0]at h9;exact h9
theorem wk_fork (hs:Sp F hold p L T)(h:rR F hold p L T p' L')(h0: ∀x,hold x=0)(hn:p.n=16)(hT: ∀g y,T.lf g=some y->g=1):False:=by
 have hG: ∀g y,T.lf g=some y->g∈[1]:=fun g y hy=>List.mem_singleton.2 (hT g y hy);rcases h.full with h1|⟨k,p1,L1,T2,hf,h1⟩
 ·have h2:=h1.few hs.good.ok (us:=[]) hG (fun x hx=>by rw[h0]at hx;omega);rw[hn]at h2;simp at h2
 ·have h2:=h1.few hf.two.good.ok (G:=[1]) (us:=T.names [1]) (fun g y hy=>by
   rw[hf.lf g]at hy;split at hy
   ·cases hl:T.lf g with
    |none=>rw[hl]at hy;cases hy
    |some z=>exact hG g z hl
   ·cases hy) (fun x hx=>qP hs.good.ok hG (by rw[h0]at hx;omega))
  have h3:=T.names_len [1];rw[hf.far.n,hn]at h2;simp at h2 h3;omega
variable {y:Leaf}
theorem wk_store {T2:Tab}(hs:Sp F hold p L T)(h:eh F hold [rA] p L T 4096 1 d 2 er p' L' T')(hd:d 0=9)(h0: ∀x,hold x=tn T2 x)(h2:T2.Ok p)(ZG: ∀g y,T2.lf g=some y->g=1)(hn:p.n=16)(hT: ∀g y,T.lf g=some y->g=1)(hy:T.lf 1=some y):
  er=0/\ ∃z,T'.lf 1=some z/\p'.dat z.frame 0=9:=by
 have xZ: ∀j,0<(pst (4096,1) j).2->(pst (4096,1) j).1/4096=1:=fun j hj=>by
  have:=mD (a:=4096) (n:=1) d_ hj;subst this;rfl
 rcases h with⟨h,_⟩|⟨_,h,_⟩|⟨_,_,_,h⟩|⟨_,_,he,j,all,p1,hj,h,hl⟩
 ·omega
 ·rw[px d_ (by decide+kernel)]at h;cases h
 ·exfalso;have h1:=h.full.few h.seen.kept.sp.good.ok (G:=[1]) (us:=T2.names [1]) (fun g z hz=>by
   refine List.mem_singleton.2 (xe fun xA=>?_);have xL:T.lf g=none:=by
    cases hl:T.lf g with
    |none=>rfl
    |some u=>exact absurd (hT g u hl) xA
   have:=h.only g xL fun j hj e=>xA (e.trans (xZ j hj));rw[this]at hz;cases hz) (fun x hx=>qP h2 (fun g z hz=>List.mem_singleton.2 (ZG g z hz)) (by rw[h0]at hx;exact hx))
  have h3:=T2.names_len [1];rw[(h.seen.kept.far (fun _ =>False)).n,hn]at h1;simp at h1 h3;omega
 ·obtain⟨z,hz,_⟩:=h.seen.kept.keep 1 y hy;have h9:=hl.byte 1 0 o_;rw[bq hz,if_pos (by dsimp only;omega)]at h9;refine⟨he,z,hz,?_⟩;rw[h9];exact hd
theorem qK (h:ff F hold [rA] p L T 4096 1 4 er k d p' L' T')(hy:T.lf 1=some y):er=0/\k=1/\d 0=p.dat y.frame 0/\p'=p/\T'=T/\L'=L:=by
 have xZ: ∀j,0<(pst (4096,(1:Int).toNat) j).2->(pst (4096,(1:Int).toNat) j).1/4096=1:=fun j hj=>by
  have:=mD (a:=4096) (n:=(1:Int).toNat) d_ hj;subst this;rfl
 rcases h with⟨h,_⟩|⟨_,_,h,_⟩|⟨_,_,_,_,h⟩|⟨_,_,_,he,hk,⟨j,hj,h⟩,hd⟩
 ·omega
 ·rw[px d_ (by decide+kernel)]at h;cases h
 ·obtain⟨j,hj,e⟩:=h.gap;rw[xZ j hj,hy]at e;cases e
 ·obtain⟨a1,a2,a3⟩:=h.still fun i hi e=>by rw[xZ i (h.pos i hi),hy]at e;cases e
  refine⟨he,o_,?_,a1,a3,a2⟩;rw[hd 0 o_,show(4096+0)/4096=1 from rfl,bq hy]
theorem tR (hF: ∃y,F[1]? =some y/\y.kind=1/\y.n=1/\ ∀i,y.dat i=7):di F [] rA=0:=by
 obtain⟨h,_⟩:=py hF;unfold di;rw[if_neg (by rw[rd];exact fun e=>e rfl),if_neg (fun e=>e.2 h)]
theorem qQ (x:Nat):tnS [none] x=0:=by rw[bM,gL];rfl
theorem tnS_two0 (T:Tab)(x:Nat):tnS [none,some T] x=tn T x:=by rw[bM,bM,gL];show 0+(tn T x+0)=_;omega
theorem wk_wiped {f:Nat}{fr t:Int}(h0:Sp F hold p L (aH f))(h:dk F hold fr t p L (aH f) (aH f).puts.length p' T')(hn:p.n=16):(∀g,T'.lf g=none)/\p'.n=16:=by
 refine⟨fun g=>?_,by rw[(h.far (fun _ =>False)).n,hn]⟩;rw[h.done h0 (wS _) g];split<;>rfl
end
section
open Go.RowKit Go.Sort
variable {fs a c m:Nat}{S:Nat->Prop}{F:List Nd}
theorem oN {w1 w3:World}{nb c2 n B1:Nat}{ad mp:Nat->Nat}(hF:FsIs w1 B1 fs nb c2 ad mp F)(hb:Below w1.heap.size w1 w3)(hC:au w3 S c a fs m 0 (fresh n) [])(hBF:iN F)(hS: ∀b,S b->w1.heap.size<=b)(hc:w1.heap.size<=c)(hm:w1.heap.size<=m)(h0:0<w1.heap.size)(hn:n<=1024):Hse w3 w1.heap.size c a fs m S F 0 (fresh n) [] []:=by
 refine⟨⟨hC,⟨w1,B1,nb,c2,ad,mp,rfl,hF,hb⟩,hBF,hS,hc,hm,h0⟩,Hs.start F n hn,fun k x h=>?_,fun j k x y _ h=>?_,fun k x h=>?_⟩<;>(rw[List.getElem?_nil]at h;cases h)
variable {w:World}{B:Nat}{clock:Int}{p:Pool}{L:List Slot}{l:List SpM}
theorem Hse.footLow (h:Hse w B c a fs m S F clock p L l): ∀b,av S c m b->B<=b:=fun b e=>by
 rcases e with e|e|e
 ·exact h.home.low b e
 ·rw[e];exact h.home.lows.2.1
 ·rw[e];exact h.home.lows.1
variable {w':World}
theorem Hse.goes {w0:World}(h:Hse w B c a fs m S F clock p L l)(hB:w0.heap.size<=B)(hb:Below w0.heap.size w0 w)(hm:Mod (av S c m) w w'):Below w0.heap.size w0 w':=hb.trans (hm.below (fun b e=>xn hB (h.footLow b e)) hb.size)
variable {base cap k:Nat}{d:Nat->Nat}
theorem OwnB.foot {g:Nat}(h:OwnB w base (some ⟨g,0,none⟩) cap k d)(hS: ¬S g)(hc:c<base)(hm:m<base)(hM:Mod (av S c m) w w'):OwnB w' base (some ⟨g,0,none⟩) cap k d:=h.sameR fun g' e=>by
 injection e with e;injection e with e;subst e;have h1:=h.form;exact hM.block g h1.2 (fun e=>e.elim hS fun e=>e.elim (fun e=>o_) (fun e=>o_))
theorem OwnB.some_of {A:Option Addr}(h:OwnB w base A cap k d)(hk:0<k): ∃g,A=some ⟨g,0,none⟩:=by
 rcases h.2 with⟨h1,_⟩|⟨g,xq,cur,h1,_⟩
 ·exfalso;have h2:=h.1;injection h1 with e1 e2 e3;rw[e2]at hk;cases hk
 ·injection h1 with e1 e2 e3;exact⟨g,e1⟩
theorem entA_at {b e:Nat}(hE:w.heap[e]? =some (.cells #[.string ⟨#[47,97]⟩, .int .u8 1, .int .u16 420, .int .u32 0, .int .u32 0, .slice (some ⟨b,0,none⟩) 1 1, .string ⟨#[]⟩] 93 (0,0)))(hD:w.heap[b]? =some (.cells #[.int .u8 7] 5 (0,0))):gH w (some ⟨e,0,none⟩) [entA]:=by
 intro j x hj;cases j with
 |succ j=>rw[List.getElem?_cons_succ,List.getElem?_nil]at hj;cases hj
 |zero=>
  rw[List.getElem?_cons_zero]at hj;injection hj with hj;subst hj;refine⟨e,some ⟨b,0,none⟩,1,rfl,(wO hE).1,⟨aa hE 0,aa hE 1,aa hE 2,aa hE 3,aa hE 4,aa hE 5,aa hE 6⟩,⟨d_,d_,d_,?_,fun e=>by cases e⟩⟩;exact fun _ =>⟨_,rfl,fun j hj=>by
   have Kv:j<1:=hj;obtain rfl:j=0:=o_;exact aa hD 0⟩
theorem pw (w:World)(BD:DB w)(xv:0<w.heap.size):Calls prog 10 #[] w fun e w'=>e= .returned (.bool true)/\Below w.heap.size w w':=by
 obtain⟨w0,BK⟩:=e_ (((w.alloc (.cells #[.int .u8 7] 5)).alloc (.cells #[.string ⟨#[47,97]⟩,.int .u8 1,.int .u16 420,.int .u32 0,.int .u32 0,.slice (some ⟨w.heap.size,0,none⟩) 1 1,.string ⟨#[]⟩] 93)));have xz:Below w.heap.size w w0:=(by rw[BK];exact wR.alloc s_ _);have hE:w0.heap[w.heap.size+1]? =some (.cells #[.string ⟨#[47,97]⟩,.int .u8 1,.int .u16 420,.int .u32 0,.int .u32 0,.slice (some ⟨w.heap.size,0,none⟩) 1 1,.string ⟨#[]⟩] 93 (0,0)):=by
  rw[BK];have e:(w.alloc (.cells #[.int .u8 7] 5)).heap.size=w.heap.size+1:=s_;rw[<-e];exact ab _ _
 have hD:w0.heap[w.heap.size]? =some (.cells #[.int .u8 7] 5 (0,0)):=(by rw[BK];exact(wT _ _ _ s_).trans (ab w _));have hnew:=kg (some ⟨w.heap.size+1,0,none⟩) 1 [entA] w0 (entA_at hE hD) d_ d_ entA_ok;obtain⟨Ai,xU,yd,Oc⟩:=zh4 hnew BK xz BD;clear hnew BK xz BD hE hD;go_enter func10,ntmps10;go_upto_region 8 with(first
  |(go_at_call 37;rw[<-xU.o];refine(Ai.o).mono ?_;rintro e w1⟨fs,rfl,hF,xu⟩;have Cq:=yd.o.trans (xu.mono yd.o.size);obtain⟨HF,xI,HDB1⟩:=zh3 hF Cq (Oc.o.same (Cq.block 0 xv));have xQ:=Cq.size;clear hF xu Cq)
  |(go_at_call 38;refine(mV 16 _ o_ o_ HDB1.o o_).mono ?_;rintro e w2⟨a,S,rfl,hP,xx,EU⟩;obtain⟨HP,yW,Nc⟩:=zh3 hP xx EU;have xX:=xx.size;clear hP xx EU)
  |(go_at_call 39;refine(rH a fs _ S (fresh 16) HP.o).mono ?_;rintro e w3⟨c,m,rfl,hC,xE,hc3,zF⟩;obtain⟨HC,yZ⟩:=zh2 hC xE;have zy:=xE.size;clear hC xE))
 obtain⟨nb,c2,adf,mpf,hF⟩:=HF.o;have Cl:=vI;have h3:Hse w3 w1.heap.size c a fs m S (dn [entA]) 0 (fresh 16) [] []:=oN hF (yW.o.trans (yZ.o.mono xX)) HC.o (iB (fun x hx=>by rw[List.mem_singleton]at hx;subst hx;exact fun i=>by show 7<256;omega)) Nc.o o_ o_ o_ o_;obtain⟨F,Qu⟩:=e_ (dn [entA]);rw[<-Qu]at h3 Cl;clear Qu;have Hz:=wP Cl;have hn:=hnew h3;obtain⟨HN,H3⟩:=zh2 hn h3;have DK:w.heap.size<=w1.heap.size:=(by have:=yd.o.size;omega);have hcB:w1.heap.size<=c/\w1.heap.size<=m/\c<w3.heap.size/\m<w3.heap.size:=⟨o_,o_,h3.home.lts.1,h3.home.lts.2.1⟩;have SR:Below w.heap.size w w3:=xI.o.trans ((yW.o.trans (yZ.o.mono xX)).mono o_);have Zf:=wP SR;have yU:w.heap.size<=w3.heap.size:=SR.size;clear hF Cl h3 hn HF HP HC yW yZ Nc Ai xU yd xI SR hc3 zF;go_wp2_with fail;refine(HN.o).mono ?_;rintro e w4 (⟨s,t,f,p4,L4,S4,rfl,h4,zl,AY,hs4,Zo⟩|⟨f,p4,L4,S4,rfl,h4,zl,AY,Zo,_⟩)
 rotate_left
 ·obtain⟨h,_⟩:=Zo.first (jz (by omega:1<=16));cases h
 obtain⟨_,Sc,IF,hL4⟩:=Zo.first (jz (by omega:1<=16));have GP:p4.n=16:=(by rw[IF];rfl);obtain⟨x4,Bm⟩: ∃x4:SpM,x4=⟨s,t,f,none,0,0,[],some (aH f)⟩:=⟨_,rfl⟩;rw[<-Bm]at h4;have Dj:([]++[x4])[0]? =some x4:=rfl;have Ho:x4.T=some (aH f):=(by rw[Bm]);have Rw:x4.s=s:=(by rw[Bm]);have Rz:x4.rl=[]:=(by rw[Bm]);have Vw:=wk_rgs Hz.o;have Dv:=hmap h4 Dj Ho rA rA_ok (fun _ _ =>by rw[Rz,rd];exact Vw);rw[Rw]at Dv;obtain⟨H4,Hw,Ct,HMP,TF,CE⟩:=zh6 h4 zl AY Dv (H3.o.goes DK Zf.o zl) (And.intro Ho (And.intro Rw Rz));clear Dv h4 zl AY Zo Bm Dj Ho Rw Rz IF hL4 HN Vw Hw Ct H3 Zf;go_wp2_with fail;refine(HMP.o).mono ?_;rintro e w5 (⟨er,rfl,g1,g2,_,_⟩|⟨rfl,Iw,A5,Bj,p5,T5,h5,yK,_,hwp⟩)
 ·rw[CE.o.2.2,tR Hz.o]at g2;exact absurd g2 g1
 clear Iw;obtain⟨VI,JE⟩:=wk_wiped (H4.o.sp (k:=0) rfl CE.o.1) hwp GP;obtain⟨x5,BA⟩:=e_ (x4.withR A5 Bj (Rg.put x4.rl rA).1 T5);rw[<-BA]at h5;change Hse w5 w1.heap.size c a fs m S4 F 0 p5 L4 [x5]at h5;have Ue:x5.T=some T5:=(by rw[BA];rfl);have NJ:x5.s=s:=(by rw[BA];exact CE.o.2.1);have Vu:x5.rl=[rA]:=(by rw[BA];show(Rg.put x4.rl rA).1=_;rw[CE.o.2.2,rd]);have Wd:x5.n=1:=(by rw[BA];show(Rg.put x4.rl rA).1.length=_;rw[CE.o.2.2,rd];rfl);have Mq:=kR h5 (k:=0) rfl Ue s_ 4096 2 4 d_ ⟨d_,d_⟩;rw[NJ]at Mq;have XO:Below w.heap.size w w5:=TF.o.trans (yK.below (fun b e=>xn DK (e.elim (H4.o.footLow b) (fun e=>by rw[CE.o.2.1]at e;omega))) TF.o.size);obtain⟨H5,Ze,Gb,Yr,Yz⟩:=zh5 h5 XO (And.intro Ue (And.intro NJ (And.intro Vu Wd))) VI Mq;clear h5 XO Ue NJ Vu Wd VI BA yK hwp Mq HMP H4 CE TF GP;go_wp2_with fail;refine(jK _ _ _ _ _ ((Yz.o).mono ?_));rintro e w6⟨er,R6,kk,cp6,d6,p6,L6,T6,XS,S6,rfl,h6,BO,Bq,q1,q2,DT,⟨VP,_⟩,LO⟩;rw[Gb.o.2.2.1]at LO;obtain⟨rfl,rfl,hd60,hd61,hn6,Ul,y6,hy6,Qj⟩:=wk_load1 Hz.o LO (fun x=>qQ x) JE Yr.o;obtain⟨g6,rfl⟩:=DT.some_of d_;have XN:=H5.o.goes DK Ze.o BO;have Wz:=VP g6 rfl;obtain⟨x6,EI⟩:=e_ (x5.withT T6);rw[<-EI]at h6;change Hse w6 w1.heap.size c a fs m S6 F XS p6 L6 [x6]at h6;have SB:x6.T=some T6:=(by rw[EI];rfl);have hs6:x6.s=s:=(by rw[EI];exact Gb.o.2.1);have Vt:x6.rl=[rA]:=(by rw[EI];exact Gb.o.2.2.1);have Mn:x6.n=1:=(by rw[EI];exact Gb.o.2.2.2);have Mx:=hfork h6 (k:=0) rfl SB s_ (by rw[Mn];decide);rw[hs6]at Mx;have hg6b:=DT.form;have OJ:c<w5.heap.size/\m<w5.heap.size:=⟨H5.o.home.lts.1,H5.o.home.lts.2.1⟩;refine⟨⟨_,_,rfl⟩,?_⟩;obtain⟨H6,Zd,KN,YN,Es,Tu,ZO,QV⟩:=zh8 h6 XN (And.intro SB (And.intro hs6 (And.intro Vt Mn))) Mx DT Ul hy6 Qj;clear h6 XN SB hs6 Vt Mn Mx DT Ul hy6 Qj EI BO Bq LO VP Yz H5 Gb Yr Ze JE;go_wp2_with fail;refine(YN.o).mono ?_;rintro e w7 (⟨p7,L7,S7,rfl,h7,yY,Ko,hno7⟩|⟨s7,t7,f7,A7,zC,p7,L7,T7,U7,S7,rfl,h7,yY,Ko,PH,Se⟩)
 ·exact(wk_fork (H6.o.sp (k:=0) rfl KN.o.1) hno7 (fun x=>qQ x) hn6 Tu.o).elim
 have SQ:=H6.o.goes DK Zd.o yY;have Ma:=Es.o.foot Wz OJ.1 OJ.2 yY;have hg7S: ¬S7 g6:=fun e=>(Ko g6 e).elim Wz (fun e=>o_);have hn7:p7.n=16:=(by rw[(Se.far (fun _ =>False)).n,hn6]);have SM: ∀g y,T7.lf g=some y->g=1:=fun g y hy=>by
  rw[Se.lf1 g]at hy;cases hl:T6.lf g with
  |none=>rw[hl]at hy;cases hy
  |some z=>exact Tu.o g z hl
 have hGU: ∀g y,U7.lf g=some y->g=1:=fun g y hy=>by
  rw[Se.lf2 g]at hy;cases hl:T6.lf g with
  |none=>rw[hl]at hy;cases hy
  |some z=>exact Tu.o g z hl
 have hyT:T7.lf 1=some (cpy y6):=(by rw[Se.lf1,ZO.o];rfl);have hyU:U7.lf 1=some (cpy y6):=(by rw[Se.lf2,ZO.o];rfl);have Qi:p7.dat y6.frame 0=7:=(by rw[Se.dat y6.frame ((H6.o.sp (k:=0) rfl KN.o.1).leaf ZO.o).2.2.2.2.1];exact QV.o);obtain⟨x7,Ix⟩:=e_ (x6.withT T7);obtain⟨u7,UR⟩: ∃u7:SpM,u7=⟨s7,t7,f7,A7,x6.n,zC,x6.rl,some U7⟩:=⟨_,rfl⟩;rw[<-Ix,<-UR]at h7;change Hse w7 w1.heap.size c a fs m S7 F XS p7 L7 [x7,u7]at h7;have SA:x7.T=some T7:=(by rw[Ix];rfl);have Ra:x7.s=s:=(by rw[Ix];exact KN.o.2.1);have Pz:x7.rl=[rA]:=(by rw[Ix];exact KN.o.2.2.1);have hU7:u7.T=some U7:=(by rw[UR]);have UQ:u7.s=s7:=(by rw[UR]);have PC:u7.rl=[rA]:=(by rw[UR];exact KN.o.2.2.1);have Hk:Below w7.heap.size w7 (w7.alloc (.cells #[.int .u8 9] 5)):=wR;obtain⟨w8,UN⟩:=e_ (w7.alloc (.cells #[.int .u8 9] 5));rw[<-UN]at Hk;have hD8:w8.heap[w7.heap.size]? =some (.cells #[.int .u8 9] 5 (0,0)):=(by rw[UN];exact ab _ _);have h8:=h7.below Hk;have yi:=oM h8 (k:=0) rfl SA s_ 4096 1 1 2 (some ⟨w7.heap.size,0,none⟩) (fun _ =>9) d_ ⟨o_,o_⟩ d_ d_ (fun _ =>⟨_,rfl,fun j hj=>by obtain rfl:j=0:=o_;exact aa hD8 0⟩) (fun _ =>d_) (fun ad e=>by
  injection e with e;subst e;refine⟨(wO hD8).1,fun e=>?_⟩;have KZ:=h7.home.lts;rcases e with e|e|e
  ·have:=KZ.2.2 _ e;dsimp only at this;omega
  ·dsimp only at e;omega
  ·dsimp only at e;omega)
 rw[Ra]at yi;obtain⟨H8,Bo,HW8,Zc,EY,Up,QF,YK⟩:=zh8 h8 yi UN (SQ.trans (Hk.mono SQ.size)) (And.intro SA (And.intro Ra Pz)) (And.intro hU7 (And.intro UQ PC)) (Ma.sameR (w':=w8) fun g e=>by injection e with e;injection e with e;subst e;exact Hk.block _ Ma.form.2) (And.intro SM hGU);obtain⟨HY7,HD7⟩:=zh2 (And.intro hyT hyU) Qi;clear h7 h8 yi UN Hk hD8 SQ Ma Se yY Ko SM hGU hyT hyU Qi Ix UR SA Ra Pz hU7 UQ PC YN H6 KN Es Tu ZO QV Zd;go_upto_region 15 with(first
  |(go_at_call 30;rw[<-HW8.o];refine(nY _ _ _ _ _ ((Bo.o).mono ?_));rintro e w9⟨er9,p9,L9,T9,clk9,S9,rfl,h9,Ba,Kn,q3,q4,JC⟩;refine⟨⟨_,rfl⟩,?_⟩)
  |fail)
 rw[EY.o.2.2]at JC;have Rt:=H8.o.sp (k:=0) rfl EY.o.1;have LG:=H8.o.sp (k:=1) rfl Up.o.1;have Wf:=JC.left Rt (H8.o.ownT (k:=0) rfl EY.o.1);obtain⟨rfl,z9,ZZ,Qh⟩:=wk_store (T2:=U7) Rt JC rfl (fun x=>by show tnS [none,u7.T] x=_;rw[Up.o.1,tnS_two0]) LG.good.ok YK.o.2 hn7 YK.o.1 HY7.o.1;have Qg:p9.dat (cpy y6).frame 0=7:=by
  have zI:=H8.o.hs.beside (k:=0) (j:=1) (fi (k:=0) (l:=[x7,u7]) rfl EY.o.1) (fi (k:=1) (l:=[x7,u7]) rfl Up.o.1) d_;have h1:=Sp.besideDat zI (Wf.2.1 (fun _ =>False)) (x:=(cpy y6).frame) (kj (LG.leaf HY7.o.2).2.2.2.2.1);rw[h1];exact HD7.o
 have XM:=H8.o.goes DK Zc.o Ba;have DS:=QF.o.foot hg7S OJ.1 OJ.2 Ba;obtain⟨x9,Bz⟩:=e_ (x7.withT T9);rw[<-Bz]at h9;change Hse w9 w1.heap.size c a fs m S9 F clk9 p9 L9 [x9,u7]at h9;have hT9:x9.T=some T9:=(by rw[Bz];rfl);have UI:x9.s=s:=(by rw[Bz];exact EY.o.2.1);have Py:x9.rl=[rA]:=(by rw[Bz];exact EY.o.2.2);have Mq:=kR h9 (k:=1) rfl Up.o.1 s_ 4096 1 4 d_ ⟨o_,o_⟩;rw[Up.o.2.1]at Mq;have m0:w9.cell? ⟨g6,0,none⟩=some (.int .u8 7):=(by have:=DS.cell (j:=0) d_;rw[hd60]at this;exact this);have m1:w9.cell? ⟨g6,1,none⟩=some (.int .u8 0):=(by have:=DS.cell (j:=1) d_;rw[hd61]at this;exact this);obtain⟨H9,Yz,Zb,SX,HZ9,YS,YR⟩:=zh7 h9 Mq XM (And.intro hT9 (And.intro UI Py)) ZZ Qh Qg;have WQ:c<w9.heap.size/\m<w9.heap.size:=⟨h9.home.lts.1,h9.home.lts.2.1⟩;clear h9 Mq XM hT9 UI Py ZZ Qh Qg Rt LG Wf JC DS Bz Ba Kn H8 EY YK HD7 QF Zc Bo HW8;go_upto_region 18 with(first
  |(go_at_call 28;refine(jK _ _ _ _ _ ((Yz.o).mono ?_));rintro e w10⟨er10,R10,k10,cp10,d10,p10,L10,T10,XT,S10,rfl,MY,zL,Ox,q5,q6,BN,⟨PO,_⟩,IC⟩;refine⟨⟨_,_,rfl⟩,?_⟩)
  |fail)
 rw[Up.o.2.2]at IC;obtain⟨rfl,rfl,WO,rfl,rfl,rfl⟩:=qK IC HY7.o.2;obtain⟨g10,rfl⟩:=BN.some_of d_;have Qv:=H9.o.goes DK Zb.o zL;have WC:=PO g10 rfl;have hg10b:=BN.form;obtain⟨u10,US⟩:=e_ (u7.withT T10);rw[<-US]at MY;change Hse w10 w1.heap.size c a fs m S10 F XT p10 L10 [x9,u10]at MY;have Mq:=kR MY (k:=0) rfl SX.o.1 s_ 4096 1 4 d_ ⟨o_,o_⟩;rw[SX.o.2.1]at Mq;rw[YR.o]at WO;obtain⟨H10,Yy,Zg,Nl⟩:=zh4 MY Mq Qv BN;clear MY Mq Qv US zL Ox BN PO IC Yz H9 Zb m0 m1;go_upto_region 19 with(first
  |(go_at_call 28;refine(jK _ _ _ _ _ ((Yy.o).mono ?_));rintro e w11⟨er11,R11,k11,cp11,d11,p11,L11,T11,clk11,S11,rfl,SV,RJ,ho11,q7,q8,IG,⟨VQ,_⟩,IB⟩;refine⟨⟨_,_,rfl⟩,?_⟩)
  |fail)
 rw[SX.o.2.2]at IB;obtain⟨rfl,rfl,WN,rfl,rfl,rfl⟩:=qK IB HZ9.o;obtain⟨g11,rfl⟩:=IG.some_of d_;have XP:=H10.o.goes DK Zg.o RJ;have BN:=Nl.o.foot WC WQ.1 WQ.2 RJ;have m0:w11.cell? ⟨g10,0,none⟩=some (.int .u8 7):=(by have:=BN.cell (j:=0) d_;rw[WO]at this;exact this);have m1:w11.cell? ⟨g11,0,none⟩=some (.int .u8 9):=(by have:=IG.cell (j:=0) d_;rw[WN,YS.o]at this;exact this);clear SV RJ ho11 IG VQ IB WN Yy H10 Nl BN;go_wp2_with fail;go_ret;exact⟨rfl,XP⟩
end
