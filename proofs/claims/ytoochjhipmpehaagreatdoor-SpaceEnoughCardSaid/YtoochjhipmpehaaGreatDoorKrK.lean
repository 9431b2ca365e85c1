/- Memories that share nothing, plain: they go along with the spaces. -/
import Derived.Test.YtoochjhipmpehaaGreatDoorKpK
import Derived.Test.YtoochjhipmpehaaGreatDoorKqK
set_option linter.unusedVariables false
set_option linter.unusedSimpArgs false
set_option maxRecDepth 100000
set_option maxHeartbeats 8000000
namespace Go.Proofs.YtoochjhipmpehaaGreatDoor
open Go.Proofs.Tryz
section
open Go.RowKit Go.Sort
variable {w w':World}{B c a fs m:Nat}{S:Nat->Prop}{F:List Nd}{clock:Int}{p p':Pool}{L L':List Slot}{l l':List SpM}{xs xs':List FlM}{o:O11}{k:Nat}{y:SpM}{x x':FlM}{er:Int}{T T':Tab}
def da (x:FlM)(ok:Prop)(rl':List Reg)(P:List ShM->List ShM)(x':FlM):Prop:=x'.gone=x.gone/\((x.gone=true\/ ¬ok)/\x'.rl=x.rl/\x'.ps=x.ps\/ok/\x.gone=false/\x'.rl=rl'/\x'.ps=P x.ps)
structure rS (x:FlM)(ok:Prop)(pg:Nat->Prop)(x':FlM):Prop where
 rl:x'.rl=x.rl
 gone:x'.gone=x.gone
 same: ∀s∈x.ps,∃s'∈x'.ps,s'.ad=s.ad
 there:x.gone=false->ok-> ∀g,pg g-> ∃s∈x'.ps,s.ad=g*4096
 few:x'.ps.length<=x.ps.length+65536
inductive DoK (F:List Nd)(xs:List FlM)(o:O11)(k:Nat)(x:FlM):List FlM->Prop
 |turn (x':FlM):(o.kd=0/\da x (FOkM F x.rl o.r) (Rg.put x.rl o.r).1 (ft o.r.fr o.r.to) x')\/(o.kd=1/\da x (0=(Rg.cut x.rl o.r.fr o.r.to).2) (Rg.cut x.rl o.r.fr o.r.to).1 (ft o.r.fr o.r.to) x')\/(o.kd=2/\da x (0=(Rg.protect x.rl o.r.fr o.r.to o.r.prot).2) (Rg.protect x.rl o.r.fr o.r.to o.r.prot).1 id x')->DoK F xs o k x (xs.set k x')
 |load (x':FlM) (want:Int):(o.kd=3/\want=4)\/(o.kd=5/\want=0)->rS x (0<=o.n/\o.n<=65536/\Perm x.rl (o.addr,o.n.toNat) want) (fun g=> ∃j,0<(pst (o.addr,o.n.toNat) j).2/\g=(pst (o.addr,o.n.toNat) j).1/4096) x'->DoK F xs o k x (xs.set k x')
 |store (x':FlM) (want:Int):(o.kd=4/\want=2)\/(o.kd=6/\want=0)->rS x (o.q<=65536/\Perm x.rl (o.addr,o.q) want) (fun g=> ∃j,j<o.q/\g=(o.addr+j)/4096) x'->DoK F xs o k x (xs.set k x')
 |fork (x2:FlM):o.kd=7->x.gone=false->x2.gone=false->x2.rl=x.rl->x2.ps.map (·.ad)=x.ps.map (·.ad)->DoK F xs o k x (xs++[x2])
 |forkNo:o.kd=7->x.gone=true->DoK F xs o k x xs
 |free (x':FlM):o.kd=8->x'.gone=true->x'.rl=x.rl->DoK F xs o k x (xs.set k x')
inductive DoF (F:List Nd)(xs:List FlM)(o:O11):List FlM->Prop
 |idle: ¬gy o xs.length->DoF F xs o xs
 |new (x:FlM):o.kd=9->x.rl=[]->x.ps=[]->x.gone=false->DoF F xs o (xs++[x])
 |at_ (k:Nat) (x:FlM) (xs':List FlM):0<=o.kd/\o.kd<=8->numI o.sI xs.length=k->xs[k]? =some x->DoK F xs o k x xs'->DoF F xs o xs'
theorem DoF.idle_of (h:DoF F xs o xs')(hn: ¬gy o xs.length)(hl:xs'.length<=6):xs'=xs:=by
 cases h with
 |idle=>rfl
 |new x h9=>
  rw[wU,xc]at hl;exact absurd (.inl ⟨h9,o_⟩) hn
 |at_ k x _ h1 h2 h3 h4=>
  have h5:=(List.getElem?_eq_some_iff.1 h3).1;by_cases h7:o.kd=7
  ·cases h4 with
   |forkNo=>rfl
   |fork=>
    rw[wU,xc]at hl;exact absurd (.inr ⟨o_,h1.1,h1.2,fun _ =>o_⟩) hn
   |_ =>exfalso;omega
  ·exact absurd (.inr ⟨o_,h1.1,h1.2,fun e=>absurd e h7⟩) hn
theorem DoF.kth (h:DoF F xs o xs')(hk:numI o.sI xs.length=k)(hx:xs[k]? =some x)(AN:0<=o.kd/\o.kd<=8)(h7:o.kd=7->xs.length<6):DoK F xs o k x xs':=by
 have hl:=(List.getElem?_eq_some_iff.1 hx).1;cases h with
 |idle h=>exact absurd (.inr ⟨o_,AN.1,AN.2,h7⟩) h
 |new _ h9=>omega
 |at_ k' x' _ h0 h1 h2 h3=>
  obtain rfl:k'=k:=o_;rw[hx]at h2;injection h2 with h2;subst h2;exact h3
theorem DoF.news (h:DoF F xs o xs')(h9:o.kd=9)(hl:xs.length<6): ∃x,xs'=xs++[x]/\x.rl=[]/\x.ps=[]/\x.gone=false:=by
 cases h with
 |idle h=>exact absurd (.inl ⟨h9,hl⟩) h
 |new x _ h1 h2 h3=>exact⟨x,rfl,h1,h2,h3⟩
 |at_ _ _ _ h0=>omega
structure fT (y:SpM)(x:FlM):Prop where
 gone:x.gone=true↔y.T=none
 there: ∀T,y.T=some T->x.rl=y.rl/\Cov T x.ps
structure fv (l:List SpM)(xs:List FlM):Prop where
 len:l.length=xs.length
 each: ∀(k:Nat) (y:SpM) (x:FlM),l[k]? =some y->xs[k]? =some x->fT y x
theorem fv.at_ (h:fv l xs)(hk:l[k]? =some y): ∃x,xs[k]? =some x/\fT y x:=by
 have hl:=(List.getElem?_eq_some_iff.1 hk).1;have hx:xs[k]? =some (xs[k]'(by rw[<-h.len];exact hl)):=wV _;exact⟨_,hx,h.each k y _ hk hx⟩
theorem fv.set {y':SpM}(h:fv l xs)(h1:fT y' x'):fv (l.set k y') (xs.set k x'):=
 ⟨by rw[List.length_set,List.length_set,h.len],fun j z u hz hu=>by
  rcases bJ hz with⟨rfl,rfl,hl⟩|⟨xA,hz⟩
  ·rw[List.getElem?_set_self (by rw[<-h.len];exact hl)]at hu;injection hu with hu;rw[<-hu];exact h1
  ·rw[List.getElem?_set_ne (fun e=>xA e.symm)]at hu;exact h.each j z u hz hu⟩
theorem fv.setX (h:fv l xs)(hk:l[k]? =some y)(h1:fT y x'):fv l (xs.set k x'):=by
 have h2:=h.set (k:=k) h1
 rwa [fV hk]at h2
theorem fv.snoc (h:fv l xs)(h1:fT y x):fv (l++[y]) (xs++[x]):=
 ⟨by rw[wU,wU,h.len];rfl,fun j z u hz hu=>by
  rcases Nat.lt_or_ge j l.length with h2|h2
  ·rw[wZ h2]at hz;rw[wZ (by rw[<-h.len];exact h2)]at hu;exact h.each j z u hz hu
  ·rw[wY h2]at hz;rw[wY (by rw[<-h.len];exact h2),<-h.len]at hu;have e1:=xb hz;have e2:=xb hu;rw[List.mem_singleton]at e1 e2;rw[e1,e2];exact h1⟩
theorem gh (xs:List FlM)(x:FlM):dh (xs++[x])=dh xs+dW x:=by
 induction xs with
 |nil=>show dW x+0=0+dW x;omega
 |cons z xs ih=>show dW z+dh (xs++[x])=dW z+dh xs+dW x;omega
theorem fv.cov (h:fv l xs)(ya: ∀(k:Nat) (T:Tab),(l.map (·.T))[k]? =some (some T)-> ∃p,T.Ok p):CovH (l.map (·.T)) xs:=
 ⟨by rw[List.length_map,h.len],fun k T x hk hx=>by
  have Ec:=hk;rw[xj]at Ec;obtain⟨y,hy,e⟩:=Option.map_eq_some_iff.1 Ec;have h1:=h.each k y x hy hx;refine⟨?_,(h1.there T e).2,ya k T hk⟩;cases hg:x.gone with
  |false=>rfl
  |true=>rw[h1.gone.1 hg]at e;cases e⟩
variable {ps:List ShM}
open Classical in
theorem Cov.wiped {f t:Int}(h:Cov T ps)(hT: ∀g,T'.lf g=if inSt f t g=true/\bS T.puts T.puts.length g then none else T.lf g)(ya:T.Ok p):Cov T' (ft f t ps):=fun g y hy=>by
 rw[hT g]at hy;split at hy
 ·cases hy
 ·rename_i xL;obtain⟨s,hs,e⟩:=h g y hy;refine⟨s,List.mem_filter.2 ⟨hs,?_⟩,e⟩;have h2: ¬inSt f t g=true:=fun e=>xL ⟨e,bS.all ya (wS _) hy⟩;rw[eY]at h2;simp only[Bool.or_eq_true,decide_eq_true_eq];omega
theorem Cov.sub {ps':List ShM}(h:Cov T ps)(hT: ∀g z,T'.lf g=some z-> ∃z',T.lf g=some z')(hp: ∀s∈ps,∃s'∈ps',s'.ad=s.ad):Cov T' ps':=fun g z hz=>by
 obtain⟨z',h1⟩:=hT g z hz;obtain⟨s,h2,h3⟩:=h g z' h1;obtain⟨s',h4,h5⟩:=hp s h2;exact⟨s',h4,h5.trans h3⟩
theorem Cov.more {ok:Prop}{pg:Nat->Prop}(h:Cov T x.ps)(hx:rS x ok pg x')(hg:x.gone=false)(ho:ok)(hT: ∀g,T.lf g=none-> ¬pg g->T'.lf g=none):Cov T' x'.ps:=fun g z hz=>by
 by_cases zq:pg g
 ·exact hx.there hg ho g zq
 ·cases ye:T.lf g with
  |none=>rw[hT g ye zq]at hz;cases hz
  |some z'=>
   obtain⟨s,h2,h3⟩:=h g z' ye;obtain⟨s',h4,h5⟩:=hx.same s h2;exact⟨s',h4,h5.trans h3⟩
variable {rl':List Reg}{P:List ShM->List ShM}
theorem da.yes {ok:Prop}(h:da x ok rl' P x')(hg:x.gone=false)(ho:ok):x'.gone=false/\x'.rl=rl'/\x'.ps=P x.ps:=by
 obtain⟨h1,⟨h2,_⟩|⟨_,_,h3,h4⟩⟩:=h
 ·rcases h2 with h2|h2
  ·rw[hg]at h2;cases h2
  ·exact absurd ho h2
 ·exact⟨h1.trans hg,h3,h4⟩
theorem da.no {ok:Prop}(h:da x ok rl' P x')(hn:x.gone=true\/ ¬ok):x'.gone=x.gone/\x'.rl=x.rl/\x'.ps=x.ps:=by
 obtain⟨h1,⟨_,h3,h4⟩|⟨h2,h3,_⟩⟩:=h
 ·exact⟨h1,h3,h4⟩
 ·rcases hn with hn|hn
  ·rw[h3]at hn;cases hn
  ·exact absurd h2 hn
theorem qm (l:List Reg):(Rg.few l).2≠4:=by unfold Rg.few;split<;>simp
theorem put_err4 (l:List Reg)(r:Reg):(Rg.put l r).2≠4:=by
 unfold Rg.put;split
 ·exact qm _
 ·decide
theorem put_one {l:List Reg}{r:Reg}(h:(Rg.put l r).2=0):r.ino= -1\/0<=r.ino:=by
 unfold Rg.put at h;split at h
 ·rename_i hc;exact(aE hc.2).2.2.2.2.2.imp And.left And.left
 ·cases h
variable {rl:List Reg}
theorem map_ok :0=di F rl o.r↔FOkM F rl o.r:=by
 unfold di FOkM;constructor
 ·intro h;split at h
  ·exact absurd h.symm ‹_›
  ·rename_i h1;have h1:(Rg.put rl o.r).2=0:=Classical.not_not.1 h1;split at h
   ·cases h
   ·rename_i h2;refine⟨h1.symm,?_⟩;have h3:=put_one h1;by_cases e:o.r.ino= -1
    ·exact .inl e
    ·have h0:0<=o.r.ino:=o_;exact .inr ⟨h0,xe fun xL=>h2 ⟨h0,xL⟩⟩
 ·rintro⟨h1,h2⟩;rw[if_neg (fun e=>e h1.symm),if_neg];rintro⟨h3,h4⟩;rcases h2 with h2|⟨_,h2⟩
  ·omega
  ·exact h4 h2
theorem turnErr4 (h:wu F rl o er):er≠4:=by
 rcases h with⟨_,rfl⟩|⟨_,rfl⟩|⟨_,q,_,rfl⟩
 ·unfold di;split
  ·exact put_err4 _ _
  ·split<;>decide
 ·unfold Rg.cut;split
  ·exact qm _
  ·decide
 ·unfold Rg.protect;split
  ·split
   ·exact qm _
   ·decide
  ·decide
def FlOk (xs:List FlM)(n:Nat):Prop:= ∀x∈xs,bG x.rl/\x.rl.length<=64/\(x.gone=false->x.ps.length<=n)
theorem few_len (l:List Reg):(Rg.few l).1.length<=64:=by
 unfold Rg.few;split
 ·exact xm _
 ·dsimp only;omega
theorem put_len (l:List Reg)(r:Reg):(Rg.put l r).1.length<=64:=by
 unfold Rg.put;split
 ·exact few_len _
 ·exact xm _
theorem da.ok {ok:Prop}(h:da x ok rl' P x')(hx:bG x.rl/\x.rl.length<=64/\(x.gone=false->x.ps.length<=30000))(hr:ok->bG rl'/\rl'.length<=64)(hP:(P x.ps).length<=x.ps.length):bG x'.rl/\x'.rl.length<=64/\(x'.gone=false->x'.ps.length<=100000):=by
 obtain⟨h1,⟨_,h2,h3⟩|⟨h0,hg,h2,h3⟩⟩:=h
 ·rw[h1,h2,h3];exact⟨hx.1,hx.2.1,fun e=>by have:=hx.2.2 e;omega⟩
 ·rw[h2,h3];exact⟨(hr h0).1,(hr h0).2,fun _ =>by have:=hx.2.2 hg;omega⟩
theorem DoF.ok (h:DoF F xs o xs')(hx:FlOk xs 30000)(hr:o.r.Ok):FlOk xs' 100000:=by
 have h0:FlOk xs 100000:=fun y hy=>⟨(hx y hy).1,(hx y hy).2.1,fun e=>by have:=(hx y hy).2.2 e;omega⟩;have yq: ∀ {k:Nat} {x':FlM},bG x'.rl/\x'.rl.length<=64/\(x'.gone=false->x'.ps.length<=100000)->FlOk (xs.set k x') 100000:=fun h1 y hy=>by
  rcases List.mem_or_eq_of_mem_set hy with hy|rfl
  ·exact h0 y hy
  ·exact h1
 have zA: ∀ {x':FlM},bG x'.rl/\x'.rl.length<=64/\(x'.gone=false->x'.ps.length<=100000)->FlOk (xs++[x']) 100000:=fun h1 y hy=>by
  rcases List.mem_append.1 hy with hy|hy
  ·exact h0 y hy
  ·rw[List.mem_singleton.1 hy];exact h1
 cases h with
 |idle=>exact h0
 |new x _ h1 h2 h3=>
  refine zA ⟨?_,?_,fun _ =>by rw[h2];simp⟩
  ·rw[h1];intro r hr;cases hr
  ·rw[h1];simp
 |at_ k x _ _ _ hk hd=>
  have CW:=hx x (xb hk);cases hd with
  |turn x' h=>
   rcases h with⟨_,h⟩|⟨_,h⟩|⟨_,h⟩
   ·refine yq (h.ok CW (fun e=>?_) (ll _ _ _));obtain⟨a1,a2,_⟩:=rf (l:=x.rl) (out:=(Rg.put x.rl o.r).1) CW.1 hr (by rw[e.1]);exact⟨a2,put_len _ _⟩
   ·refine yq (h.ok CW (fun e=>?_) (ll _ _ _));obtain⟨a1,a2,_⟩:=rG (l:=x.rl) (out:=(Rg.cut x.rl o.r.fr o.r.to).1) CW.1 (by rw[e]);exact⟨a2,(qs _ _ _).1⟩
   ·refine yq (h.ok CW (fun e=>?_) (wS _));obtain⟨a1,a2,_⟩:=jt (l:=x.rl) (out:=(Rg.protect x.rl o.r.fr o.r.to o.r.prot).1) CW.1 hr.prot0 (by rw[e]);exact⟨a2,(ck a1).2⟩
  |load x' _ _ h=>exact yq (by rw[h.rl];exact⟨CW.1,CW.2.1,fun e=>by have:=h.few;have:=CW.2.2 (h.gone.symm.trans e);omega⟩)
  |store x' _ _ h=>exact yq (by rw[h.rl];exact⟨CW.1,CW.2.1,fun e=>by have:=h.few;have:=CW.2.2 (h.gone.symm.trans e);omega⟩)
  |fork x2 _ h1 _ h2 h3=>exact zA (by
    have h4:=congrArg List.length h3;rw[List.length_map,List.length_map]at h4;rw[h2,h4];exact⟨CW.1,CW.2.1,fun _ =>by have:=CW.2.2 h1;omega⟩)
  |forkNo=>exact h0
  |free x' _ h1 h2=>exact yq (by rw[h2,h1];exact⟨CW.1,CW.2.1,fun e=>by cases e⟩)
end
section
open Go.RowKit Go.Sort
variable {w w':World}{B c a fs m:Nat}{S:Nat->Prop}{F:List Nd}{clock:Int}{p p':Pool}{L L':List Slot}{l l':List SpM}{xs xs':List FlM}{o:O11}{k:Nat}{y:SpM}{x x':FlM}{er:Int}{T T':Tab}{Ts:List (Option Tab)}
theorem CovH.set (h:CovH Ts xs)(h1:x'.gone=false/\Cov T' x'.ps/\ ∃p,T'.Ok p):CovH (Ts.set k (some T')) (xs.set k x'):=
 ⟨by rw[List.length_set,List.length_set,h.len],fun j U u hU hu=>by
  rcases bJ hU with⟨rfl,e,hl⟩|⟨xA,hU⟩
  ·rw[List.getElem?_set_self (by rw[<-h.len];exact hl)]at hu;injection hu with hu;injection e with e;rw[<-hu,e];exact h1
  ·rw[List.getElem?_set_ne (fun e=>xA e.symm)]at hu;exact h.each j U u hU hu⟩
theorem CovH.snoc (h:CovH Ts xs)(h1:x'.gone=false/\Cov T' x'.ps/\ ∃p,T'.Ok p):CovH (Ts++[some T']) (xs++[x']):=
 ⟨by rw[wU,wU,h.len];rfl,fun j U u hU hu=>by
  rcases Nat.lt_or_ge j Ts.length with h2|h2
  ·rw[wZ h2]at hU;rw[wZ (by rw[<-h.len];exact h2)]at hu;exact h.each j U u hU hu
  ·rw[wY h2]at hU;rw[wY (by rw[<-h.len];exact h2),<-h.len]at hu;have e1:=xb hU;have e2:=xb hu;rw[List.mem_singleton]at e1 e2;injection e1 with e1;rw[e1,e2];exact h1⟩
theorem pst_at {ad q j:Nat}(h:0<(pst (ad,q) j).2): ∃i,i<q/\(pst (ad,q) j).1=ad+i:=by
 have h1:=cA (ad,q) j;have h2:=oq (ad,q) j;simp only at h1 h2;exact⟨(pst (ad,q) j).1-ad,o_,o_⟩
theorem fT.live (h:fT y x)(hT:y.T=some T):x.gone=false:=by
 cases hg:x.gone with
 |false=>rfl
 |true=>rw[h.gone.1 hg]at hT;cases hT
theorem fT.of {y':SpM}(hT:y'.T=some T')(hg:x'.gone=false)(hr:x'.rl=y'.rl)(hc:Cov T' x'.ps):fT y' x':=
 ⟨⟨fun e=>(by rw[hg]at e;cases e),fun e=>(by rw[hT]at e;cases e)⟩,fun U e=>by rw[hT]at e;injection e with e;subst e;exact⟨hr,hc⟩⟩
theorem fT.off (hT:y.T=none)(hg:x'.gone=true):fT y x':=⟨⟨fun _ =>hT,fun _ =>hg⟩,fun U e=>by rw[hT]at e;cases e⟩
theorem CovH.full {hold:Nat->Nat}(h:CovH (Ts.set k (some T')) xs)(hk:k<Ts.length)(hh: ∀f,hold f=tnS (Ts.set k none) f)(hf:Full hold p T'):p.n<=dh xs+3:=by
 obtain⟨gs,h1,h2⟩:=hf;refine h.few h1 fun f xw=>(h2 f xw).imp (fun h3=>?_) id;have h4:=mo (Ts:=Ts.set k none) (k:=k) (o:=none) (by rw[List.getElem?_set_self hk]) (some T') f;rw[List.set_set]at h4;rw[hh f]at h3;have h5:tnO none f=0:=rfl;have h6:tnO (some T') f=ai T' f+ay T' f:=rfl;omega
theorem aw.allNamed {f0:Nat}{Ts:List (Option Tab)}(h:Hs F p L Ts)(ht:aw p L 4 f0 p' L'): ∀f,f<p.n->0<tnS Ts f:=fun f hf=>by
 have hc:=h.cnt f hf;have h5:=h.once f;cases ht with
 |none h1 h2=>
  have h3:=cB h1 f hf;by_cases h0:ax L f=0
  ·omega
  ·obtain⟨t,CX,Cw⟩:=List.countP_pos_iff.1 (show 0<ax L f by omega);have UX:t.frame=f:=(by simpa using Cw);have h4:=h2 t CX;rw[UX,aO hf]at h4;omega
theorem Hse.okT (h:Hse w B c a fs m S F clock p L l): ∀(k:Nat) (T:Tab),(l.map (·.T))[k]? =some (some T)-> ∃p,T.Ok p:=fun k T hk=>⟨p,(h.hs.at_ hk).good.ok⟩
theorem fv.step (ha:fv l xs)(hs:Hse w B c a fs m S F clock p L l)(hf:DoF F xs o xs')(hd:Do11 F p L l o er p' L' l')(hl:l'.length<=6)(xW:xs'.length<=6):(er=4->p.n<=dh xs'+3)/\(er≠4->fv l' xs'):=by
 have Hh:=ha.cov hs.okT;have hpn:=Do11.n hs hd;cases hd with
 |idle hna=>
  rw[hf.idle_of (by rw[<-ha.len];exact hna) xW];exact⟨fun e=>absurd e d_,fun _ =>ha⟩
 |new s t f p' L' h9 ht=>
  rw[wU,xc]at hl;obtain⟨x,rfl,h1,h2,h3⟩:=hf.news h9 (by rw[<-ha.len];omega);exact⟨fun e=>absurd e d_,fun _ =>ha.snoc (.of rfl h3 h1 fun g y e=>by cases e)⟩
 |newNo f h9 ht=>
  refine⟨fun _ =>?_,fun e=>absurd rfl e⟩;have h1:=Hh.few (n:=p.n) (gs:=[]) s_ fun f hf=> .inl (ht.allNamed hs.hs f hf);cases hf with
  |idle=>exact h1
  |new x=>rw[gh];omega
  |at_ _ _ _ h0=>omega
 |gone k x er AN hn hk hT he=>
  refine⟨fun e=>o_,fun _ =>?_⟩;obtain⟨u,hu,h1⟩:=ha.at_ hk;rw[ha.len]at hn;by_cases Sw:gy o xs.length
  ·rcases Sw with Sw|⟨_,a1,a2,a3⟩
   ·omega
   ·cases hf.kth hn hu ⟨a1,a2⟩ a3 with
    |turn x' h=>exact ha.setX hk (.off hT ((h.elim (fun h=>h.2.1) fun h=>h.elim (fun h=>h.2.1) fun h=>h.2.1).trans (h1.gone.2 hT)))
    |load x' _ _ h=>exact ha.setX hk (.off hT (h.gone.trans (h1.gone.2 hT)))
    |store x' _ _ h=>exact ha.setX hk (.off hT (h.gone.trans (h1.gone.2 hT)))
    |fork x2 _ h=>rw[h1.gone.2 hT]at h;cases h
    |forkNo=>exact ha
    |free x' _ h=>exact ha.setX hk (.off hT h)
  ·rw[hf.idle_of Sw xW];exact ha
 |no k x T er he hn hk hT xA=>
  refine⟨fun e=>absurd e (turnErr4 he),fun _ =>?_⟩;obtain⟨u,hu,h1⟩:=ha.at_ hk;obtain⟨yM,AT⟩:=h1.there T hT;rw[ha.len]at hn;have Fl:=h1.live hT;cases hf.kth hn hu (by rcases he with h|h|⟨h,_⟩<;>omega) (fun e=>by rcases he with h|h|⟨h,_⟩<;>omega)with
  |turn x' h=>
   have h2:x'.gone=u.gone/\x'.rl=u.rl/\x'.ps=u.ps:=by
    rw[yM]at h;rcases h with⟨h0,h⟩|⟨h0,h⟩|⟨h0,h⟩<;>rcases he with⟨e0,e1⟩|⟨e0,e1⟩|⟨e0,q,e2,e1⟩<;>first|(exfalso;omega)|skip
    ·have:=h.no (.inr fun e=>xA (e1.trans (map_ok.2 e).symm));exact this
    ·have:=h.no (.inr fun e=>xA (e1.trans e.symm));exact this
    ·have:=h.no (.inr fun e=>by rw[e2]at e;exact xA (e1.trans e.symm));exact this
   obtain⟨b1,b2,b3⟩:=h2;exact ha.setX hk (.of hT (b1.trans Fl) (b2.trans yM) (by rw[b3];exact AT))
  |_ =>exfalso;rcases he with h|h|⟨h,_⟩<;>omega
 |map k x T A' xq p' T' AN hn hk hT h0 hr=>
  refine⟨fun e=>absurd e d_,fun _ =>?_⟩;obtain⟨u,hu,h1⟩:=ha.at_ hk;obtain⟨yM,AT⟩:=h1.there T hT;rw[ha.len]at hn;cases hf.kth hn hu o_ o_ with
  |turn x' h=>
   rcases h with⟨_,h⟩|⟨e,_⟩|⟨e,_⟩
   ·rw[yM]at h;obtain⟨b1,b2,b3⟩:=h.yes (h1.live hT) (map_ok.1 h0);exact ha.set (.of rfl b1 b2 (by rw[b3];exact AT.wiped hr.lf (hs.sp hk hT).good.ok))
   ·omega
   ·omega
  |_ =>exfalso;omega
 |unmap k x T A' xq p' T' AN hn hk hT h0 hr=>
  refine⟨fun e=>absurd e d_,fun _ =>?_⟩;obtain⟨u,hu,h1⟩:=ha.at_ hk;obtain⟨yM,AT⟩:=h1.there T hT;rw[ha.len]at hn;cases hf.kth hn hu o_ o_ with
  |turn x' h=>
   rcases h with⟨e,_⟩|⟨_,h⟩|⟨e,_⟩
   ·omega
   ·rw[yM]at h;obtain⟨b1,b2,b3⟩:=h.yes (h1.live hT) h0;exact ha.set (.of rfl b1 b2 (by rw[b3];exact AT.wiped hr.lf (hs.sp hk hT).good.ok))
   ·omega
  |_ =>exfalso;omega
 |prot k x T A' xq p' T' q AN hn hk hT hq h0 hr=>
  refine⟨fun e=>absurd e d_,fun _ =>?_⟩;obtain⟨u,hu,h1⟩:=ha.at_ hk;obtain⟨yM,AT⟩:=h1.there T hT;rw[ha.len]at hn;cases hf.kth hn hu o_ o_ with
  |turn x' h=>
   rcases h with⟨e,_⟩|⟨e,_⟩|⟨_,h⟩
   ·omega
   ·omega
   ·rw[yM,hq]at h;obtain⟨b1,b2,b3⟩:=h.yes (h1.live hT) h0;refine ha.set (.of rfl b1 b2 (AT.sub (fun g z hz=>?_) fun s hs=>⟨s,by rw[b3];exact hs,rfl⟩));rw[hr.lf g]at hz;split at hz
    ·obtain⟨z',QZ,_⟩:=Option.map_eq_some_iff.1 hz;exact⟨z',QZ⟩
    ·exact⟨z,hz⟩
  |_ =>exfalso;omega
 |load k x T want er kk d p' L' T' AN hn hk hT hr=>
  obtain⟨u,hu,h1⟩:=ha.at_ hk;obtain⟨yM,AT⟩:=h1.there T hT;rw[ha.len]at hn;have Fl:=h1.live hT;have zz:k<(l.map (·.T)).length:=(by rw[List.length_map];exact(List.getElem?_eq_some_iff.1 hk).1);cases hf.kth hn hu o_ o_ with
  |load x' DL hkd' h=>
   obtain rfl:DL=want:=o_;have GF:Cov T x'.ps:=AT.sub (fun g z hz=>⟨z,hz⟩) h.same;rcases hr with⟨_,rfl,rfl,rfl,rfl⟩|⟨_,_,_,rfl,rfl,rfl,rfl⟩|⟨n0,n1,hp,rfl,EK⟩|⟨n0,n1,hp,rfl,_,⟨j,_,BF⟩,_⟩
   ·exact⟨fun e=>absurd e d_,fun _ =>ha.set (.of rfl (h.gone.trans Fl) (h.rl.trans yM) GF)⟩
   ·exact⟨fun e=>absurd e d_,fun _ =>ha.set (.of rfl (h.gone.trans Fl) (h.rl.trans yM) GF)⟩
   ·have yy:Perm u.rl (o.addr,o.n.toNat) DL:=xe fun h4=>by rw[yM]at h4;rw[cm h4]at hp;cases hp
    have Ar:=AT.more (T':=T') h Fl ⟨n0,n1,yy⟩ fun g hg xL=>EK.only g hg fun j hj e=>xL ⟨j,hj,e⟩;refine⟨fun _ =>?_,fun e=>absurd rfl e⟩;have h5:=(Hh.set (k:=k) (T':=T') (x':=x') ⟨h.gone.trans Fl,Ar,p',EK.seen.kept.sp.good.ok⟩).full zz (fun _ =>rfl) EK.full;rw[hpn]at h5;exact h5
   ·have yy:Perm u.rl (o.addr,o.n.toNat) DL:=xe fun h4=>by rw[yM]at h4;rw[cm h4]at hp;cases hp
    have Ar:=AT.more (T':=T') h Fl ⟨n0,n1,yy⟩ fun g hg xL=>BF.only g hg fun i hi e=>xL ⟨i,BF.pos i hi,e⟩;exact⟨fun e=>absurd e d_,fun _ =>ha.set (.of rfl (h.gone.trans Fl) (h.rl.trans yM) Ar)⟩
  |turn _ h=>exfalso;rcases h with⟨e,_⟩|⟨e,_⟩|⟨e,_⟩<;>omega
  |_ =>exfalso;omega
 |store k x T want er p' L' T' AN hn hk hT hr=>
  obtain⟨u,hu,h1⟩:=ha.at_ hk;obtain⟨yM,AT⟩:=h1.there T hT;rw[ha.len]at hn;have Fl:=h1.live hT;have zz:k<(l.map (·.T)).length:=(by rw[List.length_map];exact(List.getElem?_eq_some_iff.1 hk).1);cases hf.kth hn hu o_ o_ with
  |store x' DL hkd' h=>
   obtain rfl:DL=want:=o_;have GF:Cov T x'.ps:=AT.sub (fun g z hz=>⟨z,hz⟩) h.same;rcases hr with⟨_,rfl,rfl,rfl,rfl⟩|⟨_,_,rfl,rfl,rfl,rfl⟩|⟨n1,hp,rfl,EK⟩|⟨n1,hp,rfl,j,all,p1,_,how,VZ⟩
   ·exact⟨fun e=>absurd e d_,fun _ =>ha.set (.of rfl (h.gone.trans Fl) (h.rl.trans yM) GF)⟩
   ·exact⟨fun e=>absurd e d_,fun _ =>ha.set (.of rfl (h.gone.trans Fl) (h.rl.trans yM) GF)⟩
   ·have yy:Perm u.rl (o.addr,o.q) DL:=xe fun h4=>by rw[yM]at h4;rw[cm h4]at hp;cases hp
    have Ar:=AT.more (T':=T') h Fl ⟨n1,yy⟩ fun g hg xL=>EK.only g hg fun j hj e=>by
     obtain⟨i,hi,e2⟩:=pst_at hj;exact xL ⟨i,hi,by rw[e,e2]⟩
    refine⟨fun _ =>?_,fun e=>absurd rfl e⟩;have h5:=(Hh.set (k:=k) (T':=T') (x':=x') ⟨h.gone.trans Fl,Ar,p',EK.seen.kept.sp.good.ok⟩).full zz (fun _ =>rfl) EK.full;rw[hpn]at h5;exact h5
   ·have yy:Perm u.rl (o.addr,o.q) DL:=xe fun h4=>by rw[yM]at h4;rw[cm h4]at hp;cases hp
    have Ar:=AT.more (T':=T') h Fl ⟨n1,yy⟩ fun g hg xL=>how.only g hg fun i hi e=>by
     obtain⟨i',Zw,e2⟩:=pst_at (how.pos i hi);exact xL ⟨i',Zw,by rw[e,e2]⟩
    exact⟨fun e=>absurd e d_,fun _ =>ha.set (.of rfl (h.gone.trans Fl) (h.rl.trans yM) Ar)⟩
  |turn _ h=>exfalso;rcases h with⟨e,_⟩|⟨e,_⟩|⟨e,_⟩<;>omega
  |_ =>exfalso;omega
 |forkNo k x T p' L' AN hn hk hT hr GX=>
  refine⟨fun _ =>?_,fun e=>absurd rfl e⟩;obtain⟨u,hu,h1⟩:=ha.at_ hk;obtain⟨yM,AT⟩:=h1.there T hT;have Fl:=h1.live hT;have zz:k<(l.map (·.T)).length:=(by rw[List.length_map];exact(List.getElem?_eq_some_iff.1 hk).1);have zj:(l.map (·.T)).set k (some T)=l.map (·.T):=fV (fi hk hT);have xY:dh xs<=dh xs':=by
   cases hf with
   |idle=>exact wS _
   |new x=>rw[gh];omega
   |at_ _ _ _ h0 _ _ h=>cases h with
    |fork=>rw[gh];omega
    |forkNo=>exact wS _
    |turn _ h=>exfalso;rcases h with⟨e,_⟩|⟨e,_⟩|⟨e,_⟩<;>omega
    |_ =>exfalso;omega
  rcases hr.full with h2|⟨j,p1,L1,T2,Mx,gs,g1,g2⟩
  ·have h3:=CovH.full (Ts:=l.map (·.T)) (k:=k) (xs:=xs) (by rw[zj];exact Hh) zz (fun _ =>rfl) h2;omega
  ·rw[ha.len]at hn GX;have EB:p1.n=p.n:=(Mx.far).n;cases hf.kth hn hu o_ (fun _ =>GX)with
   |fork x2 _ _ e1 e2 e3=>
    have Ar:Cov T2 x2.ps:=AT.sub (fun g z hz=>by
     rw[Mx.lf g]at hz;split at hz
     ·obtain⟨z',QZ,_⟩:=Option.map_eq_some_iff.1 hz;exact⟨z',QZ⟩
     ·cases hz) fun s hs=>by
     have:s.ad∈x2.ps.map (·.ad):=(by rw[e3];exact List.mem_map.2 ⟨s,hs,rfl⟩);obtain⟨s',h4,h5⟩:=List.mem_map.1 this;exact⟨s',h4,h5⟩
    refine(Hh.snoc (T':=T2) (x':=x2) ⟨e1,Ar,p1,Mx.two.good.ok⟩).few g1 fun f xw=>(g2 f o_).imp (fun h3=>?_) id;rw[kl];have h4:=dp (fi hk hT) f;have h6:tn T2 f=ai T2 f+ay T2 f:=rfl;dsimp only at h3;omega
   |forkNo _ h=>rw[Fl]at h;cases h
   |turn _ h=>exfalso;rcases h with⟨e,_⟩|⟨e,_⟩|⟨e,_⟩<;>omega
   |_ =>exfalso;omega
 |fork k x T s2 t2 f A' xq p' L' T' T2 AN hn hk hT hr=>
  refine⟨fun e=>absurd e d_,fun _ =>?_⟩;rw[wU,xc,List.length_set]at hl;obtain⟨u,hu,h1⟩:=ha.at_ hk;obtain⟨yM,AT⟩:=h1.there T hT;have Fl:=h1.live hT;have hlen:=ha.len;rw[ha.len]at hn;have OK: ∀ {U:Tab},(∀g,U.lf g=(T.lf g).map cpy)-> ∀g z,U.lf g=some z-> ∃z',T.lf g=some z':=fun hU g z hz=>by
   rw[hU g]at hz;obtain⟨z',QZ,_⟩:=Option.map_eq_some_iff.1 hz;exact⟨z',QZ⟩
  cases hf.kth hn hu o_ (fun _ =>o_)with
  |fork x2 _ _ e1 e2 e3=>
   have h2:=ha.set (k:=k) (y':=x.withT T') (x':=u) (.of rfl Fl yM (AT.sub (OK hr.lf1) fun s hs=>⟨s,hs,rfl⟩));rw[fV hu]at h2;refine h2.snoc (.of rfl e1 (e2.trans yM) (AT.sub (OK hr.lf2) fun s hs=>?_));have:s.ad∈x2.ps.map (·.ad):=(by rw[e3];exact List.mem_map.2 ⟨s,hs,rfl⟩);obtain⟨s',h4,h5⟩:=List.mem_map.1 this;exact⟨s',h4,h5⟩
  |forkNo _ h=>rw[Fl]at h;cases h
  |turn _ h=>exfalso;rcases h with⟨e,_⟩|⟨e,_⟩|⟨e,_⟩<;>omega
  |_ =>exfalso;omega
 |free k x T AN hn hk hT=>
  refine⟨fun e=>absurd e d_,fun _ =>?_⟩;obtain⟨u,hu,h1⟩:=ha.at_ hk;rw[ha.len]at hn;cases hf.kth hn hu o_ o_ with
  |free x' _ h=>exact ha.set (.off rfl h)
  |turn _ h=>exfalso;rcases h with⟨e,_⟩|⟨e,_⟩|⟨e,_⟩<;>omega
  |_ =>exfalso;omega
end
section
open Go.RowKit Go.Sort
variable {w w' wq w1 W:World}{D qd fb cr k:Nat}{R R':Option Addr}{xs xs':List FlM}{x x':FlM}{F:List Nd}{o:O11}
def FDid (w:World)(D qd fb:Nat)(F:List Nd)(R:Option Addr)(xs:List FlM)(o:O11)(e:Ending)(w':World):Prop:=
 ∃(v:Value) (R':Option Addr) (cr':Nat) (xs':List FlM),e= .returned v/\Fls w' D qd fb R' cr' xs'/\DoF F xs o xs'/\xs'.length<=6/\Mod (FlsF fb R xs) w w'/\Out (FlsF fb R xs) (FlsF fb R' xs') w
theorem told_one (E:Nat)(tmps:Array Value)(v0 v1:Value)(w:World)(ht:tmps.getD 4 undef= .pointer (some ⟨E,0,none⟩))(h0:w.cell? ⟨E,0,none⟩=some v0)(h1:w.cell? ⟨E,1,none⟩=some v1):
  (results Tryz.f13 tmps).run prog w= .ok (.agg #[v0,v1]) w:=by
 have hr:Tryz.f13.results= #[.cell 4 41]:=rfl;have Cw:tmps[4]?.getD undef= .pointer (some ⟨E,0,none⟩):=(by simpa using ht);simp only[results,hr];simp[Sem.run_bind,Result.andThen,go_sem,Cw,h0,h1]
variable {tmps:Array Value}{Y:Nat->Prop}{a b:Value}
theorem eE {cr':Nat}{u v:Value}(h:Fls w D qd fb R cr xs)(xR:Below w.heap.size w wq)(Ib:w.heap.size+3<=wq.heap.size)(h1:Fls w1 D qd fb R' cr' xs')(hm:Mod (FlsF fb R xs) wq w1)(ho:Out (FlsF fb R xs) (FlsF fb R' xs') wq)(hd:DoF F xs o xs')(hl:xs'.length<=6)
  (hY:Mod Y w1 W)(Lf: ∀b,Y b->b=w.heap.size+1+1)(hr:W.heap[w.heap.size+1]? =some (.cells #[u,v] 41 (0,0)))(ht:tmps.getD 4 undef= .pointer (some ⟨w.heap.size+1,0,none⟩)):
  bodyPost prog Tryz.f13 (FDid w D qd fb F R xs o) .ret ⟨tmps,[]⟩ ((W.setCell ⟨w.heap.size+1,0,none⟩ a).setCell ⟨w.heap.size+1,1,none⟩ b):=by
 obtain⟨c0,c1,Ch⟩:=mn (u:=a) (v:=b) hr;refine bodyPost_ret (told_one (w.heap.size+1) _ _ _ _ ht c0 c1) rfl ?_;have ZD:Mod (fun b=>b=w.heap.size+1+1\/b=w.heap.size+1) w1 ((W.setCell ⟨w.heap.size+1,0,none⟩ a).setCell ⟨w.heap.size+1,1,none⟩ b):=(hY.sub fun b e=> .inl (Lf b e)).trans (Out.refl _ _) (Ch.sub fun b e=> .inr e);have hz:=hm.size;have xL: ∀b,FlsF fb R' xs' b-> ¬(b=w.heap.size+1+1\/b=w.heap.size+1):=fun b e e2=>by
  rcases ho b e with e3|e3
  ·have:=(h.lowB b e3).2;omega
  ·omega
 refine⟨_,R',cr',xs',rfl,h1.far fun b e=>ZD.block b (h1.lowB b e).2 (xL b e),hd,hl,?_,fun b e=>(ho b e).imp id (fun e=>o_)⟩;exact((((Mod.of xR).trans (Out.refl _ _) (hm.sub (T:=fun b=>FlsF fb R xs b\/w.heap.size<=b) fun b e=> .inl e))).trans (Out.refl _ _) (ZD.sub fun b e=> .inr o_)).own fun b e=>e
variable {op:Array Value}
theorem dM (h:Fls w D qd fb R cr xs)(xR:Below w.heap.size w wq)(Ib:w.heap.size+3<=wq.heap.size)(hx:Bx wq w.heap.size op)(hd:DoF F xs o xs)(hl:xs.length<=6)(ht:tmps.getD 4 undef= .pointer (some ⟨w.heap.size+1,0,none⟩)):
  bodyPost prog Tryz.f13 (FDid w D qd fb F R xs o) .ret ⟨tmps,[]⟩ ((wq.setCell ⟨w.heap.size+1,0,none⟩ a).setCell ⟨w.heap.size+1,1,none⟩ b):=
 eE h xR Ib (h.kept xR) (Mod.refl _ _) (Out.refl _ _) hd hl (Mod.refl (fun _ =>False) _) (fun _ e=>e.elim) hx.res ht
theorem qo (h:Fls w D qd fb R cr xs)(xR:Below w.heap.size w wq)(Ib:w.heap.size+3<=wq.heap.size)(hx:Bx wq w.heap.size op)(hk:xs[k]? =some x)(hn:aU wq D qd x w1 x')(hd:DoF F xs o (xs.set k x'))(hl:xs.length<=6)
  (hY:Mod Y w1 W)(Lf: ∀b,Y b->b=w.heap.size+1+1)(ht:tmps.getD 4 undef= .pointer (some ⟨w.heap.size+1,0,none⟩)):
  bodyPost prog Tryz.f13 (FDid w D qd fb F R xs o) .ret ⟨tmps,[]⟩ ((W.setCell ⟨w.heap.size+1,0,none⟩ a).setCell ⟨w.heap.size+1,1,none⟩ b):=by
 obtain⟨h1,h2,h3⟩:=(h.kept xR).set hk hn;have zY:=hx.mod hn.mod fun b e=> .inl ((h.each x (xb hk)).lowB b e).2;exact eE h xR Ib h1 h2 h3 hd (by rw[List.length_set];exact hl) hY Lf ((hY.block _ (wO zY.res).1 (fun e=>by have:=Lf _ e;omega)).trans zY.res) ht
theorem Fls.notRow (h:Fls w D qd fb R cr xs):some fb≠R.map (·.block):=fun e=>by
 rcases h.row.form with⟨e1,_⟩|⟨g,e1,_⟩
 ·rw[e1]at e;cases e
 ·obtain⟨cur,h9⟩:=bj h.row e1;rw[e1]at e;simp only[Option.map_some,Option.some.injEq]at e;exact aZ h.self h9 d_ e
theorem Fls.push {w6:World}{ob:Obj}{g xq:Nat}(h:Fls w D qd fb R cr xs)(hb:Below w.heap.size w w1)(hD:D<=w.heap.size)(hi:az w1 w.heap.size qd x)(ho:OwnG 48 1 ptrC w6 D (some ⟨g,0,none⟩) xq (xs.map (·.f)++[x.f]))(hg:(w1.alloc ob).grownBy w6 (R.map (·.block)))(yr:R.map (·.block)=some g\/g=(w1.alloc ob).heap.size):
  Fls (w6.setCell ⟨fb,1,none⟩ (.slice (some ⟨g,0,none⟩) (xs.length+1) xq)) D qd fb (some ⟨g,0,none⟩) xq (xs++[x])/\Mod (FlsF fb R xs) w (w6.setCell ⟨fb,1,none⟩ (.slice (some ⟨g,0,none⟩) (xs.length+1) xq))/\Out (FlsF fb R xs) (FlsF fb (some ⟨g,0,none⟩) (xs++[x])) w:=by
 have hf: ∀b,R.map (·.block)=some b->R=some ⟨b,0,none⟩:=fun b e=>by
  rcases h.row.form with⟨e1,_⟩|⟨g1,e1,_⟩
  ·rw[e1]at e;cases e
  ·rw[e1]at e⊢;simp only[Option.map_some,Option.some.injEq]at e;rw[e]
 refine h.snoc hb hD (hi.lowerD hD) (fun b e=>(hi.lowB b e).1) ho ⟨hg.os,hg.tape,hg.output,?_,fun b xx hn=>(hg.block b t_ fun e=>hn (hf b e.symm)).trans (wT _ _ _ xx)⟩ (yr.imp (hf g) fun e=>?_)
 ·have:=hg.size;simp at this;omega
 ·simp at e;omega
def FErr (wq:World)(D qd:Nat)(F:List Nd)(xs:List FlM)(o:O11)(k:Nat)(x:FlM)(w1:World):Prop:= ∃x',aU wq D qd x w1 x'/\DoF F xs o (xs.set k x')
variable {ok:Prop}{e:Ending}
theorem eK.err {rl':List Reg}{P:List ShM->List ShM}(h:eK wq D qd x ok rl' P e w1)(hk:xs[k]? =some x)(hn:numI o.sI xs.length=k)(AN:o.kd=0\/o.kd=1\/o.kd=2)(hd: ∀x',da x ok rl' P x'->(o.kd=0/\da x (FOkM F x.rl o.r) (Rg.put x.rl o.r).1 (ft o.r.fr o.r.to) x')\/(o.kd=1/\da x (0=(Rg.cut x.rl o.r.fr o.r.to).2) (Rg.cut x.rl o.r.fr o.r.to).1 (ft o.r.fr o.r.to) x')\/(o.kd=2/\da x (0=(Rg.protect x.rl o.r.fr o.r.to o.r.prot).2) (Rg.protect x.rl o.r.fr o.r.to o.r.prot).1 id x')): ∃er,e= .returned (.int .i64 er)/\Hid (FErr wq D qd F xs o k x w1):=by
 obtain⟨er,x',rfl,h1,h2,h3⟩:=h;exact⟨er,rfl,wP ⟨x',h1,.at_ k x _ o_ hn hk (.turn x' (hd x' ⟨h2,h3⟩))⟩⟩
theorem FErr.bx (h:FErr wq D qd F xs o k x w1)(hf:Fls w D qd fb R cr xs)(hk:xs[k]? =some x)(hx:Bx wq w.heap.size op):Bx w1 w.heap.size op:=by
 obtain⟨x',h1,_⟩:=h;exact hx.mod h1.mod fun b e=> .inl ((hf.each x (xb hk)).lowB b e).2
theorem FErr.leaf (hp:FErr wq D qd F xs o k x w1)(h:Fls w D qd fb R cr xs)(xR:Below w.heap.size w wq)(Ib:w.heap.size+3<=wq.heap.size)(hx:Bx wq w.heap.size op)(hk:xs[k]? =some x)(hl:xs.length<=6)
  (hY:Mod Y w1 W)(Lf: ∀b,Y b->b=w.heap.size+1+1)(ht:tmps.getD 4 undef= .pointer (some ⟨w.heap.size+1,0,none⟩)):
  bodyPost prog Tryz.f13 (FDid w D qd fb F R xs o) .ret ⟨tmps,[]⟩ ((W.setCell ⟨w.heap.size+1,0,none⟩ a).setCell ⟨w.heap.size+1,1,none⟩ b):=by
 obtain⟨x',h1,h2⟩:=hp;exact qo h xR Ib hx hk h1 h2 hl hY Lf ht
theorem gx.asked {y:Nat->Nat}{j:Nat}{pg:Nat->Prop}(h:gx wq D qd x y j w1 x')(hj:j<=65536)(zq:x.gone=false->ok-> ∀g,pg g-> ∃i,i<j/\y i=g*4096):rS x ok pg x':=
 ⟨h.rl,h.gone,h.same,fun hg ho g hpg2=>by
  obtain⟨i,h1,h2⟩:=zq hg ho g hpg2;obtain⟨s,h3,h4⟩:=h.there i h1;exact⟨s,h3,h4.trans h2⟩,by have:=h.few;omega⟩
variable {addr:Nat}{want:Int}
theorem nD.err {n:Int}(h:nD wq D qd x addr n want e w1)(hk:xs[k]? =some x)(hn:numI o.sI xs.length=k)(AN:(o.kd=3/\want=4)\/(o.kd=5/\want=0))(ha:o.addr=addr:=by rfl)(DW:o.n=n:=by rfl): ∃Rb kk cp er,e= .returned (.tuple #[.slice Rb kk cp,.int .i64 er])/\Hid (FErr wq D qd F xs o k x w1):=by
 obtain⟨Rb,kk,cp,er,x',j,rfl,h1,h2,h3⟩:=h;subst ha DW;refine⟨Rb,kk,cp,er,rfl,wP ⟨x',h1.next,.at_ k x _ o_ hn hk (.load x' want AN (h1.asked h2 fun hg ho g zq=>?_))⟩⟩;obtain⟨i,hi,rfl⟩:=zq;exact⟨i,h3 hg ho.1 ho.2.1 ho.2.2 i hi,rfl⟩
variable {m:Nat}
theorem jE.err (h:jE wq D qd x addr m want e w1)(hk:xs[k]? =some x)(hn:numI o.sI xs.length=k)(AN:(o.kd=4/\want=2)\/(o.kd=6/\want=0))(ha:o.addr=addr:=by rfl)(DW:o.q=m:=by rfl): ∃er,e= .returned (.int .i64 er)/\Hid (FErr wq D qd F xs o k x w1):=by
 obtain⟨er,x',j,rfl,h1,h2,h3⟩:=h;subst ha DW;refine⟨er,rfl,wP ⟨x',h1.next,.at_ k x _ o_ hn hk (.store x' want AN (h1.asked h2 fun hg ho g zq=>?_))⟩⟩;obtain⟨i,hi,rfl⟩:=zq;exact⟨i,by have:=h3 hg ho.1 ho.2;omega,rfl⟩
variable {P:World->Prop}{f:Nat}
theorem fLoad_w (a:Nat)(n:Int)(hc:Calls prog 92 #[.pointer (some ⟨f,0,none⟩), .int .u64 (a:Int), .int .i64 n, .int .u8 4] w fun e w'=> ∃Rb kk cp er,e= .returned (.tuple #[.slice Rb kk cp, .int .i64 er])/\Hid (P w')):
  Calls prog 49 #[.pointer (some ⟨f,0,none⟩),.int .u64 (a:Int),.int .i64 n] w fun e w'=> ∃Rb kk cp er,e= .returned (.tuple #[.slice Rb kk cp,.int .i64 er])/\Hid (P w'):=by
 have HC:=wP hc;clear hc;go_enter func49,ntmps49;go_wp2_with (first
  |(go_at_call 92;refine(HC.o).mono ?_;rintro e w1⟨Rb,kk,cp,er,rfl,HP⟩)
  |fail)
 go_ret2;exact⟨Rb,kk,cp,er,rfl,HP⟩
theorem fPeek_w (a:Nat)(n:Int)(hc:Calls prog 92 #[.pointer (some ⟨f,0,none⟩), .int .u64 (a:Int), .int .i64 n, .int .u8 0] w fun e w'=> ∃Rb kk cp er,e= .returned (.tuple #[.slice Rb kk cp, .int .i64 er])/\Hid (P w')):
  Calls prog 50 #[.pointer (some ⟨f,0,none⟩),.int .u64 (a:Int),.int .i64 n] w fun e w'=> ∃Rb kk cp er,e= .returned (.tuple #[.slice Rb kk cp,.int .i64 er])/\Hid (P w'):=by
 have HC:=wP hc;clear hc;go_enter func50,ntmps50;go_wp2_with (first
  |(go_at_call 92;refine(HC.o).mono ?_;rintro e w1⟨Rb,kk,cp,er,rfl,HP⟩)
  |fail)
 go_ret2;exact⟨Rb,kk,cp,er,rfl,HP⟩
variable {cq:Nat}{A:Option Addr}
theorem fStore_w (a:Nat)(hc:Calls prog 93 #[.pointer (some ⟨f,0,none⟩), .int .u64 (a:Int), .slice A m cq, .int .u8 2] w fun e w'=> ∃er,e= .returned (.int .i64 er)/\Hid (P w')):
  Calls prog 51 #[.pointer (some ⟨f,0,none⟩),.int .u64 (a:Int),.slice A m cq] w fun e w'=> ∃er,e= .returned (.int .i64 er)/\Hid (P w'):=by
 have HC:=wP hc;clear hc;go_enter func51,ntmps51;go_wp2_with (first
  |(go_at_call 93;refine(HC.o).mono ?_;rintro e w1⟨er,rfl,HP⟩)
  |fail)
 go_ret;exact⟨er,rfl,HP⟩
theorem fPoke_w (a:Nat)(hc:Calls prog 93 #[.pointer (some ⟨f,0,none⟩), .int .u64 (a:Int), .slice A m cq, .int .u8 0] w fun e w'=> ∃er,e= .returned (.int .i64 er)/\Hid (P w')):
  Calls prog 52 #[.pointer (some ⟨f,0,none⟩),.int .u64 (a:Int),.slice A m cq] w fun e w'=> ∃er,e= .returned (.int .i64 er)/\Hid (P w'):=by
 have HC:=wP hc;clear hc;go_enter func52,ntmps52;go_wp2_with (first
  |(go_at_call 93;refine(HC.o).mono ?_;rintro e w1⟨er,rfl,HP⟩)
  |fail)
 go_ret;exact⟨er,rfl,HP⟩
theorem vF (A:Option Addr)(cq m:Nat)(kd sI:Int)(r:Reg)(addr:Nat)(n:Int)(d:Nat->Nat)(h:Fls w D qd fb R cr xs)(hF:Doc w D qd F)(hD:D<=w.heap.size)(zG:xs.length<=6)(ya:FlOk xs 30000)(ym:pl w D ⟨kd,sI,r,addr,n,m,d⟩ A cq):
  Calls prog 13 #[.pointer (some ⟨fb,0,none⟩),.agg #[.int .i64 kd,.int .i64 sI,.int .u64 r.fr,.int .u64 r.to,.int .u8 r.prot,.int .i64 r.ino,.int .u64 r.off,.int .u64 (addr:Int),.int .i64 n,.slice A m cq]] w (FDid w D qd fb F R xs ⟨kd,sI,r,addr,n,m,d⟩):=by
 obtain⟨w0,xv⟩:=e_ (((w.alloc (.cells #[.int .i64 kd,.int .i64 sI,.int .u64 r.fr,.int .u64 r.to,.int .u8 r.prot,.int .i64 r.ino,.int .u64 r.off,.int .u64 (addr:Int),.int .i64 n,.slice A m cq] 47)).alloc (.cells #[.slice none 0 0,.int .i64 0] 41)).alloc (.cells #[.slice none 0 0,.int .i64 0] 41));have xz:Below w.heap.size w w0:=(by rw[xv];exact(wR.alloc s_ _).alloc t_ _);have xT:w0.heap.size=w.heap.size+3:=(by rw[xv];simp);have EA:Bx w0 w.heap.size (opV ⟨kd,sI,r,addr,n,m,d⟩ A cq):=by
  rw[xv];refine⟨?_,?_,?_⟩
  ·exact(wT _ _ _ t_).trans ((wT _ _ _ s_).trans (ab w _))
  ·have h9:=ab (w.alloc (.cells #[.int .i64 kd,.int .i64 sI,.int .u64 r.fr,.int .u64 r.to,.int .u8 r.prot,.int .i64 r.ino,.int .u64 r.off,.int .u64 (addr:Int),.int .i64 n,.slice A m cq] 47)) (.cells #[.slice none 0 0,.int .i64 0] 41);exact(wT _ _ _ s_).trans (by simpa using h9)
  ·have h9:=ab ((w.alloc (.cells #[.int .i64 kd,.int .i64 sI,.int .u64 r.fr,.int .u64 r.to,.int .u8 r.prot,.int .i64 r.ino,.int .u64 r.off,.int .u64 (addr:Int),.int .i64 n,.slice A m cq] 47)).alloc (.cells #[.slice none 0 0,.int .i64 0] 41)) (.cells #[.slice none 0 0,.int .i64 0] 41);simpa using h9
 have Ky:=h.kept xz;have e0:w0.cell? ⟨w.heap.size,0,none⟩=some (.int .i64 kd):=aa EA.op 0;have e1:w0.cell? ⟨w.heap.size,1,none⟩=some (.int .i64 sI):=aa EA.op 1;have o0:w0.cell? ⟨fb,0,none⟩=some (.pointer (some ⟨qd,0,none⟩)):=aa Ky.self 0;have o1:w0.cell? ⟨fb,1,none⟩=some (.slice R xs.length cr):=aa Ky.self 1;have Fo:=h.lt;obtain⟨xU,yd,Fv,Fc,HH,yQ,HF,Hu⟩:=zh8 xv xz EA Ky h ym hF ya;have Wg:(xs.length:Int)<=6:=o_;clear xv xz EA Ky ym h hF ya;by_cases h9:kd=9
 ·subst h9;obtain⟨y0,y1,y2,y3,y4,y5,y6,y7⟩:=Fv.o.facts;by_cases Mz:(xs.length:Int)<6
  rotate_left
  ·have OI:decide ((xs.length:Int)<6)=false:=xg Mz;go_enter func13,ntmps13;go_upto_region 2 with(fail);rw[<-xU.o];go_wp2_with fail;exact dM HH.o yd.o o_ Fv.o (.idle (by unfold gy;dsimp only;omega)) zG rfl
  ·have OI:decide ((xs.length:Int)<6)=true:=xh Mz;obtain⟨Jl,HBS⟩:=zh2 Fc.o.notRow (show∀W,Below w0.heap.size w0 W->W.cell? ⟨fb,0,none⟩=some (.pointer (some ⟨qd,0,none⟩))/\W.cell? ⟨fb,1,none⟩=some (.slice R xs.length cr)/\W.frozen? ⟨fb,1,none⟩=false from fun W hW=>⟨(hW.cell (p:=⟨fb,0,none⟩) Fc.o.lt).trans o0,(hW.cell (p:=⟨fb,1,none⟩) Fc.o.lt).trans o1,(hW.frozen (p:=⟨fb,1,none⟩) Fc.o.lt).trans (ae Fc.o.self 1)⟩);have Ci:=Fc.o.lt;go_enter func13,ntmps13;go_upto_region 2 with(fail);rw[<-xU.o];go_upto_region 4 with(fail);go_region_law (first
    |((refine mt mT (by rfl) (.tmp 23) (.tmp 29) (by rfl) D R cr xs.length (xs.map (·.f)) (by rw[List.length_map]) (by rfl) (((Fc.o.kept yW.o).row).alloc _) f w1.heap.size 1 (by rfl) (ab w1 _) o_ (by have:=yW.o.size;simp;omega) ?_;intro g6 Bi w6 Bq Cy Bw Bc;have z6:=(Cy.cell_far ⟨fb,1,none⟩ t_ Jl.o).trans ((((xp w1.heap.size w1).alloc (wS _) _).cell (p:=⟨fb,1,none⟩) DY).trans p1);have zf6:=(Cy.frozen_far ⟨fb,1,none⟩ t_ Jl.o).trans ((((xp w1.heap.size w1).alloc (wS _) _).frozen (p:=⟨fb,1,none⟩) DY).trans pz)))
    |(go_simp;go_at_call 45;refine(flat_new (D:=w0.heap.size) qd _ s_).mono ?_;rintro e w1⟨f,rfl,hf,Bn,OP⟩;(have xx:Below w0.heap.size w0 w1:=((xp w0.heap.size w0).drew).trans OP);obtain⟨p0,p1,pz⟩:=HBS.o _ xx;(have DY:fb<w1.heap.size:=wW Ci xx.size);obtain⟨yW,Nt⟩:=zh2 xx Bn;clear OP xx Bn))
   all_goals
    have Jj:=wP (Fc.o.push yW.o (xn hD yd.o.size) Nt.o Bq Cy Bw);obtain⟨w7,zu⟩:=e_ (w6.setCell ⟨fb,1,none⟩ (.slice (some ⟨g6,0,none⟩) (xs.length+1) Bi));rw[<-zu];have Cs:=Jj;rw[<-zu]at Cs;have EY:=wP (Fv.o.mod Cs.o.2.1 fun b e=> .inl (HH.o.lowB b e).2);obtain⟨y0,y1,y2,y3,y4,y5,y6,y7⟩:=EY.o.facts;clear zu Jj p1 z6 zf6 Bq Cy Bw;go_wp2_with fail
    first
     |exact eE HH.o yd.o o_ Cs.o.1 Cs.o.2.1 Cs.o.2.2 (.new _ rfl rfl rfl rfl) (by rw[wU,xc];omega) (Mod.refl (fun _ =>False) _) (fun b e=>e.elim) EY.o.res rfl
     |exact eE HH.o yd.o o_ Cs.o.1 Cs.o.2.1 Cs.o.2.2 (.new _ rfl rfl rfl rfl) (by rw[wU,xc];omega) (Mod.of (S:=fun _ =>False) ((xp _ _).drew)) (fun b e=>e.elim) (EY.o.below ((xp _ _).drew)).res rfl
 have k9:(kd==9)=false:=(by rw[xf];exact h9);have Mc:=fun dd os=>Calls.regrown_of ((lM sI xs.length o_ (grow (redrawn w0 dd) os)).mono fun e w' ⟨h1,h2⟩=>⟨h1,h2▸xp (grow (redrawn w0 dd) os).heap.size (grow (redrawn w0 dd) os)⟩);have f1: ∀dd os,(grow (redrawn w0 dd) os).cell? ⟨w.heap.size,1,none⟩=some (.int .i64 sI):=fun dd os=>cell_regrown e1 dd os;have f3: ∀dd os,(grow (redrawn w0 dd) os).cell? ⟨fb,1,none⟩=some (.slice R xs.length cr):=fun dd os=>cell_regrown o1 dd os;have Tm:=wP Mc;clear Mc;go_enter func13,ntmps13;go_upto_region 2 with(fail);rw[<-xU.o];go_upto_region 6 with(fail);refine wp_region_quiet_below k_ k_ ?_;(repeat(go_big_quiet_step ((exact Tm.o _ _))));refine wpQuiet_nil ?_;intro _ yX;obtain⟨⟨dq,osq⟩,hw''⟩:=yX;subst hw'';have xR:=below_regrown (w0) dq osq;generalize grow (redrawn (w0) dq) osq=wq at xR⊢;clear e0 e1 o0 o1 f1 f3 k9;have Wq:=Fc.o.kept xR;have UJ:=Fv.o.below xR;have xT:w.heap.size+3<=wq.heap.size:=(by have:=xR.size;omega);have XJ:Below w.heap.size w wq:=yd.o.trans (xR.mono yd.o.size);obtain⟨BI,yk,Cb⟩:=zh3 Wq UJ XJ;clear Wq UJ XJ xR;by_cases AM:xs.length=0
 ·have hn:numI sI xs.length= -1:=(by unfold numI;rw[if_pos AM]);rw[hn];obtain⟨y0,y1,y2,y3,y4,y5,y6,y7⟩:=yk.o.facts;have Tn:=wP (show¬gy ⟨kd,sI,r,addr,n,m,d⟩ xs.length from by unfold gy;dsimp only;omega);clear hn AM;go_wp2_with fail;exact dM HH.o Cb.o xT yk.o (.idle Tn.o) zG rfl
 obtain⟨k,zz,JI⟩:=uZ sI (n:=xs.length) o_;obtain⟨x,hx⟩: ∃x,xs[k]? =some x:=⟨_,wV zz⟩;have Ic:(xs.map (·.f))[k]? =some x.f:=(by rw[xj,hx];rfl);obtain⟨gR,rfl⟩: ∃g,R=some ⟨g,0,none⟩:=by
  rcases BI.o.row.form with⟨_,e,_⟩|⟨g,e,_⟩
  ·exact absurd (by have:=congrArg List.length e;simpa using this) AM
  ·exact⟨g,e⟩
 have o1:wq.cell? ⟨fb,1,none⟩=some (.slice (some ⟨gR,0,none⟩) xs.length cr):=aa BI.o.self 1;have WU:wq.cell? ⟨gR,k,none⟩=some (.pointer (some ⟨x.f,0,none⟩)):=by
  have h8:=BI.o.row.cell mT Ic 0 o_;rw[Nat.mul_one,Nat.add_zero]at h8;rw[h8];rfl
 have hcr:k<cr:=by
  rcases BI.o.row.form with⟨_,e,_⟩|⟨g,e,_,h1,h2⟩
  ·exact absurd (by have:=congrArg List.length e;simpa using this) AM
  ·rw[List.length_map]at h2;omega
 have zo:(k:Int)<(xs.length:Int):=o_;have zh: ¬((k:Int)<0):=o_;have Qk:decide ((k:Int)<0)=false:=xg zh;rw[JI];have e0:wq.cell? ⟨w.heap.size,0,none⟩=some (.int .i64 kd):=aa yk.o.op 0;obtain⟨FC,HX,HXM,HI,HO,YL⟩:=zh6 JI hx (xb hx) (BI.o.each x (xb hx)) (Hu.o x (xb hx)) (HF.o.kept (Cb.o.mono hD));have NY:D<=wq.heap.size:=o_;have yM:x.rl.length<=1000000:=(by have:=HO.o.2.1;omega);have Iu:=wP (show ap wq A m d from yQ.o.bytes.low (Cb.o.mono hD) yQ.o.low);clear JI hx Ic AM;go_upto_region 11 with(fail);clear o1 WU zh Qk zo e0;by_cases k0:kd=0
 ·subst k0;have HK:=wP ((fmap_any r HI.o YL.o yM (fun h=>by have:=HO.o.2.2 h;omega) HO.o.1 yQ.o.ok NY).mono fun e w1 h=>h.err (o:=⟨0,sI,r,addr,n,m,d⟩) (D:=D) (qd:=qd) (F:=F) HX.o FC.o (.inl rfl) fun x' h=>(.inl ⟨rfl,h⟩));have e2:wq.cell? ⟨w.heap.size,2,none⟩=some (.int .u64 r.fr):=aa yk.o.op 2;have e3:wq.cell? ⟨w.heap.size,3,none⟩=some (.int .u64 r.to):=aa yk.o.op 3;have e4:wq.cell? ⟨w.heap.size,4,none⟩=some (.int .u8 r.prot):=aa yk.o.op 4;have e5:wq.cell? ⟨w.heap.size,5,none⟩=some (.int .i64 r.ino):=aa yk.o.op 5;have e6:wq.cell? ⟨w.heap.size,6,none⟩=some (.int .u64 r.off):=aa yk.o.op 6;go_wp2_with (first
   |(go_at_call 46;refine(HK.o).mono ?_;rintro e w1⟨er,rfl,HP⟩;obtain⟨y0,y1,y2,y3,y4,y5,y6,y7⟩:=(HP.o.bx HH.o HX.o yk.o).facts)
   |fail)
  exact HP.o.leaf HH.o Cb.o xT yk.o HX.o zG (aj (S:=fun b=>b=w.heap.size+1+1) rfl 1 _) (fun b e=>e) rfl
 by_cases k1:kd=1
 ·subst k1;have HK:=wP ((th r.fr r.to HI.o yM (fun h=>by have:=HO.o.2.2 h;omega) HO.o.1 yQ.o.ok.fr0 yQ.o.ok.fr1 yQ.o.ok.to0 yQ.o.ok.to1 NY).mono fun e w1 h=>h.err (o:=⟨1,sI,r,addr,n,m,d⟩) (D:=D) (qd:=qd) (F:=F) HX.o FC.o (.inr (.inl rfl)) fun x' h=>(.inr (.inl ⟨rfl,h⟩)));have e2:wq.cell? ⟨w.heap.size,2,none⟩=some (.int .u64 r.fr):=aa yk.o.op 2;have e3:wq.cell? ⟨w.heap.size,3,none⟩=some (.int .u64 r.to):=aa yk.o.op 3;go_wp2_with (first
   |(go_at_call 47;refine(HK.o).mono ?_;rintro e w1⟨er,rfl,HP⟩;obtain⟨y0,y1,y2,y3,y4,y5,y6,y7⟩:=(HP.o.bx HH.o HX.o yk.o).facts)
   |fail)
  exact HP.o.leaf HH.o Cb.o xT yk.o HX.o zG (aj (S:=fun b=>b=w.heap.size+1+1) rfl 1 _) (fun b e=>e) rfl
 by_cases k2:kd=2
 ·subst k2;have HK:=wP ((oR r.fr r.to r.prot HI.o yM HO.o.1 yQ.o.ok.fr0 yQ.o.ok.fr1 yQ.o.ok.to0 yQ.o.ok.to1 NY).mono fun e w1 h=>h.err (o:=⟨2,sI,r,addr,n,m,d⟩) (D:=D) (qd:=qd) (F:=F) HX.o FC.o (.inr (.inr rfl)) fun x' h=>(.inr (.inr ⟨rfl,h⟩)));have e2:wq.cell? ⟨w.heap.size,2,none⟩=some (.int .u64 r.fr):=aa yk.o.op 2;have e3:wq.cell? ⟨w.heap.size,3,none⟩=some (.int .u64 r.to):=aa yk.o.op 3;have e4:wq.cell? ⟨w.heap.size,4,none⟩=some (.int .u8 r.prot):=aa yk.o.op 4;go_wp2_with (first
   |(go_at_call 48;refine(HK.o).mono ?_;rintro e w1⟨er,rfl,HP⟩;obtain⟨y0,y1,y2,y3,y4,y5,y6,y7⟩:=(HP.o.bx HH.o HX.o yk.o).facts)
   |fail)
  exact HP.o.leaf HH.o Cb.o xT yk.o HX.o zG (aj (S:=fun b=>b=w.heap.size+1+1) rfl 1 _) (fun b e=>e) rfl
 by_cases k3:kd=3
 ·subst k3;have HK:=wP (fLoad_w addr n ((oS addr n 4 HI.o YL.o yM (fun h=>(HO.o.2.2 h)) yQ.o.addr NY).mono fun e w1 h=>h.err (F:=F) (o:=⟨3,sI,r,addr,n,m,d⟩) HX.o FC.o (.inl ⟨rfl,rfl⟩)));have e7:wq.cell? ⟨w.heap.size,7,none⟩=some (.int .u64 (addr:Int)):=aa yk.o.op 7;have e8:wq.cell? ⟨w.heap.size,8,none⟩=some (.int .i64 n):=aa yk.o.op 8;go_wp2_with (first
   |(go_at_call 49;refine(HK.o).mono ?_;rintro e w1⟨Rb,kk,cp,er,rfl,HP⟩;obtain⟨y0,y1,y2,y3,y4,y5,y6,y7⟩:=(HP.o.bx HH.o HX.o yk.o).facts)
   |fail)
  exact HP.o.leaf HH.o Cb.o xT yk.o HX.o zG ((aj (S:=fun b=>b=w.heap.size+1+1) rfl 0 _).trans (Out.refl _ _) (aj (S:=fun b=>b=w.heap.size+1+1) rfl 1 _)) (fun b e=>e) rfl
 by_cases k5:kd=5
 ·subst k5;have HK:=wP (fPeek_w addr n ((oS addr n 0 HI.o YL.o yM (fun h=>(HO.o.2.2 h)) yQ.o.addr NY).mono fun e w1 h=>h.err (F:=F) (o:=⟨5,sI,r,addr,n,m,d⟩) HX.o FC.o (.inr ⟨rfl,rfl⟩)));have e7:wq.cell? ⟨w.heap.size,7,none⟩=some (.int .u64 (addr:Int)):=aa yk.o.op 7;have e8:wq.cell? ⟨w.heap.size,8,none⟩=some (.int .i64 n):=aa yk.o.op 8;go_wp2_with (first
   |(go_at_call 50;refine(HK.o).mono ?_;rintro e w1⟨Rb,kk,cp,er,rfl,HP⟩;obtain⟨y0,y1,y2,y3,y4,y5,y6,y7⟩:=(HP.o.bx HH.o HX.o yk.o).facts)
   |fail)
  exact HP.o.leaf HH.o Cb.o xT yk.o HX.o zG ((aj (S:=fun b=>b=w.heap.size+1+1) rfl 0 _).trans (Out.refl _ _) (aj (S:=fun b=>b=w.heap.size+1+1) rfl 1 _)) (fun b e=>e) rfl
 by_cases k4:kd=4
 ·subst k4;have HK:=wP (fStore_w addr ((lT addr m cq 2 A d HI.o YL.o yM (fun h=>(HO.o.2.2 h)) yQ.o.addr NY (by have:=yQ.o.q;dsimp only at this;omega) Iu.o yQ.o.low).mono fun e w1 h=>h.err (F:=F) (o:=⟨4,sI,r,addr,n,m,d⟩) HX.o FC.o (.inl ⟨rfl,rfl⟩)));have e7:wq.cell? ⟨w.heap.size,7,none⟩=some (.int .u64 (addr:Int)):=aa yk.o.op 7;have e9:wq.cell? ⟨w.heap.size,9,none⟩=some (.slice A m cq):=aa yk.o.op 9;go_wp2_with (first
   |(go_at_call 51;refine(HK.o).mono ?_;rintro e w1⟨er,rfl,HP⟩;obtain⟨y0,y1,y2,y3,y4,y5,y6,y7⟩:=(HP.o.bx HH.o HX.o yk.o).facts)
   |fail)
  exact HP.o.leaf HH.o Cb.o xT yk.o HX.o zG (aj (S:=fun b=>b=w.heap.size+1+1) rfl 1 _) (fun b e=>e) rfl
 by_cases k6:kd=6
 ·subst k6;have HK:=wP (fPoke_w addr ((lT addr m cq 0 A d HI.o YL.o yM (fun h=>(HO.o.2.2 h)) yQ.o.addr NY (by have:=yQ.o.q;dsimp only at this;omega) Iu.o yQ.o.low).mono fun e w1 h=>h.err (F:=F) (o:=⟨6,sI,r,addr,n,m,d⟩) HX.o FC.o (.inr ⟨rfl,rfl⟩)));have e7:wq.cell? ⟨w.heap.size,7,none⟩=some (.int .u64 (addr:Int)):=aa yk.o.op 7;have e9:wq.cell? ⟨w.heap.size,9,none⟩=some (.slice A m cq):=aa yk.o.op 9;go_wp2_with (first
   |(go_at_call 52;refine(HK.o).mono ?_;rintro e w1⟨er,rfl,HP⟩;obtain⟨y0,y1,y2,y3,y4,y5,y6,y7⟩:=(HP.o.bx HH.o HX.o yk.o).facts)
   |fail)
  exact HP.o.leaf HH.o Cb.o xT yk.o HX.o zG (aj (S:=fun b=>b=w.heap.size+1+1) rfl 1 _) (fun b e=>e) rfl
 by_cases k7:kd=7
 ·subst k7;have o1:wq.cell? ⟨fb,1,none⟩=some (.slice (some ⟨gR,0,none⟩) xs.length cr):=aa BI.o.self 1;by_cases Mz:(xs.length:Int)<6
  rotate_left
  ·have OI:decide ((xs.length:Int)<6)=false:=xg Mz;obtain⟨y0,y1,y2,y3,y4,y5,y6,y7⟩:=yk.o.facts;go_wp2_with fail;exact dM HH.o Cb.o xT yk.o (.idle (by unfold gy;dsimp only;omega)) zG rfl
  have OI:decide ((xs.length:Int)<6)=true:=xh Mz;have HK:=wP (vD HI.o yM (fun h=>by have:=HO.o.2.2 h;omega) NY);go_upto_region 28 with(first
   |(go_at_call 53;refine(HK.o).mono ?_;rintro e w1 (⟨hg,rfl,rfl⟩|⟨hg,x2,rfl,Bn,yE,Vv,Xf,xx⟩))
   |fail)
  ·obtain⟨y0,y1,y2,y3,y4,y5,y6,y7⟩:=yk.o.facts;have HG:=wP hg;clear hg;go_wp2_with fail;exact dM HH.o Cb.o xT yk.o (.at_ k x _ (by dsimp only;omega) FC.o HX.o (.forkNo rfl HG.o)) zG rfl
  have p1:w1.cell? ⟨fb,1,none⟩=some (.slice (some ⟨gR,0,none⟩) xs.length cr):=(xx.cell (p:=⟨fb,1,none⟩) BI.o.lt).trans o1;have DY:fb<w1.heap.size:=wW BI.o.lt xx.size;have hD1:D<=w1.heap.size:=xn NY xx.size;obtain⟨Nh,Jl⟩:=zh2 ((BI.o.kept xx).row) BI.o.notRow;have ZY:w1.frozen? ⟨fb,1,none⟩=false:=ae (BI.o.kept xx).self 1;obtain⟨Nt,yW,HD⟩:=zh3 Bn xx (show DoF F xs ⟨7,sI,r,addr,n,m,d⟩ (xs++[x2])from .at_ k x _ (by dsimp only;omega) FC.o HX.o (.fork x2 rfl hg yE Vv Xf));clear hg Bn yE Vv Xf xx o1;go_upto_region 30 with(first
   |(at_builtin;refine jj mT rfl (.tmp 149) (.tmp 151) rfl D (some ⟨gR,0,none⟩) cr xs.length (xs.map (·.f)) (by rw[List.length_map]) rfl (Nh.o.alloc _) x2.f w1.heap.size 1 rfl (ab _ _) o_ t_ ?_;intro g6 Bi w6 Bq Cy Bw Bc;have Jj:=wP (BI.o.push yW.o NY Nt.o Bq Cy Bw);have z6:=(Cy.cell_far ⟨fb,1,none⟩ t_ Jl.o).trans ((((xp w1.heap.size w1).alloc (wS _) _).cell (p:=⟨fb,1,none⟩) DY).trans p1);have zf6:=(Cy.frozen_far ⟨fb,1,none⟩ t_ Jl.o).trans ((((xp w1.heap.size w1).alloc (wS _) _).frozen (p:=⟨fb,1,none⟩) DY).trans ZY);clear Bq Cy Bw)
   |fail)
  obtain⟨w7,zu⟩:=e_ (w6.setCell ⟨fb,1,none⟩ (.slice (some ⟨g6,0,none⟩) (xs.length+1) Bi));rw[<-zu];have Cs:=Jj;rw[<-zu]at Cs;have EY:=wP (yk.o.mod Cs.o.2.1 fun b e=> .inl (HH.o.lowB b e).2);obtain⟨y0,y1,y2,y3,y4,y5,y6,y7⟩:=EY.o.facts;clear zu Jj p1 z6 zf6;go_wp2_with fail;exact eE HH.o Cb.o xT Cs.o.1 Cs.o.2.1 Cs.o.2.2 HD.o (by rw[wU,xc];omega) (Mod.refl (fun _ =>False) _) (fun b e=>e.elim) EY.o.res rfl
 by_cases k8:kd=8
 ·subst k8;have HK:=wP (vC HI.o);go_wp2_with (first
   |(go_at_call 54;refine(HK.o).mono ?_;rintro e w1⟨rfl,hn⟩;have HP:=wP (show FErr wq D qd F xs ⟨8,sI,r,addr,n,m,d⟩ k x w1 from⟨_,hn,.at_ k x _ (by dsimp only;omega) FC.o HX.o (.free _ rfl rfl rfl)⟩);clear hn;obtain⟨y0,y1,y2,y3,y4,y5,y6,y7⟩:=(HP.o.bx HH.o HX.o yk.o).facts)
   |fail)
  exact HP.o.leaf HH.o Cb.o xT yk.o HX.o zG (Mod.refl (fun _ =>False) _) (fun b e=>e.elim) rfl
 have b0:(kd==0)=false:=(by rw[xf];exact k0);have b1:(kd==1)=false:=(by rw[xf];exact k1);have b2:(kd==2)=false:=(by rw[xf];exact k2);have b3:(kd==3)=false:=(by rw[xf];exact k3);have b4:(kd==4)=false:=(by rw[xf];exact k4);have b5:(kd==5)=false:=(by rw[xf];exact k5);have b6:(kd==6)=false:=(by rw[xf];exact k6);have b7:(kd==7)=false:=(by rw[xf];exact k7);have b8:(kd==8)=false:=(by rw[xf];exact k8);have Tn:=wP (show¬gy ⟨kd,sI,r,addr,n,m,d⟩ xs.length from by unfold gy;dsimp only;omega);clear k0 k1 k2 k3 k4 k5 k6 k7 k8 h9;obtain⟨y0,y1,y2,y3,y4,y5,y6,y7⟩:=yk.o.facts;go_wp2_with fail;exact dM HH.o Cb.o xT yk.o (.idle Tn.o) zG rfl
end
section
open Go.RowKit Go.Sort
variable {w w' w2 wr:World}{hb B c a fs m D E qd fb cr crf nf j:Nat}{S S':Nat->Prop}{F:List Nd}{clock xr:Int}{p p':Pool}{L L':List Slot}{l l':List SpM}{xs xs':List FlM}{R R' Rf Rf':Option Addr}{o:O11}{ls:List Nat}
structure DocE (w:World)(E D q:Nat)(F:List Nd):Prop where
 ex: ∃base R cap L,dx w base q R cap L F/\(∀b,R=some ⟨b,0,none⟩->b<D)/\(∀r∈L,∀y,r.A=some y->y.block<D)/\E<=base
 q:q<D
 few:F.length<=1000
 le:D<=w.heap.size
theorem DocE.doc (h:DocE w E D qd F):Doc w D qd F:=by
 obtain⟨⟨base,R,cap,L,h1,h2,h3,_⟩,hq,hf,_⟩:=h;exact⟨⟨base,R,cap,L,h1,h2,h3⟩,hq,hf⟩
theorem DocE.mod {G:Nat->Prop}(h:DocE w E D qd F)(hm:Mod G w w')(hG: ∀b,E<=b->b<D-> ¬G b):DocE w' E D qd F:=by
 obtain⟨⟨base,R,cap,L,h1,h2,h3,h4⟩,hq,hf,hl⟩:=h;have key: ∀b,base<=b->b<D->w'.heap[b]? =w.heap[b]? :=fun b xu xx=>hm.block b o_ (hG b o_ xx);exact⟨⟨base,R,cap,L,⟨h1.map,(key qd h1.low hq).trans h1.self,h1.row.same fun g e=>key g (h1.row.lt g e).1 (h2 g e),fun r hr=>by
  obtain⟨b1,b2,b3,b4⟩:=h1.bytes r hr;refine⟨b1.run hm fun ad e=>⟨wW (h3 r hr ad e) hl,hG _ (xn h4 (h1.blow r hr ad e)) (h3 r hr ad e)⟩,fun y hy=>?_,b3,b4⟩;obtain⟨g,cs,f,e,hg⟩:=b2 y hy;have h5:=h3 r hr y hy;have h6:=h1.blow r hr y hy;rw[e]at h5 h6;exact⟨g,cs,f,e,(key g h6 h5).trans hg⟩,h1.low,h1.ne,h1.blow⟩,h2,h3,h4⟩,hq,hf,xn hl hm.size⟩
variable {b:Nat}
theorem dR.noF (h:dR S B c m hb R l b): ¬houF S c m hb R l b:=fun e=>by
 rcases e with e|e|e|⟨k,x,hk,e⟩
 ·exact h.1 e
 ·exact h.2.2.1 e
 ·exact h.2.2.2.1 e
 ·have:=h.2.2.2.2 k x hk;exact e.elim this.1 this.2.1
theorem dR.next (h:dR S B c m hb R l b)(ho:Out (houF S c m hb R l) (houF S' c m hb R' l') w)(hn:cI w l l')(xx:b<w.heap.size):dR S' B c m hb R' l' b:=by
 have xL: ¬houF S' c m hb R' l' b:=fun e=>(ho b e).elim h.noF (fun e=>o_);refine⟨fun e=>xL (.inl e),h.2.1,h.2.2.1,fun e=>xL (.inr (.inr (.inl e))),fun k y hy=>⟨fun e=>xL (.inr (.inr (.inr ⟨k,y,hy,.inl e⟩))),fun e=>xL (.inr (.inr (.inr ⟨k,y,hy,.inr e⟩))),fun ad e e2=>?_⟩⟩;rcases hn k y hy with⟨i,x,h1,_,_,h2⟩|⟨_,_,h2⟩
 ·rcases h2 ad e with h3|h3
  ·exact(h.2.2.2.2 i x h1).2.2 ad h3 e2
  ·omega
 ·have:=h2 ad e;omega
theorem Hou.fresh {wq:World}(h:Hou w hb B c a fs m S F clock p L l R cr ls)(hz:w.heap.size<=wq.heap.size)(h2:w.heap.size<=b)(h3:b<wq.heap.size):dR S B c m hb R l b:=h.mine hz (Out.refl S wq) (cI.refl wq l) h2 h3
structure EnF (w:World)(hb B c a fs m E D qd fb:Nat)(F:List Nd)(S:Nat->Prop)(clock:Int)(p:Pool)(L:List Slot)(l:List SpM)(R:Option Addr)(cr:Nat)(Rf:Option Addr)(crf:Nat)(xs:List FlM):Prop where
 hou:Hou w hb B c a fs m S F clock p L l R cr (l.map (·.s))
 six:l.length<=6
 fls:Fls w D qd fb Rf crf xs
 doc:DocE w E D qd F
 six2:xs.length<=6
 apart: ∀b,FlsF fb Rf xs b->dR S B c m hb R l b
 docs: ∀b,E<=b->b<D->dR S B c m hb R l b
theorem EnF.below (h:EnF w hb B c a fs m E D qd fb F S clock p L l R cr Rf crf xs)(xx:Below w.heap.size w w'):EnF w' hb B c a fs m E D qd fb F S clock p L l R cr Rf crf xs:=
 ⟨h.hou.below xx,h.six,h.fls.kept xx,h.doc.mod (G:=fun _ =>False) (Mod.of xx) (fun _ _ _ e=>e),h.six2,h.apart,h.docs⟩
theorem EnF.base (h:EnF w hb B c a fs m E D qd fb F S clock p L l R cr Rf crf xs)(XK:B<=D){G:Nat->Prop}(hm:Mod (FlsF fb Rf xs) w w'):Below B w w':=(hm.below (fun b e=>(h.fls.lowB b e).1) h.doc.le).mono XK
variable {crf':Nat}
theorem EnF.flats (h:EnF w hb B c a fs m E D qd fb F S clock p L l R cr Rf crf xs)(hf:Fls w' D qd fb Rf' crf' xs')(h6:xs'.length<=6)(hm:Mod (FlsF fb Rf xs) w w')(ho:Out (FlsF fb Rf xs) (FlsF fb Rf' xs') w):EnF w' hb B c a fs m E D qd fb F S clock p L l R cr Rf' crf' xs':=
 ⟨h.hou.aside hm h.apart,h.six,hf,h.doc.mod hm fun b h1 h2 e=>by have:=(h.fls.lowB b e).1;omega,h6,fun b e=>(ho b e).elim (h.apart b) fun e2=>h.hou.fresh hm.size e2 (hf.lowB b e).2,h.docs⟩
theorem EnF.house {cr':Nat}(h:EnF w hb B c a fs m E D qd fb F S clock p L l R cr Rf crf xs)(hh:Hou w' hb B c a fs m S' F xr p' L' l' R' cr' (l'.map (·.s)))(h6:l'.length<=6)(hm:Mod (houF S c m hb R l) w w')(ho:Out (houF S c m hb R l) (houF S' c m hb R' l') w)(hn:cI w l l'):EnF w' hb B c a fs m E D qd fb F S' xr p' L' l' R' cr' Rf crf xs:=
 ⟨hh,h6,h.fls.far fun b e=>hm.block b (h.fls.lowB b e).2 (h.apart b e).noF,h.doc.mod hm fun b h1 h2=>(h.docs b h1 h2).noF,h.six2,fun b e=>(h.apart b e).next ho hn (h.fls.lowB b e).2,fun b h1 h2=>(h.docs b h1 h2).next ho hn (wW h2 h.doc.le)⟩
theorem rq: ∀ {xs:List FlM} {x:FlM},x∈xs->dW x<=dh xs
 |y::ys,x,h=>by
  show _ <=dW y+dh ys;rcases List.mem_cons.1 h with rfl|h
  ·omega
  ·have:=rq h;omega
theorem FlOk.less {n:Nat}(h:FlOk xs n)(hn:dh xs<=30000):FlOk xs 30000:=fun x hx=>⟨(h x hx).1,(h x hx).2.1,fun e=>by
 have h1:=rq hx;unfold dW sP at h1;rw[e,if_neg d_]at h1;omega⟩
theorem oB: ∀ {xs:List FlM},FlOk xs 100000->dh xs<=400001*xs.length
 | [],_ =>xm _
 |x::xs,h=>by
  have h1:=oB (xs:=xs) fun y hy=>h y (xk _ hy);have h2:=h x (xl ..);have h3:dW x<=400001:=by
   unfold dW;split
   ·omega
   ·rename_i hg;have h4:=h2.2.2 (by cases hx:x.gone with|false=>rfl|true=>exact absurd hx hg);unfold sP;have h5:br (aB x.ps) (3*x.ps.length)<=3*x.ps.length:=jT _ _;omega
  show dW x+dh xs<=400001*(xs.length+1);omega
theorem sQ {k:Nat}{x:FlM}(hk:xs[k]? =some x):dh (xs.take (k+1))=dh (xs.take k)+dW x:=by
 rw[List.take_add_one,hk];exact gh _ _
def EnAt (w2:World)(hb B c a fs m E D qd fb:Nat)(F:List Nd)(nf j:Nat)(w:World):Prop:=
 ∃S clock p L l R cr Rf crf xs,EnF w hb B c a fs m E D qd fb F S clock p L l R cr Rf crf xs/\fv l xs/\FlOk xs 30000/\0<=clock/\clock<=32*(j:Int)/\p.n=nf/\Below B w2 w
def EnMid (w2:World)(hb B c a fs m E D qd fb:Nat)(F:List Nd)(nf j:Nat)(o:O11)(xs':List FlM)(Rf':Option Addr)(crf':Nat)(w:World):Prop:=
 ∃S clock p L l R cr xs,EnF w hb B c a fs m E D qd fb F S clock p L l R cr Rf' crf' xs'/\fv l xs/\DoF F xs o xs'/\FlOk xs' 100000/\0<=clock/\clock<=32*(j:Int)/\p.n=nf/\Below B w2 w
variable {q cq addr:Nat}{A:Option Addr}{kd sI n:Int}{r:Reg}{d:Nat->Nat}
theorem EnAt.does (h:EnAt w2 hb B c a fs m E D qd fb F nf j w)(XK:B<=D)(ym:pl w D ⟨kd,sI,r,addr,n,q,d⟩ A cq):
  Calls prog 13 #[.pointer (some ⟨fb,0,none⟩),.agg #[.int .i64 kd,.int .i64 sI,.int .u64 r.fr,.int .u64 r.to,.int .u8 r.prot,.int .i64 r.ino,.int .u64 r.off,.int .u64 (addr:Int),.int .i64 n,.slice A q cq]] w fun e w'=> ∃v xs' Rf' crf',e= .returned v/\Hid (EnMid w2 hb B c a fs m E D qd fb F nf j ⟨kd,sI,r,addr,n,q,d⟩ xs' Rf' crf' w')/\Hid (Below B w w'):=by
 obtain⟨S,clock,p,L,l,R,cr,Rf,crf,xs,h1,h2,h3,h4,h5,h6,h7⟩:=h;refine(vF A cq q kd sI r addr n d h1.fls h1.doc.doc h1.doc.le h1.six2 h3 ym).mono ?_;rintro e w'⟨v,Rf',crf',xs',rfl,g1,g2,g3,g4,g5⟩;have Cz:=h1.base XK (G:=fun _ =>False) g4;exact⟨v,xs',Rf',crf',rfl,wP ⟨S,clock,p,L,l,R,cr,xs,h1.flats g1 g3 g4 g5,h2,g2,g2.ok h3 ym.ok,h4,h5,h6,h7.trans Cz⟩,wP Cz⟩
theorem EnMid.does (h:EnMid w2 hb B c a fs m E D qd fb F nf j ⟨kd,sI,r,addr,n,q,d⟩ xs' Rf' crf' w)(hj:j<=1000)(NL:nf<=1024)(hneed:dh xs'+4<=nf)(ym:pl w B ⟨kd,sI,r,addr,n,q,d⟩ A cq):
  Calls prog 15 #[.pointer (some ⟨hb,0,none⟩),.agg #[.int .i64 kd,.int .i64 sI,.int .u64 r.fr,.int .u64 r.to,.int .u8 r.prot,.int .i64 r.ino,.int .u64 r.off,.int .u64 (addr:Int),.int .i64 n,.slice A q cq]] w fun e w'=> ∃(Rb:Option Addr) (kk cp:Nat) (er:Int),e= .returned (.tuple #[.agg #[.slice Rb kk cp,.int .i64 er],.bool true])/\er≠4/\Hid (EnAt w2 hb B c a fs m E D qd fb F nf (j+1) w'):=by
 obtain⟨S,clock,p,L,l,R,cr,xs,h1,h2,h3,h4,h5,h6,h7,h8⟩:=h;refine(tz hb B c a fs m S F clock p L l R A cr cq kd sI r addr q n d w h1.hou h1.six ⟨h5,o_⟩ ym).mono ?_;rintro e w'⟨Rb,kk,cp,er,xr,S',p',L',l',R',cr',rfl,g1,g2,g3,g4,g5,g6,g7,g8⟩;obtain⟨CY,Cx⟩:=h2.step h1.hou.hse h3 g7 g2 h1.six2;have xA:er≠4:=fun e=>by have:=CY e;omega
 exact⟨Rb,kk,cp,er,rfl,xA,wP ⟨S',xr,p',L',l',R',cr',Rf',crf',xs',h1.house g1 g2 g5 g6 g8,Cx xA,h4.less o_,o_,o_,(g7.n h1.hou.hse).trans h7,h8.trans (g5.below h1.hou.lowF h1.hou.hse.home.base)⟩⟩
theorem EnAt.below (h:EnAt w2 hb B c a fs m E D qd fb F nf j w)(xx:Below w.heap.size w w'):EnAt w2 hb B c a fs m E D qd fb F nf j w':=by
 obtain⟨S,clock,p,L,l,R,cr,Rf,crf,xs,h1,h2,h3,h4,h5,h6,h7⟩:=h;exact⟨S,clock,p,L,l,R,cr,Rf,crf,xs,h1.below xx,h2,h3,h4,h5,h6,h7.trans (xx.mono h1.hou.hse.home.base)⟩
end
section
open Go.RowKit Go.Sort
theorem qi {w2 w3:World}{hb B c a fs m qd nf nl cap:Nat}{S:Nat->Prop}{F:List Nd}{p:Pool}{R:Option Addr}{Ld:List NdR}(h:Hou w2 hb B c a fs m S F 0 p [] [] none 0 (([]:List SpM).map (·.s)))(hd:dx w3 w2.heap.size qd R cap Ld F)(xE:Below w2.heap.size w2 w3)(hF:F.length<=1000)(hp:p.n=nf):
  EnAt w2 hb B c a fs m w2.heap.size w3.heap.size qd w3.heap.size F nf 0 (w3.alloc (.cells #[.pointer (some ⟨qd,0,none⟩),.slice none 0 0] 38)):=by
 have h3:=h.below xE;have yG:Below w3.heap.size w3 (w3.alloc (.cells #[.pointer (some ⟨qd,0,none⟩),.slice none 0 0] 38)):=wR;have hd4:=hd.kept yG;have hq:qd<w3.heap.size:=(wO hd.self).1;have hN: ∀b,w2.heap.size<=b->b<w3.heap.size+1->dR S B c m hb none [] b:=fun b h1 h2=>h.fresh (wq:=w3.alloc (.cells #[.pointer (some ⟨qd,0,none⟩),.slice none 0 0] 38)) (by have:=xE.size;simp;omega) h1 t_;refine⟨S,0,p,[],[],none,0,none,0,[],⟨h3.below yG,s_,⟨ab w3 _,wS _,OwnG.nil _ _,fun x hx=>(by cases hx),fun j k x y hj=>(by cases hj)⟩,⟨⟨w2.heap.size,R,cap,Ld,hd4,fun b e=>(hd.row.lt b e).2,fun r hr y hy=>?_,wS _⟩,hq,hF,s_⟩,s_,fun b e=>?_,fun b h1 h2=>hN b h1 o_⟩,⟨rfl,fun k y x hk=>(by cases hk)⟩,fun x hx=>(by cases hx),Int.le_refl _,Int.le_refl _,hp,(xE.mono h.hse.home.base).trans (yG.mono (xn h.hse.home.base xE.size))⟩
 ·obtain⟨_,b2,_⟩:=hd.bytes r hr;obtain⟨g,cs,f,e,hg⟩:=b2 y hy;rw[e];exact(wO hg).1
 ·rcases e with rfl|e|⟨x,hx,_⟩
  ·exact hN _ xE.size o_
  ·cases e
  ·cases hx
theorem tM.all {w:World}{Q:Option Addr}{ops:List O11}{j:Nat}{o:O11}(h:tM w Q ops)(ho:ops[j]? =some o): ∃b off A cq,Q=some ⟨b,off,none⟩/\ ∀w',Below w.heap.size w w'->
  (w'.cell? ⟨b,off+j*10,none⟩=some (.int .i64 o.kd)/\w'.cell? ⟨b,off+j*10+1,none⟩=some (.int .i64 o.sI)/\w'.cell? ⟨b,off+j*10+2,none⟩=some (.int .u64 o.r.fr)/\w'.cell? ⟨b,off+j*10+3,none⟩=some (.int .u64 o.r.to)/\w'.cell? ⟨b,off+j*10+4,none⟩=some (.int .u8 o.r.prot)/\w'.cell? ⟨b,off+j*10+5,none⟩=some (.int .i64 o.r.ino)/\w'.cell? ⟨b,off+j*10+6,none⟩=some (.int .u64 o.r.off)/\w'.cell? ⟨b,off+j*10+7,none⟩=some (.int .u64 (o.addr:Int))/\w'.cell? ⟨b,off+j*10+8,none⟩=some (.int .i64 o.n)/\w'.cell? ⟨b,off+j*10+9,none⟩=some (.slice A o.q cq))/\ ∀B,w.heap.size<=B->pl w' B o A cq:=by
 obtain⟨b,off,A,cq,rfl,Cz,Aq,g4,g5,g6,g7,g8,g9⟩:=h j o ho;refine⟨b,off,A,cq,rfl,fun w' hb=>?_⟩;have k: ∀i v,(opV o A cq)[i]? =some v->w'.cell? ⟨b,off+j*10+i,none⟩=some v:=fun i v e=>(hb.cell (p:=⟨b,off+j*10+i,none⟩) Cz).trans (Aq i v e);exact⟨⟨k 0 _ rfl,k 1 _ rfl,k 2 _ rfl,k 3 _ rfl,k 4 _ rfl,k 5 _ rfl,k 6 _ rfl,k 7 _ rfl,k 8 _ rfl,k 9 _ rfl⟩,fun B hB=>pl.of hB hb g4 g5 g6 g7 g8 g9⟩
theorem oW (P Q:Option Addr)(n cap k AR:Nat)(N:Int)(w:World)(hF:jG w P n cap)(hO:lA w Q k AR)(BD:DB w)(xv:0<w.heap.size):
  Calls prog 3 #[.agg #[.slice P n cap,.int .i64 N],.slice Q k AR] w (wF w):=by
 obtain⟨w0,Fh⟩:=e_ (w.alloc (.cells #[.slice P n cap,.int .i64 N] 24));have xz:Below w.heap.size w w0:=(by rw[Fh];exact wR);have hE:w0.heap[w.heap.size]? =some (.cells #[.slice P n cap,.int .i64 N] 24 (0,0)):=(by rw[Fh];exact ab w _);have xT:=xz.size;have l0:w.heap.size<w0.heap.size:=(wO hE).1;have x0:w0.cell? ⟨w.heap.size,0,none⟩=some (.slice P n cap):=aa hE 0;have x1:w0.cell? ⟨w.heap.size,1,none⟩=some (.int .i64 N):=aa hE 1;obtain⟨HV,ZP,HE,SY,Oc,yd,HO⟩:=zh7 (tT P n cap k AR Q N w0 (hF.below xz) (hO.below xz)) (fun W (hW:Below w.heap.size w W)=>pw W (BD.same (hW.block 0 xv)) (wW xv hW.size)) hE Fh BD xz hO;clear hE Fh BD xz hF hO;go_enter func3,ntmps3;go_upto_region 1 with(fail);rw[<-SY.o];go_upto_region 3 with(first
  |(go_at_call 9;refine(HV.o).mono ?_;rintro e w1⟨bv,rfl,KD,xu⟩;obtain⟨xI,Lp,HB01⟩:=zh3 (yd.o.trans (xu.mono xT)) ((xu.block _ l0).trans HE.o) xu;clear xu)
  |(go_at_call 10;refine(ZP.o _ xI.o).mono ?_;rintro e w2⟨rfl,xx⟩)
  |fail)
 ·go_ret;exact⟨rfl,xI.o.trans (xx.mono xI.o.size)⟩
 have Sq:bv=false:=(by assumption);obtain⟨hk80,hN,l,ym⟩:=KD Sq;have xQ:=xI.o.size;have l1:w.heap.size<w1.heap.size:=(wO Lp.o).1;have y0:w1.cell? ⟨w.heap.size,0,none⟩=some (.slice P n cap):=aa Lp.o 0;have y1:w1.cell? ⟨w.heap.size,1,none⟩=some (.int .i64 N):=aa Lp.o 1;obtain⟨ops,RB,Km⟩:=HO.o.2 o_;obtain⟨Tk,HOL,HIN0⟩:=zh3 Km RB ym;clear KD Sq ym Km RB x0 x1;have yQ:=wP (HIN0.o.below HB01.o);have OH:DB w1:=Oc.o.same (xI.o.block 0 xv);have h01:0<w1.heap.size:=o_;by_cases Ah:(newM [aD] 0 l).1≠0\/N<1
 ·have HBG:=wP (vW P n cap N l w1 yQ.o hN Ah OH h01);clear Ah OH;go_wp2_with (first
   |(go_at_call 11;refine(HBG.o).mono ?_;rintro e w2⟨rfl,xx⟩;have yW:=wP (xI.o.trans (xx.mono xQ));clear xx)
   |(go_at_call 10;refine(ZP.o _ yW.o).mono ?_;rintro e w3⟨rfl,xE⟩)
   |fail)
  go_ret;exact⟨rfl,yW.o.trans (xE.mono yW.o.size)⟩
 obtain⟨nf,rfl⟩: ∃nf:Nat,N=(nf:Int):=⟨N.toNat,o_⟩;have xP: ¬(newM [aD] 0 l).1≠0:=fun h=>Ah (.inl h);obtain⟨HBG,YG⟩:=zh2 (tG P n cap nf l w1 yQ.o o_ o_ (xe xP) OH h01) xP;clear Ah OH xP;go_upto_region 6 with(first
  |(go_at_call 11;refine(HBG.o).mono ?_;rintro e w2⟨B,hb,a,c,fs,m,S,rfl,zj,hse,xx,hB,hBo,hoS,hom,hoc⟩;obtain⟨yW,HE2,HB12⟩:=zh3 (xI.o.trans (xx.mono xQ)) ((xx.block _ l1).trans Lp.o) xx;clear xx)
  |fail)
 have RT:Hou w2 hb B c a fs m S (dn l) 0 (fresh nf) [] [] none 0 (([]:List SpM).map (·.s)):=Hou.start hse zj hBo hoS hom hoc;have DK:w.heap.size<=B:=o_;have hBw2:=RT.hse.home.base;obtain⟨HHOU,ZV⟩:=zh2 RT (qk (l:=l) (by have:=yQ.o.len;have:=yQ.o.few;omega));have l2:w.heap.size<w2.heap.size:=(wO HE2.o).1;have Js:=wP (yQ.o.below HB12.o);have Uu:=wP (mx P n cap l w2 Js.o.ents Js.o.len Js.o.cap (by have:=Js.o.few;omega) Js.o.small);have u0:w2.cell? ⟨w.heap.size,0,none⟩=some (.slice P n cap):=aa HE2.o 0;clear zj hse RT hoS hom hoc y0 y1;go_upto_region 7 with(first
  |(go_at_call 12;refine(Uu.o).mono ?_;rintro e w3⟨LM,xE⟩;rw[if_neg (by have:=Js.o.len;have:=Js.o.few;omega),if_neg YG.o]at LM;obtain⟨qd,Rd,cd,Ld,rfl,KC⟩:=LM;obtain⟨yZ,HDF⟩:=zh2 xE KC;clear xE KC)
  |fail)
 have TG:Hid (EnAt w2 hb B c a fs m w2.heap.size w3.heap.size qd w3.heap.size (dn l) nf 0 (w3.alloc (.cells #[.pointer (some ⟨qd,0,none⟩),.slice none 0 0] 38))):=wP (qi (nl:=0) HHOU.o HDF.o yZ.o ZV.o rfl);obtain⟨w4,zV⟩:=e_ (w3.alloc (.cells #[.pointer (some ⟨qd,0,none⟩),.slice none 0 0] 38));have Xa:Below w3.heap.size w3 w4:=(by rw[zV];exact wR);have XV:=wP zV;rw[<-zV]at TG;obtain⟨Ax,HE4⟩:=zh2 (show Below w.heap.size w w4 from yW.o.trans ((yZ.o.trans (Xa.mono yZ.o.size)).mono o_)) (show∀W,Below B w2 W->W.cell? ⟨w.heap.size,1,none⟩=some (.int .i64 (nf:Int))from fun W hW=>(hW.cell (p:=⟨w.heap.size,1,none⟩) (by dsimp only;omega)).trans (aa HE2.o 1));have XK:B<=w3.heap.size:=xn hBw2 yZ.o.size;clear Xa zV u0;go_upto_region 8 with(fail);rw[<-XV.o];go_wp2_with fail;go_loopw [11] (fun i wr=> ∃j:Nat,i= .int .i64 (j:Int)/\j<=k/\EnAt w2 hb B c a fs m w2.heap.size w3.heap.size qd w3.heap.size (dn l) nf j wr) (fun i _ =>k-(intOf i).toNat)
 case atStart=>exact⟨0,rfl,xm _,TG.o⟩
 case round=>
  obtain⟨j,rfl,hj,yr⟩:=hrel;have BF:Below w.heap.size w wr:=yW.o.trans ((by obtain⟨_,_,_,_,_,_,_,_,_,_,_,_,_,_,_,_,Gq⟩:=yr;exact Gq:Below B w2 wr).mono DK);have Gx:=wP BF;clear TG;by_cases CR:j<k
  ·obtain⟨o,ho⟩: ∃o,ops[j]? =some o:=⟨_,wV (by rw[HOL.o];exact CR)⟩;obtain⟨b,off,Ao,co,rfl,yb⟩:=Tk.o.all ho;obtain⟨kd2,sI2,r2,addr2,n2,q2,d2⟩:=o;obtain⟨⟨e0,e1,e2,e3,e4,e5,e6,e7,e8,e9⟩,Dx⟩:=yb wr BF;have hdo:=yr.does XK (Dx w3.heap.size o_);obtain⟨HDO,KS⟩:=zh2 hdo yb;have zz:(j:Int)<(k:Int):=o_;clear hdo Dx BF yr ho yb;go_upto_region 13 with(first
    |(go_at_call 13;refine(HDO.o).mono ?_;rintro e w5⟨v,xs',Rf',crf',rfl,Eu,CH⟩)
    |fail)
   clear e0 e1 e2 e3 e4 e5 e6 e7 e8 e9;have Pv:=wP (show Below w.heap.size w w5 from Gx.o.trans (CH.o.mono DK));have QR:=wP (show Fls w5 w3.heap.size qd w3.heap.size Rf' crf' xs'/\FlOk xs' 100000/\xs'.length<=6/\Below B w2 w5 from by
    obtain⟨_,_,_,_,_,_,_,_,f1,_,_,f2,_,_,_,f3⟩:=Eu.o;exact⟨f1.fls,f2,f1.six2,f3⟩)
   have EI:=QR.o.2.2.1;have fb1:w5.cell? ⟨w3.heap.size,1,none⟩=some (.slice Rf' xs'.length crf'):=aa QR.o.1.self 1;go_wp2_with fail;go_loopw [12,13] (fun v i wx=> ∃q:Nat,v= .int .i64 ((dh (xs'.take q):Nat):Int)/\i= .int .i64 (q:Int)/\q<=xs'.length/\wx=w5) (fun _ i _ =>xs'.length-(intOf i).toNat)
   case atStart=>exact⟨0,rfl,rfl,xm _,rfl⟩
   case round=>
    obtain⟨q,rfl,rfl,hq,rfl⟩:=hrel;by_cases Oq:q<xs'.length
    ·obtain⟨x,hx⟩: ∃x,xs'[q]? =some x:=⟨_,wV Oq⟩;have Ic:(xs'.map (·.f))[q]? =some x.f:=(by rw[xj,hx];rfl);obtain⟨gR,hR,hcr⟩: ∃g,Rf'=some ⟨g,0,none⟩/\q<crf':=by
      rcases QR.o.1.row.form with⟨_,e,_⟩|⟨g,e,_,_,h2⟩
      ·have h9:=congrArg List.length e;rw[List.length_map]at h9;change xs'.length=0 at h9;omega
      ·rw[List.length_map]at h2;exact⟨g,e,o_⟩
     have xG:=QR.o.1.row;rw[hR]at xG fb1;have h8:=xG.cell mT Ic 0 o_;rw[Nat.mul_one,Nat.add_zero]at h8;have hc8:=h8.trans (show(ptrC x.f)[0]? =some (.pointer (some ⟨x.f,0,none⟩))from rfl);have CN:=xb hx;have Hv:=wP (vy (QR.o.1.each x CN) (fun h=>by have:=(QR.o.2.1 x CN).2.2 h;omega));have ze:=sQ hx;have xD:dh (xs'.take (q+1))<=400001*(xs'.take (q+1)).length:=oB fun y hy=>QR.o.2.1 y (List.mem_of_mem_take hy);rw[List.length_take,ze]at xD;have hlen:min (q+1) xs'.length<=6:=o_;have WI:dh (xs'.take q)+dW x<=3000000:=by
      have:=Nat.mul_le_mul_left 400001 hlen;omega
     obtain⟨N1,Gu⟩:=e_ (dh (xs'.take q));obtain⟨M1,SH⟩:=e_ (dW x);rw[<-Gu,<-SH]at WI ze;rw[<-SH]at Hv;rw[<-Gu];have KO:=wP ze;clear ze xD hlen Gu SH hx Ic xG h8 hR CN;go_wp2_with (first
      |(go_at_call 14;refine(Hv.o).mono ?_;rintro e w6⟨rfl,rfl⟩)
      |fail)
     go_roundw
     case rel=>exact⟨q+1,by rw[KO.o];go_num,by go_num,o_,trivial⟩
     case measure=>(simp[intOf];omega)
    ·obtain rfl:q=xs'.length:=o_;rw[List.take_length];have u1:=HE4.o _ QR.o.2.2.2;obtain⟨N1,Gu⟩:=e_ (dh xs');rw[<-Gu];have zV:IntKind.i64.wrap ((nf:Int)-4)=(nf:Int)-4:=(by rw[IntKind.wrap_i64];omega);by_cases xA:N1+4<=nf
     rotate_left
     ·have i1:(nf:Int)-4<(N1:Int):=o_;go_wp2_with (first
       |(go_at_call 10;refine(ZP.o _ Pv.o).mono ?_;rintro e w6⟨rfl,Bv⟩)
       |fail)
      go_ret;exact⟨rfl,Pv.o.trans (Bv.mono Pv.o.size)⟩
     ·have i1: ¬(nf:Int)-4<(N1:Int):=o_;obtain⟨⟨e0,e1,e2,e3,e4,e5,e6,e7,e8,e9⟩,Dx⟩:=KS.o _ Pv.o;have HHD:=wP (Eu.o.does o_ o_ (by rw[<-Gu];exact xA) (Dx B DK));clear Dx Gu;go_upto_region 20 with(first
       |(go_at_call 15;refine(HHD.o).mono ?_;rintro e w6⟨Rb,kk,cp,er,rfl,hr4,HA6⟩)
       |fail)
      have b4:(er==4)=false:=(by rw[xf];exact hr4);clear e0 e1 e2 e3 e4 e5 e6 e7 e8 e9 hr4;go_wp2_with fail;go_roundw
      case rel=>exact⟨j+1,by go_num,o_,HA6.o.below wR⟩
      case measure=>(simp[intOf];omega)
  ·obtain rfl:j=k:=o_;clear BF yr
   go_wp2_with (first
    |(go_at_call 10;refine(ZP.o _ Gx.o).mono ?_;rintro e w5⟨rfl,zJ⟩)
    |fail)
   go_ret;exact⟨rfl,Gx.o.trans (zJ.mono Gx.o.size)⟩
end
