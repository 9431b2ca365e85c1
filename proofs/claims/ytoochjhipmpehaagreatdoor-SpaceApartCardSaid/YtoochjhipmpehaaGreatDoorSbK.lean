/- Spaces, plain: what it comes to to bring a page, and to have it alone. Spaces: the cache and one space in memory; Spaces: the pages of a stretch of bytes, one by one; -/
import Derived.Test.YtoochjhipmpehaaGreatDoorCtK
import Derived.Test.YtoochjhipmpehaaGreatDoorEqK
import Derived.Test.YtoochjhipmpehaaGreatDoorGaK
import Derived.Test.YtoochjhipmpehaaGreatDoorNwAK
import Derived.Test.YtoochjhipmpehaaGreatDoorSpAK
import Derived.LoopIn
import Derived.LoopNIn
import Derived.RangeFuncLeaves
import Derived.RangeFuncNested
import Derived.Shelf.Abstract
import Derived.Shelf.RegionOpen
import Derived.TacticsInMore
set_option linter.unusedVariables false
set_option linter.unusedSimpArgs false
set_option maxRecDepth 100000
set_option maxHeartbeats 4000000
namespace Go.Proofs.YtoochjhipmpehaaGreatDoor
section
def Full (hold:Nat->Nat) (p:Pool) (T:Tab):Prop:= ∃gs:List Nat,gs.length<=3/\ ∀f,f<p.n->0<ah T f+az T f+hold f\/f∈gs
structure Kept (F:List Nd) (hold:Nat->Nat) (p:Pool) (L:List Slot) (T:Tab) (p':Pool) (L':List Slot) (T':Tab):Prop where
 sp:Sp F hold p' L' T'
 far: ∀E,Far hold T E p p'
 own:Own p' T'
 keep: ∀g y,T.lf g=some y-> ∃y',T'.lf g=some y'/\y'.prot=y.prot/\ ∀i,i<4096->p'.dat y'.frame i=p.dat y.frame i
 root: ∀f,T.nd 4 0=some f->T'.nd 4 0=some f
variable {F:List Nd} {hold:Nat->Nat} {p:Pool} {L:List Slot} {T:Tab}
theorem Kept.refl (h:Sp F hold p L T) (ho:Own p T):Kept F hold p L T p L T:=⟨h,fun _ =>Far.refl,ho,fun g y hy=>⟨y,hy,rfl,fun _ _ =>rfl⟩,fun _ h=>h⟩
variable {p1 p2:Pool} {L1 L2:List Slot}
theorem Kept.trans {T1 T2:Tab} (h:Kept F hold p L T p1 L1 T1) (k:Kept F hold p1 L1 T1 p2 L2 T2):Kept F hold p L T p2 L2 T2:=
 ⟨k.sp,fun E=>(h.far E).trans h.sp (k.far E),k.own,fun g y hy=>by
  obtain⟨y1,h1,h2,h3⟩:=h.keep g y hy;obtain⟨y2,k1,k2,k3⟩:=k.keep g y1 h1;exact⟨y2,k1,k2.trans h2,fun i hi=>(k3 i hi).trans (h3 i hi)⟩,fun f e=>k.root f (h.root f e)⟩
def srcK (r:Reg) (pg:Nat):Int:=(r.off+(pg:Int)*4096-r.fr)/4096
def dx (r:Reg) (pg:Nat):Bool:=decide (0<=r.ino/\srcK r pg<16)
def srcD (F:List Nd) (r:Reg) (pg:Nat):Nat->Nat:=if dx r pg=true then np F r.ino (srcK r pg)else fun _ =>0
structure aX (F:List Nd) (hold:Nat->Nat) (r:Reg) (pg:Nat) (p:Pool) (L:List Slot) (T:Tab) (e:Int) (l:Leaf) (p':Pool) (L':List Slot) (T':Tab):Prop where
 kept:Kept F hold p L T p' L' T'
 same: ∀g y,T.lf g=some y->T'.lf g=some y
 rest: ∀g,g≠pg->T.lf g=none->T'.lf g=none
 got:e=0->T'.lf pg=some l/\(T.lf pg=none->l.prot=r.prot.toNat/\ ∀i,i<4096->p'.dat l.frame i=srcD F r pg i)
 err:e≠0->e=4/\T'=T/\Full hold p' T
 stay:T.lf pg≠none->e=0/\p'=p/\L'=L/\T'=T
structure et (F:List Nd) (hold:Nat->Nat) (r:Reg) (pg:Nat) (p:Pool) (L:List Slot) (T:Tab) (e:Int) (l:Leaf) (p':Pool) (L':List Slot) (T':Tab):Prop where
 kept:Kept F hold p L T p' L' T'
 same: ∀g y,g≠pg->T.lf g=some y->T'.lf g=some y
 rest: ∀g,g≠pg->T.lf g=none->T'.lf g=none
 got:e=0->T'.lf pg=some l/\l.copy=false
 err:e≠0->e=4/\Full hold p' T'
 fresh:T.lf pg=none-> ∀y,T'.lf pg=some y-> ∀i,i<4096->p'.dat y.frame i=srcD F r pg i
variable {f:Nat}
theorem Sp.cap (h:Sp F hold p L T) (hf:f<p.n):p.cnt f<=525314+hold f:=by
 have h1:=h.eq hf;have h2:ah T f<=525312:=by
  rw[<-h.good.ok.leaves_cnt f];refine vx List.countP_le_length (vx ?_ h.good.ok.short)
  induction T.evs 4 0 with
  |nil=>exact vd _
  |cons e l ih=>
   rw[vy,vf,vn];have:(Ev.ls e).length<=1:=by cases e<;>simp[Ev.ls]
   omega
 have h3:=h.once f;have h4:az T f<=1:=by
  by_cases e:an T f
  ·rw[ao e];exact vd _
  ·rw[aE e];exact vw _
 omega
variable {p':Pool} {L':List Slot}
theorem Sp.full {f0:Nat} (h:Sp F hold p L T) (ht:ax p L 4 f0 p' L'):Full hold p T:=by
 refine⟨[],by simp,fun f hf=> .inl ?_⟩;have hc:=h.eq hf;have h5:=h.once f;cases ht with
 |none h1 h2=>
  have h3:=cH h1 f hf;by_cases h0:ay L f=0
  ·omega
  ·obtain⟨t,Ey,DC⟩:=List.countP_pos_iff.1 (show 0<ay L f by omega);have Yj:t.frame=f:=(by simpa using DC);have h4:=h2 t Ey;rw[Yj,aR hf]at h4;omega
variable {ino:Int}
theorem dC.four {page clock vB r:Int} (hg:GetF F ino page p L clock r f p' L' vB) (h0:0<=page) (h1:page<16) (hr:(dF F ino page).1=0) (vK:r≠0):r=4/\p'=p/\L'=L/\ax p L 4 0 p L:=by
 cases hg with
 |bad h=>omega
 |err _ _ h=>exact absurd hr h
 |hit=>exact absurd rfl vK
 |full _ _ _ _ ht=>exact⟨rfl,rfl,rfl,ht⟩
 |miss=>exact absurd rfl vK
variable {r:Reg} {pg:Nat} {l:Leaf}
theorem aX.there (h:Sp F hold p L T) (ho:Own p T) (hl:T.lf pg=some l):aX F hold r pg p L T 0 l p L T:=
 ⟨Kept.refl h ho,fun _ _ h=>h,fun _ _ h=>h,fun _ =>⟨hl,fun e=>by rw[hl]at e;cases e⟩,fun e=>absurd rfl e,fun _ =>⟨rfl,rfl,rfl,rfl⟩⟩
theorem aX.no (h:Sp F hold p L T) (ho:Own p T) (vW:T.lf pg=none) (hf:Full hold p T):aX F hold r pg p L T 4 l p L T:=
 ⟨Kept.refl h ho,fun _ _ h=>h,fun _ _ h=>h,fun e=>absurd e (by decide),fun _ =>⟨rfl,rfl,hf⟩,fun h=>absurd vW h⟩
variable {T':Tab}
theorem lV (vW:T.lf pg=none) (h:T'.lf=upd T.lf pg (some l)): ∀g y,T.lf g=some y->T'.lf g=some y:=fun g y hy=>by
 have vK:g≠pg:=fun e=>by rw[e,vW]at hy;cases hy
 rw[h,ag _ _ vK];exact hy
theorem gX.mono (h:gX p T L hold pg l 0 p' T' L'): ∀lv q f,T.nd lv q=some f->T'.nd lv q=some f:=by
 obtain⟨_,_,_,_,⟨e,_⟩|⟨_,_,h2,_⟩⟩:=h
 ·exact absurd e (by decide)
 ·exact h2
theorem aX.filed {ino clock vB e:Int} (h:Sp F hold p L T) (ho:Own p T) (yt:pg<bz) (vW:T.lf pg=none) (yy:dx r pg=true)
  (hg:GetF F r.ino (srcK r pg) p L clock 0 f p1 L1 vB) (hl:l=⟨f,r.prot.toNat,true⟩) (hm:gX p1 T L1 hold pg l e p' T' L') (hf:kJ p1 T L1 hold l e p' T' L'):aX F hold r pg p L T e l p' L' T':=by
 obtain⟨a1,a2,a3,a4,a5⟩:=h.get hg;obtain⟨b1,b2,b3,b4,b5,b6,b7,b8⟩:=a5 rfl;have wH:l.frame=f:=(by rw[hl]);have BE:l.copy=true:=(by rw[hl]);by_cases he:e=0
 ·subst he;obtain⟨c1,c2,c3,c4,c5,c6,c7,c8,_⟩:=a1.map hm hf yt vW (by rw[wH];omega) (by rw[wH];exact b1) (by rw[wH];exact b3);have zB: ∀E,Far hold T E p p':=fun E=>by
   exact⟨by rw[(c3 (fun x=>x=l.frame) rfl).n];exact(a2 E).n,fun x h0 hn=>((c3 (fun x=>x=l.frame) rfl).dat x h0 hn).trans ((a2 E).dat x h0 hn),fun x hx h0 hE hc=>by
    have h5:=(a2 E).cnt x hx h0 hE hc;have zA:x<p1.n:=(by rw[(a2 E).n];exact hx);refine(c3 (fun x=>x=l.frame) rfl).cnt x zA h0 (fun e=>?_) h5;have h6:=a1.eq zA;rw[e,wH]at h6;rw[e,wH]at h5;omega⟩
  refine⟨⟨c1,zB,fun g y hy xK=>?_,fun g y hy=>⟨y,lV vW c2 g y hy,rfl,?_⟩,fun f hf=>hm.mono 4 0 f hf⟩,lV vW c2,fun g vK hg=>by rw[c2,ag _ _ vK];exact hg,fun _ =>⟨by rw[c2,af],fun _ =>⟨by rw[hl],fun i _ =>congrFun ?_ i⟩⟩,fun e=>absurd rfl e,fun h=>absurd vW h⟩
  ·by_cases PD:g=pg
   ·subst PD;rw[c2,af]at hy;injection hy with hy;subst hy;rw[BE]at xK;cases xK
   ·exact c5 ((a4 ho).but pg) g y PD hy xK
  ·obtain⟨d1,d2,d3,d4,d5,d6⟩:=h.leaf hy;exact fun i _ =>congrFun ((c4 _ (.inr d5)).trans (a3 _ d5)) i
  ·rw[c4 _ (.inl rfl),wH,b5];unfold srcD;rw[if_pos yy]
 ·obtain⟨rfl,rfl,c3,c4,c5,c6,c7,c8⟩:=a1.mapNot hm hf he (by rw[wH];exact b3);refine⟨⟨c3,fun E=>(a2 E).trans a1 (c4 E),c6 (a4 ho),fun g y hy=>⟨y,hy,rfl,?_⟩,fun _ h=>h⟩,fun _ _ h=>h,fun _ _ h=>h,fun e=>absurd e (by decide),fun _ =>⟨rfl,rfl,?_⟩,fun h=>absurd vW h⟩
  ·obtain⟨d1,d2,d3,d4,d5,d6⟩:=h.leaf hy;exact fun i _ =>congrFun ((c5 _ d5).trans (a3 _ d5)) i
  ·obtain⟨gs,g1,g2⟩:=c7;refine⟨l.frame::gs,by simp;omega,fun x hx=>?_⟩;rcases g2 x (by rw[<-(c4 (fun _ =>False)).n];exact hx) (a1.once x)with h1|h1|h1
   ·exact .inl h1
   ·exact .inr (by rw[h1];exact vv ..)
   ·exact .inr (vu _ h1)
variable {e:Int}
theorem aX.blank (h:Sp F hold p L T) (ho:Own p T) (yt:pg<bz) (vW:T.lf pg=none) (yy:dx r pg=false)
  (ht:ax p L 0 f p1 L1) (hl:l=⟨f,r.prot.toNat,false⟩) (hm:gX p1 T L1 (upd hold f 1) pg l e p' T' L') (hf:kJ p1 T L1 (upd hold f 1) l e p' T' L'):aX F hold r pg p L T e l (p'.down f) L' T'/\f<p'.n/\1<=p'.cnt f:=by
 obtain⟨a1,a2,a3,a4,a5⟩:=h.take ht;have wH:l.frame=f:=(by rw[hl]);have JR:f<p1.n:=(by rw[(a2 (fun _ =>False)).n];exact a5.lt);have zO:upd (upd hold f 1) f (upd hold f 1 f-1)=hold:=by
  funext x;by_cases e:x=f
  ·subst e;rw[af,af];have:=a5.hold;omega
  ·rw[ag _ _ e,ag _ _ e]
 by_cases he:e=0
 ·subst he;obtain⟨c1,c2,c3,c4,c5,c6,c7,c8,_⟩:=a1.map hm hf yt vW (by rw[wH,af];omega) (by rw[wH];exact JR) (by rw[wH];exact a5.node);have Tr:p'.n=p1.n:=(c3 (fun x=>x=l.frame) rfl).n;have BB:ay L' f=0:=(by have h8:ay L' f<=ay L1 f:=List.Sublist.countP_le c8;have:=a5.slot;omega);have Ry:p'.cnt f=2:=by
   have:=c6 (by rw[wH];exact BB) (by rw[wH];exact a5.leaf);rw[wH,af]at this;exact this
  obtain⟨d1,d2,d3⟩:=c1.down (f:=f) (by rw[af];omega);rw[zO]at d1;have Ue:Far (upd hold f 1) T (fun x=>x=f) p1 p':=wH▸c3 (fun x=>x=l.frame) rfl;have zK:=Ue.less a5.hold;have EK: ∀x,0<hold x->x≠f:=fun x hx e=>by subst e;have:=a5.hold;omega
  refine⟨⟨⟨d1,fun E=>⟨Tr.trans (a2 E).n,fun x h0 hn=>(zK.dat x h0 hn).trans ((a2 E).dat x h0 hn),fun x hx h0 hE hc=>?_⟩,fun g y hy xK=>?_,fun g y hy=>⟨y,lV vW c2 g y hy,rfl,?_⟩,fun f hf=>hm.mono 4 0 f hf⟩,lV vW c2,fun g vK hg=>by rw[c2,ag _ _ vK];exact hg,fun _ =>⟨by rw[c2,af],fun _ =>⟨by rw[hl],fun i _ =>congrFun ?_ i⟩⟩,fun e=>absurd rfl e,fun h=>absurd vW h⟩,by omega,by omega⟩
  ·have h5:=(a2 E).cnt x hx h0 hE hc;exact(ag _ _ (EK x h0)).trans (zK.cnt x (by rw[(a2 E).n];exact hx) h0 (EK x h0) h5)
  ·by_cases PD:g=pg
   ·subst PD;rw[c2,af]at hy;injection hy with hy;subst hy;rw[wH];show upd p'.cnt f (p'.cnt f-1) f=1;rw[af,Ry]
   ·exact d3 pg (c5 ((a4 ho).but pg)) g y PD hy xK
  ·obtain⟨d1,d2,d3,d4,d5,d6⟩:=h.leaf hy;exact fun i _ =>congrFun ((c4 _ (.inr d5)).trans (a3 _ d5)) i
  ·show p'.dat l.frame=_;rw[c4 _ (.inl rfl),wH,a5.zero];unfold srcD;rw[if_neg (by rw[yy];decide)]
 ·obtain⟨rfl,rfl,c3,c4,c5,c6,c7,c8⟩:=a1.mapNot hm hf he (by rw[wH];exact a5.node);obtain⟨d1,d2,d3⟩:=c3.down (f:=f) (by rw[af];omega);rw[zO]at d1;have Tr:p'.n=p1.n:=(c4 (fun _ =>False)).n;have EK: ∀x,0<hold x->x≠f:=fun x hx e=>by subst e;have:=a5.hold;omega
  have Ry:=c3.eq (x:=f) (by omega);rw[af]at Ry;refine⟨⟨⟨d1,fun E=>⟨Tr.trans (a2 E).n,fun x h0 hn=>(((c4 E).less a5.hold).dat x h0 hn).trans ((a2 E).dat x h0 hn),fun x hx h0 hE hc=>?_⟩,d2 (c6 (a4 ho)),fun g y hy=>⟨y,hy,rfl,?_⟩,fun _ h=>h⟩,fun _ _ h=>h,fun _ _ h=>h,fun e=>absurd e (by decide),fun _ =>⟨rfl,rfl,?_⟩,fun h=>absurd vW h⟩,by omega,by omega⟩
  ·have h5:=(a2 E).cnt x hx h0 hE hc;exact(ag _ _ (EK x h0)).trans (((c4 E).less a5.hold).cnt x (by rw[(a2 E).n];exact hx) h0 hE h5)
  ·obtain⟨d1,d2,d3,d4,d5,d6⟩:=h.leaf hy;exact fun i _ =>congrFun ((c5 _ d5).trans (a3 _ d5)) i
  ·obtain⟨gs,g1,g2⟩:=c7;refine⟨f::gs,by simp;omega,fun x hx=>?_⟩;by_cases Sf:x=f
   ·exact .inr (by rw[Sf];exact vv ..)
   rcases g2 x (by rw[<-Tr];exact hx) (a1.once x)with h1|h1|h1
   ·rw[ag _ _ Sf]at h1;exact .inl h1
   ·exact absurd (h1.trans wH) Sf
   ·exact .inr (vu _ h1)
variable {g:Nat}
theorem fz {A fr q:Int} {cp:Bool} {was:Leaf} (hA:A=(pg:Int)*4096) (yt:pg<34359738368) (hq: ¬7<q) (hc:bF p fr≠0) (hw:T.lf pg=some was) (hg:T.nd 1 (part pg 1)=some g):
  mT p T A fr q cp=(0,bg p was ⟨fr.toNat,q.toNat,cp⟩ g pg,T.lay pg (some ⟨fr.toNat,q.toNat,cp⟩)):=by
 have e:A.toNat/4096=pg:=(by omega);unfold mT;rw[if_neg (fun h=>h.elim hq hc),if_neg (by omega),e,hw,hg];rfl
theorem et.err' (h:aX F hold r pg p L T e l p' L' T') (he:e≠0):et F hold r pg p L T e l p' L' T':=
 ⟨h.kept,fun g y _ =>h.same g y,h.rest,fun e0=>absurd e0 he,fun he=>by obtain⟨a,b,c⟩:=h.err he;subst b;exact⟨a,c⟩,fun hn y hy=>by rw[(h.err he).2.1,hn]at hy;cases hy⟩
theorem et.alone (h:aX F hold r pg p L T 0 l p' L' T') (hc:l.copy=false):et F hold r pg p L T 0 l p' L' T':=
 ⟨h.kept,fun g y _ =>h.same g y,h.rest,fun _ =>⟨(h.got rfl).1,hc⟩,fun he=>absurd rfl he,fun hn y hy=>by rw[(h.got rfl).1]at hy;injection hy with hy;subst hy;exact((h.got rfl).2 hn).2⟩
theorem et.no {l':Leaf} (h:aX F hold r pg p L T 0 l p' L' T') (hf:Full hold p' T'):et F hold r pg p L T 4 l' p' L' T':=
 ⟨h.kept,fun g y _ =>h.same g y,h.rest,fun e=>absurd e (by decide),fun _ =>⟨rfl,hf⟩,fun hn y hy=>by rw[(h.got rfl).1]at hy;injection hy with hy;subst hy;exact((h.got rfl).2 hn).2⟩
theorem et.mark (h:aX F hold r pg p L T 0 l p' L' T') (hc:p'.cnt l.frame=1) (hg:T'.nd 1 (part pg 1)=some g):
  et F hold r pg p L T 0 ⟨l.frame,l.prot,false⟩ (bg p' l ⟨l.frame,l.prot,false⟩ g pg) L' (T'.lay pg (some ⟨l.frame,l.prot,false⟩)):=by
 obtain⟨g1,g2⟩:=h.got rfl;obtain⟨c1,c2,c3,c4,c5,c6⟩:=h.kept.sp.leaf g1;obtain⟨s1,s2,s3,s4,s5⟩:=h.kept.sp.set (l:=⟨l.frame,l.prot,false⟩) g1 hg c2 c3 c6;have Un: ∀x,x<p'.n->(bg p' l ⟨l.frame,l.prot,false⟩ g pg).cnt x=p'.cnt x:=fun x hx=>by have:=s5 x hx;simp only[]at this;omega
 have wH:(T'.lay pg (some ⟨l.frame,l.prot,false⟩)).lf=upd T'.lf pg (some ⟨l.frame,l.prot,false⟩):=rfl;refine⟨h.kept.trans ⟨s1,fun E=>s2 E (.inr c5),fun y z hz xK=>?_,fun y z hz=>?_,fun _ h=>h⟩,fun y z vK hz=>?_,fun y vK hy=>?_,fun _ =>⟨by rw[wH,af],rfl⟩,fun e=>absurd rfl e,fun e y hy i hi=>?_⟩
 ·by_cases e:y=pg
  ·subst e;rw[wH,af]at hz;injection hz with hz;subst hz;exact(Un _ c3).trans hc
  ·exact s4 (.inl rfl) (h.kept.own.but pg) y z e hz xK
 ·by_cases e:y=pg
  ·subst e;rw[g1]at hz;injection hz with hz;subst hz;exact⟨⟨l.frame,l.prot,false⟩,by rw[wH,af],rfl,fun i _ =>congrFun (s3 _ c6) i⟩
  ·exact⟨z,by rw[wH,ag _ _ e];exact hz,rfl,fun i _ =>congrFun (s3 _ (h.kept.sp.leaf hz).2.2.2.2.2) i⟩
 ·rw[wH,ag _ _ vK];exact h.same y z hz
 ·rw[wH,ag _ _ vK];exact h.rest y vK hy
 ·rw[wH,af]at hy;injection hy with hy;subst hy;exact(congrFun (s3 _ c6) i).trans ((g2 e).2 i hi)
theorem et.copied (h:aX F hold r pg p L T 0 l p' L' T') (ht:ax p' L' 0 f p2 L2) (hg:T'.nd 1 (part pg 1)=some g) (d:Nat->Nat) (hd: ∀i,i<4096->d i=p2.dat l.frame i):
  let p3:=p2.store f d
  et F hold r pg p L T 0 ⟨f,l.prot,false⟩ ((bg p3 l ⟨f,l.prot,false⟩ g pg).down f) L2 (T'.lay pg (some ⟨f,l.prot,false⟩))/\f<p3.n/\p3.cnt f=1/\f<(bg p3 l ⟨f,l.prot,false⟩ g pg).n/\1<=(bg p3 l ⟨f,l.prot,false⟩ g pg).cnt f:=by
 intro p3;obtain⟨g1,g2⟩:=h.got rfl;obtain⟨a1,a2,a3,a4,a5⟩:=h.kept.sp.take ht;have b1:Sp F (upd hold f 1) p3 L2 T':=a1.storeH (by rw[af];omega) a5.slot d;obtain⟨c1,c2,c3,c4,c5,c6⟩:=b1.leaf g1;have Fy:p2.n=p'.n:=(a2 fun _ =>False).n;have yz:f<p3.n:=(by show f<p2.n;rw[Fy];exact a5.lt);have Di: ¬an T' f:=a5.node;have vK:l.frame≠f:=fun e=>by rw[e]at c5;have:=a5.leaf;omega
 obtain⟨s1,s2,s3,s4,s5⟩:=b1.set (l:=⟨f,l.prot,false⟩) g1 hg c2 yz Di;obtain⟨d1,d2,d3⟩:=s1.down (f:=f) (by rw[af];omega);have zO:upd (upd hold f 1) f (upd hold f 1 f-1)=hold:=by
  funext x;by_cases e:x=f
  ·subst e;rw[af,af];have:=a5.hold;omega
  ·rw[ag _ _ e,ag _ _ e]
 rw[zO]at d1;have wH:(T'.lay pg (some ⟨f,l.prot,false⟩)).lf=upd T'.lf pg (some ⟨f,l.prot,false⟩):=rfl;have Ry:(bg p3 l ⟨f,l.prot,false⟩ g pg).cnt f=2:=by
  have h1:=s5 f yz;have h2:p3.cnt f=1:=a5.one;simp only[if_true]at h1;rw[if_neg vK]at h1;omega
 have EK: ∀x,0<hold x->x≠f:=fun x hx e=>by subst e;have:=a5.hold;omega
 have xo: ∀x,x≠f->p3.dat x=p2.dat x:=fun x hx=>ag _ _ hx;have Fc: ∀x,¬an T' x->x≠f->(bg p3 l ⟨f,l.prot,false⟩ g pg).dat x=p2.dat x:=fun x hx Sf=>(s3 x hx).trans (xo x Sf);have hdf: ∀i,i<4096->(bg p3 l ⟨f,l.prot,false⟩ g pg).dat f i=p'.dat l.frame i:=fun i hi=>by
  rw[s3 f Di];show upd p2.dat f d f i=_;rw[af,hd i hi,a3 _ (by obtain⟨_,_,_,_,e,_⟩:=h.kept.sp.leaf g1;exact e)]
 have zK:=(s2 (fun x=>x=f) (.inl rfl)).less a5.hold;refine⟨⟨h.kept.trans ⟨d1,fun E=>⟨Fy,fun x h0 hx=>?_,fun x hx h0 hE hc=>?_⟩,fun y z hz xK=>?_,fun y z hz=>?_,fun _ h=>h⟩,fun y z vK hz=>?_,fun y vK hy=>?_,fun _ =>⟨by rw[wH,af],rfl⟩,fun e=>absurd rfl e,fun e y hy i hi=>?_⟩,yz,a5.one,yz,by omega⟩
 ·exact(Fc x hx (EK x h0)).trans ((a2 E).dat x h0 hx)
 ·have h5:=(a2 E).cnt x hx h0 hE hc;exact(ag _ _ (EK x h0)).trans (zK.cnt x (by show x<p2.n;rw[Fy];exact hx) h0 (EK x h0) h5)
 ·by_cases e:y=pg
  ·subst e;rw[wH,af]at hz;injection hz with hz;subst hz;show upd _ f _ f=1;rw[af,Ry]
  ·exact d3 pg (s4 (.inr a5.leaf) ((a4 h.kept.own).but pg)) y z e hz xK
 ·by_cases e:y=pg
  ·subst e;rw[g1]at hz;injection hz with hz;subst hz;exact⟨⟨f,l.prot,false⟩,by rw[wH,af],rfl,hdf⟩
  ·obtain⟨_,_,_,_,e5,e6⟩:=h.kept.sp.leaf hz;have hzf:z.frame≠f:=fun e=>by rw[e]at e5;have:=a5.leaf;omega
   exact⟨z,by rw[wH,ag _ _ e];exact hz,rfl,fun i _ =>congrFun ((Fc _ e6 hzf).trans (a3 _ e5)) i⟩
 ·rw[wH,ag _ _ vK];exact h.same y z hz
 ·rw[wH,ag _ _ vK];exact h.rest y vK hy
 ·rw[wH,af]at hy;injection hy with hy;subst hy;exact(hdf i hi).trans ((g2 e).2 i hi)
structure Ask (F:List Nd) (rl:List Reg) (r:Reg) (pg:Nat):Prop where
 find:Rg.find rl ((pg:Int)*4096)=(r,true)
 one:Rg.one r=true
 lo:r.fr<=(pg:Int)*4096
 hi:(pg:Int)*4096<r.to
 ok:r.Ok
 file:0<=r.ino-> ∃y,F[r.ino.toNat]? =some y/\y.kind=1
theorem Ask.facts {rl:List Reg} (h:Ask F rl r pg):pg<34359738368/\0<=r.off/\r.off<=281474976710656/\0<=r.fr/\0<=r.prot/\r.prot<=7/\0<=srcK r pg:=by
 have h1:=aD h.one;have h2:=h.hi;have h3:=h.lo;have h4:=h.ok.fr0;have h5:=h.ok.off0;have h6:=h.ok.prot0;have h7:0<=srcK r pg:=(by unfold srcK;omega);refine⟨by omega,h5,?_,h4,h6,h1.2.2.2.2.1,h7⟩;rcases h1.2.2.2.2.2 with h|h
 ·omega
 ·omega
theorem ra {k:Int} {y:Nd} (h0:0<=ino) (hy:F[ino.toNat]? =some y) (hk:y.kind=1):(dF F ino k).1=0:=by
 unfold dF ja;have vH:=(List.getElem?_eq_some_iff.1 hy).1;rw[if_neg (by omega),hy];simp[hk]
end
section
open Go.RowKit Go.Sort
def aw (S:Nat->Prop) (c m:Nat):Nat->Prop:=fun b=>S b\/b=m\/b=c
structure Home (w:World) (B c a fs m:Nat) (S:Nat->Prop) (F:List Nd) (clock:Int) (p:Pool) (L:List Slot):Prop where
 cache:ar w S c a fs m clock p L
 files: ∃w1 B1 nb c2 ad mp,w1.heap.size=B/\FsIs w1 B1 fs nb c2 ad mp F/\Below B w1 w
 bytes:ib F
 low: ∀b,S b->B<=b
 lows:B<=c/\B<=m/\0<B
variable {w:World} {B c a m:Nat} {S:Nat->Prop} {F:List Nd} {clock:Int} {p:Pool} {L:List Slot}
theorem Home.base {fs:Nat} (h:Home w B c a fs m S F clock p L):B<=w.heap.size:=by
 obtain⟨w1,_,_,_,_,_,h1,_,h3⟩:=h.files;have:=h3.size;omega
theorem Home.fs {fs:Nat} (h:Home w B c a fs m S F clock p L): ∃B1 nb c2 ad mp,FsIs w B1 fs nb c2 ad mp F:=by
 obtain⟨w1,B1,nb,c2,ad,mp,h1,h2,h3⟩:=h.files;exact⟨B1,nb,c2,ad,mp,h2.below (by rw[h1];exact h3)⟩
theorem Home.lts {fs:Nat} (h:Home w B c a fs m S F clock p L):c<w.heap.size/\m<w.heap.size/\ ∀b,S b->b<w.heap.size:=⟨h.cache.lts.1,h.cache.lts.2.1,h.cache.pool.low⟩
variable {w':World} {S':Nat->Prop}
theorem Home.step {fs:Nat} {vB:Int} {p':Pool} {L':List Slot} (h:Home w B c a fs m S F clock p L) (hC:ar w' S' c a fs m vB p' L') (hm:Mod (aw S c m) w w') (ho:Out S S' w):Home w' B c a fs m S' F vB p' L':=by
 have hB:=h.base;obtain⟨w1,B1,nb,c2,ad,mp,h1,h2,h3⟩:=h.files;refine⟨hC,⟨w1,B1,nb,c2,ad,mp,h1,h2,h3.trans (hm.below (fun b hb=>?_) hB)⟩,h.bytes,fun b hb=>(ho b hb).elim (h.low b) (fun e=>by omega),h.lows⟩;rcases hb with e|e|e
 ·exact h.low b e
 ·rw[e];exact h.lows.2.1
 ·rw[e];exact h.lows.1
variable {X:Nat->Prop}
theorem Home.mod {fs:Nat} (h:Home w B c a fs m S F clock p L) (hm:Mod X w w') (hX: ∀b,X b-> ¬S b/\b≠c/\b≠m/\B<=b):Home w' B c a fs m S F clock p L:=by
 have hB:=h.base;obtain⟨w1,B1,nb,c2,ad,mp,h1,h2,h3⟩:=h.files;exact⟨h.cache.mod hm (fun b hb e=>(hX b e).1 hb) (fun e=>by have:=(hX 0 e).2.2.2;have:=h.lows.2.2;omega) (fun e=>(hX c e).2.1 rfl) (fun e=>(hX m e).2.2.1 rfl),⟨w1,B1,nb,c2,ad,mp,h1,h2,h3.trans (hm.below (fun b hb=>(hX b hb).2.2.2) hB)⟩,h.bytes,h.low,h.lows⟩
theorem Home.below {fs:Nat} (h:Home w B c a fs m S F clock p L) (hb:Below w.heap.size w w'):Home w' B c a fs m S F clock p L:=
 h.mod (X:=fun _ =>False) (Mod.of hb) (fun b e=>e.elim)
def cS (w:World) (s c a t:Nat) (A:Option Addr) (n cap:Nat):Prop:=w.heap[s]? =some (.cells #[.pointer (some ⟨c,0,none⟩), .pointer (some ⟨a,0,none⟩), .pointer (some ⟨t,0,none⟩), .slice A n cap] 122 (0,0))
variable {A:Option Addr} {n cap:Nat}
theorem RSl.mod {l:List Reg} (h:RSl w w.heap.size A n cap l) (hm:Mod X w w') (hX: ∀ad,A=some ad-> ¬X ad.block):RSl w' w'.heap.size A n cap l:=
 ⟨h.len,h.cap,h.few,fun k r hr=>by
  obtain⟨b,off,e,vH,yT⟩:=h.at_ k r hr;have hb:w'.heap[b]? =w.heap[b]? :=hm.block b vH (hX _ e);have hc: ∀i,w'.cell? ⟨b,i,none⟩=w.cell? ⟨b,i,none⟩:=fun i=>by unfold World.cell?;simp only[hb]
  exact⟨b,off,e,vh vH hm.size,⟨(hc _).trans yT.c0,(hc _).trans yT.c1,(hc _).trans yT.c2,(hc _).trans yT.c3,(hc _).trans yT.c4⟩⟩⟩
structure One (w:World) (B c a m:Nat) (S:Nat->Prop) (s t root:Nat) (A:Option Addr) (n cap:Nat) (rl:List Reg):Prop where
 self:cS w s c a t A n cap
 tab:al w t c a root
 row:RSl w w.heap.size A n cap rl
 noS: ¬S s/\s≠m/\s≠c/\B<=s
 noT: ¬S t/\t≠m/\t≠c/\B<=t
 noR: ∀ad,A=some ad-> ¬S ad.block/\ad.block≠m/\ad.block≠c/\ad.block≠s/\ad.block≠t/\B<=ad.block/\ad.block<w.heap.size
variable {s t root:Nat} {rl:List Reg}
theorem One.lts (h:One w B c a m S s t root A n cap rl):s<w.heap.size/\t<w.heap.size/\s≠t:=by
 refine⟨(uZ h.self).1,(uZ h.tab).1,fun e=>?_⟩;have h1:=h.self;have h2:=h.tab;unfold cS at h1;unfold al at h2;rw[<-e,h1]at h2;injection h2 with h2;injection h2 with h2;have:=congrArg Array.size h2;simp at this
theorem One.step (h:One w B c a m S s t root A n cap rl) (hm:Mod X w w') (hX: ∀b,X b->aw S c m b\/w.heap.size<=b) (ho:Out S S' w):One w' B c a m S' s t root A n cap rl:=by
 obtain⟨l1,l2,_⟩:=h.lts;have hz:=hm.size;have key: ∀b,b<w.heap.size-> ¬S b->b≠m->b≠c-> ¬X b:=fun b hb h1 h2 h3 e=>by
  rcases hX b e with e|e
  ·exact e.elim h1 fun e=>e.elim h2 h3
  ·omega
 have vW: ∀b,b<w.heap.size-> ¬S b-> ¬S' b:=fun b hb h1 e=>(ho b e).elim h1 (fun e=>by omega);exact⟨(hm.block s l1 (key s l1 h.noS.1 h.noS.2.1 h.noS.2.2.1)).trans h.self,(hm.block t l2 (key t l2 h.noT.1 h.noT.2.1 h.noT.2.2.1)).trans h.tab,h.row.mod hm (fun ad e=>by
  obtain⟨n1,n2,n3,n4,n5,n6,n7⟩:=h.noR ad e;exact key _ n7 n1 n2 n3),⟨vW s l1 h.noS.1,h.noS.2⟩,⟨vW t l2 h.noT.1,h.noT.2⟩,fun ad e=>by
  obtain⟨n1,n2,n3,n4,n5,n6,n7⟩:=h.noR ad e;exact⟨vW _ n7 n1,n2,n3,n4,n5,n6,by omega⟩⟩
theorem One.foot (h:One w B c a m S s t root A n cap rl) (hm:Mod (aw S c m) w w') (ho:Out S S' w):One w' B c a m S' s t root A n cap rl:=h.step hm (fun b e=> .inl e) ho
theorem One.below (h:One w B c a m S s t root A n cap rl) (hb:Below w.heap.size w w'):One w' B c a m S s t root A n cap rl:=h.step (X:=fun _ =>False) (Mod.of hb) (fun b e=>e.elim) (Out.refl _ _)
theorem dH (s c a t n cap:Nat) (A:Option Addr) (w:World) (h:cS w s c a t A n cap):Calls Tryz.prog 56 #[.pointer (some ⟨s,0,none⟩)] w fun e w'=>e= .returned (.bool false)/\w=w':=by
 have c2:w.cell? ⟨s,2,none⟩=some (.pointer (some ⟨t,0,none⟩)):=aa h 2;clear h;go_enter Tryz.func56,Tryz.ntmps56;go_wp2_with fail;go_ret;exact⟨rfl,rfl⟩
def bu (w:World):Option Addr->Prop
 |none=>True
 |some ad=> ∃s,ad=⟨s,0,none⟩/\w.cell? ⟨s,2,none⟩=some (.pointer none)
theorem cR (P:Option Addr) (w:World) (h:bu w P):Calls Tryz.prog 56 #[.pointer P] w fun e w'=>e= .returned (.bool true)/\w=w':=by
 cases P with
 |none=>
  clear h;go_enter Tryz.func56,Tryz.ntmps56;go_wp2_with fail;go_ret;exact⟨rfl,rfl⟩
 |some ad=>
  obtain⟨s,rfl,c2⟩:=h;go_enter Tryz.func56,Tryz.ntmps56;go_wp2_with fail;go_ret;exact⟨rfl,rfl⟩
variable {b:Nat}
theorem bq (x y z:Value):Mod (fun k=>k=b) w (((w.setCell ⟨b,0,none⟩ x).setCell ⟨b,1,none⟩ y).setCell ⟨b,2,none⟩ z):=
 ((aj (S:=fun k=>k=b) rfl 0 x).trans (Out.refl _ _) (aj (S:=fun k=>k=b) rfl 1 y)).trans (Out.refl _ _) (aj (S:=fun k=>k=b) rfl 2 z)
theorem sk {x y z x' y' z':Value} {t:TypeId} (h:w.heap[b]? =some (.cells #[x,y,z] t (0,0))):(((w.setCell ⟨b,0,none⟩ x').setCell ⟨b,1,none⟩ y').setCell ⟨b,2,none⟩ z').heap[b]? =some (.cells #[x',y',z'] t (0,0)):=by
 have h1:=Joins.block_setCell (i:=0) h x';have h2:=Joins.block_setCell (i:=1) h1 y';have h3:=Joins.block_setCell (i:=2) h2 z';simpa using h3
theorem Mod.own {Y:Nat->Prop} (h:Mod X w w') (hX: ∀b,X b->Y b\/w.heap.size<=b):Mod Y w w':=⟨h.os,h.tape,h.output,h.size,fun b hb hn=>h.block b hb fun e=>(hX b e).elim hn (fun e=>by omega)⟩
def nY (w:World) (S:Nat->Prop) (c a fs m:Nat) (F:List Nd) (ino k clock:Int) (p:Pool) (L:List Slot) (e:Ending) (w':World):Prop:=
 ∃r f p' L' vB S',e= .returned (.tuple #[.agg (ap ⟨f,0,true⟩), .bool false, .int .i64 r])/\ar w' S' c a fs m vB p' L'/\Mod (aw S c m) w w'/\Out S S' w/\GetF F ino k p L clock r f p' L' vB
theorem rG (B c a fs m:Nat) (ino k clock:Int) (w:World) (S:Nat->Prop) (F:List Nd) (p:Pool) (L:List Slot) (h:Home w B c a fs m S F clock p L) (hi:(Lit.int .i64 ino).wf=true) (yA:0<=clock/\clock<1000000):
  Calls Tryz.prog 231 #[.agg #[.int .i64 ino, .int .i64 k], .pointer (some ⟨c,0,none⟩)] w (nY w S c a fs m F ino k clock p L):=by
 obtain⟨w0,vE⟩: ∃w0,w0=(w.alloc (.cells #[.int .i64 ino, .int .i64 k] 248)).alloc (.cells #[.int .i64 0, .int .u8 0, .bool false] 83):=⟨_,rfl⟩;have vF:Below w.heap.size w w0:=(by rw[vE];exact vc.alloc (by simp) _);have BB:w0.heap.size=w.heap.size+2:=(by rw[vE];simp);have ZX:w0.heap[w.heap.size]? =some (.cells #[.int .i64 ino, .int .i64 k] 248 (0,0)):=(by rw[vE];exact(ve _ _ _ (by simp)).trans (ab w _));have Az:w0.heap[w.heap.size+1]? =some (.cells #[.int .i64 0, .int .u8 0, .bool false] 83 (0,0)):=by
  rw[vE];have:=ab (w.alloc (.cells #[.int .i64 ino, .int .i64 k] 248)) (.cells #[.int .i64 0, .int .u8 0, .bool false] 83)
  rwa [World.size_alloc]at this
 have y0:w0.cell? ⟨w.heap.size,0,none⟩=some (.int .i64 ino):=aa ZX 0;have y1:w0.cell? ⟨w.heap.size,1,none⟩=some (.int .i64 k):=aa ZX 1;have En:=h.below vF;obtain⟨B1,nb,c2,ad,mp,Ls⟩:=En.fs;have hG:=cget_any B1 nb c2 c a fs m ad mp F ino k clock w0 S p L En.cache Ls h.bytes hi yA;have HG:=va hG;have vY:=va vE;have wO:=va vF;have Gx:=va Az;have zk:=h.lts;have Hz: ¬S (w.heap.size+1):=fun e=>by have:=zk.2.2 _ e;omega
 have zL:w.heap.size+1≠m/\w.heap.size+1≠c:=⟨by omega,by omega⟩;clear hG En vE vF Az ZX h Ls;go_enter Tryz.func231,Tryz.ntmps231;go_upto_region 1 with(fail);rw[<-vY.out];go_wp2_with (first
  |(go_at_call 232;refine(HG.out).mono ?_;rintro e w1 ⟨r,f,p',L',vB,S',rfl,Hd,xJ,wi,vO⟩;have DQ:=(xJ.block (w.heap.size+1) (by omega) (fun e=>e.elim Hz fun e=>e.elim zL.1 zL.2)).trans Gx.out;have CY:=va Hd;have Gv:=va xJ;have vS:=va wi;have wC:=va vO;clear Hd xJ wi vO;have z0:w1.cell? ⟨w.heap.size+1,0,none⟩=some (.int .i64 0):=aa DQ 0;have z1:w1.cell? ⟨w.heap.size+1,1,none⟩=some (.int .u8 0):=aa DQ 1;have z2:w1.cell? ⟨w.heap.size+1,2,none⟩=some (.bool false):=aa DQ 2;have zf0:=ae DQ 0;have zf1:=ae DQ 1;have zf2:=ae DQ 2)
  |fail)
 have vH:w.heap.size+1<w1.heap.size:=(uZ DQ).1;refine bodyPost_ret (v:= .tuple #[.agg (ap ⟨f,0,true⟩), .bool false, .int .i64 r]) (by simp[results,Tryz.results231,go_sem,vH,z0,z1,z2,zf0,zf1,zf2,ap]) rfl ?_;have xH:=bq (w:=w1) (b:=w.heap.size+1) (.int .i64 (f:Int)) (.int .u8 0) (.bool true);have Lo:=((Mod.of wO.out).trans (Out.refl _ _) Gv.out);refine⟨r,f,p',L',vB,S',rfl,CY.out.mod xH (fun b hb e=>?_) (fun e=>by omega) (fun e=>by omega) (fun e=>by omega),((Lo.sub (T:=fun b=>aw S c m b\/b=w.heap.size+1) fun b e=> .inl e).trans (Out.refl _ _) (xH.sub fun b e=> .inr e)).own (fun b e=>e.imp id fun e=>by omega),fun b hb=>(vS.out b hb).imp id (fun e=>by omega),wC.out⟩;subst e;exact(vS.out _ hb).elim Hz (fun e=>by omega)
def oc (w:World) (S:Nat->Prop) (c a fs m:Nat) (clock:Int) (p:Pool) (L:List Slot) (e:Ending) (w':World):Prop:=
 ∃r f p' L' S',e= .returned (.tuple #[.agg (ap ⟨f,0,false⟩), .bool true, .int .i64 r])/\ar w' S' c a fs m clock p' L'/\Mod (aw S c m) w w'/\Out S S' w/\ax p L r f p' L'
theorem rO (B c a fs m:Nat) (clock:Int) (w:World) (S:Nat->Prop) (F:List Nd) (p:Pool) (L:List Slot) (h:Home w B c a fs m S F clock p L):
  Calls Tryz.prog 230 #[.agg #[], .pointer (some ⟨c,0,none⟩)] w (oc w S c a fs m clock p L):=by
 obtain⟨w0,vE⟩: ∃w0,w0=(w.alloc (.cells #[] 244)).alloc (.cells #[.int .i64 0, .int .u8 0, .bool false] 83):=⟨_,rfl⟩;have vF:Below w.heap.size w w0:=(by rw[vE];exact vc.alloc (by simp) _);have BB:w0.heap.size=w.heap.size+2:=(by rw[vE];simp);have Az:w0.heap[w.heap.size+1]? =some (.cells #[.int .i64 0, .int .u8 0, .bool false] 83 (0,0)):=by
  rw[vE];have:=ab (w.alloc (.cells #[] 244)) (.cells #[.int .i64 0, .int .u8 0, .bool false] 83)
  rwa [World.size_alloc]at this
 have En:=h.below vF;have hG:=fi c a fs m clock w0 S p L En.cache;have HG:=va hG;have vY:=va vE;have wO:=va vF;have Gx:=va Az;have zk:=h.lts;have Hz: ¬S (w.heap.size+1):=fun e=>by have:=zk.2.2 _ e;omega
 have zL:w.heap.size+1≠m/\w.heap.size+1≠c:=⟨by omega,by omega⟩;clear hG En vE vF Az h;go_enter Tryz.func230,Tryz.ntmps230;go_upto_region 1 with(fail);rw[<-vY.out];go_wp2_with (first
  |(go_at_call 97;refine(HG.out).mono ?_;rintro e w1 ⟨r,f,p',L',S',rfl,Hd,xJ,wi,vO⟩;have DQ:=(xJ.block (w.heap.size+1) (by omega) (fun e=>e.elim Hz zL.1)).trans Gx.out;have CY:=va Hd;have Gv:=va xJ;have vS:=va wi;have wC:=va vO;clear Hd xJ wi vO;have z0:w1.cell? ⟨w.heap.size+1,0,none⟩=some (.int .i64 0):=aa DQ 0;have z1:w1.cell? ⟨w.heap.size+1,1,none⟩=some (.int .u8 0):=aa DQ 1;have z2:w1.cell? ⟨w.heap.size+1,2,none⟩=some (.bool false):=aa DQ 2;have zf0:=ae DQ 0;have zf1:=ae DQ 1;have zf2:=ae DQ 2)
  |fail)
 have vH:w.heap.size+1<w1.heap.size:=(uZ DQ).1;refine bodyPost_ret (v:= .tuple #[.agg (ap ⟨f,0,false⟩), .bool true, .int .i64 r]) (by simp[results,Tryz.results230,go_sem,vH,z0,z1,z2,zf0,zf1,zf2,ap]) rfl ?_;have xH:=bq (w:=w1) (b:=w.heap.size+1) (.int .i64 (f:Int)) (.int .u8 0) (.bool false);have Lo:=((Mod.of wO.out).trans (Out.refl _ _) Gv.out);refine⟨r,f,p',L',S',rfl,CY.out.mod xH (fun b hb e=>?_) (fun e=>by omega) (fun e=>by omega) (fun e=>by omega),((Lo.sub (T:=fun b=>aw S c m b\/b=w.heap.size+1) fun b e=> .inl (e.elim .inl fun e=> .inr (.inl e))).trans (Out.refl _ _) (xH.sub fun b e=> .inr e)).own (fun b e=>e.imp id fun e=>by omega),fun b hb=>(vS.out b hb).imp id (fun e=>by omega),wC.out⟩;subst e;exact(vS.out _ hb).elim Hz (fun e=>by omega)
end
section
open Go.RowKit Go.Sort
attribute [local go_sem] Oper.semAt_some
def pm (x:Nat×Nat):Nat:=min x.2 (4096-x.1 % 4096)
def pst (x:Nat×Nat):Nat->Nat×Nat
 |0=>x
 |k+1=>((pst x k).1+pm (pst x k),(pst x k).2-pm (pst x k))
theorem pm_le (x:Nat×Nat):pm x<=x.2:=Nat.min_le_left _ _
variable {x:Nat×Nat}
theorem sY (h:0<x.2):0<pm x:=by
 unfold pm;have:=Nat.mod_lt x.1 (show 0<4096 by decide);omega
theorem dm (x:Nat×Nat) (k:Nat):(pst x k).1+(pst x k).2=x.1+x.2:=by
 induction k with
 |zero=>rfl
 |succ k ih=>
  have:=pm_le (pst x k);show(pst x k).1+pm (pst x k)+((pst x k).2-pm (pst x k))=_;omega
structure PgSt (W:World) (b1 b2:Nat) (x:Nat×Nat):Prop where
 n:W.heap[b1]? =some (.cells #[.int .i64 (x.2:Int)] 3 (0,0))
 a:W.heap[b2]? =some (.cells #[.int .u64 (x.1:Int)] 43 (0,0))
def cy (W:World) (b1 b2:Nat) (y:Nat×Nat):World:=(W.setCell ⟨b2,0,none⟩ (.int .u64 (y.1:Int))).setCell ⟨b1,0,none⟩ (.int .i64 (y.2:Int))
def eR (W:World) (b1:Nat):Nat:=match W.cell? ⟨b1,0,none⟩with|some (.int _ i)=>i.toNat|_ =>0
theorem PgSt.left {W:World} {b1 b2:Nat} (h:PgSt W b1 b2 x):eR W b1=x.2:=by
 have:W.cell? ⟨b1,0,none⟩=some (.int .i64 (x.2:Int)):=aa h.n 0;unfold eR;rw[this];simp
theorem gL (n:Nat) (hn:1<=n) (l b1 b2:Nat) (vK:b1≠b2) (x:Nat×Nat) (hx:x.1+x.2<9223372036854775808) (J:Nat->World->Prop) (Jx:World->Prop)
  (hJ: ∀k W,J k W->PgSt W b1 b2 (pst x k))
  (hY: ∀k W,J k W->0<(pst x k).2->YieldAt Fence.wide (n-1) Tryz.prog l #[.int .u64 ((pst x k).1:Int), .int .i64 (pm (pst x k):Int)] W fun e W'=>
   (e= .returned (.bool true)/\PgSt W' b1 b2 (pst x k)/\J (k+1) (cy W' b1 b2 (pst x (k+1))))\/(e= .returned (.bool false)/\Jx W'))
  (W:World) (h0:J 0 W):
  CallsIn Fence.wide n Tryz.prog 155 #[.func (.yield l) #[] #[], .pointer (some ⟨b1,0,none⟩), .pointer (some ⟨b2,0,none⟩)] W fun e W'=>(∃v,e= .returned v)/\
   ((∃k,(pst x k).2=0/\J k W')\/Jx W'):=by
 have Af:Fence.wide.round=none:=rfl;refine callsIn_of_wp Tryz.func155 rfl trivial ?_ Af;simp only[Tryz.ntmps155,List.size_toArray,vn,List.length_nil,Nat.reduceAdd,Nat.reduceSub,Array.replicate_succ,Array.replicate_zero,List.push_toArray,List.append_toArray,List.nil_append,List.cons_append]
 gi_wp2
 gi_loopw [4] (fun v wr=> ∃k:Nat,J k wr) (fun _ wr=>eR wr b1)
 case atStart=>exact⟨0,h0⟩
 case round=>
  obtain⟨k,Qi⟩:=hrel;have xo:=hJ k wr Qi;have Bf:=xo.left;obtain⟨a,ha⟩: ∃a,a=(pst x k).1:=⟨_,rfl⟩;obtain⟨r,hr⟩: ∃r,r=(pst x k).2:=⟨_,rfl⟩;have yq:=dm x k;rw[<-ha,<-hr]at yq;have c1:wr.cell? ⟨b1,0,none⟩=some (.int .i64 (r:Int)):=(by rw[hr];exact aa xo.n 0);have c2:wr.cell? ⟨b2,0,none⟩=some (.int .u64 (a:Int)):=(by rw[ha];exact aa xo.a 0);by_cases wo:0<r
  ·have Rk:=hY k wr Qi (by rw[<-hr];exact wo);obtain⟨M,hM⟩: ∃M,M=pm (pst x k):=⟨_,rfl⟩;rw[<-ha,<-hM]at Rk;have ZR:M<=r:=(by rw[hM,hr];exact pm_le _);have hM0:0<M:=(by rw[hM];exact sY (by rw[<-hr];exact wo));obtain⟨u,hu⟩: ∃u:Int,(a:Int) % 4096=u:=⟨_,rfl⟩;have WW:0<=u/\u<4096:=(by omega);have yS:IntKind.u64.wrap (4096-u)=4096-u:=(by rw[IntKind.wrap_u64];omega);have wD:IntKind.i64.wrap (4096-u)=4096-u:=(by rw[IntKind.wrap_i64];omega);have Ib:min (r:Int) (4096-u)=(M:Int):=by
    rw[hM];unfold pm;rw[<-ha,<-hr];omega
   obtain⟨fn,tmps,assign,body,hy,hR⟩:=Rk;have hpos2:(0:Int)<(r:Int):=(by omega);have CD:=va xo;have HLE:=va Bf;have HA:=va ha;have HR:=va hr;have HM:=va hM;have HS:=va yq;have CU:=va hR;have HJ:=va hJ;clear xo Bf ha hr hM yq hR wo hY hJ
   gi_wp2
   refine CU.out.mono ?_;rintro e W3 (⟨rfl,AL,It⟩|⟨rfl,ZS⟩)
   ·have d1:W3.cell? ⟨b1,0,none⟩=some (.int .i64 (r:Int)):=(by rw[HR.out];exact aa AL.n 0);have d2:W3.cell? ⟨b2,0,none⟩=some (.int .u64 (a:Int)):=(by rw[HA.out];exact aa AL.a 0);have f1:=ae AL.n 0;have f2:=ae AL.a 0;have xb:IntKind.u64.wrap (M:Int)=(M:Int):=(by have:=HS.out;rw[IntKind.wrap_u64];omega);have yR:IntKind.u64.wrap ((a:Int)+(M:Int))=(a:Int)+(M:Int):=(by have:=HS.out;rw[IntKind.wrap_u64];omega);have WV:IntKind.i64.wrap ((r:Int)-(M:Int))=(r:Int)-(M:Int):=(by have:=HS.out;rw[IntKind.wrap_i64];omega);have e1:(W3.setCell ⟨b2,0,none⟩ (.int .u64 ((a:Int)+(M:Int)))).cell? ⟨b1,0,none⟩=some (.int .i64 (r:Int)):=(kz ((aj (S:=fun b=>b=b2) rfl 0 _).block b1 (World.block_lt_of_cell? _ _ d1) vK) 0).trans d1;have Ln:cy W3 b1 b2 (pst x (k+1))=(W3.setCell ⟨b2,0,none⟩ (.int .u64 ((a:Int)+(M:Int)))).setCell ⟨b1,0,none⟩ (.int .i64 ((r:Int)-(M:Int))):=by
     show(W3.setCell ⟨b2,0,none⟩ (.int .u64 (((pst x k).1+pm (pst x k):Nat):Int))).setCell ⟨b1,0,none⟩ (.int .i64 (((pst x k).2-pm (pst x k):Nat):Int))=_;rw[<-HA.out,<-HR.out,<-HM.out,Int.natCast_add,Int.natCast_sub ZR]
    have ZT:=HJ.out _ _ It;rw[Ln]at It ZT;have wE:=ZT.left;have Er:=va wE;have CX:=va It;clear Ln It ZT wE AL
    gi_wp2
    go_roundw
    case rel=>exact⟨k+1,CX.out⟩
    case measure=>
     rw[Er.out,HLE.out];have h1:=pm_le (pst x k);show(pst x k).2-pm (pst x k)<(pst x k).2;have:=HM.out;have:=HR.out;omega
   ·gi_wp2
    refine bodyPost_ret (results_none rfl _ _ _) rfl ?_;exact⟨⟨_,rfl⟩, .inr ZS⟩
  ·have BP:r=0:=(by omega);have c3:wr.cell? ⟨b1,0,none⟩=some (.int .i64 0):=(by rw[c1,BP];rfl);have HK:=va (show(pst x k).2=0 by omega);clear c1 xo Bf ha hr yq wo BP
   gi_wp2
   go_end0;exact⟨⟨_,rfl⟩, .inl ⟨k,HK.out,Qi⟩⟩
end
