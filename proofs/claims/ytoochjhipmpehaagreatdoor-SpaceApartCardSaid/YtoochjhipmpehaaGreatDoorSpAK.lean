/- Spaces, plain: a table among others over one pool, and what its own steps leave to the others. -/
import Derived.Test.YtoochjhipmpehaaGreatDoorTnK
import Derived.Test.YtoochjhipmpehaaGreatDoorVqDK
set_option linter.unusedVariables false
set_option linter.unusedSimpArgs false
set_option maxRecDepth 100000
namespace Go.Proofs.YtoochjhipmpehaaGreatDoor
section
structure Sp (F:List Nd) (hold:Nat->Nat) (p:Pool) (L:List Slot) (T:Tab):Prop where
 good:T.Good p (held L hold) 0 4
 sole:Sole L
 one: ∀x,an T x->p.cnt x=1
 slow: ∀s∈L,s.frame<p.n
 filled:kK F p L
 once: ∀x,ay L x<=1
def kH (p:Pool) (T:Tab) (pg:Nat):Prop:= ∀g l,g≠pg->T.lf g=some l->l.copy=false->p.cnt l.frame=1
def Own (p:Pool) (T:Tab):Prop:= ∀g l,T.lf g=some l->l.copy=false->p.cnt l.frame=1
structure Far (hold:Nat->Nat) (T:Tab) (E:Nat->Prop) (p p':Pool):Prop where
 n:p'.n=p.n
 dat: ∀x,0<hold x-> ¬an T x->p'.dat x=p.dat x
 cnt: ∀x,x<p.n->0<hold x-> ¬E x->p.cnt x=hold x->p'.cnt x=hold x
variable {p:Pool} {T:Tab}
theorem Own.but (h:Own p T) (pg:Nat):kH p T pg:=fun g l _ h1 h2=>h g l h1 h2
variable {F:List Nd} {hold:Nat->Nat} {L:List Slot} {x:Nat}
theorem Sp.eq (h:Sp F hold p L T) (hx:x<p.n):p.cnt x=ah T x+az T x+(ay L x+hold x):=h.good.cnt x hx
theorem Sp.lt (h:Sp F hold p L T) (hx:an T x):x<p.n:=by
 obtain⟨lv,q,hq⟩:=hx;exact(h.good.node hq).1
theorem Sp.alone (h:Sp F hold p L T) (hx:an T x):x<p.n/\ah T x=0/\ay L x=0/\hold x=0:=by
 have h1:=h.lt hx;have h2:=h.eq h1;rw[h.one x hx,ao hx]at h2;exact⟨h1,by omega,by omega,by omega⟩
variable {pg:Nat} {l:Leaf}
theorem Sp.leaf (h:Sp F hold p L T) (hl:T.lf pg=some l):pg<bz/\l.prot<=7/\l.frame<p.n/\1<=p.cnt l.frame/\0<ah T l.frame/\ ¬an T l.frame:=by
 have h1:=h.good.leafOf hl;have h2:pg<bz:=h.good.ok.rootPage hl;have h3:=bO h2 hl;exact⟨h2,h1.1,h1.2.1,h1.2.2,h3,fun e=>by have:=(h.alone e).2.1;omega⟩
variable {E:Nat->Prop}
theorem Far.refl :Far hold T E p p:=⟨rfl,fun _ _ _ =>rfl,fun _ _ _ _ h=>h⟩
theorem Far.trans {T1:Tab} {p1 p2:Pool} {L1:List Slot} (h:Far hold T E p p1) (hs:Sp F hold p1 L1 T1) (k:Far hold T1 E p1 p2):Far hold T E p p2:=
 ⟨k.n.trans h.n,fun x hx hn=>(k.dat x hx fun e=>by have:=(hs.alone e).2.2.2;omega).trans (h.dat x hx hn),fun x hx h0 hE hc=>k.cnt x (by rw[h.n];exact hx) h0 hE (h.cnt x hx h0 hE hc)⟩
variable {p':Pool} {f:Nat}
theorem Far.less {v:Nat} (h:Far (upd hold f v) T E p p') (h0:hold f=0):Far hold T E p p':=by
 have e: ∀x,0<hold x->upd hold f v x=hold x:=fun x hx=>ag _ _ fun e=>by subst e;omega
 exact⟨h.n,fun x hx hn=>h.dat x (by rw[e x hx];exact hx) hn,fun x hx hp hE hc=>(h.cnt x hx (by rw[e x hp];exact hp) hE (by rw[e x hp];exact hc)).trans (e x hp)⟩
variable {L':List Slot}
theorem Sp.slots {Ar:Nat->Nat} (h:Sp F hold p L T) (hn:p'.n=p.n) (hb:T.But p' 0 4)
  (he: ∀x,x<p.n->p'.cnt x=ah T x+az T x+(ay L' x+Ar x)) (hd: ∀x,¬an T x->0<ah T x+hold x->p'.dat x=p.dat x) (Ki: ∀x,0<ah T x+az T x+hold x->ay L' x<=ay L x/\Ar x=hold x) (hS:Sole L') (WY: ∀s∈L',s.frame<p'.n) (Ub:kK F p' L') (h1: ∀x,ay L' x<=1):
  Sp F Ar p' L' T/\(∀E,Far hold T E p p')/\(∀x,0<ah T x->p'.dat x=p.dat x)/\(Own p T->Own p' T):=by
 refine⟨⟨⟨hb,fun x hx=>he x (by omega)⟩,hS,fun x hx=>?_,WY,Ub,h1⟩,fun E=>⟨hn,fun x h0 hN=>hd x hN (by omega),fun x hx h0 _ hc=>?_⟩,fun x h0=>hd x (fun e=>by have:=(h.alone e).2.1;omega) (by omega),fun ho g l hl hc=>?_⟩
 ·obtain⟨h1,h2,h3,h4⟩:=h.alone hx;have h5:=Ki x (by rw[ao hx];omega);rw[he x h1,ao hx];omega
 ·have h5:=Ki x (by omega);have h6:=h.eq hx;rw[he x hx];omega
 ·obtain⟨_,_,h3,h4,h5,h6⟩:=h.leaf hl;have h7:=Ki l.frame (by omega);have h8:=h.eq h3;rw[ho g l hl hc]at h8;rw[he _ h3];omega
structure Fresh (hold:Nat->Nat) (p p':Pool) (L':List Slot) (T:Tab) (f:Nat):Prop where
 lt:f<p.n
 hold:hold f=0
 leaf:ah T f=0
 node: ¬an T f
 slot:ay L' f=0
 one:p'.cnt f=1
 zero:p'.dat f=fun _ =>0
theorem Sp.even (h:Sp F hold p L T):Even p L fun f=>ah T f+az T f+hold f:=fun f hf=>by
 have:=h.eq hf;show _ =ay L f+(ah T f+az T f+hold f);omega
theorem Sp.take (h:Sp F hold p L T) (ht:ax p L 0 f p' L'):
  Sp F (upd hold f 1) p' L' T/\(∀E,Far hold T E p p')/\(∀x,0<ah T x->p'.dat x=p.dat x)/\(Own p T->Own p' T)/\Fresh hold p p' L' T f:=by
 have hT:=h.even.take h.sole ht;have h0:ah T f+az T f+hold f=0:=hT.none;have hN: ¬an T f:=fun e=>by have:=ao e;omega
 have hle: ∀x,ay L' x<=ay L x:=fun x=>List.Sublist.countP_le hT.sub;obtain⟨a1,a2,a3,a4⟩:=h.slots (p':=p') (L':=L') (Ar:=upd hold f 1) hT.n (h.good.but.same hT.n fun x hx=>hT.dat x fun e=>hN (e▸hx)) (fun x hx=>by
   have h5:=hT.even x (by rw[hT.n];exact hx);by_cases e:x=f
   ·subst e;rw[af]at h5⊢;omega
   ·rw[ag _ _ e]at h5⊢;rw[h5];show ay L' x+(ah T x+az T x+hold x)=_;omega) (fun x hx h5=>hT.dat x fun e=>by subst e;omega) (fun x hx=>⟨hle x,ag _ _ fun e=>by subst e;omega⟩) hT.sole (fun s hs=>by rw[hT.n];exact h.slow s (hT.sub.subset hs)) (hT.filled h.filled) (fun x=>vx (hle x) (h.once x))
 exact⟨a1,a2,a3,a4,hT.lt,by omega,by omega,hN,hT.noSlot,hT.one,hT.zero⟩
variable {ino page clock vB r:Int} {H:Nat->Nat}
theorem Even.getFar (h:Even p L H) (hS:Sole L) (hg:GetF F ino page p L clock r f p' L' vB) (hx:0<H x):p'.dat x=p.dat x/\ay L' x<=ay L x:=by
 cases hg with
 |bad h1=>exact⟨rfl,vd _⟩
 |err h1 h2 h3=>exact⟨rfl,vd _⟩
 |hit s h0 h1 hr hs=>
  obtain⟨hs,hi,hp⟩:=dL hs;exact⟨rfl,by rw[jE (s0:=s) (s:=⟨ino,page,s.frame,clock+1⟩) hS hs hi hp rfl];exact vd _⟩
 |full h0 h1 hr hn ht=>exact⟨rfl,vd _⟩
 |miss f p1 L1 h0 h1 hr hn ht=>
  have hT:=h.take hS ht;have vK:x≠f:=fun e=>by have:=hT.none;subst e;omega
  refine⟨(show upd p1.dat f _ x=_ from ag _ _ vK).trans (hT.dat x vK),?_⟩;rw[jF (s:=⟨ino,page,f,clock+1⟩) (lQ (eH hn) ht.sub),if_neg (fun e=>vK e.symm)];exact List.Sublist.countP_le hT.sub
theorem Even.getOnce (h:Even p L H) (hS:Sole L) (h1: ∀x,ay L x<=1) (hg:GetF F ino page p L clock r f p' L' vB) (x:Nat):ay L' x<=1:=by
 cases hg with
 |bad=>exact h1 x
 |err=>exact h1 x
 |hit s h0 _ hr hs=>
  obtain⟨hs,hi,hp⟩:=dL hs;rw[jE (s0:=s) (s:=⟨ino,page,s.frame,clock+1⟩) hS hs hi hp rfl];exact h1 x
 |full=>exact h1 x
 |miss f p1 L1 h0 _ hr hn ht=>
  have hT:=h.take hS ht;have hle:ay L1 x<=ay L x:=List.Sublist.countP_le hT.sub;rw[jF (s:=⟨ino,page,f,clock+1⟩) (lQ (eH hn) ht.sub)];have h2:=h1 x;by_cases e:f=x
  ·rw[if_pos e,<-e,hT.noSlot];exact vd _
  ·rw[if_neg e];omega
theorem Sp.get (h:Sp F hold p L T) (hg:GetF F ino page p L clock r f p' L' vB):
  Sp F hold p' L' T/\(∀E,Far hold T E p p')/\(∀x,0<ah T x->p'.dat x=p.dat x)/\(Own p T->Own p' T)/\(r=0->f<p'.n/\0<ay L' f/\ ¬an T f/\1<=p'.cnt f/\p'.dat f=np F ino page/\(dF F ino page).1=0/\0<=page/\page<16):=by
 have hG:=h.even.get h.sole h.filled h.slow hg;have zB:=fun x hx=>h.even.getFar h.sole hg (x:=x) hx;obtain⟨a1,a2,a3,a4⟩:=h.slots (p':=p') (L':=L') (Ar:=hold) hG.n (h.good.but.same hG.n fun x hx=>(zB x (by rw[ao hx];omega)).1) (fun x hx=>by
   have h5:=hG.even x (by rw[hG.n];exact hx);rw[h5];show ay L' x+(ah T x+az T x+hold x)=_;omega) (fun x hx h5=>(zB x (by omega)).1) (fun x hx=>⟨(zB x hx).2,rfl⟩) hG.sole (fun s hs=>by rw[hG.n];exact hg.slow rfl h.slow s hs) hG.filled (h.even.getOnce h.sole h.once hg)
 refine⟨a1,a2,a3,a4,fun hr=>?_⟩;obtain⟨b1,b2,⟨s,hs,s1,s2,s3⟩,b4,b5,b6⟩:=hG.there hr;have hp:=aU hs;rw[s3]at hp;exact⟨by rw[hG.n];exact b1,hp,fun e=>by have:=(a1.alone e).2.2.1;omega,b2,by have:=(hG.filled s hs).1;rwa [s1,s2,s3]at this,b4,b5,b6⟩
theorem Sp.down (h:Sp F hold p L T) (hf:0<hold f):
  Sp F (upd hold f (hold f-1)) (p.down f) L T/\(Own p T->Own (p.down f) T)/\ ∀pg,kH p T pg->kH (p.down f) T pg:=by
 have hc: ∀x,x≠f->(p.down f).cnt x=p.cnt x:=fun x hx=>ag _ _ hx;have hg:=h.good.down (f:=f) (by unfold held;omega);rw[fe _ _ _ hf]at hg;have hw: ∀g l,T.lf g=some l->p.cnt l.frame=1->(p.down f).cnt l.frame=1:=fun g l hl h1=>by
  rw[hc _ fun e=>?_]
  ·exact h1
  ·obtain⟨_,_,h3,h4,h5,h6⟩:=h.leaf hl;have:=h.eq h3;rw[e]at this h5 h1;omega
 refine⟨⟨hg,h.sole,fun x hx=>?_,h.slow,h.filled,h.once⟩,fun ho g l hl xK=>hw g l hl (ho g l hl xK),fun pg ho g l vK hl xK=>hw g l hl (ho g l vK hl xK)⟩;rw[hc x fun e=>by subst e;have:=(h.alone hx).2.2.2;omega];exact h.one x hx
def lW (o:Option Leaf) (f:Nat):Nat:=match o with|some l=>if l.frame=f then 1 else 0|none=>0
variable {T':Tab}
theorem fY (yt:pg<bz) (o:Option Leaf) (wH:T'.lf=upd T.lf pg o) (f:Nat):
  ah T' f+(if cE T f pg=true then 1 else 0)=ah T f+lW o f:=by
 have e2:ah T' f=ah (T.lay pg o) f:=by
  unfold ah;congr 1;funext i;unfold cE Tab.lay;rw[wH]
 rw[e2];have h:=dv (t:=T) yt o f;cases o<;>exact h
variable {g:Nat}
theorem jZ {l':Leaf} (yt:pg<bz) (hg:g<bz) (vK:g≠pg) (h1:T.lf pg=some l) (h2:T.lf g=some l') (hf:l'.frame=l.frame):2<=ah T l.frame:=by
 have h3:=fY (T:=T) (T':=T.lay pg none) yt none rfl l.frame;rw[du h1,if_pos (by simp)]at h3;have h0:lW none l.frame=0:=rfl;have h4:=bO (t:=T.lay pg none) (l:=l') hg (by show upd T.lf pg none g=_;rw[ag _ _ vK];exact h2);rw[hf]at h4;omega
theorem Sp.map (h:Sp F hold p L T) (hm:gX p T L hold pg l 0 p' T' L') (hf:kJ p T L hold l 0 p' T' L') (yt:pg<bz) (vW:T.lf pg=none) (hl:0<ay L l.frame+hold l.frame) (DI:l.frame<p.n) (hN: ¬an T l.frame):
  Sp F hold p' L' T'/\T'.lf=upd T.lf pg (some l)/\(∀E,E l.frame->Far hold T E p p')/\(∀x,x=l.frame\/0<ah T x->p'.dat x=p.dat x)/\(kH p T pg->kH p' T' pg)/\(ay L' l.frame=0->ah T l.frame=0->p'.cnt l.frame=1+hold l.frame)/\p.left<=p'.left+3/\L'.Sublist L/\(∀x,x<p.n->x≠l.frame->p'.cnt x<=p.cnt x\/p'.cnt x=1):=by
 obtain⟨m1,m2,m3,m4,m5⟩:=hm;rcases m5 with⟨e,_⟩|⟨_,n1,n2,n3⟩
 ·exact absurd e (by decide)
 obtain⟨f1,f2⟩:=hf;rcases f2 with⟨e,_⟩|⟨_,f3,f4⟩
 ·exact absurd e (by decide)
 have hle: ∀x,ay L' x<=ay L x:=fun x=>List.Sublist.countP_le m4;have hg:=m1.any 0 4;have heq: ∀x,x<p.n->p'.cnt x=ah T' x+az T' x+(ay L' x+hold x):=fun x hx=>hg.cnt x (by rw[m2];exact hx);have BE: ∀x,ah T' x=ah T x+(if l.frame=x then 1 else 0):=fun x=>by
  have:=fY yt (some l) n1 x;rw[dt vW]at this;simpa [lW]using this
 have Ar: ∀x,¬an T x->an T' x->p'.cnt x=1:=fun x h1 h2=>(f3 x h2).resolve_left h1;have xj: ∀x,an T' x->p'.cnt x=1:=fun x hx=>by
  by_cases h1:an T x
  ·obtain⟨b1,b2,b3,b4⟩:=h.alone h1;have b5:=hle x;have b6:l.frame≠x:=fun e=>hN (e▸h1);rw[heq x b1,BE,if_neg b6,ao hx];omega
  ·exact Ar x h1 hx
 have hNn: ¬an T' l.frame:=fun e=>hN (n3 e);have NK: ∀x,x<p.n->x≠l.frame->0<hold x+ah T x->az T' x<=az T x:=fun x hx vK h0=>by
  by_cases h1:an T' x
  ·by_cases h2:an T x
   ·rw[ao h1,ao h2];exact vd _
   ·have h3:=Ar x h2 h1;rw[heq x hx,ao h1,BE]at h3;omega
  ·rw[aE h1];exact vw _
 refine⟨⟨hg,m3,xj,fun s hs=>by rw[m2];exact h.slow s (m4.subset hs),fun s hs=>?_,fun x=>vx (hle x) (h.once x)⟩,n1,fun E hE=>⟨m2,fun x h0 hn=>f1 x hn (.inr (by omega)),fun x hx h0 vK hc=>?_⟩,fun x hx=>?_,fun ho g l' vK GN xK=>?_,fun h1 h2=>?_,f4,m4,fun x hx vK=>?_⟩
 ·rw[f1 s.frame (fun e=>by have:=(h.alone e).2.2.1;have:=aU (m4.subset hs);omega) (.inr (by have:=aU hs;omega))];exact h.filled s (m4.subset hs)
 ·have h5:=h.eq hx;have Rm:x≠l.frame:=fun e=>vK (e▸hE);have h6:=NK x hx Rm (by omega);have h7:=hle x;have h8:=BE x;rw[if_neg (fun e=>Rm e.symm)]at h8;rw[heq x hx];omega
 ·rcases hx with hx|hx
  ·subst hx;exact f1 _ hN (.inl rfl)
  ·exact f1 x (fun e=>by have:=(h.alone e).2.1;omega) (.inr (by omega))
 ·rw[n1,ag _ _ vK]at GN;obtain⟨c1,c2,c3,c4,c5,c6⟩:=h.leaf GN;have h1:=ho g l' vK GN xK;have h2:=h.eq c3;have Pn:l'.frame≠l.frame:=fun e=>by rw[e]at h1 h2 c5;omega
  have h6:=NK _ c3 Pn (by omega);have h7:=hle l'.frame;have h8:=BE l'.frame;rw[if_neg (fun e=>Pn e.symm)]at h8;rw[heq _ c3];omega
 ·rw[heq _ DI,BE,if_pos rfl,aE hNn];omega
 ·by_cases h1:an T' x
  ·exact .inr (xj x h1)
  ·left;have h5:=h.eq hx;have h7:=hle x;have h8:=BE x;rw[if_neg (fun e=>vK e.symm)]at h8;rw[heq x hx,aE h1];omega
theorem Sp.mapNot (h:Sp F hold p L T) (hm:gX p T L hold pg l r p' T' L') (hf:kJ p T L hold l r p' T' L') (hr:r≠0) (hN: ¬an T l.frame):
  r=4/\T'=T/\Sp F hold p' L' T/\(∀E,Far hold T E p p')/\(∀x,0<ah T x->p'.dat x=p.dat x)/\(Own p T->Own p' T)/\(∃gs:List Nat,gs.length<=2/\ ∀f,f<p.n->ay L f<=1->0<ah T f+az T f+hold f\/f=l.frame\/f∈gs)/\L'.Sublist L:=by
 obtain⟨m1,m2,m3,m4,m5⟩:=hm;rcases m5 with⟨e4,eT,_⟩|⟨e,_⟩
 rotate_left
 ·exact absurd e hr
 obtain⟨f1,f2⟩:=hf;rcases f2 with⟨_,f3⟩|⟨e,_⟩
 rotate_left
 ·exact absurd e hr
 subst eT;have hle: ∀x,ay L' x<=ay L x:=fun x=>List.Sublist.countP_le m4;have hg:=m1.any 0 4;obtain⟨a1,a2,a3,a4⟩:=h.slots (p':=p') (L':=L') (Ar:=hold) m2 hg.but (fun x hx=>hg.cnt x (by rw[m2];exact hx)) (fun x hx h5=>f1 x hx (.inr (by omega))) (fun x hx=>⟨hle x,rfl⟩) m3 (fun s hs=>by rw[m2];exact h.slow s (m4.subset hs)) (fun s hs=>by
   rw[f1 s.frame (fun e=>by have:=(h.alone e).2.2.1;have:=aU (m4.subset hs);omega) (.inr (by have:=aU hs;omega))];exact h.filled s (m4.subset hs)) (fun x=>vx (hle x) (h.once x))
 exact⟨e4,rfl,a1,a2,a3,a4,f3,m4⟩
def bg (p:Pool) (was l:Leaf) (g pg:Nat):Pool:=((p.up l.frame).down was.frame).store g (aF (p.dat g) (num pg 1) l.pack)
theorem Sp.set {was:Leaf} (h:Sp F hold p L T) (hw:T.lf pg=some was) (hg:T.nd 1 (part pg 1)=some g) (h7:l.prot<=7) (hf:l.frame<p.n) (hN: ¬an T l.frame):
  Sp F hold (bg p was l g pg) L (T.lay pg (some l))/\(∀E,E l.frame\/0<ah T l.frame->Far hold T E p (bg p was l g pg))/\(∀x,¬an T x->(bg p was l g pg).dat x=p.dat x)/\(l.frame=was.frame\/ah T l.frame=0->kH p T pg->kH (bg p was l g pg) (T.lay pg (some l)) pg)/\
  (∀x,x<p.n->(bg p was l g pg).cnt x+(if was.frame=x then 1 else 0)=p.cnt x+(if l.frame=x then 1 else 0)):=by
 obtain⟨c1,c2,c3,c4,c5,c6⟩:=h.leaf hw;have hG:(T.lay pg (some l)).Good (bg p was l g pg) (held L hold) 0 4:=((h.good.any pg 4).laySet c1 hg hw h7 hf).any 0 4;have heq: ∀x,x<p.n->(bg p was l g pg).cnt x=ah (T.lay pg (some l)) x+az T x+(ay L x+hold x):=fun x hx=>by rw[<-eE T pg (some l)];exact hG.cnt x hx
 have BE: ∀x,ah (T.lay pg (some l)) x+(if was.frame=x then 1 else 0)=ah T x+(if l.frame=x then 1 else 0):=fun x=>by
  have:=dv c1 (some l) (t:=T) x;rw[du hw]at this;simpa using this
 have hgn:an T g:=⟨_,_,hg⟩;have Fc: ∀x,¬an T x->(bg p was l g pg).dat x=p.dat x:=fun x hx=>ag _ _ fun e=>hx (e▸hgn);refine⟨⟨hG,h.sole,fun x hx=>?_,h.slow,fun s hs=>?_,h.once⟩,fun E hE=>⟨rfl,fun x _ hn=>Fc x hn,fun x hx h0 vK hc=>?_⟩,Fc,fun Fe ho g' l' vK GN xK=>?_,fun x hx=>?_⟩
 ·have Jf:an T x:=hx;obtain⟨b1,b2,b3,b4⟩:=h.alone Jf;have b5:=BE x;have b6:l.frame≠x:=fun e=>hN (e▸Jf);rw[if_neg b6]at b5;rw[heq x b1,ao Jf];omega
 ·rw[Fc _ fun e=>by have:=(h.alone e).2.2.1;have:=aU hs;omega];exact h.filled s hs
 ·have h5:=h.eq hx;have Rm:l.frame≠x:=fun e=>by
   rcases hE with hE|hE
   ·exact vK (e▸hE)
   ·rw[e]at hE;omega
  have h8:=BE x;rw[if_neg Rm]at h8;rw[heq x hx];omega
 ·have wE:T.lf g'=some l':=by
   have:upd T.lf pg (some l) g'=some l':=GN
   rwa [ag _ _ vK]at this
  obtain⟨d1,d2,d3,d4,d5,d6⟩:=h.leaf wE;have h1:=ho g' l' vK wE xK;have h2:=h.eq d3;have hnw:was.frame≠l'.frame:=fun e=>by
   have:=jZ c1 d1 vK hw wE e.symm;rw[e]at this;omega
  have Pm:l.frame≠l'.frame:=fun e=>by
   rcases Fe with Fe|Fe
   ·exact hnw (Fe▸e)
   ·rw[e]at Fe;omega
  have h8:=BE l'.frame;rw[if_neg Pm,if_neg hnw]at h8;rw[heq _ d3];omega
 ·have h1:=BE x;have h2:=h.eq hx;rw[heq x hx];omega
theorem Sp.unmap (h:Sp F hold p L T) (hg:Gone p T (held L hold) pg 4 p' T'):
  Sp F hold p' L T'/\T'.lf=upd T.lf pg none/\(∀E,Far hold T E p p')/\(∀x,¬an T x->p'.dat x=p.dat x)/\(Own p T->Own p' T')/\(∀x,x<p.n->p'.cnt x<=p.cnt x):=by
 have hG:=hg.good.any 0 4;have hn:=hg.n;have heq: ∀x,x<p.n->p'.cnt x=ah T' x+az T' x+(ay L x+hold x):=fun x hx=>hG.cnt x (by omega);have Fx: ∀x,an T' x->an T x:=fun x ⟨lv,q,e⟩=>⟨lv,q,hg.sub _ _ _ e⟩;have Tm: ∀x,az T' x<=az T x:=fun x=>by
  by_cases h1:an T' x
  ·rw[ao h1,ao (Fx x h1)];exact vd _
  ·rw[aE h1];exact vw _
 have BE: ∀x,ah T' x<=ah T x:=fun x=>by
  by_cases yt:pg<bz
  ·have:=fY yt none hg.lf x;have h0:lW none x=0:=rfl;omega
  ·have e:T.lf pg=none:=by
    cases hc:T.lf pg with
    |none=>rfl
    |some l=>exact absurd (h.leaf hc).1 yt
   have e2:T'.lf=T.lf:=by
    rw[hg.lf];funext i;by_cases hi:i=pg
    ·subst hi;rw[af,e]
    ·rw[ag _ _ hi]
   unfold ah cE;rw[e2];exact vd _
 refine⟨⟨hG,h.sole,fun x hx=>?_,fun s hs=>by rw[hn];exact h.slow s hs,fun s hs=>?_,h.once⟩,hg.lf,fun E=>⟨hn,fun x _ hN=>hg.kept x hN,fun x hx h0 _ hc=>?_⟩,hg.kept,fun ho g l hl xK=>?_,fun x hx=>?_⟩
 ·obtain⟨b1,b2,b3,b4⟩:=h.alone (Fx x hx);have:=BE x;rw[heq x b1,ao hx];omega
 ·rw[hg.kept _ fun e=>by have:=(h.alone e).2.2.1;have:=aU hs;omega];exact h.filled s hs
 ·have h5:=h.eq hx;have h1:=BE x;have h2:=Tm x;rw[heq x hx];omega
 ·have wE:T.lf g=some l:=by
   rw[hg.lf]at hl;by_cases e:g=pg
   ·subst e;rw[af]at hl;cases hl
   ·rwa [ag _ _ e]at hl
  obtain⟨d1,d2,d3,d4,d5,d6⟩:=h.leaf wE;have h1:=ho g l wE xK;have h2:=h.eq d3;have h3:=BE l.frame;have h4:=Tm l.frame;have h5:=bO (t:=T') d1 hl;rw[heq _ d3];omega
 ·have h5:=h.eq hx;have h1:=BE x;have h2:=Tm x;rw[heq x hx];omega
theorem Sp.store (h:Sp F hold p L T) (hl:T.lf pg=some l) (h1:p.cnt l.frame=1) (d:Nat->Nat):
  Sp F hold (p.store l.frame d) L T/\(∀E,Far hold T E p (p.store l.frame d))/\(Own p T->Own (p.store l.frame d) T):=by
 obtain⟨c1,c2,c3,c4,c5,c6⟩:=h.leaf hl;have h2:=h.eq c3;have vK: ∀x,x≠l.frame->(p.store l.frame d).dat x=p.dat x:=fun x hx=>ag _ _ hx;refine⟨⟨⟨h.good.but.same rfl fun x hx=>vK x fun e=>c6 (e▸hx),h.good.cnt⟩,h.sole,h.one,h.slow,fun s hs=>?_,h.once⟩,fun E=>⟨rfl,fun x h0 _ =>vK x fun e=>by subst e;omega,fun x _ _ _ hc=>hc⟩,id⟩;rw[vK _ fun e=>by have:=aU hs;rw[e]at this;omega];exact h.filled s hs
theorem Sp.storeH (h:Sp F hold p L T) (hf:0<hold f) (hs:ay L f=0) (d:Nat->Nat):Sp F hold (p.store f d) L T:=by
 have vK: ∀x,x≠f->(p.store f d).dat x=p.dat x:=fun x hx=>ag _ _ hx;refine⟨⟨h.good.but.same rfl fun x hx=>vK x fun e=>by subst e;have:=(h.alone hx).2.2.2;omega,h.good.cnt⟩,h.sole,h.one,h.slow,fun s hs=>?_,h.once⟩;rw[vK _ fun e=>by have:=aU hs;rw[e]at this;omega];exact h.filled s hs
noncomputable def tn (T:Tab):Nat->Nat:=fun f=>ah T f+az T f
theorem jL (hn:p.n<=1024) (hf:f<p.n) (h0:hold f=0) (hz:p.dat f=fun _ =>0) (he:Even p L (upd hold f 1)):(aG f).Good p (held L hold) 0 4:=by
 constructor
 ·constructor
  ·rw[dK];rfl
  ·intro q f h;exact(bS.1 h).2.1
  ·intro lv q f h;have:=(bS.1 h).1;omega
  ·intro lv q f h h4;have:=(bS.1 h).1;omega
  ·intro pg l h;cases h
  ·intro l1 p1 l2 p2 f h h';have a:=bS.1 h;have b:=bS.1 h';exact⟨by omega,by omega⟩
  ·intro lv q g h;have a:=bS.1 h;obtain⟨rfl,rfl,rfl⟩:=a;refine⟨hf,fun k hk=>?_⟩;rw[hz,mC];unfold Tab.word;rw[if_neg (by decide)];have:(aG g).nd (4-1) (0*512+k)=none:=by
    show(if(4-1:Nat)=4/\0*512+k=0 then some g else none)=none;rw[if_neg (by omega)]
   rw[this]
  ·intro lv q g h h4;have:=(bS.1 h).1;omega
  ·exact hn
 ·intro x hx;have h1:=he x hx;rw[eZ];unfold held;by_cases e:x=f
  ·subst e;rw[ao (cv.2 rfl)];rw[af]at h1;omega
  ·rw[aE (fun h=>e (cv.1 h))];rw[ag _ _ e]at h1;omega
end
