/- Spaces, plain: a table among others over one pool, and what its own steps leave to the others. -/
import Derived.Test.YtoochjhipmpehaaGreatDoorKcK
import Derived.Test.YtoochjhipmpehaaGreatDoorKdK
import Derived.LoopIn
import Derived.LoopNIn
import Derived.RangeFuncLeaves
import Derived.RangeFuncNested
import Derived.Shelf.Abstract
import Derived.Shelf.RegionOpen
import Derived.TacticsInMore
set_option linter.unusedVariables false
set_option linter.unusedSimpArgs false
set_option maxRecDepth 100000
set_option maxHeartbeats 4000000
namespace Go.Proofs.YtoochjhipmpehaaGreatDoor
open Go.Proofs.Tryz
section
structure Sp (F:List Nd)(hold:Nat->Nat)(p:Pool)(L:List Slot)(T:Tab):Prop where
 good:T.Good p (held L hold) 0 4
 sole:Sole L
 one: ∀x,an T x->p.cnt x=1
 slow: ∀s∈L,s.frame<p.n
 filled:lz F p L
 once: ∀x,ax L x<=1
def lw (p:Pool)(T:Tab)(pg:Nat):Prop:= ∀g l,g≠pg->T.lf g=some l->l.copy=false->p.cnt l.frame=1
def Own (p:Pool)(T:Tab):Prop:= ∀g l,T.lf g=some l->l.copy=false->p.cnt l.frame=1
structure Far (hold:Nat->Nat)(T:Tab)(E:Nat->Prop)(p p':Pool):Prop where
 n:p'.n=p.n
 dat: ∀x,0<hold x-> ¬an T x->p'.dat x=p.dat x
 cnt: ∀x,x<p.n->0<hold x-> ¬E x->p.cnt x=hold x->p'.cnt x=hold x
variable {p:Pool}{T:Tab}
theorem Own.but (h:Own p T)(pg:Nat):lw p T pg:=fun g l _ h1 h2=>h g l h1 h2
variable {F:List Nd}{hold:Nat->Nat}{L:List Slot}{x:Nat}
theorem Sp.eq (h:Sp F hold p L T)(hx:x<p.n):p.cnt x=ai T x+ay T x+(ax L x+hold x):=h.good.cnt x hx
theorem Sp.lt (h:Sp F hold p L T)(hx:an T x):x<p.n:=by
 obtain⟨lv,q,hq⟩:=hx;exact(h.good.node hq).1
theorem Sp.alone (h:Sp F hold p L T)(hx:an T x):x<p.n/\ai T x=0/\ax L x=0/\hold x=0:=by
 have h1:=h.lt hx;have h2:=h.eq h1;rw[h.one x hx,ao hx]at h2;exact⟨h1,o_,o_,o_⟩
variable {pg:Nat}{l:Leaf}
theorem Sp.leaf (h:Sp F hold p L T)(hl:T.lf pg=some l):pg<bN/\l.prot<=7/\l.frame<p.n/\1<=p.cnt l.frame/\0<ai T l.frame/\ ¬an T l.frame:=by
 have h1:=h.good.leafOf hl;have h2:pg<bN:=h.good.ok.rootPage hl;have h3:=cC h2 hl;exact⟨h2,h1.1,h1.2.1,h1.2.2,h3,fun e=>by have:=(h.alone e).2.1;omega⟩
variable {E:Nat->Prop}
theorem Far.refl :Far hold T E p p:=⟨rfl,fun _ _ _ =>rfl,fun _ _ _ _ h=>h⟩
theorem Far.trans {T1:Tab}{p1 p2:Pool}{L1:List Slot}(h:Far hold T E p p1)(hs:Sp F hold p1 L1 T1)(k:Far hold T1 E p1 p2):Far hold T E p p2:=
 ⟨k.n.trans h.n,fun x hx hn=>(k.dat x hx fun e=>by have:=(hs.alone e).2.2.2;omega).trans (h.dat x hx hn),fun x hx h0 hE hc=>k.cnt x (by rw[h.n];exact hx) h0 hE (h.cnt x hx h0 hE hc)⟩
variable {p':Pool}{f:Nat}
theorem Far.less {v:Nat}(h:Far (upd hold f v) T E p p')(h0:hold f=0):Far hold T E p p':=by
 have e: ∀x,0<hold x->upd hold f v x=hold x:=fun x hx=>ah _ _ fun e=>by subst e;omega
 exact⟨h.n,fun x hx hn=>h.dat x (by rw[e x hx];exact hx) hn,fun x hx hp hE hc=>(h.cnt x hx (by rw[e x hp];exact hp) hE (by rw[e x hp];exact hc)).trans (e x hp)⟩
variable {L':List Slot}
theorem Sp.slots {Cf:Nat->Nat}(h:Sp F hold p L T)(hn:p'.n=p.n)(hb:T.But p' 0 4)
  (he: ∀x,x<p.n->p'.cnt x=ai T x+ay T x+(ax L' x+Cf x))(hd: ∀x,¬an T x->0<ai T x+hold x->p'.dat x=p.dat x)(MC: ∀x,0<ai T x+ay T x+hold x->ax L' x<=ax L x/\Cf x=hold x)(hS:Sole L')(TP: ∀s∈L',s.frame<p'.n)(Kz:lz F p' L')(h1: ∀x,ax L' x<=1):
  Sp F Cf p' L' T/\(∀E,Far hold T E p p')/\(∀x,0<ai T x->p'.dat x=p.dat x)/\(Own p T->Own p' T):=by
 refine⟨⟨⟨hb,fun x hx=>he x o_⟩,hS,fun x hx=>?_,TP,Kz,h1⟩,fun E=>⟨hn,fun x h0 hN=>hd x hN o_,fun x hx h0 _ hc=>?_⟩,fun x h0=>hd x (fun e=>by have:=(h.alone e).2.1;omega) o_,fun ho g l hl hc=>?_⟩
 ·obtain⟨h1,h2,h3,h4⟩:=h.alone hx;have h5:=MC x (by rw[ao hx];omega);rw[he x h1,ao hx];omega
 ·have h5:=MC x o_;have h6:=h.eq hx;rw[he x hx];omega
 ·obtain⟨_,_,h3,h4,h5,h6⟩:=h.leaf hl;have h7:=MC l.frame o_;have h8:=h.eq h3;rw[ho g l hl hc]at h8;rw[he _ h3];omega
structure Fresh (hold:Nat->Nat)(p p':Pool)(L':List Slot)(T:Tab)(f:Nat):Prop where
 lt:f<p.n
 hold:hold f=0
 leaf:ai T f=0
 node: ¬an T f
 slot:ax L' f=0
 one:p'.cnt f=1
 zero:p'.dat f=fun _ =>0
theorem Sp.even (h:Sp F hold p L T):Even p L fun f=>ai T f+ay T f+hold f:=fun f hf=>by
 have:=h.eq hf;show _ =ax L f+(ai T f+ay T f+hold f);omega
theorem Sp.take (h:Sp F hold p L T)(ht:aw p L 0 f p' L'):
  Sp F (upd hold f 1) p' L' T/\(∀E,Far hold T E p p')/\(∀x,0<ai T x->p'.dat x=p.dat x)/\(Own p T->Own p' T)/\Fresh hold p p' L' T f:=by
 have hT:=h.even.take h.sole ht;have h0:ai T f+ay T f+hold f=0:=hT.none;have hN: ¬an T f:=fun e=>by have:=ao e;omega
 have hle: ∀x,ax L' x<=ax L x:=fun x=>List.Sublist.countP_le hT.sub;obtain⟨a1,a2,a3,a4⟩:=h.slots (p':=p') (L':=L') (Cf:=upd hold f 1) hT.n (h.good.but.same hT.n fun x hx=>hT.dat x fun e=>hN (e▸hx)) (fun x hx=>by
   have h5:=hT.even x (by rw[hT.n];exact hx);by_cases e:x=f
   ·subst e;rw[af]at h5⊢;omega
   ·rw[ah _ _ e]at h5⊢;rw[h5];show ax L' x+(ai T x+ay T x+hold x)=_;omega) (fun x hx h5=>hT.dat x fun e=>by subst e;omega) (fun x hx=>⟨hle x,ah _ _ fun e=>by subst e;omega⟩) hT.sole (fun s hs=>by rw[hT.n];exact h.slow s (hT.sub.subset hs)) (hT.filled h.filled) (fun x=>xn (hle x) (h.once x))
 exact⟨a1,a2,a3,a4,hT.lt,o_,o_,hN,hT.noSlot,hT.one,hT.zero⟩
variable {ino page clock xr r:Int}{H:Nat->Nat}
theorem Even.getFar (h:Even p L H)(hS:Sole L)(hg:GetF F ino page p L clock r f p' L' xr)(hx:0<H x):p'.dat x=p.dat x/\ax L' x<=ax L x:=by
 cases hg with
 |bad h1=>exact⟨rfl,wS _⟩
 |err h1 h2 h3=>exact⟨rfl,wS _⟩
 |hit s h0 h1 hr hs=>
  obtain⟨hs,hi,hp⟩:=ed hs;exact⟨rfl,by rw[kq (s0:=s) (s:=⟨ino,page,s.frame,clock+1⟩) hS hs hi hp rfl];exact wS _⟩
 |full h0 h1 hr hn ht=>exact⟨rfl,wS _⟩
 |miss f p1 L1 h0 h1 hr hn ht=>
  have hT:=h.take hS ht;have xA:x≠f:=fun e=>by have:=hT.none;subst e;omega
  refine⟨(show upd p1.dat f _ x=_ from ah _ _ xA).trans (hT.dat x xA),?_⟩;rw[kt (s:=⟨ino,page,f,clock+1⟩) (mL (eZ hn) ht.sub),if_neg (fun e=>xA e.symm)];exact List.Sublist.countP_le hT.sub
theorem Even.getOnce (h:Even p L H)(hS:Sole L)(h1: ∀x,ax L x<=1)(hg:GetF F ino page p L clock r f p' L' xr)(x:Nat):ax L' x<=1:=by
 cases hg with
 |bad=>exact h1 x
 |err=>exact h1 x
 |hit s h0 _ hr hs=>
  obtain⟨hs,hi,hp⟩:=ed hs;rw[kq (s0:=s) (s:=⟨ino,page,s.frame,clock+1⟩) hS hs hi hp rfl];exact h1 x
 |full=>exact h1 x
 |miss f p1 L1 h0 _ hr hn ht=>
  have hT:=h.take hS ht;have hle:ax L1 x<=ax L x:=List.Sublist.countP_le hT.sub;rw[kt (s:=⟨ino,page,f,clock+1⟩) (mL (eZ hn) ht.sub)];have h2:=h1 x;by_cases e:f=x
  ·rw[if_pos e,<-e,hT.noSlot];exact wS _
  ·rw[if_neg e];omega
theorem Sp.get (h:Sp F hold p L T)(hg:GetF F ino page p L clock r f p' L' xr):
  Sp F hold p' L' T/\(∀E,Far hold T E p p')/\(∀x,0<ai T x->p'.dat x=p.dat x)/\(Own p T->Own p' T)/\(r=0->f<p'.n/\0<ax L' f/\ ¬an T f/\1<=p'.cnt f/\p'.dat f=ov F ino page/\(dV F ino page).1=0/\0<=page/\page<16):=by
 have hG:=h.even.get h.sole h.filled h.slow hg;have Br:=fun x hx=>h.even.getFar h.sole hg (x:=x) hx;obtain⟨a1,a2,a3,a4⟩:=h.slots (p':=p') (L':=L') (Cf:=hold) hG.n (h.good.but.same hG.n fun x hx=>(Br x (by rw[ao hx];omega)).1) (fun x hx=>by
   have h5:=hG.even x (by rw[hG.n];exact hx);rw[h5];show ax L' x+(ai T x+ay T x+hold x)=_;omega) (fun x hx h5=>(Br x o_).1) (fun x hx=>⟨(Br x hx).2,rfl⟩) hG.sole (fun s hs=>by rw[hG.n];exact hg.slow rfl h.slow s hs) hG.filled (h.even.getOnce h.sole h.once hg)
 refine⟨a1,a2,a3,a4,fun hr=>?_⟩;obtain⟨b1,b2,⟨s,hs,s1,s2,s3⟩,b4,b5,b6⟩:=hG.there hr;have hp:=aV hs;rw[s3]at hp;exact⟨by rw[hG.n];exact b1,hp,fun e=>by have:=(a1.alone e).2.2.1;omega,b2,by have:=(hG.filled s hs).1;rwa [s1,s2,s3]at this,b4,b5,b6⟩
theorem Sp.down (h:Sp F hold p L T)(hf:0<hold f):
  Sp F (upd hold f (hold f-1)) (p.down f) L T/\(Own p T->Own (p.down f) T)/\ ∀pg,lw p T pg->lw (p.down f) T pg:=by
 have hc: ∀x,x≠f->(p.down f).cnt x=p.cnt x:=fun x hx=>ah _ _ hx;have hg:=h.good.down (f:=f) (by unfold held;omega);rw[fH _ _ _ hf]at hg;have hw: ∀g l,T.lf g=some l->p.cnt l.frame=1->(p.down f).cnt l.frame=1:=fun g l hl h1=>by
  rw[hc _ fun e=>?_]
  ·exact h1
  ·obtain⟨_,_,h3,h4,h5,h6⟩:=h.leaf hl;have:=h.eq h3;rw[e]at this h5 h1;omega
 refine⟨⟨hg,h.sole,fun x hx=>?_,h.slow,h.filled,h.once⟩,fun ho g l hl zm=>hw g l hl (ho g l hl zm),fun pg ho g l xA hl zm=>hw g l hl (ho g l xA hl zm)⟩;rw[hc x fun e=>by subst e;have:=(h.alone hx).2.2.2;omega];exact h.one x hx
def mR (o:Option Leaf)(f:Nat):Nat:=match o with|some l=>if l.frame=f then 1 else 0|none=>0
variable {T':Tab}
theorem gO (zq:pg<bN)(o:Option Leaf)(ye:T'.lf=upd T.lf pg o)(f:Nat):
  ai T' f+(if cQ T f pg=true then 1 else 0)=ai T f+mR o f:=by
 have e2:ai T' f=ai (T.lay pg o) f:=by
  unfold ai;congr 1;funext i;unfold cQ Tab.lay;rw[ye]
 rw[e2];have h:=dI (t:=T) zq o f;cases o<;>exact h
variable {g:Nat}
theorem kN {l':Leaf}(zq:pg<bN)(hg:g<bN)(xA:g≠pg)(h1:T.lf pg=some l)(h2:T.lf g=some l')(hf:l'.frame=l.frame):2<=ai T l.frame:=by
 have h3:=gO (T:=T) (T':=T.lay pg none) zq none rfl l.frame;rw[dH h1,if_pos s_]at h3;have h0:mR none l.frame=0:=rfl;have h4:=cC (t:=T.lay pg none) (l:=l') hg (by show upd T.lf pg none g=_;rw[ah _ _ xA];exact h2);rw[hf]at h4;omega
theorem Sp.map (h:Sp F hold p L T)(hm:iJ p T L hold pg l 0 p' T' L')(hf:ly p T L hold l 0 p' T' L')(zq:pg<bN)(xL:T.lf pg=none)(hl:0<ax L l.frame+hold l.frame)(An:l.frame<p.n)(hN: ¬an T l.frame):
  Sp F hold p' L' T'/\T'.lf=upd T.lf pg (some l)/\(∀E,E l.frame->Far hold T E p p')/\(∀x,x=l.frame\/0<ai T x->p'.dat x=p.dat x)/\(lw p T pg->lw p' T' pg)/\(ax L' l.frame=0->ai T l.frame=0->p'.cnt l.frame=1+hold l.frame)/\p.left<=p'.left+3/\L'.Sublist L/\(∀x,x<p.n->x≠l.frame->p'.cnt x<=p.cnt x\/p'.cnt x=1):=by
 obtain⟨m1,m2,m3,m4,m5⟩:=hm;rcases m5 with⟨e,_⟩|⟨_,n1,n2,n3⟩
 ·exact absurd e d_
 obtain⟨f1,f2⟩:=hf;rcases f2 with⟨e,_⟩|⟨_,f3,f4⟩
 ·exact absurd e d_
 have hle: ∀x,ax L' x<=ax L x:=fun x=>List.Sublist.countP_le m4;have hg:=m1.any 0 4;have heq: ∀x,x<p.n->p'.cnt x=ai T' x+ay T' x+(ax L' x+hold x):=fun x hx=>hg.cnt x (by rw[m2];exact hx);have DF: ∀x,ai T' x=ai T x+(if l.frame=x then 1 else 0):=fun x=>by
  have:=gO zq (some l) n1 x;rw[dG xL]at this;simpa [mR]using this
 have Cf: ∀x,¬an T x->an T' x->p'.cnt x=1:=fun x h1 h2=>(f3 x h2).resolve_left h1;have yv: ∀x,an T' x->p'.cnt x=1:=fun x hx=>by
  by_cases h1:an T x
  ·obtain⟨b1,b2,b3,b4⟩:=h.alone h1;have b5:=hle x;have b6:l.frame≠x:=fun e=>hN (e▸h1);rw[heq x b1,DF,if_neg b6,ao hx];omega
  ·exact Cf x h1 hx
 have hNn: ¬an T' l.frame:=fun e=>hN (n3 e);have Qd: ∀x,x<p.n->x≠l.frame->0<hold x+ai T x->ay T' x<=ay T x:=fun x hx xA h0=>by
  by_cases h1:an T' x
  ·by_cases h2:an T x
   ·rw[ao h1,ao h2];exact wS _
   ·have h3:=Cf x h2 h1;rw[heq x hx,ao h1,DF]at h3;omega
  ·rw[aF h1];exact xm _
 refine⟨⟨hg,m3,yv,fun s hs=>by rw[m2];exact h.slow s (m4.subset hs),fun s hs=>?_,fun x=>xn (hle x) (h.once x)⟩,n1,fun E hE=>⟨m2,fun x h0 hn=>f1 x hn (.inr o_),fun x hx h0 xA hc=>?_⟩,fun x hx=>?_,fun ho g l' xA JH zm=>?_,fun h1 h2=>?_,f4,m4,fun x hx xA=>?_⟩
 ·rw[f1 s.frame (fun e=>by have:=(h.alone e).2.2.1;have:=aV (m4.subset hs);omega) (.inr (by have:=aV hs;omega))];exact h.filled s (m4.subset hs)
 ·have h5:=h.eq hx;have Rc:x≠l.frame:=fun e=>xA (e▸hE);have h6:=Qd x hx Rc o_;have h7:=hle x;have h8:=DF x;rw[if_neg (fun e=>Rc e.symm)]at h8;rw[heq x hx];omega
 ·rcases hx with hx|hx
  ·subst hx;exact f1 _ hN (.inl rfl)
  ·exact f1 x (fun e=>by have:=(h.alone e).2.1;omega) (.inr o_)
 ·rw[n1,ah _ _ xA]at JH;obtain⟨c1,c2,c3,c4,c5,c6⟩:=h.leaf JH;have h1:=ho g l' xA JH zm;have h2:=h.eq c3;have RG:l'.frame≠l.frame:=fun e=>by rw[e]at h1 h2 c5;omega
  have h6:=Qd _ c3 RG o_;have h7:=hle l'.frame;have h8:=DF l'.frame;rw[if_neg (fun e=>RG e.symm)]at h8;rw[heq _ c3];omega
 ·rw[heq _ An,DF,if_pos rfl,aF hNn];omega
 ·by_cases h1:an T' x
  ·exact .inr (yv x h1)
  ·left;have h5:=h.eq hx;have h7:=hle x;have h8:=DF x;rw[if_neg (fun e=>xA e.symm)]at h8;rw[heq x hx,aF h1];omega
theorem Sp.mapNot (h:Sp F hold p L T)(hm:iJ p T L hold pg l r p' T' L')(hf:ly p T L hold l r p' T' L')(hr:r≠0)(hN: ¬an T l.frame):
  r=4/\T'=T/\Sp F hold p' L' T/\(∀E,Far hold T E p p')/\(∀x,0<ai T x->p'.dat x=p.dat x)/\(Own p T->Own p' T)/\(∃gs:List Nat,gs.length<=2/\ ∀f,f<p.n->ax L f<=1->0<ai T f+ay T f+hold f\/f=l.frame\/f∈gs)/\L'.Sublist L:=by
 obtain⟨m1,m2,m3,m4,m5⟩:=hm;rcases m5 with⟨e4,eT,_⟩|⟨e,_⟩
 rotate_left
 ·exact absurd e hr
 obtain⟨f1,f2⟩:=hf;rcases f2 with⟨_,f3⟩|⟨e,_⟩
 rotate_left
 ·exact absurd e hr
 subst eT;have hle: ∀x,ax L' x<=ax L x:=fun x=>List.Sublist.countP_le m4;have hg:=m1.any 0 4;obtain⟨a1,a2,a3,a4⟩:=h.slots (p':=p') (L':=L') (Cf:=hold) m2 hg.but (fun x hx=>hg.cnt x (by rw[m2];exact hx)) (fun x hx h5=>f1 x hx (.inr o_)) (fun x hx=>⟨hle x,rfl⟩) m3 (fun s hs=>by rw[m2];exact h.slow s (m4.subset hs)) (fun s hs=>by
   rw[f1 s.frame (fun e=>by have:=(h.alone e).2.2.1;have:=aV (m4.subset hs);omega) (.inr (by have:=aV hs;omega))];exact h.filled s (m4.subset hs)) (fun x=>xn (hle x) (h.once x))
 exact⟨e4,rfl,a1,a2,a3,a4,f3,m4⟩
def bc (p:Pool)(was l:Leaf)(g pg:Nat):Pool:=((p.up l.frame).down was.frame).store g (aG (p.dat g) (num pg 1) l.pack)
theorem Sp.set {was:Leaf}(h:Sp F hold p L T)(hw:T.lf pg=some was)(hg:T.nd 1 (part pg 1)=some g)(h7:l.prot<=7)(hf:l.frame<p.n)(hN: ¬an T l.frame):
  Sp F hold (bc p was l g pg) L (T.lay pg (some l))/\(∀E,E l.frame\/0<ai T l.frame->Far hold T E p (bc p was l g pg))/\(∀x,¬an T x->(bc p was l g pg).dat x=p.dat x)/\(l.frame=was.frame\/ai T l.frame=0->lw p T pg->lw (bc p was l g pg) (T.lay pg (some l)) pg)/\
  (∀x,x<p.n->(bc p was l g pg).cnt x+(if was.frame=x then 1 else 0)=p.cnt x+(if l.frame=x then 1 else 0)):=by
 obtain⟨c1,c2,c3,c4,c5,c6⟩:=h.leaf hw;have hG:(T.lay pg (some l)).Good (bc p was l g pg) (held L hold) 0 4:=((h.good.any pg 4).laySet c1 hg hw h7 hf).any 0 4;have heq: ∀x,x<p.n->(bc p was l g pg).cnt x=ai (T.lay pg (some l)) x+ay T x+(ax L x+hold x):=fun x hx=>by rw[<-eV T pg (some l)];exact hG.cnt x hx
 have DF: ∀x,ai (T.lay pg (some l)) x+(if was.frame=x then 1 else 0)=ai T x+(if l.frame=x then 1 else 0):=fun x=>by
  have:=dI c1 (some l) (t:=T) x;rw[dH hw]at this;simpa using this
 have hgn:an T g:=⟨_,_,hg⟩;have Hg: ∀x,¬an T x->(bc p was l g pg).dat x=p.dat x:=fun x hx=>ah _ _ fun e=>hx (e▸hgn);refine⟨⟨hG,h.sole,fun x hx=>?_,h.slow,fun s hs=>?_,h.once⟩,fun E hE=>⟨rfl,fun x _ hn=>Hg x hn,fun x hx h0 xA hc=>?_⟩,Hg,fun Bf ho g' l' xA JH zm=>?_,fun x hx=>?_⟩
 ·have Lt:an T x:=hx;obtain⟨b1,b2,b3,b4⟩:=h.alone Lt;have b5:=DF x;have b6:l.frame≠x:=fun e=>hN (e▸Lt);rw[if_neg b6]at b5;rw[heq x b1,ao Lt];omega
 ·rw[Hg _ fun e=>by have:=(h.alone e).2.2.1;have:=aV hs;omega];exact h.filled s hs
 ·have h5:=h.eq hx;have Rc:l.frame≠x:=fun e=>by
   rcases hE with hE|hE
   ·exact xA (e▸hE)
   ·rw[e]at hE;omega
  have h8:=DF x;rw[if_neg Rc]at h8;rw[heq x hx];omega
 ·have xW:T.lf g'=some l':=by
   have:upd T.lf pg (some l) g'=some l':=JH
   rwa [ah _ _ xA]at this
  obtain⟨d1,d2,d3,d4,d5,d6⟩:=h.leaf xW;have h1:=ho g' l' xA xW zm;have h2:=h.eq d3;have VH:was.frame≠l'.frame:=fun e=>by
   have:=kN c1 d1 xA hw xW e.symm;rw[e]at this;omega
  have RF:l.frame≠l'.frame:=fun e=>by
   rcases Bf with Bf|Bf
   ·exact VH (Bf▸e)
   ·rw[e]at Bf;omega
  have h8:=DF l'.frame;rw[if_neg RF,if_neg VH]at h8;rw[heq _ d3];omega
 ·have h1:=DF x;have h2:=h.eq hx;rw[heq x hx];omega
theorem Sp.unmap (h:Sp F hold p L T)(hg:Gone p T (held L hold) pg 4 p' T'):
  Sp F hold p' L T'/\T'.lf=upd T.lf pg none/\(∀E,Far hold T E p p')/\(∀x,¬an T x->p'.dat x=p.dat x)/\(Own p T->Own p' T')/\(∀x,x<p.n->p'.cnt x<=p.cnt x):=by
 have hG:=hg.good.any 0 4;have hn:=hg.n;have heq: ∀x,x<p.n->p'.cnt x=ai T' x+ay T' x+(ax L x+hold x):=fun x hx=>hG.cnt x o_;have Ii: ∀x,an T' x->an T x:=fun x ⟨lv,q,e⟩=>⟨lv,q,hg.sub _ _ _ e⟩;have VN: ∀x,ay T' x<=ay T x:=fun x=>by
  by_cases h1:an T' x
  ·rw[ao h1,ao (Ii x h1)];exact wS _
  ·rw[aF h1];exact xm _
 have DF: ∀x,ai T' x<=ai T x:=fun x=>by
  by_cases zq:pg<bN
  ·have:=gO zq none hg.lf x;have h0:mR none x=0:=rfl;omega
  ·have e:T.lf pg=none:=by
    cases hc:T.lf pg with
    |none=>rfl
    |some l=>exact absurd (h.leaf hc).1 zq
   have e2:T'.lf=T.lf:=by
    rw[hg.lf];funext i;by_cases hi:i=pg
    ·subst hi;rw[af,e]
    ·rw[ah _ _ hi]
   unfold ai cQ;rw[e2];exact wS _
 refine⟨⟨hG,h.sole,fun x hx=>?_,fun s hs=>by rw[hn];exact h.slow s hs,fun s hs=>?_,h.once⟩,hg.lf,fun E=>⟨hn,fun x _ hN=>hg.kept x hN,fun x hx h0 _ hc=>?_⟩,hg.kept,fun ho g l hl zm=>?_,fun x hx=>?_⟩
 ·obtain⟨b1,b2,b3,b4⟩:=h.alone (Ii x hx);have:=DF x;rw[heq x b1,ao hx];omega
 ·rw[hg.kept _ fun e=>by have:=(h.alone e).2.2.1;have:=aV hs;omega];exact h.filled s hs
 ·have h5:=h.eq hx;have h1:=DF x;have h2:=VN x;rw[heq x hx];omega
 ·have xW:T.lf g=some l:=by
   rw[hg.lf]at hl;by_cases e:g=pg
   ·subst e;rw[af]at hl;cases hl
   ·rwa [ah _ _ e]at hl
  obtain⟨d1,d2,d3,d4,d5,d6⟩:=h.leaf xW;have h1:=ho g l xW zm;have h2:=h.eq d3;have h3:=DF l.frame;have h4:=VN l.frame;have h5:=cC (t:=T') d1 hl;rw[heq _ d3];omega
 ·have h5:=h.eq hx;have h1:=DF x;have h2:=VN x;rw[heq x hx];omega
theorem Sp.store (h:Sp F hold p L T)(hl:T.lf pg=some l)(h1:p.cnt l.frame=1)(d:Nat->Nat):
  Sp F hold (p.store l.frame d) L T/\(∀E,Far hold T E p (p.store l.frame d))/\(Own p T->Own (p.store l.frame d) T):=by
 obtain⟨c1,c2,c3,c4,c5,c6⟩:=h.leaf hl;have h2:=h.eq c3;have xA: ∀x,x≠l.frame->(p.store l.frame d).dat x=p.dat x:=fun x hx=>ah _ _ hx;refine⟨⟨⟨h.good.but.same rfl fun x hx=>xA x fun e=>c6 (e▸hx),h.good.cnt⟩,h.sole,h.one,h.slow,fun s hs=>?_,h.once⟩,fun E=>⟨rfl,fun x h0 _ =>xA x fun e=>by subst e;omega,fun x _ _ _ hc=>hc⟩,id⟩;rw[xA _ fun e=>by have:=aV hs;rw[e]at this;omega];exact h.filled s hs
theorem Sp.storeH (h:Sp F hold p L T)(hf:0<hold f)(hs:ax L f=0)(d:Nat->Nat):Sp F hold (p.store f d) L T:=by
 have xA: ∀x,x≠f->(p.store f d).dat x=p.dat x:=fun x hx=>ah _ _ hx;refine⟨⟨h.good.but.same rfl fun x hx=>xA x fun e=>by subst e;have:=(h.alone hx).2.2.2;omega,h.good.cnt⟩,h.sole,h.one,h.slow,fun s hs=>?_,h.once⟩;rw[xA _ fun e=>by have:=aV hs;rw[e]at this;omega];exact h.filled s hs
noncomputable def tn (T:Tab):Nat->Nat:=fun f=>ai T f+ay T f
theorem kA (hn:p.n<=1024)(hf:f<p.n)(h0:hold f=0)(hz:p.dat f=fun _ =>0)(he:Even p L (upd hold f 1)):(aH f).Good p (held L hold) 0 4:=by
 constructor
 ·constructor
  ·rw[dZ];rfl
  ·intro q f h;exact(bZ.1 h).2.1
  ·intro lv q f h;have:=(bZ.1 h).1;omega
  ·intro lv q f h h4;have:=(bZ.1 h).1;omega
  ·intro pg l h;cases h
  ·intro l1 p1 l2 p2 f h h';have a:=bZ.1 h;have b:=bZ.1 h';exact⟨o_,o_⟩
  ·intro lv q g h;have a:=bZ.1 h;obtain⟨rfl,rfl,rfl⟩:=a;refine⟨hf,fun k hk=>?_⟩;rw[hz,nI];unfold Tab.word;rw[if_neg d_];have:(aH g).nd (4-1) (0*512+k)=none:=by
    show(if(4-1:Nat)=4/\0*512+k=0 then some g else none)=none;rw[if_neg o_]
   rw[this]
  ·intro lv q g h h4;have:=(bZ.1 h).1;omega
  ·exact hn
 ·intro x hx;have h1:=he x hx;rw[fA];unfold held;by_cases e:x=f
  ·subst e;rw[ao (cH.2 rfl)];rw[af]at h1;omega
  ·rw[aF (fun h=>e (cH.1 h))];rw[ah _ _ e]at h1;omega
end
section
def Full (hold:Nat->Nat)(p:Pool)(T:Tab):Prop:= ∃gs:List Nat,gs.length<=3/\ ∀f,f<p.n->0<ai T f+ay T f+hold f\/f∈gs
structure Kept (F:List Nd)(hold:Nat->Nat)(p:Pool)(L:List Slot)(T:Tab)(p':Pool)(L':List Slot)(T':Tab):Prop where
 sp:Sp F hold p' L' T'
 far: ∀E,Far hold T E p p'
 own:Own p' T'
 keep: ∀g y,T.lf g=some y-> ∃y',T'.lf g=some y'/\y'.prot=y.prot/\ ∀i,i<4096->p'.dat y'.frame i=p.dat y.frame i
 root: ∀f,T.nd 4 0=some f->T'.nd 4 0=some f
variable {F:List Nd}{hold:Nat->Nat}{p:Pool}{L:List Slot}{T:Tab}
theorem Kept.refl (h:Sp F hold p L T)(ho:Own p T):Kept F hold p L T p L T:=⟨h,fun _ =>Far.refl,ho,fun g y hy=>⟨y,hy,rfl,fun _ _ =>rfl⟩,fun _ h=>h⟩
variable {p1 p2:Pool}{L1 L2:List Slot}
theorem Kept.trans {T1 T2:Tab}(h:Kept F hold p L T p1 L1 T1)(k:Kept F hold p1 L1 T1 p2 L2 T2):Kept F hold p L T p2 L2 T2:=
 ⟨k.sp,fun E=>(h.far E).trans h.sp (k.far E),k.own,fun g y hy=>by
  obtain⟨y1,h1,h2,h3⟩:=h.keep g y hy;obtain⟨y2,k1,k2,k3⟩:=k.keep g y1 h1;exact⟨y2,k1,k2.trans h2,fun i hi=>(k3 i hi).trans (h3 i hi)⟩,fun f e=>k.root f (h.root f e)⟩
def srcK (r:Reg)(pg:Nat):Int:=(r.off+(pg:Int)*4096-r.fr)/4096
def dK (r:Reg)(pg:Nat):Bool:=decide (0<=r.ino/\srcK r pg<16)
def srcD (F:List Nd)(r:Reg)(pg:Nat):Nat->Nat:=if dK r pg=true then ov F r.ino (srcK r pg)else fun _ =>0
structure aX (F:List Nd)(hold:Nat->Nat)(r:Reg)(pg:Nat)(p:Pool)(L:List Slot)(T:Tab)(e:Int)(l:Leaf)(p':Pool)(L':List Slot)(T':Tab):Prop where
 kept:Kept F hold p L T p' L' T'
 same: ∀g y,T.lf g=some y->T'.lf g=some y
 rest: ∀g,g≠pg->T.lf g=none->T'.lf g=none
 got:e=0->T'.lf pg=some l/\(T.lf pg=none->l.prot=r.prot.toNat/\ ∀i,i<4096->p'.dat l.frame i=srcD F r pg i)
 err:e≠0->e=4/\T'=T/\Full hold p' T
 stay:T.lf pg≠none->e=0/\p'=p/\L'=L/\T'=T
structure eH (F:List Nd)(hold:Nat->Nat)(r:Reg)(pg:Nat)(p:Pool)(L:List Slot)(T:Tab)(e:Int)(l:Leaf)(p':Pool)(L':List Slot)(T':Tab):Prop where
 kept:Kept F hold p L T p' L' T'
 same: ∀g y,g≠pg->T.lf g=some y->T'.lf g=some y
 rest: ∀g,g≠pg->T.lf g=none->T'.lf g=none
 got:e=0->T'.lf pg=some l/\l.copy=false
 err:e≠0->e=4/\Full hold p' T'
 fresh:T.lf pg=none-> ∀y,T'.lf pg=some y-> ∀i,i<4096->p'.dat y.frame i=srcD F r pg i
variable {f:Nat}
theorem Sp.cap (h:Sp F hold p L T)(hf:f<p.n):p.cnt f<=525314+hold f:=by
 have h1:=h.eq hf;have h2:ai T f<=525312:=by
  rw[<-h.good.ok.leaves_cnt f];refine xn List.countP_le_length (xn ?_ h.good.ok.short)
  induction T.evs 4 0 with
  |nil=>exact wS _
  |cons e l ih=>
   rw[xo,wU,xd];have:(Ev.ls e).length<=1:=by cases e<;>simp[Ev.ls]
   omega
 have h3:=h.once f;have h4:ay T f<=1:=by
  by_cases e:an T f
  ·rw[ao e];exact wS _
  ·rw[aF e];exact xm _
 omega
variable {p':Pool}{L':List Slot}
theorem Sp.full {f0:Nat}(h:Sp F hold p L T)(ht:aw p L 4 f0 p' L'):Full hold p T:=by
 refine⟨[],s_,fun f hf=> .inl ?_⟩;have hc:=h.eq hf;have h5:=h.once f;cases ht with
 |none h1 h2=>
  have h3:=cB h1 f hf;by_cases h0:ax L f=0
  ·omega
  ·obtain⟨t,CX,Cw⟩:=List.countP_pos_iff.1 (show 0<ax L f by omega);have UX:t.frame=f:=(by simpa using Cw);have h4:=h2 t CX;rw[UX,aO hf]at h4;omega
variable {ino:Int}
theorem dU.four {page clock xr r:Int}(hg:GetF F ino page p L clock r f p' L' xr)(h0:0<=page)(h1:page<16)(hr:(dV F ino page).1=0)(xA:r≠0):r=4/\p'=p/\L'=L/\aw p L 4 0 p L:=by
 cases hg with
 |bad h=>omega
 |err _ _ h=>exact absurd hr h
 |hit=>exact absurd rfl xA
 |full _ _ _ _ ht=>exact⟨rfl,rfl,rfl,ht⟩
 |miss=>exact absurd rfl xA
variable {r:Reg}{pg:Nat}{l:Leaf}
theorem aX.there (h:Sp F hold p L T)(ho:Own p T)(hl:T.lf pg=some l):aX F hold r pg p L T 0 l p L T:=
 ⟨Kept.refl h ho,fun _ _ h=>h,fun _ _ h=>h,fun _ =>⟨hl,fun e=>by rw[hl]at e;cases e⟩,fun e=>absurd rfl e,fun _ =>⟨rfl,rfl,rfl,rfl⟩⟩
theorem aX.no (h:Sp F hold p L T)(ho:Own p T)(xL:T.lf pg=none)(hf:Full hold p T):aX F hold r pg p L T 4 l p L T:=
 ⟨Kept.refl h ho,fun _ _ h=>h,fun _ _ h=>h,fun e=>absurd e d_,fun _ =>⟨rfl,rfl,hf⟩,fun h=>absurd xL h⟩
variable {T':Tab}
theorem mQ (xL:T.lf pg=none)(h:T'.lf=upd T.lf pg (some l)): ∀g y,T.lf g=some y->T'.lf g=some y:=fun g y hy=>by
 have xA:g≠pg:=fun e=>by rw[e,xL]at hy;cases hy
 rw[h,ah _ _ xA];exact hy
theorem iJ.mono (h:iJ p T L hold pg l 0 p' T' L'): ∀lv q f,T.nd lv q=some f->T'.nd lv q=some f:=by
 obtain⟨_,_,_,_,⟨e,_⟩|⟨_,_,h2,_⟩⟩:=h
 ·exact absurd e d_
 ·exact h2
theorem aX.filed {ino clock xr e:Int}(h:Sp F hold p L T)(ho:Own p T)(zq:pg<bN)(xL:T.lf pg=none)(Ae:dK r pg=true)
  (hg:GetF F r.ino (srcK r pg) p L clock 0 f p1 L1 xr)(hl:l=⟨f,r.prot.toNat,true⟩)(hm:iJ p1 T L1 hold pg l e p' T' L')(hf:ly p1 T L1 hold l e p' T' L'):aX F hold r pg p L T e l p' L' T':=by
 obtain⟨a1,a2,a3,a4,a5⟩:=h.get hg;obtain⟨b1,b2,b3,b4,b5,b6,b7,b8⟩:=a5 rfl;have ye:l.frame=f:=(by rw[hl]);have DF:l.copy=true:=(by rw[hl]);by_cases he:e=0
 ·subst he;obtain⟨c1,c2,c3,c4,c5,c6,c7,c8,_⟩:=a1.map hm hf zq xL (by rw[ye];omega) (by rw[ye];exact b1) (by rw[ye];exact b3);have Br: ∀E,Far hold T E p p':=fun E=>by
   exact⟨by rw[(c3 (fun x=>x=l.frame) rfl).n];exact(a2 E).n,fun x h0 hn=>((c3 (fun x=>x=l.frame) rfl).dat x h0 hn).trans ((a2 E).dat x h0 hn),fun x hx h0 hE hc=>by
    have h5:=(a2 E).cnt x hx h0 hE hc;have zY:x<p1.n:=(by rw[(a2 E).n];exact hx);refine(c3 (fun x=>x=l.frame) rfl).cnt x zY h0 (fun e=>?_) h5;have h6:=a1.eq zY;rw[e,ye]at h6;rw[e,ye]at h5;omega⟩
  refine⟨⟨c1,Br,fun g y hy zm=>?_,fun g y hy=>⟨y,mQ xL c2 g y hy,rfl,?_⟩,fun f hf=>hm.mono 4 0 f hf⟩,mQ xL c2,fun g xA hg=>by rw[c2,ah _ _ xA];exact hg,fun _ =>⟨by rw[c2,af],fun _ =>⟨by rw[hl],fun i _ =>congrFun ?_ i⟩⟩,fun e=>absurd rfl e,fun h=>absurd xL h⟩
  ·by_cases RV:g=pg
   ·subst RV;rw[c2,af]at hy;injection hy with hy;subst hy;rw[DF]at zm;cases zm
   ·exact c5 ((a4 ho).but pg) g y RV hy zm
  ·obtain⟨d1,d2,d3,d4,d5,d6⟩:=h.leaf hy;exact fun i _ =>congrFun ((c4 _ (.inr d5)).trans (a3 _ d5)) i
  ·rw[c4 _ (.inl rfl),ye,b5];unfold srcD;rw[if_pos Ae]
 ·obtain⟨rfl,rfl,c3,c4,c5,c6,c7,c8⟩:=a1.mapNot hm hf he (by rw[ye];exact b3);refine⟨⟨c3,fun E=>(a2 E).trans a1 (c4 E),c6 (a4 ho),fun g y hy=>⟨y,hy,rfl,?_⟩,fun _ h=>h⟩,fun _ _ h=>h,fun _ _ h=>h,fun e=>absurd e d_,fun _ =>⟨rfl,rfl,?_⟩,fun h=>absurd xL h⟩
  ·obtain⟨d1,d2,d3,d4,d5,d6⟩:=h.leaf hy;exact fun i _ =>congrFun ((c5 _ d5).trans (a3 _ d5)) i
  ·obtain⟨gs,g1,g2⟩:=c7;refine⟨l.frame::gs,t_,fun x hx=>?_⟩;rcases g2 x (by rw[<-(c4 (fun _ =>False)).n];exact hx) (a1.once x)with h1|h1|h1
   ·exact .inl h1
   ·exact .inr (by rw[h1];exact xl ..)
   ·exact .inr (xk _ h1)
variable {e:Int}
theorem aX.blank (h:Sp F hold p L T)(ho:Own p T)(zq:pg<bN)(xL:T.lf pg=none)(Ae:dK r pg=false)
  (ht:aw p L 0 f p1 L1)(hl:l=⟨f,r.prot.toNat,false⟩)(hm:iJ p1 T L1 (upd hold f 1) pg l e p' T' L')(hf:ly p1 T L1 (upd hold f 1) l e p' T' L'):aX F hold r pg p L T e l (p'.down f) L' T'/\f<p'.n/\1<=p'.cnt f:=by
 obtain⟨a1,a2,a3,a4,a5⟩:=h.take ht;have ye:l.frame=f:=(by rw[hl]);have DY:f<p1.n:=(by rw[(a2 (fun _ =>False)).n];exact a5.lt);have BG:upd (upd hold f 1) f (upd hold f 1 f-1)=hold:=by
  funext x;by_cases e:x=f
  ·subst e;rw[af,af];have:=a5.hold;omega
  ·rw[ah _ _ e,ah _ _ e]
 by_cases he:e=0
 ·subst he;obtain⟨c1,c2,c3,c4,c5,c6,c7,c8,_⟩:=a1.map hm hf zq xL (by rw[ye,af];omega) (by rw[ye];exact DY) (by rw[ye];exact a5.node);have VS:p'.n=p1.n:=(c3 (fun x=>x=l.frame) rfl).n;have CK:ax L' f=0:=(by have h8:ax L' f<=ax L1 f:=List.Sublist.countP_le c8;have:=a5.slot;omega);have TX:p'.cnt f=2:=by
   have:=c6 (by rw[ye];exact CK) (by rw[ye];exact a5.leaf);rw[ye,af]at this;exact this
  obtain⟨d1,d2,d3⟩:=c1.down (f:=f) (by rw[af];omega);rw[BG]at d1;have WK:Far (upd hold f 1) T (fun x=>x=f) p1 p':=ye▸c3 (fun x=>x=l.frame) rfl;have BC:=WK.less a5.hold;have GN: ∀x,0<hold x->x≠f:=fun x hx e=>by subst e;have:=a5.hold;omega
  refine⟨⟨⟨d1,fun E=>⟨VS.trans (a2 E).n,fun x h0 hn=>(BC.dat x h0 hn).trans ((a2 E).dat x h0 hn),fun x hx h0 hE hc=>?_⟩,fun g y hy zm=>?_,fun g y hy=>⟨y,mQ xL c2 g y hy,rfl,?_⟩,fun f hf=>hm.mono 4 0 f hf⟩,mQ xL c2,fun g xA hg=>by rw[c2,ah _ _ xA];exact hg,fun _ =>⟨by rw[c2,af],fun _ =>⟨by rw[hl],fun i _ =>congrFun ?_ i⟩⟩,fun e=>absurd rfl e,fun h=>absurd xL h⟩,o_,o_⟩
  ·have h5:=(a2 E).cnt x hx h0 hE hc;exact(ah _ _ (GN x h0)).trans (BC.cnt x (by rw[(a2 E).n];exact hx) h0 (GN x h0) h5)
  ·by_cases RV:g=pg
   ·subst RV;rw[c2,af]at hy;injection hy with hy;subst hy;rw[ye];show upd p'.cnt f (p'.cnt f-1) f=1;rw[af,TX]
   ·exact d3 pg (c5 ((a4 ho).but pg)) g y RV hy zm
  ·obtain⟨d1,d2,d3,d4,d5,d6⟩:=h.leaf hy;exact fun i _ =>congrFun ((c4 _ (.inr d5)).trans (a3 _ d5)) i
  ·show p'.dat l.frame=_;rw[c4 _ (.inl rfl),ye,a5.zero];unfold srcD;rw[if_neg (by rw[Ae];decide)]
 ·obtain⟨rfl,rfl,c3,c4,c5,c6,c7,c8⟩:=a1.mapNot hm hf he (by rw[ye];exact a5.node);obtain⟨d1,d2,d3⟩:=c3.down (f:=f) (by rw[af];omega);rw[BG]at d1;have VS:p'.n=p1.n:=(c4 (fun _ =>False)).n;have GN: ∀x,0<hold x->x≠f:=fun x hx e=>by subst e;have:=a5.hold;omega
  have TX:=c3.eq (x:=f) o_;rw[af]at TX;refine⟨⟨⟨d1,fun E=>⟨VS.trans (a2 E).n,fun x h0 hn=>(((c4 E).less a5.hold).dat x h0 hn).trans ((a2 E).dat x h0 hn),fun x hx h0 hE hc=>?_⟩,d2 (c6 (a4 ho)),fun g y hy=>⟨y,hy,rfl,?_⟩,fun _ h=>h⟩,fun _ _ h=>h,fun _ _ h=>h,fun e=>absurd e d_,fun _ =>⟨rfl,rfl,?_⟩,fun h=>absurd xL h⟩,o_,o_⟩
  ·have h5:=(a2 E).cnt x hx h0 hE hc;exact(ah _ _ (GN x h0)).trans (((c4 E).less a5.hold).cnt x (by rw[(a2 E).n];exact hx) h0 hE h5)
  ·obtain⟨d1,d2,d3,d4,d5,d6⟩:=h.leaf hy;exact fun i _ =>congrFun ((c5 _ d5).trans (a3 _ d5)) i
  ·obtain⟨gs,g1,g2⟩:=c7;refine⟨f::gs,t_,fun x hx=>?_⟩;by_cases Re:x=f
   ·exact .inr (by rw[Re];exact xl ..)
   rcases g2 x (by rw[<-VS];exact hx) (a1.once x)with h1|h1|h1
   ·rw[ah _ _ Re]at h1;exact .inl h1
   ·exact absurd (h1.trans ye) Re
   ·exact .inr (xk _ h1)
variable {g:Nat}
theorem fW {A fr q:Int}{cp:Bool}{was:Leaf}(hA:A=(pg:Int)*4096)(zq:pg<34359738368)(hq: ¬7<q)(hc:bD p fr≠0)(hw:T.lf pg=some was)(hg:T.nd 1 (part pg 1)=some g):
  nX p T A fr q cp=(0,bc p was ⟨fr.toNat,q.toNat,cp⟩ g pg,T.lay pg (some ⟨fr.toNat,q.toNat,cp⟩)):=by
 have e:A.toNat/4096=pg:=o_;unfold nX;rw[if_neg (fun h=>h.elim hq hc),if_neg o_,e,hw,hg];rfl
theorem eH.err' (h:aX F hold r pg p L T e l p' L' T')(he:e≠0):eH F hold r pg p L T e l p' L' T':=
 ⟨h.kept,fun g y _ =>h.same g y,h.rest,fun e0=>absurd e0 he,fun he=>by obtain⟨a,b,c⟩:=h.err he;subst b;exact⟨a,c⟩,fun hn y hy=>by rw[(h.err he).2.1,hn]at hy;cases hy⟩
theorem eH.alone (h:aX F hold r pg p L T 0 l p' L' T')(hc:l.copy=false):eH F hold r pg p L T 0 l p' L' T':=
 ⟨h.kept,fun g y _ =>h.same g y,h.rest,fun _ =>⟨(h.got rfl).1,hc⟩,fun he=>absurd rfl he,fun hn y hy=>by rw[(h.got rfl).1]at hy;injection hy with hy;subst hy;exact((h.got rfl).2 hn).2⟩
theorem eH.no {l':Leaf}(h:aX F hold r pg p L T 0 l p' L' T')(hf:Full hold p' T'):eH F hold r pg p L T 4 l' p' L' T':=
 ⟨h.kept,fun g y _ =>h.same g y,h.rest,fun e=>absurd e d_,fun _ =>⟨rfl,hf⟩,fun hn y hy=>by rw[(h.got rfl).1]at hy;injection hy with hy;subst hy;exact((h.got rfl).2 hn).2⟩
theorem eH.mark (h:aX F hold r pg p L T 0 l p' L' T')(hc:p'.cnt l.frame=1)(hg:T'.nd 1 (part pg 1)=some g):
  eH F hold r pg p L T 0 ⟨l.frame,l.prot,false⟩ (bc p' l ⟨l.frame,l.prot,false⟩ g pg) L' (T'.lay pg (some ⟨l.frame,l.prot,false⟩)):=by
 obtain⟨g1,g2⟩:=h.got rfl;obtain⟨c1,c2,c3,c4,c5,c6⟩:=h.kept.sp.leaf g1;obtain⟨s1,s2,s3,s4,s5⟩:=h.kept.sp.set (l:=⟨l.frame,l.prot,false⟩) g1 hg c2 c3 c6;have hcn: ∀x,x<p'.n->(bc p' l ⟨l.frame,l.prot,false⟩ g pg).cnt x=p'.cnt x:=fun x hx=>by have:=s5 x hx;simp only[]at this;omega
 have ye:(T'.lay pg (some ⟨l.frame,l.prot,false⟩)).lf=upd T'.lf pg (some ⟨l.frame,l.prot,false⟩):=rfl;refine⟨h.kept.trans ⟨s1,fun E=>s2 E (.inr c5),fun y z hz zm=>?_,fun y z hz=>?_,fun _ h=>h⟩,fun y z xA hz=>?_,fun y xA hy=>?_,fun _ =>⟨by rw[ye,af],rfl⟩,fun e=>absurd rfl e,fun e y hy i hi=>?_⟩
 ·by_cases e:y=pg
  ·subst e;rw[ye,af]at hz;injection hz with hz;subst hz;exact(hcn _ c3).trans hc
  ·exact s4 (.inl rfl) (h.kept.own.but pg) y z e hz zm
 ·by_cases e:y=pg
  ·subst e;rw[g1]at hz;injection hz with hz;subst hz;exact⟨⟨l.frame,l.prot,false⟩,by rw[ye,af],rfl,fun i _ =>congrFun (s3 _ c6) i⟩
  ·exact⟨z,by rw[ye,ah _ _ e];exact hz,rfl,fun i _ =>congrFun (s3 _ (h.kept.sp.leaf hz).2.2.2.2.2) i⟩
 ·rw[ye,ah _ _ xA];exact h.same y z hz
 ·rw[ye,ah _ _ xA];exact h.rest y xA hy
 ·rw[ye,af]at hy;injection hy with hy;subst hy;exact(congrFun (s3 _ c6) i).trans ((g2 e).2 i hi)
theorem eH.copied (h:aX F hold r pg p L T 0 l p' L' T')(ht:aw p' L' 0 f p2 L2)(hg:T'.nd 1 (part pg 1)=some g)(d:Nat->Nat)(hd: ∀i,i<4096->d i=p2.dat l.frame i):
  let p3:=p2.store f d
  eH F hold r pg p L T 0 ⟨f,l.prot,false⟩ ((bc p3 l ⟨f,l.prot,false⟩ g pg).down f) L2 (T'.lay pg (some ⟨f,l.prot,false⟩))/\f<p3.n/\p3.cnt f=1/\f<(bc p3 l ⟨f,l.prot,false⟩ g pg).n/\1<=(bc p3 l ⟨f,l.prot,false⟩ g pg).cnt f:=by
 intro p3;obtain⟨g1,g2⟩:=h.got rfl;obtain⟨a1,a2,a3,a4,a5⟩:=h.kept.sp.take ht;have b1:Sp F (upd hold f 1) p3 L2 T':=a1.storeH (by rw[af];omega) a5.slot d;obtain⟨c1,c2,c3,c4,c5,c6⟩:=b1.leaf g1;have DW:p2.n=p'.n:=(a2 fun _ =>False).n;have yO:f<p3.n:=(by show f<p2.n;rw[DW];exact a5.lt);have FP: ¬an T' f:=a5.node;have xA:l.frame≠f:=fun e=>by rw[e]at c5;have:=a5.leaf;omega
 obtain⟨s1,s2,s3,s4,s5⟩:=b1.set (l:=⟨f,l.prot,false⟩) g1 hg c2 yO FP;obtain⟨d1,d2,d3⟩:=s1.down (f:=f) (by rw[af];omega);have BG:upd (upd hold f 1) f (upd hold f 1 f-1)=hold:=by
  funext x;by_cases e:x=f
  ·subst e;rw[af,af];have:=a5.hold;omega
  ·rw[ah _ _ e,ah _ _ e]
 rw[BG]at d1;have ye:(T'.lay pg (some ⟨f,l.prot,false⟩)).lf=upd T'.lf pg (some ⟨f,l.prot,false⟩):=rfl;have TX:(bc p3 l ⟨f,l.prot,false⟩ g pg).cnt f=2:=by
  have h1:=s5 f yO;have h2:p3.cnt f=1:=a5.one;simp only[if_true]at h1;rw[if_neg xA]at h1;omega
 have GN: ∀x,0<hold x->x≠f:=fun x hx e=>by subst e;have:=a5.hold;omega
 have yi: ∀x,x≠f->p3.dat x=p2.dat x:=fun x hx=>ah _ _ hx;have Hg: ∀x,¬an T' x->x≠f->(bc p3 l ⟨f,l.prot,false⟩ g pg).dat x=p2.dat x:=fun x hx Re=>(s3 x hx).trans (yi x Re);have KC: ∀i,i<4096->(bc p3 l ⟨f,l.prot,false⟩ g pg).dat f i=p'.dat l.frame i:=fun i hi=>by
  rw[s3 f FP];show upd p2.dat f d f i=_;rw[af,hd i hi,a3 _ (by obtain⟨_,_,_,_,e,_⟩:=h.kept.sp.leaf g1;exact e)]
 have BC:=(s2 (fun x=>x=f) (.inl rfl)).less a5.hold;refine⟨⟨h.kept.trans ⟨d1,fun E=>⟨DW,fun x h0 hx=>?_,fun x hx h0 hE hc=>?_⟩,fun y z hz zm=>?_,fun y z hz=>?_,fun _ h=>h⟩,fun y z xA hz=>?_,fun y xA hy=>?_,fun _ =>⟨by rw[ye,af],rfl⟩,fun e=>absurd rfl e,fun e y hy i hi=>?_⟩,yO,a5.one,yO,o_⟩
 ·exact(Hg x hx (GN x h0)).trans ((a2 E).dat x h0 hx)
 ·have h5:=(a2 E).cnt x hx h0 hE hc;exact(ah _ _ (GN x h0)).trans (BC.cnt x (by show x<p2.n;rw[DW];exact hx) h0 (GN x h0) h5)
 ·by_cases e:y=pg
  ·subst e;rw[ye,af]at hz;injection hz with hz;subst hz;show upd _ f _ f=1;rw[af,TX]
  ·exact d3 pg (s4 (.inr a5.leaf) ((a4 h.kept.own).but pg)) y z e hz zm
 ·by_cases e:y=pg
  ·subst e;rw[g1]at hz;injection hz with hz;subst hz;exact⟨⟨f,l.prot,false⟩,by rw[ye,af],rfl,KC⟩
  ·obtain⟨_,_,_,_,e5,e6⟩:=h.kept.sp.leaf hz;have ZY:z.frame≠f:=fun e=>by rw[e]at e5;have:=a5.leaf;omega
   exact⟨z,by rw[ye,ah _ _ e];exact hz,rfl,fun i _ =>congrFun ((Hg _ e6 ZY).trans (a3 _ e5)) i⟩
 ·rw[ye,ah _ _ xA];exact h.same y z hz
 ·rw[ye,ah _ _ xA];exact h.rest y xA hy
 ·rw[ye,af]at hy;injection hy with hy;subst hy;exact(KC i hi).trans ((g2 e).2 i hi)
structure Ask (F:List Nd)(rl:List Reg)(r:Reg)(pg:Nat):Prop where
 find:Rg.find rl ((pg:Int)*4096)=(r,true)
 one:Rg.one r=true
 lo:r.fr<=(pg:Int)*4096
 hi:(pg:Int)*4096<r.to
 ok:r.Ok
 file:0<=r.ino-> ∃y,F[r.ino.toNat]? =some y/\y.kind=1
theorem Ask.facts {rl:List Reg}(h:Ask F rl r pg):pg<34359738368/\0<=r.off/\r.off<=281474976710656/\0<=r.fr/\0<=r.prot/\r.prot<=7/\0<=srcK r pg:=by
 have h1:=aE h.one;have h2:=h.hi;have h3:=h.lo;have h4:=h.ok.fr0;have h5:=h.ok.off0;have h6:=h.ok.prot0;have h7:0<=srcK r pg:=(by unfold srcK;omega);refine⟨o_,h5,?_,h4,h6,h1.2.2.2.2.1,h7⟩;rcases h1.2.2.2.2.2 with h|h
 ·omega
 ·omega
theorem sK {k:Int}{y:Nd}(h0:0<=ino)(hy:F[ino.toNat]? =some y)(hk:y.kind=1):(dV F ino k).1=0:=by
 unfold dV jJ;have xw:=(List.getElem?_eq_some_iff.1 hy).1;rw[if_neg o_,hy];simp[hk]
end
section
open Go.RowKit Go.Sort
def av (S:Nat->Prop)(c m:Nat):Nat->Prop:=fun b=>S b\/b=m\/b=c
structure Home (w:World)(B c a fs m:Nat)(S:Nat->Prop)(F:List Nd)(clock:Int)(p:Pool)(L:List Slot):Prop where
 cache:au w S c a fs m clock p L
 files: ∃w1 B1 nb c2 ad mp,w1.heap.size=B/\FsIs w1 B1 fs nb c2 ad mp F/\Below B w1 w
 bytes:iN F
 low: ∀b,S b->B<=b
 lows:B<=c/\B<=m/\0<B
variable {w:World}{B c a m:Nat}{S:Nat->Prop}{F:List Nd}{clock:Int}{p:Pool}{L:List Slot}
theorem Home.base {fs:Nat}(h:Home w B c a fs m S F clock p L):B<=w.heap.size:=by
 obtain⟨w1,_,_,_,_,_,h1,_,h3⟩:=h.files;have:=h3.size;omega
theorem Home.fs {fs:Nat}(h:Home w B c a fs m S F clock p L): ∃B1 nb c2 ad mp,FsIs w B1 fs nb c2 ad mp F:=by
 obtain⟨w1,B1,nb,c2,ad,mp,h1,h2,h3⟩:=h.files;exact⟨B1,nb,c2,ad,mp,h2.below (by rw[h1];exact h3)⟩
theorem Home.lts {fs:Nat}(h:Home w B c a fs m S F clock p L):c<w.heap.size/\m<w.heap.size/\ ∀b,S b->b<w.heap.size:=⟨h.cache.lts.1,h.cache.lts.2.1,h.cache.pool.low⟩
variable {w':World}{S':Nat->Prop}
theorem Home.step {fs:Nat}{xr:Int}{p':Pool}{L':List Slot}(h:Home w B c a fs m S F clock p L)(hC:au w' S' c a fs m xr p' L')(hm:Mod (av S c m) w w')(ho:Out S S' w):Home w' B c a fs m S' F xr p' L':=by
 have hB:=h.base;obtain⟨w1,B1,nb,c2,ad,mp,h1,h2,h3⟩:=h.files;refine⟨hC,⟨w1,B1,nb,c2,ad,mp,h1,h2,h3.trans (hm.below (fun b hb=>?_) hB)⟩,h.bytes,fun b hb=>(ho b hb).elim (h.low b) (fun e=>o_),h.lows⟩;rcases hb with e|e|e
 ·exact h.low b e
 ·rw[e];exact h.lows.2.1
 ·rw[e];exact h.lows.1
variable {X:Nat->Prop}
theorem Home.mod {fs:Nat}(h:Home w B c a fs m S F clock p L)(hm:Mod X w w')(hX: ∀b,X b-> ¬S b/\b≠c/\b≠m/\B<=b):Home w' B c a fs m S F clock p L:=by
 have hB:=h.base;obtain⟨w1,B1,nb,c2,ad,mp,h1,h2,h3⟩:=h.files;exact⟨h.cache.mod hm (fun b hb e=>(hX b e).1 hb) (fun e=>by have:=(hX 0 e).2.2.2;have:=h.lows.2.2;omega) (fun e=>(hX c e).2.1 rfl) (fun e=>(hX m e).2.2.1 rfl),⟨w1,B1,nb,c2,ad,mp,h1,h2,h3.trans (hm.below (fun b hb=>(hX b hb).2.2.2) hB)⟩,h.bytes,h.low,h.lows⟩
theorem Home.below {fs:Nat}(h:Home w B c a fs m S F clock p L)(hb:Below w.heap.size w w'):Home w' B c a fs m S F clock p L:=
 h.mod (X:=fun _ =>False) (Mod.of hb) (fun b e=>e.elim)
def dP (w:World)(s c a t:Nat)(A:Option Addr)(n cap:Nat):Prop:=w.heap[s]? =some (.cells #[.pointer (some ⟨c,0,none⟩),.pointer (some ⟨a,0,none⟩),.pointer (some ⟨t,0,none⟩),.slice A n cap] 122 (0,0))
variable {A:Option Addr}{n cap:Nat}
theorem RSl.mod {l:List Reg}(h:RSl w w.heap.size A n cap l)(hm:Mod X w w')(hX: ∀ad,A=some ad-> ¬X ad.block):RSl w' w'.heap.size A n cap l:=
 ⟨h.len,h.cap,h.few,fun k r hr=>by
  obtain⟨b,off,e,xw,yI⟩:=h.at_ k r hr;have hb:w'.heap[b]? =w.heap[b]? :=hm.block b xw (hX _ e);have hc: ∀i,w'.cell? ⟨b,i,none⟩=w.cell? ⟨b,i,none⟩:=fun i=>by unfold World.cell?;simp only[hb]
  exact⟨b,off,e,wW xw hm.size,⟨(hc _).trans yI.c0,(hc _).trans yI.c1,(hc _).trans yI.c2,(hc _).trans yI.c3,(hc _).trans yI.c4⟩⟩⟩
structure One (w:World)(B c a m:Nat)(S:Nat->Prop)(s t root:Nat)(A:Option Addr)(n cap:Nat)(rl:List Reg):Prop where
 self:dP w s c a t A n cap
 tab:al w t c a root
 row:RSl w w.heap.size A n cap rl
 noS: ¬S s/\s≠m/\s≠c/\B<=s
 noT: ¬S t/\t≠m/\t≠c/\B<=t
 noR: ∀ad,A=some ad-> ¬S ad.block/\ad.block≠m/\ad.block≠c/\ad.block≠s/\ad.block≠t/\B<=ad.block/\ad.block<w.heap.size
variable {s t root:Nat}{rl:List Reg}
theorem One.lts (h:One w B c a m S s t root A n cap rl):s<w.heap.size/\t<w.heap.size/\s≠t:=by
 refine⟨(wO h.self).1,(wO h.tab).1,fun e=>?_⟩;have h1:=h.self;have h2:=h.tab;unfold dP at h1;unfold al at h2;rw[<-e,h1]at h2;injection h2 with h2;injection h2 with h2;have:=congrArg Array.size h2;simp at this
theorem One.step (h:One w B c a m S s t root A n cap rl)(hm:Mod X w w')(hX: ∀b,X b->av S c m b\/w.heap.size<=b)(ho:Out S S' w):One w' B c a m S' s t root A n cap rl:=by
 obtain⟨l1,l2,_⟩:=h.lts;have hz:=hm.size;have key: ∀b,b<w.heap.size-> ¬S b->b≠m->b≠c-> ¬X b:=fun b hb h1 h2 h3 e=>by
  rcases hX b e with e|e
  ·exact e.elim h1 fun e=>e.elim h2 h3
  ·omega
 have xL: ∀b,b<w.heap.size-> ¬S b-> ¬S' b:=fun b hb h1 e=>(ho b e).elim h1 (fun e=>o_);exact⟨(hm.block s l1 (key s l1 h.noS.1 h.noS.2.1 h.noS.2.2.1)).trans h.self,(hm.block t l2 (key t l2 h.noT.1 h.noT.2.1 h.noT.2.2.1)).trans h.tab,h.row.mod hm (fun ad e=>by
  obtain⟨n1,n2,n3,n4,n5,n6,n7⟩:=h.noR ad e;exact key _ n7 n1 n2 n3),⟨xL s l1 h.noS.1,h.noS.2⟩,⟨xL t l2 h.noT.1,h.noT.2⟩,fun ad e=>by
  obtain⟨n1,n2,n3,n4,n5,n6,n7⟩:=h.noR ad e;exact⟨xL _ n7 n1,n2,n3,n4,n5,n6,o_⟩⟩
theorem One.foot (h:One w B c a m S s t root A n cap rl)(hm:Mod (av S c m) w w')(ho:Out S S' w):One w' B c a m S' s t root A n cap rl:=h.step hm (fun b e=> .inl e) ho
theorem One.below (h:One w B c a m S s t root A n cap rl)(hb:Below w.heap.size w w'):One w' B c a m S s t root A n cap rl:=h.step (X:=fun _ =>False) (Mod.of hb) (fun b e=>e.elim) (Out.refl _ _)
theorem eO (s c a t n cap:Nat)(A:Option Addr)(w:World)(h:dP w s c a t A n cap):Calls prog 56 #[.pointer (some ⟨s,0,none⟩)] w fun e w'=>e= .returned (.bool false)/\w=w':=by
 have c2:w.cell? ⟨s,2,none⟩=some (.pointer (some ⟨t,0,none⟩)):=aa h 2;clear h;go_enter func56,ntmps56;go_wp2_with fail;go_ret;exact⟨rfl,rfl⟩
def bF (w:World):Option Addr->Prop
 |none=>True
 |some ad=> ∃s,ad=⟨s,0,none⟩/\w.cell? ⟨s,2,none⟩=some (.pointer none)
theorem dB (P:Option Addr)(w:World)(h:bF w P):Calls prog 56 #[.pointer P] w fun e w'=>e= .returned (.bool true)/\w=w':=by
 cases P with
 |none=>
  clear h;go_enter func56,ntmps56;go_wp2_with fail;go_ret;exact⟨rfl,rfl⟩
 |some ad=>
  obtain⟨s,rfl,c2⟩:=h;go_enter func56,ntmps56;go_wp2_with fail;go_ret;exact⟨rfl,rfl⟩
variable {b:Nat}
theorem bm (x y z:Value):Mod (fun k=>k=b) w (((w.setCell ⟨b,0,none⟩ x).setCell ⟨b,1,none⟩ y).setCell ⟨b,2,none⟩ z):=
 ((aj (S:=fun k=>k=b) rfl 0 x).trans (Out.refl _ _) (aj (S:=fun k=>k=b) rfl 1 y)).trans (Out.refl _ _) (aj (S:=fun k=>k=b) rfl 2 z)
theorem uc {x y z x' y' z':Value}{t:TypeId}(h:w.heap[b]? =some (.cells #[x,y,z] t (0,0))):(((w.setCell ⟨b,0,none⟩ x').setCell ⟨b,1,none⟩ y').setCell ⟨b,2,none⟩ z').heap[b]? =some (.cells #[x',y',z'] t (0,0)):=by
 have h1:=Joins.block_setCell (i:=0) h x';have h2:=Joins.block_setCell (i:=1) h1 y';have h3:=Joins.block_setCell (i:=2) h2 z';simpa using h3
theorem Mod.own {Y:Nat->Prop}(h:Mod X w w')(hX: ∀b,X b->Y b\/w.heap.size<=b):Mod Y w w':=⟨h.os,h.tape,h.output,h.size,fun b hb hn=>h.block b hb fun e=>(hX b e).elim hn (fun e=>o_)⟩
def pn (w:World)(S:Nat->Prop)(c a fs m:Nat)(F:List Nd)(ino k clock:Int)(p:Pool)(L:List Slot)(e:Ending)(w':World):Prop:=
 ∃r f p' L' xr S',e= .returned (.tuple #[.agg (aq ⟨f,0,true⟩),.bool false,.int .i64 r])/\au w' S' c a fs m xr p' L'/\Mod (av S c m) w w'/\Out S S' w/\GetF F ino k p L clock r f p' L' xr
theorem tp (B c a fs m:Nat)(ino k clock:Int)(w:World)(S:Nat->Prop)(F:List Nd)(p:Pool)(L:List Slot)(h:Home w B c a fs m S F clock p L)(hi:(Lit.int .i64 ino).wf=true)(BU:0<=clock/\clock<1000000):
  Calls prog 231 #[.agg #[.int .i64 ino,.int .i64 k],.pointer (some ⟨c,0,none⟩)] w (pn w S c a fs m F ino k clock p L):=by
 obtain⟨w0,xv⟩:=e_ ((w.alloc (.cells #[.int .i64 ino,.int .i64 k] 248)).alloc (.cells #[.int .i64 0,.int .u8 0,.bool false] 83));have xz:Below w.heap.size w w0:=(by rw[xv];exact wR.alloc s_ _);have CK:w0.heap.size=w.heap.size+2:=(by rw[xv];simp);have Um:w0.heap[w.heap.size]? =some (.cells #[.int .i64 ino,.int .i64 k] 248 (0,0)):=(by rw[xv];exact(wT _ _ _ s_).trans (ab w _));have Cp:w0.heap[w.heap.size+1]? =some (.cells #[.int .i64 0,.int .u8 0,.bool false] 83 (0,0)):=by
  rw[xv];have:=ab (w.alloc (.cells #[.int .i64 ino,.int .i64 k] 248)) (.cells #[.int .i64 0,.int .u8 0,.bool false] 83)
  rwa [World.size_alloc]at this
 have y0:w0.cell? ⟨w.heap.size,0,none⟩=some (.int .i64 ino):=aa Um 0;have y1:w0.cell? ⟨w.heap.size,1,none⟩=some (.int .i64 k):=aa Um 1;have Gv:=h.below xz;obtain⟨B1,nb,c2,ad,mp,NS⟩:=Gv.fs;have hG:=cget_any B1 nb c2 c a fs m ad mp F ino k clock w0 S p L Gv.cache NS h.bytes hi BU;obtain⟨HG,xU,yd,Jr⟩:=zh4 hG xv xz Cp;have BP:=h.lts;have Me: ¬S (w.heap.size+1):=fun e=>by have:=BP.2.2 _ e;omega
 have BE:w.heap.size+1≠m/\w.heap.size+1≠c:=⟨o_,o_⟩;clear hG Gv xv xz Cp Um h NS;go_enter func231,ntmps231;go_upto_region 1 with(fail);rw[<-xU.o];go_wp2_with (first
  |(go_at_call 232;refine(HG.o).mono ?_;rintro e w1⟨r,f,p',L',xr,S',rfl,JW,zn,yJ,xJ⟩;have FY:=(zn.block (w.heap.size+1) o_ (fun e=>e.elim Me fun e=>e.elim BE.1 BE.2)).trans Jr.o;obtain⟨Fe,Jp,yB,yc⟩:=zh4 JW zn yJ xJ;clear JW zn yJ xJ;have z0:w1.cell? ⟨w.heap.size+1,0,none⟩=some (.int .i64 0):=aa FY 0;have z1:w1.cell? ⟨w.heap.size+1,1,none⟩=some (.int .u8 0):=aa FY 1;have z2:w1.cell? ⟨w.heap.size+1,2,none⟩=some (.bool false):=aa FY 2;have zf0:=ae FY 0;have zf1:=ae FY 1;have zf2:=ae FY 2)
  |fail)
 have xw:w.heap.size+1<w1.heap.size:=(wO FY).1;refine bodyPost_ret (v:= .tuple #[.agg (aq ⟨f,0,true⟩),.bool false,.int .i64 r]) (by simp[results,results231,go_sem,xw,z0,z1,z2,zf0,zf1,zf2,aq]) rfl ?_;have zF:=bm (w:=w1) (b:=w.heap.size+1) (.int .i64 (f:Int)) (.int .u8 0) (.bool true);have RI:=((Mod.of yd.o).trans (Out.refl _ _) Jp.o);refine⟨r,f,p',L',xr,S',rfl,Fe.o.mod zF (fun b hb e=>?_) (fun e=>o_) (fun e=>o_) (fun e=>o_),((RI.sub (T:=fun b=>av S c m b\/b=w.heap.size+1) fun b e=> .inl e).trans (Out.refl _ _) (zF.sub fun b e=> .inr e)).own (fun b e=>e.imp id fun e=>o_),fun b hb=>(yB.o b hb).imp id (fun e=>o_),yc.o⟩;subst e;exact(yB.o _ hb).elim Me (fun e=>o_)
def pq (w:World)(S:Nat->Prop)(c a fs m:Nat)(clock:Int)(p:Pool)(L:List Slot)(e:Ending)(w':World):Prop:=
 ∃r f p' L' S',e= .returned (.tuple #[.agg (aq ⟨f,0,false⟩),.bool true,.int .i64 r])/\au w' S' c a fs m clock p' L'/\Mod (av S c m) w w'/\Out S S' w/\aw p L r f p' L'
theorem tE (B c a fs m:Nat)(clock:Int)(w:World)(S:Nat->Prop)(F:List Nd)(p:Pool)(L:List Slot)(h:Home w B c a fs m S F clock p L):
  Calls prog 230 #[.agg #[],.pointer (some ⟨c,0,none⟩)] w (pq w S c a fs m clock p L):=by
 obtain⟨w0,xv⟩:=e_ ((w.alloc (.cells #[] 244)).alloc (.cells #[.int .i64 0,.int .u8 0,.bool false] 83));have xz:Below w.heap.size w w0:=(by rw[xv];exact wR.alloc s_ _);have CK:w0.heap.size=w.heap.size+2:=(by rw[xv];simp);have Cp:w0.heap[w.heap.size+1]? =some (.cells #[.int .i64 0,.int .u8 0,.bool false] 83 (0,0)):=by
  rw[xv];have:=ab (w.alloc (.cells #[] 244)) (.cells #[.int .i64 0,.int .u8 0,.bool false] 83)
  rwa [World.size_alloc]at this
 have Gv:=h.below xz;have hG:=fL c a fs m clock w0 S p L Gv.cache;obtain⟨HG,xU,yd,Jr⟩:=zh4 hG xv xz Cp;have BP:=h.lts;have Me: ¬S (w.heap.size+1):=fun e=>by have:=BP.2.2 _ e;omega
 have BE:w.heap.size+1≠m/\w.heap.size+1≠c:=⟨o_,o_⟩;clear hG Gv xv xz Cp h;go_enter func230,ntmps230;go_upto_region 1 with(fail);rw[<-xU.o];go_wp2_with (first
  |(go_at_call 97;refine(HG.o).mono ?_;rintro e w1⟨r,f,p',L',S',rfl,JW,zn,yJ,xJ⟩;have FY:=(zn.block (w.heap.size+1) o_ (fun e=>e.elim Me BE.1)).trans Jr.o;obtain⟨Fe,Jp,yB,yc⟩:=zh4 JW zn yJ xJ;clear JW zn yJ xJ;have z0:w1.cell? ⟨w.heap.size+1,0,none⟩=some (.int .i64 0):=aa FY 0;have z1:w1.cell? ⟨w.heap.size+1,1,none⟩=some (.int .u8 0):=aa FY 1;have z2:w1.cell? ⟨w.heap.size+1,2,none⟩=some (.bool false):=aa FY 2;have zf0:=ae FY 0;have zf1:=ae FY 1;have zf2:=ae FY 2)
  |fail)
 have xw:w.heap.size+1<w1.heap.size:=(wO FY).1;refine bodyPost_ret (v:= .tuple #[.agg (aq ⟨f,0,false⟩),.bool true,.int .i64 r]) (by simp[results,results230,go_sem,xw,z0,z1,z2,zf0,zf1,zf2,aq]) rfl ?_;have zF:=bm (w:=w1) (b:=w.heap.size+1) (.int .i64 (f:Int)) (.int .u8 0) (.bool false);have RI:=((Mod.of yd.o).trans (Out.refl _ _) Jp.o);refine⟨r,f,p',L',S',rfl,Fe.o.mod zF (fun b hb e=>?_) (fun e=>o_) (fun e=>o_) (fun e=>o_),((RI.sub (T:=fun b=>av S c m b\/b=w.heap.size+1) fun b e=> .inl (e.elim .inl fun e=> .inr (.inl e))).trans (Out.refl _ _) (zF.sub fun b e=> .inr e)).own (fun b e=>e.imp id fun e=>o_),fun b hb=>(yB.o b hb).imp id (fun e=>o_),yc.o⟩;subst e;exact(yB.o _ hb).elim Me (fun e=>o_)
end
section
open Go.RowKit Go.Sort
attribute [local go_sem] Oper.semAt_some
def pm (x:Nat×Nat):Nat:=min x.2 (4096-x.1 % 4096)
def pst (x:Nat×Nat):Nat->Nat×Nat
 |0=>x
 |k+1=>((pst x k).1+pm (pst x k),(pst x k).2-pm (pst x k))
theorem uP (x:Nat×Nat):pm x<=x.2:=Nat.min_le_left _ _
variable {x:Nat×Nat}
theorem ri (h:0<x.2):0<pm x:=by
 unfold pm;have:=Nat.mod_lt x.1 (show 0<4096 by decide);omega
theorem cA (x:Nat×Nat)(k:Nat):(pst x k).1+(pst x k).2=x.1+x.2:=by
 induction k with
 |zero=>rfl
 |succ k ih=>
  have:=uP (pst x k);show(pst x k).1+pm (pst x k)+((pst x k).2-pm (pst x k))=_;omega
structure PgSt (W:World)(b1 b2:Nat)(x:Nat×Nat):Prop where
 n:W.heap[b1]? =some (.cells #[.int .i64 (x.2:Int)] 3 (0,0))
 a:W.heap[b2]? =some (.cells #[.int .u64 (x.1:Int)] 43 (0,0))
def cN (W:World)(b1 b2:Nat)(y:Nat×Nat):World:=(W.setCell ⟨b2,0,none⟩ (.int .u64 (y.1:Int))).setCell ⟨b1,0,none⟩ (.int .i64 (y.2:Int))
def fj (W:World)(b1:Nat):Nat:=match W.cell? ⟨b1,0,none⟩with|some (.int _ i)=>i.toNat|_ =>0
theorem PgSt.left {W:World}{b1 b2:Nat}(h:PgSt W b1 b2 x):fj W b1=x.2:=by
 have:W.cell? ⟨b1,0,none⟩=some (.int .i64 (x.2:Int)):=aa h.n 0;unfold fj;rw[this];simp
theorem iw (n:Nat)(hn:1<=n)(l b1 b2:Nat)(xA:b1≠b2)(x:Nat×Nat)(hx:x.1+x.2<9223372036854775808)(J:Nat->World->Prop)(Jx:World->Prop)
  (hJ: ∀k W,J k W->PgSt W b1 b2 (pst x k))
  (hY: ∀k W,J k W->0<(pst x k).2->YieldAt Fence.wide (n-1) prog l #[.int .u64 ((pst x k).1:Int), .int .i64 (pm (pst x k):Int)] W fun e W'=>
   (e= .returned (.bool true)/\PgSt W' b1 b2 (pst x k)/\J (k+1) (cN W' b1 b2 (pst x (k+1))))\/(e= .returned (.bool false)/\Jx W'))
  (W:World)(h0:J 0 W):
  CallsIn Fence.wide n prog 155 #[.func (.yield l) #[] #[],.pointer (some ⟨b1,0,none⟩),.pointer (some ⟨b2,0,none⟩)] W fun e W'=>(∃v,e= .returned v)/\
   ((∃k,(pst x k).2=0/\J k W')\/Jx W'):=by
 have BZ:Fence.wide.round=none:=rfl;refine callsIn_of_wp func155 rfl trivial ?_ BZ;simp only[ntmps155,List.size_toArray,xd,List.length_nil,Nat.reduceAdd,Nat.reduceSub,Array.replicate_succ,Array.replicate_zero,List.push_toArray,List.append_toArray,List.nil_append,List.cons_append]
 gi_wp2
 gi_loopw [4] (fun v wr=> ∃k:Nat,J k wr) (fun _ wr=>fj wr b1)
 case atStart=>exact⟨0,h0⟩
 case round=>
  obtain⟨k,SJ⟩:=hrel;have yi:=hJ k wr SJ;have Dh:=yi.left;obtain⟨a,ha⟩:=e_ ((pst x k).1);obtain⟨r,hr⟩:=e_ ((pst x k).2);have ze:=cA x k;rw[<-ha,<-hr]at ze;have c1:wr.cell? ⟨b1,0,none⟩=some (.int .i64 (r:Int)):=(by rw[hr];exact aa yi.n 0);have c2:wr.cell? ⟨b2,0,none⟩=some (.int .u64 (a:Int)):=(by rw[ha];exact aa yi.a 0);by_cases xZ:0<r
  ·have TK:=hY k wr SJ (by rw[<-hr];exact xZ);obtain⟨M,hM⟩:=e_ (pm (pst x k));rw[<-ha,<-hM]at TK;have SH:M<=r:=(by rw[hM,hr];exact uP _);have hM0:0<M:=(by rw[hM];exact ri (by rw[<-hr];exact xZ));obtain⟨u,hu⟩: ∃u:Int,(a:Int) % 4096=u:=⟨_,rfl⟩;have hu0:0<=u/\u<4096:=o_;have Ad:IntKind.u64.wrap (4096-u)=4096-u:=v_;have yl:IntKind.i64.wrap (4096-u)=4096-u:=(by rw[IntKind.wrap_i64];omega);have Kr:min (r:Int) (4096-u)=(M:Int):=by
    rw[hM];unfold pm;rw[<-ha,<-hr];omega
   obtain⟨fn,tmps,assign,body,hy,hR⟩:=TK;have hpos2:(0:Int)<(r:Int):=o_;obtain⟨Bo,HLE,HA,HR,HM,HS,EZ,HJ⟩:=zh8 yi Dh ha hr hM ze hR hJ;clear yi Dh ha hr hM ze hR xZ hY hJ
   gi_wp2
   refine EZ.o.mono ?_;rintro e W3 (⟨rfl,CI,KL⟩|⟨rfl,hJx3⟩)
   ·have d1:W3.cell? ⟨b1,0,none⟩=some (.int .i64 (r:Int)):=(by rw[HR.o];exact aa CI.n 0);have d2:W3.cell? ⟨b2,0,none⟩=some (.int .u64 (a:Int)):=(by rw[HA.o];exact aa CI.a 0);have f1:=ae CI.n 0;have f2:=ae CI.a 0;have yU:IntKind.u64.wrap (M:Int)=(M:Int):=(by have:=HS.o;rw[IntKind.wrap_u64];omega);have zV:IntKind.u64.wrap ((a:Int)+(M:Int))=(a:Int)+(M:Int):=(by have:=HS.o;rw[IntKind.wrap_u64];omega);have Zn:IntKind.i64.wrap ((r:Int)-(M:Int))=(r:Int)-(M:Int):=(by have:=HS.o;rw[IntKind.wrap_i64];omega);have e1:(W3.setCell ⟨b2,0,none⟩ (.int .u64 ((a:Int)+(M:Int)))).cell? ⟨b1,0,none⟩=some (.int .i64 (r:Int)):=(lj ((aj (S:=fun b=>b=b2) rfl 0 _).block b1 (World.block_lt_of_cell? _ _ d1) xA) 0).trans d1;have Ih:cN W3 b1 b2 (pst x (k+1))=(W3.setCell ⟨b2,0,none⟩ (.int .u64 ((a:Int)+(M:Int)))).setCell ⟨b1,0,none⟩ (.int .i64 ((r:Int)-(M:Int))):=by
     show(W3.setCell ⟨b2,0,none⟩ (.int .u64 (((pst x k).1+pm (pst x k):Nat):Int))).setCell ⟨b1,0,none⟩ (.int .i64 (((pst x k).2-pm (pst x k):Nat):Int))=_;rw[<-HA.o,<-HR.o,<-HM.o,Int.natCast_add,Int.natCast_sub SH]
    have hJn:=HJ.o _ _ KL;rw[Ih]at KL hJn;have xW:=hJn.left;obtain⟨Jq,Fb⟩:=zh2 xW KL;clear Ih KL hJn xW CI
    gi_wp2
    go_roundw
    case rel=>exact⟨k+1,Fb.o⟩
    case measure=>
     rw[Jq.o,HLE.o];have h1:=uP (pst x k);show(pst x k).2-pm (pst x k)<(pst x k).2;have:=HM.o;have:=HR.o;omega
   ·gi_wp2
    refine bodyPost_ret (results_none rfl _ _ _) rfl ?_;exact⟨⟨_,rfl⟩,.inr hJx3⟩
  ·have DR:r=0:=o_;have c3:wr.cell? ⟨b1,0,none⟩=some (.int .i64 0):=(by rw[c1,DR];rfl);have HK:=wP (show(pst x k).2=0 by omega);clear c1 yi Dh ha hr ze xZ DR
   gi_wp2
   go_end0;exact⟨⟨_,rfl⟩,.inl ⟨k,HK.o,SJ⟩⟩
end
section
open Go.RowKit Go.Sort
attribute [local go_sem] Oper.semAt_some
theorem iv (addr len:Int)(w:World):Calls prog 120 #[.int .u64 addr,.int .i64 len] w fun e w'=>e= .returned (.func (.func 155) #[] #[.pointer (some ⟨w.heap.size+1,0,none⟩),.pointer (some ⟨w.heap.size,0,none⟩)])/\
  w'=(w.alloc (.cells #[.int .u64 addr] 43)).alloc (.cells #[.int .i64 len] 3):=by
 go_enter func120,ntmps120;go_wp2_with fail;go_ret;exact⟨rfl,rfl⟩
def Perm (rl:List Reg)(x:Nat×Nat)(want:Int):Prop:=x.1+x.2<=140737488355328/\ ∀k,0<(pst x k).2-> ∃r,Rg.find rl ((pst x k).1:Int)=(r,true)/\bits .and .u8 r.prot want=want
open Classical in
noncomputable def df (rl:List Reg)(x:Nat×Nat)(want:Int):Bool:=decide (Perm rl x want)
variable {rl:List Reg}{x:Nat×Nat}{want:Int}
theorem cm (h: ¬Perm rl x want):df rl x want=false:=by unfold df;exact @xg _ (Classical.propDecidable _) h
theorem fB (h:Perm rl x want):df rl x want=true:=by unfold df;exact @xh _ (Classical.propDecidable _) h
variable {l:Nat}{w W:World}{o:Obj}
theorem fN {B:Nat}(h:Below B w W)(hl:B<=l):Below B w (W.putObj l o):=⟨h.os,h.tape,h.output,by rw[World.putObj_size];exact h.size,fun b hb=>(World.putObj_heap_other o_).trans (h.block b hb)⟩
structure PgJ (w w1:World)(rl:List Reg)(x:Nat×Nat)(want:Int)(s:Nat)(k:Nat)(W:World):Prop where
 pg:PgSt W (w1.heap.size-1) (w1.heap.size-2) (pst x k)
 mark:W.heap[w1.heap.size]? =some (.deferred (some []))
 below:Below w.heap.size w W
 p0:W.heap[w.heap.size]? =some (.cells #[.pointer (some ⟨s,0,none⟩)] 60 (0,0))
 p1:W.heap[w.heap.size+1]? =some (.cells #[.int .u8 want] 5 (0,0))
 p2:W.heap[w.heap.size+1+1]? =some (.cells #[.bool false] 4 (0,0))
 ok: ∀j,j<k-> ∃r,Rg.find rl ((pst x j).1:Int)=(r,true)/\bits .and .u8 r.prot want=want
theorem aC :Mod (fun b=>b=l) W (W.putObj l o):=⟨rfl,rfl,rfl,by rw[World.putObj_size];exact wS _,fun b _ hb=>World.putObj_heap_other hb⟩
variable {w1:World}{s k:Nat}
theorem PgJ.keep {W':World}(h:PgJ w w1 rl x want s k W)(hm:Mod (fun b=>b=w1.heap.size+1) W W')(hz:w.heap.size+5<=w1.heap.size):PgJ w w1 rl x want s k W':=by
 have xw: ∀ {b:Nat} {o:Obj},W.heap[b]? =some o->b≠w1.heap.size+1->W'.heap[b]? =some o:=fun h1 h2=>(hm.block _ (wO h1).1 h2).trans h1;exact⟨⟨xw h.pg.n o_,xw h.pg.a o_⟩,xw h.mark o_,⟨hm.os.trans h.below.os,hm.tape.trans h.below.tape,hm.output.trans h.below.output,xn h.below.size hm.size,fun b hb=>(hm.block b (by have:=h.below.size;omega) o_).trans (h.below.block b hb)⟩,xw h.p0 o_,xw h.p1 o_,xw h.p2 o_,h.ok⟩
variable {r:Reg}
theorem PgJ.next (h:PgJ w w1 rl x want s k W)(hz:w.heap.size+5<=w1.heap.size)(hr:Rg.find rl ((pst x k).1:Int)=(r,true))(hb:bits .and .u8 r.prot want=want):
  PgJ w w1 rl x want s (k+1) (cN W (w1.heap.size-1) (w1.heap.size-2) (pst x (k+1)))/\(∀b,b≠w1.heap.size-1->b≠w1.heap.size-2->b<W.heap.size->(cN W (w1.heap.size-1) (w1.heap.size-2) (pst x (k+1))).heap[b]? =W.heap[b]?):=by
 have hm:Mod (fun b=>b=w1.heap.size-1\/b=w1.heap.size-2) W (cN W (w1.heap.size-1) (w1.heap.size-2) (pst x (k+1))):=(aj (S:=fun b=>b=w1.heap.size-1\/b=w1.heap.size-2) (.inr rfl) 0 _).trans (Out.refl _ _) (aj (.inl rfl) 0 _);have xw: ∀ {b:Nat} {o:Obj},W.heap[b]? =some o->b≠w1.heap.size-1->b≠w1.heap.size-2->(cN W (w1.heap.size-1) (w1.heap.size-2) (pst x (k+1))).heap[b]? =some o:=fun h1 h2 h3=>(hm.block _ (wO h1).1 (fun e=>e.elim h2 h3)).trans h1;refine⟨⟨⟨?_,?_⟩,xw h.mark o_ o_,⟨hm.os.trans h.below.os,hm.tape.trans h.below.tape,hm.output.trans h.below.output,xn h.below.size hm.size,fun b hb=>(hm.block b (by have:=h.below.size;omega) o_).trans (h.below.block b hb)⟩,xw h.p0 o_ o_,xw h.p1 o_ o_,xw h.p2 o_ o_,fun j hj=>?_⟩,fun b h1 h2 h3=>hm.block b h3 (fun e=>e.elim h1 h2)⟩
 ·have h1:=(aj (S:=fun b=>b=w1.heap.size-2) (w:=W) rfl 0 (.int .u64 ((pst x (k+1)).1:Int))).block (w1.heap.size-1) (wO h.pg.n).1 o_;exact be (h1.trans h.pg.n)
 ·have h1:=be (y:= .int .u64 ((pst x (k+1)).1:Int)) h.pg.a;exact((aj (S:=fun b=>b=w1.heap.size-1) rfl 0 _).block (w1.heap.size-2) (wO h1).1 o_).trans h1
 ·rcases Nat.lt_or_ge j k with h1|h1
  ·exact h.ok j h1
  ·obtain rfl:j=k:=o_;exact⟨r,hr,hb⟩
variable {o2:Obj}
theorem cn {b:Nat}(hb:b<w.heap.size):((w.alloc o).alloc o2).heap[b]? =w.heap[b]? :=(wT _ _ _ t_).trans (wT _ _ _ hb)
variable {Wn:World}
theorem sH {b1 b2:Nat}(hJ:PgJ w w1 rl x want s k W)(hm:Mod (fun b=>b=w1.heap.size+1) W Wn)(hz:w.heap.size+5<=w1.heap.size)(hl:w1.heap.size+1<Wn.heap.size)
  (hr:Rg.find rl ((pst x k).1:Int)=(r,true))(hb:bits .and .u8 r.prot want=want)(h1:b1=w1.heap.size-1)(h2:b2=w1.heap.size-2):
  PgSt (Wn.putObj (w1.heap.size+1) o) b1 b2 (pst x k)/\PgJ w w1 rl x want s (k+1) (cN (Wn.putObj (w1.heap.size+1) o) b1 b2 (pst x (k+1)))/\(cN (Wn.putObj (w1.heap.size+1) o) b1 b2 (pst x (k+1))).heap[w1.heap.size+1]? =some o:=by
 subst h1 h2;have hk:=hJ.keep (hm.trans (Out.refl _ _) (aC (o:=o))) hz;obtain⟨n1,n2⟩:=hk.next hz hr hb;exact⟨hk.pg,n1,(n2 _ o_ o_ (by rw[World.putObj_size];exact hl)).trans (World.putObj_heap_same hl)⟩
theorem kC (h:PgJ w w1 rl x want s k Wn)(hz:w.heap.size+5<=w1.heap.size)(hl:Wn.heap[w1.heap.size+1]? =some o):
  (Wn.setCell ⟨w.heap.size+1+1,0,none⟩ (.bool false)).heap[w1.heap.size+1]? =some o/\((Wn.setCell ⟨w.heap.size+1+1,0,none⟩ (.bool false)).putObj (w1.heap.size+1) o2).heap[w1.heap.size+1]? =some o2/\((Wn.setCell ⟨w.heap.size+1+1,0,none⟩ (.bool false)).putObj (w1.heap.size+1) o2).heap[w1.heap.size]? =some (.deferred (some []))/\
  Below w.heap.size w ((Wn.setCell ⟨w.heap.size+1+1,0,none⟩ (.bool false)).putObj (w1.heap.size+1) o2)/\((Wn.setCell ⟨w.heap.size+1+1,0,none⟩ (.bool false)).putObj (w1.heap.size+1) o2).heap[w.heap.size+1+1]? =some (.cells #[.bool false] 4 (0,0)):=by
 have hm:Mod (fun b=>b=w.heap.size+1+1) Wn (Wn.setCell ⟨w.heap.size+1+1,0,none⟩ (.bool false)):=aj (S:=fun b=>b=w.heap.size+1+1) rfl 0 _;have h1:=(hm.block _ (wO hl).1 o_).trans hl;have h2:=(hm.block _ (wO h.mark).1 o_).trans h.mark;exact⟨h1,World.putObj_heap_same (wO h1).1,(World.putObj_heap_other o_).trans h2,fN (h.below.setCell (p:=⟨w.heap.size+1+1,0,none⟩) (by show w.heap.size<=w.heap.size+1+1;omega) _) o_,(World.putObj_heap_other o_).trans (be h.p2)⟩
theorem eQ (h:(pst x k).2=0): ∀d,(pst x (k+d)).2=0
 |0=>h
 |d+1=>by
  have:=eQ h d;show(pst x (k+d)).2-pm (pst x (k+d))=0;omega
theorem PgJ.perm (h:PgJ w w1 rl x want s k W)(h0:(pst x k).2=0)(hx:x.1+x.2<=140737488355328):Perm rl x want:=
 ⟨hx,fun j hj=>h.ok j (by
  rcases Nat.lt_or_ge j k with h1|h1
  ·exact h1
  ·have:=eQ h0 (j-k);rw[show k+(j-k)=j by omega]at this;omega)⟩
theorem kD (s c a t n cap:Nat)(A:Option Addr)(rl:List Reg)(addr len:Nat)(want:Int)(w:World)(zj:dP w s c a t A n cap)(xG:RSl w w.heap.size A n cap rl)(hw:addr<18446744073709551616)(hl:len<9223372036854775808):
  Calls prog 119 #[.pointer (some ⟨s,0,none⟩),.int .u64 (addr:Int),.int .i64 (len:Int),.int .u8 want] w
   fun e w'=>e= .returned (.bool (df rl (addr,len) want))/\Below w.heap.size w w':=by
 refine(callsIn_wide (n:=9)).1 ?_;refine callsIn_of_wp_marks func119 rfl trivial ?_;simp only[ntmps119,List.size_toArray,xd,List.length_nil,Nat.reduceAdd,Nat.reduceSub,Array.replicate_succ,Array.replicate_zero,List.push_toArray,List.append_toArray,List.nil_append,List.cons_append];obtain⟨w0,xv⟩:=e_ (((w.alloc (.cells #[.pointer (some ⟨s,0,none⟩)] 60)).alloc (.cells #[.int .u8 want] 5)).alloc (.cells #[.bool false] 4));have xT:w0.heap.size=w.heap.size+1+1+1:=(by rw[xv];simp);have xz:Below w.heap.size w w0:=(by rw[xv];exact(wR.alloc s_ _).alloc t_ _);have AI:w0.heap[w.heap.size+1+1]? =some (.cells #[.bool false] 4 (0,0)):=by
  rw[xv];have:=ab ((w.alloc (.cells #[.pointer (some ⟨s,0,none⟩)] 60)).alloc (.cells #[.int .u8 want] 5)) (.cells #[.bool false] 4)
  rwa [World.size_alloc,World.size_alloc]at this
 have FV:w0.heap[w.heap.size+1]? =some (.cells #[.int .u8 want] 5 (0,0)):=by
  rw[xv];have:=ab (w.alloc (.cells #[.pointer (some ⟨s,0,none⟩)] 60)) (.cells #[.int .u8 want] 5);rw[World.size_alloc]at this;exact(wT _ _ _ s_).trans this
 have BH:w0.heap[w.heap.size]? =some (.cells #[.pointer (some ⟨s,0,none⟩)] 60 (0,0)):=by
  rw[xv];exact(wT _ _ _ t_).trans ((wT _ _ _ s_).trans (ab w _))
 obtain⟨xU,yd,EH⟩:=zh3 xv xz xT;have r0:w0.cell? ⟨w.heap.size+1+1,0,none⟩=some (.bool false):=aa AI 0;have rf0:=ae AI 0;have Ci:w.heap.size+1+1<w0.heap.size:=o_;obtain⟨Gf,Uy,Bp,JY,zR⟩:=zh5 AI FV BH zj xG;have hss:s<w.heap.size:=(wO zj).1;clear xz AI FV BH xT xv zj xG;by_cases Ag:140737488355328<addr
 ·have xL:df rl (addr,len) want=false:=cm (fun h=>by have:=h.1;simp at this;omega);have Ds:=wP xL;clear xL
  gi_wp2
  rw[<-xU.o];refine⟨.bool false,?_,by rw[Ds.o],yd.o⟩;simp[results,results119,go_sem,r0]
 have yl:IntKind.u64.wrap (len:Int)=(len:Int):=v_;have yU:IntKind.u64.wrap (140737488355328-(addr:Int))=140737488355328-(addr:Int):=v_;by_cases JF:(140737488355328:Int)-(addr:Int)<(len:Int)
 ·have xL:df rl (addr,len) want=false:=cm (fun h=>by have:=h.1;simp at this;omega);have Ds:=wP xL;clear xL
  gi_wp2
  rw[<-xU.o];refine⟨.bool false,?_,by rw[Ds.o],yd.o⟩;simp[results,results119,go_sem,r0]
 gi_wp2_with (first
  |(refine⟨trivial,?_⟩;rw[<-xU.o];refine(callsIn_wide.2 (iv (addr:Int) (len:Int) w0)).mono ?_;rintro e w1⟨rfl,Ad⟩)
  |fail)
 have xQ:w1.heap.size=w0.heap.size+2:=(by rw[Ad];simp);have xu:Below w0.heap.size w0 w1:=(by rw[Ad];exact wR.alloc s_ _);have SU:w1.heap[w0.heap.size]? =some (.cells #[.int .u64 (addr:Int)] 43 (0,0)):=(by rw[Ad];exact(wT _ _ _ s_).trans (ab w0 _));have Gu:w1.heap[w0.heap.size+1]? =some (.cells #[.int .i64 (len:Int)] 3 (0,0)):=by
  rw[Ad];have:=ab (w0.alloc (.cells #[.int .u64 (addr:Int)] 43)) (.cells #[.int .i64 (len:Int)] 3)
  rwa [World.size_alloc]at this
 rw[<-Ad];obtain⟨KM,xI,Zj,Jl⟩:=zh4 xQ xu SU Gu;clear Ad xQ xu SU Gu r0 rf0 Ci;refine cv rfl o_ (gf:=155) (lb:= #[.pointer (some ⟨w0.heap.size+1,0,none⟩),.pointer (some ⟨w0.heap.size,0,none⟩)]) rfl trivial (enters_of func155 k_ rfl) ?_;intro fn FP rec zr;refine(iw (9-1) o_ (w1.heap.size+1) (w0.heap.size+1) w0.heap.size o_ (addr,len) (by simp only;omega) (fun k W=>PgJ w w1 rl (addr,len) want s k W/\W.heap[w1.heap.size+1]? =some (.loop (rec .ready none))) (fun W=>W.heap[w1.heap.size+1]? =some (.loop (rec .done (some .ret)))/\W.heap[w1.heap.size]? =some (.deferred (some []))/\Below w.heap.size w W/\W.heap[w.heap.size+1+1]? =some (.cells #[.bool false] 4 (0,0))/\ ¬Perm rl (addr,len) want) ?_ ?_ _ ?_).mono ?_
 ·intro k W hJ;have:=hJ.1.pg;rw[KM.o]at this;exact this
 ·intro k W hJ xZ;refine bP trivial zr hJ.2 rfl ?_;obtain⟨⟨j1,j2,j3,j4,j5,j6,j7⟩,jl⟩:=hJ;obtain⟨x,hx⟩:=e_ ((pst (addr,len) k).1);obtain⟨M,hM⟩:=e_ (pm (pst (addr,len) k));rw[<-hx,<-hM];obtain⟨HX,HM,J1,J2,J3,J4,J5,J6⟩:=zh8 hx hM j1 j2 j3 j4 j5 j6;obtain⟨J7,JL,AB,Th⟩:=zh4 j7 jl xZ zr;clear hx hM j1 j2 j3 j4 j5 j6 j7 jl xZ zr
  gi_wp2
  refine⟨JL.o,?_⟩;obtain⟨W2,yo⟩:=e_ (W.putObj (w1.heap.size+1) (.loop (rec .busy none)));rw[<-yo];have xS:Mod (fun b=>b=w1.heap.size+1) W W2:=(by rw[yo];exact aC);have xW:W2.heap[w1.heap.size+1]? =some (.loop (rec .busy none)):=(by rw[yo];exact World.putObj_heap_same (wO JL.o).1);have xQ:w1.heap.size=w.heap.size+1+1+1+2:=(by rw[KM.o,EH.o]);have xx:Below w.heap.size w W2:=(by rw[yo];exact fN J3.o o_);have c0:W2.cell? ⟨w.heap.size,0,none⟩=some (.pointer (some ⟨s,0,none⟩)):=aa ((xS.block _ (wO J4.o).1 o_).trans J4.o) 0;have zT:=(xS.block _ (wO J5.o).1 o_).trans J5.o;have Ar:=(xS.block _ (wO J6.o).1 o_).trans J6.o;have s3:W2.cell? ⟨s,3,none⟩=some (.slice A n cap):=(xx.cell (p:=⟨s,3,none⟩) hss).trans (aa JY.o 3);have Kz:=mW A n cap (x:Int) W2 rl ((zR.o.below xx (wS _)).more xx.size);have hlw:w1.heap.size+1<W2.heap.size:=(wO xW).1;obtain⟨⟨r,bf⟩,DE⟩: ∃rb,rb=Rg.find rl (x:Int):=⟨_,rfl⟩;rw[<-DE]at Kz;obtain⟨Uv,Hz,Gc,Ex,Jq,Fe,zU,HZ⟩:=zh8 DE Kz yo xS xW zT Ar xQ;have yW:=wP xx;clear DE Kz yo xS xW zT Ar xQ xx;by_cases hb:bf=true
  ·subst hb;by_cases hq:bits .and .u8 r.prot want=want
   ·have PL:(bits .and .u8 r.prot want != want)=false:=(by rw[hq];simp);have Ux:=wP hq;clear hq;gi_wp2_with (first
     |(refine⟨trivial,?_⟩;refine(CallsIn.inRound (w1.heap.size+1) (callsIn_wide.2 Hz.o)).mono ?_;rintro e W3⟨rfl,xE⟩;have CS:=(xE.block _ (by have:=HZ.o;omega)).trans Fe.o;have zX:=(xE.block _ (by have:=HZ.o;omega)).trans zU.o;have e1: ∀o,(W3.alloc o).cell? ⟨w.heap.size+1,0,none⟩=some (.int .u8 want):=fun o=>aa ((wT W3 o _ (wO CS).1).trans CS) 0;have e2: ∀o,(W3.alloc o).cell? ⟨w.heap.size+1+1,0,none⟩=some (.bool false):=fun o=>aa ((wT W3 o _ (wO zX).1).trans zX) 0;have ef2: ∀o,(W3.alloc o).frozen? ⟨w.heap.size+1+1,0,none⟩=false:=fun o=>ae ((wT W3 o _ (wO zX).1).trans zX) 0;have NN:=(xE.block _ hlw).trans Jq.o;obtain⟨Pq,YW,yZ⟩:=zh3 NN zX xE;clear CS zX NN xE)
     |fail)
    exact⟨((wT _ _ _ (wO Pq.o).1).trans Pq.o),.inl ⟨rfl,sH (rl:=rl) (want:=want) (s:=s) (r:=r) ⟨J1.o,J2.o,J3.o,J4.o,J5.o,J6.o,J7.o⟩ (Ex.o.trans (Out.refl _ _) ((Mod.of yZ.o).trans (Out.refl _ _) (Mod.of wR))) (by have:=HZ.o;omega) (by have:=(wO Pq.o).1;simp;omega) (by rw[<-HX.o];exact Uv.o.symm) Ux.o (by rw[KM.o];rfl) (by rw[KM.o];rfl)⟩⟩
   ·have PL:(bits .and .u8 r.prot want != want)=true:=(by rw[bne_iff_ne];exact hq);have Ux:=wP hq;clear hq;gi_wp2_with (first
     |(refine⟨trivial,?_⟩;refine(CallsIn.inRound (w1.heap.size+1) (callsIn_wide.2 Hz.o)).mono ?_;rintro e W3⟨rfl,xE⟩;have CS:=(xE.block _ (by have:=HZ.o;omega)).trans Fe.o;have zX:=(xE.block _ (by have:=HZ.o;omega)).trans zU.o;have e1: ∀o,(W3.alloc o).cell? ⟨w.heap.size+1,0,none⟩=some (.int .u8 want):=fun o=>aa ((wT W3 o _ (wO CS).1).trans CS) 0;have e2: ∀o,(W3.alloc o).cell? ⟨w.heap.size+1+1,0,none⟩=some (.bool false):=fun o=>aa ((wT W3 o _ (wO zX).1).trans zX) 0;have ef2: ∀o,(W3.alloc o).frozen? ⟨w.heap.size+1+1,0,none⟩=false:=fun o=>ae ((wT W3 o _ (wO zX).1).trans zX) 0;have NN:=(xE.block _ hlw).trans Jq.o;obtain⟨Pq,YW,yZ⟩:=zh3 NN zX xE;clear CS zX NN xE)
     |fail)
    obtain⟨q1,q2,q3,q4,q5⟩:=kC (o2:= .loop (rec .done (some .ret))) (PgJ.keep (rl:=rl) (x:=(addr,len)) (want:=want) (s:=s) (k:=k) ⟨J1.o,J2.o,J3.o,J4.o,J5.o,J6.o,J7.o⟩ (Ex.o.trans (Out.refl _ _) ((Mod.of yZ.o).trans (Out.refl _ _) (Mod.of wR))) (by have:=HZ.o;omega)) (by have:=HZ.o;omega) ((wT _ _ _ (wO Pq.o).1).trans Pq.o);exact⟨q1,.inr ⟨rfl,q2,q3,q4,q5,fun hp=>by obtain⟨r2,h1,h2⟩:=hp.2 k AB.o;rw[<-HX.o,<-Uv.o]at h1;injection h1 with h1 _;subst h1;exact Ux.o h2⟩⟩
  ·have xx:bf=false:=(by simpa using hb);subst xx;clear hb;gi_wp2_with (first
    |(refine⟨trivial,?_⟩;refine(CallsIn.inRound (w1.heap.size+1) (callsIn_wide.2 Hz.o)).mono ?_;rintro e W3⟨rfl,xE⟩;have CS:=(xE.block _ (by have:=HZ.o;omega)).trans Fe.o;have zX:=(xE.block _ (by have:=HZ.o;omega)).trans zU.o;have e1: ∀o,(W3.alloc o).cell? ⟨w.heap.size+1,0,none⟩=some (.int .u8 want):=fun o=>aa ((wT W3 o _ (wO CS).1).trans CS) 0;have e2: ∀o,(W3.alloc o).cell? ⟨w.heap.size+1+1,0,none⟩=some (.bool false):=fun o=>aa ((wT W3 o _ (wO zX).1).trans zX) 0;have ef2: ∀o,(W3.alloc o).frozen? ⟨w.heap.size+1+1,0,none⟩=false:=fun o=>ae ((wT W3 o _ (wO zX).1).trans zX) 0;have NN:=(xE.block _ hlw).trans Jq.o;obtain⟨Pq,YW,yZ⟩:=zh3 NN zX xE;clear CS zX NN xE)
    |fail)
   obtain⟨q1,q2,q3,q4,q5⟩:=kC (o2:= .loop (rec .done (some .ret))) (PgJ.keep (rl:=rl) (x:=(addr,len)) (want:=want) (s:=s) (k:=k) ⟨J1.o,J2.o,J3.o,J4.o,J5.o,J6.o,J7.o⟩ (Ex.o.trans (Out.refl _ _) ((Mod.of yZ.o).trans (Out.refl _ _) (Mod.of wR))) (by have:=HZ.o;omega)) (by have:=HZ.o;omega) ((wT _ _ _ (wO Pq.o).1).trans Pq.o);exact⟨q1,.inr ⟨rfl,q2,q3,q4,q5,fun hp=>by obtain⟨r2,h1,h2⟩:=hp.2 k AB.o;rw[<-HX.o,<-Uv.o]at h1;injection h1 with _ h1;cases h1⟩⟩
 ·refine⟨⟨?_,?_,?_,?_,?_,?_,fun j hj=>absurd hj o_⟩,?_⟩
  ·have h1:w1.heap.size-1=w0.heap.size+1:=(by have:=KM.o;omega);have h2:w1.heap.size-2=w0.heap.size:=(by have:=KM.o;omega);rw[h1,h2];exact⟨(cn (by have:=KM.o;omega)).trans Jl.o,(cn (by have:=KM.o;omega)).trans Zj.o⟩
  ·exact(wT _ _ _ s_).trans (ab w1 _)
  ·exact((yd.o.trans (xI.o.mono yd.o.size)).alloc (yd.o.trans (xI.o.mono yd.o.size)).size _).alloc (by have:=(yd.o.trans (xI.o.mono yd.o.size)).size;simp;omega) _
  ·exact(cn (by have:=KM.o;have:=EH.o;omega)).trans ((xI.o.block _ (by have:=EH.o;omega)).trans Bp.o)
  ·exact(cn (by have:=KM.o;have:=EH.o;omega)).trans ((xI.o.block _ (by have:=EH.o;omega)).trans Uy.o)
  ·exact(cn (by have:=KM.o;have:=EH.o;omega)).trans ((xI.o.block _ (by have:=EH.o;omega)).trans Gf.o)
  ·have:=ab (w1.alloc (.deferred (some []))) (.loop (rec .ready none))
   rwa [World.size_alloc]at this
 ·rintro e W⟨hv,⟨k,zh,hJ,hl⟩|⟨hl,hK,hb,hR,hn⟩⟩
  ·refine⟨hv,.inl ⟨hl,?_⟩⟩;have Lq:=fB (hJ.perm zh (by simp only;omega));obtain⟨W2,yo⟩:=e_ (W.putObj (w1.heap.size+1) (.loop (rec .exhausted none)));rw[<-yo];have xS:Mod (fun b=>b=w1.heap.size+1) W W2:=(by rw[yo];exact aC);have hz:w1.heap.size=w.heap.size+1+1+1+2:=(by rw[KM.o,EH.o]);have SK:=hJ.keep xS o_;have c0:W2.cell? ⟨w.heap.size+1+1,0,none⟩=some (.bool false):=aa SK.p2 0;have cf0:=ae SK.p2 0;obtain⟨QO,SW,HZ⟩:=zh3 SK Lq hz;clear SK Lq hz xS yo hJ hl zh hv;unfold ec
   gi_wp2
   have hK:(W2.setCell ⟨w.heap.size+1+1,0,none⟩ (.bool true)).heap[w1.heap.size]? =some (.deferred (some [])):=((aj (S:=fun b=>b=w.heap.size+1+1) rfl 0 _).block _ (wO QO.o.mark).1 (by have:=HZ.o;omega)).trans QO.o.mark;refine⟨s_,.inl ⟨_,_,rfl,run_takeDeferred hK,?_⟩⟩;have hR:((W2.setCell ⟨w.heap.size+1+1,0,none⟩ (.bool true)).putObj w1.heap.size (.deferred none)).heap[w.heap.size+1+1]? =some (.cells #[.bool true] 4 (0,0)):=(World.putObj_heap_other (by have:=HZ.o;omega)).trans (be QO.o.p2);have c1:=aa hR 0;refine⟨.bool true,?_,by rw[SW.o],fN (QO.o.below.setCell (p:=⟨w.heap.size+1+1,0,none⟩) (by show w.heap.size<=w.heap.size+1+1;omega) _) (by have:=HZ.o;omega)⟩;simp[results,results119,go_sem,c1]
  ·refine⟨hv,.inr ⟨_,hl,?_⟩⟩;have hz:w1.heap.size=w.heap.size+1+1+1+2:=(by rw[KM.o,EH.o]);obtain⟨W2,yo⟩:=e_ (W.putObj (w1.heap.size+1) (.loop (rec .exhausted (some .ret))));rw[<-yo];have Ca:W2.heap[w1.heap.size]? =some (.deferred (some [])):=(by rw[yo];exact(World.putObj_heap_other o_).trans hK);have Aj:W2.heap[w.heap.size+1+1]? =some (.cells #[.bool false] 4 (0,0)):=(by rw[yo];exact(World.putObj_heap_other o_).trans hR);have xx:Below w.heap.size w W2:=(by rw[yo];exact fN hb o_);have FW:(W2.putObj w1.heap.size (.deferred none)).heap[w.heap.size+1+1]? =some (.cells #[.bool false] 4 (0,0)):=(World.putObj_heap_other o_).trans Aj;have c1:=aa FW 0;have AJ:=wP hn;have xQ:w.heap.size<=w1.heap.size:=o_;clear yo hl hK hb hR hn hv Aj hz;unfold ec
   gi_wp2
   refine⟨s_,.inl ⟨_,_,rfl,run_takeDeferred Ca,?_⟩⟩;refine⟨.bool false,?_,by rw[cm AJ.o],fN xx xQ⟩;simp[results,results119,go_sem,c1]
end
section
structure Rgs (F:List Nd)(rl:List Reg):Prop where
 right:Rg.right rl=true
 ok:bG rl
 file: ∀r∈rl,0<=r.ino-> ∃y,F[r.ino.toNat]? =some y/\y.kind=1
variable {rl:List Reg}
theorem vA (h1: ∀x∈rl,Rg.one x=true)(a:Int):Rg.find rl (a/4096*4096)=Rg.find rl a:=by
 have:rl.find? (Rg.holds · (a/4096*4096))=rl.find? (Rg.holds · a):=by
  induction rl with
  |nil=>rfl
  |cons x l ih=>
   have hx:=aE (h1 x s_);have e:Rg.holds x (a/4096*4096)=Rg.holds x a:=by
    unfold Rg.holds;rw[decide_eq_decide];omega
   simp only[List.find?_cons,e,ih (fun y hy=>h1 y (by simp[hy]))]
 unfold Rg.find;rw[this]
variable {F:List Nd}{r:Reg}
theorem Rgs.ask (h:Rgs F rl){a:Nat}(hf:Rg.find rl (a:Int)=(r,true)):Ask F rl r (a/4096):=by
 have h1:=dE h.right;have e:(((a/4096:Nat):Int))*4096=(a:Int)/4096*4096:=o_;have KA:Rg.find rl (((a/4096:Nat):Int)*4096)=(r,true):=(by rw[e,vA h1,hf]);rcases lZ rl (((a/4096:Nat):Int)*4096)with⟨_,h2⟩|⟨x,_,h2,hm,h3,h4⟩
 ·rw[KA]at h2;injection h2 with _ h2;cases h2
 ·rw[KA]at h2;injection h2 with h2 _;subst h2;exact⟨KA,h1 r hm,h3,h4,h.ok r hm,h.file r hm⟩
def pH (F:List Nd)(rl:List Reg)(g:Nat):Nat->Nat:=srcD F (Rg.find rl ((g:Int)*4096)).1 g
def cont (F:List Nd)(rl:List Reg)(p:Pool)(T:Tab)(g:Nat):Nat->Nat:=match T.lf g with|some l=>p.dat l.frame|none=>pH F rl g
variable {p:Pool}{T:Tab}{g:Nat}{l:Leaf}
theorem bq (h:T.lf g=some l):cont F rl p T g=p.dat l.frame:=by unfold cont;rw[h]
theorem bX (h:T.lf g=none):cont F rl p T g=pH F rl g:=by unfold cont;rw[h]
structure Seen (F:List Nd)(hold:Nat->Nat)(rl:List Reg)(p:Pool)(L:List Slot)(T:Tab)(p':Pool)(L':List Slot)(T':Tab):Prop where
 kept:Kept F hold p L T p' L' T'
 cont: ∀g i,i<4096->cont F rl p' T' g i=cont F rl p T g i
variable {hold:Nat->Nat}{L:List Slot}
theorem Seen.refl (h:Sp F hold p L T)(ho:Own p T):Seen F hold rl p L T p L T:=⟨Kept.refl h ho,fun _ _ _ =>rfl⟩
variable {p1:Pool}{L1:List Slot}{T1:Tab}
theorem Seen.trans {p2:Pool}{L2:List Slot}{T2:Tab}(h:Seen F hold rl p L T p1 L1 T1)(k:Seen F hold rl p1 L1 T1 p2 L2 T2):Seen F hold rl p L T p2 L2 T2:=
 ⟨h.kept.trans k.kept,fun g i hi=>(k.cont g i hi).trans (h.cont g i hi)⟩
variable {pg:Nat}{e:Int}{p':Pool}{L':List Slot}{T':Tab}
theorem aX.seen (h:aX F hold r pg p L T e l p' L' T')(hr:(Rg.find rl ((pg:Int)*4096)).1=r):Seen F hold rl p L T p' L' T':=by
 refine⟨h.kept,fun g i hi=>?_⟩;cases hg:T.lf g with
 |some y=>
  obtain⟨y',h1,_,h3⟩:=h.kept.keep g y hg;rw[bq hg,bq h1,h3 i hi]
 |none=>
  rw[bX hg];by_cases e1:g=pg
  ·subst e1;by_cases he:e=0
   ·obtain⟨h1,h2⟩:=h.got he;rw[bq h1,(h2 hg).2 i hi];unfold pH;rw[hr]
   ·obtain⟨_,h2,_⟩:=h.err he;rw[h2,bX hg]
  ·rw[bX (h.rest g e1 hg)]
theorem eH.seen (h:eH F hold r pg p L T e l p' L' T')(hr:(Rg.find rl ((pg:Int)*4096)).1=r):Seen F hold rl p L T p' L' T':=by
 refine⟨h.kept,fun g i hi=>?_⟩;cases hg:T.lf g with
 |some y=>
  obtain⟨y',h1,_,h3⟩:=h.kept.keep g y hg;rw[bq hg,bq h1,h3 i hi]
 |none=>
  rw[bX hg];by_cases e1:g=pg
  ·subst e1;have key: ∀y,T'.lf g=some y->p'.dat y.frame i=srcD F r g i:=fun y hy=>h.fresh hg y hy i hi;cases h1:T'.lf g with
   |none=>rw[bX h1]
   |some y=>
    rw[bq h1,key y h1];unfold pH;rw[hr]
  ·rw[bX (h.rest g e1 hg)]
theorem uM (x:Nat×Nat)(k:Nat)(h:0<(pst x (k+1)).2):(pst x (k+1)).1 % 4096=0/\(pst x (k+1)).1/4096=(pst x k).1/4096+1:=by
 have e1:(pst x (k+1)).1=(pst x k).1+pm (pst x k):=rfl;have e2:(pst x (k+1)).2=(pst x k).2-pm (pst x k):=rfl;rw[e2]at h;have e3:pm (pst x k)=4096-(pst x k).1 % 4096:=(by unfold pm at h⊢;omega);rw[e1,e3];omega
variable {x:Nat×Nat}{k:Nat}
theorem jO {j:Nat}(CR:j<=k)(h:0<(pst x k).2):0<(pst x j).2:=by
 rcases Nat.eq_zero_or_pos (pst x j).2 with h0|h0
 ·have:=eQ h0 (k-j);rw[show j+(k-j)=k by omega]at this;omega
 ·exact h0
theorem mC (x:Nat×Nat)(k:Nat)(h:0<(pst x k).2):(pst x k).1/4096=x.1/4096+k:=by
 induction k with
 |zero=>rfl
 |succ k ih=>
  have h1:=jO (x:=x) (Nat.le_succ k) h;rw[(uM x k h).2,ih h1];omega
theorem mG (x:Nat×Nat)(k:Nat)(h:0<(pst x k).2):k*4096<x.2+4096:=by
 have h1:=mC x k h;have h2:=cA x k;rcases k with _ |k
 ·omega
 ·have h3:=(uM x k h).1;omega
theorem oq (x:Nat×Nat)(k:Nat):(pst x k).2<=x.2:=by
 induction k with
 |zero=>exact wS _
 |succ k ih=>exact xn (Nat.sub_le _ _) ih
theorem pst_byte (x:Nat×Nat)(k:Nat)(i:Nat)(h:0<(pst x k).2)(h1:(pst x k).1<=x.1+i)(h2:x.1+i<(pst x k).1+pm (pst x k)):(x.1+i)/4096=(pst x k).1/4096/\(x.1+i) % 4096=(pst x k).1 % 4096+(x.1+i-(pst x k).1):=by
 have h3:pm (pst x k)<=4096-(pst x k).1 % 4096:=Nat.min_le_right _ _;omega
structure gI (F:List Nd)(hold:Nat->Nat)(rl:List Reg)(x:Nat×Nat)(k:Nat)(p:Pool)(L:List Slot)(T:Tab)(p':Pool)(L':List Slot)(T':Tab):Prop where
 seen:Seen F hold rl p L T p' L' T'
 same: ∀g y,T.lf g=some y->T'.lf g=some y
 there: ∀j,j<k-> ∃l,T'.lf ((pst x j).1/4096)=some l
 only: ∀g,T.lf g=none->(∀j,j<k->g≠(pst x j).1/4096)->T'.lf g=none
 still:(∀j,j<k->T.lf ((pst x j).1/4096)≠none)->p'=p/\L'=L/\T'=T
 pos: ∀j,j<k->0<(pst x j).2
theorem gI.start (h:Sp F hold p L T)(ho:Own p T):gI F hold rl x 0 p L T p L T:=
 ⟨Seen.refl h ho,fun _ _ h=>h,fun j hj=>absurd hj o_,fun _ h _ =>h,fun _ =>⟨rfl,rfl,rfl⟩,fun j hj=>absurd hj o_⟩
theorem gI.step (h:gI F hold rl x k p L T p1 L1 T1)(hx:0<(pst x k).2)(hr:(Rg.find rl ((((pst x k).1/4096:Nat):Int)*4096)).1=r)(hb:aX F hold r ((pst x k).1/4096) p1 L1 T1 0 l p' L' T'):gI F hold rl x (k+1) p L T p' L' T':=by
 refine⟨h.seen.trans (hb.seen hr),fun g y hy=>hb.same g y (h.same g y hy),fun j hj=>?_,fun g hg xA=>?_,fun ha=>?_,fun j hj=>(by rcases Nat.lt_or_ge j k with h1|h1;exact h.pos j h1;obtain rfl:j=k:=o_;exact hx)⟩
 ·rcases Nat.lt_or_ge j k with h1|h1
  ·obtain⟨y,hy⟩:=h.there j h1;exact⟨y,hb.same _ y hy⟩
  ·obtain rfl:j=k:=o_;exact⟨l,(hb.got rfl).1⟩
 ·exact hb.rest g (xA k o_) (h.only g hg fun j hj=>xA j o_)
 ·obtain⟨e1,e2,e3⟩:=h.still fun j hj=>ha j o_;subst e1 e2 e3;exact(hb.stay (ha k o_)).2
structure Short (F:List Nd)(hold:Nat->Nat)(rl:List Reg)(x:Nat×Nat)(p:Pool)(L:List Slot)(T:Tab)(p':Pool)(L':List Slot)(T':Tab):Prop where
 seen:Seen F hold rl p L T p' L' T'
 only: ∀g,T.lf g=none->(∀j,0<(pst x j).2->g≠(pst x j).1/4096)->T'.lf g=none
 full:Full hold p' T'
 gap: ∃j,0<(pst x j).2/\T.lf ((pst x j).1/4096)=none
theorem gI.fail (h:gI F hold rl x k p L T p1 L1 T1)(hx:0<(pst x k).2)(hr:(Rg.find rl ((((pst x k).1/4096:Nat):Int)*4096)).1=r)(hb:aX F hold r ((pst x k).1/4096) p1 L1 T1 e l p' L' T')(he:e≠0):
  e=4/\Short F hold rl x p L T p' L' T':=by
 obtain⟨e1,e2,e3⟩:=hb.err he;subst e2;refine⟨e1,h.seen.trans (hb.seen hr),fun g hg xA=>h.only g hg fun j hj=>xA j (jO (Nat.le_of_lt hj) hx),e3,k,hx,?_⟩;cases hg:T.lf ((pst x k).1/4096)with
 |none=>rfl
 |some y=>exact absurd (hb.stay (by rw[h.same _ y hg];exact fun e=>by cases e)).1 he
structure Owns (F:List Nd)(hold:Nat->Nat)(rl:List Reg)(x:Nat×Nat)(k:Nat)(p:Pool)(L:List Slot)(T:Tab)(all:List Leaf)(p':Pool)(L':List Slot)(T':Tab):Prop where
 seen:Seen F hold rl p L T p' L' T'
 len:all.length=k
 there: ∀j l,all[j]? =some l->T'.lf ((pst x j).1/4096)=some l/\l.copy=false
 only: ∀g,T.lf g=none->(∀j,j<k->g≠(pst x j).1/4096)->T'.lf g=none
 pos: ∀j,j<k->0<(pst x j).2
theorem Owns.start (h:Sp F hold p L T)(ho:Own p T):Owns F hold rl x 0 p L T [] p L T:=
 ⟨Seen.refl h ho,rfl,fun j l h=>by simp at h,fun _ h _ =>h,fun j hj=>absurd hj o_⟩
variable {all:List Leaf}
theorem Owns.step (h:Owns F hold rl x k p L T all p1 L1 T1)(hx:0<(pst x k).2)(hr:(Rg.find rl ((((pst x k).1/4096:Nat):Int)*4096)).1=r)(hb:eH F hold r ((pst x k).1/4096) p1 L1 T1 0 l p' L' T'):Owns F hold rl x (k+1) p L T (all++[l]) p' L' T':=by
 refine⟨h.seen.trans (hb.seen hr),by rw[wU,h.len];rfl,fun j y hj=>?_,fun g hg xA=>hb.rest g (xA k o_) (h.only g hg fun j hj=>xA j o_),fun j hj=>(by rcases Nat.lt_or_ge j k with h1|h1;exact h.pos j h1;obtain rfl:j=k:=o_;exact hx)⟩;rcases Nat.lt_or_ge j k with h1|h1
 ·rw[wZ (by rw[h.len];exact h1)]at hj;obtain⟨h2,h3⟩:=h.there j y hj;refine⟨hb.same _ y (fun e=>?_) h2,h3⟩;have e1:=mC x k hx;have e2:=mC x j (jO (Nat.le_of_lt h1) hx);omega
 ·rw[wY (by rw[h.len];exact h1),h.len]at hj;have CR:j=k:=by
   have:=(List.getElem?_eq_some_iff.1 hj).1;simp at this;omega
  subst CR;simp at hj;subst hj;exact hb.got rfl
theorem Owns.fail (h:Owns F hold rl x k p L T all p1 L1 T1)(hx:0<(pst x k).2)(hr:(Rg.find rl ((((pst x k).1/4096:Nat):Int)*4096)).1=r)(hb:eH F hold r ((pst x k).1/4096) p1 L1 T1 e l p' L' T')(he:e≠0):
  e=4/\Seen F hold rl p L T p' L' T'/\(∀g,T.lf g=none->(∀j,0<(pst x j).2->g≠(pst x j).1/4096)->T'.lf g=none)/\Full hold p' T':=by
 obtain⟨e1,e2⟩:=hb.err he;exact⟨e1,h.seen.trans (hb.seen hr),fun g hg xA=>hb.rest g (xA k hx) (h.only g hg fun j hj=>xA j (jO (Nat.le_of_lt hj) hx)),e2⟩
structure Lays (F:List Nd)(hold:Nat->Nat)(rl:List Reg)(x:Nat×Nat)(d:Nat->Nat)(m:Nat)(p:Pool)(L:List Slot)(T:Tab)(p':Pool):Prop where
 sp:Sp F hold p' L T
 far: ∀E,Far hold T E p p'
 own:Own p' T
 cnt:p'.cnt=p.cnt
 byte: ∀g i,i<4096->cont F rl p' T g i=if x.1<=g*4096+i/\g*4096+i<x.1+m then d (g*4096+i-x.1)else cont F rl p T g i
variable {d:Nat->Nat}
theorem Lays.start (h:Sp F hold p L T)(ho:Own p T):Lays F hold rl x d 0 p L T p:=
 ⟨h,fun _ =>Far.refl,ho,rfl,fun g i hi=>by rw[if_neg o_]⟩
theorem Lays.step {e:Nat->Nat}(h:Lays F hold rl x d ((pst x k).1-x.1) p L T p1)(hx:0<(pst x k).2)(hl:T.lf ((pst x k).1/4096)=some l)(hc:l.copy=false)(he: ∀i,i<pm (pst x k)->e i=d ((pst x k).1-x.1+i)):
  Lays F hold rl x d ((pst x (k+1)).1-x.1) p L T (p1.store l.frame (laid (p1.dat l.frame) e ((pst x k).1 % 4096) (pm (pst x k)))):=by
 have h1:=h.own _ l hl hc;obtain⟨s1,s2,s3⟩:=h.sp.store hl h1 (laid (p1.dat l.frame) e ((pst x k).1 % 4096) (pm (pst x k)));have e1:(pst x (k+1)).1=(pst x k).1+pm (pst x k):=rfl;have e2:pm (pst x k)<=4096-(pst x k).1 % 4096:=Nat.min_le_right _ _;have e3:x.1<=(pst x k).1:=(by have:=cA x k;have:=oq x k;omega);refine⟨s1,fun E=>(h.far E).trans h.sp (s2 E),s3 h.own,h.cnt,fun g i hi=>?_⟩;by_cases hg:g=(pst x k).1/4096
 ·subst hg;have h4:=h.byte ((pst x k).1/4096) i hi;rw[bq hl]at h4⊢;show upd p1.dat l.frame _ l.frame i=_;rw[af,e1];unfold laid;split
  ·rename_i h5;rw[he _ o_,if_pos o_];congr 1;omega
  ·rename_i h5;rw[h4];by_cases h6:x.1<=(pst x k).1/4096*4096+i/\(pst x k).1/4096*4096+i<x.1+((pst x k).1-x.1)
   ·rw[if_pos h6,if_pos o_]
   ·rw[if_neg h6,if_neg o_]
 ·have h4:=h.byte g i hi;have h5:cont F rl (p1.store l.frame (laid (p1.dat l.frame) e ((pst x k).1 % 4096) (pm (pst x k)))) T g i=cont F rl p1 T g i:=by
   cases hy:T.lf g with
   |none=>rw[bX hy,bX hy]
   |some y=>
    rw[bq hy,bq hy];refine congrFun (show upd p1.dat l.frame _ y.frame=_ from ah _ _ fun e=>?_) i;obtain⟨c1,c2,c3,c4,c5,c6⟩:=h.sp.leaf hl;have h7:=kN c1 (h.sp.leaf hy).1 hg hl hy e;have h8:=h.sp.eq c3;omega
  rw[h5,h4];by_cases h6:x.1<=g*4096+i/\g*4096+i<x.1+((pst x k).1-x.1)
  ·rw[if_pos h6,if_pos o_]
  ·rw[if_neg h6,if_neg o_]
end
