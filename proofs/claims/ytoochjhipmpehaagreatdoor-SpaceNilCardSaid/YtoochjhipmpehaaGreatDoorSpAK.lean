/- Spaces, plain: a table among others over one pool, and what its own steps leave to the others. -/
import Derived.Test.YtoochjhipmpehaaGreatDoorAbK
import Derived.Test.YtoochjhipmpehaaGreatDoorTnK
import Derived.Test.YtoochjhipmpehaaGreatDoorTtHK
import Derived.Test.YtoochjhipmpehaaGreatDoorTuAK
import Derived.Test.YtoochjhipmpehaaGreatDoorVqDK
set_option linter.unusedVariables false
set_option linter.unusedSimpArgs false
set_option maxRecDepth 100000
namespace Go.Proofs.YtoochjhipmpehaaGreatDoor
section
structure Sp (F:List Nd) (hold:Nat→Nat) (p:Pool) (L:List Slot) (T:Tab):Prop where
 good:T.Good p (held L hold) 0 4
 sole:Sole L
 one: ∀x,isNode T x→p.cnt x=1
 slow: ∀s∈L,s.frame<p.n
 filled:Filled F p L
 once: ∀x,slotN L x≤1
def OwnBut (p:Pool) (T:Tab) (pg:Nat):Prop:= ∀g l,g≠pg→T.lf g=some l→l.copy=false→p.cnt l.frame=1
def Own (p:Pool) (T:Tab):Prop:= ∀g l,T.lf g=some l→l.copy=false→p.cnt l.frame=1
structure Far (hold:Nat→Nat) (T:Tab) (E:Nat→Prop) (p p':Pool):Prop where
 n:p'.n=p.n
 dat: ∀x,0<hold x→ ¬isNode T x→p'.dat x=p.dat x
 cnt: ∀x,x<p.n→0<hold x→ ¬E x→p.cnt x=hold x→p'.cnt x=hold x
theorem Own.but {p:Pool} {T:Tab} (h:Own p T) (pg:Nat):OwnBut p T pg:=fun g l _ h1 h2=>h g l h1 h2
theorem Sp.eq {F:List Nd} {hold:Nat→Nat} {p:Pool} {L:List Slot} {T:Tab} (h:Sp F hold p L T) {x:Nat} (hx:x<p.n):p.cnt x=leafCnt T x+nodeCnt T x+(slotN L x+hold x):=h.good.cnt x hx
theorem Sp.lt {F:List Nd} {hold:Nat→Nat} {p:Pool} {L:List Slot} {T:Tab} (h:Sp F hold p L T) {x:Nat} (hx:isNode T x):x<p.n:=by
 obtain⟨lv,q,hq⟩:=hx
 exact(h.good.node hq).1
theorem Sp.alone {F:List Nd} {hold:Nat→Nat} {p:Pool} {L:List Slot} {T:Tab} (h:Sp F hold p L T) {x:Nat} (hx:isNode T x):x<p.n∧leafCnt T x=0∧slotN L x=0∧hold x=0:=by
 have h1:=h.lt hx
 have h2:=h.eq h1
 rw[h.one x hx,nodeCnt_yes hx]at h2
 exact⟨h1,by omega,by omega,by omega⟩
theorem Sp.leaf {F:List Nd} {hold:Nat→Nat} {p:Pool} {L:List Slot} {T:Tab} (h:Sp F hold p L T) {pg:Nat} {l:Leaf} (hl:T.lf pg=some l):pg<pagesN∧l.prot≤7∧l.frame<p.n∧1≤p.cnt l.frame∧0<leafCnt T l.frame∧ ¬isNode T l.frame:=by
 have h1:=h.good.leafOf hl
 have h2:pg<pagesN:=h.good.ok.rootPage hl
 have h3:=leafCnt_pos h2 hl
 exact⟨h2,h1.1,h1.2.1,h1.2.2,h3,fun e=>by have:=(h.alone e).2.1;omega⟩
theorem Far.refl {hold:Nat→Nat} {T:Tab} {E:Nat→Prop} {p:Pool} :Far hold T E p p:=⟨rfl,fun _ _ _ =>rfl,fun _ _ _ _ h=>h⟩
theorem Far.trans {F:List Nd} {hold:Nat→Nat} {T T1:Tab} {E:Nat→Prop} {p p1 p2:Pool} {L1:List Slot} (h:Far hold T E p p1) (hs:Sp F hold p1 L1 T1) (k:Far hold T1 E p1 p2):Far hold T E p p2:=
 ⟨k.n.trans h.n,fun x hx hn=>(k.dat x hx fun e=>by have:=(hs.alone e).2.2.2;omega).trans (h.dat x hx hn),fun x hx h0 hE hc=>k.cnt x (by rw[h.n];exact hx) h0 hE (h.cnt x hx h0 hE hc)⟩
theorem Far.less {hold:Nat→Nat} {T:Tab} {E:Nat→Prop} {p p':Pool} {f v:Nat} (h:Far (upd hold f v) T E p p') (h0:hold f=0):Far hold T E p p':=by
 have e: ∀x,0<hold x→upd hold f v x=hold x:=fun x hx=>upd_ne _ _ fun e=>by subst e;omega
 exact⟨h.n,fun x hx hn=>h.dat x (by rw[e x hx];exact hx) hn,fun x hx hp hE hc=>(h.cnt x hx (by rw[e x hp];exact hp) hE (by rw[e x hp];exact hc)).trans (e x hp)⟩
theorem Sp.slots {F:List Nd} {hold hold':Nat→Nat} {p p':Pool} {L L':List Slot} {T:Tab} (h:Sp F hold p L T) (hn:p'.n=p.n) (hb:T.But p' 0 4)
  (he: ∀x,x<p.n→p'.cnt x=leafCnt T x+nodeCnt T x+(slotN L' x+hold' x)) (hd: ∀x,¬isNode T x→0<leafCnt T x+hold x→p'.dat x=p.dat x) (hd2: ∀x,0<leafCnt T x+nodeCnt T x+hold x→slotN L' x≤slotN L x∧hold' x=hold x) (hS:Sole L') (hsl: ∀s∈L',s.frame<p'.n) (hfi:Filled F p' L') (h1: ∀x,slotN L' x≤1):
  Sp F hold' p' L' T∧(∀E,Far hold T E p p')∧(∀x,0<leafCnt T x→p'.dat x=p.dat x)∧(Own p T→Own p' T):=by
 refine⟨⟨⟨hb,fun x hx=>he x (by omega)⟩,hS,fun x hx=>?_,hsl,hfi,h1⟩,fun E=>⟨hn,fun x h0 hN=>hd x hN (by omega),fun x hx h0 _ hc=>?_⟩,fun x h0=>hd x (fun e=>by have:=(h.alone e).2.1;omega) (by omega),fun ho g l hl hc=>?_⟩
 ·obtain⟨h1,h2,h3,h4⟩:=h.alone hx
  have h5:=hd2 x (by rw[nodeCnt_yes hx];omega)
  rw[he x h1,nodeCnt_yes hx]
  omega
 ·have h5:=hd2 x (by omega)
  have h6:=h.eq hx
  rw[he x hx]
  omega
 ·obtain⟨_,_,h3,h4,h5,h6⟩:=h.leaf hl
  have h7:=hd2 l.frame (by omega)
  have h8:=h.eq h3
  rw[ho g l hl hc]at h8
  rw[he _ h3]
  omega
structure Fresh (hold:Nat→Nat) (p p':Pool) (L':List Slot) (T:Tab) (f:Nat):Prop where
 lt:f<p.n
 hold:hold f=0
 leaf:leafCnt T f=0
 node: ¬isNode T f
 slot:slotN L' f=0
 one:p'.cnt f=1
 zero:p'.dat f=fun _ =>0
theorem Sp.even {F:List Nd} {hold:Nat→Nat} {p:Pool} {L:List Slot} {T:Tab} (h:Sp F hold p L T):Even p L fun f=>leafCnt T f+nodeCnt T f+hold f:=fun f hf=>by
 have:=h.eq hf
 show _ =slotN L f+(leafCnt T f+nodeCnt T f+hold f)
 omega
theorem Sp.take {F:List Nd} {hold:Nat→Nat} {p p':Pool} {L L':List Slot} {T:Tab} {f:Nat} (h:Sp F hold p L T) (ht:TakeRes p L 0 f p' L'):
  Sp F (upd hold f 1) p' L' T∧(∀E,Far hold T E p p')∧(∀x,0<leafCnt T x→p'.dat x=p.dat x)∧(Own p T→Own p' T)∧Fresh hold p p' L' T f:=by
 have hT:=h.even.take h.sole ht
 have h0:leafCnt T f+nodeCnt T f+hold f=0:=hT.none
 have hN: ¬isNode T f:=fun e=>by have:=nodeCnt_yes e;omega
 have hle: ∀x,slotN L' x≤slotN L x:=fun x=>List.Sublist.countP_le hT.sub
 obtain⟨a1,a2,a3,a4⟩:=h.slots (p':=p') (L':=L') (hold':=upd hold f 1) hT.n (h.good.but.same hT.n fun x hx=>hT.dat x fun e=>hN (e▸hx)) (fun x hx=>by
   have h5:=hT.even x (by rw[hT.n];exact hx)
   by_cases e:x=f
   ·subst e
    rw[upd_same]at h5⊢
    omega
   ·rw[upd_ne _ _ e]at h5⊢
    rw[h5]
    show slotN L' x+(leafCnt T x+nodeCnt T x+hold x)=_
    omega) (fun x hx h5=>hT.dat x fun e=>by subst e;omega) (fun x hx=>⟨hle x,upd_ne _ _ fun e=>by subst e;omega⟩) hT.sole (fun s hs=>by rw[hT.n];exact h.slow s (hT.sub.subset hs)) (hT.filled h.filled) (fun x=>Nat.le_trans (hle x) (h.once x))
 exact⟨a1,a2,a3,a4,hT.lt,by omega,by omega,hN,hT.noSlot,hT.one,hT.zero⟩
theorem Even.getFar {F:List Nd} {ino page:Int} {p p':Pool} {L L':List Slot} {H:Nat→Nat} {clock clock' r:Int} {f:Nat} (h:Even p L H) (hS:Sole L) (hg:GetF F ino page p L clock r f p' L' clock') {x:Nat} (hx:0<H x):p'.dat x=p.dat x∧slotN L' x≤slotN L x:=by
 cases hg with
 |bad h1=>exact⟨rfl,Nat.le_refl _⟩
 |err h1 h2 h3=>exact⟨rfl,Nat.le_refl _⟩
 |hit s h0 h1 hr hs=>
  obtain⟨hs,hi,hp⟩:=find_some_at hs
  exact⟨rfl,by rw[slotN_old (s0:=s) (s:=⟨ino,page,s.frame,clock+1⟩) hS hs hi hp rfl];exact Nat.le_refl _⟩
 |full h0 h1 hr hn ht=>exact⟨rfl,Nat.le_refl _⟩
 |miss f p1 L1 h0 h1 hr hn ht=>
  have hT:=h.take hS ht
  have hne:x≠f:=fun e=>by have:=hT.none;subst e;omega
  refine⟨(show upd p1.dat f _ x=_ from upd_ne _ _ hne).trans (hT.dat x hne),?_⟩
  rw[slotN_new (s:=⟨ino,page,f,clock+1⟩) (none_sub (find_none_any hn) ht.sub),if_neg (fun e=>hne e.symm)]
  exact List.Sublist.countP_le hT.sub
theorem Even.getOnce {F:List Nd} {ino page:Int} {p p':Pool} {L L':List Slot} {H:Nat→Nat} {clock clock' r:Int} {f:Nat} (h:Even p L H) (hS:Sole L) (h1: ∀x,slotN L x≤1) (hg:GetF F ino page p L clock r f p' L' clock') (x:Nat):slotN L' x≤1:=by
 cases hg with
 |bad=>exact h1 x
 |err=>exact h1 x
 |hit s h0 _ hr hs=>
  obtain⟨hs,hi,hp⟩:=find_some_at hs
  rw[slotN_old (s0:=s) (s:=⟨ino,page,s.frame,clock+1⟩) hS hs hi hp rfl]
  exact h1 x
 |full=>exact h1 x
 |miss f p1 L1 h0 _ hr hn ht=>
  have hT:=h.take hS ht
  have hle:slotN L1 x≤slotN L x:=List.Sublist.countP_le hT.sub
  rw[slotN_new (s:=⟨ino,page,f,clock+1⟩) (none_sub (find_none_any hn) ht.sub)]
  have h2:=h1 x
  by_cases e:f=x
  ·rw[if_pos e,←e,hT.noSlot];exact Nat.le_refl _
  ·rw[if_neg e];omega
theorem Sp.get {F:List Nd} {hold:Nat→Nat} {p p':Pool} {L L':List Slot} {T:Tab} {f:Nat} {ino page clock clock' r:Int} (h:Sp F hold p L T) (hg:GetF F ino page p L clock r f p' L' clock'):
  Sp F hold p' L' T∧(∀E,Far hold T E p p')∧(∀x,0<leafCnt T x→p'.dat x=p.dat x)∧(Own p T→Own p' T)∧(r=0→f<p'.n∧0<slotN L' f∧ ¬isNode T f∧1≤p'.cnt f∧p'.dat f=pageD F ino page∧(pageR F ino page).1=0∧0≤page∧page<16):=by
 have hG:=h.even.get h.sole h.filled h.slow hg
 have hfar:=fun x hx=>h.even.getFar h.sole hg (x:=x) hx
 obtain⟨a1,a2,a3,a4⟩:=h.slots (p':=p') (L':=L') (hold':=hold) hG.n (h.good.but.same hG.n fun x hx=>(hfar x (by rw[nodeCnt_yes hx];omega)).1) (fun x hx=>by
   have h5:=hG.even x (by rw[hG.n];exact hx)
   rw[h5]
   show slotN L' x+(leafCnt T x+nodeCnt T x+hold x)=_
   omega) (fun x hx h5=>(hfar x (by omega)).1) (fun x hx=>⟨(hfar x hx).2,rfl⟩) hG.sole (fun s hs=>by rw[hG.n];exact hg.slow rfl h.slow s hs) hG.filled (h.even.getOnce h.sole h.once hg)
 refine⟨a1,a2,a3,a4,fun hr=>?_⟩
 obtain⟨b1,b2,⟨s,hs,s1,s2,s3⟩,b4,b5,b6⟩:=hG.there hr
 have hp:=slotN_pos hs
 rw[s3]at hp
 exact⟨by rw[hG.n];exact b1,hp,fun e=>by have:=(a1.alone e).2.2.1;omega,b2,by have:=hG.filled s hs;rwa [s1,s2,s3]at this,b4,b5,b6⟩
theorem Sp.down {F:List Nd} {hold:Nat→Nat} {p:Pool} {L:List Slot} {T:Tab} {f:Nat} (h:Sp F hold p L T) (hf:0<hold f):
  Sp F (upd hold f (hold f-1)) (p.down f) L T∧(Own p T→Own (p.down f) T)∧ ∀pg,OwnBut p T pg→OwnBut (p.down f) T pg:=by
 have hc: ∀x,x≠f→(p.down f).cnt x=p.cnt x:=fun x hx=>upd_ne _ _ hx
 have hg:=h.good.down (f:=f) (by unfold held;omega)
 rw[held_less _ _ _ hf]at hg
 have hw: ∀g l,T.lf g=some l→p.cnt l.frame=1→(p.down f).cnt l.frame=1:=fun g l hl h1=>by
  rw[hc _ fun e=>?_]
  ·exact h1
  ·obtain⟨_,_,h3,h4,h5,h6⟩:=h.leaf hl
   have:=h.eq h3
   rw[e]at this h5 h1
   omega
 refine⟨⟨hg,h.sole,fun x hx=>?_,h.slow,h.filled,h.once⟩,fun ho g l hl hcp=>hw g l hl (ho g l hl hcp),fun pg ho g l hne hl hcp=>hw g l hl (ho g l hne hl hcp)⟩
 rw[hc x fun e=>by subst e;have:=(h.alone hx).2.2.2;omega]
 exact h.one x hx
def leafNew (o:Option Leaf) (f:Nat):Nat:=match o with|some l=>if l.frame=f then 1 else 0|none=>0
theorem leafCnt_upd {T T':Tab} {pg:Nat} (hpg:pg<pagesN) (o:Option Leaf) (hlf:T'.lf=upd T.lf pg o) (f:Nat):
  leafCnt T' f+(if leafIs T f pg=true then 1 else 0)=leafCnt T f+leafNew o f:=by
 have e2:leafCnt T' f=leafCnt (T.lay pg o) f:=by
  unfold leafCnt
  congr 1
  funext i
  unfold leafIs Tab.lay
  rw[hlf]
 rw[e2]
 have h:=leafCnt_lay (t:=T) hpg o f
 cases o<;>exact h
theorem leafCnt_two {T:Tab} {pg g:Nat} {l l':Leaf} (hpg:pg<pagesN) (hg:g<pagesN) (hne:g≠pg) (h1:T.lf pg=some l) (h2:T.lf g=some l') (hf:l'.frame=l.frame):2≤leafCnt T l.frame:=by
 have h3:=leafCnt_upd (T:=T) (T':=T.lay pg none) hpg none rfl l.frame
 rw[leafIs_at h1,if_pos (by simp)]at h3
 have h0:leafNew none l.frame=0:=rfl
 have h4:=leafCnt_pos (t:=T.lay pg none) (l:=l') hg (by show upd T.lf pg none g=_;rw[upd_ne _ _ hne];exact h2)
 rw[hf]at h4
 omega
theorem Sp.map {F:List Nd} {hold:Nat→Nat} {p p':Pool} {L L':List Slot} {T T':Tab} {pg:Nat} {l:Leaf} (h:Sp F hold p L T) (hm:MapRes p T L hold pg l 0 p' T' L') (hf:MapFar p T L hold l 0 p' T' L') (hpg:pg<pagesN) (hno:T.lf pg=none) (hl:0<slotN L l.frame+hold l.frame) (hln:l.frame<p.n) (hN: ¬isNode T l.frame):
  Sp F hold p' L' T'∧T'.lf=upd T.lf pg (some l)∧(∀E,E l.frame→Far hold T E p p')∧(∀x,x=l.frame∨0<leafCnt T x→p'.dat x=p.dat x)∧(OwnBut p T pg→OwnBut p' T' pg)∧(slotN L' l.frame=0→leafCnt T l.frame=0→p'.cnt l.frame=1+hold l.frame)∧p.left≤p'.left+3∧L'.Sublist L∧(∀x,x<p.n→x≠l.frame→p'.cnt x≤p.cnt x∨p'.cnt x=1):=by
 obtain⟨m1,m2,m3,m4,m5⟩:=hm
 rcases m5 with⟨e,_⟩|⟨_,n1,n2,n3⟩
 ·exact absurd e (by decide)
 obtain⟨f1,f2⟩:=hf
 rcases f2 with⟨e,_⟩|⟨_,f3,f4⟩
 ·exact absurd e (by decide)
 have hle: ∀x,slotN L' x≤slotN L x:=fun x=>List.Sublist.countP_le m4
 have hg:=m1.any 0 4
 have heq: ∀x,x<p.n→p'.cnt x=leafCnt T' x+nodeCnt T' x+(slotN L' x+hold x):=fun x hx=>hg.cnt x (by rw[m2];exact hx)
 have hlc: ∀x,leafCnt T' x=leafCnt T x+(if l.frame=x then 1 else 0):=fun x=>by
  have:=leafCnt_upd hpg (some l) n1 x
  rw[leafIs_none hno]at this
  simpa [leafNew]using this
 have hold': ∀x,¬isNode T x→isNode T' x→p'.cnt x=1:=fun x h1 h2=>(f3 x h2).resolve_left h1
 have hone: ∀x,isNode T' x→p'.cnt x=1:=fun x hx=>by
  by_cases h1:isNode T x
  ·obtain⟨b1,b2,b3,b4⟩:=h.alone h1
   have b5:=hle x
   have b6:l.frame≠x:=fun e=>hN (e▸h1)
   rw[heq x b1,hlc,if_neg b6,nodeCnt_yes hx]
   omega
  ·exact hold' x h1 hx
 have hNn: ¬isNode T' l.frame:=fun e=>hN (n3 e)
 have hfarC: ∀x,x<p.n→x≠l.frame→0<hold x+leafCnt T x→nodeCnt T' x≤nodeCnt T x:=fun x hx hne h0=>by
  by_cases h1:isNode T' x
  ·by_cases h2:isNode T x
   ·rw[nodeCnt_yes h1,nodeCnt_yes h2];exact Nat.le_refl _
   ·have h3:=hold' x h2 h1
    rw[heq x hx,nodeCnt_yes h1,hlc]at h3
    omega
  ·rw[nodeCnt_no h1];exact Nat.zero_le _
 refine⟨⟨hg,m3,hone,fun s hs=>by rw[m2];exact h.slow s (m4.subset hs),fun s hs=>?_,fun x=>Nat.le_trans (hle x) (h.once x)⟩,n1,fun E hE=>⟨m2,fun x h0 hn=>f1 x hn (.inr (by omega)),fun x hx h0 hne hc=>?_⟩,fun x hx=>?_,fun ho g l' hne hl' hcp=>?_,fun h1 h2=>?_,f4,m4,fun x hx hne=>?_⟩
 ·rw[f1 s.frame (fun e=>by have:=(h.alone e).2.2.1;have:=slotN_pos (m4.subset hs);omega) (.inr (by have:=slotN_pos hs;omega))]
  exact h.filled s (m4.subset hs)
 ·have h5:=h.eq hx
  have hxl:x≠l.frame:=fun e=>hne (e▸hE)
  have h6:=hfarC x hx hxl (by omega)
  have h7:=hle x
  have h8:=hlc x
  rw[if_neg (fun e=>hxl e.symm)]at h8
  rw[heq x hx]
  omega
 ·rcases hx with hx|hx
  ·subst hx;exact f1 _ hN (.inl rfl)
  ·exact f1 x (fun e=>by have:=(h.alone e).2.1;omega) (.inr (by omega))
 ·rw[n1,upd_ne _ _ hne]at hl'
  obtain⟨c1,c2,c3,c4,c5,c6⟩:=h.leaf hl'
  have h1:=ho g l' hne hl' hcp
  have h2:=h.eq c3
  have hne2:l'.frame≠l.frame:=fun e=>by rw[e]at h1 h2 c5;omega
  have h6:=hfarC _ c3 hne2 (by omega)
  have h7:=hle l'.frame
  have h8:=hlc l'.frame
  rw[if_neg (fun e=>hne2 e.symm)]at h8
  rw[heq _ c3]
  omega
 ·rw[heq _ hln,hlc,if_pos rfl,nodeCnt_no hNn]
  omega
 ·by_cases h1:isNode T' x
  ·exact .inr (hone x h1)
  ·left
   have h5:=h.eq hx
   have h7:=hle x
   have h8:=hlc x
   rw[if_neg (fun e=>hne e.symm)]at h8
   rw[heq x hx,nodeCnt_no h1]
   omega
theorem Sp.mapNot {F:List Nd} {hold:Nat→Nat} {p p':Pool} {L L':List Slot} {T T':Tab} {pg:Nat} {l:Leaf} {r:Int} (h:Sp F hold p L T) (hm:MapRes p T L hold pg l r p' T' L') (hf:MapFar p T L hold l r p' T' L') (hr:r≠0) (hN: ¬isNode T l.frame):
  r=4∧T'=T∧Sp F hold p' L' T∧(∀E,Far hold T E p p')∧(∀x,0<leafCnt T x→p'.dat x=p.dat x)∧(Own p T→Own p' T)∧(∃gs:List Nat,gs.length≤2∧ ∀f,f<p.n→slotN L f≤1→0<leafCnt T f+nodeCnt T f+hold f∨f=l.frame∨f∈gs)∧L'.Sublist L:=by
 obtain⟨m1,m2,m3,m4,m5⟩:=hm
 rcases m5 with⟨e4,eT,_⟩|⟨e,_⟩
 rotate_left
 ·exact absurd e hr
 obtain⟨f1,f2⟩:=hf
 rcases f2 with⟨_,f3⟩|⟨e,_⟩
 rotate_left
 ·exact absurd e hr
 subst eT
 have hle: ∀x,slotN L' x≤slotN L x:=fun x=>List.Sublist.countP_le m4
 have hg:=m1.any 0 4
 obtain⟨a1,a2,a3,a4⟩:=h.slots (p':=p') (L':=L') (hold':=hold) m2 hg.but (fun x hx=>hg.cnt x (by rw[m2];exact hx)) (fun x hx h5=>f1 x hx (.inr (by omega))) (fun x hx=>⟨hle x,rfl⟩) m3 (fun s hs=>by rw[m2];exact h.slow s (m4.subset hs)) (fun s hs=>by
   rw[f1 s.frame (fun e=>by have:=(h.alone e).2.2.1;have:=slotN_pos (m4.subset hs);omega) (.inr (by have:=slotN_pos hs;omega))]
   exact h.filled s (m4.subset hs)) (fun x=>Nat.le_trans (hle x) (h.once x))
 exact⟨e4,rfl,a1,a2,a3,a4,f3,m4⟩
def setPool (p:Pool) (was l:Leaf) (g pg:Nat):Pool:=((p.up l.frame).down was.frame).store g (setWord (p.dat g) (num pg 1) l.pack)
theorem Sp.set {F:List Nd} {hold:Nat→Nat} {p:Pool} {L:List Slot} {T:Tab} {pg g:Nat} {was l:Leaf} (h:Sp F hold p L T) (hw:T.lf pg=some was) (hg:T.nd 1 (part pg 1)=some g) (h7:l.prot≤7) (hf:l.frame<p.n) (hN: ¬isNode T l.frame):
  Sp F hold (setPool p was l g pg) L (T.lay pg (some l))∧(∀E,E l.frame∨0<leafCnt T l.frame→Far hold T E p (setPool p was l g pg))∧(∀x,¬isNode T x→(setPool p was l g pg).dat x=p.dat x)∧(l.frame=was.frame∨leafCnt T l.frame=0→OwnBut p T pg→OwnBut (setPool p was l g pg) (T.lay pg (some l)) pg)∧
  (∀x,x<p.n→(setPool p was l g pg).cnt x+(if was.frame=x then 1 else 0)=p.cnt x+(if l.frame=x then 1 else 0)):=by
 obtain⟨c1,c2,c3,c4,c5,c6⟩:=h.leaf hw
 have hG:(T.lay pg (some l)).Good (setPool p was l g pg) (held L hold) 0 4:=((h.good.any pg 4).laySet c1 hg hw h7 hf).any 0 4
 have heq: ∀x,x<p.n→(setPool p was l g pg).cnt x=leafCnt (T.lay pg (some l)) x+nodeCnt T x+(slotN L x+hold x):=fun x hx=>by rw[←nodeCnt_lay T pg (some l)];exact hG.cnt x hx
 have hlc: ∀x,leafCnt (T.lay pg (some l)) x+(if was.frame=x then 1 else 0)=leafCnt T x+(if l.frame=x then 1 else 0):=fun x=>by
  have:=leafCnt_lay c1 (some l) (t:=T) x
  rw[leafIs_at hw]at this
  simpa using this
 have hgn:isNode T g:=⟨_,_,hg⟩
 have hdat: ∀x,¬isNode T x→(setPool p was l g pg).dat x=p.dat x:=fun x hx=>upd_ne _ _ fun e=>hx (e▸hgn)
 refine⟨⟨hG,h.sole,fun x hx=>?_,h.slow,fun s hs=>?_,h.once⟩,fun E hE=>⟨rfl,fun x _ hn=>hdat x hn,fun x hx h0 hne hc=>?_⟩,hdat,fun hcase ho g' l' hne hl' hcp=>?_,fun x hx=>?_⟩
 ·have hx':isNode T x:=hx
  obtain⟨b1,b2,b3,b4⟩:=h.alone hx'
  have b5:=hlc x
  have b6:l.frame≠x:=fun e=>hN (e▸hx')
  rw[if_neg b6]at b5
  rw[heq x b1,nodeCnt_yes hx']
  omega
 ·rw[hdat _ fun e=>by have:=(h.alone e).2.2.1;have:=slotN_pos hs;omega]
  exact h.filled s hs
 ·have h5:=h.eq hx
  have hxl:l.frame≠x:=fun e=>by
   rcases hE with hE|hE
   ·exact hne (e▸hE)
   ·rw[e]at hE;omega
  have h8:=hlc x
  rw[if_neg hxl]at h8
  rw[heq x hx]
  omega
 ·have hl2:T.lf g'=some l':=by
   have:upd T.lf pg (some l) g'=some l':=hl'
   rwa [upd_ne _ _ hne]at this
  obtain⟨d1,d2,d3,d4,d5,d6⟩:=h.leaf hl2
  have h1:=ho g' l' hne hl2 hcp
  have h2:=h.eq d3
  have hnw:was.frame≠l'.frame:=fun e=>by
   have:=leafCnt_two c1 d1 hne hw hl2 e.symm
   rw[e]at this
   omega
  have hnl:l.frame≠l'.frame:=fun e=>by
   rcases hcase with hcase|hcase
   ·exact hnw (hcase▸e)
   ·rw[e]at hcase;omega
  have h8:=hlc l'.frame
  rw[if_neg hnl,if_neg hnw]at h8
  rw[heq _ d3]
  omega
 ·have h1:=hlc x
  have h2:=h.eq hx
  rw[heq x hx]
  omega
theorem Sp.unmap {F:List Nd} {hold:Nat→Nat} {p p':Pool} {L:List Slot} {T T':Tab} {pg:Nat} (h:Sp F hold p L T) (hg:Gone p T (held L hold) pg 4 p' T'):
  Sp F hold p' L T'∧T'.lf=upd T.lf pg none∧(∀E,Far hold T E p p')∧(∀x,¬isNode T x→p'.dat x=p.dat x)∧(Own p T→Own p' T')∧(∀x,x<p.n→p'.cnt x≤p.cnt x):=by
 have hG:=hg.good.any 0 4
 have hn:=hg.n
 have heq: ∀x,x<p.n→p'.cnt x=leafCnt T' x+nodeCnt T' x+(slotN L x+hold x):=fun x hx=>hG.cnt x (by omega)
 have hnd: ∀x,isNode T' x→isNode T x:=fun x ⟨lv,q,e⟩=>⟨lv,q,hg.sub _ _ _ e⟩
 have hnc: ∀x,nodeCnt T' x≤nodeCnt T x:=fun x=>by
  by_cases h1:isNode T' x
  ·rw[nodeCnt_yes h1,nodeCnt_yes (hnd x h1)];exact Nat.le_refl _
  ·rw[nodeCnt_no h1];exact Nat.zero_le _
 have hlc: ∀x,leafCnt T' x≤leafCnt T x:=fun x=>by
  by_cases hpg:pg<pagesN
  ·have:=leafCnt_upd hpg none hg.lf x
   have h0:leafNew none x=0:=rfl
   omega
  ·have e:T.lf pg=none:=by
    cases hc:T.lf pg with
    |none=>rfl
    |some l=>exact absurd (h.leaf hc).1 hpg
   have e2:T'.lf=T.lf:=by
    rw[hg.lf]
    funext i
    by_cases hi:i=pg
    ·subst hi;rw[upd_same,e]
    ·rw[upd_ne _ _ hi]
   unfold leafCnt leafIs
   rw[e2]
   exact Nat.le_refl _
 refine⟨⟨hG,h.sole,fun x hx=>?_,fun s hs=>by rw[hn];exact h.slow s hs,fun s hs=>?_,h.once⟩,hg.lf,fun E=>⟨hn,fun x _ hN=>hg.kept x hN,fun x hx h0 _ hc=>?_⟩,hg.kept,fun ho g l hl hcp=>?_,fun x hx=>?_⟩
 ·obtain⟨b1,b2,b3,b4⟩:=h.alone (hnd x hx)
  have:=hlc x
  rw[heq x b1,nodeCnt_yes hx]
  omega
 ·rw[hg.kept _ fun e=>by have:=(h.alone e).2.2.1;have:=slotN_pos hs;omega]
  exact h.filled s hs
 ·have h5:=h.eq hx
  have h1:=hlc x
  have h2:=hnc x
  rw[heq x hx]
  omega
 ·have hl2:T.lf g=some l:=by
   rw[hg.lf]at hl
   by_cases e:g=pg
   ·subst e;rw[upd_same]at hl;cases hl
   ·rwa [upd_ne _ _ e]at hl
  obtain⟨d1,d2,d3,d4,d5,d6⟩:=h.leaf hl2
  have h1:=ho g l hl2 hcp
  have h2:=h.eq d3
  have h3:=hlc l.frame
  have h4:=hnc l.frame
  have h5:=leafCnt_pos (t:=T') d1 hl
  rw[heq _ d3]
  omega
 ·have h5:=h.eq hx
  have h1:=hlc x
  have h2:=hnc x
  rw[heq x hx]
  omega
theorem Sp.store {F:List Nd} {hold:Nat→Nat} {p:Pool} {L:List Slot} {T:Tab} {pg:Nat} {l:Leaf} (h:Sp F hold p L T) (hl:T.lf pg=some l) (h1:p.cnt l.frame=1) (d:Nat→Nat):
  Sp F hold (p.store l.frame d) L T∧(∀E,Far hold T E p (p.store l.frame d))∧(Own p T→Own (p.store l.frame d) T):=by
 obtain⟨c1,c2,c3,c4,c5,c6⟩:=h.leaf hl
 have h2:=h.eq c3
 have hne: ∀x,x≠l.frame→(p.store l.frame d).dat x=p.dat x:=fun x hx=>upd_ne _ _ hx
 refine⟨⟨⟨h.good.but.same rfl fun x hx=>hne x fun e=>c6 (e▸hx),h.good.cnt⟩,h.sole,h.one,h.slow,fun s hs=>?_,h.once⟩,fun E=>⟨rfl,fun x h0 _ =>hne x fun e=>by subst e;omega,fun x _ _ _ hc=>hc⟩,id⟩
 rw[hne _ fun e=>by have:=slotN_pos hs;rw[e]at this;omega]
 exact h.filled s hs
theorem Sp.storeH {F:List Nd} {hold:Nat→Nat} {p:Pool} {L:List Slot} {T:Tab} {f:Nat} (h:Sp F hold p L T) (hf:0<hold f) (hs:slotN L f=0) (d:Nat→Nat):Sp F hold (p.store f d) L T:=by
 have hne: ∀x,x≠f→(p.store f d).dat x=p.dat x:=fun x hx=>upd_ne _ _ hx
 refine⟨⟨h.good.but.same rfl fun x hx=>hne x fun e=>by subst e;have:=(h.alone hx).2.2.2;omega,h.good.cnt⟩,h.sole,h.one,h.slow,fun s hs=>?_,h.once⟩
 rw[hne _ fun e=>by have:=slotN_pos hs;rw[e]at this;omega]
 exact h.filled s hs
noncomputable def tn (T:Tab):Nat→Nat:=fun f=>leafCnt T f+nodeCnt T f
theorem rootTab_any {p:Pool} {L:List Slot} {hold:Nat→Nat} {f:Nat} (hn:p.n≤1024) (hf:f<p.n) (h0:hold f=0) (hz:p.dat f=fun _ =>0) (he:Even p L (upd hold f 1)):(rootTab f).Good p (held L hold) 0 4:=by
 constructor
 ·constructor
  ·rw[rootTab_root];rfl
  ·intro q f h;exact(rootTab_nd.1 h).2.1
  ·intro lv q f h;have:=(rootTab_nd.1 h).1;omega
  ·intro lv q f h h4;have:=(rootTab_nd.1 h).1;omega
  ·intro pg l h;cases h
  ·intro l1 p1 l2 p2 f h h'
   have a:=rootTab_nd.1 h
   have b:=rootTab_nd.1 h'
   exact⟨by omega,by omega⟩
  ·intro lv q g h
   have a:=rootTab_nd.1 h
   obtain⟨rfl,rfl,rfl⟩:=a
   refine⟨hf,fun k hk=>?_⟩
   rw[hz,word_zero]
   unfold Tab.word
   rw[if_neg (by decide)]
   have:(rootTab g).nd (4-1) (0*512+k)=none:=by
    show(if(4-1:Nat)=4∧0*512+k=0 then some g else none)=none
    rw[if_neg (by omega)]
   rw[this]
  ·intro lv q g h h4;have:=(rootTab_nd.1 h).1;omega
  ·exact hn
 ·intro x hx
  have h1:=he x hx
  rw[rootTab_leafCnt]
  unfold held
  by_cases e:x=f
  ·subst e
   rw[nodeCnt_yes (rootTab_node.2 rfl)]
   rw[upd_same]at h1
   omega
  ·rw[nodeCnt_no (fun h=>e (rootTab_node.1 h))]
   rw[upd_ne _ _ e]at h1
   omega
end
end Go.Proofs.YtoochjhipmpehaaGreatDoor
