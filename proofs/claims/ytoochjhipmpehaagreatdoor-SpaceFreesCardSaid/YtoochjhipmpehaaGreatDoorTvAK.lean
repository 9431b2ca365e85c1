/- Tables: visit. -/
import Derived.Test.YtoochjhipmpehaaGreatDoorTtZK
set_option linter.unusedVariables false
set_option linter.unusedSimpArgs false
set_option maxRecDepth 100000
set_option maxHeartbeats 4000000
namespace Go.Proofs.YtoochjhipmpehaaGreatDoor
section
open Go.RowKit
def cT (R:World->List Ev->(Nat->Prop)->Prop):Prop:= ∀w w' l X,R w l X->Below w.heap.size w w'->R w' l X
structure bd (R:World->List Ev->(Nat->Prop)->Prop) (S:Nat->Prop) (t:Nat) (w:World) (l:List Ev) (X:Nat->Prop):Prop where
 rel:R w l X
 low: ∀b,X b->b<w.heap.size
 apart: ∀b,S b-> ¬X b
 noT: ¬X t
 no0: ¬X 0
theorem bd.below {R:World->List Ev->(Nat->Prop)->Prop} {S:Nat->Prop} {t:Nat} {w w':World} {l:List Ev} {X:Nat->Prop} (h:bd R S t w l X) (hR:cT R) (hb:Below w.heap.size w w'):bd R S t w' l X:=
 ⟨hR w w' l X h.rel hb,fun b hx=>uR (h.low b hx) hb.size,h.apart,h.noT,h.no0⟩
def aF (w:World) (X:Nat->Prop) (R:World->List Ev->(Nat->Prop)->Prop) (S:Nat->Prop) (t:Nat) (l:List Ev) (e:Ending) (w':World):Prop:=
 e= .returned (.tuple #[])/\ ∃X',bd R S t w' l X'/\Mod X w w'/\Out X X' w
theorem mR {a b i:Nat} (hb:b<2^i) (h:a*2^i+b<18446744073709551616):bits .or .u64 ((a*2^i:Nat):Int) (b:Int)=((a*2^i+b:Nat):Int):=by
 rw[bits_or_u64_nat _ _ (by omega) (by omega)];have:=Nat.two_pow_add_eq_or_of_lt hb a;rw[Nat.mul_comm a (2^i)];exact congrArg _ this.symm
end
section
open Go.RowKit
def pc (x:Nat×Leaf):List Value:=[.int .u64 ((x.1*4096:Nat):Int), .int .i64 (x.2.frame:Int), .int .u8 (x.2.prot:Int), .bool x.2.copy]
def OwnP (w:World) (base:Nat) (A:Option Addr) (cap:Nat) (l:List (Nat×Leaf)):Prop:=w.ownsRow base 85 4 (.slice A l.length cap) l.length (l.flatMap pc)
theorem put_info:(Tryz.prog.info? 85).map (fun i=>(i.zero,i.size,i.bytes))=some (some (.agg #[.int .u64 0, .int .i64 0, .int .u8 0, .bool false]),4,24):=by kernel_rfl
structure mj {α:Type} (Own:World->Nat->Option Addr->Nat->List α->Prop):Prop where
 same: ∀ {w w':World} {base:Nat} {A:Option Addr} {cap:Nat} {l:List α},Own w base A cap l->(∀g,A=some ⟨g,0,none⟩->w'.heap[g]? =w.heap[g]?)->Own w' base A cap l
 form: ∀ {w:World} {base:Nat} {A:Option Addr} {cap:Nat} {l:List α},Own w base A cap l->(A=none/\l=[]/\cap=0)\/ ∃g,A=some ⟨g,0,none⟩/\base<=g/\g<w.heap.size/\l.length<=cap
theorem gB:mj OwnN:=⟨fun h hb=>h.same hb,fun h=>h.form⟩
theorem dL:mj OwnP:=by
 constructor
 ·intro w w' base A cap l h hb;refine⟨h.1,?_⟩;rcases h.2 with h2|⟨g,vk,cur,h1,h2,h3,h4⟩
  ·exact .inl h2
  ·injection h1 with e1 e2 e3;exact .inr ⟨g,vk,cur,by rw[e1,e2,e3],h2,(hb g e1).trans h3,h4⟩
 ·intro w base A cap l h;rcases h.2 with⟨h2,h3⟩|⟨g,vk,cur,h1,h2,h3,h4,_⟩
  ·injection h2 with h4 h5 h6;exact .inl ⟨h4,List.eq_nil_of_length_eq_zero h3,h6⟩
  ·injection h1 with e1 e2 e3;subst e3;exact .inr ⟨g,e1,h2,(uJ h3).1,h4⟩
def Pick {α:Type} (Own:World->Nat->Option Addr->Nat->List α->Prop) (ty:TypeId) (F:Ev->List α) (base bo:Nat):World->List Ev->(Nat->Prop)->Prop:=fun w l X=>
 ∃A cap,Own w base A cap (l.flatMap F)/\w.heap[bo]? =some (.cells #[.slice A (l.flatMap F).length cap] ty (0,0))/\(∀g,A=some ⟨g,0,none⟩->g≠bo)/\ ∀b,X b↔b=bo\/A=some ⟨b,0,none⟩
variable {ty:TypeId} {base bo:Nat}
theorem Pick.stays {α:Type} {Own:World->Nat->Option Addr->Nat->List α->Prop} (hO:mj Own) {F:Ev->List α} :cT (Pick Own ty F base bo):=by
 rintro w w' l X ⟨A,cap,h1,h2,h3,h4⟩ hb;refine⟨A,cap,hO.same h1 fun g hg=>?_,(hb.block bo (uJ h2).1).trans h2,h3,h4⟩;rcases hO.form h1 with⟨e,_⟩|⟨g',e,_,vq,_⟩
 ·rw[e]at hg;cases hg
 ·rw[e]at hg;injection hg with hg;injection hg with hg;subst hg;exact hb.block _ vq
variable {w:World} {l:List Ev} {X S:Nat->Prop} {e:Ev} {t:Nat}
theorem Pick.pass {α:Type} {Own:World->Nat->Option Addr->Nat->List α->Prop} {F:Ev->List α} (h:bd (Pick Own ty F base bo) S t w l X) (he:F e=[]):
  aF w X (Pick Own ty F base bo) S t (l++[e]) (.returned (.tuple #[])) w:=by
 refine⟨rfl,X,⟨?_,h.low,h.apart,h.noT,h.no0⟩,Mod.refl _ _,Out.refl _ _⟩;obtain⟨A,cap,h1,h2,h3,h4⟩:=h.rel;have e1:(l++[e]).flatMap F=l.flatMap F:=(by simp[he]);exact⟨A,cap,by rw[e1];exact h1,by rw[e1];exact h2,h3,h4⟩
theorem Pick.more {α:Type} {Own:World->Nat->Option Addr->Nat->List α->Prop} (hO:mj Own) {F:Ev->List α} {w0 w1 w2:World} {x:α} (h:bd (Pick Own ty F base bo) S t w l X) (he:F e=[x])
  {A:Option Addr} {cap g vk:Nat} (hX: ∀b,X b↔b=bo\/A=some ⟨b,0,none⟩) (hA:Own w base A cap (l.flatMap F)) (vp:Below w.heap.size w w0) (hg:w0.grownBy w1 (A.map (·.block))) (wU:A.map (·.block)=some g\/g=w0.heap.size) (vq:g<w1.heap.size)
  (vH:Own w1 base (some ⟨g,0,none⟩) vk (l.flatMap F++[x])) (ED: ∀g,A=some ⟨g,0,none⟩->g≠bo) (hbo:bo<w.heap.size) (YQ: ∀b,S b->b<base) (Nl:t<base) (vl:0<base)
  (h2:w2.heap[bo]? =some (.cells #[.slice (some ⟨g,0,none⟩) (l.flatMap F++[x]).length vk] ty (0,0))) (vE:Mod (fun b=>b=bo) w1 w2) (vS:w2.heap.size=w1.heap.size):
  aF w X (Pick Own ty F base bo) S t (l++[e]) (.returned (.tuple #[])) w2:=by
 have xt:=hO.form hA;have wb:=vp.size;have vz:=hg.size;have Yr:g≠bo:=by
  rcases wU with e|e
  ·rcases xt with⟨e',_⟩|⟨g',e',_,_,_⟩
   ·rw[e']at e;cases e
   ·rw[e']at e;injection e with e;exact e▸ED g' e'
  ·omega
 have Gp:base<=g:=by
  rcases hO.form vH with⟨e',_⟩|⟨g',e',h9,_,_⟩
  ·cases e'
  ·injection e' with e';injection e' with e';omega
 have hXA: ∀b,A.map (·.block)=some b->X b:=by
  intro b hb;rcases xt with⟨e',_⟩|⟨g',e',_,_,_⟩
  ·rw[e']at hb;cases hb
  ·rw[e']at hb;injection hb with hb;exact(hX b).2 (.inr (hb▸e'))
 have wA:Mod X w0 w1:=⟨hg.os,hg.tape,hg.output,hg.size,fun b hb hn=>hg.block b hb fun e=>hn (hXA b e.symm)⟩;have KN:X bo:=(hX bo).2 (.inl rfl);have XS:Mod X w w2:=((Mod.of vp).trans (Out.refl _ _) wA).trans (Out.refl _ _) (vE.sub fun b hb=>hb▸KN);refine⟨rfl,fun b=>b=bo\/b=g,⟨⟨some ⟨g,0,none⟩,vk,?_,?_,fun g' e'=>?_,fun b=>?_⟩,?_,?_,?_,?_⟩,XS,?_⟩
 ·rw[show(l++[e]).flatMap F=l.flatMap F++[x]from by simp[he]];refine hO.same vH fun g' e'=>?_;injection e' with e';injection e' with e';subst e';exact vE.block g vq Yr
 ·rw[show(l++[e]).flatMap F=l.flatMap F++[x]from by simp[he]];exact h2
 ·injection e' with e';injection e' with e';omega
 ·constructor
  ·rintro(rfl|rfl)
   ·exact .inl rfl
   ·exact .inr rfl
  ·rintro(rfl|e')
   ·exact .inl rfl
   ·injection e' with e';injection e' with e';exact .inr e'.symm
 ·rintro b (rfl|rfl)
  ·omega
  ·omega
 ·intro b hb;have h9:=YQ b hb;rintro(rfl|rfl)
  ·exact h.apart _ hb KN
  ·omega
 ·rintro(rfl|rfl)
  ·exact h.noT KN
  ·omega
 ·rintro(e'|e')
  ·exact h.no0 (e'▸KN)
  ·omega
 ·rintro b (rfl|rfl)
  ·exact .inl KN
  ·rcases wU with e'|e'
   ·exact .inl (hXA _ e')
   ·exact .inr (by omega)
theorem Pick.start {α:Type} {Own:World->Nat->Option Addr->Nat->List α->Prop} {F:Ev->List α} (hO:Own w base none 0 []) (hb:w.heap[bo]? =some (.cells #[.slice none 0 0] ty (0,0))) (YQ: ∀b,S b->b≠bo) (ht:t≠bo) (h0:bo≠0):
  bd (Pick Own ty F base bo) S t w [] (fun b=>b=bo):=
 ⟨⟨none,0,hO,hb,fun g e=>(by cases e),fun b=>⟨.inl,fun h=>h.elim id (fun e=>by cases e)⟩⟩,fun b e=>e▸(uJ hb).1,fun b hs e=>YQ b hs e,fun e=>ht e,fun e=>h0 e.symm⟩
end
section
open Go.RowKit
theorem vis_all1 (t c a root g q:Nat) (bo:Nat)(R:World->List Ev->(Nat->Prop)->Prop) (w:World) (S:Nat->Prop) (p:Pool) (T:Tab) (rest:Nat->Nat) (pg0:Nat) (X:Nat->Prop) (l:List Ev) (h:ai w S a p) (ht:ag w t c a root) (vv:T.Good p rest pg0 4) (hq:T.nd 1 q=some g) (Bz:q<512^(4-1))
  (hv:bd R S t w l X) (hlen:l.length+(T.evs 1 q).length<1000000) (hR:cT R)
  (hn: ∀(w:World) (l:List Ev) (X:Nat->Prop) (f:Nat),bd R S t w l X->l.length<1000000->Calls Tryz.prog 75 (#[.int .i64 (f:Int)]++ #[]) w (aF w X R S t (l++[.node f])))
  (hl: ∀(w:World) (l:List Ev) (X:Nat->Prop) (pg:Nat) (y:Leaf),bd R S t w l X->l.length<1000000->Calls Tryz.prog 76 (#[.int .u64 ((pg*4096:Nat):Int), .agg #[.int .i64 (y.frame:Int), .int .u8 (y.prot:Int), .bool y.copy]]++ #[.pointer (some ⟨bo,0,none⟩)]) w (aF w X R S t (l++[.leaf pg y])))
  (fr:Int) (xw:fr=((q*512^1*4096:Nat):Int)):
  Calls Tryz.prog 74 #[.pointer (some ⟨t,0,none⟩), .int .i64 (g:Int), .int .i64 3, .int .u64 fr, .func (.func 75) #[] #[], .func (.func 76) #[] #[.pointer (some ⟨bo,0,none⟩)]] w (aF w X R S t (l++T.evs 1 q)):=by
 have zQ:=Tab.evs_node hq;obtain⟨g1,g2⟩:=vv.node hq;have wj:=(vv.but.words 1 q g hq).2;have vA:=vv.but.few;have GW:=uK zQ;have HQ:=uK hq;have HV:=uK hv;have HP:=uK h;have HT:=uK ht;have HN:=uK hn;have Az:=uK hl;have HG:=uK vv;have HW:=uK wj;have yX:=uK xw;have vT:t<w.heap.size:=(uJ ht).1;rw[zQ]at hlen;simp only[uX]at hlen;have xh:=uK hlen;clear zQ hq hv h ht hn hl vv wj xw hlen;go_enter Tryz.func74,Tryz.ntmps74;go_wp2_with fail;refine(HN.out w l X g HV.out (by have:=xh.out;omega)).mono ?_;rintro e w1 ⟨rfl,X1,zo,wA,vQ⟩;have wE:ag w1 t c a root:=(wA.block t vT HV.out.noT).trans HT.out;have yh:ai w1 S a p:=HP.out.mod wA HV.out.apart HV.out.no0;have c1:w1.cell? ⟨t,1,none⟩=some (.pointer (some ⟨a,0,none⟩)):=aa wE 1;have xR:=uK wE;have yF:=uK yh;have yj:=uK zo;clear wE yh zo;go_wp2_with fail;refine(ci a g 0 4096 w1 S p yF.out g1 g2 (by omega) (by omega)).mono ?_;rintro e w2 ⟨rfl,wW,vS,vs⟩;have yd: ∀i,p.dat g i<256:=by
  obtain⟨⟨C,B,F,wd,pt,hi,hS⟩,_,_,_⟩:=yF.out;exact fun i=>hi.small g i
 have vY: ¬X1 w1.heap.size:=fun e=>by have:=yj.out.low _ e;omega
 have Fy:=uK (yj.out.below hR vs);have vz:=wA.size;have xi:=uK wW;clear wW c1;go_wp2_with fail;go_loopw [30] (fun i wr=> ∃(k:Nat) (X':Nat->Prop),i= .int .i64 (k:Int)/\k<=512/\bd R S t wr (l++ .node g::T.upto 0 q k) X'/\Mod X1 w2 wr/\Out X1 X' w2) (fun i _ =>512-(intOf i).toNat)
 case atStart=>exact⟨0,X1,rfl,by omega,by rw[Tab.upto_zero];exact Fy.out,Mod.refl _ _,Out.refl _ _⟩
 case round=>
  obtain⟨k,X',rfl,hk,BR,xr,wv⟩:=hrel;have CA:=uK BR;have OK:=xr.size;clear BR;by_cases vq:k<512
  ·have Cw:aG wr w1.heap.size 4096 (fun i=>p.dat g (0+i)):=(xr.block _ vS vY).trans xi.out;have Cn:ag wr t c a root:=(xr.block t (by omega) yj.out.noT).trans ((vs.block t (by omega)).trans xR.out);have Cp:ai wr S a p:=(yF.out.below vs).mod xr yj.out.apart yj.out.no0;have GF:=uK Cn;have GM:=uK Cp;have xe:l.length+(T.upto 0 q k).length+(T.evs 0 (q*512+k)).length+1<1000000:=by
    have h1:=T.upto_le 0 q (show k+1<=512 by omega);rw[Tab.upto_succ,uP]at h1;have:=xh.out;omega
   have It:q*512+k<512^(4-0):=by
    have h9:=Bz;simp only[Nat.reducePow,Nat.reduceSub]at h9⊢;omega
   have yl:=uK xe;clear Cn Cp xe;go_wp2_with fail;refine(lI (8*k) 4096 4096 w1.heap.size (fun i=>p.dat g (0+i)) wr (by omega) (by omega) Cw (fun i=>yd _) (by omega)).mono ?_;rintro e w3 ⟨rfl,vx⟩;have wZ:cD (fun i=>p.dat g (0+i)) (8*k) 8=T.word 1 q k:=by
    rw[<-HW.out k vq];unfold word;refine bF fun i _ =>?_;rw[Nat.zero_add]
   rw[wZ];have wP:Mod X1 w2 w3:=xr.trans wv (Mod.of vx);have Cz:=uK (CA.out.below hR vx);have By:=uK (GM.out.below vx);have Bw:=uK ((vx.block t (by omega)).trans GF.out);have xI:=vx.size;clear wZ Cw;cases wF:T.lf (q*512+k)with
   |none=>
    have e0:T.word 1 q k=0:=(by(unfold Tab.word;rw[if_pos rfl,wF]));have AG:=Tab.evs_noleaf wF;have Em:=uK AG;rw[e0];have hz:=bY;clear wF AG;go_wp2_with fail;go_roundw
    case rel=>exact⟨k+1,X',by go_num,by omega,by rw[Tab.upto_succ,Em.out,List.append_nil];exact Cz.out,wP,wv⟩
    case measure=>(simp[intOf];omega)
   |some y=>
    have e0:T.word 1 q k=y.pack:=(by(unfold Tab.word;rw[if_pos rfl,wF]));obtain⟨p7,pf⟩:=(HG.out.but.leaf _ y wF).2;obtain⟨x,hx⟩: ∃x,x=y.pack:=⟨_,rfl⟩;rw[e0,<-hx];have xg:x<18446744073709551616:=(by(rw[hx];have:=cV y p7 (by omega);omega));have xK:=aL xg (by rw[hx];exact df y);have Bg:fb x=y:=(by(rw[hx];exact di y p7));have AG:=Tab.evs_leaf wF;have Em:=uK AG;have Lc:=uK Bg;have vW:bits .or .u64 fr ((k:Int)*4096)=(((q*512+k)*4096:Nat):Int):=by
     rw[yX.out];have h9:=Bz;simp only[Nat.reducePow,Nat.reduceSub]at h9;have h1:=mR (a:=q) (b:=k*4096) (i:=21) (by omega) (by omega);have e1:((k:Int)*4096)=((k*4096:Nat):Int):=(by omega);rw[e1,show q*512^1*4096=q*2^21 from by omega,h1];exact congrArg _ (by omega)
    have ym:=uK vW;clear wF AG Bg hx e0 vW;go_wp2_with fail;refine(dk x w3 xg).mono ?_;rintro e w4 ⟨rfl,vN⟩;rw[Lc.out];go_wp2_with fail;rw[ym.out];refine(Az.out w4 _ X' (q*512+k) y (Cz.out.below hR vN) (by have:=yl.out;simp;omega)).mono ?_;rintro e w5 ⟨rfl,X5,BQ,wy,xW⟩;have wH:Mod X1 w2 w4:=wP.trans (fun b hb=>(wv b hb).imp id (fun h=>h)) (Mod.of vN);have Ai:Out X1 X5 w2:=wv.trans xW wH.size;have yK:=wH.trans wv wy;have GD:=uK BQ;clear BQ;go_wp2_with fail;go_roundw
    case rel=>exact⟨k+1,X5,by go_num,by omega,by(rw[Tab.upto_succ,Em.out];have:=GD.out;simpa using this),yK,Ai⟩
    case measure=>(simp[intOf];omega)
  ·obtain rfl:k=512:=(by omega);go_wp2_with fail;go_end0;exact⟨rfl,X',by rw[GW.out];exact CA.out,wA.trans vQ ((Mod.of vs).trans (Out.refl _ _) xr),vQ.trans (fun b hb=>(wv b hb).imp id (fun h=>vh vs.size h)) vz⟩
theorem vis_all2 (t c a root g q:Nat) (bo:Nat)(R:World->List Ev->(Nat->Prop)->Prop) (w:World) (S:Nat->Prop) (p:Pool) (T:Tab) (rest:Nat->Nat) (pg0:Nat) (X:Nat->Prop) (l:List Ev) (h:ai w S a p) (ht:ag w t c a root) (vv:T.Good p rest pg0 4) (hq:T.nd 2 q=some g) (Bz:q<512^(4-2))
  (hv:bd R S t w l X) (hlen:l.length+(T.evs 2 q).length<1000000) (hR:cT R)
  (hn: ∀(w:World) (l:List Ev) (X:Nat->Prop) (f:Nat),bd R S t w l X->l.length<1000000->Calls Tryz.prog 75 (#[.int .i64 (f:Int)]++ #[]) w (aF w X R S t (l++[.node f])))
  (hl: ∀(w:World) (l:List Ev) (X:Nat->Prop) (pg:Nat) (y:Leaf),bd R S t w l X->l.length<1000000->Calls Tryz.prog 76 (#[.int .u64 ((pg*4096:Nat):Int), .agg #[.int .i64 (y.frame:Int), .int .u8 (y.prot:Int), .bool y.copy]]++ #[.pointer (some ⟨bo,0,none⟩)]) w (aF w X R S t (l++[.leaf pg y])))
  (fr:Int) (xw:fr=((q*512^2*4096:Nat):Int)):
  Calls Tryz.prog 74 #[.pointer (some ⟨t,0,none⟩), .int .i64 (g:Int), .int .i64 2, .int .u64 fr, .func (.func 75) #[] #[], .func (.func 76) #[] #[.pointer (some ⟨bo,0,none⟩)]] w (aF w X R S t (l++T.evs 2 q)):=by
 have zQ:=Tab.evs_node hq;obtain⟨g1,g2⟩:=vv.node hq;have wj:=(vv.but.words 2 q g hq).2;have vA:=vv.but.few;have GW:=uK zQ;have HQ:=uK hq;have HV:=uK hv;have HP:=uK h;have HT:=uK ht;have HN:=uK hn;have Az:=uK hl;have HG:=uK vv;have HW:=uK wj;have yX:=uK xw;have vT:t<w.heap.size:=(uJ ht).1;rw[zQ]at hlen;simp only[uX]at hlen;have xh:=uK hlen;clear zQ hq hv h ht hn hl vv wj xw hlen;go_enter Tryz.func74,Tryz.ntmps74;go_wp2_with fail;refine(HN.out w l X g HV.out (by have:=xh.out;omega)).mono ?_;rintro e w1 ⟨rfl,X1,zo,wA,vQ⟩;have wE:ag w1 t c a root:=(wA.block t vT HV.out.noT).trans HT.out;have yh:ai w1 S a p:=HP.out.mod wA HV.out.apart HV.out.no0;have c1:w1.cell? ⟨t,1,none⟩=some (.pointer (some ⟨a,0,none⟩)):=aa wE 1;have xR:=uK wE;have yF:=uK yh;have yj:=uK zo;clear wE yh zo;go_wp2_with fail;refine(ci a g 0 4096 w1 S p yF.out g1 g2 (by omega) (by omega)).mono ?_;rintro e w2 ⟨rfl,wW,vS,vs⟩;have yd: ∀i,p.dat g i<256:=by
  obtain⟨⟨C,B,F,wd,pt,hi,hS⟩,_,_,_⟩:=yF.out;exact fun i=>hi.small g i
 have vY: ¬X1 w1.heap.size:=fun e=>by have:=yj.out.low _ e;omega
 have Fy:=uK (yj.out.below hR vs);have vz:=wA.size;have xi:=uK wW;clear wW c1;go_wp2_with fail;go_loopw [30] (fun i wr=> ∃(k:Nat) (X':Nat->Prop),i= .int .i64 (k:Int)/\k<=512/\bd R S t wr (l++ .node g::T.upto 1 q k) X'/\Mod X1 w2 wr/\Out X1 X' w2) (fun i _ =>512-(intOf i).toNat)
 case atStart=>exact⟨0,X1,rfl,by omega,by rw[Tab.upto_zero];exact Fy.out,Mod.refl _ _,Out.refl _ _⟩
 case round=>
  obtain⟨k,X',rfl,hk,BR,xr,wv⟩:=hrel;have CA:=uK BR;have OK:=xr.size;clear BR;by_cases vq:k<512
  ·have Cw:aG wr w1.heap.size 4096 (fun i=>p.dat g (0+i)):=(xr.block _ vS vY).trans xi.out;have Cn:ag wr t c a root:=(xr.block t (by omega) yj.out.noT).trans ((vs.block t (by omega)).trans xR.out);have Cp:ai wr S a p:=(yF.out.below vs).mod xr yj.out.apart yj.out.no0;have GF:=uK Cn;have GM:=uK Cp;have xe:l.length+(T.upto 1 q k).length+(T.evs 1 (q*512+k)).length+1<1000000:=by
    have h1:=T.upto_le 1 q (show k+1<=512 by omega);rw[Tab.upto_succ,uP]at h1;have:=xh.out;omega
   have It:q*512+k<512^(4-1):=by
    have h9:=Bz;simp only[Nat.reducePow,Nat.reduceSub]at h9⊢;omega
   have yl:=uK xe;clear Cn Cp xe;go_wp2_with fail;refine(lI (8*k) 4096 4096 w1.heap.size (fun i=>p.dat g (0+i)) wr (by omega) (by omega) Cw (fun i=>yd _) (by omega)).mono ?_;rintro e w3 ⟨rfl,vx⟩;have wZ:cD (fun i=>p.dat g (0+i)) (8*k) 8=T.word 2 q k:=by
    rw[<-HW.out k vq];unfold word;refine bF fun i _ =>?_;rw[Nat.zero_add]
   rw[wZ];have wP:Mod X1 w2 w3:=xr.trans wv (Mod.of vx);have Cz:=uK (CA.out.below hR vx);have By:=uK (GM.out.below vx);have Bw:=uK ((vx.block t (by omega)).trans GF.out);have xI:=vx.size;clear wZ Cw;cases wF:T.nd 1 (q*512+k)with
   |none=>
    have e0:T.word 2 q k=0:=by(unfold Tab.word;rw[if_neg (by omega)];show(match T.nd 1 (q*512+k)with|some f=>f*4096+1|none=>0)=_;rw[wF])
    have AG:=Tab.evs_none wF;have Em:=uK AG;rw[e0];have hz:=bY;clear wF AG;go_wp2_with fail;go_roundw
    case rel=>exact⟨k+1,X',by go_num,by omega,by rw[Tab.upto_succ,Em.out,List.append_nil];exact Cz.out,wP,wv⟩
    case measure=>(simp[intOf];omega)
   |some f=>
    have e0:T.word 2 q k=f*4096+1:=by(unfold Tab.word;rw[if_neg (by omega)];show(match T.nd 1 (q*512+k)with|some f=>f*4096+1|none=>0)=_;rw[wF])
    obtain⟨n1,n2⟩:=HG.out.node wF;obtain⟨x,hx⟩: ∃x,x=f*4096+1:=⟨_,rfl⟩;rw[e0,<-hx];have xg:x<18446744073709551616:=(by omega);have xK:=aL xg (by omega);have xp:((x:Int)/4096)=(f:Int):=(by omega);have yk:=uK xp;have FG:=uK wF;have vW:bits .or .u64 fr ((k:Int)*2097152)=(((q*512+k)*512^1*4096:Nat):Int):=by
     rw[yX.out];have h9:=Bz;simp only[Nat.reducePow,Nat.reduceSub]at h9;have h1:=mR (a:=q) (b:=k*2097152) (i:=30) (by omega) (by omega);have e1:((k:Int)*2097152)=((k*2097152:Nat):Int):=(by omega);rw[e1,show q*512^2*4096=q*2^30 from by omega,h1];exact congrArg _ (by omega)
    have ym:=uK vW;clear wF xp hx e0 vW;go_wp2_with fail;rw[yk.out];refine(vis_all1 t c a root f (q*512+k) bo R w3 S p T rest pg0 X' _ By.out Bw.out HG.out FG.out It Cz.out (by have:=yl.out;simp;omega) hR HN.out Az.out _ ym.out).mono ?_;rintro e w5 ⟨rfl,X5,BQ,wy,xW⟩;have Ai:Out X1 X5 w2:=wv.trans xW wP.size;have yK:=wP.trans wv wy;have GD:=uK BQ;clear BQ;go_wp2_with fail;go_roundw
    case rel=>exact⟨k+1,X5,by go_num,by omega,by(rw[Tab.upto_succ];have:=GD.out;simpa using this),yK,Ai⟩
    case measure=>(simp[intOf];omega)
  ·obtain rfl:k=512:=(by omega);go_wp2_with fail;go_end0;exact⟨rfl,X',by rw[GW.out];exact CA.out,wA.trans vQ ((Mod.of vs).trans (Out.refl _ _) xr),vQ.trans (fun b hb=>(wv b hb).imp id (fun h=>vh vs.size h)) vz⟩
theorem vis_all3 (t c a root g q:Nat) (bo:Nat)(R:World->List Ev->(Nat->Prop)->Prop) (w:World) (S:Nat->Prop) (p:Pool) (T:Tab) (rest:Nat->Nat) (pg0:Nat) (X:Nat->Prop) (l:List Ev) (h:ai w S a p) (ht:ag w t c a root) (vv:T.Good p rest pg0 4) (hq:T.nd 3 q=some g) (Bz:q<512^(4-3))
  (hv:bd R S t w l X) (hlen:l.length+(T.evs 3 q).length<1000000) (hR:cT R)
  (hn: ∀(w:World) (l:List Ev) (X:Nat->Prop) (f:Nat),bd R S t w l X->l.length<1000000->Calls Tryz.prog 75 (#[.int .i64 (f:Int)]++ #[]) w (aF w X R S t (l++[.node f])))
  (hl: ∀(w:World) (l:List Ev) (X:Nat->Prop) (pg:Nat) (y:Leaf),bd R S t w l X->l.length<1000000->Calls Tryz.prog 76 (#[.int .u64 ((pg*4096:Nat):Int), .agg #[.int .i64 (y.frame:Int), .int .u8 (y.prot:Int), .bool y.copy]]++ #[.pointer (some ⟨bo,0,none⟩)]) w (aF w X R S t (l++[.leaf pg y])))
  (fr:Int) (xw:fr=((q*512^3*4096:Nat):Int)):
  Calls Tryz.prog 74 #[.pointer (some ⟨t,0,none⟩), .int .i64 (g:Int), .int .i64 1, .int .u64 fr, .func (.func 75) #[] #[], .func (.func 76) #[] #[.pointer (some ⟨bo,0,none⟩)]] w (aF w X R S t (l++T.evs 3 q)):=by
 have zQ:=Tab.evs_node hq;obtain⟨g1,g2⟩:=vv.node hq;have wj:=(vv.but.words 3 q g hq).2;have vA:=vv.but.few;have GW:=uK zQ;have HQ:=uK hq;have HV:=uK hv;have HP:=uK h;have HT:=uK ht;have HN:=uK hn;have Az:=uK hl;have HG:=uK vv;have HW:=uK wj;have yX:=uK xw;have vT:t<w.heap.size:=(uJ ht).1;rw[zQ]at hlen;simp only[uX]at hlen;have xh:=uK hlen;clear zQ hq hv h ht hn hl vv wj xw hlen;go_enter Tryz.func74,Tryz.ntmps74;go_wp2_with fail;refine(HN.out w l X g HV.out (by have:=xh.out;omega)).mono ?_;rintro e w1 ⟨rfl,X1,zo,wA,vQ⟩;have wE:ag w1 t c a root:=(wA.block t vT HV.out.noT).trans HT.out;have yh:ai w1 S a p:=HP.out.mod wA HV.out.apart HV.out.no0;have c1:w1.cell? ⟨t,1,none⟩=some (.pointer (some ⟨a,0,none⟩)):=aa wE 1;have xR:=uK wE;have yF:=uK yh;have yj:=uK zo;clear wE yh zo;go_wp2_with fail;refine(ci a g 0 4096 w1 S p yF.out g1 g2 (by omega) (by omega)).mono ?_;rintro e w2 ⟨rfl,wW,vS,vs⟩;have yd: ∀i,p.dat g i<256:=by
  obtain⟨⟨C,B,F,wd,pt,hi,hS⟩,_,_,_⟩:=yF.out;exact fun i=>hi.small g i
 have vY: ¬X1 w1.heap.size:=fun e=>by have:=yj.out.low _ e;omega
 have Fy:=uK (yj.out.below hR vs);have vz:=wA.size;have xi:=uK wW;clear wW c1;go_wp2_with fail;go_loopw [30] (fun i wr=> ∃(k:Nat) (X':Nat->Prop),i= .int .i64 (k:Int)/\k<=512/\bd R S t wr (l++ .node g::T.upto 2 q k) X'/\Mod X1 w2 wr/\Out X1 X' w2) (fun i _ =>512-(intOf i).toNat)
 case atStart=>exact⟨0,X1,rfl,by omega,by rw[Tab.upto_zero];exact Fy.out,Mod.refl _ _,Out.refl _ _⟩
 case round=>
  obtain⟨k,X',rfl,hk,BR,xr,wv⟩:=hrel;have CA:=uK BR;have OK:=xr.size;clear BR;by_cases vq:k<512
  ·have Cw:aG wr w1.heap.size 4096 (fun i=>p.dat g (0+i)):=(xr.block _ vS vY).trans xi.out;have Cn:ag wr t c a root:=(xr.block t (by omega) yj.out.noT).trans ((vs.block t (by omega)).trans xR.out);have Cp:ai wr S a p:=(yF.out.below vs).mod xr yj.out.apart yj.out.no0;have GF:=uK Cn;have GM:=uK Cp;have xe:l.length+(T.upto 2 q k).length+(T.evs 2 (q*512+k)).length+1<1000000:=by
    have h1:=T.upto_le 2 q (show k+1<=512 by omega);rw[Tab.upto_succ,uP]at h1;have:=xh.out;omega
   have It:q*512+k<512^(4-2):=by
    have h9:=Bz;simp only[Nat.reducePow,Nat.reduceSub]at h9⊢;omega
   have yl:=uK xe;clear Cn Cp xe;go_wp2_with fail;refine(lI (8*k) 4096 4096 w1.heap.size (fun i=>p.dat g (0+i)) wr (by omega) (by omega) Cw (fun i=>yd _) (by omega)).mono ?_;rintro e w3 ⟨rfl,vx⟩;have wZ:cD (fun i=>p.dat g (0+i)) (8*k) 8=T.word 3 q k:=by
    rw[<-HW.out k vq];unfold word;refine bF fun i _ =>?_;rw[Nat.zero_add]
   rw[wZ];have wP:Mod X1 w2 w3:=xr.trans wv (Mod.of vx);have Cz:=uK (CA.out.below hR vx);have By:=uK (GM.out.below vx);have Bw:=uK ((vx.block t (by omega)).trans GF.out);have xI:=vx.size;clear wZ Cw;cases wF:T.nd 2 (q*512+k)with
   |none=>
    have e0:T.word 3 q k=0:=by(unfold Tab.word;rw[if_neg (by omega)];show(match T.nd 2 (q*512+k)with|some f=>f*4096+1|none=>0)=_;rw[wF])
    have AG:=Tab.evs_none wF;have Em:=uK AG;rw[e0];have hz:=bY;clear wF AG;go_wp2_with fail;go_roundw
    case rel=>exact⟨k+1,X',by go_num,by omega,by rw[Tab.upto_succ,Em.out,List.append_nil];exact Cz.out,wP,wv⟩
    case measure=>(simp[intOf];omega)
   |some f=>
    have e0:T.word 3 q k=f*4096+1:=by(unfold Tab.word;rw[if_neg (by omega)];show(match T.nd 2 (q*512+k)with|some f=>f*4096+1|none=>0)=_;rw[wF])
    obtain⟨n1,n2⟩:=HG.out.node wF;obtain⟨x,hx⟩: ∃x,x=f*4096+1:=⟨_,rfl⟩;rw[e0,<-hx];have xg:x<18446744073709551616:=(by omega);have xK:=aL xg (by omega);have xp:((x:Int)/4096)=(f:Int):=(by omega);have yk:=uK xp;have FG:=uK wF;have vW:bits .or .u64 fr ((k:Int)*1073741824)=(((q*512+k)*512^2*4096:Nat):Int):=by
     rw[yX.out];have h9:=Bz;simp only[Nat.reducePow,Nat.reduceSub]at h9;have h1:=mR (a:=q) (b:=k*1073741824) (i:=39) (by omega) (by omega);have e1:((k:Int)*1073741824)=((k*1073741824:Nat):Int):=(by omega);rw[e1,show q*512^3*4096=q*2^39 from by omega,h1];exact congrArg _ (by omega)
    have ym:=uK vW;clear wF xp hx e0 vW;go_wp2_with fail;rw[yk.out];refine(vis_all2 t c a root f (q*512+k) bo R w3 S p T rest pg0 X' _ By.out Bw.out HG.out FG.out It Cz.out (by have:=yl.out;simp;omega) hR HN.out Az.out _ ym.out).mono ?_;rintro e w5 ⟨rfl,X5,BQ,wy,xW⟩;have Ai:Out X1 X5 w2:=wv.trans xW wP.size;have yK:=wP.trans wv wy;have GD:=uK BQ;clear BQ;go_wp2_with fail;go_roundw
    case rel=>exact⟨k+1,X5,by go_num,by omega,by(rw[Tab.upto_succ];have:=GD.out;simpa using this),yK,Ai⟩
    case measure=>(simp[intOf];omega)
  ·obtain rfl:k=512:=(by omega);go_wp2_with fail;go_end0;exact⟨rfl,X',by rw[GW.out];exact CA.out,wA.trans vQ ((Mod.of vs).trans (Out.refl _ _) xr),vQ.trans (fun b hb=>(wv b hb).imp id (fun h=>vh vs.size h)) vz⟩
theorem vis_all4 (t c a root g q:Nat) (bo:Nat)(R:World->List Ev->(Nat->Prop)->Prop) (w:World) (S:Nat->Prop) (p:Pool) (T:Tab) (rest:Nat->Nat) (pg0:Nat) (X:Nat->Prop) (l:List Ev) (h:ai w S a p) (ht:ag w t c a root) (vv:T.Good p rest pg0 4) (hq:T.nd 4 q=some g) (Bz:q<512^(4-4))
  (hv:bd R S t w l X) (hlen:l.length+(T.evs 4 q).length<1000000) (hR:cT R)
  (hn: ∀(w:World) (l:List Ev) (X:Nat->Prop) (f:Nat),bd R S t w l X->l.length<1000000->Calls Tryz.prog 75 (#[.int .i64 (f:Int)]++ #[]) w (aF w X R S t (l++[.node f])))
  (hl: ∀(w:World) (l:List Ev) (X:Nat->Prop) (pg:Nat) (y:Leaf),bd R S t w l X->l.length<1000000->Calls Tryz.prog 76 (#[.int .u64 ((pg*4096:Nat):Int), .agg #[.int .i64 (y.frame:Int), .int .u8 (y.prot:Int), .bool y.copy]]++ #[.pointer (some ⟨bo,0,none⟩)]) w (aF w X R S t (l++[.leaf pg y])))
  (fr:Int) (xw:fr=((q*512^4*4096:Nat):Int)):
  Calls Tryz.prog 74 #[.pointer (some ⟨t,0,none⟩), .int .i64 (g:Int), .int .i64 0, .int .u64 fr, .func (.func 75) #[] #[], .func (.func 76) #[] #[.pointer (some ⟨bo,0,none⟩)]] w (aF w X R S t (l++T.evs 4 q)):=by
 have zQ:=Tab.evs_node hq;obtain⟨g1,g2⟩:=vv.node hq;have wj:=(vv.but.words 4 q g hq).2;have vA:=vv.but.few;have GW:=uK zQ;have HQ:=uK hq;have HV:=uK hv;have HP:=uK h;have HT:=uK ht;have HN:=uK hn;have Az:=uK hl;have HG:=uK vv;have HW:=uK wj;have yX:=uK xw;have vT:t<w.heap.size:=(uJ ht).1;rw[zQ]at hlen;simp only[uX]at hlen;have xh:=uK hlen;clear zQ hq hv h ht hn hl vv wj xw hlen;go_enter Tryz.func74,Tryz.ntmps74;go_wp2_with fail;refine(HN.out w l X g HV.out (by have:=xh.out;omega)).mono ?_;rintro e w1 ⟨rfl,X1,zo,wA,vQ⟩;have wE:ag w1 t c a root:=(wA.block t vT HV.out.noT).trans HT.out;have yh:ai w1 S a p:=HP.out.mod wA HV.out.apart HV.out.no0;have c1:w1.cell? ⟨t,1,none⟩=some (.pointer (some ⟨a,0,none⟩)):=aa wE 1;have xR:=uK wE;have yF:=uK yh;have yj:=uK zo;clear wE yh zo;go_wp2_with fail;refine(ci a g 0 4096 w1 S p yF.out g1 g2 (by omega) (by omega)).mono ?_;rintro e w2 ⟨rfl,wW,vS,vs⟩;have yd: ∀i,p.dat g i<256:=by
  obtain⟨⟨C,B,F,wd,pt,hi,hS⟩,_,_,_⟩:=yF.out;exact fun i=>hi.small g i
 have vY: ¬X1 w1.heap.size:=fun e=>by have:=yj.out.low _ e;omega
 have Fy:=uK (yj.out.below hR vs);have vz:=wA.size;have xi:=uK wW;clear wW c1;go_wp2_with fail;go_loopw [30] (fun i wr=> ∃(k:Nat) (X':Nat->Prop),i= .int .i64 (k:Int)/\k<=512/\bd R S t wr (l++ .node g::T.upto 3 q k) X'/\Mod X1 w2 wr/\Out X1 X' w2) (fun i _ =>512-(intOf i).toNat)
 case atStart=>exact⟨0,X1,rfl,by omega,by rw[Tab.upto_zero];exact Fy.out,Mod.refl _ _,Out.refl _ _⟩
 case round=>
  obtain⟨k,X',rfl,hk,BR,xr,wv⟩:=hrel;have CA:=uK BR;have OK:=xr.size;clear BR;by_cases vq:k<512
  ·have Cw:aG wr w1.heap.size 4096 (fun i=>p.dat g (0+i)):=(xr.block _ vS vY).trans xi.out;have Cn:ag wr t c a root:=(xr.block t (by omega) yj.out.noT).trans ((vs.block t (by omega)).trans xR.out);have Cp:ai wr S a p:=(yF.out.below vs).mod xr yj.out.apart yj.out.no0;have GF:=uK Cn;have GM:=uK Cp;have xe:l.length+(T.upto 3 q k).length+(T.evs 3 (q*512+k)).length+1<1000000:=by
    have h1:=T.upto_le 3 q (show k+1<=512 by omega);rw[Tab.upto_succ,uP]at h1;have:=xh.out;omega
   have It:q*512+k<512^(4-3):=by
    have h9:=Bz;simp only[Nat.reducePow,Nat.reduceSub]at h9⊢;omega
   have yl:=uK xe;clear Cn Cp xe;go_wp2_with fail;refine(lI (8*k) 4096 4096 w1.heap.size (fun i=>p.dat g (0+i)) wr (by omega) (by omega) Cw (fun i=>yd _) (by omega)).mono ?_;rintro e w3 ⟨rfl,vx⟩;have wZ:cD (fun i=>p.dat g (0+i)) (8*k) 8=T.word 4 q k:=by
    rw[<-HW.out k vq];unfold word;refine bF fun i _ =>?_;rw[Nat.zero_add]
   rw[wZ];have wP:Mod X1 w2 w3:=xr.trans wv (Mod.of vx);have Cz:=uK (CA.out.below hR vx);have By:=uK (GM.out.below vx);have Bw:=uK ((vx.block t (by omega)).trans GF.out);have xI:=vx.size;clear wZ Cw;cases wF:T.nd 3 (q*512+k)with
   |none=>
    have e0:T.word 4 q k=0:=by(unfold Tab.word;rw[if_neg (by omega)];show(match T.nd 3 (q*512+k)with|some f=>f*4096+1|none=>0)=_;rw[wF])
    have AG:=Tab.evs_none wF;have Em:=uK AG;rw[e0];have hz:=bY;clear wF AG;go_wp2_with fail;go_roundw
    case rel=>exact⟨k+1,X',by go_num,by omega,by rw[Tab.upto_succ,Em.out,List.append_nil];exact Cz.out,wP,wv⟩
    case measure=>(simp[intOf];omega)
   |some f=>
    have e0:T.word 4 q k=f*4096+1:=by(unfold Tab.word;rw[if_neg (by omega)];show(match T.nd 3 (q*512+k)with|some f=>f*4096+1|none=>0)=_;rw[wF])
    obtain⟨n1,n2⟩:=HG.out.node wF;obtain⟨x,hx⟩: ∃x,x=f*4096+1:=⟨_,rfl⟩;rw[e0,<-hx];have xg:x<18446744073709551616:=(by omega);have xK:=aL xg (by omega);have xp:((x:Int)/4096)=(f:Int):=(by omega);have yk:=uK xp;have FG:=uK wF;have vW:bits .or .u64 fr ((k:Int)*549755813888)=(((q*512+k)*512^3*4096:Nat):Int):=by
     rw[yX.out];have h9:=Bz;simp only[Nat.reducePow,Nat.reduceSub]at h9;have h1:=mR (a:=q) (b:=k*549755813888) (i:=48) (by omega) (by omega);have e1:((k:Int)*549755813888)=((k*549755813888:Nat):Int):=(by omega);rw[e1,show q*512^4*4096=q*2^48 from by omega,h1];exact congrArg _ (by omega)
    have ym:=uK vW;clear wF xp hx e0 vW;go_wp2_with fail;rw[yk.out];refine(vis_all3 t c a root f (q*512+k) bo R w3 S p T rest pg0 X' _ By.out Bw.out HG.out FG.out It Cz.out (by have:=yl.out;simp;omega) hR HN.out Az.out _ ym.out).mono ?_;rintro e w5 ⟨rfl,X5,BQ,wy,xW⟩;have Ai:Out X1 X5 w2:=wv.trans xW wP.size;have yK:=wP.trans wv wy;have GD:=uK BQ;clear BQ;go_wp2_with fail;go_roundw
    case rel=>exact⟨k+1,X5,by go_num,by omega,by(rw[Tab.upto_succ];have:=GD.out;simpa using this),yK,Ai⟩
    case measure=>(simp[intOf];omega)
  ·obtain rfl:k=512:=(by omega);go_wp2_with fail;go_end0;exact⟨rfl,X',by rw[GW.out];exact CA.out,wA.trans vQ ((Mod.of vs).trans (Out.refl _ _) xr),vQ.trans (fun b hb=>(wv b hb).imp id (fun h=>vh vs.size h)) vz⟩
end
section
open Go.RowKit
theorem rS (t c a root g q:Nat) (bo:Nat)(R:World->List Ev->(Nat->Prop)->Prop) (w:World) (S:Nat->Prop) (p:Pool) (T:Tab) (rest:Nat->Nat) (pg0:Nat) (X:Nat->Prop) (l:List Ev) (h:ai w S a p) (ht:ag w t c a root) (vv:T.Good p rest pg0 4) (hq:T.nd 1 q=some g) (Bz:q<512^(4-1))
  (hv:bd R S t w l X) (hlen:l.length+(T.evs 1 q).length<1000000) (hR:cT R)
  (hn: ∀(w:World) (l:List Ev) (X:Nat->Prop) (f:Nat),bd R S t w l X->l.length<1000000->Calls Tryz.prog 94 (#[.int .i64 (f:Int)]++ #[.pointer (some ⟨bo,0,none⟩)]) w (aF w X R S t (l++[.node f])))
  (hl: ∀(w:World) (l:List Ev) (X:Nat->Prop) (pg:Nat) (y:Leaf),bd R S t w l X->l.length<1000000->Calls Tryz.prog 95 (#[.int .u64 ((pg*4096:Nat):Int), .agg #[.int .i64 (y.frame:Int), .int .u8 (y.prot:Int), .bool y.copy]]++ #[.pointer (some ⟨bo,0,none⟩)]) w (aF w X R S t (l++[.leaf pg y])))
  (fr:Int) (xw:fr=((q*512^1*4096:Nat):Int)):
  Calls Tryz.prog 74 #[.pointer (some ⟨t,0,none⟩), .int .i64 (g:Int), .int .i64 3, .int .u64 fr, .func (.func 94) #[] #[.pointer (some ⟨bo,0,none⟩)], .func (.func 95) #[] #[.pointer (some ⟨bo,0,none⟩)]] w (aF w X R S t (l++T.evs 1 q)):=by
 have zQ:=Tab.evs_node hq;obtain⟨g1,g2⟩:=vv.node hq;have wj:=(vv.but.words 1 q g hq).2;have vA:=vv.but.few;have GW:=uK zQ;have HQ:=uK hq;have HV:=uK hv;have HP:=uK h;have HT:=uK ht;have HN:=uK hn;have Az:=uK hl;have HG:=uK vv;have HW:=uK wj;have yX:=uK xw;have vT:t<w.heap.size:=(uJ ht).1;rw[zQ]at hlen;simp only[uX]at hlen;have xh:=uK hlen;clear zQ hq hv h ht hn hl vv wj xw hlen;go_enter Tryz.func74,Tryz.ntmps74;go_wp2_with fail;refine(HN.out w l X g HV.out (by have:=xh.out;omega)).mono ?_;rintro e w1 ⟨rfl,X1,zo,wA,vQ⟩;have wE:ag w1 t c a root:=(wA.block t vT HV.out.noT).trans HT.out;have yh:ai w1 S a p:=HP.out.mod wA HV.out.apart HV.out.no0;have c1:w1.cell? ⟨t,1,none⟩=some (.pointer (some ⟨a,0,none⟩)):=aa wE 1;have xR:=uK wE;have yF:=uK yh;have yj:=uK zo;clear wE yh zo;go_wp2_with fail;refine(ci a g 0 4096 w1 S p yF.out g1 g2 (by omega) (by omega)).mono ?_;rintro e w2 ⟨rfl,wW,vS,vs⟩;have yd: ∀i,p.dat g i<256:=by
  obtain⟨⟨C,B,F,wd,pt,hi,hS⟩,_,_,_⟩:=yF.out;exact fun i=>hi.small g i
 have vY: ¬X1 w1.heap.size:=fun e=>by have:=yj.out.low _ e;omega
 have Fy:=uK (yj.out.below hR vs);have vz:=wA.size;have xi:=uK wW;clear wW c1;go_wp2_with fail;go_loopw [30] (fun i wr=> ∃(k:Nat) (X':Nat->Prop),i= .int .i64 (k:Int)/\k<=512/\bd R S t wr (l++ .node g::T.upto 0 q k) X'/\Mod X1 w2 wr/\Out X1 X' w2) (fun i _ =>512-(intOf i).toNat)
 case atStart=>exact⟨0,X1,rfl,by omega,by rw[Tab.upto_zero];exact Fy.out,Mod.refl _ _,Out.refl _ _⟩
 case round=>
  obtain⟨k,X',rfl,hk,BR,xr,wv⟩:=hrel;have CA:=uK BR;have OK:=xr.size;clear BR;by_cases vq:k<512
  ·have Cw:aG wr w1.heap.size 4096 (fun i=>p.dat g (0+i)):=(xr.block _ vS vY).trans xi.out;have Cn:ag wr t c a root:=(xr.block t (by omega) yj.out.noT).trans ((vs.block t (by omega)).trans xR.out);have Cp:ai wr S a p:=(yF.out.below vs).mod xr yj.out.apart yj.out.no0;have GF:=uK Cn;have GM:=uK Cp;have xe:l.length+(T.upto 0 q k).length+(T.evs 0 (q*512+k)).length+1<1000000:=by
    have h1:=T.upto_le 0 q (show k+1<=512 by omega);rw[Tab.upto_succ,uP]at h1;have:=xh.out;omega
   have It:q*512+k<512^(4-0):=by
    have h9:=Bz;simp only[Nat.reducePow,Nat.reduceSub]at h9⊢;omega
   have yl:=uK xe;clear Cn Cp xe;go_wp2_with fail;refine(lI (8*k) 4096 4096 w1.heap.size (fun i=>p.dat g (0+i)) wr (by omega) (by omega) Cw (fun i=>yd _) (by omega)).mono ?_;rintro e w3 ⟨rfl,vx⟩;have wZ:cD (fun i=>p.dat g (0+i)) (8*k) 8=T.word 1 q k:=by
    rw[<-HW.out k vq];unfold word;refine bF fun i _ =>?_;rw[Nat.zero_add]
   rw[wZ];have wP:Mod X1 w2 w3:=xr.trans wv (Mod.of vx);have Cz:=uK (CA.out.below hR vx);have By:=uK (GM.out.below vx);have Bw:=uK ((vx.block t (by omega)).trans GF.out);have xI:=vx.size;clear wZ Cw;cases wF:T.lf (q*512+k)with
   |none=>
    have e0:T.word 1 q k=0:=(by(unfold Tab.word;rw[if_pos rfl,wF]));have AG:=Tab.evs_noleaf wF;have Em:=uK AG;rw[e0];have hz:=bY;clear wF AG;go_wp2_with fail;go_roundw
    case rel=>exact⟨k+1,X',by go_num,by omega,by rw[Tab.upto_succ,Em.out,List.append_nil];exact Cz.out,wP,wv⟩
    case measure=>(simp[intOf];omega)
   |some y=>
    have e0:T.word 1 q k=y.pack:=(by(unfold Tab.word;rw[if_pos rfl,wF]));obtain⟨p7,pf⟩:=(HG.out.but.leaf _ y wF).2;obtain⟨x,hx⟩: ∃x,x=y.pack:=⟨_,rfl⟩;rw[e0,<-hx];have xg:x<18446744073709551616:=(by(rw[hx];have:=cV y p7 (by omega);omega));have xK:=aL xg (by rw[hx];exact df y);have Bg:fb x=y:=(by(rw[hx];exact di y p7));have AG:=Tab.evs_leaf wF;have Em:=uK AG;have Lc:=uK Bg;have vW:bits .or .u64 fr ((k:Int)*4096)=(((q*512+k)*4096:Nat):Int):=by
     rw[yX.out];have h9:=Bz;simp only[Nat.reducePow,Nat.reduceSub]at h9;have h1:=mR (a:=q) (b:=k*4096) (i:=21) (by omega) (by omega);have e1:((k:Int)*4096)=((k*4096:Nat):Int):=(by omega);rw[e1,show q*512^1*4096=q*2^21 from by omega,h1];exact congrArg _ (by omega)
    have ym:=uK vW;clear wF AG Bg hx e0 vW;go_wp2_with fail;refine(dk x w3 xg).mono ?_;rintro e w4 ⟨rfl,vN⟩;rw[Lc.out];go_wp2_with fail;rw[ym.out];refine(Az.out w4 _ X' (q*512+k) y (Cz.out.below hR vN) (by have:=yl.out;simp;omega)).mono ?_;rintro e w5 ⟨rfl,X5,BQ,wy,xW⟩;have wH:Mod X1 w2 w4:=wP.trans (fun b hb=>(wv b hb).imp id (fun h=>h)) (Mod.of vN);have Ai:Out X1 X5 w2:=wv.trans xW wH.size;have yK:=wH.trans wv wy;have GD:=uK BQ;clear BQ;go_wp2_with fail;go_roundw
    case rel=>exact⟨k+1,X5,by go_num,by omega,by(rw[Tab.upto_succ,Em.out];have:=GD.out;simpa using this),yK,Ai⟩
    case measure=>(simp[intOf];omega)
  ·obtain rfl:k=512:=(by omega);go_wp2_with fail;go_end0;exact⟨rfl,X',by rw[GW.out];exact CA.out,wA.trans vQ ((Mod.of vs).trans (Out.refl _ _) xr),vQ.trans (fun b hb=>(wv b hb).imp id (fun h=>vh vs.size h)) vz⟩
theorem rR (t c a root g q:Nat) (bo:Nat)(R:World->List Ev->(Nat->Prop)->Prop) (w:World) (S:Nat->Prop) (p:Pool) (T:Tab) (rest:Nat->Nat) (pg0:Nat) (X:Nat->Prop) (l:List Ev) (h:ai w S a p) (ht:ag w t c a root) (vv:T.Good p rest pg0 4) (hq:T.nd 2 q=some g) (Bz:q<512^(4-2))
  (hv:bd R S t w l X) (hlen:l.length+(T.evs 2 q).length<1000000) (hR:cT R)
  (hn: ∀(w:World) (l:List Ev) (X:Nat->Prop) (f:Nat),bd R S t w l X->l.length<1000000->Calls Tryz.prog 94 (#[.int .i64 (f:Int)]++ #[.pointer (some ⟨bo,0,none⟩)]) w (aF w X R S t (l++[.node f])))
  (hl: ∀(w:World) (l:List Ev) (X:Nat->Prop) (pg:Nat) (y:Leaf),bd R S t w l X->l.length<1000000->Calls Tryz.prog 95 (#[.int .u64 ((pg*4096:Nat):Int), .agg #[.int .i64 (y.frame:Int), .int .u8 (y.prot:Int), .bool y.copy]]++ #[.pointer (some ⟨bo,0,none⟩)]) w (aF w X R S t (l++[.leaf pg y])))
  (fr:Int) (xw:fr=((q*512^2*4096:Nat):Int)):
  Calls Tryz.prog 74 #[.pointer (some ⟨t,0,none⟩), .int .i64 (g:Int), .int .i64 2, .int .u64 fr, .func (.func 94) #[] #[.pointer (some ⟨bo,0,none⟩)], .func (.func 95) #[] #[.pointer (some ⟨bo,0,none⟩)]] w (aF w X R S t (l++T.evs 2 q)):=by
 have zQ:=Tab.evs_node hq;obtain⟨g1,g2⟩:=vv.node hq;have wj:=(vv.but.words 2 q g hq).2;have vA:=vv.but.few;have GW:=uK zQ;have HQ:=uK hq;have HV:=uK hv;have HP:=uK h;have HT:=uK ht;have HN:=uK hn;have Az:=uK hl;have HG:=uK vv;have HW:=uK wj;have yX:=uK xw;have vT:t<w.heap.size:=(uJ ht).1;rw[zQ]at hlen;simp only[uX]at hlen;have xh:=uK hlen;clear zQ hq hv h ht hn hl vv wj xw hlen;go_enter Tryz.func74,Tryz.ntmps74;go_wp2_with fail;refine(HN.out w l X g HV.out (by have:=xh.out;omega)).mono ?_;rintro e w1 ⟨rfl,X1,zo,wA,vQ⟩;have wE:ag w1 t c a root:=(wA.block t vT HV.out.noT).trans HT.out;have yh:ai w1 S a p:=HP.out.mod wA HV.out.apart HV.out.no0;have c1:w1.cell? ⟨t,1,none⟩=some (.pointer (some ⟨a,0,none⟩)):=aa wE 1;have xR:=uK wE;have yF:=uK yh;have yj:=uK zo;clear wE yh zo;go_wp2_with fail;refine(ci a g 0 4096 w1 S p yF.out g1 g2 (by omega) (by omega)).mono ?_;rintro e w2 ⟨rfl,wW,vS,vs⟩;have yd: ∀i,p.dat g i<256:=by
  obtain⟨⟨C,B,F,wd,pt,hi,hS⟩,_,_,_⟩:=yF.out;exact fun i=>hi.small g i
 have vY: ¬X1 w1.heap.size:=fun e=>by have:=yj.out.low _ e;omega
 have Fy:=uK (yj.out.below hR vs);have vz:=wA.size;have xi:=uK wW;clear wW c1;go_wp2_with fail;go_loopw [30] (fun i wr=> ∃(k:Nat) (X':Nat->Prop),i= .int .i64 (k:Int)/\k<=512/\bd R S t wr (l++ .node g::T.upto 1 q k) X'/\Mod X1 w2 wr/\Out X1 X' w2) (fun i _ =>512-(intOf i).toNat)
 case atStart=>exact⟨0,X1,rfl,by omega,by rw[Tab.upto_zero];exact Fy.out,Mod.refl _ _,Out.refl _ _⟩
 case round=>
  obtain⟨k,X',rfl,hk,BR,xr,wv⟩:=hrel;have CA:=uK BR;have OK:=xr.size;clear BR;by_cases vq:k<512
  ·have Cw:aG wr w1.heap.size 4096 (fun i=>p.dat g (0+i)):=(xr.block _ vS vY).trans xi.out;have Cn:ag wr t c a root:=(xr.block t (by omega) yj.out.noT).trans ((vs.block t (by omega)).trans xR.out);have Cp:ai wr S a p:=(yF.out.below vs).mod xr yj.out.apart yj.out.no0;have GF:=uK Cn;have GM:=uK Cp;have xe:l.length+(T.upto 1 q k).length+(T.evs 1 (q*512+k)).length+1<1000000:=by
    have h1:=T.upto_le 1 q (show k+1<=512 by omega);rw[Tab.upto_succ,uP]at h1;have:=xh.out;omega
   have It:q*512+k<512^(4-1):=by
    have h9:=Bz;simp only[Nat.reducePow,Nat.reduceSub]at h9⊢;omega
   have yl:=uK xe;clear Cn Cp xe;go_wp2_with fail;refine(lI (8*k) 4096 4096 w1.heap.size (fun i=>p.dat g (0+i)) wr (by omega) (by omega) Cw (fun i=>yd _) (by omega)).mono ?_;rintro e w3 ⟨rfl,vx⟩;have wZ:cD (fun i=>p.dat g (0+i)) (8*k) 8=T.word 2 q k:=by
    rw[<-HW.out k vq];unfold word;refine bF fun i _ =>?_;rw[Nat.zero_add]
   rw[wZ];have wP:Mod X1 w2 w3:=xr.trans wv (Mod.of vx);have Cz:=uK (CA.out.below hR vx);have By:=uK (GM.out.below vx);have Bw:=uK ((vx.block t (by omega)).trans GF.out);have xI:=vx.size;clear wZ Cw;cases wF:T.nd 1 (q*512+k)with
   |none=>
    have e0:T.word 2 q k=0:=by(unfold Tab.word;rw[if_neg (by omega)];show(match T.nd 1 (q*512+k)with|some f=>f*4096+1|none=>0)=_;rw[wF])
    have AG:=Tab.evs_none wF;have Em:=uK AG;rw[e0];have hz:=bY;clear wF AG;go_wp2_with fail;go_roundw
    case rel=>exact⟨k+1,X',by go_num,by omega,by rw[Tab.upto_succ,Em.out,List.append_nil];exact Cz.out,wP,wv⟩
    case measure=>(simp[intOf];omega)
   |some f=>
    have e0:T.word 2 q k=f*4096+1:=by(unfold Tab.word;rw[if_neg (by omega)];show(match T.nd 1 (q*512+k)with|some f=>f*4096+1|none=>0)=_;rw[wF])
    obtain⟨n1,n2⟩:=HG.out.node wF;obtain⟨x,hx⟩: ∃x,x=f*4096+1:=⟨_,rfl⟩;rw[e0,<-hx];have xg:x<18446744073709551616:=(by omega);have xK:=aL xg (by omega);have xp:((x:Int)/4096)=(f:Int):=(by omega);have yk:=uK xp;have FG:=uK wF;have vW:bits .or .u64 fr ((k:Int)*2097152)=(((q*512+k)*512^1*4096:Nat):Int):=by
     rw[yX.out];have h9:=Bz;simp only[Nat.reducePow,Nat.reduceSub]at h9;have h1:=mR (a:=q) (b:=k*2097152) (i:=30) (by omega) (by omega);have e1:((k:Int)*2097152)=((k*2097152:Nat):Int):=(by omega);rw[e1,show q*512^2*4096=q*2^30 from by omega,h1];exact congrArg _ (by omega)
    have ym:=uK vW;clear wF xp hx e0 vW;go_wp2_with fail;rw[yk.out];refine(rS t c a root f (q*512+k) bo R w3 S p T rest pg0 X' _ By.out Bw.out HG.out FG.out It Cz.out (by have:=yl.out;simp;omega) hR HN.out Az.out _ ym.out).mono ?_;rintro e w5 ⟨rfl,X5,BQ,wy,xW⟩;have Ai:Out X1 X5 w2:=wv.trans xW wP.size;have yK:=wP.trans wv wy;have GD:=uK BQ;clear BQ;go_wp2_with fail;go_roundw
    case rel=>exact⟨k+1,X5,by go_num,by omega,by(rw[Tab.upto_succ];have:=GD.out;simpa using this),yK,Ai⟩
    case measure=>(simp[intOf];omega)
  ·obtain rfl:k=512:=(by omega);go_wp2_with fail;go_end0;exact⟨rfl,X',by rw[GW.out];exact CA.out,wA.trans vQ ((Mod.of vs).trans (Out.refl _ _) xr),vQ.trans (fun b hb=>(wv b hb).imp id (fun h=>vh vs.size h)) vz⟩
theorem rQ (t c a root g q:Nat) (bo:Nat)(R:World->List Ev->(Nat->Prop)->Prop) (w:World) (S:Nat->Prop) (p:Pool) (T:Tab) (rest:Nat->Nat) (pg0:Nat) (X:Nat->Prop) (l:List Ev) (h:ai w S a p) (ht:ag w t c a root) (vv:T.Good p rest pg0 4) (hq:T.nd 3 q=some g) (Bz:q<512^(4-3))
  (hv:bd R S t w l X) (hlen:l.length+(T.evs 3 q).length<1000000) (hR:cT R)
  (hn: ∀(w:World) (l:List Ev) (X:Nat->Prop) (f:Nat),bd R S t w l X->l.length<1000000->Calls Tryz.prog 94 (#[.int .i64 (f:Int)]++ #[.pointer (some ⟨bo,0,none⟩)]) w (aF w X R S t (l++[.node f])))
  (hl: ∀(w:World) (l:List Ev) (X:Nat->Prop) (pg:Nat) (y:Leaf),bd R S t w l X->l.length<1000000->Calls Tryz.prog 95 (#[.int .u64 ((pg*4096:Nat):Int), .agg #[.int .i64 (y.frame:Int), .int .u8 (y.prot:Int), .bool y.copy]]++ #[.pointer (some ⟨bo,0,none⟩)]) w (aF w X R S t (l++[.leaf pg y])))
  (fr:Int) (xw:fr=((q*512^3*4096:Nat):Int)):
  Calls Tryz.prog 74 #[.pointer (some ⟨t,0,none⟩), .int .i64 (g:Int), .int .i64 1, .int .u64 fr, .func (.func 94) #[] #[.pointer (some ⟨bo,0,none⟩)], .func (.func 95) #[] #[.pointer (some ⟨bo,0,none⟩)]] w (aF w X R S t (l++T.evs 3 q)):=by
 have zQ:=Tab.evs_node hq;obtain⟨g1,g2⟩:=vv.node hq;have wj:=(vv.but.words 3 q g hq).2;have vA:=vv.but.few;have GW:=uK zQ;have HQ:=uK hq;have HV:=uK hv;have HP:=uK h;have HT:=uK ht;have HN:=uK hn;have Az:=uK hl;have HG:=uK vv;have HW:=uK wj;have yX:=uK xw;have vT:t<w.heap.size:=(uJ ht).1;rw[zQ]at hlen;simp only[uX]at hlen;have xh:=uK hlen;clear zQ hq hv h ht hn hl vv wj xw hlen;go_enter Tryz.func74,Tryz.ntmps74;go_wp2_with fail;refine(HN.out w l X g HV.out (by have:=xh.out;omega)).mono ?_;rintro e w1 ⟨rfl,X1,zo,wA,vQ⟩;have wE:ag w1 t c a root:=(wA.block t vT HV.out.noT).trans HT.out;have yh:ai w1 S a p:=HP.out.mod wA HV.out.apart HV.out.no0;have c1:w1.cell? ⟨t,1,none⟩=some (.pointer (some ⟨a,0,none⟩)):=aa wE 1;have xR:=uK wE;have yF:=uK yh;have yj:=uK zo;clear wE yh zo;go_wp2_with fail;refine(ci a g 0 4096 w1 S p yF.out g1 g2 (by omega) (by omega)).mono ?_;rintro e w2 ⟨rfl,wW,vS,vs⟩;have yd: ∀i,p.dat g i<256:=by
  obtain⟨⟨C,B,F,wd,pt,hi,hS⟩,_,_,_⟩:=yF.out;exact fun i=>hi.small g i
 have vY: ¬X1 w1.heap.size:=fun e=>by have:=yj.out.low _ e;omega
 have Fy:=uK (yj.out.below hR vs);have vz:=wA.size;have xi:=uK wW;clear wW c1;go_wp2_with fail;go_loopw [30] (fun i wr=> ∃(k:Nat) (X':Nat->Prop),i= .int .i64 (k:Int)/\k<=512/\bd R S t wr (l++ .node g::T.upto 2 q k) X'/\Mod X1 w2 wr/\Out X1 X' w2) (fun i _ =>512-(intOf i).toNat)
 case atStart=>exact⟨0,X1,rfl,by omega,by rw[Tab.upto_zero];exact Fy.out,Mod.refl _ _,Out.refl _ _⟩
 case round=>
  obtain⟨k,X',rfl,hk,BR,xr,wv⟩:=hrel;have CA:=uK BR;have OK:=xr.size;clear BR;by_cases vq:k<512
  ·have Cw:aG wr w1.heap.size 4096 (fun i=>p.dat g (0+i)):=(xr.block _ vS vY).trans xi.out;have Cn:ag wr t c a root:=(xr.block t (by omega) yj.out.noT).trans ((vs.block t (by omega)).trans xR.out);have Cp:ai wr S a p:=(yF.out.below vs).mod xr yj.out.apart yj.out.no0;have GF:=uK Cn;have GM:=uK Cp;have xe:l.length+(T.upto 2 q k).length+(T.evs 2 (q*512+k)).length+1<1000000:=by
    have h1:=T.upto_le 2 q (show k+1<=512 by omega);rw[Tab.upto_succ,uP]at h1;have:=xh.out;omega
   have It:q*512+k<512^(4-2):=by
    have h9:=Bz;simp only[Nat.reducePow,Nat.reduceSub]at h9⊢;omega
   have yl:=uK xe;clear Cn Cp xe;go_wp2_with fail;refine(lI (8*k) 4096 4096 w1.heap.size (fun i=>p.dat g (0+i)) wr (by omega) (by omega) Cw (fun i=>yd _) (by omega)).mono ?_;rintro e w3 ⟨rfl,vx⟩;have wZ:cD (fun i=>p.dat g (0+i)) (8*k) 8=T.word 3 q k:=by
    rw[<-HW.out k vq];unfold word;refine bF fun i _ =>?_;rw[Nat.zero_add]
   rw[wZ];have wP:Mod X1 w2 w3:=xr.trans wv (Mod.of vx);have Cz:=uK (CA.out.below hR vx);have By:=uK (GM.out.below vx);have Bw:=uK ((vx.block t (by omega)).trans GF.out);have xI:=vx.size;clear wZ Cw;cases wF:T.nd 2 (q*512+k)with
   |none=>
    have e0:T.word 3 q k=0:=by(unfold Tab.word;rw[if_neg (by omega)];show(match T.nd 2 (q*512+k)with|some f=>f*4096+1|none=>0)=_;rw[wF])
    have AG:=Tab.evs_none wF;have Em:=uK AG;rw[e0];have hz:=bY;clear wF AG;go_wp2_with fail;go_roundw
    case rel=>exact⟨k+1,X',by go_num,by omega,by rw[Tab.upto_succ,Em.out,List.append_nil];exact Cz.out,wP,wv⟩
    case measure=>(simp[intOf];omega)
   |some f=>
    have e0:T.word 3 q k=f*4096+1:=by(unfold Tab.word;rw[if_neg (by omega)];show(match T.nd 2 (q*512+k)with|some f=>f*4096+1|none=>0)=_;rw[wF])
    obtain⟨n1,n2⟩:=HG.out.node wF;obtain⟨x,hx⟩: ∃x,x=f*4096+1:=⟨_,rfl⟩;rw[e0,<-hx];have xg:x<18446744073709551616:=(by omega);have xK:=aL xg (by omega);have xp:((x:Int)/4096)=(f:Int):=(by omega);have yk:=uK xp;have FG:=uK wF;have vW:bits .or .u64 fr ((k:Int)*1073741824)=(((q*512+k)*512^2*4096:Nat):Int):=by
     rw[yX.out];have h9:=Bz;simp only[Nat.reducePow,Nat.reduceSub]at h9;have h1:=mR (a:=q) (b:=k*1073741824) (i:=39) (by omega) (by omega);have e1:((k:Int)*1073741824)=((k*1073741824:Nat):Int):=(by omega);rw[e1,show q*512^3*4096=q*2^39 from by omega,h1];exact congrArg _ (by omega)
    have ym:=uK vW;clear wF xp hx e0 vW;go_wp2_with fail;rw[yk.out];refine(rR t c a root f (q*512+k) bo R w3 S p T rest pg0 X' _ By.out Bw.out HG.out FG.out It Cz.out (by have:=yl.out;simp;omega) hR HN.out Az.out _ ym.out).mono ?_;rintro e w5 ⟨rfl,X5,BQ,wy,xW⟩;have Ai:Out X1 X5 w2:=wv.trans xW wP.size;have yK:=wP.trans wv wy;have GD:=uK BQ;clear BQ;go_wp2_with fail;go_roundw
    case rel=>exact⟨k+1,X5,by go_num,by omega,by(rw[Tab.upto_succ];have:=GD.out;simpa using this),yK,Ai⟩
    case measure=>(simp[intOf];omega)
  ·obtain rfl:k=512:=(by omega);go_wp2_with fail;go_end0;exact⟨rfl,X',by rw[GW.out];exact CA.out,wA.trans vQ ((Mod.of vs).trans (Out.refl _ _) xr),vQ.trans (fun b hb=>(wv b hb).imp id (fun h=>vh vs.size h)) vz⟩
theorem rP (t c a root g q:Nat) (bo:Nat)(R:World->List Ev->(Nat->Prop)->Prop) (w:World) (S:Nat->Prop) (p:Pool) (T:Tab) (rest:Nat->Nat) (pg0:Nat) (X:Nat->Prop) (l:List Ev) (h:ai w S a p) (ht:ag w t c a root) (vv:T.Good p rest pg0 4) (hq:T.nd 4 q=some g) (Bz:q<512^(4-4))
  (hv:bd R S t w l X) (hlen:l.length+(T.evs 4 q).length<1000000) (hR:cT R)
  (hn: ∀(w:World) (l:List Ev) (X:Nat->Prop) (f:Nat),bd R S t w l X->l.length<1000000->Calls Tryz.prog 94 (#[.int .i64 (f:Int)]++ #[.pointer (some ⟨bo,0,none⟩)]) w (aF w X R S t (l++[.node f])))
  (hl: ∀(w:World) (l:List Ev) (X:Nat->Prop) (pg:Nat) (y:Leaf),bd R S t w l X->l.length<1000000->Calls Tryz.prog 95 (#[.int .u64 ((pg*4096:Nat):Int), .agg #[.int .i64 (y.frame:Int), .int .u8 (y.prot:Int), .bool y.copy]]++ #[.pointer (some ⟨bo,0,none⟩)]) w (aF w X R S t (l++[.leaf pg y])))
  (fr:Int) (xw:fr=((q*512^4*4096:Nat):Int)):
  Calls Tryz.prog 74 #[.pointer (some ⟨t,0,none⟩), .int .i64 (g:Int), .int .i64 0, .int .u64 fr, .func (.func 94) #[] #[.pointer (some ⟨bo,0,none⟩)], .func (.func 95) #[] #[.pointer (some ⟨bo,0,none⟩)]] w (aF w X R S t (l++T.evs 4 q)):=by
 have zQ:=Tab.evs_node hq;obtain⟨g1,g2⟩:=vv.node hq;have wj:=(vv.but.words 4 q g hq).2;have vA:=vv.but.few;have GW:=uK zQ;have HQ:=uK hq;have HV:=uK hv;have HP:=uK h;have HT:=uK ht;have HN:=uK hn;have Az:=uK hl;have HG:=uK vv;have HW:=uK wj;have yX:=uK xw;have vT:t<w.heap.size:=(uJ ht).1;rw[zQ]at hlen;simp only[uX]at hlen;have xh:=uK hlen;clear zQ hq hv h ht hn hl vv wj xw hlen;go_enter Tryz.func74,Tryz.ntmps74;go_wp2_with fail;refine(HN.out w l X g HV.out (by have:=xh.out;omega)).mono ?_;rintro e w1 ⟨rfl,X1,zo,wA,vQ⟩;have wE:ag w1 t c a root:=(wA.block t vT HV.out.noT).trans HT.out;have yh:ai w1 S a p:=HP.out.mod wA HV.out.apart HV.out.no0;have c1:w1.cell? ⟨t,1,none⟩=some (.pointer (some ⟨a,0,none⟩)):=aa wE 1;have xR:=uK wE;have yF:=uK yh;have yj:=uK zo;clear wE yh zo;go_wp2_with fail;refine(ci a g 0 4096 w1 S p yF.out g1 g2 (by omega) (by omega)).mono ?_;rintro e w2 ⟨rfl,wW,vS,vs⟩;have yd: ∀i,p.dat g i<256:=by
  obtain⟨⟨C,B,F,wd,pt,hi,hS⟩,_,_,_⟩:=yF.out;exact fun i=>hi.small g i
 have vY: ¬X1 w1.heap.size:=fun e=>by have:=yj.out.low _ e;omega
 have Fy:=uK (yj.out.below hR vs);have vz:=wA.size;have xi:=uK wW;clear wW c1;go_wp2_with fail;go_loopw [30] (fun i wr=> ∃(k:Nat) (X':Nat->Prop),i= .int .i64 (k:Int)/\k<=512/\bd R S t wr (l++ .node g::T.upto 3 q k) X'/\Mod X1 w2 wr/\Out X1 X' w2) (fun i _ =>512-(intOf i).toNat)
 case atStart=>exact⟨0,X1,rfl,by omega,by rw[Tab.upto_zero];exact Fy.out,Mod.refl _ _,Out.refl _ _⟩
 case round=>
  obtain⟨k,X',rfl,hk,BR,xr,wv⟩:=hrel;have CA:=uK BR;have OK:=xr.size;clear BR;by_cases vq:k<512
  ·have Cw:aG wr w1.heap.size 4096 (fun i=>p.dat g (0+i)):=(xr.block _ vS vY).trans xi.out;have Cn:ag wr t c a root:=(xr.block t (by omega) yj.out.noT).trans ((vs.block t (by omega)).trans xR.out);have Cp:ai wr S a p:=(yF.out.below vs).mod xr yj.out.apart yj.out.no0;have GF:=uK Cn;have GM:=uK Cp;have xe:l.length+(T.upto 3 q k).length+(T.evs 3 (q*512+k)).length+1<1000000:=by
    have h1:=T.upto_le 3 q (show k+1<=512 by omega);rw[Tab.upto_succ,uP]at h1;have:=xh.out;omega
   have It:q*512+k<512^(4-3):=by
    have h9:=Bz;simp only[Nat.reducePow,Nat.reduceSub]at h9⊢;omega
   have yl:=uK xe;clear Cn Cp xe;go_wp2_with fail;refine(lI (8*k) 4096 4096 w1.heap.size (fun i=>p.dat g (0+i)) wr (by omega) (by omega) Cw (fun i=>yd _) (by omega)).mono ?_;rintro e w3 ⟨rfl,vx⟩;have wZ:cD (fun i=>p.dat g (0+i)) (8*k) 8=T.word 4 q k:=by
    rw[<-HW.out k vq];unfold word;refine bF fun i _ =>?_;rw[Nat.zero_add]
   rw[wZ];have wP:Mod X1 w2 w3:=xr.trans wv (Mod.of vx);have Cz:=uK (CA.out.below hR vx);have By:=uK (GM.out.below vx);have Bw:=uK ((vx.block t (by omega)).trans GF.out);have xI:=vx.size;clear wZ Cw;cases wF:T.nd 3 (q*512+k)with
   |none=>
    have e0:T.word 4 q k=0:=by(unfold Tab.word;rw[if_neg (by omega)];show(match T.nd 3 (q*512+k)with|some f=>f*4096+1|none=>0)=_;rw[wF])
    have AG:=Tab.evs_none wF;have Em:=uK AG;rw[e0];have hz:=bY;clear wF AG;go_wp2_with fail;go_roundw
    case rel=>exact⟨k+1,X',by go_num,by omega,by rw[Tab.upto_succ,Em.out,List.append_nil];exact Cz.out,wP,wv⟩
    case measure=>(simp[intOf];omega)
   |some f=>
    have e0:T.word 4 q k=f*4096+1:=by(unfold Tab.word;rw[if_neg (by omega)];show(match T.nd 3 (q*512+k)with|some f=>f*4096+1|none=>0)=_;rw[wF])
    obtain⟨n1,n2⟩:=HG.out.node wF;obtain⟨x,hx⟩: ∃x,x=f*4096+1:=⟨_,rfl⟩;rw[e0,<-hx];have xg:x<18446744073709551616:=(by omega);have xK:=aL xg (by omega);have xp:((x:Int)/4096)=(f:Int):=(by omega);have yk:=uK xp;have FG:=uK wF;have vW:bits .or .u64 fr ((k:Int)*549755813888)=(((q*512+k)*512^3*4096:Nat):Int):=by
     rw[yX.out];have h9:=Bz;simp only[Nat.reducePow,Nat.reduceSub]at h9;have h1:=mR (a:=q) (b:=k*549755813888) (i:=48) (by omega) (by omega);have e1:((k:Int)*549755813888)=((k*549755813888:Nat):Int):=(by omega);rw[e1,show q*512^4*4096=q*2^48 from by omega,h1];exact congrArg _ (by omega)
    have ym:=uK vW;clear wF xp hx e0 vW;go_wp2_with fail;rw[yk.out];refine(rQ t c a root f (q*512+k) bo R w3 S p T rest pg0 X' _ By.out Bw.out HG.out FG.out It Cz.out (by have:=yl.out;simp;omega) hR HN.out Az.out _ ym.out).mono ?_;rintro e w5 ⟨rfl,X5,BQ,wy,xW⟩;have Ai:Out X1 X5 w2:=wv.trans xW wP.size;have yK:=wP.trans wv wy;have GD:=uK BQ;clear BQ;go_wp2_with fail;go_roundw
    case rel=>exact⟨k+1,X5,by go_num,by omega,by(rw[Tab.upto_succ];have:=GD.out;simpa using this),yK,Ai⟩
    case measure=>(simp[intOf];omega)
  ·obtain rfl:k=512:=(by omega);go_wp2_with fail;go_end0;exact⟨rfl,X',by rw[GW.out];exact CA.out,wA.trans vQ ((Mod.of vs).trans (Out.refl _ _) xr),vQ.trans (fun b hb=>(wv b hb).imp id (fun h=>vh vs.size h)) vz⟩
end
section
open Go.RowKit
theorem cP {α:Type} {F:Ev->List α} (hF: ∀e,(F e).length<=1) (l:List Ev):(l.flatMap F).length<=l.length:=by
 induction l with
 |nil=>simp
 |cons e l ih=>rw[vi,uP,uX];have:=hF e;omega
variable {w:World}
theorem app_put {ops:Array Oper} {rest:List Oper} {o:Oper} {a:Act} {Q:Exit->Act->World->Prop} (yH:o.guard=none) (s x:Operand)
  (ho:o.op= .call { callee:= .builtin .append,args:= #[s,x],argTypes:= #[80,80]})
  (base:Nat) (A:Option Addr) (cap:Nat) (l:List (Nat×Leaf)) (hs:a.eval s= .slice A l.length cap) (vH:OwnP w base A cap l)
  (r:Nat×Leaf) (b c:Nat) (hx:a.eval x= .slice (some ⟨b,0,none⟩) 1 c) (hb:w.heap[b]? =some (.cells #[.int .u64 ((r.1*4096:Nat):Int), .int .i64 (r.2.frame:Int), .int .u8 (r.2.prot:Int), .bool r.2.copy] 85 (0,0)))
  (vA:l.length<1000000) (vK:base<=w.heap.size)
  (h: ∀g vk w',OwnP w' base (some ⟨g,0,none⟩) vk (l++[r])->w.grownBy w' (A.map (·.block))->(A.map (·.block)=some g\/g=w.heap.size)->g<w'.heap.size->wpList Tryz.prog ops Q rest (a.put o.dst (.slice (some ⟨g,0,none⟩) (l.length+1) vk)) w'):
  wpList Tryz.prog ops Q (o::rest) a w:=by
 obtain⟨i0,yn,wb,vz,vS⟩:=info_parts put_info;refine wpList_append_lies w yH s x 80 ho base 85 i0 _ 4 24 Tryz.underlying80 yn wb vz vS rfl (by omega) _ l.length (l.flatMap pc) hs vH ⟨b,0,none⟩ 1 c (pc r) hx rfl (World.news_of_block (cs:= #[.int .u64 ((r.1*4096:Nat):Int), .int .i64 (r.2.frame:Int), .int .u8 (r.2.prot:Int), .bool r.2.copy]) hb)
  (by simp[pc,Value.oneCell']) (by omega) (by unfold maxLen;omega) (by omega) vK w.heap.size rfl ?_
 intro g vk w' wv hg wU vq;refine h g vk w' ?_ ?_ ?_ vq
 ·unfold OwnP;rw[List.flatMap_append,uP];simpa [pc]using wv
 ·cases A<;>simpa [Value.ownBlock]using hg
 ·cases A<;>simpa [Value.ownBlock]using wU
theorem Pick.cell {α:Type} {l:List α} {w0 w1:World} {base bo n cap:Nat} {A:Option Addr} {ty:TypeId} (hF:(A=none/\l=[]/\cap=0)\/ ∃g,A=some ⟨g,0,none⟩/\base<=g/\g<w.heap.size/\l.length<=cap) (Zl: ∀g,A=some ⟨g,0,none⟩->g≠bo)
  (hB:w.heap[bo]? =some (.cells #[.slice A n cap] ty (0,0))) (hb:Below w.heap.size w w0) (hg:w0.grownBy w1 (A.map (·.block))):w1.heap[bo]? =some (.cells #[.slice A n cap] ty (0,0)):=by
 have zm:=(uJ hB).1;refine(hg.block bo (uR zm hb.size) fun e=>?_).trans ((hb.block bo zm).trans hB);rcases hF with⟨e',_⟩|⟨g',e',_,_,_⟩
 ·rw[e']at e;cases e
 ·rw[e']at e;exact Zl g' e' (by simpa using e.symm)
theorem bq {b:Nat} {x y:Value} {t:TypeId} (h:w.heap[b]? =some (.cells #[x] t (0,0))):(w.setCell ⟨b,0,none⟩ y).heap[b]? =some (.cells #[y] t (0,0)):=by
 have h1:=Joins.block_setCell (i:=0) h y;simpa using h1
structure nQ (S:Nat->Prop) (t base bo:Nat):Prop where
 low: ∀b,S b->b<base
 tab:t<base
 pos:0<base
 box:base<=bo
theorem all1_any (ty:TypeId) (base bo t:Nat) (S:Nat->Prop) (w:World) (l:List Ev) (X:Nat->Prop) (f:Nat) (hv:bd (Pick OwnP ty Ev.ls base bo) S t w l X):
  Calls Tryz.prog 75 (#[.int .i64 (f:Int)]++ #[]) w (aF w X (Pick OwnP ty Ev.ls base bo) S t (l++[.node f])):=by
 have hp:=Pick.pass hv (e:= .node f) rfl;have HP:=uK hp;clear hv hp;go_enter Tryz.func75,Tryz.ntmps75;go_wp2_with fail;go_end0;exact HP.out
theorem tz (base bo t:Nat) (S:Nat->Prop) (hp:nQ S t base bo) (w:World) (l:List Ev) (X:Nat->Prop) (f:Nat)
  (hv:bd (Pick OwnN 131 Ev.fs base bo) S t w l X) (vA:l.length<1000000):
  Calls Tryz.prog 94 (#[.int .i64 (f:Int)]++ #[.pointer (some ⟨bo,0,none⟩)]) w (aF w X (Pick OwnN 131 Ev.fs base bo) S t (l++[.node f])):=by
 obtain⟨A,cap,hO,hB,ED,hX⟩:=hv.rel;have hlen:=cP (F:=Ev.fs) (fun e=>by cases e<;>simp[Ev.fs]) l;have xt:=gB.form hO;have zm:bo<w.heap.size:=(uJ hB).1;have c0:w.cell? ⟨bo,0,none⟩=some (.slice A (l.flatMap Ev.fs).length cap):=aa hB 0;have f0:w.frozen? ⟨bo,0,none⟩=false:=ae hB 0;obtain⟨L,hL⟩: ∃L,L=l.flatMap Ev.fs:=⟨_,rfl⟩;rw[<-hL]at hlen c0;have HV:=uK hv;have HO:=uK hO;have HB:=uK hB;have HX:=uK hX;have Jb:=uK ED;have HF:=uK xt;have HL:=uK hL;clear hv hO hB hX ED xt hL;have yN:=hp.box;have xZ:=uK ((vj w.heap.size w).alloc (uN _) (.cells #[.int .i64 (f:Int)] 3));go_enter Tryz.func94,Tryz.ntmps94;go_wp2_with (first
  |(at_builtin;refine pk rfl (.tmp 3) (.tmp 5) rfl base A cap L rfl ((HL.out▸HO.out:OwnN w base A cap L).alloc _) f w.heap.size 1 rfl (ab _ _) (by omega) (by simp;omega) ?_;intro g vk w1 ho hg wU vq;have wW:=Pick.cell HF.out Jb.out HB.out xZ.out hg;rw[<-HL.out]at wW;have c1:w1.cell? ⟨bo,0,none⟩=some (.slice A L.length cap):=aa wW 0;have f1:w1.frozen? ⟨bo,0,none⟩=false:=ae wW 0;have vF:=uK ho;have HG:=uK hg;have EG:=uK wU;have xi:=uK wW;clear ho hg wU wW)
  |fail)
 go_end0;exact Pick.more gB HV.out (x:=f) rfl HX.out HO.out xZ.out HG.out EG.out vq (HL.out▸vF.out) Jb.out zm hp.low hp.tab hp.pos (by rw[uP,<-HL.out];exact bq xi.out) (al (S:=fun b=>b=bo) (b:=bo) rfl 0 _) (by simp)
theorem tx (base bo t:Nat) (S:Nat->Prop) (hp:nQ S t base bo) (w:World) (l:List Ev) (X:Nat->Prop) (pg:Nat) (y:Leaf)
  (hv:bd (Pick OwnN 131 Ev.fs base bo) S t w l X) (vA:l.length<1000000):
  Calls Tryz.prog 95 (#[.int .u64 ((pg*4096:Nat):Int), .agg #[.int .i64 (y.frame:Int), .int .u8 (y.prot:Int), .bool y.copy]]++ #[.pointer (some ⟨bo,0,none⟩)]) w (aF w X (Pick OwnN 131 Ev.fs base bo) S t (l++[.leaf pg y])):=by
 obtain⟨A,cap,hO,hB,ED,hX⟩:=hv.rel;have hlen:=cP (F:=Ev.fs) (fun e=>by cases e<;>simp[Ev.fs]) l;have xt:=gB.form hO;have zm:bo<w.heap.size:=(uJ hB).1;have c0:w.cell? ⟨bo,0,none⟩=some (.slice A (l.flatMap Ev.fs).length cap):=aa hB 0;have f0:w.frozen? ⟨bo,0,none⟩=false:=ae hB 0;obtain⟨L,hL⟩: ∃L,L=l.flatMap Ev.fs:=⟨_,rfl⟩;rw[<-hL]at hlen c0;have HV:=uK hv;have HO:=uK hO;have HB:=uK hB;have HX:=uK hX;have Jb:=uK ED;have HF:=uK xt;have HL:=uK hL;clear hv hO hB hX ED xt hL;have yN:=hp.box;obtain⟨w0,vo⟩: ∃w0,w0=w.alloc (.cells #[.int .i64 (y.frame:Int), .int .u8 (y.prot:Int), .bool y.copy] 83):=⟨_,rfl⟩;have vp:Below w.heap.size w w0:=(by rw[vo];exact uM);have AJ:w0.heap[w.heap.size]? =some (.cells #[.int .i64 (y.frame:Int), .int .u8 (y.prot:Int), .bool y.copy] 83 (0,0)):=(by rw[vo];exact ab _ _);have d0:w0.cell? ⟨w.heap.size,0,none⟩=some (.int .i64 (y.frame:Int)):=aa AJ 0;have c0':w0.cell? ⟨bo,0,none⟩=some (.slice A L.length cap):=(vp.cell zm).trans c0;have f0':w0.frozen? ⟨bo,0,none⟩=false:=(vp.frozen zm).trans f0;have wb:=vp.size;have xZ:=uK (vp.alloc vp.size (.cells #[.int .i64 (y.frame:Int)] 3));have AP:OwnN w0 base A cap L:=(HL.out▸HO.out:OwnN w base A cap L).below vp (uN _);have FU:=uK AP;have vR:=uK vo;clear vo AP c0 f0 AJ vp;go_enter Tryz.func95,Tryz.ntmps95;go_upto_region 1 with(fail);rw[<-vR.out];go_wp2_with (first
  |(at_builtin;refine pk rfl (.tmp 5) (.tmp 8) rfl base A cap L rfl (FU.out.alloc _) y.frame w0.heap.size 1 rfl (ab _ _) (by omega) (by simp;omega) ?_;intro g vk w1 ho hg wU vq;have wW:=Pick.cell HF.out Jb.out HB.out xZ.out hg;rw[<-HL.out]at wW;have c1:w1.cell? ⟨bo,0,none⟩=some (.slice A L.length cap):=aa wW 0;have f1:w1.frozen? ⟨bo,0,none⟩=false:=ae wW 0;have vF:=uK ho;have HG:=uK hg;have EG:=uK wU;have xi:=uK wW;clear ho hg wU wW)
  |fail)
 go_end0;exact Pick.more gB HV.out (x:=y.frame) rfl HX.out HO.out xZ.out HG.out EG.out vq (HL.out▸vF.out) Jb.out zm hp.low hp.tab hp.pos (by rw[uP,<-HL.out];exact bq xi.out) (al (S:=fun b=>b=bo) (b:=bo) rfl 0 _) (by simp)
theorem all2_any (base bo t:Nat) (S:Nat->Prop) (hp:nQ S t base bo) (w:World) (l:List Ev) (X:Nat->Prop) (pg:Nat) (y:Leaf)
  (hv:bd (Pick OwnP 80 Ev.ls base bo) S t w l X) (vA:l.length<1000000):
  Calls Tryz.prog 76 (#[.int .u64 ((pg*4096:Nat):Int), .agg #[.int .i64 (y.frame:Int), .int .u8 (y.prot:Int), .bool y.copy]]++ #[.pointer (some ⟨bo,0,none⟩)]) w (aF w X (Pick OwnP 80 Ev.ls base bo) S t (l++[.leaf pg y])):=by
 obtain⟨A,cap,hO,hB,ED,hX⟩:=hv.rel;have hlen:=cP (F:=Ev.ls) (fun e=>by cases e<;>simp[Ev.ls]) l;have xt:=dL.form hO;have zm:bo<w.heap.size:=(uJ hB).1;have c0:w.cell? ⟨bo,0,none⟩=some (.slice A (l.flatMap Ev.ls).length cap):=aa hB 0;have f0:w.frozen? ⟨bo,0,none⟩=false:=ae hB 0;obtain⟨L,hL⟩: ∃L,L=l.flatMap Ev.ls:=⟨_,rfl⟩;rw[<-hL]at hlen c0;have HV:=uK hv;have HO:=uK hO;have HB:=uK hB;have HX:=uK hX;have Jb:=uK ED;have HF:=uK xt;have HL:=uK hL;clear hv hO hB hX ED xt hL;have yN:=hp.box;obtain⟨w0,vo⟩: ∃w0,w0=w.alloc (.cells #[.int .i64 (y.frame:Int), .int .u8 (y.prot:Int), .bool y.copy] 83):=⟨_,rfl⟩;have vp:Below w.heap.size w w0:=(by rw[vo];exact uM);have AJ:w0.heap[w.heap.size]? =some (.cells #[.int .i64 (y.frame:Int), .int .u8 (y.prot:Int), .bool y.copy] 83 (0,0)):=(by rw[vo];exact ab _ _);have d0:w0.cell? ⟨w.heap.size,0,none⟩=some (.int .i64 (y.frame:Int)):=aa AJ 0;have d1:w0.cell? ⟨w.heap.size,1,none⟩=some (.int .u8 (y.prot:Int)):=aa AJ 1;have d2:w0.cell? ⟨w.heap.size,2,none⟩=some (.bool y.copy):=aa AJ 2;have c0':w0.cell? ⟨bo,0,none⟩=some (.slice A L.length cap):=(vp.cell zm).trans c0;have f0':w0.frozen? ⟨bo,0,none⟩=false:=(vp.frozen zm).trans f0;have wb:=vp.size;have xZ:=uK (vp.alloc vp.size (.cells #[.int .u64 ((pg*4096:Nat):Int), .int .i64 (y.frame:Int), .int .u8 (y.prot:Int), .bool y.copy] 85));have AP:OwnP w0 base A cap L:=dL.same (HL.out▸HO.out:OwnP w base A cap L) (fun g hg=>vp.block g (by
  rcases HF.out with⟨e,_⟩|⟨g',e,_,vq,_⟩
  ·rw[e]at hg;cases hg
  ·rw[e]at hg;injection hg with hg;injection hg with hg;omega))
 have FU:=uK AP;have vR:=uK vo;clear vo AP c0 f0 AJ vp;go_enter Tryz.func76,Tryz.ntmps76;go_upto_region 1 with(fail);rw[<-vR.out];go_wp2_with (first
  |(at_builtin;refine app_put rfl (.tmp 5) (.tmp 9) rfl base A cap L rfl (dL.same FU.out (fun g hg=>uO _ _ _ (by
    rcases dL.form FU.out with⟨e,_⟩|⟨g',e,_,vq,_⟩
    ·rw[e]at hg;cases hg
    ·rw[e]at hg;injection hg with hg;injection hg with hg;omega))) (pg,y) w0.heap.size 1 rfl (ab _ _) (by omega) (by simp;omega) ?_;intro g vk w1 ho hg wU vq;have wW:=Pick.cell HF.out Jb.out HB.out xZ.out hg;rw[<-HL.out]at wW;have c1:w1.cell? ⟨bo,0,none⟩=some (.slice A L.length cap):=aa wW 0;have f1:w1.frozen? ⟨bo,0,none⟩=false:=ae wW 0;have vF:=uK ho;have HG:=uK hg;have EG:=uK wU;have xi:=uK wW;clear ho hg wU wW)
  |fail)
 go_end0;exact Pick.more dL HV.out (x:=(pg,y)) rfl HX.out HO.out xZ.out HG.out EG.out vq (HL.out▸vF.out) Jb.out zm hp.low hp.tab hp.pos (by rw[uP,<-HL.out];exact bq xi.out) (al (S:=fun b=>b=bo) (b:=bo) rfl 0 _) (by simp)
end
section
open Go.RowKit Go.Sort
def uw {α:Type} (Own:World->Nat->Option Addr->Nat->List α->Prop) (w:World) (l:List α) (e:Ending) (w':World):Prop:= ∃A cap,e= .returned (.slice A l.length cap)/\Own w' w.heap.size A cap l/\Below w.heap.size w w'
theorem Pick.end {α:Type} {Own:World->Nat->Option Addr->Nat->List α->Prop} {ty:TypeId} {F:Ev->List α} {w w0 w1:World} {S X0:Nat->Prop} {t:Nat} {l:List Ev} {bo:Nat} (hbo:bo=w.heap.size) (vp:Below w.heap.size w w0) (hX: ∀b,X0 b->b=bo) {X1:Nat->Prop} (hv:bd (Pick Own ty F w.heap.size bo) S t w1 l X1) (hm:Mod X0 w0 w1):
  ∃A cap,w1.cell? ⟨bo,0,none⟩=some (.slice A (l.flatMap F).length cap)/\Own w1 w.heap.size A cap (l.flatMap F)/\Below w.heap.size w w1:=by
 obtain⟨A,cap,h1,h2,h3,h4⟩:=hv.rel;refine⟨A,cap,aa h2 0,h1,?_⟩;exact((Mod.of vp).trans (Out.refl _ _) (hm.sub fun b hb=>by have:=hX b hb;omega)).below (S:=fun b=>b=bo) (fun b hb=>by omega) (uN _)
theorem pH (t c a root:Nat) (w:World) (S:Nat->Prop) (p:Pool) (T:Tab) (rest:Nat->Nat) (pg0:Nat) (h:ai w S a p) (ht:ag w t c a root) (hg:T.Good p rest pg0 4) (hr:T.nd 4 0=some root):
  Calls Tryz.prog 34 #[.pointer (some ⟨t,0,none⟩)] w (uw OwnP w ((T.evs 4 0).flatMap Ev.ls)):=by
 have vT:t<w.heap.size:=(uJ ht).1;have vX:=h.pos;have vU:=h.low;have yE:=hg.ok.short;obtain⟨w0,vo⟩: ∃w0,w0=w.alloc (.cells #[.slice none 0 0] 80):=⟨_,rfl⟩;have vp:Below w.heap.size w w0:=(by rw[vo];exact uM);have vM:w0.heap[w.heap.size]? =some (.cells #[.slice none 0 0] 80 (0,0)):=(by rw[vo];exact ab _ _);have wN:ag w0 t c a root:=(vp.block t vT).trans ht;have c2:w0.cell? ⟨t,2,none⟩=some (.int .i64 (root:Int)):=aa wN 2;have hp:nQ S t w.heap.size w.heap.size:=⟨vU,vT,vX,uN _⟩;have Is:=vis_all4 t c a root root 0 w.heap.size (Pick OwnP 80 Ev.ls w.heap.size w.heap.size) w0 S p T rest pg0 (fun b=>b=w.heap.size) [] (h.below vp) wN hg hr (by decide) (Pick.start (World.ownsRow_nil _ _ _ 4) vM (fun b hb=>by have:=vU b hb;omega) (by omega) (by omega)) (by simp;omega) (Pick.stays dL)
  (fun w l X f hv hl=>all1_any _ _ _ _ S w l X f hv) (fun w l X pg y hv hl=>all2_any _ _ _ S hp w l X pg y hv hl) 0 (by simp)
 have HT:=uK ht;have HV:=uK Is;have vR:=uK vo;have HB:=uK vp;clear ht h hg hr Is vo vp wN vM hp vU;go_enter Tryz.func34,Tryz.ntmps34;go_wp2_with fail;refine(cy t c a root _ HT.out).mono ?_;rintro e w1 ⟨rfl,rfl⟩;go_upto_region 4 with(fail);rw[<-vR.out];go_wp2_with fail;refine HV.out.mono ?_;rintro e w1 ⟨rfl,X1,zo,wA,vQ⟩;obtain⟨A,cap,d1,wO,BE⟩:=Pick.end rfl HB.out (fun b hb=>hb) zo wA;rw[List.nil_append]at d1 wO;have vF:=uK wO;obtain⟨n,hn⟩: ∃n,n=((T.evs 4 0).flatMap Ev.ls).length:=⟨_,rfl⟩;rw[<-hn]at d1;have HN:=uK hn;clear zo wA vQ wO hn;go_wp2_with fail;go_ret;exact⟨A,cap,(by rw[<-HN.out];rfl),vF.out,BE⟩
end
section
open Go.RowKit Go.Sort
def cm (p:Pool) (L:List Nat):Pool:=L.foldl Pool.down p
theorem iw (p:Pool) (L:List Nat):(cm p L).n=p.n:=by
 induction L generalizing p with
 |nil=>rfl
 |cons f L ih=>exact ih (p.down f)
theorem ez (p:Pool) (L:List Nat):(cm p L).dat=p.dat:=by
 induction L generalizing p with
 |nil=>rfl
 |cons f L ih=>exact ih (p.down f)
theorem nA (p:Pool) (L:List Nat) (f:Nat):(cm p L).cnt f=p.cnt f-L.count f:=by
 induction L generalizing p with
 |nil=>rfl
 |cons g L ih=>
  show(cm (p.down g) L).cnt f=_;rw[ih,List.count_cons];show upd p.cnt g (p.cnt g-1) f-_ =_;by_cases c:f=g
  ·subst c;rw[af];simp;omega
  ·rw[ah _ _ c];have:(g==f)=false:=(by simpa using fun e=>c e.symm);simp[this]
theorem rt (p:Pool) (L:List Nat) (f:Nat):cm p (L++[f])=(cm p L).down f:=by
 unfold cm;rw[List.foldl_append];rfl
variable {k:Nat}
theorem gw {α:Type} {L:List α} {x:α} (h:L[k]? =some x):L.take (k+1)=L.take k++[x]:=by
 rw[List.take_add_one,h];rfl
theorem lZ {L:List Nat} {f:Nat} (h:L[k]? =some f):(L.take k).count f+1<=L.count f:=by
 have h1:(L.take (k+1)).count f<=L.count f:=(List.take_sublist _ _).count_le f;rw[gw h,List.count_append]at h1;simpa using h1
def FreePost (w:World) (S:Nat->Prop) (t a:Nat) (p:Pool) (L:List Nat) (e:Ending) (w':World):Prop:=
 e= .returned (.tuple #[])/\ai w' S a (cm p L)/\Mod (fun b=>S b\/b=t) w w'/\w'.cell? ⟨t,1,none⟩=some (.pointer none)
theorem mx (t c a root:Nat) (w:World) (S:Nat->Prop) (p:Pool) (T:Tab) (rest:Nat->Nat) (pg0:Nat) (h:ai w S a p) (ht:ag w t c a root) (ze: ¬S t) (Rm:t≠0) (hg:T.Good p rest pg0 4) (hr:T.nd 4 0=some root):
  Calls Tryz.prog 58 #[.pointer (some ⟨t,0,none⟩)] w (FreePost w S t a p ((T.evs 4 0).flatMap Ev.fs)):=by
 have vT:t<w.heap.size:=(uJ ht).1;have vX:=h.pos;have vU:=h.low;have yE:=hg.ok.short;have Gr: ∀f,f<p.n->((T.evs 4 0).flatMap Ev.fs).count f<=p.cnt f:=fun f hf=>by rw[hg.ok.frames_cnt,hg.cnt f hf];omega
 have wz: ∀f,f∈(T.evs 4 0).flatMap Ev.fs->f<p.n:=by
  intro f hf;have h1:=List.count_pos_iff.2 hf;rw[hg.ok.frames_cnt]at h1;by_cases c:an T f
  ·obtain⟨l,q,hl⟩:=c;exact(hg.node hl).1
  ·rw[aH c]at h1;have h2:0<aj T f:=(by omega);by_cases c9: ∃i,i<bM/\cI T f i=true
   ·obtain⟨i,_,hi⟩:=c9;unfold cI at hi;cases hl:T.lf i with
    |none=>rw[hl]at hi;cases hi
    |some l=>
     rw[hl]at hi;have e:l.frame=f:=(by simpa using hi);rw[<-e];exact(hg.but.leaf _ l hl).2.2
   ·have:aj T f=0:=eB.2 fun i hi=>by
     by_cases c8:cI T f i=true
     ·exact absurd ⟨i,hi,c8⟩ c9
     ·simpa using c8
    omega
 obtain⟨w0,vo⟩: ∃w0,w0=w.alloc (.cells #[.slice none 0 0] 131):=⟨_,rfl⟩;have vp:Below w.heap.size w w0:=(by rw[vo];exact uM);have vM:w0.heap[w.heap.size]? =some (.cells #[.slice none 0 0] 131 (0,0)):=(by rw[vo];exact ab _ _);have wN:ag w0 t c a root:=(vp.block t vT).trans ht;have c2:w0.cell? ⟨t,2,none⟩=some (.int .i64 (root:Int)):=aa wN 2;have hp:nQ S t w.heap.size w.heap.size:=⟨vU,vT,vX,uN _⟩;have Is:=rP t c a root root 0 w.heap.size (Pick OwnN 131 Ev.fs w.heap.size w.heap.size) w0 S p T rest pg0 (fun b=>b=w.heap.size) [] (h.below vp) wN hg hr (by decide) (Pick.start (OwnN.nil _ _) vM (fun b hb=>by have:=vU b hb;omega) (by omega) (by omega)) (by simp;omega) (Pick.stays gB)
  (fun w l X f hv hl=>tz _ _ _ S hp w l X f hv hl) (fun w l X pg y hv hl=>tx _ _ _ S hp w l X pg y hv hl) 0 (by simp)
 rw[List.nil_append]at Is;have hlen:=cP (F:=Ev.fs) (fun e=>by cases e<;>simp[Ev.fs]) (T.evs 4 0);obtain⟨L,hL⟩: ∃L,L=(T.evs 4 0).flatMap Ev.fs:=⟨_,rfl⟩;obtain⟨n,hn⟩: ∃n,n=L.length:=⟨_,rfl⟩;rw[<-hL]at Gr wz hlen⊢;have HT:=uK ht;have HV:=uK Is;have vR:=uK vo;have HB:=uK vp;have HP:=uK h;have HL:=uK hL;have HN:=uK hn;have QU:=uK Gr;have xU:=uK wz;rw[<-hn]at hlen;clear ht h hg hr Is vo vp wN vM hp hL hn Gr wz;go_enter Tryz.func58,Tryz.ntmps58;go_wp2_with fail;refine(cy t c a root _ HT.out).mono ?_;rintro e w1 ⟨rfl,rfl⟩;go_upto_region 2 with(fail);rw[<-vR.out];go_wp2_with fail;refine HV.out.mono ?_;rintro e w1 ⟨rfl,X1,zo,wA,vQ⟩;obtain⟨A,cap,d1,wO,BE⟩:=Pick.end rfl HB.out (fun b hb=>hb) zo wA;rw[<-HL.out]at d1 wO;rw[<-HN.out]at d1;have vF:=uK wO;have vu:=uK BE;have vz:=BE.size;clear zo wA vQ wO;go_wp2_with fail;go_loopw [17] (fun i wr=> ∃(k:Nat),i= .int .i64 (k:Int)/\k<=n/\ai wr S a (cm p (L.take k))/\Mod S w1 wr) (fun i _ =>n-(intOf i).toNat)
 case atStart=>exact⟨0,rfl,by omega,HP.out.below vu.out,Mod.refl _ _⟩
 case round=>
  obtain⟨k,rfl,hk,Mb,Hj⟩:=hrel;have WR:=uK Mb;have ZS:=uK Hj;have hzk:=Hj.size;have WH:ag wr t c a root:=(Hj.block t (by omega) ze).trans ((vu.out.block t vT).trans HT.out);have d2:wr.cell? ⟨t,1,none⟩=some (.pointer (some ⟨a,0,none⟩)):=aa WH 1;have d3:wr.frozen? ⟨t,1,none⟩=false:=ae WH 1;have Jm:=uK WH;clear Mb Hj WH d1;by_cases vq:k<n
  ·obtain⟨f,hf⟩: ∃f,L[k]? =some f:=⟨L[k]'(by rw[<-HN.out];exact vq),uQ _⟩;have PH:f∈L:=uV hf;have Dy:=xU.out f PH;have xY:=QU.out f Dy;have Am:=lZ hf;have YF:=nA p (L.take k) f;have Cg:1<=(cm p (L.take k)).cnt f:=(by omega);have EX:f<(cm p (L.take k)).n:=(by rw[iw];exact Dy);rcases OwnN.form vF.out with⟨_,e,_⟩|⟨g,e,hbg,Ho,_⟩
   ·rw[e]at hf;cases hf
   have hgS: ¬S g:=fun e'=>by have:=vU g e';omega
   have YY:OwnN wr w.heap.size A cap L:=vF.out.same fun g' e'=>by
    rw[e]at e';injection e' with e';injection e' with e';subst e';exact ZS.out.block g Ho hgS
   rw[e]at YY;have d4:=YY.elem hf;subst e;have HF:=uK hf;have BG:=uK Cg;have ZP:=uK EX;clear hf PH Dy xY Am YF Cg EX YY;go_wp2_with fail;refine(cj a f _ S _ WR.out ZP.out BG.out).mono ?_;rintro e w2 ⟨rfl,hp2,vE⟩;have Ig:=uK hp2;have FC:=uK vE;clear hp2 vE;go_wp2_with fail;go_roundw
   case rel=>exact⟨k+1,by go_num,by omega,by rw[gw HF.out,rt];exact Ig.out,ZS.out.trans (Out.refl _ _) FC.out⟩
   case measure=>(simp[intOf];omega)
  ·obtain rfl:k=n:=(by omega);go_wp2_with fail;go_end0;have wY:L.take k=L:=List.take_of_length_le (by rw[<-HN.out];exact uN _);have Mb:=WR.out;rw[wY]at Mb;refine⟨rfl,Mb.mod (al (S:=fun b=>b=t) rfl 1 _) (fun b hb e=>ze (e▸hb)) (fun e=>Rm e.symm),?_,?_⟩
   ·exact((Mod.of vu.out).trans (Out.refl _ _) (ZS.out.sub fun b hb=> .inl hb)).trans (Out.refl _ _) (al (S:=fun b=>S b\/b=t) (.inr rfl) 1 _)
   ·exact aa (Joins.block_setCell (i:=1) Jm.out (.pointer none)) 1
end
