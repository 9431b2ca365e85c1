/- Spaces: load. -/
import Derived.Test.YtoochjhipmpehaaGreatDoorSpFK
import Derived.Test.YtoochjhipmpehaaGreatDoorSpHK
import Derived.Sort.CutIn
set_option linter.unusedVariables false
set_option linter.unusedSimpArgs false
set_option maxRecDepth 100000
set_option maxHeartbeats 8000000
namespace Go.Proofs.YtoochjhipmpehaaGreatDoor
section
open Go.RowKit Go.Sort
attribute [local go_sem] Oper.semAt_some
section
variable {w W W':World} {G K:Nat->Prop} {B c a fs m s t root:Nat} {A:Option Addr} {n cap:Nat} {rl:List Reg} {S0 S S':Nat->Prop} {F:List Nd} {clock vB:Int} {p p':Pool} {L L':List Slot}
theorem Run.grow {X:Nat->Prop} (h:Run w W G K B c a fs m s t root A n cap rl S0 S F clock p L) (hm:Mod X W W') (hX: ∀b,X b->K b):Run w W' G (fun b=>K b\/(W.heap.size<=b/\b<W'.heap.size)) B c a fs m s t root A n cap rl S0 S F clock p L:=by
 have h2:=h.set hm hX;refine⟨h2.home,h2.one,h2.mod,h2.out,h2.foot,h2.low,fun b hb=>?_,fun ad e hk=>?_⟩
 ·rcases hb with hb|hb
  ·exact h2.own b hb
  ·have:=h.size;exact⟨fun e=>by have:=h.home.lts.2.2 b e;omega,by omega,hb.2⟩
 ·rcases hk with hk|hk
  ·exact h.row ad e hk
  ·have:=(h.one.noR ad e).2.2.2.2.2.2;omega
end
variable {w w':World} {A:Option Addr}
theorem bZ (h:w.grownBy w' (A.map (·.block))):Mod (fun b=>A.map (·.block)=some b) w w':=⟨h.os,h.tape,h.output,h.size,fun b hb hn=>h.block b hb fun e=>hn e.symm⟩
variable {W:World} {x:Nat×Nat}
theorem gF {b1 b2:Nat} (h:PgSt W b1 b2 x) (vK:b1≠b2) (y:Nat×Nat):PgSt (cy W b1 b2 y) b1 b2 y/\Mod (fun b=>b=b1\/b=b2) W (cy W b1 b2 y):=by
 have hm:Mod (fun b=>b=b1\/b=b2) W (cy W b1 b2 y):=(aj (S:=fun b=>b=b1\/b=b2) (.inr rfl) 0 _).trans (Out.refl _ _) (aj (.inl rfl) 0 _);refine⟨⟨?_,?_⟩,hm⟩
 ·have h1:=(aj (S:=fun b=>b=b2) (w:=W) rfl 0 (.int .u64 (y.1:Int))).block b1 (uZ h.n).1 vK;exact bm (h1.trans h.n)
 ·have h1:=bm (y:= .int .u64 (y.1:Int)) h.a;exact((aj (S:=fun b=>b=b1) rfl 0 _).block b2 (uZ h1).1 (fun e=>vK e.symm)).trans h1
structure LdBox (w W:World) (s ob:Nat) (x:Nat×Nat) (k:Nat) (A':Option Addr) (vA:Nat):Prop where
 pg:PgSt W (ob+2) (ob+1) (pst x k)
 mark:W.heap[ob+3]? =some (.deferred (some []))
 b0:W.heap[w.heap.size]? =some (.cells #[.pointer (some ⟨s,0,none⟩)] 60 (0,0))
 b1:W.heap[w.heap.size+1]? =some (.cells #[.slice none 0 0] 39 (0,0))
 b2:W.heap[w.heap.size+1+1]? =some (.cells #[.int .i64 0] 32 (0,0))
 out:W.heap[ob]? =some (.cells #[.slice A' ((pst x k).1-x.1) vA] 39 (0,0))
theorem LdBox.keep {W':World} {s ob:Nat} {k:Nat} {A':Option Addr} {vA:Nat} (h:LdBox w W s ob x k A' vA) (Lm:w.heap.size+3<=ob) (hk: ∀b,w.heap.size<=b->b<ob+4->W'.heap[b]? =W.heap[b]?):LdBox w W' s ob x k A' vA:=
 ⟨⟨(hk _ (by omega) (by omega)).trans h.pg.n,(hk _ (by omega) (by omega)).trans h.pg.a⟩,(hk _ (by omega) (by omega)).trans h.mark,(hk _ (by omega) (by omega)).trans h.b0,(hk _ (by omega) (by omega)).trans h.b1,(hk _ (by omega) (by omega)).trans h.b2,(hk _ (by omega) (by omega)).trans h.out⟩
def LdK (w:World) (ob:Nat) (A':Option Addr):Nat->Prop:=fun b=>(w.heap.size<=b/\b<ob+5)\/A'.map (·.block)=some b
def LdJ (w:World) (B c a fs m s t root n cap:Nat) (A:Option Addr) (rl:List Reg) (S:Nat->Prop) (F:List Nd) (clock:Int) (p:Pool) (L:List Slot) (T:Tab) (hold:Nat->Nat) (x:Nat×Nat) (ob k:Nat) (W:World):Prop:=
 ∃p' L' T' vB S' A' vA d,Run w W (aw S c m) (LdK w ob A') B c a fs m s t root A n cap rl S S' F vB p' L'/\LdBox w W s ob x k A' vA/\OwnB W (ob+5) A' vA ((pst x k).1-x.1) d/\fV F hold rl x k p L T p' L' T'/\clock<=vB/\vB<=clock+k/\(∀i,x.1+i<(pst x k).1->d i=cont F rl p T ((x.1+i)/4096) ((x.1+i) % 4096))/\ ∀j,j<k->0<(pst x j).2
def LdX (w:World) (B c a fs m s t root n cap:Nat) (A:Option Addr) (rl:List Reg) (S:Nat->Prop) (F:List Nd) (clock:Int) (p:Pool) (L:List Slot) (T:Tab) (hold:Nat->Nat) (x:Nat×Nat) (ob:Nat) (W:World):Prop:=
 ∃p' L' T' vB S',Run w W (aw S c m) (LdK w ob none) B c a fs m s t root A n cap rl S S' F vB p' L'/\clock<=vB/\vB<=clock+32/\Short F hold rl x p L T p' L' T'/\W.heap[ob+3]? =some (.deferred (some []))/\W.heap[w.heap.size+1]? =some (.cells #[.slice none 0 0] 39 (0,0))/\W.heap[w.heap.size+1+1]? =some (.cells #[.int .i64 4] 32 (0,0))
def eN (F:List Nd) (hold:Nat->Nat) (rl:List Reg) (p:Pool) (L:List Slot) (T:Tab) (addr:Nat) (len want:Int) (er:Int) (k:Nat) (d:Nat->Nat) (p':Pool) (L':List Slot) (T':Tab):Prop:=
 ((len<0\/65536<len)/\er=1/\p'=p/\L'=L/\T'=T)\/
 (0<=len/\len<=65536/\dE rl (addr,len.toNat) want=false/\er=6/\p'=p/\L'=L/\T'=T)\/
 (0<=len/\len<=65536/\dE rl (addr,len.toNat) want=true/\er=4/\Short F hold rl (addr,len.toNat) p L T p' L' T')\/
 (0<=len/\len<=65536/\dE rl (addr,len.toNat) want=true/\er=0/\(k:Int)=len/\(∃j,(pst (addr,len.toNat) j).2=0/\fV F hold rl (addr,len.toNat) j p L T p' L' T')/\ ∀i,i<k->d i=cont F rl p T ((addr+i)/4096) ((addr+i) % 4096))
def qu (w:World) (S:Nat->Prop) (c a fs m:Nat) (F:List Nd) (rl:List Reg) (clock:Int) (p:Pool) (L:List Slot) (T:Tab) (hold:Nat->Nat) (addr:Nat) (len want:Int) (e:Ending) (w':World):Prop:=
 ∃er R k cp d p' L' T' vB S',e= .returned (.tuple #[.slice R k cp, .int .i64 er])/\ar w' S' c a fs m vB p' L'/\Mod (aw S c m) w w'/\Out S S' w/\clock<=vB/\vB<=clock+32/\OwnB w' w.heap.size R cp k d/\((∀g,R.map (·.block)=some g-> ¬S' g)/\k<=65536)/\eN F hold rl p L T addr len want er k d p' L' T'
theorem OwnB.nilB (w:World) (base:Nat) (d:Nat->Nat):OwnB w base none 0 0 d:=⟨rfl, .inl ⟨rfl,rfl⟩⟩
variable {base cap n:Nat} {d:Nat->Nat}
theorem OwnB.blk (h:OwnB w base A cap n d): ∀g,A.map (·.block)=some g->base<=g/\g<w.heap.size:=fun g e=>by
 rcases h.2 with⟨h2,_⟩|⟨g',vA,cur,h1,h2,h3,_⟩
 ·injection h2 with e1;rw[e1]at e;cases e
 ·injection h1 with e1;rw[e1]at e;simp at e;subst e;exact⟨h2,(uZ h3).1⟩
theorem OwnB.sameR (h:OwnB w base A cap n d) (hb: ∀g,A=some ⟨g,0,none⟩->w'.heap[g]? =w.heap[g]?):OwnB w' base A cap n d:=by
 refine⟨h.1,?_⟩;rcases h.2 with h2|⟨g,vA,cur,h1,h2,h3,h4⟩
 ·exact .inl h2
 ·injection h1 with e1 e2 e3;exact .inr ⟨g,vA,cur,by rw[e1,e2,e3],h2,(hb g e1).trans h3,h4⟩
theorem sA (B c a fs m s t root n cap addr:Nat) (len want:Int) (A:Option Addr) (rl:List Reg) (clock:Int) (w:World) (S:Nat->Prop) (F:List Nd) (p:Pool) (L:List Slot) (T:Tab) (hold:Nat->Nat)
  (hH:Home w B c a fs m S F clock p L) (hO:One w B c a m S s t root A n cap rl) (ya:Sp F hold p L T) (ho:Own p T) (hr:T.nd 4 0=some root) (hR:Rgs F rl) (zq:addr<18446744073709551616) (wY: ∀f,hold f<=100000000000) (yA:0<=clock/\clock+32<1000000):
  Calls Tryz.prog 70 #[.pointer (some ⟨s,0,none⟩), .int .u64 (addr:Int), .int .i64 len, .int .u8 want] w (qu w S c a fs m F rl clock p L T hold addr len want):=by
 refine(callsIn_wide (n:=9)).1 ?_;refine callsIn_of_wp_marks Tryz.func70 rfl trivial ?_;simp only[Tryz.ntmps70,List.size_toArray,vn,List.length_nil,Nat.reduceAdd,Nat.reduceSub,Array.replicate_succ,Array.replicate_zero,List.push_toArray,List.append_toArray,List.nil_append,List.cons_append];obtain⟨w0,vE⟩: ∃w0,w0=((w.alloc (.cells #[.pointer (some ⟨s,0,none⟩)] 60)).alloc (.cells #[.slice none 0 0] 39)).alloc (.cells #[.int .i64 0] 32):=⟨_,rfl⟩;have wz:w0.heap.size=w.heap.size+1+1+1:=(by rw[vE];simp);have vF:Below w.heap.size w w0:=(by rw[vE];exact(vc.alloc (by simp) _).alloc (by simp;omega) _);have Fm:w0.heap[w.heap.size+1+1]? =some (.cells #[.int .i64 0] 32 (0,0)):=by
  rw[vE];have:=ab ((w.alloc (.cells #[.pointer (some ⟨s,0,none⟩)] 60)).alloc (.cells #[.slice none 0 0] 39)) (.cells #[.int .i64 0] 32)
  rwa [World.size_alloc,World.size_alloc]at this
 have IQ:w0.heap[w.heap.size+1]? =some (.cells #[.slice none 0 0] 39 (0,0)):=by
  rw[vE];have:=ab (w.alloc (.cells #[.pointer (some ⟨s,0,none⟩)] 60)) (.cells #[.slice none 0 0] 39);rw[World.size_alloc]at this;exact(ve _ _ _ (by simp)).trans this
 have zP:w0.heap[w.heap.size]? =some (.cells #[.pointer (some ⟨s,0,none⟩)] 60 (0,0)):=by
  rw[vE];exact(ve _ _ _ (by simp;omega)).trans ((ve _ _ _ (by simp)).trans (ab w _))
 have yN:=(Run.start hH hO (fun _ e=>e)).below vF;have s0:w0.cell? ⟨w.heap.size,0,none⟩=some (.pointer (some ⟨s,0,none⟩)):=aa zP 0;have n0:w0.cell? ⟨w.heap.size+1,0,none⟩=some (.slice none 0 0):=aa IQ 0;have nf0:=ae IQ 0;have e0:w0.cell? ⟨w.heap.size+1+1,0,none⟩=some (.int .i64 0):=aa Fm 0;have ef0:=ae Fm 0;have FT:w.heap.size+1<w0.heap.size:=(by omega);have Cc:w.heap.size+1+1<w0.heap.size:=(by omega);have vY:=va vE;have CC:=va wz;have Wr:=va Fm;have Oq:=va IQ;have zv:=va zP;have yE:=va yN;have yo:=va ya;have yX:=va ho;have HR:=va hr;have MC:=va hR;have wO:=va vF;have xM:=dH s c a t n cap A w0 yN.one.self;have wN:=va xM;clear xM vE wz vF Fm IQ zP yN hH hO ya ho hr hR;have two:=fun(w0:World) (v u:Value)=>((aj (S:=fun b=>b=w.heap.size+1\/b=w.heap.size+1+1) (w:=w0) (.inl rfl) 0 v).trans (Out.refl _ _) (aj (S:=fun b=>b=w.heap.size+1\/b=w.heap.size+1+1) (w:=w0.setCell ⟨w.heap.size+1,0,none⟩ v) (b:=w.heap.size+1+1) (.inr rfl) 0 u));have Mz:=va two;clear two;by_cases yV:len<0\/65536<len
 ·have MT:=va yV;have key:qu w S c a fs m F rl clock p L T hold addr len want (.returned (.tuple #[.slice none 0 0, .int .i64 1])) ((w0.setCell ⟨w.heap.size+1,0,none⟩ (.slice none 0 0)).setCell ⟨w.heap.size+1+1,0,none⟩ (.int .i64 1)):=by
   have vV:=yE.out.set (Mz.out w0 (.slice none 0 0) (.int .i64 1)) (fun b e=> .inr (by have:=CC.out;omega));exact⟨1,none,0,0,fun _ =>0,p,L,T,clock,S,rfl,vV.home.cache,vV.mod,vV.out,Int.le_refl _,by omega,OwnB.nilB _ _ _,⟨fun g e=>(by cases e),by omega⟩, .inl ⟨MT.out,rfl,rfl,rfl,rfl⟩⟩
  have KEY:=va key;clear key;rcases yV with Tl|yC
  ·gi_wp2_with (first
    |(refine⟨trivial,?_⟩;rw[<-vY.out];refine(callsIn_wide.2 wN.out).mono ?_;rintro e w1 ⟨rfl,rfl⟩)
    |fail)
   exact⟨.tuple #[.slice none 0 0, .int .i64 1],by simp[results,Tryz.results70,go_sem,n0,e0,nf0,ef0,FT,Cc],KEY.out⟩
  ·have Tl: ¬len<0:=(by omega);gi_wp2_with (first
    |(refine⟨trivial,?_⟩;rw[<-vY.out];refine(callsIn_wide.2 wN.out).mono ?_;rintro e w1 ⟨rfl,rfl⟩)
    |fail)
   exact⟨.tuple #[.slice none 0 0, .int .i64 1],by simp[results,Tryz.results70,go_sem,n0,e0,nf0,ef0,FT,Cc],KEY.out⟩
 have Tl: ¬len<0:=fun h=>yV (.inl h);have yC: ¬65536<len:=fun h=>yV (.inr h);obtain⟨q,hq⟩: ∃q:Nat,len=(q:Int):=⟨len.toNat,by omega⟩;have SW:len.toNat=q:=(by omega);have Ll:q<=65536:=(by omega);have yl:=jP s c a t n cap A rl addr q want w0 yE.out.one.self yE.out.one.row zq (by omega);rw[<-hq]at yl;cases hpb:dE rl (addr,q) want with
 |false=>
  rw[hpb]at yl;have Cq:=va yl;have ME:=va hpb;have HQ:=va hq;clear yl hpb yV hq;gi_wp2_with (first
   |(refine⟨trivial,?_⟩;rw[<-vY.out];refine(callsIn_wide.2 wN.out).mono ?_;rintro e w1 ⟨rfl,rfl⟩)
   |(refine⟨trivial,?_⟩;refine(callsIn_wide.2 Cq.out).mono ?_;rintro e w1 ⟨rfl,vD⟩;have Lv:=(vD.block _ FT).trans Oq.out;have vG:=(vD.block _ Cc).trans Wr.out;have n1:w1.cell? ⟨w.heap.size+1,0,none⟩=some (.slice none 0 0):=aa Lv 0;have nf1:=ae Lv 0;have e1:w1.cell? ⟨w.heap.size+1+1,0,none⟩=some (.int .i64 0):=aa vG 0;have ef1:=ae vG 0;have Tj:w.heap.size+1<w1.heap.size:=(uZ Lv).1;have Kh:w.heap.size+1+1<w1.heap.size:=(uZ vG).1)
   |fail)
  refine⟨.tuple #[.slice none 0 0, .int .i64 6],by simp[results,Tryz.results70,go_sem,n1,e1,nf1,ef1,Tj,Kh],?_⟩;have vV:=(yE.out.below vD).set (Mz.out w1 (.slice none 0 0) (.int .i64 6)) (fun b e=> .inl (.inr (by have:=CC.out;omega)));exact⟨6,none,0,0,fun _ =>0,p,L,T,clock,S,rfl,vV.home.cache,vV.mod,vV.out,Int.le_refl _,by omega,OwnB.nilB _ _ _,⟨fun g e=>(by cases e),by omega⟩, .inr (.inl ⟨by omega,by omega,by rw[SW];exact ME.out,rfl,rfl,rfl,rfl⟩)⟩
 |true=>
  have Tb:Perm rl (addr,q) want:=by
   unfold dE at hpb;exact @vs _ (Classical.propDecidable _) hpb
  rw[hpb]at yl;have Cq:=va yl;have ME:=va hpb;have HQ:=va hq;have Oj:=va Tb;clear yl hpb yV hq Tb;gi_upto_region 8 with(first
   |(refine⟨trivial,?_⟩;rw[<-vY.out];refine(callsIn_wide.2 wN.out).mono ?_;rintro e w1 ⟨rfl,rfl⟩)
   |(refine⟨trivial,?_⟩;refine(callsIn_wide.2 Cq.out).mono ?_;rintro e w1 ⟨rfl,vD⟩)
   |fail)
  obtain⟨ob,Lm⟩: ∃ob,w1.heap.size=ob:=⟨_,rfl⟩;have EJ:w.heap.size+3<=ob:=(by have:=vD.size;have:=CC.out;omega);obtain⟨wa,IE⟩: ∃wa,wa=w1.alloc (.cells #[.slice none 0 0] 39):=⟨_,rfl⟩;rw[<-IE,Lm];have MY:wa.heap.size=ob+1:=(by rw[IE];simp[Lm]);have RA:Below w0.heap.size w0 wa:=(by rw[IE];exact vD.alloc vD.size _);have UM:wa.heap[ob]? =some (.cells #[.slice none 0 0] 39 (0,0)):=(by rw[IE,<-Lm];exact ab w1 _);have XB:=va UM;have MU:=va RA;clear IE RA UM vD;gi_wp2_with (first
   |(refine⟨trivial,?_⟩;refine(callsIn_wide.2 (gK (addr:Int) len wa)).mono ?_;rintro e w2 ⟨rfl,wD⟩)
   |fail)
  have wm:w2.heap.size=ob+3:=(by rw[wD];simp[MY]);have vM:Below wa.heap.size wa w2:=(by rw[wD];exact vc.alloc (by simp) _);have Iu:w2.heap[ob+1]? =some (.cells #[.int .u64 (addr:Int)] 43 (0,0)):=(by rw[wD,<-MY];exact(ve _ _ _ (by simp)).trans (ab wa _));have UO:w2.heap[ob+2]? =some (.cells #[.int .i64 len] 3 (0,0)):=by
   rw[wD];have:=ab (wa.alloc (.cells #[.int .u64 (addr:Int)] 43)) (.cells #[.int .i64 len] 3);rw[World.size_alloc,MY]at this;exact this
  have xC:=va (MU.out.trans (vM.mono (by have:=MU.out.size;omega)));have Rh:=va Iu;have yj:=va UO;have Bz:=va ((vM.block _ (by omega)).trans XB.out);rw[<-wD];clear wD vM Iu UO;refine bK rfl (by omega) (gf:=155) (lb:= #[.pointer (some ⟨ob+1+1,0,none⟩), .pointer (some ⟨ob+1,0,none⟩)]) rfl trivial (enters_of Tryz.func155 (by kernel_rfl) rfl) ?_;rw[wm];intro fn Di rec xp;refine(gL (9-1) (by omega) (ob+3+1) (ob+1+1) (ob+1) (by omega) (addr,q) (by have:=Oj.out.1;simp only at this⊢;omega) (fun k W=>LdJ w B c a fs m s t root n cap A rl S F clock p L T hold (addr,q) ob k W/\W.heap[ob+3+1]? =some (.loop (rec .ready none)))
   (fun W=>LdX w B c a fs m s t root n cap A rl S F clock p L T hold (addr,q) ob W/\W.heap[ob+3+1]? =some (.loop (rec .done (some .ret)))) ?_ ?_ _ ?_).mono ?_
  ·rintro k W ⟨⟨p',L',T',vB,S',A',vA,d,h1,h2,h3⟩,_⟩;exact h2.pg
  ·rintro k W ⟨hJ,hl⟩ wo;refine bw trivial xp hl rfl ?_;obtain⟨p1,L1,T1,vI,S1,A1,vC,d1,vV,xw,xW,Ch,xU,zM,IM,wX⟩:=hJ;obtain⟨x,hx⟩: ∃x,x=(pst (addr,q) k).1:=⟨_,rfl⟩;obtain⟨M,hM⟩: ∃M,M=pm (pst (addr,q) k):=⟨_,rfl⟩;rw[<-hx,<-hM];have wb:=jN (addr,q) k wo;dsimp only at wb;have YS:k<=17:=(by omega);have HX:=va hx;have HM:=va hM;have Dq:=va vV;have Le:=va xw;have Cs:=va xW;have yF:=va Ch;have LG:=va IM;have Wf:=va wX;have zw:=va wo;have QB:=va xp;have HL:=va hl;clear hx hM vV xw xW Ch IM wX wo xp hl wb
   gi_wp2
   refine⟨HL.out,?_⟩;obtain⟨W2,wF⟩: ∃W2,W2=W.putObj (ob+3+1) (.loop (rec .busy none)):=⟨_,rfl⟩;rw[<-wF];have vT:Mod (fun b=>b=ob+3+1) W W2:=(by rw[wF];exact aA);have wE:W2.heap[ob+3+1]? =some (.loop (rec .busy none)):=(by rw[wF];exact World.putObj_heap_same (uZ HL.out).1);have vL:=Dq.out.set vT (fun b e=> .inl (by omega));have wZ:=Le.out.keep EJ (W':=W2) (fun b h1 h2=>by
    rcases Nat.lt_or_ge b W.heap.size with h3|h3
    ·exact vT.block b h3 (by omega)
    ·rw[Array.getElem?_eq_none h3,Array.getElem?_eq_none];rw[wF,World.putObj_size];exact h3)
   have zg:OwnB W2 (ob+5) A1 vC (x-addr) d1:=by
    rw[HX.out];exact Cs.out.sameR fun g hg=>vT.block g ((Cs.out.blk g (by rw[hg];rfl)).2) (fun e=>by have:=(Cs.out.blk g (by rw[hg];rfl)).1;omega)
   obtain⟨r,yw,_⟩:=Oj.out.2 k zw.out;have Gg:Ask F rl r (x/4096):=MC.out.ask (by rw[HX.out];exact yw);have GD:x+(pst (addr,q) k).2=addr+q:=(by rw[HX.out];exact dm (addr,q) k);have hxb:x<=140737488355328:=(by have:=Oj.out.1;simp only at this;omega);have yS:IntKind.u64.wrap ((x:Int)/4096*4096)=(x:Int)/4096*4096:=(by rw[IntKind.wrap_u64];omega);have Cf:=nS B c a fs m s t root n cap (x/4096) A rl r vI ((x:Int)/4096*4096) W2 S1 F p1 L1 T1 hold vL.home vL.one yF.out.seen.kept.sp yF.out.seen.kept.own (yF.out.seen.kept.root _ HR.out) Gg (by omega) wY (by omega);have yT:(Rg.find rl ((((pst (addr,q) k).1/4096:Nat):Int)*4096)).1=r:=(by rw[<-HX.out,Gg.find]);have c0:W2.cell? ⟨w.heap.size,0,none⟩=some (.pointer (some ⟨s,0,none⟩)):=aa wZ.b0 0;have Yy:ob+5<=W2.heap.size:=(by have:=(uZ wE).1;omega);have GC:=va Cf;have VK:=va yT;have wu:=va vL;have xN:=va wZ;have Dv:=va zg;have Er:=va wE;have HXS:=va GD;clear Cf yT vL wZ zg wE Gg yw GD vT wF;gi_upto_region 12 with(first
    |(refine⟨trivial,?_⟩;refine(CallsIn.inRound (ob+3+1) (callsIn_wide.2 GC.out)).mono ?_;rintro e W3 ⟨er,⟨fr,pr,cp⟩,p3,L3,T3,Co,S3,rfl,BI,xH,AF,AS,yh,Cg⟩;unfold ap)
    |fail)
   obtain⟨W4,El⟩: ∃W4,W4=W3.alloc (.cells #[.int .i64 (fr:Int), .int .u8 (pr:Int), .bool cp] 83):=⟨_,rfl⟩;rw[<-El];obtain⟨wP,GO⟩:=wu.out.call BI xH AF;have vZ:Below W3.heap.size W3 W4:=(by rw[El];exact vc);have AX:W4.heap.size=W3.heap.size+1:=(by rw[El];simp);have GX:W4.heap[W3.heap.size]? =some (.cells #[.int .i64 (fr:Int), .int .u8 (pr:Int), .bool cp] 83 (0,0)):=(by rw[El];exact ab W3 _);have xR:=xH.size;have wG:=(wP.below vZ).sub (K':=LdK w ob A1) (fun b e=> .inl e);have Bi: ∀b,LdK w ob A1 b->W4.heap[b]? =W2.heap[b]? :=fun b hb=>(vZ.block b ((wu.out.own b hb).2.2 |> fun h=>by omega)).trans (GO b hb);have yn:=xN.out.keep EJ (W':=W4) (fun b h1 h2=>Bi b (.inl (by omega)));have Md:=(Bi (ob+3+1) (.inl (by omega))).trans Er.out;have zI:OwnB W4 (ob+5) A1 vC (x-addr) d1:=Dv.out.sameR fun g hg=>Bi g (.inr (by rw[hg];rfl));have xx:=va wG;have wL:=va yn;have Gw:=va Md;have zx:=va zI;have AK:=va GX;have CZ:=va Cg;have Sh:w.heap.size<W4.heap.size:=(by omega);clear wP GO vZ GX wG Bi yn Md zI Cg BI xH AF El yS c0 AX xR;have n0:W4.cell? ⟨w.heap.size+1,0,none⟩=some (.slice none 0 0):=aa wL.out.b1 0;have nf0:=ae wL.out.b1 0;have e0:W4.cell? ⟨w.heap.size+1+1,0,none⟩=some (.int .i64 0):=aa wL.out.b2 0;have ef0:=ae wL.out.b2 0;by_cases zo:er=0
   rotate_left
   ·have vK:(er != 0)=true:=(by rw[bne_iff_ne];exact zo);obtain⟨Kg,yr⟩:=yF.out.fail zw.out VK.out (by rw[<-HX.out];exact CZ.out) zo;subst Kg;have Gq:=va yr;clear yr zo
    gi_wp2
    have Cw:=Mz.out W4 (.slice none 0 0) (.int .i64 4);have vP:=xx.out.set Cw (fun b e=> .inl (by omega));have GM:=(Cw.block _ (uZ Gw.out).1 (by omega)).trans Gw.out;have xf:=(Cw.block _ (uZ wL.out.mark).1 (by omega)).trans wL.out.mark;have Nu:((W4.setCell ⟨w.heap.size+1,0,none⟩ (.slice none 0 0)).setCell ⟨w.heap.size+1+1,0,none⟩ (.int .i64 4)).heap[w.heap.size+1]? =some (.cells #[.slice none 0 0] 39 (0,0)):=
     ((aj (S:=fun b=>b=w.heap.size+1+1) rfl 0 _).block _ (by simp;exact(uZ wL.out.b1).1) (by omega)).trans (bm wL.out.b1)
    have Mf:((W4.setCell ⟨w.heap.size+1,0,none⟩ (.slice none 0 0)).setCell ⟨w.heap.size+1+1,0,none⟩ (.int .i64 4)).heap[w.heap.size+1+1]? =some (.cells #[.int .i64 4] 32 (0,0)):=
     bm (((aj (S:=fun b=>b=w.heap.size+1) rfl 0 _).block _ (uZ wL.out.b2).1 (by omega)).trans wL.out.b2)
    refine⟨GM, .inr ⟨rfl,?_,World.putObj_heap_same (uZ GM).1⟩⟩;have Bp:=aA (l:=ob+3+1) (o:= .loop (rec .done (some .ret))) (W:=(W4.setCell ⟨w.heap.size+1,0,none⟩ (.slice none 0 0)).setCell ⟨w.heap.size+1+1,0,none⟩ (.int .i64 4));have xt:=vP.set Bp (fun b e=> .inl (by omega));have Bg: ∀ {b:Nat} {o:Obj},((W4.setCell ⟨w.heap.size+1,0,none⟩ (.slice none 0 0)).setCell ⟨w.heap.size+1+1,0,none⟩ (.int .i64 4)).heap[b]? =some o->b≠ob+3+1->(((W4.setCell ⟨w.heap.size+1,0,none⟩ (.slice none 0 0)).setCell ⟨w.heap.size+1+1,0,none⟩ (.int .i64 4)).putObj (ob+3+1) (.loop (rec .done (some .ret)))).heap[b]? =some o:=fun h1 h2=>(Bp.block _ (uZ h1).1 h2).trans h1;exact⟨p3,L3,T3,Co,S3,xt.sub (fun b e=>e.elim .inl (fun e=>by cases e)),by omega,by omega,Gq.out,Bg xf (by omega),Bg Nu (by omega),Bg Mf (by omega)⟩
   subst zo;obtain⟨g1,g2⟩:=CZ.out.got rfl;obtain⟨v1,v2,v3,v4,v5,v6⟩:=CZ.out.kept.sp.leaf g1;dsimp only at v2 v3 v4 v5 v6;have ZR:0<M:=(by rw[HM.out];exact sY zw.out);have BH:M<=4096-x % 4096:=(by rw[HM.out,HX.out];exact Nat.min_le_right _ _);obtain⟨u,hu⟩: ∃u:Int,(x:Int) % 4096=u:=⟨_,rfl⟩;have Ro:((x % 4096:Nat):Int)=u:=(by omega);have hu3:0<=u/\u<4096:=(by omega);have Yf:(x:Int).tmod 4096=u:=(by rw[Int.tmod_eq_emod_of_nonneg (by omega),hu]);have XV:IntKind.i64.wrap u=u:=(by rw[IntKind.wrap_i64];omega);have hload:=fG a fr (x % 4096) M W4.drew S3 p3 xx.out.home.cache.pool.drew v3 v4 (by omega) BH;rw[Ro]at hload;have BY:Calls Tryz.prog 122 #[.pointer (some ⟨a,0,none⟩), .int .i64 (fr:Int), .int .i64 u, .int .i64 (M:Int)] W4.drew fun e Wx=>e= .returned (.tuple #[.slice (some ⟨W4.heap.size,0,none⟩) M M, .int .i64 0])/\Hid (aO Wx W4.heap.size M (fun i=>p3.dat fr (x % 4096+i)))/\Hid (Below W4.heap.size W4 Wx)/\Hid (W4.heap.size<Wx.heap.size):=by
    refine hload.mono ?_;rintro e Wx ⟨rfl,hB,hz,Ip⟩;exact⟨rfl,va hB,va (bA Ip),va hz⟩
   have KV:=va BY;have HU2:=va Ro;have WE:=va g1;have c0:W4.cell? ⟨w.heap.size,0,none⟩=some (.pointer (some ⟨s,0,none⟩)):=aa wL.out.b0 0;have s1:W4.cell? ⟨s,1,none⟩=some (.pointer (some ⟨a,0,none⟩)):=aa xx.out.one.self 1;obtain⟨⟨x0,x1,x2⟩,_,_⟩:=box3 AK.out;have Tt:Tryz.prog.follows .mixedOrders=true:=(by kernel_rfl);clear hload BY Ro g1 g2 v1 v2 v5 v6;gi_upto_region 14 with(fail);gi_cut [15]from 51 (fun b wx=>b= .slice (some ⟨W4.heap.size,0,none⟩) M M/\aO wx W4.heap.size M (fun i=>p3.dat fr (x % 4096+i))/\Below W4.heap.size W4 wx/\W4.heap.size<wx.heap.size)
   case first=>
    refine bR (fun w'=>w'.cell? ⟨w.heap.size,0,none⟩=some (.pointer (some ⟨s,0,none⟩))/\w'.cell? ⟨s,1,none⟩=some (.pointer (some ⟨a,0,none⟩))/\w'.cell? ⟨W3.heap.size,0,none⟩=some (.int .i64 (fr:Int))) 15 (by kernel_rfl) (by kernel_rfl) (cW.of 14 (by kernel_rfl) (by kernel_rfl)) ⟨c0,s1,x0⟩ ?_;intro QK BJ;refine zt 0 ?_;refine zt 1 ?_;refine zt 2 ?_;refine zt 3 ?_;refine zt 4 ?_;refine zt 5 ?_;refine zt 6 ?_;refine zt 7 ?_;refine zt 8 ?_;refine zt 9 ?_;refine aT 10 (by kernel_rfl) rfl (fun K' hK=>?_)
    go_simp
    refine(KV.out).mono ?_;rintro e W5 ⟨rfl,Ae,Dw,HZ5⟩;have c5:=(Dw.out.cell (p:=⟨w.heap.size,0,none⟩) Sh).trans c0;have s5:=(Dw.out.cell (p:=⟨s,1,none⟩) (World.block_lt_of_cell? _ _ s1)).trans s1;have x5:=(Dw.out.cell (p:=⟨W3.heap.size,0,none⟩) (World.block_lt_of_cell? _ _ x0)).trans x0;go_wp2_with fail;refine hK.out _ _ ⟨c5,s5,x5⟩ (fun BJ=>?_);clear hK K'
    try simp only[Act.put,List.setIfInBounds_toArray,List.set_cons_zero,List.set_cons_succ,List.getElem_toArray,List.getElem_cons_succ,List.getElem_cons_zero]
    refine zt 11 ?_;refine zt 12 ?_;refine zt 13 ?_;refine zt 14 ?_;refine bd 15 (by kernel_rfl) rfl rfl (fun K' hK=>?_)
    go_simp
    refine hK.out _ _ ?_;clear hK K';refine be (by kernel_rfl) ?_ _;refine aQ ?_
    gi_wp2
    gi_meet;exact⟨rfl,Ae.out,Dw.out,HZ5.out⟩
   case rest=>
   obtain⟨rfl,Mw,KA,hZ5⟩:=hcut;have vP:=(xx.out.below KA).sub (K':=LdK w ob A1) (fun b e=> .inl e);have Ie: ∀b,LdK w ob A1 b->wc.heap[b]? =W4.heap[b]? :=fun b hb=>KA.block b (xx.out.own b hb).2.2;have zp:=wL.out.keep EJ (W':=wc) (fun b h1 h2=>Ie b (.inl (by omega)));have GM:=(Ie (ob+3+1) (.inl (by omega))).trans Gw.out;have Bc:OwnB wc (ob+5) A1 vC (x-addr) d1:=zx.out.sameR fun g hg=>Ie g (.inr (by rw[hg];rfl));have o5:wc.cell? ⟨ob,0,none⟩=some (.slice A1 (x-addr) vC):=(by rw[HX.out];exact aa zp.out 0);have Pj:ob<wc.heap.size:=(uZ zp.out).1;have hxa:addr<=x:=(by have:=pY (addr,q) k;have:=dm (addr,q) k;rw[HX.out];dsimp only at *;omega);have PF:x-addr+M<=10000000:=(by have:=HXS.out;omega);have AB:=va vP;have AE:=va zp;have Wb:=va GM;have Dt:=va Bc;have Ae:=va Mw;have vQ:ob+5<=wc.heap.size:=(by have:=(uZ GM).1;omega);clear vP Ie zp GM Bc Mw KA hZ5 c0 s1 x0 x1 x2 n0 nf0 e0 ef0 Yf XV hu;gi_upto_region 15 with(fail);gi_wp2_with (gi_at_builtin;refine pu rfl (.tmp 64) (.tmp 65) rfl (ob+5) A1 vC (x-addr) d1 rfl Dt.out ⟨W4.heap.size,0,none⟩ M M (fun i=>p3.dat fr (x % 4096+i)) rfl Ae.out.v ZR PF vQ ?_;intro g AU W6 BU Ej CN AR;have Em:=((bZ Ej).block ob Pj (fun e=>by have:=(Dt.out.blk ob e).1;omega)).trans AE.out.out;have o6:=aa Em 0;have of6:=ae Em 0);obtain⟨W7,Fj⟩: ∃W7,W7=W6.setCell ⟨ob,0,none⟩ (.slice (some ⟨g,0,none⟩) (x-addr+M) AU):=⟨_,rfl⟩;rw[<-Fj];have xh:Mod (fun b=>b=ob) W6 W7:=(by rw[Fj];exact aj (S:=fun b=>b=ob) rfl 0 _);have Dl:W7.heap[ob]? =some (.cells #[.slice (some ⟨g,0,none⟩) (x-addr+M) AU] 39 (0,0)):=(by rw[Fj];exact bm Em);have BF: ∀b,w.heap.size<=b->b<ob+5->W6.heap[b]? =wc.heap[b]? :=fun b h1 h2=>(bZ Ej).block b (by omega) (fun e=>by have:=(Dt.out.blk b e).1;omega);have zm: ∀b,w.heap.size<=b->b<ob+5->b≠ob->W7.heap[b]? =wc.heap[b]? :=fun b h1 h2 h3=>(xh.block b (by have:=(bZ Ej).size;omega) h3).trans (BF b h1 h2);have IJ:=(zm (ob+3+1) (by omega) (by omega) (by omega)).trans Wb.out;have Bp:=aA (l:=ob+3+1) (o:= .loop (rec .ready none)) (W:=W7);have zl: ∀ {b:Nat} {o:Obj},W7.heap[b]? =some o->b≠ob+3+1->(W7.putObj (ob+3+1) (.loop (rec .ready none))).heap[b]? =some o:=fun h1 h2=>(Bp.block _ (uZ h1).1 h2).trans h1;have JD:PgSt (W7.putObj (ob+3+1) (.loop (rec .ready none))) (ob+2) (ob+1) (pst (addr,q) k):=⟨zl ((zm _ (by omega) (by omega) (by omega)).trans AE.out.pg.n) (by omega),zl ((zm _ (by omega) (by omega) (by omega)).trans AE.out.pg.a) (by omega)⟩;obtain⟨DF,zi⟩:=gF JD (by omega) (pst (addr,q) (k+1));have Bh: ∀ {b:Nat} {o:Obj},W7.heap[b]? =some o->b≠ob+3+1->b≠ob+1->b≠ob+2->(cy (W7.putObj (ob+3+1) (.loop (rec .ready none))) (ob+2) (ob+1) (pst (addr,q) (k+1))).heap[b]? =some o:=fun h1 h2 h3 h4=>(zi.block _ (uZ (zl h1 h2)).1 (by omega)).trans (zl h1 h2);have zA:(pst (addr,q) (k+1)).1=x+M:=(by rw[HX.out,HM.out];rfl);have Dd:=(((((AB.out.grow (bZ Ej) (fun b e=> .inr e)).sub (K':=LdK w ob (some ⟨g,0,none⟩)) (fun b e=>by
    rcases e with e|e
    ·exact .inl (.inl e)
    ·have e2:b=g:=(by simpa using e.symm);subst e2;rcases CN with h9|h9
     ·exact .inl (.inr h9)
     ·exact .inr ⟨by omega,AR⟩)).set xh (fun b e=> .inl (by omega))).set Bp (fun b e=> .inl (by omega))).set zi (fun b e=> .inl (by omega)))
   have Eh:ob+5<=g:=(by rcases CN with h9|h9;exact(Dt.out.blk g h9).1;omega);have BQ:OwnB (cy (W7.putObj (ob+3+1) (.loop (rec .ready none))) (ob+2) (ob+1) (pst (addr,q) (k+1))) (ob+5) (some ⟨g,0,none⟩) AU ((pst (addr,q) (k+1)).1-addr) (fun i=>if i<x-addr then d1 i else p3.dat fr (x % 4096+(i-(x-addr)))):=by
    rw[zA,show x+M-addr=x-addr+M by omega];refine BU.sameR fun g' Ke=>?_;injection Ke with Ke;injection Ke with Ke;subst Ke;exact((zi.block g (by have h1:=Bp.size;have h2:=xh.size;exact vh AR (vx h2 h1)) (by omega)).trans (Bp.block g (by have h2:=xh.size;omega) (by omega))).trans (xh.block g AR (by omega))
   have Ml:=yF.out.step zw.out VK.out (by rw[<-HX.out];exact CZ.out);refine⟨IJ, .inl ⟨rfl,JD,⟨p3,L3,T3,Co,S3,some ⟨g,0,none⟩,AU,_,Dd,⟨DF,Bh ((zm _ (by omega) (by omega) (by omega)).trans AE.out.mark) (by omega) (by omega) (by omega),Bh ((zm _ (by omega) (by omega) (by omega)).trans AE.out.b0) (by omega) (by omega) (by omega),Bh ((zm _ (by omega) (by omega) (by omega)).trans AE.out.b1) (by omega) (by omega) (by omega),Bh ((zm _ (by omega) (by omega) (by omega)).trans AE.out.b2) (by omega) (by omega) (by omega),?_⟩,BQ,Ml,by omega,by omega,fun i hi=>?_,fun j hj=>(by rcases Nat.lt_or_ge j k with h9|h9;exact Wf.out j h9;obtain rfl:j=k:=(by omega);exact zw.out)⟩,?_⟩⟩
   ·rw[zA,show(x+M-(addr,q).1)=x-addr+M by simp only;omega];exact Bh Dl (by omega) (by omega) (by omega)
   ·rw[zA]at hi;dsimp only at hi⊢;by_cases h1:i<x-addr
    ·rw[if_pos h1];exact LG.out i (by rw[<-HX.out];(try dsimp only);omega)
    ·rw[if_neg h1];have h2:=pst_byte (addr,q) k i zw.out (by rw[<-HX.out];(try dsimp only);omega) (by rw[<-HX.out,<-HM.out];exact hi);rw[<-HX.out]at h2;dsimp only at h2;rw[h2.1,h2.2,<-Ml.seen.cont _ _ (by omega),aV WE.out];congr 1;omega
   ·have JP:=(uZ IJ).1;exact(zi.block _ (by rw[World.putObj_size];exact JP) (by omega)).trans (World.putObj_heap_same JP)
  ·have vZ:Below w2.heap.size w2 ((w2.alloc (.deferred (some []))).alloc (.loop (rec .ready none))):=vc.alloc (by simp) _;have xz:=((yE.out.below xC.out).below vZ).sub (K':=LdK w ob none) (fun b e=>by
    rcases e with e|e
    ·rcases Nat.lt_or_ge b w0.heap.size with h1|h1
     ·exact .inl (.inl (.inr ⟨e.1,h1⟩))
     ·rcases Nat.lt_or_ge b w2.heap.size with h2|h2
      ·exact .inl (.inr ⟨h1,h2⟩)
      ·exact .inr ⟨h2,by simp[wm];omega⟩
    ·cases e)
   have Cy:w.heap.size+1+1<w0.heap.size:=Cc;have xP: ∀ {b:Nat} {o:Obj},w2.heap[b]? =some o->((w2.alloc (.deferred (some []))).alloc (.loop (rec .ready none))).heap[b]? =some o:=fun h1=>(cf (uZ h1).1).trans h1;have yJ: ∀ {b:Nat} {o:Obj},w0.heap[b]? =some o->((w2.alloc (.deferred (some []))).alloc (.loop (rec .ready none))).heap[b]? =some o:=fun h1=>xP ((xC.out.block _ (uZ h1).1).trans h1);refine⟨⟨p,L,T,clock,S,none,0,fun _ =>0,xz,⟨⟨?_,xP Rh.out⟩,?_,yJ zv.out,yJ Oq.out,yJ Wr.out,?_⟩,?_,fV.start yo.out yX.out,Int.le_refl _,by omega,fun i hi=>absurd hi (by show¬addr+i<addr;omega),fun j hj=>absurd hj (by omega)⟩,?_⟩
   ·have:=yj.out;rw[HQ.out]at this;exact xP this
   ·have:=ab w2 (.deferred (some []));rw[wm]at this;exact(ve _ _ _ (by simp[wm])).trans this
   ·have:(pst (addr,q) 0).1-(addr,q).1=0:=Nat.sub_self _;rw[this];exact xP Bz.out
   ·have:(pst (addr,q) 0).1-(addr,q).1=0:=Nat.sub_self _;rw[this];exact OwnB.nilB _ _ _
   ·have:=ab (w2.alloc (.deferred (some []))) (.loop (rec .ready none))
    rwa [World.size_alloc,wm]at this
  ·rintro e W ⟨hv,⟨k,yJ,⟨p1,L1,T1,vI,S1,A1,vC,d1,vV,xw,xW,Ch,xU,zM,IM,wX⟩,hl⟩|⟨⟨p1,L1,T1,vI,S1,vV,xU,zM,yr,GK,hn,he⟩,hl⟩⟩
   ·refine⟨hv, .inl ⟨hl,?_⟩⟩;obtain⟨W2,wF⟩: ∃W2,W2=W.putObj (ob+3+1) (.loop (rec .exhausted none)):=⟨_,rfl⟩;rw[<-wF];have YR:k<=32:=by
     rcases k with _ |k
     ·omega
     ·have:=jN (addr,q) k (wX k (by omega));dsimp only at this;omega
    have yq:=dm (addr,q) k;rw[yJ,Nat.add_zero]at yq;dsimp only at yq;have vT:Mod (fun b=>b=ob+3+1) W W2:=(by rw[wF];exact aA);have vL:=vV.set vT (fun b e=> .inl (by omega));have xD: ∀ {b:Nat} {o:Obj},W.heap[b]? =some o->b≠ob+3+1->W2.heap[b]? =some o:=fun h1 h2=>(vT.block _ (uZ h1).1 h2).trans h1;have yQ:=xD xw.out (by omega);have Gk:=xD xw.b1 (by omega);have Lw:=xD xw.b2 (by omega);have BH:=xD xw.mark (by omega);have zg:OwnB W2 (ob+5) A1 vC q d1:=by
     have h9:=xW.sameR (w':=W2) fun g hg=>vT.block g ((xW.blk g (by rw[hg];rfl)).2) (fun e=>by have:=(xW.blk g (by rw[hg];rfl)).1;omega)
     rwa [yq,show addr+q-(addr,q).1=q by simp]at h9
    rw[yq,show addr+q-(addr,q).1=q by simp]at yQ;have o0:W2.cell? ⟨ob,0,none⟩=some (.slice A1 q vC):=aa yQ 0;have n0:W2.cell? ⟨w.heap.size+1,0,none⟩=some (.slice none 0 0):=aa Gk 0;have nf0:=ae Gk 0;have e0:W2.cell? ⟨w.heap.size+1+1,0,none⟩=some (.int .i64 0):=aa Lw 0;have ef0:=ae Lw 0;have wu:=va vL;have LC:=va Gk;have OB:=va Lw;have BK:=va BH;have Du:=va zg;have CZ:=va Ch;have HD3:=va IM;have Sb:=va yJ;have MB:=va yq;clear wF vT vL xD yQ Gk Lw BH zg vV xw xW Ch IM wX hl hv yJ yq;unfold dp
    gi_wp2
    have Cw:=Mz.out W2 (.slice A1 q vC) (.int .i64 0);have wG:=wu.out.set Cw (fun b e=> .inl (by omega));obtain⟨W4,El⟩: ∃W4,W4=(W2.setCell ⟨w.heap.size+1,0,none⟩ (.slice A1 q vC)).setCell ⟨w.heap.size+1+1,0,none⟩ (.int .i64 0):=⟨_,rfl⟩;have EM:W4.heap[w.heap.size+1]? =some (.cells #[.slice A1 q vC] 39 (0,0)):=by
     rw[El];exact((aj (S:=fun b=>b=w.heap.size+1+1) rfl 0 _).block _ (by simp;exact(uZ LC.out).1) (by omega)).trans (bm LC.out)
    have he4:W4.heap[w.heap.size+1+1]? =some (.cells #[.int .i64 0] 32 (0,0)):=by
     rw[El];exact bm (((aj (S:=fun b=>b=w.heap.size+1) rfl 0 _).block _ (uZ OB.out).1 (by omega)).trans OB.out)
    rw[<-El]at Cw wG⊢;have hK:W4.heap[ob+3]? =some (.deferred (some [])):=(Cw.block _ (uZ BK.out).1 (by omega)).trans BK.out;refine⟨by simp, .inl ⟨_,_,rfl,run_takeDeferred hK,?_⟩⟩;have BV:=aA (l:=ob+3) (o:= .deferred none) (W:=W4);have vP:=wG.set BV (fun b e=> .inl (by omega));have Nu:=(BV.block _ (uZ EM).1 (by omega)).trans EM;have Mf:=(BV.block _ (uZ he4).1 (by omega)).trans he4;have c1:=aa Nu 0;have c2:=aa Mf 0;have Bc:OwnB (W4.putObj (ob+3) (.deferred none)) (ob+5) A1 vC q d1:=Du.out.sameR fun g hg=>by
     obtain⟨h1,h2⟩:=Du.out.blk g (by rw[hg];rfl);exact(BV.block g (by have:=Cw.size;omega) (by omega)).trans (Cw.block g h2 (by omega))
    refine⟨.tuple #[.slice A1 q vC, .int .i64 0],by simp[results,Tryz.results70,go_sem,c1,c2],?_⟩;refine⟨0,A1,q,vC,d1,p1,L1,T1,vI,S1,rfl,vP.home.cache,vP.mod,vP.out,xU,by omega,Bc.lower (by omega),⟨fun g hg=>(vP.own g (.inr hg)).1,by omega⟩, .inr (.inr (.inr ⟨by omega,by omega,by rw[SW];exact ME.out,rfl,HQ.out.symm,?_,fun i hi=>HD3.out i (by rw[MB.out];(try dsimp only);omega)⟩))⟩;rw[SW];exact⟨k,Sb.out,CZ.out⟩
   ·refine⟨hv, .inr ⟨_,hl,?_⟩⟩;obtain⟨W2,wF⟩: ∃W2,W2=W.putObj (ob+3+1) (.loop (rec .exhausted (some .ret))):=⟨_,rfl⟩;rw[<-wF];have vT:Mod (fun b=>b=ob+3+1) W W2:=(by rw[wF];exact aA);have vL:=vV.set vT (fun b e=> .inl (by omega));have xD: ∀ {b:Nat} {o:Obj},W.heap[b]? =some o->b≠ob+3+1->W2.heap[b]? =some o:=fun h1 h2=>(vT.block _ (uZ h1).1 h2).trans h1;have Gk:=xD hn (by omega);have Lw:=xD he (by omega);have BH:=xD GK (by omega);have wu:=va vL;have LC:=va Gk;have OB:=va Lw;have BK:=va BH;have Ix:=va yr;clear wF vT vL xD Gk Lw BH vV yr GK hn he hl hv;unfold dp
    gi_wp2
    refine⟨by simp, .inl ⟨_,_,rfl,run_takeDeferred BK.out,?_⟩⟩;have BV:=aA (l:=ob+3) (o:= .deferred none) (W:=W2);have vP:=wu.out.set BV (fun b e=> .inl (by omega));have Nu:=(BV.block _ (uZ LC.out).1 (by omega)).trans LC.out;have Mf:=(BV.block _ (uZ OB.out).1 (by omega)).trans OB.out;have c1:=aa Nu 0;have c2:=aa Mf 0;refine⟨.tuple #[.slice none 0 0, .int .i64 4],by simp[results,Tryz.results70,go_sem,c1,c2],?_⟩;refine⟨4,none,0,0,fun _ =>0,p1,L1,T1,vI,S1,rfl,vP.home.cache,vP.mod,vP.out,xU,zM,OwnB.nilB _ _ _,⟨fun g hg=>(by cases hg),by omega⟩, .inr (.inr (.inl ⟨by omega,by omega,by rw[SW];exact ME.out,rfl,?_⟩))⟩;rw[SW];exact Ix.out
end
