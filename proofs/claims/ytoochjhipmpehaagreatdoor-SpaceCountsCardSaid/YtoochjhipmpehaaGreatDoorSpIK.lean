/- Spaces: load. -/
import Derived.Test.YtoochjhipmpehaaGreatDoorSpFK
import Derived.Test.YtoochjhipmpehaaGreatDoorSpHK
import Derived.Sort.CutIn
set_option linter.unusedVariables false
set_option linter.unusedSimpArgs false
set_option maxRecDepth 100000
set_option maxHeartbeats 8000000
namespace Go.Proofs.YtoochjhipmpehaaGreatDoor
section
open Go.RowKit Go.Sort
attribute [local go_sem] Oper.semAt_some
section
variable {w W W':World} {G K:Nat->Prop} {B c a fs m s t root:Nat} {A:Option Addr} {n cap:Nat} {rl:List Reg} {S0 S S':Nat->Prop} {F:List Nd} {clock vQ:Int} {p p':Pool} {L L':List Slot}
theorem Run.grow {X:Nat->Prop} (h:Run w W G K B c a fs m s t root A n cap rl S0 S F clock p L) (hm:Mod X W W') (hX: ∀b,X b->K b):Run w W' G (fun b=>K b\/(W.heap.size<=b/\b<W'.heap.size)) B c a fs m s t root A n cap rl S0 S F clock p L:=by
 have h2:=h.set hm hX;refine⟨h2.home,h2.one,h2.mod,h2.out,h2.foot,h2.low,fun b hb=>?_,fun ad e hk=>?_⟩
 ·rcases hb with hb|hb
  ·exact h2.own b hb
  ·have:=h.size;exact⟨fun e=>by have:=h.home.lts.2.2 b e;omega,by omega,hb.2⟩
 ·rcases hk with hk|hk
  ·exact h.row ad e hk
  ·have:=(h.one.noR ad e).2.2.2.2.2.2;omega
end
variable {w w':World} {A:Option Addr}
theorem cw (h:w.grownBy w' (A.map (·.block))):Mod (fun b=>A.map (·.block)=some b) w w':=⟨h.os,h.tape,h.output,h.size,fun b hb hn=>h.block b hb fun e=>hn e.symm⟩
variable {W:World} {x:Nat×Nat}
theorem gE {b1 b2:Nat} (h:PgSt W b1 b2 x) (wg:b1≠b2) (y:Nat×Nat):PgSt (cv W b1 b2 y) b1 b2 y/\Mod (fun b=>b=b1\/b=b2) W (cv W b1 b2 y):=by
 have hm:Mod (fun b=>b=b1\/b=b2) W (cv W b1 b2 y):=(aj (S:=fun b=>b=b1\/b=b2) (.inr rfl) 0 _).trans (Out.refl _ _) (aj (.inl rfl) 0 _);refine⟨⟨?_,?_⟩,hm⟩
 ·have h1:=(aj (S:=fun b=>b=b2) (w:=W) rfl 0 (.int .u64 (y.1:Int))).block b1 (vo h.n).1 wg;exact aU (h1.trans h.n)
 ·have h1:=aU (y:= .int .u64 (y.1:Int)) h.a;exact((aj (S:=fun b=>b=b1) rfl 0 _).block b2 (vo h1).1 (fun e=>wg e.symm)).trans h1
structure LdBox (w W:World) (s ob:Nat) (x:Nat×Nat) (k:Nat) (A':Option Addr) (vP:Nat):Prop where
 pg:PgSt W (ob+2) (ob+1) (pst x k)
 mark:W.heap[ob+3]? =some (.deferred (some []))
 b0:W.heap[w.heap.size]? =some (.cells #[.pointer (some ⟨s,0,none⟩)] 60 (0,0))
 b1:W.heap[w.heap.size+1]? =some (.cells #[.slice none 0 0] 39 (0,0))
 b2:W.heap[w.heap.size+1+1]? =some (.cells #[.int .i64 0] 32 (0,0))
 out:W.heap[ob]? =some (.cells #[.slice A' ((pst x k).1-x.1) vP] 39 (0,0))
theorem LdBox.keep {W':World} {s ob:Nat} {k:Nat} {A':Option Addr} {vP:Nat} (h:LdBox w W s ob x k A' vP) (Lv:w.heap.size+3<=ob) (hk: ∀b,w.heap.size<=b->b<ob+4->W'.heap[b]? =W.heap[b]?):LdBox w W' s ob x k A' vP:=
 ⟨⟨(hk _ (by omega) (by omega)).trans h.pg.n,(hk _ (by omega) (by omega)).trans h.pg.a⟩,(hk _ (by omega) (by omega)).trans h.mark,(hk _ (by omega) (by omega)).trans h.b0,(hk _ (by omega) (by omega)).trans h.b1,(hk _ (by omega) (by omega)).trans h.b2,(hk _ (by omega) (by omega)).trans h.out⟩
def LdK (w:World) (ob:Nat) (A':Option Addr):Nat->Prop:=fun b=>(w.heap.size<=b/\b<ob+5)\/A'.map (·.block)=some b
def LdJ (w:World) (B c a fs m s t root n cap:Nat) (A:Option Addr) (rl:List Reg) (S:Nat->Prop) (F:List Nd) (clock:Int) (p:Pool) (L:List Slot) (T:Tab) (hold:Nat->Nat) (x:Nat×Nat) (ob k:Nat) (W:World):Prop:=
 ∃p' L' T' vQ S' A' vP d,Run w W (aw S c m) (LdK w ob A') B c a fs m s t root A n cap rl S S' F vQ p' L'/\LdBox w W s ob x k A' vP/\OwnB W (ob+5) A' vP ((pst x k).1-x.1) d/\fX F hold rl x k p L T p' L' T'/\clock<=vQ/\vQ<=clock+k/\(∀i,x.1+i<(pst x k).1->d i=cont F rl p T ((x.1+i)/4096) ((x.1+i) % 4096))/\ ∀j,j<k->0<(pst x j).2
def LdX (w:World) (B c a fs m s t root n cap:Nat) (A:Option Addr) (rl:List Reg) (S:Nat->Prop) (F:List Nd) (clock:Int) (p:Pool) (L:List Slot) (T:Tab) (hold:Nat->Nat) (x:Nat×Nat) (ob:Nat) (W:World):Prop:=
 ∃p' L' T' vQ S',Run w W (aw S c m) (LdK w ob none) B c a fs m s t root A n cap rl S S' F vQ p' L'/\clock<=vQ/\vQ<=clock+32/\Short F hold rl x p L T p' L' T'/\W.heap[ob+3]? =some (.deferred (some []))/\W.heap[w.heap.size+1]? =some (.cells #[.slice none 0 0] 39 (0,0))/\W.heap[w.heap.size+1+1]? =some (.cells #[.int .i64 4] 32 (0,0))
def eM (F:List Nd) (hold:Nat->Nat) (rl:List Reg) (p:Pool) (L:List Slot) (T:Tab) (addr:Nat) (len want:Int) (er:Int) (k:Nat) (d:Nat->Nat) (p':Pool) (L':List Slot) (T':Tab):Prop:=
 ((len<0\/65536<len)/\er=1/\p'=p/\L'=L/\T'=T)\/
 (0<=len/\len<=65536/\dZ rl (addr,len.toNat) want=false/\er=6/\p'=p/\L'=L/\T'=T)\/
 (0<=len/\len<=65536/\dZ rl (addr,len.toNat) want=true/\er=4/\Short F hold rl (addr,len.toNat) p L T p' L' T')\/
 (0<=len/\len<=65536/\dZ rl (addr,len.toNat) want=true/\er=0/\(k:Int)=len/\(∃j,(pst (addr,len.toNat) j).2=0/\fX F hold rl (addr,len.toNat) j p L T p' L' T')/\ ∀i,i<k->d i=cont F rl p T ((addr+i)/4096) ((addr+i) % 4096))
def qq (w:World) (S:Nat->Prop) (c a fs m:Nat) (F:List Nd) (rl:List Reg) (clock:Int) (p:Pool) (L:List Slot) (T:Tab) (hold:Nat->Nat) (addr:Nat) (len want:Int) (e:Ending) (w':World):Prop:=
 ∃er R k cp d p' L' T' vQ S',e= .returned (.tuple #[.slice R k cp, .int .i64 er])/\au w' S' c a fs m vQ p' L'/\Mod (aw S c m) w w'/\Out S S' w/\clock<=vQ/\vQ<=clock+32/\OwnB w' w.heap.size R cp k d/\((∀g,R.map (·.block)=some g-> ¬S' g)/\k<=65536)/\eM F hold rl p L T addr len want er k d p' L' T'
theorem OwnB.nilB (w:World) (base:Nat) (d:Nat->Nat):OwnB w base none 0 0 d:=⟨rfl, .inl ⟨rfl,rfl⟩⟩
variable {base cap n:Nat} {d:Nat->Nat}
theorem OwnB.blk (h:OwnB w base A cap n d): ∀g,A.map (·.block)=some g->base<=g/\g<w.heap.size:=fun g e=>by
 rcases h.2 with⟨h2,_⟩|⟨g',vP,cur,h1,h2,h3,_⟩
 ·injection h2 with e1;rw[e1]at e;cases e
 ·injection h1 with e1;rw[e1]at e;simp at e;subst e;exact⟨h2,(vo h3).1⟩
theorem OwnB.sameR (h:OwnB w base A cap n d) (hb: ∀g,A=some ⟨g,0,none⟩->w'.heap[g]? =w.heap[g]?):OwnB w' base A cap n d:=by
 refine⟨h.1,?_⟩;rcases h.2 with h2|⟨g,vP,cur,h1,h2,h3,h4⟩
 ·exact .inl h2
 ·injection h1 with e1 e2 e3;exact .inr ⟨g,vP,cur,by rw[e1,e2,e3],h2,(hb g e1).trans h3,h4⟩
theorem sS (B c a fs m s t root n cap addr:Nat) (len want:Int) (A:Option Addr) (rl:List Reg) (clock:Int) (w:World) (S:Nat->Prop) (F:List Nd) (p:Pool) (L:List Slot) (T:Tab) (hold:Nat->Nat)
  (hH:Home w B c a fs m S F clock p L) (hO:One w B c a m S s t root A n cap rl) (yA:Sp F hold p L T) (ho:Own p T) (hr:T.nd 4 0=some root) (hR:Rgs F rl) (zE:addr<18446744073709551616) (xn: ∀f,hold f<=100000000000) (Ar:0<=clock/\clock+32<1000000):
  Calls Tryz.prog 70 #[.pointer (some ⟨s,0,none⟩), .int .u64 (addr:Int), .int .i64 len, .int .u8 want] w (qq w S c a fs m F rl clock p L T hold addr len want):=by
 refine(callsIn_wide (n:=9)).1 ?_;refine callsIn_of_wp_marks Tryz.func70 rfl trivial ?_;simp only[Tryz.ntmps70,List.size_toArray,vC,List.length_nil,Nat.reduceAdd,Nat.reduceSub,Array.replicate_succ,Array.replicate_zero,List.push_toArray,List.append_toArray,List.nil_append,List.cons_append];obtain⟨w0,vT⟩: ∃w0,w0=((w.alloc (.cells #[.pointer (some ⟨s,0,none⟩)] 60)).alloc (.cells #[.slice none 0 0] 39)).alloc (.cells #[.int .i64 0] 32):=⟨_,rfl⟩;have wM:w0.heap.size=w.heap.size+1+1+1:=(by rw[vT];simp);have vU:Below w.heap.size w w0:=(by rw[vT];exact(vr.alloc (by simp) _).alloc (by simp;omega) _);have FE:w0.heap[w.heap.size+1+1]? =some (.cells #[.int .i64 0] 32 (0,0)):=by
  rw[vT];have:=ab ((w.alloc (.cells #[.pointer (some ⟨s,0,none⟩)] 60)).alloc (.cells #[.slice none 0 0] 39)) (.cells #[.int .i64 0] 32)
  rwa [World.size_alloc,World.size_alloc]at this
 have Jb:w0.heap[w.heap.size+1]? =some (.cells #[.slice none 0 0] 39 (0,0)):=by
  rw[vT];have:=ab (w.alloc (.cells #[.pointer (some ⟨s,0,none⟩)] 60)) (.cells #[.slice none 0 0] 39);rw[World.size_alloc]at this;exact(vt _ _ _ (by simp)).trans this
 have Ag:w0.heap[w.heap.size]? =some (.cells #[.pointer (some ⟨s,0,none⟩)] 60 (0,0)):=by
  rw[vT];exact(vt _ _ _ (by simp;omega)).trans ((vt _ _ _ (by simp)).trans (ab w _))
 have za:=(Run.start hH hO (fun _ e=>e)).below vU;have s0:w0.cell? ⟨w.heap.size,0,none⟩=some (.pointer (some ⟨s,0,none⟩)):=aa Ag 0;have n0:w0.cell? ⟨w.heap.size+1,0,none⟩=some (.slice none 0 0):=aa Jb 0;have nf0:=ae Jb 0;have e0:w0.cell? ⟨w.heap.size+1+1,0,none⟩=some (.int .i64 0):=aa FE 0;have ef0:=ae FE 0;have Gl:w.heap.size+1<w0.heap.size:=(by omega);have Ct:w.heap.size+1+1<w0.heap.size:=(by omega);have wD:=vp vT;have CX:=vp wM;have WH:=vp FE;have OA:=vp Jb;have zI:=vp Ag;have yQ:=vp za;have yP:=vp yA;have zl:=vp ho;have HR:=vp hr;have VV:=vp hR;have xe:=vp vU;have yb:=dE s c a t n cap A w0 za.one.self;have xd:=vp yb;clear yb vT wM vU FE Jb Ag za hH hO yA ho hr hR;have two:=fun(w0:World) (v u:Value)=>((aj (S:=fun b=>b=w.heap.size+1\/b=w.heap.size+1+1) (w:=w0) (.inl rfl) 0 v).trans (Out.refl _ _) (aj (S:=fun b=>b=w.heap.size+1\/b=w.heap.size+1+1) (w:=w0.setCell ⟨w.heap.size+1,0,none⟩ v) (b:=w.heap.size+1+1) (.inr rfl) 0 u));have ME:=vp two;clear two;by_cases zh:len<0\/65536<len
 ·have MZ:=vp zh;have key:qq w S c a fs m F rl clock p L T hold addr len want (.returned (.tuple #[.slice none 0 0, .int .i64 1])) ((w0.setCell ⟨w.heap.size+1,0,none⟩ (.slice none 0 0)).setCell ⟨w.heap.size+1+1,0,none⟩ (.int .i64 1)):=by
   have wB:=yQ.out.set (ME.out w0 (.slice none 0 0) (.int .i64 1)) (fun b e=> .inr (by have:=CX.out;omega));exact⟨1,none,0,0,fun _ =>0,p,L,T,clock,S,rfl,wB.home.cache,wB.mod,wB.out,Int.le_refl _,by omega,OwnB.nilB _ _ _,⟨fun g e=>(by cases e),by omega⟩, .inl ⟨MZ.out,rfl,rfl,rfl,rfl⟩⟩
  have KEY:=vp key;clear key;rcases zh with TB|yN
  ·gi_wp2_with (first
    |(refine⟨trivial,?_⟩;rw[<-wD.out];refine(callsIn_wide.2 xd.out).mono ?_;rintro e w1 ⟨rfl,rfl⟩)
    |fail)
   exact⟨.tuple #[.slice none 0 0, .int .i64 1],by simp[results,Tryz.results70,go_sem,n0,e0,nf0,ef0,Gl,Ct],KEY.out⟩
  ·have TB: ¬len<0:=(by omega);gi_wp2_with (first
    |(refine⟨trivial,?_⟩;rw[<-wD.out];refine(callsIn_wide.2 xd.out).mono ?_;rintro e w1 ⟨rfl,rfl⟩)
    |fail)
   exact⟨.tuple #[.slice none 0 0, .int .i64 1],by simp[results,Tryz.results70,go_sem,n0,e0,nf0,ef0,Gl,Ct],KEY.out⟩
 have TB: ¬len<0:=fun h=>zh (.inl h);have yN: ¬65536<len:=fun h=>zh (.inr h);obtain⟨q,hq⟩: ∃q:Nat,len=(q:Int):=⟨len.toNat,by omega⟩;have Tk:len.toNat=q:=(by omega);have Lu:q<=65536:=(by omega);have xL:=jI s c a t n cap A rl addr q want w0 yQ.out.one.self yQ.out.one.row zE (by omega);rw[<-hq]at xL;cases hpb:dZ rl (addr,q) want with
 |false=>
  rw[hpb]at xL;have CK:=vp xL;have MI:=vp hpb;have HQ:=vp hq;clear xL hpb zh hq;gi_wp2_with (first
   |(refine⟨trivial,?_⟩;rw[<-wD.out];refine(callsIn_wide.2 xd.out).mono ?_;rintro e w1 ⟨rfl,rfl⟩)
   |(refine⟨trivial,?_⟩;refine(callsIn_wide.2 CK.out).mono ?_;rintro e w1 ⟨rfl,vS⟩;have LC:=(vS.block _ Gl).trans OA.out;have vV:=(vS.block _ Ct).trans WH.out;have n1:w1.cell? ⟨w.heap.size+1,0,none⟩=some (.slice none 0 0):=aa LC 0;have nf1:=ae LC 0;have e1:w1.cell? ⟨w.heap.size+1+1,0,none⟩=some (.int .i64 0):=aa vV 0;have ef1:=ae vV 0;have Tz:w.heap.size+1<w1.heap.size:=(vo LC).1;have Kr:w.heap.size+1+1<w1.heap.size:=(vo vV).1)
   |fail)
  refine⟨.tuple #[.slice none 0 0, .int .i64 6],by simp[results,Tryz.results70,go_sem,n1,e1,nf1,ef1,Tz,Kr],?_⟩;have wB:=(yQ.out.below vS).set (ME.out w1 (.slice none 0 0) (.int .i64 6)) (fun b e=> .inl (.inr (by have:=CX.out;omega)));exact⟨6,none,0,0,fun _ =>0,p,L,T,clock,S,rfl,wB.home.cache,wB.mod,wB.out,Int.le_refl _,by omega,OwnB.nilB _ _ _,⟨fun g e=>(by cases e),by omega⟩, .inr (.inl ⟨by omega,by omega,by rw[Tk];exact MI.out,rfl,rfl,rfl,rfl⟩)⟩
 |true=>
  have Tp:Perm rl (addr,q) want:=by
   unfold dZ at hpb;exact @vH _ (Classical.propDecidable _) hpb
  rw[hpb]at xL;have CK:=vp xL;have MI:=vp hpb;have HQ:=vp hq;have Ov:=vp Tp;clear xL hpb zh hq Tp;gi_upto_region 8 with(first
   |(refine⟨trivial,?_⟩;rw[<-wD.out];refine(callsIn_wide.2 xd.out).mono ?_;rintro e w1 ⟨rfl,rfl⟩)
   |(refine⟨trivial,?_⟩;refine(callsIn_wide.2 CK.out).mono ?_;rintro e w1 ⟨rfl,vS⟩)
   |fail)
  obtain⟨ob,Lv⟩: ∃ob,w1.heap.size=ob:=⟨_,rfl⟩;have Fa:w.heap.size+3<=ob:=(by have:=vS.size;have:=CX.out;omega);obtain⟨wa,IM⟩: ∃wa,wa=w1.alloc (.cells #[.slice none 0 0] 39):=⟨_,rfl⟩;rw[<-IM,Lv];have Nc:wa.heap.size=ob+1:=(by rw[IM];simp[Lv]);have RR:Below w0.heap.size w0 wa:=(by rw[IM];exact vS.alloc vS.size _);have UX:wa.heap[ob]? =some (.cells #[.slice none 0 0] 39 (0,0)):=(by rw[IM,<-Lv];exact ab w1 _);have XJ:=vp UX;have Na:=vp RR;clear IM RR UX vS;gi_wp2_with (first
   |(refine⟨trivial,?_⟩;refine(callsIn_wide.2 (gJ (addr:Int) len wa)).mono ?_;rintro e w2 ⟨rfl,wO⟩)
   |fail)
  have wL:w2.heap.size=ob+3:=(by rw[wO];simp[Nc]);have wb:Below wa.heap.size wa w2:=(by rw[wO];exact vr.alloc (by simp) _);have IE:w2.heap[ob+1]? =some (.cells #[.int .u64 (addr:Int)] 43 (0,0)):=(by rw[wO,<-Nc];exact(vt _ _ _ (by simp)).trans (ab wa _));have UY:w2.heap[ob+2]? =some (.cells #[.int .i64 len] 3 (0,0)):=by
   rw[wO];have:=ab (wa.alloc (.cells #[.int .u64 (addr:Int)] 43)) (.cells #[.int .i64 len] 3);rw[World.size_alloc,Nc]at this;exact this
  have xF:=vp (Na.out.trans (wb.mono (by have:=Na.out.size;omega)));have Rv:=vp IE;have yy:=vp UY;have BN:=vp ((wb.block _ (by omega)).trans XJ.out);rw[<-wO];clear wO wb IE UY;refine bI rfl (by omega) (gf:=155) (lb:= #[.pointer (some ⟨ob+1+1,0,none⟩), .pointer (some ⟨ob+1,0,none⟩)]) rfl trivial (enters_of Tryz.func155 (by kernel_rfl) rfl) ?_;rw[wL];intro fn DK rec xG;refine(gK (9-1) (by omega) (ob+3+1) (ob+1+1) (ob+1) (by omega) (addr,q) (by have:=Ov.out.1;simp only at this⊢;omega) (fun k W=>LdJ w B c a fs m s t root n cap A rl S F clock p L T hold (addr,q) ob k W/\W.heap[ob+3+1]? =some (.loop (rec .ready none)))
   (fun W=>LdX w B c a fs m s t root n cap A rl S F clock p L T hold (addr,q) ob W/\W.heap[ob+3+1]? =some (.loop (rec .done (some .ret)))) ?_ ?_ _ ?_).mono ?_
  ·rintro k W ⟨⟨p',L',T',vQ,S',A',vP,d,h1,h2,h3⟩,_⟩;exact h2.pg
  ·rintro k W ⟨hJ,hl⟩ wJ;refine bu trivial xG hl rfl ?_;obtain⟨p1,L1,T1,vX,S1,A1,vR,d1,wB,xN,ym,Cy,yr,Au,IW,xm⟩:=hJ;obtain⟨x,hx⟩: ∃x,x=(pst (addr,q) k).1:=⟨_,rfl⟩;obtain⟨M,hM⟩: ∃M,M=pm (pst (addr,q) k):=⟨_,rfl⟩;rw[<-hx,<-hM];have wC:=lF (addr,q) k wJ;dsimp only at wC;have YV:k<=17:=(by omega);have HX:=vp hx;have HM:=vp hM;have DQ:=vp wB;have Lp:=vp xN;have CN:=vp ym;have yR:=vp Cy;have LL:=vp IW;have Ws:=vp xm;have zJ:=vp wJ;have QT:=vp xG;have HL:=vp hl;clear hx hM wB xN ym Cy IW xm wJ xG hl wC
   gi_wp2
   refine⟨HL.out,?_⟩;obtain⟨W2,wT⟩: ∃W2,W2=W.putObj (ob+3+1) (.loop (rec .busy none)):=⟨_,rfl⟩;rw[<-wT];have wk:Mod (fun b=>b=ob+3+1) W W2:=(by rw[wT];exact az);have wS:W2.heap[ob+3+1]? =some (.loop (rec .busy none)):=(by rw[wT];exact World.putObj_heap_same (vo HL.out).1);have vZ:=DQ.out.set wk (fun b e=> .inl (by omega));have xp:=Lp.out.keep Fa (W':=W2) (fun b h1 h2=>by
    rcases Nat.lt_or_ge b W.heap.size with h3|h3
    ·exact wk.block b h3 (by omega)
    ·rw[Array.getElem?_eq_none h3,Array.getElem?_eq_none];rw[wT,World.putObj_size];exact h3)
   have zw:OwnB W2 (ob+5) A1 vR (x-addr) d1:=by
    rw[HX.out];exact CN.out.sameR fun g hg=>wk.block g ((CN.out.blk g (by rw[hg];rfl)).2) (fun e=>by have:=(CN.out.blk g (by rw[hg];rfl)).1;omega)
   obtain⟨r,yJ,_⟩:=Ov.out.2 k zJ.out;have Gx:Ask F rl r (x/4096):=VV.out.ask (by rw[HX.out];exact yJ);have GV:x+(pst (addr,q) k).2=addr+q:=(by rw[HX.out];exact dl (addr,q) k);have hxb:x<=140737488355328:=(by have:=Ov.out.1;simp only at this;omega);have yV:IntKind.u64.wrap ((x:Int)/4096*4096)=(x:Int)/4096*4096:=(by rw[IntKind.wrap_u64];omega);have Cw:=nK B c a fs m s t root n cap (x/4096) A rl r vX ((x:Int)/4096*4096) W2 S1 F p1 L1 T1 hold vZ.home vZ.one yR.out.seen.kept.sp yR.out.seen.kept.own (yR.out.seen.kept.root _ HR.out) Gx (by omega) xn (by omega);have Aj:(Rg.find rl ((((pst (addr,q) k).1/4096:Nat):Int)*4096)).1=r:=(by rw[<-HX.out,Gx.find]);have c0:W2.cell? ⟨w.heap.size,0,none⟩=some (.pointer (some ⟨s,0,none⟩)):=aa xp.b0 0;have YD:ob+5<=W2.heap.size:=(by have:=(vo wS).1;omega);have GU:=vp Cw;have VW:=vp Aj;have wN:=vp vZ;have ye:=vp xp;have DV:=vp zw;have GN:=vp wS;have HXS:=vp GV;clear Cw Aj vZ xp zw wS Gx yJ GV wk wT;gi_upto_region 12 with(first
    |(refine⟨trivial,?_⟩;refine(CallsIn.inRound (ob+3+1) (callsIn_wide.2 GU.out)).mono ?_;rintro e W3 ⟨er,⟨fr,pr,cp⟩,p3,L3,T3,CG,S3,rfl,BY,xW,Db,Bi,yw,Cx⟩;unfold ap)
    |fail)
   obtain⟨W4,EI⟩: ∃W4,W4=W3.alloc (.cells #[.int .i64 (fr:Int), .int .u8 (pr:Int), .bool cp] 83):=⟨_,rfl⟩;rw[<-EI];obtain⟨xg,He⟩:=wN.out.call BY xW Db;have wA:Below W3.heap.size W3 W4:=(by rw[EI];exact vr);have AZ:W4.heap.size=W3.heap.size+1:=(by rw[EI];simp);have Hm:W4.heap[W3.heap.size]? =some (.cells #[.int .i64 (fr:Int), .int .u8 (pr:Int), .bool cp] 83 (0,0)):=(by rw[EI];exact ab W3 _);have yk:=xW.size;have wU:=(xg.below wA).sub (K':=LdK w ob A1) (fun b e=> .inl e);have BA: ∀b,LdK w ob A1 b->W4.heap[b]? =W2.heap[b]? :=fun b hb=>(wA.block b ((wN.out.own b hb).2.2 |> fun h=>by omega)).trans (He b hb);have yC:=ye.out.keep Fa (W':=W4) (fun b h1 h2=>BA b (.inl (by omega)));have Lw:=(BA (ob+3+1) (.inl (by omega))).trans GN.out;have zX:OwnB W4 (ob+5) A1 vR (x-addr) d1:=DV.out.sameR fun g hg=>BA g (.inr (by rw[hg];rfl));have xO:=vp wU;have xb:=vp yC;have MP:=vp Lw;have zK:=vp zX;have AY:=vp Hm;have Dx:=vp Cx;have Sw:w.heap.size<W4.heap.size:=(by omega);clear xg He wA Hm wU BA yC Lw zX Cx BY xW Db EI yV c0 AZ yk;have n0:W4.cell? ⟨w.heap.size+1,0,none⟩=some (.slice none 0 0):=aa xb.out.b1 0;have nf0:=ae xb.out.b1 0;have e0:W4.cell? ⟨w.heap.size+1+1,0,none⟩=some (.int .i64 0):=aa xb.out.b2 0;have ef0:=ae xb.out.b2 0;by_cases zR:er=0
   rotate_left
   ·have wg:(er != 0)=true:=(by rw[bne_iff_ne];exact zR);obtain⟨Kq,yg⟩:=yR.out.fail zJ.out VW.out (by rw[<-HX.out];exact Dx.out) zR;subst Kq;have GH:=vp yg;clear yg zR
    gi_wp2
    have CS:=ME.out W4 (.slice none 0 0) (.int .i64 4);have wj:=xO.out.set CS (fun b e=> .inl (by omega));have Fm:=(CS.block _ (vo MP.out).1 (by omega)).trans MP.out;have xu:=(CS.block _ (vo xb.out.mark).1 (by omega)).trans xb.out.mark;have Nx:((W4.setCell ⟨w.heap.size+1,0,none⟩ (.slice none 0 0)).setCell ⟨w.heap.size+1+1,0,none⟩ (.int .i64 4)).heap[w.heap.size+1]? =some (.cells #[.slice none 0 0] 39 (0,0)):=
     ((aj (S:=fun b=>b=w.heap.size+1+1) rfl 0 _).block _ (by simp;exact(vo xb.out.b1).1) (by omega)).trans (aU xb.out.b1)
    have Ml:((W4.setCell ⟨w.heap.size+1,0,none⟩ (.slice none 0 0)).setCell ⟨w.heap.size+1+1,0,none⟩ (.int .i64 4)).heap[w.heap.size+1+1]? =some (.cells #[.int .i64 4] 32 (0,0)):=
     aU (((aj (S:=fun b=>b=w.heap.size+1) rfl 0 _).block _ (vo xb.out.b2).1 (by omega)).trans xb.out.b2)
    refine⟨Fm, .inr ⟨rfl,?_,World.putObj_heap_same (vo Fm).1⟩⟩;have BI:=az (l:=ob+3+1) (o:= .loop (rec .done (some .ret))) (W:=(W4.setCell ⟨w.heap.size+1,0,none⟩ (.slice none 0 0)).setCell ⟨w.heap.size+1+1,0,none⟩ (.int .i64 4));have xK:=wj.set BI (fun b e=> .inl (by omega));have By: ∀ {b:Nat} {o:Obj},((W4.setCell ⟨w.heap.size+1,0,none⟩ (.slice none 0 0)).setCell ⟨w.heap.size+1+1,0,none⟩ (.int .i64 4)).heap[b]? =some o->b≠ob+3+1->(((W4.setCell ⟨w.heap.size+1,0,none⟩ (.slice none 0 0)).setCell ⟨w.heap.size+1+1,0,none⟩ (.int .i64 4)).putObj (ob+3+1) (.loop (rec .done (some .ret)))).heap[b]? =some o:=fun h1 h2=>(BI.block _ (vo h1).1 h2).trans h1;exact⟨p3,L3,T3,CG,S3,xK.sub (fun b e=>e.elim .inl (fun e=>by cases e)),by omega,by omega,GH.out,By xu (by omega),By Nx (by omega),By Ml (by omega)⟩
   subst zR;obtain⟨g1,g2⟩:=Dx.out.got rfl;obtain⟨v1,v2,v3,v4,v5,v6⟩:=Dx.out.kept.sp.leaf g1;dsimp only at v2 v3 v4 v5 v6;have ZT:0<M:=(by rw[HM.out];exact tx zJ.out);have BX:M<=4096-x % 4096:=(by rw[HM.out,HX.out];exact Nat.min_le_right _ _);obtain⟨u,hu⟩: ∃u:Int,(x:Int) % 4096=u:=⟨_,rfl⟩;have RB:((x % 4096:Nat):Int)=u:=(by omega);have hu3:0<=u/\u<4096:=(by omega);have Yo:(x:Int).tmod 4096=u:=(by rw[Int.tmod_eq_emod_of_nonneg (by omega),hu]);have Ye:IntKind.i64.wrap u=u:=(by rw[IntKind.wrap_i64];omega);have hload:=fH a fr (x % 4096) M W4.drew S3 p3 xO.out.home.cache.pool.drew v3 v4 (by omega) BX;rw[RB]at hload;have Cq:Calls Tryz.prog 122 #[.pointer (some ⟨a,0,none⟩), .int .i64 (fr:Int), .int .i64 u, .int .i64 (M:Int)] W4.drew fun e Wx=>e= .returned (.tuple #[.slice (some ⟨W4.heap.size,0,none⟩) M M, .int .i64 0])/\Hid (aP Wx W4.heap.size M (fun i=>p3.dat fr (x % 4096+i)))/\Hid (Below W4.heap.size W4 Wx)/\Hid (W4.heap.size<Wx.heap.size):=by
    refine hload.mono ?_;rintro e Wx ⟨rfl,hB,hz,FT⟩;exact⟨rfl,vp hB,vp (bw FT),vp hz⟩
   have Lf:=vp Cq;have HU2:=vp RB;have WS:=vp g1;have c0:W4.cell? ⟨w.heap.size,0,none⟩=some (.pointer (some ⟨s,0,none⟩)):=aa xb.out.b0 0;have s1:W4.cell? ⟨s,1,none⟩=some (.pointer (some ⟨a,0,none⟩)):=aa xO.out.one.self 1;obtain⟨⟨x0,x1,x2⟩,_,_⟩:=box3 AY.out;have TI:Tryz.prog.follows .mixedOrders=true:=(by kernel_rfl);clear hload Cq RB g1 g2 v1 v2 v5 v6;gi_upto_region 14 with(fail);gi_cut [15]from 51 (fun b wx=>b= .slice (some ⟨W4.heap.size,0,none⟩) M M/\aP wx W4.heap.size M (fun i=>p3.dat fr (x % 4096+i))/\Below W4.heap.size W4 wx/\W4.heap.size<wx.heap.size)
   case first=>
    refine bO (fun w'=>w'.cell? ⟨w.heap.size,0,none⟩=some (.pointer (some ⟨s,0,none⟩))/\w'.cell? ⟨s,1,none⟩=some (.pointer (some ⟨a,0,none⟩))/\w'.cell? ⟨W3.heap.size,0,none⟩=some (.int .i64 (fr:Int))) 15 (by kernel_rfl) (by kernel_rfl) (cU.of 14 (by kernel_rfl) (by kernel_rfl)) ⟨c0,s1,x0⟩ ?_;intro QZ Ca;refine zt 0 ?_;refine zt 1 ?_;refine zt 2 ?_;refine zt 3 ?_;refine zt 4 ?_;refine zt 5 ?_;refine zt 6 ?_;refine zt 7 ?_;refine zt 8 ?_;refine zt 9 ?_;refine aS 10 (by kernel_rfl) rfl (fun K' hK=>?_)
    go_simp
    refine(Lf.out).mono ?_;rintro e W5 ⟨rfl,zq,CO,HZ5⟩;have c5:=(CO.out.cell (p:=⟨w.heap.size,0,none⟩) Sw).trans c0;have s5:=(CO.out.cell (p:=⟨s,1,none⟩) (World.block_lt_of_cell? _ _ s1)).trans s1;have x5:=(CO.out.cell (p:=⟨W3.heap.size,0,none⟩) (World.block_lt_of_cell? _ _ x0)).trans x0;go_wp2_with fail;refine hK.out _ _ ⟨c5,s5,x5⟩ (fun Ca=>?_);clear hK K'
    try simp only[Act.put,List.setIfInBounds_toArray,List.set_cons_zero,List.set_cons_succ,List.getElem_toArray,List.getElem_cons_succ,List.getElem_cons_zero]
    refine zt 11 ?_;refine zt 12 ?_;refine zt 13 ?_;refine zt 14 ?_;refine aZ 15 (by kernel_rfl) rfl rfl (fun K' hK=>?_)
    go_simp
    refine hK.out _ _ ?_;clear hK K';refine ba (by kernel_rfl) ?_ _;refine aR ?_
    gi_wp2
    gi_meet;exact⟨rfl,zq.out,CO.out,HZ5.out⟩
   case rest=>
   obtain⟨rfl,MB,KJ,hZ5⟩:=hcut;have wj:=(xO.out.below KJ).sub (K':=LdK w ob A1) (fun b e=> .inl e);have Ir: ∀b,LdK w ob A1 b->wc.heap[b]? =W4.heap[b]? :=fun b hb=>KJ.block b (xO.out.own b hb).2.2;have zD:=xb.out.keep Fa (W':=wc) (fun b h1 h2=>Ir b (.inl (by omega)));have Fm:=(Ir (ob+3+1) (.inl (by omega))).trans MP.out;have Bu:OwnB wc (ob+5) A1 vR (x-addr) d1:=zK.out.sameR fun g hg=>Ir g (.inr (by rw[hg];rfl));have o5:wc.cell? ⟨ob,0,none⟩=some (.slice A1 (x-addr) vR):=(by rw[HX.out];exact aa zD.out 0);have Pt:ob<wc.heap.size:=(vo zD.out).1;have hxa:addr<=x:=(by have:=pQ (addr,q) k;have:=dl (addr,q) k;rw[HX.out];dsimp only at *;omega);have PQ:x-addr+M<=10000000:=(by have:=HXS.out;omega);have AT:=vp wj;have AU:=vp zD;have HL5:=vp Fm;have DT:=vp Bu;have zq:=vp MB;have wv:ob+5<=wc.heap.size:=(by have:=(vo Fm).1;omega);clear wj Ir zD Fm Bu MB KJ hZ5 c0 s1 x0 x1 x2 n0 nf0 e0 ef0 Yo Ye hu;gi_upto_region 15 with(fail);gi_wp2_with (gi_at_builtin;refine pk rfl (.tmp 64) (.tmp 65) rfl (ob+5) A1 vR (x-addr) d1 rfl DT.out ⟨W4.heap.size,0,none⟩ M M (fun i=>p3.dat fr (x % 4096+i)) rfl zq.out.v ZT PQ wv ?_;intro g Bl W6 Cm EH Dj Bf;have Dm:=((cw EH).block ob Pt (fun e=>by have:=(DT.out.blk ob e).1;omega)).trans AU.out.out;have o6:=aa Dm 0;have of6:=ae Dm 0);obtain⟨W7,FB⟩: ∃W7,W7=W6.setCell ⟨ob,0,none⟩ (.slice (some ⟨g,0,none⟩) (x-addr+M) Bl):=⟨_,rfl⟩;rw[<-FB];have xw:Mod (fun b=>b=ob) W6 W7:=(by rw[FB];exact aj (S:=fun b=>b=ob) rfl 0 _);have DM:W7.heap[ob]? =some (.cells #[.slice (some ⟨g,0,none⟩) (x-addr+M) Bl] 39 (0,0)):=(by rw[FB];exact aU Dm);have BU: ∀b,w.heap.size<=b->b<ob+5->W6.heap[b]? =wc.heap[b]? :=fun b h1 h2=>(cw EH).block b (by omega) (fun e=>by have:=(DT.out.blk b e).1;omega);have zC: ∀b,w.heap.size<=b->b<ob+5->b≠ob->W7.heap[b]? =wc.heap[b]? :=fun b h1 h2 h3=>(xw.block b (by have:=(cw EH).size;omega) h3).trans (BU b h1 h2);have IT:=(zC (ob+3+1) (by omega) (by omega) (by omega)).trans HL5.out;have BI:=az (l:=ob+3+1) (o:= .loop (rec .ready none)) (W:=W7);have zB: ∀ {b:Nat} {o:Obj},W7.heap[b]? =some o->b≠ob+3+1->(W7.putObj (ob+3+1) (.loop (rec .ready none))).heap[b]? =some o:=fun h1 h2=>(BI.block _ (vo h1).1 h2).trans h1;have JP:PgSt (W7.putObj (ob+3+1) (.loop (rec .ready none))) (ob+2) (ob+1) (pst (addr,q) k):=⟨zB ((zC _ (by omega) (by omega) (by omega)).trans AU.out.pg.n) (by omega),zB ((zC _ (by omega) (by omega) (by omega)).trans AU.out.pg.a) (by omega)⟩;obtain⟨Ed,zy⟩:=gE JP (by omega) (pst (addr,q) (k+1));have Bz: ∀ {b:Nat} {o:Obj},W7.heap[b]? =some o->b≠ob+3+1->b≠ob+1->b≠ob+2->(cv (W7.putObj (ob+3+1) (.loop (rec .ready none))) (ob+2) (ob+1) (pst (addr,q) (k+1))).heap[b]? =some o:=fun h1 h2 h3 h4=>(zy.block _ (vo (zB h1 h2)).1 (by omega)).trans (zB h1 h2);have zM:(pst (addr,q) (k+1)).1=x+M:=(by rw[HX.out,HM.out];rfl);have DE:=(((((AT.out.grow (cw EH) (fun b e=> .inr e)).sub (K':=LdK w ob (some ⟨g,0,none⟩)) (fun b e=>by
    rcases e with e|e
    ·exact .inl (.inl e)
    ·have e2:b=g:=(by simpa using e.symm);subst e2;rcases Dj with h9|h9
     ·exact .inl (.inr h9)
     ·exact .inr ⟨by omega,Bf⟩)).set xw (fun b e=> .inl (by omega))).set BI (fun b e=> .inl (by omega))).set zy (fun b e=> .inl (by omega)))
   have EF:ob+5<=g:=(by rcases Dj with h9|h9;exact(DT.out.blk g h9).1;omega);have Cj:OwnB (cv (W7.putObj (ob+3+1) (.loop (rec .ready none))) (ob+2) (ob+1) (pst (addr,q) (k+1))) (ob+5) (some ⟨g,0,none⟩) Bl ((pst (addr,q) (k+1)).1-addr) (fun i=>if i<x-addr then d1 i else p3.dat fr (x % 4096+(i-(x-addr)))):=by
    rw[zM,show x+M-addr=x-addr+M by omega];refine Cm.sameR fun g' Iu=>?_;injection Iu with Iu;injection Iu with Iu;subst Iu;exact((zy.block g (by have h1:=BI.size;have h2:=xw.size;exact vw Bf (vM h2 h1)) (by omega)).trans (BI.block g (by have h2:=xw.size;omega) (by omega))).trans (xw.block g Bf (by omega))
   have Mq:=yR.out.step zJ.out VW.out (by rw[<-HX.out];exact Dx.out);refine⟨IT, .inl ⟨rfl,JP,⟨p3,L3,T3,CG,S3,some ⟨g,0,none⟩,Bl,_,DE,⟨Ed,Bz ((zC _ (by omega) (by omega) (by omega)).trans AU.out.mark) (by omega) (by omega) (by omega),Bz ((zC _ (by omega) (by omega) (by omega)).trans AU.out.b0) (by omega) (by omega) (by omega),Bz ((zC _ (by omega) (by omega) (by omega)).trans AU.out.b1) (by omega) (by omega) (by omega),Bz ((zC _ (by omega) (by omega) (by omega)).trans AU.out.b2) (by omega) (by omega) (by omega),?_⟩,Cj,Mq,by omega,by omega,fun i hi=>?_,fun j hj=>(by rcases Nat.lt_or_ge j k with h9|h9;exact Ws.out j h9;obtain rfl:j=k:=(by omega);exact zJ.out)⟩,?_⟩⟩
   ·rw[zM,show(x+M-(addr,q).1)=x-addr+M by simp only;omega];exact Bz DM (by omega) (by omega) (by omega)
   ·rw[zM]at hi;dsimp only at hi⊢;by_cases h1:i<x-addr
    ·rw[if_pos h1];exact LL.out i (by rw[<-HX.out];(try dsimp only);omega)
    ·rw[if_neg h1];have h2:=pst_byte (addr,q) k i zJ.out (by rw[<-HX.out];(try dsimp only);omega) (by rw[<-HX.out,<-HM.out];exact hi);rw[<-HX.out]at h2;dsimp only at h2;rw[h2.1,h2.2,<-Mq.seen.cont _ _ (by omega),bn WS.out];congr 1;omega
   ·have JZ:=(vo IT).1;exact(zy.block _ (by rw[World.putObj_size];exact JZ) (by omega)).trans (World.putObj_heap_same JZ)
  ·have wA:Below w2.heap.size w2 ((w2.alloc (.deferred (some []))).alloc (.loop (rec .ready none))):=vr.alloc (by simp) _;have xP:=((yQ.out.below xF.out).below wA).sub (K':=LdK w ob none) (fun b e=>by
    rcases e with e|e
    ·rcases Nat.lt_or_ge b w0.heap.size with h1|h1
     ·exact .inl (.inl (.inr ⟨e.1,h1⟩))
     ·rcases Nat.lt_or_ge b w2.heap.size with h2|h2
      ·exact .inl (.inr ⟨h1,h2⟩)
      ·exact .inr ⟨h2,by simp[wL];omega⟩
    ·cases e)
   have Dc:w.heap.size+1+1<w0.heap.size:=Ct;have yG: ∀ {b:Nat} {o:Obj},w2.heap[b]? =some o->((w2.alloc (.deferred (some []))).alloc (.loop (rec .ready none))).heap[b]? =some o:=fun h1=>(bX (vo h1).1).trans h1;have zc: ∀ {b:Nat} {o:Obj},w0.heap[b]? =some o->((w2.alloc (.deferred (some []))).alloc (.loop (rec .ready none))).heap[b]? =some o:=fun h1=>yG ((xF.out.block _ (vo h1).1).trans h1);refine⟨⟨p,L,T,clock,S,none,0,fun _ =>0,xP,⟨⟨?_,yG Rv.out⟩,?_,zc zI.out,zc OA.out,zc WH.out,?_⟩,?_,fX.start yP.out zl.out,Int.le_refl _,by omega,fun i hi=>absurd hi (by show¬addr+i<addr;omega),fun j hj=>absurd hj (by omega)⟩,?_⟩
   ·have:=yy.out;rw[HQ.out]at this;exact yG this
   ·have:=ab w2 (.deferred (some []));rw[wL]at this;exact(vt _ _ _ (by simp[wL])).trans this
   ·have:(pst (addr,q) 0).1-(addr,q).1=0:=Nat.sub_self _;rw[this];exact yG BN.out
   ·have:(pst (addr,q) 0).1-(addr,q).1=0:=Nat.sub_self _;rw[this];exact OwnB.nilB _ _ _
   ·have:=ab (w2.alloc (.deferred (some []))) (.loop (rec .ready none))
    rwa [World.size_alloc,wL]at this
  ·rintro e W ⟨hv,⟨k,zc,⟨p1,L1,T1,vX,S1,A1,vR,d1,wB,xN,ym,Cy,yr,Au,IW,xm⟩,hl⟩|⟨⟨p1,L1,T1,vX,S1,wB,yr,Au,yg,Ff,hn,he⟩,hl⟩⟩
   ·refine⟨hv, .inl ⟨hl,?_⟩⟩;obtain⟨W2,wT⟩: ∃W2,W2=W.putObj (ob+3+1) (.loop (rec .exhausted none)):=⟨_,rfl⟩;rw[<-wT];have YU:k<=32:=by
     rcases k with _ |k
     ·omega
     ·have:=lF (addr,q) k (xm k (by omega));dsimp only at this;omega
    have yF:=dl (addr,q) k;rw[zc,Nat.add_zero]at yF;dsimp only at yF;have wk:Mod (fun b=>b=ob+3+1) W W2:=(by rw[wT];exact az);have vZ:=wB.set wk (fun b e=> .inl (by omega));have ya: ∀ {b:Nat} {o:Obj},W.heap[b]? =some o->b≠ob+3+1->W2.heap[b]? =some o:=fun h1 h2=>(wk.block _ (vo h1).1 h2).trans h1;have zF:=ya xN.out (by omega);have GA:=ya xN.b1 (by omega);have LD:=ya xN.b2 (by omega);have BX:=ya xN.mark (by omega);have zw:OwnB W2 (ob+5) A1 vR q d1:=by
     have h9:=ym.sameR (w':=W2) fun g hg=>wk.block g ((ym.blk g (by rw[hg];rfl)).2) (fun e=>by have:=(ym.blk g (by rw[hg];rfl)).1;omega)
     rwa [yF,show addr+q-(addr,q).1=q by simp]at h9
    rw[yF,show addr+q-(addr,q).1=q by simp]at zF;have o0:W2.cell? ⟨ob,0,none⟩=some (.slice A1 q vR):=aa zF 0;have n0:W2.cell? ⟨w.heap.size+1,0,none⟩=some (.slice none 0 0):=aa GA 0;have nf0:=ae GA 0;have e0:W2.cell? ⟨w.heap.size+1+1,0,none⟩=some (.int .i64 0):=aa LD 0;have ef0:=ae LD 0;have wN:=vp vZ;have LI:=vp GA;have OK:=vp LD;have Cb:=vp BX;have DU:=vp zw;have Dx:=vp Cy;have HD3:=vp IW;have Sm:=vp zc;have MG:=vp yF;clear wT wk vZ ya zF GA LD BX zw wB xN ym Cy IW xm hl hv zc yF;unfold dp
    gi_wp2
    have CS:=ME.out W2 (.slice A1 q vR) (.int .i64 0);have wU:=wN.out.set CS (fun b e=> .inl (by omega));obtain⟨W4,EI⟩: ∃W4,W4=(W2.setCell ⟨w.heap.size+1,0,none⟩ (.slice A1 q vR)).setCell ⟨w.heap.size+1+1,0,none⟩ (.int .i64 0):=⟨_,rfl⟩;have Fe:W4.heap[w.heap.size+1]? =some (.cells #[.slice A1 q vR] 39 (0,0)):=by
     rw[EI];exact((aj (S:=fun b=>b=w.heap.size+1+1) rfl 0 _).block _ (by simp;exact(vo LI.out).1) (by omega)).trans (aU LI.out)
    have he4:W4.heap[w.heap.size+1+1]? =some (.cells #[.int .i64 0] 32 (0,0)):=by
     rw[EI];exact aU (((aj (S:=fun b=>b=w.heap.size+1) rfl 0 _).block _ (vo OK.out).1 (by omega)).trans OK.out)
    rw[<-EI]at CS wU⊢;have hK:W4.heap[ob+3]? =some (.deferred (some [])):=(CS.block _ (vo Cb.out).1 (by omega)).trans Cb.out;refine⟨by simp, .inl ⟨_,_,rfl,run_takeDeferred hK,?_⟩⟩;have Cn:=az (l:=ob+3) (o:= .deferred none) (W:=W4);have wj:=wU.set Cn (fun b e=> .inl (by omega));have Nx:=(Cn.block _ (vo Fe).1 (by omega)).trans Fe;have Ml:=(Cn.block _ (vo he4).1 (by omega)).trans he4;have c1:=aa Nx 0;have c2:=aa Ml 0;have Bu:OwnB (W4.putObj (ob+3) (.deferred none)) (ob+5) A1 vR q d1:=DU.out.sameR fun g hg=>by
     obtain⟨h1,h2⟩:=DU.out.blk g (by rw[hg];rfl);exact(Cn.block g (by have:=CS.size;omega) (by omega)).trans (CS.block g h2 (by omega))
    refine⟨.tuple #[.slice A1 q vR, .int .i64 0],by simp[results,Tryz.results70,go_sem,c1,c2],?_⟩;refine⟨0,A1,q,vR,d1,p1,L1,T1,vX,S1,rfl,wj.home.cache,wj.mod,wj.out,yr,by omega,Bu.lower (by omega),⟨fun g hg=>(wj.own g (.inr hg)).1,by omega⟩, .inr (.inr (.inr ⟨by omega,by omega,by rw[Tk];exact MI.out,rfl,HQ.out.symm,?_,fun i hi=>HD3.out i (by rw[MG.out];(try dsimp only);omega)⟩))⟩;rw[Tk];exact⟨k,Sm.out,Dx.out⟩
   ·refine⟨hv, .inr ⟨_,hl,?_⟩⟩;obtain⟨W2,wT⟩: ∃W2,W2=W.putObj (ob+3+1) (.loop (rec .exhausted (some .ret))):=⟨_,rfl⟩;rw[<-wT];have wk:Mod (fun b=>b=ob+3+1) W W2:=(by rw[wT];exact az);have vZ:=wB.set wk (fun b e=> .inl (by omega));have ya: ∀ {b:Nat} {o:Obj},W.heap[b]? =some o->b≠ob+3+1->W2.heap[b]? =some o:=fun h1 h2=>(wk.block _ (vo h1).1 h2).trans h1;have GA:=ya hn (by omega);have LD:=ya he (by omega);have BX:=ya Ff (by omega);have wN:=vp vZ;have LI:=vp GA;have OK:=vp LD;have Cb:=vp BX;have II:=vp yg;clear wT wk vZ ya GA LD BX wB yg Ff hn he hl hv;unfold dp
    gi_wp2
    refine⟨by simp, .inl ⟨_,_,rfl,run_takeDeferred Cb.out,?_⟩⟩;have Cn:=az (l:=ob+3) (o:= .deferred none) (W:=W2);have wj:=wN.out.set Cn (fun b e=> .inl (by omega));have Nx:=(Cn.block _ (vo LI.out).1 (by omega)).trans LI.out;have Ml:=(Cn.block _ (vo OK.out).1 (by omega)).trans OK.out;have c1:=aa Nx 0;have c2:=aa Ml 0;refine⟨.tuple #[.slice none 0 0, .int .i64 4],by simp[results,Tryz.results70,go_sem,c1,c2],?_⟩;refine⟨4,none,0,0,fun _ =>0,p1,L1,T1,vX,S1,rfl,wj.home.cache,wj.mod,wj.out,yr,Au,OwnB.nilB _ _ _,⟨fun g hg=>(by cases hg),by omega⟩, .inr (.inr (.inl ⟨by omega,by omega,by rw[Tk];exact MI.out,rfl,?_⟩))⟩;rw[Tk];exact II.out
end
