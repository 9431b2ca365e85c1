/- Spaces: load. -/
import Derived.Test.YtoochjhipmpehaaGreatDoorSpFK
import Derived.Test.YtoochjhipmpehaaGreatDoorSpHK
import Derived.Sort.CutIn
set_option linter.unusedVariables false
set_option linter.unusedSimpArgs false
set_option maxRecDepth 100000
set_option maxHeartbeats 8000000
namespace Go.Proofs.YtoochjhipmpehaaGreatDoor
section
open Go.RowKit Go.Sort
attribute [local go_sem] Oper.semAt_some
section
variable {w W W':World} {G K:Nat->Prop} {B c a fs m s t root:Nat} {A:Option Addr} {n cap:Nat} {rl:List Reg} {S0 S S':Nat->Prop} {F:List Nd} {clock vi:Int} {p p':Pool} {L L':List Slot}
theorem Run.grow {X:Nat->Prop} (h:Run w W G K B c a fs m s t root A n cap rl S0 S F clock p L) (hm:Mod X W W') (hX: ∀b,X b->K b):Run w W' G (fun b=>K b\/(W.heap.size<=b/\b<W'.heap.size)) B c a fs m s t root A n cap rl S0 S F clock p L:=by
 have h2:=h.set hm hX;refine⟨h2.home,h2.one,h2.mod,h2.out,h2.foot,h2.low,fun b hb=>?_,fun ad e hk=>?_⟩
 ·rcases hb with hb|hb
  ·exact h2.own b hb
  ·have:=h.size;exact⟨fun e=>by have:=h.home.lts.2.2 b e;omega,by omega,hb.2⟩
 ·rcases hk with hk|hk
  ·exact h.row ad e hk
  ·have:=(h.one.noR ad e).2.2.2.2.2.2;omega
end
variable {w w':World} {A:Option Addr}
theorem cu (h:w.grownBy w' (A.map (·.block))):Mod (fun b=>A.map (·.block)=some b) w w':=⟨h.os,h.tape,h.output,h.size,fun b hb hn=>h.block b hb fun e=>hn e.symm⟩
variable {W:World} {x:Nat×Nat}
theorem gz {b1 b2:Nat} (h:PgSt W b1 b2 x) (vu:b1≠b2) (y:Nat×Nat):PgSt (cn W b1 b2 y) b1 b2 y/\Mod (fun b=>b=b1\/b=b2) W (cn W b1 b2 y):=by
 have hm:Mod (fun b=>b=b1\/b=b2) W (cn W b1 b2 y):=(aj (S:=fun b=>b=b1\/b=b2) (.inr rfl) 0 _).trans (Out.refl _ _) (aj (.inl rfl) 0 _);refine⟨⟨?_,?_⟩,hm⟩
 ·have h1:=(aj (S:=fun b=>b=b2) (w:=W) rfl 0 (.int .u64 (y.1:Int))).block b1 (uG h.n).1 vu;exact bd (h1.trans h.n)
 ·have h1:=bd (y:= .int .u64 (y.1:Int)) h.a;exact((aj (S:=fun b=>b=b1) rfl 0 _).block b2 (uG h1).1 (fun e=>vu e.symm)).trans h1
structure LdBox (w W:World) (s ob:Nat) (x:Nat×Nat) (k:Nat) (A':Option Addr) (vh:Nat):Prop where
 pg:PgSt W (ob+2) (ob+1) (pst x k)
 mark:W.heap[ob+3]? =some (.deferred (some []))
 b0:W.heap[w.heap.size]? =some (.cells #[.pointer (some ⟨s,0,none⟩)] 60 (0,0))
 b1:W.heap[w.heap.size+1]? =some (.cells #[.slice none 0 0] 39 (0,0))
 b2:W.heap[w.heap.size+1+1]? =some (.cells #[.int .i64 0] 32 (0,0))
 out:W.heap[ob]? =some (.cells #[.slice A' ((pst x k).1-x.1) vh] 39 (0,0))
theorem LdBox.keep {W':World} {s ob:Nat} {k:Nat} {A':Option Addr} {vh:Nat} (h:LdBox w W s ob x k A' vh) (KL:w.heap.size+3<=ob) (hk: ∀b,w.heap.size<=b->b<ob+4->W'.heap[b]? =W.heap[b]?):LdBox w W' s ob x k A' vh:=
 ⟨⟨(hk _ (by omega) (by omega)).trans h.pg.n,(hk _ (by omega) (by omega)).trans h.pg.a⟩,(hk _ (by omega) (by omega)).trans h.mark,(hk _ (by omega) (by omega)).trans h.b0,(hk _ (by omega) (by omega)).trans h.b1,(hk _ (by omega) (by omega)).trans h.b2,(hk _ (by omega) (by omega)).trans h.out⟩
def LdK (w:World) (ob:Nat) (A':Option Addr):Nat->Prop:=fun b=>(w.heap.size<=b/\b<ob+5)\/A'.map (·.block)=some b
def LdJ (w:World) (B c a fs m s t root n cap:Nat) (A:Option Addr) (rl:List Reg) (S:Nat->Prop) (F:List Nd) (clock:Int) (p:Pool) (L:List Slot) (T:Tab) (hold:Nat->Nat) (x:Nat×Nat) (ob k:Nat) (W:World):Prop:=
 ∃p' L' T' vi S' A' vh d,Run w W (av S c m) (LdK w ob A') B c a fs m s t root A n cap rl S S' F vi p' L'/\LdBox w W s ob x k A' vh/\OwnB W (ob+5) A' vh ((pst x k).1-x.1) d/\fR F hold rl x k p L T p' L' T'/\clock<=vi/\vi<=clock+k/\(∀i,x.1+i<(pst x k).1->d i=cont F rl p T ((x.1+i)/4096) ((x.1+i) % 4096))/\ ∀j,j<k->0<(pst x j).2
def LdX (w:World) (B c a fs m s t root n cap:Nat) (A:Option Addr) (rl:List Reg) (S:Nat->Prop) (F:List Nd) (clock:Int) (p:Pool) (L:List Slot) (T:Tab) (hold:Nat->Nat) (x:Nat×Nat) (ob:Nat) (W:World):Prop:=
 ∃p' L' T' vi S',Run w W (av S c m) (LdK w ob none) B c a fs m s t root A n cap rl S S' F vi p' L'/\clock<=vi/\vi<=clock+32/\Short F hold rl x p L T p' L' T'/\W.heap[ob+3]? =some (.deferred (some []))/\W.heap[w.heap.size+1]? =some (.cells #[.slice none 0 0] 39 (0,0))/\W.heap[w.heap.size+1+1]? =some (.cells #[.int .i64 4] 32 (0,0))
def eG (F:List Nd) (hold:Nat->Nat) (rl:List Reg) (p:Pool) (L:List Slot) (T:Tab) (addr:Nat) (len want:Int) (er:Int) (k:Nat) (d:Nat->Nat) (p':Pool) (L':List Slot) (T':Tab):Prop:=
 ((len<0\/65536<len)/\er=1/\p'=p/\L'=L/\T'=T)\/
 (0<=len/\len<=65536/\dS rl (addr,len.toNat) want=false/\er=6/\p'=p/\L'=L/\T'=T)\/
 (0<=len/\len<=65536/\dS rl (addr,len.toNat) want=true/\er=4/\Short F hold rl (addr,len.toNat) p L T p' L' T')\/
 (0<=len/\len<=65536/\dS rl (addr,len.toNat) want=true/\er=0/\(k:Int)=len/\(∃j,(pst (addr,len.toNat) j).2=0/\fR F hold rl (addr,len.toNat) j p L T p' L' T')/\ ∀i,i<k->d i=cont F rl p T ((addr+i)/4096) ((addr+i) % 4096))
def qg (w:World) (S:Nat->Prop) (c a fs m:Nat) (F:List Nd) (rl:List Reg) (clock:Int) (p:Pool) (L:List Slot) (T:Tab) (hold:Nat->Nat) (addr:Nat) (len want:Int) (e:Ending) (w':World):Prop:=
 ∃er R k cp d p' L' T' vi S',e= .returned (.tuple #[.slice R k cp, .int .i64 er])/\ar w' S' c a fs m vi p' L'/\Mod (av S c m) w w'/\Out S S' w/\clock<=vi/\vi<=clock+32/\OwnB w' w.heap.size R cp k d/\((∀g,R.map (·.block)=some g-> ¬S' g)/\k<=65536)/\eG F hold rl p L T addr len want er k d p' L' T'
theorem OwnB.nilB (w:World) (base:Nat) (d:Nat->Nat):OwnB w base none 0 0 d:=⟨rfl, .inl ⟨rfl,rfl⟩⟩
variable {base cap n:Nat} {d:Nat->Nat}
theorem OwnB.blk (h:OwnB w base A cap n d): ∀g,A.map (·.block)=some g->base<=g/\g<w.heap.size:=fun g e=>by
 rcases h.2 with⟨h2,_⟩|⟨g',vh,cur,h1,h2,h3,_⟩
 ·injection h2 with e1;rw[e1]at e;cases e
 ·injection h1 with e1;rw[e1]at e;simp at e;subst e;exact⟨h2,(uG h3).1⟩
theorem OwnB.sameR (h:OwnB w base A cap n d) (hb: ∀g,A=some ⟨g,0,none⟩->w'.heap[g]? =w.heap[g]?):OwnB w' base A cap n d:=by
 refine⟨h.1,?_⟩;rcases h.2 with h2|⟨g,vh,cur,h1,h2,h3,h4⟩
 ·exact .inl h2
 ·injection h1 with e1 e2 e3;exact .inr ⟨g,vh,cur,by rw[e1,e2,e3],h2,(hb g e1).trans h3,h4⟩
theorem sk (B c a fs m s t root n cap addr:Nat) (len want:Int) (A:Option Addr) (rl:List Reg) (clock:Int) (w:World) (S:Nat->Prop) (F:List Nd) (p:Pool) (L:List Slot) (T:Tab) (hold:Nat->Nat)
  (hH:Home w B c a fs m S F clock p L) (hO:One w B c a m S s t root A n cap rl) (xM:Sp F hold p L T) (ho:Own p T) (hr:T.nd 4 0=some root) (hR:Rgs F rl) (yO:addr<18446744073709551616) (wB: ∀f,hold f<=100000000000) (zy:0<=clock/\clock+32<1000000):
  Calls Tryz.prog 70 #[.pointer (some ⟨s,0,none⟩), .int .u64 (addr:Int), .int .i64 len, .int .u8 want] w (qg w S c a fs m F rl clock p L T hold addr len want):=by
 refine(callsIn_wide (n:=9)).1 ?_;refine callsIn_of_wp_marks Tryz.func70 rfl trivial ?_;simp only[Tryz.ntmps70,List.size_toArray,uU,List.length_nil,Nat.reduceAdd,Nat.reduceSub,Array.replicate_succ,Array.replicate_zero,List.push_toArray,List.append_toArray,List.nil_append,List.cons_append];obtain⟨w0,vl⟩: ∃w0,w0=((w.alloc (.cells #[.pointer (some ⟨s,0,none⟩)] 60)).alloc (.cells #[.slice none 0 0] 39)).alloc (.cells #[.int .i64 0] 32):=⟨_,rfl⟩;have vQ:w0.heap.size=w.heap.size+1+1+1:=(by rw[vl];simp);have vm:Below w.heap.size w w0:=(by rw[vl];exact(uJ.alloc (by simp) _).alloc (by simp;omega) _);have EI:w0.heap[w.heap.size+1+1]? =some (.cells #[.int .i64 0] 32 (0,0)):=by
  rw[vl];have:=ab ((w.alloc (.cells #[.pointer (some ⟨s,0,none⟩)] 60)).alloc (.cells #[.slice none 0 0] 39)) (.cells #[.int .i64 0] 32)
  rwa [World.size_alloc,World.size_alloc]at this
 have Ik:w0.heap[w.heap.size+1]? =some (.cells #[.slice none 0 0] 39 (0,0)):=by
  rw[vl];have:=ab (w.alloc (.cells #[.pointer (some ⟨s,0,none⟩)] 60)) (.cells #[.slice none 0 0] 39);rw[World.size_alloc]at this;exact(uL _ _ _ (by simp)).trans this
 have zo:w0.heap[w.heap.size]? =some (.cells #[.pointer (some ⟨s,0,none⟩)] 60 (0,0)):=by
  rw[vl];exact(uL _ _ _ (by simp;omega)).trans ((uL _ _ _ (by simp)).trans (ab w _))
 have yl:=(Run.start hH hO (fun _ e=>e)).below vm;have s0:w0.cell? ⟨w.heap.size,0,none⟩=some (.pointer (some ⟨s,0,none⟩)):=aa zo 0;have n0:w0.cell? ⟨w.heap.size+1,0,none⟩=some (.slice none 0 0):=aa Ik 0;have nf0:=ae Ik 0;have e0:w0.cell? ⟨w.heap.size+1+1,0,none⟩=some (.int .i64 0):=aa EI 0;have ef0:=ae EI 0;have Fm:w.heap.size+1<w0.heap.size:=(by omega);have BA:w.heap.size+1+1<w0.heap.size:=(by omega);have vF:=uH vl;have Cg:=uH vQ;have Vx:=uH EI;have NL:=uH Ik;have yQ:=uH zo;have yd:=uH yl;have yc:=uH xM;have yx:=uH ho;have HR:=uH hr;have UU:=uH hR;have wj:=uH vm;have xn:=cT s c a t n cap A w0 yl.one.self;have wi:=uH xn;clear xn vl vQ vm EI Ik zo yl hH hO xM ho hr hR;have two:=fun(w0:World) (v u:Value)=>((aj (S:=fun b=>b=w.heap.size+1\/b=w.heap.size+1+1) (w:=w0) (.inl rfl) 0 v).trans (Out.refl _ _) (aj (S:=fun b=>b=w.heap.size+1\/b=w.heap.size+1+1) (w:=w0.setCell ⟨w.heap.size+1,0,none⟩ v) (b:=w.heap.size+1+1) (.inr rfl) 0 u));have LU:=uH two;clear two;by_cases yu:len<0\/65536<len
 ·have Mp:=uH yu;have key:qg w S c a fs m F rl clock p L T hold addr len want (.returned (.tuple #[.slice none 0 0, .int .i64 1])) ((w0.setCell ⟨w.heap.size+1,0,none⟩ (.slice none 0 0)).setCell ⟨w.heap.size+1+1,0,none⟩ (.int .i64 1)):=by
   have vB:=yd.out.set (LU.out w0 (.slice none 0 0) (.int .i64 1)) (fun b e=> .inr (by have:=Cg.out;omega));exact⟨1,none,0,0,fun _ =>0,p,L,T,clock,S,rfl,vB.home.cache,vB.mod,vB.out,Int.le_refl _,by omega,OwnB.nilB _ _ _,⟨fun g e=>(by cases e),by omega⟩, .inl ⟨Mp.out,rfl,rfl,rfl,rfl⟩⟩
  have KEY:=uH key;clear key;rcases yu with SB|ya
  ·gi_wp2_with (first
    |(refine⟨trivial,?_⟩;rw[<-vF.out];refine(callsIn_wide.2 wi.out).mono ?_;rintro e w1 ⟨rfl,rfl⟩)
    |fail)
   exact⟨.tuple #[.slice none 0 0, .int .i64 1],by simp[results,Tryz.results70,go_sem,n0,e0,nf0,ef0,Fm,BA],KEY.out⟩
  ·have SB: ¬len<0:=(by omega);gi_wp2_with (first
    |(refine⟨trivial,?_⟩;rw[<-vF.out];refine(callsIn_wide.2 wi.out).mono ?_;rintro e w1 ⟨rfl,rfl⟩)
    |fail)
   exact⟨.tuple #[.slice none 0 0, .int .i64 1],by simp[results,Tryz.results70,go_sem,n0,e0,nf0,ef0,Fm,BA],KEY.out⟩
 have SB: ¬len<0:=fun h=>yu (.inl h);have ya: ¬65536<len:=fun h=>yu (.inr h);obtain⟨q,hq⟩: ∃q:Nat,len=(q:Int):=⟨len.toNat,by omega⟩;have Sm:len.toNat=q:=(by omega);have KK:q<=65536:=(by omega);have xN:=jE s c a t n cap A rl addr q want w0 yd.out.one.self yd.out.one.row yO (by omega);rw[<-hq]at xN;cases hpb:dS rl (addr,q) want with
 |false=>
  rw[hpb]at xN;have BQ:=uH xN;have Ma:=uH hpb;have HQ:=uH hq;clear xN hpb yu hq;gi_wp2_with (first
   |(refine⟨trivial,?_⟩;rw[<-vF.out];refine(callsIn_wide.2 wi.out).mono ?_;rintro e w1 ⟨rfl,rfl⟩)
   |(refine⟨trivial,?_⟩;refine(callsIn_wide.2 BQ.out).mono ?_;rintro e w1 ⟨rfl,vk⟩;have KS:=(vk.block _ Fm).trans NL.out;have vn:=(vk.block _ BA).trans Vx.out;have n1:w1.cell? ⟨w.heap.size+1,0,none⟩=some (.slice none 0 0):=aa KS 0;have nf1:=ae KS 0;have e1:w1.cell? ⟨w.heap.size+1+1,0,none⟩=some (.int .i64 0):=aa vn 0;have ef1:=ae vn 0;have Sz:w.heap.size+1<w1.heap.size:=(uG KS).1;have JC:w.heap.size+1+1<w1.heap.size:=(uG vn).1)
   |fail)
  refine⟨.tuple #[.slice none 0 0, .int .i64 6],by simp[results,Tryz.results70,go_sem,n1,e1,nf1,ef1,Sz,JC],?_⟩;have vB:=(yd.out.below vk).set (LU.out w1 (.slice none 0 0) (.int .i64 6)) (fun b e=> .inl (.inr (by have:=Cg.out;omega)));exact⟨6,none,0,0,fun _ =>0,p,L,T,clock,S,rfl,vB.home.cache,vB.mod,vB.out,Int.le_refl _,by omega,OwnB.nilB _ _ _,⟨fun g e=>(by cases e),by omega⟩, .inr (.inl ⟨by omega,by omega,by rw[Sm];exact Ma.out,rfl,rfl,rfl,rfl⟩)⟩
 |true=>
  have Ss:Perm rl (addr,q) want:=by
   unfold dS at hpb;exact @uZ _ (Classical.propDecidable _) hpb
  rw[hpb]at xN;have BQ:=uH xN;have Ma:=uH hpb;have HQ:=uH hq;have ND:=uH Ss;clear xN hpb yu hq Ss;gi_upto_region 8 with(first
   |(refine⟨trivial,?_⟩;rw[<-vF.out];refine(callsIn_wide.2 wi.out).mono ?_;rintro e w1 ⟨rfl,rfl⟩)
   |(refine⟨trivial,?_⟩;refine(callsIn_wide.2 BQ.out).mono ?_;rintro e w1 ⟨rfl,vk⟩)
   |fail)
  obtain⟨ob,KL⟩: ∃ob,w1.heap.size=ob:=⟨_,rfl⟩;have Eh:w.heap.size+3<=ob:=(by have:=vk.size;have:=Cg.out;omega);obtain⟨wa,Hy⟩: ∃wa,wa=w1.alloc (.cells #[.slice none 0 0] 39):=⟨_,rfl⟩;rw[<-Hy,KL];have Mt:wa.heap.size=ob+1:=(by rw[Hy];simp[KL]);have QV:Below w0.heap.size w0 wa:=(by rw[Hy];exact vk.alloc vk.size _);have TW:wa.heap[ob]? =some (.cells #[.slice none 0 0] 39 (0,0)):=(by rw[Hy,<-KL];exact ab w1 _);have WB:=uH TW;have Mq:=uH QV;clear Hy QV TW vk;gi_wp2_with (first
   |(refine⟨trivial,?_⟩;refine(callsIn_wide.2 (gF (addr:Int) len wa)).mono ?_;rintro e w2 ⟨rfl,vU⟩)
   |fail)
  have vO:w2.heap.size=ob+3:=(by rw[vU];simp[Mt]);have vs:Below wa.heap.size wa w2:=(by rw[vU];exact uJ.alloc (by simp) _);have Hl:w2.heap[ob+1]? =some (.cells #[.int .u64 (addr:Int)] 43 (0,0)):=(by rw[vU,<-Mt];exact(uL _ _ _ (by simp)).trans (ab wa _));have TY:w2.heap[ob+2]? =some (.cells #[.int .i64 len] 3 (0,0)):=by
   rw[vU];have:=ab (wa.alloc (.cells #[.int .u64 (addr:Int)] 43)) (.cells #[.int .i64 len] 3);rw[World.size_alloc,Mt]at this;exact this
  have xd:=uH (Mq.out.trans (vs.mono (by have:=Mq.out.size;omega)));have QF:=uH Hl;have xK:=uH TY;have BU:=uH ((vs.block _ (by omega)).trans WB.out);rw[<-vU];clear vU vs Hl TY;refine bI rfl (by omega) (gf:=155) (lb:= #[.pointer (some ⟨ob+1+1,0,none⟩), .pointer (some ⟨ob+1,0,none⟩)]) rfl trivial (enters_of Tryz.func155 (by kernel_rfl) rfl) ?_;rw[vO];intro fn CI rec wO;refine(gG (9-1) (by omega) (ob+3+1) (ob+1+1) (ob+1) (by omega) (addr,q) (by have:=ND.out.1;simp only at this⊢;omega) (fun k W=>LdJ w B c a fs m s t root n cap A rl S F clock p L T hold (addr,q) ob k W/\W.heap[ob+3+1]? =some (.loop (rec .ready none)))
   (fun W=>LdX w B c a fs m s t root n cap A rl S F clock p L T hold (addr,q) ob W/\W.heap[ob+3+1]? =some (.loop (rec .done (some .ret)))) ?_ ?_ _ ?_).mono ?_
  ·rintro k W ⟨⟨p',L',T',vi,S',A',vh,d,h1,h2,h3⟩,_⟩;exact h2.pg
  ·rintro k W ⟨hJ,hl⟩ vN;refine br trivial wO hl rfl ?_;obtain⟨p1,L1,T1,vp,S1,A1,vj,d1,vB,wV,xz,BF,xw,zl,Ig,wA⟩:=hJ;obtain⟨x,hx⟩: ∃x,x=(pst (addr,q) k).1:=⟨_,rfl⟩;obtain⟨M,hM⟩: ∃M,M=pm (pst (addr,q) k):=⟨_,rfl⟩;rw[<-hx,<-hM];have vH:=lB (addr,q) k vN;dsimp only at vH;have XN:k<=17:=(by omega);have HX:=uH hx;have HM:=uH hM;have CQ:=uH vB;have KG:=uH wV;have BS:=uH xz;have ye:=uH BF;have Lb:=uH Ig;have Vn:=uH wA;have yR:=uH vN;have Qe:=uH wO;have HL:=uH hl;clear hx hM vB wV xz BF Ig wA vN wO hl vH
   gi_wp2
   refine⟨HL.out,?_⟩;obtain⟨W2,vW⟩: ∃W2,W2=W.putObj (ob+3+1) (.loop (rec .busy none)):=⟨_,rfl⟩;rw[<-vW];have vy:Mod (fun b=>b=ob+3+1) W W2:=(by rw[vW];exact az);have vV:W2.heap[ob+3+1]? =some (.loop (rec .busy none)):=(by rw[vW];exact World.putObj_heap_same (uG HL.out).1);have vr:=CQ.out.set vy (fun b e=> .inl (by omega));have wD:=KG.out.keep Eh (W':=W2) (fun b h1 h2=>by
    rcases Nat.lt_or_ge b W.heap.size with h3|h3
    ·exact vy.block b h3 (by omega)
    ·rw[Array.getElem?_eq_none h3,Array.getElem?_eq_none];rw[vW,World.putObj_size];exact h3)
   have yG:OwnB W2 (ob+5) A1 vj (x-addr) d1:=by
    rw[HX.out];exact BS.out.sameR fun g hg=>vy.block g ((BS.out.blk g (by rw[hg];rfl)).2) (fun e=>by have:=(BS.out.blk g (by rw[hg];rfl)).1;omega)
   obtain⟨r,xU,_⟩:=ND.out.2 k yR.out;have FA:Ask F rl r (x/4096):=UU.out.ask (by rw[HX.out];exact xU);have Gb:x+(pst (addr,q) k).2=addr+q:=(by rw[HX.out];exact dh (addr,q) k);have hxb:x<=140737488355328:=(by have:=ND.out.1;simp only at this;omega);have yr:IntKind.u64.wrap ((x:Int)/4096*4096)=(x:Int)/4096*4096:=(by rw[IntKind.wrap_u64];omega);have BD:=nE B c a fs m s t root n cap (x/4096) A rl r vp ((x:Int)/4096*4096) W2 S1 F p1 L1 T1 hold vr.home vr.one ye.out.seen.kept.sp ye.out.seen.kept.own (ye.out.seen.kept.root _ HR.out) FA (by omega) wB (by omega);have yV:(Rg.find rl ((((pst (addr,q) k).1/4096:Nat):Int)*4096)).1=r:=(by rw[<-HX.out,FA.find]);have c0:W2.cell? ⟨w.heap.size,0,none⟩=some (.pointer (some ⟨s,0,none⟩)):=aa wD.b0 0;have Xt:ob+5<=W2.heap.size:=(by have:=(uG vV).1;omega);have FY:=uH BD;have UW:=uH yV;have vP:=uH vr;have xo:=uH wD;have CW:=uH yG;have FR:=uH vV;have HXS:=uH Gb;clear BD yV vr wD yG vV FA xU Gb vy vW;gi_upto_region 12 with(first
    |(refine⟨trivial,?_⟩;refine(CallsIn.inRound (ob+3+1) (callsIn_wide.2 FY.out)).mono ?_;rintro e W3 ⟨er,⟨fr,pr,cp⟩,p3,L3,T3,BN,S3,rfl,Bf,xh,AZ,An,xI,BE⟩;unfold ap)
    |fail)
   obtain⟨W4,DN⟩: ∃W4,W4=W3.alloc (.cells #[.int .i64 (fr:Int), .int .u8 (pr:Int), .bool cp] 83):=⟨_,rfl⟩;rw[<-DN];obtain⟨wk,Gk⟩:=vP.out.call Bf xh AZ;have vD:Below W3.heap.size W3 W4:=(by rw[DN];exact uJ);have AN:W4.heap.size=W3.heap.size+1:=(by rw[DN];simp);have Gt:W4.heap[W3.heap.size]? =some (.cells #[.int .i64 (fr:Int), .int .u8 (pr:Int), .bool cp] 83 (0,0)):=(by rw[DN];exact ab W3 _);have xq:=xh.size;have vX:=(wk.below vD).sub (K':=LdK w ob A1) (fun b e=> .inl e);have AG: ∀b,LdK w ob A1 b->W4.heap[b]? =W2.heap[b]? :=fun b hb=>(vD.block b ((vP.out.own b hb).2.2 |> fun h=>by omega)).trans (Gk b hb);have xO:=xo.out.keep Eh (W':=W4) (fun b h1 h2=>AG b (.inl (by omega)));have Lv:=(AG (ob+3+1) (.inl (by omega))).trans FR.out;have zh:OwnB W4 (ob+5) A1 vj (x-addr) d1:=CW.out.sameR fun g hg=>AG g (.inr (by rw[hg];rfl));have wW:=uH vX;have wh:=uH xO;have Mg:=uH Lv;have yS:=uH zh;have Ae:=uH Gt;have CA:=uH BE;have RC:w.heap.size<W4.heap.size:=(by omega);clear wk Gk vD Gt vX AG xO Lv zh BE Bf xh AZ DN yr c0 AN xq;have n0:W4.cell? ⟨w.heap.size+1,0,none⟩=some (.slice none 0 0):=aa wh.out.b1 0;have nf0:=ae wh.out.b1 0;have e0:W4.cell? ⟨w.heap.size+1+1,0,none⟩=some (.int .i64 0):=aa wh.out.b2 0;have ef0:=ae wh.out.b2 0;by_cases za:er=0
   rotate_left
   ·have vu:(er != 0)=true:=(by rw[bne_iff_ne];exact za);obtain⟨JB,xy⟩:=ye.out.fail yR.out UW.out (by rw[<-HX.out];exact CA.out) za;subst JB;have FI:=uH xy;clear xy za
    gi_wp2
    have Ca:=LU.out W4 (.slice none 0 0) (.int .i64 4);have vv:=wW.out.set Ca (fun b e=> .inl (by omega));have Gi:=(Ca.block _ (uG Mg.out).1 (by omega)).trans Mg.out;have wH:=(Ca.block _ (uG wh.out.mark).1 (by omega)).trans wh.out.mark;have ML:((W4.setCell ⟨w.heap.size+1,0,none⟩ (.slice none 0 0)).setCell ⟨w.heap.size+1+1,0,none⟩ (.int .i64 4)).heap[w.heap.size+1]? =some (.cells #[.slice none 0 0] 39 (0,0)):=
     ((aj (S:=fun b=>b=w.heap.size+1+1) rfl 0 _).block _ (by simp;exact(uG wh.out.b1).1) (by omega)).trans (bd wh.out.b1)
    have Ly:((W4.setCell ⟨w.heap.size+1,0,none⟩ (.slice none 0 0)).setCell ⟨w.heap.size+1+1,0,none⟩ (.int .i64 4)).heap[w.heap.size+1+1]? =some (.cells #[.int .i64 4] 32 (0,0)):=
     bd (((aj (S:=fun b=>b=w.heap.size+1) rfl 0 _).block _ (uG wh.out.b2).1 (by omega)).trans wh.out.b2)
    refine⟨Gi, .inr ⟨rfl,?_,World.putObj_heap_same (uG Gi).1⟩⟩;have AP:=az (l:=ob+3+1) (o:= .loop (rec .done (some .ret))) (W:=(W4.setCell ⟨w.heap.size+1,0,none⟩ (.slice none 0 0)).setCell ⟨w.heap.size+1+1,0,none⟩ (.int .i64 4));have wT:=vv.set AP (fun b e=> .inl (by omega));have AD: ∀ {b:Nat} {o:Obj},((W4.setCell ⟨w.heap.size+1,0,none⟩ (.slice none 0 0)).setCell ⟨w.heap.size+1+1,0,none⟩ (.int .i64 4)).heap[b]? =some o->b≠ob+3+1->(((W4.setCell ⟨w.heap.size+1,0,none⟩ (.slice none 0 0)).setCell ⟨w.heap.size+1+1,0,none⟩ (.int .i64 4)).putObj (ob+3+1) (.loop (rec .done (some .ret)))).heap[b]? =some o:=fun h1 h2=>(AP.block _ (uG h1).1 h2).trans h1;exact⟨p3,L3,T3,BN,S3,wT.sub (fun b e=>e.elim .inl (fun e=>by cases e)),by omega,by omega,FI.out,AD wH (by omega),AD ML (by omega),AD Ly (by omega)⟩
   subst za;obtain⟨g1,g2⟩:=CA.out.got rfl;obtain⟨v1,v2,v3,v4,v5,v6⟩:=CA.out.kept.sp.leaf g1;dsimp only at v2 v3 v4 v5 v6;have YL:0<M:=(by rw[HM.out];exact sL yR.out);have Be:M<=4096-x % 4096:=(by rw[HM.out,HX.out];exact Nat.min_le_right _ _);obtain⟨u,hu⟩: ∃u:Int,(x:Int) % 4096=u:=⟨_,rfl⟩;have QL:((x % 4096:Nat):Int)=u:=(by omega);have hu3:0<=u/\u<4096:=(by omega);have Xf:(x:Int).tmod 4096=u:=(by rw[Int.tmod_eq_emod_of_nonneg (by omega),hu]);have WV:IntKind.i64.wrap u=u:=(by rw[IntKind.wrap_i64];omega);have hload:=fA a fr (x % 4096) M W4.drew S3 p3 wW.out.home.cache.pool.drew v3 v4 (by omega) Be;rw[QL]at hload;have Bw:Calls Tryz.prog 122 #[.pointer (some ⟨a,0,none⟩), .int .i64 (fr:Int), .int .i64 u, .int .i64 (M:Int)] W4.drew fun e Wx=>e= .returned (.tuple #[.slice (some ⟨W4.heap.size,0,none⟩) M M, .int .i64 0])/\Hid (aN Wx W4.heap.size M (fun i=>p3.dat fr (x % 4096+i)))/\Hid (Below W4.heap.size W4 Wx)/\Hid (W4.heap.size<Wx.heap.size):=by
    refine hload.mono ?_;rintro e Wx ⟨rfl,hB,hz,Hf⟩;exact⟨rfl,uH hB,uH (bu Hf),uH hz⟩
   have Kw:=uH Bw;have HU2:=uH QL;have VG:=uH g1;have c0:W4.cell? ⟨w.heap.size,0,none⟩=some (.pointer (some ⟨s,0,none⟩)):=aa wh.out.b0 0;have s1:W4.cell? ⟨s,1,none⟩=some (.pointer (some ⟨a,0,none⟩)):=aa wW.out.one.self 1;obtain⟨⟨x0,x1,x2⟩,_,_⟩:=box3 Ae.out;have SI:Tryz.prog.follows .mixedOrders=true:=(by kernel_rfl);clear hload Bw QL g1 g2 v1 v2 v5 v6;gi_upto_region 14 with(fail);gi_cut [15]from 51 (fun b wx=>b= .slice (some ⟨W4.heap.size,0,none⟩) M M/\aN wx W4.heap.size M (fun i=>p3.dat fr (x % 4096+i))/\Below W4.heap.size W4 wx/\W4.heap.size<wx.heap.size)
   case first=>
    refine bO (fun w'=>w'.cell? ⟨w.heap.size,0,none⟩=some (.pointer (some ⟨s,0,none⟩))/\w'.cell? ⟨s,1,none⟩=some (.pointer (some ⟨a,0,none⟩))/\w'.cell? ⟨W3.heap.size,0,none⟩=some (.int .i64 (fr:Int))) 15 (by kernel_rfl) (by kernel_rfl) (cR.of 14 (by kernel_rfl) (by kernel_rfl)) ⟨c0,s1,x0⟩ ?_;intro Qo Bh;refine zt 0 ?_;refine zt 1 ?_;refine zt 2 ?_;refine zt 3 ?_;refine zt 4 ?_;refine zt 5 ?_;refine zt 6 ?_;refine zt 7 ?_;refine zt 8 ?_;refine zt 9 ?_;refine aR 10 (by kernel_rfl) rfl (fun K' hK=>?_)
    go_simp
    refine(Kw.out).mono ?_;rintro e W5 ⟨rfl,zC,BV,HZ5⟩;have c5:=(BV.out.cell (p:=⟨w.heap.size,0,none⟩) RC).trans c0;have s5:=(BV.out.cell (p:=⟨s,1,none⟩) (World.block_lt_of_cell? _ _ s1)).trans s1;have x5:=(BV.out.cell (p:=⟨W3.heap.size,0,none⟩) (World.block_lt_of_cell? _ _ x0)).trans x0;go_wp2_with fail;refine hK.out _ _ ⟨c5,s5,x5⟩ (fun Bh=>?_);clear hK K'
    try simp only[Act.put,List.setIfInBounds_toArray,List.set_cons_zero,List.set_cons_succ,List.getElem_toArray,List.getElem_cons_succ,List.getElem_cons_zero]
    refine zt 11 ?_;refine zt 12 ?_;refine zt 13 ?_;refine zt 14 ?_;refine aY 15 (by kernel_rfl) rfl rfl (fun K' hK=>?_)
    go_simp
    refine hK.out _ _ ?_;clear hK K';refine aZ (by kernel_rfl) ?_ _;refine aP ?_
    gi_wp2
    gi_meet;exact⟨rfl,zC.out,BV.out,HZ5.out⟩
   case rest=>
   obtain⟨rfl,Im,JZ,hZ5⟩:=hcut;have vv:=(wW.out.below JZ).sub (K':=LdK w ob A1) (fun b e=> .inl e);have GY: ∀b,LdK w ob A1 b->wc.heap[b]? =W4.heap[b]? :=fun b hb=>JZ.block b (wW.out.own b hb).2.2;have yN:=wh.out.keep Eh (W':=wc) (fun b h1 h2=>GY b (.inl (by omega)));have Gi:=(GY (ob+3+1) (.inl (by omega))).trans Mg.out;have Ay:OwnB wc (ob+5) A1 vj (x-addr) d1:=yS.out.sameR fun g hg=>GY g (.inr (by rw[hg];rfl));have o5:wc.cell? ⟨ob,0,none⟩=some (.slice A1 (x-addr) vj):=(by rw[HX.out];exact aa yN.out 0);have OI:ob<wc.heap.size:=(uG yN.out).1;have hxa:addr<=x:=(by have:=pK (addr,q) k;have:=dh (addr,q) k;rw[HX.out];dsimp only at *;omega);have Pd:x-addr+M<=10000000:=(by have:=HXS.out;omega);have zY:=uH vv;have Aa:=uH yN;have ZN:=uH Gi;have CT:=uH Ay;have zC:=uH Im;have vC:ob+5<=wc.heap.size:=(by have:=(uG Gi).1;omega);clear vv GY yN Gi Ay Im JZ hZ5 c0 s1 x0 x1 x2 n0 nf0 e0 ef0 Xf WV hu;gi_upto_region 15 with(fail);gi_wp2_with (gi_at_builtin;refine oZ rfl (.tmp 64) (.tmp 65) rfl (ob+5) A1 vj (x-addr) d1 rfl CT.out ⟨W4.heap.size,0,none⟩ M M (fun i=>p3.dat fr (x % 4096+i)) rfl zC.out.v YL Pd vC ?_;intro g Ar W6 Bs DM Cp Al;have DO:=((cu DM).block ob OI (fun e=>by have:=(CT.out.blk ob e).1;omega)).trans Aa.out.out;have o6:=aa DO 0;have of6:=ae DO 0);obtain⟨W7,EF⟩: ∃W7,W7=W6.setCell ⟨ob,0,none⟩ (.slice (some ⟨g,0,none⟩) (x-addr+M) Ar):=⟨_,rfl⟩;rw[<-EF];have wI:Mod (fun b=>b=ob) W6 W7:=(by rw[EF];exact aj (S:=fun b=>b=ob) rfl 0 _);have CL:W7.heap[ob]? =some (.cells #[.slice (some ⟨g,0,none⟩) (x-addr+M) Ar] 39 (0,0)):=(by rw[EF];exact bd DO);have Bc: ∀b,w.heap.size<=b->b<ob+5->W6.heap[b]? =wc.heap[b]? :=fun b h1 h2=>(cu DM).block b (by omega) (fun e=>by have:=(CT.out.blk b e).1;omega);have yM: ∀b,w.heap.size<=b->b<ob+5->b≠ob->W7.heap[b]? =wc.heap[b]? :=fun b h1 h2 h3=>(wI.block b (by have:=(cu DM).size;omega) h3).trans (Bc b h1 h2);have Ie:=(yM (ob+3+1) (by omega) (by omega) (by omega)).trans ZN.out;have AP:=az (l:=ob+3+1) (o:= .loop (rec .ready none)) (W:=W7);have yL: ∀ {b:Nat} {o:Obj},W7.heap[b]? =some o->b≠ob+3+1->(W7.putObj (ob+3+1) (.loop (rec .ready none))).heap[b]? =some o:=fun h1 h2=>(AP.block _ (uG h1).1 h2).trans h1;have IX:PgSt (W7.putObj (ob+3+1) (.loop (rec .ready none))) (ob+2) (ob+1) (pst (addr,q) k):=⟨yL ((yM _ (by omega) (by omega) (by omega)).trans Aa.out.pg.n) (by omega),yL ((yM _ (by omega) (by omega) (by omega)).trans Aa.out.pg.a) (by omega)⟩;obtain⟨Dd,yI⟩:=gz IX (by omega) (pst (addr,q) (k+1));have AF: ∀ {b:Nat} {o:Obj},W7.heap[b]? =some o->b≠ob+3+1->b≠ob+1->b≠ob+2->(cn (W7.putObj (ob+3+1) (.loop (rec .ready none))) (ob+2) (ob+1) (pst (addr,q) (k+1))).heap[b]? =some o:=fun h1 h2 h3 h4=>(yI.block _ (uG (yL h1 h2)).1 (by omega)).trans (yL h1 h2);have yp:(pst (addr,q) (k+1)).1=x+M:=(by rw[HX.out,HM.out];rfl);have CD:=(((((zY.out.grow (cu DM) (fun b e=> .inr e)).sub (K':=LdK w ob (some ⟨g,0,none⟩)) (fun b e=>by
    rcases e with e|e
    ·exact .inl (.inl e)
    ·have e2:b=g:=(by simpa using e.symm);subst e2;rcases Cp with h9|h9
     ·exact .inl (.inr h9)
     ·exact .inr ⟨by omega,Al⟩)).set wI (fun b e=> .inl (by omega))).set AP (fun b e=> .inl (by omega))).set yI (fun b e=> .inl (by omega)))
   have DK:ob+5<=g:=(by rcases Cp with h9|h9;exact(CT.out.blk g h9).1;omega);have Bp:OwnB (cn (W7.putObj (ob+3+1) (.loop (rec .ready none))) (ob+2) (ob+1) (pst (addr,q) (k+1))) (ob+5) (some ⟨g,0,none⟩) Ar ((pst (addr,q) (k+1)).1-addr) (fun i=>if i<x-addr then d1 i else p3.dat fr (x % 4096+(i-(x-addr)))):=by
    rw[yp,show x+M-addr=x-addr+M by omega];refine Bs.sameR fun g' Jz=>?_;injection Jz with Jz;injection Jz with Jz;subst Jz;exact((yI.block g (by have h1:=AP.size;have h2:=wI.size;exact uO Al (ve h2 h1)) (by omega)).trans (AP.block g (by have h2:=wI.size;omega) (by omega))).trans (wI.block g Al (by omega))
   have LF:=ye.out.step yR.out UW.out (by rw[<-HX.out];exact CA.out);refine⟨Ie, .inl ⟨rfl,IX,⟨p3,L3,T3,BN,S3,some ⟨g,0,none⟩,Ar,_,CD,⟨Dd,AF ((yM _ (by omega) (by omega) (by omega)).trans Aa.out.mark) (by omega) (by omega) (by omega),AF ((yM _ (by omega) (by omega) (by omega)).trans Aa.out.b0) (by omega) (by omega) (by omega),AF ((yM _ (by omega) (by omega) (by omega)).trans Aa.out.b1) (by omega) (by omega) (by omega),AF ((yM _ (by omega) (by omega) (by omega)).trans Aa.out.b2) (by omega) (by omega) (by omega),?_⟩,Bp,LF,by omega,by omega,fun i hi=>?_,fun j hj=>(by rcases Nat.lt_or_ge j k with h9|h9;exact Vn.out j h9;obtain rfl:j=k:=(by omega);exact yR.out)⟩,?_⟩⟩
   ·rw[yp,show(x+M-(addr,q).1)=x-addr+M by simp only;omega];exact AF CL (by omega) (by omega) (by omega)
   ·rw[yp]at hi;dsimp only at hi⊢;by_cases h1:i<x-addr
    ·rw[if_pos h1];exact Lb.out i (by rw[<-HX.out];(try dsimp only);omega)
    ·rw[if_neg h1];have h2:=pst_byte (addr,q) k i yR.out (by rw[<-HX.out];(try dsimp only);omega) (by rw[<-HX.out,<-HM.out];exact hi);rw[<-HX.out]at h2;dsimp only at h2;rw[h2.1,h2.2,<-LF.seen.cont _ _ (by omega),bm VG.out];congr 1;omega
   ·have Jj:=(uG Ie).1;exact(yI.block _ (by rw[World.putObj_size];exact Jj) (by omega)).trans (World.putObj_heap_same Jj)
  ·have vD:Below w2.heap.size w2 ((w2.alloc (.deferred (some []))).alloc (.loop (rec .ready none))):=uJ.alloc (by simp) _;have wX:=((yd.out.below xd.out).below vD).sub (K':=LdK w ob none) (fun b e=>by
    rcases e with e|e
    ·rcases Nat.lt_or_ge b w0.heap.size with h1|h1
     ·exact .inl (.inl (.inr ⟨e.1,h1⟩))
     ·rcases Nat.lt_or_ge b w2.heap.size with h2|h2
      ·exact .inl (.inr ⟨h1,h2⟩)
      ·exact .inr ⟨h2,by simp[vO];omega⟩
    ·cases e)
   have Cc:w.heap.size+1+1<w0.heap.size:=BA;have xR: ∀ {b:Nat} {o:Obj},w2.heap[b]? =some o->((w2.alloc (.deferred (some []))).alloc (.loop (rec .ready none))).heap[b]? =some o:=fun h1=>(bX (uG h1).1).trans h1;have yn: ∀ {b:Nat} {o:Obj},w0.heap[b]? =some o->((w2.alloc (.deferred (some []))).alloc (.loop (rec .ready none))).heap[b]? =some o:=fun h1=>xR ((xd.out.block _ (uG h1).1).trans h1);refine⟨⟨p,L,T,clock,S,none,0,fun _ =>0,wX,⟨⟨?_,xR QF.out⟩,?_,yn yQ.out,yn NL.out,yn Vx.out,?_⟩,?_,fR.start yc.out yx.out,Int.le_refl _,by omega,fun i hi=>absurd hi (by show¬addr+i<addr;omega),fun j hj=>absurd hj (by omega)⟩,?_⟩
   ·have:=xK.out;rw[HQ.out]at this;exact xR this
   ·have:=ab w2 (.deferred (some []));rw[vO]at this;exact(uL _ _ _ (by simp[vO])).trans this
   ·have:(pst (addr,q) 0).1-(addr,q).1=0:=Nat.sub_self _;rw[this];exact xR BU.out
   ·have:(pst (addr,q) 0).1-(addr,q).1=0:=Nat.sub_self _;rw[this];exact OwnB.nilB _ _ _
   ·have:=ab (w2.alloc (.deferred (some []))) (.loop (rec .ready none))
    rwa [World.size_alloc,vO]at this
  ·rintro e W ⟨hv,⟨k,yn,⟨p1,L1,T1,vp,S1,A1,vj,d1,vB,wV,xz,BF,xw,zl,Ig,wA⟩,hl⟩|⟨⟨p1,L1,T1,vp,S1,vB,xw,zl,xy,Gg,hn,he⟩,hl⟩⟩
   ·refine⟨hv, .inl ⟨hl,?_⟩⟩;obtain⟨W2,vW⟩: ∃W2,W2=W.putObj (ob+3+1) (.loop (rec .exhausted none)):=⟨_,rfl⟩;rw[<-vW];have XM:k<=32:=by
     rcases k with _ |k
     ·omega
     ·have:=lB (addr,q) k (wA k (by omega));dsimp only at this;omega
    have xQ:=dh (addr,q) k;rw[yn,Nat.add_zero]at xQ;dsimp only at xQ;have vy:Mod (fun b=>b=ob+3+1) W W2:=(by rw[vW];exact az);have vr:=vB.set vy (fun b e=> .inl (by omega));have xk: ∀ {b:Nat} {o:Obj},W.heap[b]? =some o->b≠ob+3+1->W2.heap[b]? =some o:=fun h1 h2=>(vy.block _ (uG h1).1 h2).trans h1;have zp:=xk wV.out (by omega);have FD:=xk wV.b1 (by omega);have KT:=xk wV.b2 (by omega);have Be:=xk wV.mark (by omega);have yG:OwnB W2 (ob+5) A1 vj q d1:=by
     have h9:=xz.sameR (w':=W2) fun g hg=>vy.block g ((xz.blk g (by rw[hg];rfl)).2) (fun e=>by have:=(xz.blk g (by rw[hg];rfl)).1;omega)
     rwa [xQ,show addr+q-(addr,q).1=q by simp]at h9
    rw[xQ,show addr+q-(addr,q).1=q by simp]at zp;have o0:W2.cell? ⟨ob,0,none⟩=some (.slice A1 q vj):=aa zp 0;have n0:W2.cell? ⟨w.heap.size+1,0,none⟩=some (.slice none 0 0):=aa FD 0;have nf0:=ae FD 0;have e0:W2.cell? ⟨w.heap.size+1+1,0,none⟩=some (.int .i64 0):=aa KT 0;have ef0:=ae KT 0;have vP:=uH vr;have KW:=uH FD;have NX:=uH KT;have Bi:=uH Be;have CU:=uH yG;have CA:=uH BF;have HD3:=uH Ig;have Rw:=uH yn;have LY:=uH xQ;clear vW vy vr xk zp FD KT Be yG vB wV xz BF Ig wA hl hv yn xQ;unfold dk
    gi_wp2
    have Ca:=LU.out W2 (.slice A1 q vj) (.int .i64 0);have vX:=vP.out.set Ca (fun b e=> .inl (by omega));obtain⟨W4,DN⟩: ∃W4,W4=(W2.setCell ⟨w.heap.size+1,0,none⟩ (.slice A1 q vj)).setCell ⟨w.heap.size+1+1,0,none⟩ (.int .i64 0):=⟨_,rfl⟩;have El:W4.heap[w.heap.size+1]? =some (.cells #[.slice A1 q vj] 39 (0,0)):=by
     rw[DN];exact((aj (S:=fun b=>b=w.heap.size+1+1) rfl 0 _).block _ (by simp;exact(uG KW.out).1) (by omega)).trans (bd KW.out)
    have he4:W4.heap[w.heap.size+1+1]? =some (.cells #[.int .i64 0] 32 (0,0)):=by
     rw[DN];exact bd (((aj (S:=fun b=>b=w.heap.size+1) rfl 0 _).block _ (uG NX.out).1 (by omega)).trans NX.out)
    rw[<-DN]at Ca vX⊢;have hK:W4.heap[ob+3]? =some (.deferred (some [])):=(Ca.block _ (uG Bi.out).1 (by omega)).trans Bi.out;refine⟨by simp, .inl ⟨_,_,rfl,run_takeDeferred hK,?_⟩⟩;have Bt:=az (l:=ob+3) (o:= .deferred none) (W:=W4);have vv:=vX.set Bt (fun b e=> .inl (by omega));have ML:=(Bt.block _ (uG El).1 (by omega)).trans El;have Ly:=(Bt.block _ (uG he4).1 (by omega)).trans he4;have c1:=aa ML 0;have c2:=aa Ly 0;have Ay:OwnB (W4.putObj (ob+3) (.deferred none)) (ob+5) A1 vj q d1:=CU.out.sameR fun g hg=>by
     obtain⟨h1,h2⟩:=CU.out.blk g (by rw[hg];rfl);exact(Bt.block g (by have:=Ca.size;omega) (by omega)).trans (Ca.block g h2 (by omega))
    refine⟨.tuple #[.slice A1 q vj, .int .i64 0],by simp[results,Tryz.results70,go_sem,c1,c2],?_⟩;refine⟨0,A1,q,vj,d1,p1,L1,T1,vp,S1,rfl,vv.home.cache,vv.mod,vv.out,xw,by omega,Ay.lower (by omega),⟨fun g hg=>(vv.own g (.inr hg)).1,by omega⟩, .inr (.inr (.inr ⟨by omega,by omega,by rw[Sm];exact Ma.out,rfl,HQ.out.symm,?_,fun i hi=>HD3.out i (by rw[LY.out];(try dsimp only);omega)⟩))⟩;rw[Sm];exact⟨k,Rw.out,CA.out⟩
   ·refine⟨hv, .inr ⟨_,hl,?_⟩⟩;obtain⟨W2,vW⟩: ∃W2,W2=W.putObj (ob+3+1) (.loop (rec .exhausted (some .ret))):=⟨_,rfl⟩;rw[<-vW];have vy:Mod (fun b=>b=ob+3+1) W W2:=(by rw[vW];exact az);have vr:=vB.set vy (fun b e=> .inl (by omega));have xk: ∀ {b:Nat} {o:Obj},W.heap[b]? =some o->b≠ob+3+1->W2.heap[b]? =some o:=fun h1 h2=>(vy.block _ (uG h1).1 h2).trans h1;have FD:=xk hn (by omega);have KT:=xk he (by omega);have Be:=xk Gg (by omega);have vP:=uH vr;have KW:=uH FD;have NX:=uH KT;have Bi:=uH Be;have Ho:=uH xy;clear vW vy vr xk FD KT Be vB xy Gg hn he hl hv;unfold dk
    gi_wp2
    refine⟨by simp, .inl ⟨_,_,rfl,run_takeDeferred Bi.out,?_⟩⟩;have Bt:=az (l:=ob+3) (o:= .deferred none) (W:=W2);have vv:=vP.out.set Bt (fun b e=> .inl (by omega));have ML:=(Bt.block _ (uG KW.out).1 (by omega)).trans KW.out;have Ly:=(Bt.block _ (uG NX.out).1 (by omega)).trans NX.out;have c1:=aa ML 0;have c2:=aa Ly 0;refine⟨.tuple #[.slice none 0 0, .int .i64 4],by simp[results,Tryz.results70,go_sem,c1,c2],?_⟩;refine⟨4,none,0,0,fun _ =>0,p1,L1,T1,vp,S1,rfl,vv.home.cache,vv.mod,vv.out,xw,zl,OwnB.nilB _ _ _,⟨fun g hg=>(by cases hg),by omega⟩, .inr (.inr (.inl ⟨by omega,by omega,by rw[Sm];exact Ma.out,rfl,?_⟩))⟩;rw[Sm];exact Ho.out
end
