/- Spaces: load. -/
import Derived.Test.YtoochjhipmpehaaGreatDoorSpFK
import Derived.Test.YtoochjhipmpehaaGreatDoorSpHK
import Derived.Sort.CutIn
set_option linter.unusedVariables false
set_option linter.unusedSimpArgs false
set_option maxRecDepth 100000
set_option maxHeartbeats 8000000
namespace Go.Proofs.YtoochjhipmpehaaGreatDoor
section
open Go.RowKit Go.Sort
attribute [local go_sem] Oper.semAt_some
section
variable {w W W':World} {G K:Nat->Prop} {B c a fs m s t root:Nat} {A:Option Addr} {n cap:Nat} {rl:List Reg} {S0 S S':Nat->Prop} {F:List Nd} {clock vm:Int} {p p':Pool} {L L':List Slot}
theorem Run.grow {X:Nat->Prop} (h:Run w W G K B c a fs m s t root A n cap rl S0 S F clock p L) (hm:Mod X W W') (hX: ∀b,X b->K b):Run w W' G (fun b=>K b\/(W.heap.size<=b/\b<W'.heap.size)) B c a fs m s t root A n cap rl S0 S F clock p L:=by
 have h2:=h.set hm hX;refine⟨h2.home,h2.one,h2.mod,h2.out,h2.foot,h2.low,fun b hb=>?_,fun ad e hk=>?_⟩
 ·rcases hb with hb|hb
  ·exact h2.own b hb
  ·have:=h.size;exact⟨fun e=>by have:=h.home.lts.2.2 b e;omega,by omega,hb.2⟩
 ·rcases hk with hk|hk
  ·exact h.row ad e hk
  ·have:=(h.one.noR ad e).2.2.2.2.2.2;omega
end
variable {w w':World} {A:Option Addr}
theorem cC (h:w.grownBy w' (A.map (·.block))):Mod (fun b=>A.map (·.block)=some b) w w':=⟨h.os,h.tape,h.output,h.size,fun b hb hn=>h.block b hb fun e=>hn e.symm⟩
variable {W:World} {x:Nat×Nat}
theorem gE {b1 b2:Nat} (h:PgSt W b1 b2 x) (vB:b1≠b2) (y:Nat×Nat):PgSt (cB W b1 b2 y) b1 b2 y/\Mod (fun b=>b=b1\/b=b2) W (cB W b1 b2 y):=by
 have hm:Mod (fun b=>b=b1\/b=b2) W (cB W b1 b2 y):=(al (S:=fun b=>b=b1\/b=b2) (.inr rfl) 0 _).trans (Out.refl _ _) (al (.inl rfl) 0 _);refine⟨⟨?_,?_⟩,hm⟩
 ·have h1:=(al (S:=fun b=>b=b2) (w:=W) rfl 0 (.int .u64 (y.1:Int))).block b1 (uJ h.n).1 vB;exact bq (h1.trans h.n)
 ·have h1:=bq (y:= .int .u64 (y.1:Int)) h.a;exact((al (S:=fun b=>b=b1) rfl 0 _).block b2 (uJ h1).1 (fun e=>vB e.symm)).trans h1
structure LdBox (w W:World) (s ob:Nat) (x:Nat×Nat) (k:Nat) (A':Option Addr) (vk:Nat):Prop where
 pg:PgSt W (ob+2) (ob+1) (pst x k)
 mark:W.heap[ob+3]? =some (.deferred (some []))
 b0:W.heap[w.heap.size]? =some (.cells #[.pointer (some ⟨s,0,none⟩)] 60 (0,0))
 b1:W.heap[w.heap.size+1]? =some (.cells #[.slice none 0 0] 39 (0,0))
 b2:W.heap[w.heap.size+1+1]? =some (.cells #[.int .i64 0] 32 (0,0))
 out:W.heap[ob]? =some (.cells #[.slice A' ((pst x k).1-x.1) vk] 39 (0,0))
theorem LdBox.keep {W':World} {s ob:Nat} {k:Nat} {A':Option Addr} {vk:Nat} (h:LdBox w W s ob x k A' vk) (Lz:w.heap.size+3<=ob) (hk: ∀b,w.heap.size<=b->b<ob+4->W'.heap[b]? =W.heap[b]?):LdBox w W' s ob x k A' vk:=
 ⟨⟨(hk _ (by omega) (by omega)).trans h.pg.n,(hk _ (by omega) (by omega)).trans h.pg.a⟩,(hk _ (by omega) (by omega)).trans h.mark,(hk _ (by omega) (by omega)).trans h.b0,(hk _ (by omega) (by omega)).trans h.b1,(hk _ (by omega) (by omega)).trans h.b2,(hk _ (by omega) (by omega)).trans h.out⟩
def LdK (w:World) (ob:Nat) (A':Option Addr):Nat->Prop:=fun b=>(w.heap.size<=b/\b<ob+5)\/A'.map (·.block)=some b
def LdJ (w:World) (B c a fs m s t root n cap:Nat) (A:Option Addr) (rl:List Reg) (S:Nat->Prop) (F:List Nd) (clock:Int) (p:Pool) (L:List Slot) (T:Tab) (hold:Nat->Nat) (x:Nat×Nat) (ob k:Nat) (W:World):Prop:=
 ∃p' L' T' vm S' A' vk d,Run w W (av S c m) (LdK w ob A') B c a fs m s t root A n cap rl S S' F vm p' L'/\LdBox w W s ob x k A' vk/\OwnB W (ob+5) A' vk ((pst x k).1-x.1) d/\fW F hold rl x k p L T p' L' T'/\clock<=vm/\vm<=clock+k/\(∀i,x.1+i<(pst x k).1->d i=cont F rl p T ((x.1+i)/4096) ((x.1+i) % 4096))/\ ∀j,j<k->0<(pst x j).2
def LdX (w:World) (B c a fs m s t root n cap:Nat) (A:Option Addr) (rl:List Reg) (S:Nat->Prop) (F:List Nd) (clock:Int) (p:Pool) (L:List Slot) (T:Tab) (hold:Nat->Nat) (x:Nat×Nat) (ob:Nat) (W:World):Prop:=
 ∃p' L' T' vm S',Run w W (av S c m) (LdK w ob none) B c a fs m s t root A n cap rl S S' F vm p' L'/\clock<=vm/\vm<=clock+32/\Short F hold rl x p L T p' L' T'/\W.heap[ob+3]? =some (.deferred (some []))/\W.heap[w.heap.size+1]? =some (.cells #[.slice none 0 0] 39 (0,0))/\W.heap[w.heap.size+1+1]? =some (.cells #[.int .i64 4] 32 (0,0))
def eU (F:List Nd) (hold:Nat->Nat) (rl:List Reg) (p:Pool) (L:List Slot) (T:Tab) (addr:Nat) (len want:Int) (er:Int) (k:Nat) (d:Nat->Nat) (p':Pool) (L':List Slot) (T':Tab):Prop:=
 ((len<0\/65536<len)/\er=1/\p'=p/\L'=L/\T'=T)\/
 (0<=len/\len<=65536/\en rl (addr,len.toNat) want=false/\er=6/\p'=p/\L'=L/\T'=T)\/
 (0<=len/\len<=65536/\en rl (addr,len.toNat) want=true/\er=4/\Short F hold rl (addr,len.toNat) p L T p' L' T')\/
 (0<=len/\len<=65536/\en rl (addr,len.toNat) want=true/\er=0/\(k:Int)=len/\(∃j,(pst (addr,len.toNat) j).2=0/\fW F hold rl (addr,len.toNat) j p L T p' L' T')/\ ∀i,i<k->d i=cont F rl p T ((addr+i)/4096) ((addr+i) % 4096))
def ql (w:World) (S:Nat->Prop) (c a fs m:Nat) (F:List Nd) (rl:List Reg) (clock:Int) (p:Pool) (L:List Slot) (T:Tab) (hold:Nat->Nat) (addr:Nat) (len want:Int) (e:Ending) (w':World):Prop:=
 ∃er R k cp d p' L' T' vm S',e= .returned (.tuple #[.slice R k cp, .int .i64 er])/\ap w' S' c a fs m vm p' L'/\Mod (av S c m) w w'/\Out S S' w/\clock<=vm/\vm<=clock+32/\OwnB w' w.heap.size R cp k d/\((∀g,R.map (·.block)=some g-> ¬S' g)/\k<=65536)/\eU F hold rl p L T addr len want er k d p' L' T'
theorem OwnB.nilB (w:World) (base:Nat) (d:Nat->Nat):OwnB w base none 0 0 d:=⟨rfl, .inl ⟨rfl,rfl⟩⟩
variable {base cap n:Nat} {d:Nat->Nat}
theorem OwnB.blk (h:OwnB w base A cap n d): ∀g,A.map (·.block)=some g->base<=g/\g<w.heap.size:=fun g e=>by
 rcases h.2 with⟨h2,_⟩|⟨g',vk,cur,h1,h2,h3,_⟩
 ·injection h2 with e1;rw[e1]at e;cases e
 ·injection h1 with e1;rw[e1]at e;simp at e;subst e;exact⟨h2,(uJ h3).1⟩
theorem OwnB.sameR (h:OwnB w base A cap n d) (hb: ∀g,A=some ⟨g,0,none⟩->w'.heap[g]? =w.heap[g]?):OwnB w' base A cap n d:=by
 refine⟨h.1,?_⟩;rcases h.2 with h2|⟨g,vk,cur,h1,h2,h3,h4⟩
 ·exact .inl h2
 ·injection h1 with e1 e2 e3;exact .inr ⟨g,vk,cur,by rw[e1,e2,e3],h2,(hb g e1).trans h3,h4⟩
theorem sm (B c a fs m s t root n cap addr:Nat) (len want:Int) (A:Option Addr) (rl:List Reg) (clock:Int) (w:World) (S:Nat->Prop) (F:List Nd) (p:Pool) (L:List Slot) (T:Tab) (hold:Nat->Nat)
  (hH:Home w B c a fs m S F clock p L) (hO:One w B c a m S s t root A n cap rl) (yw:Sp F hold p L T) (ho:Own p T) (hr:T.nd 4 0=some root) (hR:Rgs F rl) (vW:addr<18446744073709551616) (wT: ∀f,hold f<=100000000000) (Al:0<=clock/\clock+32<1000000):
  Calls Tryz.prog 70 #[.pointer (some ⟨s,0,none⟩), .int .u64 (addr:Int), .int .i64 len, .int .u8 want] w (ql w S c a fs m F rl clock p L T hold addr len want):=by
 refine(callsIn_wide (n:=9)).1 ?_;refine callsIn_of_wp_marks Tryz.func70 rfl trivial ?_;simp only[Tryz.ntmps70,List.size_toArray,uX,List.length_nil,Nat.reduceAdd,Nat.reduceSub,Array.replicate_succ,Array.replicate_zero,List.push_toArray,List.append_toArray,List.nil_append,List.cons_append];obtain⟨w0,vo⟩: ∃w0,w0=((w.alloc (.cells #[.pointer (some ⟨s,0,none⟩)] 60)).alloc (.cells #[.slice none 0 0] 39)).alloc (.cells #[.int .i64 0] 32):=⟨_,rfl⟩;have wb:w0.heap.size=w.heap.size+1+1+1:=(by rw[vo];simp);have vp:Below w.heap.size w w0:=(by rw[vo];exact(uM.alloc (by simp) _).alloc (by simp;omega) _);have Fw:w0.heap[w.heap.size+1+1]? =some (.cells #[.int .i64 0] 32 (0,0)):=by
  rw[vo];have:=ab ((w.alloc (.cells #[.pointer (some ⟨s,0,none⟩)] 60)).alloc (.cells #[.slice none 0 0] 39)) (.cells #[.int .i64 0] 32)
  rwa [World.size_alloc,World.size_alloc]at this
 have Jk:w0.heap[w.heap.size+1]? =some (.cells #[.slice none 0 0] 39 (0,0)):=by
  rw[vo];have:=ab (w.alloc (.cells #[.pointer (some ⟨s,0,none⟩)] 60)) (.cells #[.slice none 0 0] 39);rw[World.size_alloc]at this;exact(uO _ _ _ (by simp)).trans this
 have zZ:w0.heap[w.heap.size]? =some (.cells #[.pointer (some ⟨s,0,none⟩)] 60 (0,0)):=by
  rw[vo];exact(uO _ _ _ (by simp;omega)).trans ((uO _ _ _ (by simp)).trans (ab w _))
 have yZ:=(Run.start hH hO (fun _ e=>e)).below vp;have s0:w0.cell? ⟨w.heap.size,0,none⟩=some (.pointer (some ⟨s,0,none⟩)):=aa zZ 0;have n0:w0.cell? ⟨w.heap.size+1,0,none⟩=some (.slice none 0 0):=aa Jk 0;have nf0:=ae Jk 0;have e0:w0.cell? ⟨w.heap.size+1+1,0,none⟩=some (.int .i64 0):=aa Fw 0;have ef0:=ae Fw 0;have Gh:w.heap.size+1<w0.heap.size:=(by omega);have Cf:w.heap.size+1+1<w0.heap.size:=(by omega);have vR:=uK vo;have CR:=uK wb;have VR:=uK Fw;have Ow:=uK Jk;have zG:=uK zZ;have yR:=uK yZ;have yQ:=uK yw;have zj:=uK ho;have HR:=uK hr;have Vm:=uK hR;have wI:=uK vp;have xQ:=eI s c a t n cap A w0 yZ.one.self;have wG:=uK xQ;clear xQ vo wb vp Fw Jk zZ yZ hH hO yw ho hr hR;have two:=fun(w0:World) (v u:Value)=>((al (S:=fun b=>b=w.heap.size+1\/b=w.heap.size+1+1) (w:=w0) (.inl rfl) 0 v).trans (Out.refl _ _) (al (S:=fun b=>b=w.heap.size+1\/b=w.heap.size+1+1) (w:=w0.setCell ⟨w.heap.size+1,0,none⟩ v) (b:=w.heap.size+1+1) (.inr rfl) 0 u));have MI:=uK two;clear two;by_cases zh:len<0\/65536<len
 ·have Na:=uK zh;have key:ql w S c a fs m F rl clock p L T hold addr len want (.returned (.tuple #[.slice none 0 0, .int .i64 1])) ((w0.setCell ⟨w.heap.size+1,0,none⟩ (.slice none 0 0)).setCell ⟨w.heap.size+1+1,0,none⟩ (.int .i64 1)):=by
   have vJ:=yR.out.set (MI.out w0 (.slice none 0 0) (.int .i64 1)) (fun b e=> .inr (by have:=CR.out;omega));exact⟨1,none,0,0,fun _ =>0,p,L,T,clock,S,rfl,vJ.home.cache,vJ.mod,vJ.out,Int.le_refl _,by omega,OwnB.nilB _ _ _,⟨fun g e=>(by cases e),by omega⟩, .inl ⟨Na.out,rfl,rfl,rfl,rfl⟩⟩
  have KEY:=uK key;clear key;rcases zh with SX|yO
  ·gi_wp2_with (first
    |(refine⟨trivial,?_⟩;rw[<-vR.out];refine(callsIn_wide.2 wG.out).mono ?_;rintro e w1 ⟨rfl,rfl⟩)
    |fail)
   exact⟨.tuple #[.slice none 0 0, .int .i64 1],by simp[results,Tryz.results70,go_sem,n0,e0,nf0,ef0,Gh,Cf],KEY.out⟩
  ·have SX: ¬len<0:=(by omega);gi_wp2_with (first
    |(refine⟨trivial,?_⟩;rw[<-vR.out];refine(callsIn_wide.2 wG.out).mono ?_;rintro e w1 ⟨rfl,rfl⟩)
    |fail)
   exact⟨.tuple #[.slice none 0 0, .int .i64 1],by simp[results,Tryz.results70,go_sem,n0,e0,nf0,ef0,Gh,Cf],KEY.out⟩
 have SX: ¬len<0:=fun h=>zh (.inl h);have yO: ¬65536<len:=fun h=>zh (.inr h);obtain⟨q,hq⟩: ∃q:Nat,len=(q:Int):=⟨len.toNat,by omega⟩;have SE:len.toNat=q:=(by omega);have Ly:q<=65536:=(by omega);have yx:=jE s c a t n cap A rl addr q want w0 yR.out.one.self yR.out.one.row vW (by omega);rw[<-hq]at yx;cases hpb:en rl (addr,q) want with
 |false=>
  rw[hpb]at yx;have CC:=uK yx;have ML:=uK hpb;have HQ:=uK hq;clear yx hpb zh hq;gi_wp2_with (first
   |(refine⟨trivial,?_⟩;rw[<-vR.out];refine(callsIn_wide.2 wG.out).mono ?_;rintro e w1 ⟨rfl,rfl⟩)
   |(refine⟨trivial,?_⟩;refine(callsIn_wide.2 CC.out).mono ?_;rintro e w1 ⟨rfl,vl⟩;have LH:=(vl.block _ Gh).trans Ow.out;have vr:=(vl.block _ Cf).trans VR.out;have n1:w1.cell? ⟨w.heap.size+1,0,none⟩=some (.slice none 0 0):=aa LH 0;have nf1:=ae LH 0;have e1:w1.cell? ⟨w.heap.size+1+1,0,none⟩=some (.int .i64 0):=aa vr 0;have ef1:=ae vr 0;have SV:w.heap.size+1<w1.heap.size:=(uJ LH).1;have Kw:w.heap.size+1+1<w1.heap.size:=(uJ vr).1)
   |fail)
  refine⟨.tuple #[.slice none 0 0, .int .i64 6],by simp[results,Tryz.results70,go_sem,n1,e1,nf1,ef1,SV,Kw],?_⟩;have vJ:=(yR.out.below vl).set (MI.out w1 (.slice none 0 0) (.int .i64 6)) (fun b e=> .inl (.inr (by have:=CR.out;omega)));exact⟨6,none,0,0,fun _ =>0,p,L,T,clock,S,rfl,vJ.home.cache,vJ.mod,vJ.out,Int.le_refl _,by omega,OwnB.nilB _ _ _,⟨fun g e=>(by cases e),by omega⟩, .inr (.inl ⟨by omega,by omega,by rw[SE];exact ML.out,rfl,rfl,rfl,rfl⟩)⟩
 |true=>
  have SJ:Perm rl (addr,q) want:=by
   unfold en at hpb;exact @vc _ (Classical.propDecidable _) hpb
  rw[hpb]at yx;have CC:=uK yx;have ML:=uK hpb;have HQ:=uK hq;have Oq:=uK SJ;clear yx hpb zh hq SJ;gi_upto_region 8 with(first
   |(refine⟨trivial,?_⟩;rw[<-vR.out];refine(callsIn_wide.2 wG.out).mono ?_;rintro e w1 ⟨rfl,rfl⟩)
   |(refine⟨trivial,?_⟩;refine(callsIn_wide.2 CC.out).mono ?_;rintro e w1 ⟨rfl,vl⟩)
   |fail)
  obtain⟨ob,Lz⟩: ∃ob,w1.heap.size=ob:=⟨_,rfl⟩;have EU:w.heap.size+3<=ob:=(by have:=vl.size;have:=CR.out;omega);obtain⟨wa,Jc⟩: ∃wa,wa=w1.alloc (.cells #[.slice none 0 0] 39):=⟨_,rfl⟩;rw[<-Jc,Lz];have Nc:wa.heap.size=ob+1:=(by rw[Jc];simp[Lz]);have Rz:Below w0.heap.size w0 wa:=(by rw[Jc];exact vl.alloc vl.size _);have Us:wa.heap[ob]? =some (.cells #[.slice none 0 0] 39 (0,0)):=(by rw[Jc,<-Lz];exact ab w1 _);have WS:=uK Us;have Nb:=uK Rz;clear Jc Rz Us vl;gi_wp2_with (first
   |(refine⟨trivial,?_⟩;refine(callsIn_wide.2 (gJ (addr:Int) len wa)).mono ?_;rintro e w2 ⟨rfl,we⟩)
   |fail)
  have vS:w2.heap.size=ob+3:=(by rw[we];simp[Nc]);have vs:Below wa.heap.size wa w2:=(by rw[we];exact uM.alloc (by simp) _);have IS:w2.heap[ob+1]? =some (.cells #[.int .u64 (addr:Int)] 43 (0,0)):=(by rw[we,<-Nc];exact(uO _ _ _ (by simp)).trans (ab wa _));have Uu:w2.heap[ob+2]? =some (.cells #[.int .i64 len] 3 (0,0)):=by
   rw[we];have:=ab (wa.alloc (.cells #[.int .u64 (addr:Int)] 43)) (.cells #[.int .i64 len] 3);rw[World.size_alloc,Nc]at this;exact this
  have xi:=uK (Nb.out.trans (vs.mono (by have:=Nb.out.size;omega)));have Rc:=uK IS;have yu:=uK Uu;have CF:=uK ((vs.block _ (by omega)).trans WS.out);rw[<-we];clear we vs IS Uu;refine bP rfl (by omega) (gf:=155) (lb:= #[.pointer (some ⟨ob+1+1,0,none⟩), .pointer (some ⟨ob+1,0,none⟩)]) rfl trivial (enters_of Tryz.func155 (by kernel_rfl) rfl) ?_;rw[vS];intro fn Dy rec xx;refine(gK (9-1) (by omega) (ob+3+1) (ob+1+1) (ob+1) (by omega) (addr,q) (by have:=Oq.out.1;simp only at this⊢;omega) (fun k W=>LdJ w B c a fs m s t root n cap A rl S F clock p L T hold (addr,q) ob k W/\W.heap[ob+3+1]? =some (.loop (rec .ready none)))
   (fun W=>LdX w B c a fs m s t root n cap A rl S F clock p L T hold (addr,q) ob W/\W.heap[ob+3+1]? =some (.loop (rec .done (some .ret)))) ?_ ?_ _ ?_).mono ?_
  ·rintro k W ⟨⟨p',L',T',vm,S',A',vk,d,h1,h2,h3⟩,_⟩;exact h2.pg
  ·rintro k W ⟨hJ,hl⟩ vX;refine bB trivial xx hl rfl ?_;obtain⟨p1,L1,T1,vt,S1,A1,vn,d1,vJ,xB,ye,Ck,xY,Am,Jh,wS⟩:=hJ;obtain⟨x,hx⟩: ∃x,x=(pst (addr,q) k).1:=⟨_,rfl⟩;obtain⟨M,hM⟩: ∃M,M=pm (pst (addr,q) k):=⟨_,rfl⟩;rw[<-hx,<-hM];have vA:=lr (addr,q) k vX;dsimp only at vA;have Yg:k<=17:=(by omega);have HX:=uK hx;have HM:=uK hM;have DG:=uK vJ;have Lt:=uK xB;have CE:=uK ye;have yS:=uK Ck;have LP:=uK Jh;have VH:=uK wS;have zH:=uK vX;have QE:=uK xx;have HL:=uK hl;clear hx hM vJ xB ye Ck Jh wS vX xx hl vA
   gi_wp2
   refine⟨HL.out,?_⟩;obtain⟨W2,wo⟩: ∃W2,W2=W.putObj (ob+3+1) (.loop (rec .busy none)):=⟨_,rfl⟩;rw[<-wo];have vE:Mod (fun b=>b=ob+3+1) W W2:=(by rw[wo];exact az);have wk:W2.heap[ob+3+1]? =some (.loop (rec .busy none)):=(by rw[wo];exact World.putObj_heap_same (uJ HL.out).1);have vw:=DG.out.set vE (fun b e=> .inl (by omega));have wV:=Lt.out.keep EU (W':=W2) (fun b h1 h2=>by
    rcases Nat.lt_or_ge b W.heap.size with h3|h3
    ·exact vE.block b h3 (by omega)
    ·rw[Array.getElem?_eq_none h3,Array.getElem?_eq_none];rw[wo,World.putObj_size];exact h3)
   have zv:OwnB W2 (ob+5) A1 vn (x-addr) d1:=by
    rw[HX.out];exact CE.out.sameR fun g hg=>vE.block g ((CE.out.blk g (by rw[hg];rfl)).2) (fun e=>by have:=(CE.out.blk g (by rw[hg];rfl)).1;omega)
   obtain⟨r,xw,_⟩:=Oq.out.2 k zH.out;have Gv:Ask F rl r (x/4096):=Vm.out.ask (by rw[HX.out];exact xw);have Iq:x+(pst (addr,q) k).2=addr+q:=(by rw[HX.out];exact dt (addr,q) k);have hxb:x<=140737488355328:=(by have:=Oq.out.1;simp only at this;omega);have zd:IntKind.u64.wrap ((x:Int)/4096*4096)=(x:Int)/4096*4096:=(by rw[IntKind.wrap_u64];omega);have Ci:=nM B c a fs m s t root n cap (x/4096) A rl r vt ((x:Int)/4096*4096) W2 S1 F p1 L1 T1 hold vw.home vw.one yS.out.seen.kept.sp yS.out.seen.kept.own (yS.out.seen.kept.root _ HR.out) Gv (by omega) wT (by omega);have Af:(Rg.find rl ((((pst (addr,q) k).1/4096:Nat):Int)*4096)).1=r:=(by rw[<-HX.out,Gv.find]);have c0:W2.cell? ⟨w.heap.size,0,none⟩=some (.pointer (some ⟨s,0,none⟩)):=aa wV.b0 0;have XM:ob+5<=W2.heap.size:=(by have:=(uJ wk).1;omega);have Ha:=uK Ci;have Vn:=uK Af;have vZ:=uK vw;have xT:=uK wV;have DL:=uK zv;have GR:=uK wk;have HXS:=uK Iq;clear Ci Af vw wV zv wk Gv xw Iq vE wo;gi_upto_region 12 with(first
    |(refine⟨trivial,?_⟩;refine(CallsIn.inRound (ob+3+1) (callsIn_wide.2 Ha.out)).mono ?_;rintro e W3 ⟨er,⟨fr,pr,cp⟩,p3,L3,T3,Cx,S3,rfl,BM,wP,CW,Bb,yr,Cj⟩;unfold aq)
    |fail)
   obtain⟨W4,Ez⟩: ∃W4,W4=W3.alloc (.cells #[.int .i64 (fr:Int), .int .u8 (pr:Int), .bool cp] 83):=⟨_,rfl⟩;rw[<-Ez];obtain⟨wJ,Hn⟩:=vZ.out.call BM wP CW;have vN:Below W3.heap.size W3 W4:=(by rw[Ez];exact uM);have AU:W4.heap.size=W3.heap.size+1:=(by rw[Ez];simp);have Ft:W4.heap[W3.heap.size]? =some (.cells #[.int .i64 (fr:Int), .int .u8 (pr:Int), .bool cp] 83 (0,0)):=(by rw[Ez];exact ab W3 _);have xI:=wP.size;have wu:=(wJ.below vN).sub (K':=LdK w ob A1) (fun b e=> .inl e);have Br: ∀b,LdK w ob A1 b->W4.heap[b]? =W2.heap[b]? :=fun b hb=>(vN.block b ((vZ.out.own b hb).2.2 |> fun h=>by omega)).trans (Hn b hb);have yB:=xT.out.keep EU (W':=W4) (fun b h1 h2=>Br b (.inl (by omega)));have Mm:=(Br (ob+3+1) (.inl (by omega))).trans GR.out;have zV:OwnB W4 (ob+5) A1 vn (x-addr) d1:=DL.out.sameR fun g hg=>Br g (.inr (by rw[hg];rfl));have xC:=uK wu;have wD:=uK yB;have MR:=uK Mm;have zI:=uK zV;have AS:=uK Ft;have Dn:=uK Cj;have RZ:w.heap.size<W4.heap.size:=(by omega);clear wJ Hn vN Ft wu Br yB Mm zV Cj BM wP CW Ez zd c0 AU xI;have n0:W4.cell? ⟨w.heap.size+1,0,none⟩=some (.slice none 0 0):=aa wD.out.b1 0;have nf0:=ae wD.out.b1 0;have e0:W4.cell? ⟨w.heap.size+1+1,0,none⟩=some (.int .i64 0):=aa wD.out.b2 0;have ef0:=ae wD.out.b2 0;by_cases zR:er=0
   rotate_left
   ·have vB:(er != 0)=true:=(by rw[bne_iff_ne];exact zR);obtain⟨Kv,yE⟩:=yS.out.fail zH.out Vn.out (by rw[<-HX.out];exact Dn.out) zR;subst Kv;have GH:=uK yE;clear yE zR
    gi_wp2
    have CL:=MI.out W4 (.slice none 0 0) (.int .i64 4);have vC:=xC.out.set CL (fun b e=> .inl (by omega));have Hl:=(CL.block _ (uJ MR.out).1 (by omega)).trans MR.out;have wy:=(CL.block _ (uJ wD.out.mark).1 (by omega)).trans wD.out.mark;have Nw:((W4.setCell ⟨w.heap.size+1,0,none⟩ (.slice none 0 0)).setCell ⟨w.heap.size+1+1,0,none⟩ (.int .i64 4)).heap[w.heap.size+1]? =some (.cells #[.slice none 0 0] 39 (0,0)):=
     ((al (S:=fun b=>b=w.heap.size+1+1) rfl 0 _).block _ (by simp;exact(uJ wD.out.b1).1) (by omega)).trans (bq wD.out.b1)
    have Mp:((W4.setCell ⟨w.heap.size+1,0,none⟩ (.slice none 0 0)).setCell ⟨w.heap.size+1+1,0,none⟩ (.int .i64 4)).heap[w.heap.size+1+1]? =some (.cells #[.int .i64 4] 32 (0,0)):=
     bq (((al (S:=fun b=>b=w.heap.size+1) rfl 0 _).block _ (uJ wD.out.b2).1 (by omega)).trans wD.out.b2)
    refine⟨Hl, .inr ⟨rfl,?_,World.putObj_heap_same (uJ Hl).1⟩⟩;have BA:=az (l:=ob+3+1) (o:= .loop (rec .done (some .ret))) (W:=(W4.setCell ⟨w.heap.size+1,0,none⟩ (.slice none 0 0)).setCell ⟨w.heap.size+1+1,0,none⟩ (.int .i64 4));have xz:=vC.set BA (fun b e=> .inl (by omega));have Bp: ∀ {b:Nat} {o:Obj},((W4.setCell ⟨w.heap.size+1,0,none⟩ (.slice none 0 0)).setCell ⟨w.heap.size+1+1,0,none⟩ (.int .i64 4)).heap[b]? =some o->b≠ob+3+1->(((W4.setCell ⟨w.heap.size+1,0,none⟩ (.slice none 0 0)).setCell ⟨w.heap.size+1+1,0,none⟩ (.int .i64 4)).putObj (ob+3+1) (.loop (rec .done (some .ret)))).heap[b]? =some o:=fun h1 h2=>(BA.block _ (uJ h1).1 h2).trans h1;exact⟨p3,L3,T3,Cx,S3,xz.sub (fun b e=>e.elim .inl (fun e=>by cases e)),by omega,by omega,GH.out,Bp wy (by omega),Bp Nw (by omega),Bp Mp (by omega)⟩
   subst zR;obtain⟨g1,g2⟩:=Dn.out.got rfl;obtain⟨v1,v2,v3,v4,v5,v6⟩:=Dn.out.kept.sp.leaf g1;dsimp only at v2 v3 v4 v5 v6;have Za:0<M:=(by rw[HM.out];exact sN zH.out);have BL:M<=4096-x % 4096:=(by rw[HM.out,HX.out];exact Nat.min_le_right _ _);obtain⟨u,hu⟩: ∃u:Int,(x:Int) % 4096=u:=⟨_,rfl⟩;have Rl:((x % 4096:Nat):Int)=u:=(by omega);have hu3:0<=u/\u<4096:=(by omega);have Xw:(x:Int).tmod 4096=u:=(by rw[Int.tmod_eq_emod_of_nonneg (by omega),hu]);have Xl:IntKind.i64.wrap u=u:=(by rw[IntKind.wrap_i64];omega);have hload:=ci a fr (x % 4096) M W4.drew S3 p3 xC.out.home.cache.pool.drew v3 v4 (by omega) BL;rw[Rl]at hload;have Cc:Calls Tryz.prog 122 #[.pointer (some ⟨a,0,none⟩), .int .i64 (fr:Int), .int .i64 u, .int .i64 (M:Int)] W4.drew fun e Wx=>e= .returned (.tuple #[.slice (some ⟨W4.heap.size,0,none⟩) M M, .int .i64 0])/\Hid (aG Wx W4.heap.size M (fun i=>p3.dat fr (x % 4096+i)))/\Hid (Below W4.heap.size W4 Wx)/\Hid (W4.heap.size<Wx.heap.size):=by
    refine hload.mono ?_;rintro e Wx ⟨rfl,hB,hz,KH⟩;exact⟨rfl,uK hB,uK (bC KH),uK hz⟩
   have Ll:=uK Cc;have HU2:=uK Rl;have Wa:=uK g1;have c0:W4.cell? ⟨w.heap.size,0,none⟩=some (.pointer (some ⟨s,0,none⟩)):=aa wD.out.b0 0;have s1:W4.cell? ⟨s,1,none⟩=some (.pointer (some ⟨a,0,none⟩)):=aa xC.out.one.self 1;obtain⟨⟨x0,x1,x2⟩,_,_⟩:=box3 AS.out;have Te:Tryz.prog.follows .mixedOrders=true:=(by kernel_rfl);clear hload Cc Rl g1 g2 v1 v2 v5 v6;gi_upto_region 14 with(fail);gi_cut [15]from 51 (fun b wx=>b= .slice (some ⟨W4.heap.size,0,none⟩) M M/\aG wx W4.heap.size M (fun i=>p3.dat fr (x % 4096+i))/\Below W4.heap.size W4 wx/\W4.heap.size<wx.heap.size)
   case first=>
    refine bU (fun w'=>w'.cell? ⟨w.heap.size,0,none⟩=some (.pointer (some ⟨s,0,none⟩))/\w'.cell? ⟨s,1,none⟩=some (.pointer (some ⟨a,0,none⟩))/\w'.cell? ⟨W3.heap.size,0,none⟩=some (.int .i64 (fr:Int))) 15 (by kernel_rfl) (by kernel_rfl) (cY.of 14 (by kernel_rfl) (by kernel_rfl)) ⟨c0,s1,x0⟩ ?_;intro QI BO;refine zt 0 ?_;refine zt 1 ?_;refine zt 2 ?_;refine zt 3 ?_;refine zt 4 ?_;refine zt 5 ?_;refine zt 6 ?_;refine zt 7 ?_;refine zt 8 ?_;refine zt 9 ?_;refine aX 10 (by kernel_rfl) rfl (fun K' hK=>?_)
    go_simp
    refine(Ll.out).mono ?_;rintro e W5 ⟨rfl,Ar,DM,HZ5⟩;have c5:=(DM.out.cell (p:=⟨w.heap.size,0,none⟩) RZ).trans c0;have s5:=(DM.out.cell (p:=⟨s,1,none⟩) (World.block_lt_of_cell? _ _ s1)).trans s1;have x5:=(DM.out.cell (p:=⟨W3.heap.size,0,none⟩) (World.block_lt_of_cell? _ _ x0)).trans x0;go_wp2_with fail;refine hK.out _ _ ⟨c5,s5,x5⟩ (fun BO=>?_);clear hK K'
    try simp only[Act.put,List.setIfInBounds_toArray,List.set_cons_zero,List.set_cons_succ,List.getElem_toArray,List.getElem_cons_succ,List.getElem_cons_zero]
    refine zt 11 ?_;refine zt 12 ?_;refine zt 13 ?_;refine zt 14 ?_;refine bg 15 (by kernel_rfl) rfl rfl (fun K' hK=>?_)
    go_simp
    refine hK.out _ _ ?_;clear hK K';refine bj (by kernel_rfl) ?_ _;refine aV ?_
    gi_wp2
    gi_meet;exact⟨rfl,Ar.out,DM.out,HZ5.out⟩
   case rest=>
   obtain⟨rfl,MF,KR,hZ5⟩:=hcut;have vC:=(xC.out.below KR).sub (K':=LdK w ob A1) (fun b e=> .inl e);have IF: ∀b,LdK w ob A1 b->wc.heap[b]? =W4.heap[b]? :=fun b hb=>KR.block b (xC.out.own b hb).2.2;have zD:=wD.out.keep EU (W':=wc) (fun b h1 h2=>IF b (.inl (by omega)));have Hl:=(IF (ob+3+1) (.inl (by omega))).trans MR.out;have Bm:OwnB wc (ob+5) A1 vn (x-addr) d1:=zI.out.sameR fun g hg=>IF g (.inr (by rw[hg];rfl));have o5:wc.cell? ⟨ob,0,none⟩=some (.slice A1 (x-addr) vn):=(by rw[HX.out];exact aa zD.out 0);have Pp:ob<wc.heap.size:=(uJ zD.out).1;have hxa:addr<=x:=(by have:=pQ (addr,q) k;have:=dt (addr,q) k;rw[HX.out];dsimp only at *;omega);have PH:x-addr+M<=10000000:=(by have:=HXS.out;omega);have AM:=uK vC;have AO:=uK zD;have HL5:=uK Hl;have DJ:=uK Bm;have Ar:=uK MF;have vK:ob+5<=wc.heap.size:=(by have:=(uJ Hl).1;omega);clear vC IF zD Hl Bm MF KR hZ5 c0 s1 x0 x1 x2 n0 nf0 e0 ef0 Xw Xl hu;gi_upto_region 15 with(fail);gi_wp2_with (gi_at_builtin;refine pn rfl (.tmp 64) (.tmp 65) rfl (ob+5) A1 vn (x-addr) d1 rfl DJ.out ⟨W4.heap.size,0,none⟩ M M (fun i=>p3.dat fr (x % 4096+i)) rfl Ar.out.v Za PH vK ?_;intro g Bd W6 BZ Ey Dd Ba;have EA:=((cC Ey).block ob Pp (fun e=>by have:=(DJ.out.blk ob e).1;omega)).trans AO.out.out;have o6:=aa EA 0;have of6:=ae EA 0);obtain⟨W7,Fu⟩: ∃W7,W7=W6.setCell ⟨ob,0,none⟩ (.slice (some ⟨g,0,none⟩) (x-addr+M) Bd):=⟨_,rfl⟩;rw[<-Fu];have xj:Mod (fun b=>b=ob) W6 W7:=(by rw[Fu];exact al (S:=fun b=>b=ob) rfl 0 _);have DE:W7.heap[ob]? =some (.cells #[.slice (some ⟨g,0,none⟩) (x-addr+M) Bd] 39 (0,0)):=(by rw[Fu];exact bq EA);have BJ: ∀b,w.heap.size<=b->b<ob+5->W6.heap[b]? =wc.heap[b]? :=fun b h1 h2=>(cC Ey).block b (by omega) (fun e=>by have:=(DJ.out.blk b e).1;omega);have zC: ∀b,w.heap.size<=b->b<ob+5->b≠ob->W7.heap[b]? =wc.heap[b]? :=fun b h1 h2 h3=>(xj.block b (by have:=(cC Ey).size;omega) h3).trans (BJ b h1 h2);have FO:=(zC (ob+3+1) (by omega) (by omega) (by omega)).trans HL5.out;have BA:=az (l:=ob+3+1) (o:= .loop (rec .ready none)) (W:=W7);have zB: ∀ {b:Nat} {o:Obj},W7.heap[b]? =some o->b≠ob+3+1->(W7.putObj (ob+3+1) (.loop (rec .ready none))).heap[b]? =some o:=fun h1 h2=>(BA.block _ (uJ h1).1 h2).trans h1;have JW:PgSt (W7.putObj (ob+3+1) (.loop (rec .ready none))) (ob+2) (ob+1) (pst (addr,q) k):=⟨zB ((zC _ (by omega) (by omega) (by omega)).trans AO.out.pg.n) (by omega),zB ((zC _ (by omega) (by omega) (by omega)).trans AO.out.pg.a) (by omega)⟩;obtain⟨DS,zy⟩:=gE JW (by omega) (pst (addr,q) (k+1));have Bq: ∀ {b:Nat} {o:Obj},W7.heap[b]? =some o->b≠ob+3+1->b≠ob+1->b≠ob+2->(cB (W7.putObj (ob+3+1) (.loop (rec .ready none))) (ob+2) (ob+1) (pst (addr,q) (k+1))).heap[b]? =some o:=fun h1 h2 h3 h4=>(zy.block _ (uJ (zB h1 h2)).1 (by omega)).trans (zB h1 h2);have zL:(pst (addr,q) (k+1)).1=x+M:=(by rw[HX.out,HM.out];rfl);have Dr:=(((((AM.out.grow (cC Ey) (fun b e=> .inr e)).sub (K':=LdK w ob (some ⟨g,0,none⟩)) (fun b e=>by
    rcases e with e|e
    ·exact .inl (.inl e)
    ·have e2:b=g:=(by simpa using e.symm);subst e2;rcases Dd with h9|h9
     ·exact .inl (.inr h9)
     ·exact .inr ⟨by omega,Ba⟩)).set xj (fun b e=> .inl (by omega))).set BA (fun b e=> .inl (by omega))).set zy (fun b e=> .inl (by omega)))
   have Ew:ob+5<=g:=(by rcases Dd with h9|h9;exact(DJ.out.blk g h9).1;omega);have BW:OwnB (cB (W7.putObj (ob+3+1) (.loop (rec .ready none))) (ob+2) (ob+1) (pst (addr,q) (k+1))) (ob+5) (some ⟨g,0,none⟩) Bd ((pst (addr,q) (k+1)).1-addr) (fun i=>if i<x-addr then d1 i else p3.dat fr (x % 4096+(i-(x-addr)))):=by
    rw[zL,show x+M-addr=x-addr+M by omega];refine BZ.sameR fun g' Kt=>?_;injection Kt with Kt;injection Kt with Kt;subst Kt;exact((zy.block g (by have h1:=BA.size;have h2:=xj.size;exact uR Ba (vh h2 h1)) (by omega)).trans (BA.block g (by have h2:=xj.size;omega) (by omega))).trans (xj.block g Ba (by omega))
   have Mv:=yS.out.step zH.out Vn.out (by rw[<-HX.out];exact Dn.out);refine⟨FO, .inl ⟨rfl,JW,⟨p3,L3,T3,Cx,S3,some ⟨g,0,none⟩,Bd,_,Dr,⟨DS,Bq ((zC _ (by omega) (by omega) (by omega)).trans AO.out.mark) (by omega) (by omega) (by omega),Bq ((zC _ (by omega) (by omega) (by omega)).trans AO.out.b0) (by omega) (by omega) (by omega),Bq ((zC _ (by omega) (by omega) (by omega)).trans AO.out.b1) (by omega) (by omega) (by omega),Bq ((zC _ (by omega) (by omega) (by omega)).trans AO.out.b2) (by omega) (by omega) (by omega),?_⟩,BW,Mv,by omega,by omega,fun i hi=>?_,fun j hj=>(by rcases Nat.lt_or_ge j k with h9|h9;exact VH.out j h9;obtain rfl:j=k:=(by omega);exact zH.out)⟩,?_⟩⟩
   ·rw[zL,show(x+M-(addr,q).1)=x-addr+M by simp only;omega];exact Bq DE (by omega) (by omega) (by omega)
   ·rw[zL]at hi;dsimp only at hi⊢;by_cases h1:i<x-addr
    ·rw[if_pos h1];exact LP.out i (by rw[<-HX.out];(try dsimp only);omega)
    ·rw[if_neg h1];have h2:=pst_byte (addr,q) k i zH.out (by rw[<-HX.out];(try dsimp only);omega) (by rw[<-HX.out,<-HM.out];exact hi);rw[<-HX.out]at h2;dsimp only at h2;rw[h2.1,h2.2,<-Mv.seen.cont _ _ (by omega),bz Wa.out];congr 1;omega
   ·have Kd:=(uJ FO).1;exact(zy.block _ (by rw[World.putObj_size];exact Kd) (by omega)).trans (World.putObj_heap_same Kd)
  ·have vN:Below w2.heap.size w2 ((w2.alloc (.deferred (some []))).alloc (.loop (rec .ready none))):=uM.alloc (by simp) _;have xq:=((yR.out.below xi.out).below vN).sub (K':=LdK w ob none) (fun b e=>by
    rcases e with e|e
    ·rcases Nat.lt_or_ge b w0.heap.size with h1|h1
     ·exact .inl (.inl (.inr ⟨e.1,h1⟩))
     ·rcases Nat.lt_or_ge b w2.heap.size with h2|h2
      ·exact .inl (.inr ⟨h1,h2⟩)
      ·exact .inr ⟨h2,by simp[vS];omega⟩
    ·cases e)
   have CX:w.heap.size+1+1<w0.heap.size:=Cf;have yz: ∀ {b:Nat} {o:Obj},w2.heap[b]? =some o->((w2.alloc (.deferred (some []))).alloc (.loop (rec .ready none))).heap[b]? =some o:=fun h1=>(cf (uJ h1).1).trans h1;have zb: ∀ {b:Nat} {o:Obj},w0.heap[b]? =some o->((w2.alloc (.deferred (some []))).alloc (.loop (rec .ready none))).heap[b]? =some o:=fun h1=>yz ((xi.out.block _ (uJ h1).1).trans h1);refine⟨⟨p,L,T,clock,S,none,0,fun _ =>0,xq,⟨⟨?_,yz Rc.out⟩,?_,zb zG.out,zb Ow.out,zb VR.out,?_⟩,?_,fW.start yQ.out zj.out,Int.le_refl _,by omega,fun i hi=>absurd hi (by show¬addr+i<addr;omega),fun j hj=>absurd hj (by omega)⟩,?_⟩
   ·have:=yu.out;rw[HQ.out]at this;exact yz this
   ·have:=ab w2 (.deferred (some []));rw[vS]at this;exact(uO _ _ _ (by simp[vS])).trans this
   ·have:(pst (addr,q) 0).1-(addr,q).1=0:=Nat.sub_self _;rw[this];exact yz CF.out
   ·have:(pst (addr,q) 0).1-(addr,q).1=0:=Nat.sub_self _;rw[this];exact OwnB.nilB _ _ _
   ·have:=ab (w2.alloc (.deferred (some []))) (.loop (rec .ready none))
    rwa [World.size_alloc,vS]at this
  ·rintro e W ⟨hv,⟨k,zb,⟨p1,L1,T1,vt,S1,A1,vn,d1,vJ,xB,ye,Ck,xY,Am,Jh,wS⟩,hl⟩|⟨⟨p1,L1,T1,vt,S1,vJ,xY,Am,yE,Hj,hn,he⟩,hl⟩⟩
   ·refine⟨hv, .inl ⟨hl,?_⟩⟩;obtain⟨W2,wo⟩: ∃W2,W2=W.putObj (ob+3+1) (.loop (rec .exhausted none)):=⟨_,rfl⟩;rw[<-wo];have Yf:k<=32:=by
     rcases k with _ |k
     ·omega
     ·have:=lr (addr,q) k (wS k (by omega));dsimp only at this;omega
    have yD:=dt (addr,q) k;rw[zb,Nat.add_zero]at yD;dsimp only at yD;have vE:Mod (fun b=>b=ob+3+1) W W2:=(by rw[wo];exact az);have vw:=vJ.set vE (fun b e=> .inl (by omega));have xP: ∀ {b:Nat} {o:Obj},W.heap[b]? =some o->b≠ob+3+1->W2.heap[b]? =some o:=fun h1 h2=>(vE.block _ (uJ h1).1 h2).trans h1;have Ac:=xP xB.out (by omega);have Gz:=xP xB.b1 (by omega);have LI:=xP xB.b2 (by omega);have BL:=xP xB.mark (by omega);have zv:OwnB W2 (ob+5) A1 vn q d1:=by
     have h9:=ye.sameR (w':=W2) fun g hg=>vE.block g ((ye.blk g (by rw[hg];rfl)).2) (fun e=>by have:=(ye.blk g (by rw[hg];rfl)).1;omega)
     rwa [yD,show addr+q-(addr,q).1=q by simp]at h9
    rw[yD,show addr+q-(addr,q).1=q by simp]at Ac;have o0:W2.cell? ⟨ob,0,none⟩=some (.slice A1 q vn):=aa Ac 0;have n0:W2.cell? ⟨w.heap.size+1,0,none⟩=some (.slice none 0 0):=aa Gz 0;have nf0:=ae Gz 0;have e0:W2.cell? ⟨w.heap.size+1+1,0,none⟩=some (.int .i64 0):=aa LI 0;have ef0:=ae LI 0;have vZ:=uK vw;have LM:=uK Gz;have OF:=uK LI;have BP:=uK BL;have DK:=uK zv;have Dn:=uK Ck;have HD3:=uK Jh;have RS:=uK zb;have MJ:=uK yD;clear wo vE vw xP Ac Gz LI BL zv vJ xB ye Ck Jh wS hl hv zb yD;unfold dv
    gi_wp2
    have CL:=MI.out W2 (.slice A1 q vn) (.int .i64 0);have wu:=vZ.out.set CL (fun b e=> .inl (by omega));obtain⟨W4,Ez⟩: ∃W4,W4=(W2.setCell ⟨w.heap.size+1,0,none⟩ (.slice A1 q vn)).setCell ⟨w.heap.size+1+1,0,none⟩ (.int .i64 0):=⟨_,rfl⟩;have EX:W4.heap[w.heap.size+1]? =some (.cells #[.slice A1 q vn] 39 (0,0)):=by
     rw[Ez];exact((al (S:=fun b=>b=w.heap.size+1+1) rfl 0 _).block _ (by simp;exact(uJ LM.out).1) (by omega)).trans (bq LM.out)
    have he4:W4.heap[w.heap.size+1+1]? =some (.cells #[.int .i64 0] 32 (0,0)):=by
     rw[Ez];exact bq (((al (S:=fun b=>b=w.heap.size+1) rfl 0 _).block _ (uJ OF.out).1 (by omega)).trans OF.out)
    rw[<-Ez]at CL wu⊢;have hK:W4.heap[ob+3]? =some (.deferred (some [])):=(CL.block _ (uJ BP.out).1 (by omega)).trans BP.out;refine⟨by simp, .inl ⟨_,_,rfl,run_takeDeferred hK,?_⟩⟩;have Ca:=az (l:=ob+3) (o:= .deferred none) (W:=W4);have vC:=wu.set Ca (fun b e=> .inl (by omega));have Nw:=(Ca.block _ (uJ EX).1 (by omega)).trans EX;have Mp:=(Ca.block _ (uJ he4).1 (by omega)).trans he4;have c1:=aa Nw 0;have c2:=aa Mp 0;have Bm:OwnB (W4.putObj (ob+3) (.deferred none)) (ob+5) A1 vn q d1:=DK.out.sameR fun g hg=>by
     obtain⟨h1,h2⟩:=DK.out.blk g (by rw[hg];rfl);exact(Ca.block g (by have:=CL.size;omega) (by omega)).trans (CL.block g h2 (by omega))
    refine⟨.tuple #[.slice A1 q vn, .int .i64 0],by simp[results,Tryz.results70,go_sem,c1,c2],?_⟩;refine⟨0,A1,q,vn,d1,p1,L1,T1,vt,S1,rfl,vC.home.cache,vC.mod,vC.out,xY,by omega,Bm.lower (by omega),⟨fun g hg=>(vC.own g (.inr hg)).1,by omega⟩, .inr (.inr (.inr ⟨by omega,by omega,by rw[SE];exact ML.out,rfl,HQ.out.symm,?_,fun i hi=>HD3.out i (by rw[MJ.out];(try dsimp only);omega)⟩))⟩;rw[SE];exact⟨k,RS.out,Dn.out⟩
   ·refine⟨hv, .inr ⟨_,hl,?_⟩⟩;obtain⟨W2,wo⟩: ∃W2,W2=W.putObj (ob+3+1) (.loop (rec .exhausted (some .ret))):=⟨_,rfl⟩;rw[<-wo];have vE:Mod (fun b=>b=ob+3+1) W W2:=(by rw[wo];exact az);have vw:=vJ.set vE (fun b e=> .inl (by omega));have xP: ∀ {b:Nat} {o:Obj},W.heap[b]? =some o->b≠ob+3+1->W2.heap[b]? =some o:=fun h1 h2=>(vE.block _ (uJ h1).1 h2).trans h1;have Gz:=xP hn (by omega);have LI:=xP he (by omega);have BL:=xP Hj (by omega);have vZ:=uK vw;have LM:=uK Gz;have OF:=uK LI;have BP:=uK BL;have yk:=uK yE;clear wo vE vw xP Gz LI BL vJ yE Hj hn he hl hv;unfold dv
    gi_wp2
    refine⟨by simp, .inl ⟨_,_,rfl,run_takeDeferred BP.out,?_⟩⟩;have Ca:=az (l:=ob+3) (o:= .deferred none) (W:=W2);have vC:=vZ.out.set Ca (fun b e=> .inl (by omega));have Nw:=(Ca.block _ (uJ LM.out).1 (by omega)).trans LM.out;have Mp:=(Ca.block _ (uJ OF.out).1 (by omega)).trans OF.out;have c1:=aa Nw 0;have c2:=aa Mp 0;refine⟨.tuple #[.slice none 0 0, .int .i64 4],by simp[results,Tryz.results70,go_sem,c1,c2],?_⟩;refine⟨4,none,0,0,fun _ =>0,p1,L1,T1,vt,S1,rfl,vC.home.cache,vC.mod,vC.out,xY,Am,OwnB.nilB _ _ _,⟨fun g hg=>(by cases hg),by omega⟩, .inr (.inr (.inl ⟨by omega,by omega,by rw[SE];exact ML.out,rfl,?_⟩))⟩;rw[SE];exact yk.out
end
