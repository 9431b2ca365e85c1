/- Spaces: what permits says. -/
import Derived.Test.YtoochjhipmpehaaGreatDoorSbK
import Derived.Test.YtoochjhipmpehaaGreatDoorTvAK
set_option linter.unusedVariables false
set_option linter.unusedSimpArgs false
set_option maxRecDepth 100000
set_option maxHeartbeats 4000000
namespace Go.Proofs.YtoochjhipmpehaaGreatDoor
section
open Go.RowKit Go.Sort
attribute [local go_sem] Oper.semAt_some
theorem gF (addr len:Int) (w:World):Calls Tryz.prog 120 #[.int .u64 addr, .int .i64 len] w fun e w'=>e= .returned (.func (.func 155) #[] #[.pointer (some ⟨w.heap.size+1,0,none⟩), .pointer (some ⟨w.heap.size,0,none⟩)])/\
  w'=(w.alloc (.cells #[.int .u64 addr] 43)).alloc (.cells #[.int .i64 len] 3):=by
 go_enter Tryz.func120,Tryz.ntmps120;go_wp2_with fail;go_ret;exact⟨rfl,rfl⟩
def Perm (rl:List Reg) (x:Nat×Nat) (want:Int):Prop:=x.1+x.2<=140737488355328/\ ∀k,0<(pst x k).2-> ∃r,Rg.find rl ((pst x k).1:Int)=(r,true)/\bits .and .u8 r.prot want=want
open Classical in
noncomputable def dS (rl:List Reg) (x:Nat×Nat) (want:Int):Bool:=decide (Perm rl x want)
variable {rl:List Reg} {x:Nat×Nat} {want:Int}
theorem lF (h: ¬Perm rl x want):dS rl x want=false:=by unfold dS;exact @uX _ (Classical.propDecidable _) h
theorem mT (h:Perm rl x want):dS rl x want=true:=by unfold dS;exact @uY _ (Classical.propDecidable _) h
variable {l:Nat} {w W:World} {o:Obj}
theorem ff {B:Nat} (h:Below B w W) (hl:B<=l):Below B w (W.putObj l o):=⟨h.os,h.tape,h.output,by rw[World.putObj_size];exact h.size,fun b hb=>(World.putObj_heap_other (by omega)).trans (h.block b hb)⟩
structure PgJ (w w1:World) (rl:List Reg) (x:Nat×Nat) (want:Int) (s:Nat) (k:Nat) (W:World):Prop where
 pg:PgSt W (w1.heap.size-1) (w1.heap.size-2) (pst x k)
 mark:W.heap[w1.heap.size]? =some (.deferred (some []))
 below:Below w.heap.size w W
 p0:W.heap[w.heap.size]? =some (.cells #[.pointer (some ⟨s,0,none⟩)] 60 (0,0))
 p1:W.heap[w.heap.size+1]? =some (.cells #[.int .u8 want] 5 (0,0))
 p2:W.heap[w.heap.size+1+1]? =some (.cells #[.bool false] 4 (0,0))
 ok: ∀j,j<k-> ∃r,Rg.find rl ((pst x j).1:Int)=(r,true)/\bits .and .u8 r.prot want=want
theorem az :Mod (fun b=>b=l) W (W.putObj l o):=⟨rfl,rfl,rfl,by rw[World.putObj_size];exact uK _,fun b _ hb=>World.putObj_heap_other hb⟩
variable {w1:World} {s k:Nat}
theorem PgJ.keep {W':World} (h:PgJ w w1 rl x want s k W) (hm:Mod (fun b=>b=w1.heap.size+1) W W') (hz:w.heap.size+5<=w1.heap.size):PgJ w w1 rl x want s k W':=by
 have vo: ∀ {b:Nat} {o:Obj},W.heap[b]? =some o->b≠w1.heap.size+1->W'.heap[b]? =some o:=fun h1 h2=>(hm.block _ (uG h1).1 h2).trans h1;exact⟨⟨vo h.pg.n (by omega),vo h.pg.a (by omega)⟩,vo h.mark (by omega),⟨hm.os.trans h.below.os,hm.tape.trans h.below.tape,hm.output.trans h.below.output,ve h.below.size hm.size,fun b hb=>(hm.block b (by have:=h.below.size;omega) (by omega)).trans (h.below.block b hb)⟩,vo h.p0 (by omega),vo h.p1 (by omega),vo h.p2 (by omega),h.ok⟩
variable {r:Reg}
theorem PgJ.next (h:PgJ w w1 rl x want s k W) (hz:w.heap.size+5<=w1.heap.size) (hr:Rg.find rl ((pst x k).1:Int)=(r,true)) (hb:bits .and .u8 r.prot want=want):
  PgJ w w1 rl x want s (k+1) (cn W (w1.heap.size-1) (w1.heap.size-2) (pst x (k+1)))/\(∀b,b≠w1.heap.size-1->b≠w1.heap.size-2->b<W.heap.size->(cn W (w1.heap.size-1) (w1.heap.size-2) (pst x (k+1))).heap[b]? =W.heap[b]?):=by
 have hm:Mod (fun b=>b=w1.heap.size-1\/b=w1.heap.size-2) W (cn W (w1.heap.size-1) (w1.heap.size-2) (pst x (k+1))):=(aj (S:=fun b=>b=w1.heap.size-1\/b=w1.heap.size-2) (.inr rfl) 0 _).trans (Out.refl _ _) (aj (.inl rfl) 0 _);have vo: ∀ {b:Nat} {o:Obj},W.heap[b]? =some o->b≠w1.heap.size-1->b≠w1.heap.size-2->(cn W (w1.heap.size-1) (w1.heap.size-2) (pst x (k+1))).heap[b]? =some o:=fun h1 h2 h3=>(hm.block _ (uG h1).1 (fun e=>e.elim h2 h3)).trans h1;refine⟨⟨⟨?_,?_⟩,vo h.mark (by omega) (by omega),⟨hm.os.trans h.below.os,hm.tape.trans h.below.tape,hm.output.trans h.below.output,ve h.below.size hm.size,fun b hb=>(hm.block b (by have:=h.below.size;omega) (by omega)).trans (h.below.block b hb)⟩,vo h.p0 (by omega) (by omega),vo h.p1 (by omega) (by omega),vo h.p2 (by omega) (by omega),fun j hj=>?_⟩,fun b h1 h2 h3=>hm.block b h3 (fun e=>e.elim h1 h2)⟩
 ·have h1:=(aj (S:=fun b=>b=w1.heap.size-2) (w:=W) rfl 0 (.int .u64 ((pst x (k+1)).1:Int))).block (w1.heap.size-1) (uG h.pg.n).1 (by omega);exact bd (h1.trans h.pg.n)
 ·have h1:=bd (y:= .int .u64 ((pst x (k+1)).1:Int)) h.pg.a;exact((aj (S:=fun b=>b=w1.heap.size-1) rfl 0 _).block (w1.heap.size-2) (uG h1).1 (by omega)).trans h1
 ·rcases Nat.lt_or_ge j k with h1|h1
  ·exact h.ok j h1
  ·obtain rfl:j=k:=(by omega);exact⟨r,hr,hb⟩
variable {o2:Obj}
theorem bX {b:Nat} (hb:b<w.heap.size):((w.alloc o).alloc o2).heap[b]? =w.heap[b]? :=(uL _ _ _ (by simp;omega)).trans (uL _ _ _ hb)
variable {Wn:World}
theorem qK {b1 b2:Nat} (hJ:PgJ w w1 rl x want s k W) (hm:Mod (fun b=>b=w1.heap.size+1) W Wn) (hz:w.heap.size+5<=w1.heap.size) (hl:w1.heap.size+1<Wn.heap.size)
  (hr:Rg.find rl ((pst x k).1:Int)=(r,true)) (hb:bits .and .u8 r.prot want=want) (h1:b1=w1.heap.size-1) (h2:b2=w1.heap.size-2):
  PgSt (Wn.putObj (w1.heap.size+1) o) b1 b2 (pst x k)/\PgJ w w1 rl x want s (k+1) (cn (Wn.putObj (w1.heap.size+1) o) b1 b2 (pst x (k+1)))/\(cn (Wn.putObj (w1.heap.size+1) o) b1 b2 (pst x (k+1))).heap[w1.heap.size+1]? =some o:=by
 subst h1 h2;have hk:=hJ.keep (hm.trans (Out.refl _ _) (az (o:=o))) hz;obtain⟨n1,n2⟩:=hk.next hz hr hb;exact⟨hk.pg,n1,(n2 _ (by omega) (by omega) (by rw[World.putObj_size];exact hl)).trans (World.putObj_heap_same hl)⟩
theorem jD (h:PgJ w w1 rl x want s k Wn) (hz:w.heap.size+5<=w1.heap.size) (hl:Wn.heap[w1.heap.size+1]? =some o):
  (Wn.setCell ⟨w.heap.size+1+1,0,none⟩ (.bool false)).heap[w1.heap.size+1]? =some o/\((Wn.setCell ⟨w.heap.size+1+1,0,none⟩ (.bool false)).putObj (w1.heap.size+1) o2).heap[w1.heap.size+1]? =some o2/\((Wn.setCell ⟨w.heap.size+1+1,0,none⟩ (.bool false)).putObj (w1.heap.size+1) o2).heap[w1.heap.size]? =some (.deferred (some []))/\
  Below w.heap.size w ((Wn.setCell ⟨w.heap.size+1+1,0,none⟩ (.bool false)).putObj (w1.heap.size+1) o2)/\((Wn.setCell ⟨w.heap.size+1+1,0,none⟩ (.bool false)).putObj (w1.heap.size+1) o2).heap[w.heap.size+1+1]? =some (.cells #[.bool false] 4 (0,0)):=by
 have hm:Mod (fun b=>b=w.heap.size+1+1) Wn (Wn.setCell ⟨w.heap.size+1+1,0,none⟩ (.bool false)):=aj (S:=fun b=>b=w.heap.size+1+1) rfl 0 _;have h1:=(hm.block _ (uG hl).1 (by omega)).trans hl;have h2:=(hm.block _ (uG h.mark).1 (by omega)).trans h.mark;exact⟨h1,World.putObj_heap_same (uG h1).1,(World.putObj_heap_other (by omega)).trans h2,ff (h.below.setCell (p:=⟨w.heap.size+1+1,0,none⟩) (by show w.heap.size<=w.heap.size+1+1;omega) _) (by omega),(World.putObj_heap_other (by omega)).trans (bd h.p2)⟩
theorem gy (h:(pst x k).2=0): ∀d,(pst x (k+d)).2=0
 |0=>h
 |d+1=>by
  have:=gy h d;show(pst x (k+d)).2-pm (pst x (k+d))=0;omega
theorem PgJ.perm (h:PgJ w w1 rl x want s k W) (h0:(pst x k).2=0) (hx:x.1+x.2<=140737488355328):Perm rl x want:=
 ⟨hx,fun j hj=>h.ok j (by
  rcases Nat.lt_or_ge j k with h1|h1
  ·exact h1
  ·have:=gy h0 (j-k);rw[show k+(j-k)=j by omega]at this;omega)⟩
theorem jE (s c a t n cap:Nat) (A:Option Addr) (rl:List Reg) (addr len:Nat) (want:Int) (w:World) (xm:cv w s c a t A n cap) (vM:RSl w w.heap.size A n cap rl) (hw:addr<18446744073709551616) (hl:len<9223372036854775808):
  Calls Tryz.prog 119 #[.pointer (some ⟨s,0,none⟩), .int .u64 (addr:Int), .int .i64 (len:Int), .int .u8 want] w
   fun e w'=>e= .returned (.bool (dS rl (addr,len) want))/\Below w.heap.size w w':=by
 refine(callsIn_wide (n:=9)).1 ?_;refine callsIn_of_wp_marks Tryz.func119 rfl trivial ?_;simp only[Tryz.ntmps119,List.size_toArray,uU,List.length_nil,Nat.reduceAdd,Nat.reduceSub,Array.replicate_succ,Array.replicate_zero,List.push_toArray,List.append_toArray,List.nil_append,List.cons_append];obtain⟨w0,vl⟩: ∃w0,w0=((w.alloc (.cells #[.pointer (some ⟨s,0,none⟩)] 60)).alloc (.cells #[.int .u8 want] 5)).alloc (.cells #[.bool false] 4):=⟨_,rfl⟩;have vQ:w0.heap.size=w.heap.size+1+1+1:=(by rw[vl];simp);have vm:Below w.heap.size w w0:=(by rw[vl];exact(uJ.alloc (by simp) _).alloc (by simp;omega) _);have yB:w0.heap[w.heap.size+1+1]? =some (.cells #[.bool false] 4 (0,0)):=by
  rw[vl];have:=ab ((w.alloc (.cells #[.pointer (some ⟨s,0,none⟩)] 60)).alloc (.cells #[.int .u8 want] 5)) (.cells #[.bool false] 4)
  rwa [World.size_alloc,World.size_alloc]at this
 have Gv:w0.heap[w.heap.size+1]? =some (.cells #[.int .u8 want] 5 (0,0)):=by
  rw[vl];have:=ab (w.alloc (.cells #[.pointer (some ⟨s,0,none⟩)] 60)) (.cells #[.int .u8 want] 5);rw[World.size_alloc]at this;exact(uL _ _ _ (by simp)).trans this
 have zo:w0.heap[w.heap.size]? =some (.cells #[.pointer (some ⟨s,0,none⟩)] 60 (0,0)):=by
  rw[vl];exact(uL _ _ _ (by simp;omega)).trans ((uL _ _ _ (by simp)).trans (ab w _))
 have vF:=uH vl;have wj:=uH vm;have Cg:=uH vQ;have r0:w0.cell? ⟨w.heap.size+1+1,0,none⟩=some (.bool false):=aa yB 0;have rf0:=ae yB 0;have wF:w.heap.size+1+1<w0.heap.size:=(by omega);have CS:=uH yB;have Qi:=uH Gv;have yQ:=uH zo;have GB:=uH xm;have AW:=uH vM;have hss:s<w.heap.size:=(uG xm).1;clear vm yB Gv zo vQ vl xm vM;by_cases ya:140737488355328<addr
 ·have vE:dS rl (addr,len) want=false:=lF (fun h=>by have:=h.1;simp at this;omega);have yT:=uH vE;clear vE
  gi_wp2
  rw[<-vF.out];refine⟨.bool false,?_,by rw[yT.out],wj.out⟩;simp[results,Tryz.results119,go_sem,r0]
 have vU:IntKind.u64.wrap (len:Int)=(len:Int):=(by rw[IntKind.wrap_u64];omega);have wE:IntKind.u64.wrap (140737488355328-(addr:Int))=140737488355328-(addr:Int):=(by rw[IntKind.wrap_u64];omega);by_cases Jp:(140737488355328:Int)-(addr:Int)<(len:Int)
 ·have vE:dS rl (addr,len) want=false:=lF (fun h=>by have:=h.1;simp at this;omega);have yT:=uH vE;clear vE
  gi_wp2
  rw[<-vF.out];refine⟨.bool false,?_,by rw[yT.out],wj.out⟩;simp[results,Tryz.results119,go_sem,r0]
 gi_wp2_with (first
  |(refine⟨trivial,?_⟩;rw[<-vF.out];refine(callsIn_wide.2 (gF (addr:Int) (len:Int) w0)).mono ?_;rintro e w1 ⟨rfl,yr⟩)
  |fail)
 have vI:w1.heap.size=w0.heap.size+2:=(by rw[yr];simp);have vk:Below w0.heap.size w0 w1:=(by rw[yr];exact uJ.alloc (by simp) _);have PU:w1.heap[w0.heap.size]? =some (.cells #[.int .u64 (addr:Int)] 43 (0,0)):=(by rw[yr];exact(uL _ _ _ (by simp)).trans (ab w0 _));have KS:w1.heap[w0.heap.size+1]? =some (.cells #[.int .i64 (len:Int)] 3 (0,0)):=by
  rw[yr];have:=ab (w0.alloc (.cells #[.int .u64 (addr:Int)] 43)) (.cells #[.int .i64 (len:Int)] 3)
  rwa [World.size_alloc]at this
 rw[<-yr];have Hm:=uH vI;have vq:=uH vk;have VS:=uH PU;have Qn:=uH KS;clear yr vI vk PU KS r0 rf0 wF;refine bI rfl (by omega) (gf:=155) (lb:= #[.pointer (some ⟨w0.heap.size+1,0,none⟩), .pointer (some ⟨w0.heap.size,0,none⟩)]) rfl trivial (enters_of Tryz.func155 (by kernel_rfl) rfl) ?_;intro fn CI rec wO;refine(gG (9-1) (by omega) (w1.heap.size+1) (w0.heap.size+1) w0.heap.size (by omega) (addr,len) (by simp only;omega) (fun k W=>PgJ w w1 rl (addr,len) want s k W/\W.heap[w1.heap.size+1]? =some (.loop (rec .ready none))) (fun W=>W.heap[w1.heap.size+1]? =some (.loop (rec .done (some .ret)))/\W.heap[w1.heap.size]? =some (.deferred (some []))/\Below w.heap.size w W/\W.heap[w.heap.size+1+1]? =some (.cells #[.bool false] 4 (0,0))/\ ¬Perm rl (addr,len) want) ?_ ?_ _ ?_).mono ?_
 ·intro k W hJ;have:=hJ.1.pg;rw[Hm.out]at this;exact this
 ·intro k W hJ vN;refine br trivial wO hJ.2 rfl ?_;obtain⟨⟨j1,j2,j3,j4,j5,j6,j7⟩,jl⟩:=hJ;obtain⟨x,hx⟩: ∃x,x=(pst (addr,len) k).1:=⟨_,rfl⟩;obtain⟨M,hM⟩: ∃M,M=pm (pst (addr,len) k):=⟨_,rfl⟩;rw[<-hx,<-hM];have HX:=uH hx;have HM:=uH hM;have J1:=uH j1;have J2:=uH j2;have J3:=uH j3;have J4:=uH j4;have J5:=uH j5;have J6:=uH j6;have J7:=uH j7;have JL:=uH jl;have yR:=uH vN;have Qe:=uH wO;clear hx hM j1 j2 j3 j4 j5 j6 j7 jl vN wO
  gi_wp2
  refine⟨JL.out,?_⟩;obtain⟨W2,vW⟩: ∃W2,W2=W.putObj (w1.heap.size+1) (.loop (rec .busy none)):=⟨_,rfl⟩;rw[<-vW];have vy:Mod (fun b=>b=w1.heap.size+1) W W2:=(by rw[vW];exact az);have vV:W2.heap[w1.heap.size+1]? =some (.loop (rec .busy none)):=(by rw[vW];exact World.putObj_heap_same (uG JL.out).1);have vI:w1.heap.size=w.heap.size+1+1+1+2:=(by rw[Hm.out,Cg.out]);have vs:Below w.heap.size w W2:=(by rw[vW];exact ff J3.out (by omega));have c0:W2.cell? ⟨w.heap.size,0,none⟩=some (.pointer (some ⟨s,0,none⟩)):=aa ((vy.block _ (uG J4.out).1 (by omega)).trans J4.out) 0;have xw:=(vy.block _ (uG J5.out).1 (by omega)).trans J5.out;have zl:=(vy.block _ (uG J6.out).1 (by omega)).trans J6.out;have s3:W2.cell? ⟨s,3,none⟩=some (.slice A n cap):=(vs.cell (p:=⟨s,3,none⟩) hss).trans (aa GB.out 3);have Tv:=lQ A n cap (x:Int) W2 rl ((AW.out.below vs (uK _)).more vs.size);have XF:w1.heap.size+1<W2.heap.size:=(uG vV).1;obtain⟨⟨r,bf⟩,Xq⟩: ∃rb,rb=Rg.find rl (x:Int):=⟨_,rfl⟩;rw[<-Xq]at Tv;have Zs:=uH Xq;have Ml:=uH Tv;have Cv:=uH vW;have EK:=uH vy;have FR:=uH vV;have Cz:=uH xw;have xF:=uH zl;have HZ:=uH vI;have xd:=uH vs;clear Xq Tv vW vy vV xw zl vI vs;by_cases hb:bf=true
  ·subst hb;by_cases hq:bits .and .u8 r.prot want=want
   ·have OD:(bits .and .u8 r.prot want != want)=false:=(by rw[hq];simp);have Rt:=uH hq;clear hq;gi_wp2_with (first
     |(refine⟨trivial,?_⟩;refine(CallsIn.inRound (w1.heap.size+1) (callsIn_wide.2 Ml.out)).mono ?_;rintro e W3 ⟨rfl,vG⟩;have An:=(vG.block _ (by have:=HZ.out;omega)).trans Cz.out;have xI:=(vG.block _ (by have:=HZ.out;omega)).trans xF.out;have e1: ∀o,(W3.alloc o).cell? ⟨w.heap.size+1,0,none⟩=some (.int .u8 want):=fun o=>aa ((uL W3 o _ (uG An).1).trans An) 0;have e2: ∀o,(W3.alloc o).cell? ⟨w.heap.size+1+1,0,none⟩=some (.bool false):=fun o=>aa ((uL W3 o _ (uG xI).1).trans xI) 0;have ef2: ∀o,(W3.alloc o).frozen? ⟨w.heap.size+1+1,0,none⟩=false:=fun o=>ae ((uL W3 o _ (uG xI).1).trans xI) 0;have KN:=(vG.block _ XF).trans FR.out;have Mh:=uH KN;have VE:=uH xI;have yh:=uH vG;clear An xI KN vG)
     |fail)
    exact⟨((uL _ _ _ (uG Mh.out).1).trans Mh.out), .inl ⟨rfl,qK (rl:=rl) (want:=want) (s:=s) (r:=r) ⟨J1.out,J2.out,J3.out,J4.out,J5.out,J6.out,J7.out⟩ (EK.out.trans (Out.refl _ _) ((Mod.of yh.out).trans (Out.refl _ _) (Mod.of uJ))) (by have:=HZ.out;omega) (by have:=(uG Mh.out).1;simp;omega) (by rw[<-HX.out];exact Zs.out.symm) Rt.out (by rw[Hm.out];rfl) (by rw[Hm.out];rfl)⟩⟩
   ·have OD:(bits .and .u8 r.prot want != want)=true:=(by rw[bne_iff_ne];exact hq);have Rt:=uH hq;clear hq;gi_wp2_with (first
     |(refine⟨trivial,?_⟩;refine(CallsIn.inRound (w1.heap.size+1) (callsIn_wide.2 Ml.out)).mono ?_;rintro e W3 ⟨rfl,vG⟩;have An:=(vG.block _ (by have:=HZ.out;omega)).trans Cz.out;have xI:=(vG.block _ (by have:=HZ.out;omega)).trans xF.out;have e1: ∀o,(W3.alloc o).cell? ⟨w.heap.size+1,0,none⟩=some (.int .u8 want):=fun o=>aa ((uL W3 o _ (uG An).1).trans An) 0;have e2: ∀o,(W3.alloc o).cell? ⟨w.heap.size+1+1,0,none⟩=some (.bool false):=fun o=>aa ((uL W3 o _ (uG xI).1).trans xI) 0;have ef2: ∀o,(W3.alloc o).frozen? ⟨w.heap.size+1+1,0,none⟩=false:=fun o=>ae ((uL W3 o _ (uG xI).1).trans xI) 0;have KN:=(vG.block _ XF).trans FR.out;have Mh:=uH KN;have VE:=uH xI;have yh:=uH vG;clear An xI KN vG)
     |fail)
    obtain⟨q1,q2,q3,q4,q5⟩:=jD (o2:= .loop (rec .done (some .ret))) (PgJ.keep (rl:=rl) (x:=(addr,len)) (want:=want) (s:=s) (k:=k) ⟨J1.out,J2.out,J3.out,J4.out,J5.out,J6.out,J7.out⟩ (EK.out.trans (Out.refl _ _) ((Mod.of yh.out).trans (Out.refl _ _) (Mod.of uJ))) (by have:=HZ.out;omega)) (by have:=HZ.out;omega) ((uL _ _ _ (uG Mh.out).1).trans Mh.out);exact⟨q1, .inr ⟨rfl,q2,q3,q4,q5,fun hp=>by obtain⟨r2,h1,h2⟩:=hp.2 k yR.out;rw[<-HX.out,<-Zs.out]at h1;injection h1 with h1 _;subst h1;exact Rt.out h2⟩⟩
  ·have vs:bf=false:=(by simpa using hb);subst vs;clear hb;gi_wp2_with (first
    |(refine⟨trivial,?_⟩;refine(CallsIn.inRound (w1.heap.size+1) (callsIn_wide.2 Ml.out)).mono ?_;rintro e W3 ⟨rfl,vG⟩;have An:=(vG.block _ (by have:=HZ.out;omega)).trans Cz.out;have xI:=(vG.block _ (by have:=HZ.out;omega)).trans xF.out;have e1: ∀o,(W3.alloc o).cell? ⟨w.heap.size+1,0,none⟩=some (.int .u8 want):=fun o=>aa ((uL W3 o _ (uG An).1).trans An) 0;have e2: ∀o,(W3.alloc o).cell? ⟨w.heap.size+1+1,0,none⟩=some (.bool false):=fun o=>aa ((uL W3 o _ (uG xI).1).trans xI) 0;have ef2: ∀o,(W3.alloc o).frozen? ⟨w.heap.size+1+1,0,none⟩=false:=fun o=>ae ((uL W3 o _ (uG xI).1).trans xI) 0;have KN:=(vG.block _ XF).trans FR.out;have Mh:=uH KN;have VE:=uH xI;have yh:=uH vG;clear An xI KN vG)
    |fail)
   obtain⟨q1,q2,q3,q4,q5⟩:=jD (o2:= .loop (rec .done (some .ret))) (PgJ.keep (rl:=rl) (x:=(addr,len)) (want:=want) (s:=s) (k:=k) ⟨J1.out,J2.out,J3.out,J4.out,J5.out,J6.out,J7.out⟩ (EK.out.trans (Out.refl _ _) ((Mod.of yh.out).trans (Out.refl _ _) (Mod.of uJ))) (by have:=HZ.out;omega)) (by have:=HZ.out;omega) ((uL _ _ _ (uG Mh.out).1).trans Mh.out);exact⟨q1, .inr ⟨rfl,q2,q3,q4,q5,fun hp=>by obtain⟨r2,h1,h2⟩:=hp.2 k yR.out;rw[<-HX.out,<-Zs.out]at h1;injection h1 with _ h1;cases h1⟩⟩
 ·refine⟨⟨?_,?_,?_,?_,?_,?_,fun j hj=>absurd hj (by omega)⟩,?_⟩
  ·have h1:w1.heap.size-1=w0.heap.size+1:=(by have:=Hm.out;omega);have h2:w1.heap.size-2=w0.heap.size:=(by have:=Hm.out;omega);rw[h1,h2];exact⟨(bX (by have:=Hm.out;omega)).trans Qn.out,(bX (by have:=Hm.out;omega)).trans VS.out⟩
  ·exact(uL _ _ _ (by simp)).trans (ab w1 _)
  ·exact((wj.out.trans (vq.out.mono wj.out.size)).alloc (wj.out.trans (vq.out.mono wj.out.size)).size _).alloc (by have:=(wj.out.trans (vq.out.mono wj.out.size)).size;simp;omega) _
  ·exact(bX (by have:=Hm.out;have:=Cg.out;omega)).trans ((vq.out.block _ (by have:=Cg.out;omega)).trans yQ.out)
  ·exact(bX (by have:=Hm.out;have:=Cg.out;omega)).trans ((vq.out.block _ (by have:=Cg.out;omega)).trans Qi.out)
  ·exact(bX (by have:=Hm.out;have:=Cg.out;omega)).trans ((vq.out.block _ (by have:=Cg.out;omega)).trans CS.out)
  ·have:=ab (w1.alloc (.deferred (some []))) (.loop (rec .ready none))
   rwa [World.size_alloc]at this
 ·rintro e W ⟨hv,⟨k,yn,hJ,hl⟩|⟨hl,hK,hb,hR,hn⟩⟩
  ·refine⟨hv, .inl ⟨hl,?_⟩⟩;have Iu:=mT (hJ.perm yn (by simp only;omega));obtain⟨W2,vW⟩: ∃W2,W2=W.putObj (w1.heap.size+1) (.loop (rec .exhausted none)):=⟨_,rfl⟩;rw[<-vW];have vy:Mod (fun b=>b=w1.heap.size+1) W W2:=(by rw[vW];exact az);have hz:w1.heap.size=w.heap.size+1+1+1+2:=(by rw[Hm.out,Cg.out]);have PL:=hJ.keep vy (by omega);have c0:W2.cell? ⟨w.heap.size+1+1,0,none⟩=some (.bool false):=aa PL.p2 0;have cf0:=ae PL.p2 0;have NO:=uH PL;have Ze:=uH Iu;have HZ:=uH hz;clear PL Iu hz vy vW hJ hl yn hv;unfold dk
   gi_wp2
   have hK:(W2.setCell ⟨w.heap.size+1+1,0,none⟩ (.bool true)).heap[w1.heap.size]? =some (.deferred (some [])):=((aj (S:=fun b=>b=w.heap.size+1+1) rfl 0 _).block _ (uG NO.out.mark).1 (by have:=HZ.out;omega)).trans NO.out.mark;refine⟨by simp, .inl ⟨_,_,rfl,run_takeDeferred hK,?_⟩⟩;have hR:((W2.setCell ⟨w.heap.size+1+1,0,none⟩ (.bool true)).putObj w1.heap.size (.deferred none)).heap[w.heap.size+1+1]? =some (.cells #[.bool true] 4 (0,0)):=(World.putObj_heap_other (by have:=HZ.out;omega)).trans (bd NO.out.p2);have c1:=aa hR 0;refine⟨.bool true,?_,by rw[Ze.out],ff (NO.out.below.setCell (p:=⟨w.heap.size+1+1,0,none⟩) (by show w.heap.size<=w.heap.size+1+1;omega) _) (by have:=HZ.out;omega)⟩;simp[results,Tryz.results119,go_sem,c1]
  ·refine⟨hv, .inr ⟨_,hl,?_⟩⟩;have hz:w1.heap.size=w.heap.size+1+1+1+2:=(by rw[Hm.out,Cg.out]);obtain⟨W2,vW⟩: ∃W2,W2=W.putObj (w1.heap.size+1) (.loop (rec .exhausted (some .ret))):=⟨_,rfl⟩;rw[<-vW];have zG:W2.heap[w1.heap.size]? =some (.deferred (some [])):=(by rw[vW];exact(World.putObj_heap_other (by omega)).trans hK);have xE:W2.heap[w.heap.size+1+1]? =some (.cells #[.bool false] 4 (0,0)):=(by rw[vW];exact(World.putObj_heap_other (by omega)).trans hR);have vs:Below w.heap.size w W2:=(by rw[vW];exact ff hb (by omega));have Dp:(W2.putObj w1.heap.size (.deferred none)).heap[w.heap.size+1+1]? =some (.cells #[.bool false] 4 (0,0)):=(World.putObj_heap_other (by omega)).trans xE;have c1:=aa Dp 0;have xK:=uH hn;have vI:w.heap.size<=w1.heap.size:=(by omega);clear vW hl hK hb hR hn hv xE hz;unfold dk
   gi_wp2
   refine⟨by simp, .inl ⟨_,_,rfl,run_takeDeferred zG,?_⟩⟩;refine⟨.bool false,?_,by rw[lF xK.out],ff vs vI⟩;simp[results,Tryz.results119,go_sem,c1]
end
