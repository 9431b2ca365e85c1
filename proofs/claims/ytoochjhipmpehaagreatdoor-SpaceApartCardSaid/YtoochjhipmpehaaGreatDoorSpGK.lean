/- Spaces: what permits says. -/
import Derived.Test.YtoochjhipmpehaaGreatDoorSbK
import Derived.Test.YtoochjhipmpehaaGreatDoorTvAK
set_option linter.unusedVariables false
set_option linter.unusedSimpArgs false
set_option maxRecDepth 100000
set_option maxHeartbeats 4000000
namespace Go.Proofs.YtoochjhipmpehaaGreatDoor
section
open Go.RowKit Go.Sort
attribute [local go_sem] Oper.semAt_some
theorem gK (addr len:Int) (w:World):Calls Tryz.prog 120 #[.int .u64 addr, .int .i64 len] w fun e w'=>e= .returned (.func (.func 155) #[] #[.pointer (some ⟨w.heap.size+1,0,none⟩), .pointer (some ⟨w.heap.size,0,none⟩)])/\
  w'=(w.alloc (.cells #[.int .u64 addr] 43)).alloc (.cells #[.int .i64 len] 3):=by
 go_enter Tryz.func120,Tryz.ntmps120;go_wp2_with fail;go_ret;exact⟨rfl,rfl⟩
def Perm (rl:List Reg) (x:Nat×Nat) (want:Int):Prop:=x.1+x.2<=140737488355328/\ ∀k,0<(pst x k).2-> ∃r,Rg.find rl ((pst x k).1:Int)=(r,true)/\bits .and .u8 r.prot want=want
open Classical in
noncomputable def dE (rl:List Reg) (x:Nat×Nat) (want:Int):Bool:=decide (Perm rl x want)
variable {rl:List Reg} {x:Nat×Nat} {want:Int}
theorem lO (h: ¬Perm rl x want):dE rl x want=false:=by unfold dE;exact @vq _ (Classical.propDecidable _) h
theorem nl (h:Perm rl x want):dE rl x want=true:=by unfold dE;exact @vr _ (Classical.propDecidable _) h
variable {l:Nat} {w W:World} {o:Obj}
theorem fo {B:Nat} (h:Below B w W) (hl:B<=l):Below B w (W.putObj l o):=⟨h.os,h.tape,h.output,by rw[World.putObj_size];exact h.size,fun b hb=>(World.putObj_heap_other (by omega)).trans (h.block b hb)⟩
structure PgJ (w w1:World) (rl:List Reg) (x:Nat×Nat) (want:Int) (s:Nat) (k:Nat) (W:World):Prop where
 pg:PgSt W (w1.heap.size-1) (w1.heap.size-2) (pst x k)
 mark:W.heap[w1.heap.size]? =some (.deferred (some []))
 below:Below w.heap.size w W
 p0:W.heap[w.heap.size]? =some (.cells #[.pointer (some ⟨s,0,none⟩)] 60 (0,0))
 p1:W.heap[w.heap.size+1]? =some (.cells #[.int .u8 want] 5 (0,0))
 p2:W.heap[w.heap.size+1+1]? =some (.cells #[.bool false] 4 (0,0))
 ok: ∀j,j<k-> ∃r,Rg.find rl ((pst x j).1:Int)=(r,true)/\bits .and .u8 r.prot want=want
theorem aA :Mod (fun b=>b=l) W (W.putObj l o):=⟨rfl,rfl,rfl,by rw[World.putObj_size];exact vd _,fun b _ hb=>World.putObj_heap_other hb⟩
variable {w1:World} {s k:Nat}
theorem PgJ.keep {W':World} (h:PgJ w w1 rl x want s k W) (hm:Mod (fun b=>b=w1.heap.size+1) W W') (hz:w.heap.size+5<=w1.heap.size):PgJ w w1 rl x want s k W':=by
 have vH: ∀ {b:Nat} {o:Obj},W.heap[b]? =some o->b≠w1.heap.size+1->W'.heap[b]? =some o:=fun h1 h2=>(hm.block _ (uZ h1).1 h2).trans h1;exact⟨⟨vH h.pg.n (by omega),vH h.pg.a (by omega)⟩,vH h.mark (by omega),⟨hm.os.trans h.below.os,hm.tape.trans h.below.tape,hm.output.trans h.below.output,vx h.below.size hm.size,fun b hb=>(hm.block b (by have:=h.below.size;omega) (by omega)).trans (h.below.block b hb)⟩,vH h.p0 (by omega),vH h.p1 (by omega),vH h.p2 (by omega),h.ok⟩
variable {r:Reg}
theorem PgJ.next (h:PgJ w w1 rl x want s k W) (hz:w.heap.size+5<=w1.heap.size) (hr:Rg.find rl ((pst x k).1:Int)=(r,true)) (hb:bits .and .u8 r.prot want=want):
  PgJ w w1 rl x want s (k+1) (cy W (w1.heap.size-1) (w1.heap.size-2) (pst x (k+1)))/\(∀b,b≠w1.heap.size-1->b≠w1.heap.size-2->b<W.heap.size->(cy W (w1.heap.size-1) (w1.heap.size-2) (pst x (k+1))).heap[b]? =W.heap[b]?):=by
 have hm:Mod (fun b=>b=w1.heap.size-1\/b=w1.heap.size-2) W (cy W (w1.heap.size-1) (w1.heap.size-2) (pst x (k+1))):=(aj (S:=fun b=>b=w1.heap.size-1\/b=w1.heap.size-2) (.inr rfl) 0 _).trans (Out.refl _ _) (aj (.inl rfl) 0 _);have vH: ∀ {b:Nat} {o:Obj},W.heap[b]? =some o->b≠w1.heap.size-1->b≠w1.heap.size-2->(cy W (w1.heap.size-1) (w1.heap.size-2) (pst x (k+1))).heap[b]? =some o:=fun h1 h2 h3=>(hm.block _ (uZ h1).1 (fun e=>e.elim h2 h3)).trans h1;refine⟨⟨⟨?_,?_⟩,vH h.mark (by omega) (by omega),⟨hm.os.trans h.below.os,hm.tape.trans h.below.tape,hm.output.trans h.below.output,vx h.below.size hm.size,fun b hb=>(hm.block b (by have:=h.below.size;omega) (by omega)).trans (h.below.block b hb)⟩,vH h.p0 (by omega) (by omega),vH h.p1 (by omega) (by omega),vH h.p2 (by omega) (by omega),fun j hj=>?_⟩,fun b h1 h2 h3=>hm.block b h3 (fun e=>e.elim h1 h2)⟩
 ·have h1:=(aj (S:=fun b=>b=w1.heap.size-2) (w:=W) rfl 0 (.int .u64 ((pst x (k+1)).1:Int))).block (w1.heap.size-1) (uZ h.pg.n).1 (by omega);exact bm (h1.trans h.pg.n)
 ·have h1:=bm (y:= .int .u64 ((pst x (k+1)).1:Int)) h.pg.a;exact((aj (S:=fun b=>b=w1.heap.size-1) rfl 0 _).block (w1.heap.size-2) (uZ h1).1 (by omega)).trans h1
 ·rcases Nat.lt_or_ge j k with h1|h1
  ·exact h.ok j h1
  ·obtain rfl:j=k:=(by omega);exact⟨r,hr,hb⟩
variable {o2:Obj}
theorem cf {b:Nat} (hb:b<w.heap.size):((w.alloc o).alloc o2).heap[b]? =w.heap[b]? :=(ve _ _ _ (by simp;omega)).trans (ve _ _ _ hb)
variable {Wn:World}
theorem qY {b1 b2:Nat} (hJ:PgJ w w1 rl x want s k W) (hm:Mod (fun b=>b=w1.heap.size+1) W Wn) (hz:w.heap.size+5<=w1.heap.size) (hl:w1.heap.size+1<Wn.heap.size)
  (hr:Rg.find rl ((pst x k).1:Int)=(r,true)) (hb:bits .and .u8 r.prot want=want) (h1:b1=w1.heap.size-1) (h2:b2=w1.heap.size-2):
  PgSt (Wn.putObj (w1.heap.size+1) o) b1 b2 (pst x k)/\PgJ w w1 rl x want s (k+1) (cy (Wn.putObj (w1.heap.size+1) o) b1 b2 (pst x (k+1)))/\(cy (Wn.putObj (w1.heap.size+1) o) b1 b2 (pst x (k+1))).heap[w1.heap.size+1]? =some o:=by
 subst h1 h2;have hk:=hJ.keep (hm.trans (Out.refl _ _) (aA (o:=o))) hz;obtain⟨n1,n2⟩:=hk.next hz hr hb;exact⟨hk.pg,n1,(n2 _ (by omega) (by omega) (by rw[World.putObj_size];exact hl)).trans (World.putObj_heap_same hl)⟩
theorem jO (h:PgJ w w1 rl x want s k Wn) (hz:w.heap.size+5<=w1.heap.size) (hl:Wn.heap[w1.heap.size+1]? =some o):
  (Wn.setCell ⟨w.heap.size+1+1,0,none⟩ (.bool false)).heap[w1.heap.size+1]? =some o/\((Wn.setCell ⟨w.heap.size+1+1,0,none⟩ (.bool false)).putObj (w1.heap.size+1) o2).heap[w1.heap.size+1]? =some o2/\((Wn.setCell ⟨w.heap.size+1+1,0,none⟩ (.bool false)).putObj (w1.heap.size+1) o2).heap[w1.heap.size]? =some (.deferred (some []))/\
  Below w.heap.size w ((Wn.setCell ⟨w.heap.size+1+1,0,none⟩ (.bool false)).putObj (w1.heap.size+1) o2)/\((Wn.setCell ⟨w.heap.size+1+1,0,none⟩ (.bool false)).putObj (w1.heap.size+1) o2).heap[w.heap.size+1+1]? =some (.cells #[.bool false] 4 (0,0)):=by
 have hm:Mod (fun b=>b=w.heap.size+1+1) Wn (Wn.setCell ⟨w.heap.size+1+1,0,none⟩ (.bool false)):=aj (S:=fun b=>b=w.heap.size+1+1) rfl 0 _;have h1:=(hm.block _ (uZ hl).1 (by omega)).trans hl;have h2:=(hm.block _ (uZ h.mark).1 (by omega)).trans h.mark;exact⟨h1,World.putObj_heap_same (uZ h1).1,(World.putObj_heap_other (by omega)).trans h2,fo (h.below.setCell (p:=⟨w.heap.size+1+1,0,none⟩) (by show w.heap.size<=w.heap.size+1+1;omega) _) (by omega),(World.putObj_heap_other (by omega)).trans (bm h.p2)⟩
theorem gE (h:(pst x k).2=0): ∀d,(pst x (k+d)).2=0
 |0=>h
 |d+1=>by
  have:=gE h d;show(pst x (k+d)).2-pm (pst x (k+d))=0;omega
theorem PgJ.perm (h:PgJ w w1 rl x want s k W) (h0:(pst x k).2=0) (hx:x.1+x.2<=140737488355328):Perm rl x want:=
 ⟨hx,fun j hj=>h.ok j (by
  rcases Nat.lt_or_ge j k with h1|h1
  ·exact h1
  ·have:=gE h0 (j-k);rw[show k+(j-k)=j by omega]at this;omega)⟩
theorem jP (s c a t n cap:Nat) (A:Option Addr) (rl:List Reg) (addr len:Nat) (want:Int) (w:World) (xL:cS w s c a t A n cap) (wj:RSl w w.heap.size A n cap rl) (hw:addr<18446744073709551616) (hl:len<9223372036854775808):
  Calls Tryz.prog 119 #[.pointer (some ⟨s,0,none⟩), .int .u64 (addr:Int), .int .i64 (len:Int), .int .u8 want] w
   fun e w'=>e= .returned (.bool (dE rl (addr,len) want))/\Below w.heap.size w w':=by
 refine(callsIn_wide (n:=9)).1 ?_;refine callsIn_of_wp_marks Tryz.func119 rfl trivial ?_;simp only[Tryz.ntmps119,List.size_toArray,vn,List.length_nil,Nat.reduceAdd,Nat.reduceSub,Array.replicate_succ,Array.replicate_zero,List.push_toArray,List.append_toArray,List.nil_append,List.cons_append];obtain⟨w0,vE⟩: ∃w0,w0=((w.alloc (.cells #[.pointer (some ⟨s,0,none⟩)] 60)).alloc (.cells #[.int .u8 want] 5)).alloc (.cells #[.bool false] 4):=⟨_,rfl⟩;have wz:w0.heap.size=w.heap.size+1+1+1:=(by rw[vE];simp);have vF:Below w.heap.size w w0:=(by rw[vE];exact(vc.alloc (by simp) _).alloc (by simp;omega) _);have zb:w0.heap[w.heap.size+1+1]? =some (.cells #[.bool false] 4 (0,0)):=by
  rw[vE];have:=ab ((w.alloc (.cells #[.pointer (some ⟨s,0,none⟩)] 60)).alloc (.cells #[.int .u8 want] 5)) (.cells #[.bool false] 4)
  rwa [World.size_alloc,World.size_alloc]at this
 have GZ:w0.heap[w.heap.size+1]? =some (.cells #[.int .u8 want] 5 (0,0)):=by
  rw[vE];have:=ab (w.alloc (.cells #[.pointer (some ⟨s,0,none⟩)] 60)) (.cells #[.int .u8 want] 5);rw[World.size_alloc]at this;exact(ve _ _ _ (by simp)).trans this
 have zP:w0.heap[w.heap.size]? =some (.cells #[.pointer (some ⟨s,0,none⟩)] 60 (0,0)):=by
  rw[vE];exact(ve _ _ _ (by simp;omega)).trans ((ve _ _ _ (by simp)).trans (ab w _))
 have vY:=va vE;have wO:=va vF;have CC:=va wz;have r0:w0.cell? ⟨w.heap.size+1+1,0,none⟩=some (.bool false):=aa zb 0;have rf0:=ae zb 0;have xd:w.heap.size+1+1<w0.heap.size:=(by omega);have Ds:=va zb;have QE:=va GZ;have zv:=va zP;have Hf:=va xL;have By:=va wj;have hss:s<w.heap.size:=(uZ xL).1;clear vF zb GZ zP wz vE xL wj;by_cases yC:140737488355328<addr
 ·have vW:dE rl (addr,len) want=false:=lO (fun h=>by have:=h.1;simp at this;omega);have zy:=va vW;clear vW
  gi_wp2
  rw[<-vY.out];refine⟨.bool false,?_,by rw[zy.out],wO.out⟩;simp[results,Tryz.results119,go_sem,r0]
 have wD:IntKind.u64.wrap (len:Int)=(len:Int):=(by rw[IntKind.wrap_u64];omega);have xb:IntKind.u64.wrap (140737488355328-(addr:Int))=140737488355328-(addr:Int):=(by rw[IntKind.wrap_u64];omega);by_cases JV:(140737488355328:Int)-(addr:Int)<(len:Int)
 ·have vW:dE rl (addr,len) want=false:=lO (fun h=>by have:=h.1;simp at this;omega);have zy:=va vW;clear vW
  gi_wp2
  rw[<-vY.out];refine⟨.bool false,?_,by rw[zy.out],wO.out⟩;simp[results,Tryz.results119,go_sem,r0]
 gi_wp2_with (first
  |(refine⟨trivial,?_⟩;rw[<-vY.out];refine(callsIn_wide.2 (gK (addr:Int) (len:Int) w0)).mono ?_;rintro e w1 ⟨rfl,yS⟩)
  |fail)
 have wg:w1.heap.size=w0.heap.size+2:=(by rw[yS];simp);have vD:Below w0.heap.size w0 w1:=(by rw[yS];exact vc.alloc (by simp) _);have Qr:w1.heap[w0.heap.size]? =some (.cells #[.int .u64 (addr:Int)] 43 (0,0)):=(by rw[yS];exact(ve _ _ _ (by simp)).trans (ab w0 _));have Lv:w1.heap[w0.heap.size+1]? =some (.cells #[.int .i64 (len:Int)] 3 (0,0)):=by
  rw[yS];have:=ab (w0.alloc (.cells #[.int .u64 (addr:Int)] 43)) (.cells #[.int .i64 (len:Int)] 3)
  rwa [World.size_alloc]at this
 rw[<-yS];have Iv:=va wg;have vJ:=va vD;have Ri:=va Qr;have QJ:=va Lv;clear yS wg vD Qr Lv r0 rf0 xd;refine bK rfl (by omega) (gf:=155) (lb:= #[.pointer (some ⟨w0.heap.size+1,0,none⟩), .pointer (some ⟨w0.heap.size,0,none⟩)]) rfl trivial (enters_of Tryz.func155 (by kernel_rfl) rfl) ?_;intro fn Di rec xp;refine(gL (9-1) (by omega) (w1.heap.size+1) (w0.heap.size+1) w0.heap.size (by omega) (addr,len) (by simp only;omega) (fun k W=>PgJ w w1 rl (addr,len) want s k W/\W.heap[w1.heap.size+1]? =some (.loop (rec .ready none))) (fun W=>W.heap[w1.heap.size+1]? =some (.loop (rec .done (some .ret)))/\W.heap[w1.heap.size]? =some (.deferred (some []))/\Below w.heap.size w W/\W.heap[w.heap.size+1+1]? =some (.cells #[.bool false] 4 (0,0))/\ ¬Perm rl (addr,len) want) ?_ ?_ _ ?_).mono ?_
 ·intro k W hJ;have:=hJ.1.pg;rw[Iv.out]at this;exact this
 ·intro k W hJ wo;refine bw trivial xp hJ.2 rfl ?_;obtain⟨⟨j1,j2,j3,j4,j5,j6,j7⟩,jl⟩:=hJ;obtain⟨x,hx⟩: ∃x,x=(pst (addr,len) k).1:=⟨_,rfl⟩;obtain⟨M,hM⟩: ∃M,M=pm (pst (addr,len) k):=⟨_,rfl⟩;rw[<-hx,<-hM];have HX:=va hx;have HM:=va hM;have J1:=va j1;have J2:=va j2;have J3:=va j3;have J4:=va j4;have J5:=va j5;have J6:=va j6;have J7:=va j7;have JL:=va jl;have zw:=va wo;have QB:=va xp;clear hx hM j1 j2 j3 j4 j5 j6 j7 jl wo xp
  gi_wp2
  refine⟨JL.out,?_⟩;obtain⟨W2,wF⟩: ∃W2,W2=W.putObj (w1.heap.size+1) (.loop (rec .busy none)):=⟨_,rfl⟩;rw[<-wF];have vT:Mod (fun b=>b=w1.heap.size+1) W W2:=(by rw[wF];exact aA);have wE:W2.heap[w1.heap.size+1]? =some (.loop (rec .busy none)):=(by rw[wF];exact World.putObj_heap_same (uZ JL.out).1);have wg:w1.heap.size=w.heap.size+1+1+1+2:=(by rw[Iv.out,CC.out]);have vM:Below w.heap.size w W2:=(by rw[wF];exact fo J3.out (by omega));have c0:W2.cell? ⟨w.heap.size,0,none⟩=some (.pointer (some ⟨s,0,none⟩)):=aa ((vT.block _ (uZ J4.out).1 (by omega)).trans J4.out) 0;have xU:=(vT.block _ (uZ J5.out).1 (by omega)).trans J5.out;have zM:=(vT.block _ (uZ J6.out).1 (by omega)).trans J6.out;have s3:W2.cell? ⟨s,3,none⟩=some (.slice A n cap):=(vM.cell (p:=⟨s,3,none⟩) hss).trans (aa Hf.out 3);have Ub:=lZ A n cap (x:Int) W2 rl ((By.out.below vM (vd _)).more vM.size);have YK:w1.heap.size+1<W2.heap.size:=(uZ wE).1;obtain⟨⟨r,bf⟩,Yr⟩: ∃rb,rb=Rg.find rl (x:Int):=⟨_,rfl⟩;rw[<-Yr]at Ub;have HRF:=va Yr;have MP:=va Ub;have CT:=va wF;have Fp:=va vT;have Er:=va wE;have CY:=va xU;have ye:=va zM;have HZ:=va wg;have xC:=va vM;clear Yr Ub wF vT wE xU zM wg vM;by_cases hb:bf=true
  ·subst hb;by_cases hq:bits .and .u8 r.prot want=want
   ·have Pe:(bits .and .u8 r.prot want != want)=false:=(by rw[hq];simp);have RX:=va hq;clear hq;gi_wp2_with (first
     |(refine⟨trivial,?_⟩;refine(CallsIn.inRound (w1.heap.size+1) (callsIn_wide.2 MP.out)).mono ?_;rintro e W3 ⟨rfl,vX⟩;have AS:=(vX.block _ (by have:=HZ.out;omega)).trans CY.out;have yh:=(vX.block _ (by have:=HZ.out;omega)).trans ye.out;have e1: ∀o,(W3.alloc o).cell? ⟨w.heap.size+1,0,none⟩=some (.int .u8 want):=fun o=>aa ((ve W3 o _ (uZ AS).1).trans AS) 0;have e2: ∀o,(W3.alloc o).cell? ⟨w.heap.size+1+1,0,none⟩=some (.bool false):=fun o=>aa ((ve W3 o _ (uZ yh).1).trans yh) 0;have ef2: ∀o,(W3.alloc o).frozen? ⟨w.heap.size+1+1,0,none⟩=false:=fun o=>ae ((ve W3 o _ (uZ yh).1).trans yh) 0;have Lp:=(vX.block _ YK).trans Er.out;have MK:=va Lp;have WB:=va yh;have yH:=va vX;clear AS yh Lp vX)
     |fail)
    exact⟨((ve _ _ _ (uZ MK.out).1).trans MK.out), .inl ⟨rfl,qY (rl:=rl) (want:=want) (s:=s) (r:=r) ⟨J1.out,J2.out,J3.out,J4.out,J5.out,J6.out,J7.out⟩ (Fp.out.trans (Out.refl _ _) ((Mod.of yH.out).trans (Out.refl _ _) (Mod.of vc))) (by have:=HZ.out;omega) (by have:=(uZ MK.out).1;simp;omega) (by rw[<-HX.out];exact HRF.out.symm) RX.out (by rw[Iv.out];rfl) (by rw[Iv.out];rfl)⟩⟩
   ·have Pe:(bits .and .u8 r.prot want != want)=true:=(by rw[bne_iff_ne];exact hq);have RX:=va hq;clear hq;gi_wp2_with (first
     |(refine⟨trivial,?_⟩;refine(CallsIn.inRound (w1.heap.size+1) (callsIn_wide.2 MP.out)).mono ?_;rintro e W3 ⟨rfl,vX⟩;have AS:=(vX.block _ (by have:=HZ.out;omega)).trans CY.out;have yh:=(vX.block _ (by have:=HZ.out;omega)).trans ye.out;have e1: ∀o,(W3.alloc o).cell? ⟨w.heap.size+1,0,none⟩=some (.int .u8 want):=fun o=>aa ((ve W3 o _ (uZ AS).1).trans AS) 0;have e2: ∀o,(W3.alloc o).cell? ⟨w.heap.size+1+1,0,none⟩=some (.bool false):=fun o=>aa ((ve W3 o _ (uZ yh).1).trans yh) 0;have ef2: ∀o,(W3.alloc o).frozen? ⟨w.heap.size+1+1,0,none⟩=false:=fun o=>ae ((ve W3 o _ (uZ yh).1).trans yh) 0;have Lp:=(vX.block _ YK).trans Er.out;have MK:=va Lp;have WB:=va yh;have yH:=va vX;clear AS yh Lp vX)
     |fail)
    obtain⟨q1,q2,q3,q4,q5⟩:=jO (o2:= .loop (rec .done (some .ret))) (PgJ.keep (rl:=rl) (x:=(addr,len)) (want:=want) (s:=s) (k:=k) ⟨J1.out,J2.out,J3.out,J4.out,J5.out,J6.out,J7.out⟩ (Fp.out.trans (Out.refl _ _) ((Mod.of yH.out).trans (Out.refl _ _) (Mod.of vc))) (by have:=HZ.out;omega)) (by have:=HZ.out;omega) ((ve _ _ _ (uZ MK.out).1).trans MK.out);exact⟨q1, .inr ⟨rfl,q2,q3,q4,q5,fun hp=>by obtain⟨r2,h1,h2⟩:=hp.2 k zw.out;rw[<-HX.out,<-HRF.out]at h1;injection h1 with h1 _;subst h1;exact RX.out h2⟩⟩
  ·have vM:bf=false:=(by simpa using hb);subst vM;clear hb;gi_wp2_with (first
    |(refine⟨trivial,?_⟩;refine(CallsIn.inRound (w1.heap.size+1) (callsIn_wide.2 MP.out)).mono ?_;rintro e W3 ⟨rfl,vX⟩;have AS:=(vX.block _ (by have:=HZ.out;omega)).trans CY.out;have yh:=(vX.block _ (by have:=HZ.out;omega)).trans ye.out;have e1: ∀o,(W3.alloc o).cell? ⟨w.heap.size+1,0,none⟩=some (.int .u8 want):=fun o=>aa ((ve W3 o _ (uZ AS).1).trans AS) 0;have e2: ∀o,(W3.alloc o).cell? ⟨w.heap.size+1+1,0,none⟩=some (.bool false):=fun o=>aa ((ve W3 o _ (uZ yh).1).trans yh) 0;have ef2: ∀o,(W3.alloc o).frozen? ⟨w.heap.size+1+1,0,none⟩=false:=fun o=>ae ((ve W3 o _ (uZ yh).1).trans yh) 0;have Lp:=(vX.block _ YK).trans Er.out;have MK:=va Lp;have WB:=va yh;have yH:=va vX;clear AS yh Lp vX)
    |fail)
   obtain⟨q1,q2,q3,q4,q5⟩:=jO (o2:= .loop (rec .done (some .ret))) (PgJ.keep (rl:=rl) (x:=(addr,len)) (want:=want) (s:=s) (k:=k) ⟨J1.out,J2.out,J3.out,J4.out,J5.out,J6.out,J7.out⟩ (Fp.out.trans (Out.refl _ _) ((Mod.of yH.out).trans (Out.refl _ _) (Mod.of vc))) (by have:=HZ.out;omega)) (by have:=HZ.out;omega) ((ve _ _ _ (uZ MK.out).1).trans MK.out);exact⟨q1, .inr ⟨rfl,q2,q3,q4,q5,fun hp=>by obtain⟨r2,h1,h2⟩:=hp.2 k zw.out;rw[<-HX.out,<-HRF.out]at h1;injection h1 with _ h1;cases h1⟩⟩
 ·refine⟨⟨?_,?_,?_,?_,?_,?_,fun j hj=>absurd hj (by omega)⟩,?_⟩
  ·have h1:w1.heap.size-1=w0.heap.size+1:=(by have:=Iv.out;omega);have h2:w1.heap.size-2=w0.heap.size:=(by have:=Iv.out;omega);rw[h1,h2];exact⟨(cf (by have:=Iv.out;omega)).trans QJ.out,(cf (by have:=Iv.out;omega)).trans Ri.out⟩
  ·exact(ve _ _ _ (by simp)).trans (ab w1 _)
  ·exact((wO.out.trans (vJ.out.mono wO.out.size)).alloc (wO.out.trans (vJ.out.mono wO.out.size)).size _).alloc (by have:=(wO.out.trans (vJ.out.mono wO.out.size)).size;simp;omega) _
  ·exact(cf (by have:=Iv.out;have:=CC.out;omega)).trans ((vJ.out.block _ (by have:=CC.out;omega)).trans zv.out)
  ·exact(cf (by have:=Iv.out;have:=CC.out;omega)).trans ((vJ.out.block _ (by have:=CC.out;omega)).trans QE.out)
  ·exact(cf (by have:=Iv.out;have:=CC.out;omega)).trans ((vJ.out.block _ (by have:=CC.out;omega)).trans Ds.out)
  ·have:=ab (w1.alloc (.deferred (some []))) (.loop (rec .ready none))
   rwa [World.size_alloc]at this
 ·rintro e W ⟨hv,⟨k,yJ,hJ,hl⟩|⟨hl,hK,hb,hR,hn⟩⟩
  ·refine⟨hv, .inl ⟨hl,?_⟩⟩;have Jc:=nl (hJ.perm yJ (by simp only;omega));obtain⟨W2,wF⟩: ∃W2,W2=W.putObj (w1.heap.size+1) (.loop (rec .exhausted none)):=⟨_,rfl⟩;rw[<-wF];have vT:Mod (fun b=>b=w1.heap.size+1) W W2:=(by rw[wF];exact aA);have hz:w1.heap.size=w.heap.size+1+1+1+2:=(by rw[Iv.out,CC.out]);have Qj:=hJ.keep vT (by omega);have c0:W2.cell? ⟨w.heap.size+1+1,0,none⟩=some (.bool false):=aa Qj.p2 0;have cf0:=ae Qj.p2 0;have Ov:=va Qj;have HYES:=va Jc;have HZ:=va hz;clear Qj Jc hz vT wF hJ hl yJ hv;unfold dp
   gi_wp2
   have hK:(W2.setCell ⟨w.heap.size+1+1,0,none⟩ (.bool true)).heap[w1.heap.size]? =some (.deferred (some [])):=((aj (S:=fun b=>b=w.heap.size+1+1) rfl 0 _).block _ (uZ Ov.out.mark).1 (by have:=HZ.out;omega)).trans Ov.out.mark;refine⟨by simp, .inl ⟨_,_,rfl,run_takeDeferred hK,?_⟩⟩;have hR:((W2.setCell ⟨w.heap.size+1+1,0,none⟩ (.bool true)).putObj w1.heap.size (.deferred none)).heap[w.heap.size+1+1]? =some (.cells #[.bool true] 4 (0,0)):=(World.putObj_heap_other (by have:=HZ.out;omega)).trans (bm Ov.out.p2);have c1:=aa hR 0;refine⟨.bool true,?_,by rw[HYES.out],fo (Ov.out.below.setCell (p:=⟨w.heap.size+1+1,0,none⟩) (by show w.heap.size<=w.heap.size+1+1;omega) _) (by have:=HZ.out;omega)⟩;simp[results,Tryz.results119,go_sem,c1]
  ·refine⟨hv, .inr ⟨_,hl,?_⟩⟩;have hz:w1.heap.size=w.heap.size+1+1+1+2:=(by rw[Iv.out,CC.out]);obtain⟨W2,wF⟩: ∃W2,W2=W.putObj (w1.heap.size+1) (.loop (rec .exhausted (some .ret))):=⟨_,rfl⟩;rw[<-wF];have Aj:W2.heap[w1.heap.size]? =some (.deferred (some [])):=(by rw[wF];exact(World.putObj_heap_other (by omega)).trans hK);have yc:W2.heap[w.heap.size+1+1]? =some (.cells #[.bool false] 4 (0,0)):=(by rw[wF];exact(World.putObj_heap_other (by omega)).trans hR);have vM:Below w.heap.size w W2:=(by rw[wF];exact fo hb (by omega));have DP:(W2.putObj w1.heap.size (.deferred none)).heap[w.heap.size+1+1]? =some (.cells #[.bool false] 4 (0,0)):=(World.putObj_heap_other (by omega)).trans yc;have c1:=aa DP 0;have yj:=va hn;have wg:w.heap.size<=w1.heap.size:=(by omega);clear wF hl hK hb hR hn hv yc hz;unfold dp
   gi_wp2
   refine⟨by simp, .inl ⟨_,_,rfl,run_takeDeferred Aj,?_⟩⟩;refine⟨.bool false,?_,by rw[lO yj.out],fo vM wg⟩;simp[results,Tryz.results119,go_sem,c1]
end
