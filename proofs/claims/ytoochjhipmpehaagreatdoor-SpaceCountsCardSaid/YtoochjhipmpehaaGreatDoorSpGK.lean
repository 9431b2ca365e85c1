/- Spaces: what permits says. -/
import Derived.Test.YtoochjhipmpehaaGreatDoorSbK
import Derived.Test.YtoochjhipmpehaaGreatDoorTvAK
set_option linter.unusedVariables false
set_option linter.unusedSimpArgs false
set_option maxRecDepth 100000
set_option maxHeartbeats 4000000
namespace Go.Proofs.YtoochjhipmpehaaGreatDoor
section
open Go.RowKit Go.Sort
attribute [local go_sem] Oper.semAt_some
theorem gJ (addr len:Int) (w:World):Calls Tryz.prog 120 #[.int .u64 addr, .int .i64 len] w fun e w'=>e= .returned (.func (.func 155) #[] #[.pointer (some ⟨w.heap.size+1,0,none⟩), .pointer (some ⟨w.heap.size,0,none⟩)])/\
  w'=(w.alloc (.cells #[.int .u64 addr] 43)).alloc (.cells #[.int .i64 len] 3):=by
 go_enter Tryz.func120,Tryz.ntmps120;go_wp2_with fail;go_ret;exact⟨rfl,rfl⟩
def Perm (rl:List Reg) (x:Nat×Nat) (want:Int):Prop:=x.1+x.2<=140737488355328/\ ∀k,0<(pst x k).2-> ∃r,Rg.find rl ((pst x k).1:Int)=(r,true)/\bits .and .u8 r.prot want=want
open Classical in
noncomputable def dZ (rl:List Reg) (x:Nat×Nat) (want:Int):Bool:=decide (Perm rl x want)
variable {rl:List Reg} {x:Nat×Nat} {want:Int}
theorem lJ (h: ¬Perm rl x want):dZ rl x want=false:=by unfold dZ;exact @vF _ (Classical.propDecidable _) h
theorem mZ (h:Perm rl x want):dZ rl x want=true:=by unfold dZ;exact @vG _ (Classical.propDecidable _) h
variable {l:Nat} {w W:World} {o:Obj}
theorem ft {B:Nat} (h:Below B w W) (hl:B<=l):Below B w (W.putObj l o):=⟨h.os,h.tape,h.output,by rw[World.putObj_size];exact h.size,fun b hb=>(World.putObj_heap_other (by omega)).trans (h.block b hb)⟩
structure PgJ (w w1:World) (rl:List Reg) (x:Nat×Nat) (want:Int) (s:Nat) (k:Nat) (W:World):Prop where
 pg:PgSt W (w1.heap.size-1) (w1.heap.size-2) (pst x k)
 mark:W.heap[w1.heap.size]? =some (.deferred (some []))
 below:Below w.heap.size w W
 p0:W.heap[w.heap.size]? =some (.cells #[.pointer (some ⟨s,0,none⟩)] 60 (0,0))
 p1:W.heap[w.heap.size+1]? =some (.cells #[.int .u8 want] 5 (0,0))
 p2:W.heap[w.heap.size+1+1]? =some (.cells #[.bool false] 4 (0,0))
 ok: ∀j,j<k-> ∃r,Rg.find rl ((pst x j).1:Int)=(r,true)/\bits .and .u8 r.prot want=want
theorem az :Mod (fun b=>b=l) W (W.putObj l o):=⟨rfl,rfl,rfl,by rw[World.putObj_size];exact vs _,fun b _ hb=>World.putObj_heap_other hb⟩
variable {w1:World} {s k:Nat}
theorem PgJ.keep {W':World} (h:PgJ w w1 rl x want s k W) (hm:Mod (fun b=>b=w1.heap.size+1) W W') (hz:w.heap.size+5<=w1.heap.size):PgJ w w1 rl x want s k W':=by
 have vW: ∀ {b:Nat} {o:Obj},W.heap[b]? =some o->b≠w1.heap.size+1->W'.heap[b]? =some o:=fun h1 h2=>(hm.block _ (vo h1).1 h2).trans h1;exact⟨⟨vW h.pg.n (by omega),vW h.pg.a (by omega)⟩,vW h.mark (by omega),⟨hm.os.trans h.below.os,hm.tape.trans h.below.tape,hm.output.trans h.below.output,vM h.below.size hm.size,fun b hb=>(hm.block b (by have:=h.below.size;omega) (by omega)).trans (h.below.block b hb)⟩,vW h.p0 (by omega),vW h.p1 (by omega),vW h.p2 (by omega),h.ok⟩
variable {r:Reg}
theorem PgJ.next (h:PgJ w w1 rl x want s k W) (hz:w.heap.size+5<=w1.heap.size) (hr:Rg.find rl ((pst x k).1:Int)=(r,true)) (hb:bits .and .u8 r.prot want=want):
  PgJ w w1 rl x want s (k+1) (cv W (w1.heap.size-1) (w1.heap.size-2) (pst x (k+1)))/\(∀b,b≠w1.heap.size-1->b≠w1.heap.size-2->b<W.heap.size->(cv W (w1.heap.size-1) (w1.heap.size-2) (pst x (k+1))).heap[b]? =W.heap[b]?):=by
 have hm:Mod (fun b=>b=w1.heap.size-1\/b=w1.heap.size-2) W (cv W (w1.heap.size-1) (w1.heap.size-2) (pst x (k+1))):=(aj (S:=fun b=>b=w1.heap.size-1\/b=w1.heap.size-2) (.inr rfl) 0 _).trans (Out.refl _ _) (aj (.inl rfl) 0 _);have vW: ∀ {b:Nat} {o:Obj},W.heap[b]? =some o->b≠w1.heap.size-1->b≠w1.heap.size-2->(cv W (w1.heap.size-1) (w1.heap.size-2) (pst x (k+1))).heap[b]? =some o:=fun h1 h2 h3=>(hm.block _ (vo h1).1 (fun e=>e.elim h2 h3)).trans h1;refine⟨⟨⟨?_,?_⟩,vW h.mark (by omega) (by omega),⟨hm.os.trans h.below.os,hm.tape.trans h.below.tape,hm.output.trans h.below.output,vM h.below.size hm.size,fun b hb=>(hm.block b (by have:=h.below.size;omega) (by omega)).trans (h.below.block b hb)⟩,vW h.p0 (by omega) (by omega),vW h.p1 (by omega) (by omega),vW h.p2 (by omega) (by omega),fun j hj=>?_⟩,fun b h1 h2 h3=>hm.block b h3 (fun e=>e.elim h1 h2)⟩
 ·have h1:=(aj (S:=fun b=>b=w1.heap.size-2) (w:=W) rfl 0 (.int .u64 ((pst x (k+1)).1:Int))).block (w1.heap.size-1) (vo h.pg.n).1 (by omega);exact aU (h1.trans h.pg.n)
 ·have h1:=aU (y:= .int .u64 ((pst x (k+1)).1:Int)) h.pg.a;exact((aj (S:=fun b=>b=w1.heap.size-1) rfl 0 _).block (w1.heap.size-2) (vo h1).1 (by omega)).trans h1
 ·rcases Nat.lt_or_ge j k with h1|h1
  ·exact h.ok j h1
  ·obtain rfl:j=k:=(by omega);exact⟨r,hr,hb⟩
variable {o2:Obj}
theorem bX {b:Nat} (hb:b<w.heap.size):((w.alloc o).alloc o2).heap[b]? =w.heap[b]? :=(vt _ _ _ (by simp;omega)).trans (vt _ _ _ hb)
variable {Wn:World}
theorem qZ {b1 b2:Nat} (hJ:PgJ w w1 rl x want s k W) (hm:Mod (fun b=>b=w1.heap.size+1) W Wn) (hz:w.heap.size+5<=w1.heap.size) (hl:w1.heap.size+1<Wn.heap.size)
  (hr:Rg.find rl ((pst x k).1:Int)=(r,true)) (hb:bits .and .u8 r.prot want=want) (h1:b1=w1.heap.size-1) (h2:b2=w1.heap.size-2):
  PgSt (Wn.putObj (w1.heap.size+1) o) b1 b2 (pst x k)/\PgJ w w1 rl x want s (k+1) (cv (Wn.putObj (w1.heap.size+1) o) b1 b2 (pst x (k+1)))/\(cv (Wn.putObj (w1.heap.size+1) o) b1 b2 (pst x (k+1))).heap[w1.heap.size+1]? =some o:=by
 subst h1 h2;have hk:=hJ.keep (hm.trans (Out.refl _ _) (az (o:=o))) hz;obtain⟨n1,n2⟩:=hk.next hz hr hb;exact⟨hk.pg,n1,(n2 _ (by omega) (by omega) (by rw[World.putObj_size];exact hl)).trans (World.putObj_heap_same hl)⟩
theorem jH (h:PgJ w w1 rl x want s k Wn) (hz:w.heap.size+5<=w1.heap.size) (hl:Wn.heap[w1.heap.size+1]? =some o):
  (Wn.setCell ⟨w.heap.size+1+1,0,none⟩ (.bool false)).heap[w1.heap.size+1]? =some o/\((Wn.setCell ⟨w.heap.size+1+1,0,none⟩ (.bool false)).putObj (w1.heap.size+1) o2).heap[w1.heap.size+1]? =some o2/\((Wn.setCell ⟨w.heap.size+1+1,0,none⟩ (.bool false)).putObj (w1.heap.size+1) o2).heap[w1.heap.size]? =some (.deferred (some []))/\
  Below w.heap.size w ((Wn.setCell ⟨w.heap.size+1+1,0,none⟩ (.bool false)).putObj (w1.heap.size+1) o2)/\((Wn.setCell ⟨w.heap.size+1+1,0,none⟩ (.bool false)).putObj (w1.heap.size+1) o2).heap[w.heap.size+1+1]? =some (.cells #[.bool false] 4 (0,0)):=by
 have hm:Mod (fun b=>b=w.heap.size+1+1) Wn (Wn.setCell ⟨w.heap.size+1+1,0,none⟩ (.bool false)):=aj (S:=fun b=>b=w.heap.size+1+1) rfl 0 _;have h1:=(hm.block _ (vo hl).1 (by omega)).trans hl;have h2:=(hm.block _ (vo h.mark).1 (by omega)).trans h.mark;exact⟨h1,World.putObj_heap_same (vo h1).1,(World.putObj_heap_other (by omega)).trans h2,ft (h.below.setCell (p:=⟨w.heap.size+1+1,0,none⟩) (by show w.heap.size<=w.heap.size+1+1;omega) _) (by omega),(World.putObj_heap_other (by omega)).trans (aU h.p2)⟩
theorem gD (h:(pst x k).2=0): ∀d,(pst x (k+d)).2=0
 |0=>h
 |d+1=>by
  have:=gD h d;show(pst x (k+d)).2-pm (pst x (k+d))=0;omega
theorem PgJ.perm (h:PgJ w w1 rl x want s k W) (h0:(pst x k).2=0) (hx:x.1+x.2<=140737488355328):Perm rl x want:=
 ⟨hx,fun j hj=>h.ok j (by
  rcases Nat.lt_or_ge j k with h1|h1
  ·exact h1
  ·have:=gD h0 (j-k);rw[show k+(j-k)=j by omega]at this;omega)⟩
theorem jI (s c a t n cap:Nat) (A:Option Addr) (rl:List Reg) (addr len:Nat) (want:Int) (w:World) (xv:cP w s c a t A n cap) (wz:RSl w w.heap.size A n cap rl) (hw:addr<18446744073709551616) (hl:len<9223372036854775808):
  Calls Tryz.prog 119 #[.pointer (some ⟨s,0,none⟩), .int .u64 (addr:Int), .int .i64 (len:Int), .int .u8 want] w
   fun e w'=>e= .returned (.bool (dZ rl (addr,len) want))/\Below w.heap.size w w':=by
 refine(callsIn_wide (n:=9)).1 ?_;refine callsIn_of_wp_marks Tryz.func119 rfl trivial ?_;simp only[Tryz.ntmps119,List.size_toArray,vC,List.length_nil,Nat.reduceAdd,Nat.reduceSub,Array.replicate_succ,Array.replicate_zero,List.push_toArray,List.append_toArray,List.nil_append,List.cons_append];obtain⟨w0,vT⟩: ∃w0,w0=((w.alloc (.cells #[.pointer (some ⟨s,0,none⟩)] 60)).alloc (.cells #[.int .u8 want] 5)).alloc (.cells #[.bool false] 4):=⟨_,rfl⟩;have wM:w0.heap.size=w.heap.size+1+1+1:=(by rw[vT];simp);have vU:Below w.heap.size w w0:=(by rw[vT];exact(vr.alloc (by simp) _).alloc (by simp;omega) _);have zp:w0.heap[w.heap.size+1+1]? =some (.cells #[.bool false] 4 (0,0)):=by
  rw[vT];have:=ab ((w.alloc (.cells #[.pointer (some ⟨s,0,none⟩)] 60)).alloc (.cells #[.int .u8 want] 5)) (.cells #[.bool false] 4)
  rwa [World.size_alloc,World.size_alloc]at this
 have Ho:w0.heap[w.heap.size+1]? =some (.cells #[.int .u8 want] 5 (0,0)):=by
  rw[vT];have:=ab (w.alloc (.cells #[.pointer (some ⟨s,0,none⟩)] 60)) (.cells #[.int .u8 want] 5);rw[World.size_alloc]at this;exact(vt _ _ _ (by simp)).trans this
 have Ag:w0.heap[w.heap.size]? =some (.cells #[.pointer (some ⟨s,0,none⟩)] 60 (0,0)):=by
  rw[vT];exact(vt _ _ _ (by simp;omega)).trans ((vt _ _ _ (by simp)).trans (ab w _))
 have wD:=vp vT;have xe:=vp vU;have CX:=vp wM;have r0:w0.cell? ⟨w.heap.size+1+1,0,none⟩=some (.bool false):=aa zp 0;have rf0:=ae zp 0;have xr:w.heap.size+1+1<w0.heap.size:=(by omega);have DS:=vp zp;have QV:=vp Ho;have zI:=vp Ag;have Hu:=vp xv;have xz:=vp wz;have hss:s<w.heap.size:=(vo xv).1;clear vU zp Ho Ag wM vT xv wz;by_cases yN:140737488355328<addr
 ·have wE:dZ rl (addr,len) want=false:=lJ (fun h=>by have:=h.1;simp at this;omega);have ze:=vp wE;clear wE
  gi_wp2
  rw[<-wD.out];refine⟨.bool false,?_,by rw[ze.out],xe.out⟩;simp[results,Tryz.results119,go_sem,r0]
 have wO:IntKind.u64.wrap (len:Int)=(len:Int):=(by rw[IntKind.wrap_u64];omega);have xq:IntKind.u64.wrap (140737488355328-(addr:Int))=140737488355328-(addr:Int):=(by rw[IntKind.wrap_u64];omega);by_cases Kf:(140737488355328:Int)-(addr:Int)<(len:Int)
 ·have wE:dZ rl (addr,len) want=false:=lJ (fun h=>by have:=h.1;simp at this;omega);have ze:=vp wE;clear wE
  gi_wp2
  rw[<-wD.out];refine⟨.bool false,?_,by rw[ze.out],xe.out⟩;simp[results,Tryz.results119,go_sem,r0]
 gi_wp2_with (first
  |(refine⟨trivial,?_⟩;rw[<-wD.out];refine(callsIn_wide.2 (gJ (addr:Int) (len:Int) w0)).mono ?_;rintro e w1 ⟨rfl,yV⟩)
  |fail)
 have wF:w1.heap.size=w0.heap.size+2:=(by rw[yV];simp);have vS:Below w0.heap.size w0 w1:=(by rw[yV];exact vr.alloc (by simp) _);have QF:w1.heap[w0.heap.size]? =some (.cells #[.int .u64 (addr:Int)] 43 (0,0)):=(by rw[yV];exact(vt _ _ _ (by simp)).trans (ab w0 _));have LC:w1.heap[w0.heap.size+1]? =some (.cells #[.int .i64 (len:Int)] 3 (0,0)):=by
  rw[yV];have:=ab (w0.alloc (.cells #[.int .u64 (addr:Int)] 43)) (.cells #[.int .i64 (len:Int)] 3)
  rwa [World.size_alloc]at this
 rw[<-yV];have IF:=vp wF;have vY:=vp vS;have Xd:=vp QF;have QY:=vp LC;clear yV wF vS QF LC r0 rf0 xr;refine bI rfl (by omega) (gf:=155) (lb:= #[.pointer (some ⟨w0.heap.size+1,0,none⟩), .pointer (some ⟨w0.heap.size,0,none⟩)]) rfl trivial (enters_of Tryz.func155 (by kernel_rfl) rfl) ?_;intro fn DK rec xG;refine(gK (9-1) (by omega) (w1.heap.size+1) (w0.heap.size+1) w0.heap.size (by omega) (addr,len) (by simp only;omega) (fun k W=>PgJ w w1 rl (addr,len) want s k W/\W.heap[w1.heap.size+1]? =some (.loop (rec .ready none))) (fun W=>W.heap[w1.heap.size+1]? =some (.loop (rec .done (some .ret)))/\W.heap[w1.heap.size]? =some (.deferred (some []))/\Below w.heap.size w W/\W.heap[w.heap.size+1+1]? =some (.cells #[.bool false] 4 (0,0))/\ ¬Perm rl (addr,len) want) ?_ ?_ _ ?_).mono ?_
 ·intro k W hJ;have:=hJ.1.pg;rw[IF.out]at this;exact this
 ·intro k W hJ wJ;refine bu trivial xG hJ.2 rfl ?_;obtain⟨⟨j1,j2,j3,j4,j5,j6,j7⟩,jl⟩:=hJ;obtain⟨x,hx⟩: ∃x,x=(pst (addr,len) k).1:=⟨_,rfl⟩;obtain⟨M,hM⟩: ∃M,M=pm (pst (addr,len) k):=⟨_,rfl⟩;rw[<-hx,<-hM];have HX:=vp hx;have HM:=vp hM;have J1:=vp j1;have J2:=vp j2;have J3:=vp j3;have J4:=vp j4;have J5:=vp j5;have J6:=vp j6;have J7:=vp j7;have JL:=vp jl;have zJ:=vp wJ;have QT:=vp xG;clear hx hM j1 j2 j3 j4 j5 j6 j7 jl wJ xG
  gi_wp2
  refine⟨JL.out,?_⟩;obtain⟨W2,wT⟩: ∃W2,W2=W.putObj (w1.heap.size+1) (.loop (rec .busy none)):=⟨_,rfl⟩;rw[<-wT];have wk:Mod (fun b=>b=w1.heap.size+1) W W2:=(by rw[wT];exact az);have wS:W2.heap[w1.heap.size+1]? =some (.loop (rec .busy none)):=(by rw[wT];exact World.putObj_heap_same (vo JL.out).1);have wF:w1.heap.size=w.heap.size+1+1+1+2:=(by rw[IF.out,CX.out]);have wb:Below w.heap.size w W2:=(by rw[wT];exact ft J3.out (by omega));have c0:W2.cell? ⟨w.heap.size,0,none⟩=some (.pointer (some ⟨s,0,none⟩)):=aa ((wk.block _ (vo J4.out).1 (by omega)).trans J4.out) 0;have yr:=(wk.block _ (vo J5.out).1 (by omega)).trans J5.out;have Au:=(wk.block _ (vo J6.out).1 (by omega)).trans J6.out;have s3:W2.cell? ⟨s,3,none⟩=some (.slice A n cap):=(wb.cell (p:=⟨s,3,none⟩) hss).trans (aa Hu.out 3);have Ur:=lU A n cap (x:Int) W2 rl ((xz.out.below wb (vs _)).more wb.size);have YN:w1.heap.size+1<W2.heap.size:=(vo wS).1;obtain⟨⟨r,bf⟩,YA⟩: ∃rb,rb=Rg.find rl (x:Int):=⟨_,rfl⟩;rw[<-YA]at Ur;have HRF:=vp YA;have MV:=vp Ur;have Ds:=vp wT;have CP:=vp wk;have GN:=vp wS;have Dw:=vp yr;have yu:=vp Au;have HZ:=vp wF;have xF:=vp wb;clear YA Ur wT wk wS yr Au wF wb;by_cases hb:bf=true
  ·subst hb;by_cases hq:bits .and .u8 r.prot want=want
   ·have Pp:(bits .and .u8 r.prot want != want)=false:=(by rw[hq];simp);have Sj:=vp hq;clear hq;gi_wp2_with (first
     |(refine⟨trivial,?_⟩;refine(CallsIn.inRound (w1.heap.size+1) (callsIn_wide.2 MV.out)).mono ?_;rintro e W3 ⟨rfl,wG⟩;have Bi:=(wG.block _ (by have:=HZ.out;omega)).trans Dw.out;have yw:=(wG.block _ (by have:=HZ.out;omega)).trans yu.out;have e1: ∀o,(W3.alloc o).cell? ⟨w.heap.size+1,0,none⟩=some (.int .u8 want):=fun o=>aa ((vt W3 o _ (vo Bi).1).trans Bi) 0;have e2: ∀o,(W3.alloc o).cell? ⟨w.heap.size+1+1,0,none⟩=some (.bool false):=fun o=>aa ((vt W3 o _ (vo yw).1).trans yw) 0;have ef2: ∀o,(W3.alloc o).frozen? ⟨w.heap.size+1+1,0,none⟩=false:=fun o=>ae ((vt W3 o _ (vo yw).1).trans yw) 0;have Lx:=(wG.block _ YN).trans GN.out;have MQ:=vp Lx;have WQ:=vp yw;have zm:=vp wG;clear Bi yw Lx wG)
     |fail)
    exact⟨((vt _ _ _ (vo MQ.out).1).trans MQ.out), .inl ⟨rfl,qZ (rl:=rl) (want:=want) (s:=s) (r:=r) ⟨J1.out,J2.out,J3.out,J4.out,J5.out,J6.out,J7.out⟩ (CP.out.trans (Out.refl _ _) ((Mod.of zm.out).trans (Out.refl _ _) (Mod.of vr))) (by have:=HZ.out;omega) (by have:=(vo MQ.out).1;simp;omega) (by rw[<-HX.out];exact HRF.out.symm) Sj.out (by rw[IF.out];rfl) (by rw[IF.out];rfl)⟩⟩
   ·have Pp:(bits .and .u8 r.prot want != want)=true:=(by rw[bne_iff_ne];exact hq);have Sj:=vp hq;clear hq;gi_wp2_with (first
     |(refine⟨trivial,?_⟩;refine(CallsIn.inRound (w1.heap.size+1) (callsIn_wide.2 MV.out)).mono ?_;rintro e W3 ⟨rfl,wG⟩;have Bi:=(wG.block _ (by have:=HZ.out;omega)).trans Dw.out;have yw:=(wG.block _ (by have:=HZ.out;omega)).trans yu.out;have e1: ∀o,(W3.alloc o).cell? ⟨w.heap.size+1,0,none⟩=some (.int .u8 want):=fun o=>aa ((vt W3 o _ (vo Bi).1).trans Bi) 0;have e2: ∀o,(W3.alloc o).cell? ⟨w.heap.size+1+1,0,none⟩=some (.bool false):=fun o=>aa ((vt W3 o _ (vo yw).1).trans yw) 0;have ef2: ∀o,(W3.alloc o).frozen? ⟨w.heap.size+1+1,0,none⟩=false:=fun o=>ae ((vt W3 o _ (vo yw).1).trans yw) 0;have Lx:=(wG.block _ YN).trans GN.out;have MQ:=vp Lx;have WQ:=vp yw;have zm:=vp wG;clear Bi yw Lx wG)
     |fail)
    obtain⟨q1,q2,q3,q4,q5⟩:=jH (o2:= .loop (rec .done (some .ret))) (PgJ.keep (rl:=rl) (x:=(addr,len)) (want:=want) (s:=s) (k:=k) ⟨J1.out,J2.out,J3.out,J4.out,J5.out,J6.out,J7.out⟩ (CP.out.trans (Out.refl _ _) ((Mod.of zm.out).trans (Out.refl _ _) (Mod.of vr))) (by have:=HZ.out;omega)) (by have:=HZ.out;omega) ((vt _ _ _ (vo MQ.out).1).trans MQ.out);exact⟨q1, .inr ⟨rfl,q2,q3,q4,q5,fun hp=>by obtain⟨r2,h1,h2⟩:=hp.2 k zJ.out;rw[<-HX.out,<-HRF.out]at h1;injection h1 with h1 _;subst h1;exact Sj.out h2⟩⟩
  ·have wb:bf=false:=(by simpa using hb);subst wb;clear hb;gi_wp2_with (first
    |(refine⟨trivial,?_⟩;refine(CallsIn.inRound (w1.heap.size+1) (callsIn_wide.2 MV.out)).mono ?_;rintro e W3 ⟨rfl,wG⟩;have Bi:=(wG.block _ (by have:=HZ.out;omega)).trans Dw.out;have yw:=(wG.block _ (by have:=HZ.out;omega)).trans yu.out;have e1: ∀o,(W3.alloc o).cell? ⟨w.heap.size+1,0,none⟩=some (.int .u8 want):=fun o=>aa ((vt W3 o _ (vo Bi).1).trans Bi) 0;have e2: ∀o,(W3.alloc o).cell? ⟨w.heap.size+1+1,0,none⟩=some (.bool false):=fun o=>aa ((vt W3 o _ (vo yw).1).trans yw) 0;have ef2: ∀o,(W3.alloc o).frozen? ⟨w.heap.size+1+1,0,none⟩=false:=fun o=>ae ((vt W3 o _ (vo yw).1).trans yw) 0;have Lx:=(wG.block _ YN).trans GN.out;have MQ:=vp Lx;have WQ:=vp yw;have zm:=vp wG;clear Bi yw Lx wG)
    |fail)
   obtain⟨q1,q2,q3,q4,q5⟩:=jH (o2:= .loop (rec .done (some .ret))) (PgJ.keep (rl:=rl) (x:=(addr,len)) (want:=want) (s:=s) (k:=k) ⟨J1.out,J2.out,J3.out,J4.out,J5.out,J6.out,J7.out⟩ (CP.out.trans (Out.refl _ _) ((Mod.of zm.out).trans (Out.refl _ _) (Mod.of vr))) (by have:=HZ.out;omega)) (by have:=HZ.out;omega) ((vt _ _ _ (vo MQ.out).1).trans MQ.out);exact⟨q1, .inr ⟨rfl,q2,q3,q4,q5,fun hp=>by obtain⟨r2,h1,h2⟩:=hp.2 k zJ.out;rw[<-HX.out,<-HRF.out]at h1;injection h1 with _ h1;cases h1⟩⟩
 ·refine⟨⟨?_,?_,?_,?_,?_,?_,fun j hj=>absurd hj (by omega)⟩,?_⟩
  ·have h1:w1.heap.size-1=w0.heap.size+1:=(by have:=IF.out;omega);have h2:w1.heap.size-2=w0.heap.size:=(by have:=IF.out;omega);rw[h1,h2];exact⟨(bX (by have:=IF.out;omega)).trans QY.out,(bX (by have:=IF.out;omega)).trans Xd.out⟩
  ·exact(vt _ _ _ (by simp)).trans (ab w1 _)
  ·exact((xe.out.trans (vY.out.mono xe.out.size)).alloc (xe.out.trans (vY.out.mono xe.out.size)).size _).alloc (by have:=(xe.out.trans (vY.out.mono xe.out.size)).size;simp;omega) _
  ·exact(bX (by have:=IF.out;have:=CX.out;omega)).trans ((vY.out.block _ (by have:=CX.out;omega)).trans zI.out)
  ·exact(bX (by have:=IF.out;have:=CX.out;omega)).trans ((vY.out.block _ (by have:=CX.out;omega)).trans QV.out)
  ·exact(bX (by have:=IF.out;have:=CX.out;omega)).trans ((vY.out.block _ (by have:=CX.out;omega)).trans DS.out)
  ·have:=ab (w1.alloc (.deferred (some []))) (.loop (rec .ready none))
   rwa [World.size_alloc]at this
 ·rintro e W ⟨hv,⟨k,zc,hJ,hl⟩|⟨hl,hK,hb,hR,hn⟩⟩
  ·refine⟨hv, .inl ⟨hl,?_⟩⟩;have Jn:=mZ (hJ.perm zc (by simp only;omega));obtain⟨W2,wT⟩: ∃W2,W2=W.putObj (w1.heap.size+1) (.loop (rec .exhausted none)):=⟨_,rfl⟩;rw[<-wT];have wk:Mod (fun b=>b=w1.heap.size+1) W W2:=(by rw[wT];exact az);have hz:w1.heap.size=w.heap.size+1+1+1+2:=(by rw[IF.out,CX.out]);have Qx:=hJ.keep wk (by omega);have c0:W2.cell? ⟨w.heap.size+1+1,0,none⟩=some (.bool false):=aa Qx.p2 0;have cf0:=ae Qx.p2 0;have OE:=vp Qx;have HYES:=vp Jn;have HZ:=vp hz;clear Qx Jn hz wk wT hJ hl zc hv;unfold dp
   gi_wp2
   have hK:(W2.setCell ⟨w.heap.size+1+1,0,none⟩ (.bool true)).heap[w1.heap.size]? =some (.deferred (some [])):=((aj (S:=fun b=>b=w.heap.size+1+1) rfl 0 _).block _ (vo OE.out.mark).1 (by have:=HZ.out;omega)).trans OE.out.mark;refine⟨by simp, .inl ⟨_,_,rfl,run_takeDeferred hK,?_⟩⟩;have hR:((W2.setCell ⟨w.heap.size+1+1,0,none⟩ (.bool true)).putObj w1.heap.size (.deferred none)).heap[w.heap.size+1+1]? =some (.cells #[.bool true] 4 (0,0)):=(World.putObj_heap_other (by have:=HZ.out;omega)).trans (aU OE.out.p2);have c1:=aa hR 0;refine⟨.bool true,?_,by rw[HYES.out],ft (OE.out.below.setCell (p:=⟨w.heap.size+1+1,0,none⟩) (by show w.heap.size<=w.heap.size+1+1;omega) _) (by have:=HZ.out;omega)⟩;simp[results,Tryz.results119,go_sem,c1]
  ·refine⟨hv, .inr ⟨_,hl,?_⟩⟩;have hz:w1.heap.size=w.heap.size+1+1+1+2:=(by rw[IF.out,CX.out]);obtain⟨W2,wT⟩: ∃W2,W2=W.putObj (w1.heap.size+1) (.loop (rec .exhausted (some .ret))):=⟨_,rfl⟩;rw[<-wT];have AB:W2.heap[w1.heap.size]? =some (.deferred (some [])):=(by rw[wT];exact(World.putObj_heap_other (by omega)).trans hK);have yt:W2.heap[w.heap.size+1+1]? =some (.cells #[.bool false] 4 (0,0)):=(by rw[wT];exact(World.putObj_heap_other (by omega)).trans hR);have wb:Below w.heap.size w W2:=(by rw[wT];exact ft hb (by omega));have Em:(W2.putObj w1.heap.size (.deferred none)).heap[w.heap.size+1+1]? =some (.cells #[.bool false] 4 (0,0)):=(World.putObj_heap_other (by omega)).trans yt;have c1:=aa Em 0;have yy:=vp hn;have wF:w.heap.size<=w1.heap.size:=(by omega);clear wT hl hK hb hR hn hv yt hz;unfold dp
   gi_wp2
   refine⟨by simp, .inl ⟨_,_,rfl,run_takeDeferred AB,?_⟩⟩;refine⟨.bool false,?_,by rw[lJ yy.out],ft wb wF⟩;simp[results,Tryz.results119,go_sem,c1]
end
