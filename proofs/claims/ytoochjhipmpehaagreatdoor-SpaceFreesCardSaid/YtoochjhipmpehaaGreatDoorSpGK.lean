/- Spaces: what permits says. -/
import Derived.Test.YtoochjhipmpehaaGreatDoorSbK
import Derived.Test.YtoochjhipmpehaaGreatDoorTvAK
set_option linter.unusedVariables false
set_option linter.unusedSimpArgs false
set_option maxRecDepth 100000
set_option maxHeartbeats 4000000
namespace Go.Proofs.YtoochjhipmpehaaGreatDoor
section
open Go.RowKit Go.Sort
attribute [local go_sem] Oper.semAt_some
theorem gJ (addr len:Int) (w:World):Calls Tryz.prog 120 #[.int .u64 addr, .int .i64 len] w fun e w'=>e= .returned (.func (.func 155) #[] #[.pointer (some ⟨w.heap.size+1,0,none⟩), .pointer (some ⟨w.heap.size,0,none⟩)])/\
  w'=(w.alloc (.cells #[.int .u64 addr] 43)).alloc (.cells #[.int .i64 len] 3):=by
 go_enter Tryz.func120,Tryz.ntmps120;go_wp2_with fail;go_ret;exact⟨rfl,rfl⟩
def Perm (rl:List Reg) (x:Nat×Nat) (want:Int):Prop:=x.1+x.2<=140737488355328/\ ∀k,0<(pst x k).2-> ∃r,Rg.find rl ((pst x k).1:Int)=(r,true)/\bits .and .u8 r.prot want=want
open Classical in
noncomputable def en (rl:List Reg) (x:Nat×Nat) (want:Int):Bool:=decide (Perm rl x want)
variable {rl:List Reg} {x:Nat×Nat} {want:Int}
theorem lz (h: ¬Perm rl x want):en rl x want=false:=by unfold en;exact @va _ (Classical.propDecidable _) h
theorem mP (h:Perm rl x want):en rl x want=true:=by unfold en;exact @vb _ (Classical.propDecidable _) h
variable {l:Nat} {w W:World} {o:Obj}
theorem ft {B:Nat} (h:Below B w W) (hl:B<=l):Below B w (W.putObj l o):=⟨h.os,h.tape,h.output,by rw[World.putObj_size];exact h.size,fun b hb=>(World.putObj_heap_other (by omega)).trans (h.block b hb)⟩
structure PgJ (w w1:World) (rl:List Reg) (x:Nat×Nat) (want:Int) (s:Nat) (k:Nat) (W:World):Prop where
 pg:PgSt W (w1.heap.size-1) (w1.heap.size-2) (pst x k)
 mark:W.heap[w1.heap.size]? =some (.deferred (some []))
 below:Below w.heap.size w W
 p0:W.heap[w.heap.size]? =some (.cells #[.pointer (some ⟨s,0,none⟩)] 60 (0,0))
 p1:W.heap[w.heap.size+1]? =some (.cells #[.int .u8 want] 5 (0,0))
 p2:W.heap[w.heap.size+1+1]? =some (.cells #[.bool false] 4 (0,0))
 ok: ∀j,j<k-> ∃r,Rg.find rl ((pst x j).1:Int)=(r,true)/\bits .and .u8 r.prot want=want
theorem az :Mod (fun b=>b=l) W (W.putObj l o):=⟨rfl,rfl,rfl,by rw[World.putObj_size];exact uN _,fun b _ hb=>World.putObj_heap_other hb⟩
variable {w1:World} {s k:Nat}
theorem PgJ.keep {W':World} (h:PgJ w w1 rl x want s k W) (hm:Mod (fun b=>b=w1.heap.size+1) W W') (hz:w.heap.size+5<=w1.heap.size):PgJ w w1 rl x want s k W':=by
 have vq: ∀ {b:Nat} {o:Obj},W.heap[b]? =some o->b≠w1.heap.size+1->W'.heap[b]? =some o:=fun h1 h2=>(hm.block _ (uJ h1).1 h2).trans h1;exact⟨⟨vq h.pg.n (by omega),vq h.pg.a (by omega)⟩,vq h.mark (by omega),⟨hm.os.trans h.below.os,hm.tape.trans h.below.tape,hm.output.trans h.below.output,vh h.below.size hm.size,fun b hb=>(hm.block b (by have:=h.below.size;omega) (by omega)).trans (h.below.block b hb)⟩,vq h.p0 (by omega),vq h.p1 (by omega),vq h.p2 (by omega),h.ok⟩
variable {r:Reg}
theorem PgJ.next (h:PgJ w w1 rl x want s k W) (hz:w.heap.size+5<=w1.heap.size) (hr:Rg.find rl ((pst x k).1:Int)=(r,true)) (hb:bits .and .u8 r.prot want=want):
  PgJ w w1 rl x want s (k+1) (cB W (w1.heap.size-1) (w1.heap.size-2) (pst x (k+1)))/\(∀b,b≠w1.heap.size-1->b≠w1.heap.size-2->b<W.heap.size->(cB W (w1.heap.size-1) (w1.heap.size-2) (pst x (k+1))).heap[b]? =W.heap[b]?):=by
 have hm:Mod (fun b=>b=w1.heap.size-1\/b=w1.heap.size-2) W (cB W (w1.heap.size-1) (w1.heap.size-2) (pst x (k+1))):=(al (S:=fun b=>b=w1.heap.size-1\/b=w1.heap.size-2) (.inr rfl) 0 _).trans (Out.refl _ _) (al (.inl rfl) 0 _);have vq: ∀ {b:Nat} {o:Obj},W.heap[b]? =some o->b≠w1.heap.size-1->b≠w1.heap.size-2->(cB W (w1.heap.size-1) (w1.heap.size-2) (pst x (k+1))).heap[b]? =some o:=fun h1 h2 h3=>(hm.block _ (uJ h1).1 (fun e=>e.elim h2 h3)).trans h1;refine⟨⟨⟨?_,?_⟩,vq h.mark (by omega) (by omega),⟨hm.os.trans h.below.os,hm.tape.trans h.below.tape,hm.output.trans h.below.output,vh h.below.size hm.size,fun b hb=>(hm.block b (by have:=h.below.size;omega) (by omega)).trans (h.below.block b hb)⟩,vq h.p0 (by omega) (by omega),vq h.p1 (by omega) (by omega),vq h.p2 (by omega) (by omega),fun j hj=>?_⟩,fun b h1 h2 h3=>hm.block b h3 (fun e=>e.elim h1 h2)⟩
 ·have h1:=(al (S:=fun b=>b=w1.heap.size-2) (w:=W) rfl 0 (.int .u64 ((pst x (k+1)).1:Int))).block (w1.heap.size-1) (uJ h.pg.n).1 (by omega);exact bq (h1.trans h.pg.n)
 ·have h1:=bq (y:= .int .u64 ((pst x (k+1)).1:Int)) h.pg.a;exact((al (S:=fun b=>b=w1.heap.size-1) rfl 0 _).block (w1.heap.size-2) (uJ h1).1 (by omega)).trans h1
 ·rcases Nat.lt_or_ge j k with h1|h1
  ·exact h.ok j h1
  ·obtain rfl:j=k:=(by omega);exact⟨r,hr,hb⟩
variable {o2:Obj}
theorem cf {b:Nat} (hb:b<w.heap.size):((w.alloc o).alloc o2).heap[b]? =w.heap[b]? :=(uO _ _ _ (by simp;omega)).trans (uO _ _ _ hb)
variable {Wn:World}
theorem qL {b1 b2:Nat} (hJ:PgJ w w1 rl x want s k W) (hm:Mod (fun b=>b=w1.heap.size+1) W Wn) (hz:w.heap.size+5<=w1.heap.size) (hl:w1.heap.size+1<Wn.heap.size)
  (hr:Rg.find rl ((pst x k).1:Int)=(r,true)) (hb:bits .and .u8 r.prot want=want) (h1:b1=w1.heap.size-1) (h2:b2=w1.heap.size-2):
  PgSt (Wn.putObj (w1.heap.size+1) o) b1 b2 (pst x k)/\PgJ w w1 rl x want s (k+1) (cB (Wn.putObj (w1.heap.size+1) o) b1 b2 (pst x (k+1)))/\(cB (Wn.putObj (w1.heap.size+1) o) b1 b2 (pst x (k+1))).heap[w1.heap.size+1]? =some o:=by
 subst h1 h2;have hk:=hJ.keep (hm.trans (Out.refl _ _) (az (o:=o))) hz;obtain⟨n1,n2⟩:=hk.next hz hr hb;exact⟨hk.pg,n1,(n2 _ (by omega) (by omega) (by rw[World.putObj_size];exact hl)).trans (World.putObj_heap_same hl)⟩
theorem jD (h:PgJ w w1 rl x want s k Wn) (hz:w.heap.size+5<=w1.heap.size) (hl:Wn.heap[w1.heap.size+1]? =some o):
  (Wn.setCell ⟨w.heap.size+1+1,0,none⟩ (.bool false)).heap[w1.heap.size+1]? =some o/\((Wn.setCell ⟨w.heap.size+1+1,0,none⟩ (.bool false)).putObj (w1.heap.size+1) o2).heap[w1.heap.size+1]? =some o2/\((Wn.setCell ⟨w.heap.size+1+1,0,none⟩ (.bool false)).putObj (w1.heap.size+1) o2).heap[w1.heap.size]? =some (.deferred (some []))/\
  Below w.heap.size w ((Wn.setCell ⟨w.heap.size+1+1,0,none⟩ (.bool false)).putObj (w1.heap.size+1) o2)/\((Wn.setCell ⟨w.heap.size+1+1,0,none⟩ (.bool false)).putObj (w1.heap.size+1) o2).heap[w.heap.size+1+1]? =some (.cells #[.bool false] 4 (0,0)):=by
 have hm:Mod (fun b=>b=w.heap.size+1+1) Wn (Wn.setCell ⟨w.heap.size+1+1,0,none⟩ (.bool false)):=al (S:=fun b=>b=w.heap.size+1+1) rfl 0 _;have h1:=(hm.block _ (uJ hl).1 (by omega)).trans hl;have h2:=(hm.block _ (uJ h.mark).1 (by omega)).trans h.mark;exact⟨h1,World.putObj_heap_same (uJ h1).1,(World.putObj_heap_other (by omega)).trans h2,ft (h.below.setCell (p:=⟨w.heap.size+1+1,0,none⟩) (by show w.heap.size<=w.heap.size+1+1;omega) _) (by omega),(World.putObj_heap_other (by omega)).trans (bq h.p2)⟩
theorem gD (h:(pst x k).2=0): ∀d,(pst x (k+d)).2=0
 |0=>h
 |d+1=>by
  have:=gD h d;show(pst x (k+d)).2-pm (pst x (k+d))=0;omega
theorem PgJ.perm (h:PgJ w w1 rl x want s k W) (h0:(pst x k).2=0) (hx:x.1+x.2<=140737488355328):Perm rl x want:=
 ⟨hx,fun j hj=>h.ok j (by
  rcases Nat.lt_or_ge j k with h1|h1
  ·exact h1
  ·have:=gD h0 (j-k);rw[show k+(j-k)=j by omega]at this;omega)⟩
theorem jE (s c a t n cap:Nat) (A:Option Addr) (rl:List Reg) (addr len:Nat) (want:Int) (w:World) (xO:dC w s c a t A n cap) (vV:RSl w w.heap.size A n cap rl) (hw:addr<18446744073709551616) (hl:len<9223372036854775808):
  Calls Tryz.prog 119 #[.pointer (some ⟨s,0,none⟩), .int .u64 (addr:Int), .int .i64 (len:Int), .int .u8 want] w
   fun e w'=>e= .returned (.bool (en rl (addr,len) want))/\Below w.heap.size w w':=by
 refine(callsIn_wide (n:=9)).1 ?_;refine callsIn_of_wp_marks Tryz.func119 rfl trivial ?_;simp only[Tryz.ntmps119,List.size_toArray,uX,List.length_nil,Nat.reduceAdd,Nat.reduceSub,Array.replicate_succ,Array.replicate_zero,List.push_toArray,List.append_toArray,List.nil_append,List.cons_append];obtain⟨w0,vo⟩: ∃w0,w0=((w.alloc (.cells #[.pointer (some ⟨s,0,none⟩)] 60)).alloc (.cells #[.int .u8 want] 5)).alloc (.cells #[.bool false] 4):=⟨_,rfl⟩;have wb:w0.heap.size=w.heap.size+1+1+1:=(by rw[vo];simp);have vp:Below w.heap.size w w0:=(by rw[vo];exact(uM.alloc (by simp) _).alloc (by simp;omega) _);have zn:w0.heap[w.heap.size+1+1]? =some (.cells #[.bool false] 4 (0,0)):=by
  rw[vo];have:=ab ((w.alloc (.cells #[.pointer (some ⟨s,0,none⟩)] 60)).alloc (.cells #[.int .u8 want] 5)) (.cells #[.bool false] 4)
  rwa [World.size_alloc,World.size_alloc]at this
 have Hy:w0.heap[w.heap.size+1]? =some (.cells #[.int .u8 want] 5 (0,0)):=by
  rw[vo];have:=ab (w.alloc (.cells #[.pointer (some ⟨s,0,none⟩)] 60)) (.cells #[.int .u8 want] 5);rw[World.size_alloc]at this;exact(uO _ _ _ (by simp)).trans this
 have zZ:w0.heap[w.heap.size]? =some (.cells #[.pointer (some ⟨s,0,none⟩)] 60 (0,0)):=by
  rw[vo];exact(uO _ _ _ (by simp;omega)).trans ((uO _ _ _ (by simp)).trans (ab w _))
 have vR:=uK vo;have wI:=uK vp;have CR:=uK wb;have r0:w0.cell? ⟨w.heap.size+1+1,0,none⟩=some (.bool false):=aa zn 0;have rf0:=ae zn 0;have xd:w.heap.size+1+1<w0.heap.size:=(by omega);have DI:=uK zn;have LL:=uK Hy;have zG:=uK zZ;have Ic:=uK xO;have BF:=uK vV;have hss:s<w.heap.size:=(uJ xO).1;clear vp zn Hy zZ wb vo xO vV;by_cases yO:140737488355328<addr
 ·have vL:en rl (addr,len) want=false:=lz (fun h=>by have:=h.1;simp at this;omega);have zJ:=uK vL;clear vL
  gi_wp2
  rw[<-vR.out];refine⟨.bool false,?_,by rw[zJ.out],wI.out⟩;simp[results,Tryz.results119,go_sem,r0]
 have we:IntKind.u64.wrap (len:Int)=(len:Int):=(by rw[IntKind.wrap_u64];omega);have wX:IntKind.u64.wrap (140737488355328-(addr:Int))=140737488355328-(addr:Int):=(by rw[IntKind.wrap_u64];omega);by_cases Kj:(140737488355328:Int)-(addr:Int)<(len:Int)
 ·have vL:en rl (addr,len) want=false:=lz (fun h=>by have:=h.1;simp at this;omega);have zJ:=uK vL;clear vL
  gi_wp2
  rw[<-vR.out];refine⟨.bool false,?_,by rw[zJ.out],wI.out⟩;simp[results,Tryz.results119,go_sem,r0]
 gi_wp2_with (first
  |(refine⟨trivial,?_⟩;rw[<-vR.out];refine(callsIn_wide.2 (gJ (addr:Int) (len:Int) w0)).mono ?_;rintro e w1 ⟨rfl,zd⟩)
  |fail)
 have vz:w1.heap.size=w0.heap.size+2:=(by rw[zd];simp);have vl:Below w0.heap.size w0 w1:=(by rw[zd];exact uM.alloc (by simp) _);have Qv:w1.heap[w0.heap.size]? =some (.cells #[.int .u64 (addr:Int)] 43 (0,0)):=(by rw[zd];exact(uO _ _ _ (by simp)).trans (ab w0 _));have LH:w1.heap[w0.heap.size+1]? =some (.cells #[.int .i64 (len:Int)] 3 (0,0)):=by
  rw[zd];have:=ab (w0.alloc (.cells #[.int .u64 (addr:Int)] 43)) (.cells #[.int .i64 (len:Int)] 3)
  rwa [World.size_alloc]at this
 rw[<-zd];have IT:=uK vz;have vu:=uK vl;have Wm:=uK Qv;have QH:=uK LH;clear zd vz vl Qv LH r0 rf0 xd;refine bP rfl (by omega) (gf:=155) (lb:= #[.pointer (some ⟨w0.heap.size+1,0,none⟩), .pointer (some ⟨w0.heap.size,0,none⟩)]) rfl trivial (enters_of Tryz.func155 (by kernel_rfl) rfl) ?_;intro fn Dy rec xx;refine(gK (9-1) (by omega) (w1.heap.size+1) (w0.heap.size+1) w0.heap.size (by omega) (addr,len) (by simp only;omega) (fun k W=>PgJ w w1 rl (addr,len) want s k W/\W.heap[w1.heap.size+1]? =some (.loop (rec .ready none))) (fun W=>W.heap[w1.heap.size+1]? =some (.loop (rec .done (some .ret)))/\W.heap[w1.heap.size]? =some (.deferred (some []))/\Below w.heap.size w W/\W.heap[w.heap.size+1+1]? =some (.cells #[.bool false] 4 (0,0))/\ ¬Perm rl (addr,len) want) ?_ ?_ _ ?_).mono ?_
 ·intro k W hJ;have:=hJ.1.pg;rw[IT.out]at this;exact this
 ·intro k W hJ vX;refine bB trivial xx hJ.2 rfl ?_;obtain⟨⟨j1,j2,j3,j4,j5,j6,j7⟩,jl⟩:=hJ;obtain⟨x,hx⟩: ∃x,x=(pst (addr,len) k).1:=⟨_,rfl⟩;obtain⟨M,hM⟩: ∃M,M=pm (pst (addr,len) k):=⟨_,rfl⟩;rw[<-hx,<-hM];have HX:=uK hx;have HM:=uK hM;have J1:=uK j1;have J2:=uK j2;have J3:=uK j3;have J4:=uK j4;have J5:=uK j5;have J6:=uK j6;have J7:=uK j7;have JL:=uK jl;have zH:=uK vX;have QE:=uK xx;clear hx hM j1 j2 j3 j4 j5 j6 j7 jl vX xx
  gi_wp2
  refine⟨JL.out,?_⟩;obtain⟨W2,wo⟩: ∃W2,W2=W.putObj (w1.heap.size+1) (.loop (rec .busy none)):=⟨_,rfl⟩;rw[<-wo];have vE:Mod (fun b=>b=w1.heap.size+1) W W2:=(by rw[wo];exact az);have wk:W2.heap[w1.heap.size+1]? =some (.loop (rec .busy none)):=(by rw[wo];exact World.putObj_heap_same (uJ JL.out).1);have vz:w1.heap.size=w.heap.size+1+1+1+2:=(by rw[IT.out,CR.out]);have vs:Below w.heap.size w W2:=(by rw[wo];exact ft J3.out (by omega));have c0:W2.cell? ⟨w.heap.size,0,none⟩=some (.pointer (some ⟨s,0,none⟩)):=aa ((vE.block _ (uJ J4.out).1 (by omega)).trans J4.out) 0;have xY:=(vE.block _ (uJ J5.out).1 (by omega)).trans J5.out;have Am:=(vE.block _ (uJ J6.out).1 (by omega)).trans J6.out;have s3:W2.cell? ⟨s,3,none⟩=some (.slice A n cap):=(vs.cell (p:=⟨s,3,none⟩) hss).trans (aa Ic.out 3);have TO:=lL A n cap (x:Int) W2 rl ((BF.out.below vs (uN _)).more vs.size);have XY:w1.heap.size+1<W2.heap.size:=(uJ wk).1;obtain⟨⟨r,bf⟩,XJ⟩: ∃rb,rb=Rg.find rl (x:Int):=⟨_,rfl⟩;rw[<-XJ]at TO;have ZD:=uK XJ;have MX:=uK TO;have Di:=uK wo;have FC:=uK vE;have GR:=uK wk;have CG:=uK xY;have ya:=uK Am;have HZ:=uK vz;have xi:=uK vs;clear XJ TO wo vE wk xY Am vz vs;by_cases hb:bf=true
  ·subst hb;by_cases hq:bits .and .u8 r.prot want=want
   ·have Bz:(bits .and .u8 r.prot want != want)=false:=(by rw[hq];simp);have RP:=uK hq;clear hq;gi_wp2_with (first
     |(refine⟨trivial,?_⟩;refine(CallsIn.inRound (w1.heap.size+1) (callsIn_wide.2 MX.out)).mono ?_;rintro e W3 ⟨rfl,vx⟩;have Bb:=(vx.block _ (by have:=HZ.out;omega)).trans CG.out;have yr:=(vx.block _ (by have:=HZ.out;omega)).trans ya.out;have e1: ∀o,(W3.alloc o).cell? ⟨w.heap.size+1,0,none⟩=some (.int .u8 want):=fun o=>aa ((uO W3 o _ (uJ Bb).1).trans Bb) 0;have e2: ∀o,(W3.alloc o).cell? ⟨w.heap.size+1+1,0,none⟩=some (.bool false):=fun o=>aa ((uO W3 o _ (uJ yr).1).trans yr) 0;have ef2: ∀o,(W3.alloc o).frozen? ⟨w.heap.size+1+1,0,none⟩=false:=fun o=>ae ((uO W3 o _ (uJ yr).1).trans yr) 0;have IE:=(vx.block _ XY).trans GR.out;have MS:=uK IE;have VY:=uK yr;have yT:=uK vx;clear Bb yr IE vx)
     |fail)
    exact⟨((uO _ _ _ (uJ MS.out).1).trans MS.out), .inl ⟨rfl,qL (rl:=rl) (want:=want) (s:=s) (r:=r) ⟨J1.out,J2.out,J3.out,J4.out,J5.out,J6.out,J7.out⟩ (FC.out.trans (Out.refl _ _) ((Mod.of yT.out).trans (Out.refl _ _) (Mod.of uM))) (by have:=HZ.out;omega) (by have:=(uJ MS.out).1;simp;omega) (by rw[<-HX.out];exact ZD.out.symm) RP.out (by rw[IT.out];rfl) (by rw[IT.out];rfl)⟩⟩
   ·have Bz:(bits .and .u8 r.prot want != want)=true:=(by rw[bne_iff_ne];exact hq);have RP:=uK hq;clear hq;gi_wp2_with (first
     |(refine⟨trivial,?_⟩;refine(CallsIn.inRound (w1.heap.size+1) (callsIn_wide.2 MX.out)).mono ?_;rintro e W3 ⟨rfl,vx⟩;have Bb:=(vx.block _ (by have:=HZ.out;omega)).trans CG.out;have yr:=(vx.block _ (by have:=HZ.out;omega)).trans ya.out;have e1: ∀o,(W3.alloc o).cell? ⟨w.heap.size+1,0,none⟩=some (.int .u8 want):=fun o=>aa ((uO W3 o _ (uJ Bb).1).trans Bb) 0;have e2: ∀o,(W3.alloc o).cell? ⟨w.heap.size+1+1,0,none⟩=some (.bool false):=fun o=>aa ((uO W3 o _ (uJ yr).1).trans yr) 0;have ef2: ∀o,(W3.alloc o).frozen? ⟨w.heap.size+1+1,0,none⟩=false:=fun o=>ae ((uO W3 o _ (uJ yr).1).trans yr) 0;have IE:=(vx.block _ XY).trans GR.out;have MS:=uK IE;have VY:=uK yr;have yT:=uK vx;clear Bb yr IE vx)
     |fail)
    obtain⟨q1,q2,q3,q4,q5⟩:=jD (o2:= .loop (rec .done (some .ret))) (PgJ.keep (rl:=rl) (x:=(addr,len)) (want:=want) (s:=s) (k:=k) ⟨J1.out,J2.out,J3.out,J4.out,J5.out,J6.out,J7.out⟩ (FC.out.trans (Out.refl _ _) ((Mod.of yT.out).trans (Out.refl _ _) (Mod.of uM))) (by have:=HZ.out;omega)) (by have:=HZ.out;omega) ((uO _ _ _ (uJ MS.out).1).trans MS.out);exact⟨q1, .inr ⟨rfl,q2,q3,q4,q5,fun hp=>by obtain⟨r2,h1,h2⟩:=hp.2 k zH.out;rw[<-HX.out,<-ZD.out]at h1;injection h1 with h1 _;subst h1;exact RP.out h2⟩⟩
  ·have vs:bf=false:=(by simpa using hb);subst vs;clear hb;gi_wp2_with (first
    |(refine⟨trivial,?_⟩;refine(CallsIn.inRound (w1.heap.size+1) (callsIn_wide.2 MX.out)).mono ?_;rintro e W3 ⟨rfl,vx⟩;have Bb:=(vx.block _ (by have:=HZ.out;omega)).trans CG.out;have yr:=(vx.block _ (by have:=HZ.out;omega)).trans ya.out;have e1: ∀o,(W3.alloc o).cell? ⟨w.heap.size+1,0,none⟩=some (.int .u8 want):=fun o=>aa ((uO W3 o _ (uJ Bb).1).trans Bb) 0;have e2: ∀o,(W3.alloc o).cell? ⟨w.heap.size+1+1,0,none⟩=some (.bool false):=fun o=>aa ((uO W3 o _ (uJ yr).1).trans yr) 0;have ef2: ∀o,(W3.alloc o).frozen? ⟨w.heap.size+1+1,0,none⟩=false:=fun o=>ae ((uO W3 o _ (uJ yr).1).trans yr) 0;have IE:=(vx.block _ XY).trans GR.out;have MS:=uK IE;have VY:=uK yr;have yT:=uK vx;clear Bb yr IE vx)
    |fail)
   obtain⟨q1,q2,q3,q4,q5⟩:=jD (o2:= .loop (rec .done (some .ret))) (PgJ.keep (rl:=rl) (x:=(addr,len)) (want:=want) (s:=s) (k:=k) ⟨J1.out,J2.out,J3.out,J4.out,J5.out,J6.out,J7.out⟩ (FC.out.trans (Out.refl _ _) ((Mod.of yT.out).trans (Out.refl _ _) (Mod.of uM))) (by have:=HZ.out;omega)) (by have:=HZ.out;omega) ((uO _ _ _ (uJ MS.out).1).trans MS.out);exact⟨q1, .inr ⟨rfl,q2,q3,q4,q5,fun hp=>by obtain⟨r2,h1,h2⟩:=hp.2 k zH.out;rw[<-HX.out,<-ZD.out]at h1;injection h1 with _ h1;cases h1⟩⟩
 ·refine⟨⟨?_,?_,?_,?_,?_,?_,fun j hj=>absurd hj (by omega)⟩,?_⟩
  ·have h1:w1.heap.size-1=w0.heap.size+1:=(by have:=IT.out;omega);have h2:w1.heap.size-2=w0.heap.size:=(by have:=IT.out;omega);rw[h1,h2];exact⟨(cf (by have:=IT.out;omega)).trans QH.out,(cf (by have:=IT.out;omega)).trans Wm.out⟩
  ·exact(uO _ _ _ (by simp)).trans (ab w1 _)
  ·exact((wI.out.trans (vu.out.mono wI.out.size)).alloc (wI.out.trans (vu.out.mono wI.out.size)).size _).alloc (by have:=(wI.out.trans (vu.out.mono wI.out.size)).size;simp;omega) _
  ·exact(cf (by have:=IT.out;have:=CR.out;omega)).trans ((vu.out.block _ (by have:=CR.out;omega)).trans zG.out)
  ·exact(cf (by have:=IT.out;have:=CR.out;omega)).trans ((vu.out.block _ (by have:=CR.out;omega)).trans LL.out)
  ·exact(cf (by have:=IT.out;have:=CR.out;omega)).trans ((vu.out.block _ (by have:=CR.out;omega)).trans DI.out)
  ·have:=ab (w1.alloc (.deferred (some []))) (.loop (rec .ready none))
   rwa [World.size_alloc]at this
 ·rintro e W ⟨hv,⟨k,zb,hJ,hl⟩|⟨hl,hK,hb,hR,hn⟩⟩
  ·refine⟨hv, .inl ⟨hl,?_⟩⟩;have Jt:=mP (hJ.perm zb (by simp only;omega));obtain⟨W2,wo⟩: ∃W2,W2=W.putObj (w1.heap.size+1) (.loop (rec .exhausted none)):=⟨_,rfl⟩;rw[<-wo];have vE:Mod (fun b=>b=w1.heap.size+1) W W2:=(by rw[wo];exact az);have hz:w1.heap.size=w.heap.size+1+1+1+2:=(by rw[IT.out,CR.out]);have Qm:=hJ.keep vE (by omega);have c0:W2.cell? ⟨w.heap.size+1+1,0,none⟩=some (.bool false):=aa Qm.p2 0;have cf0:=ae Qm.p2 0;have Oz:=uK Qm;have Zr:=uK Jt;have HZ:=uK hz;clear Qm Jt hz vE wo hJ hl zb hv;unfold dv
   gi_wp2
   have hK:(W2.setCell ⟨w.heap.size+1+1,0,none⟩ (.bool true)).heap[w1.heap.size]? =some (.deferred (some [])):=((al (S:=fun b=>b=w.heap.size+1+1) rfl 0 _).block _ (uJ Oz.out.mark).1 (by have:=HZ.out;omega)).trans Oz.out.mark;refine⟨by simp, .inl ⟨_,_,rfl,run_takeDeferred hK,?_⟩⟩;have hR:((W2.setCell ⟨w.heap.size+1+1,0,none⟩ (.bool true)).putObj w1.heap.size (.deferred none)).heap[w.heap.size+1+1]? =some (.cells #[.bool true] 4 (0,0)):=(World.putObj_heap_other (by have:=HZ.out;omega)).trans (bq Oz.out.p2);have c1:=aa hR 0;refine⟨.bool true,?_,by rw[Zr.out],ft (Oz.out.below.setCell (p:=⟨w.heap.size+1+1,0,none⟩) (by show w.heap.size<=w.heap.size+1+1;omega) _) (by have:=HZ.out;omega)⟩;simp[results,Tryz.results119,go_sem,c1]
  ·refine⟨hv, .inr ⟨_,hl,?_⟩⟩;have hz:w1.heap.size=w.heap.size+1+1+1+2:=(by rw[IT.out,CR.out]);obtain⟨W2,wo⟩: ∃W2,W2=W.putObj (w1.heap.size+1) (.loop (rec .exhausted (some .ret))):=⟨_,rfl⟩;rw[<-wo];have Aw:W2.heap[w1.heap.size]? =some (.deferred (some [])):=(by rw[wo];exact(World.putObj_heap_other (by omega)).trans hK);have yo:W2.heap[w.heap.size+1+1]? =some (.cells #[.bool false] 4 (0,0)):=(by rw[wo];exact(World.putObj_heap_other (by omega)).trans hR);have vs:Below w.heap.size w W2:=(by rw[wo];exact ft hb (by omega));have Ec:(W2.putObj w1.heap.size (.deferred none)).heap[w.heap.size+1+1]? =some (.cells #[.bool false] 4 (0,0)):=(World.putObj_heap_other (by omega)).trans yo;have c1:=aa Ec 0;have yu:=uK hn;have vz:w.heap.size<=w1.heap.size:=(by omega);clear wo hl hK hb hR hn hv yo hz;unfold dv
   gi_wp2
   refine⟨by simp, .inl ⟨_,_,rfl,run_takeDeferred Aw,?_⟩⟩;refine⟨.bool false,?_,by rw[lz yu.out],ft vs vz⟩;simp[results,Tryz.results119,go_sem,c1]
end
