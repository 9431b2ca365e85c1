/- Spaces: what permits says. -/
import Derived.Test.YtoochjhipmpehaaGreatDoorAbK
import Derived.Test.YtoochjhipmpehaaGreatDoorSbK
import Derived.Test.YtoochjhipmpehaaGreatDoorTvAK
set_option linter.unusedVariables false
set_option linter.unusedSimpArgs false
set_option maxRecDepth 100000
set_option maxHeartbeats 4000000
namespace Go.Proofs.YtoochjhipmpehaaGreatDoor
section
open Go.RowKit Go.Sort
attribute [local go_sem] Oper.semAt_some
theorem pages_any (addr len:Int) (w:World):Calls Tryz.prog 120 #[.int .u64 addr, .int .i64 len] w fun e w'=>e= .returned (.func (.func 155) #[] #[.pointer (some ⟨w.heap.size+1,0,none⟩), .pointer (some ⟨w.heap.size,0,none⟩)])∧
  w'=(w.alloc (.cells #[.int .u64 addr] 43)).alloc (.cells #[.int .i64 len] 3):=by
 go_enter Tryz.func120,Tryz.ntmps120
 go_wp2_with fail
 go_ret
 exact⟨rfl,rfl⟩
def Perm (rl:List Reg) (x:Nat×Nat) (want:Int):Prop:=x.1+x.2≤140737488355328∧ ∀k,0<(pst x k).2→ ∃r,Rg.find rl ((pst x k).1:Int)=(r,true)∧bits .and .u8 r.prot want=want
open Classical in
noncomputable def permB (rl:List Reg) (x:Nat×Nat) (want:Int):Bool:=decide (Perm rl x want)
theorem permB_no {rl:List Reg} {x:Nat×Nat} {want:Int} (h: ¬Perm rl x want):permB rl x want=false:=by unfold permB;exact @decide_eq_false _ (Classical.propDecidable _) h
theorem permB_yes {rl:List Reg} {x:Nat×Nat} {want:Int} (h:Perm rl x want):permB rl x want=true:=by unfold permB;exact @decide_eq_true _ (Classical.propDecidable _) h
theorem below_put {B l:Nat} {w W:World} {o:Obj} (h:Below B w W) (hl:B≤l):Below B w (W.putObj l o):=⟨h.os,h.tape,h.output,by rw[World.putObj_size];exact h.size,fun b hb=>(World.putObj_heap_other (by omega)).trans (h.block b hb)⟩
structure PgJ (w w1:World) (rl:List Reg) (x:Nat×Nat) (want:Int) (s:Nat) (k:Nat) (W:World):Prop where
 pg:PgSt W (w1.heap.size-1) (w1.heap.size-2) (pst x k)
 mark:W.heap[w1.heap.size]? =some (.deferred (some []))
 below:Below w.heap.size w W
 p0:W.heap[w.heap.size]? =some (.cells #[.pointer (some ⟨s,0,none⟩)] 60 (0,0))
 p1:W.heap[w.heap.size+1]? =some (.cells #[.int .u8 want] 5 (0,0))
 p2:W.heap[w.heap.size+1+1]? =some (.cells #[.bool false] 4 (0,0))
 ok: ∀j,j<k→ ∃r,Rg.find rl ((pst x j).1:Int)=(r,true)∧bits .and .u8 r.prot want=want
theorem mod_put {l:Nat} {W:World} {o:Obj} :Mod (fun b=>b=l) W (W.putObj l o):=⟨rfl,rfl,rfl,by rw[World.putObj_size];exact Nat.le_refl _,fun b _ hb=>World.putObj_heap_other hb⟩
theorem PgJ.keep {w w1 W W':World} {rl:List Reg} {x:Nat×Nat} {want:Int} {s k:Nat} (h:PgJ w w1 rl x want s k W) (hm:Mod (fun b=>b=w1.heap.size+1) W W') (hz:w.heap.size+5≤w1.heap.size):PgJ w w1 rl x want s k W':=by
 have hlt: ∀ {b:Nat} {o:Obj},W.heap[b]? =some o→b≠w1.heap.size+1→W'.heap[b]? =some o:=fun h1 h2=>(hm.block _ (ac h1).1 h2).trans h1
 exact⟨⟨hlt h.pg.n (by omega),hlt h.pg.a (by omega)⟩,hlt h.mark (by omega),⟨hm.os.trans h.below.os,hm.tape.trans h.below.tape,hm.output.trans h.below.output,Nat.le_trans h.below.size hm.size,fun b hb=>(hm.block b (by have:=h.below.size;omega) (by omega)).trans (h.below.block b hb)⟩,hlt h.p0 (by omega),hlt h.p1 (by omega),hlt h.p2 (by omega),h.ok⟩
theorem PgJ.next {w w1 W:World} {rl:List Reg} {x:Nat×Nat} {want:Int} {s k:Nat} {r:Reg} (h:PgJ w w1 rl x want s k W) (hz:w.heap.size+5≤w1.heap.size) (hr:Rg.find rl ((pst x k).1:Int)=(r,true)) (hb:bits .and .u8 r.prot want=want):
  PgJ w w1 rl x want s (k+1) (pgNext W (w1.heap.size-1) (w1.heap.size-2) (pst x (k+1)))∧(∀b,b≠w1.heap.size-1→b≠w1.heap.size-2→b<W.heap.size→(pgNext W (w1.heap.size-1) (w1.heap.size-2) (pst x (k+1))).heap[b]? =W.heap[b]?):=by
 have hm:Mod (fun b=>b=w1.heap.size-1∨b=w1.heap.size-2) W (pgNext W (w1.heap.size-1) (w1.heap.size-2) (pst x (k+1))):=(mod_set (S:=fun b=>b=w1.heap.size-1∨b=w1.heap.size-2) (.inr rfl) 0 _).trans (Out.refl _ _) (mod_set (.inl rfl) 0 _)
 have hlt: ∀ {b:Nat} {o:Obj},W.heap[b]? =some o→b≠w1.heap.size-1→b≠w1.heap.size-2→(pgNext W (w1.heap.size-1) (w1.heap.size-2) (pst x (k+1))).heap[b]? =some o:=fun h1 h2 h3=>(hm.block _ (ac h1).1 (fun e=>e.elim h2 h3)).trans h1
 refine⟨⟨⟨?_,?_⟩,hlt h.mark (by omega) (by omega),⟨hm.os.trans h.below.os,hm.tape.trans h.below.tape,hm.output.trans h.below.output,Nat.le_trans h.below.size hm.size,fun b hb=>(hm.block b (by have:=h.below.size;omega) (by omega)).trans (h.below.block b hb)⟩,hlt h.p0 (by omega) (by omega),hlt h.p1 (by omega) (by omega),hlt h.p2 (by omega) (by omega),fun j hj=>?_⟩,fun b h1 h2 h3=>hm.block b h3 (fun e=>e.elim h1 h2)⟩
 ·have h1:=(mod_set (S:=fun b=>b=w1.heap.size-2) (w:=W) rfl 0 (.int .u64 ((pst x (k+1)).1:Int))).block (w1.heap.size-1) (ac h.pg.n).1 (by omega)
  exact one_set (h1.trans h.pg.n)
 ·have h1:=one_set (y:= .int .u64 ((pst x (k+1)).1:Int)) h.pg.a
  exact((mod_set (S:=fun b=>b=w1.heap.size-1) rfl 0 _).block (w1.heap.size-2) (ac h1).1 (by omega)).trans h1
 ·rcases Nat.lt_or_ge j k with h1|h1
  ·exact h.ok j h1
  ·obtain rfl:j=k:=by omega
   exact⟨r,hr,hb⟩
theorem loop_low {w:World} {o o2:Obj} {b:Nat} (hb:b<w.heap.size):((w.alloc o).alloc o2).heap[b]? =w.heap[b]? :=(Below.heap_alloc _ _ _ (by simp;omega)).trans (Below.heap_alloc _ _ _ hb)
theorem permits_go {w w1 W Wn:World} {rl:List Reg} {x:Nat×Nat} {want:Int} {s k b1 b2:Nat} {r:Reg} {o:Obj} (hJ:PgJ w w1 rl x want s k W) (hm:Mod (fun b=>b=w1.heap.size+1) W Wn) (hz:w.heap.size+5≤w1.heap.size) (hl:w1.heap.size+1<Wn.heap.size)
  (hr:Rg.find rl ((pst x k).1:Int)=(r,true)) (hb:bits .and .u8 r.prot want=want) (h1:b1=w1.heap.size-1) (h2:b2=w1.heap.size-2):
  PgSt (Wn.putObj (w1.heap.size+1) o) b1 b2 (pst x k)∧PgJ w w1 rl x want s (k+1) (pgNext (Wn.putObj (w1.heap.size+1) o) b1 b2 (pst x (k+1)))∧(pgNext (Wn.putObj (w1.heap.size+1) o) b1 b2 (pst x (k+1))).heap[w1.heap.size+1]? =some o:=by
 subst h1 h2
 have hk:=hJ.keep (hm.trans (Out.refl _ _) (mod_put (o:=o))) hz
 obtain⟨n1,n2⟩:=hk.next hz hr hb
 exact⟨hk.pg,n1,(n2 _ (by omega) (by omega) (by rw[World.putObj_size];exact hl)).trans (World.putObj_heap_same hl)⟩
theorem permits_ret {w w1 Wn:World} {rl:List Reg} {x:Nat×Nat} {want:Int} {s k:Nat} {o o2:Obj} (h:PgJ w w1 rl x want s k Wn) (hz:w.heap.size+5≤w1.heap.size) (hl:Wn.heap[w1.heap.size+1]? =some o):
  (Wn.setCell ⟨w.heap.size+1+1,0,none⟩ (.bool false)).heap[w1.heap.size+1]? =some o∧((Wn.setCell ⟨w.heap.size+1+1,0,none⟩ (.bool false)).putObj (w1.heap.size+1) o2).heap[w1.heap.size+1]? =some o2∧((Wn.setCell ⟨w.heap.size+1+1,0,none⟩ (.bool false)).putObj (w1.heap.size+1) o2).heap[w1.heap.size]? =some (.deferred (some []))∧
  Below w.heap.size w ((Wn.setCell ⟨w.heap.size+1+1,0,none⟩ (.bool false)).putObj (w1.heap.size+1) o2)∧((Wn.setCell ⟨w.heap.size+1+1,0,none⟩ (.bool false)).putObj (w1.heap.size+1) o2).heap[w.heap.size+1+1]? =some (.cells #[.bool false] 4 (0,0)):=by
 have hm:Mod (fun b=>b=w.heap.size+1+1) Wn (Wn.setCell ⟨w.heap.size+1+1,0,none⟩ (.bool false)):=mod_set (S:=fun b=>b=w.heap.size+1+1) rfl 0 _
 have h1:=(hm.block _ (ac hl).1 (by omega)).trans hl
 have h2:=(hm.block _ (ac h.mark).1 (by omega)).trans h.mark
 exact⟨h1,World.putObj_heap_same (ac h1).1,(World.putObj_heap_other (by omega)).trans h2,below_put (h.below.setCell (p:=⟨w.heap.size+1+1,0,none⟩) (by show w.heap.size≤w.heap.size+1+1;omega) _) (by omega),(World.putObj_heap_other (by omega)).trans (one_set h.p2)⟩
theorem pst_stop {x:Nat×Nat} {k:Nat} (h:(pst x k).2=0): ∀d,(pst x (k+d)).2=0
 |0=>h
 |d+1=>by
  have:=pst_stop h d
  show(pst x (k+d)).2-pm (pst x (k+d))=0
  omega
theorem PgJ.perm {w w1 W:World} {rl:List Reg} {x:Nat×Nat} {want:Int} {s k:Nat} (h:PgJ w w1 rl x want s k W) (h0:(pst x k).2=0) (hx:x.1+x.2≤140737488355328):Perm rl x want:=
 ⟨hx,fun j hj=>h.ok j (by
  rcases Nat.lt_or_ge j k with h1|h1
  ·exact h1
  ·have:=pst_stop h0 (j-k)
   rw[show k+(j-k)=j by omega]at this
   omega)⟩
theorem permits_any (s c a t n cap:Nat) (A:Option Addr) (rl:List Reg) (addr len:Nat) (want:Int) (w:World) (hself:SpaceSelf w s c a t A n cap) (hrow:RSl w w.heap.size A n cap rl) (hw:addr<18446744073709551616) (hl:len<9223372036854775808):
  Calls Tryz.prog 119 #[.pointer (some ⟨s,0,none⟩), .int .u64 (addr:Int), .int .i64 (len:Int), .int .u8 want] w
   fun e w'=>e= .returned (.bool (permB rl (addr,len) want))∧Below w.heap.size w w':=by
 refine(callsIn_wide (n:=9)).1 ?_
 refine callsIn_of_wp_marks Tryz.func119 rfl trivial ?_
 simp only[Tryz.ntmps119,List.size_toArray,List.length_cons,List.length_nil,Nat.reduceAdd,Nat.reduceSub,Array.replicate_succ,Array.replicate_zero,List.push_toArray,List.append_toArray,List.nil_append,List.cons_append]
 obtain⟨w0,hw0⟩: ∃w0,w0=((w.alloc (.cells #[.pointer (some ⟨s,0,none⟩)] 60)).alloc (.cells #[.int .u8 want] 5)).alloc (.cells #[.bool false] 4):=⟨_,rfl⟩
 have hz0:w0.heap.size=w.heap.size+1+1+1:=by rw[hw0];simp
 have hb0:Below w.heap.size w w0:=by rw[hw0];exact(((Below.refl _ _).alloc (Nat.le_refl _) _).alloc (by simp) _).alloc (by simp;omega) _
 have hR0:w0.heap[w.heap.size+1+1]? =some (.cells #[.bool false] 4 (0,0)):=by
  rw[hw0]
  have:=ab ((w.alloc (.cells #[.pointer (some ⟨s,0,none⟩)] 60)).alloc (.cells #[.int .u8 want] 5)) (.cells #[.bool false] 4)
  rwa [World.size_alloc,World.size_alloc]at this
 have hW0:w0.heap[w.heap.size+1]? =some (.cells #[.int .u8 want] 5 (0,0)):=by
  rw[hw0]
  have:=ab (w.alloc (.cells #[.pointer (some ⟨s,0,none⟩)] 60)) (.cells #[.int .u8 want] 5)
  rw[World.size_alloc]at this
  exact(Below.heap_alloc _ _ _ (by simp)).trans this
 have hS0:w0.heap[w.heap.size]? =some (.cells #[.pointer (some ⟨s,0,none⟩)] 60 (0,0)):=by
  rw[hw0]
  exact(Below.heap_alloc _ _ _ (by simp;omega)).trans ((Below.heap_alloc _ _ _ (by simp)).trans (ab w _))
 have HW0:=ae hw0
 have HB0:=ae hb0
 have HZ0:=ae hz0
 have r0:w0.cell? ⟨w.heap.size+1+1,0,none⟩=some (.bool false):=aa hR0 0
 have rf0:=one_free hR0 0
 have hlt0:w.heap.size+1+1<w0.heap.size:=by omega
 have HR0:=ae hR0
 have HP0:=ae hW0
 have HS0:=ae hS0
 have HSELF:=ae hself
 have HROW:=ae hrow
 have hss:s<w.heap.size:=(ac hself).1
 clear hb0 hR0 hW0 hS0 hz0 hw0 hself hrow
 by_cases hbig:140737488355328<addr
 ·have hno:permB rl (addr,len) want=false:=permB_no (fun h=>by have:=h.1;simp at this;omega)
  have HNO:=ae hno
  clear hno
  gi_wp2
  rw[←HW0.out]
  refine⟨.bool false,?_,by rw[HNO.out],HB0.out⟩
  simp[results,Tryz.results119,go_sem,r0]
 have hw2:IntKind.u64.wrap (len:Int)=(len:Int):=by rw[IntKind.wrap_u64];omega
 have hw3:IntKind.u64.wrap (140737488355328-(addr:Int))=140737488355328-(addr:Int):=by rw[IntKind.wrap_u64];omega
 by_cases hlong:(140737488355328:Int)-(addr:Int)<(len:Int)
 ·have hno:permB rl (addr,len) want=false:=permB_no (fun h=>by have:=h.1;simp at this;omega)
  have HNO:=ae hno
  clear hno
  gi_wp2
  rw[←HW0.out]
  refine⟨.bool false,?_,by rw[HNO.out],HB0.out⟩
  simp[results,Tryz.results119,go_sem,r0]
 gi_wp2_with (first
  |(refine⟨trivial,?_⟩;rw[←HW0.out];refine(callsIn_wide.2 (pages_any (addr:Int) (len:Int) w0)).mono ?_;rintro e w1 ⟨rfl,hw1⟩)
  |fail)
 have hz1:w1.heap.size=w0.heap.size+2:=by rw[hw1];simp
 have hb1:Below w0.heap.size w0 w1:=by rw[hw1];exact((Below.refl _ _).alloc (Nat.le_refl _) _).alloc (by simp) _
 have hA1:w1.heap[w0.heap.size]? =some (.cells #[.int .u64 (addr:Int)] 43 (0,0)):=by rw[hw1];exact(Below.heap_alloc _ _ _ (by simp)).trans (ab w0 _)
 have hN1:w1.heap[w0.heap.size+1]? =some (.cells #[.int .i64 (len:Int)] 3 (0,0)):=by
  rw[hw1]
  have:=ab (w0.alloc (.cells #[.int .u64 (addr:Int)] 43)) (.cells #[.int .i64 (len:Int)] 3)
  rwa [World.size_alloc]at this
 rw[←hw1]
 have HZ1:=ae hz1
 have HB1:=ae hb1
 have HA1:=ae hA1
 have HN1:=ae hN1
 clear hw1 hz1 hb1 hA1 hN1 r0 rf0 hlt0
 refine wpIn_range2 rfl (by omega) (gf:=155) (lb:= #[.pointer (some ⟨w0.heap.size+1,0,none⟩), .pointer (some ⟨w0.heap.size,0,none⟩)]) rfl trivial (enters_of Tryz.func155 (by kernel_rfl) rfl) ?_
 intro fn hfn rec hrec
 refine(pages1_in (9-1) (by omega) (w1.heap.size+1) (w0.heap.size+1) w0.heap.size (by omega) (addr,len) (by simp only;omega) (fun k W=>PgJ w w1 rl (addr,len) want s k W∧W.heap[w1.heap.size+1]? =some (.loop (rec .ready none))) (fun W=>W.heap[w1.heap.size+1]? =some (.loop (rec .done (some .ret)))∧W.heap[w1.heap.size]? =some (.deferred (some []))∧Below w.heap.size w W∧W.heap[w.heap.size+1+1]? =some (.cells #[.bool false] 4 (0,0))∧ ¬Perm rl (addr,len) want) ?_ ?_ _ ?_).mono ?_
 ·intro k W hJ
  have:=hJ.1.pg
  rw[HZ1.out]at this
  exact this
 ·intro k W hJ hpos
  refine yield_round2 trivial hrec hJ.2 rfl ?_
  obtain⟨⟨j1,j2,j3,j4,j5,j6,j7⟩,jl⟩:=hJ
  obtain⟨x,hx⟩: ∃x,x=(pst (addr,len) k).1:=⟨_,rfl⟩
  obtain⟨M,hM⟩: ∃M,M=pm (pst (addr,len) k):=⟨_,rfl⟩
  rw[←hx,←hM]
  have HX:=ae hx
  have HM:=ae hM
  have J1:=ae j1
  have J2:=ae j2
  have J3:=ae j3
  have J4:=ae j4
  have J5:=ae j5
  have J6:=ae j6
  have J7:=ae j7
  have JL:=ae jl
  have HPOS:=ae hpos
  have HREC:=ae hrec
  clear hx hM j1 j2 j3 j4 j5 j6 j7 jl hpos hrec
  gi_wp2
  refine⟨JL.out,?_⟩
  obtain⟨W2,hW2⟩: ∃W2,W2=W.putObj (w1.heap.size+1) (.loop (rec .busy none)):=⟨_,rfl⟩
  rw[←hW2]
  have hm2:Mod (fun b=>b=w1.heap.size+1) W W2:=by rw[hW2];exact mod_put
  have hl2:W2.heap[w1.heap.size+1]? =some (.loop (rec .busy none)):=by rw[hW2];exact World.putObj_heap_same (ac JL.out).1
  have hz1:w1.heap.size=w.heap.size+1+1+1+2:=by rw[HZ1.out,HZ0.out]
  have hb2:Below w.heap.size w W2:=by rw[hW2];exact below_put J3.out (by omega)
  have c0:W2.cell? ⟨w.heap.size,0,none⟩=some (.pointer (some ⟨s,0,none⟩)):=aa ((hm2.block _ (ac J4.out).1 (by omega)).trans J4.out) 0
  have hc1:=(hm2.block _ (ac J5.out).1 (by omega)).trans J5.out
  have hc2:=(hm2.block _ (ac J6.out).1 (by omega)).trans J6.out
  have s3:W2.cell? ⟨s,3,none⟩=some (.slice A n cap):=(hb2.cell (p:=⟨s,3,none⟩) hss).trans (aa HSELF.out 3)
  have hfi:=find_any A n cap (x:Int) W2 rl ((HROW.out.below hb2 (Nat.le_refl _)).more hb2.size)
  have hlw:w1.heap.size+1<W2.heap.size:=(ac hl2).1
  obtain⟨⟨r,bf⟩,hrf⟩: ∃rb,rb=Rg.find rl (x:Int):=⟨_,rfl⟩
  rw[←hrf]at hfi
  have HRF:=ae hrf
  have HFI:=ae hfi
  have HW2:=ae hW2
  have HM2:=ae hm2
  have HL2:=ae hl2
  have HC1:=ae hc1
  have HC2:=ae hc2
  have HZ:=ae hz1
  have HB2:=ae hb2
  clear hrf hfi hW2 hm2 hl2 hc1 hc2 hz1 hb2
  by_cases hb:bf=true
  ·subst hb
   by_cases hq:bits .and .u8 r.prot want=want
   ·have hqb:(bits .and .u8 r.prot want != want)=false:=by rw[hq];simp
    have HQ2:=ae hq
    clear hq
    gi_wp2_with (first
     |(refine⟨trivial,?_⟩;refine(CallsIn.inRound (w1.heap.size+1) (callsIn_wide.2 HFI.out)).mono ?_;rintro e W3 ⟨rfl,hb3⟩;have hc31:=(hb3.block _ (by have:=HZ.out;omega)).trans HC1.out;have hc32:=(hb3.block _ (by have:=HZ.out;omega)).trans HC2.out;have e1: ∀o,(W3.alloc o).cell? ⟨w.heap.size+1,0,none⟩=some (.int .u8 want):=fun o=>aa ((Below.heap_alloc W3 o _ (ac hc31).1).trans hc31) 0;have e2: ∀o,(W3.alloc o).cell? ⟨w.heap.size+1+1,0,none⟩=some (.bool false):=fun o=>aa ((Below.heap_alloc W3 o _ (ac hc32).1).trans hc32) 0;have ef2: ∀o,(W3.alloc o).frozen? ⟨w.heap.size+1+1,0,none⟩=false:=fun o=>one_free ((Below.heap_alloc W3 o _ (ac hc32).1).trans hc32) 0;have hl3:=(hb3.block _ hlw).trans HL2.out;have HL3:=ae hl3;have HC32:=ae hc32;have HB3:=ae hb3;clear hc31 hc32 hl3 hb3)
     |fail)
    exact⟨((Below.heap_alloc _ _ _ (ac HL3.out).1).trans HL3.out), .inl ⟨rfl,permits_go (rl:=rl) (want:=want) (s:=s) (r:=r) ⟨J1.out,J2.out,J3.out,J4.out,J5.out,J6.out,J7.out⟩ (HM2.out.trans (Out.refl _ _) ((Mod.of HB3.out).trans (Out.refl _ _) (Mod.of ((Below.refl _ _).alloc (Nat.le_refl _) _)))) (by have:=HZ.out;omega) (by have:=(ac HL3.out).1;simp;omega) (by rw[←HX.out];exact HRF.out.symm) HQ2.out (by rw[HZ1.out];rfl) (by rw[HZ1.out];rfl)⟩⟩
   ·have hqb:(bits .and .u8 r.prot want != want)=true:=by rw[bne_iff_ne];exact hq
    have HQ2:=ae hq
    clear hq
    gi_wp2_with (first
     |(refine⟨trivial,?_⟩;refine(CallsIn.inRound (w1.heap.size+1) (callsIn_wide.2 HFI.out)).mono ?_;rintro e W3 ⟨rfl,hb3⟩;have hc31:=(hb3.block _ (by have:=HZ.out;omega)).trans HC1.out;have hc32:=(hb3.block _ (by have:=HZ.out;omega)).trans HC2.out;have e1: ∀o,(W3.alloc o).cell? ⟨w.heap.size+1,0,none⟩=some (.int .u8 want):=fun o=>aa ((Below.heap_alloc W3 o _ (ac hc31).1).trans hc31) 0;have e2: ∀o,(W3.alloc o).cell? ⟨w.heap.size+1+1,0,none⟩=some (.bool false):=fun o=>aa ((Below.heap_alloc W3 o _ (ac hc32).1).trans hc32) 0;have ef2: ∀o,(W3.alloc o).frozen? ⟨w.heap.size+1+1,0,none⟩=false:=fun o=>one_free ((Below.heap_alloc W3 o _ (ac hc32).1).trans hc32) 0;have hl3:=(hb3.block _ hlw).trans HL2.out;have HL3:=ae hl3;have HC32:=ae hc32;have HB3:=ae hb3;clear hc31 hc32 hl3 hb3)
     |fail)
    obtain⟨q1,q2,q3,q4,q5⟩:=permits_ret (o2:= .loop (rec .done (some .ret))) (PgJ.keep (rl:=rl) (x:=(addr,len)) (want:=want) (s:=s) (k:=k) ⟨J1.out,J2.out,J3.out,J4.out,J5.out,J6.out,J7.out⟩ (HM2.out.trans (Out.refl _ _) ((Mod.of HB3.out).trans (Out.refl _ _) (Mod.of ((Below.refl _ _).alloc (Nat.le_refl _) _)))) (by have:=HZ.out;omega)) (by have:=HZ.out;omega) ((Below.heap_alloc _ _ _ (ac HL3.out).1).trans HL3.out)
    exact⟨q1, .inr ⟨rfl,q2,q3,q4,q5,fun hp=>by obtain⟨r2,h1,h2⟩:=hp.2 k HPOS.out;rw[←HX.out,←HRF.out]at h1;injection h1 with h1 _;subst h1;exact HQ2.out h2⟩⟩
  ·have hb2:bf=false:=by simpa using hb
   subst hb2
   clear hb
   gi_wp2_with (first
    |(refine⟨trivial,?_⟩;refine(CallsIn.inRound (w1.heap.size+1) (callsIn_wide.2 HFI.out)).mono ?_;rintro e W3 ⟨rfl,hb3⟩;have hc31:=(hb3.block _ (by have:=HZ.out;omega)).trans HC1.out;have hc32:=(hb3.block _ (by have:=HZ.out;omega)).trans HC2.out;have e1: ∀o,(W3.alloc o).cell? ⟨w.heap.size+1,0,none⟩=some (.int .u8 want):=fun o=>aa ((Below.heap_alloc W3 o _ (ac hc31).1).trans hc31) 0;have e2: ∀o,(W3.alloc o).cell? ⟨w.heap.size+1+1,0,none⟩=some (.bool false):=fun o=>aa ((Below.heap_alloc W3 o _ (ac hc32).1).trans hc32) 0;have ef2: ∀o,(W3.alloc o).frozen? ⟨w.heap.size+1+1,0,none⟩=false:=fun o=>one_free ((Below.heap_alloc W3 o _ (ac hc32).1).trans hc32) 0;have hl3:=(hb3.block _ hlw).trans HL2.out;have HL3:=ae hl3;have HC32:=ae hc32;have HB3:=ae hb3;clear hc31 hc32 hl3 hb3)
    |fail)
   obtain⟨q1,q2,q3,q4,q5⟩:=permits_ret (o2:= .loop (rec .done (some .ret))) (PgJ.keep (rl:=rl) (x:=(addr,len)) (want:=want) (s:=s) (k:=k) ⟨J1.out,J2.out,J3.out,J4.out,J5.out,J6.out,J7.out⟩ (HM2.out.trans (Out.refl _ _) ((Mod.of HB3.out).trans (Out.refl _ _) (Mod.of ((Below.refl _ _).alloc (Nat.le_refl _) _)))) (by have:=HZ.out;omega)) (by have:=HZ.out;omega) ((Below.heap_alloc _ _ _ (ac HL3.out).1).trans HL3.out)
   exact⟨q1, .inr ⟨rfl,q2,q3,q4,q5,fun hp=>by obtain⟨r2,h1,h2⟩:=hp.2 k HPOS.out;rw[←HX.out,←HRF.out]at h1;injection h1 with _ h1;cases h1⟩⟩
 ·refine⟨⟨?_,?_,?_,?_,?_,?_,fun j hj=>absurd hj (by omega)⟩,?_⟩
  ·have h1:w1.heap.size-1=w0.heap.size+1:=by have:=HZ1.out;omega
   have h2:w1.heap.size-2=w0.heap.size:=by have:=HZ1.out;omega
   rw[h1,h2]
   exact⟨(loop_low (by have:=HZ1.out;omega)).trans HN1.out,(loop_low (by have:=HZ1.out;omega)).trans HA1.out⟩
  ·exact(Below.heap_alloc _ _ _ (by simp)).trans (ab w1 _)
  ·exact((HB0.out.trans (HB1.out.mono HB0.out.size)).alloc (HB0.out.trans (HB1.out.mono HB0.out.size)).size _).alloc (by have:=(HB0.out.trans (HB1.out.mono HB0.out.size)).size;simp;omega) _
  ·exact(loop_low (by have:=HZ1.out;have:=HZ0.out;omega)).trans ((HB1.out.block _ (by have:=HZ0.out;omega)).trans HS0.out)
  ·exact(loop_low (by have:=HZ1.out;have:=HZ0.out;omega)).trans ((HB1.out.block _ (by have:=HZ0.out;omega)).trans HP0.out)
  ·exact(loop_low (by have:=HZ1.out;have:=HZ0.out;omega)).trans ((HB1.out.block _ (by have:=HZ0.out;omega)).trans HR0.out)
  ·have:=ab (w1.alloc (.deferred (some []))) (.loop (rec .ready none))
   rwa [World.size_alloc]at this
 ·rintro e W ⟨hv,⟨k,hk0,hJ,hl⟩|⟨hl,hK,hb,hR,hn⟩⟩
  ·refine⟨hv, .inl ⟨hl,?_⟩⟩
   have hyes:=permB_yes (hJ.perm hk0 (by simp only;omega))
   obtain⟨W2,hW2⟩: ∃W2,W2=W.putObj (w1.heap.size+1) (.loop (rec .exhausted none)):=⟨_,rfl⟩
   rw[←hW2]
   have hm2:Mod (fun b=>b=w1.heap.size+1) W W2:=by rw[hW2];exact mod_put
   have hz:w1.heap.size=w.heap.size+1+1+1+2:=by rw[HZ1.out,HZ0.out]
   have hJ2:=hJ.keep hm2 (by omega)
   have c0:W2.cell? ⟨w.heap.size+1+1,0,none⟩=some (.bool false):=aa hJ2.p2 0
   have cf0:=one_free hJ2.p2 0
   have HJ2:=ae hJ2
   have HYES:=ae hyes
   have HZ:=ae hz
   clear hJ2 hyes hz hm2 hW2 hJ hl hk0 hv
   unfold markOf
   gi_wp2
   have hK:(W2.setCell ⟨w.heap.size+1+1,0,none⟩ (.bool true)).heap[w1.heap.size]? =some (.deferred (some [])):=((mod_set (S:=fun b=>b=w.heap.size+1+1) rfl 0 _).block _ (ac HJ2.out.mark).1 (by have:=HZ.out;omega)).trans HJ2.out.mark
   refine⟨by simp, .inl ⟨_,_,rfl,run_takeDeferred hK,?_⟩⟩
   have hR:((W2.setCell ⟨w.heap.size+1+1,0,none⟩ (.bool true)).putObj w1.heap.size (.deferred none)).heap[w.heap.size+1+1]? =some (.cells #[.bool true] 4 (0,0)):=(World.putObj_heap_other (by have:=HZ.out;omega)).trans (one_set HJ2.out.p2)
   have c1:=aa hR 0
   refine⟨.bool true,?_,by rw[HYES.out],below_put (HJ2.out.below.setCell (p:=⟨w.heap.size+1+1,0,none⟩) (by show w.heap.size≤w.heap.size+1+1;omega) _) (by have:=HZ.out;omega)⟩
   simp[results,Tryz.results119,go_sem,c1]
  ·refine⟨hv, .inr ⟨_,hl,?_⟩⟩
   have hz:w1.heap.size=w.heap.size+1+1+1+2:=by rw[HZ1.out,HZ0.out]
   obtain⟨W2,hW2⟩: ∃W2,W2=W.putObj (w1.heap.size+1) (.loop (rec .exhausted (some .ret))):=⟨_,rfl⟩
   rw[←hW2]
   have hK2:W2.heap[w1.heap.size]? =some (.deferred (some [])):=by rw[hW2];exact(World.putObj_heap_other (by omega)).trans hK
   have hR2:W2.heap[w.heap.size+1+1]? =some (.cells #[.bool false] 4 (0,0)):=by rw[hW2];exact(World.putObj_heap_other (by omega)).trans hR
   have hb2:Below w.heap.size w W2:=by rw[hW2];exact below_put hb (by omega)
   have hR3:(W2.putObj w1.heap.size (.deferred none)).heap[w.heap.size+1+1]? =some (.cells #[.bool false] 4 (0,0)):=(World.putObj_heap_other (by omega)).trans hR2
   have c1:=aa hR3 0
   have HN2:=ae hn
   have hz1:w.heap.size≤w1.heap.size:=by omega
   clear hW2 hl hK hb hR hn hv hR2 hz
   unfold markOf
   gi_wp2
   refine⟨by simp, .inl ⟨_,_,rfl,run_takeDeferred hK2,?_⟩⟩
   refine⟨.bool false,?_,by rw[permB_no HN2.out],below_put hb2 hz1⟩
   simp[results,Tryz.results119,go_sem,c1]
end
end Go.Proofs.YtoochjhipmpehaaGreatDoor
