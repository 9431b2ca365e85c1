/- Spaces: what goes through the leaves of a stretch. Spaces: Unmap. -/
import Derived.Test.YtoochjhipmpehaaGreatDoorAbK
import Derived.Test.YtoochjhipmpehaaGreatDoorPcK
import Derived.Test.YtoochjhipmpehaaGreatDoorSaK
import Derived.Test.YtoochjhipmpehaaGreatDoorSbK
import Derived.Test.YtoochjhipmpehaaGreatDoorSpFK
import Derived.Test.YtoochjhipmpehaaGreatDoorSpGK
import Derived.Test.YtoochjhipmpehaaGreatDoorSpIK
import Derived.Sort.CutIn
set_option linter.unusedVariables false
set_option linter.unusedSimpArgs false
set_option maxRecDepth 100000
set_option maxHeartbeats 4000000
namespace Go.Proofs.YtoochjhipmpehaaGreatDoor
section
open Go.RowKit Go.Sort
attribute [local go_sem] Oper.semAt_some
theorem sthere_any (P:Option Addr) (fr ot:Int) (w:World):Calls Tryz.prog 65 #[.pointer P, .int .u64 fr, .int .u64 ot] w fun e w'=>e= .returned (.func (.func 107) #[] #[.pointer (some ⟨w.heap.size,0,none⟩), .pointer (some ⟨w.heap.size+1,0,none⟩), .pointer (some ⟨w.heap.size+1+1,0,none⟩)])∧
  w'=((w.alloc (.cells #[.pointer P] 60)).alloc (.cells #[.int .u64 fr] 43)).alloc (.cells #[.int .u64 ot] 43):=by
 go_enter Tryz.func65,Tryz.ntmps65
 go_wp2_with fail
 go_ret
 exact⟨rfl,rfl⟩
theorem there1_in (n:Nat) (hn:1≤n) (l b1 b2 b3 s t base:Nat) (fr ot:Int) (ps:List (Nat×Leaf)) (hlen:ps.length≤525312) (J:Option Addr→Nat→Nat→World→Prop) (W:World)
  (c1:W.cell? ⟨b1,0,none⟩=some (.pointer (some ⟨s,0,none⟩))) (c2:W.cell? ⟨s,2,none⟩=some (.pointer (some ⟨t,0,none⟩)))
  (hAll:Calls Tryz.prog 34 #[.pointer (some ⟨t,0,none⟩)] W fun e W1=> ∃R cap,e= .returned (.slice R ps.length cap)∧J R cap 0 W1)
  (hJ: ∀R cap k W,J R cap k W→OwnP W base R cap ps∧W.cell? ⟨b2,0,none⟩=some (.int .u64 fr)∧W.cell? ⟨b3,0,none⟩=some (.int .u64 ot)∧b2<W.heap.size∧b3<W.heap.size)
  (hB: ∀R cap k W W',J R cap k W→Below W.heap.size W W'→J R cap k W')
  (hskip: ∀R cap k W x,J R cap k W→ps[k]? =some x→inSt fr ot x.1=false→J R cap (k+1) W)
  (hY: ∀R cap k W x,J R cap k W→ps[k]? =some x→inSt fr ot x.1=true→YieldAt Fence.wide (n-1) Tryz.prog l #[.agg #[.int .u64 ((x.1*4096:Nat):Int), .int .i64 (x.2.frame:Int), .int .u8 (x.2.prot:Int), .bool x.2.copy]] W fun e W'=>e= .returned (.bool true)∧J R cap (k+1) W'):
  CallsIn Fence.wide n Tryz.prog 107 #[.func (.yield l) #[] #[], .pointer (some ⟨b1,0,none⟩), .pointer (some ⟨b2,0,none⟩), .pointer (some ⟨b3,0,none⟩)] W fun e W'=>(∃v,e= .returned v)∧ ∃R cap,J R cap ps.length W':=by
 have hro:Fence.wide.round=none:=rfl
 refine callsIn_of_wp Tryz.func107 rfl trivial ?_ hro
 simp only[Tryz.ntmps107,List.size_toArray,List.length_cons,List.length_nil,Nat.reduceAdd,Nat.reduceSub,Array.replicate_succ,Array.replicate_zero,List.push_toArray,List.append_toArray,List.nil_append,List.cons_append]
 have HALL:=ae hAll
 have HJ:=ae hJ
 have HB:=ae hB
 have HSK:=ae hskip
 have HY:=ae hY
 clear hAll hJ hB hskip hY
 gi_wp2_with (first
  |(refine⟨trivial,?_⟩;refine(callsIn_wide.2 HALL.out).mono ?_;rintro e W1 ⟨R,cap,rfl,hJ1⟩;have HJ1:=ae hJ1;clear hJ1)
  |fail)
 gi_loopw [13] (fun i wr=> ∃k:Nat,i= .int .i64 (k:Int)∧k≤ps.length∧J R cap k wr) (fun i _ =>ps.length-(intOf i).toNat)
 case atStart=>exact⟨0,rfl,Nat.zero_le _,HJ1.out⟩
 case round=>
  obtain⟨k,rfl,hk,hJk⟩:=hrel
  have HJK:=ae hJk
  obtain⟨hown,d2,d3,hl2,hl3⟩:=HJ.out _ _ _ _ hJk
  clear hJk
  by_cases hkl:k<ps.length
  ·obtain⟨⟨pg,y⟩,hx⟩: ∃y,ps[k]? =some y:=⟨ps[k],List.getElem?_eq_getElem hkl⟩
   rcases hown.form with⟨_,h2,_⟩|⟨g,rfl,hg2,hg3,hg4⟩
   ·rw[h2]at hkl;exact absurd hkl (Nat.not_lt_zero _)
   obtain⟨e0,e1,e2,e3⟩:=hown.elem hx
   dsimp only at e0 e1 e2 e3
   obtain⟨ad,had⟩: ∃ad:Int,ad=((pg*4096:Nat):Int):=⟨_,rfl⟩
   rw[←had]at e0
   have HX:=ae hx
   have HOWN:=ae hown
   have HAD:=ae had
   clear hx hown had
   gi_upto_region 3 with(fail)
   obtain⟨W2,hW2⟩: ∃W2,W2=wr.alloc (.cells #[.int .u64 ad, .int .i64 (y.frame:Int), .int .u8 (y.prot:Int), .bool y.copy] 85):=⟨_,rfl⟩
   rw[←hW2]
   have hb2:Below wr.heap.size wr W2:=by rw[hW2];exact(Below.refl _ _).alloc (Nat.le_refl _) _
   have hP2:W2.heap[wr.heap.size]? =some (.cells #[.int .u64 ad, .int .i64 (y.frame:Int), .int .u8 (y.prot:Int), .bool y.copy] 85 (0,0)):=by rw[hW2];exact ab wr _
   have x0:W2.cell? ⟨wr.heap.size,0,none⟩=some (.int .u64 ad):=aa hP2 0
   have x1:W2.cell? ⟨wr.heap.size,1,none⟩=some (.int .i64 (y.frame:Int)):=aa hP2 1
   have x2:W2.cell? ⟨wr.heap.size,2,none⟩=some (.int .u8 (y.prot:Int)):=aa hP2 2
   have x3:W2.cell? ⟨wr.heap.size,3,none⟩=some (.bool y.copy):=aa hP2 3
   have f2:W2.cell? ⟨b2,0,none⟩=some (.int .u64 fr):=(hb2.cell hl2).trans d2
   have f3:W2.cell? ⟨b3,0,none⟩=some (.int .u64 ot):=(hb2.cell hl3).trans d3
   have hJ2:=HB.out _ _ _ _ W2 HJK.out hb2
   have HJ2:=ae hJ2
   clear hW2 hb2 hP2 d2 d3 e0 e1 e2 e3 hJ2
   by_cases h1:fr≤ad
   ·by_cases h2:ad<ot
    ·have hyy:=HY.out _ _ _ W2 (pg,y) HJ2.out HX.out (inSt_yes.2 ⟨by have:=HAD.out;dsimp only;omega,by have:=HAD.out;dsimp only;omega⟩)
     dsimp only at hyy
     rw[←HAD.out]at hyy
     obtain⟨fn,tmps,assign,body,hy,hR⟩:=hyy
     have HR:=ae hR
     clear hR
     gi_wp2
     refine HR.out.mono ?_
     rintro e W3 ⟨rfl,hJ3⟩
     have HJ3:=ae hJ3
     clear hJ3
     gi_wp2
     go_roundw
     case rel=>exact⟨k+1,rfl,by omega,HJ3.out⟩
     case measure=>(simp[intOf];omega)
    ·have hJ3:=HSK.out _ _ _ _ (pg,y) HJ2.out HX.out (by rw[Bool.eq_false_iff];intro h;have:=inSt_yes.1 h;have:=HAD.out;dsimp only at *;omega)
     have HJ3:=ae hJ3
     clear hJ3
     gi_wp2
     refine⟨(fun _ h=>by cases h),?_⟩
     gi_wp2
     go_roundw
     case rel=>exact⟨k+1,rfl,by omega,HJ3.out⟩
     case measure=>(simp[intOf];omega)
   ·have hJ3:=HSK.out _ _ _ _ (pg,y) HJ2.out HX.out (by rw[Bool.eq_false_iff];intro h;have:=inSt_yes.1 h;have:=HAD.out;dsimp only at *;omega)
    have HJ3:=ae hJ3
    clear hJ3
    gi_wp2
    refine⟨(fun _ h=>by cases h),?_⟩
    gi_wp2
    go_roundw
    case rel=>exact⟨k+1,rfl,by omega,HJ3.out⟩
    case measure=>(simp[intOf];omega)
  ·obtain rfl:k=ps.length:=by omega
   gi_wp2
   go_end0
   exact⟨⟨_,rfl⟩,_,_,HJK.out⟩
structure ThBox (W:World) (s kb:Nat) (fr ot:Int) (o:Obj):Prop where
 b1:W.heap[kb]? =some (.cells #[.pointer (some ⟨s,0,none⟩)] 60 (0,0))
 b2:W.heap[kb+1]? =some (.cells #[.int .u64 fr] 43 (0,0))
 b3:W.heap[kb+1+1]? =some (.cells #[.int .u64 ot] 43 (0,0))
 mark:W.heap[kb+3]? =some (.deferred (some []))
 loop:W.heap[kb+3+1]? =some o
theorem ThBox.keep {W W':World} {s kb:Nat} {fr ot:Int} {o:Obj} (h:ThBox W s kb fr ot o) (hk: ∀b,kb≤b→b<kb+5→W'.heap[b]? =W.heap[b]?):ThBox W' s kb fr ot o:=
 ⟨(hk _ (by omega) (by omega)).trans h.b1,(hk _ (by omega) (by omega)).trans h.b2,(hk _ (by omega) (by omega)).trans h.b3,(hk _ (by omega) (by omega)).trans h.mark,(hk _ (by omega) (by omega)).trans h.loop⟩
theorem ThBox.lts {W:World} {s kb:Nat} {fr ot:Int} {o:Obj} (h:ThBox W s kb fr ot o):kb+5≤W.heap.size:=by have:=(ac h.loop).1;omega
def ThK (kb:Nat) (R:Option Addr):Nat→Prop:=fun b=>(kb≤b∧b<kb+5)∨R.map (·.block)=some b
structure ThJ (w2:World) (B c a fs m s t root:Nat) (A:Option Addr) (n cap:Nat) (rl:List Reg) (S:Nat→Prop) (F:List Nd) (clock:Int) (L:List Slot) (fr ot:Int) (ps:List (Nat×Leaf)) (o:Obj) (Rel:Nat→Pool→Prop) (R:Option Addr) (cp k:Nat) (W:World) (p':Pool):Prop where
 run:Run w2 W (FootS S c m) (ThK w2.heap.size R) B c a fs m s t root A n cap rl S S F clock p' L
 box:ThBox W s w2.heap.size fr ot o
 row:OwnP W (w2.heap.size+5) R cp ps
 rel:Rel k p'
theorem OwnP.blk {w:World} {base:Nat} {A:Option Addr} {cap:Nat} {l:List (Nat×Leaf)} (h:OwnP w base A cap l): ∀g,A.map (·.block)=some g→base≤g∧g<w.heap.size:=fun g e=>by
 rcases h.form with⟨h2,_⟩|⟨g',h1,h2,h3,_⟩
 ·rw[h2]at e;cases e
 ·rw[h1]at e
  simp at e
  subst e
  exact⟨h2,h3⟩
theorem ThJ.below {w2:World} {B c a fs m s t root:Nat} {A:Option Addr} {n cap:Nat} {rl:List Reg} {S:Nat→Prop} {F:List Nd} {clock:Int} {L:List Slot} {fr ot:Int} {ps:List (Nat×Leaf)} {o:Obj} {Rel:Nat→Pool→Prop} {R:Option Addr} {cp k:Nat} {W W':World} {p':Pool} (h:ThJ w2 B c a fs m s t root A n cap rl S F clock L fr ot ps o Rel R cp k W p') (hb:Below W.heap.size W W'):
  ThJ w2 B c a fs m s t root A n cap rl S F clock L fr ot ps o Rel R cp k W' p':=
 ⟨(h.run.below hb).sub fun _ e=> .inl e,h.box.keep fun b h1 h2=>hb.block b (by have:=h.box.lts;omega),h.row.kept hb,h.rel⟩
theorem th_any (n':Nat) (hn:1≤n') (B c a fs m s t root:Nat) (A:Option Addr) (n cap:Nat) (rl:List Reg) (S:Nat→Prop) (F:List Nd) (clock:Int) (p:Pool) (L:List Slot) (T:Tab) (hold:Nat→Nat) (fr ot:Int) (o:Obj) (Rel:Nat→Pool→Prop) (w2 w3:World)
  (hH:Home w2 B c a fs m S F clock p L) (hO:One w2 B c a m S s t root A n cap rl) (hsp:Sp F hold p L T) (hr:T.nd 4 0=some root)
  (hw3:w3=((w2.alloc (.cells #[.pointer (some ⟨s,0,none⟩)] 60)).alloc (.cells #[.int .u64 fr] 43)).alloc (.cells #[.int .u64 ot] 43))
  (h0:Rel 0 p) (hskip: ∀k p' x,Rel k p'→T.puts[k]? =some x→inSt fr ot x.1=false→Rel (k+1) p')
  (hY: ∀R cp k W x p',ThJ w2 B c a fs m s t root A n cap rl S F clock L fr ot T.puts o Rel R cp k W p'→T.puts[k]? =some x→inSt fr ot x.1=true→YieldAt Fence.wide (n'-1) Tryz.prog (w2.heap.size+3+1) #[.agg #[.int .u64 ((x.1*4096:Nat):Int), .int .i64 (x.2.frame:Int), .int .u8 (x.2.prot:Int), .bool x.2.copy]] W fun e W'=>e= .returned (.bool true)∧ ∃p'',ThJ w2 B c a fs m s t root A n cap rl S F clock L fr ot T.puts o Rel R cp (k+1) W' p''):
  CallsIn Fence.wide n' Tryz.prog 107 #[.func (.yield (w2.heap.size+3+1)) #[] #[], .pointer (some ⟨w2.heap.size,0,none⟩), .pointer (some ⟨w2.heap.size+1,0,none⟩), .pointer (some ⟨w2.heap.size+1+1,0,none⟩)] ((w3.alloc (.deferred (some []))).alloc o) fun e W'=>(∃v,e= .returned v)∧ ∃R cp p',ThJ w2 B c a fs m s t root A n cap rl S F clock L fr ot T.puts o Rel R cp T.puts.length W' p':=by
 have hb3:Below w2.heap.size w2 w3:=by rw[hw3];exact(((Below.refl _ _).alloc (Nat.le_refl _) _).alloc (by simp) _).alloc (by simp;omega) _
 have hz3:w3.heap.size=w2.heap.size+3:=by rw[hw3];simp
 have hb4:Below w2.heap.size w2 ((w3.alloc (.deferred (some []))).alloc o):=(hb3.alloc (by omega) _).alloc (by simp;omega) _
 have hz4:((w3.alloc (.deferred (some []))).alloc o).heap.size=w2.heap.size+5:=by simp[hz3]
 have e1:w3.heap[w2.heap.size]? =some (.cells #[.pointer (some ⟨s,0,none⟩)] 60 (0,0)):=by
  rw[hw3]
  exact(Below.heap_alloc _ _ _ (by simp;omega)).trans ((Below.heap_alloc _ _ _ (by simp)).trans (ab w2 _))
 have e2:w3.heap[w2.heap.size+1]? =some (.cells #[.int .u64 fr] 43 (0,0)):=by
  rw[hw3]
  have:=ab (w2.alloc (.cells #[.pointer (some ⟨s,0,none⟩)] 60)) (.cells #[.int .u64 fr] 43)
  rw[World.size_alloc]at this
  exact(Below.heap_alloc _ _ _ (by simp)).trans this
 have e3:w3.heap[w2.heap.size+1+1]? =some (.cells #[.int .u64 ot] 43 (0,0)):=by
  rw[hw3]
  have:=ab ((w2.alloc (.cells #[.pointer (some ⟨s,0,none⟩)] 60)).alloc (.cells #[.int .u64 fr] 43)) (.cells #[.int .u64 ot] 43)
  rwa [World.size_alloc,World.size_alloc]at this
 have hbox:ThBox ((w3.alloc (.deferred (some []))).alloc o) s w2.heap.size fr ot o:=by
  refine⟨(loop_low (by omega)).trans e1,(loop_low (by omega)).trans e2,(loop_low (by omega)).trans e3,?_,?_⟩
  ·have:=ab w3 (.deferred (some []))
   rw[hz3]at this
   exact(Below.heap_alloc _ _ _ (by simp[hz3])).trans this
  ·have:=ab (w3.alloc (.deferred (some []))) o
   rwa [World.size_alloc,hz3]at this
 have hrun:Run w2 ((w3.alloc (.deferred (some []))).alloc o) (FootS S c m) (ThK w2.heap.size none) B c a fs m s t root A n cap rl S S F clock p L:=((Run.start hH hO (fun _ e=>e)).below hb4).sub (fun b e=>by
  rcases e with e|e
  ·exact .inr ⟨e.1,by omega⟩
  ·cases e)
 have hall:=tall_any t c a root ((w3.alloc (.deferred (some []))).alloc o) S p T (held L hold) 0 hrun.home.cache.pool hrun.one.tab hsp.good hr
 refine(there1_in n' hn (w2.heap.size+3+1) w2.heap.size (w2.heap.size+1) (w2.heap.size+1+1) s t (w2.heap.size+5) fr ot T.puts ?_ (fun R cp k W=> ∃p',ThJ w2 B c a fs m s t root A n cap rl S F clock L fr ot T.puts o Rel R cp k W p') _ (aa hbox.b1 0) (aa hrun.one.self 2) (hall.mono ?_) ?_ ?_ ?_ ?_).mono ?_
 ·refine Nat.le_trans (flatMap_few (fun e=>?_) _) hsp.good.ok.short
  cases e<;>simp[Ev.ls]
 ·rintro e W1 ⟨R,cp,rfl,hrow,hb⟩
  rw[hz4]at hrow
  refine⟨R,cp,rfl,p,(hrun.below hb).sub (fun b e=>?_),hbox.keep fun b h1 h2=>hb.block b (by omega),hrow,h0⟩
  rcases e with e|e
  ·exact .inl (.inl e)
  ·have:=hrow.blk b e
   exact .inr ⟨by omega,this.2⟩
 ·rintro R cp k W ⟨p',hj⟩
  have:=hj.box.lts
  exact⟨hj.row,aa hj.box.b2 0,aa hj.box.b3 0,by omega,by omega⟩
 ·rintro R cp k W W' ⟨p',hj⟩ hb
  exact⟨p',hj.below hb⟩
 ·rintro R cp k W x ⟨p',hj⟩ hx hin
  exact⟨p',hj.run,hj.box,hj.row,hskip k p' x hj.rel hx hin⟩
 ·rintro R cp k W x ⟨p',hj⟩ hx hin
  exact hY R cp k W x p' hj hx hin
 ·rintro e W ⟨hv,R,cp,p',hj⟩
  exact⟨hv,R,cp,p',hj⟩
end
section
open Go.RowKit Go.Sort
attribute [local go_sem] Oper.semAt_some
def TurnPost (w:World) (B c a fs m s t root:Nat) (S:Nat→Prop) (F:List Nd) (clock:Int) (L:List Slot) (res:List Reg) (No:Int→Prop) (Rel:Pool→Prop) (e:Ending) (w':World):Prop:=
 (∃er,e= .returned (.int .i64 er)∧er≠0∧No er∧Below w.heap.size w w')∨
 (e= .returned (.int .i64 0)∧No 0∧ ∃A' cap' p',Home w' B c a fs m S F clock p' L∧One w' B c a m S s t root A' res.length cap' res∧Mod (fun b=>FootS S c m b∨b=s) w w'∧(∀ad,A'=some ad→w.heap.size≤ad.block)∧Rel p')
theorem One.laid {w w1:World} {B c a fs m s t root n cap base cap1:Nat} {A A1:Option Addr} {rl l2:List Reg} {S:Nat→Prop} {F:List Nd} {clock:Int} {p:Pool} {L:List Slot} (hH:Home w B c a fs m S F clock p L) (hO:One w B c a m S s t root A n cap rl) (hb:Below w.heap.size w w1) (ho:OwnR w1 base A1 cap1 l2) (hbase:w.heap.size≤base) (hf:l2.length≤1000000):
  Home (w1.setCell ⟨s,3,none⟩ (.slice A1 l2.length cap1)) B c a fs m S F clock p L∧One (w1.setCell ⟨s,3,none⟩ (.slice A1 l2.length cap1)) B c a m S s t root A1 l2.length cap1 l2∧Mod (fun b=>b=s) w (w1.setCell ⟨s,3,none⟩ (.slice A1 l2.length cap1))∧w1.heap.size=(w1.setCell ⟨s,3,none⟩ (.slice A1 l2.length cap1)).heap.size:=by
 have hH1:=hH.below hb
 have hO1:=hO.below hb
 obtain⟨l1,l3,hst⟩:=hO1.lts
 obtain⟨k1,k2,_⟩:=hO.lts
 have hm:Mod (fun b=>b=s) w1 (w1.setCell ⟨s,3,none⟩ (.slice A1 l2.length cap1)):=mod_set (S:=fun b=>b=s) rfl 3 _
 have hrow:=ho.row
 have hz:=hb.size
 have hl:=hH.lts
 have hB:=hH.base
 refine⟨hH1.mod hm (fun b e=>by subst e;exact⟨hO1.noS.1,hO1.noS.2.2.1,hO1.noS.2.1,hO1.noS.2.2.2⟩),⟨?_,(hm.block t l3 (fun e=>hst e.symm)).trans hO1.tab,?_,hO1.noS,hO1.noT,fun ad e=>?_⟩,(Mod.of hb).trans (Out.refl _ _) hm,by simp⟩
 ·have h9:=Joins.block_setCell (i:=3) hO1.self (.slice A1 l2.length cap1)
  simpa [SpaceSelf]using h9
 ·refine(ho.rsl hf).mod hm (fun ad e e2=>?_)
  have:=hrow ad.block (by rw[e];rfl)
  omega
 ·have h9:=hrow ad.block (by rw[e];rfl)
  refine⟨fun e=>by have:=hl.2.2 _ e;omega,by omega,by omega,by omega,by omega,by omega,by simpa using h9.2⟩
end
end Go.Proofs.YtoochjhipmpehaaGreatDoor
