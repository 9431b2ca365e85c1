/- Spaces: what goes through the leaves of a stretch. Spaces: Unmap. -/
import Derived.Test.YtoochjhipmpehaaGreatDoorPcK
import Derived.Test.YtoochjhipmpehaaGreatDoorSaK
import Derived.Test.YtoochjhipmpehaaGreatDoorSpIK
set_option linter.unusedVariables false
set_option linter.unusedSimpArgs false
set_option maxRecDepth 100000
set_option maxHeartbeats 8000000
namespace Go.Proofs.YtoochjhipmpehaaGreatDoor
section
open Go.RowKit Go.Sort
attribute [local go_sem] Oper.semAt_some
theorem fo (P:Option Addr) (fr ot:Int) (w:World):Calls Tryz.prog 65 #[.pointer P, .int .u64 fr, .int .u64 ot] w fun e w'=>e= .returned (.func (.func 107) #[] #[.pointer (some ⟨w.heap.size,0,none⟩), .pointer (some ⟨w.heap.size+1,0,none⟩), .pointer (some ⟨w.heap.size+1+1,0,none⟩)])/\
  w'=((w.alloc (.cells #[.pointer P] 60)).alloc (.cells #[.int .u64 fr] 43)).alloc (.cells #[.int .u64 ot] 43):=by
 go_enter Tryz.func65,Tryz.ntmps65;go_wp2_with fail;go_ret;exact⟨rfl,rfl⟩
theorem rZ (n:Nat) (hn:1<=n) (l b1 b2 b3 s t base:Nat) (fr ot:Int) (ps:List (Nat×Leaf)) (hlen:ps.length<=525312) (J:Option Addr->Nat->Nat->World->Prop) (W:World)
  (c1:W.cell? ⟨b1,0,none⟩=some (.pointer (some ⟨s,0,none⟩))) (c2:W.cell? ⟨s,2,none⟩=some (.pointer (some ⟨t,0,none⟩)))
  (Uz:Calls Tryz.prog 34 #[.pointer (some ⟨t,0,none⟩)] W fun e W1=> ∃R cap,e= .returned (.slice R ps.length cap)/\J R cap 0 W1)
  (hJ: ∀R cap k W,J R cap k W->OwnP W base R cap ps/\W.cell? ⟨b2,0,none⟩=some (.int .u64 fr)/\W.cell? ⟨b3,0,none⟩=some (.int .u64 ot)/\b2<W.heap.size/\b3<W.heap.size)
  (hB: ∀R cap k W W',J R cap k W->Below W.heap.size W W'->J R cap k W')
  (Gc: ∀R cap k W x,J R cap k W->ps[k]? =some x->inSt fr ot x.1=false->J R cap (k+1) W)
  (hY: ∀R cap k W x,J R cap k W->ps[k]? =some x->inSt fr ot x.1=true->YieldAt Fence.wide (n-1) Tryz.prog l #[.agg #[.int .u64 ((x.1*4096:Nat):Int), .int .i64 (x.2.frame:Int), .int .u8 (x.2.prot:Int), .bool x.2.copy]] W fun e W'=>e= .returned (.bool true)/\J R cap (k+1) W'):
  CallsIn Fence.wide n Tryz.prog 107 #[.func (.yield l) #[] #[], .pointer (some ⟨b1,0,none⟩), .pointer (some ⟨b2,0,none⟩), .pointer (some ⟨b3,0,none⟩)] W fun e W'=>(∃v,e= .returned v)/\ ∃R cap,J R cap ps.length W':=by
 have zD:Fence.wide.round=none:=rfl;refine callsIn_of_wp Tryz.func107 rfl trivial ?_ zD;simp only[Tryz.ntmps107,List.size_toArray,uU,List.length_nil,Nat.reduceAdd,Nat.reduceSub,Array.replicate_succ,Array.replicate_zero,List.push_toArray,List.append_toArray,List.nil_append,List.cons_append];have Mr:=uH Uz;have HJ:=uH hJ;have HB:=uH hB;have HSK:=uH Gc;have HY:=uH hY;clear Uz hJ hB Gc hY;gi_wp2_with (first
  |(refine⟨trivial,?_⟩;refine(callsIn_wide.2 Mr.out).mono ?_;rintro e W1 ⟨R,cap,rfl,hJ1⟩;have Vn:=uH hJ1;clear hJ1)
  |fail)
 gi_loopw [13] (fun i wr=> ∃k:Nat,i= .int .i64 (k:Int)/\k<=ps.length/\J R cap k wr) (fun i _ =>ps.length-(intOf i).toNat)
 case atStart=>exact⟨0,rfl,vd _,Vn.out⟩
 case round=>
  obtain⟨k,rfl,hk,PK⟩:=hrel;have HJK:=uH PK;obtain⟨vA,d2,d3,vV,KN⟩:=HJ.out _ _ _ _ PK;clear PK;by_cases xR:k<ps.length
  ·obtain⟨⟨pg,y⟩,hx⟩: ∃y,ps[k]? =some y:=⟨ps[k],uN xR⟩;rcases vA.form with⟨_,h2,_⟩|⟨g,rfl,xu,Cd,Dl⟩
   ·rw[h2]at xR;exact absurd xR (Nat.not_lt_zero _)
   obtain⟨e0,e1,e2,e3⟩:=vA.elem hx;dsimp only at e0 e1 e2 e3;obtain⟨ad,zc⟩: ∃ad:Int,ad=((pg*4096:Nat):Int):=⟨_,rfl⟩;rw[<-zc]at e0;have HX:=uH hx;have yx:=uH vA;have EN:=uH zc;clear hx vA zc;gi_upto_region 3 with(fail);obtain⟨W2,vW⟩: ∃W2,W2=wr.alloc (.cells #[.int .u64 ad, .int .i64 (y.frame:Int), .int .u8 (y.prot:Int), .bool y.copy] 85):=⟨_,rfl⟩;rw[<-vW];have vs:Below wr.heap.size wr W2:=(by rw[vW];exact uJ);have zU:W2.heap[wr.heap.size]? =some (.cells #[.int .u64 ad, .int .i64 (y.frame:Int), .int .u8 (y.prot:Int), .bool y.copy] 85 (0,0)):=(by rw[vW];exact ab wr _);have x0:W2.cell? ⟨wr.heap.size,0,none⟩=some (.int .u64 ad):=aa zU 0;have x1:W2.cell? ⟨wr.heap.size,1,none⟩=some (.int .i64 (y.frame:Int)):=aa zU 1;have x2:W2.cell? ⟨wr.heap.size,2,none⟩=some (.int .u8 (y.prot:Int)):=aa zU 2;have x3:W2.cell? ⟨wr.heap.size,3,none⟩=some (.bool y.copy):=aa zU 3;have f2:W2.cell? ⟨b2,0,none⟩=some (.int .u64 fr):=(vs.cell vV).trans d2;have f3:W2.cell? ⟨b3,0,none⟩=some (.int .u64 ot):=(vs.cell KN).trans d3;have PL:=HB.out _ _ _ _ W2 HJK.out vs;have NO:=uH PL;clear vW vs zU d2 d3 e0 e1 e2 e3 PL;by_cases h1:fr<=ad
   ·by_cases h2:ad<ot
    ·have QH:=HY.out _ _ _ W2 (pg,y) NO.out HX.out (fC.2 ⟨by have:=EN.out;dsimp only;omega,by have:=EN.out;dsimp only;omega⟩);dsimp only at QH;rw[<-EN.out]at QH;obtain⟨fn,tmps,assign,body,hy,hR⟩:=QH;have HR:=uH hR;clear hR
     gi_wp2
     refine HR.out.mono ?_;rintro e W3 ⟨rfl,Hk⟩;have Cy:=uH Hk;clear Hk
     gi_wp2
     go_roundw
     case rel=>exact⟨k+1,rfl,by omega,Cy.out⟩
     case measure=>(simp[intOf];omega)
    ·have Hk:=HSK.out _ _ _ _ (pg,y) NO.out HX.out (by rw[Bool.eq_false_iff];intro h;have:=fC.1 h;have:=EN.out;dsimp only at *;omega);have Cy:=uH Hk;clear Hk
     gi_wp2
     refine⟨(fun _ h=>by cases h),?_⟩
     gi_wp2
     go_roundw
     case rel=>exact⟨k+1,rfl,by omega,Cy.out⟩
     case measure=>(simp[intOf];omega)
   ·have Hk:=HSK.out _ _ _ _ (pg,y) NO.out HX.out (by rw[Bool.eq_false_iff];intro h;have:=fC.1 h;have:=EN.out;dsimp only at *;omega);have Cy:=uH Hk;clear Hk
    gi_wp2
    refine⟨(fun _ h=>by cases h),?_⟩
    gi_wp2
    go_roundw
    case rel=>exact⟨k+1,rfl,by omega,Cy.out⟩
    case measure=>(simp[intOf];omega)
  ·obtain rfl:k=ps.length:=by omega
   gi_wp2
   go_end0;exact⟨⟨_,rfl⟩,_,_,HJK.out⟩
structure kq (W:World) (s kb:Nat) (fr ot:Int) (o:Obj):Prop where
 b1:W.heap[kb]? =some (.cells #[.pointer (some ⟨s,0,none⟩)] 60 (0,0))
 b2:W.heap[kb+1]? =some (.cells #[.int .u64 fr] 43 (0,0))
 b3:W.heap[kb+1+1]? =some (.cells #[.int .u64 ot] 43 (0,0))
 mark:W.heap[kb+3]? =some (.deferred (some []))
 loop:W.heap[kb+3+1]? =some o
variable {W W':World} {s kb:Nat} {fr ot:Int} {o:Obj}
theorem kq.keep (h:kq W s kb fr ot o) (hk: ∀b,kb<=b->b<kb+5->W'.heap[b]? =W.heap[b]?):kq W' s kb fr ot o:=
 ⟨(hk _ (by omega) (by omega)).trans h.b1,(hk _ (by omega) (by omega)).trans h.b2,(hk _ (by omega) (by omega)).trans h.b3,(hk _ (by omega) (by omega)).trans h.mark,(hk _ (by omega) (by omega)).trans h.loop⟩
theorem kq.lts (h:kq W s kb fr ot o):kb+5<=W.heap.size:=by have:=(uG h.loop).1;omega
def ThK (kb:Nat) (R:Option Addr):Nat->Prop:=fun b=>(kb<=b/\b<kb+5)\/R.map (·.block)=some b
structure ThJ (w2:World) (B c a fs m s t root:Nat) (A:Option Addr) (n cap:Nat) (rl:List Reg) (S:Nat->Prop) (F:List Nd) (clock:Int) (L:List Slot) (fr ot:Int) (ps:List (Nat×Leaf)) (o:Obj) (Rel:Nat->Pool->Prop) (R:Option Addr) (cp k:Nat) (W:World) (p':Pool):Prop where
 run:Run w2 W (av S c m) (ThK w2.heap.size R) B c a fs m s t root A n cap rl S S F clock p' L
 box:kq W s w2.heap.size fr ot o
 row:OwnP W (w2.heap.size+5) R cp ps
 rel:Rel k p'
variable {A:Option Addr} {cap:Nat}
theorem OwnP.blk {w:World} {base:Nat} {l:List (Nat×Leaf)} (h:OwnP w base A cap l): ∀g,A.map (·.block)=some g->base<=g/\g<w.heap.size:=fun g e=>by
 rcases h.form with⟨h2,_⟩|⟨g',h1,h2,h3,_⟩
 ·rw[h2]at e;cases e
 ·rw[h1]at e;simp at e;subst e;exact⟨h2,h3⟩
theorem ThJ.below {w2:World} {B c a fs m t root:Nat} {n:Nat} {rl:List Reg} {S:Nat->Prop} {F:List Nd} {clock:Int} {L:List Slot} {ps:List (Nat×Leaf)} {Rel:Nat->Pool->Prop} {R:Option Addr} {cp k:Nat} {p':Pool} (h:ThJ w2 B c a fs m s t root A n cap rl S F clock L fr ot ps o Rel R cp k W p') (hb:Below W.heap.size W W'):
  ThJ w2 B c a fs m s t root A n cap rl S F clock L fr ot ps o Rel R cp k W' p':=
 ⟨(h.run.below hb).sub fun _ e=> .inl e,h.box.keep fun b h1 h2=>hb.block b (by have:=h.box.lts;omega),h.row.kept hb,h.rel⟩
theorem pB (n':Nat) (hn:1<=n') (B c a fs m s t root:Nat) (A:Option Addr) (n cap:Nat) (rl:List Reg) (S:Nat->Prop) (F:List Nd) (clock:Int) (p:Pool) (L:List Slot) (T:Tab) (hold:Nat->Nat) (fr ot:Int) (o:Obj) (Rel:Nat->Pool->Prop) (w2 w3:World)
  (hH:Home w2 B c a fs m S F clock p L) (hO:One w2 B c a m S s t root A n cap rl) (xM:Sp F hold p L T) (hr:T.nd 4 0=some root)
  (wE:w3=((w2.alloc (.cells #[.pointer (some ⟨s,0,none⟩)] 60)).alloc (.cells #[.int .u64 fr] 43)).alloc (.cells #[.int .u64 ot] 43))
  (h0:Rel 0 p) (Gc: ∀k p' x,Rel k p'->T.puts[k]? =some x->inSt fr ot x.1=false->Rel (k+1) p')
  (hY: ∀R cp k W x p',ThJ w2 B c a fs m s t root A n cap rl S F clock L fr ot T.puts o Rel R cp k W p'->T.puts[k]? =some x->inSt fr ot x.1=true->YieldAt Fence.wide (n'-1) Tryz.prog (w2.heap.size+3+1) #[.agg #[.int .u64 ((x.1*4096:Nat):Int), .int .i64 (x.2.frame:Int), .int .u8 (x.2.prot:Int), .bool x.2.copy]] W fun e W'=>e= .returned (.bool true)/\ ∃p'',ThJ w2 B c a fs m s t root A n cap rl S F clock L fr ot T.puts o Rel R cp (k+1) W' p''):
  CallsIn Fence.wide n' Tryz.prog 107 #[.func (.yield (w2.heap.size+3+1)) #[] #[], .pointer (some ⟨w2.heap.size,0,none⟩), .pointer (some ⟨w2.heap.size+1,0,none⟩), .pointer (some ⟨w2.heap.size+1+1,0,none⟩)] ((w3.alloc (.deferred (some []))).alloc o) fun e W'=>(∃v,e= .returned v)/\ ∃R cp p',ThJ w2 B c a fs m s t root A n cap rl S F clock L fr ot T.puts o Rel R cp T.puts.length W' p':=by
 have vG:Below w2.heap.size w2 w3:=(by rw[wE];exact(uJ.alloc (by simp) _).alloc (by simp;omega) _);have xq:w3.heap.size=w2.heap.size+3:=(by rw[wE];simp);have vD:Below w2.heap.size w2 ((w3.alloc (.deferred (some []))).alloc o):=(vG.alloc (by omega) _).alloc (by simp;omega) _;have AN:((w3.alloc (.deferred (some []))).alloc o).heap.size=w2.heap.size+5:=(by simp[xq]);have e1:w3.heap[w2.heap.size]? =some (.cells #[.pointer (some ⟨s,0,none⟩)] 60 (0,0)):=by
  rw[wE];exact(uL _ _ _ (by simp;omega)).trans ((uL _ _ _ (by simp)).trans (ab w2 _))
 have e2:w3.heap[w2.heap.size+1]? =some (.cells #[.int .u64 fr] 43 (0,0)):=by
  rw[wE];have:=ab (w2.alloc (.cells #[.pointer (some ⟨s,0,none⟩)] 60)) (.cells #[.int .u64 fr] 43);rw[World.size_alloc]at this;exact(uL _ _ _ (by simp)).trans this
 have e3:w3.heap[w2.heap.size+1+1]? =some (.cells #[.int .u64 ot] 43 (0,0)):=by
  rw[wE];have:=ab ((w2.alloc (.cells #[.pointer (some ⟨s,0,none⟩)] 60)).alloc (.cells #[.int .u64 fr] 43)) (.cells #[.int .u64 ot] 43)
  rwa [World.size_alloc,World.size_alloc]at this
 have xZ:kq ((w3.alloc (.deferred (some []))).alloc o) s w2.heap.size fr ot o:=by
  refine⟨(bX (by omega)).trans e1,(bX (by omega)).trans e2,(bX (by omega)).trans e3,?_,?_⟩
  ·have:=ab w3 (.deferred (some []));rw[xq]at this;exact(uL _ _ _ (by simp[xq])).trans this
  ·have:=ab (w3.alloc (.deferred (some []))) o
   rwa [World.size_alloc,xq]at this
 have wX:Run w2 ((w3.alloc (.deferred (some []))).alloc o) (av S c m) (ThK w2.heap.size none) B c a fs m s t root A n cap rl S S F clock p L:=((Run.start hH hO (fun _ e=>e)).below vD).sub (fun b e=>by
  rcases e with e|e
  ·exact .inr ⟨e.1,by omega⟩
  ·cases e)
 have wQ:=lj t c a root ((w3.alloc (.deferred (some []))).alloc o) S p T (held L hold) 0 wX.home.cache.pool wX.one.tab xM.good hr;refine(rZ n' hn (w2.heap.size+3+1) w2.heap.size (w2.heap.size+1) (w2.heap.size+1+1) s t (w2.heap.size+5) fr ot T.puts ?_ (fun R cp k W=> ∃p',ThJ w2 B c a fs m s t root A n cap rl S F clock L fr ot T.puts o Rel R cp k W p') _ (aa xZ.b1 0) (aa wX.one.self 2) (wQ.mono ?_) ?_ ?_ ?_ ?_).mono ?_
 ·refine ve (cG (fun e=>?_) _) xM.good.ok.short;cases e<;>simp[Ev.ls]
 ·rintro e W1 ⟨R,cp,rfl,vM,hb⟩;rw[AN]at vM;refine⟨R,cp,rfl,p,(wX.below hb).sub (fun b e=>?_),xZ.keep fun b h1 h2=>hb.block b (by omega),vM,h0⟩;rcases e with e|e
  ·exact .inl (.inl e)
  ·have:=vM.blk b e;exact .inr ⟨by omega,this.2⟩
 ·rintro R cp k W ⟨p',hj⟩;have:=hj.box.lts;exact⟨hj.row,aa hj.box.b2 0,aa hj.box.b3 0,by omega,by omega⟩
 ·rintro R cp k W W' ⟨p',hj⟩ hb;exact⟨p',hj.below hb⟩
 ·rintro R cp k W x ⟨p',hj⟩ hx vZ;exact⟨p',hj.run,hj.box,hj.row,Gc k p' x hj.rel hx vZ⟩
 ·rintro R cp k W x ⟨p',hj⟩ hx vZ;exact hY R cp k W x p' hj hx vZ
 ·rintro e W ⟨hv,R,cp,p',hj⟩;exact⟨hv,R,cp,p',hj⟩
end
section
open Go.RowKit Go.Sort
attribute [local go_sem] Oper.semAt_some
def jf (w:World) (B c a fs m s t root:Nat) (S:Nat->Prop) (F:List Nd) (clock:Int) (L:List Slot) (res:List Reg) (No:Int->Prop) (Rel:Pool->Prop) (e:Ending) (w':World):Prop:=
 (∃er,e= .returned (.int .i64 er)/\er≠0/\No er/\Below w.heap.size w w')\/
 (e= .returned (.int .i64 0)/\No 0/\ ∃A' vh p',Home w' B c a fs m S F clock p' L/\One w' B c a m S s t root A' res.length vh res/\Mod (fun b=>av S c m b\/b=s) w w'/\(∀ad,A'=some ad->w.heap.size<=ad.block)/\Rel p')
theorem One.laid {w w1:World} {B c a fs m s t root n cap base vj:Nat} {A A1:Option Addr} {rl l2:List Reg} {S:Nat->Prop} {F:List Nd} {clock:Int} {p:Pool} {L:List Slot} (hH:Home w B c a fs m S F clock p L) (hO:One w B c a m S s t root A n cap rl) (hb:Below w.heap.size w w1) (ho:OwnR w1 base A1 vj l2) (vC:w.heap.size<=base) (hf:l2.length<=1000000):
  Home (w1.setCell ⟨s,3,none⟩ (.slice A1 l2.length vj)) B c a fs m S F clock p L/\One (w1.setCell ⟨s,3,none⟩ (.slice A1 l2.length vj)) B c a m S s t root A1 l2.length vj l2/\Mod (fun b=>b=s) w (w1.setCell ⟨s,3,none⟩ (.slice A1 l2.length vj))/\w1.heap.size=(w1.setCell ⟨s,3,none⟩ (.slice A1 l2.length vj)).heap.size:=by
 have Uf:=hH.below hb;have wo:=hO.below hb;obtain⟨l1,l3,xi⟩:=wo.lts;obtain⟨k1,k2,_⟩:=hO.lts;have hm:Mod (fun b=>b=s) w1 (w1.setCell ⟨s,3,none⟩ (.slice A1 l2.length vj)):=aj (S:=fun b=>b=s) rfl 3 _;have vM:=ho.row;have hz:=hb.size;have hl:=hH.lts;have hB:=hH.base;refine⟨Uf.mod hm (fun b e=>by subst e;exact⟨wo.noS.1,wo.noS.2.2.1,wo.noS.2.1,wo.noS.2.2.2⟩),⟨?_,(hm.block t l3 (fun e=>xi e.symm)).trans wo.tab,?_,wo.noS,wo.noT,fun ad e=>?_⟩,(Mod.of hb).trans (Out.refl _ _) hm,by simp⟩
 ·have h9:=Joins.block_setCell (i:=3) wo.self (.slice A1 l2.length vj);simpa [cv]using h9
 ·refine(ho.rsl hf).mod hm (fun ad e e2=>?_);have:=vM ad.block (by rw[e];rfl);omega
 ·have h9:=vM ad.block (by rw[e];rfl);refine⟨fun e=>by have:=hl.2.2 _ e;omega,by omega,by omega,by omega,by omega,by omega,by simpa using h9.2⟩
theorem qv (B c a fs m s t root n cap:Nat) (fr ot:Int) (A:Option Addr) (rl:List Reg) (clock:Int) (w:World) (S:Nat->Prop) (F:List Nd) (p:Pool) (L:List Slot) (T:Tab) (hold:Nat->Nat)
  (hH:Home w B c a fs m S F clock p L) (hO:One w B c a m S s t root A n cap rl) (xM:Sp F hold p L T) (hr:T.nd 4 0=some root) (wz:dy rl) (h0:0<=fr) (h1:fr<=18446744073709551615) (h2:0<=ot) (h3:ot<=18446744073709551615) (vH:(Rg.cut rl fr ot).1.length<=1000000) (Br:(Rg.cut rl fr ot).2=0->ot<=140737488355328):
  Calls Tryz.prog 26 #[.pointer (some ⟨s,0,none⟩), .int .u64 fr, .int .u64 ot] w (jf w B c a fs m s t root S F clock L (Rg.cut rl fr ot).1 (fun er=>er=(Rg.cut rl fr ot).2) (fun p'=> ∃T',cx F hold fr ot p L T T.puts.length p' T')):=by
 refine(callsIn_wide (n:=9)).1 ?_;refine callsIn_of_wp_marks Tryz.func26 rfl trivial ?_;simp only[Tryz.ntmps26,List.size_toArray,uU,List.length_nil,Nat.reduceAdd,Nat.reduceSub,Array.replicate_succ,Array.replicate_zero,List.push_toArray,List.append_toArray,List.nil_append,List.cons_append];obtain⟨w0,vl⟩: ∃w0,w0=w.alloc (.cells #[.pointer (some ⟨s,0,none⟩)] 60):=⟨_,rfl⟩;have vQ:w0.heap.size=w.heap.size+1:=(by rw[vl];simp);have vm:Below w.heap.size w w0:=(by rw[vl];exact uJ);have zo:w0.heap[w.heap.size]? =some (.cells #[.pointer (some ⟨s,0,none⟩)] 60 (0,0)):=(by rw[vl];exact ab w _);have Ac:=hO.below vm;have DP:=hH.below vm;have xn:=cT s c a t n cap A w0 Ac.self;have hcut:=cut_any A n cap fr ot w0 rl Ac.row wz h0 h1 h2 h3;have s0:w0.cell? ⟨w.heap.size,0,none⟩=some (.pointer (some ⟨s,0,none⟩)):=aa zo 0;have s3:w0.cell? ⟨s,3,none⟩=some (.slice A n cap):=aa Ac.self 3;obtain⟨l2,vV⟩: ∃l2,l2=(Rg.cut rl fr ot).1:=⟨_,rfl⟩;obtain⟨e2,Gs⟩: ∃e2,e2=(Rg.cut rl fr ot).2:=⟨_,rfl⟩;unfold jh at hcut;rw[<-vV,<-Gs]at hcut;rw[<-vV,<-Gs];rw[<-vV]at vH;rw[<-Gs]at Br;have wi:=uH xn;have zB:=uH hcut;have vF:=uH vl;have Cg:=uH vQ;have wj:=uH vm;have yQ:=uH zo;have EX:=uH Ac;have Ir:=uH DP;have yc:=uH xM;have HR:=uH hr;have MB:=hO.lts.1;have Ku:=uH (show¬S w.heap.size from fun e=>by have:=hH.lts.2.2 _ e;omega);have Pq:c<w.heap.size/\m<w.heap.size:=⟨hH.lts.1,hH.lts.2.1⟩;clear xn hcut vl vQ vm zo Ac DP hH hO xM hr vV Gs;gi_upto_region 4 with(first
  |(refine⟨trivial,?_⟩;rw[<-vF.out];refine(callsIn_wide.2 wi.out).mono ?_;rintro e w1 ⟨rfl,rfl⟩)
  |(refine⟨trivial,?_⟩;refine(callsIn_wide.2 zB.out).mono ?_;rintro e w1 ⟨A1,vj,rfl,vL,vk⟩)
  |fail)
 have vq:=uH vk;have vx:=uH vL;clear vk vL s0 s3;by_cases vw:e2=0
 rotate_left
 ·have vu:(e2 != 0)=true:=(by rw[bne_iff_ne];exact vw);have vT:=uH vw;clear vw
  gi_wp2
  refine⟨.int .i64 e2,by simp[results,Tryz.results26,go_sem], .inl ⟨e2,rfl,vT.out,rfl,wj.out.trans (vq.out.mono wj.out.size)⟩⟩
 subst vw;have Su:=Br rfl;clear Br;obtain⟨w2,vU⟩: ∃w2,w2=w1.setCell ⟨s,3,none⟩ (.slice A1 l2.length vj):=⟨_,rfl⟩;obtain⟨FG,zp,vy,vO⟩:=One.laid Ir.out EX.out vq.out vx.out (uK _) vH;rw[<-vU]at FG zp vy vO;have wo:=EX.out.below vq.out;have AU:=(vq.out.block _ (uG yQ.out).1).trans yQ.out;have AK:=(vy.block _ (uG yQ.out).1 (by omega)).trans yQ.out;have s0:w1.cell? ⟨w.heap.size,0,none⟩=some (.pointer (some ⟨s,0,none⟩)):=aa AU 0;have s3:w1.cell? ⟨s,3,none⟩=some (.slice A n cap):=aa wo.self 3;have sf3:=ae wo.self 3;have t0:w2.cell? ⟨w.heap.size,0,none⟩=some (.pointer (some ⟨s,0,none⟩)):=aa AK 0;have Cv:=uH vU;have KA:=uH FG;have BU:=uH zp;have EK:=uH vy;have Hq:=uH AK;have Fc:w.heap.size<w2.heap.size:=(uG AK).1;clear vU FG zp vy wo AU AK vO;gi_upto_region 7 with(fail);rw[<-Cv.out];gi_wp2_with (first
  |(refine⟨trivial,?_⟩;refine(callsIn_wide.2 (fo _ _ _ w2)).mono ?_;rintro e w3 ⟨rfl,wE⟩;have BO:=uH wE;clear wE)
  |fail)
 have xq:w3.heap.size=w2.heap.size+3:=(by rw[BO.out];simp);refine bI rfl (by omega) (gf:=107) (lb:= #[.pointer (some ⟨w2.heap.size,0,none⟩), .pointer (some ⟨w2.heap.size+1,0,none⟩), .pointer (some ⟨w2.heap.size+1+1,0,none⟩)]) rfl trivial (enters_of Tryz.func107 (by kernel_rfl) rfl) ?_;rw[xq];intro fn CI rec wO;refine(pB (9-1) (by omega) B c a fs m s t root A1 l2.length vj l2 S F clock p L T hold fr ot (.loop (rec .ready none)) (fun k p'=> ∃T',cx F hold fr ot p L T k p' T') w2 w3 KA.out BU.out yc.out HR.out BO.out ⟨T,cx.start yc.out⟩ (fun k p' x ⟨T',h⟩ hx vZ=>⟨T',h.skip hx vZ⟩) ?_).mono ?_
 ·rintro R cp k W ⟨pg,fq,pr,cb⟩ p1 hj hx vZ;dsimp only at vZ;refine br trivial wO hj.box.loop rfl ?_;obtain⟨ad,zc⟩: ∃ad:Int,ad=((pg*4096:Nat):Int):=⟨_,rfl⟩;dsimp only;rw[<-zc];obtain⟨T1,zS⟩:=hj.rel;have HX:=uH hx;have xp:=uH vZ;have HJ:=uH hj;have EN:=uH zc;have xV:=uH zS;clear hx vZ hj wO zc zS
  gi_wp2
  obtain⟨W1,zF⟩: ∃W1,W1=W.alloc (.cells #[.int .u64 ad, .int .i64 (fq:Int), .int .u8 (pr:Int), .bool cb] 85):=⟨_,rfl⟩;rw[<-zF];have vk:Below W.heap.size W W1:=(by rw[zF];exact uJ);have AL:W1.heap[W.heap.size]? =some (.cells #[.int .u64 ad, .int .i64 (fq:Int), .int .u8 (pr:Int), .bool cb] 85 (0,0)):=(by rw[zF];exact ab W _);have wA:=HJ.out.below vk;refine⟨wA.box.loop,?_⟩;obtain⟨W2,vW⟩: ∃W2,W2=W1.putObj (w2.heap.size+3+1) (.loop (rec .busy none)):=⟨_,rfl⟩;rw[<-vW];have vy:Mod (fun b=>b=w2.heap.size+3+1) W1 W2:=(by rw[vW];exact az);have wM:=wA.box.loop;have XI:=HJ.out.box.lts;have vV:W2.heap[w2.heap.size+3+1]? =some (.loop (rec .busy none)):=(by rw[vW];exact World.putObj_heap_same (uG wM).1);have vr:=wA.run.set vy (fun b e=> .inl (by omega));have wD:kq W2 s w2.heap.size fr ot (.loop (rec .busy none)):=⟨(vy.block _ (uG wA.box.b1).1 (by omega)).trans wA.box.b1,(vy.block _ (uG wA.box.b2).1 (by omega)).trans wA.box.b2,(vy.block _ (uG wA.box.b3).1 (by omega)).trans wA.box.b3,(vy.block _ (uG wA.box.mark).1 (by omega)).trans wA.box.mark,vV⟩;have xb:OwnP W2 (w2.heap.size+5) R cp T.puts:=wA.row.same fun g hg=>by
   have h9:=wA.row.blk g (by rw[hg];rfl);exact vy.block g h9.2 (by omega)
  have zU:=(vy.block _ (uG AL).1 (by omega)).trans AL;have yK:=KA.out.lts;have FB:W2.heap[w.heap.size]? =w2.heap[w.heap.size]? :=vr.mod.block w.heap.size Fc (fun e=>e.elim (fun e=>Ku.out e) (fun e=>by omega));have c0:W2.cell? ⟨w.heap.size,0,none⟩=some (.pointer (some ⟨s,0,none⟩)):=aa (FB.trans Hq.out) 0;have s2:W2.cell? ⟨s,2,none⟩=some (.pointer (some ⟨t,0,none⟩)):=aa vr.one.self 2;have x0:W2.cell? ⟨W.heap.size,0,none⟩=some (.int .u64 ad):=aa zU 0;have wg:T1.nd 4 0=some root:=xV.out.top.trans HR.out;have DF:=ia t c a root ad W2.drew S p1 T1 (held L hold) 0 vr.home.cache.pool.drew vr.one.tab vr.one.noT.1 xV.out.sp.good wg (by have:=EN.out;omega);have Kl:=uH DF;have vP:=uH vr;have xo:=uH wD;have BP:=uH xb;have SI:Tryz.prog.follows .mixedOrders=true:=(by kernel_rfl);clear DF vr wD xb zF vW vk AL zU vy wM vV wA FB wg;gi_upto_region 9 with(fail);refine bO (fun w'=>w'.cell? ⟨w.heap.size,0,none⟩=some (.pointer (some ⟨s,0,none⟩))/\w'.cell? ⟨s,2,none⟩=some (.pointer (some ⟨t,0,none⟩))/\w'.cell? ⟨W.heap.size,0,none⟩=some (.int .u64 ad)) 6 (by kernel_rfl) (by kernel_rfl) (cR.of 5 (by kernel_rfl) (by kernel_rfl)) ⟨c0,s2,x0⟩ ?_;intro Qo Bh;refine zt 0 ?_;refine zt 1 ?_;refine zt 2 ?_;refine zt 3 ?_;refine zt 4 ?_;refine zt 5 ?_;refine aY 6 (by kernel_rfl) rfl rfl (fun K' hK=>?_)
  go_simp
  refine(Kl.out).mono ?_;rintro e W6 ⟨er,p6,T6,rfl,Cr,En,IB⟩;have yX:=En.undrew;obtain⟨wT,Bc⟩:=vP.out.pool Cr yX;go_wp2_with fail;refine hK.out _ _ ?_;clear hK K';refine aZ (by kernel_rfl) ?_ _;refine aP ?_;have vS:=xo.out.keep (W':=W6) (fun b h1 h2=>Bc b (.inl ⟨h1,h2⟩));have yD:OwnP W6 (w2.heap.size+5) R cp T.puts:=BP.out.same fun g hg=>Bc g (.inr (by rw[hg];rfl));have wI:=az (l:=w2.heap.size+3+1) (o:= .loop (rec .ready none)) (W:=W6);have xX:=vS.loop;have AD: ∀ {b:Nat} {o:Obj},W6.heap[b]? =some o->b≠w2.heap.size+3+1->(W6.putObj (w2.heap.size+3+1) (.loop (rec .ready none))).heap[b]? =some o:=fun h1 h2=>(wI.block _ (uG h1).1 h2).trans h1;refine⟨xX,rfl,p6,wT.set wI (fun b e=> .inl (by omega)),⟨AD vS.b1 (by omega),AD vS.b2 (by omega),AD vS.b3 (by omega),AD vS.mark (by omega),World.putObj_heap_same (uG xX).1⟩,yD.same fun g hg=>?_,T6,xV.out.step HX.out xp.out Su (by rw[EN.out];dsimp only;omega) IB⟩;have h9:=yD.blk g (by rw[hg];rfl);exact wI.block g h9.2 (by omega)
 ·rintro e W ⟨hv,R,cp,p1,hj⟩;refine⟨hv, .inl ⟨hj.box.loop,?_⟩⟩;obtain⟨W2,vW⟩: ∃W2,W2=W.putObj (w2.heap.size+3+1) (.loop (rec .exhausted none)):=⟨_,rfl⟩;rw[<-vW];have vy:Mod (fun b=>b=w2.heap.size+3+1) W W2:=(by rw[vW];exact az);have vr:=hj.run.set vy (fun b e=> .inl (by omega));have Be:=(vy.block _ (uG hj.box.mark).1 (by omega)).trans hj.box.mark;have vP:=uH vr;have Bi:=uH Be;have FK:=uH hj.rel;clear vW vy vr Be hj wO hv;unfold dk
  gi_wp2
  refine⟨by simp, .inl ⟨_,_,rfl,run_takeDeferred Bi.out,?_⟩⟩;have Bt:=az (l:=w2.heap.size+3) (o:= .deferred none) (W:=W2);have vv:=vP.out.set Bt (fun b e=> .inl (by omega));refine⟨.int .i64 0,by simp[results,Tryz.results26,go_sem], .inr ⟨rfl,rfl,A1,vj,p1,vv.home,vv.one,?_,(fun ad e=>by have h1:=vx.out.row ad.block (by rw[e];rfl);have h2:=wj.out.size;omega),FK.out⟩⟩;have hA:Mod (fun b=>av S c m b\/b=s) w w2:=((Mod.of wj.out).trans (Out.refl _ _) (EK.out)).sub fun b e=> .inr e;exact hA.trans (Out.refl _ _) (vv.mod.sub fun b e=> .inl e)
end
