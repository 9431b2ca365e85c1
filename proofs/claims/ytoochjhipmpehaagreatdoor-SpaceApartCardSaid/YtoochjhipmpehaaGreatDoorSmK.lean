/- Spaces: what goes through the leaves of a stretch. Spaces: Unmap. -/
import Derived.Test.YtoochjhipmpehaaGreatDoorPcK
import Derived.Test.YtoochjhipmpehaaGreatDoorSaK
import Derived.Test.YtoochjhipmpehaaGreatDoorSpIK
set_option linter.unusedVariables false
set_option linter.unusedSimpArgs false
set_option maxRecDepth 100000
set_option maxHeartbeats 8000000
namespace Go.Proofs.YtoochjhipmpehaaGreatDoor
section
open Go.RowKit Go.Sort
attribute [local go_sem] Oper.semAt_some
theorem fy (P:Option Addr) (fr ot:Int) (w:World):Calls Tryz.prog 65 #[.pointer P, .int .u64 fr, .int .u64 ot] w fun e w'=>e= .returned (.func (.func 107) #[] #[.pointer (some ⟨w.heap.size,0,none⟩), .pointer (some ⟨w.heap.size+1,0,none⟩), .pointer (some ⟨w.heap.size+1+1,0,none⟩)])/\
  w'=((w.alloc (.cells #[.pointer P] 60)).alloc (.cells #[.int .u64 fr] 43)).alloc (.cells #[.int .u64 ot] 43):=by
 go_enter Tryz.func65,Tryz.ntmps65;go_wp2_with fail;go_ret;exact⟨rfl,rfl⟩
theorem sl (n:Nat) (hn:1<=n) (l b1 b2 b3 s t base:Nat) (fr ot:Int) (ps:List (Nat×Leaf)) (hlen:ps.length<=525312) (J:Option Addr->Nat->Nat->World->Prop) (W:World)
  (c1:W.cell? ⟨b1,0,none⟩=some (.pointer (some ⟨s,0,none⟩))) (c2:W.cell? ⟨s,2,none⟩=some (.pointer (some ⟨t,0,none⟩)))
  (Vp:Calls Tryz.prog 34 #[.pointer (some ⟨t,0,none⟩)] W fun e W1=> ∃R cap,e= .returned (.slice R ps.length cap)/\J R cap 0 W1)
  (hJ: ∀R cap k W,J R cap k W->OwnP W base R cap ps/\W.cell? ⟨b2,0,none⟩=some (.int .u64 fr)/\W.cell? ⟨b3,0,none⟩=some (.int .u64 ot)/\b2<W.heap.size/\b3<W.heap.size)
  (hB: ∀R cap k W W',J R cap k W->Below W.heap.size W W'->J R cap k W')
  (GF: ∀R cap k W x,J R cap k W->ps[k]? =some x->inSt fr ot x.1=false->J R cap (k+1) W)
  (hY: ∀R cap k W x,J R cap k W->ps[k]? =some x->inSt fr ot x.1=true->YieldAt Fence.wide (n-1) Tryz.prog l #[.agg #[.int .u64 ((x.1*4096:Nat):Int), .int .i64 (x.2.frame:Int), .int .u8 (x.2.prot:Int), .bool x.2.copy]] W fun e W'=>e= .returned (.bool true)/\J R cap (k+1) W'):
  CallsIn Fence.wide n Tryz.prog 107 #[.func (.yield l) #[] #[], .pointer (some ⟨b1,0,none⟩), .pointer (some ⟨b2,0,none⟩), .pointer (some ⟨b3,0,none⟩)] W fun e W'=>(∃v,e= .returned v)/\ ∃R cap,J R cap ps.length W':=by
 have Af:Fence.wide.round=none:=rfl;refine callsIn_of_wp Tryz.func107 rfl trivial ?_ Af;simp only[Tryz.ntmps107,List.size_toArray,vn,List.length_nil,Nat.reduceAdd,Nat.reduceSub,Array.replicate_succ,Array.replicate_zero,List.push_toArray,List.append_toArray,List.nil_append,List.cons_append];have MX:=va Vp;have HJ:=va hJ;have HB:=va hB;have HSK:=va GF;have HY:=va hY;clear Vp hJ hB GF hY;gi_wp2_with (first
  |(refine⟨trivial,?_⟩;refine(callsIn_wide.2 MX.out).mono ?_;rintro e W1 ⟨R,cap,rfl,hJ1⟩;have Wf:=va hJ1;clear hJ1)
  |fail)
 gi_loopw [13] (fun i wr=> ∃k:Nat,i= .int .i64 (k:Int)/\k<=ps.length/\J R cap k wr) (fun i _ =>ps.length-(intOf i).toNat)
 case atStart=>exact⟨0,rfl,vw _,Wf.out⟩
 case round=>
  obtain⟨k,rfl,hk,Qi⟩:=hrel;have HJK:=va Qi;obtain⟨vR,d2,d3,wE,Lp⟩:=HJ.out _ _ _ _ Qi;clear Qi;by_cases xP:k<ps.length
  ·obtain⟨⟨pg,y⟩,hx⟩: ∃y,ps[k]? =some y:=⟨ps[k],vg xP⟩;rcases vR.form with⟨_,h2,_⟩|⟨g,rfl,xT,Cz,DL⟩
   ·rw[h2]at xP;exact absurd xP (Nat.not_lt_zero _)
   obtain⟨e0,e1,e2,e3⟩:=vR.elem hx;dsimp only at e0 e1 e2 e3;obtain⟨ad,zD⟩: ∃ad:Int,ad=((pg*4096:Nat):Int):=⟨_,rfl⟩;rw[<-zD]at e0;have HX:=va hx;have yX:=va vR;have Fu:=va zD;clear hx vR zD;gi_upto_region 3 with(fail);obtain⟨W2,wF⟩: ∃W2,W2=wr.alloc (.cells #[.int .u64 ad, .int .i64 (y.frame:Int), .int .u8 (y.prot:Int), .bool y.copy] 85):=⟨_,rfl⟩;rw[<-wF];have vM:Below wr.heap.size wr W2:=(by rw[wF];exact vc);have Ay:W2.heap[wr.heap.size]? =some (.cells #[.int .u64 ad, .int .i64 (y.frame:Int), .int .u8 (y.prot:Int), .bool y.copy] 85 (0,0)):=(by rw[wF];exact ab wr _);have x0:W2.cell? ⟨wr.heap.size,0,none⟩=some (.int .u64 ad):=aa Ay 0;have x1:W2.cell? ⟨wr.heap.size,1,none⟩=some (.int .i64 (y.frame:Int)):=aa Ay 1;have x2:W2.cell? ⟨wr.heap.size,2,none⟩=some (.int .u8 (y.prot:Int)):=aa Ay 2;have x3:W2.cell? ⟨wr.heap.size,3,none⟩=some (.bool y.copy):=aa Ay 3;have f2:W2.cell? ⟨b2,0,none⟩=some (.int .u64 fr):=(vM.cell wE).trans d2;have f3:W2.cell? ⟨b3,0,none⟩=some (.int .u64 ot):=(vM.cell Lp).trans d3;have Qj:=HB.out _ _ _ _ W2 HJK.out vM;have Ov:=va Qj;clear wF vM Ay d2 d3 e0 e1 e2 e3 Qj;by_cases h1:fr<=ad
   ·by_cases h2:ad<ot
    ·have Rk:=HY.out _ _ _ W2 (pg,y) Ov.out HX.out (fI.2 ⟨by have:=Fu.out;dsimp only;omega,by have:=Fu.out;dsimp only;omega⟩);dsimp only at Rk;rw[<-Fu.out]at Rk;obtain⟨fn,tmps,assign,body,hy,hR⟩:=Rk;have HR:=va hR;clear hR
     gi_wp2
     refine HR.out.mono ?_;rintro e W3 ⟨rfl,It⟩;have CX:=va It;clear It
     gi_wp2
     go_roundw
     case rel=>exact⟨k+1,rfl,by omega,CX.out⟩
     case measure=>(simp[intOf];omega)
    ·have It:=HSK.out _ _ _ _ (pg,y) Ov.out HX.out (by rw[Bool.eq_false_iff];intro h;have:=fI.1 h;have:=Fu.out;dsimp only at *;omega);have CX:=va It;clear It
     gi_wp2
     refine⟨(fun _ h=>by cases h),?_⟩
     gi_wp2
     go_roundw
     case rel=>exact⟨k+1,rfl,by omega,CX.out⟩
     case measure=>(simp[intOf];omega)
   ·have It:=HSK.out _ _ _ _ (pg,y) Ov.out HX.out (by rw[Bool.eq_false_iff];intro h;have:=fI.1 h;have:=Fu.out;dsimp only at *;omega);have CX:=va It;clear It
    gi_wp2
    refine⟨(fun _ h=>by cases h),?_⟩
    gi_wp2
    go_roundw
    case rel=>exact⟨k+1,rfl,by omega,CX.out⟩
    case measure=>(simp[intOf];omega)
  ·obtain rfl:k=ps.length:=by omega
   gi_wp2
   go_end0;exact⟨⟨_,rfl⟩,_,_,HJK.out⟩
structure kF (W:World) (s kb:Nat) (fr ot:Int) (o:Obj):Prop where
 b1:W.heap[kb]? =some (.cells #[.pointer (some ⟨s,0,none⟩)] 60 (0,0))
 b2:W.heap[kb+1]? =some (.cells #[.int .u64 fr] 43 (0,0))
 b3:W.heap[kb+1+1]? =some (.cells #[.int .u64 ot] 43 (0,0))
 mark:W.heap[kb+3]? =some (.deferred (some []))
 loop:W.heap[kb+3+1]? =some o
variable {W W':World} {s kb:Nat} {fr ot:Int} {o:Obj}
theorem kF.keep (h:kF W s kb fr ot o) (hk: ∀b,kb<=b->b<kb+5->W'.heap[b]? =W.heap[b]?):kF W' s kb fr ot o:=
 ⟨(hk _ (by omega) (by omega)).trans h.b1,(hk _ (by omega) (by omega)).trans h.b2,(hk _ (by omega) (by omega)).trans h.b3,(hk _ (by omega) (by omega)).trans h.mark,(hk _ (by omega) (by omega)).trans h.loop⟩
theorem kF.lts (h:kF W s kb fr ot o):kb+5<=W.heap.size:=by have:=(uZ h.loop).1;omega
def ThK (kb:Nat) (R:Option Addr):Nat->Prop:=fun b=>(kb<=b/\b<kb+5)\/R.map (·.block)=some b
structure ThJ (w2:World) (B c a fs m s t root:Nat) (A:Option Addr) (n cap:Nat) (rl:List Reg) (S:Nat->Prop) (F:List Nd) (clock:Int) (L:List Slot) (fr ot:Int) (ps:List (Nat×Leaf)) (o:Obj) (Rel:Nat->Pool->Prop) (R:Option Addr) (cp k:Nat) (W:World) (p':Pool):Prop where
 run:Run w2 W (aw S c m) (ThK w2.heap.size R) B c a fs m s t root A n cap rl S S F clock p' L
 box:kF W s w2.heap.size fr ot o
 row:OwnP W (w2.heap.size+5) R cp ps
 rel:Rel k p'
variable {A:Option Addr} {cap:Nat}
theorem OwnP.blk {w:World} {base:Nat} {l:List (Nat×Leaf)} (h:OwnP w base A cap l): ∀g,A.map (·.block)=some g->base<=g/\g<w.heap.size:=fun g e=>by
 rcases h.form with⟨h2,_⟩|⟨g',h1,h2,h3,_⟩
 ·rw[h2]at e;cases e
 ·rw[h1]at e;simp at e;subst e;exact⟨h2,h3⟩
theorem ThJ.below {w2:World} {B c a fs m t root:Nat} {n:Nat} {rl:List Reg} {S:Nat->Prop} {F:List Nd} {clock:Int} {L:List Slot} {ps:List (Nat×Leaf)} {Rel:Nat->Pool->Prop} {R:Option Addr} {cp k:Nat} {p':Pool} (h:ThJ w2 B c a fs m s t root A n cap rl S F clock L fr ot ps o Rel R cp k W p') (hb:Below W.heap.size W W'):
  ThJ w2 B c a fs m s t root A n cap rl S F clock L fr ot ps o Rel R cp k W' p':=
 ⟨(h.run.below hb).sub fun _ e=> .inl e,h.box.keep fun b h1 h2=>hb.block b (by have:=h.box.lts;omega),h.row.kept hb,h.rel⟩
theorem pN (n':Nat) (hn:1<=n') (B c a fs m s t root:Nat) (A:Option Addr) (n cap:Nat) (rl:List Reg) (S:Nat->Prop) (F:List Nd) (clock:Int) (p:Pool) (L:List Slot) (T:Tab) (hold:Nat->Nat) (fr ot:Int) (o:Obj) (Rel:Nat->Pool->Prop) (w2 w3:World)
  (hH:Home w2 B c a fs m S F clock p L) (hO:One w2 B c a m S s t root A n cap rl) (ya:Sp F hold p L T) (hr:T.nd 4 0=some root)
  (xb:w3=((w2.alloc (.cells #[.pointer (some ⟨s,0,none⟩)] 60)).alloc (.cells #[.int .u64 fr] 43)).alloc (.cells #[.int .u64 ot] 43))
  (h0:Rel 0 p) (GF: ∀k p' x,Rel k p'->T.puts[k]? =some x->inSt fr ot x.1=false->Rel (k+1) p')
  (hY: ∀R cp k W x p',ThJ w2 B c a fs m s t root A n cap rl S F clock L fr ot T.puts o Rel R cp k W p'->T.puts[k]? =some x->inSt fr ot x.1=true->YieldAt Fence.wide (n'-1) Tryz.prog (w2.heap.size+3+1) #[.agg #[.int .u64 ((x.1*4096:Nat):Int), .int .i64 (x.2.frame:Int), .int .u8 (x.2.prot:Int), .bool x.2.copy]] W fun e W'=>e= .returned (.bool true)/\ ∃p'',ThJ w2 B c a fs m s t root A n cap rl S F clock L fr ot T.puts o Rel R cp (k+1) W' p''):
  CallsIn Fence.wide n' Tryz.prog 107 #[.func (.yield (w2.heap.size+3+1)) #[] #[], .pointer (some ⟨w2.heap.size,0,none⟩), .pointer (some ⟨w2.heap.size+1,0,none⟩), .pointer (some ⟨w2.heap.size+1+1,0,none⟩)] ((w3.alloc (.deferred (some []))).alloc o) fun e W'=>(∃v,e= .returned v)/\ ∃R cp p',ThJ w2 B c a fs m s t root A n cap rl S F clock L fr ot T.puts o Rel R cp T.puts.length W' p':=by
 have vX:Below w2.heap.size w2 w3:=(by rw[xb];exact(vc.alloc (by simp) _).alloc (by simp;omega) _);have xR:w3.heap.size=w2.heap.size+3:=(by rw[xb];simp);have vZ:Below w2.heap.size w2 ((w3.alloc (.deferred (some []))).alloc o):=(vX.alloc (by omega) _).alloc (by simp;omega) _;have AX:((w3.alloc (.deferred (some []))).alloc o).heap.size=w2.heap.size+5:=(by simp[xR]);have e1:w3.heap[w2.heap.size]? =some (.cells #[.pointer (some ⟨s,0,none⟩)] 60 (0,0)):=by
  rw[xb];exact(ve _ _ _ (by simp;omega)).trans ((ve _ _ _ (by simp)).trans (ab w2 _))
 have e2:w3.heap[w2.heap.size+1]? =some (.cells #[.int .u64 fr] 43 (0,0)):=by
  rw[xb];have:=ab (w2.alloc (.cells #[.pointer (some ⟨s,0,none⟩)] 60)) (.cells #[.int .u64 fr] 43);rw[World.size_alloc]at this;exact(ve _ _ _ (by simp)).trans this
 have e3:w3.heap[w2.heap.size+1+1]? =some (.cells #[.int .u64 ot] 43 (0,0)):=by
  rw[xb];have:=ab ((w2.alloc (.cells #[.pointer (some ⟨s,0,none⟩)] 60)).alloc (.cells #[.int .u64 fr] 43)) (.cells #[.int .u64 ot] 43)
  rwa [World.size_alloc,World.size_alloc]at this
 have yB:kF ((w3.alloc (.deferred (some []))).alloc o) s w2.heap.size fr ot o:=by
  refine⟨(cf (by omega)).trans e1,(cf (by omega)).trans e2,(cf (by omega)).trans e3,?_,?_⟩
  ·have:=ab w3 (.deferred (some []));rw[xR]at this;exact(ve _ _ _ (by simp[xR])).trans this
  ·have:=ab (w3.alloc (.deferred (some []))) o
   rwa [World.size_alloc,xR]at this
 have xz:Run w2 ((w3.alloc (.deferred (some []))).alloc o) (aw S c m) (ThK w2.heap.size none) B c a fs m s t root A n cap rl S S F clock p L:=((Run.start hH hO (fun _ e=>e)).below vZ).sub (fun b e=>by
  rcases e with e|e
  ·exact .inr ⟨e.1,by omega⟩
  ·cases e)
 have xk:=pO t c a root ((w3.alloc (.deferred (some []))).alloc o) S p T (held L hold) 0 xz.home.cache.pool xz.one.tab ya.good hr;refine(sl n' hn (w2.heap.size+3+1) w2.heap.size (w2.heap.size+1) (w2.heap.size+1+1) s t (w2.heap.size+5) fr ot T.puts ?_ (fun R cp k W=> ∃p',ThJ w2 B c a fs m s t root A n cap rl S F clock L fr ot T.puts o Rel R cp k W p') _ (aa yB.b1 0) (aa xz.one.self 2) (xk.mono ?_) ?_ ?_ ?_ ?_).mono ?_
 ·refine vx (cL (fun e=>?_) _) ya.good.ok.short;cases e<;>simp[Ev.ls]
 ·rintro e W1 ⟨R,cp,rfl,wj,hb⟩;rw[AX]at wj;refine⟨R,cp,rfl,p,(xz.below hb).sub (fun b e=>?_),yB.keep fun b h1 h2=>hb.block b (by omega),wj,h0⟩;rcases e with e|e
  ·exact .inl (.inl e)
  ·have:=wj.blk b e;exact .inr ⟨by omega,this.2⟩
 ·rintro R cp k W ⟨p',hj⟩;have:=hj.box.lts;exact⟨hj.row,aa hj.box.b2 0,aa hj.box.b3 0,by omega,by omega⟩
 ·rintro R cp k W W' ⟨p',hj⟩ hb;exact⟨p',hj.below hb⟩
 ·rintro R cp k W x ⟨p',hj⟩ hx wI;exact⟨p',hj.run,hj.box,hj.row,GF k p' x hj.rel hx wI⟩
 ·rintro R cp k W x ⟨p',hj⟩ hx wI;exact hY R cp k W x p' hj hx wI
 ·rintro e W ⟨hv,R,cp,p',hj⟩;exact⟨hv,R,cp,p',hj⟩
end
section
open Go.RowKit Go.Sort
attribute [local go_sem] Oper.semAt_some
def jr (w:World) (B c a fs m s t root:Nat) (S:Nat->Prop) (F:List Nd) (clock:Int) (L:List Slot) (res:List Reg) (No:Int->Prop) (Rel:Pool->Prop) (e:Ending) (w':World):Prop:=
 (∃er,e= .returned (.int .i64 er)/\er≠0/\No er/\Below w.heap.size w w')\/
 (e= .returned (.int .i64 0)/\No 0/\ ∃A' vA p',Home w' B c a fs m S F clock p' L/\One w' B c a m S s t root A' res.length vA res/\Mod (fun b=>aw S c m b\/b=s) w w'/\(∀ad,A'=some ad->w.heap.size<=ad.block)/\Rel p')
theorem One.laid {w w1:World} {B c a fs m s t root n cap base vC:Nat} {A A1:Option Addr} {rl l2:List Reg} {S:Nat->Prop} {F:List Nd} {clock:Int} {p:Pool} {L:List Slot} (hH:Home w B c a fs m S F clock p L) (hO:One w B c a m S s t root A n cap rl) (hb:Below w.heap.size w w1) (ho:OwnR w1 base A1 vC l2) (vQ:w.heap.size<=base) (hf:l2.length<=1000000):
  Home (w1.setCell ⟨s,3,none⟩ (.slice A1 l2.length vC)) B c a fs m S F clock p L/\One (w1.setCell ⟨s,3,none⟩ (.slice A1 l2.length vC)) B c a m S s t root A1 l2.length vC l2/\Mod (fun b=>b=s) w (w1.setCell ⟨s,3,none⟩ (.slice A1 l2.length vC))/\w1.heap.size=(w1.setCell ⟨s,3,none⟩ (.slice A1 l2.length vC)).heap.size:=by
 have UW:=hH.below hb;have wR:=hO.below hb;obtain⟨l1,l3,xo⟩:=wR.lts;obtain⟨k1,k2,_⟩:=hO.lts;have hm:Mod (fun b=>b=s) w1 (w1.setCell ⟨s,3,none⟩ (.slice A1 l2.length vC)):=aj (S:=fun b=>b=s) rfl 3 _;have wj:=ho.row;have hz:=hb.size;have hl:=hH.lts;have hB:=hH.base;refine⟨UW.mod hm (fun b e=>by subst e;exact⟨wR.noS.1,wR.noS.2.2.1,wR.noS.2.1,wR.noS.2.2.2⟩),⟨?_,(hm.block t l3 (fun e=>xo e.symm)).trans wR.tab,?_,wR.noS,wR.noT,fun ad e=>?_⟩,(Mod.of hb).trans (Out.refl _ _) hm,by simp⟩
 ·have h9:=Joins.block_setCell (i:=3) wR.self (.slice A1 l2.length vC);simpa [cS]using h9
 ·refine(ho.rsl hf).mod hm (fun ad e e2=>?_);have:=wj ad.block (by rw[e];rfl);omega
 ·have h9:=wj ad.block (by rw[e];rfl);refine⟨fun e=>by have:=hl.2.2 _ e;omega,by omega,by omega,by omega,by omega,by omega,by simpa using h9.2⟩
theorem qJ (B c a fs m s t root n cap:Nat) (fr ot:Int) (A:Option Addr) (rl:List Reg) (clock:Int) (w:World) (S:Nat->Prop) (F:List Nd) (p:Pool) (L:List Slot) (T:Tab) (hold:Nat->Nat)
  (hH:Home w B c a fs m S F clock p L) (hO:One w B c a m S s t root A n cap rl) (ya:Sp F hold p L T) (hr:T.nd 4 0=some root) (wW:dD rl) (h0:0<=fr) (h1:fr<=18446744073709551615) (h2:0<=ot) (h3:ot<=18446744073709551615) (wb:(Rg.cut rl fr ot).1.length<=1000000) (BS:(Rg.cut rl fr ot).2=0->ot<=140737488355328):
  Calls Tryz.prog 26 #[.pointer (some ⟨s,0,none⟩), .int .u64 fr, .int .u64 ot] w (jr w B c a fs m s t root S F clock L (Rg.cut rl fr ot).1 (fun er=>er=(Rg.cut rl fr ot).2) (fun p'=> ∃T',cC F hold fr ot p L T T.puts.length p' T')):=by
 refine(callsIn_wide (n:=9)).1 ?_;refine callsIn_of_wp_marks Tryz.func26 rfl trivial ?_;simp only[Tryz.ntmps26,List.size_toArray,vn,List.length_nil,Nat.reduceAdd,Nat.reduceSub,Array.replicate_succ,Array.replicate_zero,List.push_toArray,List.append_toArray,List.nil_append,List.cons_append];obtain⟨w0,vE⟩: ∃w0,w0=w.alloc (.cells #[.pointer (some ⟨s,0,none⟩)] 60):=⟨_,rfl⟩;have wz:w0.heap.size=w.heap.size+1:=(by rw[vE];simp);have vF:Below w.heap.size w w0:=(by rw[vE];exact vc);have zP:w0.heap[w.heap.size]? =some (.cells #[.pointer (some ⟨s,0,none⟩)] 60 (0,0)):=(by rw[vE];exact ab w _);have AI:=hO.below vF;have En:=hH.below vF;have xM:=dH s c a t n cap A w0 AI.self;have hcut:=cut_any A n cap fr ot w0 rl AI.row wW h0 h1 h2 h3;have s0:w0.cell? ⟨w.heap.size,0,none⟩=some (.pointer (some ⟨s,0,none⟩)):=aa zP 0;have s3:w0.cell? ⟨s,3,none⟩=some (.slice A n cap):=aa AI.self 3;obtain⟨l2,wE⟩: ∃l2,l2=(Rg.cut rl fr ot).1:=⟨_,rfl⟩;obtain⟨e2,GV⟩: ∃e2,e2=(Rg.cut rl fr ot).2:=⟨_,rfl⟩;unfold jt at hcut;rw[<-wE,<-GV]at hcut;rw[<-wE,<-GV];rw[<-wE]at wb;rw[<-GV]at BS;have wN:=va xM;have Ad:=va hcut;have vY:=va vE;have CC:=va wz;have wO:=va vF;have zv:=va zP;have FD:=va AI;have IZ:=va En;have yo:=va ya;have HR:=va hr;have Ni:=hO.lts.1;have KT:=va (show¬S w.heap.size from fun e=>by have:=hH.lts.2.2 _ e;omega);have PR:c<w.heap.size/\m<w.heap.size:=⟨hH.lts.1,hH.lts.2.1⟩;clear xM hcut vE wz vF zP AI En hH hO ya hr wE GV;gi_upto_region 4 with(first
  |(refine⟨trivial,?_⟩;rw[<-vY.out];refine(callsIn_wide.2 wN.out).mono ?_;rintro e w1 ⟨rfl,rfl⟩)
  |(refine⟨trivial,?_⟩;refine(callsIn_wide.2 Ad.out).mono ?_;rintro e w1 ⟨A1,vC,rfl,wi,vD⟩)
  |fail)
 have vJ:=va vD;have vS:=va wi;clear vD wi s0 s3;by_cases vO:e2=0
 rotate_left
 ·have vK:(e2 != 0)=true:=(by rw[bne_iff_ne];exact vO);have wC:=va vO;clear vO
  gi_wp2
  refine⟨.int .i64 e2,by simp[results,Tryz.results26,go_sem], .inl ⟨e2,rfl,wC.out,rfl,wO.out.trans (vJ.out.mono wO.out.size)⟩⟩
 subst vO;have Td:=BS rfl;clear BS;obtain⟨w2,wD⟩: ∃w2,w2=w1.setCell ⟨s,3,none⟩ (.slice A1 l2.length vC):=⟨_,rfl⟩;obtain⟨Gn,yQ,vT,wm⟩:=One.laid IZ.out FD.out vJ.out vS.out (vd _) wb;rw[<-wD]at Gn yQ vT wm;have wR:=FD.out.below vJ.out;have Bu:=(vJ.out.block _ (uZ zv.out).1).trans zv.out;have Bl:=(vT.block _ (uZ zv.out).1 (by omega)).trans zv.out;have s0:w1.cell? ⟨w.heap.size,0,none⟩=some (.pointer (some ⟨s,0,none⟩)):=aa Bu 0;have s3:w1.cell? ⟨s,3,none⟩=some (.slice A n cap):=aa wR.self 3;have sf3:=ae wR.self 3;have t0:w2.cell? ⟨w.heap.size,0,none⟩=some (.pointer (some ⟨s,0,none⟩)):=aa Bl 0;have CT:=va wD;have KY:=va Gn;have Bz:=va yQ;have Fp:=va vT;have Iz:=va Bl;have FH:w.heap.size<w2.heap.size:=(uZ Bl).1;clear wD Gn yQ vT wR Bu Bl wm;gi_upto_region 7 with(fail);rw[<-CT.out];gi_wp2_with (first
  |(refine⟨trivial,?_⟩;refine(callsIn_wide.2 (fy _ _ _ w2)).mono ?_;rintro e w3 ⟨rfl,xb⟩;have Cp:=va xb;clear xb)
  |fail)
 have xR:w3.heap.size=w2.heap.size+3:=(by rw[Cp.out];simp);refine bK rfl (by omega) (gf:=107) (lb:= #[.pointer (some ⟨w2.heap.size,0,none⟩), .pointer (some ⟨w2.heap.size+1,0,none⟩), .pointer (some ⟨w2.heap.size+1+1,0,none⟩)]) rfl trivial (enters_of Tryz.func107 (by kernel_rfl) rfl) ?_;rw[xR];intro fn Di rec xp;refine(pN (9-1) (by omega) B c a fs m s t root A1 l2.length vC l2 S F clock p L T hold fr ot (.loop (rec .ready none)) (fun k p'=> ∃T',cC F hold fr ot p L T k p' T') w2 w3 KY.out Bz.out yo.out HR.out Cp.out ⟨T,cC.start yo.out⟩ (fun k p' x ⟨T',h⟩ hx wI=>⟨T',h.skip hx wI⟩) ?_).mono ?_
 ·rintro R cp k W ⟨pg,fq,pr,cb⟩ p1 hj hx wI;dsimp only at wI;refine bw trivial xp hj.box.loop rfl ?_;obtain⟨ad,zD⟩: ∃ad:Int,ad=((pg*4096:Nat):Int):=⟨_,rfl⟩;dsimp only;rw[<-zD];obtain⟨T1,Aw⟩:=hj.rel;have HX:=va hx;have xQ:=va wI;have HJ:=va hj;have Fu:=va zD;have zr:=va Aw;clear hx wI hj xp zD Aw
  gi_wp2
  obtain⟨W1,Ai⟩: ∃W1,W1=W.alloc (.cells #[.int .u64 ad, .int .i64 (fq:Int), .int .u8 (pr:Int), .bool cb] 85):=⟨_,rfl⟩;rw[<-Ai];have vD:Below W.heap.size W W1:=(by rw[Ai];exact vc);have Bm:W1.heap[W.heap.size]? =some (.cells #[.int .u64 ad, .int .i64 (fq:Int), .int .u8 (pr:Int), .bool cb] 85 (0,0)):=(by rw[Ai];exact ab W _);have wX:=HJ.out.below vD;refine⟨wX.box.loop,?_⟩;obtain⟨W2,wF⟩: ∃W2,W2=W1.putObj (w2.heap.size+3+1) (.loop (rec .busy none)):=⟨_,rfl⟩;rw[<-wF];have vT:Mod (fun b=>b=w2.heap.size+3+1) W1 W2:=(by rw[wF];exact aA);have xm:=wX.box.loop;have YN:=HJ.out.box.lts;have wE:W2.heap[w2.heap.size+3+1]? =some (.loop (rec .busy none)):=(by rw[wF];exact World.putObj_heap_same (uZ xm).1);have vL:=wX.run.set vT (fun b e=> .inl (by omega));have wZ:kF W2 s w2.heap.size fr ot (.loop (rec .busy none)):=⟨(vT.block _ (uZ wX.box.b1).1 (by omega)).trans wX.box.b1,(vT.block _ (uZ wX.box.b2).1 (by omega)).trans wX.box.b2,(vT.block _ (uZ wX.box.b3).1 (by omega)).trans wX.box.b3,(vT.block _ (uZ wX.box.mark).1 (by omega)).trans wX.box.mark,wE⟩;have xg:OwnP W2 (w2.heap.size+5) R cp T.puts:=wX.row.same fun g hg=>by
   have h9:=wX.row.blk g (by rw[hg];rfl);exact vT.block g h9.2 (by omega)
  have Ay:=(vT.block _ (uZ Bm).1 (by omega)).trans Bm;have zk:=KY.out.lts;have Gi:W2.heap[w.heap.size]? =w2.heap[w.heap.size]? :=vL.mod.block w.heap.size FH (fun e=>e.elim (fun e=>KT.out e) (fun e=>by omega));have c0:W2.cell? ⟨w.heap.size,0,none⟩=some (.pointer (some ⟨s,0,none⟩)):=aa (Gi.trans Iz.out) 0;have s2:W2.cell? ⟨s,2,none⟩=some (.pointer (some ⟨t,0,none⟩)):=aa vL.one.self 2;have x0:W2.cell? ⟨W.heap.size,0,none⟩=some (.int .u64 ad):=aa Ay 0;have wJ:T1.nd 4 0=some root:=zr.out.top.trans HR.out;have Ee:=ik t c a root ad W2.drew S p1 T1 (held L hold) 0 vL.home.cache.pool.drew vL.one.tab vL.one.noT.1 zr.out.sp.good wJ (by have:=Fu.out;omega);have Lx:=va Ee;have wu:=va vL;have xN:=va wZ;have AD:=va xg;have Tt:Tryz.prog.follows .mixedOrders=true:=(by kernel_rfl);clear Ee vL wZ xg Ai wF vD Bm Ay vT xm wE wX Gi wJ;gi_upto_region 9 with(fail);refine bR (fun w'=>w'.cell? ⟨w.heap.size,0,none⟩=some (.pointer (some ⟨s,0,none⟩))/\w'.cell? ⟨s,2,none⟩=some (.pointer (some ⟨t,0,none⟩))/\w'.cell? ⟨W.heap.size,0,none⟩=some (.int .u64 ad)) 6 (by kernel_rfl) (by kernel_rfl) (cW.of 5 (by kernel_rfl) (by kernel_rfl)) ⟨c0,s2,x0⟩ ?_;intro QK BJ;refine zt 0 ?_;refine zt 1 ?_;refine zt 2 ?_;refine zt 3 ?_;refine zt 4 ?_;refine zt 5 ?_;refine bd 6 (by kernel_rfl) rfl rfl (fun K' hK=>?_)
  go_simp
  refine(Lx.out).mono ?_;rintro e W6 ⟨er,p6,T6,rfl,CP,EO,Jk⟩;have yU:=EO.undrew;obtain⟨xt,BF⟩:=wu.out.pool CP yU;go_wp2_with fail;refine hK.out _ _ ?_;clear hK K';refine be (by kernel_rfl) ?_ _;refine aQ ?_;have wB:=xN.out.keep (W':=W6) (fun b h1 h2=>BF b (.inl ⟨h1,h2⟩));have zc:OwnP W6 (w2.heap.size+5) R cp T.puts:=AD.out.same fun g hg=>BF g (.inr (by rw[hg];rfl));have xh:=aA (l:=w2.heap.size+3+1) (o:= .loop (rec .ready none)) (W:=W6);have xO:=wB.loop;have Bg: ∀ {b:Nat} {o:Obj},W6.heap[b]? =some o->b≠w2.heap.size+3+1->(W6.putObj (w2.heap.size+3+1) (.loop (rec .ready none))).heap[b]? =some o:=fun h1 h2=>(xh.block _ (uZ h1).1 h2).trans h1;refine⟨xO,rfl,p6,xt.set xh (fun b e=> .inl (by omega)),⟨Bg wB.b1 (by omega),Bg wB.b2 (by omega),Bg wB.b3 (by omega),Bg wB.mark (by omega),World.putObj_heap_same (uZ xO).1⟩,zc.same fun g hg=>?_,T6,zr.out.step HX.out xQ.out Td (by rw[Fu.out];dsimp only;omega) Jk⟩;have h9:=zc.blk g (by rw[hg];rfl);exact xh.block g h9.2 (by omega)
 ·rintro e W ⟨hv,R,cp,p1,hj⟩;refine⟨hv, .inl ⟨hj.box.loop,?_⟩⟩;obtain⟨W2,wF⟩: ∃W2,W2=W.putObj (w2.heap.size+3+1) (.loop (rec .exhausted none)):=⟨_,rfl⟩;rw[<-wF];have vT:Mod (fun b=>b=w2.heap.size+3+1) W W2:=(by rw[wF];exact aA);have vL:=hj.run.set vT (fun b e=> .inl (by omega));have BH:=(vT.block _ (uZ hj.box.mark).1 (by omega)).trans hj.box.mark;have wu:=va vL;have BK:=va BH;have Gs:=va hj.rel;clear wF vT vL BH hj xp hv;unfold dp
  gi_wp2
  refine⟨by simp, .inl ⟨_,_,rfl,run_takeDeferred BK.out,?_⟩⟩;have BV:=aA (l:=w2.heap.size+3) (o:= .deferred none) (W:=W2);have vP:=wu.out.set BV (fun b e=> .inl (by omega));refine⟨.int .i64 0,by simp[results,Tryz.results26,go_sem], .inr ⟨rfl,rfl,A1,vC,p1,vP.home,vP.one,?_,(fun ad e=>by have h1:=vS.out.row ad.block (by rw[e];rfl);have h2:=wO.out.size;omega),Gs.out⟩⟩;have hA:Mod (fun b=>aw S c m b\/b=s) w w2:=((Mod.of wO.out).trans (Out.refl _ _) (Fp.out)).sub fun b e=> .inr e;exact hA.trans (Out.refl _ _) (vP.mod.sub fun b e=> .inl e)
end
