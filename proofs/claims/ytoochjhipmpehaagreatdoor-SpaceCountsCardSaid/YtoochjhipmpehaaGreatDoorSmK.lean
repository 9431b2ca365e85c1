/- Spaces: what goes through the leaves of a stretch. Spaces: Unmap. -/
import Derived.Test.YtoochjhipmpehaaGreatDoorPcK
import Derived.Test.YtoochjhipmpehaaGreatDoorSaK
import Derived.Test.YtoochjhipmpehaaGreatDoorSpIK
set_option linter.unusedVariables false
set_option linter.unusedSimpArgs false
set_option maxRecDepth 100000
set_option maxHeartbeats 8000000
namespace Go.Proofs.YtoochjhipmpehaaGreatDoor
section
open Go.RowKit Go.Sort
attribute [local go_sem] Oper.semAt_some
theorem fz (P:Option Addr) (fr ot:Int) (w:World):Calls Tryz.prog 65 #[.pointer P, .int .u64 fr, .int .u64 ot] w fun e w'=>e= .returned (.func (.func 107) #[] #[.pointer (some ⟨w.heap.size,0,none⟩), .pointer (some ⟨w.heap.size+1,0,none⟩), .pointer (some ⟨w.heap.size+1+1,0,none⟩)])/\
  w'=((w.alloc (.cells #[.pointer P] 60)).alloc (.cells #[.int .u64 fr] 43)).alloc (.cells #[.int .u64 ot] 43):=by
 go_enter Tryz.func65,Tryz.ntmps65;go_wp2_with fail;go_ret;exact⟨rfl,rfl⟩
theorem sy (n:Nat) (hn:1<=n) (l b1 b2 b3 s t base:Nat) (fr ot:Int) (ps:List (Nat×Leaf)) (hlen:ps.length<=525312) (J:Option Addr->Nat->Nat->World->Prop) (W:World)
  (c1:W.cell? ⟨b1,0,none⟩=some (.pointer (some ⟨s,0,none⟩))) (c2:W.cell? ⟨s,2,none⟩=some (.pointer (some ⟨t,0,none⟩)))
  (Vz:Calls Tryz.prog 34 #[.pointer (some ⟨t,0,none⟩)] W fun e W1=> ∃R cap,e= .returned (.slice R ps.length cap)/\J R cap 0 W1)
  (hJ: ∀R cap k W,J R cap k W->OwnP W base R cap ps/\W.cell? ⟨b2,0,none⟩=some (.int .u64 fr)/\W.cell? ⟨b3,0,none⟩=some (.int .u64 ot)/\b2<W.heap.size/\b3<W.heap.size)
  (hB: ∀R cap k W W',J R cap k W->Below W.heap.size W W'->J R cap k W')
  (GX: ∀R cap k W x,J R cap k W->ps[k]? =some x->inSt fr ot x.1=false->J R cap (k+1) W)
  (hY: ∀R cap k W x,J R cap k W->ps[k]? =some x->inSt fr ot x.1=true->YieldAt Fence.wide (n-1) Tryz.prog l #[.agg #[.int .u64 ((x.1*4096:Nat):Int), .int .i64 (x.2.frame:Int), .int .u8 (x.2.prot:Int), .bool x.2.copy]] W fun e W'=>e= .returned (.bool true)/\J R cap (k+1) W'):
  CallsIn Fence.wide n Tryz.prog 107 #[.func (.yield l) #[] #[], .pointer (some ⟨b1,0,none⟩), .pointer (some ⟨b2,0,none⟩), .pointer (some ⟨b3,0,none⟩)] W fun e W'=>(∃v,e= .returned v)/\ ∃R cap,J R cap ps.length W':=by
 have Ax:Fence.wide.round=none:=rfl;refine callsIn_of_wp Tryz.func107 rfl trivial ?_ Ax;simp only[Tryz.ntmps107,List.size_toArray,vC,List.length_nil,Nat.reduceAdd,Nat.reduceSub,Array.replicate_succ,Array.replicate_zero,List.push_toArray,List.append_toArray,List.nil_append,List.cons_append];have Nb:=vp Vz;have HJ:=vp hJ;have HB:=vp hB;have HSK:=vp GX;have HY:=vp hY;clear Vz hJ hB GX hY;gi_wp2_with (first
  |(refine⟨trivial,?_⟩;refine(callsIn_wide.2 Nb.out).mono ?_;rintro e W1 ⟨R,cap,rfl,hJ1⟩;have Ws:=vp hJ1;clear hJ1)
  |fail)
 gi_loopw [13] (fun i wr=> ∃k:Nat,i= .int .i64 (k:Int)/\k<=ps.length/\J R cap k wr) (fun i _ =>ps.length-(intOf i).toNat)
 case atStart=>exact⟨0,rfl,vL _,Ws.out⟩
 case round=>
  obtain⟨k,rfl,hk,Qw⟩:=hrel;have HJK:=vp Qw;obtain⟨wh,d2,d3,wS,Lx⟩:=HJ.out _ _ _ _ Qw;clear Qw;by_cases yG:k<ps.length
  ·obtain⟨⟨pg,y⟩,hx⟩: ∃y,ps[k]? =some y:=⟨ps[k],vv yG⟩;rcases wh.form with⟨_,h2,_⟩|⟨g,rfl,yi,AV,Aq⟩
   ·rw[h2]at yG;exact absurd yG (Nat.not_lt_zero _)
   obtain⟨e0,e1,e2,e3⟩:=wh.elem hx;dsimp only at e0 e1 e2 e3;obtain⟨ad,zT⟩: ∃ad:Int,ad=((pg*4096:Nat):Int):=⟨_,rfl⟩;rw[<-zT]at e0;have HX:=vp hx;have zl:=vp wh;have FL:=vp zT;clear hx wh zT;gi_upto_region 3 with(fail);obtain⟨W2,wT⟩: ∃W2,W2=wr.alloc (.cells #[.int .u64 ad, .int .i64 (y.frame:Int), .int .u8 (y.prot:Int), .bool y.copy] 85):=⟨_,rfl⟩;rw[<-wT];have wb:Below wr.heap.size wr W2:=(by rw[wT];exact vr);have AP:W2.heap[wr.heap.size]? =some (.cells #[.int .u64 ad, .int .i64 (y.frame:Int), .int .u8 (y.prot:Int), .bool y.copy] 85 (0,0)):=(by rw[wT];exact ab wr _);have x0:W2.cell? ⟨wr.heap.size,0,none⟩=some (.int .u64 ad):=aa AP 0;have x1:W2.cell? ⟨wr.heap.size,1,none⟩=some (.int .i64 (y.frame:Int)):=aa AP 1;have x2:W2.cell? ⟨wr.heap.size,2,none⟩=some (.int .u8 (y.prot:Int)):=aa AP 2;have x3:W2.cell? ⟨wr.heap.size,3,none⟩=some (.bool y.copy):=aa AP 3;have f2:W2.cell? ⟨b2,0,none⟩=some (.int .u64 fr):=(wb.cell wS).trans d2;have f3:W2.cell? ⟨b3,0,none⟩=some (.int .u64 ot):=(wb.cell Lx).trans d3;have Qx:=HB.out _ _ _ _ W2 HJK.out wb;have OE:=vp Qx;clear wT wb AP d2 d3 e0 e1 e2 e3 Qx;by_cases h1:fr<=ad
   ·by_cases h2:ad<ot
    ·have Rx:=HY.out _ _ _ W2 (pg,y) OE.out HX.out (fJ.2 ⟨by have:=FL.out;dsimp only;omega,by have:=FL.out;dsimp only;omega⟩);dsimp only at Rx;rw[<-FL.out]at Rx;obtain⟨fn,tmps,assign,body,hy,hR⟩:=Rx;have HR:=vp hR;clear hR
     gi_wp2
     refine HR.out.mono ?_;rintro e W3 ⟨rfl,ID⟩;have Du:=vp ID;clear ID
     gi_wp2
     go_roundw
     case rel=>exact⟨k+1,rfl,by omega,Du.out⟩
     case measure=>(simp[intOf];omega)
    ·have ID:=HSK.out _ _ _ _ (pg,y) OE.out HX.out (by rw[Bool.eq_false_iff];intro h;have:=fJ.1 h;have:=FL.out;dsimp only at *;omega);have Du:=vp ID;clear ID
     gi_wp2
     refine⟨(fun _ h=>by cases h),?_⟩
     gi_wp2
     go_roundw
     case rel=>exact⟨k+1,rfl,by omega,Du.out⟩
     case measure=>(simp[intOf];omega)
   ·have ID:=HSK.out _ _ _ _ (pg,y) OE.out HX.out (by rw[Bool.eq_false_iff];intro h;have:=fJ.1 h;have:=FL.out;dsimp only at *;omega);have Du:=vp ID;clear ID
    gi_wp2
    refine⟨(fun _ h=>by cases h),?_⟩
    gi_wp2
    go_roundw
    case rel=>exact⟨k+1,rfl,by omega,Du.out⟩
    case measure=>(simp[intOf];omega)
  ·obtain rfl:k=ps.length:=by omega
   gi_wp2
   go_end0;exact⟨⟨_,rfl⟩,_,_,HJK.out⟩
structure kz (W:World) (s kb:Nat) (fr ot:Int) (o:Obj):Prop where
 b1:W.heap[kb]? =some (.cells #[.pointer (some ⟨s,0,none⟩)] 60 (0,0))
 b2:W.heap[kb+1]? =some (.cells #[.int .u64 fr] 43 (0,0))
 b3:W.heap[kb+1+1]? =some (.cells #[.int .u64 ot] 43 (0,0))
 mark:W.heap[kb+3]? =some (.deferred (some []))
 loop:W.heap[kb+3+1]? =some o
variable {W W':World} {s kb:Nat} {fr ot:Int} {o:Obj}
theorem kz.keep (h:kz W s kb fr ot o) (hk: ∀b,kb<=b->b<kb+5->W'.heap[b]? =W.heap[b]?):kz W' s kb fr ot o:=
 ⟨(hk _ (by omega) (by omega)).trans h.b1,(hk _ (by omega) (by omega)).trans h.b2,(hk _ (by omega) (by omega)).trans h.b3,(hk _ (by omega) (by omega)).trans h.mark,(hk _ (by omega) (by omega)).trans h.loop⟩
theorem kz.lts (h:kz W s kb fr ot o):kb+5<=W.heap.size:=by have:=(vo h.loop).1;omega
def ThK (kb:Nat) (R:Option Addr):Nat->Prop:=fun b=>(kb<=b/\b<kb+5)\/R.map (·.block)=some b
structure ThJ (w2:World) (B c a fs m s t root:Nat) (A:Option Addr) (n cap:Nat) (rl:List Reg) (S:Nat->Prop) (F:List Nd) (clock:Int) (L:List Slot) (fr ot:Int) (ps:List (Nat×Leaf)) (o:Obj) (Rel:Nat->Pool->Prop) (R:Option Addr) (cp k:Nat) (W:World) (p':Pool):Prop where
 run:Run w2 W (aw S c m) (ThK w2.heap.size R) B c a fs m s t root A n cap rl S S F clock p' L
 box:kz W s w2.heap.size fr ot o
 row:OwnP W (w2.heap.size+5) R cp ps
 rel:Rel k p'
variable {A:Option Addr} {cap:Nat}
theorem OwnP.blk {w:World} {base:Nat} {l:List (Nat×Leaf)} (h:OwnP w base A cap l): ∀g,A.map (·.block)=some g->base<=g/\g<w.heap.size:=fun g e=>by
 rcases h.form with⟨h2,_⟩|⟨g',h1,h2,h3,_⟩
 ·rw[h2]at e;cases e
 ·rw[h1]at e;simp at e;subst e;exact⟨h2,h3⟩
theorem ThJ.below {w2:World} {B c a fs m t root:Nat} {n:Nat} {rl:List Reg} {S:Nat->Prop} {F:List Nd} {clock:Int} {L:List Slot} {ps:List (Nat×Leaf)} {Rel:Nat->Pool->Prop} {R:Option Addr} {cp k:Nat} {p':Pool} (h:ThJ w2 B c a fs m s t root A n cap rl S F clock L fr ot ps o Rel R cp k W p') (hb:Below W.heap.size W W'):
  ThJ w2 B c a fs m s t root A n cap rl S F clock L fr ot ps o Rel R cp k W' p':=
 ⟨(h.run.below hb).sub fun _ e=> .inl e,h.box.keep fun b h1 h2=>hb.block b (by have:=h.box.lts;omega),h.row.kept hb,h.rel⟩
theorem pF (n':Nat) (hn:1<=n') (B c a fs m s t root:Nat) (A:Option Addr) (n cap:Nat) (rl:List Reg) (S:Nat->Prop) (F:List Nd) (clock:Int) (p:Pool) (L:List Slot) (T:Tab) (hold:Nat->Nat) (fr ot:Int) (o:Obj) (Rel:Nat->Pool->Prop) (w2 w3:World)
  (hH:Home w2 B c a fs m S F clock p L) (hO:One w2 B c a m S s t root A n cap rl) (yA:Sp F hold p L T) (hr:T.nd 4 0=some root)
  (xq:w3=((w2.alloc (.cells #[.pointer (some ⟨s,0,none⟩)] 60)).alloc (.cells #[.int .u64 fr] 43)).alloc (.cells #[.int .u64 ot] 43))
  (h0:Rel 0 p) (GX: ∀k p' x,Rel k p'->T.puts[k]? =some x->inSt fr ot x.1=false->Rel (k+1) p')
  (hY: ∀R cp k W x p',ThJ w2 B c a fs m s t root A n cap rl S F clock L fr ot T.puts o Rel R cp k W p'->T.puts[k]? =some x->inSt fr ot x.1=true->YieldAt Fence.wide (n'-1) Tryz.prog (w2.heap.size+3+1) #[.agg #[.int .u64 ((x.1*4096:Nat):Int), .int .i64 (x.2.frame:Int), .int .u8 (x.2.prot:Int), .bool x.2.copy]] W fun e W'=>e= .returned (.bool true)/\ ∃p'',ThJ w2 B c a fs m s t root A n cap rl S F clock L fr ot T.puts o Rel R cp (k+1) W' p''):
  CallsIn Fence.wide n' Tryz.prog 107 #[.func (.yield (w2.heap.size+3+1)) #[] #[], .pointer (some ⟨w2.heap.size,0,none⟩), .pointer (some ⟨w2.heap.size+1,0,none⟩), .pointer (some ⟨w2.heap.size+1+1,0,none⟩)] ((w3.alloc (.deferred (some []))).alloc o) fun e W'=>(∃v,e= .returned v)/\ ∃R cp p',ThJ w2 B c a fs m s t root A n cap rl S F clock L fr ot T.puts o Rel R cp T.puts.length W' p':=by
 have wG:Below w2.heap.size w2 w3:=(by rw[xq];exact(vr.alloc (by simp) _).alloc (by simp;omega) _);have yk:w3.heap.size=w2.heap.size+3:=(by rw[xq];simp);have wA:Below w2.heap.size w2 ((w3.alloc (.deferred (some []))).alloc o):=(wG.alloc (by omega) _).alloc (by simp;omega) _;have AZ:((w3.alloc (.deferred (some []))).alloc o).heap.size=w2.heap.size+5:=(by simp[yk]);have e1:w3.heap[w2.heap.size]? =some (.cells #[.pointer (some ⟨s,0,none⟩)] 60 (0,0)):=by
  rw[xq];exact(vt _ _ _ (by simp;omega)).trans ((vt _ _ _ (by simp)).trans (ab w2 _))
 have e2:w3.heap[w2.heap.size+1]? =some (.cells #[.int .u64 fr] 43 (0,0)):=by
  rw[xq];have:=ab (w2.alloc (.cells #[.pointer (some ⟨s,0,none⟩)] 60)) (.cells #[.int .u64 fr] 43);rw[World.size_alloc]at this;exact(vt _ _ _ (by simp)).trans this
 have e3:w3.heap[w2.heap.size+1+1]? =some (.cells #[.int .u64 ot] 43 (0,0)):=by
  rw[xq];have:=ab ((w2.alloc (.cells #[.pointer (some ⟨s,0,none⟩)] 60)).alloc (.cells #[.int .u64 fr] 43)) (.cells #[.int .u64 ot] 43)
  rwa [World.size_alloc,World.size_alloc]at this
 have yH:kz ((w3.alloc (.deferred (some []))).alloc o) s w2.heap.size fr ot o:=by
  refine⟨(bX (by omega)).trans e1,(bX (by omega)).trans e2,(bX (by omega)).trans e3,?_,?_⟩
  ·have:=ab w3 (.deferred (some []));rw[yk]at this;exact(vt _ _ _ (by simp[yk])).trans this
  ·have:=ab (w3.alloc (.deferred (some []))) o
   rwa [World.size_alloc,yk]at this
 have xP:Run w2 ((w3.alloc (.deferred (some []))).alloc o) (aw S c m) (ThK w2.heap.size none) B c a fs m s t root A n cap rl S S F clock p L:=((Run.start hH hO (fun _ e=>e)).below wA).sub (fun b e=>by
  rcases e with e|e
  ·exact .inr ⟨e.1,by omega⟩
  ·cases e)
 have xI:=lr t c a root ((w3.alloc (.deferred (some []))).alloc o) S p T (held L hold) 0 xP.home.cache.pool xP.one.tab yA.good hr;refine(sy n' hn (w2.heap.size+3+1) w2.heap.size (w2.heap.size+1) (w2.heap.size+1+1) s t (w2.heap.size+5) fr ot T.puts ?_ (fun R cp k W=> ∃p',ThJ w2 B c a fs m s t root A n cap rl S F clock L fr ot T.puts o Rel R cp k W p') _ (aa yH.b1 0) (aa xP.one.self 2) (xI.mono ?_) ?_ ?_ ?_ ?_).mono ?_
 ·refine vM (ca (fun e=>?_) _) yA.good.ok.short;cases e<;>simp[Ev.ls]
 ·rintro e W1 ⟨R,cp,rfl,wz,hb⟩;rw[AZ]at wz;refine⟨R,cp,rfl,p,(xP.below hb).sub (fun b e=>?_),yH.keep fun b h1 h2=>hb.block b (by omega),wz,h0⟩;rcases e with e|e
  ·exact .inl (.inl e)
  ·have:=wz.blk b e;exact .inr ⟨by omega,this.2⟩
 ·rintro R cp k W ⟨p',hj⟩;have:=hj.box.lts;exact⟨hj.row,aa hj.box.b2 0,aa hj.box.b3 0,by omega,by omega⟩
 ·rintro R cp k W W' ⟨p',hj⟩ hb;exact⟨p',hj.below hb⟩
 ·rintro R cp k W x ⟨p',hj⟩ hx wX;exact⟨p',hj.run,hj.box,hj.row,GX k p' x hj.rel hx wX⟩
 ·rintro R cp k W x ⟨p',hj⟩ hx wX;exact hY R cp k W x p' hj hx wX
 ·rintro e W ⟨hv,R,cp,p',hj⟩;exact⟨hv,R,cp,p',hj⟩
end
section
open Go.RowKit Go.Sort
attribute [local go_sem] Oper.semAt_some
def jj (w:World) (B c a fs m s t root:Nat) (S:Nat->Prop) (F:List Nd) (clock:Int) (L:List Slot) (res:List Reg) (No:Int->Prop) (Rel:Pool->Prop) (e:Ending) (w':World):Prop:=
 (∃er,e= .returned (.int .i64 er)/\er≠0/\No er/\Below w.heap.size w w')\/
 (e= .returned (.int .i64 0)/\No 0/\ ∃A' vP p',Home w' B c a fs m S F clock p' L/\One w' B c a m S s t root A' res.length vP res/\Mod (fun b=>aw S c m b\/b=s) w w'/\(∀ad,A'=some ad->w.heap.size<=ad.block)/\Rel p')
theorem One.laid {w w1:World} {B c a fs m s t root n cap base vR:Nat} {A A1:Option Addr} {rl l2:List Reg} {S:Nat->Prop} {F:List Nd} {clock:Int} {p:Pool} {L:List Slot} (hH:Home w B c a fs m S F clock p L) (hO:One w B c a m S s t root A n cap rl) (hb:Below w.heap.size w w1) (ho:OwnR w1 base A1 vR l2) (wv:w.heap.size<=base) (hf:l2.length<=1000000):
  Home (w1.setCell ⟨s,3,none⟩ (.slice A1 l2.length vR)) B c a fs m S F clock p L/\One (w1.setCell ⟨s,3,none⟩ (.slice A1 l2.length vR)) B c a m S s t root A1 l2.length vR l2/\Mod (fun b=>b=s) w (w1.setCell ⟨s,3,none⟩ (.slice A1 l2.length vR))/\w1.heap.size=(w1.setCell ⟨s,3,none⟩ (.slice A1 l2.length vR)).heap.size:=by
 have Vf:=hH.below hb;have wZ:=hO.below hb;obtain⟨l1,l3,xX⟩:=wZ.lts;obtain⟨k1,k2,_⟩:=hO.lts;have hm:Mod (fun b=>b=s) w1 (w1.setCell ⟨s,3,none⟩ (.slice A1 l2.length vR)):=aj (S:=fun b=>b=s) rfl 3 _;have wz:=ho.row;have hz:=hb.size;have hl:=hH.lts;have hB:=hH.base;refine⟨Vf.mod hm (fun b e=>by subst e;exact⟨wZ.noS.1,wZ.noS.2.2.1,wZ.noS.2.1,wZ.noS.2.2.2⟩),⟨?_,(hm.block t l3 (fun e=>xX e.symm)).trans wZ.tab,?_,wZ.noS,wZ.noT,fun ad e=>?_⟩,(Mod.of hb).trans (Out.refl _ _) hm,by simp⟩
 ·have h9:=Joins.block_setCell (i:=3) wZ.self (.slice A1 l2.length vR);simpa [cP]using h9
 ·refine(ho.rsl hf).mod hm (fun ad e e2=>?_);have:=wz ad.block (by rw[e];rfl);omega
 ·have h9:=wz ad.block (by rw[e];rfl);refine⟨fun e=>by have:=hl.2.2 _ e;omega,by omega,by omega,by omega,by omega,by omega,by simpa using h9.2⟩
theorem qG (B c a fs m s t root n cap:Nat) (fr ot:Int) (A:Option Addr) (rl:List Reg) (clock:Int) (w:World) (S:Nat->Prop) (F:List Nd) (p:Pool) (L:List Slot) (T:Tab) (hold:Nat->Nat)
  (hH:Home w B c a fs m S F clock p L) (hO:One w B c a m S s t root A n cap rl) (yA:Sp F hold p L T) (hr:T.nd 4 0=some root) (xk:dA rl) (h0:0<=fr) (h1:fr<=18446744073709551615) (h2:0<=ot) (h3:ot<=18446744073709551615) (wC:(Rg.cut rl fr ot).1.length<=1000000) (Cl:(Rg.cut rl fr ot).2=0->ot<=140737488355328):
  Calls Tryz.prog 26 #[.pointer (some ⟨s,0,none⟩), .int .u64 fr, .int .u64 ot] w (jj w B c a fs m s t root S F clock L (Rg.cut rl fr ot).1 (fun er=>er=(Rg.cut rl fr ot).2) (fun p'=> ∃T',cy F hold fr ot p L T T.puts.length p' T')):=by
 refine(callsIn_wide (n:=9)).1 ?_;refine callsIn_of_wp_marks Tryz.func26 rfl trivial ?_;simp only[Tryz.ntmps26,List.size_toArray,vC,List.length_nil,Nat.reduceAdd,Nat.reduceSub,Array.replicate_succ,Array.replicate_zero,List.push_toArray,List.append_toArray,List.nil_append,List.cons_append];obtain⟨w0,vT⟩: ∃w0,w0=w.alloc (.cells #[.pointer (some ⟨s,0,none⟩)] 60):=⟨_,rfl⟩;have wM:w0.heap.size=w.heap.size+1:=(by rw[vT];simp);have vU:Below w.heap.size w w0:=(by rw[vT];exact vr);have Ag:w0.heap[w.heap.size]? =some (.cells #[.pointer (some ⟨s,0,none⟩)] 60 (0,0)):=(by rw[vT];exact ab w _);have AW:=hO.below vU;have EJ:=hH.below vU;have yb:=dE s c a t n cap A w0 AW.self;have hcut:=cut_any A n cap fr ot w0 rl AW.row xk h0 h1 h2 h3;have s0:w0.cell? ⟨w.heap.size,0,none⟩=some (.pointer (some ⟨s,0,none⟩)):=aa Ag 0;have s3:w0.cell? ⟨s,3,none⟩=some (.slice A n cap):=aa AW.self 3;obtain⟨l2,wS⟩: ∃l2,l2=(Rg.cut rl fr ot).1:=⟨_,rfl⟩;obtain⟨e2,Hj⟩: ∃e2,e2=(Rg.cut rl fr ot).2:=⟨_,rfl⟩;unfold jm at hcut;rw[<-wS,<-Hj]at hcut;rw[<-wS,<-Hj];rw[<-wS]at wC;rw[<-Hj]at Cl;have xd:=vp yb;have Aw:=vp hcut;have wD:=vp vT;have CX:=vp wM;have xe:=vp vU;have zI:=vp Ag;have FW:=vp AW;have Jj:=vp EJ;have yP:=vp yA;have HR:=vp hr;have Np:=hO.lts.1;have Lc:=vp (show¬S w.heap.size from fun e=>by have:=hH.lts.2.2 _ e;omega);have Qc:c<w.heap.size/\m<w.heap.size:=⟨hH.lts.1,hH.lts.2.1⟩;clear yb hcut vT wM vU Ag AW EJ hH hO yA hr wS Hj;gi_upto_region 4 with(first
  |(refine⟨trivial,?_⟩;rw[<-wD.out];refine(callsIn_wide.2 xd.out).mono ?_;rintro e w1 ⟨rfl,rfl⟩)
  |(refine⟨trivial,?_⟩;refine(callsIn_wide.2 Aw.out).mono ?_;rintro e w1 ⟨A1,vR,rfl,wK,vS⟩)
  |fail)
 have vY:=vp vS;have wu:=vp wK;clear vS wK s0 s3;by_cases wi:e2=0
 rotate_left
 ·have wg:(e2 != 0)=true:=(by rw[bne_iff_ne];exact wi);have wP:=vp wi;clear wi
  gi_wp2
  refine⟨.int .i64 e2,by simp[results,Tryz.results26,go_sem], .inl ⟨e2,rfl,wP.out,rfl,xe.out.trans (vY.out.mono xe.out.size)⟩⟩
 subst wi;have Tr:=Cl rfl;clear Cl;obtain⟨w2,wO⟩: ∃w2,w2=w1.setCell ⟨s,3,none⟩ (.slice A1 l2.length vR):=⟨_,rfl⟩;obtain⟨GD,zF,wk,wL⟩:=One.laid Jj.out FW.out vY.out wu.out (vs _) wC;rw[<-wO]at GD zF wk wL;have wZ:=FW.out.below vY.out;have BL:=(vY.out.block _ (vo zI.out).1).trans zI.out;have BE:=(wk.block _ (vo zI.out).1 (by omega)).trans zI.out;have s0:w1.cell? ⟨w.heap.size,0,none⟩=some (.pointer (some ⟨s,0,none⟩)):=aa BL 0;have s3:w1.cell? ⟨s,3,none⟩=some (.slice A n cap):=aa wZ.self 3;have sf3:=ae wZ.self 3;have t0:w2.cell? ⟨w.heap.size,0,none⟩=some (.pointer (some ⟨s,0,none⟩)):=aa BE 0;have Ds:=vp wO;have Lj:=vp GD;have BN:=vp zF;have CP:=vp wk;have FU:=vp BE;have Gc:w.heap.size<w2.heap.size:=(vo BE).1;clear wO GD zF wk wZ BL BE wL;gi_upto_region 7 with(fail);rw[<-Ds.out];gi_wp2_with (first
  |(refine⟨trivial,?_⟩;refine(callsIn_wide.2 (fz _ _ _ w2)).mono ?_;rintro e w3 ⟨rfl,xq⟩;have CH:=vp xq;clear xq)
  |fail)
 have yk:w3.heap.size=w2.heap.size+3:=(by rw[CH.out];simp);refine bI rfl (by omega) (gf:=107) (lb:= #[.pointer (some ⟨w2.heap.size,0,none⟩), .pointer (some ⟨w2.heap.size+1,0,none⟩), .pointer (some ⟨w2.heap.size+1+1,0,none⟩)]) rfl trivial (enters_of Tryz.func107 (by kernel_rfl) rfl) ?_;rw[yk];intro fn DK rec xG;refine(pF (9-1) (by omega) B c a fs m s t root A1 l2.length vR l2 S F clock p L T hold fr ot (.loop (rec .ready none)) (fun k p'=> ∃T',cy F hold fr ot p L T k p' T') w2 w3 Lj.out BN.out yP.out HR.out CH.out ⟨T,cy.start yP.out⟩ (fun k p' x ⟨T',h⟩ hx wX=>⟨T',h.skip hx wX⟩) ?_).mono ?_
 ·rintro R cp k W ⟨pg,fq,pr,cb⟩ p1 hj hx wX;dsimp only at wX;refine bu trivial xG hj.box.loop rfl ?_;obtain⟨ad,zT⟩: ∃ad:Int,ad=((pg*4096:Nat):Int):=⟨_,rfl⟩;dsimp only;rw[<-zT];obtain⟨T1,AN⟩:=hj.rel;have HX:=vp hx;have xZ:=vp wX;have HJ:=vp hj;have FL:=vp zT;have zG:=vp AN;clear hx wX hj xG zT AN
  gi_wp2
  obtain⟨W1,AA⟩: ∃W1,W1=W.alloc (.cells #[.int .u64 ad, .int .i64 (fq:Int), .int .u8 (pr:Int), .bool cb] 85):=⟨_,rfl⟩;rw[<-AA];have vS:Below W.heap.size W W1:=(by rw[AA];exact vr);have BF:W1.heap[W.heap.size]? =some (.cells #[.int .u64 ad, .int .i64 (fq:Int), .int .u8 (pr:Int), .bool cb] 85 (0,0)):=(by rw[AA];exact ab W _);have xm:=HJ.out.below vS;refine⟨xm.box.loop,?_⟩;obtain⟨W2,wT⟩: ∃W2,W2=W1.putObj (w2.heap.size+3+1) (.loop (rec .busy none)):=⟨_,rfl⟩;rw[<-wT];have wk:Mod (fun b=>b=w2.heap.size+3+1) W1 W2:=(by rw[wT];exact az);have xB:=xm.box.loop;have YQ:=HJ.out.box.lts;have wS:W2.heap[w2.heap.size+3+1]? =some (.loop (rec .busy none)):=(by rw[wT];exact World.putObj_heap_same (vo xB).1);have vZ:=xm.run.set wk (fun b e=> .inl (by omega));have xp:kz W2 s w2.heap.size fr ot (.loop (rec .busy none)):=⟨(wk.block _ (vo xm.box.b1).1 (by omega)).trans xm.box.b1,(wk.block _ (vo xm.box.b2).1 (by omega)).trans xm.box.b2,(wk.block _ (vo xm.box.b3).1 (by omega)).trans xm.box.b3,(wk.block _ (vo xm.box.mark).1 (by omega)).trans xm.box.mark,wS⟩;have xS:OwnP W2 (w2.heap.size+5) R cp T.puts:=xm.row.same fun g hg=>by
   have h9:=xm.row.blk g (by rw[hg];rfl);exact wk.block g h9.2 (by omega)
  have AP:=(wk.block _ (vo BF).1 (by omega)).trans BF;have zA:=Lj.out.lts;have Gy:W2.heap[w.heap.size]? =w2.heap[w.heap.size]? :=vZ.mod.block w.heap.size Gc (fun e=>e.elim (fun e=>Lc.out e) (fun e=>by omega));have c0:W2.cell? ⟨w.heap.size,0,none⟩=some (.pointer (some ⟨s,0,none⟩)):=aa (Gy.trans FU.out) 0;have s2:W2.cell? ⟨s,2,none⟩=some (.pointer (some ⟨t,0,none⟩)):=aa vZ.one.self 2;have x0:W2.cell? ⟨W.heap.size,0,none⟩=some (.int .u64 ad):=aa AP 0;have wY:T1.nd 4 0=some root:=zG.out.top.trans HR.out;have GW:=ie t c a root ad W2.drew S p1 T1 (held L hold) 0 vZ.home.cache.pool.drew vZ.one.tab vZ.one.noT.1 zG.out.sp.good wY (by have:=FL.out;omega);have MD:=vp GW;have wN:=vp vZ;have ye:=vp xp;have CI:=vp xS;have TI:Tryz.prog.follows .mixedOrders=true:=(by kernel_rfl);clear GW vZ xp xS AA wT vS BF AP wk xB wS xm Gy wY;gi_upto_region 9 with(fail);refine bO (fun w'=>w'.cell? ⟨w.heap.size,0,none⟩=some (.pointer (some ⟨s,0,none⟩))/\w'.cell? ⟨s,2,none⟩=some (.pointer (some ⟨t,0,none⟩))/\w'.cell? ⟨W.heap.size,0,none⟩=some (.int .u64 ad)) 6 (by kernel_rfl) (by kernel_rfl) (cU.of 5 (by kernel_rfl) (by kernel_rfl)) ⟨c0,s2,x0⟩ ?_;intro QZ Ca;refine zt 0 ?_;refine zt 1 ?_;refine zt 2 ?_;refine zt 3 ?_;refine zt 4 ?_;refine zt 5 ?_;refine aZ 6 (by kernel_rfl) rfl rfl (fun K' hK=>?_)
  go_simp
  refine(MD.out).mono ?_;rintro e W6 ⟨er,p6,T6,rfl,Dl,Fh,Ju⟩;have zO:=Fh.undrew;obtain⟨xK,BU⟩:=wN.out.pool Dl zO;go_wp2_with fail;refine hK.out _ _ ?_;clear hK K';refine ba (by kernel_rfl) ?_ _;refine aR ?_;have wR:=ye.out.keep (W':=W6) (fun b h1 h2=>BU b (.inl ⟨h1,h2⟩));have zr:OwnP W6 (w2.heap.size+5) R cp T.puts:=CI.out.same fun g hg=>BU g (.inr (by rw[hg];rfl));have xw:=az (l:=w2.heap.size+3+1) (o:= .loop (rec .ready none)) (W:=W6);have yU:=wR.loop;have By: ∀ {b:Nat} {o:Obj},W6.heap[b]? =some o->b≠w2.heap.size+3+1->(W6.putObj (w2.heap.size+3+1) (.loop (rec .ready none))).heap[b]? =some o:=fun h1 h2=>(xw.block _ (vo h1).1 h2).trans h1;refine⟨yU,rfl,p6,xK.set xw (fun b e=> .inl (by omega)),⟨By wR.b1 (by omega),By wR.b2 (by omega),By wR.b3 (by omega),By wR.mark (by omega),World.putObj_heap_same (vo yU).1⟩,zr.same fun g hg=>?_,T6,zG.out.step HX.out xZ.out Tr (by rw[FL.out];dsimp only;omega) Ju⟩;have h9:=zr.blk g (by rw[hg];rfl);exact xw.block g h9.2 (by omega)
 ·rintro e W ⟨hv,R,cp,p1,hj⟩;refine⟨hv, .inl ⟨hj.box.loop,?_⟩⟩;obtain⟨W2,wT⟩: ∃W2,W2=W.putObj (w2.heap.size+3+1) (.loop (rec .exhausted none)):=⟨_,rfl⟩;rw[<-wT];have wk:Mod (fun b=>b=w2.heap.size+3+1) W W2:=(by rw[wT];exact az);have vZ:=hj.run.set wk (fun b e=> .inl (by omega));have BX:=(wk.block _ (vo hj.box.mark).1 (by omega)).trans hj.box.mark;have wN:=vp vZ;have Cb:=vp BX;have GJ:=vp hj.rel;clear wT wk vZ BX hj xG hv;unfold dp
  gi_wp2
  refine⟨by simp, .inl ⟨_,_,rfl,run_takeDeferred Cb.out,?_⟩⟩;have Cn:=az (l:=w2.heap.size+3) (o:= .deferred none) (W:=W2);have wj:=wN.out.set Cn (fun b e=> .inl (by omega));refine⟨.int .i64 0,by simp[results,Tryz.results26,go_sem], .inr ⟨rfl,rfl,A1,vR,p1,wj.home,wj.one,?_,(fun ad e=>by have h1:=wu.out.row ad.block (by rw[e];rfl);have h2:=xe.out.size;omega),GJ.out⟩⟩;have hA:Mod (fun b=>aw S c m b\/b=s) w w2:=((Mod.of xe.out).trans (Out.refl _ _) (CP.out)).sub fun b e=> .inr e;exact hA.trans (Out.refl _ _) (wj.mod.sub fun b e=> .inl e)
end
