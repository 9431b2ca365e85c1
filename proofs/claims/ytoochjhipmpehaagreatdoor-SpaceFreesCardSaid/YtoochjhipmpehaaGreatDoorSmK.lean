/- Spaces: what goes through the leaves of a stretch. Spaces: Unmap. -/
import Derived.Test.YtoochjhipmpehaaGreatDoorPcK
import Derived.Test.YtoochjhipmpehaaGreatDoorSaK
import Derived.Test.YtoochjhipmpehaaGreatDoorSpIK
set_option linter.unusedVariables false
set_option linter.unusedSimpArgs false
set_option maxRecDepth 100000
set_option maxHeartbeats 8000000
namespace Go.Proofs.YtoochjhipmpehaaGreatDoor
section
open Go.RowKit Go.Sort
attribute [local go_sem] Oper.semAt_some
theorem fA (P:Option Addr) (fr ot:Int) (w:World):Calls Tryz.prog 65 #[.pointer P, .int .u64 fr, .int .u64 ot] w fun e w'=>e= .returned (.func (.func 107) #[] #[.pointer (some ⟨w.heap.size,0,none⟩), .pointer (some ⟨w.heap.size+1,0,none⟩), .pointer (some ⟨w.heap.size+1+1,0,none⟩)])/\
  w'=((w.alloc (.cells #[.pointer P] 60)).alloc (.cells #[.int .u64 fr] 43)).alloc (.cells #[.int .u64 ot] 43):=by
 go_enter Tryz.func65,Tryz.ntmps65;go_wp2_with fail;go_ret;exact⟨rfl,rfl⟩
theorem sd (n:Nat) (hn:1<=n) (l b1 b2 b3 s t base:Nat) (fr ot:Int) (ps:List (Nat×Leaf)) (hlen:ps.length<=525312) (J:Option Addr->Nat->Nat->World->Prop) (W:World)
  (c1:W.cell? ⟨b1,0,none⟩=some (.pointer (some ⟨s,0,none⟩))) (c2:W.cell? ⟨s,2,none⟩=some (.pointer (some ⟨t,0,none⟩)))
  (UU:Calls Tryz.prog 34 #[.pointer (some ⟨t,0,none⟩)] W fun e W1=> ∃R cap,e= .returned (.slice R ps.length cap)/\J R cap 0 W1)
  (hJ: ∀R cap k W,J R cap k W->OwnP W base R cap ps/\W.cell? ⟨b2,0,none⟩=some (.int .u64 fr)/\W.cell? ⟨b3,0,none⟩=some (.int .u64 ot)/\b2<W.heap.size/\b3<W.heap.size)
  (hB: ∀R cap k W W',J R cap k W->Below W.heap.size W W'->J R cap k W')
  (He: ∀R cap k W x,J R cap k W->ps[k]? =some x->inSt fr ot x.1=false->J R cap (k+1) W)
  (hY: ∀R cap k W x,J R cap k W->ps[k]? =some x->inSt fr ot x.1=true->YieldAt Fence.wide (n-1) Tryz.prog l #[.agg #[.int .u64 ((x.1*4096:Nat):Int), .int .i64 (x.2.frame:Int), .int .u8 (x.2.prot:Int), .bool x.2.copy]] W fun e W'=>e= .returned (.bool true)/\J R cap (k+1) W'):
  CallsIn Fence.wide n Tryz.prog 107 #[.func (.yield l) #[] #[], .pointer (some ⟨b1,0,none⟩), .pointer (some ⟨b2,0,none⟩), .pointer (some ⟨b3,0,none⟩)] W fun e W'=>(∃v,e= .returned v)/\ ∃R cap,J R cap ps.length W':=by
 have As:Fence.wide.round=none:=rfl;refine callsIn_of_wp Tryz.func107 rfl trivial ?_ As;simp only[Tryz.ntmps107,List.size_toArray,uX,List.length_nil,Nat.reduceAdd,Nat.reduceSub,Array.replicate_succ,Array.replicate_zero,List.push_toArray,List.append_toArray,List.nil_append,List.cons_append];have Hb:=uK UU;have HJ:=uK hJ;have HB:=uK hB;have HSK:=uK He;have HY:=uK hY;clear UU hJ hB He hY;gi_wp2_with (first
  |(refine⟨trivial,?_⟩;refine(callsIn_wide.2 Hb.out).mono ?_;rintro e W1 ⟨R,cap,rfl,hJ1⟩;have VH:=uK hJ1;clear hJ1)
  |fail)
 gi_loopw [13] (fun i wr=> ∃k:Nat,i= .int .i64 (k:Int)/\k<=ps.length/\J R cap k wr) (fun i _ =>ps.length-(intOf i).toNat)
 case atStart=>exact⟨0,rfl,vg _,VH.out⟩
 case round=>
  obtain⟨k,rfl,hk,Ql⟩:=hrel;have HJK:=uK Ql;obtain⟨vH,d2,d3,wk,IE⟩:=HJ.out _ _ _ _ Ql;clear Ql;by_cases yz:k<ps.length
  ·obtain⟨⟨pg,y⟩,hx⟩: ∃y,ps[k]? =some y:=⟨ps[k],uQ yz⟩;rcases vH.form with⟨_,h2,_⟩|⟨g,rfl,yc,CO,DZ⟩
   ·rw[h2]at yz;exact absurd yz (Nat.not_lt_zero _)
   obtain⟨e0,e1,e2,e3⟩:=vH.elem hx;dsimp only at e0 e1 e2 e3;obtain⟨ad,zS⟩: ∃ad:Int,ad=((pg*4096:Nat):Int):=⟨_,rfl⟩;rw[<-zS]at e0;have HX:=uK hx;have zj:=uK vH;have FI:=uK zS;clear hx vH zS;gi_upto_region 3 with(fail);obtain⟨W2,wo⟩: ∃W2,W2=wr.alloc (.cells #[.int .u64 ad, .int .i64 (y.frame:Int), .int .u8 (y.prot:Int), .bool y.copy] 85):=⟨_,rfl⟩;rw[<-wo];have vs:Below wr.heap.size wr W2:=(by rw[wo];exact uM);have zE:W2.heap[wr.heap.size]? =some (.cells #[.int .u64 ad, .int .i64 (y.frame:Int), .int .u8 (y.prot:Int), .bool y.copy] 85 (0,0)):=(by rw[wo];exact ab wr _);have x0:W2.cell? ⟨wr.heap.size,0,none⟩=some (.int .u64 ad):=aa zE 0;have x1:W2.cell? ⟨wr.heap.size,1,none⟩=some (.int .i64 (y.frame:Int)):=aa zE 1;have x2:W2.cell? ⟨wr.heap.size,2,none⟩=some (.int .u8 (y.prot:Int)):=aa zE 2;have x3:W2.cell? ⟨wr.heap.size,3,none⟩=some (.bool y.copy):=aa zE 3;have f2:W2.cell? ⟨b2,0,none⟩=some (.int .u64 fr):=(vs.cell wk).trans d2;have f3:W2.cell? ⟨b3,0,none⟩=some (.int .u64 ot):=(vs.cell IE).trans d3;have Qm:=HB.out _ _ _ _ W2 HJK.out vs;have Oz:=uK Qm;clear wo vs zE d2 d3 e0 e1 e2 e3 Qm;by_cases h1:fr<=ad
   ·by_cases h2:ad<ot
    ·have Rh:=HY.out _ _ _ W2 (pg,y) Oz.out HX.out (fJ.2 ⟨by have:=FI.out;dsimp only;omega,by have:=FI.out;dsimp only;omega⟩);dsimp only at Rh;rw[<-FI.out]at Rh;obtain⟨fn,tmps,assign,body,hy,hR⟩:=Rh;have HR:=uK hR;clear hR
     gi_wp2
     refine HR.out.mono ?_;rintro e W3 ⟨rfl,IQ⟩;have Dl:=uK IQ;clear IQ
     gi_wp2
     go_roundw
     case rel=>exact⟨k+1,rfl,by omega,Dl.out⟩
     case measure=>(simp[intOf];omega)
    ·have IQ:=HSK.out _ _ _ _ (pg,y) Oz.out HX.out (by rw[Bool.eq_false_iff];intro h;have:=fJ.1 h;have:=FI.out;dsimp only at *;omega);have Dl:=uK IQ;clear IQ
     gi_wp2
     refine⟨(fun _ h=>by cases h),?_⟩
     gi_wp2
     go_roundw
     case rel=>exact⟨k+1,rfl,by omega,Dl.out⟩
     case measure=>(simp[intOf];omega)
   ·have IQ:=HSK.out _ _ _ _ (pg,y) Oz.out HX.out (by rw[Bool.eq_false_iff];intro h;have:=fJ.1 h;have:=FI.out;dsimp only at *;omega);have Dl:=uK IQ;clear IQ
    gi_wp2
    refine⟨(fun _ h=>by cases h),?_⟩
    gi_wp2
    go_roundw
    case rel=>exact⟨k+1,rfl,by omega,Dl.out⟩
    case measure=>(simp[intOf];omega)
  ·obtain rfl:k=ps.length:=by omega
   gi_wp2
   go_end0;exact⟨⟨_,rfl⟩,_,_,HJK.out⟩
structure km (W:World) (s kb:Nat) (fr ot:Int) (o:Obj):Prop where
 b1:W.heap[kb]? =some (.cells #[.pointer (some ⟨s,0,none⟩)] 60 (0,0))
 b2:W.heap[kb+1]? =some (.cells #[.int .u64 fr] 43 (0,0))
 b3:W.heap[kb+1+1]? =some (.cells #[.int .u64 ot] 43 (0,0))
 mark:W.heap[kb+3]? =some (.deferred (some []))
 loop:W.heap[kb+3+1]? =some o
variable {W W':World} {s kb:Nat} {fr ot:Int} {o:Obj}
theorem km.keep (h:km W s kb fr ot o) (hk: ∀b,kb<=b->b<kb+5->W'.heap[b]? =W.heap[b]?):km W' s kb fr ot o:=
 ⟨(hk _ (by omega) (by omega)).trans h.b1,(hk _ (by omega) (by omega)).trans h.b2,(hk _ (by omega) (by omega)).trans h.b3,(hk _ (by omega) (by omega)).trans h.mark,(hk _ (by omega) (by omega)).trans h.loop⟩
theorem km.lts (h:km W s kb fr ot o):kb+5<=W.heap.size:=by have:=(uJ h.loop).1;omega
def ThK (kb:Nat) (R:Option Addr):Nat->Prop:=fun b=>(kb<=b/\b<kb+5)\/R.map (·.block)=some b
structure ThJ (w2:World) (B c a fs m s t root:Nat) (A:Option Addr) (n cap:Nat) (rl:List Reg) (S:Nat->Prop) (F:List Nd) (clock:Int) (L:List Slot) (fr ot:Int) (ps:List (Nat×Leaf)) (o:Obj) (Rel:Nat->Pool->Prop) (R:Option Addr) (cp k:Nat) (W:World) (p':Pool):Prop where
 run:Run w2 W (av S c m) (ThK w2.heap.size R) B c a fs m s t root A n cap rl S S F clock p' L
 box:km W s w2.heap.size fr ot o
 row:OwnP W (w2.heap.size+5) R cp ps
 rel:Rel k p'
variable {A:Option Addr} {cap:Nat}
theorem OwnP.blk {w:World} {base:Nat} {l:List (Nat×Leaf)} (h:OwnP w base A cap l): ∀g,A.map (·.block)=some g->base<=g/\g<w.heap.size:=fun g e=>by
 rcases h.form with⟨h2,_⟩|⟨g',h1,h2,h3,_⟩
 ·rw[h2]at e;cases e
 ·rw[h1]at e;simp at e;subst e;exact⟨h2,h3⟩
theorem ThJ.below {w2:World} {B c a fs m t root:Nat} {n:Nat} {rl:List Reg} {S:Nat->Prop} {F:List Nd} {clock:Int} {L:List Slot} {ps:List (Nat×Leaf)} {Rel:Nat->Pool->Prop} {R:Option Addr} {cp k:Nat} {p':Pool} (h:ThJ w2 B c a fs m s t root A n cap rl S F clock L fr ot ps o Rel R cp k W p') (hb:Below W.heap.size W W'):
  ThJ w2 B c a fs m s t root A n cap rl S F clock L fr ot ps o Rel R cp k W' p':=
 ⟨(h.run.below hb).sub fun _ e=> .inl e,h.box.keep fun b h1 h2=>hb.block b (by have:=h.box.lts;omega),h.row.kept hb,h.rel⟩
theorem pG (n':Nat) (hn:1<=n') (B c a fs m s t root:Nat) (A:Option Addr) (n cap:Nat) (rl:List Reg) (S:Nat->Prop) (F:List Nd) (clock:Int) (p:Pool) (L:List Slot) (T:Tab) (hold:Nat->Nat) (fr ot:Int) (o:Obj) (Rel:Nat->Pool->Prop) (w2 w3:World)
  (hH:Home w2 B c a fs m S F clock p L) (hO:One w2 B c a m S s t root A n cap rl) (yw:Sp F hold p L T) (hr:T.nd 4 0=some root)
  (wX:w3=((w2.alloc (.cells #[.pointer (some ⟨s,0,none⟩)] 60)).alloc (.cells #[.int .u64 fr] 43)).alloc (.cells #[.int .u64 ot] 43))
  (h0:Rel 0 p) (He: ∀k p' x,Rel k p'->T.puts[k]? =some x->inSt fr ot x.1=false->Rel (k+1) p')
  (hY: ∀R cp k W x p',ThJ w2 B c a fs m s t root A n cap rl S F clock L fr ot T.puts o Rel R cp k W p'->T.puts[k]? =some x->inSt fr ot x.1=true->YieldAt Fence.wide (n'-1) Tryz.prog (w2.heap.size+3+1) #[.agg #[.int .u64 ((x.1*4096:Nat):Int), .int .i64 (x.2.frame:Int), .int .u8 (x.2.prot:Int), .bool x.2.copy]] W fun e W'=>e= .returned (.bool true)/\ ∃p'',ThJ w2 B c a fs m s t root A n cap rl S F clock L fr ot T.puts o Rel R cp (k+1) W' p''):
  CallsIn Fence.wide n' Tryz.prog 107 #[.func (.yield (w2.heap.size+3+1)) #[] #[], .pointer (some ⟨w2.heap.size,0,none⟩), .pointer (some ⟨w2.heap.size+1,0,none⟩), .pointer (some ⟨w2.heap.size+1+1,0,none⟩)] ((w3.alloc (.deferred (some []))).alloc o) fun e W'=>(∃v,e= .returned v)/\ ∃R cp p',ThJ w2 B c a fs m s t root A n cap rl S F clock L fr ot T.puts o Rel R cp T.puts.length W' p':=by
 have vx:Below w2.heap.size w2 w3:=(by rw[wX];exact(uM.alloc (by simp) _).alloc (by simp;omega) _);have xI:w3.heap.size=w2.heap.size+3:=(by rw[wX];simp);have vN:Below w2.heap.size w2 ((w3.alloc (.deferred (some []))).alloc o):=(vx.alloc (by omega) _).alloc (by simp;omega) _;have AU:((w3.alloc (.deferred (some []))).alloc o).heap.size=w2.heap.size+5:=(by simp[xI]);have e1:w3.heap[w2.heap.size]? =some (.cells #[.pointer (some ⟨s,0,none⟩)] 60 (0,0)):=by
  rw[wX];exact(uO _ _ _ (by simp;omega)).trans ((uO _ _ _ (by simp)).trans (ab w2 _))
 have e2:w3.heap[w2.heap.size+1]? =some (.cells #[.int .u64 fr] 43 (0,0)):=by
  rw[wX];have:=ab (w2.alloc (.cells #[.pointer (some ⟨s,0,none⟩)] 60)) (.cells #[.int .u64 fr] 43);rw[World.size_alloc]at this;exact(uO _ _ _ (by simp)).trans this
 have e3:w3.heap[w2.heap.size+1+1]? =some (.cells #[.int .u64 ot] 43 (0,0)):=by
  rw[wX];have:=ab ((w2.alloc (.cells #[.pointer (some ⟨s,0,none⟩)] 60)).alloc (.cells #[.int .u64 fr] 43)) (.cells #[.int .u64 ot] 43)
  rwa [World.size_alloc,World.size_alloc]at this
 have yN:km ((w3.alloc (.deferred (some []))).alloc o) s w2.heap.size fr ot o:=by
  refine⟨(cf (by omega)).trans e1,(cf (by omega)).trans e2,(cf (by omega)).trans e3,?_,?_⟩
  ·have:=ab w3 (.deferred (some []));rw[xI]at this;exact(uO _ _ _ (by simp[xI])).trans this
  ·have:=ab (w3.alloc (.deferred (some []))) o
   rwa [World.size_alloc,xI]at this
 have xq:Run w2 ((w3.alloc (.deferred (some []))).alloc o) (av S c m) (ThK w2.heap.size none) B c a fs m s t root A n cap rl S S F clock p L:=((Run.start hH hO (fun _ e=>e)).below vN).sub (fun b e=>by
  rcases e with e|e
  ·exact .inr ⟨e.1,by omega⟩
  ·cases e)
 have wY:=pH t c a root ((w3.alloc (.deferred (some []))).alloc o) S p T (held L hold) 0 xq.home.cache.pool xq.one.tab yw.good hr;refine(sd n' hn (w2.heap.size+3+1) w2.heap.size (w2.heap.size+1) (w2.heap.size+1+1) s t (w2.heap.size+5) fr ot T.puts ?_ (fun R cp k W=> ∃p',ThJ w2 B c a fs m s t root A n cap rl S F clock L fr ot T.puts o Rel R cp k W p') _ (aa yN.b1 0) (aa xq.one.self 2) (wY.mono ?_) ?_ ?_ ?_ ?_).mono ?_
 ·refine vh (cP (fun e=>?_) _) yw.good.ok.short;cases e<;>simp[Ev.ls]
 ·rintro e W1 ⟨R,cp,rfl,vV,hb⟩;rw[AU]at vV;refine⟨R,cp,rfl,p,(xq.below hb).sub (fun b e=>?_),yN.keep fun b h1 h2=>hb.block b (by omega),vV,h0⟩;rcases e with e|e
  ·exact .inl (.inl e)
  ·have:=vV.blk b e;exact .inr ⟨by omega,this.2⟩
 ·rintro R cp k W ⟨p',hj⟩;have:=hj.box.lts;exact⟨hj.row,aa hj.box.b2 0,aa hj.box.b3 0,by omega,by omega⟩
 ·rintro R cp k W W' ⟨p',hj⟩ hb;exact⟨p',hj.below hb⟩
 ·rintro R cp k W x ⟨p',hj⟩ hx wz;exact⟨p',hj.run,hj.box,hj.row,He k p' x hj.rel hx wz⟩
 ·rintro R cp k W x ⟨p',hj⟩ hx wz;exact hY R cp k W x p' hj hx wz
 ·rintro e W ⟨hv,R,cp,p',hj⟩;exact⟨hv,R,cp,p',hj⟩
end
section
open Go.RowKit Go.Sort
attribute [local go_sem] Oper.semAt_some
def jg (w:World) (B c a fs m s t root:Nat) (S:Nat->Prop) (F:List Nd) (clock:Int) (L:List Slot) (res:List Reg) (No:Int->Prop) (Rel:Pool->Prop) (e:Ending) (w':World):Prop:=
 (∃er,e= .returned (.int .i64 er)/\er≠0/\No er/\Below w.heap.size w w')\/
 (e= .returned (.int .i64 0)/\No 0/\ ∃A' vk p',Home w' B c a fs m S F clock p' L/\One w' B c a m S s t root A' res.length vk res/\Mod (fun b=>av S c m b\/b=s) w w'/\(∀ad,A'=some ad->w.heap.size<=ad.block)/\Rel p')
theorem One.laid {w w1:World} {B c a fs m s t root n cap base vn:Nat} {A A1:Option Addr} {rl l2:List Reg} {S:Nat->Prop} {F:List Nd} {clock:Int} {p:Pool} {L:List Slot} (hH:Home w B c a fs m S F clock p L) (hO:One w B c a m S s t root A n cap rl) (hb:Below w.heap.size w w1) (ho:OwnR w1 base A1 vn l2) (vK:w.heap.size<=base) (hf:l2.length<=1000000):
  Home (w1.setCell ⟨s,3,none⟩ (.slice A1 l2.length vn)) B c a fs m S F clock p L/\One (w1.setCell ⟨s,3,none⟩ (.slice A1 l2.length vn)) B c a m S s t root A1 l2.length vn l2/\Mod (fun b=>b=s) w (w1.setCell ⟨s,3,none⟩ (.slice A1 l2.length vn))/\w1.heap.size=(w1.setCell ⟨s,3,none⟩ (.slice A1 l2.length vn)).heap.size:=by
 have UB:=hH.below hb;have wO:=hO.below hb;obtain⟨l1,l3,xL⟩:=wO.lts;obtain⟨k1,k2,_⟩:=hO.lts;have hm:Mod (fun b=>b=s) w1 (w1.setCell ⟨s,3,none⟩ (.slice A1 l2.length vn)):=al (S:=fun b=>b=s) rfl 3 _;have vV:=ho.row;have hz:=hb.size;have hl:=hH.lts;have hB:=hH.base;refine⟨UB.mod hm (fun b e=>by subst e;exact⟨wO.noS.1,wO.noS.2.2.1,wO.noS.2.1,wO.noS.2.2.2⟩),⟨?_,(hm.block t l3 (fun e=>xL e.symm)).trans wO.tab,?_,wO.noS,wO.noT,fun ad e=>?_⟩,(Mod.of hb).trans (Out.refl _ _) hm,by simp⟩
 ·have h9:=Joins.block_setCell (i:=3) wO.self (.slice A1 l2.length vn);simpa [dC]using h9
 ·refine(ho.rsl hf).mod hm (fun ad e e2=>?_);have:=vV ad.block (by rw[e];rfl);omega
 ·have h9:=vV ad.block (by rw[e];rfl);refine⟨fun e=>by have:=hl.2.2 _ e;omega,by omega,by omega,by omega,by omega,by omega,by simpa using h9.2⟩
theorem qx (B c a fs m s t root n cap:Nat) (fr ot:Int) (A:Option Addr) (rl:List Reg) (clock:Int) (w:World) (S:Nat->Prop) (F:List Nd) (p:Pool) (L:List Slot) (T:Tab) (hold:Nat->Nat)
  (hH:Home w B c a fs m S F clock p L) (hO:One w B c a m S s t root A n cap rl) (yw:Sp F hold p L T) (hr:T.nd 4 0=some root) (wM:dG rl) (h0:0<=fr) (h1:fr<=18446744073709551615) (h2:0<=ot) (h3:ot<=18446744073709551615) (vA:(Rg.cut rl fr ot).1.length<=1000000) (BY:(Rg.cut rl fr ot).2=0->ot<=140737488355328):
  Calls Tryz.prog 26 #[.pointer (some ⟨s,0,none⟩), .int .u64 fr, .int .u64 ot] w (jg w B c a fs m s t root S F clock L (Rg.cut rl fr ot).1 (fun er=>er=(Rg.cut rl fr ot).2) (fun p'=> ∃T',cG F hold fr ot p L T T.puts.length p' T')):=by
 refine(callsIn_wide (n:=9)).1 ?_;refine callsIn_of_wp_marks Tryz.func26 rfl trivial ?_;simp only[Tryz.ntmps26,List.size_toArray,uX,List.length_nil,Nat.reduceAdd,Nat.reduceSub,Array.replicate_succ,Array.replicate_zero,List.push_toArray,List.append_toArray,List.nil_append,List.cons_append];obtain⟨w0,vo⟩: ∃w0,w0=w.alloc (.cells #[.pointer (some ⟨s,0,none⟩)] 60):=⟨_,rfl⟩;have wb:w0.heap.size=w.heap.size+1:=(by rw[vo];simp);have vp:Below w.heap.size w w0:=(by rw[vo];exact uM);have zZ:w0.heap[w.heap.size]? =some (.cells #[.pointer (some ⟨s,0,none⟩)] 60 (0,0)):=(by rw[vo];exact ab w _);have AP:=hO.below vp;have EC:=hH.below vp;have xQ:=eI s c a t n cap A w0 AP.self;have hcut:=cut_any A n cap fr ot w0 rl AP.row wM h0 h1 h2 h3;have s0:w0.cell? ⟨w.heap.size,0,none⟩=some (.pointer (some ⟨s,0,none⟩)):=aa zZ 0;have s3:w0.cell? ⟨s,3,none⟩=some (.slice A n cap):=aa AP.self 3;obtain⟨l2,wk⟩: ∃l2,l2=(Rg.cut rl fr ot).1:=⟨_,rfl⟩;obtain⟨e2,Hu⟩: ∃e2,e2=(Rg.cut rl fr ot).2:=⟨_,rfl⟩;unfold ji at hcut;rw[<-wk,<-Hu]at hcut;rw[<-wk,<-Hu];rw[<-wk]at vA;rw[<-Hu]at BY;have wG:=uK xQ;have Aq:=uK hcut;have vR:=uK vo;have CR:=uK wb;have wI:=uK vp;have zG:=uK zZ;have FU:=uK AP;have Jq:=uK EC;have yQ:=uK yw;have HR:=uK hr;have Nm:=hO.lts.1;have Lj:=uK (show¬S w.heap.size from fun e=>by have:=hH.lts.2.2 _ e;omega);have Mu:c<w.heap.size/\m<w.heap.size:=⟨hH.lts.1,hH.lts.2.1⟩;clear xQ hcut vo wb vp zZ AP EC hH hO yw hr wk Hu;gi_upto_region 4 with(first
  |(refine⟨trivial,?_⟩;rw[<-vR.out];refine(callsIn_wide.2 wG.out).mono ?_;rintro e w1 ⟨rfl,rfl⟩)
  |(refine⟨trivial,?_⟩;refine(callsIn_wide.2 Aq.out).mono ?_;rintro e w1 ⟨A1,vn,rfl,vQ,vl⟩)
  |fail)
 have vu:=uK vl;have vF:=uK vQ;clear vl vQ s0 s3;by_cases vD:e2=0
 rotate_left
 ·have vB:(e2 != 0)=true:=(by rw[bne_iff_ne];exact vD);have wi:=uK vD;clear vD
  gi_wp2
  refine⟨.int .i64 e2,by simp[results,Tryz.results26,go_sem], .inl ⟨e2,rfl,wi.out,rfl,wI.out.trans (vu.out.mono wI.out.size)⟩⟩
 subst vD;have SL:=BY rfl;clear BY;obtain⟨w2,we⟩: ∃w2,w2=w1.setCell ⟨s,3,none⟩ (.slice A1 l2.length vn):=⟨_,rfl⟩;obtain⟨EB,Ac,vE,vS⟩:=One.laid Jq.out FU.out vu.out vF.out (uN _) vA;rw[<-we]at EB Ac vE vS;have wO:=FU.out.below vu.out;have BD:=(vu.out.block _ (uJ zG.out).1).trans zG.out;have Bu:=(vE.block _ (uJ zG.out).1 (by omega)).trans zG.out;have s0:w1.cell? ⟨w.heap.size,0,none⟩=some (.pointer (some ⟨s,0,none⟩)):=aa BD 0;have s3:w1.cell? ⟨s,3,none⟩=some (.slice A n cap):=aa wO.self 3;have sf3:=ae wO.self 3;have t0:w2.cell? ⟨w.heap.size,0,none⟩=some (.pointer (some ⟨s,0,none⟩)):=aa Bu 0;have Di:=uK we;have Lo:=uK EB;have CF:=uK Ac;have FC:=uK vE;have IW:=uK Bu;have FY:w.heap.size<w2.heap.size:=(uJ Bu).1;clear we EB Ac vE wO BD Bu vS;gi_upto_region 7 with(fail);rw[<-Di.out];gi_wp2_with (first
  |(refine⟨trivial,?_⟩;refine(callsIn_wide.2 (fA _ _ _ w2)).mono ?_;rintro e w3 ⟨rfl,wX⟩;have Cy:=uK wX;clear wX)
  |fail)
 have xI:w3.heap.size=w2.heap.size+3:=(by rw[Cy.out];simp);refine bP rfl (by omega) (gf:=107) (lb:= #[.pointer (some ⟨w2.heap.size,0,none⟩), .pointer (some ⟨w2.heap.size+1,0,none⟩), .pointer (some ⟨w2.heap.size+1+1,0,none⟩)]) rfl trivial (enters_of Tryz.func107 (by kernel_rfl) rfl) ?_;rw[xI];intro fn Dy rec xx;refine(pG (9-1) (by omega) B c a fs m s t root A1 l2.length vn l2 S F clock p L T hold fr ot (.loop (rec .ready none)) (fun k p'=> ∃T',cG F hold fr ot p L T k p' T') w2 w3 Lo.out CF.out yQ.out HR.out Cy.out ⟨T,cG.start yQ.out⟩ (fun k p' x ⟨T',h⟩ hx wz=>⟨T',h.skip hx wz⟩) ?_).mono ?_
 ·rintro R cp k W ⟨pg,fq,pr,cb⟩ p1 hj hx wz;dsimp only at wz;refine bB trivial xx hj.box.loop rfl ?_;obtain⟨ad,zS⟩: ∃ad:Int,ad=((pg*4096:Nat):Int):=⟨_,rfl⟩;dsimp only;rw[<-zS];obtain⟨T1,wE⟩:=hj.rel;have HX:=uK hx;have xU:=uK wz;have HJ:=uK hj;have FI:=uK zS;have xR:=uK wE;clear hx wz hj xx zS wE
  gi_wp2
  obtain⟨W1,Av⟩: ∃W1,W1=W.alloc (.cells #[.int .u64 ad, .int .i64 (fq:Int), .int .u8 (pr:Int), .bool cb] 85):=⟨_,rfl⟩;rw[<-Av];have vl:Below W.heap.size W W1:=(by rw[Av];exact uM);have yh:W1.heap[W.heap.size]? =some (.cells #[.int .u64 ad, .int .i64 (fq:Int), .int .u8 (pr:Int), .bool cb] 85 (0,0)):=(by rw[Av];exact ab W _);have wS:=HJ.out.below vl;refine⟨wS.box.loop,?_⟩;obtain⟨W2,wo⟩: ∃W2,W2=W1.putObj (w2.heap.size+3+1) (.loop (rec .busy none)):=⟨_,rfl⟩;rw[<-wo];have vE:Mod (fun b=>b=w2.heap.size+3+1) W1 W2:=(by rw[wo];exact az);have xn:=wS.box.loop;have Yb:=HJ.out.box.lts;have wk:W2.heap[w2.heap.size+3+1]? =some (.loop (rec .busy none)):=(by rw[wo];exact World.putObj_heap_same (uJ xn).1);have vw:=wS.run.set vE (fun b e=> .inl (by omega));have wV:km W2 s w2.heap.size fr ot (.loop (rec .busy none)):=⟨(vE.block _ (uJ wS.box.b1).1 (by omega)).trans wS.box.b1,(vE.block _ (uJ wS.box.b2).1 (by omega)).trans wS.box.b2,(vE.block _ (uJ wS.box.b3).1 (by omega)).trans wS.box.b3,(vE.block _ (uJ wS.box.mark).1 (by omega)).trans wS.box.mark,wk⟩;have xF:OwnP W2 (w2.heap.size+5) R cp T.puts:=wS.row.same fun g hg=>by
   have h9:=wS.row.blk g (by rw[hg];rfl);exact vE.block g h9.2 (by omega)
  have zE:=(vE.block _ (uJ yh).1 (by omega)).trans yh;have zA:=Lo.out.lts;have Gx:W2.heap[w.heap.size]? =w2.heap[w.heap.size]? :=vw.mod.block w.heap.size FY (fun e=>e.elim (fun e=>Lj.out e) (fun e=>by omega));have c0:W2.cell? ⟨w.heap.size,0,none⟩=some (.pointer (some ⟨s,0,none⟩)):=aa (Gx.trans IW.out) 0;have s2:W2.cell? ⟨s,2,none⟩=some (.pointer (some ⟨t,0,none⟩)):=aa vw.one.self 2;have x0:W2.cell? ⟨W.heap.size,0,none⟩=some (.int .u64 ad):=aa zE 0;have wB:T1.nd 4 0=some root:=xR.out.top.trans HR.out;have Hc:=ib t c a root ad W2.drew S p1 T1 (held L hold) 0 vw.home.cache.pool.drew vw.one.tab vw.one.noT.1 xR.out.sp.good wB (by have:=FI.out;omega);have MH:=uK Hc;have vZ:=uK vw;have xT:=uK wV;have CB:=uK xF;have Te:Tryz.prog.follows .mixedOrders=true:=(by kernel_rfl);clear Hc vw wV xF Av wo vl yh zE vE xn wk wS Gx wB;gi_upto_region 9 with(fail);refine bU (fun w'=>w'.cell? ⟨w.heap.size,0,none⟩=some (.pointer (some ⟨s,0,none⟩))/\w'.cell? ⟨s,2,none⟩=some (.pointer (some ⟨t,0,none⟩))/\w'.cell? ⟨W.heap.size,0,none⟩=some (.int .u64 ad)) 6 (by kernel_rfl) (by kernel_rfl) (cY.of 5 (by kernel_rfl) (by kernel_rfl)) ⟨c0,s2,x0⟩ ?_;intro QI BO;refine zt 0 ?_;refine zt 1 ?_;refine zt 2 ?_;refine zt 3 ?_;refine zt 4 ?_;refine zt 5 ?_;refine bg 6 (by kernel_rfl) rfl rfl (fun K' hK=>?_)
  go_simp
  refine(MH.out).mono ?_;rintro e W6 ⟨er,p6,T6,rfl,Df,EY,JB⟩;have zN:=EY.undrew;obtain⟨xz,BJ⟩:=vZ.out.pool Df zN;go_wp2_with fail;refine hK.out _ _ ?_;clear hK K';refine bj (by kernel_rfl) ?_ _;refine aV ?_;have wh:=xT.out.keep (W':=W6) (fun b h1 h2=>BJ b (.inl ⟨h1,h2⟩));have zq:OwnP W6 (w2.heap.size+5) R cp T.puts:=CB.out.same fun g hg=>BJ g (.inr (by rw[hg];rfl));have xj:=az (l:=w2.heap.size+3+1) (o:= .loop (rec .ready none)) (W:=W6);have yV:=wh.loop;have Bp: ∀ {b:Nat} {o:Obj},W6.heap[b]? =some o->b≠w2.heap.size+3+1->(W6.putObj (w2.heap.size+3+1) (.loop (rec .ready none))).heap[b]? =some o:=fun h1 h2=>(xj.block _ (uJ h1).1 h2).trans h1;refine⟨yV,rfl,p6,xz.set xj (fun b e=> .inl (by omega)),⟨Bp wh.b1 (by omega),Bp wh.b2 (by omega),Bp wh.b3 (by omega),Bp wh.mark (by omega),World.putObj_heap_same (uJ yV).1⟩,zq.same fun g hg=>?_,T6,xR.out.step HX.out xU.out SL (by rw[FI.out];dsimp only;omega) JB⟩;have h9:=zq.blk g (by rw[hg];rfl);exact xj.block g h9.2 (by omega)
 ·rintro e W ⟨hv,R,cp,p1,hj⟩;refine⟨hv, .inl ⟨hj.box.loop,?_⟩⟩;obtain⟨W2,wo⟩: ∃W2,W2=W.putObj (w2.heap.size+3+1) (.loop (rec .exhausted none)):=⟨_,rfl⟩;rw[<-wo];have vE:Mod (fun b=>b=w2.heap.size+3+1) W W2:=(by rw[wo];exact az);have vw:=hj.run.set vE (fun b e=> .inl (by omega));have BL:=(vE.block _ (uJ hj.box.mark).1 (by omega)).trans hj.box.mark;have vZ:=uK vw;have BP:=uK BL;have GJ:=uK hj.rel;clear wo vE vw BL hj xx hv;unfold dv
  gi_wp2
  refine⟨by simp, .inl ⟨_,_,rfl,run_takeDeferred BP.out,?_⟩⟩;have Ca:=az (l:=w2.heap.size+3) (o:= .deferred none) (W:=W2);have vC:=vZ.out.set Ca (fun b e=> .inl (by omega));refine⟨.int .i64 0,by simp[results,Tryz.results26,go_sem], .inr ⟨rfl,rfl,A1,vn,p1,vC.home,vC.one,?_,(fun ad e=>by have h1:=vF.out.row ad.block (by rw[e];rfl);have h2:=wI.out.size;omega),GJ.out⟩⟩;have hA:Mod (fun b=>av S c m b\/b=s) w w2:=((Mod.of wI.out).trans (Out.refl _ _) (FC.out)).sub fun b e=> .inr e;exact hA.trans (Out.refl _ _) (vC.mod.sub fun b e=> .inl e)
end
