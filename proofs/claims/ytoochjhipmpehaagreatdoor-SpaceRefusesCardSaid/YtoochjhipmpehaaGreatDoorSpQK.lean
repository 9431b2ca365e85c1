/- Spaces: Fork. -/
import Derived.Test.YtoochjhipmpehaaGreatDoorPcK
import Derived.Test.YtoochjhipmpehaaGreatDoorSaK
import Derived.Test.YtoochjhipmpehaaGreatDoorSpOK
set_option linter.unusedVariables false
set_option linter.unusedSimpArgs false
set_option maxRecDepth 100000
set_option maxHeartbeats 8000000
namespace Go.Proofs.YtoochjhipmpehaaGreatDoor
section
open Go.RowKit Go.Sort
section
variable {w W W':World} {G K:Nat->Prop} {B c a fs m s t root:Nat} {A:Option Addr} {n cap:Nat} {rl:List Reg} {S0 S S':Nat->Prop} {F:List Nd} {clock vi:Int} {p p':Pool} {L L':List Slot}
theorem Run.add (h:Run w W G K B c a fs m s t root A n cap rl S0 S F clock p L) {K':Nat->Prop} (hA: ∀ad,A=some ad->ad.block<w.heap.size) (hK: ∀b,K' b->K b\/(¬S b/\w.heap.size<=b/\b<W.heap.size)):Run w W G K' B c a fs m s t root A n cap rl S0 S F clock p L:=
 ⟨h.home,h.one,h.mod,h.out,h.foot,h.low,fun b hb=>(hK b hb).elim (h.own b) id,fun ad e x=>(hK _ x).elim (h.row ad e) (fun y=>by have:=hA ad e;omega)⟩
end
structure qh (F:List Nd) (hold:Nat->Nat) (p:Pool) (L:List Slot) (T:Tab) (p':Pool) (L':List Slot):Prop where
 sp:Sp F hold p' L' T
 far: ∀E,Far hold T E p p'
 dat: ∀x,0<ah T x->p'.dat x=p.dat x
 own:Own p T->Own p' T
 full:Full hold p T\/ ∃k p1 L1 T2,bw F hold p L T k p1 L1 T2/\Full (fun x=>hold x+tn T x) p1 T2
def ForkPost (w:World) (B c a fs m s t root:Nat) (A:Option Addr) (n cap:Nat) (rl:List Reg) (S:Nat->Prop) (F:List Nd) (clock:Int) (p:Pool) (L:List Slot) (T:Tab) (hold:Nat->Nat) (e:Ending) (w':World):Prop:=
 (∃p' L' S',e= .returned (.tuple #[.pointer none, .int .i64 4])/\Home w' B c a fs m S' F clock p' L'/\One w' B c a m S' s t root A n cap rl/\Mod (av S c m) w w'/\Out S S' w/\qh F hold p L T p' L')\/
 (∃s2 t2 f p' L' T' T2 S' A' vh,e= .returned (.tuple #[.pointer (some ⟨s2,0,none⟩), .int .i64 0])/\Home w' B c a fs m S' F clock p' L'/\One w' B c a m S' s t root A n cap rl/\One w' B c a m S' s2 t2 f A' n vh rl/\T2.nd 4 0=some f/\w.heap.size<=s2/\w.heap.size<=t2/\(∀ad,A'=some ad->w.heap.size<=ad.block)/\Mod (av S c m) w w'/\Out S S' w/\gU F hold p L T p' L' T' T2)
structure FkJ (w:World) (bs:Nat) (B c a fs m s t root:Nat) (A:Option Addr) (n cap:Nat) (rl:List Reg) (S:Nat->Prop) (F:List Nd) (clock:Int) (p:Pool) (L:List Slot) (T:Tab) (hold:Nat->Nat) (t2 f:Nat) (R:Option Addr) (cp k:Nat) (W:World) (S':Nat->Prop) (p':Pool) (L':List Slot) (T2:Tab):Prop where
 run:Run w W (av S c m) (fun b=>b=t2\/R.map (·.block)=some b) B c a fs m s t root A n cap rl S S' F clock p' L'
 tab:am W t2 c a f
 row:OwnP W bs R cp T.puts
 fk:bw F hold p L T k p' L' T2
 nd:T2.nd 4 0=some f
structure FkT (w:World) (bs:Nat) (B c a fs m s t root:Nat) (A:Option Addr) (n cap:Nat) (rl:List Reg) (S:Nat->Prop) (F:List Nd) (clock:Int) (p1:Pool) (L1:List Slot) (T:Tab) (hold:Nat->Nat) (t2 f:Nat) (R:Option Addr) (cp k:Nat) (W:World) (S':Nat->Prop) (T2:Tab) (p':Pool) (T':Tab):Prop where
 run:Run w W (av S c m) (fun b=>b=t2\/R.map (·.block)=some b) B c a fs m s t root A n cap rl S S' F clock p' L1
 tab:am W t2 c a f
 row:OwnP W bs R cp T.puts
 tr:bH F (fun x=>hold x+tn T2 x) cpy 0 18446744073709551615 p1 L1 T k p' T'
variable {W W':World} {c a t2:Nat}
theorem Run.keepRow {R:Option Addr} {bs cp:Nat} {ps:List (Nat×Leaf)} {f:Nat} (ht:am W t2 c a f) (hr:OwnP W bs R cp ps) (hk: ∀b,(b=t2\/R.map (·.block)=some b)->W'.heap[b]? =W.heap[b]?):am W' t2 c a f/\OwnP W' bs R cp ps:=
 ⟨(hk t2 (.inl rfl)).trans ht,hr.same fun g hg=>hk g (.inr (by rw[hg];rfl))⟩
variable {w:World} {cap:Nat} {A:Option Addr} {F:List Nd} {p p':Pool} {L:List Slot}
theorem Run.freed {K:Nat->Prop} {B fs m s t root n:Nat} {rl:List Reg} {S0 S:Nat->Prop} {clock:Int} (h:Run w W (av S0 c m) K B c a fs m s t root A n cap rl S0 S F clock p L) (hC:ar W' S c a fs m clock p' L) (hm:Mod (fun b=>S b\/b=t2) W W') (DG:w.heap.size<=t2) (hA: ∀ad,A=some ad->ad.block<w.heap.size):
  Home W' B c a fs m S F clock p' L/\One W' B c a m S s t root A n cap rl/\Mod (av S0 c m) w W':=by
 obtain⟨l1,l2,l3,l4,l5⟩:=h.low;have hz:=h.mod.size;have vO:=hm.size;have hB:=h.home.base;have MS:=h.home.lows;obtain⟨w1,B1,nb,c2,ad,mp,f1,f2,f3⟩:=h.home.files;have wK:=h.one;refine⟨⟨hC,⟨w1,B1,nb,c2,ad,mp,f1,f2,f3.trans (hm.below (fun b hb=>hb.elim (h.home.low b) (fun e=>by omega)) hB)⟩,h.home.bytes,h.home.low,MS⟩,⟨(hm.block s wK.lts.1 (fun e=>e.elim wK.noS.1 (fun e=>by omega))).trans wK.self,(hm.block t wK.lts.2.1 (fun e=>e.elim wK.noT.1 (fun e=>by omega))).trans wK.tab,wK.row.mod hm (fun ad e e2=>e2.elim (wK.noR ad e).1 (fun e2=>by have:=hA ad e;omega)),wK.noS,wK.noT,fun ad e=>by
  obtain⟨n1,n2,n3,n4,n5,n6,n7⟩:=wK.noR ad e;exact⟨n1,n2,n3,n4,n5,n6,by omega⟩⟩,?_⟩
 exact((h.mod.sub (T:=fun b=>av S0 c m b\/w.heap.size<=b) fun b e=> .inl e).trans (Out.refl _ _) (hm.sub fun b e=>by
  rcases e with e|e
  ·exact(h.out b e).imp (fun e=> .inl e) id
  ·exact .inr (by omega))).own fun b e=>e
theorem OwnP.blk2 {base:Nat} {l:List (Nat×Leaf)} (h:OwnP w base A cap l): ∀g,A.map (·.block)=some g->base<=g/\g<w.heap.size:=fun g e=>by
 rcases h.form with⟨h2,_⟩|⟨g',h1,h2,h3,_⟩
 ·rw[h2]at e;cases e
 ·rw[h1]at e;simp at e;subst e;exact⟨h2,h3⟩
variable {hold:Nat->Nat} {T:Tab}
theorem Tab.Good.puts_few (h:Sp F hold p L T):T.puts.length<=525312:=by
 refine ve (cG (fun e=>?_) _) h.good.ok.short;cases e<;>simp[Ev.ls]
theorem bw.tnle {L':List Slot} {T2:Tab} {k:Nat} (h0:Sp F hold p L T) (h:bw F hold p L T k p' L' T2) (x:Nat):tn T2 x<=525314:=by
 have h1:ah T2 x<=525312:=by
  rw[<-h.two.good.ok.leaves_cnt x];exact ve List.countP_le_length (Tab.Good.puts_few h.two)
 have h4:ay T2 x<=1:=by
  by_cases e:an T2 x
  ·rw[ao e];exact uK _
  ·rw[aD e];exact vd _
 unfold tn;omega
theorem sr (B c a fs m s t root n cap:Nat) (A:Option Addr) (rl:List Reg) (clock:Int) (w:World) (S:Nat->Prop) (F:List Nd) (p:Pool) (L:List Slot) (T:Tab) (hold:Nat->Nat)
  (hH:Home w B c a fs m S F clock p L) (hO:One w B c a m S s t root A n cap rl) (xM:Sp F hold p L T) (hr:T.nd 4 0=some root) (wB: ∀f,hold f<=100000000000) (vK: ∀g l,T.lf g=some l->g<34359738368) (Lp:n<900000):
  Calls Tryz.prog 32 #[.pointer (some ⟨s,0,none⟩)] w (ForkPost w B c a fs m s t root A n cap rl S F clock p L T hold):=by
 have xn:=cT s c a t n cap A w hO.self;have hnew:=px c a fs m clock w S p L hH.cache;have wX:=Run.start hH hO (fun _ e=>e);have hAw: ∀ad,A=some ad->ad.block<w.heap.size:=fun ad e=>(hO.noR ad e).2.2.2.2.2.2;have s0:w.cell? ⟨s,0,none⟩=some (.pointer (some ⟨c,0,none⟩)):=aa hO.self 0;have wi:=uH xn;have xS:=uH hnew;have UR:=uH wX;have yc:=uH xM;have HR:=uH hr;have HH:=uH hH;have HO:=uH hO;have SJ:=hH.lts.2.1;have Wl:=hH.lts.1;have Bg:=hH.base;have wR:=hH.lows.2.2;clear xn hnew wX xM hr hH hO;go_enter Tryz.func32,Tryz.ntmps32;go_wp2_with (first
  |(go_at_call 56;refine(wi.out).mono ?_;rintro e w1 ⟨rfl,rfl⟩)
  |fail)
 refine(xS.out).mono ?_;rintro e w1 (⟨f,p1,L1,S1,t2,rfl,Gz,zS,xj,vL,DG,RN,Xk,vw⟩|⟨f,p1,L1,S1,rfl,Gz,xj,vL,vw,hp1,Dq⟩)
 rotate_left
 ·subst hp1 Dq;have Cz:=uH Gz;have FP:=uH xj;have vx:=uH vL;have vT:=uH vw;clear Gz xj vL vw;go_wp2_with fail;go_ret2;have hm:Mod (av S c m) w w1:=FP.out.sub fun b e=>e.elim .inl fun e=> .inr (.inl e);obtain⟨vB,_⟩:=UR.out.call Cz.out hm vx.out;exact .inl ⟨p1,L1,S1,rfl,vB.home,vB.one,vB.mod,vB.out,yc.out,fun _ =>Far.refl,fun _ _ =>rfl,id, .inl (yc.out.full vT.out)⟩
 have hm:Mod (av S c m) w w1:=xj.sub fun b e=>e.elim .inl fun e=> .inr (.inl e);obtain⟨vB,_⟩:=UR.out.call Gz hm vL;have Pg:=bw.start yc.out yc.out.good.but.few vw;have wQ:Calls Tryz.prog 34 #[.pointer (some ⟨t,0,none⟩)] w1 (pj OwnP w1 T.puts):=lj t c a root w1 S1 p1 T (held L1 (fun x=>hold x+tn (aF f) x)) 0 vB.home.cache.pool vB.one.tab Pg.one.good HR.out;have IP:=vB.add (K':=fun b=>b=t2) hAw (fun b e=> .inr ⟨e▸Xk,e▸DG,e▸RN⟩);have s2:w1.cell? ⟨s,2,none⟩=some (.pointer (some ⟨t,0,none⟩)):=aa vB.one.self 2;have hw01:w.heap.size<=w1.heap.size:=hm.size;have CQ:=uH IP;have Vw:=uH Pg;have Mr:=uH wQ;have xV:=uH zS;clear hm vB IP Pg wQ zS Gz xj vL vw;go_wp2_with (first
  |(go_at_call 34;refine(Mr.out).mono ?_;rintro e w2 ⟨R,cp,rfl,xb,vs⟩)
  |fail)
 have CE:T.puts.length<=525312:=Tab.Good.puts_few yc.out;have Dj:FkJ w w1.heap.size B c a fs m s t root A n cap rl S F clock p L T hold t2 f R cp 0 w2 S1 p1 L1 (aF f):=
  ⟨(
   CQ.out.below vs).sub (fun b e=>by
   rcases e with e|e
   ·exact .inl e
   ·exact .inr (xb.blk2 b e)),(vs.block _ RN).trans xV.out,xb,Vw.out,dD f⟩
 have KY:=uH Dj;clear Dj xb vs s2;go_loopw [32] (fun i wr=> ∃(k:Nat) (S':Nat->Prop) (p':Pool) (L':List Slot) (T2:Tab),i= .int .i64 (k:Int)/\k<=T.puts.length/\FkJ w w1.heap.size B c a fs m s t root A n cap rl S F clock p L T hold t2 f R cp k wr S' p' L' T2) (fun i _ =>T.puts.length-(intOf i).toNat)
 case atStart=>exact⟨0,S1,p1,L1,aF f,rfl,vd _,KY.out⟩
 case round=>
  obtain⟨k,S2,p2,L2,T2,rfl,hk,hj⟩:=hrel;clear KY Vw Mr CQ xV;by_cases xR:k<T.puts.length
  ·obtain⟨⟨pg,fq,pr,cb⟩,hx⟩: ∃x,T.puts[k]? =some x:=⟨T.puts[k],uN xR⟩;rcases hj.row.form with⟨_,h2,_⟩|⟨g,xH,xu,Cd,Dl⟩
   ·rw[h2]at xR;exact absurd xR (Nat.not_lt_zero _)
   subst xH;obtain⟨e0,e1,e2,e3⟩:=hj.row.elem hx;dsimp only at e0 e1 e2 e3;obtain⟨ad,zc⟩: ∃ad:Int,ad=((pg*4096:Nat):Int):=⟨_,rfl⟩;rw[<-zc]at e0;obtain⟨n1,n2,n3,n4,n5,n6⟩:=hj.fk.next yc.out hx;dsimp only at n2 n3 n4 n5 n6;have yg:=vK pg _ (yc.out.good.ok.puts_at hx);have xU:=hj.fk.fresh hx;dsimp only at xU;obtain⟨W3,Aq⟩: ∃W3,W3=wr.alloc (.cells #[.int .u64 ad, .int .i64 (fq:Int), .int .u8 (pr:Int), .bool true] 85):=⟨_,rfl⟩;have vG:Below wr.heap.size wr W3:=(by rw[Aq];exact uJ);have BJ:W3.heap[wr.heap.size]? =some (.cells #[.int .u64 ad, .int .i64 (fq:Int), .int .u8 (pr:Int), .bool true] 85 (0,0)):=(by rw[Aq];exact ab wr _);have DJ:FkJ w w1.heap.size B c a fs m s t root A n cap rl S F clock p L T hold t2 f (some ⟨g,0,none⟩) cp k W3 S2 p2 L2 T2:=⟨(hj.run.below vG).sub (fun b e=> .inl e),(vG.block _ (uG hj.tab).1).trans hj.tab,hj.row.kept vG,hj.fk,hj.nd⟩;have yz:ad.toNat/4096=pg:=(by omega);have Bm:=DJ.run.own t2 (.inl rfl);have hmap:=lh t2 c a f fs m clock ad fq pr true W3 S2 p2 T2 L2 (fun y=>hold y+tn T y) 0 ⟨fq,pr,true⟩ DJ.run.home.cache DJ.tab Bm.1 (by omega) DJ.fk.two.good DJ.nd (by omega) (by omega) (by omega) (by omega) (by rw[aQ n3];omega) (by rw[yz,xU];rfl) rfl rfl rfl n3 n4 (by have h8:=DJ.fk.one.cap n3;have h7:=wB fq;have h5:=DJ.fk.tnle yc.out fq;show p2.cnt fq+1<_;omega);rw[yz]at hmap;have y0:W3.cell? ⟨wr.heap.size,0,none⟩=some (.int .u64 ad):=aa BJ 0;have y1:W3.cell? ⟨wr.heap.size,1,none⟩=some (.int .i64 (fq:Int)):=aa BJ 1;have y2:W3.cell? ⟨wr.heap.size,2,none⟩=some (.int .u8 (pr:Int)):=aa BJ 2;have y3:W3.cell? ⟨wr.heap.size,3,none⟩=some (.bool true):=aa BJ 3;have HX:=uH hx;have Cy:=uH DJ;have FN:=uH hmap;have BO:=uH Aq;have NM:=uH Bm;clear hx DJ hmap Aq zc hj vG BJ n5 n6 xU yz Bm;go_upto_region 11 with(fail);rw[<-BO.out];go_upto_region 12 with(first
    |(go_at_call 72;refine(FN.out).mono ?_;rintro e W4 ⟨er,p4,T4,L4,S4,rfl,CN,wP,yW,Ax,Gq⟩)
    |fail)
   obtain⟨vX,AG⟩:=Cy.out.run.call CN (wP.sub fun b e=>e.elim .inl fun e=> .inr (.inl e)) yW;obtain⟨CC,yE⟩:=Run.keepRow Cy.out.tab Cy.out.row AG;by_cases za:er=0
   ·subst za;have hj4:FkJ w w1.heap.size B c a fs m s t root A n cap rl S F clock p L T hold t2 f (some ⟨g,0,none⟩) cp (k+1) W4 S4 p4 L4 T4:=⟨vX,CC,yE,Cy.out.fk.step yc.out HX.out Ax Gq,Ax.mono 4 0 f Cy.out.nd⟩;have HJ4:=uH hj4;clear vX AG CC yE CN wP yW Ax Gq hj4;go_wp2_with fail;go_roundw
    case rel=>exact⟨k+1,S4,p4,L4,T4,rfl,by omega,HJ4.out⟩
    case measure=>(simp[intOf];omega)
   ·have vu:(er != 0)=true:=(by rw[bne_iff_ne];exact za);obtain⟨JB,EG,Pf,Eu⟩:=Cy.out.fk.fail yc.out HX.out za Ax Gq;subst JB;have Bm:=vX.own t2 (.inl rfl);have hfree:=mA t2 c a f W4 S4 p4 T2 (held L4 (fun y=>hold y+tn T y)) 0 vX.home.cache.pool CC Bm.1 (by omega) Pf.two.good Cy.out.nd;have BW:=uH hfree;have wW:=uH vX;have Qu:=uH Pf;have KC:=uH Eu;have Zm:=uH Bm;clear hfree vX Pf Eu EG Bm AG CC yE CN wP yW Ax Gq za;go_wp2_with (first
     |(go_at_call 58;refine(BW.out).mono ?_;rintro e W5 ⟨rfl,Ii,wH,_⟩)
     |fail)
    go_ret2;obtain⟨v1,v2,v3,v4⟩:=Qu.out.undo yc.out;obtain⟨z1,z2,z3⟩:=Zm.out;have BB:=wW.out.home.cache;have Cs:ar W5 S4 c a fs m clock (ca p4 ((T2.evs 4 0).flatMap Ev.fs)) L4:=⟨Ii,(wH.block c BB.lts.1 (fun e=>e.elim BB.noC (fun e=>by omega))).trans BB.self,BB.slots.same (wH.block m BB.lts.2.1 (fun e=>e.elim BB.noM (fun e=>by omega))),BB.noC,BB.noM⟩;obtain⟨Rj,KR,yX⟩:=Run.freed wW.out Cs wH z2 hAw;exact .inl ⟨_,L4,S4,rfl,Rj,KR,yX,wW.out.out,v1,v2,v3,v4, .inr ⟨k,p2,L2,T2,Cy.out.fk,KC.out⟩⟩
  ·obtain rfl:k=T.puts.length:=(by omega);have HJ:=uH hj;have hjt:FkT w w1.heap.size B c a fs m s t root A n cap rl S F clock p2 L2 T hold t2 f R cp 0 wr S2 T2 p2 T:=⟨hj.run,hj.tab,hj.row,bH.start hj.fk.one⟩;have NN:=uH hjt;clear hj hjt;go_wp2_with fail;go_loopw [52] (fun i wx=> ∃(j:Nat) (p':Pool) (T':Tab),i= .int .i64 (j:Int)/\j<=T.puts.length/\FkT w w1.heap.size B c a fs m s t root A n cap rl S F clock p2 L2 T hold t2 f R cp j wx S2 T2 p' T') (fun i _ =>T.puts.length-(intOf i).toNat)
   case atStart=>exact⟨0,p2,T,rfl,vd _,NN.out⟩
   case round=>
    obtain⟨j,p3,T3,rfl,Ck,hj⟩:=hrel;clear NN;by_cases yY:j<T.puts.length
    ·obtain⟨⟨pg,fq,pr,cb⟩,hx⟩: ∃x,T.puts[j]? =some x:=⟨T.puts[j],uN yY⟩;rcases hj.row.form with⟨_,h2,_⟩|⟨g,xH,xu,Cd,Dl⟩
     ·rw[h2]at yY;exact absurd yY (Nat.not_lt_zero _)
     subst xH;obtain⟨e0,e1,e2,e3⟩:=hj.row.elem hx;dsimp only at e0 e1 e2 e3;obtain⟨ad,zc⟩: ∃ad:Int,ad=((pg*4096:Nat):Int):=⟨_,rfl⟩;rw[<-zc]at e0;obtain⟨was,hw,EO⟩:=hj.tr.was HJ.out.fk.one hx (fun _ =>rfl);dsimp only at hw EO;obtain⟨gg,Pc⟩:=hj.tr.sp.node1 hw;obtain⟨n1,n2,n3,n4,n5,n6⟩:=hj.tr.sp.leaf hw;have h7:=(yc.out.leaf (yc.out.good.ok.puts_at hx)).2.1;dsimp only at h7;rw[EO]at n3 n4;have yg:=vK pg _ (yc.out.good.ok.puts_at hx);obtain⟨W3,Aq⟩: ∃W3,W3=wr.alloc (.cells #[.int .u64 ad, .int .i64 (fq:Int), .int .u8 (pr:Int), .bool true] 85):=⟨_,rfl⟩;have vG:Below wr.heap.size wr W3:=(by rw[Aq];exact uJ);have BJ:W3.heap[wr.heap.size]? =some (.cells #[.int .u64 ad, .int .i64 (fq:Int), .int .u8 (pr:Int), .bool true] 85 (0,0)):=(by rw[Aq];exact ab wr _);have DJ:FkT w w1.heap.size B c a fs m s t root A n cap rl S F clock p2 L2 T hold t2 f (some ⟨g,0,none⟩) cp j W3 S2 T2 p3 T3:=⟨(hj.run.below vG).sub (fun b e=> .inl e),(vG.block _ (uG hj.tab).1).trans hj.tab,hj.row.kept vG,hj.tr⟩;have wg:T3.nd 4 0=some root:=(by rw[hj.tr.nd];exact HR.out);have xr:=gm t c a root 0 ad ⟨fq,pr,true⟩ W3.drew S2 p3 T3 (held L2 (fun y=>hold y+tn T2 y)) DJ.run.home.cache.pool.drew DJ.run.one.tab DJ.run.one.noT.1 DJ.tr.sp.good wg (by omega) h7 n3 n4 (by have h9:=DJ.tr.sp.cap n3;have h8:=wB fq;have h5:=HJ.out.fk.tnle yc.out fq;show p3.cnt fq+1<_;omega) (fq:Int) (pr:Int) rfl rfl;have zg:Calls Tryz.prog 69 #[.pointer (some ⟨t,0,none⟩), .int .u64 ad, .agg #[.int .i64 (fq:Int), .int .u8 (pr:Int), .bool true]] W3.drew fun e W=>e= .returned (.int .i64 0)/\Hid (al W S2 a (ba p3 was ⟨fq,pr,true⟩ gg pg))/\Hid (Mod S2 W3 W):=by
      refine xr.mono ?_;rw[ft (was:=was) (g:=gg) (by rw[zc];omega) yg (by omega) (by rw[aQ n3];omega) hw Pc];rintro e W ⟨rfl,hP,Bv⟩;exact⟨rfl,uH (by simpa using hP),uH Bv.undrew⟩
     have s2:W3.cell? ⟨s,2,none⟩=some (.pointer (some ⟨t,0,none⟩)):=aa DJ.run.one.self 2;have y0:W3.cell? ⟨wr.heap.size,0,none⟩=some (.int .u64 ad):=aa BJ 0;have y1:W3.cell? ⟨wr.heap.size,1,none⟩=some (.int .i64 (fq:Int)):=aa BJ 1;have y2:W3.cell? ⟨wr.heap.size,2,none⟩=some (.int .u8 (pr:Int)):=aa BJ 2;have y3:W3.cell? ⟨wr.heap.size,3,none⟩=some (.bool true):=aa BJ 3;have HX:=uH hx;have Cy:=uH DJ;have Dx:=uH zg;have BO:=uH Aq;have HW:=uH hw;have ZQ:=uH Pc;clear hx DJ xr zg Aq zc hj vG BJ hw Pc EO n5 n6 wg;go_upto_region 20 with(fail);rw[<-BO.out];go_region_with ((first
      |(go_at_call 69;refine(Dx.out).mono ?_;rintro e W4 ⟨rfl,Mc,EJ⟩)))
     all_goals
      go_wp2_with fail;go_roundw
      case rel=>
       obtain⟨vX,AG⟩:=Cy.out.run.pool Mc.out EJ.out;obtain⟨CC,yE⟩:=Run.keepRow Cy.out.tab Cy.out.row AG;exact⟨j+1,_,_,rfl,by omega,vX,CC,yE,Cy.out.tr.step HJ.out.fk.one HX.out (pS (by decide) (by decide) n1) (fun _ =>rfl) h7 HW.out ZQ.out⟩
      case measure=>(simp[intOf];omega)
    ·obtain rfl:j=T.puts.length:=(by omega);have Nb:=HJ.out.fk.done yc.out (uK _) (by decide) (by decide) hj.tr (uK _);have MD:=hj.run.one.row;have zk:=kI A n cap rl wr.drew (MD.below ((vg wr.heap.size wr).drew) (uK _)) Lp;have TG:Calls Tryz.prog 57 #[.slice A n cap] wr.drew fun e W=> ∃A5 zW,e= .returned (.slice A5 n zW)/\Hid (OwnR W wr.heap.size A5 zW rl)/\Hid (Below wr.heap.size wr W):=by
      refine zk.mono ?_;rintro e W ⟨A5,zW,rfl,KR,Im⟩;exact⟨A5,zW,rfl,uH KR,uH (bu Im)⟩
     have s0:wr.cell? ⟨s,0,none⟩=some (.pointer (some ⟨c,0,none⟩)):=aa hj.run.one.self 0;have s1:wr.cell? ⟨s,1,none⟩=some (.pointer (some ⟨a,0,none⟩)):=aa hj.run.one.self 1;have s3:wr.cell? ⟨s,3,none⟩=some (.slice A n cap):=aa hj.run.one.self 3;have MB:s<wr.heap.size:=hj.run.one.lts.1;have Vy:=uH Nb;have KF:=uH TG;have NN:=uH hj;clear Nb MD zk TG hj;go_upto_region 22 with(fail);go_region_held3 (fun w'=>w'.cell? ⟨s,0,none⟩=some (.pointer (some ⟨c,0,none⟩))/\w'.cell? ⟨s,1,none⟩=some (.pointer (some ⟨a,0,none⟩))/\w'.cell? ⟨s,3,none⟩=some (.slice A n cap))
      (go_keep)
      ((first
      |(go_at_call 57;refine(KF.out).mono ?_;rintro e W5 ⟨A5,zW,rfl,Ch,zC⟩;have d0:W5.cell? ⟨s,0,none⟩=some (.pointer (some ⟨c,0,none⟩)):=(zC.out.cell MB).trans s0;have d1:W5.cell? ⟨s,1,none⟩=some (.pointer (some ⟨a,0,none⟩)):=(zC.out.cell MB).trans s1;have d3:W5.cell? ⟨s,3,none⟩=some (.slice A n cap):=(zC.out.cell MB).trans s3)))
     all_goals
      go_wp2_with fail;go_ret2;have Ih:=(zC.out).alloc zC.out.size (.cells #[.pointer (some ⟨c,0,none⟩), .pointer (some ⟨a,0,none⟩), .pointer (some ⟨t2,0,none⟩), .slice A5 n zW] 122);have Au:=NN.out.run.below Ih;have Bm:=NN.out.run.own t2 (.inl rfl);have It:=zC.out.size;have hlen:=NN.out.run.one.row.len;have ME:=Ch.out.row;have yK:=NN.out.run.home.lts;have hbB:=(vg W5.heap.size W5).alloc (uK _) (.cells #[.pointer (some ⟨c,0,none⟩), .pointer (some ⟨a,0,none⟩), .pointer (some ⟨t2,0,none⟩), .slice A5 n zW] 122);refine .inr ⟨W5.heap.size,t2,f,p3,L2,T3,T2,S2,A5,zW,rfl,Au.home,Au.one,⟨ab _ _,(Ih.block t2 Bm.2.2).trans NN.out.tab,?_,⟨fun e=>by have:=yK.2.2 _ e;omega,by omega,by omega,by omega⟩,⟨Bm.1,by omega,by omega,by omega⟩,fun ad e=>?_⟩,HJ.out.nd,by omega,Bm.2.1,fun ad e=>?_,Au.mod,Au.out,Vy.out⟩
      ·have h9:=Ch.out.rsl (by rw[hlen];omega);rw[hlen]at h9;exact(h9.below hbB (uK _)).more (by simp)
      ·have h9:=ME ad.block (by rw[e];rfl);refine⟨fun e=>by have:=yK.2.2 _ e;omega,by omega,by omega,by omega,by omega,by omega,by simp;omega⟩
      ·have h9:=ME ad.block (by rw[e];rfl);omega
end
