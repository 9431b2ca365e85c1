/- Spaces: Fork. -/
import Derived.Test.YtoochjhipmpehaaGreatDoorPcK
import Derived.Test.YtoochjhipmpehaaGreatDoorSaK
import Derived.Test.YtoochjhipmpehaaGreatDoorSpOK
set_option linter.unusedVariables false
set_option linter.unusedSimpArgs false
set_option maxRecDepth 100000
set_option maxHeartbeats 8000000
namespace Go.Proofs.YtoochjhipmpehaaGreatDoor
section
open Go.RowKit Go.Sort
section
variable {w W W':World} {G K:Nat->Prop} {B c a fs m s t root:Nat} {A:Option Addr} {n cap:Nat} {rl:List Reg} {S0 S S':Nat->Prop} {F:List Nd} {clock vm:Int} {p p':Pool} {L L':List Slot}
theorem Run.add (h:Run w W G K B c a fs m s t root A n cap rl S0 S F clock p L) {K':Nat->Prop} (hA: ∀ad,A=some ad->ad.block<w.heap.size) (hK: ∀b,K' b->K b\/(¬S b/\w.heap.size<=b/\b<W.heap.size)):Run w W G K' B c a fs m s t root A n cap rl S0 S F clock p L:=
 ⟨h.home,h.one,h.mod,h.out,h.foot,h.low,fun b hb=>(hK b hb).elim (h.own b) id,fun ad e x=>(hK _ x).elim (h.row ad e) (fun y=>by have:=hA ad e;omega)⟩
end
structure qm (F:List Nd) (hold:Nat->Nat) (p:Pool) (L:List Slot) (T:Tab) (p':Pool) (L':List Slot):Prop where
 sp:Sp F hold p' L' T
 far: ∀E,Far hold T E p p'
 dat: ∀x,0<aj T x->p'.dat x=p.dat x
 own:Own p T->Own p' T
 full:Full hold p T\/ ∃k p1 L1 T2,bD F hold p L T k p1 L1 T2/\Full (fun x=>hold x+tn T x) p1 T2
def ForkPost (w:World) (B c a fs m s t root:Nat) (A:Option Addr) (n cap:Nat) (rl:List Reg) (S:Nat->Prop) (F:List Nd) (clock:Int) (p:Pool) (L:List Slot) (T:Tab) (hold:Nat->Nat) (e:Ending) (w':World):Prop:=
 (∃p' L' S',e= .returned (.tuple #[.pointer none, .int .i64 4])/\Home w' B c a fs m S' F clock p' L'/\One w' B c a m S' s t root A n cap rl/\Mod (av S c m) w w'/\Out S S' w/\qm F hold p L T p' L')\/
 (∃s2 t2 f p' L' T' T2 S' A' vk,e= .returned (.tuple #[.pointer (some ⟨s2,0,none⟩), .int .i64 0])/\Home w' B c a fs m S' F clock p' L'/\One w' B c a m S' s t root A n cap rl/\One w' B c a m S' s2 t2 f A' n vk rl/\T2.nd 4 0=some f/\w.heap.size<=s2/\w.heap.size<=t2/\(∀ad,A'=some ad->w.heap.size<=ad.block)/\Mod (av S c m) w w'/\Out S S' w/\gW F hold p L T p' L' T' T2)
structure FkJ (w:World) (bs:Nat) (B c a fs m s t root:Nat) (A:Option Addr) (n cap:Nat) (rl:List Reg) (S:Nat->Prop) (F:List Nd) (clock:Int) (p:Pool) (L:List Slot) (T:Tab) (hold:Nat->Nat) (t2 f:Nat) (R:Option Addr) (cp k:Nat) (W:World) (S':Nat->Prop) (p':Pool) (L':List Slot) (T2:Tab):Prop where
 run:Run w W (av S c m) (fun b=>b=t2\/R.map (·.block)=some b) B c a fs m s t root A n cap rl S S' F clock p' L'
 tab:ag W t2 c a f
 row:OwnP W bs R cp T.puts
 fk:bD F hold p L T k p' L' T2
 nd:T2.nd 4 0=some f
structure FkT (w:World) (bs:Nat) (B c a fs m s t root:Nat) (A:Option Addr) (n cap:Nat) (rl:List Reg) (S:Nat->Prop) (F:List Nd) (clock:Int) (p1:Pool) (L1:List Slot) (T:Tab) (hold:Nat->Nat) (t2 f:Nat) (R:Option Addr) (cp k:Nat) (W:World) (S':Nat->Prop) (T2:Tab) (p':Pool) (T':Tab):Prop where
 run:Run w W (av S c m) (fun b=>b=t2\/R.map (·.block)=some b) B c a fs m s t root A n cap rl S S' F clock p' L1
 tab:ag W t2 c a f
 row:OwnP W bs R cp T.puts
 tr:bO F (fun x=>hold x+tn T2 x) cpy 0 18446744073709551615 p1 L1 T k p' T'
variable {W W':World} {c a t2:Nat}
theorem Run.keepRow {R:Option Addr} {bs cp:Nat} {ps:List (Nat×Leaf)} {f:Nat} (ht:ag W t2 c a f) (hr:OwnP W bs R cp ps) (hk: ∀b,(b=t2\/R.map (·.block)=some b)->W'.heap[b]? =W.heap[b]?):ag W' t2 c a f/\OwnP W' bs R cp ps:=
 ⟨(hk t2 (.inl rfl)).trans ht,hr.same fun g hg=>hk g (.inr (by rw[hg];rfl))⟩
variable {w:World} {cap:Nat} {A:Option Addr} {F:List Nd} {p p':Pool} {L:List Slot}
theorem Run.freed {K:Nat->Prop} {B fs m s t root n:Nat} {rl:List Reg} {S0 S:Nat->Prop} {clock:Int} (h:Run w W (av S0 c m) K B c a fs m s t root A n cap rl S0 S F clock p L) (hC:ap W' S c a fs m clock p' L) (hm:Mod (fun b=>S b\/b=t2) W W') (Er:w.heap.size<=t2) (hA: ∀ad,A=some ad->ad.block<w.heap.size):
  Home W' B c a fs m S F clock p' L/\One W' B c a m S s t root A n cap rl/\Mod (av S0 c m) w W':=by
 obtain⟨l1,l2,l3,l4,l5⟩:=h.low;have hz:=h.mod.size;have vS:=hm.size;have hB:=h.home.base;have ND:=h.home.lows;obtain⟨w1,B1,nb,c2,ad,mp,f1,f2,f3⟩:=h.home.files;have xl:=h.one;refine⟨⟨hC,⟨w1,B1,nb,c2,ad,mp,f1,f2,f3.trans (hm.below (fun b hb=>hb.elim (h.home.low b) (fun e=>by omega)) hB)⟩,h.home.bytes,h.home.low,ND⟩,⟨(hm.block s xl.lts.1 (fun e=>e.elim xl.noS.1 (fun e=>by omega))).trans xl.self,(hm.block t xl.lts.2.1 (fun e=>e.elim xl.noT.1 (fun e=>by omega))).trans xl.tab,xl.row.mod hm (fun ad e e2=>e2.elim (xl.noR ad e).1 (fun e2=>by have:=hA ad e;omega)),xl.noS,xl.noT,fun ad e=>by
  obtain⟨n1,n2,n3,n4,n5,n6,n7⟩:=xl.noR ad e;exact⟨n1,n2,n3,n4,n5,n6,by omega⟩⟩,?_⟩
 exact((h.mod.sub (T:=fun b=>av S0 c m b\/w.heap.size<=b) fun b e=> .inl e).trans (Out.refl _ _) (hm.sub fun b e=>by
  rcases e with e|e
  ·exact(h.out b e).imp (fun e=> .inl e) id
  ·exact .inr (by omega))).own fun b e=>e
theorem OwnP.blk2 {base:Nat} {l:List (Nat×Leaf)} (h:OwnP w base A cap l): ∀g,A.map (·.block)=some g->base<=g/\g<w.heap.size:=fun g e=>by
 rcases h.form with⟨h2,_⟩|⟨g',h1,h2,h3,_⟩
 ·rw[h2]at e;cases e
 ·rw[h1]at e;simp at e;subst e;exact⟨h2,h3⟩
variable {hold:Nat->Nat} {T:Tab}
theorem Tab.Good.puts_few (h:Sp F hold p L T):T.puts.length<=525312:=by
 refine vh (cP (fun e=>?_) _) h.good.ok.short;cases e<;>simp[Ev.ls]
theorem bD.tnle {L':List Slot} {T2:Tab} {k:Nat} (h0:Sp F hold p L T) (h:bD F hold p L T k p' L' T2) (x:Nat):tn T2 x<=525314:=by
 have h1:aj T2 x<=525312:=by
  rw[<-h.two.good.ok.leaves_cnt x];exact vh List.countP_le_length (Tab.Good.puts_few h.two)
 have h4:ay T2 x<=1:=by
  by_cases e:an T2 x
  ·rw[ao e];exact uN _
  ·rw[aH e];exact vg _
 unfold tn;omega
theorem sw (B c a fs m s t root n cap:Nat) (A:Option Addr) (rl:List Reg) (clock:Int) (w:World) (S:Nat->Prop) (F:List Nd) (p:Pool) (L:List Slot) (T:Tab) (hold:Nat->Nat)
  (hH:Home w B c a fs m S F clock p L) (hO:One w B c a m S s t root A n cap rl) (yw:Sp F hold p L T) (hr:T.nd 4 0=some root) (wT: ∀f,hold f<=100000000000) (vU: ∀g l,T.lf g=some l->g<34359738368) (Mg:n<900000):
  Calls Tryz.prog 32 #[.pointer (some ⟨s,0,none⟩)] w (ForkPost w B c a fs m s t root A n cap rl S F clock p L T hold):=by
 have xQ:=eI s c a t n cap A w hO.self;have hnew:=pB c a fs m clock w S p L hH.cache;have xq:=Run.start hH hO (fun _ e=>e);have hAw: ∀ad,A=some ad->ad.block<w.heap.size:=fun ad e=>(hO.noR ad e).2.2.2.2.2.2;have s0:w.cell? ⟨s,0,none⟩=some (.pointer (some ⟨c,0,none⟩)):=aa hO.self 0;have wG:=uK xQ;have yG:=uK hnew;have Vi:=uK xq;have yQ:=uK yw;have HR:=uK hr;have HH:=uK hH;have HO:=uK hO;have Rs:=hH.lts.2.1;have TX:=hH.lts.1;have AR:=hH.base;have vM:=hH.lows.2.2;clear xQ hnew xq yw hr hH hO;go_enter Tryz.func32,Tryz.ntmps32;go_wp2_with (first
  |(go_at_call 56;refine(wG.out).mono ?_;rintro e w1 ⟨rfl,rfl⟩)
  |fail)
 refine(yG.out).mono ?_;rintro e w1 (⟨f,p1,L1,S1,t2,rfl,Fx,wE,wA,vQ,Er,Sf,XB,vD⟩|⟨f,p1,L1,S1,rfl,Fx,wA,vQ,vD,hp1,Ee⟩)
 rotate_left
 ·subst hp1 Ee;have CG:=uK Fx;have GQ:=uK wA;have vF:=uK vQ;have wi:=uK vD;clear Fx wA vQ vD;go_wp2_with fail;go_ret2;have hm:Mod (av S c m) w w1:=GQ.out.sub fun b e=>e.elim .inl fun e=> .inr (.inl e);obtain⟨vJ,_⟩:=Vi.out.call CG.out hm vF.out;exact .inl ⟨p1,L1,S1,rfl,vJ.home,vJ.one,vJ.mod,vJ.out,yQ.out,fun _ =>Far.refl,fun _ _ =>rfl,id, .inl (yQ.out.full wi.out)⟩
 have hm:Mod (av S c m) w w1:=wA.sub fun b e=>e.elim .inl fun e=> .inr (.inl e);obtain⟨vJ,_⟩:=Vi.out.call Fx hm vQ;have PK:=bD.start yQ.out yQ.out.good.but.few vD;have wY:Calls Tryz.prog 34 #[.pointer (some ⟨t,0,none⟩)] w1 (uw OwnP w1 T.puts):=pH t c a root w1 S1 p1 T (held L1 (fun x=>hold x+tn (aJ f) x)) 0 vJ.home.cache.pool vJ.one.tab PK.one.good HR.out;have JO:=vJ.add (K':=fun b=>b=t2) hAw (fun b e=> .inr ⟨e▸XB,e▸Er,e▸Sf⟩);have s2:w1.cell? ⟨s,2,none⟩=some (.pointer (some ⟨t,0,none⟩)):=aa vJ.one.self 2;have hw01:w.heap.size<=w1.heap.size:=hm.size;have DG:=uK JO;have VQ:=uK PK;have Hb:=uK wY;have xR:=uK wE;clear hm vJ JO PK wY wE Fx wA vQ vD;go_wp2_with (first
  |(go_at_call 34;refine(Hb.out).mono ?_;rintro e w2 ⟨R,cp,rfl,xF,vs⟩)
  |fail)
 have Dt:T.puts.length<=525312:=Tab.Good.puts_few yQ.out;have DX:FkJ w w1.heap.size B c a fs m s t root A n cap rl S F clock p L T hold t2 f R cp 0 w2 S1 p1 L1 (aJ f):=
  ⟨(
   DG.out.below vs).sub (fun b e=>by
   rcases e with e|e
   ·exact .inl e
   ·exact .inr (xF.blk2 b e)),(vs.block _ Sf).trans xR.out,xF,VQ.out,dM f⟩
 have LO:=uK DX;clear DX xF vs s2;go_loopw [32] (fun i wr=> ∃(k:Nat) (S':Nat->Prop) (p':Pool) (L':List Slot) (T2:Tab),i= .int .i64 (k:Int)/\k<=T.puts.length/\FkJ w w1.heap.size B c a fs m s t root A n cap rl S F clock p L T hold t2 f R cp k wr S' p' L' T2) (fun i _ =>T.puts.length-(intOf i).toNat)
 case atStart=>exact⟨0,S1,p1,L1,aJ f,rfl,vg _,LO.out⟩
 case round=>
  obtain⟨k,S2,p2,L2,T2,rfl,hk,hj⟩:=hrel;clear LO VQ Hb DG xR;by_cases yz:k<T.puts.length
  ·obtain⟨⟨pg,fq,pr,cb⟩,hx⟩: ∃x,T.puts[k]? =some x:=⟨T.puts[k],uQ yz⟩;rcases hj.row.form with⟨_,h2,_⟩|⟨g,yA,yc,CO,DZ⟩
   ·rw[h2]at yz;exact absurd yz (Nat.not_lt_zero _)
   subst yA;obtain⟨e0,e1,e2,e3⟩:=hj.row.elem hx;dsimp only at e0 e1 e2 e3;obtain⟨ad,zS⟩: ∃ad:Int,ad=((pg*4096:Nat):Int):=⟨_,rfl⟩;rw[<-zS]at e0;obtain⟨n1,n2,n3,n4,n5,n6⟩:=hj.fk.next yQ.out hx;dsimp only at n2 n3 n4 n5 n6;have yU:=vU pg _ (yQ.out.good.ok.puts_at hx);have xw:=hj.fk.fresh hx;dsimp only at xw;obtain⟨W3,Bc⟩: ∃W3,W3=wr.alloc (.cells #[.int .u64 ad, .int .i64 (fq:Int), .int .u8 (pr:Int), .bool true] 85):=⟨_,rfl⟩;have vx:Below wr.heap.size wr W3:=(by rw[Bc];exact uM);have Aa:W3.heap[wr.heap.size]? =some (.cells #[.int .u64 ad, .int .i64 (fq:Int), .int .u8 (pr:Int), .bool true] 85 (0,0)):=(by rw[Bc];exact ab wr _);have Eu:FkJ w w1.heap.size B c a fs m s t root A n cap rl S F clock p L T hold t2 f (some ⟨g,0,none⟩) cp k W3 S2 p2 L2 T2:=⟨(hj.run.below vx).sub (fun b e=> .inl e),(vx.block _ (uJ hj.tab).1).trans hj.tab,hj.row.kept vx,hj.fk,hj.nd⟩;have zl:ad.toNat/4096=pg:=(by omega);have BU:=Eu.run.own t2 (.inl rfl);have hmap:=kX t2 c a f fs m clock ad fq pr true W3 S2 p2 T2 L2 (fun y=>hold y+tn T y) 0 ⟨fq,pr,true⟩ Eu.run.home.cache Eu.tab BU.1 (by omega) Eu.fk.two.good Eu.nd (by omega) (by omega) (by omega) (by omega) (by rw[aW n3];omega) (by rw[zl,xw];rfl) rfl rfl rfl n3 n4 (by have h8:=Eu.fk.one.cap n3;have h7:=wT fq;have h5:=Eu.fk.tnle yQ.out fq;show p2.cnt fq+1<_;omega);rw[zl]at hmap;have y0:W3.cell? ⟨wr.heap.size,0,none⟩=some (.int .u64 ad):=aa Aa 0;have y1:W3.cell? ⟨wr.heap.size,1,none⟩=some (.int .i64 (fq:Int)):=aa Aa 1;have y2:W3.cell? ⟨wr.heap.size,2,none⟩=some (.int .u8 (pr:Int)):=aa Aa 2;have y3:W3.cell? ⟨wr.heap.size,3,none⟩=some (.bool true):=aa Aa 3;have HX:=uK hx;have Dl:=uK Eu;have GO:=uK hmap;have Cy:=uK Bc;have Ox:=uK BU;clear hx Eu hmap Bc zS hj vx Aa n5 n6 xw zl BU;go_upto_region 11 with(fail);rw[<-Cy.out];go_upto_region 12 with(first
    |(go_at_call 72;refine(GO.out).mono ?_;rintro e W4 ⟨er,p4,T4,L4,S4,rfl,Cu,wH,At,Bk,Ht⟩)
    |fail)
   obtain⟨wu,Br⟩:=Dl.out.run.call Cu (wH.sub fun b e=>e.elim .inl fun e=> .inr (.inl e)) At;obtain⟨Dq,zr⟩:=Run.keepRow Dl.out.tab Dl.out.row Br;by_cases zR:er=0
   ·subst zR;have hj4:FkJ w w1.heap.size B c a fs m s t root A n cap rl S F clock p L T hold t2 f (some ⟨g,0,none⟩) cp (k+1) W4 S4 p4 L4 T4:=⟨wu,Dq,zr,Dl.out.fk.step yQ.out HX.out Bk Ht,Bk.mono 4 0 f Dl.out.nd⟩;have HJ4:=uK hj4;clear wu Br Dq zr Cu wH At Bk Ht hj4;go_wp2_with fail;go_roundw
    case rel=>exact⟨k+1,S4,p4,L4,T4,rfl,by omega,HJ4.out⟩
    case measure=>(simp[intOf];omega)
   ·have vB:(er != 0)=true:=(by rw[bne_iff_ne];exact zR);obtain⟨Kv,Cm,PJ,Fg⟩:=Dl.out.fk.fail yQ.out HX.out zR Bk Ht;subst Kv;have BU:=wu.own t2 (.inl rfl);have hfree:=mx t2 c a f W4 S4 p4 T2 (held L4 (fun y=>hold y+tn T y)) 0 wu.home.cache.pool Dq BU.1 (by omega) PJ.two.good Dl.out.nd;have FE:=uK hfree;have xC:=uK wu;have QO:=uK PJ;have Lp:=uK Fg;have Zz:=uK BU;clear hfree wu PJ Fg Cm BU Br Dq zr Cu wH At Bk Ht zR;go_wp2_with (first
     |(go_at_call 58;refine(FE.out).mono ?_;rintro e W5 ⟨rfl,FR,wy,_⟩)
     |fail)
    go_ret2;obtain⟨v1,v2,v3,v4⟩:=QO.out.undo yQ.out;obtain⟨z1,z2,z3⟩:=Zz.out;have Cg:=xC.out.home.cache;have Ct:ap W5 S4 c a fs m clock (cm p4 ((T2.evs 4 0).flatMap Ev.fs)) L4:=⟨FR,(wy.block c Cg.lts.1 (fun e=>e.elim Cg.noC (fun e=>by omega))).trans Cg.self,Cg.slots.same (wy.block m Cg.lts.2.1 (fun e=>e.elim Cg.noM (fun e=>by omega))),Cg.noC,Cg.noM⟩;obtain⟨RI,LG,zN⟩:=Run.freed xC.out Ct wy z2 hAw;exact .inl ⟨_,L4,S4,rfl,RI,LG,zN,xC.out.out,v1,v2,v3,v4, .inr ⟨k,p2,L2,T2,Dl.out.fk,Lp.out⟩⟩
  ·obtain rfl:k=T.puts.length:=(by omega);have HJ:=uK hj;have hjt:FkT w w1.heap.size B c a fs m s t root A n cap rl S F clock p2 L2 T hold t2 f R cp 0 wr S2 T2 p2 T:=⟨hj.run,hj.tab,hj.row,bO.start hj.fk.one⟩;have Oy:=uK hjt;clear hj hjt;go_wp2_with fail;go_loopw [52] (fun i wx=> ∃(j:Nat) (p':Pool) (T':Tab),i= .int .i64 (j:Int)/\j<=T.puts.length/\FkT w w1.heap.size B c a fs m s t root A n cap rl S F clock p2 L2 T hold t2 f R cp j wx S2 T2 p' T') (fun i _ =>T.puts.length-(intOf i).toNat)
   case atStart=>exact⟨0,p2,T,rfl,vg _,Oy.out⟩
   case round=>
    obtain⟨j,p3,T3,rfl,CY,hj⟩:=hrel;clear Oy;by_cases zO:j<T.puts.length
    ·obtain⟨⟨pg,fq,pr,cb⟩,hx⟩: ∃x,T.puts[j]? =some x:=⟨T.puts[j],uQ zO⟩;rcases hj.row.form with⟨_,h2,_⟩|⟨g,yA,yc,CO,DZ⟩
     ·rw[h2]at zO;exact absurd zO (Nat.not_lt_zero _)
     subst yA;obtain⟨e0,e1,e2,e3⟩:=hj.row.elem hx;dsimp only at e0 e1 e2 e3;obtain⟨ad,zS⟩: ∃ad:Int,ad=((pg*4096:Nat):Int):=⟨_,rfl⟩;rw[<-zS]at e0;obtain⟨was,hw,FJ⟩:=hj.tr.was HJ.out.fk.one hx (fun _ =>rfl);dsimp only at hw FJ;obtain⟨gg,PG⟩:=hj.tr.sp.node1 hw;obtain⟨n1,n2,n3,n4,n5,n6⟩:=hj.tr.sp.leaf hw;have h7:=(yQ.out.leaf (yQ.out.good.ok.puts_at hx)).2.1;dsimp only at h7;rw[FJ]at n3 n4;have yU:=vU pg _ (yQ.out.good.ok.puts_at hx);obtain⟨W3,Bc⟩: ∃W3,W3=wr.alloc (.cells #[.int .u64 ad, .int .i64 (fq:Int), .int .u8 (pr:Int), .bool true] 85):=⟨_,rfl⟩;have vx:Below wr.heap.size wr W3:=(by rw[Bc];exact uM);have Aa:W3.heap[wr.heap.size]? =some (.cells #[.int .u64 ad, .int .i64 (fq:Int), .int .u8 (pr:Int), .bool true] 85 (0,0)):=(by rw[Bc];exact ab wr _);have Eu:FkT w w1.heap.size B c a fs m s t root A n cap rl S F clock p2 L2 T hold t2 f (some ⟨g,0,none⟩) cp j W3 S2 T2 p3 T3:=⟨(hj.run.below vx).sub (fun b e=> .inl e),(vx.block _ (uJ hj.tab).1).trans hj.tab,hj.row.kept vx,hj.tr⟩;have wB:T3.nd 4 0=some root:=(by rw[hj.tr.nd];exact HR.out);have xV:=gv t c a root 0 ad ⟨fq,pr,true⟩ W3.drew S2 p3 T3 (held L2 (fun y=>hold y+tn T2 y)) Eu.run.home.cache.pool.drew Eu.run.one.tab Eu.run.one.noT.1 Eu.tr.sp.good wB (by omega) h7 n3 n4 (by have h9:=Eu.tr.sp.cap n3;have h8:=wT fq;have h5:=HJ.out.fk.tnle yQ.out fq;show p3.cnt fq+1<_;omega) (fq:Int) (pr:Int) rfl rfl;have zU:Calls Tryz.prog 69 #[.pointer (some ⟨t,0,none⟩), .int .u64 ad, .agg #[.int .i64 (fq:Int), .int .u8 (pr:Int), .bool true]] W3.drew fun e W=>e= .returned (.int .i64 0)/\Hid (ai W S2 a (bm p3 was ⟨fq,pr,true⟩ gg pg))/\Hid (Mod S2 W3 W):=by
      refine xV.mono ?_;rw[fC (was:=was) (g:=gg) (by rw[zS];omega) yU (by omega) (by rw[aW n3];omega) hw PG];rintro e W ⟨rfl,hP,xr⟩;exact⟨rfl,uK (by simpa using hP),uK xr.undrew⟩
     have s2:W3.cell? ⟨s,2,none⟩=some (.pointer (some ⟨t,0,none⟩)):=aa Eu.run.one.self 2;have y0:W3.cell? ⟨wr.heap.size,0,none⟩=some (.int .u64 ad):=aa Aa 0;have y1:W3.cell? ⟨wr.heap.size,1,none⟩=some (.int .i64 (fq:Int)):=aa Aa 1;have y2:W3.cell? ⟨wr.heap.size,2,none⟩=some (.int .u8 (pr:Int)):=aa Aa 2;have y3:W3.cell? ⟨wr.heap.size,3,none⟩=some (.bool true):=aa Aa 3;have HX:=uK hx;have Dl:=uK Eu;have Ek:=uK zU;have Cy:=uK Bc;have HW:=uK hw;have HGG:=uK PG;clear hx Eu xV zU Bc zS hj vx Aa hw PG FJ n5 n6 wB;go_upto_region 20 with(fail);rw[<-Cy.out];go_region_with ((first
      |(go_at_call 69;refine(Ek.out).mono ?_;rintro e W4 ⟨rfl,GL,FB⟩)))
     all_goals
      go_wp2_with fail;go_roundw
      case rel=>
       obtain⟨wu,Br⟩:=Dl.out.run.pool GL.out FB.out;obtain⟨Dq,zr⟩:=Run.keepRow Dl.out.tab Dl.out.row Br;exact⟨j+1,_,_,rfl,by omega,wu,Dq,zr,Dl.out.tr.step HJ.out.fk.one HX.out (pY (by decide) (by decide) n1) (fun _ =>rfl) h7 HW.out HGG.out⟩
      case measure=>(simp[intOf];omega)
    ·obtain rfl:j=T.puts.length:=(by omega);have NS:=HJ.out.fk.done yQ.out (uN _) (by decide) (by decide) hj.tr (uN _);have Np:=hj.run.one.row;have xG:=qH A n cap rl wr.drew (Np.below ((vj wr.heap.size wr).drew) (uN _)) Mg;have Ua:Calls Tryz.prog 57 #[.slice A n cap] wr.drew fun e W=> ∃A5 AK,e= .returned (.slice A5 n AK)/\Hid (OwnR W wr.heap.size A5 AK rl)/\Hid (Below wr.heap.size wr W):=by
      refine xG.mono ?_;rintro e W ⟨A5,AK,rfl,LG,MF⟩;exact⟨A5,AK,rfl,uK LG,uK (bC MF)⟩
     have s0:wr.cell? ⟨s,0,none⟩=some (.pointer (some ⟨c,0,none⟩)):=aa hj.run.one.self 0;have s1:wr.cell? ⟨s,1,none⟩=some (.pointer (some ⟨a,0,none⟩)):=aa hj.run.one.self 1;have s3:wr.cell? ⟨s,3,none⟩=some (.slice A n cap):=aa hj.run.one.self 3;have Nm:s<wr.heap.size:=hj.run.one.lts.1;have VS:=uK NS;have AN:=uK Ua;have Oy:=uK hj;clear NS Np xG Ua hj;go_upto_region 22 with(fail);go_region_held3 (fun w'=>w'.cell? ⟨s,0,none⟩=some (.pointer (some ⟨c,0,none⟩))/\w'.cell? ⟨s,1,none⟩=some (.pointer (some ⟨a,0,none⟩))/\w'.cell? ⟨s,3,none⟩=some (.slice A n cap))
      (go_keep)
      ((first
      |(go_at_call 57;refine(AN.out).mono ?_;rintro e W5 ⟨A5,AK,rfl,CS,Ar⟩;have d0:W5.cell? ⟨s,0,none⟩=some (.pointer (some ⟨c,0,none⟩)):=(Ar.out.cell Nm).trans s0;have d1:W5.cell? ⟨s,1,none⟩=some (.pointer (some ⟨a,0,none⟩)):=(Ar.out.cell Nm).trans s1;have d3:W5.cell? ⟨s,3,none⟩=some (.slice A n cap):=(Ar.out.cell Nm).trans s3)))
     all_goals
      go_wp2_with fail;go_ret2;have Ji:=(Ar.out).alloc Ar.out.size (.cells #[.pointer (some ⟨c,0,none⟩), .pointer (some ⟨a,0,none⟩), .pointer (some ⟨t2,0,none⟩), .slice A5 n AK] 122);have Bh:=Oy.out.run.below Ji;have BU:=Oy.out.run.own t2 (.inl rfl);have Lw:=Ar.out.size;have hlen:=Oy.out.run.one.row.len;have Nq:=CS.out.row;have zA:=Oy.out.run.home.lts;have hbB:=(vj W5.heap.size W5).alloc (uN _) (.cells #[.pointer (some ⟨c,0,none⟩), .pointer (some ⟨a,0,none⟩), .pointer (some ⟨t2,0,none⟩), .slice A5 n AK] 122);refine .inr ⟨W5.heap.size,t2,f,p3,L2,T3,T2,S2,A5,AK,rfl,Bh.home,Bh.one,⟨ab _ _,(Ji.block t2 BU.2.2).trans Oy.out.tab,?_,⟨fun e=>by have:=zA.2.2 _ e;omega,by omega,by omega,by omega⟩,⟨BU.1,by omega,by omega,by omega⟩,fun ad e=>?_⟩,HJ.out.nd,by omega,BU.2.1,fun ad e=>?_,Bh.mod,Bh.out,VS.out⟩
      ·have h9:=CS.out.rsl (by rw[hlen];omega);rw[hlen]at h9;exact(h9.below hbB (uN _)).more (by simp)
      ·have h9:=Nq ad.block (by rw[e];rfl);refine⟨fun e=>by have:=zA.2.2 _ e;omega,by omega,by omega,by omega,by omega,by omega,by simp;omega⟩
      ·have h9:=Nq ad.block (by rw[e];rfl);omega
end
