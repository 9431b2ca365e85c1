/- Spaces: Fork. -/
import Derived.Test.YtoochjhipmpehaaGreatDoorPcK
import Derived.Test.YtoochjhipmpehaaGreatDoorSaK
import Derived.Test.YtoochjhipmpehaaGreatDoorSpOK
set_option linter.unusedVariables false
set_option linter.unusedSimpArgs false
set_option maxRecDepth 100000
set_option maxHeartbeats 8000000
namespace Go.Proofs.YtoochjhipmpehaaGreatDoor
section
open Go.RowKit Go.Sort
section
variable {w W W':World} {G K:Nat->Prop} {B c a fs m s t root:Nat} {A:Option Addr} {n cap:Nat} {rl:List Reg} {S0 S S':Nat->Prop} {F:List Nd} {clock vB:Int} {p p':Pool} {L L':List Slot}
theorem Run.add (h:Run w W G K B c a fs m s t root A n cap rl S0 S F clock p L) {K':Nat->Prop} (hA: ∀ad,A=some ad->ad.block<w.heap.size) (hK: ∀b,K' b->K b\/(¬S b/\w.heap.size<=b/\b<W.heap.size)):Run w W G K' B c a fs m s t root A n cap rl S0 S F clock p L:=
 ⟨h.home,h.one,h.mod,h.out,h.foot,h.low,fun b hb=>(hK b hb).elim (h.own b) id,fun ad e x=>(hK _ x).elim (h.row ad e) (fun y=>by have:=hA ad e;omega)⟩
end
structure qv (F:List Nd) (hold:Nat->Nat) (p:Pool) (L:List Slot) (T:Tab) (p':Pool) (L':List Slot):Prop where
 sp:Sp F hold p' L' T
 far: ∀E,Far hold T E p p'
 dat: ∀x,0<ah T x->p'.dat x=p.dat x
 own:Own p T->Own p' T
 full:Full hold p T\/ ∃k p1 L1 T2,bB F hold p L T k p1 L1 T2/\Full (fun x=>hold x+tn T x) p1 T2
def ForkPost (w:World) (B c a fs m s t root:Nat) (A:Option Addr) (n cap:Nat) (rl:List Reg) (S:Nat->Prop) (F:List Nd) (clock:Int) (p:Pool) (L:List Slot) (T:Tab) (hold:Nat->Nat) (e:Ending) (w':World):Prop:=
 (∃p' L' S',e= .returned (.tuple #[.pointer none, .int .i64 4])/\Home w' B c a fs m S' F clock p' L'/\One w' B c a m S' s t root A n cap rl/\Mod (aw S c m) w w'/\Out S S' w/\qv F hold p L T p' L')\/
 (∃s2 t2 f p' L' T' T2 S' A' vA,e= .returned (.tuple #[.pointer (some ⟨s2,0,none⟩), .int .i64 0])/\Home w' B c a fs m S' F clock p' L'/\One w' B c a m S' s t root A n cap rl/\One w' B c a m S' s2 t2 f A' n vA rl/\T2.nd 4 0=some f/\w.heap.size<=s2/\w.heap.size<=t2/\(∀ad,A'=some ad->w.heap.size<=ad.block)/\Mod (aw S c m) w w'/\Out S S' w/\gZ F hold p L T p' L' T' T2)
structure FkJ (w:World) (bs:Nat) (B c a fs m s t root:Nat) (A:Option Addr) (n cap:Nat) (rl:List Reg) (S:Nat->Prop) (F:List Nd) (clock:Int) (p:Pool) (L:List Slot) (T:Tab) (hold:Nat->Nat) (t2 f:Nat) (R:Option Addr) (cp k:Nat) (W:World) (S':Nat->Prop) (p':Pool) (L':List Slot) (T2:Tab):Prop where
 run:Run w W (aw S c m) (fun b=>b=t2\/R.map (·.block)=some b) B c a fs m s t root A n cap rl S S' F clock p' L'
 tab:al W t2 c a f
 row:OwnP W bs R cp T.puts
 fk:bB F hold p L T k p' L' T2
 nd:T2.nd 4 0=some f
structure FkT (w:World) (bs:Nat) (B c a fs m s t root:Nat) (A:Option Addr) (n cap:Nat) (rl:List Reg) (S:Nat->Prop) (F:List Nd) (clock:Int) (p1:Pool) (L1:List Slot) (T:Tab) (hold:Nat->Nat) (t2 f:Nat) (R:Option Addr) (cp k:Nat) (W:World) (S':Nat->Prop) (T2:Tab) (p':Pool) (T':Tab):Prop where
 run:Run w W (aw S c m) (fun b=>b=t2\/R.map (·.block)=some b) B c a fs m s t root A n cap rl S S' F clock p' L1
 tab:al W t2 c a f
 row:OwnP W bs R cp T.puts
 tr:bJ F (fun x=>hold x+tn T2 x) cpy 0 18446744073709551615 p1 L1 T k p' T'
variable {W W':World} {c a t2:Nat}
theorem Run.keepRow {R:Option Addr} {bs cp:Nat} {ps:List (Nat×Leaf)} {f:Nat} (ht:al W t2 c a f) (hr:OwnP W bs R cp ps) (hk: ∀b,(b=t2\/R.map (·.block)=some b)->W'.heap[b]? =W.heap[b]?):al W' t2 c a f/\OwnP W' bs R cp ps:=
 ⟨(hk t2 (.inl rfl)).trans ht,hr.same fun g hg=>hk g (.inr (by rw[hg];rfl))⟩
variable {w:World} {cap:Nat} {A:Option Addr} {F:List Nd} {p p':Pool} {L:List Slot}
theorem Run.freed {K:Nat->Prop} {B fs m s t root n:Nat} {rl:List Reg} {S0 S:Nat->Prop} {clock:Int} (h:Run w W (aw S0 c m) K B c a fs m s t root A n cap rl S0 S F clock p L) (hC:ar W' S c a fs m clock p' L) (hm:Mod (fun b=>S b\/b=t2) W W') (DC:w.heap.size<=t2) (hA: ∀ad,A=some ad->ad.block<w.heap.size):
  Home W' B c a fs m S F clock p' L/\One W' B c a m S s t root A n cap rl/\Mod (aw S0 c m) w W':=by
 obtain⟨l1,l2,l3,l4,l5⟩:=h.low;have hz:=h.mod.size;have wm:=hm.size;have hB:=h.home.base;have NB:=h.home.lows;obtain⟨w1,B1,nb,c2,ad,mp,f1,f2,f3⟩:=h.home.files;have xj:=h.one;refine⟨⟨hC,⟨w1,B1,nb,c2,ad,mp,f1,f2,f3.trans (hm.below (fun b hb=>hb.elim (h.home.low b) (fun e=>by omega)) hB)⟩,h.home.bytes,h.home.low,NB⟩,⟨(hm.block s xj.lts.1 (fun e=>e.elim xj.noS.1 (fun e=>by omega))).trans xj.self,(hm.block t xj.lts.2.1 (fun e=>e.elim xj.noT.1 (fun e=>by omega))).trans xj.tab,xj.row.mod hm (fun ad e e2=>e2.elim (xj.noR ad e).1 (fun e2=>by have:=hA ad e;omega)),xj.noS,xj.noT,fun ad e=>by
  obtain⟨n1,n2,n3,n4,n5,n6,n7⟩:=xj.noR ad e;exact⟨n1,n2,n3,n4,n5,n6,by omega⟩⟩,?_⟩
 exact((h.mod.sub (T:=fun b=>aw S0 c m b\/w.heap.size<=b) fun b e=> .inl e).trans (Out.refl _ _) (hm.sub fun b e=>by
  rcases e with e|e
  ·exact(h.out b e).imp (fun e=> .inl e) id
  ·exact .inr (by omega))).own fun b e=>e
theorem OwnP.blk2 {base:Nat} {l:List (Nat×Leaf)} (h:OwnP w base A cap l): ∀g,A.map (·.block)=some g->base<=g/\g<w.heap.size:=fun g e=>by
 rcases h.form with⟨h2,_⟩|⟨g',h1,h2,h3,_⟩
 ·rw[h2]at e;cases e
 ·rw[h1]at e;simp at e;subst e;exact⟨h2,h3⟩
variable {hold:Nat->Nat} {T:Tab}
theorem Tab.Good.puts_few (h:Sp F hold p L T):T.puts.length<=525312:=by
 refine vx (cL (fun e=>?_) _) h.good.ok.short;cases e<;>simp[Ev.ls]
theorem bB.tnle {L':List Slot} {T2:Tab} {k:Nat} (h0:Sp F hold p L T) (h:bB F hold p L T k p' L' T2) (x:Nat):tn T2 x<=525314:=by
 have h1:ah T2 x<=525312:=by
  rw[<-h.two.good.ok.leaves_cnt x];exact vx List.countP_le_length (Tab.Good.puts_few h.two)
 have h4:az T2 x<=1:=by
  by_cases e:an T2 x
  ·rw[ao e];exact vd _
  ·rw[aE e];exact vw _
 unfold tn;omega
theorem sF (B c a fs m s t root n cap:Nat) (A:Option Addr) (rl:List Reg) (clock:Int) (w:World) (S:Nat->Prop) (F:List Nd) (p:Pool) (L:List Slot) (T:Tab) (hold:Nat->Nat)
  (hH:Home w B c a fs m S F clock p L) (hO:One w B c a m S s t root A n cap rl) (ya:Sp F hold p L T) (hr:T.nd 4 0=some root) (wY: ∀f,hold f<=100000000000) (wk: ∀g l,T.lf g=some l->g<34359738368) (LX:n<900000):
  Calls Tryz.prog 32 #[.pointer (some ⟨s,0,none⟩)] w (ForkPost w B c a fs m s t root A n cap rl S F clock p L T hold):=by
 have xM:=dH s c a t n cap A w hO.self;have hnew:=pJ c a fs m clock w S p L hH.cache;have xz:=Run.start hH hO (fun _ e=>e);have hAw: ∀ad,A=some ad->ad.block<w.heap.size:=fun ad e=>(hO.noR ad e).2.2.2.2.2.2;have s0:w.cell? ⟨s,0,none⟩=some (.pointer (some ⟨c,0,none⟩)):=aa hO.self 0;have wN:=va xM;have yu:=va hnew;have VH:=va xz;have yo:=va ya;have HR:=va hr;have HH:=va hH;have HO:=va hO;have Tu:=hH.lts.2.1;have Xk:=hH.lts.1;have Aa:=hH.base;have xr:=hH.lows.2.2;clear xM hnew xz ya hr hH hO;go_enter Tryz.func32,Tryz.ntmps32;go_wp2_with (first
  |(go_at_call 56;refine(wN.out).mono ?_;rintro e w1 ⟨rfl,rfl⟩)
  |fail)
 refine(yu.out).mono ?_;rintro e w1 (⟨f,p1,L1,S1,t2,rfl,Hd,Aw,xJ,wi,DC,Su,Yk,vO⟩|⟨f,p1,L1,S1,rfl,Hd,xJ,wi,vO,hp1,DQ⟩)
 rotate_left
 ·subst hp1 DQ;have CY:=va Hd;have Gv:=va xJ;have vS:=va wi;have wC:=va vO;clear Hd xJ wi vO;go_wp2_with fail;go_ret2;have hm:Mod (aw S c m) w w1:=Gv.out.sub fun b e=>e.elim .inl fun e=> .inr (.inl e);obtain⟨vV,_⟩:=VH.out.call CY.out hm vS.out;exact .inl ⟨p1,L1,S1,rfl,vV.home,vV.one,vV.mod,vV.out,yo.out,fun _ =>Far.refl,fun _ _ =>rfl,id, .inl (yo.out.full wC.out)⟩
 have hm:Mod (aw S c m) w w1:=xJ.sub fun b e=>e.elim .inl fun e=> .inr (.inl e);obtain⟨vV,_⟩:=VH.out.call Hd hm wi;have PI:=bB.start yo.out yo.out.good.but.few vO;have xk:Calls Tryz.prog 34 #[.pointer (some ⟨t,0,none⟩)] w1 (uO OwnP w1 T.puts):=pO t c a root w1 S1 p1 T (held L1 (fun x=>hold x+tn (aG f) x)) 0 vV.home.cache.pool vV.one.tab PI.one.good HR.out;have Jv:=vV.add (K':=fun b=>b=t2) hAw (fun b e=> .inr ⟨e▸Yk,e▸DC,e▸Su⟩);have s2:w1.cell? ⟨s,2,none⟩=some (.pointer (some ⟨t,0,none⟩)):=aa vV.one.self 2;have hw01:w.heap.size<=w1.heap.size:=hm.size;have Dq:=va Jv;have Wp:=va PI;have MX:=va xk;have zr:=va Aw;clear hm vV Jv PI xk Aw Hd xJ wi vO;go_wp2_with (first
  |(go_at_call 34;refine(MX.out).mono ?_;rintro e w2 ⟨R,cp,rfl,xg,vM⟩)
  |fail)
 have De:T.puts.length<=525312:=Tab.Good.puts_few yo.out;have Dh:FkJ w w1.heap.size B c a fs m s t root A n cap rl S F clock p L T hold t2 f R cp 0 w2 S1 p1 L1 (aG f):=
  ⟨(
   Dq.out.below vM).sub (fun b e=>by
   rcases e with e|e
   ·exact .inl e
   ·exact .inr (xg.blk2 b e)),(vM.block _ Su).trans zr.out,xg,Wp.out,dK f⟩
 have LD:=va Dh;clear Dh xg vM s2;go_loopw [32] (fun i wr=> ∃(k:Nat) (S':Nat->Prop) (p':Pool) (L':List Slot) (T2:Tab),i= .int .i64 (k:Int)/\k<=T.puts.length/\FkJ w w1.heap.size B c a fs m s t root A n cap rl S F clock p L T hold t2 f R cp k wr S' p' L' T2) (fun i _ =>T.puts.length-(intOf i).toNat)
 case atStart=>exact⟨0,S1,p1,L1,aG f,rfl,vw _,LD.out⟩
 case round=>
  obtain⟨k,S2,p2,L2,T2,rfl,hk,hj⟩:=hrel;clear LD Wp MX Dq zr;by_cases xP:k<T.puts.length
  ·obtain⟨⟨pg,fq,pr,cb⟩,hx⟩: ∃x,T.puts[k]? =some x:=⟨T.puts[k],vg xP⟩;rcases hj.row.form with⟨_,h2,_⟩|⟨g,ym,xT,Cz,DL⟩
   ·rw[h2]at xP;exact absurd xP (Nat.not_lt_zero _)
   subst ym;obtain⟨e0,e1,e2,e3⟩:=hj.row.elem hx;dsimp only at e0 e1 e2 e3;obtain⟨ad,zD⟩: ∃ad:Int,ad=((pg*4096:Nat):Int):=⟨_,rfl⟩;rw[<-zD]at e0;obtain⟨n1,n2,n3,n4,n5,n6⟩:=hj.fk.next yo.out hx;dsimp only at n2 n3 n4 n5 n6;have yt:=wk pg _ (yo.out.good.ok.puts_at hx);have yw:=hj.fk.fresh hx;dsimp only at yw;obtain⟨W3,AT⟩: ∃W3,W3=wr.alloc (.cells #[.int .u64 ad, .int .i64 (fq:Int), .int .u8 (pr:Int), .bool true] 85):=⟨_,rfl⟩;have vX:Below wr.heap.size wr W3:=(by rw[AT];exact vc);have Ck:W3.heap[wr.heap.size]? =some (.cells #[.int .u64 ad, .int .i64 (fq:Int), .int .u8 (pr:Int), .bool true] 85 (0,0)):=(by rw[AT];exact ab wr _);have Dg:FkJ w w1.heap.size B c a fs m s t root A n cap rl S F clock p L T hold t2 f (some ⟨g,0,none⟩) cp k W3 S2 p2 L2 T2:=⟨(hj.run.below vX).sub (fun b e=> .inl e),(vX.block _ (uZ hj.tab).1).trans hj.tab,hj.row.kept vX,hj.fk,hj.nd⟩;have yZ:ad.toNat/4096=pg:=(by omega);have BO:=Dg.run.own t2 (.inl rfl);have hmap:=lz t2 c a f fs m clock ad fq pr true W3 S2 p2 T2 L2 (fun y=>hold y+tn T y) 0 ⟨fq,pr,true⟩ Dg.run.home.cache Dg.tab BO.1 (by omega) Dg.fk.two.good Dg.nd (by omega) (by omega) (by omega) (by omega) (by rw[aR n3];omega) (by rw[yZ,yw];rfl) rfl rfl rfl n3 n4 (by have h8:=Dg.fk.one.cap n3;have h7:=wY fq;have h5:=Dg.fk.tnle yo.out fq;show p2.cnt fq+1<_;omega);rw[yZ]at hmap;have y0:W3.cell? ⟨wr.heap.size,0,none⟩=some (.int .u64 ad):=aa Ck 0;have y1:W3.cell? ⟨wr.heap.size,1,none⟩=some (.int .i64 (fq:Int)):=aa Ck 1;have y2:W3.cell? ⟨wr.heap.size,2,none⟩=some (.int .u8 (pr:Int)):=aa Ck 2;have y3:W3.cell? ⟨wr.heap.size,3,none⟩=some (.bool true):=aa Ck 3;have HX:=va hx;have CX:=va Dg;have Gu:=va hmap;have Cp:=va AT;have Ot:=va BO;clear hx Dg hmap AT zD hj vX Ck n5 n6 yw yZ BO;go_upto_region 11 with(fail);rw[<-Cp.out];go_upto_region 12 with(first
    |(go_at_call 72;refine(Gu.out).mono ?_;rintro e W4 ⟨er,p4,T4,L4,S4,rfl,Dm,xq,Ag,Bb,GU⟩)
    |fail)
   obtain⟨wG,Bi⟩:=CX.out.run.call Dm (xq.sub fun b e=>e.elim .inl fun e=> .inr (.inl e)) Ag;obtain⟨Dc,zd⟩:=Run.keepRow CX.out.tab CX.out.row Bi;by_cases zo:er=0
   ·subst zo;have hj4:FkJ w w1.heap.size B c a fs m s t root A n cap rl S F clock p L T hold t2 f (some ⟨g,0,none⟩) cp (k+1) W4 S4 p4 L4 T4:=⟨wG,Dc,zd,CX.out.fk.step yo.out HX.out Bb GU,Bb.mono 4 0 f CX.out.nd⟩;have HJ4:=va hj4;clear wG Bi Dc zd Dm xq Ag Bb GU hj4;go_wp2_with fail;go_roundw
    case rel=>exact⟨k+1,S4,p4,L4,T4,rfl,by omega,HJ4.out⟩
    case measure=>(simp[intOf];omega)
   ·have vK:(er != 0)=true:=(by rw[bne_iff_ne];exact zo);obtain⟨Kg,Fk,PH,EY⟩:=CX.out.fk.fail yo.out HX.out zo Bb GU;subst Kg;have BO:=wG.own t2 (.inl rfl);have hfree:=mL t2 c a f W4 S4 p4 T2 (held L4 (fun y=>hold y+tn T y)) 0 wG.home.cache.pool Dc BO.1 (by omega) PH.two.good CX.out.nd;have Fs:=va hfree;have xx:=va wG;have QS:=va PH;have KZ:=va EY;have HT2O:=va BO;clear hfree wG PH EY Fk BO Bi Dc zd Dm xq Ag Bb GU zo;go_wp2_with (first
     |(go_at_call 58;refine(Fs.out).mono ?_;rintro e W5 ⟨rfl,IN,xf,_⟩)
     |fail)
    go_ret2;obtain⟨v1,v2,v3,v4⟩:=QS.out.undo yo.out;obtain⟨z1,z2,z3⟩:=HT2O.out;have Cd:=xx.out.home.cache;have CQ:ar W5 S4 c a fs m clock (cj p4 ((T2.evs 4 0).flatMap Ev.fs)) L4:=⟨IN,(xf.block c Cd.lts.1 (fun e=>e.elim Cd.noC (fun e=>by omega))).trans Cd.self,Cd.slots.same (xf.block m Cd.lts.2.1 (fun e=>e.elim Cd.noM (fun e=>by omega))),Cd.noC,Cd.noM⟩;obtain⟨RM,Lu,yU⟩:=Run.freed xx.out CQ xf z2 hAw;exact .inl ⟨_,L4,S4,rfl,RM,Lu,yU,xx.out.out,v1,v2,v3,v4, .inr ⟨k,p2,L2,T2,CX.out.fk,KZ.out⟩⟩
  ·obtain rfl:k=T.puts.length:=(by omega);have HJ:=va hj;have hjt:FkT w w1.heap.size B c a fs m s t root A n cap rl S F clock p2 L2 T hold t2 f R cp 0 wr S2 T2 p2 T:=⟨hj.run,hj.tab,hj.row,bJ.start hj.fk.one⟩;have Ou:=va hjt;clear hj hjt;go_wp2_with fail;go_loopw [52] (fun i wx=> ∃(j:Nat) (p':Pool) (T':Tab),i= .int .i64 (j:Int)/\j<=T.puts.length/\FkT w w1.heap.size B c a fs m s t root A n cap rl S F clock p2 L2 T hold t2 f R cp j wx S2 T2 p' T') (fun i _ =>T.puts.length-(intOf i).toNat)
   case atStart=>exact⟨0,p2,T,rfl,vw _,Ou.out⟩
   case round=>
    obtain⟨j,p3,T3,rfl,Bq,hj⟩:=hrel;clear Ou;by_cases zn:j<T.puts.length
    ·obtain⟨⟨pg,fq,pr,cb⟩,hx⟩: ∃x,T.puts[j]? =some x:=⟨T.puts[j],vg zn⟩;rcases hj.row.form with⟨_,h2,_⟩|⟨g,ym,xT,Cz,DL⟩
     ·rw[h2]at zn;exact absurd zn (Nat.not_lt_zero _)
     subst ym;obtain⟨e0,e1,e2,e3⟩:=hj.row.elem hx;dsimp only at e0 e1 e2 e3;obtain⟨ad,zD⟩: ∃ad:Int,ad=((pg*4096:Nat):Int):=⟨_,rfl⟩;rw[<-zD]at e0;obtain⟨was,hw,Fv⟩:=hj.tr.was HJ.out.fk.one hx (fun _ =>rfl);dsimp only at hw Fv;obtain⟨gg,PE⟩:=hj.tr.sp.node1 hw;obtain⟨n1,n2,n3,n4,n5,n6⟩:=hj.tr.sp.leaf hw;have h7:=(yo.out.leaf (yo.out.good.ok.puts_at hx)).2.1;dsimp only at h7;rw[Fv]at n3 n4;have yt:=wk pg _ (yo.out.good.ok.puts_at hx);obtain⟨W3,AT⟩: ∃W3,W3=wr.alloc (.cells #[.int .u64 ad, .int .i64 (fq:Int), .int .u8 (pr:Int), .bool true] 85):=⟨_,rfl⟩;have vX:Below wr.heap.size wr W3:=(by rw[AT];exact vc);have Ck:W3.heap[wr.heap.size]? =some (.cells #[.int .u64 ad, .int .i64 (fq:Int), .int .u8 (pr:Int), .bool true] 85 (0,0)):=(by rw[AT];exact ab wr _);have Dg:FkT w w1.heap.size B c a fs m s t root A n cap rl S F clock p2 L2 T hold t2 f (some ⟨g,0,none⟩) cp j W3 S2 T2 p3 T3:=⟨(hj.run.below vX).sub (fun b e=> .inl e),(vX.block _ (uZ hj.tab).1).trans hj.tab,hj.row.kept vX,hj.tr⟩;have wJ:T3.nd 4 0=some root:=(by rw[hj.tr.nd];exact HR.out);have xy:=gu t c a root 0 ad ⟨fq,pr,true⟩ W3.drew S2 p3 T3 (held L2 (fun y=>hold y+tn T2 y)) Dg.run.home.cache.pool.drew Dg.run.one.tab Dg.run.one.noT.1 Dg.tr.sp.good wJ (by omega) h7 n3 n4 (by have h9:=Dg.tr.sp.cap n3;have h8:=wY fq;have h5:=HJ.out.fk.tnle yo.out fq;show p3.cnt fq+1<_;omega) (fq:Int) (pr:Int) rfl rfl;have zH:Calls Tryz.prog 69 #[.pointer (some ⟨t,0,none⟩), .int .u64 ad, .agg #[.int .i64 (fq:Int), .int .u8 (pr:Int), .bool true]] W3.drew fun e W=>e= .returned (.int .i64 0)/\Hid (am W S2 a (bg p3 was ⟨fq,pr,true⟩ gg pg))/\Hid (Mod S2 W3 W):=by
      refine xy.mono ?_;rw[fz (was:=was) (g:=gg) (by rw[zD];omega) yt (by omega) (by rw[aR n3];omega) hw PE];rintro e W ⟨rfl,hP,BX⟩;exact⟨rfl,va (by simpa using hP),va BX.undrew⟩
     have s2:W3.cell? ⟨s,2,none⟩=some (.pointer (some ⟨t,0,none⟩)):=aa Dg.run.one.self 2;have y0:W3.cell? ⟨wr.heap.size,0,none⟩=some (.int .u64 ad):=aa Ck 0;have y1:W3.cell? ⟨wr.heap.size,1,none⟩=some (.int .i64 (fq:Int)):=aa Ck 1;have y2:W3.cell? ⟨wr.heap.size,2,none⟩=some (.int .u8 (pr:Int)):=aa Ck 2;have y3:W3.cell? ⟨wr.heap.size,3,none⟩=some (.bool true):=aa Ck 3;have HX:=va hx;have CX:=va Dg;have DX:=va zH;have Cp:=va AT;have HW:=va hw;have HGG:=va PE;clear hx Dg xy zH AT zD hj vX Ck hw PE Fv n5 n6 wJ;go_upto_region 20 with(fail);rw[<-Cp.out];go_region_with ((first
      |(go_at_call 69;refine(DX.out).mono ?_;rintro e W4 ⟨rfl,KQ,CF⟩)))
     all_goals
      go_wp2_with fail;go_roundw
      case rel=>
       obtain⟨wG,Bi⟩:=CX.out.run.pool KQ.out CF.out;obtain⟨Dc,zd⟩:=Run.keepRow CX.out.tab CX.out.row Bi;exact⟨j+1,_,_,rfl,by omega,wG,Dc,zd,CX.out.tr.step HJ.out.fk.one HX.out (qj (by decide) (by decide) n1) (fun _ =>rfl) h7 HW.out HGG.out⟩
      case measure=>(simp[intOf];omega)
    ·obtain rfl:j=T.puts.length:=(by omega);have NM:=HJ.out.fk.done yo.out (vd _) (by decide) (by decide) hj.tr (vd _);have Nk:=hj.run.one.row;have zL:=kS A n cap rl wr.drew (Nk.below ((vz wr.heap.size wr).drew) (vd _)) LX;have Uo:Calls Tryz.prog 57 #[.slice A n cap] wr.drew fun e W=> ∃A5 zE,e= .returned (.slice A5 n zE)/\Hid (OwnR W wr.heap.size A5 zE rl)/\Hid (Below wr.heap.size wr W):=by
      refine zL.mono ?_;rintro e W ⟨A5,zE,rfl,Lu,Mw⟩;exact⟨A5,zE,rfl,va Lu,va (bA Mw)⟩
     have s0:wr.cell? ⟨s,0,none⟩=some (.pointer (some ⟨c,0,none⟩)):=aa hj.run.one.self 0;have s1:wr.cell? ⟨s,1,none⟩=some (.pointer (some ⟨a,0,none⟩)):=aa hj.run.one.self 1;have s3:wr.cell? ⟨s,3,none⟩=some (.slice A n cap):=aa hj.run.one.self 3;have Ni:s<wr.heap.size:=hj.run.one.lts.1;have Ws:=va NM;have Lc:=va Uo;have Ou:=va hj;clear NM Nk zL Uo hj;go_upto_region 22 with(fail);go_region_held3 (fun w'=>w'.cell? ⟨s,0,none⟩=some (.pointer (some ⟨c,0,none⟩))/\w'.cell? ⟨s,1,none⟩=some (.pointer (some ⟨a,0,none⟩))/\w'.cell? ⟨s,3,none⟩=some (.slice A n cap))
      (go_keep)
      ((first
      |(go_at_call 57;refine(Lc.out).mono ?_;rintro e W5 ⟨A5,zE,rfl,CE,Ae⟩;have d0:W5.cell? ⟨s,0,none⟩=some (.pointer (some ⟨c,0,none⟩)):=(Ae.out.cell Ni).trans s0;have d1:W5.cell? ⟨s,1,none⟩=some (.pointer (some ⟨a,0,none⟩)):=(Ae.out.cell Ni).trans s1;have d3:W5.cell? ⟨s,3,none⟩=some (.slice A n cap):=(Ae.out.cell Ni).trans s3)))
     all_goals
      go_wp2_with fail;go_ret2;have Gf:=(Ae.out).alloc Ae.out.size (.cells #[.pointer (some ⟨c,0,none⟩), .pointer (some ⟨a,0,none⟩), .pointer (some ⟨t2,0,none⟩), .slice A5 n zE] 122);have AY:=Ou.out.run.below Gf;have BO:=Ou.out.run.own t2 (.inl rfl);have Lh:=Ae.out.size;have hlen:=Ou.out.run.one.row.len;have Nl:=CE.out.row;have zk:=Ou.out.run.home.lts;have hbB:=(vz W5.heap.size W5).alloc (vd _) (.cells #[.pointer (some ⟨c,0,none⟩), .pointer (some ⟨a,0,none⟩), .pointer (some ⟨t2,0,none⟩), .slice A5 n zE] 122);refine .inr ⟨W5.heap.size,t2,f,p3,L2,T3,T2,S2,A5,zE,rfl,AY.home,AY.one,⟨ab _ _,(Gf.block t2 BO.2.2).trans Ou.out.tab,?_,⟨fun e=>by have:=zk.2.2 _ e;omega,by omega,by omega,by omega⟩,⟨BO.1,by omega,by omega,by omega⟩,fun ad e=>?_⟩,HJ.out.nd,by omega,BO.2.1,fun ad e=>?_,AY.mod,AY.out,Ws.out⟩
      ·have h9:=CE.out.rsl (by rw[hlen];omega);rw[hlen]at h9;exact(h9.below hbB (vd _)).more (by simp)
      ·have h9:=Nl ad.block (by rw[e];rfl);refine⟨fun e=>by have:=zk.2.2 _ e;omega,by omega,by omega,by omega,by omega,by omega,by simp;omega⟩
      ·have h9:=Nl ad.block (by rw[e];rfl);omega
end
