/- Spaces: Fork. -/
import Derived.Test.YtoochjhipmpehaaGreatDoorPcK
import Derived.Test.YtoochjhipmpehaaGreatDoorSaK
import Derived.Test.YtoochjhipmpehaaGreatDoorSpOK
set_option linter.unusedVariables false
set_option linter.unusedSimpArgs false
set_option maxRecDepth 100000
set_option maxHeartbeats 8000000
namespace Go.Proofs.YtoochjhipmpehaaGreatDoor
section
open Go.RowKit Go.Sort
section
variable {w W W':World} {G K:Nat->Prop} {B c a fs m s t root:Nat} {A:Option Addr} {n cap:Nat} {rl:List Reg} {S0 S S':Nat->Prop} {F:List Nd} {clock vQ:Int} {p p':Pool} {L L':List Slot}
theorem Run.add (h:Run w W G K B c a fs m s t root A n cap rl S0 S F clock p L) {K':Nat->Prop} (hA: ∀ad,A=some ad->ad.block<w.heap.size) (hK: ∀b,K' b->K b\/(¬S b/\w.heap.size<=b/\b<W.heap.size)):Run w W G K' B c a fs m s t root A n cap rl S0 S F clock p L:=
 ⟨h.home,h.one,h.mod,h.out,h.foot,h.low,fun b hb=>(hK b hb).elim (h.own b) id,fun ad e x=>(hK _ x).elim (h.row ad e) (fun y=>by have:=hA ad e;omega)⟩
end
structure qr (F:List Nd) (hold:Nat->Nat) (p:Pool) (L:List Slot) (T:Tab) (p':Pool) (L':List Slot):Prop where
 sp:Sp F hold p' L' T
 far: ∀E,Far hold T E p p'
 dat: ∀x,0<ah T x->p'.dat x=p.dat x
 own:Own p T->Own p' T
 full:Full hold p T\/ ∃k p1 L1 T2,bz F hold p L T k p1 L1 T2/\Full (fun x=>hold x+tn T x) p1 T2
def ForkPost (w:World) (B c a fs m s t root:Nat) (A:Option Addr) (n cap:Nat) (rl:List Reg) (S:Nat->Prop) (F:List Nd) (clock:Int) (p:Pool) (L:List Slot) (T:Tab) (hold:Nat->Nat) (e:Ending) (w':World):Prop:=
 (∃p' L' S',e= .returned (.tuple #[.pointer none, .int .i64 4])/\Home w' B c a fs m S' F clock p' L'/\One w' B c a m S' s t root A n cap rl/\Mod (aw S c m) w w'/\Out S S' w/\qr F hold p L T p' L')\/
 (∃s2 t2 f p' L' T' T2 S' A' vP,e= .returned (.tuple #[.pointer (some ⟨s2,0,none⟩), .int .i64 0])/\Home w' B c a fs m S' F clock p' L'/\One w' B c a m S' s t root A n cap rl/\One w' B c a m S' s2 t2 f A' n vP rl/\T2.nd 4 0=some f/\w.heap.size<=s2/\w.heap.size<=t2/\(∀ad,A'=some ad->w.heap.size<=ad.block)/\Mod (aw S c m) w w'/\Out S S' w/\gX F hold p L T p' L' T' T2)
structure FkJ (w:World) (bs:Nat) (B c a fs m s t root:Nat) (A:Option Addr) (n cap:Nat) (rl:List Reg) (S:Nat->Prop) (F:List Nd) (clock:Int) (p:Pool) (L:List Slot) (T:Tab) (hold:Nat->Nat) (t2 f:Nat) (R:Option Addr) (cp k:Nat) (W:World) (S':Nat->Prop) (p':Pool) (L':List Slot) (T2:Tab):Prop where
 run:Run w W (aw S c m) (fun b=>b=t2\/R.map (·.block)=some b) B c a fs m s t root A n cap rl S S' F clock p' L'
 tab:al W t2 c a f
 row:OwnP W bs R cp T.puts
 fk:bz F hold p L T k p' L' T2
 nd:T2.nd 4 0=some f
structure FkT (w:World) (bs:Nat) (B c a fs m s t root:Nat) (A:Option Addr) (n cap:Nat) (rl:List Reg) (S:Nat->Prop) (F:List Nd) (clock:Int) (p1:Pool) (L1:List Slot) (T:Tab) (hold:Nat->Nat) (t2 f:Nat) (R:Option Addr) (cp k:Nat) (W:World) (S':Nat->Prop) (T2:Tab) (p':Pool) (T':Tab):Prop where
 run:Run w W (aw S c m) (fun b=>b=t2\/R.map (·.block)=some b) B c a fs m s t root A n cap rl S S' F clock p' L1
 tab:al W t2 c a f
 row:OwnP W bs R cp T.puts
 tr:bH F (fun x=>hold x+tn T2 x) cpy 0 18446744073709551615 p1 L1 T k p' T'
variable {W W':World} {c a t2:Nat}
theorem Run.keepRow {R:Option Addr} {bs cp:Nat} {ps:List (Nat×Leaf)} {f:Nat} (ht:al W t2 c a f) (hr:OwnP W bs R cp ps) (hk: ∀b,(b=t2\/R.map (·.block)=some b)->W'.heap[b]? =W.heap[b]?):al W' t2 c a f/\OwnP W' bs R cp ps:=
 ⟨(hk t2 (.inl rfl)).trans ht,hr.same fun g hg=>hk g (.inr (by rw[hg];rfl))⟩
variable {w:World} {cap:Nat} {A:Option Addr} {F:List Nd} {p p':Pool} {L:List Slot}
theorem Run.freed {K:Nat->Prop} {B fs m s t root n:Nat} {rl:List Reg} {S0 S:Nat->Prop} {clock:Int} (h:Run w W (aw S0 c m) K B c a fs m s t root A n cap rl S0 S F clock p L) (hC:au W' S c a fs m clock p' L) (hm:Mod (fun b=>S b\/b=t2) W W') (EC:w.heap.size<=t2) (hA: ∀ad,A=some ad->ad.block<w.heap.size):
  Home W' B c a fs m S F clock p' L/\One W' B c a m S s t root A n cap rl/\Mod (aw S0 c m) w W':=by
 obtain⟨l1,l2,l3,l4,l5⟩:=h.low;have hz:=h.mod.size;have wL:=hm.size;have hB:=h.home.base;have NF:=h.home.lows;obtain⟨w1,B1,nb,c2,ad,mp,f1,f2,f3⟩:=h.home.files;have xy:=h.one;refine⟨⟨hC,⟨w1,B1,nb,c2,ad,mp,f1,f2,f3.trans (hm.below (fun b hb=>hb.elim (h.home.low b) (fun e=>by omega)) hB)⟩,h.home.bytes,h.home.low,NF⟩,⟨(hm.block s xy.lts.1 (fun e=>e.elim xy.noS.1 (fun e=>by omega))).trans xy.self,(hm.block t xy.lts.2.1 (fun e=>e.elim xy.noT.1 (fun e=>by omega))).trans xy.tab,xy.row.mod hm (fun ad e e2=>e2.elim (xy.noR ad e).1 (fun e2=>by have:=hA ad e;omega)),xy.noS,xy.noT,fun ad e=>by
  obtain⟨n1,n2,n3,n4,n5,n6,n7⟩:=xy.noR ad e;exact⟨n1,n2,n3,n4,n5,n6,by omega⟩⟩,?_⟩
 exact((h.mod.sub (T:=fun b=>aw S0 c m b\/w.heap.size<=b) fun b e=> .inl e).trans (Out.refl _ _) (hm.sub fun b e=>by
  rcases e with e|e
  ·exact(h.out b e).imp (fun e=> .inl e) id
  ·exact .inr (by omega))).own fun b e=>e
theorem OwnP.blk2 {base:Nat} {l:List (Nat×Leaf)} (h:OwnP w base A cap l): ∀g,A.map (·.block)=some g->base<=g/\g<w.heap.size:=fun g e=>by
 rcases h.form with⟨h2,_⟩|⟨g',h1,h2,h3,_⟩
 ·rw[h2]at e;cases e
 ·rw[h1]at e;simp at e;subst e;exact⟨h2,h3⟩
variable {hold:Nat->Nat} {T:Tab}
theorem Tab.Good.puts_few (h:Sp F hold p L T):T.puts.length<=525312:=by
 refine vM (ca (fun e=>?_) _) h.good.ok.short;cases e<;>simp[Ev.ls]
theorem bz.tnle {L':List Slot} {T2:Tab} {k:Nat} (h0:Sp F hold p L T) (h:bz F hold p L T k p' L' T2) (x:Nat):tn T2 x<=525314:=by
 have h1:ah T2 x<=525312:=by
  rw[<-h.two.good.ok.leaves_cnt x];exact vM List.countP_le_length (Tab.Good.puts_few h.two)
 have h4:ay T2 x<=1:=by
  by_cases e:an T2 x
  ·rw[ao e];exact vs _
  ·rw[aD e];exact vL _
 unfold tn;omega
theorem sY (B c a fs m s t root n cap:Nat) (A:Option Addr) (rl:List Reg) (clock:Int) (w:World) (S:Nat->Prop) (F:List Nd) (p:Pool) (L:List Slot) (T:Tab) (hold:Nat->Nat)
  (hH:Home w B c a fs m S F clock p L) (hO:One w B c a m S s t root A n cap rl) (yA:Sp F hold p L T) (hr:T.nd 4 0=some root) (xn: ∀f,hold f<=100000000000) (wI: ∀g l,T.lf g=some l->g<34359738368) (Md:n<900000):
  Calls Tryz.prog 32 #[.pointer (some ⟨s,0,none⟩)] w (ForkPost w B c a fs m s t root A n cap rl S F clock p L T hold):=by
 have yb:=dE s c a t n cap A w hO.self;have hnew:=pB c a fs m clock w S p L hH.cache;have xP:=Run.start hH hO (fun _ e=>e);have hAw: ∀ad,A=some ad->ad.block<w.heap.size:=fun ad e=>(hO.noR ad e).2.2.2.2.2.2;have s0:w.cell? ⟨s,0,none⟩=some (.pointer (some ⟨c,0,none⟩)):=aa hO.self 0;have xd:=vp yb;have yI:=vp hnew;have VQ:=vp xP;have yP:=vp yA;have HR:=vp hr;have HH:=vp hH;have HO:=vp hO;have RI:=hH.lts.2.1;have UA:=hH.lts.1;have Dp:=hH.base;have xC:=hH.lows.2.2;clear yb hnew xP yA hr hH hO;go_enter Tryz.func32,Tryz.ntmps32;go_wp2_with (first
  |(go_at_call 56;refine(xd.out).mono ?_;rintro e w1 ⟨rfl,rfl⟩)
  |fail)
 refine(yI.out).mono ?_;rintro e w1 (⟨f,p1,L1,S1,t2,rfl,Hr,AN,xE,wK,EC,SG,Yu,wi⟩|⟨f,p1,L1,S1,rfl,Hr,xE,wK,wi,hp1,En⟩)
 rotate_left
 ·subst hp1 En;have Dw:=vp Hr;have GM:=vp xE;have wu:=vp wK;have wP:=vp wi;clear Hr xE wK wi;go_wp2_with fail;go_ret2;have hm:Mod (aw S c m) w w1:=GM.out.sub fun b e=>e.elim .inl fun e=> .inr (.inl e);obtain⟨wB,_⟩:=VQ.out.call Dw.out hm wu.out;exact .inl ⟨p1,L1,S1,rfl,wB.home,wB.one,wB.mod,wB.out,yP.out,fun _ =>Far.refl,fun _ _ =>rfl,id, .inl (yP.out.full wP.out)⟩
 have hm:Mod (aw S c m) w w1:=xE.sub fun b e=>e.elim .inl fun e=> .inr (.inl e);obtain⟨wB,_⟩:=VQ.out.call Hr hm wK;have PT:=bz.start yP.out yP.out.good.but.few wi;have xI:Calls Tryz.prog 34 #[.pointer (some ⟨t,0,none⟩)] w1 (ms OwnP w1 T.puts):=lr t c a root w1 S1 p1 T (held L1 (fun x=>hold x+tn (aF f) x)) 0 wB.home.cache.pool wB.one.tab PT.one.good HR.out;have JG:=wB.add (K':=fun b=>b=t2) hAw (fun b e=> .inr ⟨e▸Yu,e▸EC,e▸SG⟩);have s2:w1.cell? ⟨s,2,none⟩=some (.pointer (some ⟨t,0,none⟩)):=aa wB.one.self 2;have hw01:w.heap.size<=w1.heap.size:=hm.size;have DQ:=vp JG;have WG:=vp PT;have Nb:=vp xI;have zG:=vp AN;clear hm wB JG PT xI AN Hr xE wK wi;go_wp2_with (first
  |(go_at_call 34;refine(Nb.out).mono ?_;rintro e w2 ⟨R,cp,rfl,xS,wb⟩)
  |fail)
 have DH:T.puts.length<=525312:=Tab.Good.puts_few yP.out;have Ei:FkJ w w1.heap.size B c a fs m s t root A n cap rl S F clock p L T hold t2 f R cp 0 w2 S1 p1 L1 (aF f):=
  ⟨(
   DQ.out.below wb).sub (fun b e=>by
   rcases e with e|e
   ·exact .inl e
   ·exact .inr (xS.blk2 b e)),(wb.block _ SG).trans zG.out,xS,WG.out,dG f⟩
 have LJ:=vp Ei;clear Ei xS wb s2;go_loopw [32] (fun i wr=> ∃(k:Nat) (S':Nat->Prop) (p':Pool) (L':List Slot) (T2:Tab),i= .int .i64 (k:Int)/\k<=T.puts.length/\FkJ w w1.heap.size B c a fs m s t root A n cap rl S F clock p L T hold t2 f R cp k wr S' p' L' T2) (fun i _ =>T.puts.length-(intOf i).toNat)
 case atStart=>exact⟨0,S1,p1,L1,aF f,rfl,vL _,LJ.out⟩
 case round=>
  obtain⟨k,S2,p2,L2,T2,rfl,hk,hj⟩:=hrel;clear LJ WG Nb DQ zG;by_cases yG:k<T.puts.length
  ·obtain⟨⟨pg,fq,pr,cb⟩,hx⟩: ∃x,T.puts[k]? =some x:=⟨T.puts[k],vv yG⟩;rcases hj.row.form with⟨_,h2,_⟩|⟨g,yc,yi,AV,Aq⟩
   ·rw[h2]at yG;exact absurd yG (Nat.not_lt_zero _)
   subst yc;obtain⟨e0,e1,e2,e3⟩:=hj.row.elem hx;dsimp only at e0 e1 e2 e3;obtain⟨ad,zT⟩: ∃ad:Int,ad=((pg*4096:Nat):Int):=⟨_,rfl⟩;rw[<-zT]at e0;obtain⟨n1,n2,n3,n4,n5,n6⟩:=hj.fk.next yP.out hx;dsimp only at n2 n3 n4 n5 n6;have yT:=wI pg _ (yP.out.good.ok.puts_at hx);have yJ:=hj.fk.fresh hx;dsimp only at yJ;obtain⟨W3,Bj⟩: ∃W3,W3=wr.alloc (.cells #[.int .u64 ad, .int .i64 (fq:Int), .int .u8 (pr:Int), .bool true] 85):=⟨_,rfl⟩;have wG:Below wr.heap.size wr W3:=(by rw[Bj];exact vr);have CC:W3.heap[wr.heap.size]? =some (.cells #[.int .u64 ad, .int .i64 (fq:Int), .int .u8 (pr:Int), .bool true] 85 (0,0)):=(by rw[Bj];exact ab wr _);have EE:FkJ w w1.heap.size B c a fs m s t root A n cap rl S F clock p L T hold t2 f (some ⟨g,0,none⟩) cp k W3 S2 p2 L2 T2:=⟨(hj.run.below wG).sub (fun b e=> .inl e),(wG.block _ (vo hj.tab).1).trans hj.tab,hj.row.kept wG,hj.fk,hj.nd⟩;have zo:ad.toNat/4096=pg:=(by omega);have Cf:=EE.run.own t2 (.inl rfl);have hmap:=lp t2 c a f fs m clock ad fq pr true W3 S2 p2 T2 L2 (fun y=>hold y+tn T y) 0 ⟨fq,pr,true⟩ EE.run.home.cache EE.tab Cf.1 (by omega) EE.fk.two.good EE.nd (by omega) (by omega) (by omega) (by omega) (by rw[aM n3];omega) (by rw[zo,yJ];rfl) rfl rfl rfl n3 n4 (by have h8:=EE.fk.one.cap n3;have h7:=xn fq;have h5:=EE.fk.tnle yP.out fq;show p2.cnt fq+1<_;omega);rw[zo]at hmap;have y0:W3.cell? ⟨wr.heap.size,0,none⟩=some (.int .u64 ad):=aa CC 0;have y1:W3.cell? ⟨wr.heap.size,1,none⟩=some (.int .i64 (fq:Int)):=aa CC 1;have y2:W3.cell? ⟨wr.heap.size,2,none⟩=some (.int .u8 (pr:Int)):=aa CC 2;have y3:W3.cell? ⟨wr.heap.size,3,none⟩=some (.bool true):=aa CC 3;have HX:=vp hx;have Du:=vp EE;have GL:=vp hmap;have CH:=vp Bj;have OC:=vp Cf;clear hx EE hmap Bj zT hj wG CC n5 n6 yJ zo Cf;go_upto_region 11 with(fail);rw[<-CH.out];go_upto_region 12 with(first
    |(go_at_call 72;refine(GL.out).mono ?_;rintro e W4 ⟨er,p4,T4,L4,S4,rfl,DN,xH,zN,Bt,Hi⟩)
    |fail)
   obtain⟨wU,BA⟩:=Du.out.run.call DN (xH.sub fun b e=>e.elim .inl fun e=> .inr (.inl e)) zN;obtain⟨DC,zu⟩:=Run.keepRow Du.out.tab Du.out.row BA;by_cases zR:er=0
   ·subst zR;have hj4:FkJ w w1.heap.size B c a fs m s t root A n cap rl S F clock p L T hold t2 f (some ⟨g,0,none⟩) cp (k+1) W4 S4 p4 L4 T4:=⟨wU,DC,zu,Du.out.fk.step yP.out HX.out Bt Hi,Bt.mono 4 0 f Du.out.nd⟩;have HJ4:=vp hj4;clear wU BA DC zu DN xH zN Bt Hi hj4;go_wp2_with fail;go_roundw
    case rel=>exact⟨k+1,S4,p4,L4,T4,rfl,by omega,HJ4.out⟩
    case measure=>(simp[intOf];omega)
   ·have wg:(er != 0)=true:=(by rw[bne_iff_ne];exact zR);obtain⟨Kq,FC,PS,Fq⟩:=Du.out.fk.fail yP.out HX.out zR Bt Hi;subst Kq;have Cf:=wU.own t2 (.inl rfl);have hfree:=mG t2 c a f W4 S4 p4 T2 (held L4 (fun y=>hold y+tn T y)) 0 wU.home.cache.pool DC Cf.1 (by omega) PS.two.good Du.out.nd;have FI:=vp hfree;have xO:=vp wU;have Rj:=vp PS;have Lk:=vp Fq;have HT2O:=vp Cf;clear hfree wU PS Fq FC Cf BA DC zu DN xH zN Bt Hi zR;go_wp2_with (first
     |(go_at_call 58;refine(FI.out).mono ?_;rintro e W5 ⟨rfl,IZ,xu,_⟩)
     |fail)
    go_ret2;obtain⟨v1,v2,v3,v4⟩:=Rj.out.undo yP.out;obtain⟨z1,z2,z3⟩:=HT2O.out;have Cu:=xO.out.home.cache;have Dn:au W5 S4 c a fs m clock (ce p4 ((T2.evs 4 0).flatMap Ev.fs)) L4:=⟨IZ,(xu.block c Cu.lts.1 (fun e=>e.elim Cu.noC (fun e=>by omega))).trans Cu.self,Cu.slots.same (xu.block m Cu.lts.2.1 (fun e=>e.elim Cu.noM (fun e=>by omega))),Cu.noC,Cu.noM⟩;obtain⟨Sc,IC,zO⟩:=Run.freed xO.out Dn xu z2 hAw;exact .inl ⟨_,L4,S4,rfl,Sc,IC,zO,xO.out.out,v1,v2,v3,v4, .inr ⟨k,p2,L2,T2,Du.out.fk,Lk.out⟩⟩
  ·obtain rfl:k=T.puts.length:=(by omega);have HJ:=vp hj;have hjt:FkT w w1.heap.size B c a fs m s t root A n cap rl S F clock p2 L2 T hold t2 f R cp 0 wr S2 T2 p2 T:=⟨hj.run,hj.tab,hj.row,bH.start hj.fk.one⟩;have OD:=vp hjt;clear hj hjt;go_wp2_with fail;go_loopw [52] (fun i wx=> ∃(j:Nat) (p':Pool) (T':Tab),i= .int .i64 (j:Int)/\j<=T.puts.length/\FkT w w1.heap.size B c a fs m s t root A n cap rl S F clock p2 L2 T hold t2 f R cp j wx S2 T2 p' T') (fun i _ =>T.puts.length-(intOf i).toNat)
   case atStart=>exact⟨0,p2,T,rfl,vL _,OD.out⟩
   case round=>
    obtain⟨j,p3,T3,rfl,Aa,hj⟩:=hrel;clear OD;by_cases zP:j<T.puts.length
    ·obtain⟨⟨pg,fq,pr,cb⟩,hx⟩: ∃x,T.puts[j]? =some x:=⟨T.puts[j],vv zP⟩;rcases hj.row.form with⟨_,h2,_⟩|⟨g,yc,yi,AV,Aq⟩
     ·rw[h2]at zP;exact absurd zP (Nat.not_lt_zero _)
     subst yc;obtain⟨e0,e1,e2,e3⟩:=hj.row.elem hx;dsimp only at e0 e1 e2 e3;obtain⟨ad,zT⟩: ∃ad:Int,ad=((pg*4096:Nat):Int):=⟨_,rfl⟩;rw[<-zT]at e0;obtain⟨was,hw,FM⟩:=hj.tr.was HJ.out.fk.one hx (fun _ =>rfl);dsimp only at hw FM;obtain⟨gg,PO⟩:=hj.tr.sp.node1 hw;obtain⟨n1,n2,n3,n4,n5,n6⟩:=hj.tr.sp.leaf hw;have h7:=(yP.out.leaf (yP.out.good.ok.puts_at hx)).2.1;dsimp only at h7;rw[FM]at n3 n4;have yT:=wI pg _ (yP.out.good.ok.puts_at hx);obtain⟨W3,Bj⟩: ∃W3,W3=wr.alloc (.cells #[.int .u64 ad, .int .i64 (fq:Int), .int .u8 (pr:Int), .bool true] 85):=⟨_,rfl⟩;have wG:Below wr.heap.size wr W3:=(by rw[Bj];exact vr);have CC:W3.heap[wr.heap.size]? =some (.cells #[.int .u64 ad, .int .i64 (fq:Int), .int .u8 (pr:Int), .bool true] 85 (0,0)):=(by rw[Bj];exact ab wr _);have EE:FkT w w1.heap.size B c a fs m s t root A n cap rl S F clock p2 L2 T hold t2 f (some ⟨g,0,none⟩) cp j W3 S2 T2 p3 T3:=⟨(hj.run.below wG).sub (fun b e=> .inl e),(wG.block _ (vo hj.tab).1).trans hj.tab,hj.row.kept wG,hj.tr⟩;have wY:T3.nd 4 0=some root:=(by rw[hj.tr.nd];exact HR.out);have yh:=gv t c a root 0 ad ⟨fq,pr,true⟩ W3.drew S2 p3 T3 (held L2 (fun y=>hold y+tn T2 y)) EE.run.home.cache.pool.drew EE.run.one.tab EE.run.one.noT.1 EE.tr.sp.good wY (by omega) h7 n3 n4 (by have h9:=EE.tr.sp.cap n3;have h8:=xn fq;have h5:=HJ.out.fk.tnle yP.out fq;show p3.cnt fq+1<_;omega) (fq:Int) (pr:Int) rfl rfl;have zW:Calls Tryz.prog 69 #[.pointer (some ⟨t,0,none⟩), .int .u64 ad, .agg #[.int .i64 (fq:Int), .int .u8 (pr:Int), .bool true]] W3.drew fun e W=>e= .returned (.int .i64 0)/\Hid (am W S2 a (bc p3 was ⟨fq,pr,true⟩ gg pg))/\Hid (Mod S2 W3 W):=by
      refine yh.mono ?_;rw[fA (was:=was) (g:=gg) (by rw[zT];omega) yT (by omega) (by rw[aM n3];omega) hw PO];rintro e W ⟨rfl,hP,Cp⟩;exact⟨rfl,vp (by simpa using hP),vp Cp.undrew⟩
     have s2:W3.cell? ⟨s,2,none⟩=some (.pointer (some ⟨t,0,none⟩)):=aa EE.run.one.self 2;have y0:W3.cell? ⟨wr.heap.size,0,none⟩=some (.int .u64 ad):=aa CC 0;have y1:W3.cell? ⟨wr.heap.size,1,none⟩=some (.int .i64 (fq:Int)):=aa CC 1;have y2:W3.cell? ⟨wr.heap.size,2,none⟩=some (.int .u8 (pr:Int)):=aa CC 2;have y3:W3.cell? ⟨wr.heap.size,3,none⟩=some (.bool true):=aa CC 3;have HX:=vp hx;have Du:=vp EE;have Ew:=vp zW;have CH:=vp Bj;have HW:=vp hw;have HGG:=vp PO;clear hx EE yh zW Bj zT hj wG CC hw PO FM n5 n6 wY;go_upto_region 20 with(fail);rw[<-CH.out];go_region_with ((first
      |(go_at_call 69;refine(Ew.out).mono ?_;rintro e W4 ⟨rfl,MK,FG⟩)))
     all_goals
      go_wp2_with fail;go_roundw
      case rel=>
       obtain⟨wU,BA⟩:=Du.out.run.pool MK.out FG.out;obtain⟨DC,zu⟩:=Run.keepRow Du.out.tab Du.out.row BA;exact⟨j+1,_,_,rfl,by omega,wU,DC,zu,Du.out.tr.step HJ.out.fk.one HX.out (pZ (by decide) (by decide) n1) (fun _ =>rfl) h7 HW.out HGG.out⟩
      case measure=>(simp[intOf];omega)
    ·obtain rfl:j=T.puts.length:=(by omega);have NS:=HJ.out.fk.done yP.out (vs _) (by decide) (by decide) hj.tr (vs _);have Nr:=hj.run.one.row;have Ad:=qV A n cap rl wr.drew (Nr.below ((vO wr.heap.size wr).drew) (vs _)) Md;have UD:Calls Tryz.prog 57 #[.slice A n cap] wr.drew fun e W=> ∃A5 AR,e= .returned (.slice A5 n AR)/\Hid (OwnR W wr.heap.size A5 AR rl)/\Hid (Below wr.heap.size wr W):=by
      refine Ad.mono ?_;rintro e W ⟨A5,AR,rfl,IC,MB⟩;exact⟨A5,AR,rfl,vp IC,vp (bw MB)⟩
     have s0:wr.cell? ⟨s,0,none⟩=some (.pointer (some ⟨c,0,none⟩)):=aa hj.run.one.self 0;have s1:wr.cell? ⟨s,1,none⟩=some (.pointer (some ⟨a,0,none⟩)):=aa hj.run.one.self 1;have s3:wr.cell? ⟨s,3,none⟩=some (.slice A n cap):=aa hj.run.one.self 3;have Np:s<wr.heap.size:=hj.run.one.lts.1;have WI:=vp NS;have Ln:=vp UD;have OD:=vp hj;clear NS Nr Ad UD hj;go_upto_region 22 with(fail);go_region_held3 (fun w'=>w'.cell? ⟨s,0,none⟩=some (.pointer (some ⟨c,0,none⟩))/\w'.cell? ⟨s,1,none⟩=some (.pointer (some ⟨a,0,none⟩))/\w'.cell? ⟨s,3,none⟩=some (.slice A n cap))
      (go_keep)
      ((first
      |(go_at_call 57;refine(Ln.out).mono ?_;rintro e W5 ⟨A5,AR,rfl,BM,zq⟩;have d0:W5.cell? ⟨s,0,none⟩=some (.pointer (some ⟨c,0,none⟩)):=(zq.out.cell Np).trans s0;have d1:W5.cell? ⟨s,1,none⟩=some (.pointer (some ⟨a,0,none⟩)):=(zq.out.cell Np).trans s1;have d3:W5.cell? ⟨s,3,none⟩=some (.slice A n cap):=(zq.out.cell Np).trans s3)))
     all_goals
      go_wp2_with fail;go_ret2;have IY:=(zq.out).alloc zq.out.size (.cells #[.pointer (some ⟨c,0,none⟩), .pointer (some ⟨a,0,none⟩), .pointer (some ⟨t2,0,none⟩), .slice A5 n AR] 122);have Bq:=OD.out.run.below IY;have Cf:=OD.out.run.own t2 (.inl rfl);have Jm:=zq.out.size;have hlen:=OD.out.run.one.row.len;have Ns:=BM.out.row;have zA:=OD.out.run.home.lts;have hbB:=(vO W5.heap.size W5).alloc (vs _) (.cells #[.pointer (some ⟨c,0,none⟩), .pointer (some ⟨a,0,none⟩), .pointer (some ⟨t2,0,none⟩), .slice A5 n AR] 122);refine .inr ⟨W5.heap.size,t2,f,p3,L2,T3,T2,S2,A5,AR,rfl,Bq.home,Bq.one,⟨ab _ _,(IY.block t2 Cf.2.2).trans OD.out.tab,?_,⟨fun e=>by have:=zA.2.2 _ e;omega,by omega,by omega,by omega⟩,⟨Cf.1,by omega,by omega,by omega⟩,fun ad e=>?_⟩,HJ.out.nd,by omega,Cf.2.1,fun ad e=>?_,Bq.mod,Bq.out,WI.out⟩
      ·have h9:=BM.out.rsl (by rw[hlen];omega);rw[hlen]at h9;exact(h9.below hbB (vs _)).more (by simp)
      ·have h9:=Ns ad.block (by rw[e];rfl);refine⟨fun e=>by have:=zA.2.2 _ e;omega,by omega,by omega,by omega,by omega,by omega,by simp;omega⟩
      ·have h9:=Ns ad.block (by rw[e];rfl);omega
end
