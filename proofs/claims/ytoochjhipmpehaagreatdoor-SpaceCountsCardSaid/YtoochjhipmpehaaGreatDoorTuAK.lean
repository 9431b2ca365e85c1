/- Tables: Unmap's closure, descend with it. -/
import Derived.Test.YtoochjhipmpehaaGreatDoorTtZK
set_option linter.unusedVariables false
set_option linter.unusedSimpArgs false
set_option maxRecDepth 100000
set_option maxHeartbeats 8000000
namespace Go.Proofs.YtoochjhipmpehaaGreatDoor
section
open Go.RowKit
theorem rN (x y z:Value) (W:World):(Instr.field 83 (.agg #[x,y,z]) 0).run Tryz.prog W= .ok x W:=by kernel_rfl
theorem unmap_cl (t c a root f k bt:Nat) (was:Leaf) (w:World) (S:Nat->Prop) (p:Pool) (h:am w S a p) (ht:al w t c a root) (AF: ¬S t) (xf:t<w.heap.size) (Ae:eU w bt t) (AL: ¬S bt)
  (hf:f<p.n) (h1:1<=p.cnt f) (hk:k<512) (hw:word (p.dat f) k=was.pack) (yv:was.prot<=7) (FM:was.frame<p.n) (LP:1<=p.cnt was.frame) (hn:p.n<=1024)
  (Us:1<=(p.down was.frame).cnt f):
  Calls Tryz.prog 109 (#[.int .i64 (f:Int), .int .i64 (k:Int)]++ #[.pointer (some ⟨bt,0,none⟩)]) w
   fun e w'=>e= .returned (.bool true)/\(am w' S a ((p.down was.frame).store f (aE (p.dat f) k 0))/\Mod S w w'):=by
 have c0:w.cell? ⟨bt,0,none⟩=some (.pointer (some ⟨t,0,none⟩)):=aa Ae 0;have c1:w.cell? ⟨t,1,none⟩=some (.pointer (some ⟨a,0,none⟩)):=aa ht 1;have zS:bt<w.heap.size:=(vo Ae).1;have zV:was.pack<18446744073709551616:=(by have:=eB was yv (by omega);omega);have yM:=rN (.int .i64 (was.frame:Int)) (.int .u8 (was.prot:Int)) (.bool was.copy);have GG:=vp (ey was yv);have HW:=vp hw;have MX:=vp Ae;have HT:=vp ht;have HP:=vp h;clear Ae hw h ht;show Calls Tryz.prog 109 #[.int .i64 (f:Int), .int .i64 (k:Int), .pointer (some ⟨bt,0,none⟩)] w _;go_enter Tryz.func109,Tryz.ntmps109;go_upto_region 1 with(fail);go_region_with
  ((
   first
   |(go_at_call 111;refine(bJ t c a root f k _ S p HP.out.drew HT.out hf h1 hk).mono ?_;rintro e w1 ⟨rfl,yo⟩;have vS:Below w.heap.size w w1:=bw yo;rw[HW.out];have e0:w1.cell? ⟨bt,0,none⟩=some (.pointer (some ⟨t,0,none⟩)):=(vS.cell (p:=⟨bt,0,none⟩) zS).trans c0;have e1:w1.cell? ⟨t,1,none⟩=some (.pointer (some ⟨a,0,none⟩)):=(vS.cell (p:=⟨t,1,none⟩) xf).trans c1)
   |(go_at_call 110;refine(ez was.pack w1 zV).mono ?_;rintro e w2 ⟨rfl,ZG⟩;rw[GG.out];have wb:Below w.heap.size w w2:=vS.trans (ZG.mono vS.size);have g0:w2.cell? ⟨bt,0,none⟩=some (.pointer (some ⟨t,0,none⟩)):=(wb.cell (p:=⟨bt,0,none⟩) zS).trans c0;have g1:w2.cell? ⟨t,1,none⟩=some (.pointer (some ⟨a,0,none⟩)):=(wb.cell (p:=⟨t,1,none⟩) xf).trans c1)
   |(go_at_call 59;refine(cZ a was.frame _ S _ (HP.out.below wb) FM LP).mono ?_;rintro e w3 ⟨rfl,CC,xW⟩)))
 all_goals
  have RW:al w3 t c a root:=(xW.block t (vw xf wb.size) AF).trans ((wb.block t xf).trans HT.out);have IB:eU w3 bt t:=(xW.block bt (vw zS wb.size) AL).trans ((wb.block bt zS).trans MX.out);have k0:w3.cell? ⟨bt,0,none⟩=some (.pointer (some ⟨t,0,none⟩)):=aa IB 0;have hz:w.heap.size<=w3.heap.size:=vM wb.size xW.size;have ML:=vp CC;have MF:=vp RW;clear CC RW IB;go_wp2_with fail;refine(gw t c a root f k 0 w3 S _ ML.out MF.out (vw xf hz) hf Us hk (by omega)).mono ?_;rintro e w4 ⟨rfl,Mx,xH⟩;go_wp2_with fail;go_ret;exact⟨rfl,Mx,(Mod.of wb).trans (Out.refl _ _) (xW.trans (Out.refl _ _) xH)⟩
end
section
open Go.RowKit Go.Sort
theorem sZ {p:Pool} {x g:Nat} (h:2<=p.cnt g\/(g≠x/\1<=p.cnt g)):1<=(p.down x).cnt g:=by
 rcases h with h|⟨h2,h3⟩
 ·by_cases e:g=x
  ·subst e;simp only[Pool.down,af];omega
  ·simp only[Pool.down,ag _ _ e];omega
 ·simp only[Pool.down,ag _ _ h2];omega
def qs (LV:Nat) (D:Int):Prop:= ∀(t c a root f pg bt:Nat) (rest:Nat->Nat) (pg0:Nat) (was:Leaf) (w:World) (S:Nat->Prop) (p:Pool) (T:Tab),am w S a p->al w t c a root->t<w.heap.size->Way p T pg-> ¬S t->eU w bt t-> ¬S bt->T.Good p rest pg0 4->T.lf pg=some was->T.nd LV (part pg LV)=some f->
 Calls Tryz.prog 126 #[.pointer (some ⟨t,0,none⟩), .int .i64 (f:Int),wayA pg, .int .i64 D, .func (.func 109) #[] #[.pointer (some ⟨bt,0,none⟩)]] w fun e w'=>e= .returned (.tuple #[.bool true, .bool true])/\ ∃p' T',am w' S a p'/\Mod S w w'/\Gone p T rest pg LV p' T'
theorem desc_un1:qs 1 3:=by
 intro t c a root f pg bt rest pg0 was w S p T h ht xf hw AF Ae AL wQ wV hf;obtain⟨f1,f2,f3⟩:=hw.node 1 f (by omega) (by omega) hf;obtain⟨w0,vT,xC,CW,yK,CA,yW,Cd⟩:=df pg h ht xf;obtain⟨c0,c1,c2,c3⟩:=CA.cells;have hn:=bS pg 1;have zS:bt<w.heap.size:=(vo Ae).1;obtain⟨x,hx⟩: ∃x,x=was.pack:=⟨_,rfl⟩;have E0:=vp (show word (p.dat f) (num pg 1)=was.pack by rw[f3,Tab.on_one,wV]);obtain⟨p7,pf,pc⟩:=wQ.leafOf wV;have wC:=hw.few;have zV:x<18446744073709551616:=(by rw[hx];have:=eB was p7 (by omega);omega);have Gk:=fu zV (by rw[hx];exact fD was);have Us:=sZ (wQ.safe wV hf);have wD:=vp vT;have HF:=vp hf;have HL:=vp wV;have WB:=vp wQ;have MX:=vp Ae;have HX:=vp hx;clear f3 hf vT h ht wV wQ Ae hx;unfold wayA;go_enter Tryz.func126,Tryz.ntmps126;go_upto_region 1 with(fail);rw[<-wD.out];go_wp2_with fail;refine(bJ t c a root f _ w0 S p CW yK f1 f2 (bS pg _)).mono ?_;rintro e w1 ⟨rfl,vS⟩;rw[E0.out,<-HX.out];have wF:=vS.size;have Dp:Below w.heap.size w w1:=xC.trans (vS.mono (Nat.le_of_lt yW));have QU:=vp (CW.below vS);have Rp:=vp (show eU w1 bt t from(Dp.block bt zS).trans MX.out);have zG:=vp (show al w1 t c a root from(vS.block t Cd).trans yK);clear CW yK;go_wp2_with fail;refine(unmap_cl t c a root f (num pg 1) bt was w1 S p QU.out zG.out AF (vw Cd wF) Rp.out AL f1 f2 hn E0.out p7 pf pc wC Us).mono ?_;rintro e w2 ⟨rfl,AP,wk⟩;go_wp2_with fail;go_ret2;exact⟨rfl,_,_,AP,(Mod.of Dp).trans (Out.refl _ _) wk,Gone.start WB.out HL.out HF.out⟩
theorem lZ {LV LW:Nat} {D E:Int} (hc:eN LV LW D E) (ih:qs LW E):qs LV D:=by
 intro t c a root f pg bt rest pg0 was w S p T h ht xf hw AF Ae AL wQ wV hf;obtain⟨f1,f2,f3⟩:=hw.node LV f (by have:=hc.nums;omega) (by have:=hc.nums;omega) hf;obtain⟨w0,vT,xC,CW,yK,CA,yW,Cd⟩:=df pg h ht xf;obtain⟨c0,c1,c2,c3⟩:=CA.cells;have zS:bt<w.heap.size:=(vo Ae).1;obtain⟨g,hg⟩: ∃g,T.nd LW (part pg LW)=some g:=bC (wQ.ok.leafUp wV LW (by have:=hc.nums;omega) (by have:=hc.nums;omega));obtain⟨g1,g2,_⟩:=hw.node LW g (by have:=hc.nums;omega) (by have:=hc.nums;omega) hg;have wC:=hw.few;obtain⟨x,hx⟩: ∃x,x=g*4096+1:=⟨_,rfl⟩;have e0:=oG hc f3 hg;rw[<-hx]at e0;have E0:=vp e0;have zV:x<18446744073709551616:=(by omega);have Gk:=fu zV (by omega);have II:=vp (show((x:Int)/4096)=(g:Int) by omega);have HG:=vp hg;have wD:=vp vT;have HF:=vp hf;have HL:=vp wV;have WB:=vp wQ;have MX:=vp Ae;have IH:=vp ih;clear f3 hf vT h ht hg ih e0 hx wV wQ Ae;unfold wayA;rcases hc with⟨rfl,rfl,rfl,rfl⟩|⟨rfl,rfl,rfl,rfl⟩|⟨rfl,rfl,rfl,rfl⟩<;>(
  go_enter Tryz.func126,Tryz.ntmps126;go_upto_region 1 with(fail);rw[<-wD.out];go_wp2_with fail;refine(bJ t c a root f _ w0 S p CW yK f1 f2 (bS pg _)).mono ?_;rintro e w1 ⟨rfl,vS⟩;rw[E0.out];have wF:=vS.size;obtain⟨d0,d1,d2,d3⟩:=le.cells ((vS.block _ yW).trans CA);have Dp:Below w.heap.size w w1:=xC.trans (vS.mono (Nat.le_of_lt yW));have SE:t<w1.heap.size:=vw Cd wF;have zG:=vp (show al w1 t c a root from(vS.block t Cd).trans yK);have QU:=vp (CW.below vS);have Rp:=vp (show eU w1 bt t from(Dp.block bt zS).trans MX.out);clear c0 c1 c2 c3 CW yK CA;go_wp2_with fail;rw[II.out];refine(IH.out t c a root g pg bt rest pg0 was w1 S p T QU.out zG.out SE hw AF Rp.out AL WB.out HL.out HG.out).mono ?_;rintro e w2 ⟨rfl,p2,T2,AP,wk,Oh⟩;have wL:=wk.size;have Xx:al w2 t c a root:=(wk.block t SE AF).trans zG.out;have BH:=(Oh.top _ _ (vs _)).trans HG.out;have Jw:=(Oh.top _ _ (by omega)).trans HF.out;obtain⟨n1,n2⟩:=Oh.good.node BH;obtain⟨m1,m2⟩:=Oh.good.node Jw;have OH:=vp Oh;have VJ:=vp BH;have VI:=vp Jw;have Ow:=vp AP;have Sg:=vp Xx;have Yr:t<w2.heap.size:=(by omega);clear Oh BH Jw AP Xx d0 d1 d2 d3;go_wp2_with fail;refine(qD t c a root g w2 S p2 Ow.out Sg.out n1 n2).mono ?_;rintro e w3 ⟨rfl,wG⟩;have yk:=wG.size;have SD:t<w3.heap.size:=(by omega);have MF:=vp (show al w3 t c a root from(wG.block t Yr).trans Sg.out);have ML:=vp (Ow.out.below wG);have Fg:Mod S w w3:=(Mod.of Dp).trans (Out.refl _ _) (wk.trans (Out.refl _ _) (Mod.of wG));by_cases RM: ∀i,i<4096->p2.dat g i=0
  ·have hzz:pn (p2.dat g) 4096=true:=vG RM;have HEZ:=vp RM;clear RM;go_wp2_with fail;refine(gw t c a root f _ 0 w3 S p2 ML.out MF.out SD m1 m2 (bS pg _) (by omega)).mono ?_;rintro e w4 ⟨rfl,Mx,xH⟩;have AZ:=xH.size;have FC:al w4 t c a root:=(xH.block t SD AF).trans MF.out;have d4:w4.cell? ⟨t,1,none⟩=some (.pointer (some ⟨a,0,none⟩)):=aa FC 1;have MK:=vp Mx;clear Mx FC;go_wp2_with fail;refine(cZ a g _ S _ MK.out n1 n2).mono ?_;rintro e w5 ⟨rfl,IZ,xu⟩;go_wp2_with fail;go_ret2;exact⟨rfl,_,_,IZ,Fg.trans (Out.refl _ _) (xH.trans (Out.refl _ _) xu),OH.out.prune (by omega) (by omega) VJ.out VI.out HEZ.out⟩
  ·have hzz:pn (p2.dat g) 4096=false:=vF RM;have HEZ:=vp RM;clear RM;go_wp2_with fail;go_ret2;exact⟨rfl,_,_,ML.out,Fg,OH.out.keep VJ.out HEZ.out _ (by omega)⟩)
theorem oV:qs 4 0:=lZ (.inr (.inr ⟨rfl,rfl,rfl,rfl⟩)) (lZ (.inr (.inl ⟨rfl,rfl,rfl,rfl⟩)) (lZ (.inl ⟨rfl,rfl,rfl,rfl⟩) desc_un1))
end
section
open Go.RowKit Go.Sort
def UnRes (p:Pool) (T:Tab) (rest:Nat->Nat) (A:Int) (r:Int) (p':Pool) (T':Tab):Prop:=
 (r≠0/\p'=p/\T'=T/\(r=1/\140737488355328<=A\/r=6/\A<140737488355328/\T.lf (A.toNat/4096)=none))\/
 (r=0/\A<140737488355328/\(T.lf (A.toNat/4096)).isSome=true/\Gone p T rest (A.toNat/4096) 4 p' T')
def UnPost (w:World) (S:Nat->Prop) (a:Nat) (p:Pool) (T:Tab) (rest:Nat->Nat) (A:Int) (e:Ending) (w':World):Prop:=
 ∃r p' T',e= .returned (.int .i64 r)/\am w' S a p'/\Mod S w w'/\UnRes p T rest A r p' T'
theorem tat_un (t c a root bt:Nat) (A:Int) (w:World) (S:Nat->Prop) (p:Pool) (T:Tab) (rest:Nat->Nat) (pg0:Nat) (was:Leaf) (h:am w S a p) (ht:al w t c a root) (AF: ¬S t) (Ae:eU w bt t) (AL: ¬S bt) (wQ:T.Good p rest pg0 4)
  (wV:T.lf (A.toNat/4096)=some was) (hr:T.nd 4 (part (A.toNat/4096) 4)=some root) (zj:0<=A) (hA:A<140737488355328):
  Calls Tryz.prog 108 #[.pointer (some ⟨t,0,none⟩), .int .u64 A, .func (.func 109) #[] #[.pointer (some ⟨bt,0,none⟩)]] w
   fun e w'=>e= .returned (.int .i64 0)/\ ∃p' T',am w' S a p'/\Mod S w w'/\Gone p T rest (A.toNat/4096) 4 p' T':=by
 have xf:t<w.heap.size:=(vo ht).1;have zS:bt<w.heap.size:=(vo Ae).1;have c2:w.cell? ⟨t,2,none⟩=some (.int .i64 (root:Int)):=aa ht 2;have hw:=wQ.way (A.toNat/4096);have HT:=vp ht;have HP:=vp h;have HL:=vp wV;have HR:=vp hr;have HW:=vp hw;have WB:=vp wQ;have MX:=vp Ae;have Ol:A<18446744073709551616:=(by omega);have Xe:=vp Ol;clear ht h wV hr Ol hw wQ Ae;go_enter Tryz.func108,Tryz.ntmps108;go_wp2_with fail;refine(cn t c a root _ HT.out).mono ?_;rintro e w1 ⟨rfl,rfl⟩;go_wp2_with fail;go_region_with
  ((
   first
   |(go_at_call 125;refine(lj A _ zj Xe.out).mono ?_;rintro e w1 ⟨rfl,vS⟩;have yo:Below w.heap.size w w1:=((vO w.heap.size w).drew).trans vS;have c2':w1.cell? ⟨t,2,none⟩=some (.int .i64 (root:Int)):=aa ((yo.block t xf).trans HT.out) 2)
   |(go_at_call 126;refine(oV t c a root root (A.toNat/4096) bt rest pg0 was _ S p T (HP.out.below yo) ((yo.block t xf).trans HT.out) (vw xf yo.size) HW.out AF ((yo.block bt zS).trans MX.out) AL WB.out HL.out HR.out).mono ?_;rintro e w2 ⟨rfl,p2,T2,AP,wk,Oh⟩)))
 all_goals
  go_wp2_with fail;go_ret;exact⟨rfl,p2,T2,AP,(Mod.of yo).trans (Out.refl _ _) wk,Oh⟩
theorem sB (t c a root bt:Nat) (A:Int) (w:World) (S:Nat->Prop) (p:Pool) (T:Tab) (rest:Nat->Nat) (pg0:Nat) (h:am w S a p) (ht:al w t c a root) (AF: ¬S t) (Ae:eU w bt t) (AL: ¬S bt) (wQ:T.Good p rest pg0 4)
  (hr:T.nd 4 0=some root) (zj:0<=A):
  Calls Tryz.prog 108 #[.pointer (some ⟨t,0,none⟩), .int .u64 A, .func (.func 109) #[] #[.pointer (some ⟨bt,0,none⟩)]] w (UnPost w S a p T rest A):=by
 have xf:t<w.heap.size:=(vo ht).1;have hw:=wQ.tree hr;by_cases yN:140737488355328<=A
 ·exact(oh t c a root A _ w ht yN).mono fun e w' ⟨he,yq⟩=>by
   subst yq;exact⟨1,p,T,he,h,Mod.refl _ _, .inl ⟨by decide,rfl,rfl, .inl ⟨rfl,yN⟩⟩⟩
 ·have vW:A<140737488355328:=(by omega);have BH:=hw.top zj vW;have EB:=hw.way (A.toNat/4096);cases Cr:T.lf (A.toNat/4096)with
  |none=>exact(lq t c a root A _ w S p T h ht xf EB Cr BH zj vW).mono fun e w' ⟨he,hb⟩=>⟨6,p,T,he,h.below hb,Mod.of hb, .inl ⟨by decide,rfl,rfl, .inr ⟨rfl,vW,Cr⟩⟩⟩
  |some was=>exact(tat_un t c a root bt A w S p T rest pg0 was h ht AF Ae AL wQ Cr BH zj vW).mono fun e w' ⟨he,p',T',h1,h2,h3⟩=>⟨0,p',T',he,h1,h2, .inr ⟨rfl,vW,by rw[Cr];rfl,h3⟩⟩
theorem ie (t c a root:Nat) (A:Int) (w:World) (S:Nat->Prop) (p:Pool) (T:Tab) (rest:Nat->Nat) (pg0:Nat) (h:am w S a p) (ht:al w t c a root) (AF: ¬S t) (wQ:T.Good p rest pg0 4) (hr:T.nd 4 0=some root) (zj:0<=A):
  Calls Tryz.prog 66 #[.pointer (some ⟨t,0,none⟩), .int .u64 A] w (UnPost w S a p T rest A):=by
 have xf:t<w.heap.size:=(vo ht).1;obtain⟨w0,vT⟩: ∃w0,w0=w.alloc (.cells #[.pointer (some ⟨t,0,none⟩)] 77):=⟨_,rfl⟩;have xC:Below w.heap.size w w0:=(by rw[vT];exact vr);have Sa:eU w0 w.heap.size t:=(by rw[vT];exact ab w _);have Mt: ¬S w.heap.size:=fun e=>by have:=h.low _ e;omega
 have wi:=sB t c a root w.heap.size A w0 S p T rest pg0 (h.below xC) ((xC.block t xf).trans ht) AF Sa Mt wQ hr zj;have d0:w0.cell? ⟨w.heap.size,0,none⟩=some (.pointer (some ⟨t,0,none⟩)):=aa Sa 0;have wP:=vp wi;have wD:=vp vT;clear wi vT Sa h ht wQ hr;go_enter Tryz.func66,Tryz.ntmps66;go_upto_region 1 with(fail);rw[<-wD.out];go_wp2_with fail;refine(wP.out).mono ?_;rintro e w2 ⟨r,p',T',rfl,h1,h2,h3⟩;go_wp2_with fail;go_ret;exact⟨r,p',T',rfl,h1,(Mod.of xC).trans (Out.refl _ _) h2,h3⟩
end
