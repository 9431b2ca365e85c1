/- Tables: Unmap's closure, descend with it. -/
import Derived.Test.YtoochjhipmpehaaGreatDoorTtZK
set_option linter.unusedVariables false
set_option linter.unusedSimpArgs false
set_option maxRecDepth 100000
set_option maxHeartbeats 8000000
namespace Go.Proofs.YtoochjhipmpehaaGreatDoor
section
open Go.RowKit
theorem rq (x y z:Value) (W:World):(Instr.field 83 (.agg #[x,y,z]) 0).run Tryz.prog W= .ok x W:=by kernel_rfl
theorem unmap_cl (t c a root f k bt:Nat) (was:Leaf) (w:World) (S:Nat->Prop) (p:Pool) (h:al w S a p) (ht:am w t c a root) (zJ: ¬S t) (wv:t<w.heap.size) (zm:eN w bt t) (zP: ¬S bt)
  (hf:f<p.n) (h1:1<=p.cnt f) (hk:k<512) (hw:word (p.dat f) k=was.pack) (xG:was.prot<=7) (EO:was.frame<p.n) (Le:1<=p.cnt was.frame) (hn:p.n<=1024)
  (Tw:1<=(p.down was.frame).cnt f):
  Calls Tryz.prog 109 (#[.int .i64 (f:Int), .int .i64 (k:Int)]++ #[.pointer (some ⟨bt,0,none⟩)]) w
   fun e w'=>e= .returned (.bool true)/\(al w' S a ((p.down was.frame).store f (aE (p.dat f) k 0))/\Mod S w w'):=by
 have c0:w.cell? ⟨bt,0,none⟩=some (.pointer (some ⟨t,0,none⟩)):=aa zm 0;have c1:w.cell? ⟨t,1,none⟩=some (.pointer (some ⟨a,0,none⟩)):=aa ht 1;have zb:bt<w.heap.size:=(uG zm).1;have ze:was.pack<18446744073709551616:=(by have:=eu was xG (by omega);omega);have xY:=rq (.int .i64 (was.frame:Int)) (.int .u8 (was.prot:Int)) (.bool was.copy);have LS:=uH (eo was xG);have HW:=uH hw;have Mn:=uH zm;have HT:=uH ht;have HP:=uH h;clear zm hw h ht;show Calls Tryz.prog 109 #[.int .i64 (f:Int), .int .i64 (k:Int), .pointer (some ⟨bt,0,none⟩)] w _;go_enter Tryz.func109,Tryz.ntmps109;go_upto_region 1 with(fail);go_region_with
  ((
   first
   |(go_at_call 111;refine(bJ t c a root f k _ S p HP.out.drew HT.out hf h1 hk).mono ?_;rintro e w1 ⟨rfl,xB⟩;have vk:Below w.heap.size w w1:=bu xB;rw[HW.out];have e0:w1.cell? ⟨bt,0,none⟩=some (.pointer (some ⟨t,0,none⟩)):=(vk.cell (p:=⟨bt,0,none⟩) zb).trans c0;have e1:w1.cell? ⟨t,1,none⟩=some (.pointer (some ⟨a,0,none⟩)):=(vk.cell (p:=⟨t,1,none⟩) wv).trans c1)
   |(go_at_call 110;refine(ep was.pack w1 ze).mono ?_;rintro e w2 ⟨rfl,Yx⟩;rw[LS.out];have vs:Below w.heap.size w w2:=vk.trans (Yx.mono vk.size);have g0:w2.cell? ⟨bt,0,none⟩=some (.pointer (some ⟨t,0,none⟩)):=(vs.cell (p:=⟨bt,0,none⟩) zb).trans c0;have g1:w2.cell? ⟨t,1,none⟩=some (.pointer (some ⟨a,0,none⟩)):=(vs.cell (p:=⟨t,1,none⟩) wv).trans c1)
   |(go_at_call 59;refine(cV a was.frame _ S _ (HP.out.below vs) EO Le).mono ?_;rintro e w3 ⟨rfl,BJ,xh⟩)))
 all_goals
  have Rc:am w3 t c a root:=(xh.block t (uO wv vs.size) zJ).trans ((vs.block t wv).trans HT.out);have Hj:eN w3 bt t:=(xh.block bt (uO zb vs.size) zP).trans ((vs.block bt zb).trans Mn.out);have k0:w3.cell? ⟨bt,0,none⟩=some (.pointer (some ⟨t,0,none⟩)):=aa Hj 0;have hz:w.heap.size<=w3.heap.size:=ve vs.size xh.size;have Md:=uH BJ;have Kn:=uH Rc;clear BJ Rc Hj;go_wp2_with fail;refine(gn t c a root f k 0 w3 S _ Md.out Kn.out (uO wv hz) hf Tw hk (by omega)).mono ?_;rintro e w4 ⟨rfl,LN,wP⟩;go_wp2_with fail;go_ret;exact⟨rfl,LN,(Mod.of vs).trans (Out.refl _ _) (xh.trans (Out.refl _ _) wP)⟩
end
section
open Go.RowKit Go.Sort
theorem su {p:Pool} {x g:Nat} (h:2<=p.cnt g\/(g≠x/\1<=p.cnt g)):1<=(p.down x).cnt g:=by
 rcases h with h|⟨h2,h3⟩
 ·by_cases e:g=x
  ·subst e;simp only[Pool.down,af];omega
  ·simp only[Pool.down,ag _ _ e];omega
 ·simp only[Pool.down,ag _ _ h2];omega
def qi (LV:Nat) (D:Int):Prop:= ∀(t c a root f pg bt:Nat) (rest:Nat->Nat) (pg0:Nat) (was:Leaf) (w:World) (S:Nat->Prop) (p:Pool) (T:Tab),al w S a p->am w t c a root->t<w.heap.size->Way p T pg-> ¬S t->eN w bt t-> ¬S bt->T.Good p rest pg0 4->T.lf pg=some was->T.nd LV (part pg LV)=some f->
 Calls Tryz.prog 126 #[.pointer (some ⟨t,0,none⟩), .int .i64 (f:Int),wayA pg, .int .i64 D, .func (.func 109) #[] #[.pointer (some ⟨bt,0,none⟩)]] w fun e w'=>e= .returned (.tuple #[.bool true, .bool true])/\ ∃p' T',al w' S a p'/\Mod S w w'/\Gone p T rest pg LV p' T'
theorem desc_un1:qi 1 3:=by
 intro t c a root f pg bt rest pg0 was w S p T h ht wv hw zJ zm zP vR vY hf;obtain⟨f1,f2,f3⟩:=hw.node 1 f (by omega) (by omega) hf;obtain⟨w0,vl,wR,Cf,yo,BI,yi,Bk⟩:=cZ pg h ht wv;obtain⟨c0,c1,c2,c3⟩:=BI.cells;have hn:=bR pg 1;have zb:bt<w.heap.size:=(uG zm).1;obtain⟨x,hx⟩: ∃x,x=was.pack:=⟨_,rfl⟩;have E0:=uH (show word (p.dat f) (num pg 1)=was.pack by rw[f3,Tab.on_one,vY]);obtain⟨p7,pf,pc⟩:=vR.leafOf vY;have vH:=hw.few;have ze:x<18446744073709551616:=(by rw[hx];have:=eu was p7 (by omega);omega);have Fl:=fg ze (by rw[hx];exact fx was);have Tw:=su (vR.safe vY hf);have vF:=uH vl;have HF:=uH hf;have HL:=uH vY;have Vt:=uH vR;have Mn:=uH zm;have HX:=uH hx;clear f3 hf vl h ht vY vR zm hx;unfold wayA;go_enter Tryz.func126,Tryz.ntmps126;go_upto_region 1 with(fail);rw[<-vF.out];go_wp2_with fail;refine(bJ t c a root f _ w0 S p Cf yo f1 f2 (bR pg _)).mono ?_;rintro e w1 ⟨rfl,vk⟩;rw[E0.out,<-HX.out];have vI:=vk.size;have Bg:Below w.heap.size w w1:=wR.trans (vk.mono (Nat.le_of_lt yi));have Qh:=uH (Cf.below vk);have Qz:=uH (show eN w1 bt t from(Bg.block bt zb).trans Mn.out);have xV:=uH (show am w1 t c a root from(vk.block t Bk).trans yo);clear Cf yo;go_wp2_with fail;refine(unmap_cl t c a root f (num pg 1) bt was w1 S p Qh.out xV.out zJ (uO Bk vI) Qz.out zP f1 f2 hn E0.out p7 pf pc vH Tw).mono ?_;rintro e w2 ⟨rfl,zU,vy⟩;go_wp2_with fail;go_ret2;exact⟨rfl,_,_,zU,(Mod.of Bg).trans (Out.refl _ _) vy,Gone.start Vt.out HL.out HF.out⟩
theorem lV {LV LW:Nat} {D E:Int} (hc:eH LV LW D E) (ih:qi LW E):qi LV D:=by
 intro t c a root f pg bt rest pg0 was w S p T h ht wv hw zJ zm zP vR vY hf;obtain⟨f1,f2,f3⟩:=hw.node LV f (by have:=hc.nums;omega) (by have:=hc.nums;omega) hf;obtain⟨w0,vl,wR,Cf,yo,BI,yi,Bk⟩:=cZ pg h ht wv;obtain⟨c0,c1,c2,c3⟩:=BI.cells;have zb:bt<w.heap.size:=(uG zm).1;obtain⟨g,hg⟩: ∃g,T.nd LW (part pg LW)=some g:=bB (vR.ok.leafUp vY LW (by have:=hc.nums;omega) (by have:=hc.nums;omega));obtain⟨g1,g2,_⟩:=hw.node LW g (by have:=hc.nums;omega) (by have:=hc.nums;omega) hg;have vH:=hw.few;obtain⟨x,hx⟩: ∃x,x=g*4096+1:=⟨_,rfl⟩;have e0:=oA hc f3 hg;rw[<-hx]at e0;have E0:=uH e0;have ze:x<18446744073709551616:=(by omega);have Fl:=fg ze (by omega);have Ho:=uH (show((x:Int)/4096)=(g:Int) by omega);have HG:=uH hg;have vF:=uH vl;have HF:=uH hf;have HL:=uH vY;have Vt:=uH vR;have Mn:=uH zm;have IH:=uH ih;clear f3 hf vl h ht hg ih e0 hx vY vR zm;unfold wayA;rcases hc with⟨rfl,rfl,rfl,rfl⟩|⟨rfl,rfl,rfl,rfl⟩|⟨rfl,rfl,rfl,rfl⟩<;>(
  go_enter Tryz.func126,Tryz.ntmps126;go_upto_region 1 with(fail);rw[<-vF.out];go_wp2_with fail;refine(bJ t c a root f _ w0 S p Cf yo f1 f2 (bR pg _)).mono ?_;rintro e w1 ⟨rfl,vk⟩;rw[E0.out];have vI:=vk.size;obtain⟨d0,d1,d2,d3⟩:=kX.cells ((vk.block _ yi).trans BI);have Bg:Below w.heap.size w w1:=wR.trans (vk.mono (Nat.le_of_lt yi));have RL:t<w1.heap.size:=uO Bk vI;have xV:=uH (show am w1 t c a root from(vk.block t Bk).trans yo);have Qh:=uH (Cf.below vk);have Qz:=uH (show eN w1 bt t from(Bg.block bt zb).trans Mn.out);clear c0 c1 c2 c3 Cf yo BI;go_wp2_with fail;rw[Ho.out];refine(IH.out t c a root g pg bt rest pg0 was w1 S p T Qh.out xV.out RL hw zJ Qz.out zP Vt.out HL.out HG.out).mono ?_;rintro e w2 ⟨rfl,p2,T2,zU,vy,Ns⟩;have vO:=vy.size;have Hg:am w2 t c a root:=(vy.block t RL zJ).trans xV.out;have AO:=(Ns.top _ _ (uK _)).trans HG.out;have ID:=(Ns.top _ _ (by omega)).trans HF.out;obtain⟨n1,n2⟩:=Ns.good.node AO;obtain⟨m1,m2⟩:=Ns.good.node ID;have KB:=uH Ns;have UJ:=uH AO;have UI:=uH ID;have NF:=uH zU;have Rp:=uH Hg;have Xh:t<w2.heap.size:=(by omega);clear Ns AO ID zU Hg d0 d1 d2 d3;go_wp2_with fail;refine(qs t c a root g w2 S p2 NF.out Rp.out n1 n2).mono ?_;rintro e w3 ⟨rfl,vG⟩;have xq:=vG.size;have RK:t<w3.heap.size:=(by omega);have Kn:=uH (show am w3 t c a root from(vG.block t Xh).trans Rp.out);have Md:=uH (NF.out.below vG);have Em:Mod S w w3:=(Mod.of Bg).trans (Out.refl _ _) (vy.trans (Out.refl _ _) (Mod.of vG));by_cases QS: ∀i,i<4096->p2.dat g i=0
  ·have hzz:pd (p2.dat g) 4096=true:=uY QS;have ZT:=uH QS;clear QS;go_wp2_with fail;refine(gn t c a root f _ 0 w3 S p2 Md.out Kn.out RK m1 m2 (bR pg _) (by omega)).mono ?_;rintro e w4 ⟨rfl,LN,wP⟩;have AN:=wP.size;have EG:am w4 t c a root:=(wP.block t RK zJ).trans Kn.out;have d4:w4.cell? ⟨t,1,none⟩=some (.pointer (some ⟨a,0,none⟩)):=aa EG 1;have Mc:=uH LN;clear LN EG;go_wp2_with fail;refine(cV a g _ S _ Mc.out n1 n2).mono ?_;rintro e w5 ⟨rfl,Ii,wH⟩;go_wp2_with fail;go_ret2;exact⟨rfl,_,_,Ii,Em.trans (Out.refl _ _) (wP.trans (Out.refl _ _) wH),KB.out.prune (by omega) (by omega) UJ.out UI.out ZT.out⟩
  ·have hzz:pd (p2.dat g) 4096=false:=uX QS;have ZT:=uH QS;clear QS;go_wp2_with fail;go_ret2;exact⟨rfl,_,_,Md.out,Em,KB.out.keep UJ.out ZT.out _ (by omega)⟩)
theorem oP:qi 4 0:=lV (.inr (.inr ⟨rfl,rfl,rfl,rfl⟩)) (lV (.inr (.inl ⟨rfl,rfl,rfl,rfl⟩)) (lV (.inl ⟨rfl,rfl,rfl,rfl⟩) desc_un1))
end
section
open Go.RowKit Go.Sort
def UnRes (p:Pool) (T:Tab) (rest:Nat->Nat) (A:Int) (r:Int) (p':Pool) (T':Tab):Prop:=
 (r≠0/\p'=p/\T'=T/\(r=1/\140737488355328<=A\/r=6/\A<140737488355328/\T.lf (A.toNat/4096)=none))\/
 (r=0/\A<140737488355328/\(T.lf (A.toNat/4096)).isSome=true/\Gone p T rest (A.toNat/4096) 4 p' T')
def UnPost (w:World) (S:Nat->Prop) (a:Nat) (p:Pool) (T:Tab) (rest:Nat->Nat) (A:Int) (e:Ending) (w':World):Prop:=
 ∃r p' T',e= .returned (.int .i64 r)/\al w' S a p'/\Mod S w w'/\UnRes p T rest A r p' T'
theorem tat_un (t c a root bt:Nat) (A:Int) (w:World) (S:Nat->Prop) (p:Pool) (T:Tab) (rest:Nat->Nat) (pg0:Nat) (was:Leaf) (h:al w S a p) (ht:am w t c a root) (zJ: ¬S t) (zm:eN w bt t) (zP: ¬S bt) (vR:T.Good p rest pg0 4)
  (vY:T.lf (A.toNat/4096)=some was) (hr:T.nd 4 (part (A.toNat/4096) 4)=some root) (yv:0<=A) (hA:A<140737488355328):
  Calls Tryz.prog 108 #[.pointer (some ⟨t,0,none⟩), .int .u64 A, .func (.func 109) #[] #[.pointer (some ⟨bt,0,none⟩)]] w
   fun e w'=>e= .returned (.int .i64 0)/\ ∃p' T',al w' S a p'/\Mod S w w'/\Gone p T rest (A.toNat/4096) 4 p' T':=by
 have wv:t<w.heap.size:=(uG ht).1;have zb:bt<w.heap.size:=(uG zm).1;have c2:w.cell? ⟨t,2,none⟩=some (.int .i64 (root:Int)):=aa ht 2;have hw:=vR.way (A.toNat/4096);have HT:=uH ht;have HP:=uH h;have HL:=uH vY;have HR:=uH hr;have HW:=uH hw;have Vt:=uH vR;have Mn:=uH zm;have Nv:A<18446744073709551616:=(by omega);have VT:=uH Nv;clear ht h vY hr Nv hw vR zm;go_enter Tryz.func108,Tryz.ntmps108;go_wp2_with fail;refine(cL t c a root _ HT.out).mono ?_;rintro e w1 ⟨rfl,rfl⟩;go_wp2_with fail;go_region_with
  ((
   first
   |(go_at_call 125;refine(ld A _ yv VT.out).mono ?_;rintro e w1 ⟨rfl,vk⟩;have xB:Below w.heap.size w w1:=((vg w.heap.size w).drew).trans vk;have c2':w1.cell? ⟨t,2,none⟩=some (.int .i64 (root:Int)):=aa ((xB.block t wv).trans HT.out) 2)
   |(go_at_call 126;refine(oP t c a root root (A.toNat/4096) bt rest pg0 was _ S p T (HP.out.below xB) ((xB.block t wv).trans HT.out) (uO wv xB.size) HW.out zJ ((xB.block bt zb).trans Mn.out) zP Vt.out HL.out HR.out).mono ?_;rintro e w2 ⟨rfl,p2,T2,zU,vy,Ns⟩)))
 all_goals
  go_wp2_with fail;go_ret;exact⟨rfl,p2,T2,zU,(Mod.of xB).trans (Out.refl _ _) vy,Ns⟩
theorem sd (t c a root bt:Nat) (A:Int) (w:World) (S:Nat->Prop) (p:Pool) (T:Tab) (rest:Nat->Nat) (pg0:Nat) (h:al w S a p) (ht:am w t c a root) (zJ: ¬S t) (zm:eN w bt t) (zP: ¬S bt) (vR:T.Good p rest pg0 4)
  (hr:T.nd 4 0=some root) (yv:0<=A):
  Calls Tryz.prog 108 #[.pointer (some ⟨t,0,none⟩), .int .u64 A, .func (.func 109) #[] #[.pointer (some ⟨bt,0,none⟩)]] w (UnPost w S a p T rest A):=by
 have wv:t<w.heap.size:=(uG ht).1;have hw:=vR.tree hr;by_cases ya:140737488355328<=A
 ·exact(nY t c a root A _ w ht ya).mono fun e w' ⟨he,xt⟩=>by
   subst xt;exact⟨1,p,T,he,h,Mod.refl _ _, .inl ⟨by decide,rfl,rfl, .inl ⟨rfl,ya⟩⟩⟩
 ·have vo:A<140737488355328:=(by omega);have AO:=hw.top yv vo;have DE:=hw.way (A.toNat/4096);cases By:T.lf (A.toNat/4096)with
  |none=>exact(li t c a root A _ w S p T h ht wv DE By AO yv vo).mono fun e w' ⟨he,hb⟩=>⟨6,p,T,he,h.below hb,Mod.of hb, .inl ⟨by decide,rfl,rfl, .inr ⟨rfl,vo,By⟩⟩⟩
  |some was=>exact(tat_un t c a root bt A w S p T rest pg0 was h ht zJ zm zP vR By AO yv vo).mono fun e w' ⟨he,p',T',h1,h2,h3⟩=>⟨0,p',T',he,h1,h2, .inr ⟨rfl,vo,by rw[By];rfl,h3⟩⟩
theorem ia (t c a root:Nat) (A:Int) (w:World) (S:Nat->Prop) (p:Pool) (T:Tab) (rest:Nat->Nat) (pg0:Nat) (h:al w S a p) (ht:am w t c a root) (zJ: ¬S t) (vR:T.Good p rest pg0 4) (hr:T.nd 4 0=some root) (yv:0<=A):
  Calls Tryz.prog 66 #[.pointer (some ⟨t,0,none⟩), .int .u64 A] w (UnPost w S a p T rest A):=by
 have wv:t<w.heap.size:=(uG ht).1;obtain⟨w0,vl⟩: ∃w0,w0=w.alloc (.cells #[.pointer (some ⟨t,0,none⟩)] 77):=⟨_,rfl⟩;have wR:Below w.heap.size w w0:=(by rw[vl];exact uJ);have Rh:eN w0 w.heap.size t:=(by rw[vl];exact ab w _);have LJ: ¬S w.heap.size:=fun e=>by have:=h.low _ e;omega
 have vw:=sd t c a root w.heap.size A w0 S p T rest pg0 (h.below wR) ((wR.block t wv).trans ht) zJ Rh LJ vR hr yv;have d0:w0.cell? ⟨w.heap.size,0,none⟩=some (.pointer (some ⟨t,0,none⟩)):=aa Rh 0;have vT:=uH vw;have vF:=uH vl;clear vw vl Rh h ht vR hr;go_enter Tryz.func66,Tryz.ntmps66;go_upto_region 1 with(fail);rw[<-vF.out];go_wp2_with fail;refine(vT.out).mono ?_;rintro e w2 ⟨r,p',T',rfl,h1,h2,h3⟩;go_wp2_with fail;go_ret;exact⟨r,p',T',rfl,h1,(Mod.of wR).trans (Out.refl _ _) h2,h3⟩
end
