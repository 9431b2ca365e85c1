/- Tables: Unmap's closure, descend with it. -/
import Derived.Test.YtoochjhipmpehaaGreatDoorTtZK
set_option linter.unusedVariables false
set_option linter.unusedSimpArgs false
set_option maxRecDepth 100000
set_option maxHeartbeats 8000000
namespace Go.Proofs.YtoochjhipmpehaaGreatDoor
section
open Go.RowKit
theorem rH (x y z:Value) (W:World):(Instr.field 83 (.agg #[x,y,z]) 0).run Tryz.prog W= .ok x W:=by kernel_rfl
theorem unmap_cl (t c a root f k bt:Nat) (was:Leaf) (w:World) (S:Nat->Prop) (p:Pool) (h:am w S a p) (ht:al w t c a root) (Am: ¬S t) (wT:t<w.heap.size) (zN:eV w bt t) (Au: ¬S bt)
  (hf:f<p.n) (h1:1<=p.cnt f) (hk:k<512) (hw:word (p.dat f) k=was.pack) (yg:was.prot<=7) (Fv:was.frame<p.n) (LL:1<=p.cnt was.frame) (hn:p.n<=1024)
  (Ud:1<=(p.down was.frame).cnt f):
  Calls Tryz.prog 109 (#[.int .i64 (f:Int), .int .i64 (k:Int)]++ #[.pointer (some ⟨bt,0,none⟩)]) w
   fun e w'=>e= .returned (.bool true)/\(am w' S a ((p.down was.frame).store f (aF (p.dat f) k 0))/\Mod S w w'):=by
 have c0:w.cell? ⟨bt,0,none⟩=some (.pointer (some ⟨t,0,none⟩)):=aa zN 0;have c1:w.cell? ⟨t,1,none⟩=some (.pointer (some ⟨a,0,none⟩)):=aa ht 1;have zC:bt<w.heap.size:=(uZ zN).1;have zG:was.pack<18446744073709551616:=(by have:=eB was yg (by omega);omega);have yz:=rH (.int .i64 (was.frame:Int)) (.int .u8 (was.prot:Int)) (.bool was.copy);have My:=va (ey was yg);have HW:=va hw;have MR:=va zN;have HT:=va ht;have HP:=va h;clear zN hw h ht;show Calls Tryz.prog 109 #[.int .i64 (f:Int), .int .i64 (k:Int), .pointer (some ⟨bt,0,none⟩)] w _;go_enter Tryz.func109,Tryz.ntmps109;go_upto_region 1 with(fail);go_region_with
  ((
   first
   |(go_at_call 111;refine(bL t c a root f k _ S p HP.out.drew HT.out hf h1 hk).mono ?_;rintro e w1 ⟨rfl,xY⟩;have vD:Below w.heap.size w w1:=bA xY;rw[HW.out];have e0:w1.cell? ⟨bt,0,none⟩=some (.pointer (some ⟨t,0,none⟩)):=(vD.cell (p:=⟨bt,0,none⟩) zC).trans c0;have e1:w1.cell? ⟨t,1,none⟩=some (.pointer (some ⟨a,0,none⟩)):=(vD.cell (p:=⟨t,1,none⟩) wT).trans c1)
   |(go_at_call 110;refine(ez was.pack w1 zG).mono ?_;rintro e w2 ⟨rfl,ZD⟩;rw[My.out];have vM:Below w.heap.size w w2:=vD.trans (ZD.mono vD.size);have g0:w2.cell? ⟨bt,0,none⟩=some (.pointer (some ⟨t,0,none⟩)):=(vM.cell (p:=⟨bt,0,none⟩) zC).trans c0;have g1:w2.cell? ⟨t,1,none⟩=some (.pointer (some ⟨a,0,none⟩)):=(vM.cell (p:=⟨t,1,none⟩) wT).trans c1)
   |(go_at_call 59;refine(cZ a was.frame _ S _ (HP.out.below vM) Fv LL).mono ?_;rintro e w3 ⟨rfl,Ck,xH⟩)))
 all_goals
  have RG:al w3 t c a root:=(xH.block t (vh wT vM.size) Am).trans ((vM.block t wT).trans HT.out);have Is:eV w3 bt t:=(xH.block bt (vh zC vM.size) Au).trans ((vM.block bt zC).trans MR.out);have k0:w3.cell? ⟨bt,0,none⟩=some (.pointer (some ⟨t,0,none⟩)):=aa Is 0;have hz:w.heap.size<=w3.heap.size:=vx vM.size xH.size;have MG:=va Ck;have MA:=va RG;clear Ck RG Is;go_wp2_with fail;refine(gv t c a root f k 0 w3 S _ MG.out MA.out (vh wT hz) hf Ud hk (by omega)).mono ?_;rintro e w4 ⟨rfl,Ms,xq⟩;go_wp2_with fail;go_ret;exact⟨rfl,Ms,(Mod.of vM).trans (Out.refl _ _) (xH.trans (Out.refl _ _) xq)⟩
end
section
open Go.RowKit Go.Sort
theorem sG {p:Pool} {x g:Nat} (h:2<=p.cnt g\/(g≠x/\1<=p.cnt g)):1<=(p.down x).cnt g:=by
 rcases h with h|⟨h2,h3⟩
 ·by_cases e:g=x
  ·subst e;simp only[Pool.down,af];omega
  ·simp only[Pool.down,ag _ _ e];omega
 ·simp only[Pool.down,ag _ _ h2];omega
def qw (LV:Nat) (D:Int):Prop:= ∀(t c a root f pg bt:Nat) (rest:Nat->Nat) (pg0:Nat) (was:Leaf) (w:World) (S:Nat->Prop) (p:Pool) (T:Tab),am w S a p->al w t c a root->t<w.heap.size->Way p T pg-> ¬S t->eV w bt t-> ¬S bt->T.Good p rest pg0 4->T.lf pg=some was->T.nd LV (part pg LV)=some f->
 Calls Tryz.prog 126 #[.pointer (some ⟨t,0,none⟩), .int .i64 (f:Int),wayA pg, .int .i64 D, .func (.func 109) #[] #[.pointer (some ⟨bt,0,none⟩)]] w fun e w'=>e= .returned (.tuple #[.bool true, .bool true])/\ ∃p' T',am w' S a p'/\Mod S w w'/\Gone p T rest pg LV p' T'
theorem desc_un1:qw 1 3:=by
 intro t c a root f pg bt rest pg0 was w S p T h ht wT hw Am zN Au wA wH hf;obtain⟨f1,f2,f3⟩:=hw.node 1 f (by omega) (by omega) hf;obtain⟨w0,vE,xr,CB,yP,Cj,yI,BM⟩:=df pg h ht wT;obtain⟨c0,c1,c2,c3⟩:=Cj.cells;have hn:=bU pg 1;have zC:bt<w.heap.size:=(uZ zN).1;obtain⟨x,hx⟩: ∃x,x=was.pack:=⟨_,rfl⟩;have E0:=va (show word (p.dat f) (num pg 1)=was.pack by rw[f3,Tab.on_one,wH]);obtain⟨p7,pf,pc⟩:=wA.leafOf wH;have wb:=hw.few;have zG:x<18446744073709551616:=(by rw[hx];have:=eB was p7 (by omega);omega);have FR:=fp zG (by rw[hx];exact fC was);have Ud:=sG (wA.safe wH hf);have vY:=va vE;have HF:=va hf;have HL:=va wH;have Wl:=va wA;have MR:=va zN;have HX:=va hx;clear f3 hf vE h ht wH wA zN hx;unfold wayA;go_enter Tryz.func126,Tryz.ntmps126;go_upto_region 1 with(fail);rw[<-vY.out];go_wp2_with fail;refine(bL t c a root f _ w0 S p CB yP f1 f2 (bU pg _)).mono ?_;rintro e w1 ⟨rfl,vD⟩;rw[E0.out,<-HX.out];have wg:=vD.size;have Aa:Below w.heap.size w w1:=xr.trans (vD.mono (Nat.le_of_lt yI));have QD:=va (CB.below vD);have QY:=va (show eV w1 bt t from(Aa.block bt zC).trans MR.out);have zr:=va (show al w1 t c a root from(vD.block t BM).trans yP);clear CB yP;go_wp2_with fail;refine(unmap_cl t c a root f (num pg 1) bt was w1 S p QD.out zr.out Am (vh BM wg) QY.out Au f1 f2 hn E0.out p7 pf pc wb Ud).mono ?_;rintro e w2 ⟨rfl,Ay,vT⟩;go_wp2_with fail;go_ret2;exact⟨rfl,_,_,Ay,(Mod.of Aa).trans (Out.refl _ _) vT,Gone.start Wl.out HL.out HF.out⟩
theorem mh {LV LW:Nat} {D E:Int} (hc:eO LV LW D E) (ih:qw LW E):qw LV D:=by
 intro t c a root f pg bt rest pg0 was w S p T h ht wT hw Am zN Au wA wH hf;obtain⟨f1,f2,f3⟩:=hw.node LV f (by have:=hc.nums;omega) (by have:=hc.nums;omega) hf;obtain⟨w0,vE,xr,CB,yP,Cj,yI,BM⟩:=df pg h ht wT;obtain⟨c0,c1,c2,c3⟩:=Cj.cells;have zC:bt<w.heap.size:=(uZ zN).1;obtain⟨g,hg⟩: ∃g,T.nd LW (part pg LW)=some g:=bE (wA.ok.leafUp wH LW (by have:=hc.nums;omega) (by have:=hc.nums;omega));obtain⟨g1,g2,_⟩:=hw.node LW g (by have:=hc.nums;omega) (by have:=hc.nums;omega) hg;have wb:=hw.few;obtain⟨x,hx⟩: ∃x,x=g*4096+1:=⟨_,rfl⟩;have e0:=oM hc f3 hg;rw[<-hx]at e0;have E0:=va e0;have zG:x<18446744073709551616:=(by omega);have FR:=fp zG (by omega);have Ix:=va (show((x:Int)/4096)=(g:Int) by omega);have HG:=va hg;have vY:=va vE;have HF:=va hf;have HL:=va wH;have Wl:=va wA;have MR:=va zN;have IH:=va ih;clear f3 hf vE h ht hg ih e0 hx wH wA zN;unfold wayA;rcases hc with⟨rfl,rfl,rfl,rfl⟩|⟨rfl,rfl,rfl,rfl⟩|⟨rfl,rfl,rfl,rfl⟩<;>(
  go_enter Tryz.func126,Tryz.ntmps126;go_upto_region 1 with(fail);rw[<-vY.out];go_wp2_with fail;refine(bL t c a root f _ w0 S p CB yP f1 f2 (bU pg _)).mono ?_;rintro e w1 ⟨rfl,vD⟩;rw[E0.out];have wg:=vD.size;obtain⟨d0,d1,d2,d3⟩:=ln.cells ((vD.block _ yI).trans Cj);have Aa:Below w.heap.size w w1:=xr.trans (vD.mono (Nat.le_of_lt yI));have Ss:t<w1.heap.size:=vh BM wg;have zr:=va (show al w1 t c a root from(vD.block t BM).trans yP);have QD:=va (CB.below vD);have QY:=va (show eV w1 bt t from(Aa.block bt zC).trans MR.out);clear c0 c1 c2 c3 CB yP Cj;go_wp2_with fail;rw[Ix.out];refine(IH.out t c a root g pg bt rest pg0 was w1 S p T QD.out zr.out Ss hw Am QY.out Au Wl.out HL.out HG.out).mono ?_;rintro e w2 ⟨rfl,p2,T2,Ay,vT,Oc⟩;have wm:=vT.size;have Xr:al w2 t c a root:=(vT.block t Ss Am).trans zr.out;have Bo:=(Oc.top _ _ (vd _)).trans HG.out;have Jm:=(Oc.top _ _ (by omega)).trans HF.out;obtain⟨n1,n2⟩:=Oc.good.node Bo;obtain⟨m1,m2⟩:=Oc.good.node Jm;have Ox:=va Oc;have Vz:=va Bo;have Vy:=va Jm;have Ol:=va Ay;have RT:=va Xr;have Yh:t<w2.heap.size:=(by omega);clear Oc Bo Jm Ay Xr d0 d1 d2 d3;go_wp2_with fail;refine(qG t c a root g w2 S p2 Ol.out RT.out n1 n2).mono ?_;rintro e w3 ⟨rfl,vX⟩;have xR:=vX.size;have Sq:t<w3.heap.size:=(by omega);have MA:=va (show al w3 t c a root from(vX.block t Yh).trans RT.out);have MG:=va (Ol.out.below vX);have EN:Mod S w w3:=(Mod.of Aa).trans (Out.refl _ _) (vT.trans (Out.refl _ _) (Mod.of vX));by_cases Rx: ∀i,i<4096->p2.dat g i=0
  ·have hzz:px (p2.dat g) 4096=true:=vr Rx;have HEZ:=va Rx;clear Rx;go_wp2_with fail;refine(gv t c a root f _ 0 w3 S p2 MG.out MA.out Sq m1 m2 (bU pg _) (by omega)).mono ?_;rintro e w4 ⟨rfl,Ms,xq⟩;have AX:=xq.size;have Fk:al w4 t c a root:=(xq.block t Sq Am).trans MA.out;have d4:w4.cell? ⟨t,1,none⟩=some (.pointer (some ⟨a,0,none⟩)):=aa Fk 1;have KQ:=va Ms;clear Ms Fk;go_wp2_with fail;refine(cZ a g _ S _ KQ.out n1 n2).mono ?_;rintro e w5 ⟨rfl,IN,xf⟩;go_wp2_with fail;go_ret2;exact⟨rfl,_,_,IN,EN.trans (Out.refl _ _) (xq.trans (Out.refl _ _) xf),Ox.out.prune (by omega) (by omega) Vz.out Vy.out HEZ.out⟩
  ·have hzz:px (p2.dat g) 4096=false:=vq Rx;have HEZ:=va Rx;clear Rx;go_wp2_with fail;go_ret2;exact⟨rfl,_,_,MG.out,EN,Ox.out.keep Vz.out HEZ.out _ (by omega)⟩)
theorem pd:qw 4 0:=mh (.inr (.inr ⟨rfl,rfl,rfl,rfl⟩)) (mh (.inr (.inl ⟨rfl,rfl,rfl,rfl⟩)) (mh (.inl ⟨rfl,rfl,rfl,rfl⟩) desc_un1))
end
section
open Go.RowKit Go.Sort
def UnRes (p:Pool) (T:Tab) (rest:Nat->Nat) (A:Int) (r:Int) (p':Pool) (T':Tab):Prop:=
 (r≠0/\p'=p/\T'=T/\(r=1/\140737488355328<=A\/r=6/\A<140737488355328/\T.lf (A.toNat/4096)=none))\/
 (r=0/\A<140737488355328/\(T.lf (A.toNat/4096)).isSome=true/\Gone p T rest (A.toNat/4096) 4 p' T')
def UnPost (w:World) (S:Nat->Prop) (a:Nat) (p:Pool) (T:Tab) (rest:Nat->Nat) (A:Int) (e:Ending) (w':World):Prop:=
 ∃r p' T',e= .returned (.int .i64 r)/\am w' S a p'/\Mod S w w'/\UnRes p T rest A r p' T'
theorem tat_un (t c a root bt:Nat) (A:Int) (w:World) (S:Nat->Prop) (p:Pool) (T:Tab) (rest:Nat->Nat) (pg0:Nat) (was:Leaf) (h:am w S a p) (ht:al w t c a root) (Am: ¬S t) (zN:eV w bt t) (Au: ¬S bt) (wA:T.Good p rest pg0 4)
  (wH:T.lf (A.toNat/4096)=some was) (hr:T.nd 4 (part (A.toNat/4096) 4)=some root) (yW:0<=A) (hA:A<140737488355328):
  Calls Tryz.prog 108 #[.pointer (some ⟨t,0,none⟩), .int .u64 A, .func (.func 109) #[] #[.pointer (some ⟨bt,0,none⟩)]] w
   fun e w'=>e= .returned (.int .i64 0)/\ ∃p' T',am w' S a p'/\Mod S w w'/\Gone p T rest (A.toNat/4096) 4 p' T':=by
 have wT:t<w.heap.size:=(uZ ht).1;have zC:bt<w.heap.size:=(uZ zN).1;have c2:w.cell? ⟨t,2,none⟩=some (.int .i64 (root:Int)):=aa ht 2;have hw:=wA.way (A.toNat/4096);have HT:=va ht;have HP:=va h;have HL:=va wH;have HR:=va hr;have HW:=va hw;have Wl:=va wA;have MR:=va zN;have Of:A<18446744073709551616:=(by omega);have WT:=va Of;clear ht h wH hr Of hw wA zN;go_enter Tryz.func108,Tryz.ntmps108;go_wp2_with fail;refine(cQ t c a root _ HT.out).mono ?_;rintro e w1 ⟨rfl,rfl⟩;go_wp2_with fail;go_region_with
  ((
   first
   |(go_at_call 125;refine(lu A _ yW WT.out).mono ?_;rintro e w1 ⟨rfl,vD⟩;have xY:Below w.heap.size w w1:=((vz w.heap.size w).drew).trans vD;have c2':w1.cell? ⟨t,2,none⟩=some (.int .i64 (root:Int)):=aa ((xY.block t wT).trans HT.out) 2)
   |(go_at_call 126;refine(pd t c a root root (A.toNat/4096) bt rest pg0 was _ S p T (HP.out.below xY) ((xY.block t wT).trans HT.out) (vh wT xY.size) HW.out Am ((xY.block bt zC).trans MR.out) Au Wl.out HL.out HR.out).mono ?_;rintro e w2 ⟨rfl,p2,T2,Ay,vT,Oc⟩)))
 all_goals
  go_wp2_with fail;go_ret;exact⟨rfl,p2,T2,Ay,(Mod.of xY).trans (Out.refl _ _) vT,Oc⟩
theorem sq (t c a root bt:Nat) (A:Int) (w:World) (S:Nat->Prop) (p:Pool) (T:Tab) (rest:Nat->Nat) (pg0:Nat) (h:am w S a p) (ht:al w t c a root) (Am: ¬S t) (zN:eV w bt t) (Au: ¬S bt) (wA:T.Good p rest pg0 4)
  (hr:T.nd 4 0=some root) (yW:0<=A):
  Calls Tryz.prog 108 #[.pointer (some ⟨t,0,none⟩), .int .u64 A, .func (.func 109) #[] #[.pointer (some ⟨bt,0,none⟩)]] w (UnPost w S a p T rest A):=by
 have wT:t<w.heap.size:=(uZ ht).1;have hw:=wA.tree hr;by_cases yC:140737488355328<=A
 ·exact(ov t c a root A _ w ht yC).mono fun e w' ⟨he,xI⟩=>by
   subst xI;exact⟨1,p,T,he,h,Mod.refl _ _, .inl ⟨by decide,rfl,rfl, .inl ⟨rfl,yC⟩⟩⟩
 ·have vH:A<140737488355328:=(by omega);have Bo:=hw.top yW vH;have Ed:=hw.way (A.toNat/4096);cases BZ:T.lf (A.toNat/4096)with
  |none=>exact(lA t c a root A _ w S p T h ht wT Ed BZ Bo yW vH).mono fun e w' ⟨he,hb⟩=>⟨6,p,T,he,h.below hb,Mod.of hb, .inl ⟨by decide,rfl,rfl, .inr ⟨rfl,vH,BZ⟩⟩⟩
  |some was=>exact(tat_un t c a root bt A w S p T rest pg0 was h ht Am zN Au wA BZ Bo yW vH).mono fun e w' ⟨he,p',T',h1,h2,h3⟩=>⟨0,p',T',he,h1,h2, .inr ⟨rfl,vH,by rw[BZ];rfl,h3⟩⟩
theorem ik (t c a root:Nat) (A:Int) (w:World) (S:Nat->Prop) (p:Pool) (T:Tab) (rest:Nat->Nat) (pg0:Nat) (h:am w S a p) (ht:al w t c a root) (Am: ¬S t) (wA:T.Good p rest pg0 4) (hr:T.nd 4 0=some root) (yW:0<=A):
  Calls Tryz.prog 66 #[.pointer (some ⟨t,0,none⟩), .int .u64 A] w (UnPost w S a p T rest A):=by
 have wT:t<w.heap.size:=(uZ ht).1;obtain⟨w0,vE⟩: ∃w0,w0=w.alloc (.cells #[.pointer (some ⟨t,0,none⟩)] 77):=⟨_,rfl⟩;have xr:Below w.heap.size w w0:=(by rw[vE];exact vc);have RK:eV w0 w.heap.size t:=(by rw[vE];exact ab w _);have Mo: ¬S w.heap.size:=fun e=>by have:=h.low _ e;omega
 have vO:=sq t c a root w.heap.size A w0 S p T rest pg0 (h.below xr) ((xr.block t wT).trans ht) Am RK Mo wA hr yW;have d0:w0.cell? ⟨w.heap.size,0,none⟩=some (.pointer (some ⟨t,0,none⟩)):=aa RK 0;have wC:=va vO;have vY:=va vE;clear vO vE RK h ht wA hr;go_enter Tryz.func66,Tryz.ntmps66;go_upto_region 1 with(fail);rw[<-vY.out];go_wp2_with fail;refine(wC.out).mono ?_;rintro e w2 ⟨r,p',T',rfl,h1,h2,h3⟩;go_wp2_with fail;go_ret;exact⟨r,p',T',rfl,h1,(Mod.of xr).trans (Out.refl _ _) h2,h3⟩
end
