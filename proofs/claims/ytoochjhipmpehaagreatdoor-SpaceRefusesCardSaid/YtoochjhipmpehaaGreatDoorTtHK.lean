/- Tables: Set, whole. -/
import Derived.Test.YtoochjhipmpehaaGreatDoorTtZK
set_option linter.unusedVariables false
set_option linter.unusedSimpArgs false
set_option maxRecDepth 100000
set_option maxHeartbeats 2000000
namespace Go.Proofs.YtoochjhipmpehaaGreatDoor
section
open Go.RowKit Go.Sort
def mJ (p:Pool) (T:Tab) (A fr q:Int) (cp:Bool):Int×Pool×Tab:=
 if 7<q\/bC p fr=0 then(1,p,T)
 else if 140737488355328<=A then(1,p,T)
 else match T.lf (A.toNat/4096),T.nd 1 (part (A.toNat/4096) 1)with
  |some was,some g=>(0,((p.up fr.toNat).down was.frame).store g (aE (p.dat g) (num (A.toNat/4096) 1) (Leaf.pack ⟨fr.toNat,q.toNat,cp⟩)),T.lay (A.toNat/4096) (some ⟨fr.toNat,q.toNat,cp⟩))
  |_,_ =>(6,p,T)
def uu (w:World) (S:Nat->Prop) (a:Nat) (r:Int×Pool×Tab) (e:Ending) (w':World):Prop:=e= .returned (.int .i64 r.1)/\al w' S a r.2.1/\Mod S w w'
theorem safe_set {p:Pool} {f x g:Nat} (h:2<=p.cnt g\/(g≠x/\1<=p.cnt g)):1<=((p.up f).down x).cnt g:=by
 have h1:p.cnt g<=(p.up f).cnt g:=by
  by_cases e:g=f
  ·subst e;simp only[Pool.up,af];omega
  ·simp only[Pool.up,ag _ _ e];omega
 rcases h with h|⟨h2,h3⟩
 ·by_cases e:g=x
  ·subst e;simp only[Pool.down,af];omega
  ·simp only[Pool.down,ag _ _ e];omega
 ·simp only[Pool.down,ag _ _ h2];omega
theorem qt (t c a root bt bl pg0:Nat) (A:Int) (l:Leaf) (w:World) (S:Nat->Prop) (p:Pool) (T:Tab) (rest:Nat->Nat) (h:al w S a p) (ht:am w t c a root) (zJ: ¬S t) (hg:T.Good p rest pg0 4) (hr:T.nd 4 0=some root) (yv:0<=A)
  (zm:eN w bt t) (zP: ¬S bt) (AQ:cw w bl l) (LH: ¬S bl) (h7:l.prot<=7) (vY:l.frame<p.n) (Bb:1<=p.cnt l.frame) (wB:p.cnt l.frame+1<1000000000000):
  Calls Tryz.prog 108 #[.pointer (some ⟨t,0,none⟩), .int .u64 A, .func (.func 116) #[] #[.pointer (some ⟨bt,0,none⟩), .pointer (some ⟨bl,0,none⟩)]] w (uu w S a (mJ p T A (l.frame:Int) (l.prot:Int) l.copy)):=by
 have wv:t<w.heap.size:=(uG ht).1;have zb:bt<w.heap.size:=(uG zm).1;have Hc:bl<w.heap.size:=(uG AQ).1;have hw:=hg.tree hr;have vR: ¬(7<(l.prot:Int)\/bC p (l.frame:Int)=0):=by
  rw[aQ vY];omega
 unfold mJ;rw[if_neg vR];by_cases ya:140737488355328<=A
 ·rw[if_pos ya];exact(nY t c a root A _ w ht ya).mono fun e w' ⟨he,xt⟩=>by
   subst xt;exact⟨he,h,Mod.refl _ _⟩
 ·rw[if_neg ya];have vo:A<140737488355328:=(by omega);have AO:=hw.top yv vo;have DE:=hw.way (A.toNat/4096);cases By:T.lf (A.toNat/4096)with
  |none=>
   have e:(match(none:Option Leaf),T.nd 1 (part (A.toNat/4096) 1)with
    |some was,some g=>((0:Int),((p.up (l.frame:Int).toNat).down was.frame).store g (aE (p.dat g) (num (A.toNat/4096) 1) (Leaf.pack ⟨(l.frame:Int).toNat,(l.prot:Int).toNat,l.copy⟩)),T.lay (A.toNat/4096) (some ⟨(l.frame:Int).toNat,(l.prot:Int).toNat,l.copy⟩))
    |_,_ =>(6,p,T))=(6,p,T):=rfl
   rw[e];exact(li t c a root A _ w S p T h ht wv DE By AO yv vo).mono fun e w' ⟨he,hb⟩=>⟨he,h.below hb,Mod.of hb⟩
  |some was=>
   have yk:=hw.ups _ was By;obtain⟨q1,Ic⟩:=bB (yk 1 (by omega) (by omega));obtain⟨n1,n2,n3⟩:=DE.node 1 q1 (by omega) (by omega) Ic;obtain⟨p7,pf,pc⟩:=hg.leafOf By;rw[Ic];simp only[Int.toNat_natCast];have vH:=DE.few;refine(sb (bt:=bt) (bl:=bl) (.inr (.inr ⟨rfl,rfl⟩)) t c a root A (fun w1 w2=>al w2 S a (((p.up l.frame).down was.frame).store q1 (aE (p.dat q1) (num (A.toNat/4096) 1) l.pack))/\Mod S w1 w2) w S p T h ht wv DE yk was q1 By Ic (fun w1 hb=>?_) AO yv vo).mono fun e w' ⟨he,w1,hb,hp,hm⟩=>⟨he,hp,(Mod.of hb).trans (Out.refl _ _) hm⟩;exact set_cl t c a root q1 (num (A.toNat/4096) 1) bt bl l was w1 S p (h.below hb) ((hb.block t wv).trans ht) zJ (uO wv hb.size) ((hb.block bt zb).trans zm) zP ((hb.block bl Hc).trans AQ) LH n1 n2 (bR _ _) (by rw[n3,Tab.on_one,By]) p7 pf pc h7 vY Bb wB vH (safe_set (hg.safe By Ic))
theorem gm (t c a root pg0:Nat) (A:Int) (l:Leaf) (w:World) (S:Nat->Prop) (p:Pool) (T:Tab) (rest:Nat->Nat) (h:al w S a p) (ht:am w t c a root) (zJ: ¬S t) (hg:T.Good p rest pg0 4) (hr:T.nd 4 0=some root) (yv:0<=A)
  (h7:l.prot<=7) (vY:l.frame<p.n) (Bb:1<=p.cnt l.frame) (wB:p.cnt l.frame+1<1000000000000)
  (fr q:Int) (xU:fr=(l.frame:Int)) (Sn:q=(l.prot:Int)):
  Calls Tryz.prog 69 #[.pointer (some ⟨t,0,none⟩), .int .u64 A, .agg #[.int .i64 fr, .int .u8 q, .bool l.copy]] w (uu w S a (mJ p T A fr q l.copy)):=by
 have wv:t<w.heap.size:=(uG ht).1;obtain⟨w0,vl⟩: ∃w0,w0=(w.alloc (.cells #[.pointer (some ⟨t,0,none⟩)] 77)).alloc (.cells #[.int .i64 fr, .int .u8 q, .bool l.copy] 83):=⟨_,rfl⟩;have wR:Below w.heap.size w w0:=(by rw[vl];exact uJ.alloc (by simp) _);have AX:w0.heap.size=w.heap.size+1+1:=(by rw[vl];simp);have Cf:eN w0 w.heap.size t:=(by rw[vl];exact(uL _ _ _ (by simp)).trans (ab w _));have zV:cw w0 (w.heap.size+1) l:=by
  rw[vl];have e:(w.alloc (.cells #[.pointer (some ⟨t,0,none⟩)] 77)).heap.size=w.heap.size+1:=(by simp);unfold cw;rw[<-e,<-xU,<-Sn];exact ab _ _
 have yo:am w0 t c a root:=(wR.block t wv).trans ht;have d0: ∀d os,(grow (redrawn w0 d) os).cell? ⟨w.heap.size,0,none⟩=some (.pointer (some ⟨t,0,none⟩)):=fun d os=>cell_regrown (aa Cf 0) d os;have d1: ∀d os,(grow (redrawn w0 d) os).cell? ⟨w.heap.size+1,0,none⟩=some (.int .i64 fr):=fun d os=>by rw[xU];exact cell_regrown (aa zV 0) d os
 have d2: ∀d os,(grow (redrawn w0 d) os).cell? ⟨w.heap.size+1,1,none⟩=some (.int .u8 q):=fun d os=>by rw[Sn];exact cell_regrown (aa zV 1) d os
 have d3: ∀d os,(grow (redrawn w0 d) os).cell? ⟨t,1,none⟩=some (.pointer (some ⟨a,0,none⟩)):=fun d os=>cell_regrown (aa yo 1) d os;have hG:=fun d os=>Calls.regrown_of ((cL t c a root (grow (redrawn w0 d) os) (((below_regrown w0 d os).block t (uO wv wR.size)).trans yo)).mono fun _ _ ⟨h1,h2⟩=>⟨h1,h2▸vg _ _⟩);have hC:=fun d os=>Calls.regrown_of ((gO a fr (grow (redrawn w0 d) os) S p ((h.below wR).below (below_regrown w0 d os))).mono fun _ _ ⟨h1,h2⟩=>⟨h1,h2▸vg _ _⟩);have Pm:(((bC p fr:Nat):Int)==0)=false:=(by rw[xU,aQ vY,uW];omega);have hq':decide (7<q)=false:=(by rw[Sn];exact uX (by omega));have HG:=uH hG;have CX:=uH xU;have HQ:=uH Sn;have HC:=uH hC;have vF:=uH vl;have HP:=uH (h.below wR);have Wz:=uH yo;have HPt:=uH Cf;have HL:=uH zV;have Vq:=uH hg;have HR:=uH hr;have b1: ¬S w.heap.size:=fun e=>by have:=h.low _ e;omega
 have b2: ¬S (w.heap.size+1):=fun e=>by have:=h.low _ e;omega
 have hwq:w.heap.size+1<w0.heap.size:=(by omega);clear vl h ht Cf zV yo hG hC hg hr AX xU Sn;go_enter Tryz.func69,Tryz.ntmps69;go_upto_region 1 with(fail);rw[<-vF.out];refine wp_region_quiet_below (by kernel_rfl) (by kernel_rfl) ?_;(repeat(go_big_quiet_step ((first|exact HG.out _ _ |exact HC.out _ _))));refine wpQuiet_nil ?_;intro _ xt;obtain⟨⟨dq,osq⟩,hw''⟩:=xt;subst hw'';have we:=below_regrown (w0) dq osq;generalize grow (redrawn (w0) dq) osq=wq at we⊢;clear d0 d1 d2 d3;have Hx:=we.size;have YG:eN wq w.heap.size t:=(we.block _ (by omega)).trans HPt.out;have d0:wq.cell? ⟨w.heap.size,0,none⟩=some (.pointer (some ⟨t,0,none⟩)):=aa YG 0;have HPq:=uH YG;clear YG;go_wp2_with fail;refine(qt t c a root w.heap.size (w.heap.size+1) pg0 A l wq S p T rest (HP.out.below we) ((we.block t (by omega)).trans Wz.out) zJ Vq.out HR.out yv HPq.out b1 ((we.block _ hwq).trans HL.out) b2 h7 vY Bb wB).mono ?_;rintro e w2 ⟨rfl,hp2,vy⟩;go_wp2_with fail;go_ret;rw[CX.out,HQ.out];exact⟨rfl,hp2,(Mod.of (wR.trans (we.mono wR.size))).trans (Out.refl _ _) vy⟩
end
