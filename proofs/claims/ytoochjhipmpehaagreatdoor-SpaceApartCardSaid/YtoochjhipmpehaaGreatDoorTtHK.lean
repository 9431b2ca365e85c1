/- Tables: Set, whole. -/
import Derived.Test.YtoochjhipmpehaaGreatDoorTtZK
set_option linter.unusedVariables false
set_option linter.unusedSimpArgs false
set_option maxRecDepth 100000
set_option maxHeartbeats 2000000
namespace Go.Proofs.YtoochjhipmpehaaGreatDoor
section
open Go.RowKit Go.Sort
def mT (p:Pool) (T:Tab) (A fr q:Int) (cp:Bool):Int×Pool×Tab:=
 if 7<q\/bF p fr=0 then(1,p,T)
 else if 140737488355328<=A then(1,p,T)
 else match T.lf (A.toNat/4096),T.nd 1 (part (A.toNat/4096) 1)with
  |some was,some g=>(0,((p.up fr.toNat).down was.frame).store g (aF (p.dat g) (num (A.toNat/4096) 1) (Leaf.pack ⟨fr.toNat,q.toNat,cp⟩)),T.lay (A.toNat/4096) (some ⟨fr.toNat,q.toNat,cp⟩))
  |_,_ =>(6,p,T)
def uM (w:World) (S:Nat->Prop) (a:Nat) (r:Int×Pool×Tab) (e:Ending) (w':World):Prop:=e= .returned (.int .i64 r.1)/\am w' S a r.2.1/\Mod S w w'
theorem safe_set {p:Pool} {f x g:Nat} (h:2<=p.cnt g\/(g≠x/\1<=p.cnt g)):1<=((p.up f).down x).cnt g:=by
 have h1:p.cnt g<=(p.up f).cnt g:=by
  by_cases e:g=f
  ·subst e;simp only[Pool.up,af];omega
  ·simp only[Pool.up,ag _ _ e];omega
 rcases h with h|⟨h2,h3⟩
 ·by_cases e:g=x
  ·subst e;simp only[Pool.down,af];omega
  ·simp only[Pool.down,ag _ _ e];omega
 ·simp only[Pool.down,ag _ _ h2];omega
theorem qH (t c a root bt bl pg0:Nat) (A:Int) (l:Leaf) (w:World) (S:Nat->Prop) (p:Pool) (T:Tab) (rest:Nat->Nat) (h:am w S a p) (ht:al w t c a root) (Am: ¬S t) (hg:T.Good p rest pg0 4) (hr:T.nd 4 0=some root) (yW:0<=A)
  (zN:eV w bt t) (Au: ¬S bt) (Br:cB w bl l) (Mm: ¬S bl) (h7:l.prot<=7) (wH:l.frame<p.n) (BE:1<=p.cnt l.frame) (wY:p.cnt l.frame+1<1000000000000):
  Calls Tryz.prog 108 #[.pointer (some ⟨t,0,none⟩), .int .u64 A, .func (.func 116) #[] #[.pointer (some ⟨bt,0,none⟩), .pointer (some ⟨bl,0,none⟩)]] w (uM w S a (mT p T A (l.frame:Int) (l.prot:Int) l.copy)):=by
 have wT:t<w.heap.size:=(uZ ht).1;have zC:bt<w.heap.size:=(uZ zN).1;have Ik:bl<w.heap.size:=(uZ Br).1;have hw:=hg.tree hr;have wA: ¬(7<(l.prot:Int)\/bF p (l.frame:Int)=0):=by
  rw[aR wH];omega
 unfold mT;rw[if_neg wA];by_cases yC:140737488355328<=A
 ·rw[if_pos yC];exact(ov t c a root A _ w ht yC).mono fun e w' ⟨he,xI⟩=>by
   subst xI;exact⟨he,h,Mod.refl _ _⟩
 ·rw[if_neg yC];have vH:A<140737488355328:=(by omega);have Bo:=hw.top yW vH;have Ed:=hw.way (A.toNat/4096);cases BZ:T.lf (A.toNat/4096)with
  |none=>
   have e:(match(none:Option Leaf),T.nd 1 (part (A.toNat/4096) 1)with
    |some was,some g=>((0:Int),((p.up (l.frame:Int).toNat).down was.frame).store g (aF (p.dat g) (num (A.toNat/4096) 1) (Leaf.pack ⟨(l.frame:Int).toNat,(l.prot:Int).toNat,l.copy⟩)),T.lay (A.toNat/4096) (some ⟨(l.frame:Int).toNat,(l.prot:Int).toNat,l.copy⟩))
    |_,_ =>(6,p,T))=(6,p,T):=rfl
   rw[e];exact(lA t c a root A _ w S p T h ht wT Ed BZ Bo yW vH).mono fun e w' ⟨he,hb⟩=>⟨he,h.below hb,Mod.of hb⟩
  |some was=>
   have yL:=hw.ups _ was BZ;obtain⟨q1,II⟩:=bE (yL 1 (by omega) (by omega));obtain⟨n1,n2,n3⟩:=Ed.node 1 q1 (by omega) (by omega) II;obtain⟨p7,pf,pc⟩:=hg.leafOf BZ;rw[II];simp only[Int.toNat_natCast];have wb:=Ed.few;refine(sn (bt:=bt) (bl:=bl) (.inr (.inr ⟨rfl,rfl⟩)) t c a root A (fun w1 w2=>am w2 S a (((p.up l.frame).down was.frame).store q1 (aF (p.dat q1) (num (A.toNat/4096) 1) l.pack))/\Mod S w1 w2) w S p T h ht wT Ed yL was q1 BZ II (fun w1 hb=>?_) Bo yW vH).mono fun e w' ⟨he,w1,hb,hp,hm⟩=>⟨he,hp,(Mod.of hb).trans (Out.refl _ _) hm⟩;exact set_cl t c a root q1 (num (A.toNat/4096) 1) bt bl l was w1 S p (h.below hb) ((hb.block t wT).trans ht) Am (vh wT hb.size) ((hb.block bt zC).trans zN) Au ((hb.block bl Ik).trans Br) Mm n1 n2 (bU _ _) (by rw[n3,Tab.on_one,BZ]) p7 pf pc h7 wH BE wY wb (safe_set (hg.safe BZ II))
theorem gu (t c a root pg0:Nat) (A:Int) (l:Leaf) (w:World) (S:Nat->Prop) (p:Pool) (T:Tab) (rest:Nat->Nat) (h:am w S a p) (ht:al w t c a root) (Am: ¬S t) (hg:T.Good p rest pg0 4) (hr:T.nd 4 0=some root) (yW:0<=A)
  (h7:l.prot<=7) (wH:l.frame<p.n) (BE:1<=p.cnt l.frame) (wY:p.cnt l.frame+1<1000000000000)
  (fr q:Int) (yw:fr=(l.frame:Int)) (SX:q=(l.prot:Int)):
  Calls Tryz.prog 69 #[.pointer (some ⟨t,0,none⟩), .int .u64 A, .agg #[.int .i64 fr, .int .u8 q, .bool l.copy]] w (uM w S a (mT p T A fr q l.copy)):=by
 have wT:t<w.heap.size:=(uZ ht).1;obtain⟨w0,vE⟩: ∃w0,w0=(w.alloc (.cells #[.pointer (some ⟨t,0,none⟩)] 77)).alloc (.cells #[.int .i64 fr, .int .u8 q, .bool l.copy] 83):=⟨_,rfl⟩;have xr:Below w.heap.size w w0:=(by rw[vE];exact vc.alloc (by simp) _);have BB:w0.heap.size=w.heap.size+1+1:=(by rw[vE];simp);have CB:eV w0 w.heap.size t:=(by rw[vE];exact(ve _ _ _ (by simp)).trans (ab w _));have Az:cB w0 (w.heap.size+1) l:=by
  rw[vE];have e:(w.alloc (.cells #[.pointer (some ⟨t,0,none⟩)] 77)).heap.size=w.heap.size+1:=(by simp);unfold cB;rw[<-e,<-yw,<-SX];exact ab _ _
 have yP:al w0 t c a root:=(xr.block t wT).trans ht;have d0: ∀d os,(grow (redrawn w0 d) os).cell? ⟨w.heap.size,0,none⟩=some (.pointer (some ⟨t,0,none⟩)):=fun d os=>cell_regrown (aa CB 0) d os;have d1: ∀d os,(grow (redrawn w0 d) os).cell? ⟨w.heap.size+1,0,none⟩=some (.int .i64 fr):=fun d os=>by rw[yw];exact cell_regrown (aa Az 0) d os
 have d2: ∀d os,(grow (redrawn w0 d) os).cell? ⟨w.heap.size+1,1,none⟩=some (.int .u8 q):=fun d os=>by rw[SX];exact cell_regrown (aa Az 1) d os
 have d3: ∀d os,(grow (redrawn w0 d) os).cell? ⟨t,1,none⟩=some (.pointer (some ⟨a,0,none⟩)):=fun d os=>cell_regrown (aa yP 1) d os;have hG:=fun d os=>Calls.regrown_of ((cQ t c a root (grow (redrawn w0 d) os) (((below_regrown w0 d os).block t (vh wT xr.size)).trans yP)).mono fun _ _ ⟨h1,h2⟩=>⟨h1,h2▸vz _ _⟩);have hC:=fun d os=>Calls.regrown_of ((gU a fr (grow (redrawn w0 d) os) S p ((h.below xr).below (below_regrown w0 d os))).mono fun _ _ ⟨h1,h2⟩=>⟨h1,h2▸vz _ _⟩);have PM:(((bF p fr:Nat):Int)==0)=false:=(by rw[yw,aR wH,vp];omega);have hq':decide (7<q)=false:=(by rw[SX];exact vq (by omega));have HG:=va hG;have Dx:=va yw;have HQ:=va SX;have HC:=va hC;have vY:=va vE;have HP:=va (h.below xr);have Xz:=va yP;have HPt:=va CB;have HL:=va Az;have Wi:=va hg;have HR:=va hr;have b1: ¬S w.heap.size:=fun e=>by have:=h.low _ e;omega
 have b2: ¬S (w.heap.size+1):=fun e=>by have:=h.low _ e;omega
 have hwq:w.heap.size+1<w0.heap.size:=(by omega);clear vE h ht CB Az yP hG hC hg hr BB yw SX;go_enter Tryz.func69,Tryz.ntmps69;go_upto_region 1 with(fail);rw[<-vY.out];refine wp_region_quiet_below (by kernel_rfl) (by kernel_rfl) ?_;(repeat(go_big_quiet_step ((first|exact HG.out _ _ |exact HC.out _ _))));refine wpQuiet_nil ?_;intro _ xI;obtain⟨⟨dq,osq⟩,hw''⟩:=xI;subst hw'';have wM:=below_regrown (w0) dq osq;generalize grow (redrawn (w0) dq) osq=wq at wM⊢;clear d0 d1 d2 d3;have LH:=wM.size;have ZM:eV wq w.heap.size t:=(wM.block _ (by omega)).trans HPt.out;have d0:wq.cell? ⟨w.heap.size,0,none⟩=some (.pointer (some ⟨t,0,none⟩)):=aa ZM 0;have HPq:=va ZM;clear ZM;go_wp2_with fail;refine(qH t c a root w.heap.size (w.heap.size+1) pg0 A l wq S p T rest (HP.out.below wM) ((wM.block t (by omega)).trans Xz.out) Am Wi.out HR.out yW HPq.out b1 ((wM.block _ hwq).trans HL.out) b2 h7 wH BE wY).mono ?_;rintro e w2 ⟨rfl,hp2,vT⟩;go_wp2_with fail;go_ret;rw[Dx.out,HQ.out];exact⟨rfl,hp2,(Mod.of (xr.trans (wM.mono xr.size))).trans (Out.refl _ _) vT⟩
end
