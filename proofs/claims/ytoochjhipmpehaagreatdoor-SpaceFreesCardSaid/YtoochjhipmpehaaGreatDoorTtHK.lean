/- Tables: Set, whole. -/
import Derived.Test.YtoochjhipmpehaaGreatDoorTtZK
set_option linter.unusedVariables false
set_option linter.unusedSimpArgs false
set_option maxRecDepth 100000
set_option maxHeartbeats 2000000
namespace Go.Proofs.YtoochjhipmpehaaGreatDoor
section
open Go.RowKit Go.Sort
def mG (p:Pool) (T:Tab) (A fr q:Int) (cp:Bool):Int×Pool×Tab:=
 if 7<q\/bH p fr=0 then(1,p,T)
 else if 140737488355328<=A then(1,p,T)
 else match T.lf (A.toNat/4096),T.nd 1 (part (A.toNat/4096) 1)with
  |some was,some g=>(0,((p.up fr.toNat).down was.frame).store g (aI (p.dat g) (num (A.toNat/4096) 1) (Leaf.pack ⟨fr.toNat,q.toNat,cp⟩)),T.lay (A.toNat/4096) (some ⟨fr.toNat,q.toNat,cp⟩))
  |_,_ =>(6,p,T)
def uu (w:World) (S:Nat->Prop) (a:Nat) (r:Int×Pool×Tab) (e:Ending) (w':World):Prop:=e= .returned (.int .i64 r.1)/\ai w' S a r.2.1/\Mod S w w'
theorem safe_set {p:Pool} {f x g:Nat} (h:2<=p.cnt g\/(g≠x/\1<=p.cnt g)):1<=((p.up f).down x).cnt g:=by
 have h1:p.cnt g<=(p.up f).cnt g:=by
  by_cases e:g=f
  ·subst e;simp only[Pool.up,af];omega
  ·simp only[Pool.up,ah _ _ e];omega
 rcases h with h|⟨h2,h3⟩
 ·by_cases e:g=x
  ·subst e;simp only[Pool.down,af];omega
  ·simp only[Pool.down,ah _ _ e];omega
 ·simp only[Pool.down,ah _ _ h2];omega
theorem qv (t c a root bt bl pg0:Nat) (A:Int) (l:Leaf) (w:World) (S:Nat->Prop) (p:Pool) (T:Tab) (rest:Nat->Nat) (h:ai w S a p) (ht:ag w t c a root) (ze: ¬S t) (hg:T.Good p rest pg0 4) (hr:T.nd 4 0=some root) (yY:0<=A)
  (yW:dE w bt t) (zg: ¬S bt) (zM:cE w bl l) (Mw: ¬S bl) (h7:l.prot<=7) (vP:l.frame<p.n) (BI:1<=p.cnt l.frame) (wT:p.cnt l.frame+1<1000000000000):
  Calls Tryz.prog 108 #[.pointer (some ⟨t,0,none⟩), .int .u64 A, .func (.func 116) #[] #[.pointer (some ⟨bt,0,none⟩), .pointer (some ⟨bl,0,none⟩)]] w (uu w S a (mG p T A (l.frame:Int) (l.prot:Int) l.copy)):=by
 have vT:t<w.heap.size:=(uJ ht).1;have yM:bt<w.heap.size:=(uJ yW).1;have IK:bl<w.heap.size:=(uJ zM).1;have hw:=hg.tree hr;have vv: ¬(7<(l.prot:Int)\/bH p (l.frame:Int)=0):=by
  rw[aW vP];omega
 unfold mG;rw[if_neg vv];by_cases yO:140737488355328<=A
 ·rw[if_pos yO];exact(ol t c a root A _ w ht yO).mono fun e w' ⟨he,yb⟩=>by
   subst yb;exact⟨he,h,Mod.refl _ _⟩
 ·rw[if_neg yO];have vq:A<140737488355328:=(by omega);have yI:=hw.top yY vq;have Ep:=hw.way (A.toNat/4096);cases Cd:T.lf (A.toNat/4096)with
  |none=>
   have e:(match(none:Option Leaf),T.nd 1 (part (A.toNat/4096) 1)with
    |some was,some g=>((0:Int),((p.up (l.frame:Int).toNat).down was.frame).store g (aI (p.dat g) (num (A.toNat/4096) 1) (Leaf.pack ⟨(l.frame:Int).toNat,(l.prot:Int).toNat,l.copy⟩)),T.lay (A.toNat/4096) (some ⟨(l.frame:Int).toNat,(l.prot:Int).toNat,l.copy⟩))
    |_,_ =>(6,p,T))=(6,p,T):=rfl
   rw[e];exact(kY t c a root A _ w S p T h ht vT Ep Cd yI yY vq).mono fun e w' ⟨he,hb⟩=>⟨he,h.below hb,Mod.of hb⟩
  |some was=>
   have Bg:=hw.ups _ was Cd;obtain⟨q1,Gf⟩:=aC (Bg 1 (by omega) (by omega));obtain⟨n1,n2,n3⟩:=Ep.node 1 q1 (by omega) (by omega) Gf;obtain⟨p7,pf,pc⟩:=hg.leafOf Cd;rw[Gf];simp only[Int.toNat_natCast];have vA:=Ep.few;refine(tat_set t c a root A bt bl (fun w1 w2=>ai w2 S a (((p.up l.frame).down was.frame).store q1 (aI (p.dat q1) (num (A.toNat/4096) 1) l.pack))/\Mod S w1 w2) w S p T h ht vT Ep Bg was q1 Cd Gf (fun w1 hb=>?_) yI yY vq).mono fun e w' ⟨he,w1,hb,hp,hm⟩=>⟨he,hp,(Mod.of hb).trans (Out.refl _ _) hm⟩;exact set_cl t c a root q1 (num (A.toNat/4096) 1) bt bl l was w1 S p (h.below hb) ((hb.block t vT).trans ht) ze (uR vT hb.size) ((hb.block bt yM).trans yW) zg ((hb.block bl IK).trans zM) Mw n1 n2 (aS _ _) (by rw[n3,Tab.on_one,Cd]) p7 pf pc h7 vP BI wT vA (safe_set (hg.safe Cd Gf))
theorem gv (t c a root pg0:Nat) (A:Int) (l:Leaf) (w:World) (S:Nat->Prop) (p:Pool) (T:Tab) (rest:Nat->Nat) (h:ai w S a p) (ht:ag w t c a root) (ze: ¬S t) (hg:T.Good p rest pg0 4) (hr:T.nd 4 0=some root) (yY:0<=A)
  (h7:l.prot<=7) (vP:l.frame<p.n) (BI:1<=p.cnt l.frame) (wT:p.cnt l.frame+1<1000000000000)
  (fr q:Int) (xw:fr=(l.frame:Int)) (SF:q=(l.prot:Int)):
  Calls Tryz.prog 69 #[.pointer (some ⟨t,0,none⟩), .int .u64 A, .agg #[.int .i64 fr, .int .u8 q, .bool l.copy]] w (uu w S a (mG p T A fr q l.copy)):=by
 have vT:t<w.heap.size:=(uJ ht).1;obtain⟨w0,vo⟩: ∃w0,w0=(w.alloc (.cells #[.pointer (some ⟨t,0,none⟩)] 77)).alloc (.cells #[.int .i64 fr, .int .u8 q, .bool l.copy] 83):=⟨_,rfl⟩;have vM:Below w.heap.size w w0:=(by rw[vo];exact uM.alloc (by simp) _);have xv:w0.heap.size=w.heap.size+1+1:=(by rw[vo];simp);have xo:dE w0 w.heap.size t:=(by rw[vo];exact(uO _ _ _ (by simp)).trans (ab w _));have AJ:cE w0 (w.heap.size+1) l:=by
  rw[vo];have e:(w.alloc (.cells #[.pointer (some ⟨t,0,none⟩)] 77)).heap.size=w.heap.size+1:=(by simp);unfold cE;rw[<-e,<-xw,<-SF];exact ab _ _
 have wN:ag w0 t c a root:=(vM.block t vT).trans ht;have d0: ∀d os,(grow (redrawn w0 d) os).cell? ⟨w.heap.size,0,none⟩=some (.pointer (some ⟨t,0,none⟩)):=fun d os=>cell_regrown (aa xo 0) d os;have d1: ∀d os,(grow (redrawn w0 d) os).cell? ⟨w.heap.size+1,0,none⟩=some (.int .i64 fr):=fun d os=>by rw[xw];exact cell_regrown (aa AJ 0) d os
 have d2: ∀d os,(grow (redrawn w0 d) os).cell? ⟨w.heap.size+1,1,none⟩=some (.int .u8 q):=fun d os=>by rw[SF];exact cell_regrown (aa AJ 1) d os
 have d3: ∀d os,(grow (redrawn w0 d) os).cell? ⟨t,1,none⟩=some (.pointer (some ⟨a,0,none⟩)):=fun d os=>cell_regrown (aa wN 1) d os;have hG:=fun d os=>Calls.regrown_of ((cy t c a root (grow (redrawn w0 d) os) (((below_regrown w0 d os).block t (uR vT vM.size)).trans wN)).mono fun _ _ ⟨h1,h2⟩=>⟨h1,h2▸vj _ _⟩);have hC:=fun d os=>Calls.regrown_of ((gT a fr (grow (redrawn w0 d) os) S p ((h.below vM).below (below_regrown w0 d os))).mono fun _ _ ⟨h1,h2⟩=>⟨h1,h2▸vj _ _⟩);have PN:(((bH p fr:Nat):Int)==0)=false:=(by rw[xw,aW vP,uZ];omega);have hq':decide (7<q)=false:=(by rw[SF];exact va (by omega));have HG:=uK hG;have yX:=uK xw;have HQ:=uK SF;have HC:=uK hC;have vR:=uK vo;have HP:=uK (h.below vM);have WQ:=uK wN;have HPt:=uK xo;have HL:=uK AJ;have VK:=uK hg;have HR:=uK hr;have b1: ¬S w.heap.size:=fun e=>by have:=h.low _ e;omega
 have b2: ¬S (w.heap.size+1):=fun e=>by have:=h.low _ e;omega
 have hwq:w.heap.size+1<w0.heap.size:=(by omega);clear vo h ht xo AJ wN hG hC hg hr xv xw SF;go_enter Tryz.func69,Tryz.ntmps69;go_upto_region 1 with(fail);rw[<-vR.out];refine wp_region_quiet_below (by kernel_rfl) (by kernel_rfl) ?_;(repeat(go_big_quiet_step ((first|exact HG.out _ _ |exact HC.out _ _))));refine wpQuiet_nil ?_;intro _ yb;obtain⟨⟨dq,osq⟩,hw''⟩:=yb;subst hw'';have wC:=below_regrown (w0) dq osq;generalize grow (redrawn (w0) dq) osq=wq at wC⊢;clear d0 d1 d2 d3;have LQ:=wC.size;have YV:dE wq w.heap.size t:=(wC.block _ (by omega)).trans HPt.out;have d0:wq.cell? ⟨w.heap.size,0,none⟩=some (.pointer (some ⟨t,0,none⟩)):=aa YV 0;have HPq:=uK YV;clear YV;go_wp2_with fail;refine(qv t c a root w.heap.size (w.heap.size+1) pg0 A l wq S p T rest (HP.out.below wC) ((wC.block t (by omega)).trans WQ.out) ze VK.out HR.out yY HPq.out b1 ((wC.block _ hwq).trans HL.out) b2 h7 vP BI wT).mono ?_;rintro e w2 ⟨rfl,hp2,vE⟩;go_wp2_with fail;go_ret;rw[yX.out,HQ.out];exact⟨rfl,hp2,(Mod.of (vM.trans (wC.mono vM.size))).trans (Out.refl _ _) vE⟩
end
