/- Tables: Set, whole. -/
import Derived.Test.YtoochjhipmpehaaGreatDoorTtZK
set_option linter.unusedVariables false
set_option linter.unusedSimpArgs false
set_option maxRecDepth 100000
set_option maxHeartbeats 2000000
namespace Go.Proofs.YtoochjhipmpehaaGreatDoor
section
open Go.RowKit Go.Sort
def mQ (p:Pool) (T:Tab) (A fr q:Int) (cp:Bool):Int×Pool×Tab:=
 if 7<q\/bD p fr=0 then(1,p,T)
 else if 140737488355328<=A then(1,p,T)
 else match T.lf (A.toNat/4096),T.nd 1 (part (A.toNat/4096) 1)with
  |some was,some g=>(0,((p.up fr.toNat).down was.frame).store g (aE (p.dat g) (num (A.toNat/4096) 1) (Leaf.pack ⟨fr.toNat,q.toNat,cp⟩)),T.lay (A.toNat/4096) (some ⟨fr.toNat,q.toNat,cp⟩))
  |_,_ =>(6,p,T)
def vb (w:World) (S:Nat->Prop) (a:Nat) (r:Int×Pool×Tab) (e:Ending) (w':World):Prop:=e= .returned (.int .i64 r.1)/\am w' S a r.2.1/\Mod S w w'
theorem safe_set {p:Pool} {f x g:Nat} (h:2<=p.cnt g\/(g≠x/\1<=p.cnt g)):1<=((p.up f).down x).cnt g:=by
 have h1:p.cnt g<=(p.up f).cnt g:=by
  by_cases e:g=f
  ·subst e;simp only[Pool.up,af];omega
  ·simp only[Pool.up,ag _ _ e];omega
 rcases h with h|⟨h2,h3⟩
 ·by_cases e:g=x
  ·subst e;simp only[Pool.down,af];omega
  ·simp only[Pool.down,ag _ _ e];omega
 ·simp only[Pool.down,ag _ _ h2];omega
theorem qE (t c a root bt bl pg0:Nat) (A:Int) (l:Leaf) (w:World) (S:Nat->Prop) (p:Pool) (T:Tab) (rest:Nat->Nat) (h:am w S a p) (ht:al w t c a root) (AF: ¬S t) (hg:T.Good p rest pg0 4) (hr:T.nd 4 0=some root) (zj:0<=A)
  (Ae:eU w bt t) (AL: ¬S bt) (BJ:cx w bl l) (Mr: ¬S bl) (h7:l.prot<=7) (wV:l.frame<p.n) (BS:1<=p.cnt l.frame) (xn:p.cnt l.frame+1<1000000000000):
  Calls Tryz.prog 108 #[.pointer (some ⟨t,0,none⟩), .int .u64 A, .func (.func 116) #[] #[.pointer (some ⟨bt,0,none⟩), .pointer (some ⟨bl,0,none⟩)]] w (vb w S a (mQ p T A (l.frame:Int) (l.prot:Int) l.copy)):=by
 have xf:t<w.heap.size:=(vo ht).1;have zS:bt<w.heap.size:=(vo Ae).1;have Ix:bl<w.heap.size:=(vo BJ).1;have hw:=hg.tree hr;have wQ: ¬(7<(l.prot:Int)\/bD p (l.frame:Int)=0):=by
  rw[aM wV];omega
 unfold mQ;rw[if_neg wQ];by_cases yN:140737488355328<=A
 ·rw[if_pos yN];exact(oh t c a root A _ w ht yN).mono fun e w' ⟨he,yq⟩=>by
   subst yq;exact⟨he,h,Mod.refl _ _⟩
 ·rw[if_neg yN];have vW:A<140737488355328:=(by omega);have BH:=hw.top zj vW;have EB:=hw.way (A.toNat/4096);cases Cr:T.lf (A.toNat/4096)with
  |none=>
   have e:(match(none:Option Leaf),T.nd 1 (part (A.toNat/4096) 1)with
    |some was,some g=>((0:Int),((p.up (l.frame:Int).toNat).down was.frame).store g (aE (p.dat g) (num (A.toNat/4096) 1) (Leaf.pack ⟨(l.frame:Int).toNat,(l.prot:Int).toNat,l.copy⟩)),T.lay (A.toNat/4096) (some ⟨(l.frame:Int).toNat,(l.prot:Int).toNat,l.copy⟩))
    |_,_ =>(6,p,T))=(6,p,T):=rfl
   rw[e];exact(lq t c a root A _ w S p T h ht xf EB Cr BH zj vW).mono fun e w' ⟨he,hb⟩=>⟨he,h.below hb,Mod.of hb⟩
  |some was=>
   have yZ:=hw.ups _ was Cr;obtain⟨q1,IS⟩:=bC (yZ 1 (by omega) (by omega));obtain⟨n1,n2,n3⟩:=EB.node 1 q1 (by omega) (by omega) IS;obtain⟨p7,pf,pc⟩:=hg.leafOf Cr;rw[IS];simp only[Int.toNat_natCast];have wC:=EB.few;refine(sA (bt:=bt) (bl:=bl) (.inr (.inr ⟨rfl,rfl⟩)) t c a root A (fun w1 w2=>am w2 S a (((p.up l.frame).down was.frame).store q1 (aE (p.dat q1) (num (A.toNat/4096) 1) l.pack))/\Mod S w1 w2) w S p T h ht xf EB yZ was q1 Cr IS (fun w1 hb=>?_) BH zj vW).mono fun e w' ⟨he,w1,hb,hp,hm⟩=>⟨he,hp,(Mod.of hb).trans (Out.refl _ _) hm⟩;exact set_cl t c a root q1 (num (A.toNat/4096) 1) bt bl l was w1 S p (h.below hb) ((hb.block t xf).trans ht) AF (vw xf hb.size) ((hb.block bt zS).trans Ae) AL ((hb.block bl Ix).trans BJ) Mr n1 n2 (bS _ _) (by rw[n3,Tab.on_one,Cr]) p7 pf pc h7 wV BS xn wC (safe_set (hg.safe Cr IS))
theorem gv (t c a root pg0:Nat) (A:Int) (l:Leaf) (w:World) (S:Nat->Prop) (p:Pool) (T:Tab) (rest:Nat->Nat) (h:am w S a p) (ht:al w t c a root) (AF: ¬S t) (hg:T.Good p rest pg0 4) (hr:T.nd 4 0=some root) (zj:0<=A)
  (h7:l.prot<=7) (wV:l.frame<p.n) (BS:1<=p.cnt l.frame) (xn:p.cnt l.frame+1<1000000000000)
  (fr q:Int) (yJ:fr=(l.frame:Int)) (Tl:q=(l.prot:Int)):
  Calls Tryz.prog 69 #[.pointer (some ⟨t,0,none⟩), .int .u64 A, .agg #[.int .i64 fr, .int .u8 q, .bool l.copy]] w (vb w S a (mQ p T A fr q l.copy)):=by
 have xf:t<w.heap.size:=(vo ht).1;obtain⟨w0,vT⟩: ∃w0,w0=(w.alloc (.cells #[.pointer (some ⟨t,0,none⟩)] 77)).alloc (.cells #[.int .i64 fr, .int .u8 q, .bool l.copy] 83):=⟨_,rfl⟩;have xC:Below w.heap.size w w0:=(by rw[vT];exact vr.alloc (by simp) _);have BP:w0.heap.size=w.heap.size+1+1:=(by rw[vT];simp);have CW:eU w0 w.heap.size t:=(by rw[vT];exact(vt _ _ _ (by simp)).trans (ab w _));have AQ:cx w0 (w.heap.size+1) l:=by
  rw[vT];have e:(w.alloc (.cells #[.pointer (some ⟨t,0,none⟩)] 77)).heap.size=w.heap.size+1:=(by simp);unfold cx;rw[<-e,<-yJ,<-Tl];exact ab _ _
 have yK:al w0 t c a root:=(xC.block t xf).trans ht;have d0: ∀d os,(grow (redrawn w0 d) os).cell? ⟨w.heap.size,0,none⟩=some (.pointer (some ⟨t,0,none⟩)):=fun d os=>cell_regrown (aa CW 0) d os;have d1: ∀d os,(grow (redrawn w0 d) os).cell? ⟨w.heap.size+1,0,none⟩=some (.int .i64 fr):=fun d os=>by rw[yJ];exact cell_regrown (aa AQ 0) d os
 have d2: ∀d os,(grow (redrawn w0 d) os).cell? ⟨w.heap.size+1,1,none⟩=some (.int .u8 q):=fun d os=>by rw[Tl];exact cell_regrown (aa AQ 1) d os
 have d3: ∀d os,(grow (redrawn w0 d) os).cell? ⟨t,1,none⟩=some (.pointer (some ⟨a,0,none⟩)):=fun d os=>cell_regrown (aa yK 1) d os;have hG:=fun d os=>Calls.regrown_of ((cn t c a root (grow (redrawn w0 d) os) (((below_regrown w0 d os).block t (vw xf xC.size)).trans yK)).mono fun _ _ ⟨h1,h2⟩=>⟨h1,h2▸vO _ _⟩);have hC:=fun d os=>Calls.regrown_of ((fm a fr (grow (redrawn w0 d) os) S p ((h.below xC).below (below_regrown w0 d os))).mono fun _ _ ⟨h1,h2⟩=>⟨h1,h2▸vO _ _⟩);have PY:(((bD p fr:Nat):Int)==0)=false:=(by rw[yJ,aM wV,vE];omega);have hq':decide (7<q)=false:=(by rw[Tl];exact vF (by omega));have HG:=vp hG;have DW:=vp yJ;have HQ:=vp Tl;have HC:=vp hC;have wD:=vp vT;have HP:=vp (h.below xC);have XG:=vp yK;have HPt:=vp CW;have HL:=vp AQ;have Wy:=vp hg;have HR:=vp hr;have b1: ¬S w.heap.size:=fun e=>by have:=h.low _ e;omega
 have b2: ¬S (w.heap.size+1):=fun e=>by have:=h.low _ e;omega
 have hwq:w.heap.size+1<w0.heap.size:=(by omega);clear vT h ht CW AQ yK hG hC hg hr BP yJ Tl;go_enter Tryz.func69,Tryz.ntmps69;go_upto_region 1 with(fail);rw[<-wD.out];refine wp_region_quiet_below (by kernel_rfl) (by kernel_rfl) ?_;(repeat(go_big_quiet_step ((first|exact HG.out _ _ |exact HC.out _ _))));refine wpQuiet_nil ?_;intro _ yq;obtain⟨⟨dq,osq⟩,hw''⟩:=yq;subst hw'';have xc:=below_regrown (w0) dq osq;generalize grow (redrawn (w0) dq) osq=wq at xc⊢;clear d0 d1 d2 d3;have LM:=xc.size;have ZO:eU wq w.heap.size t:=(xc.block _ (by omega)).trans HPt.out;have d0:wq.cell? ⟨w.heap.size,0,none⟩=some (.pointer (some ⟨t,0,none⟩)):=aa ZO 0;have HPq:=vp ZO;clear ZO;go_wp2_with fail;refine(qE t c a root w.heap.size (w.heap.size+1) pg0 A l wq S p T rest (HP.out.below xc) ((xc.block t (by omega)).trans XG.out) AF Wy.out HR.out zj HPq.out b1 ((xc.block _ hwq).trans HL.out) b2 h7 wV BS xn).mono ?_;rintro e w2 ⟨rfl,hp2,wk⟩;go_wp2_with fail;go_ret;rw[DW.out,HQ.out];exact⟨rfl,hp2,(Mod.of (xC.trans (xc.mono xC.size))).trans (Out.refl _ _) wk⟩
end
