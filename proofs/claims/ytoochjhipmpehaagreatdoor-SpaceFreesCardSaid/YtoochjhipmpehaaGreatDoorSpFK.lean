/- Spaces: a call's own blocks beside the cache and one space; -/
import Derived.Test.YtoochjhipmpehaaGreatDoorSpDK
set_option linter.unusedVariables false
set_option linter.unusedSimpArgs false
set_option maxRecDepth 100000
set_option maxHeartbeats 8000000
namespace Go.Proofs.YtoochjhipmpehaaGreatDoor
section
open Go.RowKit Go.Sort
structure Run (w W:World) (G K:Nat->Prop) (B c a fs m s t root:Nat) (A:Option Addr) (n cap:Nat) (rl:List Reg) (S0 S:Nat->Prop) (F:List Nd) (clock:Int) (p:Pool) (L:List Slot):Prop where
 home:Home W B c a fs m S F clock p L
 one:One W B c a m S s t root A n cap rl
 mod:Mod G w W
 out:Out S0 S w
 foot: ∀b,av S0 c m b->G b
 low:c<w.heap.size/\m<w.heap.size/\s<w.heap.size/\t<w.heap.size/\B<=w.heap.size
 own: ∀b,K b-> ¬S b/\w.heap.size<=b/\b<W.heap.size
 row: ∀ad,A=some ad-> ¬K ad.block
variable {w W W':World} {G K:Nat->Prop} {B c a fs m s t root:Nat} {A:Option Addr} {n cap:Nat} {rl:List Reg} {S0 S S':Nat->Prop} {F:List Nd} {clock vm:Int} {p p':Pool} {L L':List Slot}
theorem Run.start (hH:Home w B c a fs m S F clock p L) (hO:One w B c a m S s t root A n cap rl) (hG: ∀b,av S c m b->G b):Run w w G (fun _ =>False) B c a fs m s t root A n cap rl S S F clock p L:=
 ⟨hH,hO,Mod.refl _ _,Out.refl _ _,hG,⟨hH.lts.1,hH.lts.2.1,hO.lts.1,hO.lts.2.1,hH.base⟩,fun _ h=>h.elim,fun _ _ h=>h⟩
theorem Run.sub {K':Nat->Prop} (h:Run w W G K B c a fs m s t root A n cap rl S0 S F clock p L) (hK: ∀b,K' b->K b):Run w W G K' B c a fs m s t root A n cap rl S0 S F clock p L:=
 ⟨h.home,h.one,h.mod,h.out,h.foot,h.low,fun b hb=>h.own b (hK b hb),fun ad e x=>h.row ad e (hK _ x)⟩
theorem Run.size (h:Run w W G K B c a fs m s t root A n cap rl S0 S F clock p L):w.heap.size<=W.heap.size:=h.mod.size
theorem Run.below (h:Run w W G K B c a fs m s t root A n cap rl S0 S F clock p L) (hb:Below W.heap.size W W'):Run w W' G (fun b=>K b\/(W.heap.size<=b/\b<W'.heap.size)) B c a fs m s t root A n cap rl S0 S F clock p L:=by
 have hz:=h.mod.size;have vS:=hb.size;refine⟨h.home.below hb,h.one.below hb,(h.mod.trans (Out.refl _ _) (Mod.of hb)),h.out,h.foot,h.low,fun b hb=>?_,fun ad e hk=>?_⟩
 ·rcases hb with hb|hb
  ·obtain⟨h1,h2,h3⟩:=h.own b hb;exact⟨h1,h2,by omega⟩
  ·exact⟨fun e=>by have:=h.home.lts.2.2 b e;omega,by omega,hb.2⟩
 ·rcases hk with hk|hk
  ·exact h.row ad e hk
  ·have:=(h.one.noR ad e).2.2.2.2.2.2;omega
theorem Run.call (h:Run w W G K B c a fs m s t root A n cap rl S0 S F clock p L) (hC:ap W' S' c a fs m vm p' L') (hm:Mod (av S c m) W W') (ho:Out S S' W):Run w W' G K B c a fs m s t root A n cap rl S0 S' F vm p' L'/\ ∀b,K b->W'.heap[b]? =W.heap[b]? :=by
 have hz:=h.mod.size;have vS:=hm.size;obtain⟨l1,l2,l3,l4,l5⟩:=h.low;have key: ∀b,K b-> ¬av S c m b:=fun b hb e=>by
  obtain⟨h1,h2,h3⟩:=h.own b hb;rcases e with e|e|e
  ·exact h1 e
  ·omega
  ·omega
 refine⟨⟨h.home.step hC hm ho,h.one.foot hm ho,?_,h.out.trans ho hz,h.foot,h.low,fun b hb=>?_,h.row⟩,fun b hb=>hm.block b (h.own b hb).2.2 (key b hb)⟩
 ·exact((h.mod.sub (T:=fun b=>G b\/w.heap.size<=b) fun b e=> .inl e).trans (Out.refl _ _) (hm.sub fun b e=>by
   rcases e with e|e|e
   ·exact(h.out b e).imp (fun e=>h.foot b (.inl e)) id
   ·exact .inl (h.foot b (.inr (.inl e)))
   ·exact .inl (h.foot b (.inr (.inr e))))).own fun b e=>e
 ·obtain⟨h1,h2,h3⟩:=h.own b hb;exact⟨fun e=>(ho b e).elim h1 (fun e=>by omega),h2,by omega⟩
theorem Run.pool (h:Run w W G K B c a fs m s t root A n cap rl S0 S F clock p L) (hP:ai W' S a p') (hm:Mod S W W'):Run w W' G K B c a fs m s t root A n cap rl S0 S F clock p' L/\ ∀b,K b->W'.heap[b]? =W.heap[b]? :=
 h.call (h.home.cache.turn hm hP (Out.refl _ _)) (hm.sub fun b hb=> .inl hb) (Out.refl _ _)
theorem Run.set {X:Nat->Prop} (h:Run w W G K B c a fs m s t root A n cap rl S0 S F clock p L) (hm:Mod X W W') (hX: ∀b,X b->K b):Run w W' G K B c a fs m s t root A n cap rl S0 S F clock p L:=by
 have hz:=h.mod.size;have vS:=hm.size;obtain⟨l1,l2,l3,l4,l5⟩:=h.low;refine⟨h.home.mod hm (fun b hb=>?_),h.one.mod hm (fun b hb=>?_),?_,h.out,h.foot,h.low,fun b hb=>?_,h.row⟩
 ·obtain⟨h1,h2,h3⟩:=h.own b (hX b hb);exact⟨h1,by omega,by omega,by omega⟩
 ·obtain⟨h1,h2,h3⟩:=h.own b (hX b hb);exact⟨by omega,by omega,fun ad e x=>h.row ad e (x▸hX b hb)⟩
 ·exact((h.mod.sub (T:=fun b=>G b\/w.heap.size<=b) fun b e=> .inl e).trans (Out.refl _ _) (hm.sub fun b e=> .inr (h.own b (hX b e)).2.1)).own fun b e=>e
 ·obtain⟨h1,h2,h3⟩:=h.own b hb;exact⟨h1,h2,by omega⟩
def OwnPost (w:World) (S:Nat->Prop) (c a fs m:Nat) (F:List Nd) (clock:Int) (p:Pool) (L:List Slot) (T:Tab) (hold:Nat->Nat) (r:Reg) (pg:Nat) (e:Ending) (w':World):Prop:=
 ∃er l p' L' T' vm S',e= .returned (.tuple #[.agg (aq l), .int .i64 er])/\ap w' S' c a fs m vm p' L'/\Mod (av S c m) w w'/\Out S S' w/\clock<=vm/\vm<=clock+1/\eD F hold r pg p L T er l p' L' T'
theorem Sp.node1 {F:List Nd} {hold:Nat->Nat} {p:Pool} {L:List Slot} {T:Tab} (h:Sp F hold p L T) {pg:Nat} {l:Leaf} (hl:T.lf pg=some l): ∃g,T.nd 1 (part pg 1)=some g:=by
 have:=(h.good.ok.leaf pg l hl).1;exact Option.isSome_iff_exists.1 this
def Box3 (w:World) (b:Nat) (x y z:Value):Prop:=(w.cell? ⟨b,0,none⟩=some x/\w.cell? ⟨b,1,none⟩=some y/\w.cell? ⟨b,2,none⟩=some z)/\(w.frozen? ⟨b,0,none⟩=false/\w.frozen? ⟨b,1,none⟩=false/\w.frozen? ⟨b,2,none⟩=false)/\b<w.heap.size
theorem box3 {w:World} {b:Nat} {x y z:Value} {t:TypeId} (h:w.heap[b]? =some (.cells #[x,y,z] t (0,0))):Box3 w b x y z:=
 ⟨⟨aa h 0,aa h 1,aa h 2⟩,⟨ae h 0,ae h 1,ae h 2⟩,(uJ h).1⟩
theorem sown_any (B c a fs m s t root n cap pg:Nat) (A:Option Addr) (rl:List Reg) (r:Reg) (clock Ap:Int) (w:World) (S:Nat->Prop) (F:List Nd) (p:Pool) (L:List Slot) (T:Tab) (hold:Nat->Nat)
  (hH:Home w B c a fs m S F clock p L) (hO:One w B c a m S s t root A n cap rl) (yw:Sp F hold p L T) (ho:Own p T) (hr:T.nd 4 0=some root) (hq:Ask F rl r pg) (hA:Ap=(pg:Int)*4096) (wT: ∀f,hold f<=100000000000) (Al:0<=clock/\clock<1000000):
  Calls Tryz.prog 123 #[.pointer (some ⟨s,0,none⟩), .int .u64 Ap] w (OwnPost w S c a fs m F clock p L T hold r pg):=by
 obtain⟨q1,q2,q3,q4,q5,q6,q7⟩:=hq.facts;have yY:0<=Ap:=(by omega);have Zm:Ap<140737488355328:=(by omega);obtain⟨w0,vo⟩: ∃w0,w0=w.alloc (.cells #[.int .i64 0, .int .u8 0, .bool false] 83):=⟨_,rfl⟩;have vp:Below w.heap.size w w0:=(by rw[vo];exact uM);have xv:w0.heap.size=w.heap.size+1:=(by rw[vo];simp);have zn:w0.heap[w.heap.size]? =some (.cells #[.int .i64 0, .int .u8 0, .bool false] 83 (0,0)):=(by rw[vo];exact ab w _);have yZ:Run w w0 (av S c m) (fun b=>b=w.heap.size) B c a fs m s t root A n cap rl S S F clock p L:=((Run.start hH hO (fun _ e=>e)).below vp).sub (fun b e=> .inr ⟨by omega,by omega⟩);have DA:=nM B c a fs m s t root n cap pg A rl r clock Ap w0 S F p L T hold yZ.home yZ.one yw ho hr hq hA wT Al;have QX:=uK DA;have vR:=uK vo;have DI:=uK zn;have yR:=uK yZ;have HR:=uK hr;have HA:=uK hA;have hzw:=uK xv;clear DA vo vp zn yZ hO hH yw ho hr hq hA xv;go_enter Tryz.func123,Tryz.ntmps123;go_upto_region 1 with(fail);rw[<-vR.out];go_upto_region 2 with(first
  |(go_at_call 121;refine(QX.out).mono ?_;rintro e w1 ⟨er,⟨fr,pr,cp⟩,p1,L1,T1,vt,S1,rfl,Fx,wA,vQ,xY,Am,vD⟩;unfold aq)
  |fail)
 obtain⟨w2,we⟩: ∃w2,w2=w1.alloc (.cells #[.int .i64 (fr:Int), .int .u8 (pr:Int), .bool cp] 83):=⟨_,rfl⟩;rw[<-we];obtain⟨vJ,Mn⟩:=yR.out.call Fx wA vQ;have vs:Below w1.heap.size w1 w2:=(by rw[we];exact uM);have vS:w2.heap.size=w1.heap.size+1:=(by rw[we];simp);have vw:Run w w2 (av S c m) (fun b=>b=w.heap.size\/b=w1.heap.size) B c a fs m s t root A n cap rl S S1 F vt p1 L1:=(vJ.below vs).sub (fun b e=>e.imp id fun e=>⟨by omega,by omega⟩);have AI:=(Mn _ rfl).trans DI.out;have Xr:w.heap.size<w1.heap.size:=(uJ AI).1;have yo:=(vs.block _ Xr).trans AI;have Un:w2.heap[w1.heap.size]? =some (.cells #[.int .i64 (fr:Int), .int .u8 (pr:Int), .bool cp] 83 (0,0)):=(by rw[we];exact ab w1 _);obtain⟨⟨z0,z1,z2⟩,⟨zf0,zf1,zf2⟩,LS⟩:=box3 yo;obtain⟨⟨x0,x1,x2⟩,⟨xf0,xf1,xf2⟩,Xi⟩:=box3 Un;have vB:w1.heap.size≠w.heap.size:=(by omega);have vZ:=uK vw;have Dj:=uK yo;have Bf:=uK Un;have wi:=uK vD;clear Fx wA vQ vJ Mn vs vw AI yo Un vD we vS;by_cases he:er=0
 rotate_left
 ·have vB:(er != 0)=true:=(by rw[bne_iff_ne];exact he);have HE:=uK he;clear he;go_wp2_with fail;refine bodyPost_ret (v:= .tuple #[.agg (aq ⟨fr,pr,cp⟩), .int .i64 er]) (by simp[results,Tryz.results123,go_sem,LS,z0,z1,z2,zf0,zf1,zf2,aq]) rfl ?_;have wJ:=vZ.out.set (bu (w:=w2) (b:=w.heap.size) (.int .i64 (fr:Int)) (.int .u8 (pr:Int)) (.bool cp)) (fun b e=> .inl e);exact⟨er,⟨fr,pr,cp⟩,p1,L1,T1,vt,S1,rfl,wJ.home.cache,wJ.mod,wJ.out,xY,Am,eD.err' wi.out HE.out⟩
 subst he;cases cp with
 |false=>
  go_wp2_with fail;refine bodyPost_ret (v:= .tuple #[.agg (aq ⟨fr,pr,false⟩), .int .i64 0]) (by simp[results,Tryz.results123,go_sem,LS,z0,z1,z2,zf0,zf1,zf2,aq]) rfl ?_;have wJ:=vZ.out.set (bu (w:=w2) (b:=w.heap.size) (.int .i64 (fr:Int)) (.int .u8 (pr:Int)) (.bool false)) (fun b e=> .inl e);exact⟨0,⟨fr,pr,false⟩,p1,L1,T1,vt,S1,rfl,wJ.home.cache,wJ.mod,wJ.out,xY,Am,eD.alone wi.out rfl⟩
 |true=>
  go_upto_region 5 with(fail);obtain⟨w3,wX⟩: ∃w3,w3=w2.setCell ⟨w1.heap.size,2,none⟩ (.bool false):=⟨_,rfl⟩;rw[<-wX];have wP:Mod (fun b=>b=w1.heap.size) w2 w3:=(by rw[wX];exact al (S:=fun b=>b=w1.heap.size) rfl 2 _);have Qd:w3.heap[w1.heap.size]? =some (.cells #[.int .i64 (fr:Int), .int .u8 (pr:Int), .bool false] 83 (0,0)):=by
   rw[wX];have:=Joins.block_setCell (i:=2) Bf.out (.bool false);simpa using this
  have Ec:=(wP.block _ LS (by omega)).trans Dj.out;have wJ:=vZ.out.set wP (fun b e=> .inr e);clear wX wP z0 z1 z2 zf0 zf1 zf2 x0 x1 x2 xf0 xf1 xf2 Xi LS;obtain⟨g1,g2⟩:=wi.out.got rfl;obtain⟨g,hg⟩:=wi.out.kept.sp.node1 g1;obtain⟨c1,c2,c3,c4,c5,c6⟩:=wi.out.kept.sp.leaf g1;dsimp only at c2 c3 c4 c5 c6;have wB:=wi.out.kept.root _ HR.out;have s1: ∀d os,(grow (redrawn w3 d) os).cell? ⟨s,1,none⟩=some (.pointer (some ⟨a,0,none⟩)):=fun d os=>cell_regrown (aa wJ.one.self 1) d os;have x0: ∀d os,(grow (redrawn w3 d) os).cell? ⟨w1.heap.size,0,none⟩=some (.int .i64 (fr:Int)):=fun d os=>cell_regrown (aa Qd 0) d os;have hC:=fun d os=>Calls.regrown_of ((gT a (fr:Int) (grow (redrawn w3 d) os) S1 p1 (wJ.home.cache.pool.below (below_regrown w3 d os))).mono fun _ _ ⟨h1,h2⟩=>⟨h1,h2▸vj _ _⟩);rw[aW c3]at hC;have HCC:=uK hC;have Vh:=uK wJ;have Be:=uK Qd;have LK:=uK Ec;have HG:=uK hg;have HG1:=uK g1;have DH:=uK wB;have Im:=uK c5;have VX:=uK c6;have ya:=uK c2;have GX:=uK c3;have BG:=uK c4;have CG:=uK c1;clear hC wJ Qd Ec hg g1 g2 wB c5 c6 c2 c3 c4 c1;refine wp_region_quiet_below (by kernel_rfl) (by kernel_rfl) ?_;(repeat(go_big_quiet_step ((first|exact HCC.out _ _))));refine wpQuiet_nil ?_;intro _ yb;obtain⟨⟨dq,osq⟩,hw''⟩:=yb;subst hw'';have wC:=below_regrown (w3) dq osq;generalize grow (redrawn (w3) dq) osq=wq at wC⊢;clear s1 x0;have LQ:=wC.size;have Xq:w.heap.size<w3.heap.size:=(uJ LK.out).1;have Xh:w1.heap.size<w3.heap.size:=(uJ Be.out).1;have AA:=(Vh.out.below wC).sub (K':=fun b=>b=w.heap.size\/b=w1.heap.size) (fun b e=> .inl e);have WG:=(wC.block _ Xh).trans Be.out;have YS:=(wC.block _ Xq).trans LK.out;have xH:=uK WG;have HRQ:=uK YS;have Le:=uK AA;have AW:Ap.toNat/4096=pg:=(by have:=HA.out;omega);by_cases h1:p1.cnt fr=1
  ·have PR:(((p1.cnt fr:Nat):Int)==1)=true:=(by rw[h1];rfl);have xV:=gv t c a root 0 Ap ⟨fr,pr,false⟩ wq.drew S1 p1 T1 (held L1 hold) AA.home.cache.pool.drew AA.one.tab AA.one.noT.1 wi.out.kept.sp.good DH.out yY ya.out GX.out BG.out (by show p1.cnt fr+1<1000000000000;rw[h1];decide) (fr:Int) (pr:Int) rfl rfl;have zU:Calls Tryz.prog 69 #[.pointer (some ⟨t,0,none⟩), .int .u64 Ap, .agg #[.int .i64 (fr:Int), .int .u8 (pr:Int), .bool false]] wq.drew fun e W=>e= .returned (.int .i64 0)/\Hid (ai W S1 a (bm p1 ⟨fr,pr,true⟩ ⟨fr,pr,false⟩ g pg))/\Hid (Mod S1 wq W)/\Box3 W w1.heap.size (.int .i64 (fr:Int)) (.int .u8 (pr:Int)) (.bool false)/\Box3 W w.heap.size (.int .i64 0) (.int .u8 0) (.bool false):=by
    refine xV.mono ?_;rw[fC (was:=⟨fr,pr,true⟩) (g:=g) HA.out q1 (by have:=ya.out;omega) (by rw[aW GX.out];have:=BG.out;omega) HG1.out HG.out];rintro e W ⟨rfl,hP,xr⟩;have hm:=xr.undrew;obtain⟨_,hk⟩:=Le.out.pool (by simpa using hP) hm;exact⟨rfl,uK (by simpa using hP),uK hm,box3 ((hk _ (.inr rfl)).trans xH.out),box3 ((hk _ (.inl rfl)).trans HRQ.out)⟩
   have Ek:=uK zU;have H1:=uK h1;have s2:wq.cell? ⟨s,2,none⟩=some (.pointer (some ⟨t,0,none⟩)):=aa AA.one.self 2;obtain⟨⟨x0,x1,x2⟩,_,_⟩:=box3 WG;clear xV zU h1 AA WG YS;go_upto_region 6 with(fail);go_region_with ((first
    |(go_at_call 69;refine(Ek.out).mono ?_;rintro e w4 ⟨rfl,GL,FB,⟨⟨y0,y1,y2⟩,⟨yf0,yf1,yf2⟩,Ri⟩,⟨⟨z0,z1,z2⟩,⟨zf0,zf1,zf2⟩,hzl⟩⟩)))
   all_goals
    go_wp2_with fail;refine bodyPost_ret (v:= .tuple #[.agg (aq ⟨fr,pr,false⟩), .int .i64 0]) (by simp[results,Tryz.results123,go_sem,hzl,z0,z1,z2,zf0,zf1,zf2,aq]) rfl ?_;have wu:=((Le.out.pool GL.out FB.out).1).set (bu (w:=w4) (b:=w.heap.size) (.int .i64 (fr:Int)) (.int .u8 (pr:Int)) (.bool false)) (fun b e=> .inl e);exact⟨0,⟨fr,pr,false⟩,_,L1,_,vt,S1,rfl,wu.home.cache,wu.mod,wu.out,xY,Am,eD.mark wi.out H1.out HG.out⟩
  ·have PR:(((p1.cnt fr:Nat):Int)==1)=false:=(by rw[uZ];omega);have s0:wq.cell? ⟨s,0,none⟩=some (.pointer (some ⟨c,0,none⟩)):=aa AA.one.self 0;have hT:=fm c a fs m vt wq S1 p1 L1 AA.home.cache;have Vb:=uK hT;clear hT AA WG YS h1;go_upto_region 8 with(first
    |(go_at_call 97;refine(Vb.out).mono ?_;rintro e w4 ⟨e4,f,p2,L2,S2,rfl,Cu,wH,At,Bk⟩)
    |fail)
   obtain⟨wu,Br⟩:=Le.out.call Cu (wH.sub fun b e=>e.elim .inl fun e=> .inr (.inl e)) At;have Ft:=(Br _ (.inr rfl)).trans xH.out;have RG:=(Br _ (.inl rfl)).trans HRQ.out;have xC:=uK wu;have AS:=uK Ft;have Oo:=uK RG;have Ie:=uK Bk;clear Cu wH At wu Br Ft RG Bk s0;rcases Ie.out.two with h4|⟨h4,PL,hp2,Jl⟩
   rotate_left
   ·subst h4 PL hp2 Jl;obtain⟨⟨z0,z1,z2⟩,⟨zf0,zf1,zf2⟩,Xp⟩:=box3 Oo.out;obtain⟨⟨x0,x1,x2⟩,⟨xf0,xf1,xf2⟩,hxl4⟩:=box3 AS.out;go_wp2_with fail;refine bodyPost_ret (v:= .tuple #[.agg (aq ⟨fr,pr,false⟩), .int .i64 4]) (by simp[results,Tryz.results123,go_sem,Xp,z0,z1,z2,zf0,zf1,zf2,aq]) rfl ?_;have vC:=xC.out.set (bu (w:=w4) (b:=w.heap.size) (.int .i64 (fr:Int)) (.int .u8 (pr:Int)) (.bool false)) (fun b e=> .inl e);exact⟨4,⟨fr,pr,false⟩,_,_,T1,vt,S2,rfl,vC.home.cache,vC.mod,vC.out,xY,Am,eD.no wi.out (wi.out.kept.sp.full Ie.out)⟩
   subst h4;obtain⟨a1,a2,a3,a4,a5⟩:=wi.out.kept.sp.take Ie.out;have Gj:p2.n=p1.n:=(a2 fun _ =>False).n;have Yx:fr<p2.n:=(by rw[Gj];exact GX.out);have Jg:f<p2.n:=(by rw[Gj];exact a5.lt);have Rx:p2.cnt f=1:=a5.one;have YE:1<=p2.cnt fr:=(a1.leaf HG1.out).2.2.2.1;have Wm:=uK a1;have HA5s:=uK a5.slot;have HA5n:=uK a5.node;clear a1 a2 a3 a4 a5;have hload:=ci a fr 0 4096 w4.drew S2 p2 xC.out.home.cache.pool.drew Yx YE (by decide) (by decide);have Cc:Calls Tryz.prog 122 #[.pointer (some ⟨a,0,none⟩), .int .i64 (fr:Int), .int .i64 0, .int .i64 4096] w4.drew fun e W=>e= .returned (.tuple #[.slice (some ⟨w4.heap.size,0,none⟩) 4096 4096, .int .i64 0])/\Hid (aG W w4.heap.size 4096 (fun i=>p2.dat fr (0+i)))/\Hid (Below w4.heap.size w4 W)/\Box3 W w1.heap.size (.int .i64 (fr:Int)) (.int .u8 (pr:Int)) (.bool false):=by
    refine hload.mono ?_;rintro e W ⟨rfl,hB,hz,KH⟩;have hb:=bC KH;exact⟨rfl,uK hB,uK hb,box3 ((hb.block _ (uJ AS.out).1).trans AS.out)⟩
   have Ll:=uK Cc;have s1:w4.cell? ⟨s,1,none⟩=some (.pointer (some ⟨a,0,none⟩)):=aa xC.out.one.self 1;obtain⟨⟨x0,x1,x2⟩,_,_⟩:=box3 AS.out;clear hload Cc;go_upto_region 10 with(fail);go_cut [9]from 56 to 64 (fun b wx=>b= .slice (some ⟨w4.heap.size,0,none⟩) 4096 4096/\aG wx w4.heap.size 4096 (fun i=>p2.dat fr (0+i))/\Below w4.heap.size w4 wx)
   case first=>
    go_region_with ((first
     |(go_at_call 122;refine(Ll.out).mono ?_;rintro e w5 ⟨rfl,Ar,DM,⟨⟨y0,y1,y2⟩,⟨yf0,yf1,yf2⟩,Ri⟩⟩)))
    all_goals
     go_wp2_with fail
     go_meet
     exact⟨rfl,Ar.out,DM.out⟩
   case rest=>
   obtain⟨rfl,MF,KR⟩:=hcut;have vC:=(xC.out.below KR).sub (K':=fun b=>b=w.heap.size\/b=w1.heap.size) (fun b e=> .inl e);have hX5:=(KR.block _ (uJ AS.out).1).trans AS.out;have hR5:=(KR.block _ (uJ Oo.out).1).trans Oo.out;have yd: ∀x i,p2.dat x i<256:=(by obtain⟨⟨_,_,_,_,_,h,_⟩,_,_,_⟩:=vC.home.cache.pool;exact h.small);have hstore:=gx a f 0 4096 4096 _ _ wc S2 p2 vC.home.cache.pool Jg (by omega) (by decide) (by decide) MF.v (fun j=>yd _ _);have QB:=uK hstore;have Dh:=uK hX5;have HR5:=uK hR5;have AM:=uK vC;clear hstore hX5 hR5 MF KR;have s1:wc.cell? ⟨s,1,none⟩=some (.pointer (some ⟨a,0,none⟩)):=aa vC.one.self 1;clear vC yd;go_upto_region 12 with(first
    |(go_at_call 124;refine(QB.out).mono ?_;rintro e w6 ⟨rfl,Df,zN⟩)
    |fail)
   obtain⟨xz,BJ⟩:=AM.out.pool Df zN;have RC:=(BJ _ (.inr rfl)).trans Dh.out;have Hz:=(BJ _ (.inl rfl)).trans HR5.out;obtain⟨d,hd⟩: ∃d,d=laid (p2.dat f) (fun i=>p2.dat fr (0+i)) 0 4096:=⟨_,rfl⟩;rw[<-hd]at xz;have Kx: ∀i,i<4096->d i=p2.dat fr i:=fun i hi=>by rw[hd];unfold laid;rw[if_pos (by omega)];simp
   obtain⟨wO,Ac,KQ,hO4,LG⟩:=eD.copied wi.out Ie.out HG.out d Kx;have b1:Sp F (upd hold f 1) (p2.store f d) L2 T1:=Wm.out.storeH (by rw[af];omega) HA5s.out d;obtain⟨⟨x0,x1,x2⟩,⟨xf0,xf1,xf2⟩,Xg⟩:=box3 RC;go_upto_region 13 with(fail);obtain⟨w7,yq⟩: ∃w7,w7=w6.setCell ⟨w1.heap.size,0,none⟩ (.int .i64 (f:Int)):=⟨_,rfl⟩;rw[<-yq];have xj:Mod (fun b=>b=w1.heap.size) w6 w7:=(by rw[yq];exact al (S:=fun b=>b=w1.heap.size) rfl 0 _);have CP:w7.heap[w1.heap.size]? =some (.cells #[.int .i64 (f:Int), .int .u8 (pr:Int), .bool false] 83 (0,0)):=by
    rw[yq];have:=Joins.block_setCell (i:=0) RC (.int .i64 (f:Int));simpa using this
   have LF:=(xj.block _ (uJ Hz).1 (by omega)).trans Hz;have Bj:=xz.set xj (fun b e=> .inr e);have xV:=gv t c a root 0 Ap ⟨f,pr,false⟩ w7.drew S2 (p2.store f d) T1 (held L2 (upd hold f 1)) Bj.home.cache.pool.drew Bj.one.tab Bj.one.noT.1 b1.good DH.out yY ya.out Ac (by rw[KQ];decide) (by show(p2.store f d).cnt f+1<1000000000000;rw[KQ];decide) (f:Int) (pr:Int) rfl rfl;rw[fC (was:=⟨fr,pr,true⟩) (g:=g) HA.out q1 (by have:=ya.out;omega) (by rw[aW Ac,KQ];decide) HG1.out HG.out]at xV;have s2:w7.cell? ⟨s,2,none⟩=some (.pointer (some ⟨t,0,none⟩)):=aa Bj.one.self 2;have Ek:=uK xV;have Ib:=uK CP;have Vo:=uK LF;have Vg:=uK Bj;have vF:=uK wO;clear xV CP LF Bj wO Df zN xz BJ RC Hz hd Kx b1 xj yq x0 x1 x2 xf0 xf1 xf2 Xg s1;obtain⟨⟨x0,x1,x2⟩,⟨xf0,xf1,xf2⟩,Xf⟩:=box3 Ib.out
   go_still_tail 6,(by kernel_rfl)
   go_wp2_with fail;refine(Ek.out).mono ?_;rintro e w8 ⟨rfl,YW,zz⟩;have za:=zz.undrew;simp only[Int.toNat_natCast]at YW;obtain⟨Bi,zB⟩:=Vg.out.pool YW za;have Oc:=(zB _ (.inr rfl)).trans Ib.out;have Od:=(zB _ (.inl rfl)).trans Vo.out;have Mq:=cj a f w8 S2 _ Bi.home.cache.pool hO4 LG;have s1:w8.cell? ⟨s,1,none⟩=some (.pointer (some ⟨a,0,none⟩)):=aa Bi.one.self 1;have QR:=uK Mq;have Oi:=uK Oc;have FT:=uK Od;have Vf:=uK Bi;clear Mq Oc Od Bi zB YW za zz x0 x1 x2 xf0 xf1 xf2 Xf s2;go_upto_region 15 with(first
    |(go_at_call 59;refine(QR.out).mono ?_;rintro e w9 ⟨rfl,KP,zy⟩)
    |fail)
   obtain⟨Dr,Bq⟩:=Vf.out.pool KP zy;have RB:=(Bq _ (.inr rfl)).trans Oi.out;have RF:=(Bq _ (.inl rfl)).trans FT.out;obtain⟨⟨z0,z1,z2⟩,⟨zf0,zf1,zf2⟩,OQ⟩:=box3 RF;obtain⟨⟨x0,x1,x2⟩,⟨xf0,xf1,xf2⟩,hxl9⟩:=box3 RB;have JN:=Dr.set (bu (w:=w9) (b:=w.heap.size) (.int .i64 (f:Int)) (.int .u8 (pr:Int)) (.bool false)) (fun b e=> .inl e);have GI:=uK JN;clear Dr Bq RB RF KP zy JN;go_wp2_with fail;refine bodyPost_ret (v:= .tuple #[.agg (aq ⟨f,pr,false⟩), .int .i64 0]) (by simp[results,Tryz.results123,go_sem,OQ,z0,z1,z2,zf0,zf1,zf2,aq]) rfl ?_;exact⟨0,⟨f,pr,false⟩,_,L2,_,vt,S2,rfl,GI.out.home.cache,GI.out.mod,GI.out.out,xY,Am,vF.out⟩
end
