/- Spaces: a call's own blocks beside the cache and one space; -/
import Derived.Test.YtoochjhipmpehaaGreatDoorSpDK
set_option linter.unusedVariables false
set_option linter.unusedSimpArgs false
set_option maxRecDepth 100000
set_option maxHeartbeats 8000000
namespace Go.Proofs.YtoochjhipmpehaaGreatDoor
section
open Go.RowKit Go.Sort
structure Run (w W:World) (G K:Nat->Prop) (B c a fs m s t root:Nat) (A:Option Addr) (n cap:Nat) (rl:List Reg) (S0 S:Nat->Prop) (F:List Nd) (clock:Int) (p:Pool) (L:List Slot):Prop where
 home:Home W B c a fs m S F clock p L
 one:One W B c a m S s t root A n cap rl
 mod:Mod G w W
 out:Out S0 S w
 foot: ∀b,aw S0 c m b->G b
 low:c<w.heap.size/\m<w.heap.size/\s<w.heap.size/\t<w.heap.size/\B<=w.heap.size
 own: ∀b,K b-> ¬S b/\w.heap.size<=b/\b<W.heap.size
 row: ∀ad,A=some ad-> ¬K ad.block
variable {w W W':World} {G K:Nat->Prop} {B c a fs m s t root:Nat} {A:Option Addr} {n cap:Nat} {rl:List Reg} {S0 S S':Nat->Prop} {F:List Nd} {clock vB:Int} {p p':Pool} {L L':List Slot}
theorem Run.start (hH:Home w B c a fs m S F clock p L) (hO:One w B c a m S s t root A n cap rl) (hG: ∀b,aw S c m b->G b):Run w w G (fun _ =>False) B c a fs m s t root A n cap rl S S F clock p L:=
 ⟨hH,hO,Mod.refl _ _,Out.refl _ _,hG,⟨hH.lts.1,hH.lts.2.1,hO.lts.1,hO.lts.2.1,hH.base⟩,fun _ h=>h.elim,fun _ _ h=>h⟩
theorem Run.sub {K':Nat->Prop} (h:Run w W G K B c a fs m s t root A n cap rl S0 S F clock p L) (hK: ∀b,K' b->K b):Run w W G K' B c a fs m s t root A n cap rl S0 S F clock p L:=
 ⟨h.home,h.one,h.mod,h.out,h.foot,h.low,fun b hb=>h.own b (hK b hb),fun ad e x=>h.row ad e (hK _ x)⟩
theorem Run.size (h:Run w W G K B c a fs m s t root A n cap rl S0 S F clock p L):w.heap.size<=W.heap.size:=h.mod.size
theorem Run.below (h:Run w W G K B c a fs m s t root A n cap rl S0 S F clock p L) (hb:Below W.heap.size W W'):Run w W' G (fun b=>K b\/(W.heap.size<=b/\b<W'.heap.size)) B c a fs m s t root A n cap rl S0 S F clock p L:=by
 have hz:=h.mod.size;have wm:=hb.size;refine⟨h.home.below hb,h.one.below hb,(h.mod.trans (Out.refl _ _) (Mod.of hb)),h.out,h.foot,h.low,fun b hb=>?_,fun ad e hk=>?_⟩
 ·rcases hb with hb|hb
  ·obtain⟨h1,h2,h3⟩:=h.own b hb;exact⟨h1,h2,by omega⟩
  ·exact⟨fun e=>by have:=h.home.lts.2.2 b e;omega,by omega,hb.2⟩
 ·rcases hk with hk|hk
  ·exact h.row ad e hk
  ·have:=(h.one.noR ad e).2.2.2.2.2.2;omega
theorem Run.call (h:Run w W G K B c a fs m s t root A n cap rl S0 S F clock p L) (hC:ar W' S' c a fs m vB p' L') (hm:Mod (aw S c m) W W') (ho:Out S S' W):Run w W' G K B c a fs m s t root A n cap rl S0 S' F vB p' L'/\ ∀b,K b->W'.heap[b]? =W.heap[b]? :=by
 have hz:=h.mod.size;have wm:=hm.size;obtain⟨l1,l2,l3,l4,l5⟩:=h.low;have key: ∀b,K b-> ¬aw S c m b:=fun b hb e=>by
  obtain⟨h1,h2,h3⟩:=h.own b hb;rcases e with e|e|e
  ·exact h1 e
  ·omega
  ·omega
 refine⟨⟨h.home.step hC hm ho,h.one.foot hm ho,?_,h.out.trans ho hz,h.foot,h.low,fun b hb=>?_,h.row⟩,fun b hb=>hm.block b (h.own b hb).2.2 (key b hb)⟩
 ·exact((h.mod.sub (T:=fun b=>G b\/w.heap.size<=b) fun b e=> .inl e).trans (Out.refl _ _) (hm.sub fun b e=>by
   rcases e with e|e|e
   ·exact(h.out b e).imp (fun e=>h.foot b (.inl e)) id
   ·exact .inl (h.foot b (.inr (.inl e)))
   ·exact .inl (h.foot b (.inr (.inr e))))).own fun b e=>e
 ·obtain⟨h1,h2,h3⟩:=h.own b hb;exact⟨fun e=>(ho b e).elim h1 (fun e=>by omega),h2,by omega⟩
theorem Run.pool (h:Run w W G K B c a fs m s t root A n cap rl S0 S F clock p L) (hP:am W' S a p') (hm:Mod S W W'):Run w W' G K B c a fs m s t root A n cap rl S0 S F clock p' L/\ ∀b,K b->W'.heap[b]? =W.heap[b]? :=
 h.call (h.home.cache.turn hm hP (Out.refl _ _)) (hm.sub fun b hb=> .inl hb) (Out.refl _ _)
theorem Run.set {X:Nat->Prop} (h:Run w W G K B c a fs m s t root A n cap rl S0 S F clock p L) (hm:Mod X W W') (hX: ∀b,X b->K b):Run w W' G K B c a fs m s t root A n cap rl S0 S F clock p L:=by
 have hz:=h.mod.size;have wm:=hm.size;obtain⟨l1,l2,l3,l4,l5⟩:=h.low;refine⟨h.home.mod hm (fun b hb=>?_),h.one.mod hm (fun b hb=>?_),?_,h.out,h.foot,h.low,fun b hb=>?_,h.row⟩
 ·obtain⟨h1,h2,h3⟩:=h.own b (hX b hb);exact⟨h1,by omega,by omega,by omega⟩
 ·obtain⟨h1,h2,h3⟩:=h.own b (hX b hb);exact⟨by omega,by omega,fun ad e x=>h.row ad e (x▸hX b hb)⟩
 ·exact((h.mod.sub (T:=fun b=>G b\/w.heap.size<=b) fun b e=> .inl e).trans (Out.refl _ _) (hm.sub fun b e=> .inr (h.own b (hX b e)).2.1)).own fun b e=>e
 ·obtain⟨h1,h2,h3⟩:=h.own b hb;exact⟨h1,h2,by omega⟩
def OwnPost (w:World) (S:Nat->Prop) (c a fs m:Nat) (F:List Nd) (clock:Int) (p:Pool) (L:List Slot) (T:Tab) (hold:Nat->Nat) (r:Reg) (pg:Nat) (e:Ending) (w':World):Prop:=
 ∃er l p' L' T' vB S',e= .returned (.tuple #[.agg (ap l), .int .i64 er])/\ar w' S' c a fs m vB p' L'/\Mod (aw S c m) w w'/\Out S S' w/\clock<=vB/\vB<=clock+1/\et F hold r pg p L T er l p' L' T'
theorem Sp.node1 {F:List Nd} {hold:Nat->Nat} {p:Pool} {L:List Slot} {T:Tab} (h:Sp F hold p L T) {pg:Nat} {l:Leaf} (hl:T.lf pg=some l): ∃g,T.nd 1 (part pg 1)=some g:=by
 have:=(h.good.ok.leaf pg l hl).1;exact Option.isSome_iff_exists.1 this
def Box3 (w:World) (b:Nat) (x y z:Value):Prop:=(w.cell? ⟨b,0,none⟩=some x/\w.cell? ⟨b,1,none⟩=some y/\w.cell? ⟨b,2,none⟩=some z)/\(w.frozen? ⟨b,0,none⟩=false/\w.frozen? ⟨b,1,none⟩=false/\w.frozen? ⟨b,2,none⟩=false)/\b<w.heap.size
theorem box3 {w:World} {b:Nat} {x y z:Value} {t:TypeId} (h:w.heap[b]? =some (.cells #[x,y,z] t (0,0))):Box3 w b x y z:=
 ⟨⟨aa h 0,aa h 1,aa h 2⟩,⟨ae h 0,ae h 1,ae h 2⟩,(uZ h).1⟩
theorem sown_any (B c a fs m s t root n cap pg:Nat) (A:Option Addr) (rl:List Reg) (r:Reg) (clock Ap:Int) (w:World) (S:Nat->Prop) (F:List Nd) (p:Pool) (L:List Slot) (T:Tab) (hold:Nat->Nat)
  (hH:Home w B c a fs m S F clock p L) (hO:One w B c a m S s t root A n cap rl) (ya:Sp F hold p L T) (ho:Own p T) (hr:T.nd 4 0=some root) (hq:Ask F rl r pg) (hA:Ap=(pg:Int)*4096) (wY: ∀f,hold f<=100000000000) (yA:0<=clock/\clock<1000000):
  Calls Tryz.prog 123 #[.pointer (some ⟨s,0,none⟩), .int .u64 Ap] w (OwnPost w S c a fs m F clock p L T hold r pg):=by
 obtain⟨q1,q2,q3,q4,q5,q6,q7⟩:=hq.facts;have yW:0<=Ap:=(by omega);have hA9:Ap<140737488355328:=(by omega);obtain⟨w0,vE⟩: ∃w0,w0=w.alloc (.cells #[.int .i64 0, .int .u8 0, .bool false] 83):=⟨_,rfl⟩;have vF:Below w.heap.size w w0:=(by rw[vE];exact vc);have BB:w0.heap.size=w.heap.size+1:=(by rw[vE];simp);have zb:w0.heap[w.heap.size]? =some (.cells #[.int .i64 0, .int .u8 0, .bool false] 83 (0,0)):=(by rw[vE];exact ab w _);have yN:Run w w0 (aw S c m) (fun b=>b=w.heap.size) B c a fs m s t root A n cap rl S S F clock p L:=((Run.start hH hO (fun _ e=>e)).below vF).sub (fun b e=> .inr ⟨by omega,by omega⟩);have FB:=nS B c a fs m s t root n cap pg A rl r clock Ap w0 S F p L T hold yN.home yN.one ya ho hr hq hA wY yA;have Hn:=va FB;have vY:=va vE;have Ds:=va zb;have yE:=va yN;have HR:=va hr;have HA:=va hA;have hzw:=va BB;clear FB vE vF zb yN hO hH ya ho hr hq hA BB;go_enter Tryz.func123,Tryz.ntmps123;go_upto_region 1 with(fail);rw[<-vY.out];go_upto_region 2 with(first
  |(go_at_call 121;refine(Hn.out).mono ?_;rintro e w1 ⟨er,⟨fr,pr,cp⟩,p1,L1,T1,vI,S1,rfl,Hd,xJ,wi,xU,zM,vO⟩;unfold ap)
  |fail)
 obtain⟨w2,wD⟩: ∃w2,w2=w1.alloc (.cells #[.int .i64 (fr:Int), .int .u8 (pr:Int), .bool cp] 83):=⟨_,rfl⟩;rw[<-wD];obtain⟨vV,If⟩:=yE.out.call Hd xJ wi;have vM:Below w1.heap.size w1 w2:=(by rw[wD];exact vc);have wm:w2.heap.size=w1.heap.size+1:=(by rw[wD];simp);have vL:Run w w2 (aw S c m) (fun b=>b=w.heap.size\/b=w1.heap.size) B c a fs m s t root A n cap rl S S1 F vI p1 L1:=(vV.below vM).sub (fun b e=>e.imp id fun e=>⟨by omega,by omega⟩);have Ax:=(If _ rfl).trans Ds.out;have Yb:w.heap.size<w1.heap.size:=(uZ Ax).1;have yc:=(vM.block _ Yb).trans Ax;have UH:w2.heap[w1.heap.size]? =some (.cells #[.int .i64 (fr:Int), .int .u8 (pr:Int), .bool cp] 83 (0,0)):=(by rw[wD];exact ab w1 _);obtain⟨⟨z0,z1,z2⟩,⟨zf0,zf1,zf2⟩,LK⟩:=box3 yc;obtain⟨⟨x0,x1,x2⟩,⟨xf0,xf1,xf2⟩,XS⟩:=box3 UH;have vK:w1.heap.size≠w.heap.size:=(by omega);have wu:=va vL;have CU:=va yc;have AW:=va UH;have wC:=va vO;clear Hd xJ wi vV If vM vL Ax yc UH vO wD wm;by_cases he:er=0
 rotate_left
 ·have vK:(er != 0)=true:=(by rw[bne_iff_ne];exact he);have HE:=va he;clear he;go_wp2_with fail;refine bodyPost_ret (v:= .tuple #[.agg (ap ⟨fr,pr,cp⟩), .int .i64 er]) (by simp[results,Tryz.results123,go_sem,LK,z0,z1,z2,zf0,zf1,zf2,ap]) rfl ?_;have wP:=wu.out.set (bq (w:=w2) (b:=w.heap.size) (.int .i64 (fr:Int)) (.int .u8 (pr:Int)) (.bool cp)) (fun b e=> .inl e);exact⟨er,⟨fr,pr,cp⟩,p1,L1,T1,vI,S1,rfl,wP.home.cache,wP.mod,wP.out,xU,zM,et.err' wC.out HE.out⟩
 subst he;cases cp with
 |false=>
  go_wp2_with fail;refine bodyPost_ret (v:= .tuple #[.agg (ap ⟨fr,pr,false⟩), .int .i64 0]) (by simp[results,Tryz.results123,go_sem,LK,z0,z1,z2,zf0,zf1,zf2,ap]) rfl ?_;have wP:=wu.out.set (bq (w:=w2) (b:=w.heap.size) (.int .i64 (fr:Int)) (.int .u8 (pr:Int)) (.bool false)) (fun b e=> .inl e);exact⟨0,⟨fr,pr,false⟩,p1,L1,T1,vI,S1,rfl,wP.home.cache,wP.mod,wP.out,xU,zM,et.alone wC.out rfl⟩
 |true=>
  go_upto_region 5 with(fail);obtain⟨w3,xb⟩: ∃w3,w3=w2.setCell ⟨w1.heap.size,2,none⟩ (.bool false):=⟨_,rfl⟩;rw[<-xb];have xH:Mod (fun b=>b=w1.heap.size) w2 w3:=(by rw[xb];exact aj (S:=fun b=>b=w1.heap.size) rfl 2 _);have Qa:w3.heap[w1.heap.size]? =some (.cells #[.int .i64 (fr:Int), .int .u8 (pr:Int), .bool false] 83 (0,0)):=by
   rw[xb];have:=Joins.block_setCell (i:=2) AW.out (.bool false);simpa using this
  have DP:=(xH.block _ LK (by omega)).trans CU.out;have wP:=wu.out.set xH (fun b e=> .inr e);clear xb xH z0 z1 z2 zf0 zf1 zf2 x0 x1 x2 xf0 xf1 xf2 XS LK;obtain⟨g1,g2⟩:=wC.out.got rfl;obtain⟨g,hg⟩:=wC.out.kept.sp.node1 g1;obtain⟨c1,c2,c3,c4,c5,c6⟩:=wC.out.kept.sp.leaf g1;dsimp only at c2 c3 c4 c5 c6;have wJ:=wC.out.kept.root _ HR.out;have s1: ∀d os,(grow (redrawn w3 d) os).cell? ⟨s,1,none⟩=some (.pointer (some ⟨a,0,none⟩)):=fun d os=>cell_regrown (aa wP.one.self 1) d os;have x0: ∀d os,(grow (redrawn w3 d) os).cell? ⟨w1.heap.size,0,none⟩=some (.int .i64 (fr:Int)):=fun d os=>cell_regrown (aa Qa 0) d os;have hC:=fun d os=>Calls.regrown_of ((gU a (fr:Int) (grow (redrawn w3 d) os) S1 p1 (wP.home.cache.pool.below (below_regrown w3 d os))).mono fun _ _ ⟨h1,h2⟩=>⟨h1,h2▸vz _ _⟩);rw[aR c3]at hC;have HCC:=va hC;have VG:=va wP;have AV:=va Qa;have LB:=va DP;have HG:=va hg;have HG1:=va g1;have Dr:=va wJ;have Hm:=va c5;have WA:=va c6;have ye:=va c2;have GA:=va c3;have Ct:=va c4;have CY:=va c1;clear hC wP Qa DP hg g1 g2 wJ c5 c6 c2 c3 c4 c1;refine wp_region_quiet_below (by kernel_rfl) (by kernel_rfl) ?_;(repeat(go_big_quiet_step ((first|exact HCC.out _ _))));refine wpQuiet_nil ?_;intro _ xI;obtain⟨⟨dq,osq⟩,hw''⟩:=xI;subst hw'';have wM:=below_regrown (w3) dq osq;generalize grow (redrawn (w3) dq) osq=wq at wM⊢;clear s1 x0;have LH:=wM.size;have Ya:w.heap.size<w3.heap.size:=(uZ LB.out).1;have XR:w1.heap.size<w3.heap.size:=(uZ AV.out).1;have An:=(VG.out.below wM).sub (K':=fun b=>b=w.heap.size\/b=w1.heap.size) (fun b e=> .inl e);have Xp:=(wM.block _ XR).trans AV.out;have ZJ:=(wM.block _ Ya).trans LB.out;have xB:=va Xp;have HRQ:=va ZJ;have KM:=va An;have AN:Ap.toNat/4096=pg:=(by have:=HA.out;omega);by_cases h1:p1.cnt fr=1
  ·have PQ:(((p1.cnt fr:Nat):Int)==1)=true:=(by rw[h1];rfl);have xy:=gu t c a root 0 Ap ⟨fr,pr,false⟩ wq.drew S1 p1 T1 (held L1 hold) An.home.cache.pool.drew An.one.tab An.one.noT.1 wC.out.kept.sp.good Dr.out yW ye.out GA.out Ct.out (by show p1.cnt fr+1<1000000000000;rw[h1];decide) (fr:Int) (pr:Int) rfl rfl;have zH:Calls Tryz.prog 69 #[.pointer (some ⟨t,0,none⟩), .int .u64 Ap, .agg #[.int .i64 (fr:Int), .int .u8 (pr:Int), .bool false]] wq.drew fun e W=>e= .returned (.int .i64 0)/\Hid (am W S1 a (bg p1 ⟨fr,pr,true⟩ ⟨fr,pr,false⟩ g pg))/\Hid (Mod S1 wq W)/\Box3 W w1.heap.size (.int .i64 (fr:Int)) (.int .u8 (pr:Int)) (.bool false)/\Box3 W w.heap.size (.int .i64 0) (.int .u8 0) (.bool false):=by
    refine xy.mono ?_;rw[fz (was:=⟨fr,pr,true⟩) (g:=g) HA.out q1 (by have:=ye.out;omega) (by rw[aR GA.out];have:=Ct.out;omega) HG1.out HG.out];rintro e W ⟨rfl,hP,BX⟩;have hm:=BX.undrew;obtain⟨_,hk⟩:=KM.out.pool (by simpa using hP) hm;exact⟨rfl,va (by simpa using hP),va hm,box3 ((hk _ (.inr rfl)).trans xB.out),box3 ((hk _ (.inl rfl)).trans HRQ.out)⟩
   have DX:=va zH;have H1:=va h1;have s2:wq.cell? ⟨s,2,none⟩=some (.pointer (some ⟨t,0,none⟩)):=aa An.one.self 2;obtain⟨⟨x0,x1,x2⟩,_,_⟩:=box3 Xp;clear xy zH h1 An Xp ZJ;go_upto_region 6 with(fail);go_region_with ((first
    |(go_at_call 69;refine(DX.out).mono ?_;rintro e w4 ⟨rfl,KQ,CF,⟨⟨y0,y1,y2⟩,⟨yf0,yf1,yf2⟩,Rl⟩,⟨⟨z0,z1,z2⟩,⟨zf0,zf1,zf2⟩,hzl⟩⟩)))
   all_goals
    go_wp2_with fail;refine bodyPost_ret (v:= .tuple #[.agg (ap ⟨fr,pr,false⟩), .int .i64 0]) (by simp[results,Tryz.results123,go_sem,hzl,z0,z1,z2,zf0,zf1,zf2,ap]) rfl ?_;have wG:=((KM.out.pool KQ.out CF.out).1).set (bq (w:=w4) (b:=w.heap.size) (.int .i64 (fr:Int)) (.int .u8 (pr:Int)) (.bool false)) (fun b e=> .inl e);exact⟨0,⟨fr,pr,false⟩,_,L1,_,vI,S1,rfl,wG.home.cache,wG.mod,wG.out,xU,zM,et.mark wC.out H1.out HG.out⟩
  ·have PQ:(((p1.cnt fr:Nat):Int)==1)=false:=(by rw[vp];omega);have s0:wq.cell? ⟨s,0,none⟩=some (.pointer (some ⟨c,0,none⟩)):=aa An.one.self 0;have hT:=fi c a fs m vI wq S1 p1 L1 An.home.cache;have VA:=va hT;clear hT An Xp ZJ h1;go_upto_region 8 with(first
    |(go_at_call 97;refine(VA.out).mono ?_;rintro e w4 ⟨e4,f,p2,L2,S2,rfl,Dm,xq,Ag,Bb⟩)
    |fail)
   obtain⟨wG,Bi⟩:=KM.out.call Dm (xq.sub fun b e=>e.elim .inl fun e=> .inr (.inl e)) Ag;have GX:=(Bi _ (.inr rfl)).trans xB.out;have RJ:=(Bi _ (.inl rfl)).trans HRQ.out;have xx:=va wG;have AK:=va GX;have LA:=va RJ;have Hg:=va Bb;clear Dm xq Ag wG Bi GX RJ Bb s0;rcases Hg.out.two with h4|⟨h4,PJ,hp2,IS⟩
   rotate_left
   ·subst h4 PJ hp2 IS;obtain⟨⟨z0,z1,z2⟩,⟨zf0,zf1,zf2⟩,XZ⟩:=box3 LA.out;obtain⟨⟨x0,x1,x2⟩,⟨xf0,xf1,xf2⟩,hxl4⟩:=box3 AK.out;go_wp2_with fail;refine bodyPost_ret (v:= .tuple #[.agg (ap ⟨fr,pr,false⟩), .int .i64 4]) (by simp[results,Tryz.results123,go_sem,XZ,z0,z1,z2,zf0,zf1,zf2,ap]) rfl ?_;have vP:=xx.out.set (bq (w:=w4) (b:=w.heap.size) (.int .i64 (fr:Int)) (.int .u8 (pr:Int)) (.bool false)) (fun b e=> .inl e);exact⟨4,⟨fr,pr,false⟩,_,_,T1,vI,S2,rfl,vP.home.cache,vP.mod,vP.out,xU,zM,et.no wC.out (wC.out.kept.sp.full Hg.out)⟩
   subst h4;obtain⟨a1,a2,a3,a4,a5⟩:=wC.out.kept.sp.take Hg.out;have Fy:p2.n=p1.n:=(a2 fun _ =>False).n;have Zk:fr<p2.n:=(by rw[Fy];exact GA.out);have IL:f<p2.n:=(by rw[Fy];exact a5.lt);have Ry:p2.cnt f=1:=a5.one;have Zr:1<=p2.cnt fr:=(a1.leaf HG1.out).2.2.2.1;have Ri:=va a1;have HA5s:=va a5.slot;have HA5n:=va a5.node;clear a1 a2 a3 a4 a5;have hload:=fG a fr 0 4096 w4.drew S2 p2 xx.out.home.cache.pool.drew Zk Zr (by decide) (by decide);have BY:Calls Tryz.prog 122 #[.pointer (some ⟨a,0,none⟩), .int .i64 (fr:Int), .int .i64 0, .int .i64 4096] w4.drew fun e W=>e= .returned (.tuple #[.slice (some ⟨w4.heap.size,0,none⟩) 4096 4096, .int .i64 0])/\Hid (aO W w4.heap.size 4096 (fun i=>p2.dat fr (0+i)))/\Hid (Below w4.heap.size w4 W)/\Box3 W w1.heap.size (.int .i64 (fr:Int)) (.int .u8 (pr:Int)) (.bool false):=by
    refine hload.mono ?_;rintro e W ⟨rfl,hB,hz,Ip⟩;have hb:=bA Ip;exact⟨rfl,va hB,va hb,box3 ((hb.block _ (uZ AK.out).1).trans AK.out)⟩
   have KV:=va BY;have s1:w4.cell? ⟨s,1,none⟩=some (.pointer (some ⟨a,0,none⟩)):=aa xx.out.one.self 1;obtain⟨⟨x0,x1,x2⟩,_,_⟩:=box3 AK.out;clear hload BY;go_upto_region 10 with(fail);go_cut [9]from 56 to 64 (fun b wx=>b= .slice (some ⟨w4.heap.size,0,none⟩) 4096 4096/\aO wx w4.heap.size 4096 (fun i=>p2.dat fr (0+i))/\Below w4.heap.size w4 wx)
   case first=>
    go_region_with ((first
     |(go_at_call 122;refine(KV.out).mono ?_;rintro e w5 ⟨rfl,Ae,Dw,⟨⟨y0,y1,y2⟩,⟨yf0,yf1,yf2⟩,Rl⟩⟩)))
    all_goals
     go_wp2_with fail
     go_meet
     exact⟨rfl,Ae.out,Dw.out⟩
   case rest=>
   obtain⟨rfl,Mw,KA⟩:=hcut;have vP:=(xx.out.below KA).sub (K':=fun b=>b=w.heap.size\/b=w1.heap.size) (fun b e=> .inl e);have hX5:=(KA.block _ (uZ AK.out).1).trans AK.out;have hR5:=(KA.block _ (uZ LA.out).1).trans LA.out;have yM: ∀x i,p2.dat x i<256:=(by obtain⟨⟨_,_,_,_,_,h,_⟩,_,_,_⟩:=vP.home.cache.pool;exact h.small);have hstore:=gw a f 0 4096 4096 _ _ wc S2 p2 vP.home.cache.pool IL (by omega) (by decide) (by decide) Mw.v (fun j=>yM _ _);have QA:=va hstore;have CS:=va hX5;have HR5:=va hR5;have AB:=va vP;clear hstore hX5 hR5 Mw KA;have s1:wc.cell? ⟨s,1,none⟩=some (.pointer (some ⟨a,0,none⟩)):=aa vP.one.self 1;clear vP yM;go_upto_region 12 with(first
    |(go_at_call 124;refine(QA.out).mono ?_;rintro e w6 ⟨rfl,CP,yU⟩)
    |fail)
   obtain⟨xt,BF⟩:=AB.out.pool CP yU;have RE:=(BF _ (.inr rfl)).trans CS.out;have Hb:=(BF _ (.inl rfl)).trans HR5.out;obtain⟨d,hd⟩: ∃d,d=laid (p2.dat f) (fun i=>p2.dat fr (0+i)) 0 4096:=⟨_,rfl⟩;rw[<-hd]at xt;have Ki: ∀i,i<4096->d i=p2.dat fr i:=fun i hi=>by rw[hd];unfold laid;rw[if_pos (by omega)];simp
   obtain⟨wR,yQ,Kz,hO4,Lu⟩:=et.copied wC.out Hg.out HG.out d Ki;have b1:Sp F (upd hold f 1) (p2.store f d) L2 T1:=Ri.out.storeH (by rw[af];omega) HA5s.out d;obtain⟨⟨x0,x1,x2⟩,⟨xf0,xf1,xf2⟩,XQ⟩:=box3 RE;go_upto_region 13 with(fail);obtain⟨w7,yg⟩: ∃w7,w7=w6.setCell ⟨w1.heap.size,0,none⟩ (.int .i64 (f:Int)):=⟨_,rfl⟩;rw[<-yg];have xh:Mod (fun b=>b=w1.heap.size) w6 w7:=(by rw[yg];exact aj (S:=fun b=>b=w1.heap.size) rfl 0 _);have CA:w7.heap[w1.heap.size]? =some (.cells #[.int .i64 (f:Int), .int .u8 (pr:Int), .bool false] 83 (0,0)):=by
    rw[yg];have:=Joins.block_setCell (i:=0) RE (.int .i64 (f:Int));simpa using this
   have Lt:=(xh.block _ (uZ Hb).1 (by omega)).trans Hb;have Ba:=xt.set xh (fun b e=> .inr e);have xy:=gu t c a root 0 Ap ⟨f,pr,false⟩ w7.drew S2 (p2.store f d) T1 (held L2 (upd hold f 1)) Ba.home.cache.pool.drew Ba.one.tab Ba.one.noT.1 b1.good Dr.out yW ye.out yQ (by rw[Kz];decide) (by show(p2.store f d).cnt f+1<1000000000000;rw[Kz];decide) (f:Int) (pr:Int) rfl rfl;rw[fz (was:=⟨fr,pr,true⟩) (g:=g) HA.out q1 (by have:=ye.out;omega) (by rw[aR yQ,Kz];decide) HG1.out HG.out]at xy;have s2:w7.cell? ⟨s,2,none⟩=some (.pointer (some ⟨t,0,none⟩)):=aa Ba.one.self 2;have DX:=va xy;have He:=va CA;have VL:=va Lt;have VF:=va Ba;have vS:=va wR;clear xy CA Lt Ba wR CP yU xt BF RE Hb hd Ki b1 xh yg x0 x1 x2 xf0 xf1 xf2 XQ s1;obtain⟨⟨x0,x1,x2⟩,⟨xf0,xf1,xf2⟩,XP⟩:=box3 He.out
   go_still_tail 6,(by kernel_rfl)
   go_wp2_with fail;refine(DX.out).mono ?_;rintro e w8 ⟨rfl,ZN,zj⟩;have yO:=zj.undrew;simp only[Int.toNat_natCast]at ZN;obtain⟨AZ,zl⟩:=VF.out.pool ZN yO;have NZ:=(zl _ (.inr rfl)).trans He.out;have Oa:=(zl _ (.inl rfl)).trans VL.out;have Mg:=cZ a f w8 S2 _ AZ.home.cache.pool hO4 Lu;have s1:w8.cell? ⟨s,1,none⟩=some (.pointer (some ⟨a,0,none⟩)):=aa AZ.one.self 1;have Wu:=va Mg;have Og:=va NZ;have DY:=va Oa;have VE:=va AZ;clear Mg NZ Oa AZ zl ZN yO zj x0 x1 x2 xf0 xf1 xf2 XP s2;go_upto_region 15 with(first
    |(go_at_call 59;refine(Wu.out).mono ?_;rintro e w9 ⟨rfl,Ky,zi⟩)
    |fail)
   obtain⟨Dd,Bh⟩:=VE.out.pool Ky zi;have RD:=(Bh _ (.inr rfl)).trans Og.out;have RI:=(Bh _ (.inl rfl)).trans DY.out;obtain⟨⟨z0,z1,z2⟩,⟨zf0,zf1,zf2⟩,OL⟩:=box3 RI;obtain⟨⟨x0,x1,x2⟩,⟨xf0,xf1,xf2⟩,hxl9⟩:=box3 RD;have Ju:=Dd.set (bq (w:=w9) (b:=w.heap.size) (.int .i64 (f:Int)) (.int .u8 (pr:Int)) (.bool false)) (fun b e=> .inl e);have Gr:=va Ju;clear Dd Bh RD RI Ky zi Ju;go_wp2_with fail;refine bodyPost_ret (v:= .tuple #[.agg (ap ⟨f,pr,false⟩), .int .i64 0]) (by simp[results,Tryz.results123,go_sem,OL,z0,z1,z2,zf0,zf1,zf2,ap]) rfl ?_;exact⟨0,⟨f,pr,false⟩,_,L2,_,vI,S2,rfl,Gr.out.home.cache,Gr.out.mod,Gr.out.out,xU,zM,vS.out⟩
end
