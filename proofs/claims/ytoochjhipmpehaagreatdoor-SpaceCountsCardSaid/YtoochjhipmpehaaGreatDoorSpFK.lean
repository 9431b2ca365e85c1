/- Spaces: a call's own blocks beside the cache and one space; -/
import Derived.Test.YtoochjhipmpehaaGreatDoorSpDK
set_option linter.unusedVariables false
set_option linter.unusedSimpArgs false
set_option maxRecDepth 100000
set_option maxHeartbeats 8000000
namespace Go.Proofs.YtoochjhipmpehaaGreatDoor
section
open Go.RowKit Go.Sort
structure Run (w W:World) (G K:Nat->Prop) (B c a fs m s t root:Nat) (A:Option Addr) (n cap:Nat) (rl:List Reg) (S0 S:Nat->Prop) (F:List Nd) (clock:Int) (p:Pool) (L:List Slot):Prop where
 home:Home W B c a fs m S F clock p L
 one:One W B c a m S s t root A n cap rl
 mod:Mod G w W
 out:Out S0 S w
 foot: ∀b,aw S0 c m b->G b
 low:c<w.heap.size/\m<w.heap.size/\s<w.heap.size/\t<w.heap.size/\B<=w.heap.size
 own: ∀b,K b-> ¬S b/\w.heap.size<=b/\b<W.heap.size
 row: ∀ad,A=some ad-> ¬K ad.block
variable {w W W':World} {G K:Nat->Prop} {B c a fs m s t root:Nat} {A:Option Addr} {n cap:Nat} {rl:List Reg} {S0 S S':Nat->Prop} {F:List Nd} {clock vQ:Int} {p p':Pool} {L L':List Slot}
theorem Run.start (hH:Home w B c a fs m S F clock p L) (hO:One w B c a m S s t root A n cap rl) (hG: ∀b,aw S c m b->G b):Run w w G (fun _ =>False) B c a fs m s t root A n cap rl S S F clock p L:=
 ⟨hH,hO,Mod.refl _ _,Out.refl _ _,hG,⟨hH.lts.1,hH.lts.2.1,hO.lts.1,hO.lts.2.1,hH.base⟩,fun _ h=>h.elim,fun _ _ h=>h⟩
theorem Run.sub {K':Nat->Prop} (h:Run w W G K B c a fs m s t root A n cap rl S0 S F clock p L) (hK: ∀b,K' b->K b):Run w W G K' B c a fs m s t root A n cap rl S0 S F clock p L:=
 ⟨h.home,h.one,h.mod,h.out,h.foot,h.low,fun b hb=>h.own b (hK b hb),fun ad e x=>h.row ad e (hK _ x)⟩
theorem Run.size (h:Run w W G K B c a fs m s t root A n cap rl S0 S F clock p L):w.heap.size<=W.heap.size:=h.mod.size
theorem Run.below (h:Run w W G K B c a fs m s t root A n cap rl S0 S F clock p L) (hb:Below W.heap.size W W'):Run w W' G (fun b=>K b\/(W.heap.size<=b/\b<W'.heap.size)) B c a fs m s t root A n cap rl S0 S F clock p L:=by
 have hz:=h.mod.size;have wL:=hb.size;refine⟨h.home.below hb,h.one.below hb,(h.mod.trans (Out.refl _ _) (Mod.of hb)),h.out,h.foot,h.low,fun b hb=>?_,fun ad e hk=>?_⟩
 ·rcases hb with hb|hb
  ·obtain⟨h1,h2,h3⟩:=h.own b hb;exact⟨h1,h2,by omega⟩
  ·exact⟨fun e=>by have:=h.home.lts.2.2 b e;omega,by omega,hb.2⟩
 ·rcases hk with hk|hk
  ·exact h.row ad e hk
  ·have:=(h.one.noR ad e).2.2.2.2.2.2;omega
theorem Run.call (h:Run w W G K B c a fs m s t root A n cap rl S0 S F clock p L) (hC:au W' S' c a fs m vQ p' L') (hm:Mod (aw S c m) W W') (ho:Out S S' W):Run w W' G K B c a fs m s t root A n cap rl S0 S' F vQ p' L'/\ ∀b,K b->W'.heap[b]? =W.heap[b]? :=by
 have hz:=h.mod.size;have wL:=hm.size;obtain⟨l1,l2,l3,l4,l5⟩:=h.low;have key: ∀b,K b-> ¬aw S c m b:=fun b hb e=>by
  obtain⟨h1,h2,h3⟩:=h.own b hb;rcases e with e|e|e
  ·exact h1 e
  ·omega
  ·omega
 refine⟨⟨h.home.step hC hm ho,h.one.foot hm ho,?_,h.out.trans ho hz,h.foot,h.low,fun b hb=>?_,h.row⟩,fun b hb=>hm.block b (h.own b hb).2.2 (key b hb)⟩
 ·exact((h.mod.sub (T:=fun b=>G b\/w.heap.size<=b) fun b e=> .inl e).trans (Out.refl _ _) (hm.sub fun b e=>by
   rcases e with e|e|e
   ·exact(h.out b e).imp (fun e=>h.foot b (.inl e)) id
   ·exact .inl (h.foot b (.inr (.inl e)))
   ·exact .inl (h.foot b (.inr (.inr e))))).own fun b e=>e
 ·obtain⟨h1,h2,h3⟩:=h.own b hb;exact⟨fun e=>(ho b e).elim h1 (fun e=>by omega),h2,by omega⟩
theorem Run.pool (h:Run w W G K B c a fs m s t root A n cap rl S0 S F clock p L) (hP:am W' S a p') (hm:Mod S W W'):Run w W' G K B c a fs m s t root A n cap rl S0 S F clock p' L/\ ∀b,K b->W'.heap[b]? =W.heap[b]? :=
 h.call (h.home.cache.turn hm hP (Out.refl _ _)) (hm.sub fun b hb=> .inl hb) (Out.refl _ _)
theorem Run.set {X:Nat->Prop} (h:Run w W G K B c a fs m s t root A n cap rl S0 S F clock p L) (hm:Mod X W W') (hX: ∀b,X b->K b):Run w W' G K B c a fs m s t root A n cap rl S0 S F clock p L:=by
 have hz:=h.mod.size;have wL:=hm.size;obtain⟨l1,l2,l3,l4,l5⟩:=h.low;refine⟨h.home.mod hm (fun b hb=>?_),h.one.mod hm (fun b hb=>?_),?_,h.out,h.foot,h.low,fun b hb=>?_,h.row⟩
 ·obtain⟨h1,h2,h3⟩:=h.own b (hX b hb);exact⟨h1,by omega,by omega,by omega⟩
 ·obtain⟨h1,h2,h3⟩:=h.own b (hX b hb);exact⟨by omega,by omega,fun ad e x=>h.row ad e (x▸hX b hb)⟩
 ·exact((h.mod.sub (T:=fun b=>G b\/w.heap.size<=b) fun b e=> .inl e).trans (Out.refl _ _) (hm.sub fun b e=> .inr (h.own b (hX b e)).2.1)).own fun b e=>e
 ·obtain⟨h1,h2,h3⟩:=h.own b hb;exact⟨h1,h2,by omega⟩
def OwnPost (w:World) (S:Nat->Prop) (c a fs m:Nat) (F:List Nd) (clock:Int) (p:Pool) (L:List Slot) (T:Tab) (hold:Nat->Nat) (r:Reg) (pg:Nat) (e:Ending) (w':World):Prop:=
 ∃er l p' L' T' vQ S',e= .returned (.tuple #[.agg (ap l), .int .i64 er])/\au w' S' c a fs m vQ p' L'/\Mod (aw S c m) w w'/\Out S S' w/\clock<=vQ/\vQ<=clock+1/\et F hold r pg p L T er l p' L' T'
theorem Sp.node1 {F:List Nd} {hold:Nat->Nat} {p:Pool} {L:List Slot} {T:Tab} (h:Sp F hold p L T) {pg:Nat} {l:Leaf} (hl:T.lf pg=some l): ∃g,T.nd 1 (part pg 1)=some g:=by
 have:=(h.good.ok.leaf pg l hl).1;exact Option.isSome_iff_exists.1 this
def Box3 (w:World) (b:Nat) (x y z:Value):Prop:=(w.cell? ⟨b,0,none⟩=some x/\w.cell? ⟨b,1,none⟩=some y/\w.cell? ⟨b,2,none⟩=some z)/\(w.frozen? ⟨b,0,none⟩=false/\w.frozen? ⟨b,1,none⟩=false/\w.frozen? ⟨b,2,none⟩=false)/\b<w.heap.size
theorem box3 {w:World} {b:Nat} {x y z:Value} {t:TypeId} (h:w.heap[b]? =some (.cells #[x,y,z] t (0,0))):Box3 w b x y z:=
 ⟨⟨aa h 0,aa h 1,aa h 2⟩,⟨ae h 0,ae h 1,ae h 2⟩,(vo h).1⟩
theorem sown_any (B c a fs m s t root n cap pg:Nat) (A:Option Addr) (rl:List Reg) (r:Reg) (clock Ap:Int) (w:World) (S:Nat->Prop) (F:List Nd) (p:Pool) (L:List Slot) (T:Tab) (hold:Nat->Nat)
  (hH:Home w B c a fs m S F clock p L) (hO:One w B c a m S s t root A n cap rl) (yA:Sp F hold p L T) (ho:Own p T) (hr:T.nd 4 0=some root) (hq:Ask F rl r pg) (hA:Ap=(pg:Int)*4096) (xn: ∀f,hold f<=100000000000) (Ar:0<=clock/\clock<1000000):
  Calls Tryz.prog 123 #[.pointer (some ⟨s,0,none⟩), .int .u64 Ap] w (OwnPost w S c a fs m F clock p L T hold r pg):=by
 obtain⟨q1,q2,q3,q4,q5,q6,q7⟩:=hq.facts;have zj:0<=Ap:=(by omega);have hA9:Ap<140737488355328:=(by omega);obtain⟨w0,vT⟩: ∃w0,w0=w.alloc (.cells #[.int .i64 0, .int .u8 0, .bool false] 83):=⟨_,rfl⟩;have vU:Below w.heap.size w w0:=(by rw[vT];exact vr);have BP:w0.heap.size=w.heap.size+1:=(by rw[vT];simp);have zp:w0.heap[w.heap.size]? =some (.cells #[.int .i64 0, .int .u8 0, .bool false] 83 (0,0)):=(by rw[vT];exact ab w _);have za:Run w w0 (aw S c m) (fun b=>b=w.heap.size) B c a fs m s t root A n cap rl S S F clock p L:=((Run.start hH hO (fun _ e=>e)).below vU).sub (fun b e=> .inr ⟨by omega,by omega⟩);have IX:=nK B c a fs m s t root n cap pg A rl r clock Ap w0 S F p L T hold za.home za.one yA ho hr hq hA xn Ar;have Lo:=vp IX;have wD:=vp vT;have DS:=vp zp;have yQ:=vp za;have HR:=vp hr;have HA:=vp hA;have hzw:=vp BP;clear IX vT vU zp za hO hH yA ho hr hq hA BP;go_enter Tryz.func123,Tryz.ntmps123;go_upto_region 1 with(fail);rw[<-wD.out];go_upto_region 2 with(first
  |(go_at_call 121;refine(Lo.out).mono ?_;rintro e w1 ⟨er,⟨fr,pr,cp⟩,p1,L1,T1,vX,S1,rfl,Hr,xE,wK,yr,Au,wi⟩;unfold ap)
  |fail)
 obtain⟨w2,wO⟩: ∃w2,w2=w1.alloc (.cells #[.int .i64 (fr:Int), .int .u8 (pr:Int), .bool cp] 83):=⟨_,rfl⟩;rw[<-wO];obtain⟨wB,Mj⟩:=yQ.out.call Hr xE wK;have wb:Below w1.heap.size w1 w2:=(by rw[wO];exact vr);have wL:w2.heap.size=w1.heap.size+1:=(by rw[wO];simp);have vZ:Run w w2 (aw S c m) (fun b=>b=w.heap.size\/b=w1.heap.size) B c a fs m s t root A n cap rl S S1 F vX p1 L1:=(wB.below wb).sub (fun b e=>e.imp id fun e=>⟨by omega,by omega⟩);have AO:=(Mj _ rfl).trans DS.out;have Yk:w.heap.size<w1.heap.size:=(vo AO).1;have yt:=(wb.block _ Yk).trans AO;have UR:w2.heap[w1.heap.size]? =some (.cells #[.int .i64 (fr:Int), .int .u8 (pr:Int), .bool cp] 83 (0,0)):=(by rw[wO];exact ab w1 _);obtain⟨⟨z0,z1,z2⟩,⟨zf0,zf1,zf2⟩,LO⟩:=box3 yt;obtain⟨⟨x0,x1,x2⟩,⟨xf0,xf1,xf2⟩,Yb⟩:=box3 UR;have wg:w1.heap.size≠w.heap.size:=(by omega);have wN:=vp vZ;have Bo:=vp yt;have Bn:=vp UR;have wP:=vp wi;clear Hr xE wK wB Mj wb vZ AO yt UR wi wO wL;by_cases he:er=0
 rotate_left
 ·have wg:(er != 0)=true:=(by rw[bne_iff_ne];exact he);have HE:=vp he;clear he;go_wp2_with fail;refine bodyPost_ret (v:= .tuple #[.agg (ap ⟨fr,pr,cp⟩), .int .i64 er]) (by simp[results,Tryz.results123,go_sem,LO,z0,z1,z2,zf0,zf1,zf2,ap]) rfl ?_;have xg:=wN.out.set (bg (w:=w2) (b:=w.heap.size) (.int .i64 (fr:Int)) (.int .u8 (pr:Int)) (.bool cp)) (fun b e=> .inl e);exact⟨er,⟨fr,pr,cp⟩,p1,L1,T1,vX,S1,rfl,xg.home.cache,xg.mod,xg.out,yr,Au,et.err' wP.out HE.out⟩
 subst he;cases cp with
 |false=>
  go_wp2_with fail;refine bodyPost_ret (v:= .tuple #[.agg (ap ⟨fr,pr,false⟩), .int .i64 0]) (by simp[results,Tryz.results123,go_sem,LO,z0,z1,z2,zf0,zf1,zf2,ap]) rfl ?_;have xg:=wN.out.set (bg (w:=w2) (b:=w.heap.size) (.int .i64 (fr:Int)) (.int .u8 (pr:Int)) (.bool false)) (fun b e=> .inl e);exact⟨0,⟨fr,pr,false⟩,p1,L1,T1,vX,S1,rfl,xg.home.cache,xg.mod,xg.out,yr,Au,et.alone wP.out rfl⟩
 |true=>
  go_upto_region 5 with(fail);obtain⟨w3,xq⟩: ∃w3,w3=w2.setCell ⟨w1.heap.size,2,none⟩ (.bool false):=⟨_,rfl⟩;rw[<-xq];have xW:Mod (fun b=>b=w1.heap.size) w2 w3:=(by rw[xq];exact aj (S:=fun b=>b=w1.heap.size) rfl 2 _);have Qo:w3.heap[w1.heap.size]? =some (.cells #[.int .i64 (fr:Int), .int .u8 (pr:Int), .bool false] 83 (0,0)):=by
   rw[xq];have:=Joins.block_setCell (i:=2) Bn.out (.bool false);simpa using this
  have Em:=(xW.block _ LO (by omega)).trans Bo.out;have xg:=wN.out.set xW (fun b e=> .inr e);clear xq xW z0 z1 z2 zf0 zf1 zf2 x0 x1 x2 xf0 xf1 xf2 Yb LO;obtain⟨g1,g2⟩:=wP.out.got rfl;obtain⟨g,hg⟩:=wP.out.kept.sp.node1 g1;obtain⟨c1,c2,c3,c4,c5,c6⟩:=wP.out.kept.sp.leaf g1;dsimp only at c2 c3 c4 c5 c6;have wY:=wP.out.kept.root _ HR.out;have s1: ∀d os,(grow (redrawn w3 d) os).cell? ⟨s,1,none⟩=some (.pointer (some ⟨a,0,none⟩)):=fun d os=>cell_regrown (aa xg.one.self 1) d os;have x0: ∀d os,(grow (redrawn w3 d) os).cell? ⟨w1.heap.size,0,none⟩=some (.int .i64 (fr:Int)):=fun d os=>cell_regrown (aa Qo 0) d os;have hC:=fun d os=>Calls.regrown_of ((fm a (fr:Int) (grow (redrawn w3 d) os) S1 p1 (xg.home.cache.pool.below (below_regrown w3 d os))).mono fun _ _ ⟨h1,h2⟩=>⟨h1,h2▸vO _ _⟩);rw[aM c3]at hC;have HCC:=vp hC;have VP:=vp xg;have Bm:=vp Qo;have LH:=vp Em;have HG:=vp hg;have HG1:=vp g1;have DR:=vp wY;have Ga:=vp c5;have ON:=vp c6;have yu:=vp c2;have GR:=vp c3;have BO:=vp c4;have Dw:=vp c1;clear hC xg Qo Em hg g1 g2 wY c5 c6 c2 c3 c4 c1;refine wp_region_quiet_below (by kernel_rfl) (by kernel_rfl) ?_;(repeat(go_big_quiet_step ((first|exact HCC.out _ _))));refine wpQuiet_nil ?_;intro _ yq;obtain⟨⟨dq,osq⟩,hw''⟩:=yq;subst hw'';have xc:=below_regrown (w3) dq osq;generalize grow (redrawn (w3) dq) osq=wq at xc⊢;clear s1 x0;have LM:=xc.size;have Yj:w.heap.size<w3.heap.size:=(vo LH.out).1;have Ya:w1.heap.size<w3.heap.size:=(vo Bm.out).1;have AG:=(VP.out.below xc).sub (K':=fun b=>b=w.heap.size\/b=w1.heap.size) (fun b e=> .inl e);have Xv:=(xc.block _ Ya).trans Bm.out;have ZL:=(xc.block _ Yj).trans LH.out;have xT:=vp Xv;have HRQ:=vp ZL;have KW:=vp AG;have Bb:Ap.toNat/4096=pg:=(by have:=HA.out;omega);by_cases h1:p1.cnt fr=1
  ·have Qb:(((p1.cnt fr:Nat):Int)==1)=true:=(by rw[h1];rfl);have yh:=gv t c a root 0 Ap ⟨fr,pr,false⟩ wq.drew S1 p1 T1 (held L1 hold) AG.home.cache.pool.drew AG.one.tab AG.one.noT.1 wP.out.kept.sp.good DR.out zj yu.out GR.out BO.out (by show p1.cnt fr+1<1000000000000;rw[h1];decide) (fr:Int) (pr:Int) rfl rfl;have zW:Calls Tryz.prog 69 #[.pointer (some ⟨t,0,none⟩), .int .u64 Ap, .agg #[.int .i64 (fr:Int), .int .u8 (pr:Int), .bool false]] wq.drew fun e W=>e= .returned (.int .i64 0)/\Hid (am W S1 a (bc p1 ⟨fr,pr,true⟩ ⟨fr,pr,false⟩ g pg))/\Hid (Mod S1 wq W)/\Box3 W w1.heap.size (.int .i64 (fr:Int)) (.int .u8 (pr:Int)) (.bool false)/\Box3 W w.heap.size (.int .i64 0) (.int .u8 0) (.bool false):=by
    refine yh.mono ?_;rw[fA (was:=⟨fr,pr,true⟩) (g:=g) HA.out q1 (by have:=yu.out;omega) (by rw[aM GR.out];have:=BO.out;omega) HG1.out HG.out];rintro e W ⟨rfl,hP,Cp⟩;have hm:=Cp.undrew;obtain⟨_,hk⟩:=KW.out.pool (by simpa using hP) hm;exact⟨rfl,vp (by simpa using hP),vp hm,box3 ((hk _ (.inr rfl)).trans xT.out),box3 ((hk _ (.inl rfl)).trans HRQ.out)⟩
   have Ew:=vp zW;have H1:=vp h1;have s2:wq.cell? ⟨s,2,none⟩=some (.pointer (some ⟨t,0,none⟩)):=aa AG.one.self 2;obtain⟨⟨x0,x1,x2⟩,_,_⟩:=box3 Xv;clear yh zW h1 AG Xv ZL;go_upto_region 6 with(fail);go_region_with ((first
    |(go_at_call 69;refine(Ew.out).mono ?_;rintro e w4 ⟨rfl,MK,FG,⟨⟨y0,y1,y2⟩,⟨yf0,yf1,yf2⟩,Ry⟩,⟨⟨z0,z1,z2⟩,⟨zf0,zf1,zf2⟩,XQ⟩⟩)))
   all_goals
    go_wp2_with fail;refine bodyPost_ret (v:= .tuple #[.agg (ap ⟨fr,pr,false⟩), .int .i64 0]) (by simp[results,Tryz.results123,go_sem,XQ,z0,z1,z2,zf0,zf1,zf2,ap]) rfl ?_;have wU:=((KW.out.pool MK.out FG.out).1).set (bg (w:=w4) (b:=w.heap.size) (.int .i64 (fr:Int)) (.int .u8 (pr:Int)) (.bool false)) (fun b e=> .inl e);exact⟨0,⟨fr,pr,false⟩,_,L1,_,vX,S1,rfl,wU.home.cache,wU.mod,wU.out,yr,Au,et.mark wP.out H1.out HG.out⟩
  ·have Qb:(((p1.cnt fr:Nat):Int)==1)=false:=(by rw[vE];omega);have s0:wq.cell? ⟨s,0,none⟩=some (.pointer (some ⟨c,0,none⟩)):=aa AG.one.self 0;have hT:=fj c a fs m vX wq S1 p1 L1 AG.home.cache;have VK:=vp hT;clear hT AG Xv ZL h1;go_upto_region 8 with(first
    |(go_at_call 97;refine(VK.out).mono ?_;rintro e w4 ⟨e4,f,p2,L2,S2,rfl,DN,xH,zN,Bt⟩)
    |fail)
   obtain⟨wU,BA⟩:=KW.out.call DN (xH.sub fun b e=>e.elim .inl fun e=> .inr (.inl e)) zN;have Hm:=(BA _ (.inr rfl)).trans xT.out;have RZ:=(BA _ (.inl rfl)).trans HRQ.out;have xO:=vp wU;have AY:=vp Hm;have Ou:=vp RZ;have Hv:=vp Bt;clear DN xH zN wU BA Hm RZ Bt s0;rcases Hv.out.two with h4|⟨h4,PU,hp2,Jc⟩
   rotate_left
   ·subst h4 PU hp2 Jc;obtain⟨⟨z0,z1,z2⟩,⟨zf0,zf1,zf2⟩,Yi⟩:=box3 Ou.out;obtain⟨⟨x0,x1,x2⟩,⟨xf0,xf1,xf2⟩,hxl4⟩:=box3 AY.out;go_wp2_with fail;refine bodyPost_ret (v:= .tuple #[.agg (ap ⟨fr,pr,false⟩), .int .i64 4]) (by simp[results,Tryz.results123,go_sem,Yi,z0,z1,z2,zf0,zf1,zf2,ap]) rfl ?_;have wj:=xO.out.set (bg (w:=w4) (b:=w.heap.size) (.int .i64 (fr:Int)) (.int .u8 (pr:Int)) (.bool false)) (fun b e=> .inl e);exact⟨4,⟨fr,pr,false⟩,_,_,T1,vX,S2,rfl,wj.home.cache,wj.mod,wj.out,yr,Au,et.no wP.out (wP.out.kept.sp.full Hv.out)⟩
   subst h4;obtain⟨a1,a2,a3,a4,a5⟩:=wP.out.kept.sp.take Hv.out;have Gn:p2.n=p1.n:=(a2 fun _ =>False).n;have Zo:fr<p2.n:=(by rw[Gn];exact GR.out);have IV:f<p2.n:=(by rw[Gn];exact a5.lt);have RO:p2.cnt f=1:=a5.one;have Zv:1<=p2.cnt fr:=(a1.leaf HG1.out).2.2.2.1;have Xd:=vp a1;have HA5s:=vp a5.slot;have HA5n:=vp a5.node;clear a1 a2 a3 a4 a5;have hload:=fH a fr 0 4096 w4.drew S2 p2 xO.out.home.cache.pool.drew Zo Zv (by decide) (by decide);have Cq:Calls Tryz.prog 122 #[.pointer (some ⟨a,0,none⟩), .int .i64 (fr:Int), .int .i64 0, .int .i64 4096] w4.drew fun e W=>e= .returned (.tuple #[.slice (some ⟨w4.heap.size,0,none⟩) 4096 4096, .int .i64 0])/\Hid (aP W w4.heap.size 4096 (fun i=>p2.dat fr (0+i)))/\Hid (Below w4.heap.size w4 W)/\Box3 W w1.heap.size (.int .i64 (fr:Int)) (.int .u8 (pr:Int)) (.bool false):=by
    refine hload.mono ?_;rintro e W ⟨rfl,hB,hz,FT⟩;have hb:=bw FT;exact⟨rfl,vp hB,vp hb,box3 ((hb.block _ (vo AY.out).1).trans AY.out)⟩
   have Lf:=vp Cq;have s1:w4.cell? ⟨s,1,none⟩=some (.pointer (some ⟨a,0,none⟩)):=aa xO.out.one.self 1;obtain⟨⟨x0,x1,x2⟩,_,_⟩:=box3 AY.out;clear hload Cq;go_upto_region 10 with(fail);go_cut [9]from 56 to 64 (fun b wx=>b= .slice (some ⟨w4.heap.size,0,none⟩) 4096 4096/\aP wx w4.heap.size 4096 (fun i=>p2.dat fr (0+i))/\Below w4.heap.size w4 wx)
   case first=>
    go_region_with ((first
     |(go_at_call 122;refine(Lf.out).mono ?_;rintro e w5 ⟨rfl,zq,CO,⟨⟨y0,y1,y2⟩,⟨yf0,yf1,yf2⟩,Ry⟩⟩)))
    all_goals
     go_wp2_with fail
     go_meet
     exact⟨rfl,zq.out,CO.out⟩
   case rest=>
   obtain⟨rfl,MB,KJ⟩:=hcut;have wj:=(xO.out.below KJ).sub (K':=fun b=>b=w.heap.size\/b=w1.heap.size) (fun b e=> .inl e);have hX5:=(KJ.block _ (vo AY.out).1).trans AY.out;have hR5:=(KJ.block _ (vo Ou.out).1).trans Ou.out;have yS: ∀x i,p2.dat x i<256:=(by obtain⟨⟨_,_,_,_,_,h,_⟩,_,_,_⟩:=wj.home.cache.pool;exact h.small);have hstore:=gx a f 0 4096 4096 _ _ wc S2 p2 wj.home.cache.pool IV (by omega) (by decide) (by decide) MB.v (fun j=>yS _ _);have QP:=vp hstore;have Dr:=vp hX5;have HR5:=vp hR5;have AT:=vp wj;clear hstore hX5 hR5 MB KJ;have s1:wc.cell? ⟨s,1,none⟩=some (.pointer (some ⟨a,0,none⟩)):=aa wj.one.self 1;clear wj yS;go_upto_region 12 with(first
    |(go_at_call 124;refine(QP.out).mono ?_;rintro e w6 ⟨rfl,Dl,zO⟩)
    |fail)
   obtain⟨xK,BU⟩:=AT.out.pool Dl zO;have RU:=(BU _ (.inr rfl)).trans Dr.out;have Hp:=(BU _ (.inl rfl)).trans HR5.out;obtain⟨d,hd⟩: ∃d,d=laid (p2.dat f) (fun i=>p2.dat fr (0+i)) 0 4096:=⟨_,rfl⟩;rw[<-hd]at xK;have Ks: ∀i,i<4096->d i=p2.dat fr i:=fun i hi=>by rw[hd];unfold laid;rw[if_pos (by omega)];simp
   obtain⟨wZ,zF,KI,hO4,IC⟩:=et.copied wP.out Hv.out HG.out d Ks;have b1:Sp F (upd hold f 1) (p2.store f d) L2 T1:=Xd.out.storeH (by rw[af];omega) HA5s.out d;obtain⟨⟨x0,x1,x2⟩,⟨xf0,xf1,xf2⟩,XZ⟩:=box3 RU;go_upto_region 13 with(fail);obtain⟨w7,yv⟩: ∃w7,w7=w6.setCell ⟨w1.heap.size,0,none⟩ (.int .i64 (f:Int)):=⟨_,rfl⟩;rw[<-yv];have xw:Mod (fun b=>b=w1.heap.size) w6 w7:=(by rw[yv];exact aj (S:=fun b=>b=w1.heap.size) rfl 0 _);have CU:w7.heap[w1.heap.size]? =some (.cells #[.int .i64 (f:Int), .int .u8 (pr:Int), .bool false] 83 (0,0)):=by
    rw[yv];have:=Joins.block_setCell (i:=0) RU (.int .i64 (f:Int));simpa using this
   have LB:=(xw.block _ (vo Hp).1 (by omega)).trans Hp;have Bs:=xK.set xw (fun b e=> .inr e);have yh:=gv t c a root 0 Ap ⟨f,pr,false⟩ w7.drew S2 (p2.store f d) T1 (held L2 (upd hold f 1)) Bs.home.cache.pool.drew Bs.one.tab Bs.one.noT.1 b1.good DR.out zj yu.out zF (by rw[KI];decide) (by show(p2.store f d).cnt f+1<1000000000000;rw[KI];decide) (f:Int) (pr:Int) rfl rfl;rw[fA (was:=⟨fr,pr,true⟩) (g:=g) HA.out q1 (by have:=yu.out;omega) (by rw[aM zF,KI];decide) HG1.out HG.out]at yh;have s2:w7.cell? ⟨s,2,none⟩=some (.pointer (some ⟨t,0,none⟩)):=aa Bs.one.self 2;have Ew:=vp yh;have Ht:=vp CU;have VX:=vp LB;have VO:=vp Bs;have wu:=vp wZ;clear yh CU LB Bs wZ Dl zO xK BU RU Hp hd Ks b1 xw yv x0 x1 x2 xf0 xf1 xf2 XZ s1;obtain⟨⟨x0,x1,x2⟩,⟨xf0,xf1,xf2⟩,XY⟩:=box3 Ht.out
   go_still_tail 6,(by kernel_rfl)
   go_wp2_with fail;refine(Ew.out).mono ?_;rintro e w8 ⟨rfl,ZP,zz⟩;have zb:=zz.undrew;simp only[Int.toNat_natCast]at ZP;obtain⟨Br,zB⟩:=VO.out.pool ZP zb;have Od:=(zB _ (.inr rfl)).trans Ht.out;have Oe:=(zB _ (.inl rfl)).trans VX.out;have Mm:=cZ a f w8 S2 _ Br.home.cache.pool hO4 IC;have s1:w8.cell? ⟨s,1,none⟩=some (.pointer (some ⟨a,0,none⟩)):=aa Br.one.self 1;have WJ:=vp Mm;have Om:=vp Od;have FV:=vp Oe;have VN:=vp Br;clear Mm Od Oe Br zB ZP zb zz x0 x1 x2 xf0 xf1 xf2 XY s2;go_upto_region 15 with(first
    |(go_at_call 59;refine(WJ.out).mono ?_;rintro e w9 ⟨rfl,KH,zy⟩)
    |fail)
   obtain⟨DE,Bz⟩:=VN.out.pool KH zy;have RT:=(Bz _ (.inr rfl)).trans Om.out;have RY:=(Bz _ (.inl rfl)).trans FV.out;obtain⟨⟨z0,z1,z2⟩,⟨zf0,zf1,zf2⟩,OV⟩:=box3 RY;obtain⟨⟨x0,x1,x2⟩,⟨xf0,xf1,xf2⟩,hxl9⟩:=box3 RT;have JF:=DE.set (bg (w:=w9) (b:=w.heap.size) (.int .i64 (f:Int)) (.int .u8 (pr:Int)) (.bool false)) (fun b e=> .inl e);have GI:=vp JF;clear DE Bz RT RY KH zy JF;go_wp2_with fail;refine bodyPost_ret (v:= .tuple #[.agg (ap ⟨f,pr,false⟩), .int .i64 0]) (by simp[results,Tryz.results123,go_sem,OV,z0,z1,z2,zf0,zf1,zf2,ap]) rfl ?_;exact⟨0,⟨f,pr,false⟩,_,L2,_,vX,S2,rfl,GI.out.home.cache,GI.out.mod,GI.out.out,yr,Au,wu.out⟩
end
