/- Spaces: a call's own blocks beside the cache and one space; -/
import Derived.Test.YtoochjhipmpehaaGreatDoorSpDK
set_option linter.unusedVariables false
set_option linter.unusedSimpArgs false
set_option maxRecDepth 100000
set_option maxHeartbeats 8000000
namespace Go.Proofs.YtoochjhipmpehaaGreatDoor
section
open Go.RowKit Go.Sort
structure Run (w W:World) (G K:Nat->Prop) (B c a fs m s t root:Nat) (A:Option Addr) (n cap:Nat) (rl:List Reg) (S0 S:Nat->Prop) (F:List Nd) (clock:Int) (p:Pool) (L:List Slot):Prop where
 home:Home W B c a fs m S F clock p L
 one:One W B c a m S s t root A n cap rl
 mod:Mod G w W
 out:Out S0 S w
 foot: ∀b,av S0 c m b->G b
 low:c<w.heap.size/\m<w.heap.size/\s<w.heap.size/\t<w.heap.size/\B<=w.heap.size
 own: ∀b,K b-> ¬S b/\w.heap.size<=b/\b<W.heap.size
 row: ∀ad,A=some ad-> ¬K ad.block
variable {w W W':World} {G K:Nat->Prop} {B c a fs m s t root:Nat} {A:Option Addr} {n cap:Nat} {rl:List Reg} {S0 S S':Nat->Prop} {F:List Nd} {clock vi:Int} {p p':Pool} {L L':List Slot}
theorem Run.start (hH:Home w B c a fs m S F clock p L) (hO:One w B c a m S s t root A n cap rl) (hG: ∀b,av S c m b->G b):Run w w G (fun _ =>False) B c a fs m s t root A n cap rl S S F clock p L:=
 ⟨hH,hO,Mod.refl _ _,Out.refl _ _,hG,⟨hH.lts.1,hH.lts.2.1,hO.lts.1,hO.lts.2.1,hH.base⟩,fun _ h=>h.elim,fun _ _ h=>h⟩
theorem Run.sub {K':Nat->Prop} (h:Run w W G K B c a fs m s t root A n cap rl S0 S F clock p L) (hK: ∀b,K' b->K b):Run w W G K' B c a fs m s t root A n cap rl S0 S F clock p L:=
 ⟨h.home,h.one,h.mod,h.out,h.foot,h.low,fun b hb=>h.own b (hK b hb),fun ad e x=>h.row ad e (hK _ x)⟩
theorem Run.size (h:Run w W G K B c a fs m s t root A n cap rl S0 S F clock p L):w.heap.size<=W.heap.size:=h.mod.size
theorem Run.below (h:Run w W G K B c a fs m s t root A n cap rl S0 S F clock p L) (hb:Below W.heap.size W W'):Run w W' G (fun b=>K b\/(W.heap.size<=b/\b<W'.heap.size)) B c a fs m s t root A n cap rl S0 S F clock p L:=by
 have hz:=h.mod.size;have vO:=hb.size;refine⟨h.home.below hb,h.one.below hb,(h.mod.trans (Out.refl _ _) (Mod.of hb)),h.out,h.foot,h.low,fun b hb=>?_,fun ad e hk=>?_⟩
 ·rcases hb with hb|hb
  ·obtain⟨h1,h2,h3⟩:=h.own b hb;exact⟨h1,h2,by omega⟩
  ·exact⟨fun e=>by have:=h.home.lts.2.2 b e;omega,by omega,hb.2⟩
 ·rcases hk with hk|hk
  ·exact h.row ad e hk
  ·have:=(h.one.noR ad e).2.2.2.2.2.2;omega
theorem Run.call (h:Run w W G K B c a fs m s t root A n cap rl S0 S F clock p L) (hC:ar W' S' c a fs m vi p' L') (hm:Mod (av S c m) W W') (ho:Out S S' W):Run w W' G K B c a fs m s t root A n cap rl S0 S' F vi p' L'/\ ∀b,K b->W'.heap[b]? =W.heap[b]? :=by
 have hz:=h.mod.size;have vO:=hm.size;obtain⟨l1,l2,l3,l4,l5⟩:=h.low;have key: ∀b,K b-> ¬av S c m b:=fun b hb e=>by
  obtain⟨h1,h2,h3⟩:=h.own b hb;rcases e with e|e|e
  ·exact h1 e
  ·omega
  ·omega
 refine⟨⟨h.home.step hC hm ho,h.one.foot hm ho,?_,h.out.trans ho hz,h.foot,h.low,fun b hb=>?_,h.row⟩,fun b hb=>hm.block b (h.own b hb).2.2 (key b hb)⟩
 ·exact((h.mod.sub (T:=fun b=>G b\/w.heap.size<=b) fun b e=> .inl e).trans (Out.refl _ _) (hm.sub fun b e=>by
   rcases e with e|e|e
   ·exact(h.out b e).imp (fun e=>h.foot b (.inl e)) id
   ·exact .inl (h.foot b (.inr (.inl e)))
   ·exact .inl (h.foot b (.inr (.inr e))))).own fun b e=>e
 ·obtain⟨h1,h2,h3⟩:=h.own b hb;exact⟨fun e=>(ho b e).elim h1 (fun e=>by omega),h2,by omega⟩
theorem Run.pool (h:Run w W G K B c a fs m s t root A n cap rl S0 S F clock p L) (hP:al W' S a p') (hm:Mod S W W'):Run w W' G K B c a fs m s t root A n cap rl S0 S F clock p' L/\ ∀b,K b->W'.heap[b]? =W.heap[b]? :=
 h.call (h.home.cache.turn hm hP (Out.refl _ _)) (hm.sub fun b hb=> .inl hb) (Out.refl _ _)
theorem Run.set {X:Nat->Prop} (h:Run w W G K B c a fs m s t root A n cap rl S0 S F clock p L) (hm:Mod X W W') (hX: ∀b,X b->K b):Run w W' G K B c a fs m s t root A n cap rl S0 S F clock p L:=by
 have hz:=h.mod.size;have vO:=hm.size;obtain⟨l1,l2,l3,l4,l5⟩:=h.low;refine⟨h.home.mod hm (fun b hb=>?_),h.one.mod hm (fun b hb=>?_),?_,h.out,h.foot,h.low,fun b hb=>?_,h.row⟩
 ·obtain⟨h1,h2,h3⟩:=h.own b (hX b hb);exact⟨h1,by omega,by omega,by omega⟩
 ·obtain⟨h1,h2,h3⟩:=h.own b (hX b hb);exact⟨by omega,by omega,fun ad e x=>h.row ad e (x▸hX b hb)⟩
 ·exact((h.mod.sub (T:=fun b=>G b\/w.heap.size<=b) fun b e=> .inl e).trans (Out.refl _ _) (hm.sub fun b e=> .inr (h.own b (hX b e)).2.1)).own fun b e=>e
 ·obtain⟨h1,h2,h3⟩:=h.own b hb;exact⟨h1,h2,by omega⟩
def OwnPost (w:World) (S:Nat->Prop) (c a fs m:Nat) (F:List Nd) (clock:Int) (p:Pool) (L:List Slot) (T:Tab) (hold:Nat->Nat) (r:Reg) (pg:Nat) (e:Ending) (w':World):Prop:=
 ∃er l p' L' T' vi S',e= .returned (.tuple #[.agg (ap l), .int .i64 er])/\ar w' S' c a fs m vi p' L'/\Mod (av S c m) w w'/\Out S S' w/\clock<=vi/\vi<=clock+1/\eh F hold r pg p L T er l p' L' T'
theorem Sp.node1 {F:List Nd} {hold:Nat->Nat} {p:Pool} {L:List Slot} {T:Tab} (h:Sp F hold p L T) {pg:Nat} {l:Leaf} (hl:T.lf pg=some l): ∃g,T.nd 1 (part pg 1)=some g:=by
 have:=(h.good.ok.leaf pg l hl).1;exact Option.isSome_iff_exists.1 this
def Box3 (w:World) (b:Nat) (x y z:Value):Prop:=(w.cell? ⟨b,0,none⟩=some x/\w.cell? ⟨b,1,none⟩=some y/\w.cell? ⟨b,2,none⟩=some z)/\(w.frozen? ⟨b,0,none⟩=false/\w.frozen? ⟨b,1,none⟩=false/\w.frozen? ⟨b,2,none⟩=false)/\b<w.heap.size
theorem box3 {w:World} {b:Nat} {x y z:Value} {t:TypeId} (h:w.heap[b]? =some (.cells #[x,y,z] t (0,0))):Box3 w b x y z:=
 ⟨⟨aa h 0,aa h 1,aa h 2⟩,⟨ae h 0,ae h 1,ae h 2⟩,(uG h).1⟩
theorem sown_any (B c a fs m s t root n cap pg:Nat) (A:Option Addr) (rl:List Reg) (r:Reg) (clock Ap:Int) (w:World) (S:Nat->Prop) (F:List Nd) (p:Pool) (L:List Slot) (T:Tab) (hold:Nat->Nat)
  (hH:Home w B c a fs m S F clock p L) (hO:One w B c a m S s t root A n cap rl) (xM:Sp F hold p L T) (ho:Own p T) (hr:T.nd 4 0=some root) (hq:Ask F rl r pg) (hA:Ap=(pg:Int)*4096) (wB: ∀f,hold f<=100000000000) (zy:0<=clock/\clock<1000000):
  Calls Tryz.prog 123 #[.pointer (some ⟨s,0,none⟩), .int .u64 Ap] w (OwnPost w S c a fs m F clock p L T hold r pg):=by
 obtain⟨q1,q2,q3,q4,q5,q6,q7⟩:=hq.facts;have yv:0<=Ap:=(by omega);have YY:Ap<140737488355328:=(by omega);obtain⟨w0,vl⟩: ∃w0,w0=w.alloc (.cells #[.int .i64 0, .int .u8 0, .bool false] 83):=⟨_,rfl⟩;have vm:Below w.heap.size w w0:=(by rw[vl];exact uJ);have AX:w0.heap.size=w.heap.size+1:=(by rw[vl];simp);have yB:w0.heap[w.heap.size]? =some (.cells #[.int .i64 0, .int .u8 0, .bool false] 83 (0,0)):=(by rw[vl];exact ab w _);have yl:Run w w0 (av S c m) (fun b=>b=w.heap.size) B c a fs m s t root A n cap rl S S F clock p L:=((Run.start hH hO (fun _ e=>e)).below vm).sub (fun b e=> .inr ⟨by omega,by omega⟩);have KQ:=nE B c a fs m s t root n cap pg A rl r clock Ap w0 S F p L T hold yl.home yl.one xM ho hr hq hA wB zy;have QC:=uH KQ;have vF:=uH vl;have CS:=uH yB;have yd:=uH yl;have HR:=uH hr;have HA:=uH hA;have hzw:=uH AX;clear KQ vl vm yB yl hO hH xM ho hr hq hA AX;go_enter Tryz.func123,Tryz.ntmps123;go_upto_region 1 with(fail);rw[<-vF.out];go_upto_region 2 with(first
  |(go_at_call 121;refine(QC.out).mono ?_;rintro e w1 ⟨er,⟨fr,pr,cp⟩,p1,L1,T1,vp,S1,rfl,Gz,xj,vL,xw,zl,vw⟩;unfold ap)
  |fail)
 obtain⟨w2,vU⟩: ∃w2,w2=w1.alloc (.cells #[.int .i64 (fr:Int), .int .u8 (pr:Int), .bool cp] 83):=⟨_,rfl⟩;rw[<-vU];obtain⟨vB,Lw⟩:=yd.out.call Gz xj vL;have vs:Below w1.heap.size w1 w2:=(by rw[vU];exact uJ);have vO:w2.heap.size=w1.heap.size+1:=(by rw[vU];simp);have vr:Run w w2 (av S c m) (fun b=>b=w.heap.size\/b=w1.heap.size) B c a fs m s t root A n cap rl S S1 F vp p1 L1:=(vB.below vs).sub (fun b e=>e.imp id fun e=>⟨by omega,by omega⟩);have zT:=(Lw _ rfl).trans CS.out;have Xb:w.heap.size<w1.heap.size:=(uG zT).1;have xE:=(vs.block _ Xb).trans zT;have TR:w2.heap[w1.heap.size]? =some (.cells #[.int .i64 (fr:Int), .int .u8 (pr:Int), .bool cp] 83 (0,0)):=(by rw[vU];exact ab w1 _);obtain⟨⟨z0,z1,z2⟩,⟨zf0,zf1,zf2⟩,Ld⟩:=box3 xE;obtain⟨⟨x0,x1,x2⟩,⟨xf0,xf1,xf2⟩,WS⟩:=box3 TR;have vu:w1.heap.size≠w.heap.size:=(by omega);have vP:=uH vr;have Cw:=uH xE;have At:=uH TR;have vT:=uH vw;clear Gz xj vL vB Lw vs vr zT xE TR vw vU vO;by_cases he:er=0
 rotate_left
 ·have vu:(er != 0)=true:=(by rw[bne_iff_ne];exact he);have HE:=uH he;clear he;go_wp2_with fail;refine bodyPost_ret (v:= .tuple #[.agg (ap ⟨fr,pr,cp⟩), .int .i64 er]) (by simp[results,Tryz.results123,go_sem,Ld,z0,z1,z2,zf0,zf1,zf2,ap]) rfl ?_;have wk:=vP.out.set (bg (w:=w2) (b:=w.heap.size) (.int .i64 (fr:Int)) (.int .u8 (pr:Int)) (.bool cp)) (fun b e=> .inl e);exact⟨er,⟨fr,pr,cp⟩,p1,L1,T1,vp,S1,rfl,wk.home.cache,wk.mod,wk.out,xw,zl,eh.err' vT.out HE.out⟩
 subst he;cases cp with
 |false=>
  go_wp2_with fail;refine bodyPost_ret (v:= .tuple #[.agg (ap ⟨fr,pr,false⟩), .int .i64 0]) (by simp[results,Tryz.results123,go_sem,Ld,z0,z1,z2,zf0,zf1,zf2,ap]) rfl ?_;have wk:=vP.out.set (bg (w:=w2) (b:=w.heap.size) (.int .i64 (fr:Int)) (.int .u8 (pr:Int)) (.bool false)) (fun b e=> .inl e);exact⟨0,⟨fr,pr,false⟩,p1,L1,T1,vp,S1,rfl,wk.home.cache,wk.mod,wk.out,xw,zl,eh.alone vT.out rfl⟩
 |true=>
  go_upto_region 5 with(fail);obtain⟨w3,wE⟩: ∃w3,w3=w2.setCell ⟨w1.heap.size,2,none⟩ (.bool false):=⟨_,rfl⟩;rw[<-wE];have xh:Mod (fun b=>b=w1.heap.size) w2 w3:=(by rw[wE];exact aj (S:=fun b=>b=w1.heap.size) rfl 2 _);have PB:w3.heap[w1.heap.size]? =some (.cells #[.int .i64 (fr:Int), .int .u8 (pr:Int), .bool false] 83 (0,0)):=by
   rw[wE];have:=Joins.block_setCell (i:=2) At.out (.bool false);simpa using this
  have Dp:=(xh.block _ Ld (by omega)).trans Cw.out;have wk:=vP.out.set xh (fun b e=> .inr e);clear wE xh z0 z1 z2 zf0 zf1 zf2 x0 x1 x2 xf0 xf1 xf2 WS Ld;obtain⟨g1,g2⟩:=vT.out.got rfl;obtain⟨g,hg⟩:=vT.out.kept.sp.node1 g1;obtain⟨c1,c2,c3,c4,c5,c6⟩:=vT.out.kept.sp.leaf g1;dsimp only at c2 c3 c4 c5 c6;have wg:=vT.out.kept.root _ HR.out;have s1: ∀d os,(grow (redrawn w3 d) os).cell? ⟨s,1,none⟩=some (.pointer (some ⟨a,0,none⟩)):=fun d os=>cell_regrown (aa wk.one.self 1) d os;have x0: ∀d os,(grow (redrawn w3 d) os).cell? ⟨w1.heap.size,0,none⟩=some (.int .i64 (fr:Int)):=fun d os=>cell_regrown (aa PB 0) d os;have hC:=fun d os=>Calls.regrown_of ((gO a (fr:Int) (grow (redrawn w3 d) os) S1 p1 (wk.home.cache.pool.below (below_regrown w3 d os))).mono fun _ _ ⟨h1,h2⟩=>⟨h1,h2▸vg _ _⟩);rw[aQ c3]at hC;have HCC:=uH hC;have UQ:=uH wk;have As:=uH PB;have KV:=uH Dp;have HG:=uH hg;have NT:=uH g1;have CR:=uH wg;have GJ:=uH c5;have VD:=uH c6;have xF:=uH c2;have FW:=uH c3;have BX:=uH c4;have Cz:=uH c1;clear hC wk PB Dp hg g1 g2 wg c5 c6 c2 c3 c4 c1;refine wp_region_quiet_below (by kernel_rfl) (by kernel_rfl) ?_;(repeat(go_big_quiet_step ((first|exact HCC.out _ _))));refine wpQuiet_nil ?_;intro _ xt;obtain⟨⟨dq,osq⟩,hw''⟩:=xt;subst hw'';have we:=below_regrown (w3) dq osq;generalize grow (redrawn (w3) dq) osq=wq at we⊢;clear s1 x0;have Hx:=we.size;have Xa:w.heap.size<w3.heap.size:=(uG KV.out).1;have WR:w1.heap.size<w3.heap.size:=(uG As.out).1;have zK:=(UQ.out.below we).sub (K':=fun b=>b=w.heap.size\/b=w1.heap.size) (fun b e=> .inl e);have Wq:=(we.block _ WR).trans As.out;have YD:=(we.block _ Xa).trans KV.out;have xc:=uH Wq;have HRQ:=uH YD;have Ko:=uH zK;have Ah:Ap.toNat/4096=pg:=(by have:=HA.out;omega);by_cases h1:p1.cnt fr=1
  ·have Pp:(((p1.cnt fr:Nat):Int)==1)=true:=(by rw[h1];rfl);have xr:=gm t c a root 0 Ap ⟨fr,pr,false⟩ wq.drew S1 p1 T1 (held L1 hold) zK.home.cache.pool.drew zK.one.tab zK.one.noT.1 vT.out.kept.sp.good CR.out yv xF.out FW.out BX.out (by show p1.cnt fr+1<1000000000000;rw[h1];decide) (fr:Int) (pr:Int) rfl rfl;have zg:Calls Tryz.prog 69 #[.pointer (some ⟨t,0,none⟩), .int .u64 Ap, .agg #[.int .i64 (fr:Int), .int .u8 (pr:Int), .bool false]] wq.drew fun e W=>e= .returned (.int .i64 0)/\Hid (al W S1 a (ba p1 ⟨fr,pr,true⟩ ⟨fr,pr,false⟩ g pg))/\Hid (Mod S1 wq W)/\Box3 W w1.heap.size (.int .i64 (fr:Int)) (.int .u8 (pr:Int)) (.bool false)/\Box3 W w.heap.size (.int .i64 0) (.int .u8 0) (.bool false):=by
    refine xr.mono ?_;rw[ft (was:=⟨fr,pr,true⟩) (g:=g) HA.out q1 (by have:=xF.out;omega) (by rw[aQ FW.out];have:=BX.out;omega) NT.out HG.out];rintro e W ⟨rfl,hP,Bv⟩;have hm:=Bv.undrew;obtain⟨_,hk⟩:=Ko.out.pool (by simpa using hP) hm;exact⟨rfl,uH (by simpa using hP),uH hm,box3 ((hk _ (.inr rfl)).trans xc.out),box3 ((hk _ (.inl rfl)).trans HRQ.out)⟩
   have Dx:=uH zg;have H1:=uH h1;have s2:wq.cell? ⟨s,2,none⟩=some (.pointer (some ⟨t,0,none⟩)):=aa zK.one.self 2;obtain⟨⟨x0,x1,x2⟩,_,_⟩:=box3 Wq;clear xr zg h1 zK Wq YD;go_upto_region 6 with(fail);go_region_with ((first
    |(go_at_call 69;refine(Dx.out).mono ?_;rintro e w4 ⟨rfl,Mc,EJ,⟨⟨y0,y1,y2⟩,⟨yf0,yf1,yf2⟩,QI⟩,⟨⟨z0,z1,z2⟩,⟨zf0,zf1,zf2⟩,hzl⟩⟩)))
   all_goals
    go_wp2_with fail;refine bodyPost_ret (v:= .tuple #[.agg (ap ⟨fr,pr,false⟩), .int .i64 0]) (by simp[results,Tryz.results123,go_sem,hzl,z0,z1,z2,zf0,zf1,zf2,ap]) rfl ?_;have vX:=((Ko.out.pool Mc.out EJ.out).1).set (bg (w:=w4) (b:=w.heap.size) (.int .i64 (fr:Int)) (.int .u8 (pr:Int)) (.bool false)) (fun b e=> .inl e);exact⟨0,⟨fr,pr,false⟩,_,L1,_,vp,S1,rfl,vX.home.cache,vX.mod,vX.out,xw,zl,eh.mark vT.out H1.out HG.out⟩
  ·have Pp:(((p1.cnt fr:Nat):Int)==1)=false:=(by rw[uW];omega);have s0:wq.cell? ⟨s,0,none⟩=some (.pointer (some ⟨c,0,none⟩)):=aa zK.one.self 0;have hT:=fc c a fs m vp wq S1 p1 L1 zK.home.cache;have UK:=uH hT;clear hT zK Wq YD h1;go_upto_region 8 with(first
    |(go_at_call 97;refine(UK.out).mono ?_;rintro e w4 ⟨e4,f,p2,L2,S2,rfl,CN,wP,yW,Ax⟩)
    |fail)
   obtain⟨vX,AG⟩:=Ko.out.call CN (wP.sub fun b e=>e.elim .inl fun e=> .inr (.inl e)) yW;have Gt:=(AG _ (.inr rfl)).trans xc.out;have Rf:=(AG _ (.inl rfl)).trans HRQ.out;have wW:=uH vX;have Ae:=uH Gt;have NC:=uH Rf;have GC:=uH Ax;clear CN wP yW vX AG Gt Rf Ax s0;rcases GC.out.two with h4|⟨h4,Ph,hp2,Il⟩
   rotate_left
   ·subst h4 Ph hp2 Il;obtain⟨⟨z0,z1,z2⟩,⟨zf0,zf1,zf2⟩,WZ⟩:=box3 NC.out;obtain⟨⟨x0,x1,x2⟩,⟨xf0,xf1,xf2⟩,hxl4⟩:=box3 Ae.out;go_wp2_with fail;refine bodyPost_ret (v:= .tuple #[.agg (ap ⟨fr,pr,false⟩), .int .i64 4]) (by simp[results,Tryz.results123,go_sem,WZ,z0,z1,z2,zf0,zf1,zf2,ap]) rfl ?_;have vv:=wW.out.set (bg (w:=w4) (b:=w.heap.size) (.int .i64 (fr:Int)) (.int .u8 (pr:Int)) (.bool false)) (fun b e=> .inl e);exact⟨4,⟨fr,pr,false⟩,_,_,T1,vp,S2,rfl,vv.home.cache,vv.mod,vv.out,xw,zl,eh.no vT.out (vT.out.kept.sp.full GC.out)⟩
   subst h4;obtain⟨a1,a2,a3,a4,a5⟩:=vT.out.kept.sp.take GC.out;have Df:p2.n=p1.n:=(a2 fun _ =>False).n;have Yf:fr<p2.n:=(by rw[Df];exact FW.out);have Gr:f<p2.n:=(by rw[Df];exact a5.lt);have QT:p2.cnt f=1:=a5.one;have Yl:1<=p2.cnt fr:=(a1.leaf NT.out).2.2.2.1;have VS:=uH a1;have HA5s:=uH a5.slot;have HA5n:=uH a5.node;clear a1 a2 a3 a4 a5;have hload:=fA a fr 0 4096 w4.drew S2 p2 wW.out.home.cache.pool.drew Yf Yl (by decide) (by decide);have Bw:Calls Tryz.prog 122 #[.pointer (some ⟨a,0,none⟩), .int .i64 (fr:Int), .int .i64 0, .int .i64 4096] w4.drew fun e W=>e= .returned (.tuple #[.slice (some ⟨w4.heap.size,0,none⟩) 4096 4096, .int .i64 0])/\Hid (aN W w4.heap.size 4096 (fun i=>p2.dat fr (0+i)))/\Hid (Below w4.heap.size w4 W)/\Box3 W w1.heap.size (.int .i64 (fr:Int)) (.int .u8 (pr:Int)) (.bool false):=by
    refine hload.mono ?_;rintro e W ⟨rfl,hB,hz,Hf⟩;have hb:=bu Hf;exact⟨rfl,uH hB,uH hb,box3 ((hb.block _ (uG Ae.out).1).trans Ae.out)⟩
   have Kw:=uH Bw;have s1:w4.cell? ⟨s,1,none⟩=some (.pointer (some ⟨a,0,none⟩)):=aa wW.out.one.self 1;obtain⟨⟨x0,x1,x2⟩,_,_⟩:=box3 Ae.out;clear hload Bw;go_upto_region 10 with(fail);go_cut [9]from 56 to 64 (fun b wx=>b= .slice (some ⟨w4.heap.size,0,none⟩) 4096 4096/\aN wx w4.heap.size 4096 (fun i=>p2.dat fr (0+i))/\Below w4.heap.size w4 wx)
   case first=>
    go_region_with ((first
     |(go_at_call 122;refine(Kw.out).mono ?_;rintro e w5 ⟨rfl,zC,BV,⟨⟨y0,y1,y2⟩,⟨yf0,yf1,yf2⟩,QI⟩⟩)))
    all_goals
     go_wp2_with fail
     go_meet
     exact⟨rfl,zC.out,BV.out⟩
   case rest=>
   obtain⟨rfl,Im,JZ⟩:=hcut;have vv:=(wW.out.below JZ).sub (K':=fun b=>b=w.heap.size\/b=w1.heap.size) (fun b e=> .inl e);have hX5:=(JZ.block _ (uG Ae.out).1).trans Ae.out;have hR5:=(JZ.block _ (uG NC.out).1).trans NC.out;have yC: ∀x i,p2.dat x i<256:=(by obtain⟨⟨_,_,_,_,_,h,_⟩,_,_,_⟩:=vv.home.cache.pool;exact h.small);have hstore:=gt a f 0 4096 4096 _ _ wc S2 p2 vv.home.cache.pool Gr (by omega) (by decide) (by decide) Im.v (fun j=>yC _ _);have Qd:=uH hstore;have Cu:=uH hX5;have HR5:=uH hR5;have zY:=uH vv;clear hstore hX5 hR5 Im JZ;have s1:wc.cell? ⟨s,1,none⟩=some (.pointer (some ⟨a,0,none⟩)):=aa vv.one.self 1;clear vv yC;go_upto_region 12 with(first
    |(go_at_call 124;refine(Qd.out).mono ?_;rintro e w6 ⟨rfl,Cr,yX⟩)
    |fail)
   obtain⟨wT,Bc⟩:=zY.out.pool Cr yX;have QZ:=(Bc _ (.inr rfl)).trans Cu.out;have Gx:=(Bc _ (.inl rfl)).trans HR5.out;obtain⟨d,hd⟩: ∃d,d=laid (p2.dat f) (fun i=>p2.dat fr (0+i)) 0 4096:=⟨_,rfl⟩;rw[<-hd]at wT;have JD: ∀i,i<4096->d i=p2.dat fr i:=fun i hi=>by rw[hd];unfold laid;rw[if_pos (by omega)];simp
   obtain⟨wo,zp,JY,hO4,KR⟩:=eh.copied vT.out GC.out HG.out d JD;have b1:Sp F (upd hold f 1) (p2.store f d) L2 T1:=VS.out.storeH (by rw[af];omega) HA5s.out d;obtain⟨⟨x0,x1,x2⟩,⟨xf0,xf1,xf2⟩,WQ⟩:=box3 QZ;go_upto_region 13 with(fail);obtain⟨w7,xG⟩: ∃w7,w7=w6.setCell ⟨w1.heap.size,0,none⟩ (.int .i64 (f:Int)):=⟨_,rfl⟩;rw[<-xG];have wI:Mod (fun b=>b=w1.heap.size) w6 w7:=(by rw[xG];exact aj (S:=fun b=>b=w1.heap.size) rfl 0 _);have Ce:w7.heap[w1.heap.size]? =some (.cells #[.int .i64 (f:Int), .int .u8 (pr:Int), .bool false] 83 (0,0)):=by
    rw[xG];have:=Joins.block_setCell (i:=0) QZ (.int .i64 (f:Int));simpa using this
   have Hi:=(wI.block _ (uG Gx).1 (by omega)).trans Gx;have Aw:=wT.set wI (fun b e=> .inr e);have xr:=gm t c a root 0 Ap ⟨f,pr,false⟩ w7.drew S2 (p2.store f d) T1 (held L2 (upd hold f 1)) Aw.home.cache.pool.drew Aw.one.tab Aw.one.noT.1 b1.good CR.out yv xF.out zp (by rw[JY];decide) (by show(p2.store f d).cnt f+1<1000000000000;rw[JY];decide) (f:Int) (pr:Int) rfl rfl;rw[ft (was:=⟨fr,pr,true⟩) (g:=g) HA.out q1 (by have:=xF.out;omega) (by rw[aQ zp,JY];decide) NT.out HG.out]at xr;have s2:w7.cell? ⟨s,2,none⟩=some (.pointer (some ⟨t,0,none⟩)):=aa Aw.one.self 2;have Dx:=uH xr;have GA:=uH Ce;have Qf:=uH Hi;have UP:=uH Aw;have vx:=uH wo;clear xr Ce Hi Aw wo Cr yX wT Bc QZ Gx hd JD b1 wI xG x0 x1 x2 xf0 xf1 xf2 WQ s1;obtain⟨⟨x0,x1,x2⟩,⟨xf0,xf1,xf2⟩,WO⟩:=box3 GA.out
   go_still_tail 6,(by kernel_rfl)
   go_wp2_with fail;refine(Dx.out).mono ?_;rintro e w8 ⟨rfl,YH,yJ⟩;have ym:=yJ.undrew;simp only[Int.toNat_natCast]at YH;obtain⟨Av,yL⟩:=UP.out.pool YH ym;have Np:=(yL _ (.inr rfl)).trans GA.out;have Nq:=(yL _ (.inl rfl)).trans Qf.out;have Lz:=cV a f w8 S2 _ Av.home.cache.pool hO4 KR;have s1:w8.cell? ⟨s,1,none⟩=some (.pointer (some ⟨a,0,none⟩)):=aa Av.one.self 1;have NY:=uH Lz;have Nx:=uH Np;have EV:=uH Nq;have UO:=uH Av;clear Lz Np Nq Av yL YH ym yJ x0 x1 x2 xf0 xf1 xf2 WO s2;go_upto_region 15 with(first
    |(go_at_call 59;refine(NY.out).mono ?_;rintro e w9 ⟨rfl,JX,yI⟩)
    |fail)
   obtain⟨CD,AF⟩:=UO.out.pool JX yI;have QY:=(AF _ (.inr rfl)).trans Nx.out;have Re:=(AF _ (.inl rfl)).trans EV.out;obtain⟨⟨z0,z1,z2⟩,⟨zf0,zf1,zf2⟩,Oj⟩:=box3 Re;obtain⟨⟨x0,x1,x2⟩,⟨xf0,xf1,xf2⟩,hxl9⟩:=box3 QY;have IN:=CD.set (bg (w:=w9) (b:=w.heap.size) (.int .i64 (f:Int)) (.int .u8 (pr:Int)) (.bool false)) (fun b e=> .inl e);have FJ:=uH IN;clear CD AF QY Re JX yI IN;go_wp2_with fail;refine bodyPost_ret (v:= .tuple #[.agg (ap ⟨f,pr,false⟩), .int .i64 0]) (by simp[results,Tryz.results123,go_sem,Oj,z0,z1,z2,zf0,zf1,zf2,ap]) rfl ?_;exact⟨0,⟨f,pr,false⟩,_,L2,_,vp,S2,rfl,FJ.out.home.cache,FJ.out.mod,FJ.out.out,xw,zl,vx.out⟩
end
