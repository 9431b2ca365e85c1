/- Tables: Map, refused. Tables: Map, whole. -/
import Derived.Test.YtoochjhipmpehaaGreatDoorCaZK
import Derived.Test.YtoochjhipmpehaaGreatDoorTtHK
import Derived.Test.YtoochjhipmpehaaGreatDoorTuAK
import Derived.OwnWalk
set_option linter.unusedVariables false
set_option linter.unusedSimpArgs false
set_option maxRecDepth 100000
set_option maxHeartbeats 4000000
namespace Go.Proofs.YtoochjhipmpehaaGreatDoor
section
open Go.RowKit Go.Sort
theorem leafBox {w:World} {fr q:Int} {cp:Bool} :(w.alloc (.cells #[.int .i64 fr, .int .u8 q, .bool cp] 83)).heap[w.heap.size]? =some (.cells #[.int .i64 fr, .int .u8 q, .bool cp] 83 (0,0)):=ab w _
end
section
open Go.RowKit Go.Sort
theorem map1_any (f k:Int) (w:World):Calls Tryz.prog 127 #[.int .i64 f, .int .i64 k] w fun e w'=>e= .returned (.bool false)/\w'=w:=by
 go_enter Tryz.func127,Tryz.ntmps127;go_wp2_with fail;go_ret;exact⟨rfl,rfl⟩
theorem lP (t c a root pg:Nat) (w:World) (S:Nat->Prop) (p:Pool) (T:Tab) (h:ai w S a p) (ht:ag w t c a root) (hw:Tree p T root) (yU:pg<bM):
  Calls Tryz.prog 126 #[.pointer (some ⟨t,0,none⟩), .int .i64 (root:Int),wayA pg, .int .i64 0, .func (.func 127) #[] #[]] w
   fun e w'=>e= .returned (.tuple #[.bool (T.lf pg).isSome, .bool false])/\Below w.heap.size w w':=by
 have vT:t<w.heap.size:=(uJ ht).1;have hr:T.nd 4 (part pg 4)=some root:=(by rw[gI pg yU];exact hw.root);cases hl:T.lf pg with
 |none=>exact(gQ t c a root root pg _ w S p T h ht vT (hw.way pg) hl hr).mono fun e w' ⟨he,hb⟩=>⟨he,hb⟩
 |some l=>
  obtain⟨q1,Gf⟩:=aC (hw.ups pg l hl 1 (by omega) (by omega));exact(nF t c a root root pg (fun w1 w2=>w2=w1) w S p T h ht vT (hw.way pg) (hw.ups pg l hl) l q1 hl Gf (fun w1 _ =>map1_any _ _ w1) hr).mono fun e w' ⟨he,w1,hb,hR⟩=>⟨he,by rw[hR];exact hb⟩
end
section
open Go.RowKit Go.Sort
def gV (p:Pool) (T:Tab) (L:List Slot) (hold:Nat->Nat) (pg:Nat) (l:Leaf) (r:Int) (p':Pool) (T':Tab) (L':List Slot):Prop:=
 T'.Good p' (held L' hold) pg 4/\p'.n=p.n/\Sole L'/\L'.Sublist L/\
 ((r=4/\T'=T/\p.left<=2/\ ∀s∈L,s∉L'->Loose T L hold s)\/(r=0/\T'.lf=upd T.lf pg (some l)/\(∀lv q f,T.nd lv q=some f->T'.nd lv q=some f)/\(an T' l.frame->an T l.frame)))
def kq (p:Pool) (T:Tab) (L:List Slot) (hold:Nat->Nat) (l:Leaf) (r:Int) (p':Pool) (T':Tab) (L':List Slot):Prop:=
 (∀x,¬an T x->(x=l.frame\/0<hold x+aj T x+au L' x)->p'.dat x=p.dat x)/\
 ((r=4/\ ∃gs:List Nat,gs.length<=2/\ ∀f,f<p.n->au L f<=1->0<aj T f+ay T f+hold f\/f=l.frame\/f∈gs)\/(r=0/\(∀x,an T' x->an T x\/p'.cnt x=1)/\p.left<=p'.left+3))
def MapPost2 (w:World) (S:Nat->Prop) (c a fs m:Nat) (clock:Int) (p:Pool) (T:Tab) (L:List Slot) (hold:Nat->Nat) (pg:Nat) (l:Leaf) (e:Ending) (w':World):Prop:=
 ∃r p' T' L' S',e= .returned (.int .i64 r)/\ap w' S' c a fs m clock p' L'/\Mod (Both S m) w w'/\Out S S' w/\gV p T L hold pg l r p' T' L'/\kq p T L hold l r p' T' L'
variable {f:Nat}
theorem ax.two {p p':Pool} {L L':List Slot} {r:Int} (h:ax p L r f p' L'):r=0\/(r=4/\f=0/\p'=p/\L'=L):=by
 cases h
 ·exact .inl rfl
 ·exact .inl rfl
 ·exact .inr ⟨rfl,rfl,rfl,rfl⟩
theorem row_not {B:Option Addr} {gs:List Nat} {cap base n g' z:Nat} {S3:Nat->Prop} (hf:(B=none/\gs=[]/\cap=0)\/ ∃g,B=some ⟨g,0,none⟩/\base<=g/\g<n/\gs.length<=cap) (hr: ∀b,B=some ⟨b,0,none⟩-> ¬S3 b) (wU:B.map (·.block)=some g'\/g'=z) (hl: ∀b,S3 b->b<z):
  ∀b,some (⟨g',0,none⟩:Addr)=some ⟨b,0,none⟩-> ¬S3 b:=fun b hb=>by
 injection hb with hb;injection hb with hb;subst hb;rcases wU with h|h
 ·rcases hf with⟨h1,_⟩|⟨g,h1,_⟩
  ·rw[h1]at h;cases h
  ·rw[h1]at h;simp only[Option.map_some,Option.some.injEq]at h;subst h;exact hr _ h1
 ·exact fun e=>by have:=hl _ e;omega
theorem td (h:f<1024):bits .or .u64 ((f:Int)*4096) 1=((f*4096+1:Nat):Int):=by
 have e:((f:Int)*4096)=((f*4096:Nat):Int):=(by omega);have e3:(1:Int)=((1:Nat):Int):=rfl;rw[e,e3,bits_or_u64_nat _ _ (by omega) (by omega)];have:=Nat.two_pow_add_eq_or_of_lt (i:=12) (b:=1) (by decide) f;rw[Nat.mul_comm f 4096];exact congrArg _ this.symm
theorem jG {w:World} {b:Nat} {pg k:Nat} {T:TypeId} {fr:Nat×Nat} (h:w.heap[b]? =some (.cells #[.int .i64 ((num pg 4:Nat):Int), .int .i64 ((num pg 3:Nat):Int), .int .i64 ((num pg 2:Nat):Int), .int .i64 ((num pg 1:Nat):Int)] T fr)) (hk:k<4):
  w.cell? ⟨b,k,none⟩=some (.int .i64 ((num pg (4-k):Nat):Int)):=by
 rw[aa h k];rcases(show k=0\/k=1\/k=2\/k=3 by omega)with rfl|rfl|rfl|rfl<;>rfl
theorem Tab.on_k (t:Tab) (pg k:Nat) (h:k<3):t.on pg (4-k)=match t.nd (3-k) (part pg (3-k))with|some f=>f*4096+1|none=>0:=by
 rw[Tab.on_more _ _ _ (by omega),show 4-k-1=3-k from by omega];cases t.nd (3-k) (part pg (3-k))<;>rfl
theorem kX (t c a root fs m:Nat) (clock:Int) (A fr q:Int) (cp:Bool) (w:World) (S:Nat->Prop) (p:Pool) (T:Tab) (L:List Slot) (hold:Nat->Nat) (pg0:Nat) (l:Leaf)
  (h:ap w S c a fs m clock p L) (ht:ag w t c a root) (ze: ¬S t) (htm:t≠m) (hg:T.Good p (held L hold) pg0 4) (hr:T.nd 4 0=some root) (yY:0<=A) (hA:A<140737488355328) (IS:A % 4096=0) (h7: ¬7<q) (Gr:bH p fr≠0)
  (vP:(T.lf (A.toNat/4096)).isSome=false) (xw:fr=(l.frame:Int)) (hq:q=(l.prot:Int)) (xN:cp=l.copy) (DV:l.frame<p.n) (xn:1<=p.cnt l.frame) (wT:p.cnt l.frame+1<1000000000000):
  Calls Tryz.prog 72 #[.pointer (some ⟨t,0,none⟩), .int .u64 A, .agg #[.int .i64 fr, .int .u8 q, .bool cp]] w (MapPost2 w S c a fs m clock p T L hold (A.toNat/4096) l):=by
 have yX:=uK xw;have HQ:=uK hq;have QT:=uK xN;clear xw hq xN;have vT:t<w.heap.size:=(uJ ht).1;have Se:=hg.tree hr;have yU:A.toNat/4096<bM:=(by unfold bM;omega);obtain⟨w0,vo⟩: ∃w0,w0=w.alloc (.cells #[.int .i64 fr, .int .u8 q, .bool cp] 83):=⟨_,rfl⟩;have vM:Below w.heap.size w w0:=(by rw[vo];exact uM);have xv:w0.heap.size=w.heap.size+1:=(by rw[vo];simp);have AJ:w0.heap[w.heap.size]? =some (.cells #[.int .i64 fr, .int .u8 q, .bool cp] 83 (0,0)):=(by rw[vo];exact leafBox);have wN:ag w0 t c a root:=(vM.block t vT).trans ht;have d1: ∀d os,(grow (redrawn w0 d) os).cell? ⟨w.heap.size,0,none⟩=some (.int .i64 fr):=fun d os=>cell_regrown (aa AJ 0) d os;have d2: ∀d os,(grow (redrawn w0 d) os).cell? ⟨w.heap.size,1,none⟩=some (.int .u8 q):=fun d os=>cell_regrown (aa AJ 1) d os;have d3: ∀d os,(grow (redrawn w0 d) os).cell? ⟨t,1,none⟩=some (.pointer (some ⟨a,0,none⟩)):=fun d os=>cell_regrown (aa wN 1) d os;have hC:=fun d os=>Calls.regrown_of ((gT a fr (grow (redrawn w0 d) os) S p ((h.pool.below vM).below (below_regrown w0 d os))).mono fun _ _ ⟨h1,h2⟩=>⟨h1,h2▸vj _ _⟩);have HC:=uK hC;have vR:=uK vo;have WQ:=uK wN;have GS:=uK AJ;have H:=uK h;have HG:=uK hg;have HR:=uK hr;have Az:=uK vP;have zG:=uK xv;have HA0:=uK yY;have HA:=uK hA;have g1:decide (140737488355328<=A)=false:=va (by omega);have g2:(A.tmod 4096 != 0)=false:=(by rw[Int.tmod_eq_emod_of_nonneg yY,IS];rfl);have g3:decide (7<q)=false:=va h7;have g4:(((bH p fr:Nat):Int)==0)=false:=(by rw[uZ];omega);clear vo h ht AJ hC wN hg hr vP xv hA yY IS h7;go_enter Tryz.func72,Tryz.ntmps72;go_upto_region 1 with(fail);rw[<-vR.out];go_wp2_with fail;refine(cy t c a root _ WQ.out).mono ?_;rintro e w1 ⟨rfl,rfl⟩;go_upto_region 3 with(fail);refine wp_region_quiet_below (by kernel_rfl) (by kernel_rfl) ?_;(repeat(go_big_quiet_step ((exact HC.out _ _))));refine wpQuiet_nil ?_;intro _ yb;obtain⟨⟨dq,osq⟩,hw''⟩:=yb;subst hw'';have vs:=below_regrown (w0) dq osq;generalize grow (redrawn (w0) dq) osq=w2 at vs⊢;clear d1 d2 d3;go_wp2_with fail;refine(jm A w2 HA0.out (by have:=HA.out;omega)).mono ?_;rintro e w3 ⟨rfl,vx⟩;unfold wayA;go_upto_region 6 with(fail);obtain⟨w4,zc⟩: ∃w4,w4=w3.alloc (.cells #[.int .i64 ((num (A.toNat/4096) 4:Nat):Int), .int .i64 ((num (A.toNat/4096) 3:Nat):Int), .int .i64 ((num (A.toNat/4096) 2:Nat):Int), .int .i64 ((num (A.toNat/4096) 1:Nat):Int)] 212):=⟨_,rfl⟩;rw[<-zc];have wW:Below w.heap.size w w2:=vM.trans (vs.mono vM.size);have Eg:Below w.heap.size w w3:=wW.trans (vx.mono wW.size);have Dg:Below w.heap.size w w4:=(by rw[zc];exact Eg.alloc Eg.size _);have JY:w4.heap[w3.heap.size]? =some (.cells #[.int .i64 ((num (A.toNat/4096) 4:Nat):Int), .int .i64 ((num (A.toNat/4096) 3:Nat):Int), .int .i64 ((num (A.toNat/4096) 2:Nat):Int), .int .i64 ((num (A.toNat/4096) 1:Nat):Int)] 212 (0,0)):=(by rw[zc];exact ab _ _);have Mm:w4.heap[w.heap.size]? =some (.cells #[.int .i64 fr, .int .u8 q, .bool cp] 83 (0,0)):=by
  have h0:=zG.out;have h2:=vs.size;have h3:=vx.size;have e4:w4.heap[w.heap.size]? =w3.heap[w.heap.size]? :=(by rw[zc];exact uO _ _ _ (by omega));exact e4.trans ((vx.block _ (by omega)).trans ((vs.block _ (by omega)).trans GS.out))
 have XG:w3.heap.size<w4.heap.size:=(by rw[zc];simp);have Cm:ag w4 t c a root:=(Dg.block t vT).trans ((vM.block t vT).symm.trans WQ.out);have d0: ∀d os,(grow (redrawn w4 d) os).cell? ⟨w3.heap.size,0,none⟩=some (.int .i64 ((num (A.toNat/4096) 4:Nat):Int)):=fun d os=>cell_regrown (aa JY 0) d os;have d1: ∀d os,(grow (redrawn w4 d) os).cell? ⟨w3.heap.size,1,none⟩=some (.int .i64 ((num (A.toNat/4096) 3:Nat):Int)):=fun d os=>cell_regrown (aa JY 1) d os;have d2: ∀d os,(grow (redrawn w4 d) os).cell? ⟨w3.heap.size,2,none⟩=some (.int .i64 ((num (A.toNat/4096) 2:Nat):Int)):=fun d os=>cell_regrown (aa JY 2) d os;have d3: ∀d os,(grow (redrawn w4 d) os).cell? ⟨w3.heap.size,3,none⟩=some (.int .i64 ((num (A.toNat/4096) 1:Nat):Int)):=fun d os=>cell_regrown (aa JY 3) d os;have d4: ∀d os,(grow (redrawn w4 d) os).cell? ⟨t,2,none⟩=some (.int .i64 (root:Int)):=fun d os=>cell_regrown (aa Cm 2) d os;have hD:=fun d os=>Calls.regrown_of ((lP t c a root (A.toNat/4096) (grow (redrawn w4 d) os) S p T ((H.out.pool.below Dg).below (below_regrown w4 d os)) (((below_regrown w4 d os).block t (uR vT Dg.size)).trans Cm) Se yU).mono fun _ _ ⟨h1,h2⟩=>⟨h1,h2⟩);unfold wayA at hD;have HD:=uK hD;have GL:=uK JY;have MR:=uK Mm;have LJ:=uK Cm;have wQ:=uK Dg;have xI:=Eg.size;have JK:w.heap.size<w3.heap.size:=(by have:=zG.out;have:=vs.size;have:=vx.size;omega);clear hD JY Mm Cm zc vM wW Eg Dg vs vx;refine wp_region_quiet_below (by kernel_rfl) (by kernel_rfl) ?_;(repeat(go_big_quiet_step ((exact HD.out _ _))));refine wpQuiet_nil ?_;intro _ yb;obtain⟨⟨dq,osq⟩,hw''⟩:=yb;subst hw'';have BC:=below_regrown (w4) dq osq;generalize grow (redrawn (w4) dq) osq=w6 at BC⊢;clear d0 d1 d2 d3 d4;have Rf:=BC.size;have Zi:Below w.heap.size w w6:=wQ.out.trans (BC.mono (by omega));rw[Az.out];go_upto_region 9 with(fail);have Zh:=H.out.below Zi;have Qg:ag w6 t c a root:=(BC.block t (by omega)).trans LJ.out;have hp6:=(BC.block w3.heap.size (by omega)).trans GL.out;have yV:=(BC.block w.heap.size (by omega)).trans MR.out;have d0:w6.cell? ⟨t,1,none⟩=some (.pointer (some ⟨a,0,none⟩)):=aa Qg 1;have d1:w6.cell? ⟨w.heap.size,0,none⟩=some (.int .i64 fr):=aa yV 0;have Gx: ¬S w3.heap.size:=fun e=>by have:=H.out.pool.low _ e;omega
 have zZ: ¬S w.heap.size:=fun e=>by have:=H.out.pool.low _ e;omega
 have Bg:=up_yes a l.frame w6.drew S p (Zh.pool.drew) (by rw[bw];exact vb ⟨DV,xn⟩) wT;rw[<-yX.out]at Bg;have Lc:=uK Bg;have VX:=uK Zh;have HT6:=uK Qg;have MM:=uK hp6;have RR:=uK yV;clear Bg Zh Qg hp6 yV
 go_still_tail 6,(by kernel_rfl)
 go_wp2_with fail;refine(Lc.out).mono ?_;rintro e w7 ⟨rfl,WJ,Th⟩;have xj:=Th.undrew;have Re:=xj.size;have hC7:=VX.out.turn xj WJ (Out.refl _ _);have Qf:ag w7 t c a root:=(xj.block t (by omega) ze).trans HT6.out;have Rq:=(xj.block w3.heap.size (by omega) Gx).trans MM.out;have FO:=(xj.block w.heap.size (by omega) zZ).trans RR.out;have Qo:=HG.out.up l.frame;rw[held_upd]at Qo;generalize hp1:p.up l.frame=p1 at *
 generalize Ru:upd hold l.frame (hold l.frame+1)=AB at *
 have e2:w7.cell? ⟨t,2,none⟩=some (.int .i64 (root:Int)):=aa Qf 2;have VW:=uK hC7;have HT7:=uK Qf;have If:=uK Rq;have RQ:=uK FO;have VO:=uK Qo;have yF:=uK hp1;have GU:=uK Ru;have Ep:=Qo.way (A.toNat/4096);clear WJ Th hC7 Qf Rq FO Qo d0 d1 hp1 Ru
 go_upto_block 1 with(fail)
 go_cut [10,11] (fun n d wx=> ∃k g:Nat,n= .int .i64 (g:Int)/\d= .int .i64 (k:Int)/\k<=3/\T.nd (4-k) (part (A.toNat/4096) (4-k))=some g/\(k=3\/T.nd (3-k) (part (A.toNat/4096) (3-k))=none)/\Below w7.heap.size w7 wx)
 case first=>
  go_wp2_with fail;go_loopw [10,11] (fun n d wr=> ∃k g:Nat,n= .int .i64 (g:Int)/\d= .int .i64 (k:Int)/\k<=3/\T.nd (4-k) (part (A.toNat/4096) (4-k))=some g/\Below w7.heap.size w7 wr) (fun _ d _ =>3-(intOf d).toNat)
  case atStart=>exact⟨0,root,rfl,rfl,by omega,by rw[show 4-0=4 from rfl,gI _ yU];exact HR.out,vj _ _⟩
  case round=>
   obtain⟨k,g,rfl,rfl,hk,FM,hb⟩:=hrel;obtain⟨n1,n2,n3⟩:=Ep.node (4-k) g (by omega) (by omega) FM;have Ih:=uK FM;have LM:=uK n3;clear FM n3;by_cases vq:k<3
   ·have Iu:wr.cell? ⟨w3.heap.size,k,none⟩=some (.int .i64 ((num (A.toNat/4096) (4-k):Nat):Int)):=jG ((hb.block _ (by omega)).trans If.out) (by omega);obtain⟨nm,Iy⟩: ∃nm,nm=num (A.toNat/4096) (4-k):=⟨_,rfl⟩;rw[<-Iy]at Iu;have Pq:nm<512:=(by rw[Iy];exact aS _ _);have WT:=uK Iy;clear Iy;go_wp2_with fail;refine(aA t c a root g nm wr S p1 (VW.out.pool.below hb) ((hb.block t (by omega)).trans HT7.out) n1 n2 Pq).mono ?_;rintro e w8 ⟨rfl,hb8⟩;have Fq:Below w7.heap.size w7 w8:=hb.trans (hb8.mono hb.size);cases wF:T.nd (3-k) (part (A.toNat/4096) (3-k))with
    |none=>
     have e0:word (p1.dat g) nm=0:=(by rw[WT.out,LM.out,Tab.on_k _ _ _ vq,wF]);have FG:=uK wF;clear wF;rw[e0];have hz:=bY;go_wp2_with fail
     go_meet
     exact⟨k,g,rfl,rfl,hk,Ih.out, .inr FG.out,Fq⟩
    |some g'=>
     have e0:word (p1.dat g) nm=g'*4096+1:=(by rw[WT.out,LM.out,Tab.on_k _ _ _ vq,wF]);obtain⟨m1,m2,_⟩:=Ep.node (3-k) g' (by omega) (by omega) wF;have vA:=Ep.few;obtain⟨x,hx⟩: ∃x,x=g'*4096+1:=⟨_,rfl⟩;rw[e0,<-hx];have xg:x<18446744073709551616:=(by omega);have xK:=aL xg (by omega);have xp:((x:Int)/4096)=(g':Int):=(by omega);have yk:=uK xp;have FG:=uK wF;clear wF hx e0 xp;go_wp2_with fail;go_roundw
     case rel=>exact⟨k+1,g',by first|rw[yk.out]|rfl,by go_num,by omega,by rw[show 4-(k+1)=3-k from by omega];exact FG.out,Fq⟩
     case measure=>simp[intOf];omega
   ·obtain rfl:k=3:=(by omega);go_wp2_with fail
    go_meet
    exact⟨3,g,rfl,rfl,by omega,Ih.out, .inl rfl,hb⟩
 case rest=>
  obtain⟨k,g,rfl,rfl,hk,FM,Fj,hb⟩:=hcut;have Rs:=VW.out.lts.2.1;have hzc:=hb.size;have Ih:=uK FM;have HEND:=uK Fj;have HB:=uK hb;have wN:=Took.nil VO.out VW.out.slots.sole (A.toNat/4096);have Oj:=uK wN;have h3:w3.heap.size≠m:=(by have:=H.out.lts.2.1;omega);have h0:w.heap.size≠m:=(by have:=H.out.lts.2.1;omega);have ht7:t<w7.heap.size:=(by omega);have h37:w3.heap.size<w7.heap.size:=(by omega);have h07:w.heap.size<w7.heap.size:=(by omega);have Fe: ∀w' S',Mod (Both S m) w7 w'->Out S S' w7->ag w' t c a root/\w'.heap[w3.heap.size]? =w7.heap[w3.heap.size]? /\w'.heap[w.heap.size]? =w7.heap[w.heap.size]? /\ ¬S' t/\ ¬S' w3.heap.size/\ ¬S' w.heap.size/\w7.heap.size<=w'.heap.size:=fun w' S' hm ho=>
   ⟨(hm.block t ht7 (fun e=>e.elim ze htm)).trans HT7.out,hm.block _ h37 (fun e=>e.elim Gx h3),hm.block _ h07 (fun e=>e.elim zZ h0),fun e=>(ho _ e).elim ze (by omega),fun e=>(ho _ e).elim Gx (by omega),fun e=>(ho _ e).elim zZ (by omega),hm.size⟩
  have Ij:=uK Fe;clear FM Fj wN Fe hb e2;obtain⟨pgA,AW⟩: ∃pgA,pgA=A.toNat/4096:=⟨_,rfl⟩;rw[<-AW]at Oj;have MK:=uK AW;clear AW;go_wp2_with fail;go_loopw [13,88] (fun v i wr=> ∃(gs:List Nat) (A:Option Addr) (cap:Nat) (p2:Pool) (L2:List Slot) (S2:Nat->Prop),v= .slice A gs.length cap/\i= .int .i64 (gs.length:Int)/\gs.length<=3-k/\OwnN wr w7.heap.size A cap gs/\(∀b,A=some ⟨b,0,none⟩-> ¬S2 b)/\ap wr S2 c a fs m clock p2 L2/\Mod (Both S m) w7 wr/\Out S S2 w7/\Took T p1.n p1.left p1.dat L AB pgA gs p2 L2)
   (fun _ i _ =>3-(intOf i).toNat)
  case atStart=>exact⟨[],none,0,p1,L,S,rfl,rfl,vg _,OwnN.nil _ _,(fun b e=>by cases e),VW.out.below HB.out,Mod.of HB.out,Out.refl _ _,Oj.out⟩
  case round=>
   obtain⟨gs,B,cap,p2,L2,S2,rfl,rfl,hle,vH,vV,BN,vE,BH,Nk⟩:=hrel;obtain⟨k1,k2,k3,k4,k5,k6,k7⟩:=Ij.out _ _ vE BH;by_cases vq:gs.length<3-k
   ·have e0:wr.cell? ⟨t,0,none⟩=some (.pointer (some ⟨c,0,none⟩)):=aa k1 0;have ya:=uK BN;have Jm:=uK Nk;have K1:=uK k1;have K2:=uK k2;have K3:=uK k3;have zj:=uK vH;have BF:=uK vV;clear k1 k2 k3 BN Nk vH vV;go_wp2_with fail;refine(fm c a fs m clock wr S2 p2 L2 ya.out).mono ?_;rintro e w8 ⟨r,f,p3,L3,S3,rfl,BM,wP,CW,vD⟩;have xI:=wP.size;have Ti:Mod (Both S m) w7 w8:=vE.trans (fun b e=>by
     rcases e with h|h
     ·exact(BH b h).imp .inl (fun h=>vh (uN _) h)
     ·exact .inl (.inr h)) wP
    have SR:Out S S3 w7:=BH.trans CW k7;have Nu:OwnN w8 w7.heap.size B cap gs:=zj.out.same fun b hb=>wP.block b (by
     rcases zj.out.form with⟨h,_⟩|⟨g1,h,_,h5,_⟩
     ·rw[h]at hb;cases hb
     ·rw[h]at hb;injection hb with hb;injection hb with hb;omega) (fun e=>e.elim (BF.out b hb) (fun e2=>by
     rcases zj.out.form with⟨h,_⟩|⟨g1,h,h4,h5,_⟩
     ·rw[h]at hb;cases hb
     ·rw[h]at hb;injection hb with hb;injection hb with hb;omega))
    have EN: ∀b,B=some ⟨b,0,none⟩-> ¬S3 b:=fun b hb e=>by
     rcases CW b e with h|h
     ·exact BF.out b hb h
     ·rcases zj.out.form with⟨h4,_⟩|⟨g1,h4,_,h5,_⟩
      ·rw[h4]at hb;cases hb
      ·rw[h4]at hb;injection hb with hb;injection hb with hb;omega
    have GX:=uK BM;have DK:=uK Nu;have Lf:=uK EN;have BP:=uK Ti;have Jo:=uK SR;clear BM Nu EN Ti SR;rcases vD.two with rfl|⟨rfl,rfl,rfl,rfl⟩
    ·have wi:=uK vD;have Tn: ∀b,S3 b->b<w8.heap.size:=GX.out.pool.low;have zA:=GX.out.lts;have NL: ∀w9 w10,Below w8.heap.size w8 w9->w9.grownBy w10 (B.map (·.block))->ap w10 S3 c a fs m clock p3 L3/\Mod (Both S m) w7 w10:=fun w9 w10 h9 KZ=>by
      have EM: ∀b,B.map (·.block)=some b->w7.heap.size<=b/\ ¬S3 b:=fun b hb=>by
       rcases zj.out.form with⟨h,_⟩|⟨g1,h,h4,h5,_⟩
       ·rw[h]at hb;cases hb
       ·rw[h]at hb;simp only[Option.map_some,Option.some.injEq]at hb;subst hb;exact⟨h4,Lf.out _ h⟩
      have yg:Mod (fun b=>B.map (·.block)=some b) w9 w10:=⟨KZ.os,KZ.tape,KZ.output,KZ.size,fun b hb hn=>KZ.block b hb (fun e=>hn e.symm)⟩;refine⟨(GX.out.below h9).mod yg (fun b hb e=>(EM b e).2 hb) (fun e=>by have:=(EM 0 e).1;omega) (fun e=>by have:=(EM c e).1;have:=VW.out.lts.1;omega) (fun e=>by have:=(EM m e).1;omega),?_⟩;have Qw:Mod (fun b=>Both S m b\/w7.heap.size<=b) w7 w10:=(BP.out.sub fun b hb=> .inl hb).trans (Out.refl _ _) ((Mod.of h9).trans (Out.refl _ _) (yg.sub fun b hb=> .inr (EM b hb).1));exact⟨Qw.os,Qw.tape,Qw.output,Qw.size,fun b hb hn=>Qw.block b hb (fun e=>e.elim hn (fun e=>by omega))⟩
     have VL:=uK NL;clear vD NL;go_wp2_with (first
      |(at_builtin;refine pk rfl (.tmp 121) (.tmp 123) rfl w7.heap.size B cap gs rfl (DK.out.alloc _) f w8.heap.size 1 rfl (ab _ _) (by omega) (by simp;omega) ?_;intro g' vk w10 Mc TK Ob hlt10;have LB:=VL.out _ _ ((vj w8.heap.size w8).alloc (uN _) _) TK;have hrw: ∀b,some (⟨g',0,none⟩:Addr)=some ⟨b,0,none⟩-> ¬S3 b:=row_not zj.out.form Lf.out Ob (fun b hb=>by have:=Tn b hb;simp;omega);have HGR:=uK LB;have HRW:=uK hrw;have ZN:=uK Mc;clear LB hrw Mc TK Ob)
      |fail)
     go_roundw
     case rel=>exact⟨gs++[f],some ⟨g',0,none⟩,vk,p3,L3,S3,by rw[uP];rfl,by rw[uP];go_num,by rw[uP];simp;omega,ZN.out,HRW.out,HGR.out.1,HGR.out.2,Jo.out,Jm.out.step wi.out⟩
     case measure=>simp[intOf];omega
    ·have UL:=DK.out.form;have Uo:ag w8 t c a root:=(Ij.out _ _ BP.out Jo.out).1;have NI:=((Ij.out _ _ BP.out Jo.out).2.2.1).trans RQ.out;obtain⟨s1,s2,s3,s4⟩:=(Ij.out _ _ BP.out Jo.out).2.2.2;have HT8:=uK Uo;have HL8:=uK NI;have HBF:=uK UL;have ht8:t<w8.heap.size:=(by omega);have h08:w.heap.size<w8.heap.size:=(by omega);have OJ:w7.heap.size<=w8.heap.size:=s4;have Wy:gs.length<=3:=(by omega);have Ki: ∀s∈L,s∉L3->Loose T L hold s:=fun s FK Es=>by
      obtain⟨l1,l2,l3,l4⟩:=Jm.out.drop s FK Es;refine⟨l1,l2,l3,?_⟩;rw[<-GU.out]at l4;by_cases e:s.frame=l.frame
      ·rw[e,af]at l4;omega
      ·rwa [ah _ _ e]at l4
     have QK:=uK Ki;clear Ki;have Fg: ∃gs:List Nat,gs.length<=2/\ ∀f,f<p.n->au L f<=1->0<aj T f+ay T f+hold f\/f=l.frame\/f∈gs:=by
      refine⟨gs,by omega,fun f hf hs=>?_⟩;rcases Jm.out.full vD (f:=f) (by rw[<-yF.out];exact hf) hs with h9|h9
      ·by_cases e:f=l.frame
       ·exact .inr (.inl e)
       ·left;rw[<-GU.out,ah _ _ e]at h9;exact h9
      ·exact .inr (.inr h9)
     have Lp:=uK Fg;clear Fg;have Pg:p.left<=2:=by
      have h1:=Jm.out.room;have h2:=vD.full;have h3:p1.left=p.left:=(by rw[<-yF.out];exact te xn);omega
     clear Uo NI UL vD;go_wp2_with fail;go_loopw [102] (fun i wx=> ∃(j:Nat) (p4:Pool),i= .int .i64 (j:Int)/\j<=gs.length/\ap wx S3 c a fs m clock p4 L3/\Mod S3 w8 wx/\Undo T p1.n p1.dat L3 AB pgA (gs.drop j) p4) (fun i _ =>3-(intOf i).toNat)
     case atStart=>exact⟨0,_,rfl,vg _,GX.out,Mod.refl _ _,Jm.out.undo⟩
     case round=>
      obtain⟨j,p4,rfl,hj,Cu,wH,Hc⟩:=hrel;have BG:=uK Cu;have MH:=uK Hc;have FB:=uK wH;clear Cu Hc;by_cases CY:j<gs.length
      ·obtain⟨f1,xM⟩: ∃f1,gs[j]? =some f1:=⟨gs[j],uQ CY⟩;have xA:gs.drop j=f1::gs.drop (j+1):=by
        rw[List.drop_eq_getElem_cons CY];congr 1;have:=uQ CY;rw[xM]at this;injection this with this;exact this.symm
       rcases HBF.out with⟨h,h2,_⟩|⟨g1,BE,yA,yc,CO⟩
       ·rw[h2]at CY;cases CY
       ·have LV:=MH.out;rw[xA]at LV;obtain⟨v1,v2⟩:=LV.live;have Zx:=uK LV.step;have zr:OwnN wr w7.heap.size B cap gs:=DK.out.same fun b hb=>wH.block b (by rw[BE]at hb;injection hb with hb;injection hb with hb;omega) (Lf.out b hb);have e1:wr.cell? ⟨t,1,none⟩=some (.pointer (some ⟨a,0,none⟩)):=aa ((wH.block t ht8 s1).trans HT8.out) 1;subst BE;have e5:wr.cell? ⟨g1,j,none⟩=some (.int .i64 (f1:Int)):=zr.elem xM;clear xM xA LV zr MH;go_wp2_with fail;refine(cj a f1 wr S3 p4 BG.out.pool v1 v2).mono ?_;rintro e w9 ⟨rfl,KP,zy⟩;go_wp2_with fail;go_roundw
        case rel=>exact⟨j+1,_,by go_num,by omega,BG.out.turn zy KP (Out.refl _ _),FB.out.trans (Out.refl _ _) zy,Zx.out⟩
        case measure=>simp[intOf];omega
      ·obtain rfl:j=gs.length:=(by omega);have JC:=MH.out;rw[List.drop_length]at JC;have yc:=JC.good;rw[lu]at yc;have hh:0<AB l.frame:=(by rw[<-GU.out,af];omega);have EX:p4.n=p1.n:=JC.n;have Iz:p1.n=p.n:=(by rw[<-yF.out];rfl);have Cg:=yc.cnt l.frame (by omega);have CO:=yc.down (f:=l.frame) (by unfold held;omega);rw[fh _ _ _ hh]at CO;have zY:upd AB l.frame (AB l.frame-1)=hold:=by
        rw[<-GU.out,af];funext x;by_cases e:x=l.frame
        ·subst e;rw[af];omega
        ·rw[ah _ _ e,ah _ _ e]
       rw[zY]at CO;have NJ: ∀x,¬an T x->(x=l.frame\/0<hold x+aj T x+au L3 x)->p4.dat x=p.dat x:=fun x _ hx=>by
        have h9:=JC.dat x (by rw[<-GU.out];by_cases e:x=l.frame;(· subst e;rw[af];omega);(· rw[ah _ _ e];exact hx.resolve_left e));rw[h9,<-yF.out];rfl
       have VG:=uK NJ;clear NJ;have JI:=Jm.out.sole;have EK:=Jm.out.sub;have hTx:ag wr t c a root:=(wH.block t ht8 s1).trans HT8.out;have NC:=(wH.block _ h08 s3).trans HL8.out;have d0:wr.cell? ⟨t,1,none⟩=some (.pointer (some ⟨a,0,none⟩)):=aa hTx 1;have d1:wr.cell? ⟨w.heap.size,0,none⟩=some (.int .i64 fr):=aa NC 0;have Mq:=cj a l.frame wr.drew S3 p4 BG.out.pool.drew (by omega) (by unfold held at Cg;omega);rw[<-yX.out]at Mq;have QR:=uK Mq;have HG3:=uK CO;clear JC yc Cg CO hTx NC Mq zY;go_upto_region 27 with(fail)
       go_still_tail 6,(by kernel_rfl)
       go_wp2_with fail;refine(QR.out).mono ?_;rintro e w9 ⟨rfl,KP,Mj⟩;have zy:=Mj.undrew;go_wp2_with fail;go_ret;have Pu:Mod (Both S m) w w7:=(Mod.of Zi).trans (Out.refl _ _) (xj.sub fun b hb=> .inl hb);have hz7w:w.heap.size<=w7.heap.size:=(by omega);exact⟨4,_,T,_,S3,rfl,BG.out.turn zy KP (Out.refl _ _),(Pu.trans (Out.refl _ _) BP.out).trans (fun b hb=>(Jo.out b hb).imp .inl (fun h=>by omega)) (FB.out.trans (Out.refl _ _) zy),fun b hb=>(Jo.out b hb).imp id (fun h=>by omega),⟨by rw[MK.out]at HG3;exact HG3.out,by show p4.n=p.n;omega,JI,EK, .inl ⟨rfl,rfl,Pg,QK.out⟩⟩,VG.out, .inl ⟨rfl,Lp.out⟩⟩
   ·have heq:gs.length=3-k:=Nat.le_antisymm hle (Nat.le_of_not_lt vq);have Ld:=uK Nk;have UL:=vH.form;have zW:=eF.start Nk (d:=k) (g:=g) (by rw[heq];exact Nat.add_sub_cancel' hk) (by rw[MK.out];exact Ih.out) (by rw[MK.out];exact HEND.out);have wk:=k3.trans RQ.out;have hp2:=k2.trans If.out;obtain⟨wl,hwl⟩: ∃wl,wl=wr:=⟨_,rfl⟩;subst hwl;have ya:=uK BN;have HLK:=uK zW;have GR:=uK wk;have Ig:=uK hp2;have Jn:=uK k1;have HBF:=uK UL;have zj:=uK vH;have BF:=uK vV;have htl:t<wl.heap.size:=(by omega);have h3l:w3.heap.size<wl.heap.size:=(by omega);have h0l:w.heap.size<wl.heap.size:=(by omega);clear BN zW wk hp2 k1 k2 k3 UL vH vV Nk;go_wp2_with fail;go_loopw [10,11,128] (fun nn dd i wx=> ∃(j d g4:Nat) (p4:Pool) (T4:Tab),nn= .int .i64 (g4:Int)/\dd= .int .i64 (d:Int)/\i= .int .i64 (j:Int)/\d=k+j/\j<=gs.length/\ap wx S2 c a fs m clock p4 L2/\Mod S2 wl wx/\eF T p1.n p1.left p1.dat L2 AB pgA d g4 (gs.drop j) p4 T4) (fun _ _ i _ =>3-(intOf i).toNat)
    case atStart=>exact⟨0,k,g,p2,T,rfl,rfl,rfl,rfl,vg _,ya.out,Mod.refl _ _,HLK.out⟩
    case round=>
     obtain⟨j,d,g4,p4,T4,rfl,rfl,rfl,TS,hj,Cu,wH,Pw⟩:=hrel;have BG:=uK Cu;have Dk:=uK Pw;have FB:=uK wH;have LJ:=uK ((wH.block t htl k4).trans Jn.out);have Wr:=(wH.block _ h3l k5).trans Ig.out;have NC:=(wH.block _ h0l k6).trans GR.out;obtain⟨v1,v2⟩:=Pw.live;clear Cu Pw;by_cases CY:j<gs.length
     ·obtain⟨f1,xM⟩: ∃f1,gs[j]? =some f1:=⟨gs[j],uQ CY⟩;have xA:gs.drop j=f1::gs.drop (j+1):=by
       rw[List.drop_eq_getElem_cons CY];congr 1;have:=uQ CY;rw[xM]at this;injection this with this;exact this.symm
      rcases HBF.out with⟨h,h2,_⟩|⟨g1,BE,yA,yc,CO⟩
      ·rw[h2]at CY;cases CY
      ·have Km:=Dk.out;rw[xA]at Km;have Dy:=(Km.each f1 (vf ..)).1;have EX:p4.n=p1.n:=Km.n;have vA:=Ep.few;have Yy:f1<1024:=(by omega);have hd3:d<3:=(by omega);have ZZ:=uK Km.step;have zr:OwnN wr w7.heap.size B cap gs:=zj.out.same fun b hb=>wH.block b (by rw[BE]at hb;injection hb with hb;injection hb with hb;omega) (BF.out b hb);subst BE;have e5:wr.cell? ⟨g1,j,none⟩=some (.int .i64 (f1:Int)):=zr.elem xM;have Iu:wr.cell? ⟨w3.heap.size,d,none⟩=some (.int .i64 ((num (A.toNat/4096) (4-d):Nat):Int)):=jG Wr (by omega);obtain⟨nm,Iy⟩: ∃nm,nm=num (A.toNat/4096) (4-d):=⟨_,rfl⟩;rw[<-Iy]at Iu;have Pq:nm<512:=(by rw[Iy];exact aS _ _);have Jz:=td Yy;have WT:=uK Iy;have Zu:=uK Jz;have HDK:=uK TS;have HEQ:=uK heq;clear xM xA Km zr Dk Iy Jz Wr NC TS heq EX;go_wp2_with fail;rw[Zu.out];refine(eH t c a root g4 nm (f1*4096+1) wr S2 p4 BG.out.pool LJ.out (by have:=wH.size;omega) v1 v2 Pq (by omega)).mono ?_;rintro e w9 ⟨rfl,KP,zy⟩;go_wp2_with fail;go_roundw
       case rel=>exact⟨j+1,d+1,f1,_,_,rfl,by go_num,by go_num,by have:=HDK.out;omega,by omega,BG.out.turn zy KP (Out.refl _ _),FB.out.trans (Out.refl _ _) zy,by rw[WT.out,<-MK.out];exact ZZ.out⟩
       case measure=>simp[intOf];omega
     ·obtain rfl:j=gs.length:=(by omega);obtain rfl:d=3:=(by omega);have Kl:=Dk.out;rw[List.drop_length]at Kl;have Iz:p1.n=p.n:=(by rw[<-yF.out];rfl);have hh:0<AB l.frame:=(by rw[<-GU.out,af];omega);have Rq:l.prot<=7:=by
       have h9:=of_decide_eq_false g3;rw[HQ.out]at h9;omega
      have vL:T.lf pgA=none:=by
       have h9:=Az.out;rw[MK.out];cases hc:T.lf (A.toNat/4096)with
       |none=>rfl
       |some y=>rw[hc]at h9;cases h9
      have wR:=Kl.fin (by rw[MK.out];exact yU) vL Rq (by rw[Iz];exact DV) hh;have zY:upd AB l.frame (AB l.frame-1)=hold:=by
       rw[<-GU.out,af];funext x;by_cases e:x=l.frame
       ·subst e;rw[af];omega
       ·rw[ah _ _ e,ah _ _ e]
      rw[zY]at wR;have EX:p4.n=p1.n:=Kl.n;have vA:=Ep.few;have Mb:=fun W=>mv l W Rq (by omega);have Tu:l.pack<18446744073709551616:=(by have:=cV l Rq (by omega);omega);simp only[<-yX.out,<-HQ.out,<-QT.out]at Mb;have Iu:wr.cell? ⟨w3.heap.size,3,none⟩=some (.int .i64 ((num (A.toNat/4096) 1:Nat):Int)):=jG Wr (by omega);rw[<-MK.out]at Iu;have x0:wr.cell? ⟨w.heap.size,0,none⟩=some (.int .i64 fr):=aa NC 0;have x1:wr.cell? ⟨w.heap.size,1,none⟩=some (.int .u8 q):=aa NC 1;have x2:wr.cell? ⟨w.heap.size,2,none⟩=some (.bool cp):=aa NC 2;have h3r:w3.heap.size<wr.heap.size:=(by have:=wH.size;omega);have LX:t<wr.heap.size:=(by have:=wH.size;omega);have hzl:w7.heap.size<=wl.heap.size:=k7;have Tc:p4.n=p.n:=(by omega);have JI:=Ld.out.sole;have EK:=Ld.out.sub;obtain⟨nm,Iy⟩: ∃nm,nm=num pgA 1:=⟨_,rfl⟩;rw[<-Iy]at Iu wR;have Pq:nm<512:=(by rw[Iy];exact aS _ _);have IZ:=uK wR;have zP:(∀x,¬an T x->(x=l.frame\/0<hold x+aj T x+au L2 x)->(p4.store g4 (aI (p4.dat g4) nm l.pack)).dat x=p.dat x)/\(∀x,an (T4.lay pgA (some l)) x->an T x\/(p4.store g4 (aI (p4.dat g4) nm l.pack)).cnt x=1)/\p.left<=(p4.store g4 (aI (p4.dat g4) nm l.pack)).left+3:=by
       obtain⟨f1,f2,f3⟩:=Kl.fin2 (some l) (aI (p4.dat g4) nm l.pack);refine⟨fun x hn hx=>?_,f2,?_⟩
       ·rw[f1 x hn (by rw[<-GU.out];by_cases e:x=l.frame;(· subst e;rw[af];omega);(· rw[ah _ _ e];exact hx.resolve_left e)),<-yF.out];rfl
       ·have h3:p1.left=p.left:=(by rw[<-yF.out];exact te xn);omega
      have QQ:=uK zP;clear zP;have WR:=uK Mb;have HEQ:=uK heq;have HN:=uK Tc;clear Kl Iz vL wR zY EX Mb Wr NC Iy Dk heq Tc TS;go_wp2_with fail;go_region_with
       ((
        first
        |(go_at_call 118;refine(WR.out _).mono ?_;rintro e w9 ⟨rfl,YN⟩;have Fp:Below wr.heap.size wr w9:=bC YN;have hpc':w9.cell? ⟨w3.heap.size,3,none⟩=some (.int .i64 (nm:Int)):=(Fp.cell (p:=⟨w3.heap.size,3,none⟩) h3r).trans Iu)
        |(go_at_call 112;refine(eH t c a root g4 nm l.pack _ S2 _ (BG.out.pool.below Fp) ((Fp.block t LX).trans LJ.out) (by have:=Fp.size;omega) v1 v2 Pq Tu).mono ?_;rintro e w10 ⟨rfl,YX,yg⟩)))
      all_goals
       go_wp2_with fail;go_ret;have Pu:Mod (Both S m) w w7:=(Mod.of Zi).trans (Out.refl _ _) (xj.sub fun b hb=> .inl hb);exact⟨0,_,_,_,S2,rfl,(BG.out.below Fp).turn yg YX (Out.refl _ _),(Pu.trans (Out.refl _ _) vE).trans (fun b hb=>(BH b hb).imp .inl (fun h=>by omega)) (FB.out.trans (Out.refl _ _) ((Mod.of Fp).trans (Out.refl _ _) yg)),fun b hb=>(BH b hb).imp id (fun h=>by omega),⟨by rw[<-MK.out];exact IZ.out.1,HN.out,JI,EK, .inr ⟨rfl,by rw[<-MK.out];exact IZ.out.2.1,IZ.out.2.2.1,IZ.out.2.2.2⟩⟩,QQ.out.1, .inr ⟨rfl,QQ.out.2.1,QQ.out.2.2⟩⟩
end
