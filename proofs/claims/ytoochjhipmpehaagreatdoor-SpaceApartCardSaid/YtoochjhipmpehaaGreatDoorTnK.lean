/- Tables: Map, refused. Tables: Map, whole. -/
import Derived.Test.YtoochjhipmpehaaGreatDoorCaZK
import Derived.Test.YtoochjhipmpehaaGreatDoorTtHK
import Derived.Test.YtoochjhipmpehaaGreatDoorTuAK
import Derived.OwnWalk
set_option linter.unusedVariables false
set_option linter.unusedSimpArgs false
set_option maxRecDepth 100000
set_option maxHeartbeats 4000000
namespace Go.Proofs.YtoochjhipmpehaaGreatDoor
section
open Go.RowKit Go.Sort
theorem leafBox {w:World} {fr q:Int} {cp:Bool} :(w.alloc (.cells #[.int .i64 fr, .int .u8 q, .bool cp] 83)).heap[w.heap.size]? =some (.cells #[.int .i64 fr, .int .u8 q, .bool cp] 83 (0,0)):=ab w _
end
section
open Go.RowKit Go.Sort
theorem map1_any (f k:Int) (w:World):Calls Tryz.prog 127 #[.int .i64 f, .int .i64 k] w fun e w'=>e= .returned (.bool false)/\w'=w:=by
 go_enter Tryz.func127,Tryz.ntmps127;go_wp2_with fail;go_ret;exact⟨rfl,rfl⟩
theorem mg (t c a root pg:Nat) (w:World) (S:Nat->Prop) (p:Pool) (T:Tab) (h:am w S a p) (ht:al w t c a root) (hw:Tree p T root) (yt:pg<bz):
  Calls Tryz.prog 126 #[.pointer (some ⟨t,0,none⟩), .int .i64 (root:Int),wayA pg, .int .i64 0, .func (.func 127) #[] #[]] w
   fun e w'=>e= .returned (.tuple #[.bool (T.lf pg).isSome, .bool false])/\Below w.heap.size w w':=by
 have wT:t<w.heap.size:=(uZ ht).1;have hr:T.nd 4 (part pg 4)=some root:=(by rw[gJ pg yt];exact hw.root);cases hl:T.lf pg with
 |none=>exact(gS t c a root root pg _ w S p T h ht wT (hw.way pg) hl hr).mono fun e w' ⟨he,hb⟩=>⟨he,hb⟩
 |some l=>
  obtain⟨q1,II⟩:=bE (hw.ups pg l hl 1 (by omega) (by omega));exact(kt (bt:=0) (bl:=0) (.inl ⟨rfl,rfl⟩) t c a root root pg (fun w1 w2=>w2=w1) w S p T h ht wT (hw.way pg) (hw.ups pg l hl) l q1 hl II (fun w1 _ =>map1_any _ _ w1) hr).mono fun e w' ⟨he,w1,hb,hR⟩=>⟨he,by rw[hR];exact hb⟩
end
section
open Go.RowKit Go.Sort
def gX (p:Pool) (T:Tab) (L:List Slot) (hold:Nat->Nat) (pg:Nat) (l:Leaf) (r:Int) (p':Pool) (T':Tab) (L':List Slot):Prop:=
 T'.Good p' (held L' hold) pg 4/\p'.n=p.n/\Sole L'/\L'.Sublist L/\
 ((r=4/\T'=T/\p.left<=2/\ ∀s∈L,s∉L'->Loose T L hold s)\/(r=0/\T'.lf=upd T.lf pg (some l)/\(∀lv q f,T.nd lv q=some f->T'.nd lv q=some f)/\(an T' l.frame->an T l.frame)))
def kJ (p:Pool) (T:Tab) (L:List Slot) (hold:Nat->Nat) (l:Leaf) (r:Int) (p':Pool) (T':Tab) (L':List Slot):Prop:=
 (∀x,¬an T x->(x=l.frame\/0<hold x+ah T x+ay L' x)->p'.dat x=p.dat x)/\
 ((r=4/\ ∃gs:List Nat,gs.length<=2/\ ∀f,f<p.n->ay L f<=1->0<ah T f+az T f+hold f\/f=l.frame\/f∈gs)\/(r=0/\(∀x,an T' x->an T x\/p'.cnt x=1)/\p.left<=p'.left+3))
def MapPost2 (w:World) (S:Nat->Prop) (c a fs m:Nat) (clock:Int) (p:Pool) (T:Tab) (L:List Slot) (hold:Nat->Nat) (pg:Nat) (l:Leaf) (e:Ending) (w':World):Prop:=
 ∃r p' T' L' S',e= .returned (.int .i64 r)/\ar w' S' c a fs m clock p' L'/\Mod (Both S m) w w'/\Out S S' w/\gX p T L hold pg l r p' T' L'/\kJ p T L hold l r p' T' L'
variable {f:Nat}
theorem ax.two {p p':Pool} {L L':List Slot} {r:Int} (h:ax p L r f p' L'):r=0\/(r=4/\f=0/\p'=p/\L'=L):=by
 cases h
 ·exact .inl rfl
 ·exact .inl rfl
 ·exact .inr ⟨rfl,rfl,rfl,rfl⟩
theorem row_not {B:Option Addr} {gs:List Nat} {cap base n g' z:Nat} {S3:Nat->Prop} (hf:(B=none/\gs=[]/\cap=0)\/ ∃g,B=some ⟨g,0,none⟩/\base<=g/\g<n/\gs.length<=cap) (hr: ∀b,B=some ⟨b,0,none⟩-> ¬S3 b) (wK:B.map (·.block)=some g'\/g'=z) (hl: ∀b,S3 b->b<z):
  ∀b,some (⟨g',0,none⟩:Addr)=some ⟨b,0,none⟩-> ¬S3 b:=fun b hb=>by
 injection hb with hb;injection hb with hb;subst hb;rcases wK with h|h
 ·rcases hf with⟨h1,_⟩|⟨g,h1,_⟩
  ·rw[h1]at h;cases h
  ·rw[h1]at h;simp only[Option.map_some,Option.some.injEq]at h;subst h;exact hr _ h1
 ·exact fun e=>by have:=hl _ e;omega
theorem tA (h:f<1024):bits .or .u64 ((f:Int)*4096) 1=((f*4096+1:Nat):Int):=by
 have e:((f:Int)*4096)=((f*4096:Nat):Int):=(by omega);have e3:(1:Int)=((1:Nat):Int):=rfl;rw[e,e3,bits_or_u64_nat _ _ (by omega) (by omega)];have:=Nat.two_pow_add_eq_or_of_lt (i:=12) (b:=1) (by decide) f;rw[Nat.mul_comm f 4096];exact congrArg _ this.symm
theorem jR {w:World} {b:Nat} {pg k:Nat} {T:TypeId} {fr:Nat×Nat} (h:w.heap[b]? =some (.cells #[.int .i64 ((num pg 4:Nat):Int), .int .i64 ((num pg 3:Nat):Int), .int .i64 ((num pg 2:Nat):Int), .int .i64 ((num pg 1:Nat):Int)] T fr)) (hk:k<4):
  w.cell? ⟨b,k,none⟩=some (.int .i64 ((num pg (4-k):Nat):Int)):=by
 rw[aa h k];rcases(show k=0\/k=1\/k=2\/k=3 by omega)with rfl|rfl|rfl|rfl<;>rfl
theorem Tab.on_k (t:Tab) (pg k:Nat) (h:k<3):t.on pg (4-k)=match t.nd (3-k) (part pg (3-k))with|some f=>f*4096+1|none=>0:=by
 rw[Tab.on_more _ _ _ (by omega),show 4-k-1=3-k from by omega];cases t.nd (3-k) (part pg (3-k))<;>rfl
theorem lz (t c a root fs m:Nat) (clock:Int) (A fr q:Int) (cp:Bool) (w:World) (S:Nat->Prop) (p:Pool) (T:Tab) (L:List Slot) (hold:Nat->Nat) (pg0:Nat) (l:Leaf)
  (h:ar w S c a fs m clock p L) (ht:al w t c a root) (Am: ¬S t) (htm:t≠m) (hg:T.Good p (held L hold) pg0 4) (hr:T.nd 4 0=some root) (yW:0<=A) (hA:A<140737488355328) (Iu:A % 4096=0) (h7: ¬7<q) (Gb:bF p fr≠0)
  (wH:(T.lf (A.toNat/4096)).isSome=false) (yw:fr=(l.frame:Int)) (hq:q=(l.prot:Int)) (xK:cp=l.copy) (DI:l.frame<p.n) (xm:1<=p.cnt l.frame) (wY:p.cnt l.frame+1<1000000000000):
  Calls Tryz.prog 72 #[.pointer (some ⟨t,0,none⟩), .int .u64 A, .agg #[.int .i64 fr, .int .u8 q, .bool cp]] w (MapPost2 w S c a fs m clock p T L hold (A.toNat/4096) l):=by
 have Dx:=va yw;have HQ:=va hq;have QW:=va xK;clear yw hq xK;have wT:t<w.heap.size:=(uZ ht).1;have St:=hg.tree hr;have yt:A.toNat/4096<bz:=(by unfold bz;omega);obtain⟨w0,vE⟩: ∃w0,w0=w.alloc (.cells #[.int .i64 fr, .int .u8 q, .bool cp] 83):=⟨_,rfl⟩;have xr:Below w.heap.size w w0:=(by rw[vE];exact vc);have BB:w0.heap.size=w.heap.size+1:=(by rw[vE];simp);have Az:w0.heap[w.heap.size]? =some (.cells #[.int .i64 fr, .int .u8 q, .bool cp] 83 (0,0)):=(by rw[vE];exact leafBox);have yP:al w0 t c a root:=(xr.block t wT).trans ht;have d1: ∀d os,(grow (redrawn w0 d) os).cell? ⟨w.heap.size,0,none⟩=some (.int .i64 fr):=fun d os=>cell_regrown (aa Az 0) d os;have d2: ∀d os,(grow (redrawn w0 d) os).cell? ⟨w.heap.size,1,none⟩=some (.int .u8 q):=fun d os=>cell_regrown (aa Az 1) d os;have d3: ∀d os,(grow (redrawn w0 d) os).cell? ⟨t,1,none⟩=some (.pointer (some ⟨a,0,none⟩)):=fun d os=>cell_regrown (aa yP 1) d os;have hC:=fun d os=>Calls.regrown_of ((gU a fr (grow (redrawn w0 d) os) S p ((h.pool.below xr).below (below_regrown w0 d os))).mono fun _ _ ⟨h1,h2⟩=>⟨h1,h2▸vz _ _⟩);have HC:=va hC;have vY:=va vE;have Xz:=va yP;have Gx:=va Az;have H:=va h;have HG:=va hg;have HR:=va hr;have IW:=va wH;have zv:=va BB;have HA0:=va yW;have HA:=va hA;have g1:decide (140737488355328<=A)=false:=vq (by omega);have g2:(A.tmod 4096 != 0)=false:=(by rw[Int.tmod_eq_emod_of_nonneg yW,Iu];rfl);have g3:decide (7<q)=false:=vq h7;have g4:(((bF p fr:Nat):Int)==0)=false:=(by rw[vp];omega);clear vE h ht Az hC yP hg hr wH BB hA yW Iu h7;go_enter Tryz.func72,Tryz.ntmps72;go_upto_region 1 with(fail);rw[<-vY.out];go_wp2_with fail;refine(cQ t c a root _ Xz.out).mono ?_;rintro e w1 ⟨rfl,rfl⟩;go_upto_region 3 with(fail);refine wp_region_quiet_below (by kernel_rfl) (by kernel_rfl) ?_;(repeat(go_big_quiet_step ((exact HC.out _ _))));refine wpQuiet_nil ?_;intro _ xI;obtain⟨⟨dq,osq⟩,hw''⟩:=xI;subst hw'';have vM:=below_regrown (w0) dq osq;generalize grow (redrawn (w0) dq) osq=w2 at vM⊢;clear d1 d2 d3;go_wp2_with fail;refine(lu A w2 HA0.out (by have:=HA.out;omega)).mono ?_;rintro e w3 ⟨rfl,vX⟩;unfold wayA;go_upto_region 6 with(fail);obtain⟨w4,yR⟩: ∃w4,w4=w3.alloc (.cells #[.int .i64 ((num (A.toNat/4096) 4:Nat):Int), .int .i64 ((num (A.toNat/4096) 3:Nat):Int), .int .i64 ((num (A.toNat/4096) 2:Nat):Int), .int .i64 ((num (A.toNat/4096) 1:Nat):Int)] 212):=⟨_,rfl⟩;rw[<-yR];have xE:Below w.heap.size w w2:=xr.trans (vM.mono xr.size);have DS:Below w.heap.size w w3:=xE.trans (vX.mono xE.size);have CR:Below w.heap.size w w4:=(by rw[yR];exact DS.alloc DS.size _);have JF:w4.heap[w3.heap.size]? =some (.cells #[.int .i64 ((num (A.toNat/4096) 4:Nat):Int), .int .i64 ((num (A.toNat/4096) 3:Nat):Int), .int .i64 ((num (A.toNat/4096) 2:Nat):Int), .int .i64 ((num (A.toNat/4096) 1:Nat):Int)] 212 (0,0)):=(by rw[yR];exact ab _ _);have Md:w4.heap[w.heap.size]? =some (.cells #[.int .i64 fr, .int .u8 q, .bool cp] 83 (0,0)):=by
  have h0:=zv.out;have h2:=vM.size;have h3:=vX.size;have e4:w4.heap[w.heap.size]? =w3.heap[w.heap.size]? :=(by rw[yR];exact ve _ _ _ (by omega));exact e4.trans ((vX.block _ (by omega)).trans ((vM.block _ (by omega)).trans Gx.out))
 have Yp:w3.heap.size<w4.heap.size:=(by rw[yR];simp);have Fk:al w4 t c a root:=(CR.block t wT).trans ((xr.block t wT).symm.trans Xz.out);have d0: ∀d os,(grow (redrawn w4 d) os).cell? ⟨w3.heap.size,0,none⟩=some (.int .i64 ((num (A.toNat/4096) 4:Nat):Int)):=fun d os=>cell_regrown (aa JF 0) d os;have d1: ∀d os,(grow (redrawn w4 d) os).cell? ⟨w3.heap.size,1,none⟩=some (.int .i64 ((num (A.toNat/4096) 3:Nat):Int)):=fun d os=>cell_regrown (aa JF 1) d os;have d2: ∀d os,(grow (redrawn w4 d) os).cell? ⟨w3.heap.size,2,none⟩=some (.int .i64 ((num (A.toNat/4096) 2:Nat):Int)):=fun d os=>cell_regrown (aa JF 2) d os;have d3: ∀d os,(grow (redrawn w4 d) os).cell? ⟨w3.heap.size,3,none⟩=some (.int .i64 ((num (A.toNat/4096) 1:Nat):Int)):=fun d os=>cell_regrown (aa JF 3) d os;have d4: ∀d os,(grow (redrawn w4 d) os).cell? ⟨t,2,none⟩=some (.int .i64 (root:Int)):=fun d os=>cell_regrown (aa Fk 2) d os;have hD:=fun d os=>Calls.regrown_of ((mg t c a root (A.toNat/4096) (grow (redrawn w4 d) os) S p T ((H.out.pool.below CR).below (below_regrown w4 d os)) (((below_regrown w4 d os).block t (vh wT CR.size)).trans Fk) St yt).mono fun _ _ ⟨h1,h2⟩=>⟨h1,h2⟩);unfold wayA at hD;have HD:=va hD;have KQ:=va JF;have Gw:=va Md;have Ly:=va Fk;have wV:=va CR;have xR:=DS.size;have Js:w.heap.size<w3.heap.size:=(by have:=zv.out;have:=vM.size;have:=vX.size;omega);clear hD JF Md Fk yR xr xE DS CR vM vX;refine wp_region_quiet_below (by kernel_rfl) (by kernel_rfl) ?_;(repeat(go_big_quiet_step ((exact HD.out _ _))));refine wpQuiet_nil ?_;intro _ xI;obtain⟨⟨dq,osq⟩,hw''⟩:=xI;subst hw'';have Bt:=below_regrown (w4) dq osq;generalize grow (redrawn (w4) dq) osq=w6 at Bt⊢;clear d0 d1 d2 d3 d4;have OF:=Bt.size;have hB6:Below w.heap.size w w6:=wV.out.trans (Bt.mono (by omega));rw[IW.out];go_upto_region 9 with(fail);have ZZ:=H.out.below hB6;have Qd:al w6 t c a root:=(Bt.block t (by omega)).trans Ly.out;have hp6:=(Bt.block w3.heap.size (by omega)).trans KQ.out;have xO:=(Bt.block w.heap.size (by omega)).trans Gw.out;have d0:w6.cell? ⟨t,1,none⟩=some (.pointer (some ⟨a,0,none⟩)):=aa Qd 1;have d1:w6.cell? ⟨w.heap.size,0,none⟩=some (.int .i64 fr):=aa xO 0;have Gi: ¬S w3.heap.size:=fun e=>by have:=H.out.pool.low _ e;omega
 have zP: ¬S w.heap.size:=fun e=>by have:=H.out.pool.low _ e;omega
 have yL:=up_yes a l.frame w6.drew S p (ZZ.pool.drew) (by rw[br];exact vr ⟨DI,xm⟩) wY;rw[<-Dx.out]at yL;have My:=va yL;have WA:=va ZZ;have HT6:=va Qd;have MF:=va hp6;have Sa:=va xO;clear yL ZZ Qd hp6 xO
 go_still_tail 6,(by kernel_rfl)
 go_wp2_with fail;refine(My.out).mono ?_;rintro e w7 ⟨rfl,Xt,Tx⟩;have xh:=Tx.undrew;have Rj:=xh.size;have hC7:=WA.out.turn xh Xt (Out.refl _ _);have Qc:al w7 t c a root:=(xh.block t (by omega) Am).trans HT6.out;have Ru:=(xh.block w3.heap.size (by omega) Gi).trans MF.out;have IJ:=(xh.block w.heap.size (by omega) zP).trans Sa.out;have Ql:=HG.out.up l.frame;rw[held_upd]at Ql;generalize hp1:p.up l.frame=p1 at *
 generalize PC:upd hold l.frame (hold l.frame+1)=Aq at *
 have e2:w7.cell? ⟨t,2,none⟩=some (.int .i64 (root:Int)):=aa Qc 2;have Wz:=va hC7;have HT7:=va Qc;have Hh:=va Ru;have RZ:=va IJ;have Wm:=va Ql;have DZ:=va hp1;have IY:=va PC;have Ed:=Ql.way (A.toNat/4096);clear Xt Tx hC7 Qc Ru IJ Ql d0 d1 hp1 PC
 go_upto_block 1 with(fail)
 go_cut [10,11] (fun n d wx=> ∃k g:Nat,n= .int .i64 (g:Int)/\d= .int .i64 (k:Int)/\k<=3/\T.nd (4-k) (part (A.toNat/4096) (4-k))=some g/\(k=3\/T.nd (3-k) (part (A.toNat/4096) (3-k))=none)/\Below w7.heap.size w7 wx)
 case first=>
  go_wp2_with fail;go_loopw [10,11] (fun n d wr=> ∃k g:Nat,n= .int .i64 (g:Int)/\d= .int .i64 (k:Int)/\k<=3/\T.nd (4-k) (part (A.toNat/4096) (4-k))=some g/\Below w7.heap.size w7 wr) (fun _ d _ =>3-(intOf d).toNat)
  case atStart=>exact⟨0,root,rfl,rfl,by omega,by rw[show 4-0=4 from rfl,gJ _ yt];exact HR.out,vz _ _⟩
  case round=>
   obtain⟨k,g,rfl,rfl,hk,Fx,hb⟩:=hrel;obtain⟨n1,n2,n3⟩:=Ed.node (4-k) g (by omega) (by omega) Fx;have Hi:=va Fx;have LC:=va n3;clear Fx n3;by_cases vH:k<3
   ·have Hu:wr.cell? ⟨w3.heap.size,k,none⟩=some (.int .i64 ((num (A.toNat/4096) (4-k):Nat):Int)):=jR ((hb.block _ (by omega)).trans Hh.out) (by omega);obtain⟨nm,Hy⟩: ∃nm,nm=num (A.toNat/4096) (4-k):=⟨_,rfl⟩;rw[<-Hy]at Hu;have Pm:nm<512:=(by rw[Hy];exact bU _ _);have XC:=va Hy;clear Hy;go_wp2_with fail;refine(bL t c a root g nm wr S p1 (Wz.out.pool.below hb) ((hb.block t (by omega)).trans HT7.out) n1 n2 Pm).mono ?_;rintro e w8 ⟨rfl,Ux⟩;have Fh:Below w7.heap.size w7 w8:=hb.trans (Ux.mono hb.size);cases zW:T.nd (3-k) (part (A.toNat/4096) (3-k))with
    |none=>
     have e0:word (p1.dat g) nm=0:=(by rw[XC.out,LC.out,Tab.on_k _ _ _ vH,zW]);have Wy:=va zW;clear zW;rw[e0];have hz:=gW;go_wp2_with fail
     go_meet
     exact⟨k,g,rfl,rfl,hk,Hi.out, .inr Wy.out,Fh⟩
    |some g'=>
     have e0:word (p1.dat g) nm=g'*4096+1:=(by rw[XC.out,LC.out,Tab.on_k _ _ _ vH,zW]);obtain⟨m1,m2,_⟩:=Ed.node (3-k) g' (by omega) (by omega) zW;have wb:=Ed.few;obtain⟨x,hx⟩: ∃x,x=g'*4096+1:=⟨_,rfl⟩;rw[e0,<-hx];have zG:x<18446744073709551616:=(by omega);have FR:=fp zG (by omega);have SF:((x:Int)/4096)=(g':Int):=(by omega);have Ix:=va SF;have Wy:=va zW;clear zW hx e0 SF;go_wp2_with fail;go_roundw
     case rel=>exact⟨k+1,g',by first|rw[Ix.out]|rfl,by go_num,by omega,by rw[show 4-(k+1)=3-k from by omega];exact Wy.out,Fh⟩
     case measure=>simp[intOf];omega
   ·obtain rfl:k=3:=(by omega);go_wp2_with fail
    go_meet
    exact⟨3,g,rfl,rfl,by omega,Hi.out, .inl rfl,hb⟩
 case rest=>
  obtain⟨k,g,rfl,rfl,hk,Fx,Fb,hb⟩:=hcut;have Tu:=Wz.out.lts.2.1;have hzc:=hb.size;have Hi:=va Fx;have HEND:=va Fb;have HB:=va hb;have yP:=Took.nil Wm.out Wz.out.slots.sole (A.toNat/4096);have Oh:=va yP;have h3:w3.heap.size≠m:=(by have:=H.out.lts.2.1;omega);have h0:w.heap.size≠m:=(by have:=H.out.lts.2.1;omega);have ht7:t<w7.heap.size:=(by omega);have h37:w3.heap.size<w7.heap.size:=(by omega);have h07:w.heap.size<w7.heap.size:=(by omega);have EV: ∀w' S',Mod (Both S m) w7 w'->Out S S' w7->al w' t c a root/\w'.heap[w3.heap.size]? =w7.heap[w3.heap.size]? /\w'.heap[w.heap.size]? =w7.heap[w.heap.size]? /\ ¬S' t/\ ¬S' w3.heap.size/\ ¬S' w.heap.size/\w7.heap.size<=w'.heap.size:=fun w' S' hm ho=>
   ⟨(hm.block t ht7 (fun e=>e.elim Am htm)).trans HT7.out,hm.block _ h37 (fun e=>e.elim Gi h3),hm.block _ h07 (fun e=>e.elim zP h0),fun e=>(ho _ e).elim Am (by omega),fun e=>(ho _ e).elim Gi (by omega),fun e=>(ho _ e).elim zP (by omega),hm.size⟩
  have Hl:=va EV;clear Fx Fb yP EV hb e2;obtain⟨pgA,AN⟩: ∃pgA,pgA=A.toNat/4096:=⟨_,rfl⟩;rw[<-AN]at Oh;have MD:=va AN;clear AN;go_wp2_with fail;go_loopw [13,88] (fun v i wr=> ∃(gs:List Nat) (A:Option Addr) (cap:Nat) (p2:Pool) (L2:List Slot) (S2:Nat->Prop),v= .slice A gs.length cap/\i= .int .i64 (gs.length:Int)/\gs.length<=3-k/\OwnN wr w7.heap.size A cap gs/\(∀b,A=some ⟨b,0,none⟩-> ¬S2 b)/\ar wr S2 c a fs m clock p2 L2/\Mod (Both S m) w7 wr/\Out S S2 w7/\Took T p1.n p1.left p1.dat L Aq pgA gs p2 L2)
   (fun _ i _ =>3-(intOf i).toNat)
  case atStart=>exact⟨[],none,0,p1,L,S,rfl,rfl,vw _,OwnN.nil _ _,(fun b e=>by cases e),Wz.out.below HB.out,Mod.of HB.out,Out.refl _ _,Oh.out⟩
  case round=>
   obtain⟨gs,B,cap,p2,L2,S2,rfl,rfl,hle,vR,wj,Dn,vT,BD,Ng⟩:=hrel;obtain⟨k1,k2,k3,k4,k5,k6,k7⟩:=Hl.out _ _ vT BD;by_cases vH:gs.length<3-k
   ·have e0:wr.cell? ⟨t,0,none⟩=some (.pointer (some ⟨c,0,none⟩)):=aa k1 0;have ye:=va Dn;have IU:=va Ng;have K1:=va k1;have K2:=va k2;have K3:=va k3;have yX:=va vR;have By:=va wj;clear k1 k2 k3 Dn Ng vR wj;go_wp2_with fail;refine(fi c a fs m clock wr S2 p2 L2 ye.out).mono ?_;rintro e w8 ⟨r,f,p3,L3,S3,rfl,BI,xH,AF,vO⟩;have xR:=xH.size;have Ty:Mod (Both S m) w7 w8:=vT.trans (fun b e=>by
     rcases e with h|h
     ·exact(BD b h).imp .inl (fun h=>vx (vd _) h)
     ·exact .inl (.inr h)) xH
    have Th:Out S S3 w7:=BD.trans AF k7;have Nq:OwnN w8 w7.heap.size B cap gs:=yX.out.same fun b hb=>xH.block b (by
     rcases yX.out.form with⟨h,_⟩|⟨g1,h,_,h5,_⟩
     ·rw[h]at hb;cases hb
     ·rw[h]at hb;injection hb with hb;injection hb with hb;omega) (fun e=>e.elim (By.out b hb) (fun e2=>by
     rcases yX.out.form with⟨h,_⟩|⟨g1,h,h4,h5,_⟩
     ·rw[h]at hb;cases hb
     ·rw[h]at hb;injection hb with hb;injection hb with hb;omega))
    have EC: ∀b,B=some ⟨b,0,none⟩-> ¬S3 b:=fun b hb e=>by
     rcases AF b e with h|h
     ·exact By.out b hb h
     ·rcases yX.out.form with⟨h4,_⟩|⟨g1,h4,_,h5,_⟩
      ·rw[h4]at hb;cases hb
      ·rw[h4]at hb;injection hb with hb;injection hb with hb;omega
    have GA:=va BI;have Du:=va Nq;have KN:=va EC;have BK:=va Ty;have Fo:=va Th;clear BI Nq EC Ty Th;rcases vO.two with rfl|⟨rfl,rfl,rfl,rfl⟩
    ·have wC:=va vO;have TB: ∀b,S3 b->b<w8.heap.size:=GA.out.pool.low;have zk:=GA.out.lts;have NI: ∀w9 w10,Below w8.heap.size w8 w9->w9.grownBy w10 (B.map (·.block))->ar w10 S3 c a fs m clock p3 L3/\Mod (Both S m) w7 w10:=fun w9 w10 h9 KH=>by
      have EB: ∀b,B.map (·.block)=some b->w7.heap.size<=b/\ ¬S3 b:=fun b hb=>by
       rcases yX.out.form with⟨h,_⟩|⟨g1,h,h4,h5,_⟩
       ·rw[h]at hb;cases hb
       ·rw[h]at hb;simp only[Option.map_some,Option.some.injEq]at hb;subst hb;exact⟨h4,KN.out _ h⟩
      have xX:Mod (fun b=>B.map (·.block)=some b) w9 w10:=⟨KH.os,KH.tape,KH.output,KH.size,fun b hb hn=>KH.block b hb (fun e=>hn e.symm)⟩;refine⟨(GA.out.below h9).mod xX (fun b hb e=>(EB b e).2 hb) (fun e=>by have:=(EB 0 e).1;omega) (fun e=>by have:=(EB c e).1;have:=Wz.out.lts.1;omega) (fun e=>by have:=(EB m e).1;omega),?_⟩;have Qs:Mod (fun b=>Both S m b\/w7.heap.size<=b) w7 w10:=(BK.out.sub fun b hb=> .inl hb).trans (Out.refl _ _) ((Mod.of h9).trans (Out.refl _ _) (xX.sub fun b hb=> .inr (EB b hb).1));exact⟨Qs.os,Qs.tape,Qs.output,Qs.size,fun b hb hn=>Qs.block b hb (fun e=>e.elim hn (fun e=>by omega))⟩
     have Wj:=va NI;clear vO NI;go_wp2_with (first
      |(at_builtin;refine pq rfl (.tmp 121) (.tmp 123) rfl w7.heap.size B cap gs rfl (Du.out.alloc _) f w8.heap.size 1 rfl (ab _ _) (by omega) (by simp;omega) ?_;intro g' vA w10 LR TX NY hlt10;have Lq:=Wj.out _ _ ((vz w8.heap.size w8).alloc (vd _) _) TX;have hrw: ∀b,some (⟨g',0,none⟩:Addr)=some ⟨b,0,none⟩-> ¬S3 b:=row_not yX.out.form KN.out NY (fun b hb=>by have:=TB b hb;simp;omega);have HGR:=va Lq;have HRW:=va hrw;have HO10:=va LR;clear Lq hrw LR TX NY)
      |fail)
     go_roundw
     case rel=>exact⟨gs++[f],some ⟨g',0,none⟩,vA,p3,L3,S3,by rw[vf];rfl,by rw[vf];go_num,by rw[vf];simp;omega,HO10.out,HRW.out,HGR.out.1,HGR.out.2,Fo.out,IU.out.step wC.out⟩
     case measure=>simp[intOf];omega
    ·have Vf:=Du.out.form;have UI:al w8 t c a root:=(Hl.out _ _ BK.out Fo.out).1;have ND:=((Hl.out _ _ BK.out Fo.out).2.2.1).trans RZ.out;obtain⟨s1,s2,s3,s4⟩:=(Hl.out _ _ BK.out Fo.out).2.2.2;have HT8:=va UI;have HL8:=va ND;have HBF:=va Vf;have ht8:t<w8.heap.size:=(by omega);have h08:w.heap.size<w8.heap.size:=(by omega);have LI:w7.heap.size<=w8.heap.size:=s4;have Xh:gs.length<=3:=(by omega);have JU: ∀s∈L,s∉L3->Loose T L hold s:=fun s Hr Ef=>by
      obtain⟨l1,l2,l3,l4⟩:=IU.out.drop s Hr Ef;refine⟨l1,l2,l3,?_⟩;rw[<-IY.out]at l4;by_cases e:s.frame=l.frame
      ·rw[e,af]at l4;omega
      ·rwa [ag _ _ e]at l4
     have QN:=va JU;clear JU;have EY: ∃gs:List Nat,gs.length<=2/\ ∀f,f<p.n->ay L f<=1->0<ah T f+az T f+hold f\/f=l.frame\/f∈gs:=by
      refine⟨gs,by omega,fun f hf hs=>?_⟩;rcases IU.out.full vO (f:=f) (by rw[<-DZ.out];exact hf) hs with h9|h9
      ·by_cases e:f=l.frame
       ·exact .inr (.inl e)
       ·left;rw[<-IY.out,ag _ _ e]at h9;exact h9
      ·exact .inr (.inr h9)
     have KZ:=va EY;clear EY;have OY:p.left<=2:=by
      have h1:=IU.out.room;have h2:=vO.full;have h3:p1.left=p.left:=(by rw[<-DZ.out];exact tB xm);omega
     clear UI ND Vf vO;go_wp2_with fail;go_loopw [102] (fun i wx=> ∃(j:Nat) (p4:Pool),i= .int .i64 (j:Int)/\j<=gs.length/\ar wx S3 c a fs m clock p4 L3/\Mod S3 w8 wx/\Undo T p1.n p1.dat L3 Aq pgA (gs.drop j) p4) (fun i _ =>3-(intOf i).toNat)
     case atStart=>exact⟨0,_,rfl,vw _,GA.out,Mod.refl _ _,IU.out.undo⟩
     case round=>
      obtain⟨j,p4,rfl,hj,Dm,xq,Ee⟩:=hrel;have Ct:=va Dm;have Lx:=va Ee;have CF:=va xq;clear Dm Ee;by_cases Bq:j<gs.length
      ·obtain⟨f1,AH⟩: ∃f1,gs[j]? =some f1:=⟨gs[j],vg Bq⟩;have xv:gs.drop j=f1::gs.drop (j+1):=by
        rw[List.drop_eq_getElem_cons Bq];congr 1;have:=vg Bq;rw[AH]at this;injection this with this;exact this.symm
       rcases HBF.out with⟨h,h2,_⟩|⟨g1,Bv,ym,xT,Cz⟩
       ·rw[h2]at Bq;cases Bq
       ·have LM:=Lx.out;rw[xv]at LM;obtain⟨v1,v2⟩:=LM.live;have HUN1:=va LM.step;have zd:OwnN wr w7.heap.size B cap gs:=Du.out.same fun b hb=>xq.block b (by rw[Bv]at hb;injection hb with hb;injection hb with hb;omega) (KN.out b hb);have e1:wr.cell? ⟨t,1,none⟩=some (.pointer (some ⟨a,0,none⟩)):=aa ((xq.block t ht8 s1).trans HT8.out) 1;subst Bv;have e5:wr.cell? ⟨g1,j,none⟩=some (.int .i64 (f1:Int)):=zd.elem AH;clear AH xv LM zd Lx;go_wp2_with fail;refine(cZ a f1 wr S3 p4 Ct.out.pool v1 v2).mono ?_;rintro e w9 ⟨rfl,Ky,zi⟩;go_wp2_with fail;go_roundw
        case rel=>exact⟨j+1,_,by go_num,by omega,Ct.out.turn zi Ky (Out.refl _ _),CF.out.trans (Out.refl _ _) zi,HUN1.out⟩
        case measure=>simp[intOf];omega
      ·obtain rfl:j=gs.length:=(by omega);have Jl:=Lx.out;rw[List.drop_length]at Jl;have xT:=Jl.good;rw[lL]at xT;have hh:0<Aq l.frame:=(by rw[<-IY.out,af];omega);have EM:p4.n=p1.n:=Jl.n;have Ia:p1.n=p.n:=(by rw[<-DZ.out];rfl);have Cd:=xT.cnt l.frame (by omega);have Cz:=xT.down (f:=l.frame) (by unfold held;omega);rw[fe _ _ _ hh]at Cz;have zO:upd Aq l.frame (Aq l.frame-1)=hold:=by
        rw[<-IY.out,af];funext x;by_cases e:x=l.frame
        ·subst e;rw[af];omega
        ·rw[ag _ _ e,ag _ _ e]
       rw[zO]at Cz;have NF: ∀x,¬an T x->(x=l.frame\/0<hold x+ah T x+ay L3 x)->p4.dat x=p.dat x:=fun x _ hx=>by
        have h9:=Jl.dat x (by rw[<-IY.out];by_cases e:x=l.frame;(· subst e;rw[af];omega);(· rw[ag _ _ e];exact hx.resolve_left e));rw[h9,<-DZ.out];rfl
       have We:=va NF;clear NF;have Jr:=IU.out.sole;have Ez:=IU.out.sub;have hTx:al wr t c a root:=(xq.block t ht8 s1).trans HT8.out;have NA:=(xq.block _ h08 s3).trans HL8.out;have d0:wr.cell? ⟨t,1,none⟩=some (.pointer (some ⟨a,0,none⟩)):=aa hTx 1;have d1:wr.cell? ⟨w.heap.size,0,none⟩=some (.int .i64 fr):=aa NA 0;have Mg:=cZ a l.frame wr.drew S3 p4 Ct.out.pool.drew (by omega) (by unfold held at Cd;omega);rw[<-Dx.out]at Mg;have Wu:=va Mg;have HG3:=va Cz;clear Jl xT Cd Cz hTx NA Mg zO;go_upto_region 27 with(fail)
       go_still_tail 6,(by kernel_rfl)
       go_wp2_with fail;refine(Wu.out).mono ?_;rintro e w9 ⟨rfl,Ky,Ma⟩;have zi:=Ma.undrew;go_wp2_with fail;go_ret;have Lo:Mod (Both S m) w w7:=(Mod.of hB6).trans (Out.refl _ _) (xh.sub fun b hb=> .inl hb);have hz7w:w.heap.size<=w7.heap.size:=(by omega);exact⟨4,_,T,_,S3,rfl,Ct.out.turn zi Ky (Out.refl _ _),(Lo.trans (Out.refl _ _) BK.out).trans (fun b hb=>(Fo.out b hb).imp .inl (fun h=>by omega)) (CF.out.trans (Out.refl _ _) zi),fun b hb=>(Fo.out b hb).imp id (fun h=>by omega),⟨by rw[MD.out]at HG3;exact HG3.out,by show p4.n=p.n;omega,Jr,Ez, .inl ⟨rfl,rfl,OY,QN.out⟩⟩,We.out, .inl ⟨rfl,KZ.out⟩⟩
   ·have heq:gs.length=3-k:=Nat.le_antisymm hle (Nat.le_of_not_lt vH);have KL:=va Ng;have Vf:=vR.form;have zJ:=ev.start Ng (d:=k) (g:=g) (by rw[heq];exact Nat.add_sub_cancel' hk) (by rw[MD.out];exact Hi.out) (by rw[MD.out];exact HEND.out);have wE:=k3.trans RZ.out;have hp2:=k2.trans Hh.out;obtain⟨wl,hwl⟩: ∃wl,wl=wr:=⟨_,rfl⟩;subst hwl;have ye:=va Dn;have HLK:=va zJ;have Er:=va wE;have Ol:=va hp2;have RT:=va k1;have HBF:=va Vf;have yX:=va vR;have By:=va wj;have htl:t<wl.heap.size:=(by omega);have h3l:w3.heap.size<wl.heap.size:=(by omega);have h0l:w.heap.size<wl.heap.size:=(by omega);clear Dn zJ wE hp2 k1 k2 k3 Vf vR wj Ng;go_wp2_with fail;go_loopw [10,11,128] (fun nn dd i wx=> ∃(j d g4:Nat) (p4:Pool) (T4:Tab),nn= .int .i64 (g4:Int)/\dd= .int .i64 (d:Int)/\i= .int .i64 (j:Int)/\d=k+j/\j<=gs.length/\ar wx S2 c a fs m clock p4 L2/\Mod S2 wl wx/\ev T p1.n p1.left p1.dat L2 Aq pgA d g4 (gs.drop j) p4 T4) (fun _ _ i _ =>3-(intOf i).toNat)
    case atStart=>exact⟨0,k,g,p2,T,rfl,rfl,rfl,rfl,vw _,ye.out,Mod.refl _ _,HLK.out⟩
    case round=>
     obtain⟨j,d,g4,p4,T4,rfl,rfl,rfl,Ug,hj,Dm,xq,Pt⟩:=hrel;have Ct:=va Dm;have Eb:=va Pt;have CF:=va xq;have Ly:=va ((xq.block t htl k4).trans RT.out);have Xb:=(xq.block _ h3l k5).trans Ol.out;have NA:=(xq.block _ h0l k6).trans Er.out;obtain⟨v1,v2⟩:=Pt.live;clear Dm Pt;by_cases Bq:j<gs.length
     ·obtain⟨f1,AH⟩: ∃f1,gs[j]? =some f1:=⟨gs[j],vg Bq⟩;have xv:gs.drop j=f1::gs.drop (j+1):=by
       rw[List.drop_eq_getElem_cons Bq];congr 1;have:=vg Bq;rw[AH]at this;injection this with this;exact this.symm
      rcases HBF.out with⟨h,h2,_⟩|⟨g1,Bv,ym,xT,Cz⟩
      ·rw[h2]at Bq;cases Bq
      ·have JY:=Eb.out;rw[xv]at JY;have Di:=(JY.each f1 (vv ..)).1;have EM:p4.n=p1.n:=JY.n;have wb:=Ed.few;have Zl:f1<1024:=(by omega);have hd3:d<3:=(by omega);have HLN1:=va JY.step;have zd:OwnN wr w7.heap.size B cap gs:=yX.out.same fun b hb=>xq.block b (by rw[Bv]at hb;injection hb with hb;injection hb with hb;omega) (By.out b hb);subst Bv;have e5:wr.cell? ⟨g1,j,none⟩=some (.int .i64 (f1:Int)):=zd.elem AH;have Hu:wr.cell? ⟨w3.heap.size,d,none⟩=some (.int .i64 ((num (A.toNat/4096) (4-d):Nat):Int)):=jR Xb (by omega);obtain⟨nm,Hy⟩: ∃nm,nm=num (A.toNat/4096) (4-d):=⟨_,rfl⟩;rw[<-Hy]at Hu;have Pm:nm<512:=(by rw[Hy];exact bU _ _);have Db:=tA Zl;have XC:=va Hy;have Qv:=va Db;have HDK:=va Ug;have XE:=va heq;clear AH xv JY zd Eb Hy Db Xb NA Ug heq EM;go_wp2_with fail;rw[Qv.out];refine(gv t c a root g4 nm (f1*4096+1) wr S2 p4 Ct.out.pool Ly.out (by have:=xq.size;omega) v1 v2 Pm (by omega)).mono ?_;rintro e w9 ⟨rfl,Ky,zi⟩;go_wp2_with fail;go_roundw
       case rel=>exact⟨j+1,d+1,f1,_,_,rfl,by go_num,by go_num,by have:=HDK.out;omega,by omega,Ct.out.turn zi Ky (Out.refl _ _),CF.out.trans (Out.refl _ _) zi,by rw[XC.out,<-MD.out];exact HLN1.out⟩
       case measure=>simp[intOf];omega
     ·obtain rfl:j=gs.length:=(by omega);obtain rfl:d=3:=(by omega);have JX:=Eb.out;rw[List.drop_length]at JX;have Ia:p1.n=p.n:=(by rw[<-DZ.out];rfl);have hh:0<Aq l.frame:=(by rw[<-IY.out,af];omega);have Ru:l.prot<=7:=by
       have h9:=of_decide_eq_false g3;rw[HQ.out]at h9;omega
      have vW:T.lf pgA=none:=by
       have h9:=IW.out;rw[MD.out];cases hc:T.lf (A.toNat/4096)with
       |none=>rfl
       |some y=>rw[hc]at h9;cases h9
      have wU:=JX.fin (by rw[MD.out];exact yt) vW Ru (by rw[Ia];exact DI) hh;have zO:upd Aq l.frame (Aq l.frame-1)=hold:=by
       rw[<-IY.out,af];funext x;by_cases e:x=l.frame
       ·subst e;rw[af];omega
       ·rw[ag _ _ e,ag _ _ e]
      rw[zO]at wU;have EM:p4.n=p1.n:=JX.n;have wb:=Ed.few;have Ht:=fun W=>mJ l W Ru (by omega);have TH:l.pack<18446744073709551616:=(by have:=eB l Ru (by omega);omega);simp only[<-Dx.out,<-HQ.out,<-QW.out]at Ht;have Hu:wr.cell? ⟨w3.heap.size,3,none⟩=some (.int .i64 ((num (A.toNat/4096) 1:Nat):Int)):=jR Xb (by omega);rw[<-MD.out]at Hu;have x0:wr.cell? ⟨w.heap.size,0,none⟩=some (.int .i64 fr):=aa NA 0;have x1:wr.cell? ⟨w.heap.size,1,none⟩=some (.int .u8 q):=aa NA 1;have x2:wr.cell? ⟨w.heap.size,2,none⟩=some (.bool cp):=aa NA 2;have h3r:w3.heap.size<wr.heap.size:=(by have:=xq.size;omega);have LO:t<wr.heap.size:=(by have:=xq.size;omega);have hzl:w7.heap.size<=wl.heap.size:=k7;have Tq:p4.n=p.n:=(by omega);have Jr:=KL.out.sole;have Ez:=KL.out.sub;obtain⟨nm,Hy⟩: ∃nm,nm=num pgA 1:=⟨_,rfl⟩;rw[<-Hy]at Hu wU;have Pm:nm<512:=(by rw[Hy];exact bU _ _);have IC:=va wU;have zB:(∀x,¬an T x->(x=l.frame\/0<hold x+ah T x+ay L2 x)->(p4.store g4 (aF (p4.dat g4) nm l.pack)).dat x=p.dat x)/\(∀x,an (T4.lay pgA (some l)) x->an T x\/(p4.store g4 (aF (p4.dat g4) nm l.pack)).cnt x=1)/\p.left<=(p4.store g4 (aF (p4.dat g4) nm l.pack)).left+3:=by
       obtain⟨f1,f2,f3⟩:=JX.fin2 (some l) (aF (p4.dat g4) nm l.pack);refine⟨fun x hn hx=>?_,f2,?_⟩
       ·rw[f1 x hn (by rw[<-IY.out];by_cases e:x=l.frame;(· subst e;rw[af];omega);(· rw[ag _ _ e];exact hx.resolve_left e)),<-DZ.out];rfl
       ·have h3:p1.left=p.left:=(by rw[<-DZ.out];exact tB xm);omega
      have QU:=va zB;clear zB;have RY:=va Ht;have XE:=va heq;have HN:=va Tq;clear JX Ia vW wU zO EM Ht Xb NA Hy Eb heq Tq Ug;go_wp2_with fail;go_region_with
       ((
        first
        |(go_at_call 118;refine(RY.out _).mono ?_;rintro e w9 ⟨rfl,ZC⟩;have DO:Below wr.heap.size wr w9:=bA ZC;have hpc':w9.cell? ⟨w3.heap.size,3,none⟩=some (.int .i64 (nm:Int)):=(DO.cell (p:=⟨w3.heap.size,3,none⟩) h3r).trans Hu)
        |(go_at_call 112;refine(gv t c a root g4 nm l.pack _ S2 _ (Ct.out.pool.below DO) ((DO.block t LO).trans Ly.out) (by have:=DO.size;omega) v1 v2 Pm TH).mono ?_;rintro e w10 ⟨rfl,ZO,xX⟩)))
      all_goals
       go_wp2_with fail;go_ret;have Lo:Mod (Both S m) w w7:=(Mod.of hB6).trans (Out.refl _ _) (xh.sub fun b hb=> .inl hb);exact⟨0,_,_,_,S2,rfl,(Ct.out.below DO).turn xX ZO (Out.refl _ _),(Lo.trans (Out.refl _ _) vT).trans (fun b hb=>(BD b hb).imp .inl (fun h=>by omega)) (CF.out.trans (Out.refl _ _) ((Mod.of DO).trans (Out.refl _ _) xX)),fun b hb=>(BD b hb).imp id (fun h=>by omega),⟨by rw[<-MD.out];exact IC.out.1,HN.out,Jr,Ez, .inr ⟨rfl,by rw[<-MD.out];exact IC.out.2.1,IC.out.2.2.1,IC.out.2.2.2⟩⟩,QU.out.1, .inr ⟨rfl,QU.out.2.1,QU.out.2.2⟩⟩
end
