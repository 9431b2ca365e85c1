/- Tables: Map, refused. Tables: Map, whole. -/
import Derived.Test.YtoochjhipmpehaaGreatDoorCaZK
import Derived.Test.YtoochjhipmpehaaGreatDoorTtHK
import Derived.Test.YtoochjhipmpehaaGreatDoorTuAK
import Derived.OwnWalk
set_option linter.unusedVariables false
set_option linter.unusedSimpArgs false
set_option maxRecDepth 100000
set_option maxHeartbeats 4000000
namespace Go.Proofs.YtoochjhipmpehaaGreatDoor
section
open Go.RowKit Go.Sort
theorem leafBox {w:World} {fr q:Int} {cp:Bool} :(w.alloc (.cells #[.int .i64 fr, .int .u8 q, .bool cp] 83)).heap[w.heap.size]? =some (.cells #[.int .i64 fr, .int .u8 q, .bool cp] 83 (0,0)):=ab w _
end
section
open Go.RowKit Go.Sort
theorem map1_any (f k:Int) (w:World):Calls Tryz.prog 127 #[.int .i64 f, .int .i64 k] w fun e w'=>e= .returned (.bool false)/\w'=w:=by
 go_enter Tryz.func127,Tryz.ntmps127;go_wp2_with fail;go_ret;exact⟨rfl,rfl⟩
theorem lU (t c a root pg:Nat) (w:World) (S:Nat->Prop) (p:Pool) (T:Tab) (h:al w S a p) (ht:am w t c a root) (hw:Tree p T root) (yg:pg<bG):
  Calls Tryz.prog 126 #[.pointer (some ⟨t,0,none⟩), .int .i64 (root:Int),wayA pg, .int .i64 0, .func (.func 127) #[] #[]] w
   fun e w'=>e= .returned (.tuple #[.bool (T.lf pg).isSome, .bool false])/\Below w.heap.size w w':=by
 have wv:t<w.heap.size:=(uG ht).1;have hr:T.nd 4 (part pg 4)=some root:=(by rw[gE pg yg];exact hw.root);cases hl:T.lf pg with
 |none=>exact(gM t c a root root pg _ w S p T h ht wv (hw.way pg) hl hr).mono fun e w' ⟨he,hb⟩=>⟨he,hb⟩
 |some l=>
  obtain⟨q1,Ic⟩:=bB (hw.ups pg l hl 1 (by omega) (by omega));exact(ka (bt:=0) (bl:=0) (.inl ⟨rfl,rfl⟩) t c a root root pg (fun w1 w2=>w2=w1) w S p T h ht wv (hw.way pg) (hw.ups pg l hl) l q1 hl Ic (fun w1 _ =>map1_any _ _ w1) hr).mono fun e w' ⟨he,w1,hb,hR⟩=>⟨he,by rw[hR];exact hb⟩
end
section
open Go.RowKit Go.Sort
def gS (p:Pool) (T:Tab) (L:List Slot) (hold:Nat->Nat) (pg:Nat) (l:Leaf) (r:Int) (p':Pool) (T':Tab) (L':List Slot):Prop:=
 T'.Good p' (held L' hold) pg 4/\p'.n=p.n/\Sole L'/\L'.Sublist L/\
 ((r=4/\T'=T/\p.left<=2/\ ∀s∈L,s∉L'->Loose T L hold s)\/(r=0/\T'.lf=upd T.lf pg (some l)/\(∀lv q f,T.nd lv q=some f->T'.nd lv q=some f)/\(an T' l.frame->an T l.frame)))
def kw (p:Pool) (T:Tab) (L:List Slot) (hold:Nat->Nat) (l:Leaf) (r:Int) (p':Pool) (T':Tab) (L':List Slot):Prop:=
 (∀x,¬an T x->(x=l.frame\/0<hold x+ah T x+ax L' x)->p'.dat x=p.dat x)/\
 ((r=4/\ ∃gs:List Nat,gs.length<=2/\ ∀f,f<p.n->ax L f<=1->0<ah T f+ay T f+hold f\/f=l.frame\/f∈gs)\/(r=0/\(∀x,an T' x->an T x\/p'.cnt x=1)/\p.left<=p'.left+3))
def MapPost2 (w:World) (S:Nat->Prop) (c a fs m:Nat) (clock:Int) (p:Pool) (T:Tab) (L:List Slot) (hold:Nat->Nat) (pg:Nat) (l:Leaf) (e:Ending) (w':World):Prop:=
 ∃r p' T' L' S',e= .returned (.int .i64 r)/\ar w' S' c a fs m clock p' L'/\Mod (Both S m) w w'/\Out S S' w/\gS p T L hold pg l r p' T' L'/\kw p T L hold l r p' T' L'
variable {f:Nat}
theorem aw.two {p p':Pool} {L L':List Slot} {r:Int} (h:aw p L r f p' L'):r=0\/(r=4/\f=0/\p'=p/\L'=L):=by
 cases h
 ·exact .inl rfl
 ·exact .inl rfl
 ·exact .inr ⟨rfl,rfl,rfl,rfl⟩
theorem row_not {B:Option Addr} {gs:List Nat} {cap base n g' z:Nat} {S3:Nat->Prop} (hf:(B=none/\gs=[]/\cap=0)\/ ∃g,B=some ⟨g,0,none⟩/\base<=g/\g<n/\gs.length<=cap) (hr: ∀b,B=some ⟨b,0,none⟩-> ¬S3 b) (wC:B.map (·.block)=some g'\/g'=z) (hl: ∀b,S3 b->b<z):
  ∀b,some (⟨g',0,none⟩:Addr)=some ⟨b,0,none⟩-> ¬S3 b:=fun b hb=>by
 injection hb with hb;injection hb with hb;subst hb;rcases wC with h|h
 ·rcases hf with⟨h1,_⟩|⟨g,h1,_⟩
  ·rw[h1]at h;cases h
  ·rw[h1]at h;simp only[Option.map_some,Option.some.injEq]at h;subst h;exact hr _ h1
 ·exact fun e=>by have:=hl _ e;omega
theorem td (h:f<1024):bits .or .u64 ((f:Int)*4096) 1=((f*4096+1:Nat):Int):=by
 have e:((f:Int)*4096)=((f*4096:Nat):Int):=(by omega);have e3:(1:Int)=((1:Nat):Int):=rfl;rw[e,e3,bits_or_u64_nat _ _ (by omega) (by omega)];have:=Nat.two_pow_add_eq_or_of_lt (i:=12) (b:=1) (by decide) f;rw[Nat.mul_comm f 4096];exact congrArg _ this.symm
theorem jG {w:World} {b:Nat} {pg k:Nat} {T:TypeId} {fr:Nat×Nat} (h:w.heap[b]? =some (.cells #[.int .i64 ((num pg 4:Nat):Int), .int .i64 ((num pg 3:Nat):Int), .int .i64 ((num pg 2:Nat):Int), .int .i64 ((num pg 1:Nat):Int)] T fr)) (hk:k<4):
  w.cell? ⟨b,k,none⟩=some (.int .i64 ((num pg (4-k):Nat):Int)):=by
 rw[aa h k];rcases(show k=0\/k=1\/k=2\/k=3 by omega)with rfl|rfl|rfl|rfl<;>rfl
theorem Tab.on_k (t:Tab) (pg k:Nat) (h:k<3):t.on pg (4-k)=match t.nd (3-k) (part pg (3-k))with|some f=>f*4096+1|none=>0:=by
 rw[Tab.on_more _ _ _ (by omega),show 4-k-1=3-k from by omega];cases t.nd (3-k) (part pg (3-k))<;>rfl
theorem lh (t c a root fs m:Nat) (clock:Int) (A fr q:Int) (cp:Bool) (w:World) (S:Nat->Prop) (p:Pool) (T:Tab) (L:List Slot) (hold:Nat->Nat) (pg0:Nat) (l:Leaf)
  (h:ar w S c a fs m clock p L) (ht:am w t c a root) (zJ: ¬S t) (htm:t≠m) (hg:T.Good p (held L hold) pg0 4) (hr:T.nd 4 0=some root) (yv:0<=A) (hA:A<140737488355328) (Hl:A % 4096=0) (h7: ¬7<q) (LD:bC p fr≠0)
  (vY:(T.lf (A.toNat/4096)).isSome=false) (xU:fr=(l.frame:Int)) (hq:q=(l.prot:Int)) (xl:cp=l.copy) (Dh:l.frame<p.n) (wM:1<=p.cnt l.frame) (wB:p.cnt l.frame+1<1000000000000):
  Calls Tryz.prog 72 #[.pointer (some ⟨t,0,none⟩), .int .u64 A, .agg #[.int .i64 fr, .int .u8 q, .bool cp]] w (MapPost2 w S c a fs m clock p T L hold (A.toNat/4096) l):=by
 have CX:=uH xU;have HQ:=uH hq;have Qy:=uH xl;clear xU hq xl;have wv:t<w.heap.size:=(uG ht).1;have RM:=hg.tree hr;have yg:A.toNat/4096<bG:=(by unfold bG;omega);obtain⟨w0,vl⟩: ∃w0,w0=w.alloc (.cells #[.int .i64 fr, .int .u8 q, .bool cp] 83):=⟨_,rfl⟩;have wR:Below w.heap.size w w0:=(by rw[vl];exact uJ);have AX:w0.heap.size=w.heap.size+1:=(by rw[vl];simp);have zV:w0.heap[w.heap.size]? =some (.cells #[.int .i64 fr, .int .u8 q, .bool cp] 83 (0,0)):=(by rw[vl];exact leafBox);have yo:am w0 t c a root:=(wR.block t wv).trans ht;have d1: ∀d os,(grow (redrawn w0 d) os).cell? ⟨w.heap.size,0,none⟩=some (.int .i64 fr):=fun d os=>cell_regrown (aa zV 0) d os;have d2: ∀d os,(grow (redrawn w0 d) os).cell? ⟨w.heap.size,1,none⟩=some (.int .u8 q):=fun d os=>cell_regrown (aa zV 1) d os;have d3: ∀d os,(grow (redrawn w0 d) os).cell? ⟨t,1,none⟩=some (.pointer (some ⟨a,0,none⟩)):=fun d os=>cell_regrown (aa yo 1) d os;have hC:=fun d os=>Calls.regrown_of ((gO a fr (grow (redrawn w0 d) os) S p ((h.pool.below wR).below (below_regrown w0 d os))).mono fun _ _ ⟨h1,h2⟩=>⟨h1,h2▸vg _ _⟩);have HC:=uH hC;have vF:=uH vl;have Wz:=uH yo;have FT:=uH zV;have H:=uH h;have HG:=uH hg;have HR:=uH hr;have FQ:=uH vY;have yQ:=uH AX;have HA0:=uH yv;have HA:=uH hA;have g1:decide (140737488355328<=A)=false:=uX (by omega);have g2:(A.tmod 4096 != 0)=false:=(by rw[Int.tmod_eq_emod_of_nonneg yv,Hl];rfl);have g3:decide (7<q)=false:=uX h7;have g4:(((bC p fr:Nat):Int)==0)=false:=(by rw[uW];omega);clear vl h ht zV hC yo hg hr vY AX hA yv Hl h7;go_enter Tryz.func72,Tryz.ntmps72;go_upto_region 1 with(fail);rw[<-vF.out];go_wp2_with fail;refine(cL t c a root _ Wz.out).mono ?_;rintro e w1 ⟨rfl,rfl⟩;go_upto_region 3 with(fail);refine wp_region_quiet_below (by kernel_rfl) (by kernel_rfl) ?_;(repeat(go_big_quiet_step ((exact HC.out _ _))));refine wpQuiet_nil ?_;intro _ xt;obtain⟨⟨dq,osq⟩,hw''⟩:=xt;subst hw'';have vs:=below_regrown (w0) dq osq;generalize grow (redrawn (w0) dq) osq=w2 at vs⊢;clear d1 d2 d3;go_wp2_with fail;refine(ld A w2 HA0.out (by have:=HA.out;omega)).mono ?_;rintro e w3 ⟨rfl,vG⟩;unfold wayA;go_upto_region 6 with(fail);obtain⟨w4,yq⟩: ∃w4,w4=w3.alloc (.cells #[.int .i64 ((num (A.toNat/4096) 4:Nat):Int), .int .i64 ((num (A.toNat/4096) 3:Nat):Int), .int .i64 ((num (A.toNat/4096) 2:Nat):Int), .int .i64 ((num (A.toNat/4096) 1:Nat):Int)] 212):=⟨_,rfl⟩;rw[<-yq];have xe:Below w.heap.size w w2:=wR.trans (vs.mono wR.size);have Ds:Below w.heap.size w w3:=xe.trans (vG.mono xe.size);have Ct:Below w.heap.size w w4:=(by rw[yq];exact Ds.alloc Ds.size _);have IZ:w4.heap[w3.heap.size]? =some (.cells #[.int .i64 ((num (A.toNat/4096) 4:Nat):Int), .int .i64 ((num (A.toNat/4096) 3:Nat):Int), .int .i64 ((num (A.toNat/4096) 2:Nat):Int), .int .i64 ((num (A.toNat/4096) 1:Nat):Int)] 212 (0,0)):=(by rw[yq];exact ab _ _);have Lv:w4.heap[w.heap.size]? =some (.cells #[.int .i64 fr, .int .u8 q, .bool cp] 83 (0,0)):=by
  have h0:=yQ.out;have h2:=vs.size;have h3:=vG.size;have e4:w4.heap[w.heap.size]? =w3.heap[w.heap.size]? :=(by rw[yq];exact uL _ _ _ (by omega));exact e4.trans ((vG.block _ (by omega)).trans ((vs.block _ (by omega)).trans FT.out))
 have Xo:w3.heap.size<w4.heap.size:=(by rw[yq];simp);have EG:am w4 t c a root:=(Ct.block t wv).trans ((wR.block t wv).symm.trans Wz.out);have d0: ∀d os,(grow (redrawn w4 d) os).cell? ⟨w3.heap.size,0,none⟩=some (.int .i64 ((num (A.toNat/4096) 4:Nat):Int)):=fun d os=>cell_regrown (aa IZ 0) d os;have d1: ∀d os,(grow (redrawn w4 d) os).cell? ⟨w3.heap.size,1,none⟩=some (.int .i64 ((num (A.toNat/4096) 3:Nat):Int)):=fun d os=>cell_regrown (aa IZ 1) d os;have d2: ∀d os,(grow (redrawn w4 d) os).cell? ⟨w3.heap.size,2,none⟩=some (.int .i64 ((num (A.toNat/4096) 2:Nat):Int)):=fun d os=>cell_regrown (aa IZ 2) d os;have d3: ∀d os,(grow (redrawn w4 d) os).cell? ⟨w3.heap.size,3,none⟩=some (.int .i64 ((num (A.toNat/4096) 1:Nat):Int)):=fun d os=>cell_regrown (aa IZ 3) d os;have d4: ∀d os,(grow (redrawn w4 d) os).cell? ⟨t,2,none⟩=some (.int .i64 (root:Int)):=fun d os=>cell_regrown (aa EG 2) d os;have hD:=fun d os=>Calls.regrown_of ((lU t c a root (A.toNat/4096) (grow (redrawn w4 d) os) S p T ((H.out.pool.below Ct).below (below_regrown w4 d os)) (((below_regrown w4 d os).block t (uO wv Ct.size)).trans EG) RM yg).mono fun _ _ ⟨h1,h2⟩=>⟨h1,h2⟩);unfold wayA at hD;have HD:=uH hD;have Mc:=uH IZ;have Mg:=uH Lv;have KU:=uH EG;have wu:=uH Ct;have xq:=Ds.size;have IL:w.heap.size<w3.heap.size:=(by have:=yQ.out;have:=vs.size;have:=vG.size;omega);clear hD IZ Lv EG yq wR xe Ds Ct vs vG;refine wp_region_quiet_below (by kernel_rfl) (by kernel_rfl) ?_;(repeat(go_big_quiet_step ((exact HD.out _ _))));refine wpQuiet_nil ?_;intro _ xt;obtain⟨⟨dq,osq⟩,hw''⟩:=xt;subst hw'';have AT:=below_regrown (w4) dq osq;generalize grow (redrawn (w4) dq) osq=w6 at AT⊢;clear d0 d1 d2 d3 d4;have QG:=AT.size;have YU:Below w.heap.size w w6:=wu.out.trans (AT.mono (by omega));rw[FQ.out];go_upto_region 9 with(fail);have YS:=H.out.below YU;have PE:am w6 t c a root:=(AT.block t (by omega)).trans KU.out;have hp6:=(AT.block w3.heap.size (by omega)).trans Mc.out;have xX:=(AT.block w.heap.size (by omega)).trans Mg.out;have d0:w6.cell? ⟨t,1,none⟩=some (.pointer (some ⟨a,0,none⟩)):=aa PE 1;have d1:w6.cell? ⟨w.heap.size,0,none⟩=some (.int .i64 fr):=aa xX 0;have FB: ¬S w3.heap.size:=fun e=>by have:=H.out.pool.low _ e;omega
 have zo: ¬S w.heap.size:=fun e=>by have:=H.out.pool.low _ e;omega
 have yk:=up_yes a l.frame w6.drew S p (YS.pool.drew) (by rw[bj];exact uY ⟨Dh,wM⟩) wB;rw[<-CX.out]at yk;have LS:=uH yk;have VD:=uH YS;have Zl:=uH PE;have Mb:=uH hp6;have Rv:=uH xX;clear yk YS PE hp6 xX
 go_still_tail 6,(by kernel_rfl)
 go_wp2_with fail;refine(LS.out).mono ?_;rintro e w7 ⟨rfl,PH,SM⟩;have wI:=SM.undrew;have Od:=wI.size;have hC7:=VD.out.turn wI PH (Out.refl _ _);have PD:am w7 t c a root:=(wI.block t (by omega) zJ).trans Zl.out;have QP:=(wI.block w3.heap.size (by omega) FB).trans Mb.out;have Ie:=(wI.block w.heap.size (by omega) zo).trans Rv.out;have PN:=HG.out.up l.frame;rw[held_upd]at PN;generalize hp1:p.up l.frame=p1 at *
 generalize OZ:upd hold l.frame (hold l.frame+1)=zL at *
 have e2:w7.cell? ⟨t,2,none⟩=some (.int .i64 (root:Int)):=aa PD 2;have VC:=uH hC7;have HT7:=uH PD;have EW:=uH QP;have Ru:=uH Ie;have Vu:=uH PN;have Dy:=uH hp1;have GI:=uH OZ;have DE:=PN.way (A.toNat/4096);clear PH SM hC7 PD QP Ie PN d0 d1 hp1 OZ
 go_upto_block 1 with(fail)
 go_cut [10,11] (fun n d wx=> ∃k g:Nat,n= .int .i64 (g:Int)/\d= .int .i64 (k:Int)/\k<=3/\T.nd (4-k) (part (A.toNat/4096) (4-k))=some g/\(k=3\/T.nd (3-k) (part (A.toNat/4096) (3-k))=none)/\Below w7.heap.size w7 wx)
 case first=>
  go_wp2_with fail;go_loopw [10,11] (fun n d wr=> ∃k g:Nat,n= .int .i64 (g:Int)/\d= .int .i64 (k:Int)/\k<=3/\T.nd (4-k) (part (A.toNat/4096) (4-k))=some g/\Below w7.heap.size w7 wr) (fun _ d _ =>3-(intOf d).toNat)
  case atStart=>exact⟨0,root,rfl,rfl,by omega,by rw[show 4-0=4 from rfl,gE _ yg];exact HR.out,vg _ _⟩
  case round=>
   obtain⟨k,g,rfl,rfl,hk,ER,hb⟩:=hrel;obtain⟨n1,n2,n3⟩:=DE.node (4-k) g (by omega) (by omega) ER;have GD:=uH ER;have KW:=uH n3;clear ER n3;by_cases vo:k<3
   ·have GP:wr.cell? ⟨w3.heap.size,k,none⟩=some (.int .i64 ((num (A.toNat/4096) (4-k):Nat):Int)):=jG ((hb.block _ (by omega)).trans EW.out) (by omega);obtain⟨nm,GU⟩: ∃nm,nm=num (A.toNat/4096) (4-k):=⟨_,rfl⟩;rw[<-GU]at GP;have OK:nm<512:=(by rw[GU];exact bR _ _);have WC:=uH GU;clear GU;go_wp2_with fail;refine(bJ t c a root g nm wr S p1 (VC.out.pool.below hb) ((hb.block t (by omega)).trans HT7.out) n1 n2 OK).mono ?_;rintro e w8 ⟨rfl,QW⟩;have ED:Below w7.heap.size w7 w8:=hb.trans (QW.mono hb.size);cases zz:T.nd (3-k) (part (A.toNat/4096) (3-k))with
    |none=>
     have e0:word (p1.dat g) nm=0:=(by rw[WC.out,KW.out,Tab.on_k _ _ _ vo,zz]);have VB:=uH zz;clear zz;rw[e0];have hz:=gQ;go_wp2_with fail
     go_meet
     exact⟨k,g,rfl,rfl,hk,GD.out, .inr VB.out,ED⟩
    |some g'=>
     have e0:word (p1.dat g) nm=g'*4096+1:=(by rw[WC.out,KW.out,Tab.on_k _ _ _ vo,zz]);obtain⟨m1,m2,_⟩:=DE.node (3-k) g' (by omega) (by omega) zz;have vH:=DE.few;obtain⟨x,hx⟩: ∃x,x=g'*4096+1:=⟨_,rfl⟩;rw[e0,<-hx];have ze:x<18446744073709551616:=(by omega);have Fl:=fg ze (by omega);have RY:((x:Int)/4096)=(g':Int):=(by omega);have Ho:=uH RY;have VB:=uH zz;clear zz hx e0 RY;go_wp2_with fail;go_roundw
     case rel=>exact⟨k+1,g',by first|rw[Ho.out]|rfl,by go_num,by omega,by rw[show 4-(k+1)=3-k from by omega];exact VB.out,ED⟩
     case measure=>simp[intOf];omega
   ·obtain rfl:k=3:=(by omega);go_wp2_with fail
    go_meet
    exact⟨3,g,rfl,rfl,by omega,GD.out, .inl rfl,hb⟩
 case rest=>
  obtain⟨k,g,rfl,rfl,hk,ER,Ey,hb⟩:=hcut;have SJ:=VC.out.lts.2.1;have hzc:=hb.size;have GD:=uH ER;have ZU:=uH Ey;have HB:=uH hb;have yo:=Took.nil Vu.out VC.out.slots.sole (A.toNat/4096);have Nz:=uH yo;have h3:w3.heap.size≠m:=(by have:=H.out.lts.2.1;omega);have h0:w.heap.size≠m:=(by have:=H.out.lts.2.1;omega);have ht7:t<w7.heap.size:=(by omega);have h37:w3.heap.size<w7.heap.size:=(by omega);have h07:w.heap.size<w7.heap.size:=(by omega);have AE: ∀w' S',Mod (Both S m) w7 w'->Out S S' w7->am w' t c a root/\w'.heap[w3.heap.size]? =w7.heap[w3.heap.size]? /\w'.heap[w.heap.size]? =w7.heap[w.heap.size]? /\ ¬S' t/\ ¬S' w3.heap.size/\ ¬S' w.heap.size/\w7.heap.size<=w'.heap.size:=fun w' S' hm ho=>
   ⟨(hm.block t ht7 (fun e=>e.elim zJ htm)).trans HT7.out,hm.block _ h37 (fun e=>e.elim FB h3),hm.block _ h07 (fun e=>e.elim zo h0),fun e=>(ho _ e).elim zJ (by omega),fun e=>(ho _ e).elim FB (by omega),fun e=>(ho _ e).elim zo (by omega),hm.size⟩
  have GG:=uH AE;clear ER Ey yo AE hb e2;obtain⟨pgA,Ah⟩: ∃pgA,pgA=A.toNat/4096:=⟨_,rfl⟩;rw[<-Ah]at Nz;have LZ:=uH Ah;clear Ah;go_wp2_with fail;go_loopw [13,88] (fun v i wr=> ∃(gs:List Nat) (A:Option Addr) (cap:Nat) (p2:Pool) (L2:List Slot) (S2:Nat->Prop),v= .slice A gs.length cap/\i= .int .i64 (gs.length:Int)/\gs.length<=3-k/\OwnN wr w7.heap.size A cap gs/\(∀b,A=some ⟨b,0,none⟩-> ¬S2 b)/\ar wr S2 c a fs m clock p2 L2/\Mod (Both S m) w7 wr/\Out S S2 w7/\Took T p1.n p1.left p1.dat L zL pgA gs p2 L2)
   (fun _ i _ =>3-(intOf i).toNat)
  case atStart=>exact⟨[],none,0,p1,L,S,rfl,rfl,vd _,OwnN.nil _ _,(fun b e=>by cases e),VC.out.below HB.out,Mod.of HB.out,Out.refl _ _,Nz.out⟩
  case round=>
   obtain⟨gs,B,cap,p2,L2,S2,rfl,rfl,hle,vA,vM,CO,vy,Ba,Mz⟩:=hrel;obtain⟨k1,k2,k3,k4,k5,k6,k7⟩:=GG.out _ _ vy Ba;by_cases vo:gs.length<3-k
   ·have e0:wr.cell? ⟨t,0,none⟩=some (.pointer (some ⟨c,0,none⟩)):=aa k1 0;have xF:=uH CO;have Ip:=uH Mz;have K1:=uH k1;have K2:=uH k2;have K3:=uH k3;have yx:=uH vA;have AW:=uH vM;clear k1 k2 k3 CO Mz vA vM;go_wp2_with fail;refine(fc c a fs m clock wr S2 p2 L2 xF.out).mono ?_;rintro e w8 ⟨r,f,p3,L3,S3,rfl,Bf,xh,AZ,vw⟩;have xq:=xh.size;have SN:Mod (Both S m) w7 w8:=vy.trans (fun b e=>by
     rcases e with h|h
     ·exact(Ba b h).imp .inl (fun h=>ve (uK _) h)
     ·exact .inl (.inr h)) xh
    have Sx:Out S S3 w7:=Ba.trans AZ k7;have MI:OwnN w8 w7.heap.size B cap gs:=yx.out.same fun b hb=>xh.block b (by
     rcases yx.out.form with⟨h,_⟩|⟨g1,h,_,h5,_⟩
     ·rw[h]at hb;cases hb
     ·rw[h]at hb;injection hb with hb;injection hb with hb;omega) (fun e=>e.elim (AW.out b hb) (fun e2=>by
     rcases yx.out.form with⟨h,_⟩|⟨g1,h,h4,h5,_⟩
     ·rw[h]at hb;cases hb
     ·rw[h]at hb;injection hb with hb;injection hb with hb;omega))
    have Ea: ∀b,B=some ⟨b,0,none⟩-> ¬S3 b:=fun b hb e=>by
     rcases AZ b e with h|h
     ·exact AW.out b hb h
     ·rcases yx.out.form with⟨h4,_⟩|⟨g1,h4,_,h5,_⟩
      ·rw[h4]at hb;cases hb
      ·rw[h4]at hb;injection hb with hb;injection hb with hb;omega
    have FW:=uH Bf;have CU:=uH MI;have Kp:=uH Ea;have Bi:=uH SN;have FM:=uH Sx;clear Bf MI Ea SN Sx;rcases vw.two with rfl|⟨rfl,rfl,rfl,rfl⟩
    ·have vT:=uH vw;have SS: ∀b,S3 b->b<w8.heap.size:=FW.out.pool.low;have yK:=FW.out.lts;have MX: ∀w9 w10,Below w8.heap.size w8 w9->w9.grownBy w10 (B.map (·.block))->ar w10 S3 c a fs m clock p3 L3/\Mod (Both S m) w7 w10:=fun w9 w10 h9 Kh=>by
      have DZ: ∀b,B.map (·.block)=some b->w7.heap.size<=b/\ ¬S3 b:=fun b hb=>by
       rcases yx.out.form with⟨h,_⟩|⟨g1,h,h4,h5,_⟩
       ·rw[h]at hb;cases hb
       ·rw[h]at hb;simp only[Option.map_some,Option.some.injEq]at hb;subst hb;exact⟨h4,Kp.out _ h⟩
      have xA:Mod (fun b=>B.map (·.block)=some b) w9 w10:=⟨Kh.os,Kh.tape,Kh.output,Kh.size,fun b hb hn=>Kh.block b hb (fun e=>hn e.symm)⟩;refine⟨(FW.out.below h9).mod xA (fun b hb e=>(DZ b e).2 hb) (fun e=>by have:=(DZ 0 e).1;omega) (fun e=>by have:=(DZ c e).1;have:=VC.out.lts.1;omega) (fun e=>by have:=(DZ m e).1;omega),?_⟩;have PV:Mod (fun b=>Both S m b\/w7.heap.size<=b) w7 w10:=(Bi.out.sub fun b hb=> .inl hb).trans (Out.refl _ _) ((Mod.of h9).trans (Out.refl _ _) (xA.sub fun b hb=> .inr (DZ b hb).1));exact⟨PV.os,PV.tape,PV.output,PV.size,fun b hb hn=>PV.block b hb (fun e=>e.elim hn (fun e=>by omega))⟩
     have Vr:=uH MX;clear vw MX;go_wp2_with (first
      |(at_builtin;refine oX rfl (.tmp 121) (.tmp 123) rfl w7.heap.size B cap gs rfl (CU.out.alloc _) f w8.heap.size 1 rfl (ab _ _) (by omega) (by simp;omega) ?_;intro g' vh w10 Lm Tq Nn hlt10;have KO:=Vr.out _ _ ((vg w8.heap.size w8).alloc (uK _) _) Tq;have hrw: ∀b,some (⟨g',0,none⟩:Addr)=some ⟨b,0,none⟩-> ¬S3 b:=row_not yx.out.form Kp.out Nn (fun b hb=>by have:=SS b hb;simp;omega);have HGR:=uH KO;have HRW:=uH hrw;have ZC:=uH Lm;clear KO hrw Lm Tq Nn)
      |fail)
     go_roundw
     case rel=>exact⟨gs++[f],some ⟨g',0,none⟩,vh,p3,L3,S3,by rw[uM];rfl,by rw[uM];go_num,by rw[uM];simp;omega,ZC.out,HRW.out,HGR.out.1,HGR.out.2,FM.out,Ip.out.step vT.out⟩
     case measure=>simp[intOf];omega
    ·have Uo:=CU.out.form;have TS:am w8 t c a root:=(GG.out _ _ Bi.out FM.out).1;have MU:=((GG.out _ _ Bi.out FM.out).2.2.1).trans Ru.out;obtain⟨s1,s2,s3,s4⟩:=(GG.out _ _ Bi.out FM.out).2.2.2;have HT8:=uH TS;have HL8:=uH MU;have HBF:=uH Uo;have ht8:t<w8.heap.size:=(by omega);have h08:w.heap.size<w8.heap.size:=(by omega);have Oc:w7.heap.size<=w8.heap.size:=s4;have Wi:gs.length<=3:=(by omega);have Jo: ∀s∈L,s∉L3->Loose T L hold s:=fun s GO DH=>by
      obtain⟨l1,l2,l3,l4⟩:=Ip.out.drop s GO DH;refine⟨l1,l2,l3,?_⟩;rw[<-GI.out]at l4;by_cases e:s.frame=l.frame
      ·rw[e,af]at l4;omega
      ·rwa [ag _ _ e]at l4
     have Qq:=uH Jo;clear Jo;have Eu: ∃gs:List Nat,gs.length<=2/\ ∀f,f<p.n->ax L f<=1->0<ah T f+ay T f+hold f\/f=l.frame\/f∈gs:=by
      refine⟨gs,by omega,fun f hf hs=>?_⟩;rcases Ip.out.full vw (f:=f) (by rw[<-Dy.out];exact hf) hs with h9|h9
      ·by_cases e:f=l.frame
       ·exact .inr (.inl e)
       ·left;rw[<-GI.out,ag _ _ e]at h9;exact h9
      ·exact .inr (.inr h9)
     have KC:=uH Eu;clear Eu;have Oz:p.left<=2:=by
      have h1:=Ip.out.room;have h2:=vw.full;have h3:p1.left=p.left:=(by rw[<-Dy.out];exact te wM);omega
     clear TS MU Uo vw;go_wp2_with fail;go_loopw [102] (fun i wx=> ∃(j:Nat) (p4:Pool),i= .int .i64 (j:Int)/\j<=gs.length/\ar wx S3 c a fs m clock p4 L3/\Mod S3 w8 wx/\Undo T p1.n p1.dat L3 zL pgA (gs.drop j) p4) (fun i _ =>3-(intOf i).toNat)
     case atStart=>exact⟨0,_,rfl,vd _,FW.out,Mod.refl _ _,Ip.out.undo⟩
     case round=>
      obtain⟨j,p4,rfl,hj,CN,wP,DF⟩:=hrel;have BX:=uH CN;have Kl:=uH DF;have EJ:=uH wP;clear CN DF;by_cases Ck:j<gs.length
      ·obtain⟨f1,AJ⟩: ∃f1,gs[j]? =some f1:=⟨gs[j],uN Ck⟩;have wU:gs.drop j=f1::gs.drop (j+1):=by
        rw[List.drop_eq_getElem_cons Ck];congr 1;have:=uN Ck;rw[AJ]at this;injection this with this;exact this.symm
       rcases HBF.out with⟨h,h2,_⟩|⟨g1,AV,xH,xu,Cd⟩
       ·rw[h2]at Ck;cases Ck
       ·have Lg:=Kl.out;rw[wU]at Lg;obtain⟨v1,v2⟩:=Lg.live;have Zj:=uH Lg.step;have yE:OwnN wr w7.heap.size B cap gs:=CU.out.same fun b hb=>wP.block b (by rw[AV]at hb;injection hb with hb;injection hb with hb;omega) (Kp.out b hb);have e1:wr.cell? ⟨t,1,none⟩=some (.pointer (some ⟨a,0,none⟩)):=aa ((wP.block t ht8 s1).trans HT8.out) 1;subst AV;have e5:wr.cell? ⟨g1,j,none⟩=some (.int .i64 (f1:Int)):=yE.elem AJ;clear AJ wU Lg yE Kl;go_wp2_with fail;refine(cV a f1 wr S3 p4 BX.out.pool v1 v2).mono ?_;rintro e w9 ⟨rfl,JX,yI⟩;go_wp2_with fail;go_roundw
        case rel=>exact⟨j+1,_,by go_num,by omega,BX.out.turn yI JX (Out.refl _ _),EJ.out.trans (Out.refl _ _) yI,Zj.out⟩
        case measure=>simp[intOf];omega
      ·obtain rfl:j=gs.length:=(by omega);have IC:=Kl.out;rw[List.drop_length]at IC;have xu:=IC.good;rw[lC]at xu;have hh:0<zL l.frame:=(by rw[<-GI.out,af];omega);have El:p4.n=p1.n:=IC.n;have GV:p1.n=p.n:=(by rw[<-Dy.out];rfl);have BB:=xu.cnt l.frame (by omega);have Cd:=xu.down (f:=l.frame) (by unfold held;omega);rw[eY _ _ _ hh]at Cd;have zn:upd zL l.frame (zL l.frame-1)=hold:=by
        rw[<-GI.out,af];funext x;by_cases e:x=l.frame
        ·subst e;rw[af];omega
        ·rw[ag _ _ e,ag _ _ e]
       rw[zn]at Cd;have MV: ∀x,¬an T x->(x=l.frame\/0<hold x+ah T x+ax L3 x)->p4.dat x=p.dat x:=fun x _ hx=>by
        have h9:=IC.dat x (by rw[<-GI.out];by_cases e:x=l.frame;(· subst e;rw[af];omega);(· rw[ag _ _ e];exact hx.resolve_left e));rw[h9,<-Dy.out];rfl
       have Vm:=uH MV;clear MV;have IK:=Ip.out.sole;have DX:=Ip.out.sub;have hTx:am wr t c a root:=(wP.block t ht8 s1).trans HT8.out;have MR:=(wP.block _ h08 s3).trans HL8.out;have d0:wr.cell? ⟨t,1,none⟩=some (.pointer (some ⟨a,0,none⟩)):=aa hTx 1;have d1:wr.cell? ⟨w.heap.size,0,none⟩=some (.int .i64 fr):=aa MR 0;have Lz:=cV a l.frame wr.drew S3 p4 BX.out.pool.drew (by omega) (by unfold held at BB;omega);rw[<-CX.out]at Lz;have NY:=uH Lz;have HG3:=uH Cd;clear IC xu BB Cd hTx MR Lz zn;go_upto_region 27 with(fail)
       go_still_tail 6,(by kernel_rfl)
       go_wp2_with fail;refine(NY.out).mono ?_;rintro e w9 ⟨rfl,JX,Ls⟩;have yI:=Ls.undrew;go_wp2_with fail;go_ret;have OO:Mod (Both S m) w w7:=(Mod.of YU).trans (Out.refl _ _) (wI.sub fun b hb=> .inl hb);have hz7w:w.heap.size<=w7.heap.size:=(by omega);exact⟨4,_,T,_,S3,rfl,BX.out.turn yI JX (Out.refl _ _),(OO.trans (Out.refl _ _) Bi.out).trans (fun b hb=>(FM.out b hb).imp .inl (fun h=>by omega)) (EJ.out.trans (Out.refl _ _) yI),fun b hb=>(FM.out b hb).imp id (fun h=>by omega),⟨by rw[LZ.out]at HG3;exact HG3.out,by show p4.n=p.n;omega,IK,DX, .inl ⟨rfl,rfl,Oz,Qq.out⟩⟩,Vm.out, .inl ⟨rfl,KC.out⟩⟩
   ·have heq:gs.length=3-k:=Nat.le_antisymm hle (Nat.le_of_not_lt vo);have Km:=uH Mz;have Uo:=vA.form;have zi:=el.start Mz (d:=k) (g:=g) (by rw[heq];exact Nat.add_sub_cancel' hk) (by rw[LZ.out];exact GD.out) (by rw[LZ.out];exact ZU.out);have vV:=k3.trans Ru.out;have hp2:=k2.trans EW.out;obtain⟨wl,hwl⟩: ∃wl,wl=wr:=⟨_,rfl⟩;subst hwl;have xF:=uH CO;have HLK:=uH zi;have FR:=uH vV;have NF:=uH hp2;have Rp:=uH k1;have HBF:=uH Uo;have yx:=uH vA;have AW:=uH vM;have htl:t<wl.heap.size:=(by omega);have h3l:w3.heap.size<wl.heap.size:=(by omega);have h0l:w.heap.size<wl.heap.size:=(by omega);clear CO zi vV hp2 k1 k2 k3 Uo vA vM Mz;go_wp2_with fail;go_loopw [10,11,128] (fun nn dd i wx=> ∃(j d g4:Nat) (p4:Pool) (T4:Tab),nn= .int .i64 (g4:Int)/\dd= .int .i64 (d:Int)/\i= .int .i64 (j:Int)/\d=k+j/\j<=gs.length/\ar wx S2 c a fs m clock p4 L2/\Mod S2 wl wx/\el T p1.n p1.left p1.dat L2 zL pgA d g4 (gs.drop j) p4 T4) (fun _ _ i _ =>3-(intOf i).toNat)
    case atStart=>exact⟨0,k,g,p2,T,rfl,rfl,rfl,rfl,vd _,xF.out,Mod.refl _ _,HLK.out⟩
    case round=>
     obtain⟨j,d,g4,p4,T4,rfl,rfl,rfl,Tz,hj,CN,wP,OQ⟩:=hrel;have BX:=uH CN;have DA:=uH OQ;have EJ:=uH wP;have KU:=uH ((wP.block t htl k4).trans Rp.out);have Wb:=(wP.block _ h3l k5).trans NF.out;have MR:=(wP.block _ h0l k6).trans FR.out;obtain⟨v1,v2⟩:=OQ.live;clear CN OQ;by_cases Ck:j<gs.length
     ·obtain⟨f1,AJ⟩: ∃f1,gs[j]? =some f1:=⟨gs[j],uN Ck⟩;have wU:gs.drop j=f1::gs.drop (j+1):=by
       rw[List.drop_eq_getElem_cons Ck];congr 1;have:=uN Ck;rw[AJ]at this;injection this with this;exact this.symm
      rcases HBF.out with⟨h,h2,_⟩|⟨g1,AV,xH,xu,Cd⟩
      ·rw[h2]at Ck;cases Ck
      ·have Js:=DA.out;rw[wU]at Js;have CI:=(Js.each f1 (vc ..)).1;have El:p4.n=p1.n:=Js.n;have vH:=DE.few;have Yg:f1<1024:=(by omega);have hd3:d<3:=(by omega);have ZL:=uH Js.step;have yE:OwnN wr w7.heap.size B cap gs:=yx.out.same fun b hb=>wP.block b (by rw[AV]at hb;injection hb with hb;injection hb with hb;omega) (AW.out b hb);subst AV;have e5:wr.cell? ⟨g1,j,none⟩=some (.int .i64 (f1:Int)):=yE.elem AJ;have GP:wr.cell? ⟨w3.heap.size,d,none⟩=some (.int .i64 ((num (A.toNat/4096) (4-d):Nat):Int)):=jG Wb (by omega);obtain⟨nm,GU⟩: ∃nm,nm=num (A.toNat/4096) (4-d):=⟨_,rfl⟩;rw[<-GU]at GP;have OK:nm<512:=(by rw[GU];exact bR _ _);have Cj:=td Yg;have WC:=uH GU;have PY:=uH Cj;have HDK:=uH Tz;have HEQ:=uH heq;clear AJ wU Js yE DA GU Cj Wb MR Tz heq El;go_wp2_with fail;rw[PY.out];refine(gn t c a root g4 nm (f1*4096+1) wr S2 p4 BX.out.pool KU.out (by have:=wP.size;omega) v1 v2 OK (by omega)).mono ?_;rintro e w9 ⟨rfl,JX,yI⟩;go_wp2_with fail;go_roundw
       case rel=>exact⟨j+1,d+1,f1,_,_,rfl,by go_num,by go_num,by have:=HDK.out;omega,by omega,BX.out.turn yI JX (Out.refl _ _),EJ.out.trans (Out.refl _ _) yI,by rw[WC.out,<-LZ.out];exact ZL.out⟩
       case measure=>simp[intOf];omega
     ·obtain rfl:j=gs.length:=(by omega);obtain rfl:d=3:=(by omega);have Jr:=DA.out;rw[List.drop_length]at Jr;have GV:p1.n=p.n:=(by rw[<-Dy.out];rfl);have hh:0<zL l.frame:=(by rw[<-GI.out,af];omega);have QP:l.prot<=7:=by
       have h9:=of_decide_eq_false g3;rw[HQ.out]at h9;omega
      have vE:T.lf pgA=none:=by
       have h9:=FQ.out;rw[LZ.out];cases hc:T.lf (A.toNat/4096)with
       |none=>rfl
       |some y=>rw[hc]at h9;cases h9
      have wy:=Jr.fin (by rw[LZ.out];exact yg) vE QP (by rw[GV];exact Dh) hh;have zn:upd zL l.frame (zL l.frame-1)=hold:=by
       rw[<-GI.out,af];funext x;by_cases e:x=l.frame
       ·subst e;rw[af];omega
       ·rw[ag _ _ e,ag _ _ e]
      rw[zn]at wy;have El:p4.n=p1.n:=Jr.n;have vH:=DE.few;have Ll:=fun W=>my l W QP (by omega);have SZ:l.pack<18446744073709551616:=(by have:=eu l QP (by omega);omega);simp only[<-CX.out,<-HQ.out,<-Qy.out]at Ll;have GP:wr.cell? ⟨w3.heap.size,3,none⟩=some (.int .i64 ((num (A.toNat/4096) 1:Nat):Int)):=jG Wb (by omega);rw[<-LZ.out]at GP;have x0:wr.cell? ⟨w.heap.size,0,none⟩=some (.int .i64 fr):=aa MR 0;have x1:wr.cell? ⟨w.heap.size,1,none⟩=some (.int .u8 q):=aa MR 1;have x2:wr.cell? ⟨w.heap.size,2,none⟩=some (.bool cp):=aa MR 2;have h3r:w3.heap.size<wr.heap.size:=(by have:=wP.size;omega);have Li:t<wr.heap.size:=(by have:=wP.size;omega);have hzl:w7.heap.size<=wl.heap.size:=k7;have SG:p4.n=p.n:=(by omega);have IK:=Km.out.sole;have DX:=Km.out.sub;obtain⟨nm,GU⟩: ∃nm,nm=num pgA 1:=⟨_,rfl⟩;rw[<-GU]at GP wy;have OK:nm<512:=(by rw[GU];exact bR _ _);have Hu:=uH wy;have yZ:(∀x,¬an T x->(x=l.frame\/0<hold x+ah T x+ax L2 x)->(p4.store g4 (aE (p4.dat g4) nm l.pack)).dat x=p.dat x)/\(∀x,an (T4.lay pgA (some l)) x->an T x\/(p4.store g4 (aE (p4.dat g4) nm l.pack)).cnt x=1)/\p.left<=(p4.store g4 (aE (p4.dat g4) nm l.pack)).left+3:=by
       obtain⟨f1,f2,f3⟩:=Jr.fin2 (some l) (aE (p4.dat g4) nm l.pack);refine⟨fun x hn hx=>?_,f2,?_⟩
       ·rw[f1 x hn (by rw[<-GI.out];by_cases e:x=l.frame;(· subst e;rw[af];omega);(· rw[ag _ _ e];exact hx.resolve_left e)),<-Dy.out];rfl
       ·have h3:p1.left=p.left:=(by rw[<-Dy.out];exact te wM);omega
      have Qw:=uH yZ;clear yZ;have WA:=uH Ll;have HEQ:=uH heq;have HN:=uH SG;clear Jr GV vE wy zn El Ll Wb MR GU DA heq SG Tz;go_wp2_with fail;go_region_with
       ((
        first
        |(go_at_call 118;refine(WA.out _).mono ?_;rintro e w9 ⟨rfl,Yw⟩;have BG:Below wr.heap.size wr w9:=bu Yw;have hpc':w9.cell? ⟨w3.heap.size,3,none⟩=some (.int .i64 (nm:Int)):=(BG.cell (p:=⟨w3.heap.size,3,none⟩) h3r).trans GP)
        |(go_at_call 112;refine(gn t c a root g4 nm l.pack _ S2 _ (BX.out.pool.below BG) ((BG.block t Li).trans KU.out) (by have:=BG.size;omega) v1 v2 OK SZ).mono ?_;rintro e w10 ⟨rfl,YI,xA⟩)))
      all_goals
       go_wp2_with fail;go_ret;have OO:Mod (Both S m) w w7:=(Mod.of YU).trans (Out.refl _ _) (wI.sub fun b hb=> .inl hb);exact⟨0,_,_,_,S2,rfl,(BX.out.below BG).turn xA YI (Out.refl _ _),(OO.trans (Out.refl _ _) vy).trans (fun b hb=>(Ba b hb).imp .inl (fun h=>by omega)) (EJ.out.trans (Out.refl _ _) ((Mod.of BG).trans (Out.refl _ _) xA)),fun b hb=>(Ba b hb).imp id (fun h=>by omega),⟨by rw[<-LZ.out];exact Hu.out.1,HN.out,IK,DX, .inr ⟨rfl,by rw[<-LZ.out];exact Hu.out.2.1,Hu.out.2.2.1,Hu.out.2.2.2⟩⟩,Qw.out.1, .inr ⟨rfl,Qw.out.2.1,Qw.out.2.2⟩⟩
end
