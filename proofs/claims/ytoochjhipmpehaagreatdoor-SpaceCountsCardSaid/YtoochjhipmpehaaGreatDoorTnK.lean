/- Tables: Map, refused. Tables: Map, whole. -/
import Derived.Test.YtoochjhipmpehaaGreatDoorCaZK
import Derived.Test.YtoochjhipmpehaaGreatDoorTtHK
import Derived.Test.YtoochjhipmpehaaGreatDoorTuAK
import Derived.OwnWalk
set_option linter.unusedVariables false
set_option linter.unusedSimpArgs false
set_option maxRecDepth 100000
set_option maxHeartbeats 4000000
namespace Go.Proofs.YtoochjhipmpehaaGreatDoor
section
open Go.RowKit Go.Sort
theorem leafBox {w:World} {fr q:Int} {cp:Bool} :(w.alloc (.cells #[.int .i64 fr, .int .u8 q, .bool cp] 83)).heap[w.heap.size]? =some (.cells #[.int .i64 fr, .int .u8 q, .bool cp] 83 (0,0)):=ab w _
end
section
open Go.RowKit Go.Sort
theorem map1_any (f k:Int) (w:World):Calls Tryz.prog 127 #[.int .i64 f, .int .i64 k] w fun e w'=>e= .returned (.bool false)/\w'=w:=by
 go_enter Tryz.func127,Tryz.ntmps127;go_wp2_with fail;go_ret;exact⟨rfl,rfl⟩
theorem lY (t c a root pg:Nat) (w:World) (S:Nat->Prop) (p:Pool) (T:Tab) (h:am w S a p) (ht:al w t c a root) (hw:Tree p T root) (yT:pg<bG):
  Calls Tryz.prog 126 #[.pointer (some ⟨t,0,none⟩), .int .i64 (root:Int),wayA pg, .int .i64 0, .func (.func 127) #[] #[]] w
   fun e w'=>e= .returned (.tuple #[.bool (T.lf pg).isSome, .bool false])/\Below w.heap.size w w':=by
 have xf:t<w.heap.size:=(vo ht).1;have hr:T.nd 4 (part pg 4)=some root:=(by rw[gI pg yT];exact hw.root);cases hl:T.lf pg with
 |none=>exact(gQ t c a root root pg _ w S p T h ht xf (hw.way pg) hl hr).mono fun e w' ⟨he,hb⟩=>⟨he,hb⟩
 |some l=>
  obtain⟨q1,IS⟩:=bC (hw.ups pg l hl 1 (by omega) (by omega));exact(kj (bt:=0) (bl:=0) (.inl ⟨rfl,rfl⟩) t c a root root pg (fun w1 w2=>w2=w1) w S p T h ht xf (hw.way pg) (hw.ups pg l hl) l q1 hl IS (fun w1 _ =>map1_any _ _ w1) hr).mono fun e w' ⟨he,w1,hb,hR⟩=>⟨he,by rw[hR];exact hb⟩
end
section
open Go.RowKit Go.Sort
def gV (p:Pool) (T:Tab) (L:List Slot) (hold:Nat->Nat) (pg:Nat) (l:Leaf) (r:Int) (p':Pool) (T':Tab) (L':List Slot):Prop:=
 T'.Good p' (held L' hold) pg 4/\p'.n=p.n/\Sole L'/\L'.Sublist L/\
 ((r=4/\T'=T/\p.left<=2/\ ∀s∈L,s∉L'->Loose T L hold s)\/(r=0/\T'.lf=upd T.lf pg (some l)/\(∀lv q f,T.nd lv q=some f->T'.nd lv q=some f)/\(an T' l.frame->an T l.frame)))
def kD (p:Pool) (T:Tab) (L:List Slot) (hold:Nat->Nat) (l:Leaf) (r:Int) (p':Pool) (T':Tab) (L':List Slot):Prop:=
 (∀x,¬an T x->(x=l.frame\/0<hold x+ah T x+aq L' x)->p'.dat x=p.dat x)/\
 ((r=4/\ ∃gs:List Nat,gs.length<=2/\ ∀f,f<p.n->aq L f<=1->0<ah T f+ay T f+hold f\/f=l.frame\/f∈gs)\/(r=0/\(∀x,an T' x->an T x\/p'.cnt x=1)/\p.left<=p'.left+3))
def MapPost2 (w:World) (S:Nat->Prop) (c a fs m:Nat) (clock:Int) (p:Pool) (T:Tab) (L:List Slot) (hold:Nat->Nat) (pg:Nat) (l:Leaf) (e:Ending) (w':World):Prop:=
 ∃r p' T' L' S',e= .returned (.int .i64 r)/\au w' S' c a fs m clock p' L'/\Mod (Both S m) w w'/\Out S S' w/\gV p T L hold pg l r p' T' L'/\kD p T L hold l r p' T' L'
variable {f:Nat}
theorem ax.two {p p':Pool} {L L':List Slot} {r:Int} (h:ax p L r f p' L'):r=0\/(r=4/\f=0/\p'=p/\L'=L):=by
 cases h
 ·exact .inl rfl
 ·exact .inl rfl
 ·exact .inr ⟨rfl,rfl,rfl,rfl⟩
theorem row_not {B:Option Addr} {gs:List Nat} {cap base n g' z:Nat} {S3:Nat->Prop} (hf:(B=none/\gs=[]/\cap=0)\/ ∃g,B=some ⟨g,0,none⟩/\base<=g/\g<n/\gs.length<=cap) (hr: ∀b,B=some ⟨b,0,none⟩-> ¬S3 b) (xi:B.map (·.block)=some g'\/g'=z) (hl: ∀b,S3 b->b<z):
  ∀b,some (⟨g',0,none⟩:Addr)=some ⟨b,0,none⟩-> ¬S3 b:=fun b hb=>by
 injection hb with hb;injection hb with hb;subst hb;rcases xi with h|h
 ·rcases hf with⟨h1,_⟩|⟨g,h1,_⟩
  ·rw[h1]at h;cases h
  ·rw[h1]at h;simp only[Option.map_some,Option.some.injEq]at h;subst h;exact hr _ h1
 ·exact fun e=>by have:=hl _ e;omega
theorem tM (h:f<1024):bits .or .u64 ((f:Int)*4096) 1=((f*4096+1:Nat):Int):=by
 have e:((f:Int)*4096)=((f*4096:Nat):Int):=(by omega);have e3:(1:Int)=((1:Nat):Int):=rfl;rw[e,e3,bits_or_u64_nat _ _ (by omega) (by omega)];have:=Nat.two_pow_add_eq_or_of_lt (i:=12) (b:=1) (by decide) f;rw[Nat.mul_comm f 4096];exact congrArg _ this.symm
theorem jK {w:World} {b:Nat} {pg k:Nat} {T:TypeId} {fr:Nat×Nat} (h:w.heap[b]? =some (.cells #[.int .i64 ((num pg 4:Nat):Int), .int .i64 ((num pg 3:Nat):Int), .int .i64 ((num pg 2:Nat):Int), .int .i64 ((num pg 1:Nat):Int)] T fr)) (hk:k<4):
  w.cell? ⟨b,k,none⟩=some (.int .i64 ((num pg (4-k):Nat):Int)):=by
 rw[aa h k];rcases(show k=0\/k=1\/k=2\/k=3 by omega)with rfl|rfl|rfl|rfl<;>rfl
theorem Tab.on_k (t:Tab) (pg k:Nat) (h:k<3):t.on pg (4-k)=match t.nd (3-k) (part pg (3-k))with|some f=>f*4096+1|none=>0:=by
 rw[Tab.on_more _ _ _ (by omega),show 4-k-1=3-k from by omega];cases t.nd (3-k) (part pg (3-k))<;>rfl
theorem lp (t c a root fs m:Nat) (clock:Int) (A fr q:Int) (cp:Bool) (w:World) (S:Nat->Prop) (p:Pool) (T:Tab) (L:List Slot) (hold:Nat->Nat) (pg0:Nat) (l:Leaf)
  (h:au w S c a fs m clock p L) (ht:al w t c a root) (AF: ¬S t) (htm:t≠m) (hg:T.Good p (held L hold) pg0 4) (hr:T.nd 4 0=some root) (zj:0<=A) (hA:A<140737488355328) (IE:A % 4096=0) (h7: ¬7<q) (Mp:bD p fr≠0)
  (wV:(T.lf (A.toNat/4096)).isSome=false) (yJ:fr=(l.frame:Int)) (hq:q=(l.prot:Int)) (xY:cp=l.copy) (Eg:l.frame<p.n) (xB:1<=p.cnt l.frame) (xn:p.cnt l.frame+1<1000000000000):
  Calls Tryz.prog 72 #[.pointer (some ⟨t,0,none⟩), .int .u64 A, .agg #[.int .i64 fr, .int .u8 q, .bool cp]] w (MapPost2 w S c a fs m clock p T L hold (A.toNat/4096) l):=by
 have DW:=vp yJ;have HQ:=vp hq;have Ro:=vp xY;clear yJ hq xY;have xf:t<w.heap.size:=(vo ht).1;have SF:=hg.tree hr;have yT:A.toNat/4096<bG:=(by unfold bG;omega);obtain⟨w0,vT⟩: ∃w0,w0=w.alloc (.cells #[.int .i64 fr, .int .u8 q, .bool cp] 83):=⟨_,rfl⟩;have xC:Below w.heap.size w w0:=(by rw[vT];exact vr);have BP:w0.heap.size=w.heap.size+1:=(by rw[vT];simp);have AQ:w0.heap[w.heap.size]? =some (.cells #[.int .i64 fr, .int .u8 q, .bool cp] 83 (0,0)):=(by rw[vT];exact leafBox);have yK:al w0 t c a root:=(xC.block t xf).trans ht;have d1: ∀d os,(grow (redrawn w0 d) os).cell? ⟨w.heap.size,0,none⟩=some (.int .i64 fr):=fun d os=>cell_regrown (aa AQ 0) d os;have d2: ∀d os,(grow (redrawn w0 d) os).cell? ⟨w.heap.size,1,none⟩=some (.int .u8 q):=fun d os=>cell_regrown (aa AQ 1) d os;have d3: ∀d os,(grow (redrawn w0 d) os).cell? ⟨t,1,none⟩=some (.pointer (some ⟨a,0,none⟩)):=fun d os=>cell_regrown (aa yK 1) d os;have hC:=fun d os=>Calls.regrown_of ((fm a fr (grow (redrawn w0 d) os) S p ((h.pool.below xC).below (below_regrown w0 d os))).mono fun _ _ ⟨h1,h2⟩=>⟨h1,h2▸vO _ _⟩);have HC:=vp hC;have wD:=vp vT;have XG:=vp yK;have GO:=vp AQ;have H:=vp h;have HG:=vp hg;have HR:=vp hr;have Jh:=vp wV;have zI:=vp BP;have HA0:=vp zj;have HA:=vp hA;have g1:decide (140737488355328<=A)=false:=vF (by omega);have g2:(A.tmod 4096 != 0)=false:=(by rw[Int.tmod_eq_emod_of_nonneg zj,IE];rfl);have g3:decide (7<q)=false:=vF h7;have g4:(((bD p fr:Nat):Int)==0)=false:=(by rw[vE];omega);clear vT h ht AQ hC yK hg hr wV BP hA zj IE h7;go_enter Tryz.func72,Tryz.ntmps72;go_upto_region 1 with(fail);rw[<-wD.out];go_wp2_with fail;refine(cn t c a root _ XG.out).mono ?_;rintro e w1 ⟨rfl,rfl⟩;go_upto_region 3 with(fail);refine wp_region_quiet_below (by kernel_rfl) (by kernel_rfl) ?_;(repeat(go_big_quiet_step ((exact HC.out _ _))));refine wpQuiet_nil ?_;intro _ yq;obtain⟨⟨dq,osq⟩,hw''⟩:=yq;subst hw'';have wb:=below_regrown (w0) dq osq;generalize grow (redrawn (w0) dq) osq=w2 at wb⊢;clear d1 d2 d3;go_wp2_with fail;refine(lj A w2 HA0.out (by have:=HA.out;omega)).mono ?_;rintro e w3 ⟨rfl,wG⟩;unfold wayA;go_upto_region 6 with(fail);obtain⟨w4,yE⟩: ∃w4,w4=w3.alloc (.cells #[.int .i64 ((num (A.toNat/4096) 4:Nat):Int), .int .i64 ((num (A.toNat/4096) 3:Nat):Int), .int .i64 ((num (A.toNat/4096) 2:Nat):Int), .int .i64 ((num (A.toNat/4096) 1:Nat):Int)] 212):=⟨_,rfl⟩;rw[<-yE];have xD:Below w.heap.size w w2:=xC.trans (wb.mono xC.size);have Ep:Below w.heap.size w w3:=xD.trans (wG.mono xD.size);have BZ:Below w.heap.size w w4:=(by rw[yE];exact Ep.alloc Ep.size _);have JR:w4.heap[w3.heap.size]? =some (.cells #[.int .i64 ((num (A.toNat/4096) 4:Nat):Int), .int .i64 ((num (A.toNat/4096) 3:Nat):Int), .int .i64 ((num (A.toNat/4096) 2:Nat):Int), .int .i64 ((num (A.toNat/4096) 1:Nat):Int)] 212 (0,0)):=(by rw[yE];exact ab _ _);have Lw:w4.heap[w.heap.size]? =some (.cells #[.int .i64 fr, .int .u8 q, .bool cp] 83 (0,0)):=by
  have h0:=zI.out;have h2:=wb.size;have h3:=wG.size;have e4:w4.heap[w.heap.size]? =w3.heap[w.heap.size]? :=(by rw[yE];exact vt _ _ _ (by omega));exact e4.trans ((wG.block _ (by omega)).trans ((wb.block _ (by omega)).trans GO.out))
 have Yy:w3.heap.size<w4.heap.size:=(by rw[yE];simp);have FC:al w4 t c a root:=(BZ.block t xf).trans ((xC.block t xf).symm.trans XG.out);have d0: ∀d os,(grow (redrawn w4 d) os).cell? ⟨w3.heap.size,0,none⟩=some (.int .i64 ((num (A.toNat/4096) 4:Nat):Int)):=fun d os=>cell_regrown (aa JR 0) d os;have d1: ∀d os,(grow (redrawn w4 d) os).cell? ⟨w3.heap.size,1,none⟩=some (.int .i64 ((num (A.toNat/4096) 3:Nat):Int)):=fun d os=>cell_regrown (aa JR 1) d os;have d2: ∀d os,(grow (redrawn w4 d) os).cell? ⟨w3.heap.size,2,none⟩=some (.int .i64 ((num (A.toNat/4096) 2:Nat):Int)):=fun d os=>cell_regrown (aa JR 2) d os;have d3: ∀d os,(grow (redrawn w4 d) os).cell? ⟨w3.heap.size,3,none⟩=some (.int .i64 ((num (A.toNat/4096) 1:Nat):Int)):=fun d os=>cell_regrown (aa JR 3) d os;have d4: ∀d os,(grow (redrawn w4 d) os).cell? ⟨t,2,none⟩=some (.int .i64 (root:Int)):=fun d os=>cell_regrown (aa FC 2) d os;have hD:=fun d os=>Calls.regrown_of ((lY t c a root (A.toNat/4096) (grow (redrawn w4 d) os) S p T ((H.out.pool.below BZ).below (below_regrown w4 d os)) (((below_regrown w4 d os).block t (vw xf BZ.size)).trans FC) SF yT).mono fun _ _ ⟨h1,h2⟩=>⟨h1,h2⟩);unfold wayA at hD;have HD:=vp hD;have MK:=vp JR;have MP:=vp Lw;have LF:=vp FC;have xj:=vp BZ;have yk:=Ep.size;have JD:w.heap.size<w3.heap.size:=(by have:=zI.out;have:=wb.size;have:=wG.size;omega);clear hD JR Lw FC yE xC xD Ep BZ wb wG;refine wp_region_quiet_below (by kernel_rfl) (by kernel_rfl) ?_;(repeat(go_big_quiet_step ((exact HD.out _ _))));refine wpQuiet_nil ?_;intro _ yq;obtain⟨⟨dq,osq⟩,hw''⟩:=yq;subst hw'';have Az:=below_regrown (w4) dq osq;generalize grow (redrawn (w4) dq) osq=w6 at Az⊢;clear d0 d1 d2 d3 d4;have OP:=Az.size;have hB6:Below w.heap.size w w6:=xj.out.trans (Az.mono (by omega));rw[Jh.out];go_upto_region 9 with(fail);have hC6:=H.out.below hB6;have Qr:al w6 t c a root:=(Az.block t (by omega)).trans LF.out;have hp6:=(Az.block w3.heap.size (by omega)).trans MK.out;have yU:=(Az.block w.heap.size (by omega)).trans MP.out;have d0:w6.cell? ⟨t,1,none⟩=some (.pointer (some ⟨a,0,none⟩)):=aa Qr 1;have d1:w6.cell? ⟨w.heap.size,0,none⟩=some (.int .i64 fr):=aa yU 0;have Gy: ¬S w3.heap.size:=fun e=>by have:=H.out.pool.low _ e;omega
 have Ag: ¬S w.heap.size:=fun e=>by have:=H.out.pool.low _ e;omega
 have yZ:=up_yes a l.frame w6.drew S p (hC6.pool.drew) (by rw[bj];exact vG ⟨Eg,xB⟩) xn;rw[<-DW.out]at yZ;have GG:=vp yZ;have ON:=vp hC6;have HT6:=vp Qr;have MJ:=vp hp6;have Sl:=vp yU;clear yZ hC6 Qr hp6 yU
 go_still_tail 6,(by kernel_rfl)
 go_wp2_with fail;refine(GG.out).mono ?_;rintro e w7 ⟨rfl,Xz,TL⟩;have xw:=TL.undrew;have Rw:=xw.size;have hC7:=ON.out.turn xw Xz (Out.refl _ _);have Qq:al w7 t c a root:=(xw.block t (by omega) AF).trans HT6.out;have RG:=(xw.block w3.heap.size (by omega) Gy).trans MJ.out;have IT:=(xw.block w.heap.size (by omega) Ag).trans Sl.out;have Qz:=HG.out.up l.frame;rw[held_upd]at Qz;generalize hp1:p.up l.frame=p1 at *
 generalize Zb:upd hold l.frame (hold l.frame+1)=AH at *
 have e2:w7.cell? ⟨t,2,none⟩=some (.int .i64 (root:Int)):=aa Qq 2;have WO:=vp hC7;have HT7:=vp Qq;have Hw:=vp RG;have Sk:=vp IT;have WD:=vp Qz;have Ex:=vp hp1;have Ji:=vp Zb;have EB:=Qz.way (A.toNat/4096);clear Xz TL hC7 Qq RG IT Qz d0 d1 hp1 Zb
 go_upto_block 1 with(fail)
 go_cut [10,11] (fun n d wx=> ∃k g:Nat,n= .int .i64 (g:Int)/\d= .int .i64 (k:Int)/\k<=3/\T.nd (4-k) (part (A.toNat/4096) (4-k))=some g/\(k=3\/T.nd (3-k) (part (A.toNat/4096) (3-k))=none)/\Below w7.heap.size w7 wx)
 case first=>
  go_wp2_with fail;go_loopw [10,11] (fun n d wr=> ∃k g:Nat,n= .int .i64 (g:Int)/\d= .int .i64 (k:Int)/\k<=3/\T.nd (4-k) (part (A.toNat/4096) (4-k))=some g/\Below w7.heap.size w7 wr) (fun _ d _ =>3-(intOf d).toNat)
  case atStart=>exact⟨0,root,rfl,rfl,by omega,by rw[show 4-0=4 from rfl,gI _ yT];exact HR.out,vO _ _⟩
  case round=>
   obtain⟨k,g,rfl,rfl,hk,FO,hb⟩:=hrel;obtain⟨n1,n2,n3⟩:=EB.node (4-k) g (by omega) (by omega) FO;have Hx:=vp FO;have LI:=vp n3;clear FO n3;by_cases vW:k<3
   ·have Ig:wr.cell? ⟨w3.heap.size,k,none⟩=some (.int .i64 ((num (A.toNat/4096) (4-k):Nat):Int)):=jK ((hb.block _ (by omega)).trans Hw.out) (by omega);obtain⟨nm,Il⟩: ∃nm,nm=num (A.toNat/4096) (4-k):=⟨_,rfl⟩;rw[<-Il]at Ig;have Pw:nm<512:=(by rw[Il];exact bS _ _);have XK:=vp Il;clear Il;go_wp2_with fail;refine(bJ t c a root g nm wr S p1 (WO.out.pool.below hb) ((hb.block t (by omega)).trans HT7.out) n1 n2 Pw).mono ?_;rintro e w8 ⟨rfl,Qk⟩;have Fy:Below w7.heap.size w7 w8:=hb.trans (Qk.mono hb.size);cases As:T.nd (3-k) (part (A.toNat/4096) (3-k))with
    |none=>
     have e0:word (p1.dat g) nm=0:=(by rw[XK.out,LI.out,Tab.on_k _ _ _ vW,As]);have WM:=vp As;clear As;rw[e0];have hz:=gU;go_wp2_with fail
     go_meet
     exact⟨k,g,rfl,rfl,hk,Hx.out, .inr WM.out,Fy⟩
    |some g'=>
     have e0:word (p1.dat g) nm=g'*4096+1:=(by rw[XK.out,LI.out,Tab.on_k _ _ _ vW,As]);obtain⟨m1,m2,_⟩:=EB.node (3-k) g' (by omega) (by omega) As;have wC:=EB.few;obtain⟨x,hx⟩: ∃x,x=g'*4096+1:=⟨_,rfl⟩;rw[e0,<-hx];have zV:x<18446744073709551616:=(by omega);have Gk:=fu zV (by omega);have SV:((x:Int)/4096)=(g':Int):=(by omega);have II:=vp SV;have WM:=vp As;clear As hx e0 SV;go_wp2_with fail;go_roundw
     case rel=>exact⟨k+1,g',by first|rw[II.out]|rfl,by go_num,by omega,by rw[show 4-(k+1)=3-k from by omega];exact WM.out,Fy⟩
     case measure=>simp[intOf];omega
   ·obtain rfl:k=3:=(by omega);go_wp2_with fail
    go_meet
    exact⟨3,g,rfl,rfl,by omega,Hx.out, .inl rfl,hb⟩
 case rest=>
  obtain⟨k,g,rfl,rfl,hk,FO,Fu,hb⟩:=hcut;have RI:=WO.out.lts.2.1;have hzc:=hb.size;have Hx:=vp FO;have Rm:=vp Fu;have HB:=vp hb;have yK:=Took.nil WD.out WO.out.slots.sole (A.toNat/4096);have On:=vp yK;have h3:w3.heap.size≠m:=(by have:=H.out.lts.2.1;omega);have h0:w.heap.size≠m:=(by have:=H.out.lts.2.1;omega);have ht7:t<w7.heap.size:=(by omega);have h37:w3.heap.size<w7.heap.size:=(by omega);have h07:w.heap.size<w7.heap.size:=(by omega);have Fo: ∀w' S',Mod (Both S m) w7 w'->Out S S' w7->al w' t c a root/\w'.heap[w3.heap.size]? =w7.heap[w3.heap.size]? /\w'.heap[w.heap.size]? =w7.heap[w.heap.size]? /\ ¬S' t/\ ¬S' w3.heap.size/\ ¬S' w.heap.size/\w7.heap.size<=w'.heap.size:=fun w' S' hm ho=>
   ⟨(hm.block t ht7 (fun e=>e.elim AF htm)).trans HT7.out,hm.block _ h37 (fun e=>e.elim Gy h3),hm.block _ h07 (fun e=>e.elim Ag h0),fun e=>(ho _ e).elim AF (by omega),fun e=>(ho _ e).elim Gy (by omega),fun e=>(ho _ e).elim Ag (by omega),hm.size⟩
  have Ia:=vp Fo;clear FO Fu yK Fo hb e2;obtain⟨pgA,Bb⟩: ∃pgA,pgA=A.toNat/4096:=⟨_,rfl⟩;rw[<-Bb]at On;have MH:=vp Bb;clear Bb;go_wp2_with fail;go_loopw [13,88] (fun v i wr=> ∃(gs:List Nat) (A:Option Addr) (cap:Nat) (p2:Pool) (L2:List Slot) (S2:Nat->Prop),v= .slice A gs.length cap/\i= .int .i64 (gs.length:Int)/\gs.length<=3-k/\OwnN wr w7.heap.size A cap gs/\(∀b,A=some ⟨b,0,none⟩-> ¬S2 b)/\au wr S2 c a fs m clock p2 L2/\Mod (Both S m) w7 wr/\Out S S2 w7/\Took T p1.n p1.left p1.dat L AH pgA gs p2 L2)
   (fun _ i _ =>3-(intOf i).toNat)
  case atStart=>exact⟨[],none,0,p1,L,S,rfl,rfl,vL _,OwnN.nil _ _,(fun b e=>by cases e),WO.out.below HB.out,Mod.of HB.out,Out.refl _ _,On.out⟩
  case round=>
   obtain⟨gs,B,cap,p2,L2,S2,rfl,rfl,hle,wh,wz,DO,wk,BR,Nl⟩:=hrel;obtain⟨k1,k2,k3,k4,k5,k6,k7⟩:=Ia.out _ _ wk BR;by_cases vW:gs.length<3-k
   ·have e0:wr.cell? ⟨t,0,none⟩=some (.pointer (some ⟨c,0,none⟩)):=aa k1 0;have yu:=vp DO;have Jd:=vp Nl;have K1:=vp k1;have K2:=vp k2;have K3:=vp k3;have zl:=vp wh;have xz:=vp wz;clear k1 k2 k3 DO Nl wh wz;go_wp2_with fail;refine(fj c a fs m clock wr S2 p2 L2 yu.out).mono ?_;rintro e w8 ⟨r,f,p3,L3,S3,rfl,BY,xW,Db,wi⟩;have yk:=xW.size;have TM:Mod (Both S m) w7 w8:=wk.trans (fun b e=>by
     rcases e with h|h
     ·exact(BR b h).imp .inl (fun h=>vM (vs _) h)
     ·exact .inl (.inr h)) xW
    have Tw:Out S S3 w7:=BR.trans Db k7;have Nv:OwnN w8 w7.heap.size B cap gs:=zl.out.same fun b hb=>xW.block b (by
     rcases zl.out.form with⟨h,_⟩|⟨g1,h,_,h5,_⟩
     ·rw[h]at hb;cases hb
     ·rw[h]at hb;injection hb with hb;injection hb with hb;omega) (fun e=>e.elim (xz.out b hb) (fun e2=>by
     rcases zl.out.form with⟨h,_⟩|⟨g1,h,h4,h5,_⟩
     ·rw[h]at hb;cases hb
     ·rw[h]at hb;injection hb with hb;injection hb with hb;omega))
    have EU: ∀b,B=some ⟨b,0,none⟩-> ¬S3 b:=fun b hb e=>by
     rcases Db b e with h|h
     ·exact xz.out b hb h
     ·rcases zl.out.form with⟨h4,_⟩|⟨g1,h4,_,h5,_⟩
      ·rw[h4]at hb;cases hb
      ·rw[h4]at hb;injection hb with hb;injection hb with hb;omega
    have GR:=vp BY;have DU:=vp Nv;have KX:=vp EU;have Cb:=vp TM;have Je:=vp Tw;clear BY Nv EU TM Tw;rcases wi.two with rfl|⟨rfl,rfl,rfl,rfl⟩
    ·have wP:=vp wi;have TP: ∀b,S3 b->b<w8.heap.size:=GR.out.pool.low;have zA:=GR.out.lts;have NL: ∀w9 w10,Below w8.heap.size w8 w9->w9.grownBy w10 (B.map (·.block))->au w10 S3 c a fs m clock p3 L3/\Mod (Both S m) w7 w10:=fun w9 w10 h9 KQ=>by
      have ET: ∀b,B.map (·.block)=some b->w7.heap.size<=b/\ ¬S3 b:=fun b hb=>by
       rcases zl.out.form with⟨h,_⟩|⟨g1,h,h4,h5,_⟩
       ·rw[h]at hb;cases hb
       ·rw[h]at hb;simp only[Option.map_some,Option.some.injEq]at hb;subst hb;exact⟨h4,KX.out _ h⟩
      have yn:Mod (fun b=>B.map (·.block)=some b) w9 w10:=⟨KQ.os,KQ.tape,KQ.output,KQ.size,fun b hb hn=>KQ.block b hb (fun e=>hn e.symm)⟩;refine⟨(GR.out.below h9).mod yn (fun b hb e=>(ET b e).2 hb) (fun e=>by have:=(ET 0 e).1;omega) (fun e=>by have:=(ET c e).1;have:=WO.out.lts.1;omega) (fun e=>by have:=(ET m e).1;omega),?_⟩;have QH:Mod (fun b=>Both S m b\/w7.heap.size<=b) w7 w10:=(Cb.out.sub fun b hb=> .inl hb).trans (Out.refl _ _) ((Mod.of h9).trans (Out.refl _ _) (yn.sub fun b hb=> .inr (ET b hb).1));exact⟨QH.os,QH.tape,QH.output,QH.size,fun b hb hn=>QH.block b hb (fun e=>e.elim hn (fun e=>by omega))⟩
     have Wz:=vp NL;clear wi NL;go_wp2_with (first
      |(at_builtin;refine mm rfl (.tmp 121) (.tmp 123) rfl w7.heap.size B cap gs rfl (DU.out.alloc _) f w8.heap.size 1 rfl (ab _ _) (by omega) (by simp;omega) ?_;intro g' vP w10 LZ Un Oc hlt10;have Lz:=Wz.out _ _ ((vO w8.heap.size w8).alloc (vs _) _) Un;have hrw: ∀b,some (⟨g',0,none⟩:Addr)=some ⟨b,0,none⟩-> ¬S3 b:=row_not zl.out.form KX.out Oc (fun b hb=>by have:=TP b hb;simp;omega);have HGR:=vp Lz;have HRW:=vp hrw;have HO10:=vp LZ;clear Lz hrw LZ Un Oc)
      |fail)
     go_roundw
     case rel=>exact⟨gs++[f],some ⟨g',0,none⟩,vP,p3,L3,S3,by rw[vu];rfl,by rw[vu];go_num,by rw[vu];simp;omega,HO10.out,HRW.out,HGR.out.1,HGR.out.2,Je.out,Jd.out.step wP.out⟩
     case measure=>simp[intOf];omega
    ·have Vp:=DU.out.form;have US:al w8 t c a root:=(Ia.out _ _ Cb.out Je.out).1;have NI:=((Ia.out _ _ Cb.out Je.out).2.2.1).trans Sk.out;obtain⟨s1,s2,s3,s4⟩:=(Ia.out _ _ Cb.out Je.out).2.2.2;have HT8:=vp US;have HL8:=vp NI;have HBF:=vp Vp;have ht8:t<w8.heap.size:=(by omega);have h08:w.heap.size<w8.heap.size:=(by omega);have Nf:w7.heap.size<=w8.heap.size:=s4;have Uf:gs.length<=3:=(by omega);have Ke: ∀s∈L,s∉L3->Loose T L hold s:=fun s DD Ch=>by
      obtain⟨l1,l2,l3,l4⟩:=Jd.out.drop s DD Ch;refine⟨l1,l2,l3,?_⟩;rw[<-Ji.out]at l4;by_cases e:s.frame=l.frame
      ·rw[e,af]at l4;omega
      ·rwa [ag _ _ e]at l4
     have Re:=vp Ke;clear Ke;have Fq: ∃gs:List Nat,gs.length<=2/\ ∀f,f<p.n->aq L f<=1->0<ah T f+ay T f+hold f\/f=l.frame\/f∈gs:=by
      refine⟨gs,by omega,fun f hf hs=>?_⟩;rcases Jd.out.full wi (f:=f) (by rw[<-Ex.out];exact hf) hs with h9|h9
      ·by_cases e:f=l.frame
       ·exact .inr (.inl e)
       ·left;rw[<-Ji.out,ag _ _ e]at h9;exact h9
      ·exact .inr (.inr h9)
     have Lk:=vp Fq;clear Fq;have Pm:p.left<=2:=by
      have h1:=Jd.out.room;have h2:=wi.full;have h3:p1.left=p.left:=(by rw[<-Ex.out];exact tN xB);omega
     clear US NI Vp wi;go_wp2_with fail;go_loopw [102] (fun i wx=> ∃(j:Nat) (p4:Pool),i= .int .i64 (j:Int)/\j<=gs.length/\au wx S3 c a fs m clock p4 L3/\Mod S3 w8 wx/\Undo T p1.n p1.dat L3 AH pgA (gs.drop j) p4) (fun i _ =>3-(intOf i).toNat)
     case atStart=>exact⟨0,_,rfl,vL _,GR.out,Mod.refl _ _,Jd.out.undo⟩
     case round=>
      obtain⟨j,p4,rfl,hj,DN,xH,GW⟩:=hrel;have BO:=vp DN;have MD:=vp GW;have FG:=vp xH;clear DN GW;by_cases Aa:j<gs.length
      ·obtain⟨f1,BV⟩: ∃f1,gs[j]? =some f1:=⟨gs[j],vv Aa⟩;have xM:gs.drop j=f1::gs.drop (j+1):=by
        rw[List.drop_eq_getElem_cons Aa];congr 1;have:=vv Aa;rw[BV]at this;injection this with this;exact this.symm
       rcases HBF.out with⟨h,h2,_⟩|⟨g1,Bk,yc,yi,AV⟩
       ·rw[h2]at Aa;cases Aa
       ·have LQ:=MD.out;rw[xM]at LQ;obtain⟨v1,v2⟩:=LQ.live;have HUN1:=vp LQ.step;have zu:OwnN wr w7.heap.size B cap gs:=DU.out.same fun b hb=>xH.block b (by rw[Bk]at hb;injection hb with hb;injection hb with hb;omega) (KX.out b hb);have e1:wr.cell? ⟨t,1,none⟩=some (.pointer (some ⟨a,0,none⟩)):=aa ((xH.block t ht8 s1).trans HT8.out) 1;subst Bk;have e5:wr.cell? ⟨g1,j,none⟩=some (.int .i64 (f1:Int)):=zu.elem BV;clear BV xM LQ zu MD;go_wp2_with fail;refine(cZ a f1 wr S3 p4 BO.out.pool v1 v2).mono ?_;rintro e w9 ⟨rfl,KH,zy⟩;go_wp2_with fail;go_roundw
        case rel=>exact⟨j+1,_,by go_num,by omega,BO.out.turn zy KH (Out.refl _ _),FG.out.trans (Out.refl _ _) zy,HUN1.out⟩
        case measure=>simp[intOf];omega
      ·obtain rfl:j=gs.length:=(by omega);have Jv:=MD.out;rw[List.drop_length]at Jv;have yi:=Jv.good;rw[lG]at yi;have hh:0<AH l.frame:=(by rw[<-Ji.out,af];omega);have Fe:p4.n=p1.n:=Jv.n;have Im:p1.n=p.n:=(by rw[<-Ex.out];rfl);have Cu:=yi.cnt l.frame (by omega);have AV:=yi.down (f:=l.frame) (by unfold held;omega);rw[ff _ _ _ hh]at AV;have Af:upd AH l.frame (AH l.frame-1)=hold:=by
        rw[<-Ji.out,af];funext x;by_cases e:x=l.frame
        ·subst e;rw[af];omega
        ·rw[ag _ _ e,ag _ _ e]
       rw[Af]at AV;have NJ: ∀x,¬an T x->(x=l.frame\/0<hold x+ah T x+aq L3 x)->p4.dat x=p.dat x:=fun x _ hx=>by
        have h9:=Jv.dat x (by rw[<-Ji.out];by_cases e:x=l.frame;(· subst e;rw[af];omega);(· rw[ag _ _ e];exact hx.resolve_left e));rw[h9,<-Ex.out];rfl
       have Wr:=vp NJ;clear NJ;have JC:=Jd.out.sole;have EP:=Jd.out.sub;have hTx:al wr t c a root:=(xH.block t ht8 s1).trans HT8.out;have ND:=(xH.block _ h08 s3).trans HL8.out;have d0:wr.cell? ⟨t,1,none⟩=some (.pointer (some ⟨a,0,none⟩)):=aa hTx 1;have d1:wr.cell? ⟨w.heap.size,0,none⟩=some (.int .i64 fr):=aa ND 0;have Mm:=cZ a l.frame wr.drew S3 p4 BO.out.pool.drew (by omega) (by unfold held at Cu;omega);rw[<-DW.out]at Mm;have WJ:=vp Mm;have HG3:=vp AV;clear Jv yi Cu AV hTx ND Mm Af;go_upto_region 27 with(fail)
       go_still_tail 6,(by kernel_rfl)
       go_wp2_with fail;refine(WJ.out).mono ?_;rintro e w9 ⟨rfl,KH,Mg⟩;have zy:=Mg.undrew;go_wp2_with fail;go_ret;have PA:Mod (Both S m) w w7:=(Mod.of hB6).trans (Out.refl _ _) (xw.sub fun b hb=> .inl hb);have hz7w:w.heap.size<=w7.heap.size:=(by omega);exact⟨4,_,T,_,S3,rfl,BO.out.turn zy KH (Out.refl _ _),(PA.trans (Out.refl _ _) Cb.out).trans (fun b hb=>(Je.out b hb).imp .inl (fun h=>by omega)) (FG.out.trans (Out.refl _ _) zy),fun b hb=>(Je.out b hb).imp id (fun h=>by omega),⟨by rw[MH.out]at HG3;exact HG3.out,by show p4.n=p.n;omega,JC,EP, .inl ⟨rfl,rfl,Pm,Re.out⟩⟩,Wr.out, .inl ⟨rfl,Lk.out⟩⟩
   ·have heq:gs.length=3-k:=Nat.le_antisymm hle (Nat.le_of_not_lt vW);have KU:=vp Nl;have Vp:=wh.form;have zY:=ev.start Nl (d:=k) (g:=g) (by rw[heq];exact Nat.add_sub_cancel' hk) (by rw[MH.out];exact Hx.out) (by rw[MH.out];exact Rm.out);have wS:=k3.trans Sk.out;have hp2:=k2.trans Hw.out;obtain⟨wl,hwl⟩: ∃wl,wl=wr:=⟨_,rfl⟩;subst hwl;have yu:=vp DO;have HLK:=vp zY;have GN:=vp wS;have Ow:=vp hp2;have Sg:=vp k1;have HBF:=vp Vp;have zl:=vp wh;have xz:=vp wz;have htl:t<wl.heap.size:=(by omega);have XD:w3.heap.size<wl.heap.size:=(by omega);have h0l:w.heap.size<wl.heap.size:=(by omega);clear DO zY wS hp2 k1 k2 k3 Vp wh wz Nl;go_wp2_with fail;go_loopw [10,11,128] (fun nn dd i wx=> ∃(j d g4:Nat) (p4:Pool) (T4:Tab),nn= .int .i64 (g4:Int)/\dd= .int .i64 (d:Int)/\i= .int .i64 (j:Int)/\d=k+j/\j<=gs.length/\au wx S2 c a fs m clock p4 L2/\Mod S2 wl wx/\ev T p1.n p1.left p1.dat L2 AH pgA d g4 (gs.drop j) p4 T4) (fun _ _ i _ =>3-(intOf i).toNat)
    case atStart=>exact⟨0,k,g,p2,T,rfl,rfl,rfl,rfl,vL _,yu.out,Mod.refl _ _,HLK.out⟩
    case round=>
     obtain⟨j,d,g4,p4,T4,rfl,rfl,rfl,Uv,hj,DN,xH,PE⟩:=hrel;have BO:=vp DN;have Ez:=vp PE;have FG:=vp xH;have LF:=vp ((xH.block t htl k4).trans Sg.out);have Xk:=(xH.block _ XD k5).trans Ow.out;have ND:=(xH.block _ h0l k6).trans GN.out;obtain⟨v1,v2⟩:=PE.live;clear DN PE;by_cases Aa:j<gs.length
     ·obtain⟨f1,BV⟩: ∃f1,gs[j]? =some f1:=⟨gs[j],vv Aa⟩;have xM:gs.drop j=f1::gs.drop (j+1):=by
       rw[List.drop_eq_getElem_cons Aa];congr 1;have:=vv Aa;rw[BV]at this;injection this with this;exact this.symm
      rcases HBF.out with⟨h,h2,_⟩|⟨g1,Bk,yc,yi,AV⟩
      ·rw[h2]at Aa;cases Aa
      ·have Ki:=Ez.out;rw[xM]at Ki;have DK:=(Ki.each f1 (vK ..)).1;have Fe:p4.n=p1.n:=Ki.n;have wC:=EB.few;have Zp:f1<1024:=(by omega);have hd3:d<3:=(by omega);have HLN1:=vp Ki.step;have zu:OwnN wr w7.heap.size B cap gs:=zl.out.same fun b hb=>xH.block b (by rw[Bk]at hb;injection hb with hb;injection hb with hb;omega) (xz.out b hb);subst Bk;have e5:wr.cell? ⟨g1,j,none⟩=some (.int .i64 (f1:Int)):=zu.elem BV;have Ig:wr.cell? ⟨w3.heap.size,d,none⟩=some (.int .i64 ((num (A.toNat/4096) (4-d):Nat):Int)):=jK Xk (by omega);obtain⟨nm,Il⟩: ∃nm,nm=num (A.toNat/4096) (4-d):=⟨_,rfl⟩;rw[<-Il]at Ig;have Pw:nm<512:=(by rw[Il];exact bS _ _);have Dz:=tM Zp;have XK:=vp Il;have QJ:=vp Dz;have HDK:=vp Uv;have HEQ:=vp heq;clear BV xM Ki zu Ez Il Dz Xk ND Uv heq Fe;go_wp2_with fail;rw[QJ.out];refine(gw t c a root g4 nm (f1*4096+1) wr S2 p4 BO.out.pool LF.out (by have:=xH.size;omega) v1 v2 Pw (by omega)).mono ?_;rintro e w9 ⟨rfl,KH,zy⟩;go_wp2_with fail;go_roundw
       case rel=>exact⟨j+1,d+1,f1,_,_,rfl,by go_num,by go_num,by have:=HDK.out;omega,by omega,BO.out.turn zy KH (Out.refl _ _),FG.out.trans (Out.refl _ _) zy,by rw[XK.out,<-MH.out];exact HLN1.out⟩
       case measure=>simp[intOf];omega
     ·obtain rfl:j=gs.length:=(by omega);obtain rfl:d=3:=(by omega);have Kh:=Ez.out;rw[List.drop_length]at Kh;have Im:p1.n=p.n:=(by rw[<-Ex.out];rfl);have hh:0<AH l.frame:=(by rw[<-Ji.out,af];omega);have RG:l.prot<=7:=by
       have h9:=of_decide_eq_false g3;rw[HQ.out]at h9;omega
      have wE:T.lf pgA=none:=by
       have h9:=Jh.out;rw[MH.out];cases hc:T.lf (A.toNat/4096)with
       |none=>rfl
       |some y=>rw[hc]at h9;cases h9
      have xl:=Kh.fin (by rw[MH.out];exact yT) wE RG (by rw[Im];exact Eg) hh;have Af:upd AH l.frame (AH l.frame-1)=hold:=by
       rw[<-Ji.out,af];funext x;by_cases e:x=l.frame
       ·subst e;rw[af];omega
       ·rw[ag _ _ e,ag _ _ e]
      rw[Af]at xl;have Fe:p4.n=p1.n:=Kh.n;have wC:=EB.few;have LY:=fun W=>mD l W RG (by omega);have TV:l.pack<18446744073709551616:=(by have:=eB l RG (by omega);omega);simp only[<-DW.out,<-HQ.out,<-Ro.out]at LY;have Ig:wr.cell? ⟨w3.heap.size,3,none⟩=some (.int .i64 ((num (A.toNat/4096) 1:Nat):Int)):=jK Xk (by omega);rw[<-MH.out]at Ig;have x0:wr.cell? ⟨w.heap.size,0,none⟩=some (.int .i64 fr):=aa ND 0;have x1:wr.cell? ⟨w.heap.size,1,none⟩=some (.int .u8 q):=aa ND 1;have x2:wr.cell? ⟨w.heap.size,2,none⟩=some (.bool cp):=aa ND 2;have h3r:w3.heap.size<wr.heap.size:=(by have:=xH.size;omega);have LS:t<wr.heap.size:=(by have:=xH.size;omega);have XQ:w7.heap.size<=wl.heap.size:=k7;have TG:p4.n=p.n:=(by omega);have JC:=KU.out.sole;have EP:=KU.out.sub;obtain⟨nm,Il⟩: ∃nm,nm=num pgA 1:=⟨_,rfl⟩;rw[<-Il]at Ig xl;have Pw:nm<512:=(by rw[Il];exact bS _ _);have FJ:=vp xl;have zQ:(∀x,¬an T x->(x=l.frame\/0<hold x+ah T x+aq L2 x)->(p4.store g4 (aE (p4.dat g4) nm l.pack)).dat x=p.dat x)/\(∀x,an (T4.lay pgA (some l)) x->an T x\/(p4.store g4 (aE (p4.dat g4) nm l.pack)).cnt x=1)/\p.left<=(p4.store g4 (aE (p4.dat g4) nm l.pack)).left+3:=by
       obtain⟨f1,f2,f3⟩:=Kh.fin2 (some l) (aE (p4.dat g4) nm l.pack);refine⟨fun x hn hx=>?_,f2,?_⟩
       ·rw[f1 x hn (by rw[<-Ji.out];by_cases e:x=l.frame;(· subst e;rw[af];omega);(· rw[ag _ _ e];exact hx.resolve_left e)),<-Ex.out];rfl
       ·have h3:p1.left=p.left:=(by rw[<-Ex.out];exact tN xB);omega
      have Rl:=vp zQ;clear zQ;have XI:=vp LY;have HEQ:=vp heq;have HN:=vp TG;clear Kh Im wE xl Af Fe LY Xk ND Il Ez heq TG Uv;go_wp2_with fail;go_region_with
       ((
        first
        |(go_at_call 118;refine(XI.out _).mono ?_;rintro e w9 ⟨rfl,ZF⟩;have Hk:Below wr.heap.size wr w9:=bw ZF;have hpc':w9.cell? ⟨w3.heap.size,3,none⟩=some (.int .i64 (nm:Int)):=(Hk.cell (p:=⟨w3.heap.size,3,none⟩) h3r).trans Ig)
        |(go_at_call 112;refine(gw t c a root g4 nm l.pack _ S2 _ (BO.out.pool.below Hk) ((Hk.block t LS).trans LF.out) (by have:=Hk.size;omega) v1 v2 Pw TV).mono ?_;rintro e w10 ⟨rfl,ZQ,yn⟩)))
      all_goals
       go_wp2_with fail;go_ret;have PA:Mod (Both S m) w w7:=(Mod.of hB6).trans (Out.refl _ _) (xw.sub fun b hb=> .inl hb);exact⟨0,_,_,_,S2,rfl,(BO.out.below Hk).turn yn ZQ (Out.refl _ _),(PA.trans (Out.refl _ _) wk).trans (fun b hb=>(BR b hb).imp .inl (fun h=>by omega)) (FG.out.trans (Out.refl _ _) ((Mod.of Hk).trans (Out.refl _ _) yn)),fun b hb=>(BR b hb).imp id (fun h=>by omega),⟨by rw[<-MH.out];exact FJ.out.1,HN.out,JC,EP, .inr ⟨rfl,by rw[<-MH.out];exact FJ.out.2.1,FJ.out.2.2.1,FJ.out.2.2.2⟩⟩,Rl.out.1, .inr ⟨rfl,Rl.out.2.1,Rl.out.2.2⟩⟩
end
