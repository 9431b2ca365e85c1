/- The document's files: New. -/
import Derived.Test.YtoochjhipmpehaaGreatDoorHrDK
import Derived.Deep.RegionLaw
set_option linter.unusedVariables false
set_option linter.unusedSimpArgs false
set_option maxRecDepth 100000
set_option maxHeartbeats 8000000
namespace Go.Proofs.YtoochjhipmpehaaGreatDoor
section
open Go.RowKit Go.Sort
variable {w:World} {base g cap:Nat}
theorem OwnG.blockT {α:Type} {T:TypeId} {k:Nat} {C:α->List Value} {L:List α} (h:OwnG T k C w base (some ⟨g,0,none⟩) cap L): ∃cur,w.heap[g]? =some (.cells cur T (0,0)):=by
 rcases h.2 with⟨h2,_⟩|⟨g',vk,cur,h1,h3,h4,h5,_⟩
 ·injection h2 with h2;cases h2
 ·injection h1 with e1 _ e3;injection e1 with e1;injection e1 with e1;subst e1;exact⟨cur,h4⟩
variable {F:List Nd}
theorem fy.grow {w2:World} {q:Nat} {R:Option Addr} {L:List NdR} {zi:Nat} {r:NdR}
  (h:fy w base q R cap L F) (hr:ca w r.A r.nd.n r.c r.nd.dat) (vH:OwnG 105 9 ndC w2 base (some ⟨g,0,none⟩) zi (L++[r])) (hg:w.grownBy w2 (R.map (·.block)))
  (wU:R.map (·.block)=some g\/g=w.heap.size):
  fy (w2.setCell ⟨q,0,none⟩ (.slice (some ⟨g,0,none⟩) (L.length+1) zi)) base q (some ⟨g,0,none⟩) zi (L++[r]) (F++[r.nd]):=by
 have hq:=(uJ h.self).1;have hqR:some q≠R.map (·.block):=fun e=>by
  rcases h.row.form with⟨h1,_⟩|⟨g1,h1,_⟩
  ·rw[h1]at e;cases e
  ·rw[h1]at e;simp only[Option.map_some,Option.some.injEq]at e;exact h.ne (by rw[h1,e])
 have hgq:g≠q:=fun e=>by
  rcases wU with h1|h1
  ·exact hqR (by rw[h1,e])
  ·omega
 have Bu:=(hg.block q hq hqR).trans h.self;have Fe: ∀(b:Nat) (cs:Array Value) (f:Nat×Nat),w.heap[b]? =some (.cells cs 5 f)->(w2.setCell ⟨q,0,none⟩ (.slice (some ⟨g,0,none⟩) (L.length+1) zi)).heap[b]? =w.heap[b]? :=fun b cs f hb=>by
  have zM:=(uJ hb).1;have wC:b≠q:=fun e=>by
   subst e;rw[h.self]at hb;injection hb with hb;injection hb with _ hb;exact absurd hb (by decide)
  have hbR:some b≠R.map (·.block):=fun e=>by
   rcases h.row.form with⟨h1,_⟩|⟨g1,h1,_⟩
   ·rw[h1]at e;cases e
   ·rw[h1]at e;simp only[Option.map_some,Option.some.injEq]at e;subst e;have h9:=h.row;rw[h1]at h9;obtain⟨cur,h8⟩:=h9.blockT;rw[h8]at hb;injection hb with hb;injection hb with _ hb;exact absurd hb (by decide)
  exact((al (S:=fun b=>b=q) rfl 0 _).block b (by have:=hg.size;omega) wC).trans (hg.block b zM hbR)
 refine⟨by rw[List.map_append,h.map];rfl,?_,?_,?_,h.low,fun e=>by injection e with e;injection e with e;exact hgq e⟩
 ·have h9:=Joins.block_setCell (i:=0) Bu (.slice (some ⟨g,0,none⟩) (L.length+1) zi);rw[uP];simpa using h9
 ·refine vH.same fun g1 yA=>?_;injection yA with yA;injection yA with yA;subst yA;exact(al (S:=fun b=>b=q) rfl 0 _).block g vH.formS.2.1 hgq
 ·intro r1 DR;rcases List.mem_append.1 DR with h1|h1
  ·exact(h.bytes r1 h1).keep Fe
  ·rw[List.mem_singleton]at h1;subst h1;exact hr.keep Fe
theorem qi {x:Ent} (hm:may x≠0):addM F x=(may x,F):=by
 unfold addM;rw[if_pos hm]
theorem rx (w:World):fy (w.alloc (.cells #[.slice none 0 0] 101)) w.heap.size w.heap.size none 0 [] []:=
 ⟨rfl,ab _ _,OwnG.nil _ _,(fun r hr=>by cases hr),uN _,by simp⟩
def dh (l:List Ent) (w:World) (e:Ending) (w':World):Prop:=
 (
  if 64<l.length then e= .returned (.tuple #[.pointer none, .int .i64 15, .int .i64 (-1)])
  else if(newM [aD] 0 l).1≠0 then e= .returned (.tuple #[.pointer none, .int .i64 (newM [aD] 0 l).1, .int .i64 (newM [aD] 0 l).2.1])
  else∃q R cap L,e= .returned (.tuple #[.pointer (some ⟨q,0,none⟩), .int .i64 0, .int .i64 0])/\fy w' w.heap.size q R cap L (newM [aD] 0 l).2.2)/\Below w.heap.size w w'
theorem dh.stop {l:List Ent} {w':World} {r i:Int} (DF: ¬64<l.length) (h:newM [aD] 0 l=(r,i,F)) (hr:r≠0) (hb:Below w.heap.size w w'):dh l w (.returned (.tuple #[.pointer none, .int .i64 r, .int .i64 i])) w':=by
 refine⟨?_,hb⟩;rw[if_neg DF,h,if_pos hr]
def BoxE (w:World) (b:Nat) (x:Ent) (A:Option Addr) (c:Nat):Prop:=w.heap[b]? =some (.cells #[.string x.path, .int .u8 (x.kind:Int), .int .u16 (x.mode:Int), .int .u32 (x.uid:Int), .int .u32 (x.gid:Int), .slice A x.n c, .string x.to] 93 (0,0))
theorem pM (P:Option Addr) (n cap:Nat) (l:List Ent) (w:World) (hl:eY w P l) (hn:n=l.length) (wT:n<=cap) (yO:n<=9223372036854775807) (yd: ∀x∈l,x.n<=524288/\x.path.size<=524288/\x.to.size<=524288):
  Calls Tryz.prog 12 #[.slice P n cap] w (dh l w):=by
 by_cases DF:64<n
 ·have hv: ∀e w',(e= .returned (.tuple #[.pointer none, .int .i64 15, .int .i64 (-1)])/\Below w.heap.size w w')->dh l w e w':=fun e w' h=>by
   unfold dh;rw[if_pos (by omega)];exact h
  have HV:=uK hv;clear hv hl hn yd;go_enter Tryz.func12,Tryz.ntmps12;go_wp2_with fail;go_ret3;exact HV.out _ _ ⟨rfl,vj _ _⟩
 obtain⟨q,hq⟩: ∃q,q=w.heap.size:=⟨_,rfl⟩;have wB:=rx w;obtain⟨w0,vo⟩: ∃w0,w0=w.alloc (.cells #[.slice none 0 0] 101):=⟨_,rfl⟩;rw[<-vo]at wB;have vp:Below w.heap.size w w0:=(by rw[vo];exact uM);have q0:w0.cell? ⟨w.heap.size,0,none⟩=some (.slice none 0 0):=aa wB.self 0;have qf:=ae wB.self 0;have qlt:w.heap.size<w0.heap.size:=(uJ wB.self).1;have NQ:Hid (some w.heap.size≠(none:Option Addr).map (·.block)):=uK (by simp);have vR:=uK vo;have wI:=uK vp;have DH:=uK wB;have Dk:=uK hn;have GS:=uK hl;have Ol:=uK yd;have HQ:=uK hq;have wb:=vp.size;clear vp vo wB hn hl yd hq;go_enter Tryz.func12,Tryz.ntmps12;go_upto_region 4 with(fail);rw[<-vR.out];go_upto_region 5 with(first
  |(at_builtin;refine pl oH rfl (.tmp 22) (.tmp 25) rfl w.heap.size none 0 0 [] rfl rfl (OwnG.nil _ _) ⟨aD,none,0⟩ w0.heap.size 1 rfl (ab w0 _) (by omega) (by simp;omega) ?_;intro g1 vn w1 vQ yA xf Kf;have q1:=(yA.cell_far ⟨w.heap.size,0,none⟩ (by simp;omega) NQ.out);have qf1:=yA.frozen_far ⟨w.heap.size,0,none⟩ (by simp;omega) NQ.out)
  |fail)
 obtain⟨w2,we⟩: ∃w2,w2=w1.setCell ⟨w.heap.size,0,none⟩ (.slice (some ⟨g1,0,none⟩) 1 vn):=⟨_,rfl⟩;have UD:fy w2 w.heap.size w.heap.size (some ⟨g1,0,none⟩) vn [⟨aD,none,0⟩] [aD]:=by
  rw[we];exact(DH.out.kept uM).grow ⟨(fun h=>absurd h (by decide)),(fun x hx=>by cases hx),uN _,fun _ =>⟨rfl,rfl⟩⟩ vQ yA xf
 have vs:Below w.heap.size w w2:=by
  rw[we];exact(((wI.out.alloc wb _).grown yA (by simp;omega) (fun b hb=>by simp at hb))).setCell (uN _) _
 have Di:=uK we;have HF2:=uK UD;have xi:=uK vs;clear we UD vs;go_upto_region 6 with(fail);rw[<-Di.out];clear q0 qf q1 qf1 qlt vQ yA xf Kf;go_wp2_with fail;go_loopw [6] (fun i wr=> ∃k F R cp L,k<=n/\i= .int .i64 ((k:Nat):Int)/\fy wr w.heap.size w.heap.size R cp L F/\FOk F/\eG F/\newM [aD] 0 l=newM F k (l.drop k)/\F.length=k+1/\Below w.heap.size w wr) (fun i _ =>n-(intOf i).toNat)
 case atStart=>exact⟨0,[aD],_,_,_,by omega,rfl,HF2.out,FOk.start,eG.start,rfl,rfl,xi.out⟩
 case round=>
  obtain⟨k,F,R,cp,L,hk,rfl,hF,wM,TA,hnew,hlen,xZ⟩:=hrel;have HF:=uK hF;have MO:=uK wM;have QL:=uK TA;have yG:=uK hnew;have xh:=uK hlen;have yC:=uK xZ;have OO:=xZ.size;clear hF wM TA hnew hlen xZ;by_cases vq:k<n
  ·obtain⟨x,hx⟩: ∃x,l[k]? =some x:=⟨_,uQ (by rw[<-Dk.out];exact vq)⟩;have xA:l.drop k=x::l.drop (k+1):=(List.drop_eq_getElem_cons (by rw[<-Dk.out];exact vq)).trans (by
    obtain⟨h1,h2⟩:=List.getElem?_eq_some_iff.1 hx;rw[h2])
   have Iq:=Ol.out x (uV hx);obtain⟨bb,off,A,c,rfl,⟨c0,c1,c2,c3,c4,c5,c6⟩,hA,KW,Fi⟩:=(GS.out.below yC.out) k x hx;obtain⟨w3,wX⟩: ∃w3,w3=wr.alloc (.cells #[.string x.path, .int .u8 (x.kind:Int), .int .u16 (x.mode:Int), .int .u32 (x.uid:Int), .int .u32 (x.gid:Int), .slice A x.n c, .string x.to] 93):=⟨_,rfl⟩;have Qd:BoxE w3 wr.heap.size x A c:=(by rw[wX];exact ab wr _);have vx:Below wr.heap.size wr w3:=(by rw[wX];exact uM);have RY:wr.heap.size<w3.heap.size:=(uJ Qd).1;have vy:=rmay_any x A c w3 (by omega) (by omega) (by omega) Fi.mode;unfold Ent.val at vy;obtain⟨r,hr⟩: ∃r,r=may x:=⟨_,rfl⟩;rw[<-hr]at vy;have Cy:=uK wX;have Be:=uK Qd;have FF:=uK xA;have Ra:=uK (hA.kept vx);have QZ:=uK (show∀a,A=some a->0<x.n->a.block<w3.heap.size from fun a ha h0=>by
    obtain⟨a',e,xG⟩:=hA.kept vx h0;rw[ha]at e;injection e with e;subst e;have:=World.block_lt_of_cell? _ _ (xG 0 h0);have FQ:(a.add 0).block=a.block:=by unfold Addr.add;split<;>rfl
    rwa [FQ]at this)
   have Lk:=uK vy;have VP:=uK (yC.out.trans (vx.mono OO));have Rt:(k:Int)<(n:Int):=(by omega);have xI:=vx.size;clear wX Qd xA hx vy hA KW Fi;go_upto_region 9 with(fail);rw[<-Cy.out];clear c0 c1 c2 c3 c4 c5 c6;have x0:w3.cell? ⟨wr.heap.size,0,none⟩=some (.string x.path):=aa Be.out 0;have x1:w3.cell? ⟨wr.heap.size,1,none⟩=some (.int .u8 (x.kind:Int)):=aa Be.out 1;have x2:w3.cell? ⟨wr.heap.size,2,none⟩=some (.int .u16 (x.mode:Int)):=aa Be.out 2;have x3:w3.cell? ⟨wr.heap.size,3,none⟩=some (.int .u32 (x.uid:Int)):=aa Be.out 3;have x4:w3.cell? ⟨wr.heap.size,4,none⟩=some (.int .u32 (x.gid:Int)):=aa Be.out 4;have x5:w3.cell? ⟨wr.heap.size,5,none⟩=some (.slice A x.n c):=aa Be.out 5;have x6:w3.cell? ⟨wr.heap.size,6,none⟩=some (.string x.to):=aa Be.out 6;by_cases Bl:r=0
   rotate_left
   ·have vB:(r != 0)=true:=(by rw[bne_iff_ne];exact Bl);have yu:=uK (show newM [aD] 0 l=(r,(k:Int),F) by rw[yG.out,FF.out,ff (by rw[qi (by rw[<-hr];exact Bl)];show may x≠0;rw[<-hr];exact Bl),qi (by rw[<-hr];exact Bl),hr]);have DI:=uK Bl;clear hr Bl;go_wp2_with (first
     |(go_at_call 41;refine(Lk.out).mono ?_;rintro e w4 ⟨rfl,vN⟩)
     |fail)
    go_ret3;exact dh.stop (by rw[<-Dk.out];exact DF) yu.out DI.out (VP.out.trans (vN.mono (by omega)))
   have IC:may x=0:=(by rw[<-hr];exact Bl);subst Bl;have VA:=uK IC;clear hr IC;go_upto_region 12 with(first
    |(go_at_call 41;refine(Lk.out).mono ?_;rintro e w4 ⟨rfl,vN⟩)
    |fail)
   have AS:Hid (BoxE w4 wr.heap.size x A c):=uK ((vN.block _ RY).trans Be.out);have Xk:wr.heap.size<w4.heap.size:=uR RY vN.size;have AU:=vN.size;clear x0 x1 x2 x3 x4 x5 x6;have x0:w4.cell? ⟨wr.heap.size,0,none⟩=some (.string x.path):=aa AS.out 0;have QO:=uK (VP.out.trans (vN.mono (by omega)));have wQ:=uK vN;clear vN;have Wt:=eO VA.out;have hxn:x.n<=65536:=(by omega);have Rp:=bn x.path;have Dt:=(dg Wt.2.2.2.1).2.1;have Iv:=mK x.path w4 Wt.2.2.2.1;unfold cn at Iv;obtain⟨pb,hpb⟩: ∃pb,pb=Lib.hasPrefix x.path.data.toList [47]:=⟨_,rfl⟩;rw[<-hpb]at Iv;obtain⟨T,hT⟩: ∃T,T=ar x.path:=⟨_,rfl⟩;rw[<-hT]at Iv Rp;obtain⟨m,hm⟩: ∃m,m+1=T.length:=⟨T.length-1,by
    have h9:T≠[]:=(by rw[hT];exact Wt.2.2.2.2.2.1);have:=List.length_pos_iff.2 h9;omega⟩
   rw[<-hm]at Iv;have zy:m+1<=201:=(by omega);have Lh:=uK Iv;have HM:=uK hm;have HT:=uK hT;obtain⟨d1,Jh⟩: ∃d1,d1=atM F 0 T:=⟨_,rfl⟩;obtain⟨d2,Kx⟩: ∃d2,d2=atM F 0 T.dropLast:=⟨_,rfl⟩;have xf: ∀W A1 vn base,Below w4.heap.size w4 W->OwnS W base A1 vn T->m+1<=vn->Calls Tryz.prog 43 #[.pointer (some ⟨w.heap.size,0,none⟩), .slice A1 (m+1) vn] W fun e w'=>e= .returned (.int .i64 (optI d1))/\W=w':=fun W A1 vn base hW hO hc=>by
    rw[Jh];exact sF w.heap.size w.heap.size cp (m+1) vn R A1 L F T W ((HF.out.kept (vx.trans (wQ.out.mono (by omega)))).kept hW) QL.out (by have:=xh.out;omega) (by have:=xh.out;omega) (by have h9:=hO.texts T.length;rwa [List.take_length]at h9) hm.symm hc (by omega)
   have xE: ∀W A1 vn base,Below w4.heap.size w4 W->OwnS W base A1 vn T->m+1<=vn->Calls Tryz.prog 43 #[.pointer (some ⟨w.heap.size,0,none⟩), .slice A1 m vn] W fun e w'=>e= .returned (.int .i64 (optI d2))/\W=w':=fun W A1 vn base hW hO hc=>by
    rw[Kx];have hdl:T.dropLast.length=m:=(by rw[List.length_dropLast];omega);exact sF w.heap.size w.heap.size cp m vn R A1 L F T.dropLast W ((HF.out.kept (vx.trans (wQ.out.mono (by omega)))).kept hW) QL.out (by have:=xh.out;omega) (by have:=xh.out;omega) (by have h9:=hO.texts m;rwa [show T.take m=T.dropLast by rw[List.dropLast_eq_take];congr 1;omega]at h9) hdl (by omega) (by omega)
   have Dp:=uK xf;have CH:=uK xE;have LP:=uK Jh;have WU:=uK Kx;clear Wt Rp Dt Iv hpb hT hm xf xE Jh Kx;go_upto_region 13 with(first
    |(go_at_call 42;refine(Lh.out).mono ?_;rintro e w5 ⟨A1,vn,rfl,LG,Ao⟩;have CS:=uK LG;have Ar:=uK Ao;clear LG Ao)
    |fail)
   have Lw:=Ar.out.size;obtain⟨g5,TG,hg51,Yu,TI⟩: ∃g,A1=some ⟨g,0,none⟩/\w4.heap.size<=g/\g<w5.heap.size/\m+1<=vn:=by
    rcases CS.out.form with⟨_,e,_⟩|⟨g,e1,e2,e3,e4⟩
    ·exfalso;have:=HM.out;rw[e]at this;cases this
    ·exact⟨g,e1,e2,e3,by have:=HM.out;omega⟩
   subst TG;have CG:=uK (Dp.out w5 _ vn _ Ar.out CS.out TI);have ya:=uK (CH.out w5 _ vn _ Ar.out CS.out TI);have Dh:Hid (BoxE w5 wr.heap.size x A c):=uK ((Ar.out.block _ Xk).trans AS.out);clear x0 Dp CH;obtain⟨v1,zo⟩: ∃v1,v1=optI d1:=⟨_,rfl⟩;obtain⟨v2,Lx⟩: ∃v2,v2=optI d2:=⟨_,rfl⟩;rw[<-zo]at CG;rw[<-Lx]at ya;have MW:=uK (QO.out.trans (Ar.out.mono (by omega)));cases d1 with
   |some j=>
    have Yp:(0:Int)<=v1:=(by rw[zo];show(0:Int)<=(j:Int);omega);have yu:=uK (show newM [aD] 0 l=(7,(k:Int),F) by
     have h9:=kR VA.out (show atM F 0 (ar x.path)=some j by rw[<-HT.out];exact LP.out.symm);rw[yG.out,FF.out,ff (by rw[h9];show(_ :Int)≠0;simp),h9])
    clear zo Lx;go_wp2_with (first
     |(go_at_call 43;refine(CG.out).mono ?_;rintro e w6 ⟨rfl,rfl⟩)
     |fail)
    go_ret3;exact dh.stop (by rw[<-Dk.out];exact DF) yu.out (by decide) MW.out
   |none=>
   have Xu:v1= -1:=zo;subst Xu;clear zo;cases d2 with
   |none=>
    have OU:v2= -1:=Lx;subst OU;have yu:=uK (show newM [aD] 0 l=(3,(k:Int),F) by
     have h9:=kS VA.out (show atM F 0 (ar x.path)=none by rw[<-HT.out];exact LP.out.symm) (show atM F 0 (ar x.path).dropLast=none by rw[<-HT.out];exact WU.out.symm);rw[yG.out,FF.out,ff (by rw[h9];show(_ :Int)≠0;simp),h9])
    clear Lx;have hmc:(m:Int)<=(vn:Int):=(by omega);go_upto_region 15 with(first
     |(go_at_call 43;refine(CG.out).mono ?_;rintro e w6 ⟨rfl,rfl⟩)
     |fail)
    go_wp2_with (first
     |(go_at_call 43;refine(ya.out).mono ?_;rintro e w6 ⟨rfl,rfl⟩)
     |fail)
    go_ret3;exact dh.stop (by rw[<-Dk.out];exact DF) yu.out (by decide) MW.out
   |some up=>
   have OU:v2=(up:Int):=Lx;subst OU;clear Lx;have Bg:=tZ _ MO.out.pos WU.out.symm;obtain⟨y,hy⟩: ∃y,F[up]? =some y:=⟨_,uQ Bg⟩;have Jf:=ga hy;have Lr:=uK ((HF.out.kept (vx.trans (wQ.out.mono (by omega)))).kept Ar.out);obtain⟨ry,gR,Su,St,YT,hgRl,hRcap,KA⟩:=Lr.out.at hy;have NF:=Lr.out.len;have UE:=xh.out;obtain⟨N,hN⟩: ∃N,N=F.length:=⟨_,rfl⟩;have q5:w5.cell? ⟨w.heap.size,0,none⟩=some (.slice R N cp):=(by rw[hN,<-NF];exact aa Lr.out.self 0);have qf5:=ae Lr.out.self 0;have r5:w5.cell? ⟨gR,up*9,none⟩=some (.int .u8 (y.kind:Int)):=by
    have h9:=KA 0 (by omega);rw[Nat.add_zero]at h9;rw[h9,<-St];rfl
   subst YT;have hupN:up<N:=(by omega);have hNc:N<=cp:=(by omega);have hupI:(up:Int)<(N:Int):=(by omega);have hmc:(m:Int)<=(vn:Int):=(by omega);have HKI:=uK Jf;have El:=uK hN;have Ei:=uK hy;clear Bg Su St KA NF UE Jf hN hy;by_cases FP:y.kind=2
   rotate_left
   ·have vB:((y.kind:Int) != 2)=true:=(by rw[bne_iff_ne];omega);have yu:=uK (show newM [aD] 0 l=(8,(k:Int),F) by
     have h9:=kj VA.out (show atM F 0 (ar x.path)=none by rw[<-HT.out];exact LP.out.symm) (show atM F 0 (ar x.path).dropLast=some up by rw[<-HT.out];exact WU.out.symm) (by rw[HKI.out];exact FP);rw[yG.out,FF.out,ff (by rw[h9];show(_ :Int)≠0;simp),h9])
    clear FP;go_upto_region 15 with(first
     |(go_at_call 43;refine(CG.out).mono ?_;rintro e w6 ⟨rfl,rfl⟩)
     |fail)
    go_wp2_with (first
     |(go_at_call 43;refine(ya.out).mono ?_;rintro e w6 ⟨rfl,rfl⟩)
     |fail)
    go_ret3;exact dh.stop (by rw[<-Dk.out];exact DF) yu.out (by decide) MW.out
   have hkE:((y.kind:Int) != 2)=false:=(by rw[FP];rfl);have FW:=uK FP;clear FP;go_upto_region 15 with(first
     |(go_at_call 43;refine(CG.out).mono ?_;rintro e w6 ⟨rfl,rfl⟩)
     |fail)
   go_upto_region 20 with(first
     |(go_at_call 43;refine(ya.out).mono ?_;rintro e w6 ⟨rfl,rfl⟩)
     |fail)
   obtain⟨t,ht,htL,htD⟩:=ni HM.out;have g5m:w5.cell? ⟨g5,m,none⟩=some (.string t):=OwnS.elem CS.out ht;have l1:w.heap.size<w5.heap.size:=(uJ Lr.out.self).1;have Ir:wr.heap.size<w5.heap.size:=(uJ Dh.out).1;have x1:w5.cell? ⟨wr.heap.size,1,none⟩=some (.int .u8 (x.kind:Int)):=aa Dh.out 1;have x2:w5.cell? ⟨wr.heap.size,2,none⟩=some (.int .u16 (x.mode:Int)):=aa Dh.out 2;have x3:w5.cell? ⟨wr.heap.size,3,none⟩=some (.int .u32 (x.uid:Int)):=aa Dh.out 3;have x4:w5.cell? ⟨wr.heap.size,4,none⟩=some (.int .u32 (x.gid:Int)):=aa Dh.out 4;have x5:w5.cell? ⟨wr.heap.size,5,none⟩=some (.slice A x.n c):=aa Dh.out 5;have x6:w5.cell? ⟨wr.heap.size,6,none⟩=some (.string x.to):=aa Dh.out 6;have HTL:=uK htL;have QT:=uK (sE A x.n c x.dat w5.drew (by omega) ((Ra.out.kept (wQ.out.trans (Ar.out.mono (by omega)))).kept (vj _ _).drew) (fun a ha h0=>by have h9:=QZ.out a ha h0;show a.block<w5.heap.size;omega));have NR:Hid (some w.heap.size≠(some (⟨gR,0,none⟩:Addr)).map (·.block)):=uK (fun e=>by
    simp only[Option.map_some,Option.some.injEq]at e;exact Lr.out.ne (by rw[e]))
   have XU:(m:Int)<(m:Int)+1:=(by omega);have hmcap:m<vn:=(by omega);have Rs:IntKind.i64.wrap (m:Int)=(m:Int):=(by rw[IntKind.wrap_i64];omega);have hm00:(0:Int)<=(m:Int):=(by omega);have HNL:Hid (N=L.length):=uK (by rw[El.out];exact Lr.out.len.symm);have hNf:N<=65:=(by have:=El.out;have:=xh.out;omega);have hgRw:=(HF.out.row.lt gR rfl).2;have nx:wr.heap.size≠gR:=(by omega);have ng:g5≠gR:=(by omega);have nxq:wr.heap.size≠w.heap.size:=(by have:=(uJ HF.out.self).1;omega);have ngq:g5≠w.heap.size:=(by omega);have nq:w.heap.size≠gR:=fun e=>Lr.out.ne (by rw[e]);clear CG ya ht htL htD r5;refine jk (fun w'=>w'.cell? ⟨wr.heap.size,1,none⟩=some (.int .u8 (x.kind:Int))/\w'.cell? ⟨wr.heap.size,2,none⟩=some (.int .u16 (x.mode:Int))/\w'.cell? ⟨wr.heap.size,3,none⟩=some (.int .u32 (x.uid:Int))/\w'.cell? ⟨wr.heap.size,4,none⟩=some (.int .u32 (x.gid:Int))/\w'.cell? ⟨wr.heap.size,5,none⟩=some (.slice A x.n c)/\w'.cell? ⟨wr.heap.size,6,none⟩=some (.string x.to)/\w'.cell? ⟨w.heap.size,0,none⟩=some (.slice (some ⟨gR,0,none⟩) N cp)/\w'.cell? ⟨g5,m,none⟩=some (.string t)) 34 (by kernel_rfl) (cY.of 14 (by kernel_rfl) (by kernel_rfl)) ⟨x1,x2,x3,x4,x5,x6,q5,g5m⟩ ?_;intro QI BO;refine zt 0 ?_;refine zt 1 ?_;refine zt 2 ?_;refine zt 3 ?_;refine zt 4 ?_;refine zt 5 ?_;refine zt 6 ?_;refine zt 7 ?_;refine zt 8 ?_;refine zt 9 ?_;refine zt 10 ?_;refine zt 11 ?_;refine zt 12 ?_;refine zt 13 ?_;refine zt 14 ?_;refine zt 15 ?_;refine zt 16 ?_;refine zt 17 ?_;refine zt 18 ?_;refine zt 19 ?_;refine zt 20 ?_;refine zt 21 ?_;refine zt 22 ?_;refine zt 23 ?_;refine zt 24 ?_;refine zt 25 ?_;refine zt 27 ?_;refine zt 28 ?_;refine aX 26 (by kernel_rfl) rfl (fun K' hK=>?_)
   go_simp
   go_at_call 44;refine(QT.out).mono ?_;rintro e w7 ⟨A7,La,rfl,DE,_,Hw⟩;have yP:Below w5.heap.size w5 w7:=(vj w5.heap.size w5).drew.trans Hw;have q7:=(yP.cell (p:=⟨w.heap.size,0,none⟩) l1).trans q5;have y1:=(yP.cell (p:=⟨wr.heap.size,1,none⟩) Ir).trans x1;have y2:=(yP.cell (p:=⟨wr.heap.size,2,none⟩) Ir).trans x2;have y3:=(yP.cell (p:=⟨wr.heap.size,3,none⟩) Ir).trans x3;have y4:=(yP.cell (p:=⟨wr.heap.size,4,none⟩) Ir).trans x4;have y5:=(yP.cell (p:=⟨wr.heap.size,5,none⟩) Ir).trans x5;have y6:=(yP.cell (p:=⟨wr.heap.size,6,none⟩) Ir).trans x6;have g7m:=(yP.cell (p:=⟨g5,m,none⟩) Yu).trans g5m;have MP:=uK DE;clear DE;go_wp2_with fail;refine hK.out _ _ ⟨y1,y2,y3,y4,y5,y6,q7,g7m⟩ (fun BO=>?_);clear hK K'
   try simp only[Act.put,List.setIfInBounds_toArray,List.set_cons_zero,List.set_cons_succ,List.getElem_toArray,List.getElem_cons_succ,List.getElem_cons_zero]
   refine zt 29 ?_;refine aX 30 (by kernel_rfl) rfl (fun K' hK=>?_)
   go_simp
   have lx:wr.heap.size<w7.heap.size:=(by have:=yP.size;omega);have l7:w.heap.size<w7.heap.size:=(by have:=yP.size;omega);have lg:g5<w7.heap.size:=(by have:=yP.size;omega);have De: ∀b i v o,b<w7.heap.size->w7.cell? ⟨b,i,none⟩=some v->(w7.alloc o).cell? ⟨b,i,none⟩=some v:=fun b i v o h1 h2=>(((vj w7.heap.size w7).alloc (uN _) o).cell (p:=⟨b,i,none⟩) h1).trans h2;refine hK.out _ _ ⟨De _ _ _ _ lx y1,De _ _ _ _ lx y2,De _ _ _ _ lx y3,De _ _ _ _ lx y4,De _ _ _ _ lx y5,De _ _ _ _ lx y6,De _ _ _ _ l7 q7,De _ _ _ _ lg g7m⟩ (fun BO=>?_);clear hK K'
   try simp only[Act.put,List.setIfInBounds_toArray,List.set_cons_zero,List.set_cons_succ,List.getElem_toArray,List.getElem_cons_succ,List.getElem_cons_zero]
   refine aX 31 (by kernel_rfl) rfl (fun K' hK=>?_);refine step_gen oH (by rfl) (.tmp 82) (.tmp 108) (by rfl) w.heap.size (some ⟨gR,0,none⟩) cp N L HNL.out (by rfl) ((Lr.out.kept yP).row.alloc _) ⟨bG x up t,A7,La⟩ w7.heap.size 1 (by rfl) (ab w7 _) (by omega) (by have:=yP.size;simp;omega) ?_;intro g8 UZ w8 Hh Rv Uj ID;have z8:=(Rv.cell_far ⟨w.heap.size,0,none⟩ (by have:=yP.size;simp;omega) NR.out).trans (De _ _ _ _ l7 q7);have hz57:=yP.size;have wY: ∀b i v,b<w7.heap.size->b≠gR->w7.cell? ⟨b,i,none⟩=some v->w8.cell? ⟨b,i,none⟩=some v:=(fun b i v h1 h2 h3=>(Rv.cell_far ⟨b,i,none⟩ (by simp;omega) (by simp;omega)).trans (De _ _ _ _ h1 h3));have zf8:=(Rv.frozen_far ⟨w.heap.size,0,none⟩ (by have:=yP.size;simp;omega) NR.out).trans ((((vj w7.heap.size w7).alloc (uN _) _).frozen (p:=⟨w.heap.size,0,none⟩) l7).trans ((yP.frozen (p:=⟨w.heap.size,0,none⟩) l1).trans qf5));refine hK.out _ _ ⟨wY _ _ _ lx nx y1,wY _ _ _ lx nx y2,wY _ _ _ lx nx y3,wY _ _ _ lx nx y4,wY _ _ _ lx nx y5,wY _ _ _ lx nx y6,wY _ _ _ l7 nq q7,wY _ _ _ lg ng g7m⟩ (fun BO=>?_);clear hK K'
   try simp only[Act.put,List.setIfInBounds_toArray,List.set_cons_zero,List.set_cons_succ,List.getElem_toArray,List.getElem_cons_succ,List.getElem_cons_zero]
   refine zt 32 ?_;refine zt 33 ?_;refine bg 34 (by kernel_rfl) rfl rfl (fun K' hK=>?_)
   go_simp
   refine hK.out _ _ ?_;clear hK K';refine bj (by kernel_rfl) ?_ _
   all_goals
    have Fv:=(Lr.out.kept yP).kept ((vj w7.heap.size w7).alloc (uN _) (.cells (ndC ⟨bG x up t,A7,La⟩).toArray 105));have Ze:=Fv.grow (r:=⟨bG x up t,A7,La⟩) (MP.out.keep fun g cs f hg=>uO _ _ _ (uJ hg).1) Hh Rv Uj;rw[<-HNL.out]at Ze;have Re:=yP.size;have hgRb:=Lr.out.row.formS.1;have Fp:Below w.heap.size w (w8.setCell ⟨w.heap.size,0,none⟩ (.slice (some ⟨g8,0,none⟩) (N+1) UZ)):=(((MW.out.trans (yP.mono (by omega))).alloc (by omega) _).grown Rv (by simp;omega) (fun b hb=>by simp at hb;omega)).setCell (uN _) _;have HF9:=uK Ze;have WW:=uK Fp;have yt:=kl VA.out (show atM F 0 (ar x.path)=none by rw[<-HT.out];exact LP.out.symm) (show atM F 0 (ar x.path).dropLast=some up by rw[<-HT.out];exact WU.out.symm) (by rw[HKI.out];exact FW.out);rw[<-HT.out,HTL.out]at yt;have Bl:(addM F x).1=0:=(by rw[yt]);have HN9:=uK (show newM [aD] 0 l=newM (F++[bG x up t]) (k+1) (l.drop (k+1)) by rw[yG.out,FF.out,mU Bl,yt]);have Po:=(mi MO.out Bl).1;have PC:=QL.out.add MO.out Bl;rw[yt]at Po PC;have ZK:=uK (show FOk (F++[bG x up t])from Po);have HIN9:=uK (show eG (F++[bG x up t])from PC);have HL9:=uK (show(F++[bG x up t]).length=k+1+1 by rw[uP,xh.out];rfl);clear Fv Ze Fp yt Bl Po PC z8 zf8 q7 y1 y2 y3 y4 y5 y6 g7m Hh Rv Uj x1 x2 x3 x4 x5 x6 q5 qf5 g5m;go_wp2_with fail;go_roundw
    case rel=>exact⟨k+1,_,_,UZ,_,by omega,by go_num,HF9.out,ZK.out,HIN9.out,HN9.out,HL9.out,WW.out⟩
    case measure=>(simp[intOf];omega)
  ·obtain rfl:k=n:=(by omega);have yu:=uK (show newM [aD] 0 l=(0,0,F) by rw[yG.out,List.drop_of_length_le (by rw[Dk.out];exact uN _)];rfl);go_wp2_with fail;go_ret3;refine⟨?_,yC.out⟩;rw[if_neg (by rw[<-Dk.out];exact DF),yu.out,if_neg (by simp)];exact⟨_,R,cp,L,rfl,HF.out⟩
end
