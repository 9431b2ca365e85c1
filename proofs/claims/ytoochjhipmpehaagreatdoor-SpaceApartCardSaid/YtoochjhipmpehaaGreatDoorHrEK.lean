/- The document's files: New. -/
import Derived.Test.YtoochjhipmpehaaGreatDoorHrDK
import Derived.Deep.RegionLaw
set_option linter.unusedVariables false
set_option linter.unusedSimpArgs false
set_option maxRecDepth 100000
set_option maxHeartbeats 8000000
namespace Go.Proofs.YtoochjhipmpehaaGreatDoor
section
open Go.RowKit Go.Sort
variable {w:World} {base g cap:Nat}
theorem OwnG.blockT {α:Type} {T:TypeId} {k:Nat} {C:α->List Value} {L:List α} (h:OwnG T k C w base (some ⟨g,0,none⟩) cap L): ∃cur,w.heap[g]? =some (.cells cur T (0,0)):=by
 rcases h.2 with⟨h2,_⟩|⟨g',vA,cur,h1,h3,h4,h5,_⟩
 ·injection h2 with h2;cases h2
 ·injection h1 with e1 _ e3;injection e1 with e1;injection e1 with e1;subst e1;exact⟨cur,h4⟩
variable {F:List Nd}
theorem fv.grow {w2:World} {q:Nat} {R:Option Addr} {L:List NdR} {xS:Nat} {r:NdR}
  (h:fv w base q R cap L F) (hr:bX w r.A r.nd.n r.c r.nd.dat) (vR:OwnG 105 9 ndC w2 base (some ⟨g,0,none⟩) xS (L++[r])) (hg:w.grownBy w2 (R.map (·.block)))
  (wK:R.map (·.block)=some g\/g=w.heap.size):
  fv (w2.setCell ⟨q,0,none⟩ (.slice (some ⟨g,0,none⟩) (L.length+1) xS)) base q (some ⟨g,0,none⟩) xS (L++[r]) (F++[r.nd]):=by
 have hq:=(uZ h.self).1;have hqR:some q≠R.map (·.block):=fun e=>by
  rcases h.row.form with⟨h1,_⟩|⟨g1,h1,_⟩
  ·rw[h1]at e;cases e
  ·rw[h1]at e;simp only[Option.map_some,Option.some.injEq]at e;exact h.ne (by rw[h1,e])
 have hgq:g≠q:=fun e=>by
  rcases wK with h1|h1
  ·exact hqR (by rw[h1,e])
  ·omega
 have Bl:=(hg.block q hq hqR).trans h.self;have EV: ∀(b:Nat) (cs:Array Value) (f:Nat×Nat),w.heap[b]? =some (.cells cs 5 f)->(w2.setCell ⟨q,0,none⟩ (.slice (some ⟨g,0,none⟩) (L.length+1) xS)).heap[b]? =w.heap[b]? :=fun b cs f hb=>by
  have Br:=(uZ hb).1;have wM:b≠q:=fun e=>by
   subst e;rw[h.self]at hb;injection hb with hb;injection hb with _ hb;exact absurd hb (by decide)
  have hbR:some b≠R.map (·.block):=fun e=>by
   rcases h.row.form with⟨h1,_⟩|⟨g1,h1,_⟩
   ·rw[h1]at e;cases e
   ·rw[h1]at e;simp only[Option.map_some,Option.some.injEq]at e;subst e;have h9:=h.row;rw[h1]at h9;obtain⟨cur,h8⟩:=h9.blockT;rw[h8]at hb;injection hb with hb;injection hb with _ hb;exact absurd hb (by decide)
  exact((aj (S:=fun b=>b=q) rfl 0 _).block b (by have:=hg.size;omega) wM).trans (hg.block b Br hbR)
 refine⟨by rw[List.map_append,h.map];rfl,?_,?_,?_,h.low,fun e=>by injection e with e;injection e with e;exact hgq e⟩
 ·have h9:=Joins.block_setCell (i:=0) Bl (.slice (some ⟨g,0,none⟩) (L.length+1) xS);rw[vf];simpa using h9
 ·refine vR.same fun g1 ym=>?_;injection ym with ym;injection ym with ym;subst ym;exact(aj (S:=fun b=>b=q) rfl 0 _).block g vR.formS.2.1 hgq
 ·intro r1 AM;rcases List.mem_append.1 AM with h1|h1
  ·exact(h.bytes r1 h1).keep EV
  ·rw[List.mem_singleton]at h1;subst h1;exact hr.keep EV
theorem qq {x:Ent} (hm:may x≠0):addM F x=(may x,F):=by
 unfold addM;rw[if_pos hm]
theorem rK (w:World):fv (w.alloc (.cells #[.slice none 0 0] 101)) w.heap.size w.heap.size none 0 [] []:=
 ⟨rfl,ab _ _,OwnG.nil _ _,(fun r hr=>by cases hr),vd _,by simp⟩
def de (l:List Ent) (w:World) (e:Ending) (w':World):Prop:=
 (
  if 64<l.length then e= .returned (.tuple #[.pointer none, .int .i64 15, .int .i64 (-1)])
  else if(newM [aC] 0 l).1≠0 then e= .returned (.tuple #[.pointer none, .int .i64 (newM [aC] 0 l).1, .int .i64 (newM [aC] 0 l).2.1])
  else∃q R cap L,e= .returned (.tuple #[.pointer (some ⟨q,0,none⟩), .int .i64 0, .int .i64 0])/\fv w' w.heap.size q R cap L (newM [aC] 0 l).2.2)/\Below w.heap.size w w'
theorem de.stop {l:List Ent} {w':World} {r i:Int} (Dp: ¬64<l.length) (h:newM [aC] 0 l=(r,i,F)) (hr:r≠0) (hb:Below w.heap.size w w'):de l w (.returned (.tuple #[.pointer none, .int .i64 r, .int .i64 i])) w':=by
 refine⟨?_,hb⟩;rw[if_neg Dp,h,if_pos hr]
def BoxE (w:World) (b:Nat) (x:Ent) (A:Option Addr) (c:Nat):Prop:=w.heap[b]? =some (.cells #[.string x.path, .int .u8 (x.kind:Int), .int .u16 (x.mode:Int), .int .u32 (x.uid:Int), .int .u32 (x.gid:Int), .slice A x.n c, .string x.to] 93 (0,0))
theorem pU (P:Option Addr) (n cap:Nat) (l:List Ent) (w:World) (hl:eU w P l) (hn:n=l.length) (wY:n<=cap) (yC:n<=9223372036854775807) (yM: ∀x∈l,x.n<=524288/\x.path.size<=524288/\x.to.size<=524288):
  Calls Tryz.prog 12 #[.slice P n cap] w (de l w):=by
 by_cases Dp:64<n
 ·have hv: ∀e w',(e= .returned (.tuple #[.pointer none, .int .i64 15, .int .i64 (-1)])/\Below w.heap.size w w')->de l w e w':=fun e w' h=>by
   unfold de;rw[if_pos (by omega)];exact h
  have HV:=va hv;clear hv hl hn yM;go_enter Tryz.func12,Tryz.ntmps12;go_wp2_with fail;go_ret3;exact HV.out _ _ ⟨rfl,vz _ _⟩
 obtain⟨q,hq⟩: ∃q,q=w.heap.size:=⟨_,rfl⟩;have wJ:=rK w;obtain⟨w0,vE⟩: ∃w0,w0=w.alloc (.cells #[.slice none 0 0] 101):=⟨_,rfl⟩;rw[<-vE]at wJ;have vF:Below w.heap.size w w0:=(by rw[vE];exact vc);have q0:w0.cell? ⟨w.heap.size,0,none⟩=some (.slice none 0 0):=aa wJ.self 0;have qf:=ae wJ.self 0;have qlt:w.heap.size<w0.heap.size:=(uZ wJ.self).1;have NQ:Hid (some w.heap.size≠(none:Option Addr).map (·.block)):=va (by simp);have vY:=va vE;have wO:=va vF;have Dr:=va wJ;have Eb:=va hn;have Gx:=va hl;have Lz:=va yM;have HQ:=va hq;have wz:=vF.size;clear vF vE wJ hn hl yM hq;go_enter Tryz.func12,Tryz.ntmps12;go_upto_region 4 with(fail);rw[<-vY.out];go_upto_region 5 with(first
  |(at_builtin;refine mt oO rfl (.tmp 22) (.tmp 25) rfl w.heap.size none 0 0 [] rfl rfl (OwnG.nil _ _) ⟨aC,none,0⟩ w0.heap.size 1 rfl (ab w0 _) (by omega) (by simp;omega) ?_;intro g1 vC w1 wi ym xe JR;have q1:=(ym.cell_far ⟨w.heap.size,0,none⟩ (by simp;omega) NQ.out);have qf1:=ym.frozen_far ⟨w.heap.size,0,none⟩ (by simp;omega) NQ.out)
  |fail)
 obtain⟨w2,wD⟩: ∃w2,w2=w1.setCell ⟨w.heap.size,0,none⟩ (.slice (some ⟨g1,0,none⟩) 1 vC):=⟨_,rfl⟩;have UY:fv w2 w.heap.size w.heap.size (some ⟨g1,0,none⟩) vC [⟨aC,none,0⟩] [aC]:=by
  rw[wD];exact(Dr.out.kept vc).grow ⟨(fun h=>absurd h (by decide)),(fun x hx=>by cases hx),vd _,fun _ =>⟨rfl,rfl⟩⟩ wi ym xe
 have vM:Below w.heap.size w w2:=by
  rw[wD];exact(((wO.out.alloc wz _).grown ym (by simp;omega) (fun b hb=>by simp at hb))).setCell (vd _) _
 have CT:=va wD;have HF2:=va UY;have xC:=va vM;clear wD UY vM;go_upto_region 6 with(fail);rw[<-CT.out];clear q0 qf q1 qf1 qlt wi ym xe JR;go_wp2_with fail;go_loopw [6] (fun i wr=> ∃k F R cp L,k<=n/\i= .int .i64 ((k:Nat):Int)/\fv wr w.heap.size w.heap.size R cp L F/\FOk F/\ew F/\newM [aC] 0 l=newM F k (l.drop k)/\F.length=k+1/\Below w.heap.size w wr) (fun i _ =>n-(intOf i).toNat)
 case atStart=>exact⟨0,[aC],_,_,_,by omega,rfl,HF2.out,FOk.start,ew.start,rfl,rfl,xC.out⟩
 case round=>
  obtain⟨k,F,R,cp,L,hk,rfl,hF,wW,TN,hnew,hlen,xV⟩:=hrel;have HF:=va hF;have QG:=va wW;have QO:=va TN;have yu:=va hnew;have CW:=va hlen;have yp:=va xV;have OJ:=xV.size;clear hF wW TN hnew hlen xV;by_cases vH:k<n
  ·obtain⟨x,hx⟩: ∃x,l[k]? =some x:=⟨_,vg (by rw[<-Eb.out];exact vH)⟩;have xv:l.drop k=x::l.drop (k+1):=(List.drop_eq_getElem_cons (by rw[<-Eb.out];exact vH)).trans (by
    obtain⟨h1,h2⟩:=List.getElem?_eq_some_iff.1 hx;rw[h2])
   have GD:=Lz.out x (vl hx);obtain⟨bb,off,A,c,rfl,⟨c0,c1,c2,c3,c4,c5,c6⟩,hA,KF,Fa⟩:=(Gx.out.below yp.out) k x hx;obtain⟨w3,xb⟩: ∃w3,w3=wr.alloc (.cells #[.string x.path, .int .u8 (x.kind:Int), .int .u16 (x.mode:Int), .int .u32 (x.uid:Int), .int .u32 (x.gid:Int), .slice A x.n c, .string x.to] 93):=⟨_,rfl⟩;have Qa:BoxE w3 wr.heap.size x A c:=(by rw[xb];exact ab wr _);have vX:Below wr.heap.size wr w3:=(by rw[xb];exact vc);have Sg:wr.heap.size<w3.heap.size:=(uZ Qa).1;have vN:=rmay_any x A c w3 (by omega) (by omega) (by omega) Fa.mode;unfold Ent.val at vN;obtain⟨r,hr⟩: ∃r,r=may x:=⟨_,rfl⟩;rw[<-hr]at vN;have Cp:=va xb;have AV:=va Qa;have Gz:=va xv;have Rf:=va (hA.kept vX);have Re:=va (show∀a,A=some a->0<x.n->a.block<w3.heap.size from fun a ha h0=>by
    obtain⟨a',e,zL⟩:=hA.kept vX h0;rw[ha]at e;injection e with e;subst e;have:=World.block_lt_of_cell? _ _ (zL 0 h0);have FC:(a.add 0).block=a.block:=by unfold Addr.add;split<;>rfl
    rwa [FC]at this)
   have KU:=va vN;have Wo:=va (yp.out.trans (vX.mono OJ));have Rv:(k:Int)<(n:Int):=(by omega);have xR:=vX.size;clear xb Qa xv hx vN hA KF Fa;go_upto_region 9 with(fail);rw[<-Cp.out];clear c0 c1 c2 c3 c4 c5 c6;have x0:w3.cell? ⟨wr.heap.size,0,none⟩=some (.string x.path):=aa AV.out 0;have x1:w3.cell? ⟨wr.heap.size,1,none⟩=some (.int .u8 (x.kind:Int)):=aa AV.out 1;have x2:w3.cell? ⟨wr.heap.size,2,none⟩=some (.int .u16 (x.mode:Int)):=aa AV.out 2;have x3:w3.cell? ⟨wr.heap.size,3,none⟩=some (.int .u32 (x.uid:Int)):=aa AV.out 3;have x4:w3.cell? ⟨wr.heap.size,4,none⟩=some (.int .u32 (x.gid:Int)):=aa AV.out 4;have x5:w3.cell? ⟨wr.heap.size,5,none⟩=some (.slice A x.n c):=aa AV.out 5;have x6:w3.cell? ⟨wr.heap.size,6,none⟩=some (.string x.to):=aa AV.out 6;by_cases BP:r=0
   rotate_left
   ·have vK:(r != 0)=true:=(by rw[bne_iff_ne];exact BP);have yj:=va (show newM [aC] 0 l=(r,(k:Int),F) by rw[yu.out,Gz.out,fc (by rw[qq (by rw[<-hr];exact BP)];show may x≠0;rw[<-hr];exact BP),qq (by rw[<-hr];exact BP),hr]);have Ds:=va BP;clear hr BP;go_wp2_with (first
     |(go_at_call 41;refine(KU.out).mono ?_;rintro e w4 ⟨rfl,vZ⟩)
     |fail)
    go_ret3;exact de.stop (by rw[<-Eb.out];exact Dp) yj.out Ds.out (Wo.out.trans (vZ.mono (by omega)))
   have JO:may x=0:=(by rw[<-hr];exact BP);subst BP;have VW:=va JO;clear hr JO;go_upto_region 12 with(first
    |(go_at_call 41;refine(KU.out).mono ?_;rintro e w4 ⟨rfl,vZ⟩)
    |fail)
   have AK:Hid (BoxE w4 wr.heap.size x A c):=va ((vZ.block _ Sg).trans AV.out);have XU:wr.heap.size<w4.heap.size:=vh Sg vZ.size;have AX:=vZ.size;clear x0 x1 x2 x3 x4 x5 x6;have x0:w4.cell? ⟨wr.heap.size,0,none⟩=some (.string x.path):=aa AK.out 0;have QS:=va (Wo.out.trans (vZ.mono (by omega)));have wV:=va vZ;clear vZ;have Xd:=eG VW.out;have hxn:x.n<=65536:=(by omega);have Rt:=bj x.path;have De:=(da Xd.2.2.2.1).2.1;have Hv:=mX x.path w4 Xd.2.2.2.1;unfold cl at Hv;obtain⟨pb,hpb⟩: ∃pb,pb=Lib.hasPrefix x.path.data.toList [47]:=⟨_,rfl⟩;rw[<-hpb]at Hv;obtain⟨T,hT⟩: ∃T,T=aq x.path:=⟨_,rfl⟩;rw[<-hT]at Hv Rt;obtain⟨m,hm⟩: ∃m,m+1=T.length:=⟨T.length-1,by
    have h9:T≠[]:=(by rw[hT];exact Xd.2.2.2.2.2.1);have:=List.length_pos_iff.2 h9;omega⟩
   rw[<-hm]at Hv;have zi:m+1<=201:=(by omega);have KP:=va Hv;have HM:=va hm;have HT:=va hT;obtain⟨d1,IM⟩: ∃d1,d1=atM F 0 T:=⟨_,rfl⟩;obtain⟨d2,Ki⟩: ∃d2,d2=atM F 0 T.dropLast:=⟨_,rfl⟩;have xe: ∀W A1 vC base,Below w4.heap.size w4 W->OwnS W base A1 vC T->m+1<=vC->Calls Tryz.prog 43 #[.pointer (some ⟨w.heap.size,0,none⟩), .slice A1 (m+1) vC] W fun e w'=>e= .returned (.int .i64 (optI d1))/\W=w':=fun W A1 vC base hW hO hc=>by
    rw[IM];exact sQ w.heap.size w.heap.size cp (m+1) vC R A1 L F T W ((HF.out.kept (vX.trans (wV.out.mono (by omega)))).kept hW) QO.out (by have:=CW.out;omega) (by have:=CW.out;omega) (by have h9:=hO.texts T.length;rwa [List.take_length]at h9) hm.symm hc (by omega)
   have xA: ∀W A1 vC base,Below w4.heap.size w4 W->OwnS W base A1 vC T->m+1<=vC->Calls Tryz.prog 43 #[.pointer (some ⟨w.heap.size,0,none⟩), .slice A1 m vC] W fun e w'=>e= .returned (.int .i64 (optI d2))/\W=w':=fun W A1 vC base hW hO hc=>by
    rw[Ki];have hdl:T.dropLast.length=m:=(by rw[List.length_dropLast];omega);exact sQ w.heap.size w.heap.size cp m vC R A1 L F T.dropLast W ((HF.out.kept (vX.trans (wV.out.mono (by omega)))).kept hW) QO.out (by have:=CW.out;omega) (by have:=CW.out;omega) (by have h9:=hO.texts m;rwa [show T.take m=T.dropLast by rw[List.dropLast_eq_take];congr 1;omega]at h9) hdl (by omega) (by omega)
   have Da:=va xe;have Cu:=va xA;have LG:=va IM;have XF:=va Ki;clear Xd Rt De Hv hpb hT hm xe xA IM Ki;go_upto_region 13 with(first
    |(go_at_call 42;refine(KP.out).mono ?_;rintro e w5 ⟨A1,vC,rfl,Lu,zZ⟩;have CE:=va Lu;have Ae:=va zZ;clear Lu zZ)
    |fail)
   have Lh:=Ae.out.size;obtain⟨g5,TT,hg51,Zh,TV⟩: ∃g,A1=some ⟨g,0,none⟩/\w4.heap.size<=g/\g<w5.heap.size/\m+1<=vC:=by
    rcases CE.out.form with⟨_,e,_⟩|⟨g,e1,e2,e3,e4⟩
    ·exfalso;have:=HM.out;rw[e]at this;cases this
    ·exact⟨g,e1,e2,e3,by have:=HM.out;omega⟩
   subst TT;have CY:=va (Da.out w5 _ vC _ Ae.out CE.out TV);have ye:=va (Cu.out w5 _ vC _ Ae.out CE.out TV);have CS:Hid (BoxE w5 wr.heap.size x A c):=va ((Ae.out.block _ XU).trans AK.out);clear x0 Da Cu;obtain⟨v1,Ew⟩: ∃v1,v1=optI d1:=⟨_,rfl⟩;obtain⟨v2,Li⟩: ∃v2,v2=optI d2:=⟨_,rfl⟩;rw[<-Ew]at CY;rw[<-Li]at ye;have MO:=va (QS.out.trans (Ae.out.mono (by omega)));cases d1 with
   |some j=>
    have Zc:(0:Int)<=v1:=(by rw[Ew];show(0:Int)<=(j:Int);omega);have yj:=va (show newM [aC] 0 l=(7,(k:Int),F) by
     have h9:=lj VW.out (show atM F 0 (aq x.path)=some j by rw[<-HT.out];exact LG.out.symm);rw[yu.out,Gz.out,fc (by rw[h9];show(_ :Int)≠0;simp),h9])
    clear Ew Li;go_wp2_with (first
     |(go_at_call 43;refine(CY.out).mono ?_;rintro e w6 ⟨rfl,rfl⟩)
     |fail)
    go_ret3;exact de.stop (by rw[<-Eb.out];exact Dp) yj.out (by decide) MO.out
   |none=>
   have Yd:v1= -1:=Ew;subst Yd;clear Ew;cases d2 with
   |none=>
    have OO:v2= -1:=Li;subst OO;have yj:=va (show newM [aC] 0 l=(3,(k:Int),F) by
     have h9:=ll VW.out (show atM F 0 (aq x.path)=none by rw[<-HT.out];exact LG.out.symm) (show atM F 0 (aq x.path).dropLast=none by rw[<-HT.out];exact XF.out.symm);rw[yu.out,Gz.out,fc (by rw[h9];show(_ :Int)≠0;simp),h9])
    clear Li;have hmc:(m:Int)<=(vC:Int):=(by omega);go_upto_region 15 with(first
     |(go_at_call 43;refine(CY.out).mono ?_;rintro e w6 ⟨rfl,rfl⟩)
     |fail)
    go_wp2_with (first
     |(go_at_call 43;refine(ye.out).mono ?_;rintro e w6 ⟨rfl,rfl⟩)
     |fail)
    go_ret3;exact de.stop (by rw[<-Eb.out];exact Dp) yj.out (by decide) MO.out
   |some up=>
   have OO:v2=(up:Int):=Li;subst OO;clear Li;have yL:=uu _ QG.out.pos XF.out.symm;obtain⟨y,hy⟩: ∃y,F[up]? =some y:=⟨_,vg yL⟩;have IK:=ga hy;have Lb:=va ((HF.out.kept (vX.trans (wV.out.mono (by omega)))).kept Ae.out);obtain⟨ry,gR,SJ,SI,ZK,hgRl,hRcap,Kl⟩:=Lb.out.at hy;have NC:=Lb.out.len;have UZ:=CW.out;obtain⟨N,hN⟩: ∃N,N=F.length:=⟨_,rfl⟩;have q5:w5.cell? ⟨w.heap.size,0,none⟩=some (.slice R N cp):=(by rw[hN,<-NC];exact aa Lb.out.self 0);have qf5:=ae Lb.out.self 0;have r5:w5.cell? ⟨gR,up*9,none⟩=some (.int .u8 (y.kind:Int)):=by
    have h9:=Kl 0 (by omega);rw[Nat.add_zero]at h9;rw[h9,<-SI];rfl
   subst ZK;have hupN:up<N:=(by omega);have hNc:N<=cp:=(by omega);have hupI:(up:Int)<(N:Int):=(by omega);have hmc:(m:Int)<=(vC:Int):=(by omega);have HKI:=va IK;have Ea:=va hN;have DV:=va hy;clear yL SJ SI Kl NC UZ IK hN hy;by_cases FA:y.kind=2
   rotate_left
   ·have vK:((y.kind:Int) != 2)=true:=(by rw[bne_iff_ne];omega);have yj:=va (show newM [aC] 0 l=(8,(k:Int),F) by
     have h9:=kD VW.out (show atM F 0 (aq x.path)=none by rw[<-HT.out];exact LG.out.symm) (show atM F 0 (aq x.path).dropLast=some up by rw[<-HT.out];exact XF.out.symm) (by rw[HKI.out];exact FA);rw[yu.out,Gz.out,fc (by rw[h9];show(_ :Int)≠0;simp),h9])
    clear FA;go_upto_region 15 with(first
     |(go_at_call 43;refine(CY.out).mono ?_;rintro e w6 ⟨rfl,rfl⟩)
     |fail)
    go_wp2_with (first
     |(go_at_call 43;refine(ye.out).mono ?_;rintro e w6 ⟨rfl,rfl⟩)
     |fail)
    go_ret3;exact de.stop (by rw[<-Eb.out];exact Dp) yj.out (by decide) MO.out
   have hkE:((y.kind:Int) != 2)=false:=(by rw[FA];rfl);have FF:=va FA;clear FA;go_upto_region 15 with(first
     |(go_at_call 43;refine(CY.out).mono ?_;rintro e w6 ⟨rfl,rfl⟩)
     |fail)
   go_upto_region 20 with(first
     |(go_at_call 43;refine(ye.out).mono ?_;rintro e w6 ⟨rfl,rfl⟩)
     |fail)
   obtain⟨t,ht,htL,htD⟩:=nE HM.out;have g5m:w5.cell? ⟨g5,m,none⟩=some (.string t):=OwnS.elem CE.out ht;have l1:w.heap.size<w5.heap.size:=(uZ Lb.out.self).1;have Hp:wr.heap.size<w5.heap.size:=(uZ CS.out).1;have x1:w5.cell? ⟨wr.heap.size,1,none⟩=some (.int .u8 (x.kind:Int)):=aa CS.out 1;have x2:w5.cell? ⟨wr.heap.size,2,none⟩=some (.int .u16 (x.mode:Int)):=aa CS.out 2;have x3:w5.cell? ⟨wr.heap.size,3,none⟩=some (.int .u32 (x.uid:Int)):=aa CS.out 3;have x4:w5.cell? ⟨wr.heap.size,4,none⟩=some (.int .u32 (x.gid:Int)):=aa CS.out 4;have x5:w5.cell? ⟨wr.heap.size,5,none⟩=some (.slice A x.n c):=aa CS.out 5;have x6:w5.cell? ⟨wr.heap.size,6,none⟩=some (.string x.to):=aa CS.out 6;have HTL:=va htL;have QW:=va (sP A x.n c x.dat w5.drew (by omega) ((Rf.out.kept (wV.out.trans (Ae.out.mono (by omega)))).kept (vz _ _).drew) (fun a ha h0=>by have h9:=Re.out a ha h0;show a.block<w5.heap.size;omega));have NR:Hid (some w.heap.size≠(some (⟨gR,0,none⟩:Addr)).map (·.block)):=va (fun e=>by
    simp only[Option.map_some,Option.some.injEq]at e;exact Lb.out.ne (by rw[e]))
   have YH:(m:Int)<(m:Int)+1:=(by omega);have hmcap:m<vC:=(by omega);have Tu:IntKind.i64.wrap (m:Int)=(m:Int):=(by rw[IntKind.wrap_i64];omega);have hm00:(0:Int)<=(m:Int):=(by omega);have HNL:Hid (N=L.length):=va (by rw[Ea.out];exact Lb.out.len.symm);have hNf:N<=65:=(by have:=Ea.out;have:=CW.out;omega);have hgRw:=(HF.out.row.lt gR rfl).2;have nx:wr.heap.size≠gR:=(by omega);have ng:g5≠gR:=(by omega);have nxq:wr.heap.size≠w.heap.size:=(by have:=(uZ HF.out.self).1;omega);have ngq:g5≠w.heap.size:=(by omega);have nq:w.heap.size≠gR:=fun e=>Lb.out.ne (by rw[e]);clear CY ye ht htL htD r5;refine jw (fun w'=>w'.cell? ⟨wr.heap.size,1,none⟩=some (.int .u8 (x.kind:Int))/\w'.cell? ⟨wr.heap.size,2,none⟩=some (.int .u16 (x.mode:Int))/\w'.cell? ⟨wr.heap.size,3,none⟩=some (.int .u32 (x.uid:Int))/\w'.cell? ⟨wr.heap.size,4,none⟩=some (.int .u32 (x.gid:Int))/\w'.cell? ⟨wr.heap.size,5,none⟩=some (.slice A x.n c)/\w'.cell? ⟨wr.heap.size,6,none⟩=some (.string x.to)/\w'.cell? ⟨w.heap.size,0,none⟩=some (.slice (some ⟨gR,0,none⟩) N cp)/\w'.cell? ⟨g5,m,none⟩=some (.string t)) 34 (by kernel_rfl) (cW.of 14 (by kernel_rfl) (by kernel_rfl)) ⟨x1,x2,x3,x4,x5,x6,q5,g5m⟩ ?_;intro QK BJ;refine zt 0 ?_;refine zt 1 ?_;refine zt 2 ?_;refine zt 3 ?_;refine zt 4 ?_;refine zt 5 ?_;refine zt 6 ?_;refine zt 7 ?_;refine zt 8 ?_;refine zt 9 ?_;refine zt 10 ?_;refine zt 11 ?_;refine zt 12 ?_;refine zt 13 ?_;refine zt 14 ?_;refine zt 15 ?_;refine zt 16 ?_;refine zt 17 ?_;refine zt 18 ?_;refine zt 19 ?_;refine zt 20 ?_;refine zt 21 ?_;refine zt 22 ?_;refine zt 23 ?_;refine zt 24 ?_;refine zt 25 ?_;refine zt 27 ?_;refine zt 28 ?_;refine aT 26 (by kernel_rfl) rfl (fun K' hK=>?_)
   go_simp
   go_at_call 44;refine(QW.out).mono ?_;rintro e w7 ⟨A7,KI,rfl,Dl,_,Ek⟩;have yD:Below w5.heap.size w5 w7:=(vz w5.heap.size w5).drew.trans Ek;have q7:=(yD.cell (p:=⟨w.heap.size,0,none⟩) l1).trans q5;have y1:=(yD.cell (p:=⟨wr.heap.size,1,none⟩) Hp).trans x1;have y2:=(yD.cell (p:=⟨wr.heap.size,2,none⟩) Hp).trans x2;have y3:=(yD.cell (p:=⟨wr.heap.size,3,none⟩) Hp).trans x3;have y4:=(yD.cell (p:=⟨wr.heap.size,4,none⟩) Hp).trans x4;have y5:=(yD.cell (p:=⟨wr.heap.size,5,none⟩) Hp).trans x5;have y6:=(yD.cell (p:=⟨wr.heap.size,6,none⟩) Hp).trans x6;have g7m:=(yD.cell (p:=⟨g5,m,none⟩) Zh).trans g5m;have MI:=va Dl;clear Dl;go_wp2_with fail;refine hK.out _ _ ⟨y1,y2,y3,y4,y5,y6,q7,g7m⟩ (fun BJ=>?_);clear hK K'
   try simp only[Act.put,List.setIfInBounds_toArray,List.set_cons_zero,List.set_cons_succ,List.getElem_toArray,List.getElem_cons_succ,List.getElem_cons_zero]
   refine zt 29 ?_;refine aT 30 (by kernel_rfl) rfl (fun K' hK=>?_)
   go_simp
   have lx:wr.heap.size<w7.heap.size:=(by have:=yD.size;omega);have l7:w.heap.size<w7.heap.size:=(by have:=yD.size;omega);have lg:g5<w7.heap.size:=(by have:=yD.size;omega);have CO: ∀b i v o,b<w7.heap.size->w7.cell? ⟨b,i,none⟩=some v->(w7.alloc o).cell? ⟨b,i,none⟩=some v:=fun b i v o h1 h2=>(((vz w7.heap.size w7).alloc (vd _) o).cell (p:=⟨b,i,none⟩) h1).trans h2;refine hK.out _ _ ⟨CO _ _ _ _ lx y1,CO _ _ _ _ lx y2,CO _ _ _ _ lx y3,CO _ _ _ _ lx y4,CO _ _ _ _ lx y5,CO _ _ _ _ lx y6,CO _ _ _ _ l7 q7,CO _ _ _ _ lg g7m⟩ (fun BJ=>?_);clear hK K'
   try simp only[Act.put,List.setIfInBounds_toArray,List.set_cons_zero,List.set_cons_succ,List.getElem_toArray,List.getElem_cons_succ,List.getElem_cons_zero]
   refine aT 31 (by kernel_rfl) rfl (fun K' hK=>?_);refine step_gen oO (by rfl) (.tmp 82) (.tmp 108) (by rfl) w.heap.size (some ⟨gR,0,none⟩) cp N L HNL.out (by rfl) ((Lb.out.kept yD).row.alloc _) ⟨bD x up t,A7,KI⟩ w7.heap.size 1 (by rfl) (ab w7 _) (by omega) (by have:=yD.size;simp;omega) ?_;intro g8 Vs w8 GI Rw UD Ic;have z8:=(Rw.cell_far ⟨w.heap.size,0,none⟩ (by have:=yD.size;simp;omega) NR.out).trans (CO _ _ _ _ l7 q7);have hz57:=yD.size;have xk: ∀b i v,b<w7.heap.size->b≠gR->w7.cell? ⟨b,i,none⟩=some v->w8.cell? ⟨b,i,none⟩=some v:=(fun b i v h1 h2 h3=>(Rw.cell_far ⟨b,i,none⟩ (by simp;omega) (by simp;omega)).trans (CO _ _ _ _ h1 h3));have zf8:=(Rw.frozen_far ⟨w.heap.size,0,none⟩ (by have:=yD.size;simp;omega) NR.out).trans ((((vz w7.heap.size w7).alloc (vd _) _).frozen (p:=⟨w.heap.size,0,none⟩) l7).trans ((yD.frozen (p:=⟨w.heap.size,0,none⟩) l1).trans qf5));refine hK.out _ _ ⟨xk _ _ _ lx nx y1,xk _ _ _ lx nx y2,xk _ _ _ lx nx y3,xk _ _ _ lx nx y4,xk _ _ _ lx nx y5,xk _ _ _ lx nx y6,xk _ _ _ l7 nq q7,xk _ _ _ lg ng g7m⟩ (fun BJ=>?_);clear hK K'
   try simp only[Act.put,List.setIfInBounds_toArray,List.set_cons_zero,List.set_cons_succ,List.getElem_toArray,List.getElem_cons_succ,List.getElem_cons_zero]
   refine zt 32 ?_;refine zt 33 ?_;refine bd 34 (by kernel_rfl) rfl rfl (fun K' hK=>?_)
   go_simp
   refine hK.out _ _ ?_;clear hK K';refine be (by kernel_rfl) ?_ _
   all_goals
    have Fl:=(Lb.out.kept yD).kept ((vz w7.heap.size w7).alloc (vd _) (.cells (ndC ⟨bD x up t,A7,KI⟩).toArray 105));have ZW:=Fl.grow (r:=⟨bD x up t,A7,KI⟩) (MI.out.keep fun g cs f hg=>ve _ _ _ (uZ hg).1) GI Rw UD;rw[<-HNL.out]at ZW;have Rj:=yD.size;have hgRb:=Lb.out.row.formS.1;have DO:Below w.heap.size w (w8.setCell ⟨w.heap.size,0,none⟩ (.slice (some ⟨g8,0,none⟩) (N+1) Vs)):=(((MO.out.trans (yD.mono (by omega))).alloc (by omega) _).grown Rw (by simp;omega) (fun b hb=>by simp at hb;omega)).setCell (vd _) _;have HF9:=va ZW;have HB9:=va DO;have yi:=kE VW.out (show atM F 0 (aq x.path)=none by rw[<-HT.out];exact LG.out.symm) (show atM F 0 (aq x.path).dropLast=some up by rw[<-HT.out];exact XF.out.symm) (by rw[HKI.out];exact FF.out);rw[<-HT.out,HTL.out]at yi;have BP:(addM F x).1=0:=(by rw[yi]);have HN9:=va (show newM [aC] 0 l=newM (F++[bD x up t]) (k+1) (l.drop (k+1)) by rw[yu.out,Gz.out,nu BP,yi]);have Ph:=(mv QG.out BP).1;have Pz:=QO.out.add QG.out BP;rw[yi]at Ph Pz;have HOK9:=va (show FOk (F++[bD x up t])from Ph);have HIN9:=va (show ew (F++[bD x up t])from Pz);have HL9:=va (show(F++[bD x up t]).length=k+1+1 by rw[vf,CW.out];rfl);clear Fl ZW DO yi BP Ph Pz z8 zf8 q7 y1 y2 y3 y4 y5 y6 g7m GI Rw UD x1 x2 x3 x4 x5 x6 q5 qf5 g5m;go_wp2_with fail;go_roundw
    case rel=>exact⟨k+1,_,_,Vs,_,by omega,by go_num,HF9.out,HOK9.out,HIN9.out,HN9.out,HL9.out,HB9.out⟩
    case measure=>(simp[intOf];omega)
  ·obtain rfl:k=n:=(by omega);have yj:=va (show newM [aC] 0 l=(0,0,F) by rw[yu.out,List.drop_of_length_le (by rw[Eb.out];exact vd _)];rfl);go_wp2_with fail;go_ret3;refine⟨?_,yp.out⟩;rw[if_neg (by rw[<-Eb.out];exact Dp),yj.out,if_neg (by simp)];exact⟨_,R,cp,L,rfl,HF.out⟩
end
