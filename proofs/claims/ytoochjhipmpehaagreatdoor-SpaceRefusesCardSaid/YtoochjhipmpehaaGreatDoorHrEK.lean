/- The document's files: New. -/
import Derived.Test.YtoochjhipmpehaaGreatDoorHrDK
import Derived.Deep.RegionLaw
set_option linter.unusedVariables false
set_option linter.unusedSimpArgs false
set_option maxRecDepth 100000
set_option maxHeartbeats 8000000
namespace Go.Proofs.YtoochjhipmpehaaGreatDoor
section
open Go.RowKit Go.Sort
variable {w:World} {base g cap:Nat}
theorem OwnG.blockT {α:Type} {T:TypeId} {k:Nat} {C:α->List Value} {L:List α} (h:OwnG T k C w base (some ⟨g,0,none⟩) cap L): ∃cur,w.heap[g]? =some (.cells cur T (0,0)):=by
 rcases h.2 with⟨h2,_⟩|⟨g',vh,cur,h1,h3,h4,h5,_⟩
 ·injection h2 with h2;cases h2
 ·injection h1 with e1 _ e3;injection e1 with e1;injection e1 with e1;subst e1;exact⟨cur,h4⟩
variable {F:List Nd}
theorem fj.grow {w2:World} {q:Nat} {R:Option Addr} {L:List NdR} {yw:Nat} {r:NdR}
  (h:fj w base q R cap L F) (hr:bU w r.A r.nd.n r.c r.nd.dat) (vA:OwnG 105 9 ndC w2 base (some ⟨g,0,none⟩) yw (L++[r])) (hg:w.grownBy w2 (R.map (·.block)))
  (wC:R.map (·.block)=some g\/g=w.heap.size):
  fj (w2.setCell ⟨q,0,none⟩ (.slice (some ⟨g,0,none⟩) (L.length+1) yw)) base q (some ⟨g,0,none⟩) yw (L++[r]) (F++[r.nd]):=by
 have hq:=(uG h.self).1;have hqR:some q≠R.map (·.block):=fun e=>by
  rcases h.row.form with⟨h1,_⟩|⟨g1,h1,_⟩
  ·rw[h1]at e;cases e
  ·rw[h1]at e;simp only[Option.map_some,Option.some.injEq]at e;exact h.ne (by rw[h1,e])
 have hgq:g≠q:=fun e=>by
  rcases wC with h1|h1
  ·exact hqR (by rw[h1,e])
  ·omega
 have AK:=(hg.block q hq hqR).trans h.self;have AE: ∀(b:Nat) (cs:Array Value) (f:Nat×Nat),w.heap[b]? =some (.cells cs 5 f)->(w2.setCell ⟨q,0,none⟩ (.slice (some ⟨g,0,none⟩) (L.length+1) yw)).heap[b]? =w.heap[b]? :=fun b cs f hb=>by
  have AQ:=(uG hb).1;have we:b≠q:=fun e=>by
   subst e;rw[h.self]at hb;injection hb with hb;injection hb with _ hb;exact absurd hb (by decide)
  have hbR:some b≠R.map (·.block):=fun e=>by
   rcases h.row.form with⟨h1,_⟩|⟨g1,h1,_⟩
   ·rw[h1]at e;cases e
   ·rw[h1]at e;simp only[Option.map_some,Option.some.injEq]at e;subst e;have h9:=h.row;rw[h1]at h9;obtain⟨cur,h8⟩:=h9.blockT;rw[h8]at hb;injection hb with hb;injection hb with _ hb;exact absurd hb (by decide)
  exact((aj (S:=fun b=>b=q) rfl 0 _).block b (by have:=hg.size;omega) we).trans (hg.block b AQ hbR)
 refine⟨by rw[List.map_append,h.map];rfl,?_,?_,?_,h.low,fun e=>by injection e with e;injection e with e;exact hgq e⟩
 ·have h9:=Joins.block_setCell (i:=0) AK (.slice (some ⟨g,0,none⟩) (L.length+1) yw);rw[uM];simpa using h9
 ·refine vA.same fun g1 xH=>?_;injection xH with xH;injection xH with xH;subst xH;exact(aj (S:=fun b=>b=q) rfl 0 _).block g vA.formS.2.1 hgq
 ·intro r1 Dc;rcases List.mem_append.1 Dc with h1|h1
  ·exact(h.bytes r1 h1).keep AE
  ·rw[List.mem_singleton]at h1;subst h1;exact hr.keep AE
theorem qb {x:Ent} (hm:may x≠0):addM F x=(may x,F):=by
 unfold addM;rw[if_pos hm]
theorem ru (w:World):fj (w.alloc (.cells #[.slice none 0 0] 101)) w.heap.size w.heap.size none 0 [] []:=
 ⟨rfl,ab _ _,OwnG.nil _ _,(fun r hr=>by cases hr),uK _,by simp⟩
def cX (l:List Ent) (w:World) (e:Ending) (w':World):Prop:=
 (
  if 64<l.length then e= .returned (.tuple #[.pointer none, .int .i64 15, .int .i64 (-1)])
  else if(newM [aB] 0 l).1≠0 then e= .returned (.tuple #[.pointer none, .int .i64 (newM [aB] 0 l).1, .int .i64 (newM [aB] 0 l).2.1])
  else∃q R cap L,e= .returned (.tuple #[.pointer (some ⟨q,0,none⟩), .int .i64 0, .int .i64 0])/\fj w' w.heap.size q R cap L (newM [aB] 0 l).2.2)/\Below w.heap.size w w'
theorem cX.stop {l:List Ent} {w':World} {r i:Int} (CP: ¬64<l.length) (h:newM [aB] 0 l=(r,i,F)) (hr:r≠0) (hb:Below w.heap.size w w'):cX l w (.returned (.tuple #[.pointer none, .int .i64 r, .int .i64 i])) w':=by
 refine⟨?_,hb⟩;rw[if_neg CP,h,if_pos hr]
def BoxE (w:World) (b:Nat) (x:Ent) (A:Option Addr) (c:Nat):Prop:=w.heap[b]? =some (.cells #[.string x.path, .int .u8 (x.kind:Int), .int .u16 (x.mode:Int), .int .u32 (x.uid:Int), .int .u32 (x.gid:Int), .slice A x.n c, .string x.to] 93 (0,0))
theorem pG (P:Option Addr) (n cap:Nat) (l:List Ent) (w:World) (hl:eM w P l) (hn:n=l.length) (wB:n<=cap) (ya:n<=9223372036854775807) (yC: ∀x∈l,x.n<=524288/\x.path.size<=524288/\x.to.size<=524288):
  Calls Tryz.prog 12 #[.slice P n cap] w (cX l w):=by
 by_cases CP:64<n
 ·have hv: ∀e w',(e= .returned (.tuple #[.pointer none, .int .i64 15, .int .i64 (-1)])/\Below w.heap.size w w')->cX l w e w':=fun e w' h=>by
   unfold cX;rw[if_pos (by omega)];exact h
  have HV:=uH hv;clear hv hl hn yC;go_enter Tryz.func12,Tryz.ntmps12;go_wp2_with fail;go_ret3;exact HV.out _ _ ⟨rfl,vg _ _⟩
 obtain⟨q,hq⟩: ∃q,q=w.heap.size:=⟨_,rfl⟩;have wg:=ru w;obtain⟨w0,vl⟩: ∃w0,w0=w.alloc (.cells #[.slice none 0 0] 101):=⟨_,rfl⟩;rw[<-vl]at wg;have vm:Below w.heap.size w w0:=(by rw[vl];exact uJ);have q0:w0.cell? ⟨w.heap.size,0,none⟩=some (.slice none 0 0):=aa wg.self 0;have qf:=ae wg.self 0;have qlt:w.heap.size<w0.heap.size:=(uG wg.self).1;have NQ:Hid (some w.heap.size≠(none:Option Addr).map (·.block)):=uH (by simp);have vF:=uH vl;have wj:=uH vm;have CR:=uH wg;have DA:=uH hn;have FT:=uH hl;have NA:=uH yC;have HQ:=uH hq;have vQ:=vm.size;clear vm vl wg hn hl yC hq;go_enter Tryz.func12,Tryz.ntmps12;go_upto_region 4 with(fail);rw[<-vF.out];go_upto_region 5 with(first
  |(at_builtin;refine oY oC rfl (.tmp 22) (.tmp 25) rfl w.heap.size none 0 0 [] rfl rfl (OwnG.nil _ _) ⟨aB,none,0⟩ w0.heap.size 1 rfl (ab w0 _) (by omega) (by simp;omega) ?_;intro g1 vj w1 vL xH wG Jl;have q1:=(xH.cell_far ⟨w.heap.size,0,none⟩ (by simp;omega) NQ.out);have qf1:=xH.frozen_far ⟨w.heap.size,0,none⟩ (by simp;omega) NQ.out)
  |fail)
 obtain⟨w2,vU⟩: ∃w2,w2=w1.setCell ⟨w.heap.size,0,none⟩ (.slice (some ⟨g1,0,none⟩) 1 vj):=⟨_,rfl⟩;have Uh:fj w2 w.heap.size w.heap.size (some ⟨g1,0,none⟩) vj [⟨aB,none,0⟩] [aB]:=by
  rw[vU];exact(CR.out.kept uJ).grow ⟨(fun h=>absurd h (by decide)),(fun x hx=>by cases hx),uK _,fun _ =>⟨rfl,rfl⟩⟩ vL xH wG
 have vs:Below w.heap.size w w2:=by
  rw[vU];exact(((wj.out.alloc vQ _).grown xH (by simp;omega) (fun b hb=>by simp at hb))).setCell (uK _) _
 have Cv:=uH vU;have ZS:=uH Uh;have xd:=uH vs;clear vU Uh vs;go_upto_region 6 with(fail);rw[<-Cv.out];clear q0 qf q1 qf1 qlt vL xH wG Jl;go_wp2_with fail;go_loopw [6] (fun i wr=> ∃k F R cp L,k<=n/\i= .int .i64 ((k:Nat):Int)/\fj wr w.heap.size w.heap.size R cp L F/\FOk F/\en F/\newM [aB] 0 l=newM F k (l.drop k)/\F.length=k+1/\Below w.heap.size w wr) (fun i _ =>n-(intOf i).toNat)
 case atStart=>exact⟨0,[aB],_,_,_,by omega,rfl,ZS.out,FOk.start,en.start,rfl,rfl,xd.out⟩
 case round=>
  obtain⟨k,F,R,cp,L,hk,rfl,hF,wz,Tg,hnew,hlen,xx⟩:=hrel;have HF:=uH hF;have Qk:=uH wz;have Qr:=uH Tg;have xS:=uH hnew;have Cx:=uH hlen;have xP:=uH xx;have Oh:=xx.size;clear hF wz Tg hnew hlen xx;by_cases vo:k<n
  ·obtain⟨x,hx⟩: ∃x,l[k]? =some x:=⟨_,uN (by rw[<-DA.out];exact vo)⟩;have wU:l.drop k=x::l.drop (k+1):=(List.drop_eq_getElem_cons (by rw[<-DA.out];exact vo)).trans (by
    obtain⟨h1,h2⟩:=List.getElem?_eq_some_iff.1 hx;rw[h2])
   have Gb:=NA.out x (uS hx);obtain⟨bb,off,A,c,rfl,⟨c0,c1,c2,c3,c4,c5,c6⟩,hA,Kf,Ex⟩:=(FT.out.below xP.out) k x hx;obtain⟨w3,wE⟩: ∃w3,w3=wr.alloc (.cells #[.string x.path, .int .u8 (x.kind:Int), .int .u16 (x.mode:Int), .int .u32 (x.uid:Int), .int .u32 (x.gid:Int), .slice A x.n c, .string x.to] 93):=⟨_,rfl⟩;have PB:BoxE w3 wr.heap.size x A c:=(by rw[wE];exact ab wr _);have vG:Below wr.heap.size wr w3:=(by rw[wE];exact uJ);have RB:wr.heap.size<w3.heap.size:=(uG PB).1;have vt:=rmay_any x A c w3 (by omega) (by omega) (by omega) Ex.mode;unfold Ent.val at vt;obtain⟨r,hr⟩: ∃r,r=may x:=⟨_,rfl⟩;rw[<-hr]at vt;have BO:=uH wE;have As:=uH PB;have FV:=uH wU;have Ms:=uH (hA.kept vG);have QE:=uH (show∀a,A=some a->0<x.n->a.block<w3.heap.size from fun a ha h0=>by
    obtain⟨a',e,zk⟩:=hA.kept vG h0;rw[ha]at e;injection e with e;subst e;have:=World.block_lt_of_cell? _ _ (zk 0 h0);have EU:(a.add 0).block=a.block:=by unfold Addr.add;split<;>rfl
    rwa [EU]at this)
   have Kv:=uH vt;have Vv:=uH (xP.out.trans (vG.mono Oh));have QQ:(k:Int)<(n:Int):=(by omega);have xq:=vG.size;clear wE PB wU hx vt hA Kf Ex;go_upto_region 9 with(fail);rw[<-BO.out];clear c0 c1 c2 c3 c4 c5 c6;have x0:w3.cell? ⟨wr.heap.size,0,none⟩=some (.string x.path):=aa As.out 0;have x1:w3.cell? ⟨wr.heap.size,1,none⟩=some (.int .u8 (x.kind:Int)):=aa As.out 1;have x2:w3.cell? ⟨wr.heap.size,2,none⟩=some (.int .u16 (x.mode:Int)):=aa As.out 2;have x3:w3.cell? ⟨wr.heap.size,3,none⟩=some (.int .u32 (x.uid:Int)):=aa As.out 3;have x4:w3.cell? ⟨wr.heap.size,4,none⟩=some (.int .u32 (x.gid:Int)):=aa As.out 4;have x5:w3.cell? ⟨wr.heap.size,5,none⟩=some (.slice A x.n c):=aa As.out 5;have x6:w3.cell? ⟨wr.heap.size,6,none⟩=some (.string x.to):=aa As.out 6;by_cases Bo:r=0
   rotate_left
   ·have vu:(r != 0)=true:=(by rw[bne_iff_ne];exact Bo);have xK:=uH (show newM [aB] 0 l=(r,(k:Int),F) by rw[xS.out,FV.out,eV (by rw[qb (by rw[<-hr];exact Bo)];show may x≠0;rw[<-hr];exact Bo),qb (by rw[<-hr];exact Bo),hr]);have CS:=uH Bo;clear hr Bo;go_wp2_with (first
     |(go_at_call 41;refine(Kv.out).mono ?_;rintro e w4 ⟨rfl,vD⟩)
     |fail)
    go_ret3;exact cX.stop (by rw[<-DA.out];exact CP) xK.out CS.out (Vv.out.trans (vD.mono (by omega)))
   have Ji:may x=0:=(by rw[<-hr];exact Bo);subst Bo;have Vg:=uH Ji;clear hr Ji;go_upto_region 12 with(first
    |(go_at_call 41;refine(Kv.out).mono ?_;rintro e w4 ⟨rfl,vD⟩)
    |fail)
   have Ae:Hid (BoxE w4 wr.heap.size x A c):=uH ((vD.block _ RB).trans As.out);have WU:wr.heap.size<w4.heap.size:=uO RB vD.size;have AN:=vD.size;clear x0 x1 x2 x3 x4 x5 x6;have x0:w4.cell? ⟨wr.heap.size,0,none⟩=some (.string x.path):=aa Ae.out 0;have Qu:=uH (Vv.out.trans (vD.mono (by omega)));have wu:=uH vD;clear vD;have We:=eA Vg.out;have hxn:x.n<=65536:=(by omega);have OE:=bc x.path;have CE:=(cW We.2.2.2.1).2.1;have GQ:=mN x.path w4 We.2.2.2.1;unfold ce at GQ;obtain⟨pb,hpb⟩: ∃pb,pb=Lib.hasPrefix x.path.data.toList [47]:=⟨_,rfl⟩;rw[<-hpb]at GQ;obtain⟨T,hT⟩: ∃T,T=aq x.path:=⟨_,rfl⟩;rw[<-hT]at GQ OE;obtain⟨m,hm⟩: ∃m,m+1=T.length:=⟨T.length-1,by
    have h9:T≠[]:=(by rw[hT];exact We.2.2.2.2.2.1);have:=List.length_pos_iff.2 h9;omega⟩
   rw[<-hm]at GQ;have yI:m+1<=201:=(by omega);have Kr:=uH GQ;have HM:=uH hm;have HT:=uH hT;obtain⟨d1,Ig⟩: ∃d1,d1=atM F 0 T:=⟨_,rfl⟩;obtain⟨d2,JD⟩: ∃d2,d2=atM F 0 T.dropLast:=⟨_,rfl⟩;have wG: ∀W A1 vj base,Below w4.heap.size w4 W->OwnS W base A1 vj T->m+1<=vj->Calls Tryz.prog 43 #[.pointer (some ⟨w.heap.size,0,none⟩), .slice A1 (m+1) vj] W fun e w'=>e= .returned (.int .i64 (optI d1))/\W=w':=fun W A1 vj base hW hO hc=>by
    rw[Ig];exact sD w.heap.size w.heap.size cp (m+1) vj R A1 L F T W ((HF.out.kept (vG.trans (wu.out.mono (by omega)))).kept hW) Qr.out (by have:=Cx.out;omega) (by have:=Cx.out;omega) (by have h9:=hO.texts T.length;rwa [List.take_length]at h9) hm.symm hc (by omega)
   have wZ: ∀W A1 vj base,Below w4.heap.size w4 W->OwnS W base A1 vj T->m+1<=vj->Calls Tryz.prog 43 #[.pointer (some ⟨w.heap.size,0,none⟩), .slice A1 m vj] W fun e w'=>e= .returned (.int .i64 (optI d2))/\W=w':=fun W A1 vj base hW hO hc=>by
    rw[JD];have hdl:T.dropLast.length=m:=(by rw[List.length_dropLast];omega);exact sD w.heap.size w.heap.size cp m vj R A1 L F T.dropLast W ((HF.out.kept (vG.trans (wu.out.mono (by omega)))).kept hW) Qr.out (by have:=Cx.out;omega) (by have:=Cx.out;omega) (by have h9:=hO.texts m;rwa [show T.take m=T.dropLast by rw[List.dropLast_eq_take];congr 1;omega]at h9) hdl (by omega) (by omega)
   have CB:=uH wG;have BY:=uH wZ;have Lb:=uH Ig;have WD:=uH JD;clear We OE CE GQ hpb hT hm wG wZ Ig JD;go_upto_region 13 with(first
    |(go_at_call 42;refine(Kr.out).mono ?_;rintro e w5 ⟨A1,vj,rfl,KR,zQ⟩;have Ch:=uH KR;have zC:=uH zQ;clear KR zQ)
    |fail)
   have It:=zC.out.size;obtain⟨g5,Tm,hg51,Yc,To⟩: ∃g,A1=some ⟨g,0,none⟩/\w4.heap.size<=g/\g<w5.heap.size/\m+1<=vj:=by
    rcases Ch.out.form with⟨_,e,_⟩|⟨g,e1,e2,e3,e4⟩
    ·exfalso;have:=HM.out;rw[e]at this;cases this
    ·exact⟨g,e1,e2,e3,by have:=HM.out;omega⟩
   subst Tm;have Cz:=uH (CB.out w5 _ vj _ zC.out Ch.out To);have xF:=uH (BY.out w5 _ vj _ zC.out Ch.out To);have Cu:Hid (BoxE w5 wr.heap.size x A c):=uH ((zC.out.block _ WU).trans Ae.out);clear x0 CB BY;obtain⟨v1,DV⟩: ∃v1,v1=optI d1:=⟨_,rfl⟩;obtain⟨v2,KI⟩: ∃v2,v2=optI d2:=⟨_,rfl⟩;rw[<-DV]at Cz;rw[<-KI]at xF;have Mk:=uH (Qu.out.trans (zC.out.mono (by omega)));cases d1 with
   |some j=>
    have XX:(0:Int)<=v1:=(by rw[DV];show(0:Int)<=(j:Int);omega);have xK:=uH (show newM [aB] 0 l=(7,(k:Int),F) by
     have h9:=kV Vg.out (show atM F 0 (aq x.path)=some j by rw[<-HT.out];exact Lb.out.symm);rw[xS.out,FV.out,eV (by rw[h9];show(_ :Int)≠0;simp),h9])
    clear DV KI;go_wp2_with (first
     |(go_at_call 43;refine(Cz.out).mono ?_;rintro e w6 ⟨rfl,rfl⟩)
     |fail)
    go_ret3;exact cX.stop (by rw[<-DA.out];exact CP) xK.out (by decide) Mk.out
   |none=>
   have Xd:v1= -1:=DV;subst Xd;clear DV;cases d2 with
   |none=>
    have Om:v2= -1:=KI;subst Om;have xK:=uH (show newM [aB] 0 l=(3,(k:Int),F) by
     have h9:=kW Vg.out (show atM F 0 (aq x.path)=none by rw[<-HT.out];exact Lb.out.symm) (show atM F 0 (aq x.path).dropLast=none by rw[<-HT.out];exact WD.out.symm);rw[xS.out,FV.out,eV (by rw[h9];show(_ :Int)≠0;simp),h9])
    clear KI;have hmc:(m:Int)<=(vj:Int):=(by omega);go_upto_region 15 with(first
     |(go_at_call 43;refine(Cz.out).mono ?_;rintro e w6 ⟨rfl,rfl⟩)
     |fail)
    go_wp2_with (first
     |(go_at_call 43;refine(xF.out).mono ?_;rintro e w6 ⟨rfl,rfl⟩)
     |fail)
    go_ret3;exact cX.stop (by rw[<-DA.out];exact CP) xK.out (by decide) Mk.out
   |some up=>
   have Om:v2=(up:Int):=KI;subst Om;clear KI;have yk:=tZ _ Qk.out.pos WD.out.symm;obtain⟨y,hy⟩: ∃y,F[up]? =some y:=⟨_,uN yk⟩;have If:=fW hy;have KE:=uH ((HF.out.kept (vG.trans (wu.out.mono (by omega)))).kept zC.out);obtain⟨ry,gR,Sc,Sb,YE,hgRl,hRcap,JG⟩:=KE.out.at hy;have MT:=KE.out.len;have Ui:=Cx.out;obtain⟨N,hN⟩: ∃N,N=F.length:=⟨_,rfl⟩;have q5:w5.cell? ⟨w.heap.size,0,none⟩=some (.slice R N cp):=(by rw[hN,<-MT];exact aa KE.out.self 0);have qf5:=ae KE.out.self 0;have r5:w5.cell? ⟨gR,up*9,none⟩=some (.int .u8 (y.kind:Int)):=by
    have h9:=JG 0 (by omega);rw[Nat.add_zero]at h9;rw[h9,<-Sb];rfl
   subst YE;have hupN:up<N:=(by omega);have hNc:N<=cp:=(by omega);have hupI:(up:Int)<(N:Int):=(by omega);have hmc:(m:Int)<=(vj:Int):=(by omega);have HKI:=uH If;have Dz:=uH hN;have Du:=uH hy;clear yk Sc Sb JG MT Ui If hN hy;by_cases Am:y.kind=2
   rotate_left
   ·have vu:((y.kind:Int) != 2)=true:=(by rw[bne_iff_ne];omega);have xK:=uH (show newM [aB] 0 l=(8,(k:Int),F) by
     have h9:=kn Vg.out (show atM F 0 (aq x.path)=none by rw[<-HT.out];exact Lb.out.symm) (show atM F 0 (aq x.path).dropLast=some up by rw[<-HT.out];exact WD.out.symm) (by rw[HKI.out];exact Am);rw[xS.out,FV.out,eV (by rw[h9];show(_ :Int)≠0;simp),h9])
    clear Am;go_upto_region 15 with(first
     |(go_at_call 43;refine(Cz.out).mono ?_;rintro e w6 ⟨rfl,rfl⟩)
     |fail)
    go_wp2_with (first
     |(go_at_call 43;refine(xF.out).mono ?_;rintro e w6 ⟨rfl,rfl⟩)
     |fail)
    go_ret3;exact cX.stop (by rw[<-DA.out];exact CP) xK.out (by decide) Mk.out
   have hkE:((y.kind:Int) != 2)=false:=(by rw[Am];rfl);have EZ:=uH Am;clear Am;go_upto_region 15 with(first
     |(go_at_call 43;refine(Cz.out).mono ?_;rintro e w6 ⟨rfl,rfl⟩)
     |fail)
   go_upto_region 20 with(first
     |(go_at_call 43;refine(xF.out).mono ?_;rintro e w6 ⟨rfl,rfl⟩)
     |fail)
   obtain⟨t,ht,htL,htD⟩:=nk HM.out;have g5m:w5.cell? ⟨g5,m,none⟩=some (.string t):=OwnS.elem Ch.out ht;have l1:w.heap.size<w5.heap.size:=(uG KE.out.self).1;have GL:wr.heap.size<w5.heap.size:=(uG Cu.out).1;have x1:w5.cell? ⟨wr.heap.size,1,none⟩=some (.int .u8 (x.kind:Int)):=aa Cu.out 1;have x2:w5.cell? ⟨wr.heap.size,2,none⟩=some (.int .u16 (x.mode:Int)):=aa Cu.out 2;have x3:w5.cell? ⟨wr.heap.size,3,none⟩=some (.int .u32 (x.uid:Int)):=aa Cu.out 3;have x4:w5.cell? ⟨wr.heap.size,4,none⟩=some (.int .u32 (x.gid:Int)):=aa Cu.out 4;have x5:w5.cell? ⟨wr.heap.size,5,none⟩=some (.slice A x.n c):=aa Cu.out 5;have x6:w5.cell? ⟨wr.heap.size,6,none⟩=some (.string x.to):=aa Cu.out 6;have HTL:=uH htL;have Qy:=uH (sC A x.n c x.dat w5.drew (by omega) ((Ms.out.kept (wu.out.trans (zC.out.mono (by omega)))).kept (vg _ _).drew) (fun a ha h0=>by have h9:=QE.out a ha h0;show a.block<w5.heap.size;omega));have NR:Hid (some w.heap.size≠(some (⟨gR,0,none⟩:Addr)).map (·.block)):=uH (fun e=>by
    simp only[Option.map_some,Option.some.injEq]at e;exact KE.out.ne (by rw[e]))
   have XC:(m:Int)<(m:Int)+1:=(by omega);have hmcap:m<vj:=(by omega);have SJ:IntKind.i64.wrap (m:Int)=(m:Int):=(by rw[IntKind.wrap_i64];omega);have hm00:(0:Int)<=(m:Int):=(by omega);have HNL:Hid (N=L.length):=uH (by rw[Dz.out];exact KE.out.len.symm);have hNf:N<=65:=(by have:=Dz.out;have:=Cx.out;omega);have hgRw:=(HF.out.row.lt gR rfl).2;have nx:wr.heap.size≠gR:=(by omega);have ng:g5≠gR:=(by omega);have nxq:wr.heap.size≠w.heap.size:=(by have:=(uG HF.out.self).1;omega);have ngq:g5≠w.heap.size:=(by omega);have nq:w.heap.size≠gR:=fun e=>KE.out.ne (by rw[e]);clear Cz xF ht htL htD r5;refine jk (fun w'=>w'.cell? ⟨wr.heap.size,1,none⟩=some (.int .u8 (x.kind:Int))/\w'.cell? ⟨wr.heap.size,2,none⟩=some (.int .u16 (x.mode:Int))/\w'.cell? ⟨wr.heap.size,3,none⟩=some (.int .u32 (x.uid:Int))/\w'.cell? ⟨wr.heap.size,4,none⟩=some (.int .u32 (x.gid:Int))/\w'.cell? ⟨wr.heap.size,5,none⟩=some (.slice A x.n c)/\w'.cell? ⟨wr.heap.size,6,none⟩=some (.string x.to)/\w'.cell? ⟨w.heap.size,0,none⟩=some (.slice (some ⟨gR,0,none⟩) N cp)/\w'.cell? ⟨g5,m,none⟩=some (.string t)) 34 (by kernel_rfl) (cR.of 14 (by kernel_rfl) (by kernel_rfl)) ⟨x1,x2,x3,x4,x5,x6,q5,g5m⟩ ?_;intro Qo Bh;refine zt 0 ?_;refine zt 1 ?_;refine zt 2 ?_;refine zt 3 ?_;refine zt 4 ?_;refine zt 5 ?_;refine zt 6 ?_;refine zt 7 ?_;refine zt 8 ?_;refine zt 9 ?_;refine zt 10 ?_;refine zt 11 ?_;refine zt 12 ?_;refine zt 13 ?_;refine zt 14 ?_;refine zt 15 ?_;refine zt 16 ?_;refine zt 17 ?_;refine zt 18 ?_;refine zt 19 ?_;refine zt 20 ?_;refine zt 21 ?_;refine zt 22 ?_;refine zt 23 ?_;refine zt 24 ?_;refine zt 25 ?_;refine zt 27 ?_;refine zt 28 ?_;refine aR 26 (by kernel_rfl) rfl (fun K' hK=>?_)
   go_simp
   go_at_call 44;refine(Qy.out).mono ?_;rintro e w7 ⟨A7,Ki,rfl,CL,_,AR⟩;have yb:Below w5.heap.size w5 w7:=(vg w5.heap.size w5).drew.trans AR;have q7:=(yb.cell (p:=⟨w.heap.size,0,none⟩) l1).trans q5;have y1:=(yb.cell (p:=⟨wr.heap.size,1,none⟩) GL).trans x1;have y2:=(yb.cell (p:=⟨wr.heap.size,2,none⟩) GL).trans x2;have y3:=(yb.cell (p:=⟨wr.heap.size,3,none⟩) GL).trans x3;have y4:=(yb.cell (p:=⟨wr.heap.size,4,none⟩) GL).trans x4;have y5:=(yb.cell (p:=⟨wr.heap.size,5,none⟩) GL).trans x5;have y6:=(yb.cell (p:=⟨wr.heap.size,6,none⟩) GL).trans x6;have g7m:=(yb.cell (p:=⟨g5,m,none⟩) Yc).trans g5m;have Kt:=uH CL;clear CL;go_wp2_with fail;refine hK.out _ _ ⟨y1,y2,y3,y4,y5,y6,q7,g7m⟩ (fun Bh=>?_);clear hK K'
   try simp only[Act.put,List.setIfInBounds_toArray,List.set_cons_zero,List.set_cons_succ,List.getElem_toArray,List.getElem_cons_succ,List.getElem_cons_zero]
   refine zt 29 ?_;refine aR 30 (by kernel_rfl) rfl (fun K' hK=>?_)
   go_simp
   have lx:wr.heap.size<w7.heap.size:=(by have:=yb.size;omega);have l7:w.heap.size<w7.heap.size:=(by have:=yb.size;omega);have lg:g5<w7.heap.size:=(by have:=yb.size;omega);have Cq: ∀b i v o,b<w7.heap.size->w7.cell? ⟨b,i,none⟩=some v->(w7.alloc o).cell? ⟨b,i,none⟩=some v:=fun b i v o h1 h2=>(((vg w7.heap.size w7).alloc (uK _) o).cell (p:=⟨b,i,none⟩) h1).trans h2;refine hK.out _ _ ⟨Cq _ _ _ _ lx y1,Cq _ _ _ _ lx y2,Cq _ _ _ _ lx y3,Cq _ _ _ _ lx y4,Cq _ _ _ _ lx y5,Cq _ _ _ _ lx y6,Cq _ _ _ _ l7 q7,Cq _ _ _ _ lg g7m⟩ (fun Bh=>?_);clear hK K'
   try simp only[Act.put,List.setIfInBounds_toArray,List.set_cons_zero,List.set_cons_succ,List.getElem_toArray,List.getElem_cons_succ,List.getElem_cons_zero]
   refine aR 31 (by kernel_rfl) rfl (fun K' hK=>?_);refine step_gen oC (by rfl) (.tmp 82) (.tmp 108) (by rfl) w.heap.size (some ⟨gR,0,none⟩) cp N L HNL.out (by rfl) ((KE.out.kept yb).row.alloc _) ⟨bA x up t,A7,Ki⟩ w7.heap.size 1 (by rfl) (ab w7 _) (by omega) (by have:=yb.size;simp;omega) ?_;intro g8 UD w8 Ei QR TN GX;have z8:=(QR.cell_far ⟨w.heap.size,0,none⟩ (by have:=yb.size;simp;omega) NR.out).trans (Cq _ _ _ _ l7 q7);have hz57:=yb.size;have wQ: ∀b i v,b<w7.heap.size->b≠gR->w7.cell? ⟨b,i,none⟩=some v->w8.cell? ⟨b,i,none⟩=some v:=(fun b i v h1 h2 h3=>(QR.cell_far ⟨b,i,none⟩ (by simp;omega) (by simp;omega)).trans (Cq _ _ _ _ h1 h3));have zf8:=(QR.frozen_far ⟨w.heap.size,0,none⟩ (by have:=yb.size;simp;omega) NR.out).trans ((((vg w7.heap.size w7).alloc (uK _) _).frozen (p:=⟨w.heap.size,0,none⟩) l7).trans ((yb.frozen (p:=⟨w.heap.size,0,none⟩) l1).trans qf5));refine hK.out _ _ ⟨wQ _ _ _ lx nx y1,wQ _ _ _ lx nx y2,wQ _ _ _ lx nx y3,wQ _ _ _ lx nx y4,wQ _ _ _ lx nx y5,wQ _ _ _ lx nx y6,wQ _ _ _ l7 nq q7,wQ _ _ _ lg ng g7m⟩ (fun Bh=>?_);clear hK K'
   try simp only[Act.put,List.setIfInBounds_toArray,List.set_cons_zero,List.set_cons_succ,List.getElem_toArray,List.getElem_cons_succ,List.getElem_cons_zero]
   refine zt 32 ?_;refine zt 33 ?_;refine aY 34 (by kernel_rfl) rfl rfl (fun K' hK=>?_)
   go_simp
   refine hK.out _ _ ?_;clear hK K';refine aZ (by kernel_rfl) ?_ _
   all_goals
    have EH:=(KE.out.kept yb).kept ((vg w7.heap.size w7).alloc (uK _) (.cells (ndC ⟨bA x up t,A7,Ki⟩).toArray 105));have YP:=EH.grow (r:=⟨bA x up t,A7,Ki⟩) (Kt.out.keep fun g cs f hg=>uL _ _ _ (uG hg).1) Ei QR TN;rw[<-HNL.out]at YP;have Od:=yb.size;have hgRb:=KE.out.row.formS.1;have BG:Below w.heap.size w (w8.setCell ⟨w.heap.size,0,none⟩ (.slice (some ⟨g8,0,none⟩) (N+1) UD)):=(((Mk.out.trans (yb.mono (by omega))).alloc (by omega) _).grown QR (by simp;omega) (fun b hb=>by simp at hb;omega)).setCell (uK _) _;have HF9:=uH YP;have WG:=uH BG;have xJ:=ko Vg.out (show atM F 0 (aq x.path)=none by rw[<-HT.out];exact Lb.out.symm) (show atM F 0 (aq x.path).dropLast=some up by rw[<-HT.out];exact WD.out.symm) (by rw[HKI.out];exact EZ.out);rw[<-HT.out,HTL.out]at xJ;have Bo:(addM F x).1=0:=(by rw[xJ]);have HN9:=uH (show newM [aB] 0 l=newM (F++[bA x up t]) (k+1) (l.drop (k+1)) by rw[xS.out,FV.out,mW Bo,xJ]);have OH:=(mi Qk.out Bo).1;have OW:=Qr.out.add Qk.out Bo;rw[xJ]at OH OW;have ZA:=uH (show FOk (F++[bA x up t])from OH);have ZO:=uH (show en (F++[bA x up t])from OW);have HL9:=uH (show(F++[bA x up t]).length=k+1+1 by rw[uM,Cx.out];rfl);clear EH YP BG xJ Bo OH OW z8 zf8 q7 y1 y2 y3 y4 y5 y6 g7m Ei QR TN x1 x2 x3 x4 x5 x6 q5 qf5 g5m;go_wp2_with fail;go_roundw
    case rel=>exact⟨k+1,_,_,UD,_,by omega,by go_num,HF9.out,ZA.out,ZO.out,HN9.out,HL9.out,WG.out⟩
    case measure=>(simp[intOf];omega)
  ·obtain rfl:k=n:=(by omega);have xK:=uH (show newM [aB] 0 l=(0,0,F) by rw[xS.out,List.drop_of_length_le (by rw[DA.out];exact uK _)];rfl);go_wp2_with fail;go_ret3;refine⟨?_,xP.out⟩;rw[if_neg (by rw[<-DA.out];exact CP),xK.out,if_neg (by simp)];exact⟨_,R,cp,L,rfl,HF.out⟩
end
