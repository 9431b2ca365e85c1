/- Regions: Put of the program and of the references. Regions: what comes in: a slice of regions, a region; Regions: append of a whole list; -/
import Derived.Test.YtoochjhipmpehaaGreatDoorRdK
import Derived.ChangeOld
import Derived.ChangeSame
import Derived.Deep.Fields
import Derived.Deep.Slices
import Derived.Deep.Upon
import Derived.Lib.SmallJoins
import Derived.OpenShut
import Derived.ProofKit
set_option linter.unusedVariables false
set_option linter.unusedSimpArgs false
set_option maxRecDepth 100000
set_option maxHeartbeats 4000000
namespace Go.Proofs.YtoochjhipmpehaaGreatDoor
section
open Go.RowKit Go.Sort
def Rg.put (l:List Reg) (r:Reg):List Reg×Int:=if Rg.right l=true/\Rg.one r=true then Rg.few (Rg.joined (Rg.ins (Rg.without l r.fr r.to) r))else([],1)
theorem rx (A:Option Addr) (cap:Nat) (l:List Reg) (r:Reg) (i bv c base:Nat) (w:World) (ho:OwnR w base A cap l) (vQ:base<=w.heap.size) (hf:l.length<=100000) (hi:i<=l.length)
  (hv:w.heap[bv]? =some (.cells #[.int .u64 r.fr, .int .u64 r.to, .int .u8 r.prot, .int .i64 r.ino, .int .u64 r.off] 45 (0,0))) (vK: ∀g,A.map (·.block)=some g->bv≠g):
  Calls Tryz.prog 105 #[.slice A l.length cap, .int .i64 i, .slice (some ⟨bv,0,none⟩) 1 c] w
   fun e w'=> ∃A' vA,e= .returned (.slice A' (l.length+1) vA)/\OwnR w' base A' vA (Rg.insAt l i r)/\Below base w w':=by
 by_cases he:i=l.length
 ·subst he;refine(ru A cap l r bv c base w ho vQ hf hv).mono ?_;rintro e w' ⟨A',vA,h1,h2,h3⟩;refine⟨A',vA,h1,?_,h3⟩;simpa [Rg.insAt]using h2
 ·have vH:i<l.length:=(by omega);rcases ho.form with⟨_,h2,_⟩|⟨g,rfl,h2,h3,h4⟩
  ·rw[h2]at vH;simp at vH
  ·by_cases hr:l.length+1<=cap
   ·exact oU g cap l r i bv c base w ho vQ hf vH hr hv (vK g rfl)
   ·exact oV g cap l r i bv c base w ho vQ hf vH (by omega) hv
theorem srch_of {w:World} {gr cap base:Nat} {A:Option Addr} {out:List Reg} {r:Reg} (ho:OwnR w base A cap out) (Lq:gr<w.heap.size) (hb:w.heap[gr]? =some (.cells #[.int .u64 r.fr, .int .u64 r.to, .int .u8 r.prot, .int .i64 r.ino, .int .u64 r.off] 45 (0,0))):
  Srch (w.alloc (.cells #[.slice A out.length cap] 59)) w.heap.size gr A cap out r (w.alloc (.cells #[.slice A out.length cap] 59)).heap.size:=by
 refine⟨by simp,by simp,?_,by simp;omega,fun k x hx=>?_⟩
 ·exact(fm ((ve w _ gr Lq).trans hb)).c0
 ·rcases ho.form with⟨_,h,_⟩|⟨g,rfl,h2,h3,h4⟩
  ·rw[h]at hx;simp at hx
  ·exact⟨g,rfl,by simp;omega,((ho.elem hx).alloc _).c0⟩
theorem put_any (r:Reg) (A:Option Addr) (n cap:Nat) (w:World) (l:List Reg) (hl:RSl w w.heap.size A n cap l) (wW:dD l) (hr:r.Ok):
  Calls Tryz.prog 62 #[.slice A n cap, .agg #[.int .u64 (r).fr, .int .u64 (r).to, .int .u8 (r).prot, .int .i64 (r).ino, .int .u64 (r).off]] w
   fun e w'=> ∃A' vA,e= .returned (.tuple #[.slice A' (Rg.put l r).1.length vA, .int .i64 (Rg.put l r).2])/\OwnR w' w.heap.size A' vA (Rg.put l r).1/\Below w.heap.size w w':=by
 have DI:=va hl.len;have xr:Below w.heap.size w (w.alloc (.cells #[.int .u64 r.fr, .int .u64 r.to, .int .u8 r.prot, .int .i64 r.ino, .int .u64 r.off] 45)):=by exact vb
 have Cy:=(hl.below xr (vd _)).more (B':=(w.alloc (.cells #[.int .u64 r.fr, .int .u64 r.to, .int .u8 r.prot, .int .i64 r.ino, .int .u64 r.off] 45)).heap.size) (by simp);have RH:=nc A n cap _ l Cy wW;cases DE:Rg.right l with
 |false=>
  have HP:Hid (Rg.put l r=([],1)):=va (by simp[Rg.put,DE]);rw[DE]at RH;have HR:=va RH;clear RH DE hl Cy xr;go_enter Tryz.func62,Tryz.ntmps62;go_wp2_with (go_at_call 98;refine(HR.out).mono ?_;rintro e w1 ⟨rfl,vD⟩);go_ret2;refine⟨none,0,?_,?_,?_⟩
  ·rw[HP.out];rfl
  ·rw[HP.out];exact OwnR.nil _ _
  ·have:=vD.size;simp at this
   exact vb
 |true=>
  rw[DE]at RH;have HR:=va RH;have Dp:=(bY DE).2;have HRL:=va DE;clear RH DE;cases Pf:Rg.one r with
  |false=>
   have HP:Hid (Rg.put l r=([],1)):=va (by simp[Rg.put,Pf]);have hM:=fun W=>lS r W hr;rw[Pf]at hM;have HM:=va hM;clear hM Pf hl Cy xr;go_enter Tryz.func62,Tryz.ntmps62;go_wp2_with (first
    |(go_at_call 98;refine(HR.out).mono ?_;rintro e w1 ⟨rfl,vD⟩;obtain⟨hc,Xi⟩:=bcell vD;have hz:=vD.size;simp at hz;have wz:w.heap.size<w1.heap.size:=(by omega))
    |(go_at_call 99;refine(HM.out _).mono ?_;rintro e w2 ⟨rfl,vM⟩;have wm:=vM.size))
   go_ret2;refine⟨none,0,?_,?_,?_⟩
   ·rw[HP.out];rfl
   ·rw[HP.out];exact OwnR.nil _ _
   ·exact vb
  |true=>
   have HP:Hid (Rg.put l r=Rg.few (Rg.joined (Rg.ins (Rg.without l r.fr r.to) r))):=va (by simp[Rg.put,HRL.out,Pf]);have hM:=fun W=>lS r W hr;rw[Pf]at hM;have HM:=va hM;have xu:=(aD Pf).1;have EE:=pS (l:=l) (f:=r.fr) (t:=r.to) (di HRL.out) wW xu;have BG:=(gt (dk HRL.out) xu).sorted;have hwl:=om l r.fr r.to;have HG:=va EE;have HS:=va BG;clear hM Pf EE BG;go_enter Tryz.func62,Tryz.ntmps62;go_wp2_with fail;refine(HR.out).mono ?_;rintro e w1 ⟨rfl,vD⟩;have wg:=vD.size;simp at wg;have zA:=(vD.block _ (by simp)).trans (heap_alloc_new w (.cells #[.int .u64 r.fr, .int .u64 r.to, .int .u8 r.prot, .int .i64 r.ino, .int .u64 r.off] 45));have xm:=(Cy.below vD (vd _)).more vD.size;obtain⟨a0,a1,a2,a3,a4⟩:=fm zA;clear Cy;go_wp2_with fail;refine(HM.out _).mono ?_;rintro e w2 ⟨rfl,vM⟩;have wm:=vM.size;have yY:=(vM.block _ (by omega)).trans zA;have wE:=(xm.below vM (vd _)).more vM.size;clear a0 a1 a2 a3 a4 xm zA;obtain⟨a0,a1,a2,a3,a4⟩:=fm yY;go_wp2_with fail;refine(iO r.fr r.to A n cap w2 l wE (by have:=DI.out;omega)).mono ?_;rintro e w3 ⟨A1,c1,rfl,AF,vX⟩;rw[HG.out]at AF⊢;have xR:=vX.size;have CG:=(vX.block _ (by omega)).trans yY;clear a0 a1 a2 a3 a4 wE yY;obtain⟨a0,a1,a2,a3,a4⟩:=fm CG;generalize Tc:Rg.without l r.fr r.to=out at *
   have hof:out.length<=200:=(by omega);go_wp2_with fail;have FJ:=srch_of (r:=r) AF (by omega) CG;have hsc:=qO w3.heap.size w.heap.size A1 c1 out r _ FJ (by omega) HS.out;have Ag:=AF.alloc (.cells #[.slice A1 out.length c1] 59);have zz:=(ve w3 (.cells #[.slice A1 out.length c1] 59) _ (by omega)).trans CG;have wj:=AF.row;have zL:=FJ.cell;refine hsc.mono ?_;rintro e w5 ⟨⟨i,hi,rfl,Sy⟩,zZ⟩;have Lh:=zZ.size;simp at Lh;have yG:=Ag.below zZ (vd _);have xi:=(zZ.block _ (by simp;omega)).trans zz;have Zq:=(zZ.cell (p:=⟨w3.heap.size,0,none⟩) (by simp)).trans zL;have SPL:=va Sy;clear a0 a1 a2 a3 a4 FJ hsc CG zz Ag zL Sy;obtain⟨a0,a1,a2,a3,a4⟩:=fm xi;go_wp2_with fail;refine(rx A1 c1 out r i w5.heap.size 1 w2.heap.size _ (yG.alloc _) (by simp;omega) (by omega) hi (heap_alloc_new w5 _) (fun g hg=>by have:=wj g hg;omega)).mono ?_;rintro e w6 ⟨A6,c6,rfl,BU,Bt⟩;rw[tJ hi SPL.out]at BU;have JW:(Rg.ins out r).length=out.length+1:=ins_len out r;have SL:=BU.rsl (by omega);rw[JW]at SL;have OF:=Bt.size;simp at OF;clear a0 a1 a2 a3 a4 Zq yG xi;go_wp2_with fail;refine(mf A6 _ c6 w6 _ SL (by omega)).mono ?_;rintro e w7 ⟨A7,c7,rfl,Ns,Ek⟩;have Rj:=Ek.size;go_wp2_with fail;go_ret2;have EI:=HP.out;refine⟨A7,c7,?_,?_,?_⟩
   ·rw[EI];rfl
   ·rw[EI];exact Ns.lower (by omega)
   ·have q1:Below w.heap.size w w2:=by exact vb
    have q2:Below w.heap.size w w3:=q1.trans (vX.mono (by omega));have q3:Below w.heap.size w w5:=(q2.alloc (by omega) _).trans (zZ.mono (by simp;omega));have q4:Below w.heap.size w w6:=(q3.alloc (by omega) _).trans (Bt.mono (by omega));exact q4.trans (Ek.mono (by omega))
end
section
open Go.ChangeShapes Go.WideShapes Go.ChangeAt Go.RowKit Go.Deep Go.Joins
section
variable {H:Type} {enc:TypeId×Value->H} {P:Program} {w:World} {base:Nat} {spare:Nat->Bool} {held:Bool}
theorem ee {t e:TypeId} {fs:Array Field} {fuel:Nat} {cs:List Value} {x:DataW H×List MemPlace} (ht:P.underlying t=some (.slice e)) (he:P.underlying e=some (.struct fs))
  (xj:oneCellFields P fs=true) (hC:P.cellsOf e=fs.size) (h:DataW.trod enc P w base spare held fuel t cs=some x):
  (cs=[.slice none 0 0]/\x=(.nil,[]))\/
  ∃(a:Addr) (len cap m:Nat) (D:Nat->DataW H) (Pl:Nat->List MemPlace),cs=[.slice (some a) len cap]/\base<=a.block/\len<=cap/\cap<=maxLen/\m=(if spare a.block then cap else len)/\
   x=(.slice ((List.range len).map D) ((List.range (m-len)).map fun j=>D (len+j)),MemPlace.row a (m*fs.size)++(List.range m).flatMap Pl)/\
   ∀i,i<m-> ∃(ys:List (DataW H×List MemPlace)) (n:Nat),D i= .agg (ys.map (·.1))/\Pl i=ys.flatMap (·.2)/\ys.length=fs.size/\
    ∀(j:Nat) (f:Field),fs[j]? =some f-> ∃(v:Value) (y:DataW H×List MemPlace),w.cell? (a.add (i*fs.size+j))=some v/\ys[j]? =some y/\DataW.trod enc P w base spare held n f.type [v]=some y:=by
 rcases open_slice ht h with h0|⟨a,len,cap,m,n,D,Pl,yK,hb,hl,hm,Cx,hx,hi⟩
 ·exact .inl h0
 ·refine .inr ⟨a,len,cap,m,D,Pl,yK,hb,hl,hm,Cx,by rw[hC]at hx;exact hx,fun i him=>?_⟩;obtain⟨cs',hc,ht'⟩:=hi i him;rw[hC]at hc;obtain⟨ys,n',Tr,hy,hlen,Rl,hf⟩:=DataW.trod_struct he ht';obtain⟨_,zL,wK⟩:=World.cells?_some hc;simp only[Prod.mk.injEq]at hy;refine⟨ys,n',hy.1,hy.2,Rl,fun j f hj=>?_⟩;obtain⟨ho,hk⟩:=hone_of xj j f hj;have Bq:j<fs.size:=(uZ hj).1;have vU:=wK j Bq;have hv:cs'[j]? =some (cs'[j]'(by omega)):=vg (by omega);have h1:=hf j f hj;rw[ho,hk]at h1;have Te:(cs'.drop j).take 1=[cs'[j]'(by omega)]:=by
   rw[List.drop_eq_getElem_cons (by omega)];rfl
  rw[Te]at h1;have hys:ys[j]? =some (ys[j]'(by omega)):=vg (by omega);refine⟨_,_,?_,hys,h1.trans hys⟩;rw[<-Go.Deep.add_add,vU,hv]
end
section
variable {H:Type} {enc:TypeId×Value->H} {P:Program} {w:World} {base:Nat} {spare:Nat->Bool} {held:Bool}
end
theorem reg_ok {a b c d e:Int} (h0:(Lit.int .u64 a).wf=true) (h1:(Lit.int .u64 b).wf=true) (h2:(Lit.int .u8 c).wf=true) (h3:(Lit.int .i64 d).wf=true) (h4:(Lit.int .u64 e).wf=true):Reg.Ok ⟨a,b,c,d,e⟩:=
 ⟨(bounds_u64 h0).1,(bounds_u64 h0).2,(bounds_u64 h1).1,(bounds_u64 h1).2,(bounds_u8 h2).1,(bounds_u8 h2).2,(bounds_i64 h3).1,(bounds_i64 h3).2,(bounds_u64 h4).1,(bounds_u64 h4).2⟩
section
variable {H:Type} {enc:TypeId×Value->H} {w:World} {base:Nat} {spare:Nat->Bool} {held:Bool}
end
end
section
open Go.RowKit Go.Sort
theorem app_many {w:World} {ops:Array Oper} {rest:List Oper} {o:Oper} {a:Act} {Q:Exit->Act->World->Prop} (yv:o.guard=none) (s x:Operand)
  (ho:o.op= .call { callee:= .builtin .append,args:= #[s,x],argTypes:= #[59,59]})
  (base:Nat) (A:Option Addr) (cap:Nat) (l:List Reg) (hs:a.eval s= .slice A l.length cap) (vR:OwnR w base A cap l)
  (X:Option Addr) (m c:Nat) (k:List Reg) (hx:a.eval x= .slice X m c) (hk:RSl w w.heap.size X m c k)
  (wb:l.length+m<1000000) (vQ:base<=w.heap.size)
  (h: ∀A' vA w',OwnR w' base A' vA (l++k)->w.grownBy w' (A.map (·.block))->wpList Tryz.prog ops Q rest (a.put o.dst (.slice A' (l.length+m) vA)) w'):
  wpList Tryz.prog ops Q (o::rest) a w:=by
 obtain⟨i0,yb,wz,wg,wm⟩:=info_parts jg;have xP:=hk.len;rcases Nat.eq_zero_or_pos m with rfl|hm
 ·obtain rfl:k=[]:=List.eq_nil_of_length_eq_zero xP;have yy:Src Tryz.prog i0.size 59 (.slice X 0 c) 0 [] w:=by
   cases X with
   |none=>exact Src.ofNil w Tryz.underlying59 c
   |some ad=>exact Src.ofSlice w Tryz.underlying59 ad 0 c [] (by simp) (by simp) (by simp)
  have hle:l.length<=cap:=by
   rcases vR.form with⟨_,h2,h3⟩|⟨g,_,_,_,h4⟩
   ·rw[h2];simp
   ·exact h4
  have xz:=run_append_nothing (P:=Tryz.prog) w 59 59 o.type 45 i0 Tryz.underlying59 yb A l.length cap hle (.slice X 0 c) yy;have h':=h A cap w (by simpa using vR) ⟨rfl,rfl,rfl,vd _,fun _ _ _ =>rfl⟩;refine wpList_plain yv fun K hK=>?_;unfold Oper.wp;simp[execOp,ho,resolve,invoke,builtin,hs,hx,xz,Result.andThen];exact hK _ _ h'
 ·obtain⟨b,off,rfl,_⟩: ∃b off,X=some ⟨b,off,none⟩/\True:=by
   obtain⟨b,off,e,_⟩:=hk.at_ 0 (k[0]'(by omega)) (vg (by omega));exact⟨b,off,e,trivial⟩
  refine wpList_append_lies w yv s x 59 ho base 45 i0 _ 5 40 Tryz.underlying59 yb wz wg wm rfl (by omega) _ l.length (rcs l) hs vR ⟨b,off,none⟩ m c (rcs k) hx (by rw[aY,xP]) hk.cells
   (bN k) hm (by unfold maxLen;omega) (by omega) vQ w.heap.size rfl ?_
  intro g vA w' xG hg wK vH;refine h (some ⟨g,0,none⟩) vA w' ?_ ?_
  ·unfold OwnR;rw[dZ,vf,xP];exact xG
  ·cases A<;>simpa [Value.ownBlock]using hg
theorem kS (A:Option Addr) (n cap:Nat) (l:List Reg) (w:World) (h:RSl w w.heap.size A n cap l) (hf:n<900000):
  Calls Tryz.prog 57 #[.slice A n cap] w fun e w'=> ∃A' vA,e= .returned (.slice A' n vA)/\OwnR w' w.heap.size A' vA l/\Below w.heap.size w w':=by
 have hlen:=h.len;cases A with
 |none=>
  have h0:l=[]:=by
   cases l with
   |nil=>rfl
   |cons r l=>obtain⟨b,off,e,_⟩:=h.at_ 0 r rfl;cases e
  subst h0;obtain rfl:n=0:=hlen.symm;have DG:=fun(W:World)=>Lib.run_eql_slice_nil (P:=Tryz.prog) (w:=W) 59 45 none 0 cap 0 0 Tryz.underlying59;go_enter Tryz.func57,Tryz.ntmps57;go_wp2_with fail;go_ret;exact⟨none,0,rfl,OwnR.nil w _,vz _ _⟩
 |some ad=>
  have DG:=fun(W:World)=>Lib.run_eql_slice_nil (P:=Tryz.prog) (w:=W) 59 45 (some ad) n cap 0 0 Tryz.underlying59;have h1:=h.below (w':=w.alloc (.cells #[] 45)) vc (vd _);have H1:=va (h1.more (B':=(w.alloc (.cells #[] 45)).heap.size) (by simp));clear h h1;go_enter Tryz.func57,Tryz.ntmps57;go_upto_region 3 with(fail);have Tv:OwnR (w.alloc (.cells #[] 45)) w.heap.size (some ⟨w.heap.size,0,none⟩) 0 []:=⟨rfl, .inr ⟨w.heap.size,0, #[],rfl,vd _,heap_alloc_new w _,vd _,by decide,rfl,rfl⟩⟩;go_wp2_with (at_builtin;refine app_many rfl (.tmp 5) (.tmp 6) rfl w.heap.size (some ⟨w.heap.size,0,none⟩) 0 [] rfl Tv (some ad) n cap l rfl H1.out (by simp;omega) (by simp) ?_;intro A' vA w2 ho hg);have hb:Below w.heap.size w w2:=vc.grown hg (by simp) (fun k hk=>by simp at hk;omega);have HO:=va ho;clear ho hg;go_ret;exact⟨A',vA,by simp,by simpa using HO.out,hb⟩
end
