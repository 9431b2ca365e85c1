/- Regions: Put of the program and of the references. Regions: what comes in: a slice of regions, a region; Regions: append of a whole list; -/
import Derived.Test.YtoochjhipmpehaaGreatDoorRdK
import Derived.ChangeOld
import Derived.ChangeSame
import Derived.Deep.Fields
import Derived.Deep.Slices
import Derived.Deep.Upon
import Derived.Lib.SmallJoins
import Derived.OpenShut
import Derived.ProofKit
set_option linter.unusedVariables false
set_option linter.unusedSimpArgs false
set_option maxRecDepth 100000
set_option maxHeartbeats 4000000
namespace Go.Proofs.YtoochjhipmpehaaGreatDoor
section
open Go.RowKit Go.Sort
def Rg.put (l:List Reg) (r:Reg):List Reg×Int:=if Rg.right l=true/\Rg.one r=true then Rg.few (Rg.joined (Rg.ins (Rg.without l r.fr r.to) r))else([],1)
theorem rh (A:Option Addr) (cap:Nat) (l:List Reg) (r:Reg) (i bv c base:Nat) (w:World) (ho:OwnR w base A cap l) (vK:base<=w.heap.size) (hf:l.length<=100000) (hi:i<=l.length)
  (hv:w.heap[bv]? =some (.cells #[.int .u64 r.fr, .int .u64 r.to, .int .u8 r.prot, .int .i64 r.ino, .int .u64 r.off] 45 (0,0))) (vB: ∀g,A.map (·.block)=some g->bv≠g):
  Calls Tryz.prog 105 #[.slice A l.length cap, .int .i64 i, .slice (some ⟨bv,0,none⟩) 1 c] w
   fun e w'=> ∃A' vk,e= .returned (.slice A' (l.length+1) vk)/\OwnR w' base A' vk (Rg.insAt l i r)/\Below base w w':=by
 by_cases he:i=l.length
 ·subst he;refine(rg A cap l r bv c base w ho vK hf hv).mono ?_;rintro e w' ⟨A',vk,h1,h2,h3⟩;refine⟨A',vk,h1,?_,h3⟩;simpa [Rg.insAt]using h2
 ·have vq:i<l.length:=(by omega);rcases ho.form with⟨_,h2,_⟩|⟨g,rfl,h2,h3,h4⟩
  ·rw[h2]at vq;simp at vq
  ·by_cases hr:l.length+1<=cap
   ·exact oM g cap l r i bv c base w ho vK hf vq hr hv (vB g rfl)
   ·exact oN g cap l r i bv c base w ho vK hf vq (by omega) hv
theorem srch_of {w:World} {gr cap base:Nat} {A:Option Addr} {out:List Reg} {r:Reg} (ho:OwnR w base A cap out) (LB:gr<w.heap.size) (hb:w.heap[gr]? =some (.cells #[.int .u64 r.fr, .int .u64 r.to, .int .u8 r.prot, .int .i64 r.ino, .int .u64 r.off] 45 (0,0))):
  Srch (w.alloc (.cells #[.slice A out.length cap] 59)) w.heap.size gr A cap out r (w.alloc (.cells #[.slice A out.length cap] 59)).heap.size:=by
 refine⟨by simp,by simp,?_,by simp;omega,fun k x hx=>?_⟩
 ·exact(fp ((uO w _ gr LB).trans hb)).c0
 ·rcases ho.form with⟨_,h,_⟩|⟨g,rfl,h2,h3,h4⟩
  ·rw[h]at hx;simp at hx
  ·exact⟨g,rfl,by simp;omega,((ho.elem hx).alloc _).c0⟩
theorem put_any (r:Reg) (A:Option Addr) (n cap:Nat) (w:World) (l:List Reg) (hl:RSl w w.heap.size A n cap l) (wM:dG l) (hr:r.Ok):
  Calls Tryz.prog 62 #[.slice A n cap, .agg #[.int .u64 (r).fr, .int .u64 (r).to, .int .u8 (r).prot, .int .i64 (r).ino, .int .u64 (r).off]] w
   fun e w'=> ∃A' vk,e= .returned (.tuple #[.slice A' (Rg.put l r).1.length vk, .int .i64 (Rg.put l r).2])/\OwnR w' w.heap.size A' vk (Rg.put l r).1/\Below w.heap.size w w':=by
 have DV:=uK hl.len;have vM:Below w.heap.size w (w.alloc (.cells #[.int .u64 r.fr, .int .u64 r.to, .int .u8 r.prot, .int .i64 r.ino, .int .u64 r.off] 45)):=by exact uL
 have CX:=(hl.below vM (uN _)).more (B':=(w.alloc (.cells #[.int .u64 r.fr, .int .u64 r.to, .int .u8 r.prot, .int .i64 r.ino, .int .u64 r.off] 45)).heap.size) (by simp);have RE:=mM A n cap _ l CX wM;cases Ds:Rg.right l with
 |false=>
  have HP:Hid (Rg.put l r=([],1)):=uK (by simp[Rg.put,Ds]);rw[Ds]at RE;have HR:=uK RE;clear RE Ds hl CX vM;go_enter Tryz.func62,Tryz.ntmps62;go_wp2_with (go_at_call 98;refine(HR.out).mono ?_;rintro e w1 ⟨rfl,vl⟩);go_ret2;refine⟨none,0,?_,?_,?_⟩
  ·rw[HP.out];rfl
  ·rw[HP.out];exact OwnR.nil _ _
  ·have:=vl.size;simp at this
   exact uL
 |true=>
  rw[Ds]at RE;have HR:=uK RE;have DF:=(ei Ds).2;have ZB:=uK Ds;clear RE Ds;cases Pm:Rg.one r with
  |false=>
   have HP:Hid (Rg.put l r=([],1)):=uK (by simp[Rg.put,Pm]);have hM:=fun W=>lD r W hr;rw[Pm]at hM;have HM:=uK hM;clear hM Pm hl CX vM;go_enter Tryz.func62,Tryz.ntmps62;go_wp2_with (first
    |(go_at_call 98;refine(HR.out).mono ?_;rintro e w1 ⟨rfl,vl⟩;obtain⟨hc,Wz⟩:=bcell vl;have hz:=vl.size;simp at hz;have wb:w.heap.size<w1.heap.size:=(by omega))
    |(go_at_call 99;refine(HM.out _).mono ?_;rintro e w2 ⟨rfl,vs⟩;have vS:=vs.size))
   go_ret2;refine⟨none,0,?_,?_,?_⟩
   ·rw[HP.out];rfl
   ·rw[HP.out];exact OwnR.nil _ _
   ·exact uL
  |true=>
   have HP:Hid (Rg.put l r=Rg.few (Rg.joined (Rg.ins (Rg.without l r.fr r.to) r))):=uK (by simp[Rg.put,ZB.out,Pm]);have hM:=fun W=>lD r W hr;rw[Pm]at hM;have HM:=uK hM;have xD:=(aE Pm).1;have CK:=pK (l:=l) (f:=r.fr) (t:=r.to) (eh ZB.out) wM xD;have BK:=(gu (dp ZB.out) xD).sorted;have hwl:=oc l r.fr r.to;have HG:=uK CK;have HS:=uK BK;clear hM Pm CK BK;go_enter Tryz.func62,Tryz.ntmps62;go_wp2_with fail;refine(HR.out).mono ?_;rintro e w1 ⟨rfl,vl⟩;have vz:=vl.size;simp at vz;have zL:=(vl.block _ (by simp)).trans (heap_alloc_new w (.cells #[.int .u64 r.fr, .int .u64 r.to, .int .u8 r.prot, .int .i64 r.ino, .int .u64 r.off] 45));have xn:=(CX.below vl (uN _)).more vl.size;obtain⟨a0,a1,a2,a3,a4⟩:=fp zL;clear CX;go_wp2_with fail;refine(HM.out _).mono ?_;rintro e w2 ⟨rfl,vs⟩;have vS:=vs.size;have zk:=(vs.block _ (by omega)).trans zL;have wk:=(xn.below vs (uN _)).more vs.size;clear a0 a1 a2 a3 a4 xn zL;obtain⟨a0,a1,a2,a3,a4⟩:=fp zk;go_wp2_with fail;refine(iG r.fr r.to A n cap w2 l wk (by have:=DV.out;omega)).mono ?_;rintro e w3 ⟨A1,c1,rfl,CW,vx⟩;rw[HG.out]at CW⊢;have xI:=vx.size;have CT:=(vx.block _ (by omega)).trans zk;clear a0 a1 a2 a3 a4 wk zk;obtain⟨a0,a1,a2,a3,a4⟩:=fp CT;generalize SK:Rg.without l r.fr r.to=out at *
   have hof:out.length<=200:=(by omega);go_wp2_with fail;have Ga:=srch_of (r:=r) CW (by omega) CT;have hsc:=qB w3.heap.size w.heap.size A1 c1 out r _ Ga (by omega) HS.out;have At:=CW.alloc (.cells #[.slice A1 out.length c1] 59);have zK:=(uO w3 (.cells #[.slice A1 out.length c1] 59) _ (by omega)).trans CT;have vV:=CW.row;have xG:=Ga.cell;refine hsc.mono ?_;rintro e w5 ⟨⟨i,hi,rfl,Sj⟩,Ao⟩;have Lw:=Ao.size;simp at Lw;have xW:=At.below Ao (uN _);have xk:=(Ao.block _ (by simp;omega)).trans zK;have YD:=(Ao.cell (p:=⟨w3.heap.size,0,none⟩) (by simp)).trans xG;have SPL:=uK Sj;clear a0 a1 a2 a3 a4 Ga hsc CT zK At xG Sj;obtain⟨a0,a1,a2,a3,a4⟩:=fp xk;go_wp2_with fail;refine(rh A1 c1 out r i w5.heap.size 1 w2.heap.size _ (xW.alloc _) (by simp;omega) (by omega) hi (heap_alloc_new w5 _) (fun g hg=>by have:=vV g hg;omega)).mono ?_;rintro e w6 ⟨A6,c6,rfl,BZ,BC⟩;rw[tu hi SPL.out]at BZ;have Kk:(Rg.ins out r).length=out.length+1:=ins_len out r;have Sw:=BZ.rsl (by omega);rw[Kk]at Sw;have Rf:=BC.size;simp at Rf;clear a0 a1 a2 a3 a4 YD xW xk;go_wp2_with fail;refine(lO A6 _ c6 w6 _ Sw (by omega)).mono ?_;rintro e w7 ⟨A7,c7,rfl,SQ,Hw⟩;have Re:=Hw.size;go_wp2_with fail;go_ret2;have ET:=HP.out;refine⟨A7,c7,?_,?_,?_⟩
   ·rw[ET];rfl
   ·rw[ET];exact SQ.lower (by omega)
   ·have q1:Below w.heap.size w w2:=by exact uL
    have q2:Below w.heap.size w w3:=q1.trans (vx.mono (by omega));have q3:Below w.heap.size w w5:=(q2.alloc (by omega) _).trans (Ao.mono (by simp;omega));have q4:Below w.heap.size w w6:=(q3.alloc (by omega) _).trans (BC.mono (by omega));exact q4.trans (Hw.mono (by omega))
end
section
open Go.ChangeShapes Go.WideShapes Go.ChangeAt Go.RowKit Go.Deep Go.Joins
section
variable {H:Type} {enc:TypeId×Value->H} {P:Program} {w:World} {base:Nat} {spare:Nat->Bool} {held:Bool}
theorem ep {t e:TypeId} {fs:Array Field} {fuel:Nat} {cs:List Value} {x:DataW H×List MemPlace} (ht:P.underlying t=some (.slice e)) (he:P.underlying e=some (.struct fs))
  (xl:oneCellFields P fs=true) (hC:P.cellsOf e=fs.size) (h:DataW.trod enc P w base spare held fuel t cs=some x):
  (cs=[.slice none 0 0]/\x=(.nil,[]))\/
  ∃(a:Addr) (len cap m:Nat) (D:Nat->DataW H) (Pl:Nat->List MemPlace),cs=[.slice (some a) len cap]/\base<=a.block/\len<=cap/\cap<=maxLen/\m=(if spare a.block then cap else len)/\
   x=(.slice ((List.range len).map D) ((List.range (m-len)).map fun j=>D (len+j)),MemPlace.row a (m*fs.size)++(List.range m).flatMap Pl)/\
   ∀i,i<m-> ∃(ys:List (DataW H×List MemPlace)) (n:Nat),D i= .agg (ys.map (·.1))/\Pl i=ys.flatMap (·.2)/\ys.length=fs.size/\
    ∀(j:Nat) (f:Field),fs[j]? =some f-> ∃(v:Value) (y:DataW H×List MemPlace),w.cell? (a.add (i*fs.size+j))=some v/\ys[j]? =some y/\DataW.trod enc P w base spare held n f.type [v]=some y:=by
 rcases open_slice ht h with h0|⟨a,len,cap,m,n,D,Pl,xX,hb,hl,hm,CN,hx,hi⟩
 ·exact .inl h0
 ·refine .inr ⟨a,len,cap,m,D,Pl,xX,hb,hl,hm,CN,by rw[hC]at hx;exact hx,fun i him=>?_⟩;obtain⟨cs',hc,ht'⟩:=hi i him;rw[hC]at hc;obtain⟨ys,n',Td,hy,hlen,Ri,hf⟩:=DataW.trod_struct he ht';obtain⟨_,xG,wU⟩:=World.cells?_some hc;simp only[Prod.mk.injEq]at hy;refine⟨ys,n',hy.1,hy.2,Ri,fun j f hj=>?_⟩;obtain⟨ho,hk⟩:=hone_of xl j f hj;have CY:j<fs.size:=(uJ hj).1;have vG:=wU j CY;have hv:cs'[j]? =some (cs'[j]'(by omega)):=uQ (by omega);have h1:=hf j f hj;rw[ho,hk]at h1;have SM:(cs'.drop j).take 1=[cs'[j]'(by omega)]:=by
   rw[List.drop_eq_getElem_cons (by omega)];rfl
  rw[SM]at h1;have hys:ys[j]? =some (ys[j]'(by omega)):=uQ (by omega);refine⟨_,_,?_,hys,h1.trans hys⟩;rw[<-Go.Deep.add_add,vG,hv]
end
section
variable {H:Type} {enc:TypeId×Value->H} {P:Program} {w:World} {base:Nat} {spare:Nat->Bool} {held:Bool}
end
theorem reg_ok {a b c d e:Int} (h0:(Lit.int .u64 a).wf=true) (h1:(Lit.int .u64 b).wf=true) (h2:(Lit.int .u8 c).wf=true) (h3:(Lit.int .i64 d).wf=true) (h4:(Lit.int .u64 e).wf=true):Reg.Ok ⟨a,b,c,d,e⟩:=
 ⟨(bounds_u64 h0).1,(bounds_u64 h0).2,(bounds_u64 h1).1,(bounds_u64 h1).2,(bounds_u8 h2).1,(bounds_u8 h2).2,(bounds_i64 h3).1,(bounds_i64 h3).2,(bounds_u64 h4).1,(bounds_u64 h4).2⟩
section
variable {H:Type} {enc:TypeId×Value->H} {w:World} {base:Nat} {spare:Nat->Bool} {held:Bool}
end
end
section
open Go.RowKit Go.Sort
theorem app_many {w:World} {ops:Array Oper} {rest:List Oper} {o:Oper} {a:Act} {Q:Exit->Act->World->Prop} (yH:o.guard=none) (s x:Operand)
  (ho:o.op= .call { callee:= .builtin .append,args:= #[s,x],argTypes:= #[59,59]})
  (base:Nat) (A:Option Addr) (cap:Nat) (l:List Reg) (hs:a.eval s= .slice A l.length cap) (vH:OwnR w base A cap l)
  (X:Option Addr) (m c:Nat) (k:List Reg) (hx:a.eval x= .slice X m c) (hk:RSl w w.heap.size X m c k)
  (vA:l.length+m<1000000) (vK:base<=w.heap.size)
  (h: ∀A' vk w',OwnR w' base A' vk (l++k)->w.grownBy w' (A.map (·.block))->wpList Tryz.prog ops Q rest (a.put o.dst (.slice A' (l.length+m) vk)) w'):
  wpList Tryz.prog ops Q (o::rest) a w:=by
 obtain⟨i0,yn,wb,vz,vS⟩:=info_parts iX;have yz:=hk.len;rcases Nat.eq_zero_or_pos m with rfl|hm
 ·obtain rfl:k=[]:=List.eq_nil_of_length_eq_zero yz;have yJ:Src Tryz.prog i0.size 59 (.slice X 0 c) 0 [] w:=by
   cases X with
   |none=>exact Src.ofNil w Tryz.underlying59 c
   |some ad=>exact Src.ofSlice w Tryz.underlying59 ad 0 c [] (by simp) (by simp) (by simp)
  have hle:l.length<=cap:=by
   rcases vH.form with⟨_,h2,h3⟩|⟨g,_,_,_,h4⟩
   ·rw[h2];simp
   ·exact h4
  have xq:=run_append_nothing (P:=Tryz.prog) w 59 59 o.type 45 i0 Tryz.underlying59 yn A l.length cap hle (.slice X 0 c) yJ;have h':=h A cap w (by simpa using vH) ⟨rfl,rfl,rfl,uN _,fun _ _ _ =>rfl⟩;refine wpList_plain yH fun K hK=>?_;unfold Oper.wp;simp[execOp,ho,resolve,invoke,builtin,hs,hx,xq,Result.andThen];exact hK _ _ h'
 ·obtain⟨b,off,rfl,_⟩: ∃b off,X=some ⟨b,off,none⟩/\True:=by
   obtain⟨b,off,e,_⟩:=hk.at_ 0 (k[0]'(by omega)) (uQ (by omega));exact⟨b,off,e,trivial⟩
  refine wpList_append_lies w yH s x 59 ho base 45 i0 _ 5 40 Tryz.underlying59 yn wb vz vS rfl (by omega) _ l.length (rcs l) hs vH ⟨b,off,none⟩ m c (rcs k) hx (by rw[ba,yz]) hk.cells
   (bR k) hm (by unfold maxLen;omega) (by omega) vK w.heap.size rfl ?_
  intro g vk w' wv hg wU vq;refine h (some ⟨g,0,none⟩) vk w' ?_ ?_
  ·unfold OwnR;rw[el,uP,yz];exact wv
  ·cases A<;>simpa [Value.ownBlock]using hg
theorem qH (A:Option Addr) (n cap:Nat) (l:List Reg) (w:World) (h:RSl w w.heap.size A n cap l) (hf:n<900000):
  Calls Tryz.prog 57 #[.slice A n cap] w fun e w'=> ∃A' vk,e= .returned (.slice A' n vk)/\OwnR w' w.heap.size A' vk l/\Below w.heap.size w w':=by
 have hlen:=h.len;cases A with
 |none=>
  have h0:l=[]:=by
   cases l with
   |nil=>rfl
   |cons r l=>obtain⟨b,off,e,_⟩:=h.at_ 0 r rfl;cases e
  subst h0;obtain rfl:n=0:=hlen.symm;have DT:=fun(W:World)=>Lib.run_eql_slice_nil (P:=Tryz.prog) (w:=W) 59 45 none 0 cap 0 0 Tryz.underlying59;go_enter Tryz.func57,Tryz.ntmps57;go_wp2_with fail;go_ret;exact⟨none,0,rfl,OwnR.nil w _,vj _ _⟩
 |some ad=>
  have DT:=fun(W:World)=>Lib.run_eql_slice_nil (P:=Tryz.prog) (w:=W) 59 45 (some ad) n cap 0 0 Tryz.underlying59;have h1:=h.below (w':=w.alloc (.cells #[] 45)) uM (uN _);have H1:=uK (h1.more (B':=(w.alloc (.cells #[] 45)).heap.size) (by simp));clear h h1;go_enter Tryz.func57,Tryz.ntmps57;go_upto_region 3 with(fail);have Tf:OwnR (w.alloc (.cells #[] 45)) w.heap.size (some ⟨w.heap.size,0,none⟩) 0 []:=⟨rfl, .inr ⟨w.heap.size,0, #[],rfl,uN _,heap_alloc_new w _,uN _,by decide,rfl,rfl⟩⟩;go_wp2_with (at_builtin;refine app_many rfl (.tmp 5) (.tmp 6) rfl w.heap.size (some ⟨w.heap.size,0,none⟩) 0 [] rfl Tf (some ad) n cap l rfl H1.out (by simp;omega) (by simp) ?_;intro A' vk w2 ho hg);have hb:Below w.heap.size w w2:=uM.grown hg (by simp) (fun k hk=>by simp at hk;omega);have HO:=uK ho;clear ho hg;go_ret;exact⟨A',vk,by simp,by simpa using HO.out,hb⟩
end
