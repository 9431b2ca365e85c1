/- Regions: Put of the program and of the references. Regions: what comes in: a slice of regions, a region; Regions: append of a whole list; -/
import Derived.Test.YtoochjhipmpehaaGreatDoorRdK
import Derived.ChangeOld
import Derived.ChangeSame
import Derived.Deep.Fields
import Derived.Deep.Slices
import Derived.Deep.Upon
import Derived.Lib.SmallJoins
import Derived.OpenShut
import Derived.ProofKit
set_option linter.unusedVariables false
set_option linter.unusedSimpArgs false
set_option maxRecDepth 100000
set_option maxHeartbeats 4000000
namespace Go.Proofs.YtoochjhipmpehaaGreatDoor
section
open Go.RowKit Go.Sort
def Rg.put (l:List Reg) (r:Reg):List Reg×Int:=if Rg.right l=true/\Rg.one r=true then Rg.few (Rg.joined (Rg.ins (Rg.without l r.fr r.to) r))else([],1)
theorem rg (A:Option Addr) (cap:Nat) (l:List Reg) (r:Reg) (i bv c base:Nat) (w:World) (ho:OwnR w base A cap l) (vC:base<=w.heap.size) (hf:l.length<=100000) (hi:i<=l.length)
  (hv:w.heap[bv]? =some (.cells #[.int .u64 r.fr, .int .u64 r.to, .int .u8 r.prot, .int .i64 r.ino, .int .u64 r.off] 45 (0,0))) (vu: ∀g,A.map (·.block)=some g->bv≠g):
  Calls Tryz.prog 105 #[.slice A l.length cap, .int .i64 i, .slice (some ⟨bv,0,none⟩) 1 c] w
   fun e w'=> ∃A' vh,e= .returned (.slice A' (l.length+1) vh)/\OwnR w' base A' vh (Rg.insAt l i r)/\Below base w w':=by
 by_cases he:i=l.length
 ·subst he;refine(rf A cap l r bv c base w ho vC hf hv).mono ?_;rintro e w' ⟨A',vh,h1,h2,h3⟩;refine⟨A',vh,h1,?_,h3⟩;simpa [Rg.insAt]using h2
 ·have vo:i<l.length:=(by omega);rcases ho.form with⟨_,h2,_⟩|⟨g,rfl,h2,h3,h4⟩
  ·rw[h2]at vo;simp at vo
  ·by_cases hr:l.length+1<=cap
   ·exact oI g cap l r i bv c base w ho vC hf vo hr hv (vu g rfl)
   ·exact oJ g cap l r i bv c base w ho vC hf vo (by omega) hv
theorem srch_of {w:World} {gr cap base:Nat} {A:Option Addr} {out:List Reg} {r:Reg} (ho:OwnR w base A cap out) (KO:gr<w.heap.size) (hb:w.heap[gr]? =some (.cells #[.int .u64 r.fr, .int .u64 r.to, .int .u8 r.prot, .int .i64 r.ino, .int .u64 r.off] 45 (0,0))):
  Srch (w.alloc (.cells #[.slice A out.length cap] 59)) w.heap.size gr A cap out r (w.alloc (.cells #[.slice A out.length cap] 59)).heap.size:=by
 refine⟨by simp,by simp,?_,by simp;omega,fun k x hx=>?_⟩
 ·exact(fe ((uL w _ gr KO).trans hb)).c0
 ·rcases ho.form with⟨_,h,_⟩|⟨g,rfl,h2,h3,h4⟩
  ·rw[h]at hx;simp at hx
  ·exact⟨g,rfl,by simp;omega,((ho.elem hx).alloc _).c0⟩
theorem put_any (r:Reg) (A:Option Addr) (n cap:Nat) (w:World) (l:List Reg) (hl:RSl w w.heap.size A n cap l) (wz:dy l) (hr:r.Ok):
  Calls Tryz.prog 62 #[.slice A n cap, .agg #[.int .u64 (r).fr, .int .u64 (r).to, .int .u8 (r).prot, .int .i64 (r).ino, .int .u64 (r).off]] w
   fun e w'=> ∃A' vh,e= .returned (.tuple #[.slice A' (Rg.put l r).1.length vh, .int .i64 (Rg.put l r).2])/\OwnR w' w.heap.size A' vh (Rg.put l r).1/\Below w.heap.size w w':=by
 have Dh:=uH hl.len;have wR:Below w.heap.size w (w.alloc (.cells #[.int .u64 r.fr, .int .u64 r.to, .int .u8 r.prot, .int .i64 r.ino, .int .u64 r.off] 45)):=by exact uI
 have Cc:=(hl.below wR (uK _)).more (B':=(w.alloc (.cells #[.int .u64 r.fr, .int .u64 r.to, .int .u8 r.prot, .int .i64 r.ino, .int .u64 r.off] 45)).heap.size) (by simp);have Rd:=mP A n cap _ l Cc wz;cases BZ:Rg.right l with
 |false=>
  have HP:Hid (Rg.put l r=([],1)):=uH (by simp[Rg.put,BZ]);rw[BZ]at Rd;have HR:=uH Rd;clear Rd BZ hl Cc wR;go_enter Tryz.func62,Tryz.ntmps62;go_wp2_with (go_at_call 98;refine(HR.out).mono ?_;rintro e w1 ⟨rfl,vk⟩);go_ret2;refine⟨none,0,?_,?_,?_⟩
  ·rw[HP.out];rfl
  ·rw[HP.out];exact OwnR.nil _ _
  ·have:=vk.size;simp at this
   exact uI
 |true=>
  rw[BZ]at Rd;have HR:=uH Rd;have CP:=(cN BZ).2;have Zo:=uH BZ;clear Rd BZ;cases OF:Rg.one r with
  |false=>
   have HP:Hid (Rg.put l r=([],1)):=uH (by simp[Rg.put,OF]);have hM:=fun W=>lJ r W hr;rw[OF]at hM;have HM:=uH hM;clear hM OF hl Cc wR;go_enter Tryz.func62,Tryz.ntmps62;go_wp2_with (first
    |(go_at_call 98;refine(HR.out).mono ?_;rintro e w1 ⟨rfl,vk⟩;obtain⟨hc,Wj⟩:=bcell vk;have hz:=vk.size;simp at hz;have vQ:w.heap.size<w1.heap.size:=(by omega))
    |(go_at_call 99;refine(HM.out _).mono ?_;rintro e w2 ⟨rfl,vs⟩;have vO:=vs.size))
   go_ret2;refine⟨none,0,?_,?_,?_⟩
   ·rw[HP.out];rfl
   ·rw[HP.out];exact OwnR.nil _ _
   ·exact uI
  |true=>
   have HP:Hid (Rg.put l r=Rg.few (Rg.joined (Rg.ins (Rg.without l r.fr r.to) r))):=uH (by simp[Rg.put,Zo.out,OF]);have hM:=fun W=>lJ r W hr;rw[OF]at hM;have HM:=uH hM;have wY:=(aC OF).1;have Ec:=pE (l:=l) (f:=r.fr) (t:=r.to) (dQ Zo.out) wz wY;have Bd:=(gl (df Zo.out) wY).sorted;have hwl:=nS l r.fr r.to;have HG:=uH Ec;have HS:=uH Bd;clear hM OF Ec Bd;go_enter Tryz.func62,Tryz.ntmps62;go_wp2_with fail;refine(HR.out).mono ?_;rintro e w1 ⟨rfl,vk⟩;have vI:=vk.size;simp at vI;have yp:=(vk.block _ (by simp)).trans (heap_alloc_new w (.cells #[.int .u64 r.fr, .int .u64 r.to, .int .u8 r.prot, .int .i64 r.ino, .int .u64 r.off] 45));have wM:=(Cc.below vk (uK _)).more vk.size;obtain⟨a0,a1,a2,a3,a4⟩:=fe yp;clear Cc;go_wp2_with fail;refine(HM.out _).mono ?_;rintro e w2 ⟨rfl,vs⟩;have vO:=vs.size;have yy:=(vs.block _ (by omega)).trans yp;have vV:=(wM.below vs (uK _)).more vs.size;clear a0 a1 a2 a3 a4 wM yp;obtain⟨a0,a1,a2,a3,a4⟩:=fe yy;go_wp2_with fail;refine(iE r.fr r.to A n cap w2 l vV (by have:=Dh.out;omega)).mono ?_;rintro e w3 ⟨A1,c1,rfl,AZ,vG⟩;rw[HG.out]at AZ⊢;have xq:=vG.size;have Ci:=(vG.block _ (by omega)).trans yy;clear a0 a1 a2 a3 a4 vV yy;obtain⟨a0,a1,a2,a3,a4⟩:=fe Ci;generalize St:Rg.without l r.fr r.to=out at *
   have hof:out.length<=200:=(by omega);go_wp2_with fail;have Ff:=srch_of (r:=r) AZ (by omega) Ci;have hsc:=qB w3.heap.size w.heap.size A1 c1 out r _ Ff (by omega) HS.out;have yW:=AZ.alloc (.cells #[.slice A1 out.length c1] 59);have yU:=(uL w3 (.cells #[.slice A1 out.length c1] 59) _ (by omega)).trans Ci;have vM:=AZ.row;have zk:=Ff.cell;refine hsc.mono ?_;rintro e w5 ⟨⟨i,hi,rfl,RR⟩,zQ⟩;have It:=zQ.size;simp at It;have yt:=yW.below zQ (uK _);have wJ:=(zQ.block _ (by simp;omega)).trans yU;have Yk:=(zQ.cell (p:=⟨w3.heap.size,0,none⟩) (by simp)).trans zk;have SPL:=uH RR;clear a0 a1 a2 a3 a4 Ff hsc Ci yU yW zk RR;obtain⟨a0,a1,a2,a3,a4⟩:=fe wJ;go_wp2_with fail;refine(rg A1 c1 out r i w5.heap.size 1 w2.heap.size _ (yt.alloc _) (by simp;omega) (by omega) hi (heap_alloc_new w5 _) (fun g hg=>by have:=vM g hg;omega)).mono ?_;rintro e w6 ⟨A6,c6,rfl,Bs,AT⟩;rw[tq hi SPL.out]at Bs;have Jq:(Rg.ins out r).length=out.length+1:=ins_len out r;have Se:=Bs.rsl (by omega);rw[Jq]at Se;have QG:=AT.size;simp at QG;clear a0 a1 a2 a3 a4 Yk yt wJ;go_wp2_with fail;refine(lT A6 _ c6 w6 _ Se (by omega)).mono ?_;rintro e w7 ⟨A7,c7,rfl,MJ,AR⟩;have Od:=AR.size;go_wp2_with fail;go_ret2;have Eg:=HP.out;refine⟨A7,c7,?_,?_,?_⟩
   ·rw[Eg];rfl
   ·rw[Eg];exact MJ.lower (by omega)
   ·have q1:Below w.heap.size w w2:=by exact uI
    have q2:Below w.heap.size w w3:=q1.trans (vG.mono (by omega));have q3:Below w.heap.size w w5:=(q2.alloc (by omega) _).trans (zQ.mono (by simp;omega));have q4:Below w.heap.size w w6:=(q3.alloc (by omega) _).trans (AT.mono (by omega));exact q4.trans (AR.mono (by omega))
end
section
open Go.ChangeShapes Go.WideShapes Go.ChangeAt Go.RowKit Go.Deep Go.Joins
section
variable {H:Type} {enc:TypeId×Value->H} {P:Program} {w:World} {base:Nat} {spare:Nat->Bool} {held:Bool}
theorem dV {t e:TypeId} {fs:Array Field} {fuel:Nat} {cs:List Value} {x:DataW H×List MemPlace} (ht:P.underlying t=some (.slice e)) (he:P.underlying e=some (.struct fs))
  (wK:oneCellFields P fs=true) (hC:P.cellsOf e=fs.size) (h:DataW.trod enc P w base spare held fuel t cs=some x):
  (cs=[.slice none 0 0]/\x=(.nil,[]))\/
  ∃(a:Addr) (len cap m:Nat) (D:Nat->DataW H) (Pl:Nat->List MemPlace),cs=[.slice (some a) len cap]/\base<=a.block/\len<=cap/\cap<=maxLen/\m=(if spare a.block then cap else len)/\
   x=(.slice ((List.range len).map D) ((List.range (m-len)).map fun j=>D (len+j)),MemPlace.row a (m*fs.size)++(List.range m).flatMap Pl)/\
   ∀i,i<m-> ∃(ys:List (DataW H×List MemPlace)) (n:Nat),D i= .agg (ys.map (·.1))/\Pl i=ys.flatMap (·.2)/\ys.length=fs.size/\
    ∀(j:Nat) (f:Field),fs[j]? =some f-> ∃(v:Value) (y:DataW H×List MemPlace),w.cell? (a.add (i*fs.size+j))=some v/\ys[j]? =some y/\DataW.trod enc P w base spare held n f.type [v]=some y:=by
 rcases open_slice ht h with h0|⟨a,len,cap,m,n,D,Pl,yj,hb,hl,hm,Cb,hx,hi⟩
 ·exact .inl h0
 ·refine .inr ⟨a,len,cap,m,D,Pl,yj,hb,hl,hm,Cb,by rw[hC]at hx;exact hx,fun i him=>?_⟩;obtain⟨cs',hc,ht'⟩:=hi i him;rw[hC]at hc;obtain⟨ys,n',SH,hy,hlen,QI,hf⟩:=DataW.trod_struct he ht';obtain⟨_,zk,wC⟩:=World.cells?_some hc;simp only[Prod.mk.injEq]at hy;refine⟨ys,n',hy.1,hy.2,QI,fun j f hj=>?_⟩;obtain⟨ho,hk⟩:=hone_of wK j f hj;have Ck:j<fs.size:=(uG hj).1;have vz:=wC j Ck;have hv:cs'[j]? =some (cs'[j]'(by omega)):=uN (by omega);have h1:=hf j f hj;rw[ho,hk]at h1;have Sv:(cs'.drop j).take 1=[cs'[j]'(by omega)]:=by
   rw[List.drop_eq_getElem_cons (by omega)];rfl
  rw[Sv]at h1;have hys:ys[j]? =some (ys[j]'(by omega)):=uN (by omega);refine⟨_,_,?_,hys,h1.trans hys⟩;rw[<-Go.Deep.add_add,vz,hv]
end
section
variable {H:Type} {enc:TypeId×Value->H} {P:Program} {w:World} {base:Nat} {spare:Nat->Bool} {held:Bool}
end
theorem reg_ok {a b c d e:Int} (h0:(Lit.int .u64 a).wf=true) (h1:(Lit.int .u64 b).wf=true) (h2:(Lit.int .u8 c).wf=true) (h3:(Lit.int .i64 d).wf=true) (h4:(Lit.int .u64 e).wf=true):Reg.Ok ⟨a,b,c,d,e⟩:=
 ⟨(bounds_u64 h0).1,(bounds_u64 h0).2,(bounds_u64 h1).1,(bounds_u64 h1).2,(bounds_u8 h2).1,(bounds_u8 h2).2,(bounds_i64 h3).1,(bounds_i64 h3).2,(bounds_u64 h4).1,(bounds_u64 h4).2⟩
section
variable {H:Type} {enc:TypeId×Value->H} {w:World} {base:Nat} {spare:Nat->Bool} {held:Bool}
end
end
section
open Go.RowKit Go.Sort
theorem app_many {w:World} {ops:Array Oper} {rest:List Oper} {o:Oper} {a:Act} {Q:Exit->Act->World->Prop} (xT:o.guard=none) (s x:Operand)
  (ho:o.op= .call { callee:= .builtin .append,args:= #[s,x],argTypes:= #[59,59]})
  (base:Nat) (A:Option Addr) (cap:Nat) (l:List Reg) (hs:a.eval s= .slice A l.length cap) (vA:OwnR w base A cap l)
  (X:Option Addr) (m c:Nat) (k:List Reg) (hx:a.eval x= .slice X m c) (hk:RSl w w.heap.size X m c k)
  (vH:l.length+m<1000000) (vC:base<=w.heap.size)
  (h: ∀A' vh w',OwnR w' base A' vh (l++k)->w.grownBy w' (A.map (·.block))->wpList Tryz.prog ops Q rest (a.put o.dst (.slice A' (l.length+m) vh)) w'):
  wpList Tryz.prog ops Q (o::rest) a w:=by
 obtain⟨i0,xD,vQ,vI,vO⟩:=info_parts iW;have xR:=hk.len;rcases Nat.eq_zero_or_pos m with rfl|hm
 ·obtain rfl:k=[]:=List.eq_nil_of_length_eq_zero xR;have xW:Src Tryz.prog i0.size 59 (.slice X 0 c) 0 [] w:=by
   cases X with
   |none=>exact Src.ofNil w Tryz.underlying59 c
   |some ad=>exact Src.ofSlice w Tryz.underlying59 ad 0 c [] (by simp) (by simp) (by simp)
  have hle:l.length<=cap:=by
   rcases vA.form with⟨_,h2,h3⟩|⟨g,_,_,_,h4⟩
   ·rw[h2];simp
   ·exact h4
  have wX:=run_append_nothing (P:=Tryz.prog) w 59 59 o.type 45 i0 Tryz.underlying59 xD A l.length cap hle (.slice X 0 c) xW;have h':=h A cap w (by simpa using vA) ⟨rfl,rfl,rfl,uK _,fun _ _ _ =>rfl⟩;refine wpList_plain xT fun K hK=>?_;unfold Oper.wp;simp[execOp,ho,resolve,invoke,builtin,hs,hx,wX,Result.andThen];exact hK _ _ h'
 ·obtain⟨b,off,rfl,_⟩: ∃b off,X=some ⟨b,off,none⟩/\True:=by
   obtain⟨b,off,e,_⟩:=hk.at_ 0 (k[0]'(by omega)) (uN (by omega));exact⟨b,off,e,trivial⟩
  refine wpList_append_lies w xT s x 59 ho base 45 i0 _ 5 40 Tryz.underlying59 xD vQ vI vO rfl (by omega) _ l.length (rcs l) hs vA ⟨b,off,none⟩ m c (rcs k) hx (by rw[aV,xR]) hk.cells
   (bL k) hm (by unfold maxLen;omega) (by omega) vC w.heap.size rfl ?_
  intro g vh w' xg hg wC vo;refine h (some ⟨g,0,none⟩) vh w' ?_ ?_
  ·unfold OwnR;rw[dR,uM,xR];exact xg
  ·cases A<;>simpa [Value.ownBlock]using hg
theorem kI (A:Option Addr) (n cap:Nat) (l:List Reg) (w:World) (h:RSl w w.heap.size A n cap l) (hf:n<900000):
  Calls Tryz.prog 57 #[.slice A n cap] w fun e w'=> ∃A' vh,e= .returned (.slice A' n vh)/\OwnR w' w.heap.size A' vh l/\Below w.heap.size w w':=by
 have hlen:=h.len;cases A with
 |none=>
  have h0:l=[]:=by
   cases l with
   |nil=>rfl
   |cons r l=>obtain⟨b,off,e,_⟩:=h.at_ 0 r rfl;cases e
  subst h0;obtain rfl:n=0:=hlen.symm;have De:=fun(W:World)=>Lib.run_eql_slice_nil (P:=Tryz.prog) (w:=W) 59 45 none 0 cap 0 0 Tryz.underlying59;go_enter Tryz.func57,Tryz.ntmps57;go_wp2_with fail;go_ret;exact⟨none,0,rfl,OwnR.nil w _,vg _ _⟩
 |some ad=>
  have De:=fun(W:World)=>Lib.run_eql_slice_nil (P:=Tryz.prog) (w:=W) 59 45 (some ad) n cap 0 0 Tryz.underlying59;have h1:=h.below (w':=w.alloc (.cells #[] 45)) uJ (uK _);have H1:=uH (h1.more (B':=(w.alloc (.cells #[] 45)).heap.size) (by simp));clear h h1;go_enter Tryz.func57,Tryz.ntmps57;go_upto_region 3 with(fail);have SK:OwnR (w.alloc (.cells #[] 45)) w.heap.size (some ⟨w.heap.size,0,none⟩) 0 []:=⟨rfl, .inr ⟨w.heap.size,0, #[],rfl,uK _,heap_alloc_new w _,uK _,by decide,rfl,rfl⟩⟩;go_wp2_with (at_builtin;refine app_many rfl (.tmp 5) (.tmp 6) rfl w.heap.size (some ⟨w.heap.size,0,none⟩) 0 [] rfl SK (some ad) n cap l rfl H1.out (by simp;omega) (by simp) ?_;intro A' vh w2 ho hg);have hb:Below w.heap.size w w2:=uJ.grown hg (by simp) (fun k hk=>by simp at hk;omega);have HO:=uH ho;clear ho hg;go_ret;exact⟨A',vh,by simp,by simpa using HO.out,hb⟩
end
