/- The document's files: what an entry by itself may not be; -/
import Derived.Test.YtoochjhipmpehaaGreatDoorHrCK
set_option linter.unusedVariables false
set_option linter.unusedSimpArgs false
set_option maxRecDepth 100000
set_option maxHeartbeats 8000000
namespace Go.Proofs.YtoochjhipmpehaaGreatDoor
section
open Go.RowKit Go.Sort
variable {L:List ByteArray} {q:Nat}
theorem dots_yes (h:L[q]? =some ⟨#[46,46]⟩):dots L=true:=by
 unfold dots;exact List.any_eq_true.2 ⟨_,vl h,rfl⟩
theorem dots_no (h: ∀j y,j<L.length->L[j]? =some y->y≠⟨#[46,46]⟩):dots L=false:=by
 unfold dots;rw[List.any_eq_false];intro x hx;obtain⟨j,hj,e⟩:=List.mem_iff_getElem.1 hx;have h1:=h j x hj (by rw[vg hj,e]);intro e2;apply h1;cases x with
 |mk d=>exact congrArg ByteArray.mk (eq_of_beq e2)
theorem aP {y:ByteArray} (h:y≠⟨#[46,46]⟩):(y.toList==[46,46])=false:=by
 have h1:=su h;rw[ByteArray.toList_eq (ByteArray.mk #[46,46])]at h1;exact h1
def eu (L:List ByteArray) (q:Nat):Prop:= ∀j y,j<q->L[j]? =some y->y≠⟨#[46,46]⟩
theorem bT (h:dots L=false) (hq:L[q]? =some ⟨#[46,46]⟩):False:=by
 rw[dots_yes hq]at h;cases h
theorem tu {m:Nat} (h:m<65536):(bits .and .u16 (m:Int) 2559 != (m:Int))=dn m:=by
 rw[show((2559:Int))=((2559:Nat):Int)from rfl,u16_and_nat m 2559 h (by omega)];cases hc:dn m with
 |false=>
  have:=(qd h).2 hc;rw[this];simp
 |true=>
  rw[bne_iff_ne];intro e;have e2:m&&&2559=m:=(by omega);rw[(qd h).1 e2]at hc;cases hc
theorem rmay_any (x:Ent) (A:Option Addr) (c:Nat) (w:World) (hp:x.path.size<=1000000000) (ht:x.to.size<=1000000000) (hn:x.n<=9223372036854775807) (hm:x.mode<65536):
  Calls Tryz.prog 41 #[x.val A c] w fun e w'=>e= .returned (.int .i64 (may x))/\Below w.heap.size w w':=by
 obtain⟨path,kind,mode,uid,gid,n,dat,lk⟩:=x;simp only at hp ht hn hm;obtain⟨K,Qh⟩: ∃K:Int,K=(kind:Int):=⟨_,rfl⟩;have Xu:0<=K:=(by omega);obtain⟨w0,vE⟩: ∃w0,w0=w.alloc (.cells #[.string path, .int .u8 K, .int .u16 (mode:Int), .int .u32 (uid:Int), .int .u32 (gid:Int), .slice A n c, .string lk] 93):=⟨_,rfl⟩;have vF:Below w.heap.size w w0:=(by rw[vE];exact vc);have hE:w0.heap[w.heap.size]? =some (.cells #[.string path, .int .u8 K, .int .u16 (mode:Int), .int .u32 (uid:Int), .int .u32 (gid:Int), .slice A n c, .string lk] 93 (0,0)):=(by rw[vE];exact ab w _);have xd:w.heap.size<w0.heap.size:=(uZ hE).1;have d0:w0.cell? ⟨w.heap.size,0,none⟩=some (.string path):=aa hE 0;have d1:w0.cell? ⟨w.heap.size,1,none⟩=some (.int .u8 K):=aa hE 1;have d2:w0.cell? ⟨w.heap.size,2,none⟩=some (.int .u16 (mode:Int)):=aa hE 2;have HE:=va hE;have vY:=va vE;clear hE vE;unfold Ent.val;simp only;rw[<-Qh];obtain⟨mb,Eg⟩: ∃mb,mb=dn mode:=⟨_,rfl⟩;have Cw:=tu hm;rw[<-Eg]at Cw;obtain⟨ct,Mj⟩: ∃ct,ct=chk lk:=⟨_,rfl⟩;have zW:=fun W=>lH lk W ht;rw[<-Mj]at zW;have Ec:=va zW;by_cases hc:chk path=0
 rotate_left
 ·obtain⟨mr,GJ⟩: ∃mr,mr=may ⟨path,kind,mode,uid,gid,n,dat,lk⟩:=⟨_,rfl⟩;have vN:mr=1:=by
   rw[GJ];unfold may;simp only;split
   ·rfl
   ·rw[if_pos (.inl hc)]
  rw[<-GJ,vN];have VO:=va (fun W=>qQ path W hp hc);have vK:(chk path != 0)=true:=(by rw[bne_iff_ne];exact hc);obtain⟨r,hr⟩: ∃r,r=chk path:=⟨_,rfl⟩;rw[<-hr]at vK VO;clear GJ vN hc hr Qh Mj zW Eg;by_cases hk:K=1\/K=2\/K=3
  ·rcases(by cases mb<;>simp:mb=true\/mb=false)with rfl|rfl
   all_goals
    rcases hk with rfl|rfl|rfl
    all_goals
     go_enter Tryz.func41,Tryz.ntmps41;go_upto_region 1 with(fail);rw[<-vY.out];go_wp2_with (first
      |(go_at_call 42;refine(VO.out _).mono ?_;rintro e w1 ⟨rfl,vD⟩;have vJ:=va (vF.trans (vD.mono vF.size));clear vD)
      |fail)
     go_ret
     first
      |exact⟨rfl,vF⟩
      |exact⟨rfl,vJ.out⟩
  ·have k1:(K != 1)=true:=(by rw[bne_iff_ne];omega);have k2:(K != 2)=true:=(by rw[bne_iff_ne];omega);have k3:(K != 3)=true:=(by rw[bne_iff_ne];omega);clear hk;go_enter Tryz.func41,Tryz.ntmps41;go_upto_region 1 with(fail);rw[<-vY.out];go_wp2_with fail;go_ret;exact⟨rfl,vF⟩
 have De:=da hc;have SZ:path.size<=200:=De.2.1;obtain⟨L,hL⟩: ∃L,L=aq path:=⟨_,rfl⟩;obtain⟨k,hk⟩: ∃k,k=L.length:=⟨_,rfl⟩;have hkf:k<=201:=(by rw[hk,hL];have:=bj path;omega);obtain⟨pb,hpb⟩: ∃pb,pb=Lib.hasPrefix path.data.toList [47]:=⟨_,rfl⟩;obtain⟨tb,Nh⟩: ∃tb,tb=Lib.hasSuffix path.data.toList [47]:=⟨_,rfl⟩;obtain⟨db,Ah⟩: ∃db,db=dots L:=⟨_,rfl⟩;have Fw:=fun W=>mX path W hc;unfold cl at Fw;rw[<-hL,<-hpb,<-hk]at Fw;have OP:=fun W=>sK path W (by omega);rw[<-Nh]at OP;obtain⟨mr,GJ⟩: ∃mr,mr=may ⟨path,kind,mode,uid,gid,n,dat,lk⟩:=⟨_,rfl⟩;rw[<-GJ];have vN:mr=if K<1\/3<K\/mb=true then 1 else if pb=false\/k=0\/tb=true\/db=true then 1
   else if(K≠1/\0<n)\/(K≠3/\lk.size≠0)then 1 else if K=3/\ct≠0 then 1 else if 65536<n then 12 else 0:=by
  have i1:(K<1)=(kind<1):=(by apply propext;omega);have i2:(3<K)=(3<kind):=(by apply propext;omega);have i3:(K=1)=(kind=1):=(by apply propext;omega);have i4:(K=3)=(kind=3):=(by apply propext;omega);rw[GJ,hpb,hk,Nh,Ah,Mj,hL,Eg];simp only[i1,i2,i3,i4,ne_eq];unfold may;simp only[hc,ne_eq,not_true_eq_false,false_or,List.length_eq_zero_iff]
 have Al:=va Fw;have Ak:=va OP;have HK:=va hk;have Es:=va Ah;clear Fw OP zW Ah hpb Nh Mj GJ hk hL hc De Qh Eg;by_cases xD:K=1\/K=2\/K=3
 rotate_left
 ·have k1:(K != 1)=true:=(by rw[bne_iff_ne];omega);have k2:(K != 2)=true:=(by rw[bne_iff_ne];omega);have k3:(K != 3)=true:=(by rw[bne_iff_ne];omega);have Ie:K<1\/3<K\/mb=true:=(by omega);clear xD
  (
   have yk:mr=1:=(by rw[vN,if_pos Ie]);rw[yk];clear vN yk;go_enter Tryz.func41,Tryz.ntmps41;go_upto_region 1 with(fail);rw[<-vY.out];go_wp2_with fail;go_ret;exact⟨rfl,vF⟩)
 rcases(by cases mb<;>simp:mb=true\/mb=false)with rfl|rfl
 ·rcases xD with rfl|rfl|rfl
  all_goals(
   have yk:mr=1:=(by rw[vN,if_pos (.inr (.inr rfl))]);rw[yk];clear vN yk;go_enter Tryz.func41,Tryz.ntmps41;go_upto_region 1 with(fail);rw[<-vY.out];go_wp2_with fail;go_ret;exact⟨rfl,vF⟩)
 have n1: ¬(K<1\/3<K\/false=true):=(by simp;omega);rw[if_neg n1]at vN;clear n1;rcases(by cases pb<;>simp:pb=false\/pb=true)with rfl|rfl
 ·rcases xD with rfl|rfl|rfl
  all_goals(
   have yk:mr=1:=(by rw[vN,if_pos (.inl rfl)]);rw[yk];clear vN yk;go_enter Tryz.func41,Tryz.ntmps41;go_upto_region 1 with(fail);rw[<-vY.out];go_wp2_with (first
   |(go_at_call 42;refine(Al.out _).mono ?_;rintro e w1 ⟨A1,vC,rfl,wR,vD⟩;have vG:=(vD.block _ xd).trans HE.out;have f0:w1.cell? ⟨w.heap.size,0,none⟩=some (.string path):=aa vG 0;have f1:=aa vG 1;have f5:w1.cell? ⟨w.heap.size,5,none⟩=some (.slice A _ c):=aa vG 5;have xm:w.heap.size<w1.heap.size:=(uZ vG).1;have f6:w1.cell? ⟨w.heap.size,6,none⟩=some (.string lk):=aa vG 6;have vS:=va wR;have vJ:=va (vF.trans (vD.mono vF.size));have wg:=vJ.out.size;clear wR vD vG)
   |(go_at_call 83;refine(Ak.out _).mono ?_;rintro e w2 ⟨rfl,rfl⟩)
   |fail)
   go_ret;exact⟨rfl,vJ.out⟩)
 by_cases c5:k=0
 ·subst c5;rcases xD with rfl|rfl|rfl
  all_goals(
   have yk:mr=1:=(by rw[vN,if_pos (.inr (.inl rfl))]);rw[yk];clear vN yk;go_enter Tryz.func41,Tryz.ntmps41;go_upto_region 1 with(fail);rw[<-vY.out];go_wp2_with (first
   |(go_at_call 42;refine(Al.out _).mono ?_;rintro e w1 ⟨A1,vC,rfl,wR,vD⟩;have vG:=(vD.block _ xd).trans HE.out;have f0:w1.cell? ⟨w.heap.size,0,none⟩=some (.string path):=aa vG 0;have f1:=aa vG 1;have f5:w1.cell? ⟨w.heap.size,5,none⟩=some (.slice A _ c):=aa vG 5;have xm:w.heap.size<w1.heap.size:=(uZ vG).1;have f6:w1.cell? ⟨w.heap.size,6,none⟩=some (.string lk):=aa vG 6;have vS:=va wR;have vJ:=va (vF.trans (vD.mono vF.size));have wg:=vJ.out.size;clear wR vD vG)
   |(go_at_call 83;refine(Ak.out _).mono ?_;rintro e w2 ⟨rfl,rfl⟩)
   |fail)
   go_ret;exact⟨rfl,vJ.out⟩)
 have yJ: ¬(k:Int)=0:=(by omega);rcases(by cases tb<;>simp:tb=true\/tb=false)with rfl|rfl
 ·rcases xD with rfl|rfl|rfl
  all_goals(
   have yk:mr=1:=(by rw[vN,if_pos (.inr (.inr (.inl rfl)))]);rw[yk];clear vN yk;go_enter Tryz.func41,Tryz.ntmps41;go_upto_region 1 with(fail);rw[<-vY.out];go_wp2_with (first
   |(go_at_call 42;refine(Al.out _).mono ?_;rintro e w1 ⟨A1,vC,rfl,wR,vD⟩;have vG:=(vD.block _ xd).trans HE.out;have f0:w1.cell? ⟨w.heap.size,0,none⟩=some (.string path):=aa vG 0;have f1:=aa vG 1;have f5:w1.cell? ⟨w.heap.size,5,none⟩=some (.slice A _ c):=aa vG 5;have xm:w.heap.size<w1.heap.size:=(uZ vG).1;have f6:w1.cell? ⟨w.heap.size,6,none⟩=some (.string lk):=aa vG 6;have vS:=va wR;have vJ:=va (vF.trans (vD.mono vF.size));have wg:=vJ.out.size;clear wR vD vG)
   |(go_at_call 83;refine(Ak.out _).mono ?_;rintro e w2 ⟨rfl,rfl⟩)
   |fail)
   go_ret;exact⟨rfl,vJ.out⟩)
 rcases(by cases db<;>simp:db=true\/db=false)with rfl|rfl
 ·have yk:mr=1:=(by rw[vN,if_pos (.inr (.inr (.inr rfl)))]);rw[yk];clear vN yk;rcases xD with rfl|rfl|rfl
  all_goals
   (
   go_enter Tryz.func41,Tryz.ntmps41;go_upto_region 1 with(fail);rw[<-vY.out];go_upto_region 6 with(first
   |(go_at_call 42;refine(Al.out _).mono ?_;rintro e w1 ⟨A1,vC,rfl,wR,vD⟩;have vG:=(vD.block _ xd).trans HE.out;have f0:w1.cell? ⟨w.heap.size,0,none⟩=some (.string path):=aa vG 0;have f1:=aa vG 1;have f5:w1.cell? ⟨w.heap.size,5,none⟩=some (.slice A _ c):=aa vG 5;have xm:w.heap.size<w1.heap.size:=(uZ vG).1;have f6:w1.cell? ⟨w.heap.size,6,none⟩=some (.string lk):=aa vG 6;have vS:=va wR;have vJ:=va (vF.trans (vD.mono vF.size));have wg:=vJ.out.size;clear wR vD vG)
   |(go_at_call 83;refine(Ak.out _).mono ?_;rintro e w2 ⟨rfl,rfl⟩)
   |fail)
   go_wp2_with fail;go_loopw [6] (fun i wr=> ∃q:Nat,i= .int .i64 (q:Int)/\q<=k/\eu L q/\w1=wr) (fun i _ =>k-(intOf i).toNat)
   case atStart=>exact⟨0,rfl,vw _,(fun j y hj=>by omega),rfl⟩
   case round=>
    obtain⟨q,rfl,hq,vW,rfl⟩:=hrel;have zy:=va vW;clear vW;by_cases vH:q<k
    ·obtain⟨y,hy⟩: ∃y,L[q]? =some y:=⟨_,vg (by rw[<-HK.out];exact vH)⟩;rcases vS.out.form with⟨_,h2,_⟩|⟨g,ym,_,xT,Cz⟩
     ·rw[h2]at hy;simp at hy
     subst ym;have vU:=vS.out.elem hy;have EH:q<vC:=(by have:=HK.out;omega);by_cases e:y=⟨#[46,46]⟩
     ·have DV:=va (show L[q]? =some ⟨#[46,46]⟩from e▸hy);subst e;clear hy
      (go_wp2_with fail;go_ret;exact⟨rfl,vJ.out⟩)
     ·have b1:(y.toList==[46,46])=false:=aP e;have yj:=va (show eu L (q+1)from fun j z hj hz=>by
       by_cases ej:j=q
       ·subst ej;rw[hy]at hz;injection hz with hz;exact hz▸e
       ·exact zy.out j z (by omega) hz)
      clear e hy;go_wp2_with fail;go_roundw
      case rel=>exact⟨q+1,by go_num,by omega,yj.out,trivial⟩
      case measure=>(simp[intOf];omega)
    ·obtain rfl:q=k:=(by omega);exact absurd (dots_no (fun j y hj hy=>zy.out j y (by rw[HK.out];exact hj) hy)) (by rw[<-Es.out];decide))
 have n2: ¬(true=false\/k=0\/false=true\/false=true):=(by simp;omega);rw[if_neg n2]at vN;clear n2;rcases xD with rfl|rfl|rfl
 ·by_cases c8:lk.size=0
  rotate_left
  ·have t0:=lw c8
   (
   have yk:mr=1:=(by rw[vN,if_pos (.inr ⟨by decide,c8⟩)]);rw[yk];clear vN yk
   (
   go_enter Tryz.func41,Tryz.ntmps41;go_upto_region 1 with(fail);rw[<-vY.out];go_upto_region 6 with(first
   |(go_at_call 42;refine(Al.out _).mono ?_;rintro e w1 ⟨A1,vC,rfl,wR,vD⟩;have vG:=(vD.block _ xd).trans HE.out;have f0:w1.cell? ⟨w.heap.size,0,none⟩=some (.string path):=aa vG 0;have f1:=aa vG 1;have f5:w1.cell? ⟨w.heap.size,5,none⟩=some (.slice A _ c):=aa vG 5;have xm:w.heap.size<w1.heap.size:=(uZ vG).1;have f6:w1.cell? ⟨w.heap.size,6,none⟩=some (.string lk):=aa vG 6;have vS:=va wR;have vJ:=va (vF.trans (vD.mono vF.size));have wg:=vJ.out.size;clear wR vD vG)
   |(go_at_call 83;refine(Ak.out _).mono ?_;rintro e w2 ⟨rfl,rfl⟩)
   |fail)
   go_wp2_with fail;go_loopw [6] (fun i wr=> ∃q:Nat,i= .int .i64 (q:Int)/\q<=k/\eu L q/\w1=wr) (fun i _ =>k-(intOf i).toNat)
   case atStart=>exact⟨0,rfl,vw _,(fun j y hj=>by omega),rfl⟩
   case round=>
    obtain⟨q,rfl,hq,vW,rfl⟩:=hrel;have zy:=va vW;clear vW;by_cases vH:q<k
    ·obtain⟨y,hy⟩: ∃y,L[q]? =some y:=⟨_,vg (by rw[<-HK.out];exact vH)⟩;rcases vS.out.form with⟨_,h2,_⟩|⟨g,ym,_,xT,Cz⟩
     ·rw[h2]at hy;simp at hy
     subst ym;have vU:=vS.out.elem hy;have EH:q<vC:=(by have:=HK.out;omega);by_cases e:y=⟨#[46,46]⟩
     ·have DV:=va (show L[q]? =some ⟨#[46,46]⟩from e▸hy);subst e;clear hy;exact(bT Es.out.symm DV.out).elim
     ·have b1:(y.toList==[46,46])=false:=aP e;have yj:=va (show eu L (q+1)from fun j z hj hz=>by
       by_cases ej:j=q
       ·subst ej;rw[hy]at hz;injection hz with hz;exact hz▸e
       ·exact zy.out j z (by omega) hz)
      clear e hy;go_wp2_with fail;go_roundw
      case rel=>exact⟨q+1,by go_num,by omega,yj.out,trivial⟩
      case measure=>(simp[intOf];omega)
    ·obtain rfl:q=k:=by omega
     (go_wp2_with fail;go_ret;exact⟨rfl,vJ.out⟩)))
  have t0:=jc c8;have n3: ¬(((1:Int)≠1/\0<n)\/((1:Int)≠3/\lk.size≠0)):=(by omega);rw[if_neg n3,if_neg (by omega)]at vN;clear n3;by_cases c9:65536<n
  ·have LX:(65536:Int)<(n:Int):=by omega
   (
   have yk:mr=12:=(by rw[vN,if_pos c9]);rw[yk];clear vN yk
   (
   go_enter Tryz.func41,Tryz.ntmps41;go_upto_region 1 with(fail);rw[<-vY.out];go_upto_region 6 with(first
   |(go_at_call 42;refine(Al.out _).mono ?_;rintro e w1 ⟨A1,vC,rfl,wR,vD⟩;have vG:=(vD.block _ xd).trans HE.out;have f0:w1.cell? ⟨w.heap.size,0,none⟩=some (.string path):=aa vG 0;have f1:=aa vG 1;have f5:w1.cell? ⟨w.heap.size,5,none⟩=some (.slice A _ c):=aa vG 5;have xm:w.heap.size<w1.heap.size:=(uZ vG).1;have f6:w1.cell? ⟨w.heap.size,6,none⟩=some (.string lk):=aa vG 6;have vS:=va wR;have vJ:=va (vF.trans (vD.mono vF.size));have wg:=vJ.out.size;clear wR vD vG)
   |(go_at_call 83;refine(Ak.out _).mono ?_;rintro e w2 ⟨rfl,rfl⟩)
   |fail)
   go_wp2_with fail;go_loopw [6] (fun i wr=> ∃q:Nat,i= .int .i64 (q:Int)/\q<=k/\eu L q/\w1=wr) (fun i _ =>k-(intOf i).toNat)
   case atStart=>exact⟨0,rfl,vw _,(fun j y hj=>by omega),rfl⟩
   case round=>
    obtain⟨q,rfl,hq,vW,rfl⟩:=hrel;have zy:=va vW;clear vW;by_cases vH:q<k
    ·obtain⟨y,hy⟩: ∃y,L[q]? =some y:=⟨_,vg (by rw[<-HK.out];exact vH)⟩;rcases vS.out.form with⟨_,h2,_⟩|⟨g,ym,_,xT,Cz⟩
     ·rw[h2]at hy;simp at hy
     subst ym;have vU:=vS.out.elem hy;have EH:q<vC:=(by have:=HK.out;omega);by_cases e:y=⟨#[46,46]⟩
     ·have DV:=va (show L[q]? =some ⟨#[46,46]⟩from e▸hy);subst e;clear hy;exact(bT Es.out.symm DV.out).elim
     ·have b1:(y.toList==[46,46])=false:=aP e;have yj:=va (show eu L (q+1)from fun j z hj hz=>by
       by_cases ej:j=q
       ·subst ej;rw[hy]at hz;injection hz with hz;exact hz▸e
       ·exact zy.out j z (by omega) hz)
      clear e hy;go_wp2_with fail;go_roundw
      case rel=>exact⟨q+1,by go_num,by omega,yj.out,trivial⟩
      case measure=>(simp[intOf];omega)
    ·obtain rfl:q=k:=by omega
     (go_wp2_with fail;go_ret;exact⟨rfl,vJ.out⟩)))
  ·have LX: ¬(65536:Int)<(n:Int):=by omega
   (
   have yk:mr=0:=(by rw[vN,if_neg c9]);rw[yk];clear vN yk
   (
   go_enter Tryz.func41,Tryz.ntmps41;go_upto_region 1 with(fail);rw[<-vY.out];go_upto_region 6 with(first
   |(go_at_call 42;refine(Al.out _).mono ?_;rintro e w1 ⟨A1,vC,rfl,wR,vD⟩;have vG:=(vD.block _ xd).trans HE.out;have f0:w1.cell? ⟨w.heap.size,0,none⟩=some (.string path):=aa vG 0;have f1:=aa vG 1;have f5:w1.cell? ⟨w.heap.size,5,none⟩=some (.slice A _ c):=aa vG 5;have xm:w.heap.size<w1.heap.size:=(uZ vG).1;have f6:w1.cell? ⟨w.heap.size,6,none⟩=some (.string lk):=aa vG 6;have vS:=va wR;have vJ:=va (vF.trans (vD.mono vF.size));have wg:=vJ.out.size;clear wR vD vG)
   |(go_at_call 83;refine(Ak.out _).mono ?_;rintro e w2 ⟨rfl,rfl⟩)
   |fail)
   go_wp2_with fail;go_loopw [6] (fun i wr=> ∃q:Nat,i= .int .i64 (q:Int)/\q<=k/\eu L q/\w1=wr) (fun i _ =>k-(intOf i).toNat)
   case atStart=>exact⟨0,rfl,vw _,(fun j y hj=>by omega),rfl⟩
   case round=>
    obtain⟨q,rfl,hq,vW,rfl⟩:=hrel;have zy:=va vW;clear vW;by_cases vH:q<k
    ·obtain⟨y,hy⟩: ∃y,L[q]? =some y:=⟨_,vg (by rw[<-HK.out];exact vH)⟩;rcases vS.out.form with⟨_,h2,_⟩|⟨g,ym,_,xT,Cz⟩
     ·rw[h2]at hy;simp at hy
     subst ym;have vU:=vS.out.elem hy;have EH:q<vC:=(by have:=HK.out;omega);by_cases e:y=⟨#[46,46]⟩
     ·have DV:=va (show L[q]? =some ⟨#[46,46]⟩from e▸hy);subst e;clear hy;exact(bT Es.out.symm DV.out).elim
     ·have b1:(y.toList==[46,46])=false:=aP e;have yj:=va (show eu L (q+1)from fun j z hj hz=>by
       by_cases ej:j=q
       ·subst ej;rw[hy]at hz;injection hz with hz;exact hz▸e
       ·exact zy.out j z (by omega) hz)
      clear e hy;go_wp2_with fail;go_roundw
      case rel=>exact⟨q+1,by go_num,by omega,yj.out,trivial⟩
      case measure=>(simp[intOf];omega)
    ·obtain rfl:q=k:=by omega
     (go_wp2_with fail;go_ret;exact⟨rfl,vJ.out⟩)))
 ·by_cases c8:0<n
  ·have LX:(0:Int)<(n:Int):=by omega
   (
   have yk:mr=1:=(by rw[vN,if_pos (.inl ⟨by decide,c8⟩)]);rw[yk];clear vN yk
   (
   go_enter Tryz.func41,Tryz.ntmps41;go_upto_region 1 with(fail);rw[<-vY.out];go_upto_region 6 with(first
   |(go_at_call 42;refine(Al.out _).mono ?_;rintro e w1 ⟨A1,vC,rfl,wR,vD⟩;have vG:=(vD.block _ xd).trans HE.out;have f0:w1.cell? ⟨w.heap.size,0,none⟩=some (.string path):=aa vG 0;have f1:=aa vG 1;have f5:w1.cell? ⟨w.heap.size,5,none⟩=some (.slice A _ c):=aa vG 5;have xm:w.heap.size<w1.heap.size:=(uZ vG).1;have f6:w1.cell? ⟨w.heap.size,6,none⟩=some (.string lk):=aa vG 6;have vS:=va wR;have vJ:=va (vF.trans (vD.mono vF.size));have wg:=vJ.out.size;clear wR vD vG)
   |(go_at_call 83;refine(Ak.out _).mono ?_;rintro e w2 ⟨rfl,rfl⟩)
   |fail)
   go_wp2_with fail;go_loopw [6] (fun i wr=> ∃q:Nat,i= .int .i64 (q:Int)/\q<=k/\eu L q/\w1=wr) (fun i _ =>k-(intOf i).toNat)
   case atStart=>exact⟨0,rfl,vw _,(fun j y hj=>by omega),rfl⟩
   case round=>
    obtain⟨q,rfl,hq,vW,rfl⟩:=hrel;have zy:=va vW;clear vW;by_cases vH:q<k
    ·obtain⟨y,hy⟩: ∃y,L[q]? =some y:=⟨_,vg (by rw[<-HK.out];exact vH)⟩;rcases vS.out.form with⟨_,h2,_⟩|⟨g,ym,_,xT,Cz⟩
     ·rw[h2]at hy;simp at hy
     subst ym;have vU:=vS.out.elem hy;have EH:q<vC:=(by have:=HK.out;omega);by_cases e:y=⟨#[46,46]⟩
     ·have DV:=va (show L[q]? =some ⟨#[46,46]⟩from e▸hy);subst e;clear hy;exact(bT Es.out.symm DV.out).elim
     ·have b1:(y.toList==[46,46])=false:=aP e;have yj:=va (show eu L (q+1)from fun j z hj hz=>by
       by_cases ej:j=q
       ·subst ej;rw[hy]at hz;injection hz with hz;exact hz▸e
       ·exact zy.out j z (by omega) hz)
      clear e hy;go_wp2_with fail;go_roundw
      case rel=>exact⟨q+1,by go_num,by omega,yj.out,trivial⟩
      case measure=>(simp[intOf];omega)
    ·obtain rfl:q=k:=by omega
     (go_wp2_with fail;go_ret;exact⟨rfl,vJ.out⟩)))
  obtain rfl:n=0:=(by omega);by_cases c9:lk.size=0
  rotate_left
  ·have t0:=lw c9
   (
   have yk:mr=1:=(by rw[vN,if_pos (.inr ⟨by decide,c9⟩)]);rw[yk];clear vN yk
   (
   go_enter Tryz.func41,Tryz.ntmps41;go_upto_region 1 with(fail);rw[<-vY.out];go_upto_region 6 with(first
   |(go_at_call 42;refine(Al.out _).mono ?_;rintro e w1 ⟨A1,vC,rfl,wR,vD⟩;have vG:=(vD.block _ xd).trans HE.out;have f0:w1.cell? ⟨w.heap.size,0,none⟩=some (.string path):=aa vG 0;have f1:=aa vG 1;have f5:w1.cell? ⟨w.heap.size,5,none⟩=some (.slice A _ c):=aa vG 5;have xm:w.heap.size<w1.heap.size:=(uZ vG).1;have f6:w1.cell? ⟨w.heap.size,6,none⟩=some (.string lk):=aa vG 6;have vS:=va wR;have vJ:=va (vF.trans (vD.mono vF.size));have wg:=vJ.out.size;clear wR vD vG)
   |(go_at_call 83;refine(Ak.out _).mono ?_;rintro e w2 ⟨rfl,rfl⟩)
   |fail)
   go_wp2_with fail;go_loopw [6] (fun i wr=> ∃q:Nat,i= .int .i64 (q:Int)/\q<=k/\eu L q/\w1=wr) (fun i _ =>k-(intOf i).toNat)
   case atStart=>exact⟨0,rfl,vw _,(fun j y hj=>by omega),rfl⟩
   case round=>
    obtain⟨q,rfl,hq,vW,rfl⟩:=hrel;have zy:=va vW;clear vW;by_cases vH:q<k
    ·obtain⟨y,hy⟩: ∃y,L[q]? =some y:=⟨_,vg (by rw[<-HK.out];exact vH)⟩;rcases vS.out.form with⟨_,h2,_⟩|⟨g,ym,_,xT,Cz⟩
     ·rw[h2]at hy;simp at hy
     subst ym;have vU:=vS.out.elem hy;have EH:q<vC:=(by have:=HK.out;omega);by_cases e:y=⟨#[46,46]⟩
     ·have DV:=va (show L[q]? =some ⟨#[46,46]⟩from e▸hy);subst e;clear hy;exact(bT Es.out.symm DV.out).elim
     ·have b1:(y.toList==[46,46])=false:=aP e;have yj:=va (show eu L (q+1)from fun j z hj hz=>by
       by_cases ej:j=q
       ·subst ej;rw[hy]at hz;injection hz with hz;exact hz▸e
       ·exact zy.out j z (by omega) hz)
      clear e hy;go_wp2_with fail;go_roundw
      case rel=>exact⟨q+1,by go_num,by omega,yj.out,trivial⟩
      case measure=>(simp[intOf];omega)
    ·obtain rfl:q=k:=by omega
     (go_wp2_with fail;go_ret;exact⟨rfl,vJ.out⟩)))
  have t0:=jc c9;have n3: ¬(((2:Int)≠1/\0<0)\/((2:Int)≠3/\lk.size≠0)):=(by omega);rw[if_neg n3,if_neg (by omega)]at vN;clear n3
  (
   have yk:mr=0:=(by rw[vN,if_neg (by omega)]);rw[yk];clear vN yk
   (
   go_enter Tryz.func41,Tryz.ntmps41;go_upto_region 1 with(fail);rw[<-vY.out];go_upto_region 6 with(first
   |(go_at_call 42;refine(Al.out _).mono ?_;rintro e w1 ⟨A1,vC,rfl,wR,vD⟩;have vG:=(vD.block _ xd).trans HE.out;have f0:w1.cell? ⟨w.heap.size,0,none⟩=some (.string path):=aa vG 0;have f1:=aa vG 1;have f5:w1.cell? ⟨w.heap.size,5,none⟩=some (.slice A _ c):=aa vG 5;have xm:w.heap.size<w1.heap.size:=(uZ vG).1;have f6:w1.cell? ⟨w.heap.size,6,none⟩=some (.string lk):=aa vG 6;have vS:=va wR;have vJ:=va (vF.trans (vD.mono vF.size));have wg:=vJ.out.size;clear wR vD vG)
   |(go_at_call 83;refine(Ak.out _).mono ?_;rintro e w2 ⟨rfl,rfl⟩)
   |fail)
   go_wp2_with fail;go_loopw [6] (fun i wr=> ∃q:Nat,i= .int .i64 (q:Int)/\q<=k/\eu L q/\w1=wr) (fun i _ =>k-(intOf i).toNat)
   case atStart=>exact⟨0,rfl,vw _,(fun j y hj=>by omega),rfl⟩
   case round=>
    obtain⟨q,rfl,hq,vW,rfl⟩:=hrel;have zy:=va vW;clear vW;by_cases vH:q<k
    ·obtain⟨y,hy⟩: ∃y,L[q]? =some y:=⟨_,vg (by rw[<-HK.out];exact vH)⟩;rcases vS.out.form with⟨_,h2,_⟩|⟨g,ym,_,xT,Cz⟩
     ·rw[h2]at hy;simp at hy
     subst ym;have vU:=vS.out.elem hy;have EH:q<vC:=(by have:=HK.out;omega);by_cases e:y=⟨#[46,46]⟩
     ·have DV:=va (show L[q]? =some ⟨#[46,46]⟩from e▸hy);subst e;clear hy;exact(bT Es.out.symm DV.out).elim
     ·have b1:(y.toList==[46,46])=false:=aP e;have yj:=va (show eu L (q+1)from fun j z hj hz=>by
       by_cases ej:j=q
       ·subst ej;rw[hy]at hz;injection hz with hz;exact hz▸e
       ·exact zy.out j z (by omega) hz)
      clear e hy;go_wp2_with fail;go_roundw
      case rel=>exact⟨q+1,by go_num,by omega,yj.out,trivial⟩
      case measure=>(simp[intOf];omega)
    ·obtain rfl:q=k:=by omega
     (go_wp2_with fail;go_ret;exact⟨rfl,vJ.out⟩)))
 ·by_cases c8:0<n
  ·have LX:(0:Int)<(n:Int):=by omega
   (
   have yk:mr=1:=(by rw[vN,if_pos (.inl ⟨by decide,c8⟩)]);rw[yk];clear vN yk
   (
   go_enter Tryz.func41,Tryz.ntmps41;go_upto_region 1 with(fail);rw[<-vY.out];go_upto_region 6 with(first
   |(go_at_call 42;refine(Al.out _).mono ?_;rintro e w1 ⟨A1,vC,rfl,wR,vD⟩;have vG:=(vD.block _ xd).trans HE.out;have f0:w1.cell? ⟨w.heap.size,0,none⟩=some (.string path):=aa vG 0;have f1:=aa vG 1;have f5:w1.cell? ⟨w.heap.size,5,none⟩=some (.slice A _ c):=aa vG 5;have xm:w.heap.size<w1.heap.size:=(uZ vG).1;have f6:w1.cell? ⟨w.heap.size,6,none⟩=some (.string lk):=aa vG 6;have vS:=va wR;have vJ:=va (vF.trans (vD.mono vF.size));have wg:=vJ.out.size;clear wR vD vG)
   |(go_at_call 83;refine(Ak.out _).mono ?_;rintro e w2 ⟨rfl,rfl⟩)
   |fail)
   go_wp2_with fail;go_loopw [6] (fun i wr=> ∃q:Nat,i= .int .i64 (q:Int)/\q<=k/\eu L q/\w1=wr) (fun i _ =>k-(intOf i).toNat)
   case atStart=>exact⟨0,rfl,vw _,(fun j y hj=>by omega),rfl⟩
   case round=>
    obtain⟨q,rfl,hq,vW,rfl⟩:=hrel;have zy:=va vW;clear vW;by_cases vH:q<k
    ·obtain⟨y,hy⟩: ∃y,L[q]? =some y:=⟨_,vg (by rw[<-HK.out];exact vH)⟩;rcases vS.out.form with⟨_,h2,_⟩|⟨g,ym,_,xT,Cz⟩
     ·rw[h2]at hy;simp at hy
     subst ym;have vU:=vS.out.elem hy;have EH:q<vC:=(by have:=HK.out;omega);by_cases e:y=⟨#[46,46]⟩
     ·have DV:=va (show L[q]? =some ⟨#[46,46]⟩from e▸hy);subst e;clear hy;exact(bT Es.out.symm DV.out).elim
     ·have b1:(y.toList==[46,46])=false:=aP e;have yj:=va (show eu L (q+1)from fun j z hj hz=>by
       by_cases ej:j=q
       ·subst ej;rw[hy]at hz;injection hz with hz;exact hz▸e
       ·exact zy.out j z (by omega) hz)
      clear e hy;go_wp2_with fail;go_roundw
      case rel=>exact⟨q+1,by go_num,by omega,yj.out,trivial⟩
      case measure=>(simp[intOf];omega)
    ·obtain rfl:q=k:=by omega
     (go_wp2_with fail;go_ret;exact⟨rfl,vJ.out⟩)))
  obtain rfl:n=0:=(by omega);have n3: ¬(((3:Int)≠1/\0<0)\/((3:Int)≠3/\lk.size≠0)):=(by omega);rw[if_neg n3]at vN;clear n3;by_cases c9:ct=0
  rotate_left
  ·have hct9:(ct != 0)=true:=by rw[bne_iff_ne];exact c9
   (
   have yk:mr=1:=(by rw[vN,if_pos ⟨rfl,c9⟩]);rw[yk];clear vN yk
   (
   go_enter Tryz.func41,Tryz.ntmps41;go_upto_region 1 with(fail);rw[<-vY.out];go_upto_region 6 with(first
   |(go_at_call 42;refine(Al.out _).mono ?_;rintro e w1 ⟨A1,vC,rfl,wR,vD⟩;have vG:=(vD.block _ xd).trans HE.out;have f0:w1.cell? ⟨w.heap.size,0,none⟩=some (.string path):=aa vG 0;have f1:=aa vG 1;have f5:w1.cell? ⟨w.heap.size,5,none⟩=some (.slice A _ c):=aa vG 5;have xm:w.heap.size<w1.heap.size:=(uZ vG).1;have f6:w1.cell? ⟨w.heap.size,6,none⟩=some (.string lk):=aa vG 6;have vS:=va wR;have vJ:=va (vF.trans (vD.mono vF.size));have wg:=vJ.out.size;clear wR vD vG)
   |(go_at_call 83;refine(Ak.out _).mono ?_;rintro e w2 ⟨rfl,rfl⟩)
   |fail)
   go_wp2_with fail;go_loopw [6] (fun i wr=> ∃q:Nat,i= .int .i64 (q:Int)/\q<=k/\eu L q/\w1=wr) (fun i _ =>k-(intOf i).toNat)
   case atStart=>exact⟨0,rfl,vw _,(fun j y hj=>by omega),rfl⟩
   case round=>
    obtain⟨q,rfl,hq,vW,rfl⟩:=hrel;have zy:=va vW;clear vW;by_cases vH:q<k
    ·obtain⟨y,hy⟩: ∃y,L[q]? =some y:=⟨_,vg (by rw[<-HK.out];exact vH)⟩;rcases vS.out.form with⟨_,h2,_⟩|⟨g,ym,_,xT,Cz⟩
     ·rw[h2]at hy;simp at hy
     subst ym;have vU:=vS.out.elem hy;have EH:q<vC:=(by have:=HK.out;omega);by_cases e:y=⟨#[46,46]⟩
     ·have DV:=va (show L[q]? =some ⟨#[46,46]⟩from e▸hy);subst e;clear hy;exact(bT Es.out.symm DV.out).elim
     ·have b1:(y.toList==[46,46])=false:=aP e;have yj:=va (show eu L (q+1)from fun j z hj hz=>by
       by_cases ej:j=q
       ·subst ej;rw[hy]at hz;injection hz with hz;exact hz▸e
       ·exact zy.out j z (by omega) hz)
      clear e hy;go_wp2_with fail;go_roundw
      case rel=>exact⟨q+1,by go_num,by omega,yj.out,trivial⟩
      case measure=>(simp[intOf];omega)
    ·obtain rfl:q=k:=by omega
     (go_wp2_with (first|(go_at_call 84;refine(Ec.out _).mono ?_;rintro e w4 ⟨rfl,vZ⟩;have g5:=(vZ.cell (p:=⟨w.heap.size,5,none⟩) xm).trans f5)|fail);go_ret;exact⟨rfl,vJ.out.trans (vZ.mono wg)⟩)))
  subst c9;rw[if_neg (by omega)]at vN
  (
   have yk:mr=0:=(by rw[vN,if_neg (by omega)]);rw[yk];clear vN yk
   (
   go_enter Tryz.func41,Tryz.ntmps41;go_upto_region 1 with(fail);rw[<-vY.out];go_upto_region 6 with(first
   |(go_at_call 42;refine(Al.out _).mono ?_;rintro e w1 ⟨A1,vC,rfl,wR,vD⟩;have vG:=(vD.block _ xd).trans HE.out;have f0:w1.cell? ⟨w.heap.size,0,none⟩=some (.string path):=aa vG 0;have f1:=aa vG 1;have f5:w1.cell? ⟨w.heap.size,5,none⟩=some (.slice A _ c):=aa vG 5;have xm:w.heap.size<w1.heap.size:=(uZ vG).1;have f6:w1.cell? ⟨w.heap.size,6,none⟩=some (.string lk):=aa vG 6;have vS:=va wR;have vJ:=va (vF.trans (vD.mono vF.size));have wg:=vJ.out.size;clear wR vD vG)
   |(go_at_call 83;refine(Ak.out _).mono ?_;rintro e w2 ⟨rfl,rfl⟩)
   |fail)
   go_wp2_with fail;go_loopw [6] (fun i wr=> ∃q:Nat,i= .int .i64 (q:Int)/\q<=k/\eu L q/\w1=wr) (fun i _ =>k-(intOf i).toNat)
   case atStart=>exact⟨0,rfl,vw _,(fun j y hj=>by omega),rfl⟩
   case round=>
    obtain⟨q,rfl,hq,vW,rfl⟩:=hrel;have zy:=va vW;clear vW;by_cases vH:q<k
    ·obtain⟨y,hy⟩: ∃y,L[q]? =some y:=⟨_,vg (by rw[<-HK.out];exact vH)⟩;rcases vS.out.form with⟨_,h2,_⟩|⟨g,ym,_,xT,Cz⟩
     ·rw[h2]at hy;simp at hy
     subst ym;have vU:=vS.out.elem hy;have EH:q<vC:=(by have:=HK.out;omega);by_cases e:y=⟨#[46,46]⟩
     ·have DV:=va (show L[q]? =some ⟨#[46,46]⟩from e▸hy);subst e;clear hy;exact(bT Es.out.symm DV.out).elim
     ·have b1:(y.toList==[46,46])=false:=aP e;have yj:=va (show eu L (q+1)from fun j z hj hz=>by
       by_cases ej:j=q
       ·subst ej;rw[hy]at hz;injection hz with hz;exact hz▸e
       ·exact zy.out j z (by omega) hz)
      clear e hy;go_wp2_with fail;go_roundw
      case rel=>exact⟨q+1,by go_num,by omega,yj.out,trivial⟩
      case measure=>(simp[intOf];omega)
    ·obtain rfl:q=k:=by omega
     (go_wp2_with (first|(go_at_call 84;refine(Ec.out _).mono ?_;rintro e w4 ⟨rfl,vZ⟩;have g5:=(vZ.cell (p:=⟨w.heap.size,5,none⟩) xm).trans f5)|fail);go_ret;exact⟨rfl,vJ.out.trans (vZ.mono wg)⟩)))
end
