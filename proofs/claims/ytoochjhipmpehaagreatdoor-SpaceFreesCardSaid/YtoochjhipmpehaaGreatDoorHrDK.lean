/- The document's files: what an entry by itself may not be; -/
import Derived.Test.YtoochjhipmpehaaGreatDoorHrCK
set_option linter.unusedVariables false
set_option linter.unusedSimpArgs false
set_option maxRecDepth 100000
set_option maxHeartbeats 8000000
namespace Go.Proofs.YtoochjhipmpehaaGreatDoor
section
open Go.RowKit Go.Sort
variable {L:List ByteArray} {q:Nat}
theorem dots_yes (h:L[q]? =some ⟨#[46,46]⟩):dots L=true:=by
 unfold dots;exact List.any_eq_true.2 ⟨_,uV h,rfl⟩
theorem dots_no (h: ∀j y,j<L.length->L[j]? =some y->y≠⟨#[46,46]⟩):dots L=false:=by
 unfold dots;rw[List.any_eq_false];intro x hx;obtain⟨j,hj,e⟩:=List.mem_iff_getElem.1 hx;have h1:=h j x hj (by rw[uQ hj,e]);intro e2;apply h1;cases x with
 |mk d=>exact congrArg ByteArray.mk (eq_of_beq e2)
theorem aU {y:ByteArray} (h:y≠⟨#[46,46]⟩):(y.toList==[46,46])=false:=by
 have h1:=sh h;rw[ByteArray.toList_eq (ByteArray.mk #[46,46])]at h1;exact h1
def eE (L:List ByteArray) (q:Nat):Prop:= ∀j y,j<q->L[j]? =some y->y≠⟨#[46,46]⟩
theorem bX (h:dots L=false) (hq:L[q]? =some ⟨#[46,46]⟩):False:=by
 rw[dots_yes hq]at h;cases h
theorem sZ {m:Nat} (h:m<65536):(bits .and .u16 (m:Int) 2559 != (m:Int))=du m:=by
 rw[show((2559:Int))=((2559:Nat):Int)from rfl,u16_and_nat m 2559 h (by omega)];cases hc:du m with
 |false=>
  have:=(pU h).2 hc;rw[this];simp
 |true=>
  rw[bne_iff_ne];intro e;have e2:m&&&2559=m:=(by omega);rw[(pU h).1 e2]at hc;cases hc
theorem rmay_any (x:Ent) (A:Option Addr) (c:Nat) (w:World) (hp:x.path.size<=1000000000) (ht:x.to.size<=1000000000) (hn:x.n<=9223372036854775807) (hm:x.mode<65536):
  Calls Tryz.prog 41 #[x.val A c] w fun e w'=>e= .returned (.int .i64 (may x))/\Below w.heap.size w w':=by
 obtain⟨path,kind,mode,uid,gid,n,dat,lk⟩:=x;simp only at hp ht hn hm;obtain⟨K,Qk⟩: ∃K:Int,K=(kind:Int):=⟨_,rfl⟩;have WK:0<=K:=(by omega);obtain⟨w0,vo⟩: ∃w0,w0=w.alloc (.cells #[.string path, .int .u8 K, .int .u16 (mode:Int), .int .u32 (uid:Int), .int .u32 (gid:Int), .slice A n c, .string lk] 93):=⟨_,rfl⟩;have vp:Below w.heap.size w w0:=(by rw[vo];exact uM);have hE:w0.heap[w.heap.size]? =some (.cells #[.string path, .int .u8 K, .int .u16 (mode:Int), .int .u32 (uid:Int), .int .u32 (gid:Int), .slice A n c, .string lk] 93 (0,0)):=(by rw[vo];exact ab w _);have xd:w.heap.size<w0.heap.size:=(uJ hE).1;have d0:w0.cell? ⟨w.heap.size,0,none⟩=some (.string path):=aa hE 0;have d1:w0.cell? ⟨w.heap.size,1,none⟩=some (.int .u8 K):=aa hE 1;have d2:w0.cell? ⟨w.heap.size,2,none⟩=some (.int .u16 (mode:Int)):=aa hE 2;have HE:=uK hE;have vR:=uK vo;clear hE vo;unfold Ent.val;simp only;rw[<-Qk];obtain⟨mb,Et⟩: ∃mb,mb=du mode:=⟨_,rfl⟩;have CL:=sZ hm;rw[<-Et]at CL;obtain⟨ct,Mt⟩: ∃ct,ct=chk lk:=⟨_,rfl⟩;have wF:=fun W=>ll lk W ht;rw[<-Mt]at wF;have En:=uK wF;by_cases hc:chk path=0
 rotate_left
 ·obtain⟨mr,Hi⟩: ∃mr,mr=may ⟨path,kind,mode,uid,gid,n,dat,lk⟩:=⟨_,rfl⟩;have vy:mr=1:=by
   rw[Hi];unfold may;simp only;split
   ·rfl
   ·rw[if_pos (.inl hc)]
  rw[<-Hi,vy];have Vs:=uK (fun W=>qD path W hp hc);have vB:(chk path != 0)=true:=(by rw[bne_iff_ne];exact hc);obtain⟨r,hr⟩: ∃r,r=chk path:=⟨_,rfl⟩;rw[<-hr]at vB Vs;clear Hi vy hc hr Qk Mt wF Et;by_cases hk:K=1\/K=2\/K=3
  ·rcases(by cases mb<;>simp:mb=true\/mb=false)with rfl|rfl
   all_goals
    rcases hk with rfl|rfl|rfl
    all_goals
     go_enter Tryz.func41,Tryz.ntmps41;go_upto_region 1 with(fail);rw[<-vR.out];go_wp2_with (first
      |(go_at_call 42;refine(Vs.out _).mono ?_;rintro e w1 ⟨rfl,vl⟩;have vu:=uK (vp.trans (vl.mono vp.size));clear vl)
      |fail)
     go_ret
     first
      |exact⟨rfl,vp⟩
      |exact⟨rfl,vu.out⟩
  ·have k1:(K != 1)=true:=(by rw[bne_iff_ne];omega);have k2:(K != 2)=true:=(by rw[bne_iff_ne];omega);have k3:(K != 3)=true:=(by rw[bne_iff_ne];omega);clear hk;go_enter Tryz.func41,Tryz.ntmps41;go_upto_region 1 with(fail);rw[<-vR.out];go_wp2_with fail;go_ret;exact⟨rfl,vp⟩
 have Dt:=dg hc;have SH:path.size<=200:=Dt.2.1;obtain⟨L,hL⟩: ∃L,L=ar path:=⟨_,rfl⟩;obtain⟨k,hk⟩: ∃k,k=L.length:=⟨_,rfl⟩;have hkf:k<=201:=(by rw[hk,hL];have:=bn path;omega);obtain⟨pb,hpb⟩: ∃pb,pb=Lib.hasPrefix path.data.toList [47]:=⟨_,rfl⟩;obtain⟨tb,Nl⟩: ∃tb,tb=Lib.hasSuffix path.data.toList [47]:=⟨_,rfl⟩;obtain⟨db,Au⟩: ∃db,db=dots L:=⟨_,rfl⟩;have FL:=fun W=>mK path W hc;unfold cn at FL;rw[<-hL,<-hpb,<-hk]at FL;have OV:=fun W=>sB path W (by omega);rw[<-Nl]at OV;obtain⟨mr,Hi⟩: ∃mr,mr=may ⟨path,kind,mode,uid,gid,n,dat,lk⟩:=⟨_,rfl⟩;rw[<-Hi];have vy:mr=if K<1\/3<K\/mb=true then 1 else if pb=false\/k=0\/tb=true\/db=true then 1
   else if(K≠1/\0<n)\/(K≠3/\lk.size≠0)then 1 else if K=3/\ct≠0 then 1 else if 65536<n then 12 else 0:=by
  have i1:(K<1)=(kind<1):=(by apply propext;omega);have i2:(3<K)=(3<kind):=(by apply propext;omega);have i3:(K=1)=(kind=1):=(by apply propext;omega);have i4:(K=3)=(kind=3):=(by apply propext;omega);rw[Hi,hpb,hk,Nl,Au,Mt,hL,Et];simp only[i1,i2,i3,i4,ne_eq];unfold may;simp only[hc,ne_eq,not_true_eq_false,false_or,List.length_eq_zero_iff]
 have Ay:=uK FL;have Ax:=uK OV;have HK:=uK hk;have EE:=uK Au;clear FL OV wF Au hpb Nl Mt Hi hk hL hc Dt Qk Et;by_cases xP:K=1\/K=2\/K=3
 rotate_left
 ·have k1:(K != 1)=true:=(by rw[bne_iff_ne];omega);have k2:(K != 2)=true:=(by rw[bne_iff_ne];omega);have k3:(K != 3)=true:=(by rw[bne_iff_ne];omega);have IF:K<1\/3<K\/mb=true:=(by omega);clear xP
  (
   have yv:mr=1:=(by rw[vy,if_pos IF]);rw[yv];clear vy yv;go_enter Tryz.func41,Tryz.ntmps41;go_upto_region 1 with(fail);rw[<-vR.out];go_wp2_with fail;go_ret;exact⟨rfl,vp⟩)
 rcases(by cases mb<;>simp:mb=true\/mb=false)with rfl|rfl
 ·rcases xP with rfl|rfl|rfl
  all_goals(
   have yv:mr=1:=(by rw[vy,if_pos (.inr (.inr rfl))]);rw[yv];clear vy yv;go_enter Tryz.func41,Tryz.ntmps41;go_upto_region 1 with(fail);rw[<-vR.out];go_wp2_with fail;go_ret;exact⟨rfl,vp⟩)
 have n1: ¬(K<1\/3<K\/false=true):=(by simp;omega);rw[if_neg n1]at vy;clear n1;rcases(by cases pb<;>simp:pb=false\/pb=true)with rfl|rfl
 ·rcases xP with rfl|rfl|rfl
  all_goals(
   have yv:mr=1:=(by rw[vy,if_pos (.inl rfl)]);rw[yv];clear vy yv;go_enter Tryz.func41,Tryz.ntmps41;go_upto_region 1 with(fail);rw[<-vR.out];go_wp2_with (first
   |(go_at_call 42;refine(Ay.out _).mono ?_;rintro e w1 ⟨A1,vn,rfl,wO,vl⟩;have vr:=(vl.block _ xd).trans HE.out;have f0:w1.cell? ⟨w.heap.size,0,none⟩=some (.string path):=aa vr 0;have f1:=aa vr 1;have f5:w1.cell? ⟨w.heap.size,5,none⟩=some (.slice A _ c):=aa vr 5;have xn:w.heap.size<w1.heap.size:=(uJ vr).1;have f6:w1.cell? ⟨w.heap.size,6,none⟩=some (.string lk):=aa vr 6;have vF:=uK wO;have vu:=uK (vp.trans (vl.mono vp.size));have vz:=vu.out.size;clear wO vl vr)
   |(go_at_call 83;refine(Ax.out _).mono ?_;rintro e w2 ⟨rfl,rfl⟩)
   |fail)
   go_ret;exact⟨rfl,vu.out⟩)
 by_cases c5:k=0
 ·subst c5;rcases xP with rfl|rfl|rfl
  all_goals(
   have yv:mr=1:=(by rw[vy,if_pos (.inr (.inl rfl))]);rw[yv];clear vy yv;go_enter Tryz.func41,Tryz.ntmps41;go_upto_region 1 with(fail);rw[<-vR.out];go_wp2_with (first
   |(go_at_call 42;refine(Ay.out _).mono ?_;rintro e w1 ⟨A1,vn,rfl,wO,vl⟩;have vr:=(vl.block _ xd).trans HE.out;have f0:w1.cell? ⟨w.heap.size,0,none⟩=some (.string path):=aa vr 0;have f1:=aa vr 1;have f5:w1.cell? ⟨w.heap.size,5,none⟩=some (.slice A _ c):=aa vr 5;have xn:w.heap.size<w1.heap.size:=(uJ vr).1;have f6:w1.cell? ⟨w.heap.size,6,none⟩=some (.string lk):=aa vr 6;have vF:=uK wO;have vu:=uK (vp.trans (vl.mono vp.size));have vz:=vu.out.size;clear wO vl vr)
   |(go_at_call 83;refine(Ax.out _).mono ?_;rintro e w2 ⟨rfl,rfl⟩)
   |fail)
   go_ret;exact⟨rfl,vu.out⟩)
 have zb: ¬(k:Int)=0:=(by omega);rcases(by cases tb<;>simp:tb=true\/tb=false)with rfl|rfl
 ·rcases xP with rfl|rfl|rfl
  all_goals(
   have yv:mr=1:=(by rw[vy,if_pos (.inr (.inr (.inl rfl)))]);rw[yv];clear vy yv;go_enter Tryz.func41,Tryz.ntmps41;go_upto_region 1 with(fail);rw[<-vR.out];go_wp2_with (first
   |(go_at_call 42;refine(Ay.out _).mono ?_;rintro e w1 ⟨A1,vn,rfl,wO,vl⟩;have vr:=(vl.block _ xd).trans HE.out;have f0:w1.cell? ⟨w.heap.size,0,none⟩=some (.string path):=aa vr 0;have f1:=aa vr 1;have f5:w1.cell? ⟨w.heap.size,5,none⟩=some (.slice A _ c):=aa vr 5;have xn:w.heap.size<w1.heap.size:=(uJ vr).1;have f6:w1.cell? ⟨w.heap.size,6,none⟩=some (.string lk):=aa vr 6;have vF:=uK wO;have vu:=uK (vp.trans (vl.mono vp.size));have vz:=vu.out.size;clear wO vl vr)
   |(go_at_call 83;refine(Ax.out _).mono ?_;rintro e w2 ⟨rfl,rfl⟩)
   |fail)
   go_ret;exact⟨rfl,vu.out⟩)
 rcases(by cases db<;>simp:db=true\/db=false)with rfl|rfl
 ·have yv:mr=1:=(by rw[vy,if_pos (.inr (.inr (.inr rfl)))]);rw[yv];clear vy yv;rcases xP with rfl|rfl|rfl
  all_goals
   (
   go_enter Tryz.func41,Tryz.ntmps41;go_upto_region 1 with(fail);rw[<-vR.out];go_upto_region 6 with(first
   |(go_at_call 42;refine(Ay.out _).mono ?_;rintro e w1 ⟨A1,vn,rfl,wO,vl⟩;have vr:=(vl.block _ xd).trans HE.out;have f0:w1.cell? ⟨w.heap.size,0,none⟩=some (.string path):=aa vr 0;have f1:=aa vr 1;have f5:w1.cell? ⟨w.heap.size,5,none⟩=some (.slice A _ c):=aa vr 5;have xn:w.heap.size<w1.heap.size:=(uJ vr).1;have f6:w1.cell? ⟨w.heap.size,6,none⟩=some (.string lk):=aa vr 6;have vF:=uK wO;have vu:=uK (vp.trans (vl.mono vp.size));have vz:=vu.out.size;clear wO vl vr)
   |(go_at_call 83;refine(Ax.out _).mono ?_;rintro e w2 ⟨rfl,rfl⟩)
   |fail)
   go_wp2_with fail;go_loopw [6] (fun i wr=> ∃q:Nat,i= .int .i64 (q:Int)/\q<=k/\eE L q/\w1=wr) (fun i _ =>k-(intOf i).toNat)
   case atStart=>exact⟨0,rfl,vg _,(fun j y hj=>by omega),rfl⟩
   case round=>
    obtain⟨q,rfl,hq,vL,rfl⟩:=hrel;have zJ:=uK vL;clear vL;by_cases vq:q<k
    ·obtain⟨y,hy⟩: ∃y,L[q]? =some y:=⟨_,uQ (by rw[<-HK.out];exact vq)⟩;rcases vF.out.form with⟨_,h2,_⟩|⟨g,yA,_,yc,CO⟩
     ·rw[h2]at hy;simp at hy
     subst yA;have vG:=vF.out.elem hy;have ES:q<vn:=(by have:=HK.out;omega);by_cases e:y=⟨#[46,46]⟩
     ·have Ei:=uK (show L[q]? =some ⟨#[46,46]⟩from e▸hy);subst e;clear hy
      (go_wp2_with fail;go_ret;exact⟨rfl,vu.out⟩)
     ·have b1:(y.toList==[46,46])=false:=aU e;have yu:=uK (show eE L (q+1)from fun j z hj hz=>by
       by_cases ej:j=q
       ·subst ej;rw[hy]at hz;injection hz with hz;exact hz▸e
       ·exact zJ.out j z (by omega) hz)
      clear e hy;go_wp2_with fail;go_roundw
      case rel=>exact⟨q+1,by go_num,by omega,yu.out,trivial⟩
      case measure=>(simp[intOf];omega)
    ·obtain rfl:q=k:=(by omega);exact absurd (dots_no (fun j y hj hy=>zJ.out j y (by rw[HK.out];exact hj) hy)) (by rw[<-EE.out];decide))
 have n2: ¬(true=false\/k=0\/false=true\/false=true):=(by simp;omega);rw[if_neg n2]at vy;clear n2;rcases xP with rfl|rfl|rfl
 ·by_cases c8:lk.size=0
  rotate_left
  ·have t0:=kW c8
   (
   have yv:mr=1:=(by rw[vy,if_pos (.inr ⟨by decide,c8⟩)]);rw[yv];clear vy yv
   (
   go_enter Tryz.func41,Tryz.ntmps41;go_upto_region 1 with(fail);rw[<-vR.out];go_upto_region 6 with(first
   |(go_at_call 42;refine(Ay.out _).mono ?_;rintro e w1 ⟨A1,vn,rfl,wO,vl⟩;have vr:=(vl.block _ xd).trans HE.out;have f0:w1.cell? ⟨w.heap.size,0,none⟩=some (.string path):=aa vr 0;have f1:=aa vr 1;have f5:w1.cell? ⟨w.heap.size,5,none⟩=some (.slice A _ c):=aa vr 5;have xn:w.heap.size<w1.heap.size:=(uJ vr).1;have f6:w1.cell? ⟨w.heap.size,6,none⟩=some (.string lk):=aa vr 6;have vF:=uK wO;have vu:=uK (vp.trans (vl.mono vp.size));have vz:=vu.out.size;clear wO vl vr)
   |(go_at_call 83;refine(Ax.out _).mono ?_;rintro e w2 ⟨rfl,rfl⟩)
   |fail)
   go_wp2_with fail;go_loopw [6] (fun i wr=> ∃q:Nat,i= .int .i64 (q:Int)/\q<=k/\eE L q/\w1=wr) (fun i _ =>k-(intOf i).toNat)
   case atStart=>exact⟨0,rfl,vg _,(fun j y hj=>by omega),rfl⟩
   case round=>
    obtain⟨q,rfl,hq,vL,rfl⟩:=hrel;have zJ:=uK vL;clear vL;by_cases vq:q<k
    ·obtain⟨y,hy⟩: ∃y,L[q]? =some y:=⟨_,uQ (by rw[<-HK.out];exact vq)⟩;rcases vF.out.form with⟨_,h2,_⟩|⟨g,yA,_,yc,CO⟩
     ·rw[h2]at hy;simp at hy
     subst yA;have vG:=vF.out.elem hy;have ES:q<vn:=(by have:=HK.out;omega);by_cases e:y=⟨#[46,46]⟩
     ·have Ei:=uK (show L[q]? =some ⟨#[46,46]⟩from e▸hy);subst e;clear hy;exact(bX EE.out.symm Ei.out).elim
     ·have b1:(y.toList==[46,46])=false:=aU e;have yu:=uK (show eE L (q+1)from fun j z hj hz=>by
       by_cases ej:j=q
       ·subst ej;rw[hy]at hz;injection hz with hz;exact hz▸e
       ·exact zJ.out j z (by omega) hz)
      clear e hy;go_wp2_with fail;go_roundw
      case rel=>exact⟨q+1,by go_num,by omega,yu.out,trivial⟩
      case measure=>(simp[intOf];omega)
    ·obtain rfl:q=k:=by omega
     (go_wp2_with fail;go_ret;exact⟨rfl,vu.out⟩)))
  have t0:=iT c8;have n3: ¬(((1:Int)≠1/\0<n)\/((1:Int)≠3/\lk.size≠0)):=(by omega);rw[if_neg n3,if_neg (by omega)]at vy;clear n3;by_cases c9:65536<n
  ·have Mg:(65536:Int)<(n:Int):=by omega
   (
   have yv:mr=12:=(by rw[vy,if_pos c9]);rw[yv];clear vy yv
   (
   go_enter Tryz.func41,Tryz.ntmps41;go_upto_region 1 with(fail);rw[<-vR.out];go_upto_region 6 with(first
   |(go_at_call 42;refine(Ay.out _).mono ?_;rintro e w1 ⟨A1,vn,rfl,wO,vl⟩;have vr:=(vl.block _ xd).trans HE.out;have f0:w1.cell? ⟨w.heap.size,0,none⟩=some (.string path):=aa vr 0;have f1:=aa vr 1;have f5:w1.cell? ⟨w.heap.size,5,none⟩=some (.slice A _ c):=aa vr 5;have xn:w.heap.size<w1.heap.size:=(uJ vr).1;have f6:w1.cell? ⟨w.heap.size,6,none⟩=some (.string lk):=aa vr 6;have vF:=uK wO;have vu:=uK (vp.trans (vl.mono vp.size));have vz:=vu.out.size;clear wO vl vr)
   |(go_at_call 83;refine(Ax.out _).mono ?_;rintro e w2 ⟨rfl,rfl⟩)
   |fail)
   go_wp2_with fail;go_loopw [6] (fun i wr=> ∃q:Nat,i= .int .i64 (q:Int)/\q<=k/\eE L q/\w1=wr) (fun i _ =>k-(intOf i).toNat)
   case atStart=>exact⟨0,rfl,vg _,(fun j y hj=>by omega),rfl⟩
   case round=>
    obtain⟨q,rfl,hq,vL,rfl⟩:=hrel;have zJ:=uK vL;clear vL;by_cases vq:q<k
    ·obtain⟨y,hy⟩: ∃y,L[q]? =some y:=⟨_,uQ (by rw[<-HK.out];exact vq)⟩;rcases vF.out.form with⟨_,h2,_⟩|⟨g,yA,_,yc,CO⟩
     ·rw[h2]at hy;simp at hy
     subst yA;have vG:=vF.out.elem hy;have ES:q<vn:=(by have:=HK.out;omega);by_cases e:y=⟨#[46,46]⟩
     ·have Ei:=uK (show L[q]? =some ⟨#[46,46]⟩from e▸hy);subst e;clear hy;exact(bX EE.out.symm Ei.out).elim
     ·have b1:(y.toList==[46,46])=false:=aU e;have yu:=uK (show eE L (q+1)from fun j z hj hz=>by
       by_cases ej:j=q
       ·subst ej;rw[hy]at hz;injection hz with hz;exact hz▸e
       ·exact zJ.out j z (by omega) hz)
      clear e hy;go_wp2_with fail;go_roundw
      case rel=>exact⟨q+1,by go_num,by omega,yu.out,trivial⟩
      case measure=>(simp[intOf];omega)
    ·obtain rfl:q=k:=by omega
     (go_wp2_with fail;go_ret;exact⟨rfl,vu.out⟩)))
  ·have Mg: ¬(65536:Int)<(n:Int):=by omega
   (
   have yv:mr=0:=(by rw[vy,if_neg c9]);rw[yv];clear vy yv
   (
   go_enter Tryz.func41,Tryz.ntmps41;go_upto_region 1 with(fail);rw[<-vR.out];go_upto_region 6 with(first
   |(go_at_call 42;refine(Ay.out _).mono ?_;rintro e w1 ⟨A1,vn,rfl,wO,vl⟩;have vr:=(vl.block _ xd).trans HE.out;have f0:w1.cell? ⟨w.heap.size,0,none⟩=some (.string path):=aa vr 0;have f1:=aa vr 1;have f5:w1.cell? ⟨w.heap.size,5,none⟩=some (.slice A _ c):=aa vr 5;have xn:w.heap.size<w1.heap.size:=(uJ vr).1;have f6:w1.cell? ⟨w.heap.size,6,none⟩=some (.string lk):=aa vr 6;have vF:=uK wO;have vu:=uK (vp.trans (vl.mono vp.size));have vz:=vu.out.size;clear wO vl vr)
   |(go_at_call 83;refine(Ax.out _).mono ?_;rintro e w2 ⟨rfl,rfl⟩)
   |fail)
   go_wp2_with fail;go_loopw [6] (fun i wr=> ∃q:Nat,i= .int .i64 (q:Int)/\q<=k/\eE L q/\w1=wr) (fun i _ =>k-(intOf i).toNat)
   case atStart=>exact⟨0,rfl,vg _,(fun j y hj=>by omega),rfl⟩
   case round=>
    obtain⟨q,rfl,hq,vL,rfl⟩:=hrel;have zJ:=uK vL;clear vL;by_cases vq:q<k
    ·obtain⟨y,hy⟩: ∃y,L[q]? =some y:=⟨_,uQ (by rw[<-HK.out];exact vq)⟩;rcases vF.out.form with⟨_,h2,_⟩|⟨g,yA,_,yc,CO⟩
     ·rw[h2]at hy;simp at hy
     subst yA;have vG:=vF.out.elem hy;have ES:q<vn:=(by have:=HK.out;omega);by_cases e:y=⟨#[46,46]⟩
     ·have Ei:=uK (show L[q]? =some ⟨#[46,46]⟩from e▸hy);subst e;clear hy;exact(bX EE.out.symm Ei.out).elim
     ·have b1:(y.toList==[46,46])=false:=aU e;have yu:=uK (show eE L (q+1)from fun j z hj hz=>by
       by_cases ej:j=q
       ·subst ej;rw[hy]at hz;injection hz with hz;exact hz▸e
       ·exact zJ.out j z (by omega) hz)
      clear e hy;go_wp2_with fail;go_roundw
      case rel=>exact⟨q+1,by go_num,by omega,yu.out,trivial⟩
      case measure=>(simp[intOf];omega)
    ·obtain rfl:q=k:=by omega
     (go_wp2_with fail;go_ret;exact⟨rfl,vu.out⟩)))
 ·by_cases c8:0<n
  ·have Mg:(0:Int)<(n:Int):=by omega
   (
   have yv:mr=1:=(by rw[vy,if_pos (.inl ⟨by decide,c8⟩)]);rw[yv];clear vy yv
   (
   go_enter Tryz.func41,Tryz.ntmps41;go_upto_region 1 with(fail);rw[<-vR.out];go_upto_region 6 with(first
   |(go_at_call 42;refine(Ay.out _).mono ?_;rintro e w1 ⟨A1,vn,rfl,wO,vl⟩;have vr:=(vl.block _ xd).trans HE.out;have f0:w1.cell? ⟨w.heap.size,0,none⟩=some (.string path):=aa vr 0;have f1:=aa vr 1;have f5:w1.cell? ⟨w.heap.size,5,none⟩=some (.slice A _ c):=aa vr 5;have xn:w.heap.size<w1.heap.size:=(uJ vr).1;have f6:w1.cell? ⟨w.heap.size,6,none⟩=some (.string lk):=aa vr 6;have vF:=uK wO;have vu:=uK (vp.trans (vl.mono vp.size));have vz:=vu.out.size;clear wO vl vr)
   |(go_at_call 83;refine(Ax.out _).mono ?_;rintro e w2 ⟨rfl,rfl⟩)
   |fail)
   go_wp2_with fail;go_loopw [6] (fun i wr=> ∃q:Nat,i= .int .i64 (q:Int)/\q<=k/\eE L q/\w1=wr) (fun i _ =>k-(intOf i).toNat)
   case atStart=>exact⟨0,rfl,vg _,(fun j y hj=>by omega),rfl⟩
   case round=>
    obtain⟨q,rfl,hq,vL,rfl⟩:=hrel;have zJ:=uK vL;clear vL;by_cases vq:q<k
    ·obtain⟨y,hy⟩: ∃y,L[q]? =some y:=⟨_,uQ (by rw[<-HK.out];exact vq)⟩;rcases vF.out.form with⟨_,h2,_⟩|⟨g,yA,_,yc,CO⟩
     ·rw[h2]at hy;simp at hy
     subst yA;have vG:=vF.out.elem hy;have ES:q<vn:=(by have:=HK.out;omega);by_cases e:y=⟨#[46,46]⟩
     ·have Ei:=uK (show L[q]? =some ⟨#[46,46]⟩from e▸hy);subst e;clear hy;exact(bX EE.out.symm Ei.out).elim
     ·have b1:(y.toList==[46,46])=false:=aU e;have yu:=uK (show eE L (q+1)from fun j z hj hz=>by
       by_cases ej:j=q
       ·subst ej;rw[hy]at hz;injection hz with hz;exact hz▸e
       ·exact zJ.out j z (by omega) hz)
      clear e hy;go_wp2_with fail;go_roundw
      case rel=>exact⟨q+1,by go_num,by omega,yu.out,trivial⟩
      case measure=>(simp[intOf];omega)
    ·obtain rfl:q=k:=by omega
     (go_wp2_with fail;go_ret;exact⟨rfl,vu.out⟩)))
  obtain rfl:n=0:=(by omega);by_cases c9:lk.size=0
  rotate_left
  ·have t0:=kW c9
   (
   have yv:mr=1:=(by rw[vy,if_pos (.inr ⟨by decide,c9⟩)]);rw[yv];clear vy yv
   (
   go_enter Tryz.func41,Tryz.ntmps41;go_upto_region 1 with(fail);rw[<-vR.out];go_upto_region 6 with(first
   |(go_at_call 42;refine(Ay.out _).mono ?_;rintro e w1 ⟨A1,vn,rfl,wO,vl⟩;have vr:=(vl.block _ xd).trans HE.out;have f0:w1.cell? ⟨w.heap.size,0,none⟩=some (.string path):=aa vr 0;have f1:=aa vr 1;have f5:w1.cell? ⟨w.heap.size,5,none⟩=some (.slice A _ c):=aa vr 5;have xn:w.heap.size<w1.heap.size:=(uJ vr).1;have f6:w1.cell? ⟨w.heap.size,6,none⟩=some (.string lk):=aa vr 6;have vF:=uK wO;have vu:=uK (vp.trans (vl.mono vp.size));have vz:=vu.out.size;clear wO vl vr)
   |(go_at_call 83;refine(Ax.out _).mono ?_;rintro e w2 ⟨rfl,rfl⟩)
   |fail)
   go_wp2_with fail;go_loopw [6] (fun i wr=> ∃q:Nat,i= .int .i64 (q:Int)/\q<=k/\eE L q/\w1=wr) (fun i _ =>k-(intOf i).toNat)
   case atStart=>exact⟨0,rfl,vg _,(fun j y hj=>by omega),rfl⟩
   case round=>
    obtain⟨q,rfl,hq,vL,rfl⟩:=hrel;have zJ:=uK vL;clear vL;by_cases vq:q<k
    ·obtain⟨y,hy⟩: ∃y,L[q]? =some y:=⟨_,uQ (by rw[<-HK.out];exact vq)⟩;rcases vF.out.form with⟨_,h2,_⟩|⟨g,yA,_,yc,CO⟩
     ·rw[h2]at hy;simp at hy
     subst yA;have vG:=vF.out.elem hy;have ES:q<vn:=(by have:=HK.out;omega);by_cases e:y=⟨#[46,46]⟩
     ·have Ei:=uK (show L[q]? =some ⟨#[46,46]⟩from e▸hy);subst e;clear hy;exact(bX EE.out.symm Ei.out).elim
     ·have b1:(y.toList==[46,46])=false:=aU e;have yu:=uK (show eE L (q+1)from fun j z hj hz=>by
       by_cases ej:j=q
       ·subst ej;rw[hy]at hz;injection hz with hz;exact hz▸e
       ·exact zJ.out j z (by omega) hz)
      clear e hy;go_wp2_with fail;go_roundw
      case rel=>exact⟨q+1,by go_num,by omega,yu.out,trivial⟩
      case measure=>(simp[intOf];omega)
    ·obtain rfl:q=k:=by omega
     (go_wp2_with fail;go_ret;exact⟨rfl,vu.out⟩)))
  have t0:=iT c9;have n3: ¬(((2:Int)≠1/\0<0)\/((2:Int)≠3/\lk.size≠0)):=(by omega);rw[if_neg n3,if_neg (by omega)]at vy;clear n3
  (
   have yv:mr=0:=(by rw[vy,if_neg (by omega)]);rw[yv];clear vy yv
   (
   go_enter Tryz.func41,Tryz.ntmps41;go_upto_region 1 with(fail);rw[<-vR.out];go_upto_region 6 with(first
   |(go_at_call 42;refine(Ay.out _).mono ?_;rintro e w1 ⟨A1,vn,rfl,wO,vl⟩;have vr:=(vl.block _ xd).trans HE.out;have f0:w1.cell? ⟨w.heap.size,0,none⟩=some (.string path):=aa vr 0;have f1:=aa vr 1;have f5:w1.cell? ⟨w.heap.size,5,none⟩=some (.slice A _ c):=aa vr 5;have xn:w.heap.size<w1.heap.size:=(uJ vr).1;have f6:w1.cell? ⟨w.heap.size,6,none⟩=some (.string lk):=aa vr 6;have vF:=uK wO;have vu:=uK (vp.trans (vl.mono vp.size));have vz:=vu.out.size;clear wO vl vr)
   |(go_at_call 83;refine(Ax.out _).mono ?_;rintro e w2 ⟨rfl,rfl⟩)
   |fail)
   go_wp2_with fail;go_loopw [6] (fun i wr=> ∃q:Nat,i= .int .i64 (q:Int)/\q<=k/\eE L q/\w1=wr) (fun i _ =>k-(intOf i).toNat)
   case atStart=>exact⟨0,rfl,vg _,(fun j y hj=>by omega),rfl⟩
   case round=>
    obtain⟨q,rfl,hq,vL,rfl⟩:=hrel;have zJ:=uK vL;clear vL;by_cases vq:q<k
    ·obtain⟨y,hy⟩: ∃y,L[q]? =some y:=⟨_,uQ (by rw[<-HK.out];exact vq)⟩;rcases vF.out.form with⟨_,h2,_⟩|⟨g,yA,_,yc,CO⟩
     ·rw[h2]at hy;simp at hy
     subst yA;have vG:=vF.out.elem hy;have ES:q<vn:=(by have:=HK.out;omega);by_cases e:y=⟨#[46,46]⟩
     ·have Ei:=uK (show L[q]? =some ⟨#[46,46]⟩from e▸hy);subst e;clear hy;exact(bX EE.out.symm Ei.out).elim
     ·have b1:(y.toList==[46,46])=false:=aU e;have yu:=uK (show eE L (q+1)from fun j z hj hz=>by
       by_cases ej:j=q
       ·subst ej;rw[hy]at hz;injection hz with hz;exact hz▸e
       ·exact zJ.out j z (by omega) hz)
      clear e hy;go_wp2_with fail;go_roundw
      case rel=>exact⟨q+1,by go_num,by omega,yu.out,trivial⟩
      case measure=>(simp[intOf];omega)
    ·obtain rfl:q=k:=by omega
     (go_wp2_with fail;go_ret;exact⟨rfl,vu.out⟩)))
 ·by_cases c8:0<n
  ·have Mg:(0:Int)<(n:Int):=by omega
   (
   have yv:mr=1:=(by rw[vy,if_pos (.inl ⟨by decide,c8⟩)]);rw[yv];clear vy yv
   (
   go_enter Tryz.func41,Tryz.ntmps41;go_upto_region 1 with(fail);rw[<-vR.out];go_upto_region 6 with(first
   |(go_at_call 42;refine(Ay.out _).mono ?_;rintro e w1 ⟨A1,vn,rfl,wO,vl⟩;have vr:=(vl.block _ xd).trans HE.out;have f0:w1.cell? ⟨w.heap.size,0,none⟩=some (.string path):=aa vr 0;have f1:=aa vr 1;have f5:w1.cell? ⟨w.heap.size,5,none⟩=some (.slice A _ c):=aa vr 5;have xn:w.heap.size<w1.heap.size:=(uJ vr).1;have f6:w1.cell? ⟨w.heap.size,6,none⟩=some (.string lk):=aa vr 6;have vF:=uK wO;have vu:=uK (vp.trans (vl.mono vp.size));have vz:=vu.out.size;clear wO vl vr)
   |(go_at_call 83;refine(Ax.out _).mono ?_;rintro e w2 ⟨rfl,rfl⟩)
   |fail)
   go_wp2_with fail;go_loopw [6] (fun i wr=> ∃q:Nat,i= .int .i64 (q:Int)/\q<=k/\eE L q/\w1=wr) (fun i _ =>k-(intOf i).toNat)
   case atStart=>exact⟨0,rfl,vg _,(fun j y hj=>by omega),rfl⟩
   case round=>
    obtain⟨q,rfl,hq,vL,rfl⟩:=hrel;have zJ:=uK vL;clear vL;by_cases vq:q<k
    ·obtain⟨y,hy⟩: ∃y,L[q]? =some y:=⟨_,uQ (by rw[<-HK.out];exact vq)⟩;rcases vF.out.form with⟨_,h2,_⟩|⟨g,yA,_,yc,CO⟩
     ·rw[h2]at hy;simp at hy
     subst yA;have vG:=vF.out.elem hy;have ES:q<vn:=(by have:=HK.out;omega);by_cases e:y=⟨#[46,46]⟩
     ·have Ei:=uK (show L[q]? =some ⟨#[46,46]⟩from e▸hy);subst e;clear hy;exact(bX EE.out.symm Ei.out).elim
     ·have b1:(y.toList==[46,46])=false:=aU e;have yu:=uK (show eE L (q+1)from fun j z hj hz=>by
       by_cases ej:j=q
       ·subst ej;rw[hy]at hz;injection hz with hz;exact hz▸e
       ·exact zJ.out j z (by omega) hz)
      clear e hy;go_wp2_with fail;go_roundw
      case rel=>exact⟨q+1,by go_num,by omega,yu.out,trivial⟩
      case measure=>(simp[intOf];omega)
    ·obtain rfl:q=k:=by omega
     (go_wp2_with fail;go_ret;exact⟨rfl,vu.out⟩)))
  obtain rfl:n=0:=(by omega);have n3: ¬(((3:Int)≠1/\0<0)\/((3:Int)≠3/\lk.size≠0)):=(by omega);rw[if_neg n3]at vy;clear n3;by_cases c9:ct=0
  rotate_left
  ·have hct9:(ct != 0)=true:=by rw[bne_iff_ne];exact c9
   (
   have yv:mr=1:=(by rw[vy,if_pos ⟨rfl,c9⟩]);rw[yv];clear vy yv
   (
   go_enter Tryz.func41,Tryz.ntmps41;go_upto_region 1 with(fail);rw[<-vR.out];go_upto_region 6 with(first
   |(go_at_call 42;refine(Ay.out _).mono ?_;rintro e w1 ⟨A1,vn,rfl,wO,vl⟩;have vr:=(vl.block _ xd).trans HE.out;have f0:w1.cell? ⟨w.heap.size,0,none⟩=some (.string path):=aa vr 0;have f1:=aa vr 1;have f5:w1.cell? ⟨w.heap.size,5,none⟩=some (.slice A _ c):=aa vr 5;have xn:w.heap.size<w1.heap.size:=(uJ vr).1;have f6:w1.cell? ⟨w.heap.size,6,none⟩=some (.string lk):=aa vr 6;have vF:=uK wO;have vu:=uK (vp.trans (vl.mono vp.size));have vz:=vu.out.size;clear wO vl vr)
   |(go_at_call 83;refine(Ax.out _).mono ?_;rintro e w2 ⟨rfl,rfl⟩)
   |fail)
   go_wp2_with fail;go_loopw [6] (fun i wr=> ∃q:Nat,i= .int .i64 (q:Int)/\q<=k/\eE L q/\w1=wr) (fun i _ =>k-(intOf i).toNat)
   case atStart=>exact⟨0,rfl,vg _,(fun j y hj=>by omega),rfl⟩
   case round=>
    obtain⟨q,rfl,hq,vL,rfl⟩:=hrel;have zJ:=uK vL;clear vL;by_cases vq:q<k
    ·obtain⟨y,hy⟩: ∃y,L[q]? =some y:=⟨_,uQ (by rw[<-HK.out];exact vq)⟩;rcases vF.out.form with⟨_,h2,_⟩|⟨g,yA,_,yc,CO⟩
     ·rw[h2]at hy;simp at hy
     subst yA;have vG:=vF.out.elem hy;have ES:q<vn:=(by have:=HK.out;omega);by_cases e:y=⟨#[46,46]⟩
     ·have Ei:=uK (show L[q]? =some ⟨#[46,46]⟩from e▸hy);subst e;clear hy;exact(bX EE.out.symm Ei.out).elim
     ·have b1:(y.toList==[46,46])=false:=aU e;have yu:=uK (show eE L (q+1)from fun j z hj hz=>by
       by_cases ej:j=q
       ·subst ej;rw[hy]at hz;injection hz with hz;exact hz▸e
       ·exact zJ.out j z (by omega) hz)
      clear e hy;go_wp2_with fail;go_roundw
      case rel=>exact⟨q+1,by go_num,by omega,yu.out,trivial⟩
      case measure=>(simp[intOf];omega)
    ·obtain rfl:q=k:=by omega
     (go_wp2_with (first|(go_at_call 84;refine(En.out _).mono ?_;rintro e w4 ⟨rfl,vN⟩;have g5:=(vN.cell (p:=⟨w.heap.size,5,none⟩) xn).trans f5)|fail);go_ret;exact⟨rfl,vu.out.trans (vN.mono vz)⟩)))
  subst c9;rw[if_neg (by omega)]at vy
  (
   have yv:mr=0:=(by rw[vy,if_neg (by omega)]);rw[yv];clear vy yv
   (
   go_enter Tryz.func41,Tryz.ntmps41;go_upto_region 1 with(fail);rw[<-vR.out];go_upto_region 6 with(first
   |(go_at_call 42;refine(Ay.out _).mono ?_;rintro e w1 ⟨A1,vn,rfl,wO,vl⟩;have vr:=(vl.block _ xd).trans HE.out;have f0:w1.cell? ⟨w.heap.size,0,none⟩=some (.string path):=aa vr 0;have f1:=aa vr 1;have f5:w1.cell? ⟨w.heap.size,5,none⟩=some (.slice A _ c):=aa vr 5;have xn:w.heap.size<w1.heap.size:=(uJ vr).1;have f6:w1.cell? ⟨w.heap.size,6,none⟩=some (.string lk):=aa vr 6;have vF:=uK wO;have vu:=uK (vp.trans (vl.mono vp.size));have vz:=vu.out.size;clear wO vl vr)
   |(go_at_call 83;refine(Ax.out _).mono ?_;rintro e w2 ⟨rfl,rfl⟩)
   |fail)
   go_wp2_with fail;go_loopw [6] (fun i wr=> ∃q:Nat,i= .int .i64 (q:Int)/\q<=k/\eE L q/\w1=wr) (fun i _ =>k-(intOf i).toNat)
   case atStart=>exact⟨0,rfl,vg _,(fun j y hj=>by omega),rfl⟩
   case round=>
    obtain⟨q,rfl,hq,vL,rfl⟩:=hrel;have zJ:=uK vL;clear vL;by_cases vq:q<k
    ·obtain⟨y,hy⟩: ∃y,L[q]? =some y:=⟨_,uQ (by rw[<-HK.out];exact vq)⟩;rcases vF.out.form with⟨_,h2,_⟩|⟨g,yA,_,yc,CO⟩
     ·rw[h2]at hy;simp at hy
     subst yA;have vG:=vF.out.elem hy;have ES:q<vn:=(by have:=HK.out;omega);by_cases e:y=⟨#[46,46]⟩
     ·have Ei:=uK (show L[q]? =some ⟨#[46,46]⟩from e▸hy);subst e;clear hy;exact(bX EE.out.symm Ei.out).elim
     ·have b1:(y.toList==[46,46])=false:=aU e;have yu:=uK (show eE L (q+1)from fun j z hj hz=>by
       by_cases ej:j=q
       ·subst ej;rw[hy]at hz;injection hz with hz;exact hz▸e
       ·exact zJ.out j z (by omega) hz)
      clear e hy;go_wp2_with fail;go_roundw
      case rel=>exact⟨q+1,by go_num,by omega,yu.out,trivial⟩
      case measure=>(simp[intOf];omega)
    ·obtain rfl:q=k:=by omega
     (go_wp2_with (first|(go_at_call 84;refine(En.out _).mono ?_;rintro e w4 ⟨rfl,vN⟩;have g5:=(vN.cell (p:=⟨w.heap.size,5,none⟩) xn).trans f5)|fail);go_ret;exact⟨rfl,vu.out.trans (vN.mono vz)⟩)))
end
