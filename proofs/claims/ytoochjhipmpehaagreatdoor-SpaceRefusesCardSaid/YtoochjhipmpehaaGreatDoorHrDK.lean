/- The document's files: what an entry by itself may not be; -/
import Derived.Test.YtoochjhipmpehaaGreatDoorHrCK
set_option linter.unusedVariables false
set_option linter.unusedSimpArgs false
set_option maxRecDepth 100000
set_option maxHeartbeats 8000000
namespace Go.Proofs.YtoochjhipmpehaaGreatDoor
section
open Go.RowKit Go.Sort
variable {L:List ByteArray} {q:Nat}
theorem dots_yes (h:L[q]? =some ⟨#[46,46]⟩):dots L=true:=by
 unfold dots;exact List.any_eq_true.2 ⟨_,uS h,rfl⟩
theorem dots_no (h: ∀j y,j<L.length->L[j]? =some y->y≠⟨#[46,46]⟩):dots L=false:=by
 unfold dots;rw[List.any_eq_false];intro x hx;obtain⟨j,hj,e⟩:=List.mem_iff_getElem.1 hx;have h1:=h j x hj (by rw[uN hj,e]);intro e2;apply h1;cases x with
 |mk d=>exact congrArg ByteArray.mk (eq_of_beq e2)
theorem aO {y:ByteArray} (h:y≠⟨#[46,46]⟩):(y.toList==[46,46])=false:=by
 have h1:=sf h;rw[ByteArray.toList_eq (ByteArray.mk #[46,46])]at h1;exact h1
def ei (L:List ByteArray) (q:Nat):Prop:= ∀j y,j<q->L[j]? =some y->y≠⟨#[46,46]⟩
theorem bQ (h:dots L=false) (hq:L[q]? =some ⟨#[46,46]⟩):False:=by
 rw[dots_yes hq]at h;cases h
theorem sZ {m:Nat} (h:m<65536):(bits .and .u16 (m:Int) 2559 != (m:Int))=di m:=by
 rw[show((2559:Int))=((2559:Nat):Int)from rfl,u16_and_nat m 2559 h (by omega)];cases hc:di m with
 |false=>
  have:=(pO h).2 hc;rw[this];simp
 |true=>
  rw[bne_iff_ne];intro e;have e2:m&&&2559=m:=(by omega);rw[(pO h).1 e2]at hc;cases hc
theorem rmay_any (x:Ent) (A:Option Addr) (c:Nat) (w:World) (hp:x.path.size<=1000000000) (ht:x.to.size<=1000000000) (hn:x.n<=9223372036854775807) (hm:x.mode<65536):
  Calls Tryz.prog 41 #[x.val A c] w fun e w'=>e= .returned (.int .i64 (may x))/\Below w.heap.size w w':=by
 obtain⟨path,kind,mode,uid,gid,n,dat,lk⟩:=x;simp only at hp ht hn hm;obtain⟨K,PJ⟩: ∃K:Int,K=(kind:Int):=⟨_,rfl⟩;have Wt:0<=K:=(by omega);obtain⟨w0,vl⟩: ∃w0,w0=w.alloc (.cells #[.string path, .int .u8 K, .int .u16 (mode:Int), .int .u32 (uid:Int), .int .u32 (gid:Int), .slice A n c, .string lk] 93):=⟨_,rfl⟩;have vm:Below w.heap.size w w0:=(by rw[vl];exact uJ);have hE:w0.heap[w.heap.size]? =some (.cells #[.string path, .int .u8 K, .int .u16 (mode:Int), .int .u32 (uid:Int), .int .u32 (gid:Int), .slice A n c, .string lk] 93 (0,0)):=(by rw[vl];exact ab w _);have wF:w.heap.size<w0.heap.size:=(uG hE).1;have d0:w0.cell? ⟨w.heap.size,0,none⟩=some (.string path):=aa hE 0;have d1:w0.cell? ⟨w.heap.size,1,none⟩=some (.int .u8 K):=aa hE 1;have d2:w0.cell? ⟨w.heap.size,2,none⟩=some (.int .u16 (mode:Int)):=aa hE 2;have HE:=uH hE;have vF:=uH vl;clear hE vl;unfold Ent.val;simp only;rw[<-PJ];obtain⟨mb,DI⟩: ∃mb,mb=di mode:=⟨_,rfl⟩;have Ca:=sZ hm;rw[<-DI]at Ca;obtain⟨ct,LC⟩: ∃ct,ct=chk lk:=⟨_,rfl⟩;have zz:=fun W=>lw lk W ht;rw[<-LC]at zz;have DC:=uH zz;by_cases hc:chk path=0
 rotate_left
 ·obtain⟨mr,Gf⟩: ∃mr,mr=may ⟨path,kind,mode,uid,gid,n,dat,lk⟩:=⟨_,rfl⟩;have vt:mr=1:=by
   rw[Gf];unfold may;simp only;split
   ·rfl
   ·rw[if_pos (.inl hc)]
  rw[<-Gf,vt];have UZ:=uH (fun W=>qD path W hp hc);have vu:(chk path != 0)=true:=(by rw[bne_iff_ne];exact hc);obtain⟨r,hr⟩: ∃r,r=chk path:=⟨_,rfl⟩;rw[<-hr]at vu UZ;clear Gf vt hc hr PJ LC zz DI;by_cases hk:K=1\/K=2\/K=3
  ·rcases(by cases mb<;>simp:mb=true\/mb=false)with rfl|rfl
   all_goals
    rcases hk with rfl|rfl|rfl
    all_goals
     go_enter Tryz.func41,Tryz.ntmps41;go_upto_region 1 with(fail);rw[<-vF.out];go_wp2_with (first
      |(go_at_call 42;refine(UZ.out _).mono ?_;rintro e w1 ⟨rfl,vk⟩;have vq:=uH (vm.trans (vk.mono vm.size));clear vk)
      |fail)
     go_ret
     first
      |exact⟨rfl,vm⟩
      |exact⟨rfl,vq.out⟩
  ·have k1:(K != 1)=true:=(by rw[bne_iff_ne];omega);have k2:(K != 2)=true:=(by rw[bne_iff_ne];omega);have k3:(K != 3)=true:=(by rw[bne_iff_ne];omega);clear hk;go_enter Tryz.func41,Tryz.ntmps41;go_upto_region 1 with(fail);rw[<-vF.out];go_wp2_with fail;go_ret;exact⟨rfl,vm⟩
 have CE:=cW hc;have Sq:path.size<=200:=CE.2.1;obtain⟨L,hL⟩: ∃L,L=aq path:=⟨_,rfl⟩;obtain⟨k,hk⟩: ∃k,k=L.length:=⟨_,rfl⟩;have hkf:k<=201:=(by rw[hk,hL];have:=bc path;omega);obtain⟨pb,hpb⟩: ∃pb,pb=Lib.hasPrefix path.data.toList [47]:=⟨_,rfl⟩;obtain⟨tb,MA⟩: ∃tb,tb=Lib.hasSuffix path.data.toList [47]:=⟨_,rfl⟩;obtain⟨db,zE⟩: ∃db,db=dots L:=⟨_,rfl⟩;have EP:=fun W=>mN path W hc;unfold ce at EP;rw[<-hL,<-hpb,<-hk]at EP;have On:=fun W=>sy path W (by omega);rw[<-MA]at On;obtain⟨mr,Gf⟩: ∃mr,mr=may ⟨path,kind,mode,uid,gid,n,dat,lk⟩:=⟨_,rfl⟩;rw[<-Gf];have vt:mr=if K<1\/3<K\/mb=true then 1 else if pb=false\/k=0\/tb=true\/db=true then 1
   else if(K≠1/\0<n)\/(K≠3/\lk.size≠0)then 1 else if K=3/\ct≠0 then 1 else if 65536<n then 12 else 0:=by
  have i1:(K<1)=(kind<1):=(by apply propext;omega);have i2:(3<K)=(3<kind):=(by apply propext;omega);have i3:(K=1)=(kind=1):=(by apply propext;omega);have i4:(K=3)=(kind=3):=(by apply propext;omega);rw[Gf,hpb,hk,MA,zE,LC,hL,DI];simp only[i1,i2,i3,i4,ne_eq];unfold may;simp only[hc,ne_eq,not_true_eq_false,false_or,List.length_eq_zero_iff]
 have zI:=uH EP;have zH:=uH On;have HK:=uH hk;have DR:=uH zE;clear EP On zz zE hpb MA LC Gf hk hL hc CE PJ DI;by_cases xk:K=1\/K=2\/K=3
 rotate_left
 ·have k1:(K != 1)=true:=(by rw[bne_iff_ne];omega);have k2:(K != 2)=true:=(by rw[bne_iff_ne];omega);have k3:(K != 3)=true:=(by rw[bne_iff_ne];omega);have GY:K<1\/3<K\/mb=true:=(by omega);clear xk
  (
   have xL:mr=1:=(by rw[vt,if_pos GY]);rw[xL];clear vt xL;go_enter Tryz.func41,Tryz.ntmps41;go_upto_region 1 with(fail);rw[<-vF.out];go_wp2_with fail;go_ret;exact⟨rfl,vm⟩)
 rcases(by cases mb<;>simp:mb=true\/mb=false)with rfl|rfl
 ·rcases xk with rfl|rfl|rfl
  all_goals(
   have xL:mr=1:=(by rw[vt,if_pos (.inr (.inr rfl))]);rw[xL];clear vt xL;go_enter Tryz.func41,Tryz.ntmps41;go_upto_region 1 with(fail);rw[<-vF.out];go_wp2_with fail;go_ret;exact⟨rfl,vm⟩)
 have n1: ¬(K<1\/3<K\/false=true):=(by simp;omega);rw[if_neg n1]at vt;clear n1;rcases(by cases pb<;>simp:pb=false\/pb=true)with rfl|rfl
 ·rcases xk with rfl|rfl|rfl
  all_goals(
   have xL:mr=1:=(by rw[vt,if_pos (.inl rfl)]);rw[xL];clear vt xL;go_enter Tryz.func41,Tryz.ntmps41;go_upto_region 1 with(fail);rw[<-vF.out];go_wp2_with (first
   |(go_at_call 42;refine(zI.out _).mono ?_;rintro e w1 ⟨A1,vj,rfl,wo,vk⟩;have vn:=(vk.block _ wF).trans HE.out;have f0:w1.cell? ⟨w.heap.size,0,none⟩=some (.string path):=aa vn 0;have f1:=aa vn 1;have f5:w1.cell? ⟨w.heap.size,5,none⟩=some (.slice A _ c):=aa vn 5;have wM:w.heap.size<w1.heap.size:=(uG vn).1;have f6:w1.cell? ⟨w.heap.size,6,none⟩=some (.string lk):=aa vn 6;have vx:=uH wo;have vq:=uH (vm.trans (vk.mono vm.size));have vI:=vq.out.size;clear wo vk vn)
   |(go_at_call 83;refine(zH.out _).mono ?_;rintro e w2 ⟨rfl,rfl⟩)
   |fail)
   go_ret;exact⟨rfl,vq.out⟩)
 by_cases c5:k=0
 ·subst c5;rcases xk with rfl|rfl|rfl
  all_goals(
   have xL:mr=1:=(by rw[vt,if_pos (.inr (.inl rfl))]);rw[xL];clear vt xL;go_enter Tryz.func41,Tryz.ntmps41;go_upto_region 1 with(fail);rw[<-vF.out];go_wp2_with (first
   |(go_at_call 42;refine(zI.out _).mono ?_;rintro e w1 ⟨A1,vj,rfl,wo,vk⟩;have vn:=(vk.block _ wF).trans HE.out;have f0:w1.cell? ⟨w.heap.size,0,none⟩=some (.string path):=aa vn 0;have f1:=aa vn 1;have f5:w1.cell? ⟨w.heap.size,5,none⟩=some (.slice A _ c):=aa vn 5;have wM:w.heap.size<w1.heap.size:=(uG vn).1;have f6:w1.cell? ⟨w.heap.size,6,none⟩=some (.string lk):=aa vn 6;have vx:=uH wo;have vq:=uH (vm.trans (vk.mono vm.size));have vI:=vq.out.size;clear wo vk vn)
   |(go_at_call 83;refine(zH.out _).mono ?_;rintro e w2 ⟨rfl,rfl⟩)
   |fail)
   go_ret;exact⟨rfl,vq.out⟩)
 have yn: ¬(k:Int)=0:=(by omega);rcases(by cases tb<;>simp:tb=true\/tb=false)with rfl|rfl
 ·rcases xk with rfl|rfl|rfl
  all_goals(
   have xL:mr=1:=(by rw[vt,if_pos (.inr (.inr (.inl rfl)))]);rw[xL];clear vt xL;go_enter Tryz.func41,Tryz.ntmps41;go_upto_region 1 with(fail);rw[<-vF.out];go_wp2_with (first
   |(go_at_call 42;refine(zI.out _).mono ?_;rintro e w1 ⟨A1,vj,rfl,wo,vk⟩;have vn:=(vk.block _ wF).trans HE.out;have f0:w1.cell? ⟨w.heap.size,0,none⟩=some (.string path):=aa vn 0;have f1:=aa vn 1;have f5:w1.cell? ⟨w.heap.size,5,none⟩=some (.slice A _ c):=aa vn 5;have wM:w.heap.size<w1.heap.size:=(uG vn).1;have f6:w1.cell? ⟨w.heap.size,6,none⟩=some (.string lk):=aa vn 6;have vx:=uH wo;have vq:=uH (vm.trans (vk.mono vm.size));have vI:=vq.out.size;clear wo vk vn)
   |(go_at_call 83;refine(zH.out _).mono ?_;rintro e w2 ⟨rfl,rfl⟩)
   |fail)
   go_ret;exact⟨rfl,vq.out⟩)
 rcases(by cases db<;>simp:db=true\/db=false)with rfl|rfl
 ·have xL:mr=1:=(by rw[vt,if_pos (.inr (.inr (.inr rfl)))]);rw[xL];clear vt xL;rcases xk with rfl|rfl|rfl
  all_goals
   (
   go_enter Tryz.func41,Tryz.ntmps41;go_upto_region 1 with(fail);rw[<-vF.out];go_upto_region 6 with(first
   |(go_at_call 42;refine(zI.out _).mono ?_;rintro e w1 ⟨A1,vj,rfl,wo,vk⟩;have vn:=(vk.block _ wF).trans HE.out;have f0:w1.cell? ⟨w.heap.size,0,none⟩=some (.string path):=aa vn 0;have f1:=aa vn 1;have f5:w1.cell? ⟨w.heap.size,5,none⟩=some (.slice A _ c):=aa vn 5;have wM:w.heap.size<w1.heap.size:=(uG vn).1;have f6:w1.cell? ⟨w.heap.size,6,none⟩=some (.string lk):=aa vn 6;have vx:=uH wo;have vq:=uH (vm.trans (vk.mono vm.size));have vI:=vq.out.size;clear wo vk vn)
   |(go_at_call 83;refine(zH.out _).mono ?_;rintro e w2 ⟨rfl,rfl⟩)
   |fail)
   go_wp2_with fail;go_loopw [6] (fun i wr=> ∃q:Nat,i= .int .i64 (q:Int)/\q<=k/\ei L q/\w1=wr) (fun i _ =>k-(intOf i).toNat)
   case atStart=>exact⟨0,rfl,vd _,(fun j y hj=>by omega),rfl⟩
   case round=>
    obtain⟨q,rfl,hq,vE,rfl⟩:=hrel;have yT:=uH vE;clear vE;by_cases vo:q<k
    ·obtain⟨y,hy⟩: ∃y,L[q]? =some y:=⟨_,uN (by rw[<-HK.out];exact vo)⟩;rcases vx.out.form with⟨_,h2,_⟩|⟨g,xH,_,xu,Cd⟩
     ·rw[h2]at hy;simp at hy
     subst xH;have vz:=vx.out.elem hy;have Ef:q<vj:=(by have:=HK.out;omega);by_cases e:y=⟨#[46,46]⟩
     ·have Du:=uH (show L[q]? =some ⟨#[46,46]⟩from e▸hy);subst e;clear hy
      (go_wp2_with fail;go_ret;exact⟨rfl,vq.out⟩)
     ·have b1:(y.toList==[46,46])=false:=aO e;have xK:=uH (show ei L (q+1)from fun j z hj hz=>by
       by_cases ej:j=q
       ·subst ej;rw[hy]at hz;injection hz with hz;exact hz▸e
       ·exact yT.out j z (by omega) hz)
      clear e hy;go_wp2_with fail;go_roundw
      case rel=>exact⟨q+1,by go_num,by omega,xK.out,trivial⟩
      case measure=>(simp[intOf];omega)
    ·obtain rfl:q=k:=(by omega);exact absurd (dots_no (fun j y hj hy=>yT.out j y (by rw[HK.out];exact hj) hy)) (by rw[<-DR.out];decide))
 have n2: ¬(true=false\/k=0\/false=true\/false=true):=(by simp;omega);rw[if_neg n2]at vt;clear n2;rcases xk with rfl|rfl|rfl
 ·by_cases c8:lk.size=0
  rotate_left
  ·have t0:=le c8
   (
   have xL:mr=1:=(by rw[vt,if_pos (.inr ⟨by decide,c8⟩)]);rw[xL];clear vt xL
   (
   go_enter Tryz.func41,Tryz.ntmps41;go_upto_region 1 with(fail);rw[<-vF.out];go_upto_region 6 with(first
   |(go_at_call 42;refine(zI.out _).mono ?_;rintro e w1 ⟨A1,vj,rfl,wo,vk⟩;have vn:=(vk.block _ wF).trans HE.out;have f0:w1.cell? ⟨w.heap.size,0,none⟩=some (.string path):=aa vn 0;have f1:=aa vn 1;have f5:w1.cell? ⟨w.heap.size,5,none⟩=some (.slice A _ c):=aa vn 5;have wM:w.heap.size<w1.heap.size:=(uG vn).1;have f6:w1.cell? ⟨w.heap.size,6,none⟩=some (.string lk):=aa vn 6;have vx:=uH wo;have vq:=uH (vm.trans (vk.mono vm.size));have vI:=vq.out.size;clear wo vk vn)
   |(go_at_call 83;refine(zH.out _).mono ?_;rintro e w2 ⟨rfl,rfl⟩)
   |fail)
   go_wp2_with fail;go_loopw [6] (fun i wr=> ∃q:Nat,i= .int .i64 (q:Int)/\q<=k/\ei L q/\w1=wr) (fun i _ =>k-(intOf i).toNat)
   case atStart=>exact⟨0,rfl,vd _,(fun j y hj=>by omega),rfl⟩
   case round=>
    obtain⟨q,rfl,hq,vE,rfl⟩:=hrel;have yT:=uH vE;clear vE;by_cases vo:q<k
    ·obtain⟨y,hy⟩: ∃y,L[q]? =some y:=⟨_,uN (by rw[<-HK.out];exact vo)⟩;rcases vx.out.form with⟨_,h2,_⟩|⟨g,xH,_,xu,Cd⟩
     ·rw[h2]at hy;simp at hy
     subst xH;have vz:=vx.out.elem hy;have Ef:q<vj:=(by have:=HK.out;omega);by_cases e:y=⟨#[46,46]⟩
     ·have Du:=uH (show L[q]? =some ⟨#[46,46]⟩from e▸hy);subst e;clear hy;exact(bQ DR.out.symm Du.out).elim
     ·have b1:(y.toList==[46,46])=false:=aO e;have xK:=uH (show ei L (q+1)from fun j z hj hz=>by
       by_cases ej:j=q
       ·subst ej;rw[hy]at hz;injection hz with hz;exact hz▸e
       ·exact yT.out j z (by omega) hz)
      clear e hy;go_wp2_with fail;go_roundw
      case rel=>exact⟨q+1,by go_num,by omega,xK.out,trivial⟩
      case measure=>(simp[intOf];omega)
    ·obtain rfl:q=k:=by omega
     (go_wp2_with fail;go_ret;exact⟨rfl,vq.out⟩)))
  have t0:=iS c8;have n3: ¬(((1:Int)≠1/\0<n)\/((1:Int)≠3/\lk.size≠0)):=(by omega);rw[if_neg n3,if_neg (by omega)]at vt;clear n3;by_cases c9:65536<n
  ·have Lp:(65536:Int)<(n:Int):=by omega
   (
   have xL:mr=12:=(by rw[vt,if_pos c9]);rw[xL];clear vt xL
   (
   go_enter Tryz.func41,Tryz.ntmps41;go_upto_region 1 with(fail);rw[<-vF.out];go_upto_region 6 with(first
   |(go_at_call 42;refine(zI.out _).mono ?_;rintro e w1 ⟨A1,vj,rfl,wo,vk⟩;have vn:=(vk.block _ wF).trans HE.out;have f0:w1.cell? ⟨w.heap.size,0,none⟩=some (.string path):=aa vn 0;have f1:=aa vn 1;have f5:w1.cell? ⟨w.heap.size,5,none⟩=some (.slice A _ c):=aa vn 5;have wM:w.heap.size<w1.heap.size:=(uG vn).1;have f6:w1.cell? ⟨w.heap.size,6,none⟩=some (.string lk):=aa vn 6;have vx:=uH wo;have vq:=uH (vm.trans (vk.mono vm.size));have vI:=vq.out.size;clear wo vk vn)
   |(go_at_call 83;refine(zH.out _).mono ?_;rintro e w2 ⟨rfl,rfl⟩)
   |fail)
   go_wp2_with fail;go_loopw [6] (fun i wr=> ∃q:Nat,i= .int .i64 (q:Int)/\q<=k/\ei L q/\w1=wr) (fun i _ =>k-(intOf i).toNat)
   case atStart=>exact⟨0,rfl,vd _,(fun j y hj=>by omega),rfl⟩
   case round=>
    obtain⟨q,rfl,hq,vE,rfl⟩:=hrel;have yT:=uH vE;clear vE;by_cases vo:q<k
    ·obtain⟨y,hy⟩: ∃y,L[q]? =some y:=⟨_,uN (by rw[<-HK.out];exact vo)⟩;rcases vx.out.form with⟨_,h2,_⟩|⟨g,xH,_,xu,Cd⟩
     ·rw[h2]at hy;simp at hy
     subst xH;have vz:=vx.out.elem hy;have Ef:q<vj:=(by have:=HK.out;omega);by_cases e:y=⟨#[46,46]⟩
     ·have Du:=uH (show L[q]? =some ⟨#[46,46]⟩from e▸hy);subst e;clear hy;exact(bQ DR.out.symm Du.out).elim
     ·have b1:(y.toList==[46,46])=false:=aO e;have xK:=uH (show ei L (q+1)from fun j z hj hz=>by
       by_cases ej:j=q
       ·subst ej;rw[hy]at hz;injection hz with hz;exact hz▸e
       ·exact yT.out j z (by omega) hz)
      clear e hy;go_wp2_with fail;go_roundw
      case rel=>exact⟨q+1,by go_num,by omega,xK.out,trivial⟩
      case measure=>(simp[intOf];omega)
    ·obtain rfl:q=k:=by omega
     (go_wp2_with fail;go_ret;exact⟨rfl,vq.out⟩)))
  ·have Lp: ¬(65536:Int)<(n:Int):=by omega
   (
   have xL:mr=0:=(by rw[vt,if_neg c9]);rw[xL];clear vt xL
   (
   go_enter Tryz.func41,Tryz.ntmps41;go_upto_region 1 with(fail);rw[<-vF.out];go_upto_region 6 with(first
   |(go_at_call 42;refine(zI.out _).mono ?_;rintro e w1 ⟨A1,vj,rfl,wo,vk⟩;have vn:=(vk.block _ wF).trans HE.out;have f0:w1.cell? ⟨w.heap.size,0,none⟩=some (.string path):=aa vn 0;have f1:=aa vn 1;have f5:w1.cell? ⟨w.heap.size,5,none⟩=some (.slice A _ c):=aa vn 5;have wM:w.heap.size<w1.heap.size:=(uG vn).1;have f6:w1.cell? ⟨w.heap.size,6,none⟩=some (.string lk):=aa vn 6;have vx:=uH wo;have vq:=uH (vm.trans (vk.mono vm.size));have vI:=vq.out.size;clear wo vk vn)
   |(go_at_call 83;refine(zH.out _).mono ?_;rintro e w2 ⟨rfl,rfl⟩)
   |fail)
   go_wp2_with fail;go_loopw [6] (fun i wr=> ∃q:Nat,i= .int .i64 (q:Int)/\q<=k/\ei L q/\w1=wr) (fun i _ =>k-(intOf i).toNat)
   case atStart=>exact⟨0,rfl,vd _,(fun j y hj=>by omega),rfl⟩
   case round=>
    obtain⟨q,rfl,hq,vE,rfl⟩:=hrel;have yT:=uH vE;clear vE;by_cases vo:q<k
    ·obtain⟨y,hy⟩: ∃y,L[q]? =some y:=⟨_,uN (by rw[<-HK.out];exact vo)⟩;rcases vx.out.form with⟨_,h2,_⟩|⟨g,xH,_,xu,Cd⟩
     ·rw[h2]at hy;simp at hy
     subst xH;have vz:=vx.out.elem hy;have Ef:q<vj:=(by have:=HK.out;omega);by_cases e:y=⟨#[46,46]⟩
     ·have Du:=uH (show L[q]? =some ⟨#[46,46]⟩from e▸hy);subst e;clear hy;exact(bQ DR.out.symm Du.out).elim
     ·have b1:(y.toList==[46,46])=false:=aO e;have xK:=uH (show ei L (q+1)from fun j z hj hz=>by
       by_cases ej:j=q
       ·subst ej;rw[hy]at hz;injection hz with hz;exact hz▸e
       ·exact yT.out j z (by omega) hz)
      clear e hy;go_wp2_with fail;go_roundw
      case rel=>exact⟨q+1,by go_num,by omega,xK.out,trivial⟩
      case measure=>(simp[intOf];omega)
    ·obtain rfl:q=k:=by omega
     (go_wp2_with fail;go_ret;exact⟨rfl,vq.out⟩)))
 ·by_cases c8:0<n
  ·have Lp:(0:Int)<(n:Int):=by omega
   (
   have xL:mr=1:=(by rw[vt,if_pos (.inl ⟨by decide,c8⟩)]);rw[xL];clear vt xL
   (
   go_enter Tryz.func41,Tryz.ntmps41;go_upto_region 1 with(fail);rw[<-vF.out];go_upto_region 6 with(first
   |(go_at_call 42;refine(zI.out _).mono ?_;rintro e w1 ⟨A1,vj,rfl,wo,vk⟩;have vn:=(vk.block _ wF).trans HE.out;have f0:w1.cell? ⟨w.heap.size,0,none⟩=some (.string path):=aa vn 0;have f1:=aa vn 1;have f5:w1.cell? ⟨w.heap.size,5,none⟩=some (.slice A _ c):=aa vn 5;have wM:w.heap.size<w1.heap.size:=(uG vn).1;have f6:w1.cell? ⟨w.heap.size,6,none⟩=some (.string lk):=aa vn 6;have vx:=uH wo;have vq:=uH (vm.trans (vk.mono vm.size));have vI:=vq.out.size;clear wo vk vn)
   |(go_at_call 83;refine(zH.out _).mono ?_;rintro e w2 ⟨rfl,rfl⟩)
   |fail)
   go_wp2_with fail;go_loopw [6] (fun i wr=> ∃q:Nat,i= .int .i64 (q:Int)/\q<=k/\ei L q/\w1=wr) (fun i _ =>k-(intOf i).toNat)
   case atStart=>exact⟨0,rfl,vd _,(fun j y hj=>by omega),rfl⟩
   case round=>
    obtain⟨q,rfl,hq,vE,rfl⟩:=hrel;have yT:=uH vE;clear vE;by_cases vo:q<k
    ·obtain⟨y,hy⟩: ∃y,L[q]? =some y:=⟨_,uN (by rw[<-HK.out];exact vo)⟩;rcases vx.out.form with⟨_,h2,_⟩|⟨g,xH,_,xu,Cd⟩
     ·rw[h2]at hy;simp at hy
     subst xH;have vz:=vx.out.elem hy;have Ef:q<vj:=(by have:=HK.out;omega);by_cases e:y=⟨#[46,46]⟩
     ·have Du:=uH (show L[q]? =some ⟨#[46,46]⟩from e▸hy);subst e;clear hy;exact(bQ DR.out.symm Du.out).elim
     ·have b1:(y.toList==[46,46])=false:=aO e;have xK:=uH (show ei L (q+1)from fun j z hj hz=>by
       by_cases ej:j=q
       ·subst ej;rw[hy]at hz;injection hz with hz;exact hz▸e
       ·exact yT.out j z (by omega) hz)
      clear e hy;go_wp2_with fail;go_roundw
      case rel=>exact⟨q+1,by go_num,by omega,xK.out,trivial⟩
      case measure=>(simp[intOf];omega)
    ·obtain rfl:q=k:=by omega
     (go_wp2_with fail;go_ret;exact⟨rfl,vq.out⟩)))
  obtain rfl:n=0:=(by omega);by_cases c9:lk.size=0
  rotate_left
  ·have t0:=le c9
   (
   have xL:mr=1:=(by rw[vt,if_pos (.inr ⟨by decide,c9⟩)]);rw[xL];clear vt xL
   (
   go_enter Tryz.func41,Tryz.ntmps41;go_upto_region 1 with(fail);rw[<-vF.out];go_upto_region 6 with(first
   |(go_at_call 42;refine(zI.out _).mono ?_;rintro e w1 ⟨A1,vj,rfl,wo,vk⟩;have vn:=(vk.block _ wF).trans HE.out;have f0:w1.cell? ⟨w.heap.size,0,none⟩=some (.string path):=aa vn 0;have f1:=aa vn 1;have f5:w1.cell? ⟨w.heap.size,5,none⟩=some (.slice A _ c):=aa vn 5;have wM:w.heap.size<w1.heap.size:=(uG vn).1;have f6:w1.cell? ⟨w.heap.size,6,none⟩=some (.string lk):=aa vn 6;have vx:=uH wo;have vq:=uH (vm.trans (vk.mono vm.size));have vI:=vq.out.size;clear wo vk vn)
   |(go_at_call 83;refine(zH.out _).mono ?_;rintro e w2 ⟨rfl,rfl⟩)
   |fail)
   go_wp2_with fail;go_loopw [6] (fun i wr=> ∃q:Nat,i= .int .i64 (q:Int)/\q<=k/\ei L q/\w1=wr) (fun i _ =>k-(intOf i).toNat)
   case atStart=>exact⟨0,rfl,vd _,(fun j y hj=>by omega),rfl⟩
   case round=>
    obtain⟨q,rfl,hq,vE,rfl⟩:=hrel;have yT:=uH vE;clear vE;by_cases vo:q<k
    ·obtain⟨y,hy⟩: ∃y,L[q]? =some y:=⟨_,uN (by rw[<-HK.out];exact vo)⟩;rcases vx.out.form with⟨_,h2,_⟩|⟨g,xH,_,xu,Cd⟩
     ·rw[h2]at hy;simp at hy
     subst xH;have vz:=vx.out.elem hy;have Ef:q<vj:=(by have:=HK.out;omega);by_cases e:y=⟨#[46,46]⟩
     ·have Du:=uH (show L[q]? =some ⟨#[46,46]⟩from e▸hy);subst e;clear hy;exact(bQ DR.out.symm Du.out).elim
     ·have b1:(y.toList==[46,46])=false:=aO e;have xK:=uH (show ei L (q+1)from fun j z hj hz=>by
       by_cases ej:j=q
       ·subst ej;rw[hy]at hz;injection hz with hz;exact hz▸e
       ·exact yT.out j z (by omega) hz)
      clear e hy;go_wp2_with fail;go_roundw
      case rel=>exact⟨q+1,by go_num,by omega,xK.out,trivial⟩
      case measure=>(simp[intOf];omega)
    ·obtain rfl:q=k:=by omega
     (go_wp2_with fail;go_ret;exact⟨rfl,vq.out⟩)))
  have t0:=iS c9;have n3: ¬(((2:Int)≠1/\0<0)\/((2:Int)≠3/\lk.size≠0)):=(by omega);rw[if_neg n3,if_neg (by omega)]at vt;clear n3
  (
   have xL:mr=0:=(by rw[vt,if_neg (by omega)]);rw[xL];clear vt xL
   (
   go_enter Tryz.func41,Tryz.ntmps41;go_upto_region 1 with(fail);rw[<-vF.out];go_upto_region 6 with(first
   |(go_at_call 42;refine(zI.out _).mono ?_;rintro e w1 ⟨A1,vj,rfl,wo,vk⟩;have vn:=(vk.block _ wF).trans HE.out;have f0:w1.cell? ⟨w.heap.size,0,none⟩=some (.string path):=aa vn 0;have f1:=aa vn 1;have f5:w1.cell? ⟨w.heap.size,5,none⟩=some (.slice A _ c):=aa vn 5;have wM:w.heap.size<w1.heap.size:=(uG vn).1;have f6:w1.cell? ⟨w.heap.size,6,none⟩=some (.string lk):=aa vn 6;have vx:=uH wo;have vq:=uH (vm.trans (vk.mono vm.size));have vI:=vq.out.size;clear wo vk vn)
   |(go_at_call 83;refine(zH.out _).mono ?_;rintro e w2 ⟨rfl,rfl⟩)
   |fail)
   go_wp2_with fail;go_loopw [6] (fun i wr=> ∃q:Nat,i= .int .i64 (q:Int)/\q<=k/\ei L q/\w1=wr) (fun i _ =>k-(intOf i).toNat)
   case atStart=>exact⟨0,rfl,vd _,(fun j y hj=>by omega),rfl⟩
   case round=>
    obtain⟨q,rfl,hq,vE,rfl⟩:=hrel;have yT:=uH vE;clear vE;by_cases vo:q<k
    ·obtain⟨y,hy⟩: ∃y,L[q]? =some y:=⟨_,uN (by rw[<-HK.out];exact vo)⟩;rcases vx.out.form with⟨_,h2,_⟩|⟨g,xH,_,xu,Cd⟩
     ·rw[h2]at hy;simp at hy
     subst xH;have vz:=vx.out.elem hy;have Ef:q<vj:=(by have:=HK.out;omega);by_cases e:y=⟨#[46,46]⟩
     ·have Du:=uH (show L[q]? =some ⟨#[46,46]⟩from e▸hy);subst e;clear hy;exact(bQ DR.out.symm Du.out).elim
     ·have b1:(y.toList==[46,46])=false:=aO e;have xK:=uH (show ei L (q+1)from fun j z hj hz=>by
       by_cases ej:j=q
       ·subst ej;rw[hy]at hz;injection hz with hz;exact hz▸e
       ·exact yT.out j z (by omega) hz)
      clear e hy;go_wp2_with fail;go_roundw
      case rel=>exact⟨q+1,by go_num,by omega,xK.out,trivial⟩
      case measure=>(simp[intOf];omega)
    ·obtain rfl:q=k:=by omega
     (go_wp2_with fail;go_ret;exact⟨rfl,vq.out⟩)))
 ·by_cases c8:0<n
  ·have Lp:(0:Int)<(n:Int):=by omega
   (
   have xL:mr=1:=(by rw[vt,if_pos (.inl ⟨by decide,c8⟩)]);rw[xL];clear vt xL
   (
   go_enter Tryz.func41,Tryz.ntmps41;go_upto_region 1 with(fail);rw[<-vF.out];go_upto_region 6 with(first
   |(go_at_call 42;refine(zI.out _).mono ?_;rintro e w1 ⟨A1,vj,rfl,wo,vk⟩;have vn:=(vk.block _ wF).trans HE.out;have f0:w1.cell? ⟨w.heap.size,0,none⟩=some (.string path):=aa vn 0;have f1:=aa vn 1;have f5:w1.cell? ⟨w.heap.size,5,none⟩=some (.slice A _ c):=aa vn 5;have wM:w.heap.size<w1.heap.size:=(uG vn).1;have f6:w1.cell? ⟨w.heap.size,6,none⟩=some (.string lk):=aa vn 6;have vx:=uH wo;have vq:=uH (vm.trans (vk.mono vm.size));have vI:=vq.out.size;clear wo vk vn)
   |(go_at_call 83;refine(zH.out _).mono ?_;rintro e w2 ⟨rfl,rfl⟩)
   |fail)
   go_wp2_with fail;go_loopw [6] (fun i wr=> ∃q:Nat,i= .int .i64 (q:Int)/\q<=k/\ei L q/\w1=wr) (fun i _ =>k-(intOf i).toNat)
   case atStart=>exact⟨0,rfl,vd _,(fun j y hj=>by omega),rfl⟩
   case round=>
    obtain⟨q,rfl,hq,vE,rfl⟩:=hrel;have yT:=uH vE;clear vE;by_cases vo:q<k
    ·obtain⟨y,hy⟩: ∃y,L[q]? =some y:=⟨_,uN (by rw[<-HK.out];exact vo)⟩;rcases vx.out.form with⟨_,h2,_⟩|⟨g,xH,_,xu,Cd⟩
     ·rw[h2]at hy;simp at hy
     subst xH;have vz:=vx.out.elem hy;have Ef:q<vj:=(by have:=HK.out;omega);by_cases e:y=⟨#[46,46]⟩
     ·have Du:=uH (show L[q]? =some ⟨#[46,46]⟩from e▸hy);subst e;clear hy;exact(bQ DR.out.symm Du.out).elim
     ·have b1:(y.toList==[46,46])=false:=aO e;have xK:=uH (show ei L (q+1)from fun j z hj hz=>by
       by_cases ej:j=q
       ·subst ej;rw[hy]at hz;injection hz with hz;exact hz▸e
       ·exact yT.out j z (by omega) hz)
      clear e hy;go_wp2_with fail;go_roundw
      case rel=>exact⟨q+1,by go_num,by omega,xK.out,trivial⟩
      case measure=>(simp[intOf];omega)
    ·obtain rfl:q=k:=by omega
     (go_wp2_with fail;go_ret;exact⟨rfl,vq.out⟩)))
  obtain rfl:n=0:=(by omega);have n3: ¬(((3:Int)≠1/\0<0)\/((3:Int)≠3/\lk.size≠0)):=(by omega);rw[if_neg n3]at vt;clear n3;by_cases c9:ct=0
  rotate_left
  ·have hct9:(ct != 0)=true:=by rw[bne_iff_ne];exact c9
   (
   have xL:mr=1:=(by rw[vt,if_pos ⟨rfl,c9⟩]);rw[xL];clear vt xL
   (
   go_enter Tryz.func41,Tryz.ntmps41;go_upto_region 1 with(fail);rw[<-vF.out];go_upto_region 6 with(first
   |(go_at_call 42;refine(zI.out _).mono ?_;rintro e w1 ⟨A1,vj,rfl,wo,vk⟩;have vn:=(vk.block _ wF).trans HE.out;have f0:w1.cell? ⟨w.heap.size,0,none⟩=some (.string path):=aa vn 0;have f1:=aa vn 1;have f5:w1.cell? ⟨w.heap.size,5,none⟩=some (.slice A _ c):=aa vn 5;have wM:w.heap.size<w1.heap.size:=(uG vn).1;have f6:w1.cell? ⟨w.heap.size,6,none⟩=some (.string lk):=aa vn 6;have vx:=uH wo;have vq:=uH (vm.trans (vk.mono vm.size));have vI:=vq.out.size;clear wo vk vn)
   |(go_at_call 83;refine(zH.out _).mono ?_;rintro e w2 ⟨rfl,rfl⟩)
   |fail)
   go_wp2_with fail;go_loopw [6] (fun i wr=> ∃q:Nat,i= .int .i64 (q:Int)/\q<=k/\ei L q/\w1=wr) (fun i _ =>k-(intOf i).toNat)
   case atStart=>exact⟨0,rfl,vd _,(fun j y hj=>by omega),rfl⟩
   case round=>
    obtain⟨q,rfl,hq,vE,rfl⟩:=hrel;have yT:=uH vE;clear vE;by_cases vo:q<k
    ·obtain⟨y,hy⟩: ∃y,L[q]? =some y:=⟨_,uN (by rw[<-HK.out];exact vo)⟩;rcases vx.out.form with⟨_,h2,_⟩|⟨g,xH,_,xu,Cd⟩
     ·rw[h2]at hy;simp at hy
     subst xH;have vz:=vx.out.elem hy;have Ef:q<vj:=(by have:=HK.out;omega);by_cases e:y=⟨#[46,46]⟩
     ·have Du:=uH (show L[q]? =some ⟨#[46,46]⟩from e▸hy);subst e;clear hy;exact(bQ DR.out.symm Du.out).elim
     ·have b1:(y.toList==[46,46])=false:=aO e;have xK:=uH (show ei L (q+1)from fun j z hj hz=>by
       by_cases ej:j=q
       ·subst ej;rw[hy]at hz;injection hz with hz;exact hz▸e
       ·exact yT.out j z (by omega) hz)
      clear e hy;go_wp2_with fail;go_roundw
      case rel=>exact⟨q+1,by go_num,by omega,xK.out,trivial⟩
      case measure=>(simp[intOf];omega)
    ·obtain rfl:q=k:=by omega
     (go_wp2_with (first|(go_at_call 84;refine(DC.out _).mono ?_;rintro e w4 ⟨rfl,vD⟩;have g5:=(vD.cell (p:=⟨w.heap.size,5,none⟩) wM).trans f5)|fail);go_ret;exact⟨rfl,vq.out.trans (vD.mono vI)⟩)))
  subst c9;rw[if_neg (by omega)]at vt
  (
   have xL:mr=0:=(by rw[vt,if_neg (by omega)]);rw[xL];clear vt xL
   (
   go_enter Tryz.func41,Tryz.ntmps41;go_upto_region 1 with(fail);rw[<-vF.out];go_upto_region 6 with(first
   |(go_at_call 42;refine(zI.out _).mono ?_;rintro e w1 ⟨A1,vj,rfl,wo,vk⟩;have vn:=(vk.block _ wF).trans HE.out;have f0:w1.cell? ⟨w.heap.size,0,none⟩=some (.string path):=aa vn 0;have f1:=aa vn 1;have f5:w1.cell? ⟨w.heap.size,5,none⟩=some (.slice A _ c):=aa vn 5;have wM:w.heap.size<w1.heap.size:=(uG vn).1;have f6:w1.cell? ⟨w.heap.size,6,none⟩=some (.string lk):=aa vn 6;have vx:=uH wo;have vq:=uH (vm.trans (vk.mono vm.size));have vI:=vq.out.size;clear wo vk vn)
   |(go_at_call 83;refine(zH.out _).mono ?_;rintro e w2 ⟨rfl,rfl⟩)
   |fail)
   go_wp2_with fail;go_loopw [6] (fun i wr=> ∃q:Nat,i= .int .i64 (q:Int)/\q<=k/\ei L q/\w1=wr) (fun i _ =>k-(intOf i).toNat)
   case atStart=>exact⟨0,rfl,vd _,(fun j y hj=>by omega),rfl⟩
   case round=>
    obtain⟨q,rfl,hq,vE,rfl⟩:=hrel;have yT:=uH vE;clear vE;by_cases vo:q<k
    ·obtain⟨y,hy⟩: ∃y,L[q]? =some y:=⟨_,uN (by rw[<-HK.out];exact vo)⟩;rcases vx.out.form with⟨_,h2,_⟩|⟨g,xH,_,xu,Cd⟩
     ·rw[h2]at hy;simp at hy
     subst xH;have vz:=vx.out.elem hy;have Ef:q<vj:=(by have:=HK.out;omega);by_cases e:y=⟨#[46,46]⟩
     ·have Du:=uH (show L[q]? =some ⟨#[46,46]⟩from e▸hy);subst e;clear hy;exact(bQ DR.out.symm Du.out).elim
     ·have b1:(y.toList==[46,46])=false:=aO e;have xK:=uH (show ei L (q+1)from fun j z hj hz=>by
       by_cases ej:j=q
       ·subst ej;rw[hy]at hz;injection hz with hz;exact hz▸e
       ·exact yT.out j z (by omega) hz)
      clear e hy;go_wp2_with fail;go_roundw
      case rel=>exact⟨q+1,by go_num,by omega,xK.out,trivial⟩
      case measure=>(simp[intOf];omega)
    ·obtain rfl:q=k:=by omega
     (go_wp2_with (first|(go_at_call 84;refine(DC.out _).mono ?_;rintro e w4 ⟨rfl,vD⟩;have g5:=(vD.cell (p:=⟨w.heap.size,5,none⟩) wM).trans f5)|fail);go_ret;exact⟨rfl,vq.out.trans (vD.mono vI)⟩)))
end
