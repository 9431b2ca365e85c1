/- The document's files, plain: a name's node by looking through all nodes; The document's paths: pieces, Check, Parts, Tail; -/
import Derived.Test.YtoochjhipmpehaaGreatDoorTvAK
import Derived.Test.YtoochjhipmpehaaGreatDoorVpYK
import Derived.Lib.IndexAny
import Derived.Lib.IndexLaws
set_option linter.unusedVariables false
set_option linter.unusedSimpArgs false
set_option maxRecDepth 100000
set_option maxHeartbeats 2000000
namespace Go.Proofs.YtoochjhipmpehaaGreatDoor
section
theorem pU {m:Nat} (h:m<65536):(m&&&2559=m)↔du m=false:=by
 have hb:du m=false↔m&&&62976=0:=by
  unfold du;rw[show((2559:Int))=((2559:Nat):Int)from rfl,u16_andNot_nat m 2559 h (by omega)];rw[bne_eq_false_iff_eq];show((m&&&62976:Nat):Int)=0↔_;omega
 rw[hb];have t: ∀i,i<16->Nat.testBit 2559 i= !Nat.testBit 62976 i:=(by decide);have big: ∀i,16<=i->Nat.testBit m i=false:=fun i hi=>Nat.testBit_lt_two_pow (uR h (by
  have:2^16<=2^i:=Nat.pow_le_pow_right (by omega) hi;omega))
 constructor
 ·intro e;refine Nat.eq_of_testBit_eq fun i=>?_;rw[Nat.testBit_and,Nat.zero_testBit];by_cases hi:i<16
  ·have h1:=congrArg (fun x=>Nat.testBit x i) e;simp only[Nat.testBit_and,t i hi]at h1;cases ha:Nat.testBit m i<;>cases hc:Nat.testBit 62976 i<;>simp_all
  ·rw[big i (by omega)];rfl
 ·intro e;refine Nat.eq_of_testBit_eq fun i=>?_;rw[Nat.testBit_and];by_cases hi:i<16
  ·have h1:=congrArg (fun x=>Nat.testBit x i) e;simp only[Nat.testBit_and,Nat.zero_testBit]at h1;rw[t i hi];cases ha:Nat.testBit m i<;>cases hc:Nat.testBit 62976 i<;>simp_all
  ·rw[big i (by omega)];rfl
def gh (F:List Nd) (d:Nat) (x:ByteArray) (i:Nat):Prop:=0<i/\ ∃y,F[i]? =some y/\y.up=d/\y.name=x
theorem gO {α β:Type} (f:α->Option β) (p:β->Bool): ∀(l:List α) (k:Nat) (a:α) (b:β),l[k]? =some a->f a=some b->p b=true->(∀j a',j<k->l[j]? =some a'-> ∀b',f a'=some b'->p b'=false)->(l.filterMap f).find? p=some b
 | [],k,a,b,h,_,_,_ =>by simp at h
 |x::l,0,a,b,h,hf,hp,_ =>by
  simp only[List.getElem?_cons_zero,Option.some.injEq]at h;subst h;rw[List.filterMap_cons,hf];simp only;rw[List.find?_cons,hp]
 |x::l,k+1,a,b,h,hf,hp,hn=>by
  rw[List.getElem?_cons_succ]at h;have ih:=gO f p l k a b h hf hp fun j a' hj ha b' hb=>hn (j+1) a' (by omega) (by simpa using ha) b' hb;rw[List.filterMap_cons];cases hx:f x with
  |none=>exact ih
  |some y=>
   simp only;rw[List.find?_cons,hn 0 x (by omega) rfl y hx];exact ih
variable {F:List Nd} {d:Nat} {x:ByteArray}
theorem oJ {i:Nat} (h:gh F d x i) (hn: ∀j,j<i-> ¬gh F d x j):cW (aK F d) x=some i:=by
 obtain⟨h0,y,hy,hu,hx⟩:=h;have hi:=(List.getElem?_eq_some_iff.1 hy).1;unfold cW aK;rw[gO _ (fun y=>decide (y.1=x)) (List.range F.length) i i (x,i) (by rw[List.getElem?_range hi]) (by rw[hy];simp only;rw[if_pos ⟨h0,hu⟩,hx]) (by simp) ?_]
 ·rfl
 ·intro j a ha hj b hb;have CY:j<F.length:=(by omega);rw[List.getElem?_range CY]at hj;injection hj with hj;subst hj;cases hf:F[j]? with
  |none=>rw[hf]at hb;cases hb
  |some z=>
   rw[hf]at hb;simp only at hb;split at hb
   ·next h3=>
    injection hb with hb;subst hb;rw[decide_eq_false_iff_not];exact fun e=>hn j ha ⟨h3.1,z,hf,h3.2,e⟩
   ·cases hb
theorem jN (hn: ∀j,j<F.length-> ¬gh F d x j):cW (aK F d) x=none:=by
 cases h:cW (aK F d) x with
 |none=>rfl
 |some j=>
  obtain⟨h1,h2,y,h3,h4,h5⟩:=bE (ev h);exact absurd ⟨h2,y,h3,h4,h5⟩ (hn j h1)
def eG (F:List Nd):Prop:= ∀(i:Nat) (y:Nd),0<i->F[i]? =some y->am F y.up=2
theorem eG.start:eG [aD]:=fun i y h0 h=>by
 cases i with
 |zero=>omega
 |succ i=>simp at h
theorem eG.add {e:Ent} (h:eG F) (hF:FOk F) (h0:(addM F e).1=0):eG (addM F e).2:=by
 obtain⟨_,_,_,up,_,_,hk,Xx,e2⟩:=mi hF h0;rw[e2];intro i y hi hy;by_cases vq:i<F.length
 ·rw[uU vq]at hy;rw[cM _ (hF.each i y hy).up];exact h i y hi hy
 ·rw[uT (by omega)]at hy;have hm:=uV hy;rw[List.mem_singleton]at hm;subst hm;show am (F++[_]) up=2;rw[cM _ Xx];exact hk
theorem eG.leaf (h:eG F) (hk:am F d≠2) (x:ByteArray):cW (aK F d) x=none:=jN fun j hj hc=>by
 obtain⟨h0,y,hy,hu,_⟩:=hc;exact hk (hu▸h j y h0 hy)
theorem eG.step (h:eG F) (d:Nat) (x:ByteArray) (l:List ByteArray):atM F d (x::l)=match cW (aK F d) x with|some j=>atM F j l|none=>none:=by
 rw[atM];by_cases hk:am F d=2
 ·rw[if_pos hk];cases cW (aK F d) x<;>rfl
 ·rw[if_neg hk,h.leaf hk x]
end
section
open Go.RowKit Go.Sort
variable {s:ByteArray}
theorem qb {i:Nat} (h:i<s.size):s.get! i=s[i]:=by
 cases s with
 |mk d=>
  show d[i]! =d[i];exact getElem!_pos d i h
def PcsPost (l:List ByteArray) (w:World) (e:Ending) (w':World):Prop:= ∃A cap,e= .returned (.slice A l.length cap)/\OwnS w' w.heap.size A cap l/\Below w.heap.size w w'
theorem jz (s:ByteArray) (w:World) (hs:s.size<=200):Calls Tryz.prog 85 #[.string s] w (PcsPost (br s) w):=by
 go_enter Tryz.func85,Tryz.ntmps85;go_wp2_with fail;go_loopw [3,4,5] (fun v u i wr=> ∃(A:Option Addr) (cap:Nat) (l:List ByteArray) (fr k:Nat),v= .slice A l.length cap/\u= .int .i64 (fr:Int)/\i= .int .i64 (k:Int)/\OwnS wr w.heap.size A cap l/\Below w.heap.size w wr/\l.length<=k/\((fr<=k/\k<=s.size/\l++cuts s k fr=br s)\/(k=s.size+1/\l=br s))) (fun _ _ i _ =>s.size+1-(intOf i).toNat)
 case atStart=>exact⟨none,0,[],0,0,rfl,rfl,rfl,OwnS.nil _ _,vj _ _,uN _, .inl ⟨uN _,vg _,rfl⟩⟩
 case round=>
  obtain⟨A,cap,l,fr,k,rfl,rfl,rfl,hO,hb,hlen,hrel⟩:=hrel;have HO:=uK hO;have HB:=uK hb;have hzb:=hb.size;clear hO hb;rcases hrel with⟨xw,hk,hcut⟩|⟨hk,hl⟩
  rotate_left
  ·have HL:=uK hl;have DW: ¬(k:Int)<=(s.size:Int):=(by omega);clear hl hk;go_wp2_with fail;go_ret;exact⟨A,cap,by rw[HL.out];rfl,by rw[<-HL.out];exact HO.out,HB.out⟩
  have Mn:(k:Int)<=(s.size:Int):=(by omega);have xM:(fr:Int)<=(k:Int):=(by omega);have WS:=uK (HO.out:World.ownsRow _ _ _ _ _ _ _);have Aq:=uK hcut;clear hcut;by_cases Fj:k=s.size\/(∃h:k<s.size,s[k]=47)
  ·
   have OH:=uK (show(k<s.size/\l++s.extract fr k::cuts s (k+1) (k+1)=br s)\/(k=s.size/\l++[s.extract fr k]=br s)from by
    rcases Fj with e|⟨h1,h2⟩
    ·right;refine⟨e,?_⟩;rw[<-Aq.out,eQ (by omega),e]
    ·left;refine⟨h1,?_⟩;rw[<-Aq.out,fM h1 (by rw[qb h1];exact h2)])
   have Ur: ∀o,OwnS (wr.alloc o) w.heap.size A cap l:=fun o=>World.ownsRow.alloc HO.out o;have MN:=uK Ur;have HF:=uK HO.out.form;clear Ur;have Ew: ∀(g' vk:Nat) (w4:World),OwnS w4 w.heap.size (some ⟨g',0,none⟩) vk (l++[s.extract fr k])->(wr.alloc (.cells #[.string (s.extract fr k)] 9)).grownBy w4 (A.map (·.block))->Below w.heap.size w w4:=fun g' vk w4 At DZ=>((HB.out.alloc hzb _).grown DZ (by simp;omega) (fun b hb=>by
    rcases HF.out with⟨e,_⟩|⟨g,e,h1,_⟩
    ·rw[e]at hb;cases hb
    ·rw[e]at hb;simp at hb;omega))
   have OC:=uK Ew;clear Ew;rcases Fj with he|⟨h1,h2⟩
   ·have b1:((k:Int)==(s.size:Int))=true:=(by rw[beq_iff_eq];omega);have HE:=uK he;clear he;go_wp2_with (first
     |(at_builtin;refine mg rfl (.tmp 22) (.tmp 27) rfl w.heap.size A cap l rfl (MN.out _) (s.extract fr k) wr.heap.size 1 rfl (ab _ _) (by omega) (by simp;omega) ?_;intro g' vk w4 At DZ KI Tl;have yp:=uK At;have wQ:=uK (OC.out g' vk w4 At DZ);clear At DZ KI)
     |fail)
    go_roundw
    case rel=>exact⟨some ⟨g',0,none⟩,vk,l++[s.extract fr k],k+1,k+1,by rw[uP];rfl,by go_num,by go_num,yp.out,wQ.out,by rw[uP,uW];omega, .inr ⟨by have:=HE.out;omega,(OH.out.elim (fun h=>by have:=HE.out;omega) fun h=>h.2)⟩⟩
    case measure=>(simp[intOf];omega)
   ·have b1:((k:Int)==(s.size:Int))=false:=(by rw[uZ];omega);have b2:((s[k].toNat:Int)==47)=true:=(by rw[h2];rfl);clear h2;go_wp2_with (first
     |(at_builtin;refine mg rfl (.tmp 22) (.tmp 27) rfl w.heap.size A cap l rfl (MN.out _) (s.extract fr k) wr.heap.size 1 rfl (ab _ _) (by omega) (by simp;omega) ?_;intro g' vk w4 At DZ KI Tl;have yp:=uK At;have wQ:=uK (OC.out g' vk w4 At DZ);clear At DZ KI)
     |fail)
    go_roundw
    case rel=>exact⟨some ⟨g',0,none⟩,vk,l++[s.extract fr k],k+1,k+1,by rw[uP];rfl,by go_num,by go_num,yp.out,wQ.out,by rw[uP,uW];omega, .inl ⟨uN _,by omega,(OH.out.elim (fun h=>by rw[List.append_assoc];exact h.2) fun h=>by omega)⟩⟩
    case measure=>(simp[intOf];omega)
  ·have h1:k<s.size:=by
    rcases Nat.lt_or_ge k s.size with h|h
    ·exact h
    ·exact absurd (.inl (by omega)) Fj
   have h2:s[k]≠47:=fun e=>Fj (.inr ⟨h1,e⟩);have b1:((k:Int)==(s.size:Int))=false:=(by rw[uZ];omega);have b2:((s[k].toNat:Int)==47)=false:=by
    rw[uZ];intro e;exact h2 (UInt8.toNat_inj.1 (by show s[k].toNat=47;omega))
   have ya:=uK (show l++cuts s (k+1) fr=br s by rw[<-Aq.out,iy h1 (by rw[qb h1];exact h2)]);clear Fj h2;go_wp2_with fail;go_roundw
   case rel=>exact⟨A,cap,l,fr,k+1,rfl,rfl,by go_num,HO.out,HB.out,by omega, .inl ⟨by omega,by omega,ya.out⟩⟩
   case measure=>(simp[intOf];omega)
theorem mA (h:s.size=0):s=⟨#[]⟩:=by
 cases s with
 |mk d=>cases d with
  |mk l=>cases l with
   |nil=>rfl
   |cons x l=>simp[ByteArray.size]at h
theorem str_some (h0:s.size≠0):s.toList.isEmpty=false:=by
 cases hc:s.toList with
 |nil=>
  exfalso;apply h0;have h9:s.data.toList=[]:=(by rw[<-hc];exact(ByteArray.toList_eq s).symm);have h8:s.data.toList.length=0:=(by rw[h9];rfl);exact h8
 |cons x l=>rfl
theorem gS {k:Nat} (h:k<s.size):s.data.toList[k]? =some s[k]:=by
 rw[Array.getElem?_toList];exact Array.getElem?_eq_getElem h
theorem zero_at (h:0<=Lib.indexByte s.data.toList 0): ∃(o:Nat) (h:o<s.size),s[o]=0/\ ∀k (hk:k<s.size),k<o->s[k]≠0:=by
 obtain⟨o,ho⟩:=Int.eq_ofNat_of_zero_le h;obtain⟨h1,h2⟩:=Lib.indexByte_some ho;have h3:=(List.getElem?_eq_some_iff.1 h1).1;have vq:o<s.size:=(by simpa using h3);rw[gS vq]at h1;injection h1 with h1;exact⟨o,vq,h1,fun k hk hko e=>h2 k hko (by rw[gS hk,e])⟩
theorem zero_no (h: ¬0<=Lib.indexByte s.data.toList 0): ∀k (hk:k<s.size),s[k]≠0:=fun k hk e=>by
 have h1:=Lib.indexByte_ge s.data.toList 0;have h2:Lib.indexByte s.data.toList 0= -1:=(by omega);exact Lib.indexByte_none h2 k (by rw[gS hk,e])
theorem ll (s:ByteArray) (w:World) (hs:s.size<=1000000000):Calls Tryz.prog 84 #[.string s] w fun e w'=>e= .returned (.int .i64 (chk s))/\Below w.heap.size w w':=by
 by_cases h0:s.size=0
 ·obtain rfl:=mA h0;have hc:chk ⟨#[]⟩=3:=rfl;rw[hc];clear hc hs h0;go_enter Tryz.func84,Tryz.ntmps84;go_wp2_with fail;go_ret;exact⟨rfl,vj _ _⟩
 have vB:=str_some h0;have Pr: ¬s.toList=[]:=fun e=>by rw[e]at vB;cases vB
 by_cases hz:0<=Lib.indexByte s.data.toList 0
 ·have hc:chk s=1:=(by unfold chk;rw[if_neg h0,if_pos hz]);obtain⟨o,Pn,vQ,BH⟩:=zero_at hz;rw[hc];have CF:=uK BH;have b0:((s[o].toNat:Int)==0)=true:=(by rw[vQ];rfl);clear hc hz vQ BH;go_enter Tryz.func84,Tryz.ntmps84;go_wp2_with fail;go_loopw [3] (fun i wr=> ∃k:Nat,i= .int .i64 (k:Int)/\k<=o/\w=wr) (fun i _ =>o-(intOf i).toNat)
  case atStart=>exact⟨0,rfl,vg _,rfl⟩
  case round=>
   obtain⟨k,rfl,hk,rfl⟩:=hrel;by_cases e:k=o
   ·subst e;go_wp2_with fail;go_ret;exact⟨rfl,vj _ _⟩
   ·have yz:k<s.size:=(by omega);have h9:=CF.out k yz (by omega);have b1:((s[k].toNat:Int)==0)=false:=by
     rw[uZ];intro e2;exact h9 (UInt8.toNat_inj.1 (by show s[k].toNat=0;omega))
    clear h9;go_wp2_with fail;go_roundw
    case rel=>exact⟨k+1,by go_num,by omega,trivial⟩
    case measure=>(simp[intOf];omega)
 have HZ:=uK (zero_no hz);by_cases hl:200<s.size
 ·have hc:chk s=11:=(by unfold chk;rw[if_neg h0,if_neg hz,if_pos hl]);rw[hc];clear hc hz;go_enter Tryz.func84,Tryz.ntmps84;go_wp2_with fail;go_loopw [3] (fun i wr=> ∃k:Nat,i= .int .i64 (k:Int)/\k<=s.size/\w=wr) (fun i _ =>s.size-(intOf i).toNat)
  case atStart=>exact⟨0,rfl,vg _,rfl⟩
  case round=>
   obtain⟨k,rfl,hk,rfl⟩:=hrel;by_cases yz:k<s.size
   ·have h9:=HZ.out k yz;have b1:((s[k].toNat:Int)==0)=false:=by
     rw[uZ];intro e2;exact h9 (UInt8.toNat_inj.1 (by show s[k].toNat=0;omega))
    clear h9;go_wp2_with fail;go_roundw
    case rel=>exact⟨k+1,by go_num,by omega,trivial⟩
    case measure=>(simp[intOf];omega)
   ·obtain rfl:k=s.size:=(by omega);go_wp2_with fail;go_ret;exact⟨rfl,vj _ _⟩
 have hc:chk s=if dU (br s)=true then 11 else 0:=by unfold chk;rw[if_neg h0,if_neg hz,if_neg hl]
 rw[hc];have HP:=uK (jz s w (by omega));have Rp:=cA s;obtain⟨l,hle⟩: ∃l,l=br s:=⟨_,rfl⟩;rw[<-hle]at HP Rp⊢;obtain⟨rv,XI⟩: ∃rv:Int,rv=if dU l=true then 11 else 0:=⟨_,rfl⟩
 rw[<-XI];have HRV:=uK XI;clear hc hz hle XI;go_enter Tryz.func84,Tryz.ntmps84;go_wp2_with fail;go_loopw [3] (fun i wr=> ∃k:Nat,i= .int .i64 (k:Int)/\k<=s.size/\w=wr) (fun i _ =>s.size-(intOf i).toNat)
 case atStart=>exact⟨0,rfl,vg _,rfl⟩
 case round=>
  obtain⟨k,rfl,hk,rfl⟩:=hrel;by_cases yz:k<s.size
  ·have h9:=HZ.out k yz;have b1:((s[k].toNat:Int)==0)=false:=by
    rw[uZ];intro e2;exact h9 (UInt8.toNat_inj.1 (by show s[k].toNat=0;omega))
   clear h9;go_wp2_with fail;go_roundw
   case rel=>exact⟨k+1,by go_num,by omega,trivial⟩
   case measure=>(simp[intOf];omega)
  ·obtain rfl:k=s.size:=(by omega);go_wp2_with (first
    |(go_at_call 85;refine(HP.out).mono ?_;rintro e w1 ⟨A,cap,rfl,hO,vl⟩;have HO:=uK hO;have vu:=uK vl;clear hO vl)
    |fail)
   go_loopw [5] (fun i wr=> ∃q:Nat,i= .int .i64 (q:Int)/\q<=l.length/\dU (l.take q)=false/\w1=wr) (fun i _ =>l.length-(intOf i).toNat)
   case atStart=>exact⟨0,rfl,vg _,rfl,rfl⟩
   case round=>
    obtain⟨q,rfl,hq,Kj,rfl⟩:=hrel;have HLG:=uK Kj;clear Kj;by_cases Pk:q<l.length
    ·obtain⟨x,hx⟩: ∃x,l[q]? =some x:=⟨l[q],uQ Pk⟩;rcases HO.out.form with⟨_,h2,_⟩|⟨g,yA,_,yc,CO⟩
     ·rw[h2]at Pk;exact absurd Pk (Nat.not_lt_zero _)
     subst yA;have vG:=HO.out.elem hx;have LW:=gw hx;have ES:q<cap:=(by omega);by_cases yO:32<x.size
     ·have hlp:dU l=true:=by
       rw[<-List.take_append_drop (q+1) l];refine mY ?_;rw[LW,fH];simp[yO]
      have ZX:=uK (show rv=11 by rw[HRV.out,if_pos hlp]);have Fp:(32:Int)<(x.size:Int):=(by omega);clear LW hx hlp;go_wp2_with fail;go_ret;exact⟨by rw[ZX.out];rfl,vu.out⟩
     ·have GR:=uK (show dU (l.take (q+1))=false by rw[LW,fH,HLG.out];simp;omega);have Fp: ¬(32:Int)<(x.size:Int):=(by omega);clear LW hx;go_wp2_with fail;go_roundw
      case rel=>exact⟨q+1,by go_num,by omega,GR.out,trivial⟩
      case measure=>(simp[intOf];omega)
    ·obtain rfl:q=l.length:=(by omega);have ZX:=uK (show rv=0 by
      have h9:=HLG.out;rw[List.take_length]at h9;rw[HRV.out,h9];rfl)
     go_wp2_with fail;go_ret;exact⟨by rw[ZX.out];rfl,vu.out⟩
theorem oE (h:0<s.size):((s[0].toNat:Int)==47)=Lib.hasPrefix s.data.toList [47]:=by
 unfold Lib.hasPrefix;have h0:=gS h;cases hd:s.data.toList with
 |nil=>rw[hd]at h0;cases h0
 |cons x l=>
  rw[hd]at h0;simp only[List.getElem?_cons_zero,Option.some.injEq]at h0;rw[<-h0];have e:List.isPrefixOf [(47:UInt8)] (x::l)=((47:UInt8)==x):=(by simp[List.isPrefixOf]);rw[e,Bool.eq_iff_iff,beq_iff_eq,beq_iff_eq];constructor
  ·intro hx;exact(UInt8.toNat_inj.1 (by show x.toNat=47;omega)).symm
  ·intro hx;rw[<-hx];rfl
theorem oo (h:0<s.size):((s[s.size-1].toNat:Int)==47)=Lib.hasSuffix s.data.toList [47]:=by
 unfold Lib.hasSuffix;have h0:=gS (show s.size-1<s.size by omega);have hl:s.data.toList.length=s.size:=rfl;have vB:s.data.toList≠[]:=fun e=>by rw[e]at hl;simp at hl;omega
 have Tt:s.data.toList.getLast vB=s[s.size-1]:=by
  rw[List.getLast_eq_getElem];have h1:=uQ (show s.data.toList.length-1<s.data.toList.length by omega);have h2:s.data.toList[s.data.toList.length-1]? =some s[s.size-1]:=(by rw[hl];exact h0);rw[h1]at h2;injection h2
 have yw:=List.dropLast_concat_getLast vB;rw[Tt]at yw;rw[Bool.eq_iff_iff,beq_iff_eq,List.isSuffixOf_iff_suffix];constructor
 ·intro hx;have h47:s[s.size-1]=47:=UInt8.toNat_inj.1 (by show s[s.size-1].toNat=47;omega);rw[h47]at yw;exact⟨_,yw⟩
 ·rintro⟨t,ht⟩;rw[<-ht]at yw;have:=List.append_inj_right' yw rfl;simp at this;rw[this];rfl
theorem mz:Lib.hasSuffix (ByteArray.mk #[]).data.toList [47]=false:=rfl
theorem sB (s:ByteArray) (w:World) (hs:s.size<=1000000000):Calls Tryz.prog 83 #[.string s] w fun e w'=>e= .returned (.bool (Lib.hasSuffix s.data.toList [47]))/\w=w':=by
 by_cases h0:s.size=0
 ·obtain rfl:=mA h0;rw[mz];clear hs h0;go_enter Tryz.func83,Tryz.ntmps83;go_wp2_with fail;go_ret;exact⟨rfl,rfl⟩
 ·obtain⟨m,hm⟩: ∃m,s.size=m+1:=⟨s.size-1,by omega⟩;have hml:m<s.size:=(by omega);obtain⟨b,hb⟩: ∃b,b=Lib.hasSuffix s.data.toList [47]:=⟨_,rfl⟩;have h1:((s[m].toNat:Int)==47)=b:=by
   rw[hb,<-oo (by omega)];simp only[hm,Nat.add_sub_cancel]
  have i1:(0:Int)<(s.size:Int):=(by omega);have i2:IntKind.i64.wrap ((s.size:Int)-1)=(m:Int):=(by rw[IntKind.wrap_i64];omega);rw[<-hb];have HM:=uK hm;clear hb hm;go_enter Tryz.func83,Tryz.ntmps83;go_wp2_with fail;go_ret;exact⟨rfl,rfl⟩
theorem qD (s:ByteArray) (w:World) (hs:s.size<=1000000000) (hc:chk s≠0):Calls Tryz.prog 42 #[.string s] w fun e w'=>e= .returned (.tuple #[.slice none 0 0, .bool false, .int .i64 (chk s)])/\Below w.heap.size w w':=by
 have HC:=uK (ll s w hs);obtain⟨r,hr⟩: ∃r,r=chk s:=⟨_,rfl⟩;rw[<-hr]at HC hc⊢;have r1:(r != 0)=true:=(by rw[bne_iff_ne];exact hc);clear hc hr;go_enter Tryz.func42,Tryz.ntmps42;go_wp2_with (first
  |(go_at_call 84;refine(HC.out).mono ?_;rintro e w1 ⟨rfl,vl⟩)
  |fail)
 go_ret3;exact⟨rfl,vl⟩
theorem mK (s:ByteArray) (w:World) (hc:chk s=0):Calls Tryz.prog 42 #[.string s] w (cn s w):=by
 obtain⟨z0,z200,_,_⟩:=dg hc;have PS:=ll s w (by omega);rw[hc]at PS;have HC:=uK PS;have HP:=uK (fun W=>jz s W z200);have Rp:=cA s;have hb:=oE z0;obtain⟨pb,hpb⟩: ∃pb,pb=Lib.hasPrefix s.data.toList [47]:=⟨_,rfl⟩;rw[<-hpb]at hb;obtain⟨l,hl⟩: ∃l,l=br s:=⟨_,rfl⟩;have FL:ar s=l.filter aT:=(by rw[hl];rfl);rw[<-hl]at HP Rp;unfold cn;rw[<-hpb,FL];have HB:=uK hb;clear hc PS hb hpb hl FL;go_enter Tryz.func42,Tryz.ntmps42;go_wp2_with (first
  |(go_at_call 84;refine(HC.out).mono ?_;rintro e w1 ⟨rfl,vl⟩;have vu:=uK vl;have vz:=vl.size;clear vl)
  |(go_at_call 85;refine(HP.out _).mono ?_;rintro e w2 ⟨A2,zi,rfl,Ac,vs⟩;have CF:=uK Ac;have xi:=uK (vu.out.trans (vs.mono vz));have vS:=vs.size;clear Ac vs)
  |fail)
 go_loopw [6,8] (fun v i wr=> ∃(A:Option Addr) (cap q:Nat),v= .slice A ((l.take q).filter aT).length cap/\i= .int .i64 (q:Int)/\q<=l.length/\OwnS wr w2.heap.size A cap ((l.take q).filter aT)/\Below w2.heap.size w2 wr) (fun _ i _ =>l.length-(intOf i).toNat)
 case atStart=>exact⟨none,0,0,rfl,rfl,vg _,OwnS.nil _ _,vj _ _⟩
 case round=>
  obtain⟨A,cap,q,rfl,rfl,hq,hO,xZ⟩:=hrel;have HO:=uK hO;have yC:=uK xZ;have hzr:=xZ.size;clear hO xZ;by_cases Pk:q<l.length
  ·obtain⟨x,hx⟩: ∃x,l[q]? =some x:=⟨l[q],uQ Pk⟩;have LW:=gw hx;rcases CF.out.form with⟨_,h2,_⟩|⟨g,yA,_,yc,CO⟩
   ·rw[h2]at Pk;exact absurd Pk (Nat.not_lt_zero _)
   have vG:wr.cell? ⟨g,q,none⟩=some (.string x):=by
    have h9:=CF.out;rw[yA]at h9;exact(yC.out.cell (p:=⟨g,q,none⟩) yc).trans (h9.elem hx)
   subst yA;have ES:q<zi:=(by omega);have yL:((l.take q).filter aT).length<=300:=vh (List.length_filter_le _ _) (by rw[List.length_take];omega);by_cases hp:aT x=true
   ·obtain⟨t1,t2,t3⟩:=iJ hp;have QA:=uK (show(l.take (q+1)).filter aT=(l.take q).filter aT++[x] by rw[LW,fi _ hp]);obtain⟨m,hm⟩: ∃m,m=(l.take q).filter aT:=⟨_,rfl⟩;rw[<-hm]at HO yL QA⊢;have MN:=uK (fun o=>(World.ownsRow.alloc HO.out o:OwnS (wr.alloc o) w2.heap.size A cap m));have HF:=uK HO.out.form;clear LW hx hp hm;go_wp2_with (first
     |(at_builtin;refine mg rfl (.tmp 34) (.tmp 39) rfl w2.heap.size A cap m rfl (MN.out _) x wr.heap.size 1 rfl (ab _ _) (by omega) (by simp;omega) ?_;intro g' vk w4 At DZ KI Tl;have yp:=uK At;have wQ:=uK ((yC.out.alloc hzr (.cells #[.string x] 9)).grown DZ (by simp;omega) (fun b hb=>(by rcases HF.out with⟨e,_⟩|⟨g,e,h1,_⟩;(rw[e]at hb;cases hb);(rw[e]at hb;simp at hb;omega))));clear At DZ KI)
     |fail)
    go_roundw
    case rel=>exact⟨some ⟨g',0,none⟩,vk,q+1,by rw[QA.out,uP];rfl,by go_num,by omega,by rw[QA.out];exact yp.out,wQ.out⟩
    case measure=>(simp[intOf];omega)
   ·have XK:aT x=false:=(by simpa using hp);have QA:=uK (show(l.take (q+1)).filter aT=(l.take q).filter aT by rw[LW,fT _ XK]);have vL:=nk XK;obtain⟨m,hm⟩: ∃m,m=(l.take q).filter aT:=⟨_,rfl⟩;rw[<-hm]at HO yL QA⊢;clear LW hx hp XK hm;rcases vL with rfl|rfl
    all_goals
     go_wp2_with fail;go_roundw
     case rel=>exact⟨A,cap,q+1,by rw[QA.out],by go_num,by omega,by rw[QA.out];exact HO.out,yC.out⟩
     case measure=>(simp[intOf];omega)
  ·obtain rfl:q=l.length:=(by omega);have HT:=uK (show l.take l.length=l from List.take_length);obtain⟨l2,wk⟩: ∃l2,l2=l.take l.length:=⟨_,rfl⟩;rw[<-wk]at HO HT⊢;have Fp:=HB.out;have i0:(0:Int)<(s.size:Int):=(by omega);clear wk;go_upto_region 11 with(fail);go_region
   all_goals
    go_wp2_with fail;go_ret3;exact⟨A,cap,by rw[HT.out];rfl,by rw[HT.out]at HO;exact(HO.out.lower xi.out.size).kept ((vj _ _).drew),xi.out.trans ((yC.out.drew).mono xi.out.size)⟩
end
