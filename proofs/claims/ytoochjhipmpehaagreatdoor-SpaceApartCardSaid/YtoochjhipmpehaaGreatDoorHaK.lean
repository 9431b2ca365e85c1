/- The document's files, plain: a name's node by looking through all nodes; The document's paths: pieces, Check, Parts, Tail; -/
import Derived.Test.YtoochjhipmpehaaGreatDoorTvAK
import Derived.Test.YtoochjhipmpehaaGreatDoorVpYK
import Derived.Lib.IndexAny
import Derived.Lib.IndexLaws
set_option linter.unusedVariables false
set_option linter.unusedSimpArgs false
set_option maxRecDepth 100000
set_option maxHeartbeats 2000000
namespace Go.Proofs.YtoochjhipmpehaaGreatDoor
section
theorem qd {m:Nat} (h:m<65536):(m&&&2559=m)↔dn m=false:=by
 have hb:dn m=false↔m&&&62976=0:=by
  unfold dn;rw[show((2559:Int))=((2559:Nat):Int)from rfl,u16_andNot_nat m 2559 h (by omega)];rw[bne_eq_false_iff_eq];show((m&&&62976:Nat):Int)=0↔_;omega
 rw[hb];have t: ∀i,i<16->Nat.testBit 2559 i= !Nat.testBit 62976 i:=(by decide);have big: ∀i,16<=i->Nat.testBit m i=false:=fun i hi=>Nat.testBit_lt_two_pow (vh h (by
  have:2^16<=2^i:=Nat.pow_le_pow_right (by omega) hi;omega))
 constructor
 ·intro e;refine Nat.eq_of_testBit_eq fun i=>?_;rw[Nat.testBit_and,Nat.zero_testBit];by_cases hi:i<16
  ·have h1:=congrArg (fun x=>Nat.testBit x i) e;simp only[Nat.testBit_and,t i hi]at h1;cases ha:Nat.testBit m i<;>cases hc:Nat.testBit 62976 i<;>simp_all
  ·rw[big i (by omega)];rfl
 ·intro e;refine Nat.eq_of_testBit_eq fun i=>?_;rw[Nat.testBit_and];by_cases hi:i<16
  ·have h1:=congrArg (fun x=>Nat.testBit x i) e;simp only[Nat.testBit_and,Nat.zero_testBit]at h1;rw[t i hi];cases ha:Nat.testBit m i<;>cases hc:Nat.testBit 62976 i<;>simp_all
  ·rw[big i (by omega)];rfl
def gh (F:List Nd) (d:Nat) (x:ByteArray) (i:Nat):Prop:=0<i/\ ∃y,F[i]? =some y/\y.up=d/\y.name=x
theorem gP {α β:Type} (f:α->Option β) (p:β->Bool): ∀(l:List α) (k:Nat) (a:α) (b:β),l[k]? =some a->f a=some b->p b=true->(∀j a',j<k->l[j]? =some a'-> ∀b',f a'=some b'->p b'=false)->(l.filterMap f).find? p=some b
 | [],k,a,b,h,_,_,_ =>by simp at h
 |x::l,0,a,b,h,hf,hp,_ =>by
  simp only[List.getElem?_cons_zero,Option.some.injEq]at h;subst h;rw[List.filterMap_cons,hf];simp only;rw[List.find?_cons,hp]
 |x::l,k+1,a,b,h,hf,hp,hn=>by
  rw[List.getElem?_cons_succ]at h;have ih:=gP f p l k a b h hf hp fun j a' hj ha b' hb=>hn (j+1) a' (by omega) (by simpa using ha) b' hb;rw[List.filterMap_cons];cases hx:f x with
  |none=>exact ih
  |some y=>
   simp only;rw[List.find?_cons,hn 0 x (by omega) rfl y hx];exact ih
variable {F:List Nd} {d:Nat} {x:ByteArray}
theorem oQ {i:Nat} (h:gh F d x i) (hn: ∀j,j<i-> ¬gh F d x j):cU (aH F d) x=some i:=by
 obtain⟨h0,y,hy,hu,hx⟩:=h;have hi:=(List.getElem?_eq_some_iff.1 hy).1;unfold cU aH;rw[gP _ (fun y=>decide (y.1=x)) (List.range F.length) i i (x,i) (by rw[List.getElem?_range hi]) (by rw[hy];simp only;rw[if_pos ⟨h0,hu⟩,hx]) (by simp) ?_]
 ·rfl
 ·intro j a ha hj b hb;have Bq:j<F.length:=(by omega);rw[List.getElem?_range Bq]at hj;injection hj with hj;subst hj;cases hf:F[j]? with
  |none=>rw[hf]at hb;cases hb
  |some z=>
   rw[hf]at hb;simp only at hb;split at hb
   ·next h3=>
    injection hb with hb;subst hb;rw[decide_eq_false_iff_not];exact fun e=>hn j ha ⟨h3.1,z,hf,h3.2,e⟩
   ·cases hb
theorem jY (hn: ∀j,j<F.length-> ¬gh F d x j):cU (aH F d) x=none:=by
 cases h:cU (aH F d) x with
 |none=>rfl
 |some j=>
  obtain⟨h1,h2,y,h3,h4,h5⟩:=bC (ei h);exact absurd ⟨h2,y,h3,h4,h5⟩ (hn j h1)
def ew (F:List Nd):Prop:= ∀(i:Nat) (y:Nd),0<i->F[i]? =some y->ak F y.up=2
theorem ew.start:ew [aC]:=fun i y h0 h=>by
 cases i with
 |zero=>omega
 |succ i=>simp at h
theorem ew.add {e:Ent} (h:ew F) (hF:FOk F) (h0:(addM F e).1=0):ew (addM F e).2:=by
 obtain⟨_,_,_,up,_,_,hk,Sm,e2⟩:=mv hF h0;rw[e2];intro i y hi hy;by_cases vH:i<F.length
 ·rw[vk vH]at hy;rw[cI _ (hF.each i y hy).up];exact h i y hi hy
 ·rw[vj (by omega)]at hy;have hm:=vl hy;rw[List.mem_singleton]at hm;subst hm;show ak (F++[_]) up=2;rw[cI _ Sm];exact hk
theorem ew.leaf (h:ew F) (hk:ak F d≠2) (x:ByteArray):cU (aH F d) x=none:=jY fun j hj hc=>by
 obtain⟨h0,y,hy,hu,_⟩:=hc;exact hk (hu▸h j y h0 hy)
theorem ew.step (h:ew F) (d:Nat) (x:ByteArray) (l:List ByteArray):atM F d (x::l)=match cU (aH F d) x with|some j=>atM F j l|none=>none:=by
 rw[atM];by_cases hk:ak F d=2
 ·rw[if_pos hk];cases cU (aH F d) x<;>rfl
 ·rw[if_neg hk,h.leaf hk x]
end
section
open Go.RowKit Go.Sort
variable {s:ByteArray}
theorem qk {i:Nat} (h:i<s.size):s.get! i=s[i]:=by
 cases s with
 |mk d=>
  show d[i]! =d[i];exact getElem!_pos d i h
def PcsPost (l:List ByteArray) (w:World) (e:Ending) (w':World):Prop:= ∃A cap,e= .returned (.slice A l.length cap)/\OwnS w' w.heap.size A cap l/\Below w.heap.size w w'
theorem jJ (s:ByteArray) (w:World) (hs:s.size<=200):Calls Tryz.prog 85 #[.string s] w (PcsPost (bn s) w):=by
 go_enter Tryz.func85,Tryz.ntmps85;go_wp2_with fail;go_loopw [3,4,5] (fun v u i wr=> ∃(A:Option Addr) (cap:Nat) (l:List ByteArray) (fr k:Nat),v= .slice A l.length cap/\u= .int .i64 (fr:Int)/\i= .int .i64 (k:Int)/\OwnS wr w.heap.size A cap l/\Below w.heap.size w wr/\l.length<=k/\((fr<=k/\k<=s.size/\l++cuts s k fr=bn s)\/(k=s.size+1/\l=bn s))) (fun _ _ i _ =>s.size+1-(intOf i).toNat)
 case atStart=>exact⟨none,0,[],0,0,rfl,rfl,rfl,OwnS.nil _ _,vz _ _,vd _, .inl ⟨vd _,vw _,rfl⟩⟩
 case round=>
  obtain⟨A,cap,l,fr,k,rfl,rfl,rfl,hO,hb,hlen,hrel⟩:=hrel;have HO:=va hO;have HB:=va hb;have hzb:=hb.size;clear hO hb;rcases hrel with⟨yw,hk,hcut⟩|⟨hk,hl⟩
  rotate_left
  ·have HL:=va hl;have DJ: ¬(k:Int)<=(s.size:Int):=(by omega);clear hl hk;go_wp2_with fail;go_ret;exact⟨A,cap,by rw[HL.out];rfl,by rw[<-HL.out];exact HO.out,HB.out⟩
  have If:(k:Int)<=(s.size:Int):=(by omega);have AH:(fr:Int)<=(k:Int):=(by omega);have XB:=va (HO.out:World.ownsRow _ _ _ _ _ _ _);have Ad:=va hcut;clear hcut;by_cases Fb:k=s.size\/(∃h:k<s.size,s[k]=47)
  ·
   have OD:=va (show(k<s.size/\l++s.extract fr k::cuts s (k+1) (k+1)=bn s)\/(k=s.size/\l++[s.extract fr k]=bn s)from by
    rcases Fb with e|⟨h1,h2⟩
    ·right;refine⟨e,?_⟩;rw[<-Ad.out,eI (by omega),e]
    ·left;refine⟨h1,?_⟩;rw[<-Ad.out,fL h1 (by rw[qk h1];exact h2)])
   have UL: ∀o,OwnS (wr.alloc o) w.heap.size A cap l:=fun o=>World.ownsRow.alloc HO.out o;have MH:=va UL;have HF:=va HO.out.form;clear UL;have Eh: ∀(g' vA:Nat) (w4:World),OwnS w4 w.heap.size (some ⟨g',0,none⟩) vA (l++[s.extract fr k])->(wr.alloc (.cells #[.string (s.extract fr k)] 9)).grownBy w4 (A.map (·.block))->Below w.heap.size w w4:=fun g' vA w4 Ag DL=>((HB.out.alloc hzb _).grown DL (by simp;omega) (fun b hb=>by
    rcases HF.out with⟨e,_⟩|⟨g,e,h1,_⟩
    ·rw[e]at hb;cases hb
    ·rw[e]at hb;simp at hb;omega))
   have Ow:=va Eh;clear Eh;rcases Fb with he|⟨h1,h2⟩
   ·have b1:((k:Int)==(s.size:Int))=true:=(by rw[beq_iff_eq];omega);have HE:=va he;clear he;go_wp2_with (first
     |(at_builtin;refine ms rfl (.tmp 22) (.tmp 27) rfl w.heap.size A cap l rfl (MH.out _) (s.extract fr k) wr.heap.size 1 rfl (ab _ _) (by omega) (by simp;omega) ?_;intro g' vA w4 Ag DL Ks Ps;have yd:=va Ag;have wV:=va (Ow.out g' vA w4 Ag DL);clear Ag DL Ks)
     |fail)
    go_roundw
    case rel=>exact⟨some ⟨g',0,none⟩,vA,l++[s.extract fr k],k+1,k+1,by rw[vf];rfl,by go_num,by go_num,yd.out,wV.out,by rw[vf,vm];omega, .inr ⟨by have:=HE.out;omega,(OD.out.elim (fun h=>by have:=HE.out;omega) fun h=>h.2)⟩⟩
    case measure=>(simp[intOf];omega)
   ·have b1:((k:Int)==(s.size:Int))=false:=(by rw[vp];omega);have b2:((s[k].toNat:Int)==47)=true:=(by rw[h2];rfl);clear h2;go_wp2_with (first
     |(at_builtin;refine ms rfl (.tmp 22) (.tmp 27) rfl w.heap.size A cap l rfl (MH.out _) (s.extract fr k) wr.heap.size 1 rfl (ab _ _) (by omega) (by simp;omega) ?_;intro g' vA w4 Ag DL Ks Ps;have yd:=va Ag;have wV:=va (Ow.out g' vA w4 Ag DL);clear Ag DL Ks)
     |fail)
    go_roundw
    case rel=>exact⟨some ⟨g',0,none⟩,vA,l++[s.extract fr k],k+1,k+1,by rw[vf];rfl,by go_num,by go_num,yd.out,wV.out,by rw[vf,vm];omega, .inl ⟨vd _,by omega,(OD.out.elim (fun h=>by rw[List.append_assoc];exact h.2) fun h=>by omega)⟩⟩
    case measure=>(simp[intOf];omega)
  ·have h1:k<s.size:=by
    rcases Nat.lt_or_ge k s.size with h|h
    ·exact h
    ·exact absurd (.inl (by omega)) Fb
   have h2:s[k]≠47:=fun e=>Fb (.inr ⟨h1,e⟩);have b1:((k:Int)==(s.size:Int))=false:=(by rw[vp];omega);have b2:((s[k].toNat:Int)==47)=false:=by
    rw[vp];intro e;exact h2 (UInt8.toNat_inj.1 (by show s[k].toNat=47;omega))
   have ye:=va (show l++cuts s (k+1) fr=bn s by rw[<-Ad.out,iG h1 (by rw[qk h1];exact h2)]);clear Fb h2;go_wp2_with fail;go_roundw
   case rel=>exact⟨A,cap,l,fr,k+1,rfl,rfl,by go_num,HO.out,HB.out,by omega, .inl ⟨by omega,by omega,ye.out⟩⟩
   case measure=>(simp[intOf];omega)
theorem mO (h:s.size=0):s=⟨#[]⟩:=by
 cases s with
 |mk d=>cases d with
  |mk l=>cases l with
   |nil=>rfl
   |cons x l=>simp[ByteArray.size]at h
theorem str_some (h0:s.size≠0):s.toList.isEmpty=false:=by
 cases hc:s.toList with
 |nil=>
  exfalso;apply h0;have h9:s.data.toList=[]:=(by rw[<-hc];exact(ByteArray.toList_eq s).symm);have h8:s.data.toList.length=0:=(by rw[h9];rfl);exact h8
 |cons x l=>rfl
theorem gT {k:Nat} (h:k<s.size):s.data.toList[k]? =some s[k]:=by
 rw[Array.getElem?_toList];exact Array.getElem?_eq_getElem h
theorem zero_at (h:0<=Lib.indexByte s.data.toList 0): ∃(o:Nat) (h:o<s.size),s[o]=0/\ ∀k (hk:k<s.size),k<o->s[k]≠0:=by
 obtain⟨o,ho⟩:=Int.eq_ofNat_of_zero_le h;obtain⟨h1,h2⟩:=Lib.indexByte_some ho;have h3:=(List.getElem?_eq_some_iff.1 h1).1;have vH:o<s.size:=(by simpa using h3);rw[gT vH]at h1;injection h1 with h1;exact⟨o,vH,h1,fun k hk hko e=>h2 k hko (by rw[gT hk,e])⟩
theorem zero_no (h: ¬0<=Lib.indexByte s.data.toList 0): ∀k (hk:k<s.size),s[k]≠0:=fun k hk e=>by
 have h1:=Lib.indexByte_ge s.data.toList 0;have h2:Lib.indexByte s.data.toList 0= -1:=(by omega);exact Lib.indexByte_none h2 k (by rw[gT hk,e])
theorem lH (s:ByteArray) (w:World) (hs:s.size<=1000000000):Calls Tryz.prog 84 #[.string s] w fun e w'=>e= .returned (.int .i64 (chk s))/\Below w.heap.size w w':=by
 by_cases h0:s.size=0
 ·obtain rfl:=mO h0;have hc:chk ⟨#[]⟩=3:=rfl;rw[hc];clear hc hs h0;go_enter Tryz.func84,Tryz.ntmps84;go_wp2_with fail;go_ret;exact⟨rfl,vz _ _⟩
 have vK:=str_some h0;have Pn: ¬s.toList=[]:=fun e=>by rw[e]at vK;cases vK
 by_cases hz:0<=Lib.indexByte s.data.toList 0
 ·have hc:chk s=1:=(by unfold chk;rw[if_neg h0,if_pos hz]);obtain⟨o,Pg,wi,BD⟩:=zero_at hz;rw[hc];have Bz:=va BD;have b0:((s[o].toNat:Int)==0)=true:=(by rw[wi];rfl);clear hc hz wi BD;go_enter Tryz.func84,Tryz.ntmps84;go_wp2_with fail;go_loopw [3] (fun i wr=> ∃k:Nat,i= .int .i64 (k:Int)/\k<=o/\w=wr) (fun i _ =>o-(intOf i).toNat)
  case atStart=>exact⟨0,rfl,vw _,rfl⟩
  case round=>
   obtain⟨k,rfl,hk,rfl⟩:=hrel;by_cases e:k=o
   ·subst e;go_wp2_with fail;go_ret;exact⟨rfl,vz _ _⟩
   ·have xP:k<s.size:=(by omega);have h9:=Bz.out k xP (by omega);have b1:((s[k].toNat:Int)==0)=false:=by
     rw[vp];intro e2;exact h9 (UInt8.toNat_inj.1 (by show s[k].toNat=0;omega))
    clear h9;go_wp2_with fail;go_roundw
    case rel=>exact⟨k+1,by go_num,by omega,trivial⟩
    case measure=>(simp[intOf];omega)
 have HZ:=va (zero_no hz);by_cases hl:200<s.size
 ·have hc:chk s=11:=(by unfold chk;rw[if_neg h0,if_neg hz,if_pos hl]);rw[hc];clear hc hz;go_enter Tryz.func84,Tryz.ntmps84;go_wp2_with fail;go_loopw [3] (fun i wr=> ∃k:Nat,i= .int .i64 (k:Int)/\k<=s.size/\w=wr) (fun i _ =>s.size-(intOf i).toNat)
  case atStart=>exact⟨0,rfl,vw _,rfl⟩
  case round=>
   obtain⟨k,rfl,hk,rfl⟩:=hrel;by_cases xP:k<s.size
   ·have h9:=HZ.out k xP;have b1:((s[k].toNat:Int)==0)=false:=by
     rw[vp];intro e2;exact h9 (UInt8.toNat_inj.1 (by show s[k].toNat=0;omega))
    clear h9;go_wp2_with fail;go_roundw
    case rel=>exact⟨k+1,by go_num,by omega,trivial⟩
    case measure=>(simp[intOf];omega)
   ·obtain rfl:k=s.size:=(by omega);go_wp2_with fail;go_ret;exact⟨rfl,vz _ _⟩
 have hc:chk s=if dP (bn s)=true then 11 else 0:=by unfold chk;rw[if_neg h0,if_neg hz,if_neg hl]
 rw[hc];have HP:=va (jJ s w (by omega));have Rt:=cx s;obtain⟨l,hle⟩: ∃l,l=bn s:=⟨_,rfl⟩;rw[<-hle]at HP Rt⊢;obtain⟨rv,Yq⟩: ∃rv:Int,rv=if dP l=true then 11 else 0:=⟨_,rfl⟩
 rw[<-Yq];have HRV:=va Yq;clear hc hz hle Yq;go_enter Tryz.func84,Tryz.ntmps84;go_wp2_with fail;go_loopw [3] (fun i wr=> ∃k:Nat,i= .int .i64 (k:Int)/\k<=s.size/\w=wr) (fun i _ =>s.size-(intOf i).toNat)
 case atStart=>exact⟨0,rfl,vw _,rfl⟩
 case round=>
  obtain⟨k,rfl,hk,rfl⟩:=hrel;by_cases xP:k<s.size
  ·have h9:=HZ.out k xP;have b1:((s[k].toNat:Int)==0)=false:=by
    rw[vp];intro e2;exact h9 (UInt8.toNat_inj.1 (by show s[k].toNat=0;omega))
   clear h9;go_wp2_with fail;go_roundw
   case rel=>exact⟨k+1,by go_num,by omega,trivial⟩
   case measure=>(simp[intOf];omega)
  ·obtain rfl:k=s.size:=(by omega);go_wp2_with (first
    |(go_at_call 85;refine(HP.out).mono ?_;rintro e w1 ⟨A,cap,rfl,hO,vD⟩;have HO:=va hO;have vJ:=va vD;clear hO vD)
    |fail)
   go_loopw [5] (fun i wr=> ∃q:Nat,i= .int .i64 (q:Int)/\q<=l.length/\dP (l.take q)=false/\w1=wr) (fun i _ =>l.length-(intOf i).toNat)
   case atStart=>exact⟨0,rfl,vw _,rfl,rfl⟩
   case round=>
    obtain⟨q,rfl,hq,JV,rfl⟩:=hrel;have HLG:=va JV;clear JV;by_cases IG:q<l.length
    ·obtain⟨x,hx⟩: ∃x,l[q]? =some x:=⟨l[q],vg IG⟩;rcases HO.out.form with⟨_,h2,_⟩|⟨g,ym,_,xT,Cz⟩
     ·rw[h2]at IG;exact absurd IG (Nat.not_lt_zero _)
     subst ym;have vU:=HO.out.elem hx;have LN:=dX hx;have EH:q<cap:=(by omega);by_cases yC:32<x.size
     ·have hlp:dP l=true:=by
       rw[<-List.take_append_drop (q+1) l];refine nA ?_;rw[LN,fE];simp[yC]
      have HLP:=va (show rv=11 by rw[HRV.out,if_pos hlp]);have DO:(32:Int)<(x.size:Int):=(by omega);clear LN hx hlp;go_wp2_with fail;go_ret;exact⟨by rw[HLP.out];rfl,vJ.out⟩
     ·have Er:=va (show dP (l.take (q+1))=false by rw[LN,fE,HLG.out];simp;omega);have DO: ¬(32:Int)<(x.size:Int):=(by omega);clear LN hx;go_wp2_with fail;go_roundw
      case rel=>exact⟨q+1,by go_num,by omega,Er.out,trivial⟩
      case measure=>(simp[intOf];omega)
    ·obtain rfl:q=l.length:=(by omega);have HLP:=va (show rv=0 by
      have h9:=HLG.out;rw[List.take_length]at h9;rw[HRV.out,h9];rfl)
     go_wp2_with fail;go_ret;exact⟨by rw[HLP.out];rfl,vJ.out⟩
theorem oK (h:0<s.size):((s[0].toNat:Int)==47)=Lib.hasPrefix s.data.toList [47]:=by
 unfold Lib.hasPrefix;have h0:=gT h;cases hd:s.data.toList with
 |nil=>rw[hd]at h0;cases h0
 |cons x l=>
  rw[hd]at h0;simp only[List.getElem?_cons_zero,Option.some.injEq]at h0;rw[<-h0];have e:List.isPrefixOf [(47:UInt8)] (x::l)=((47:UInt8)==x):=(by simp[List.isPrefixOf]);rw[e,Bool.eq_iff_iff,beq_iff_eq,beq_iff_eq];constructor
  ·intro hx;exact(UInt8.toNat_inj.1 (by show x.toNat=47;omega)).symm
  ·intro hx;rw[<-hx];rfl
theorem oy (h:0<s.size):((s[s.size-1].toNat:Int)==47)=Lib.hasSuffix s.data.toList [47]:=by
 unfold Lib.hasSuffix;have h0:=gT (show s.size-1<s.size by omega);have hl:s.data.toList.length=s.size:=rfl;have vK:s.data.toList≠[]:=fun e=>by rw[e]at hl;simp at hl;omega
 have TG:s.data.toList.getLast vK=s[s.size-1]:=by
  rw[List.getLast_eq_getElem];have h1:=vg (show s.data.toList.length-1<s.data.toList.length by omega);have h2:s.data.toList[s.data.toList.length-1]? =some s[s.size-1]:=(by rw[hl];exact h0);rw[h1]at h2;injection h2
 have ya:=List.dropLast_concat_getLast vK;rw[TG]at ya;rw[Bool.eq_iff_iff,beq_iff_eq,List.isSuffixOf_iff_suffix];constructor
 ·intro hx;have h47:s[s.size-1]=47:=UInt8.toNat_inj.1 (by show s[s.size-1].toNat=47;omega);rw[h47]at ya;exact⟨_,ya⟩
 ·rintro⟨t,ht⟩;rw[<-ht]at ya;have:=List.append_inj_right' ya rfl;simp at this;rw[this];rfl
theorem mN:Lib.hasSuffix (ByteArray.mk #[]).data.toList [47]=false:=rfl
theorem sK (s:ByteArray) (w:World) (hs:s.size<=1000000000):Calls Tryz.prog 83 #[.string s] w fun e w'=>e= .returned (.bool (Lib.hasSuffix s.data.toList [47]))/\w=w':=by
 by_cases h0:s.size=0
 ·obtain rfl:=mO h0;rw[mN];clear hs h0;go_enter Tryz.func83,Tryz.ntmps83;go_wp2_with fail;go_ret;exact⟨rfl,rfl⟩
 ·obtain⟨m,hm⟩: ∃m,s.size=m+1:=⟨s.size-1,by omega⟩;have hml:m<s.size:=(by omega);obtain⟨b,hb⟩: ∃b,b=Lib.hasSuffix s.data.toList [47]:=⟨_,rfl⟩;have h1:((s[m].toNat:Int)==47)=b:=by
   rw[hb,<-oy (by omega)];simp only[hm,Nat.add_sub_cancel]
  have i1:(0:Int)<(s.size:Int):=(by omega);have i2:IntKind.i64.wrap ((s.size:Int)-1)=(m:Int):=(by rw[IntKind.wrap_i64];omega);rw[<-hb];have HM:=va hm;clear hb hm;go_enter Tryz.func83,Tryz.ntmps83;go_wp2_with fail;go_ret;exact⟨rfl,rfl⟩
theorem qQ (s:ByteArray) (w:World) (hs:s.size<=1000000000) (hc:chk s≠0):Calls Tryz.prog 42 #[.string s] w fun e w'=>e= .returned (.tuple #[.slice none 0 0, .bool false, .int .i64 (chk s)])/\Below w.heap.size w w':=by
 have HC:=va (lH s w hs);obtain⟨r,hr⟩: ∃r,r=chk s:=⟨_,rfl⟩;rw[<-hr]at HC hc⊢;have r1:(r != 0)=true:=(by rw[bne_iff_ne];exact hc);clear hc hr;go_enter Tryz.func42,Tryz.ntmps42;go_wp2_with (first
  |(go_at_call 84;refine(HC.out).mono ?_;rintro e w1 ⟨rfl,vD⟩)
  |fail)
 go_ret3;exact⟨rfl,vD⟩
theorem mX (s:ByteArray) (w:World) (hc:chk s=0):Calls Tryz.prog 42 #[.string s] w (cl s w):=by
 obtain⟨z0,z200,_,_⟩:=da hc;have PS:=lH s w (by omega);rw[hc]at PS;have HC:=va PS;have HP:=va (fun W=>jJ s W z200);have Rt:=cx s;have hb:=oK z0;obtain⟨pb,hpb⟩: ∃pb,pb=Lib.hasPrefix s.data.toList [47]:=⟨_,rfl⟩;rw[<-hpb]at hb;obtain⟨l,hl⟩: ∃l,l=bn s:=⟨_,rfl⟩;have Fw:aq s=l.filter aL:=(by rw[hl];rfl);rw[<-hl]at HP Rt;unfold cl;rw[<-hpb,Fw];have HB:=va hb;clear hc PS hb hpb hl Fw;go_enter Tryz.func42,Tryz.ntmps42;go_wp2_with (first
  |(go_at_call 84;refine(HC.out).mono ?_;rintro e w1 ⟨rfl,vD⟩;have vJ:=va vD;have wg:=vD.size;clear vD)
  |(go_at_call 85;refine(HP.out _).mono ?_;rintro e w2 ⟨A2,xS,rfl,yQ,vM⟩;have Bz:=va yQ;have xC:=va (vJ.out.trans (vM.mono wg));have wm:=vM.size;clear yQ vM)
  |fail)
 go_loopw [6,8] (fun v i wr=> ∃(A:Option Addr) (cap q:Nat),v= .slice A ((l.take q).filter aL).length cap/\i= .int .i64 (q:Int)/\q<=l.length/\OwnS wr w2.heap.size A cap ((l.take q).filter aL)/\Below w2.heap.size w2 wr) (fun _ i _ =>l.length-(intOf i).toNat)
 case atStart=>exact⟨none,0,0,rfl,rfl,vw _,OwnS.nil _ _,vz _ _⟩
 case round=>
  obtain⟨A,cap,q,rfl,rfl,hq,hO,xV⟩:=hrel;have HO:=va hO;have yp:=va xV;have XG:=xV.size;clear hO xV;by_cases IG:q<l.length
  ·obtain⟨x,hx⟩: ∃x,l[q]? =some x:=⟨l[q],vg IG⟩;have LN:=dX hx;rcases Bz.out.form with⟨_,h2,_⟩|⟨g,ym,_,xT,Cz⟩
   ·rw[h2]at IG;exact absurd IG (Nat.not_lt_zero _)
   have vU:wr.cell? ⟨g,q,none⟩=some (.string x):=by
    have h9:=Bz.out;rw[ym]at h9;exact(yp.out.cell (p:=⟨g,q,none⟩) xT).trans (h9.elem hx)
   subst ym;have EH:q<xS:=(by omega);have yz:((l.take q).filter aL).length<=300:=vx (List.length_filter_le _ _) (by rw[List.length_take];omega);by_cases hp:aL x=true
   ·obtain⟨t1,t2,t3⟩:=iR hp;have Qz:=va (show(l.take (q+1)).filter aL=(l.take q).filter aL++[x] by rw[LN,fg _ hp]);obtain⟨m,hm⟩: ∃m,m=(l.take q).filter aL:=⟨_,rfl⟩;rw[<-hm]at HO yz Qz⊢;have MH:=va (fun o=>(World.ownsRow.alloc HO.out o:OwnS (wr.alloc o) w2.heap.size A cap m));have HF:=va HO.out.form;clear LN hx hp hm;go_wp2_with (first
     |(at_builtin;refine ms rfl (.tmp 34) (.tmp 39) rfl w2.heap.size A cap m rfl (MH.out _) x wr.heap.size 1 rfl (ab _ _) (by omega) (by simp;omega) ?_;intro g' vA w4 Ag DL Ks Ps;have yd:=va Ag;have wV:=va ((yp.out.alloc XG (.cells #[.string x] 9)).grown DL (by simp;omega) (fun b hb=>(by rcases HF.out with⟨e,_⟩|⟨g,e,h1,_⟩;(rw[e]at hb;cases hb);(rw[e]at hb;simp at hb;omega))));clear Ag DL Ks)
     |fail)
    go_roundw
    case rel=>exact⟨some ⟨g',0,none⟩,vA,q+1,by rw[Qz.out,vf];rfl,by go_num,by omega,by rw[Qz.out];exact yd.out,wV.out⟩
    case measure=>(simp[intOf];omega)
   ·have Yw:aL x=false:=(by simpa using hp);have Qz:=va (show(l.take (q+1)).filter aL=(l.take q).filter aL by rw[LN,fS _ Yw]);have vW:=nG Yw;obtain⟨m,hm⟩: ∃m,m=(l.take q).filter aL:=⟨_,rfl⟩;rw[<-hm]at HO yz Qz⊢;clear LN hx hp Yw hm;rcases vW with rfl|rfl
    all_goals
     go_wp2_with fail;go_roundw
     case rel=>exact⟨A,cap,q+1,by rw[Qz.out],by go_num,by omega,by rw[Qz.out];exact HO.out,yp.out⟩
     case measure=>(simp[intOf];omega)
  ·obtain rfl:q=l.length:=(by omega);have HT:=va (show l.take l.length=l from List.take_length);obtain⟨l2,wE⟩: ∃l2,l2=l.take l.length:=⟨_,rfl⟩;rw[<-wE]at HO HT⊢;have DO:=HB.out;have i0:(0:Int)<(s.size:Int):=(by omega);clear wE;go_upto_region 11 with(fail);go_region
   all_goals
    go_wp2_with fail;go_ret3;exact⟨A,cap,by rw[HT.out];rfl,by rw[HT.out]at HO;exact(HO.out.lower xC.out.size).kept ((vz _ _).drew),xC.out.trans ((yp.out.drew).mono xC.out.size)⟩
end
