/- The document's files, plain: a name's node by looking through all nodes; The document's paths: pieces, Check, Parts, Tail; -/
import Derived.Test.YtoochjhipmpehaaGreatDoorTvAK
import Derived.Test.YtoochjhipmpehaaGreatDoorVpYK
import Derived.Lib.IndexAny
import Derived.Lib.IndexLaws
set_option linter.unusedVariables false
set_option linter.unusedSimpArgs false
set_option maxRecDepth 100000
set_option maxHeartbeats 2000000
namespace Go.Proofs.YtoochjhipmpehaaGreatDoor
section
theorem pV {m:Nat} (h:m<65536):(m&&&2559=m)↔dn m=false:=by
 have hb:dn m=false↔m&&&62976=0:=by
  unfold dn;rw[show((2559:Int))=((2559:Nat):Int)from rfl,u16_andNot_nat m 2559 h (by omega)];rw[bne_eq_false_iff_eq];show((m&&&62976:Nat):Int)=0↔_;omega
 rw[hb];have t: ∀i,i<16->Nat.testBit 2559 i= !Nat.testBit 62976 i:=(by decide);have big: ∀i,16<=i->Nat.testBit m i=false:=fun i hi=>Nat.testBit_lt_two_pow (vw h (by
  have:2^16<=2^i:=Nat.pow_le_pow_right (by omega) hi;omega))
 constructor
 ·intro e;refine Nat.eq_of_testBit_eq fun i=>?_;rw[Nat.testBit_and,Nat.zero_testBit];by_cases hi:i<16
  ·have h1:=congrArg (fun x=>Nat.testBit x i) e;simp only[Nat.testBit_and,t i hi]at h1;cases ha:Nat.testBit m i<;>cases hc:Nat.testBit 62976 i<;>simp_all
  ·rw[big i (by omega)];rfl
 ·intro e;refine Nat.eq_of_testBit_eq fun i=>?_;rw[Nat.testBit_and];by_cases hi:i<16
  ·have h1:=congrArg (fun x=>Nat.testBit x i) e;simp only[Nat.testBit_and,Nat.zero_testBit]at h1;rw[t i hi];cases ha:Nat.testBit m i<;>cases hc:Nat.testBit 62976 i<;>simp_all
  ·rw[big i (by omega)];rfl
def gk (F:List Nd) (d:Nat) (x:ByteArray) (i:Nat):Prop:=0<i/\ ∃y,F[i]? =some y/\y.up=d/\y.name=x
theorem gO {α β:Type} (f:α->Option β) (p:β->Bool): ∀(l:List α) (k:Nat) (a:α) (b:β),l[k]? =some a->f a=some b->p b=true->(∀j a',j<k->l[j]? =some a'-> ∀b',f a'=some b'->p b'=false)->(l.filterMap f).find? p=some b
 | [],k,a,b,h,_,_,_ =>by simp at h
 |x::l,0,a,b,h,hf,hp,_ =>by
  simp only[List.getElem?_cons_zero,Option.some.injEq]at h;subst h;rw[List.filterMap_cons,hf];simp only;rw[List.find?_cons,hp]
 |x::l,k+1,a,b,h,hf,hp,hn=>by
  rw[List.getElem?_cons_succ]at h;have ih:=gO f p l k a b h hf hp fun j a' hj ha b' hb=>hn (j+1) a' (by omega) (by simpa using ha) b' hb;rw[List.filterMap_cons];cases hx:f x with
  |none=>exact ih
  |some y=>
   simp only;rw[List.find?_cons,hn 0 x (by omega) rfl y hx];exact ih
variable {F:List Nd} {d:Nat} {x:ByteArray}
theorem oK {i:Nat} (h:gk F d x i) (hn: ∀j,j<i-> ¬gk F d x j):cS (aG F d) x=some i:=by
 obtain⟨h0,y,hy,hu,hx⟩:=h;have hi:=(List.getElem?_eq_some_iff.1 hy).1;unfold cS aG;rw[gO _ (fun y=>decide (y.1=x)) (List.range F.length) i i (x,i) (by rw[List.getElem?_range hi]) (by rw[hy];simp only;rw[if_pos ⟨h0,hu⟩,hx]) (by simp) ?_]
 ·rfl
 ·intro j a ha hj b hb;have Aa:j<F.length:=(by omega);rw[List.getElem?_range Aa]at hj;injection hj with hj;subst hj;cases hf:F[j]? with
  |none=>rw[hf]at hb;cases hb
  |some z=>
   rw[hf]at hb;simp only at hb;split at hb
   ·next h3=>
    injection hb with hb;subst hb;rw[decide_eq_false_iff_not];exact fun e=>hn j ha ⟨h3.1,z,hf,h3.2,e⟩
   ·cases hb
theorem jS (hn: ∀j,j<F.length-> ¬gk F d x j):cS (aG F d) x=none:=by
 cases h:cS (aG F d) x with
 |none=>rfl
 |some j=>
  obtain⟨h1,h2,y,h3,h4,h5⟩:=bA (eh h);exact absurd ⟨h2,y,h3,h4,h5⟩ (hn j h1)
def ew (F:List Nd):Prop:= ∀(i:Nat) (y:Nd),0<i->F[i]? =some y->ak F y.up=2
theorem ew.start:ew [aB]:=fun i y h0 h=>by
 cases i with
 |zero=>omega
 |succ i=>simp at h
theorem ew.add {e:Ent} (h:ew F) (hF:FOk F) (h0:(addM F e).1=0):ew (addM F e).2:=by
 obtain⟨_,_,_,up,_,_,hk,Yp,e2⟩:=mo hF h0;rw[e2];intro i y hi hy;by_cases vW:i<F.length
 ·rw[vz vW]at hy;rw[cE _ (hF.each i y hy).up];exact h i y hi hy
 ·rw[vy (by omega)]at hy;have hm:=vA hy;rw[List.mem_singleton]at hm;subst hm;show ak (F++[_]) up=2;rw[cE _ Yp];exact hk
theorem ew.leaf (h:ew F) (hk:ak F d≠2) (x:ByteArray):cS (aG F d) x=none:=jS fun j hj hc=>by
 obtain⟨h0,y,hy,hu,_⟩:=hc;exact hk (hu▸h j y h0 hy)
theorem ew.step (h:ew F) (d:Nat) (x:ByteArray) (l:List ByteArray):atM F d (x::l)=match cS (aG F d) x with|some j=>atM F j l|none=>none:=by
 rw[atM];by_cases hk:ak F d=2
 ·rw[if_pos hk];cases cS (aG F d) x<;>rfl
 ·rw[if_neg hk,h.leaf hk x]
end
section
open Go.RowKit Go.Sort
variable {s:ByteArray}
theorem qc {i:Nat} (h:i<s.size):s.get! i=s[i]:=by
 cases s with
 |mk d=>
  show d[i]! =d[i];exact getElem!_pos d i h
def PcsPost (l:List ByteArray) (w:World) (e:Ending) (w':World):Prop:= ∃A cap,e= .returned (.slice A l.length cap)/\OwnS w' w.heap.size A cap l/\Below w.heap.size w w'
theorem jD (s:ByteArray) (w:World) (hs:s.size<=200):Calls Tryz.prog 85 #[.string s] w (PcsPost (be s) w):=by
 go_enter Tryz.func85,Tryz.ntmps85;go_wp2_with fail;go_loopw [3,4,5] (fun v u i wr=> ∃(A:Option Addr) (cap:Nat) (l:List ByteArray) (fr k:Nat),v= .slice A l.length cap/\u= .int .i64 (fr:Int)/\i= .int .i64 (k:Int)/\OwnS wr w.heap.size A cap l/\Below w.heap.size w wr/\l.length<=k/\((fr<=k/\k<=s.size/\l++cuts s k fr=be s)\/(k=s.size+1/\l=be s))) (fun _ _ i _ =>s.size+1-(intOf i).toNat)
 case atStart=>exact⟨none,0,[],0,0,rfl,rfl,rfl,OwnS.nil _ _,vO _ _,vs _, .inl ⟨vs _,vL _,rfl⟩⟩
 case round=>
  obtain⟨A,cap,l,fr,k,rfl,rfl,rfl,hO,hb,hlen,hrel⟩:=hrel;have HO:=vp hO;have HB:=vp hb;have hzb:=hb.size;clear hO hb;rcases hrel with⟨yJ,hk,hcut⟩|⟨hk,hl⟩
  rotate_left
  ·have HL:=vp hl;have Eh: ¬(k:Int)<=(s.size:Int):=(by omega);clear hl hk;go_wp2_with fail;go_ret;exact⟨A,cap,by rw[HL.out];rfl,by rw[<-HL.out];exact HO.out,HB.out⟩
  have Mj:(k:Int)<=(s.size:Int):=(by omega);have BV:(fr:Int)<=(k:Int):=(by omega);have XJ:=vp (HO.out:World.ownsRow _ _ _ _ _ _ _);have Aw:=vp hcut;clear hcut;by_cases Fu:k=s.size\/(∃h:k<s.size,s[k]=47)
  ·
   have OM:=vp (show(k<s.size/\l++s.extract fr k::cuts s (k+1) (k+1)=be s)\/(k=s.size/\l++[s.extract fr k]=be s)from by
    rcases Fu with e|⟨h1,h2⟩
    ·right;refine⟨e,?_⟩;rw[<-Aw.out,eI (by omega),e]
    ·left;refine⟨h1,?_⟩;rw[<-Aw.out,fM h1 (by rw[qc h1];exact h2)])
   have UW: ∀o,OwnS (wr.alloc o) w.heap.size A cap l:=fun o=>World.ownsRow.alloc HO.out o;have MM:=vp UW;have HF:=vp HO.out.form;clear UW;have EF: ∀(g' vP:Nat) (w4:World),OwnS w4 w.heap.size (some ⟨g',0,none⟩) vP (l++[s.extract fr k])->(wr.alloc (.cells #[.string (s.extract fr k)] 9)).grownBy w4 (A.map (·.block))->Below w.heap.size w w4:=fun g' vP w4 zN Aq=>((HB.out.alloc hzb _).grown Aq (by simp;omega) (fun b hb=>by
    rcases HF.out with⟨e,_⟩|⟨g,e,h1,_⟩
    ·rw[e]at hb;cases hb
    ·rw[e]at hb;simp at hb;omega))
   have OG:=vp EF;clear EF;rcases Fu with he|⟨h1,h2⟩
   ·have b1:((k:Int)==(s.size:Int))=true:=(by rw[beq_iff_eq];omega);have HE:=vp he;clear he;go_wp2_with (first
     |(at_builtin;refine ml rfl (.tmp 22) (.tmp 27) rfl w.heap.size A cap l rfl (MM.out _) (s.extract fr k) wr.heap.size 1 rfl (ab _ _) (by omega) (by simp;omega) ?_;intro g' vP w4 zN Aq FA PD;have yl:=vp zN;have xj:=vp (OG.out g' vP w4 zN Aq);clear zN Aq FA)
     |fail)
    go_roundw
    case rel=>exact⟨some ⟨g',0,none⟩,vP,l++[s.extract fr k],k+1,k+1,by rw[vu];rfl,by go_num,by go_num,yl.out,xj.out,by rw[vu,vB];omega, .inr ⟨by have:=HE.out;omega,(OM.out.elim (fun h=>by have:=HE.out;omega) fun h=>h.2)⟩⟩
    case measure=>(simp[intOf];omega)
   ·have b1:((k:Int)==(s.size:Int))=false:=(by rw[vE];omega);have b2:((s[k].toNat:Int)==47)=true:=(by rw[h2];rfl);clear h2;go_wp2_with (first
     |(at_builtin;refine ml rfl (.tmp 22) (.tmp 27) rfl w.heap.size A cap l rfl (MM.out _) (s.extract fr k) wr.heap.size 1 rfl (ab _ _) (by omega) (by simp;omega) ?_;intro g' vP w4 zN Aq FA PD;have yl:=vp zN;have xj:=vp (OG.out g' vP w4 zN Aq);clear zN Aq FA)
     |fail)
    go_roundw
    case rel=>exact⟨some ⟨g',0,none⟩,vP,l++[s.extract fr k],k+1,k+1,by rw[vu];rfl,by go_num,by go_num,yl.out,xj.out,by rw[vu,vB];omega, .inl ⟨vs _,by omega,(OM.out.elim (fun h=>by rw[List.append_assoc];exact h.2) fun h=>by omega)⟩⟩
    case measure=>(simp[intOf];omega)
  ·have h1:k<s.size:=by
    rcases Nat.lt_or_ge k s.size with h|h
    ·exact h
    ·exact absurd (.inl (by omega)) Fu
   have h2:s[k]≠47:=fun e=>Fu (.inr ⟨h1,e⟩);have b1:((k:Int)==(s.size:Int))=false:=(by rw[vE];omega);have b2:((s[k].toNat:Int)==47)=false:=by
    rw[vE];intro e;exact h2 (UInt8.toNat_inj.1 (by show s[k].toNat=47;omega))
   have yu:=vp (show l++cuts s (k+1) fr=be s by rw[<-Aw.out,iz h1 (by rw[qc h1];exact h2)]);clear Fu h2;go_wp2_with fail;go_roundw
   case rel=>exact⟨A,cap,l,fr,k+1,rfl,rfl,by go_num,HO.out,HB.out,by omega, .inl ⟨by omega,by omega,yu.out⟩⟩
   case measure=>(simp[intOf];omega)
theorem mK (h:s.size=0):s=⟨#[]⟩:=by
 cases s with
 |mk d=>cases d with
  |mk l=>cases l with
   |nil=>rfl
   |cons x l=>simp[ByteArray.size]at h
theorem str_some (h0:s.size≠0):s.toList.isEmpty=false:=by
 cases hc:s.toList with
 |nil=>
  exfalso;apply h0;have h9:s.data.toList=[]:=(by rw[<-hc];exact(ByteArray.toList_eq s).symm);have h8:s.data.toList.length=0:=(by rw[h9];rfl);exact h8
 |cons x l=>rfl
theorem gS {k:Nat} (h:k<s.size):s.data.toList[k]? =some s[k]:=by
 rw[Array.getElem?_toList];exact Array.getElem?_eq_getElem h
theorem zero_at (h:0<=Lib.indexByte s.data.toList 0): ∃(o:Nat) (h:o<s.size),s[o]=0/\ ∀k (hk:k<s.size),k<o->s[k]≠0:=by
 obtain⟨o,ho⟩:=Int.eq_ofNat_of_zero_le h;obtain⟨h1,h2⟩:=Lib.indexByte_some ho;have h3:=(List.getElem?_eq_some_iff.1 h1).1;have vW:o<s.size:=(by simpa using h3);rw[gS vW]at h1;injection h1 with h1;exact⟨o,vW,h1,fun k hk hko e=>h2 k hko (by rw[gS hk,e])⟩
theorem zero_no (h: ¬0<=Lib.indexByte s.data.toList 0): ∀k (hk:k<s.size),s[k]≠0:=fun k hk e=>by
 have h1:=Lib.indexByte_ge s.data.toList 0;have h2:Lib.indexByte s.data.toList 0= -1:=(by omega);exact Lib.indexByte_none h2 k (by rw[gS hk,e])
theorem lB (s:ByteArray) (w:World) (hs:s.size<=1000000000):Calls Tryz.prog 84 #[.string s] w fun e w'=>e= .returned (.int .i64 (chk s))/\Below w.heap.size w w':=by
 by_cases h0:s.size=0
 ·obtain rfl:=mK h0;have hc:chk ⟨#[]⟩=3:=rfl;rw[hc];clear hc hs h0;go_enter Tryz.func84,Tryz.ntmps84;go_wp2_with fail;go_ret;exact⟨rfl,vO _ _⟩
 have wg:=str_some h0;have Px: ¬s.toList=[]:=fun e=>by rw[e]at wg;cases wg
 by_cases hz:0<=Lib.indexByte s.data.toList 0
 ·have hc:chk s=1:=(by unfold chk;rw[if_neg h0,if_pos hz]);obtain⟨o,Pr,wK,BR⟩:=zero_at hz;rw[hc];have BN:=vp BR;have b0:((s[o].toNat:Int)==0)=true:=(by rw[wK];rfl);clear hc hz wK BR;go_enter Tryz.func84,Tryz.ntmps84;go_wp2_with fail;go_loopw [3] (fun i wr=> ∃k:Nat,i= .int .i64 (k:Int)/\k<=o/\w=wr) (fun i _ =>o-(intOf i).toNat)
  case atStart=>exact⟨0,rfl,vL _,rfl⟩
  case round=>
   obtain⟨k,rfl,hk,rfl⟩:=hrel;by_cases e:k=o
   ·subst e;go_wp2_with fail;go_ret;exact⟨rfl,vO _ _⟩
   ·have yG:k<s.size:=(by omega);have h9:=BN.out k yG (by omega);have b1:((s[k].toNat:Int)==0)=false:=by
     rw[vE];intro e2;exact h9 (UInt8.toNat_inj.1 (by show s[k].toNat=0;omega))
    clear h9;go_wp2_with fail;go_roundw
    case rel=>exact⟨k+1,by go_num,by omega,trivial⟩
    case measure=>(simp[intOf];omega)
 have HZ:=vp (zero_no hz);by_cases hl:200<s.size
 ·have hc:chk s=11:=(by unfold chk;rw[if_neg h0,if_neg hz,if_pos hl]);rw[hc];clear hc hz;go_enter Tryz.func84,Tryz.ntmps84;go_wp2_with fail;go_loopw [3] (fun i wr=> ∃k:Nat,i= .int .i64 (k:Int)/\k<=s.size/\w=wr) (fun i _ =>s.size-(intOf i).toNat)
  case atStart=>exact⟨0,rfl,vL _,rfl⟩
  case round=>
   obtain⟨k,rfl,hk,rfl⟩:=hrel;by_cases yG:k<s.size
   ·have h9:=HZ.out k yG;have b1:((s[k].toNat:Int)==0)=false:=by
     rw[vE];intro e2;exact h9 (UInt8.toNat_inj.1 (by show s[k].toNat=0;omega))
    clear h9;go_wp2_with fail;go_roundw
    case rel=>exact⟨k+1,by go_num,by omega,trivial⟩
    case measure=>(simp[intOf];omega)
   ·obtain rfl:k=s.size:=(by omega);go_wp2_with fail;go_ret;exact⟨rfl,vO _ _⟩
 have hc:chk s=if dL (be s)=true then 11 else 0:=by unfold chk;rw[if_neg h0,if_neg hz,if_neg hl]
 rw[hc];have HP:=vp (jD s w (by omega));have RF:=cu s;obtain⟨l,hle⟩: ∃l,l=be s:=⟨_,rfl⟩;rw[<-hle]at HP RF⊢;obtain⟨rv,Yz⟩: ∃rv:Int,rv=if dL l=true then 11 else 0:=⟨_,rfl⟩
 rw[<-Yz];have HRV:=vp Yz;clear hc hz hle Yz;go_enter Tryz.func84,Tryz.ntmps84;go_wp2_with fail;go_loopw [3] (fun i wr=> ∃k:Nat,i= .int .i64 (k:Int)/\k<=s.size/\w=wr) (fun i _ =>s.size-(intOf i).toNat)
 case atStart=>exact⟨0,rfl,vL _,rfl⟩
 case round=>
  obtain⟨k,rfl,hk,rfl⟩:=hrel;by_cases yG:k<s.size
  ·have h9:=HZ.out k yG;have b1:((s[k].toNat:Int)==0)=false:=by
    rw[vE];intro e2;exact h9 (UInt8.toNat_inj.1 (by show s[k].toNat=0;omega))
   clear h9;go_wp2_with fail;go_roundw
   case rel=>exact⟨k+1,by go_num,by omega,trivial⟩
   case measure=>(simp[intOf];omega)
  ·obtain rfl:k=s.size:=(by omega);go_wp2_with (first
    |(go_at_call 85;refine(HP.out).mono ?_;rintro e w1 ⟨A,cap,rfl,hO,vS⟩;have HO:=vp hO;have vY:=vp vS;clear hO vS)
    |fail)
   go_loopw [5] (fun i wr=> ∃q:Nat,i= .int .i64 (q:Int)/\q<=l.length/\dL (l.take q)=false/\w1=wr) (fun i _ =>l.length-(intOf i).toNat)
   case atStart=>exact⟨0,rfl,vL _,rfl,rfl⟩
   case round=>
    obtain⟨q,rfl,hq,Kf,rfl⟩:=hrel;have HLG:=vp Kf;clear Kf;by_cases If:q<l.length
    ·obtain⟨x,hx⟩: ∃x,l[q]? =some x:=⟨l[q],vv If⟩;rcases HO.out.form with⟨_,h2,_⟩|⟨g,yc,_,yi,AV⟩
     ·rw[h2]at If;exact absurd If (Nat.not_lt_zero _)
     subst yc;have wo:=HO.out.elem hx;have LR:=cN hx;have DG:q<cap:=(by omega);by_cases yN:32<x.size
     ·have hlp:dL l=true:=by
       rw[<-List.take_append_drop (q+1) l];refine np ?_;rw[LR,fG];simp[yN]
      have HLP:=vp (show rv=11 by rw[HRV.out,if_pos hlp]);have Hk:(32:Int)<(x.size:Int):=(by omega);clear LR hx hlp;go_wp2_with fail;go_ret;exact⟨by rw[HLP.out];rfl,vY.out⟩
     ·have GN:=vp (show dL (l.take (q+1))=false by rw[LR,fG,HLG.out];simp;omega);have Hk: ¬(32:Int)<(x.size:Int):=(by omega);clear LR hx;go_wp2_with fail;go_roundw
      case rel=>exact⟨q+1,by go_num,by omega,GN.out,trivial⟩
      case measure=>(simp[intOf];omega)
    ·obtain rfl:q=l.length:=(by omega);have HLP:=vp (show rv=0 by
      have h9:=HLG.out;rw[List.take_length]at h9;rw[HRV.out,h9];rfl)
     go_wp2_with fail;go_ret;exact⟨by rw[HLP.out];rfl,vY.out⟩
theorem oE (h:0<s.size):((s[0].toNat:Int)==47)=Lib.hasPrefix s.data.toList [47]:=by
 unfold Lib.hasPrefix;have h0:=gS h;cases hd:s.data.toList with
 |nil=>rw[hd]at h0;cases h0
 |cons x l=>
  rw[hd]at h0;simp only[List.getElem?_cons_zero,Option.some.injEq]at h0;rw[<-h0];have e:List.isPrefixOf [(47:UInt8)] (x::l)=((47:UInt8)==x):=(by simp[List.isPrefixOf]);rw[e,Bool.eq_iff_iff,beq_iff_eq,beq_iff_eq];constructor
  ·intro hx;exact(UInt8.toNat_inj.1 (by show x.toNat=47;omega)).symm
  ·intro hx;rw[<-hx];rfl
theorem om (h:0<s.size):((s[s.size-1].toNat:Int)==47)=Lib.hasSuffix s.data.toList [47]:=by
 unfold Lib.hasSuffix;have h0:=gS (show s.size-1<s.size by omega);have hl:s.data.toList.length=s.size:=rfl;have wg:s.data.toList≠[]:=fun e=>by rw[e]at hl;simp at hl;omega
 have TU:s.data.toList.getLast wg=s[s.size-1]:=by
  rw[List.getLast_eq_getElem];have h1:=vv (show s.data.toList.length-1<s.data.toList.length by omega);have h2:s.data.toList[s.data.toList.length-1]? =some s[s.size-1]:=(by rw[hl];exact h0);rw[h1]at h2;injection h2
 have yA:=List.dropLast_concat_getLast wg;rw[TU]at yA;rw[Bool.eq_iff_iff,beq_iff_eq,List.isSuffixOf_iff_suffix];constructor
 ·intro hx;have h47:s[s.size-1]=47:=UInt8.toNat_inj.1 (by show s[s.size-1].toNat=47;omega);rw[h47]at yA;exact⟨_,yA⟩
 ·rintro⟨t,ht⟩;rw[<-ht]at yA;have:=List.append_inj_right' yA rfl;simp at this;rw[this];rfl
theorem mJ:Lib.hasSuffix (ByteArray.mk #[]).data.toList [47]=false:=rfl
theorem td (s:ByteArray) (w:World) (hs:s.size<=1000000000):Calls Tryz.prog 83 #[.string s] w fun e w'=>e= .returned (.bool (Lib.hasSuffix s.data.toList [47]))/\w=w':=by
 by_cases h0:s.size=0
 ·obtain rfl:=mK h0;rw[mJ];clear hs h0;go_enter Tryz.func83,Tryz.ntmps83;go_wp2_with fail;go_ret;exact⟨rfl,rfl⟩
 ·obtain⟨m,hm⟩: ∃m,s.size=m+1:=⟨s.size-1,by omega⟩;have hml:m<s.size:=(by omega);obtain⟨b,hb⟩: ∃b,b=Lib.hasSuffix s.data.toList [47]:=⟨_,rfl⟩;have h1:((s[m].toNat:Int)==47)=b:=by
   rw[hb,<-om (by omega)];simp only[hm,Nat.add_sub_cancel]
  have i1:(0:Int)<(s.size:Int):=(by omega);have i2:IntKind.i64.wrap ((s.size:Int)-1)=(m:Int):=(by rw[IntKind.wrap_i64];omega);rw[<-hb];have HM:=vp hm;clear hb hm;go_enter Tryz.func83,Tryz.ntmps83;go_wp2_with fail;go_ret;exact⟨rfl,rfl⟩
theorem qR (s:ByteArray) (w:World) (hs:s.size<=1000000000) (hc:chk s≠0):Calls Tryz.prog 42 #[.string s] w fun e w'=>e= .returned (.tuple #[.slice none 0 0, .bool false, .int .i64 (chk s)])/\Below w.heap.size w w':=by
 have HC:=vp (lB s w hs);obtain⟨r,hr⟩: ∃r,r=chk s:=⟨_,rfl⟩;rw[<-hr]at HC hc⊢;have r1:(r != 0)=true:=(by rw[bne_iff_ne];exact hc);clear hc hr;go_enter Tryz.func42,Tryz.ntmps42;go_wp2_with (first
  |(go_at_call 84;refine(HC.out).mono ?_;rintro e w1 ⟨rfl,vS⟩)
  |fail)
 go_ret3;exact⟨rfl,vS⟩
theorem mU (s:ByteArray) (w:World) (hc:chk s=0):Calls Tryz.prog 42 #[.string s] w (cf s w):=by
 obtain⟨z0,z200,_,_⟩:=da hc;have Qd:=lB s w (by omega);rw[hc]at Qd;have HC:=vp Qd;have HP:=vp (fun W=>jD s W z200);have RF:=cu s;have hb:=oE z0;obtain⟨pb,hpb⟩: ∃pb,pb=Lib.hasPrefix s.data.toList [47]:=⟨_,rfl⟩;rw[<-hpb]at hb;obtain⟨l,hl⟩: ∃l,l=be s:=⟨_,rfl⟩;have FN:ar s=l.filter aO:=(by rw[hl];rfl);rw[<-hl]at HP RF;unfold cf;rw[<-hpb,FN];have HB:=vp hb;clear hc Qd hb hpb hl FN;go_enter Tryz.func42,Tryz.ntmps42;go_wp2_with (first
  |(go_at_call 84;refine(HC.out).mono ?_;rintro e w1 ⟨rfl,vS⟩;have vY:=vp vS;have wF:=vS.size;clear vS)
  |(go_at_call 85;refine(HP.out _).mono ?_;rintro e w2 ⟨A2,zk,rfl,zF,wb⟩;have BN:=vp zF;have xF:=vp (vY.out.trans (wb.mono wF));have wL:=wb.size;clear zF wb)
  |fail)
 go_loopw [6,8] (fun v i wr=> ∃(A:Option Addr) (cap q:Nat),v= .slice A ((l.take q).filter aO).length cap/\i= .int .i64 (q:Int)/\q<=l.length/\OwnS wr w2.heap.size A cap ((l.take q).filter aO)/\Below w2.heap.size w2 wr) (fun _ i _ =>l.length-(intOf i).toNat)
 case atStart=>exact⟨none,0,0,rfl,rfl,vL _,OwnS.nil _ _,vO _ _⟩
 case round=>
  obtain⟨A,cap,q,rfl,rfl,hq,hO,yd⟩:=hrel;have HO:=vp hO;have yD:=vp yd;have hzr:=yd.size;clear hO yd;by_cases If:q<l.length
  ·obtain⟨x,hx⟩: ∃x,l[q]? =some x:=⟨l[q],vv If⟩;have LR:=cN hx;rcases BN.out.form with⟨_,h2,_⟩|⟨g,yc,_,yi,AV⟩
   ·rw[h2]at If;exact absurd If (Nat.not_lt_zero _)
   have wo:wr.cell? ⟨g,q,none⟩=some (.string x):=by
    have h9:=BN.out;rw[yc]at h9;exact(yD.out.cell (p:=⟨g,q,none⟩) yi).trans (h9.elem hx)
   subst yc;have DG:q<zk:=(by omega);have yM:((l.take q).filter aO).length<=300:=vM (List.length_filter_le _ _) (by rw[List.length_take];omega);by_cases hp:aO x=true
   ·obtain⟨t1,t2,t3⟩:=iL hp;have QN:=vp (show(l.take (q+1)).filter aO=(l.take q).filter aO++[x] by rw[LR,fh _ hp]);obtain⟨m,hm⟩: ∃m,m=(l.take q).filter aO:=⟨_,rfl⟩;rw[<-hm]at HO yM QN⊢;have MM:=vp (fun o=>(World.ownsRow.alloc HO.out o:OwnS (wr.alloc o) w2.heap.size A cap m));have HF:=vp HO.out.form;clear LR hx hp hm;go_wp2_with (first
     |(at_builtin;refine ml rfl (.tmp 34) (.tmp 39) rfl w2.heap.size A cap m rfl (MM.out _) x wr.heap.size 1 rfl (ab _ _) (by omega) (by simp;omega) ?_;intro g' vP w4 zN Aq FA PD;have yl:=vp zN;have xj:=vp ((yD.out.alloc hzr (.cells #[.string x] 9)).grown Aq (by simp;omega) (fun b hb=>(by rcases HF.out with⟨e,_⟩|⟨g,e,h1,_⟩;(rw[e]at hb;cases hb);(rw[e]at hb;simp at hb;omega))));clear zN Aq FA)
     |fail)
    go_roundw
    case rel=>exact⟨some ⟨g',0,none⟩,vP,q+1,by rw[QN.out,vu];rfl,by go_num,by omega,by rw[QN.out];exact yl.out,xj.out⟩
    case measure=>(simp[intOf];omega)
   ·have YB:aO x=false:=(by simpa using hp);have QN:=vp (show(l.take (q+1)).filter aO=(l.take q).filter aO by rw[LR,fU _ YB]);have wE:=ny YB;obtain⟨m,hm⟩: ∃m,m=(l.take q).filter aO:=⟨_,rfl⟩;rw[<-hm]at HO yM QN⊢;clear LR hx hp YB hm;rcases wE with rfl|rfl
    all_goals
     go_wp2_with fail;go_roundw
     case rel=>exact⟨A,cap,q+1,by rw[QN.out],by go_num,by omega,by rw[QN.out];exact HO.out,yD.out⟩
     case measure=>(simp[intOf];omega)
  ·obtain rfl:q=l.length:=(by omega);have HT:=vp (show l.take l.length=l from List.take_length);obtain⟨l2,wS⟩: ∃l2,l2=l.take l.length:=⟨_,rfl⟩;rw[<-wS]at HO HT⊢;have Hk:=HB.out;have i0:(0:Int)<(s.size:Int):=(by omega);clear wS;go_upto_region 11 with(fail);go_region
   all_goals
    go_wp2_with fail;go_ret3;exact⟨A,cap,by rw[HT.out];rfl,by rw[HT.out]at HO;exact(HO.out.lower xF.out.size).kept ((vO _ _).drew),xF.out.trans ((yD.out.drew).mono xF.out.size)⟩
end
