/- Memories that share nothing, plain: how many frames a table over such pages may name. -/
import Derived.Test.YtoochjhipmpehaaGreatDoorKnK
set_option linter.unusedVariables false
set_option linter.unusedSimpArgs false
set_option maxRecDepth 100000
set_option maxHeartbeats 8000000
namespace Go.Proofs.YtoochjhipmpehaaGreatDoor
open Go.Proofs.Tryz
section
theorem mc (q:Nat->Bool)(n:Nat):((List.range n).filter q).length=br q n:=by
 induction n with
 |zero=>rfl
 |succ n ih=>
  rw[List.range_succ,List.filter_append,wU,ih];show _ =br q n+if q n=true then 1 else 0
  congr 1;cases hq:q n<;>simp[hq]
theorem rm {α β:Type}(f:α->Option β)(l:List α):(l.flatMap fun a=>(f a).toList).length<=l.length:=by
 induction l with
 |nil=>simp
 |cons a l ih=>
  rw[xo,wU,xd];have:=gN (f a);omega
def adAt (ps:List ShM)(j:Nat):Nat:=(ps[j]?.map (·.ad)).getD 0
def aB (ps:List ShM)(m:Nat):Bool:=m/3==0 || part (adAt ps (m/3-1)/4096) (m % 3+1) != part (adAt ps (m/3)/4096) (m % 3+1)
def sP (ps:List ShM):Nat:=1+ps.length+br (aB ps) (3*ps.length)
variable {ps:List ShM}
theorem ju {lv:Nat}(h3:lv<3): ∀j,∃i,i<=j/\aB ps (3*i+lv)=true/\part (adAt ps i/4096) (lv+1)=part (adAt ps j/4096) (lv+1)
 |0=>⟨0,wS _,by unfold aB;rw[show(3*0+lv)/3=0 by omega];rfl,rfl⟩
 |j+1=>by
  by_cases e:part (adAt ps j/4096) (lv+1)=part (adAt ps (j+1)/4096) (lv+1)
  ·obtain⟨i,h1,h2,h4⟩:=ju h3 j;exact⟨i,o_,h2,h4.trans e⟩
  ·refine⟨j+1,wS _,?_,rfl⟩;unfold aB;rw[show(3*(j+1)+lv)/3=j+1 by omega,show(3*(j+1)+lv) % 3=lv by omega,show j+1-1=j by omega,Bool.or_eq_true,bne_iff_ne];exact .inr e
def nmF (t:Tab)(ps:List ShM):List Nat:=(t.nd 4 0).toList++((ps.flatMap fun s=>((t.lf (s.ad/4096)).map (·.frame)).toList)++((List.range (3*ps.length)).filter (aB ps)).flatMap fun m=>(t.nd (m % 3+1) (part (adAt ps (m/3)/4096) (m % 3+1))).toList)
theorem nmF_len (t:Tab)(ps:List ShM):(nmF t ps).length<=sP ps:=by
 unfold nmF sP;rw[wU,wU];have h1:=gN (t.nd 4 0);have h2:=rm (fun s:ShM=>(t.lf (s.ad/4096)).map (·.frame)) ps;have h3:=rm (fun m=>t.nd (m % 3+1) (part (adAt ps (m/3)/4096) (m % 3+1))) ((List.range (3*ps.length)).filter (aB ps));rw[mc]at h3;omega
def Cov (t:Tab)(ps:List ShM):Prop:= ∀g l,t.lf g=some l-> ∃s∈ps,s.ad=g*4096
theorem Tab.Ok.inF {p:Pool}{t:Tab}(h:t.Ok p)(hc:Cov t ps){x:Nat}(hx:0<ai t x+ay t x):x∈nmF t ps:=by
 unfold nmF;rw[List.mem_append,List.mem_append,List.mem_flatMap,List.mem_flatMap];rcases Nat.eq_zero_or_pos (ai t x)with h0|h0
 ·have hn:an t x:=xe fun e=>by rw[aF e]at hx;omega
  obtain⟨lv,q,hq⟩:=hn;obtain⟨l1,l2⟩:=h.level _ _ _ hq;by_cases h4:lv=4
  ·subst h4;have:=h.only _ _ hq;subst this;exact .inl (by rw[hq];simp)
  ·obtain⟨g,l,hl,hg⟩:=h.under lv q x hq o_;obtain⟨s,hs,e⟩:=hc g l hl;obtain⟨j,hj⟩:=List.mem_iff_getElem?.1 hs;obtain⟨lv',rfl⟩: ∃m,lv=m+1:=⟨lv-1,o_⟩;obtain⟨i,h5,h6,h7⟩:=ju (ps:=ps) (lv:=lv') o_ j;have Cj:=(List.getElem?_eq_some_iff.1 hj).1;have ha:adAt ps j/4096=g:=(by unfold adAt;rw[hj];show s.ad/4096=g;omega);rw[ha,hg]at h7;refine .inr (.inr ⟨3*i+lv',List.mem_filter.2 ⟨List.mem_range.2 o_,h6⟩,?_⟩);rw[show(3*i+lv') % 3=lv' by omega,show(3*i+lv')/3=i by omega,h7,hq];simp
 ·obtain⟨g,l,hl,e⟩:=jx h0;obtain⟨s,hs,e2⟩:=hc g l hl;exact .inr (.inl ⟨s,hs,by rw[show s.ad/4096=g by omega,hl];simp[e]⟩)
def nmH:List (Option Tab)->List FlM->List Nat
 |some t::Ts,x::xs=>nmF t x.ps++nmH Ts xs
 |none::Ts,_ ::xs=>nmH Ts xs
 |_,_ =>[]
def dW (x:FlM):Nat:=if x.gone=true then 0 else sP x.ps
def dh:List FlM->Nat
 | []=>0
 |x::xs=>dW x+dh xs
structure CovH (Ts:List (Option Tab))(xs:List FlM):Prop where
 len:Ts.length=xs.length
 each: ∀(k:Nat) (T:Tab) (x:FlM),Ts[k]? =some (some T)->xs[k]? =some x->x.gone=false/\Cov T x.ps/\ ∃p,T.Ok p
variable {Ts:List (Option Tab)}{xs:List FlM}
theorem CovH.tail {o:Option Tab}{x:FlM}(h:CovH (o::Ts) (x::xs)):CovH Ts xs:=
 ⟨by have:=h.len;simpa using this,fun k T y h1 h2=>h.each (k+1) T y h1 h2⟩
theorem CovH.names: ∀ {Ts:List (Option Tab)} {xs:List FlM},CovH Ts xs->(nmH Ts xs).length<=dh xs/\ ∀f,0<tnS Ts f->f∈nmH Ts xs
 | [],[],h=>⟨wS _,fun f hf=>by rw[gL]at hf;omega⟩
 | [],_ ::_,h=>by have:=h.len;simp at this
 |_ ::_,[],h=>by have:=h.len;simp at this
 |none::Ts,x::xs,h=>by
  obtain⟨h1,h2⟩:=h.tail.names;refine⟨?_,fun f hf=>h2 f ?_⟩
  ·show(nmH Ts xs).length<=dW x+dh xs;omega
  ·rw[bM]at hf;have:tnO none f=0:=rfl;omega
 |some T::Ts,x::xs,h=>by
  obtain⟨h1,h2⟩:=h.tail.names;obtain⟨a1,a2,p,a3⟩:=h.each 0 T x rfl rfl;refine⟨?_,fun f hf=>?_⟩
  ·show(nmF T x.ps++nmH Ts xs).length<=dW x+dh xs;have:=nmF_len T x.ps;unfold dW;rw[a1,wU,if_neg d_];omega
  ·rw[bM]at hf;show f∈nmF T x.ps++nmH Ts xs;rw[List.mem_append];rcases Nat.eq_zero_or_pos (tnO (some T) f)with h0|h0
   ·exact .inr (h2 f o_)
   ·exact .inl (a3.inF a2 h0)
theorem CovH.few {n:Nat}{gs:List Nat}(h:CovH Ts xs)(hg:gs.length<=3)(hf: ∀f,f<n->0<tnS Ts f\/f∈gs):n<=dh xs+3:=by
 obtain⟨h1,h2⟩:=h.names;have h3:=qC n (nmH Ts xs++gs) fun f xw=>by
  rw[List.mem_append];exact(hf f xw).imp (h2 f) id
 rw[wU]at h3;omega
end
section
open Go.RowKit Go.Sort
variable {w w' w2:World}{D q base cap:Nat}{R:Option Addr}{x x' x2:FlM}
theorem vC (h:az w D q x):Calls prog 54 #[.pointer (some ⟨x.f,0,none⟩)] w fun e w'=>e= .returned (.tuple #[])/\aU w D q x w' { x with gone:=true} :=by
 obtain⟨-, -, -,c3⟩:=h.c;have z3:=ae h.self 3;have hn:aU w D q x (w.setCell ⟨x.f,3,none⟩ (.bool true)) { x with gone:=true} :=by
  have hm:=aj (S:=fun b=>b=x.f) (w:=w) (b:=x.f) rfl 3 (.bool true);have hs:=h.self;refine⟨⟨?_,h.low,h.reg.sameR2 fun g e=>?_,h.row.same fun g e=>?_,fun s Cx=>(h.pages s Cx).set ((h.pages s Cx).ne hs d_)⟩,rfl,hm.sub fun b e=> .inl e,Out.refl _ _⟩
  ·have h9:=Joins.block_setCell (i:=3) hs (.bool true);exact h9
  ·obtain⟨cur,h2⟩:=bj h.reg e;exact hm.block g (wO h2).1 (aZ h2 hs d_)
  ·obtain⟨cur,h2⟩:=bj h.row e;exact hm.block g (wO h2).1 (aZ h2 hs d_)
 have HN:=wP hn;clear hn h;go_enter func54,ntmps54;go_wp2_with fail;go_end0;exact⟨rfl,HN.o⟩
theorem flat_new (q:Nat)(w:World)(hD:D<=w.heap.size):Calls prog 45 #[.pointer (some ⟨q,0,none⟩)] w fun e w'=> ∃f,e= .returned (.pointer (some ⟨f,0,none⟩))/\w.heap.size<=f/\az w' D q ⟨f,none,0,[],none,0,[],false⟩/\Below w.heap.size w w':=by
 go_enter func45,ntmps45;go_wp2_with fail;go_ret;refine⟨w.heap.size,rfl,wS _,⟨ab w _,hD,OwnR.nil _ _,OwnG.nil _ _,fun s hs=>by cases hs⟩,wR⟩
theorem uD:Elem 59 45 5 40 (.agg #[.int .u64 0,.int .u64 0,.int .u8 0,.int .i64 0,.int .u64 0]) rc:=
 ⟨underlying59,k_,rfl,d_,d_,fun _ =>rfl,fun x v hv=>by simp[rc]at hv;rcases hv with rfl|rfl|rfl|rfl|rfl<;>rfl⟩
theorem qZ (l:List Reg):rcs l=l.flatMap rc:=by
 induction l with
 |nil=>rfl
 |cons r l ih=>rw[xo,<-ih];rfl
variable {l:List Reg}{A:Option Addr}
theorem OwnR.toG (h:OwnR w base A cap l):OwnG 45 5 rc w base A cap l:=by unfold OwnG;rw[<-qZ];exact h
theorem OwnR.ofG (h:OwnG 45 5 rc w base A cap l):OwnR w base A cap l:=by unfold OwnG at h;rw[<-qZ]at h;exact h
section
variable {α:Type}{sT T:TypeId}{k bytes:Nat}{z:Value}{C:α->List Value}
theorem OwnG.read (hE:Elem sT T k bytes z C){L:List α}(h:OwnG T k C w base R cap L):0<L.length-> ∃x,R=some x/\ ∀j u,(L.flatMap C)[j]? =some u->w.cell? (x.add j)=some u:=fun h0=>by
 rcases h.form with⟨_,e,_⟩|⟨g,e,_⟩
 ·rw[e]at h0;cases h0
 ·subst e;have h1:=h.part hE 0 L.length;rw[List.drop_zero,List.take_length,Nat.zero_mul]at h1;exact⟨_,rfl,h1⟩
theorem nS (hE:Elem sT T k bytes z C){w:World}{ops:Array Oper}{o:Oper}{a:Act}{K:Act->World->Prop}{Q:Exit->Act->World->Prop}{E:Prop}(zH:o.guard=none)(s x:Operand)
  (ho:o.op= .call { callee:= .builtin .append,args:= #[s,x],argTypes:= #[sT,sT]})
  (base:Nat)(R:Option Addr)(cap k1 m:Nat)(L L2:List α)(hk:L.length=k1)(hm:L2.length=m)(hs:a.eval s= .slice R k1 cap)(xC:OwnG T k C w base R cap L)
  (ad:Option Addr)(c:Nat)(hx:a.eval x= .slice ad m c)(hA:0<m-> ∃x,ad=some x/\ ∀j u,(L2.flatMap C)[j]? =some u->w.cell? (x.add j)=some u)(xD:k1+m<=1000000)(xH:base<=w.heap.size)
  (h: ∀R' xq w',OwnG T k C w' base R' xq (L++L2)->Below base w w'->K (a.put o.dst (.slice R' (k1+m) xq)) w'):
  if Region.wanted o (yielded ops a.tmps)=true then Oper.wp prog o a w K Q else E:=by
 obtain⟨i0,zx,xT,xQ,xX⟩:=info_parts hE.info;have AK:=hE.small;by_cases GS:m=0
 ·subst GS;have xW:L2=[]:=List.eq_nil_of_length_eq_zero hm;subst xW;have hle:k1<=cap:=by
   rcases xC.form with⟨_,e,e2⟩|⟨g,_,_,_,e⟩
   ·rw[e]at hk;simp at hk;omega
   ·omega
  have Ae:Src prog i0.size sT (.slice ad 0 c) 0 [] w:=by
   cases ad with
   |none=>exact Src.ofNil w hE.und c
   |some ad=>exact Src.ofSlice w hE.und ad 0 c [] s_ (fun j u hu=>by simp at hu) (fun u hu=>by cases hu)
  have yL:=run_append_nothing (P:=prog) w sT sT o.type T i0 hE.und zx R k1 cap hle (.slice ad 0 c) Ae;have h9:=h R cap w (by rw[List.append_nil];exact xC) (xp _ _);rw[if_pos (by unfold Region.wanted;rw[zH])];unfold Oper.wp;simp[execOp,ho,resolve,invoke,builtin,hs,hx,yL,Result.andThen];exact h9
 ·obtain⟨xa,rfl,Hr⟩:=hA o_;refine step_append_lies w zH s x sT ho base T i0 _ k bytes hE.und zx xT xQ xX hE.size hE.pos _ L.length (L.flatMap C) (by rw[hs,hk]) xC xa m c (L2.flatMap C) hx (by rw[hE.flat,hm]) Hr
   (fun u hu=>by obtain⟨r,_,hr⟩:=List.mem_flatMap.1 hu;exact hE.one r u hr) o_ (by unfold maxLen;omega) (xn (Nat.mul_le_mul (show L.length+m<=1000000 by omega) AK) d_) xH w.heap.size rfl ?_
  intro g xq w' zg hg yr xw;rw[hk]at zg⊢;refine h (some ⟨g,0,none⟩) xq w' ?_ ?_
  ·unfold OwnG;rw[List.flatMap_append,wU,hk,hm];exact zg
  ·have yE:w.grownBy w' (R.map (·.block)):=by cases R<;>simpa [Value.ownBlock]using hg
   exact(xp _ _).grown yE xH (fun b hb=>by
    rcases xC.form with⟨e,_⟩|⟨g,e,h1,_⟩
    ·rw[e]at hb;cases hb
    ·rw[e]at hb;simp at hb;omega)
end
variable {ps:List ShM}{k lv:Nat}{s:ShM}
theorem jb (hs:ps[k]? =some s)(h3:lv<3):aB ps (3*k+lv)=(k==0 || part (adAt ps (k-1)/4096) (lv+1) != part (s.ad/4096) (lv+1)):=by
 unfold aB;rw[show(3*k+lv)/3=k by omega,show(3*k+lv) % 3=lv by omega];have:adAt ps k=s.ad:=(by unfold adAt;rw[hs];rfl);rw[this]
theorem kJ {b:Bool}(h:aB ps (3*k+lv)=b):br (aB ps) (3*k+(lv+1))=br (aB ps) (3*k+lv)+if b=true then 1 else 0:=by
 show br (aB ps) (3*k+lv+1)=_;rw[<-h];rfl
theorem jT (ps:List ShM)(n:Nat):br (aB ps) n<=n:=by
 rw[<-mc];exact xn (List.length_filter_le _ _) (by rw[List.length_range];exact wS _)
theorem ja (a lv:Nat):part (a/4096) lv=a/(4096*512^lv):=Nat.div_div_eq_div_mul _ _ _
theorem vy (h:az w D q x)(Al:x.gone=false->x.ps.length<=200000):Calls prog 14 #[.pointer (some ⟨x.f,0,none⟩)] w fun e w'=>e= .returned (.int .i64 (dW x:Nat))/\w=w':=by
 have hg:=dL h;obtain⟨-, -,c2, -⟩:=h.c;obtain⟨H,HG⟩:=zh2 h hg;clear h hg;have EB:dW x=if x.gone=true then 0 else sP x.ps:=rfl
 cases za:x.gone with
 |true=>
  rw[za]at HG;rw[EB,za,if_pos rfl];clear EB;go_enter func14,ntmps14;go_wp2_with (first
   |(go_at_call 55;refine(HG.o).mono ?_;rintro e w1⟨rfl,rfl⟩)
   |fail)
  go_ret;exact⟨rfl,rfl⟩
 |false=>
  rw[za]at HG;have hp2:=Al za;have Jl:=wP (show dW x=1+x.ps.length+br (aB x.ps) (3*x.ps.length) by rw[EB,za,if_neg d_];rfl);clear EB Al;go_enter func14,ntmps14;go_wp2_with (first
   |(go_at_call 55;refine(HG.o).mono ?_;rintro e w1⟨rfl,rfl⟩)
   |fail)
  go_loopw [3,4] (fun n i wr=> ∃k:Nat,k<=x.ps.length/\n= .int .i64 ((1+x.ps.length+br (aB x.ps) (3*k):Nat):Int)/\i= .int .i64 (k:Int)/\wr=w) (fun _ i _ =>x.ps.length-(intOf i).toNat)
  case atStart=>exact⟨0,xm _,by show _ =Value.int .i64 (((1+x.ps.length+0:Nat)):Int);go_num,rfl,rfl⟩
  case round=>
   obtain⟨k,hk,rfl,rfl,rfl⟩:=hrel;by_cases xw:k<x.ps.length
   rotate_left
   ·obtain rfl:k=x.ps.length:=o_;rw[<-Jl.o];go_wp2_with fail;go_ret;exact⟨rfl,rfl⟩
   ·obtain⟨s,hs⟩: ∃s,x.ps[k]? =some s:=⟨_,wV xw⟩;obtain⟨g,Gs,NP,Gk⟩: ∃g,x.PA=some ⟨g,0,none⟩/\g<wr.heap.size/\x.ps.length<=x.pc:=by
     rcases H.o.row.form with⟨_,e,_⟩|⟨g,e,_,h1,h2⟩
     ·rw[e]at xw;simp at xw
     ·exact⟨g,e,h1,h2⟩
    have xG:=H.o.row;rw[Gs]at xG c2;have d0:wr.cell? ⟨g,k*2,none⟩=some (.int .u64 (s.ad:Int)):=xG.cell cy hs 0 o_;have Sq: ∃t:ShM,(0<k->x.ps[k-1]? =some t/\wr.cell? ⟨g,(k-1)*2,none⟩=some (.int .u64 (t.ad:Int))):=by
     by_cases h0:0<k
     ·have ht:x.ps[k-1]? =some x.ps[k-1]:=wV o_;exact⟨_,fun _ =>⟨ht,xG.cell cy ht 0 o_⟩⟩
     ·exact⟨s,fun h=>absurd h h0⟩
    obtain⟨t,ht⟩:=Sq;have hi:k<x.pc:=o_;obtain⟨HT,HS⟩:=zh2 ht hs;clear ht hs xG;go_wp2_with fail;go_loopw [3,5] (fun n i wr2=> ∃lv:Nat,lv<=3/\n= .int .i64 ((1+x.ps.length+br (aB x.ps) (3*k+lv):Nat):Int)/\i= .int .i64 ((lv+1:Nat):Int)/\wr2=wr) (fun _ i _ =>4-(intOf i).toNat)
    case atStart=>exact⟨0,o_,rfl,rfl,rfl⟩
    case round=>
     obtain⟨lv,yR,rfl,rfl,rfl⟩:=hrel;obtain rfl|rfl|rfl|rfl:lv=3\/lv=0\/lv=1\/lv=2:=o_
     ·go_wp2_with fail;go_roundw
      case rel=>exact⟨k+1,o_,rfl,by go_num,trivial⟩
      case measure=>(simp[intOf];omega)
     ·have DV:=jb HS.o (show 0<3 by omega);rw[ja,ja]at DV;have Hc:=jT x.ps (3*k+0);obtain⟨N,hN⟩: ∃N,N=1+x.ps.length+br (aB x.ps) (3*k+0):=⟨_,rfl⟩;have hNb:N<=1000000:=o_;rw[<-hN];have yi:=fun b (h:aB x.ps (3*k+0)=b)=>kJ h;obtain⟨CG,QI,Bo⟩:=zh3 hN DV yi;clear hN DV yi Hc;have yes:aB x.ps (3*k+0)=true->1+x.ps.length+br (aB x.ps) (3*k+(0+1))=N+1:=fun h=>by
       have:=Bo.o true h;rw[if_pos rfl]at this;have:=CG.o;omega
      have no:aB x.ps (3*k+0)=false->1+x.ps.length+br (aB x.ps) (3*k+(0+1))=N:=fun h=>by
       have:=Bo.o false h;rw[if_neg d_]at this;have:=CG.o;omega
      obtain⟨YES,NO⟩:=zh2 yes no;clear yes no;obtain rfl|⟨j,hj⟩:k=0\/ ∃j,k=j+1:=by(cases k with|zero=>exact .inl rfl|succ j=>exact .inr ⟨j,rfl⟩)
      ·have HY:=wP (YES.o (by rw[QI.o];rfl));go_wp2_with fail;go_roundw
       case rel=>exact⟨0+1,o_,by rw[HY.o];go_num,by go_num,trivial⟩
       case measure=>(first|(simp[intOf];done)|(simp[intOf];omega))
      ·obtain⟨CX,Cw⟩:=HT.o o_;rw[show k-1=j by omega]at CX Cw;have PZ:adAt x.ps (k-1)=t.ad:=(by(unfold adAt;rw[show k-1=j by omega,CX];rfl));have hjc:j<x.pc:=o_;have Ha:(k:Int)-1=(j:Int):=o_;have TV:IntKind.i64.wrap (j:Int)=(j:Int):=(by(rw[IntKind.wrap_i64];omega));have Ik:((k:Int)==0)=false:=(by(rw[xf];omega));have zh:(k==0)=false:=(by(rw[xf];omega));have DV:=QI.o;rw[PZ]at DV;have AJ:=wP DV;clear DV PZ CX hj;by_cases he:t.ad/2097152=s.ad/2097152
       ·have b1:((t.ad:Int)/2097152 != (s.ad:Int)/2097152)=false:=(by(rw[bne_eq_false_iff_eq];omega));have HZ:=wP (NO.o (by rw[AJ.o,show 4096*512^(0+1)=2097152 by decide,he,zh];simp));clear he zh;go_wp2_with fail;go_roundw
        case rel=>exact⟨0+1,o_,by rw[HZ.o],by go_num,trivial⟩
        case measure=>(first|(simp[intOf];done)|(simp[intOf];omega))
       ·have b1:((t.ad:Int)/2097152 != (s.ad:Int)/2097152)=true:=(by(rw[bne_iff_ne];omega));have HZ:=wP (YES.o (by rw[AJ.o,show 4096*512^(0+1)=2097152 by decide];simp[he]));clear he zh;go_wp2_with fail;go_roundw
        case rel=>exact⟨0+1,o_,by rw[HZ.o];go_num,by go_num,trivial⟩
        case measure=>(first|(simp[intOf];done)|(simp[intOf];omega))
     ·have DV:=jb HS.o (show 1<3 by omega);rw[ja,ja]at DV;have Hc:=jT x.ps (3*k+1);obtain⟨N,hN⟩: ∃N,N=1+x.ps.length+br (aB x.ps) (3*k+1):=⟨_,rfl⟩;have hNb:N<=1000000:=o_;rw[<-hN];have yi:=fun b (h:aB x.ps (3*k+1)=b)=>kJ h;obtain⟨CG,QI,Bo⟩:=zh3 hN DV yi;clear hN DV yi Hc;have yes:aB x.ps (3*k+1)=true->1+x.ps.length+br (aB x.ps) (3*k+(1+1))=N+1:=fun h=>by
       have:=Bo.o true h;rw[if_pos rfl]at this;have:=CG.o;omega
      have no:aB x.ps (3*k+1)=false->1+x.ps.length+br (aB x.ps) (3*k+(1+1))=N:=fun h=>by
       have:=Bo.o false h;rw[if_neg d_]at this;have:=CG.o;omega
      obtain⟨YES,NO⟩:=zh2 yes no;clear yes no;obtain rfl|⟨j,hj⟩:k=0\/ ∃j,k=j+1:=by(cases k with|zero=>exact .inl rfl|succ j=>exact .inr ⟨j,rfl⟩)
      ·have HY:=wP (YES.o (by rw[QI.o];rfl));go_wp2_with fail;go_roundw
       case rel=>exact⟨1+1,o_,by rw[HY.o];go_num,by go_num,trivial⟩
       case measure=>(first|(simp[intOf];done)|(simp[intOf];omega))
      ·obtain⟨CX,Cw⟩:=HT.o o_;rw[show k-1=j by omega]at CX Cw;have PZ:adAt x.ps (k-1)=t.ad:=(by(unfold adAt;rw[show k-1=j by omega,CX];rfl));have hjc:j<x.pc:=o_;have Ha:(k:Int)-1=(j:Int):=o_;have TV:IntKind.i64.wrap (j:Int)=(j:Int):=(by(rw[IntKind.wrap_i64];omega));have Ik:((k:Int)==0)=false:=(by(rw[xf];omega));have zh:(k==0)=false:=(by(rw[xf];omega));have DV:=QI.o;rw[PZ]at DV;have AJ:=wP DV;clear DV PZ CX hj;by_cases he:t.ad/1073741824=s.ad/1073741824
       ·have b1:((t.ad:Int)/1073741824 != (s.ad:Int)/1073741824)=false:=(by(rw[bne_eq_false_iff_eq];omega));have HZ:=wP (NO.o (by rw[AJ.o,show 4096*512^(1+1)=1073741824 by decide,he,zh];simp));clear he zh;go_wp2_with fail;go_roundw
        case rel=>exact⟨1+1,o_,by rw[HZ.o],by go_num,trivial⟩
        case measure=>(first|(simp[intOf];done)|(simp[intOf];omega))
       ·have b1:((t.ad:Int)/1073741824 != (s.ad:Int)/1073741824)=true:=(by(rw[bne_iff_ne];omega));have HZ:=wP (YES.o (by rw[AJ.o,show 4096*512^(1+1)=1073741824 by decide];simp[he]));clear he zh;go_wp2_with fail;go_roundw
        case rel=>exact⟨1+1,o_,by rw[HZ.o];go_num,by go_num,trivial⟩
        case measure=>(first|(simp[intOf];done)|(simp[intOf];omega))
     ·have DV:=jb HS.o (show 2<3 by omega);rw[ja,ja]at DV;have Hc:=jT x.ps (3*k+2);obtain⟨N,hN⟩: ∃N,N=1+x.ps.length+br (aB x.ps) (3*k+2):=⟨_,rfl⟩;have hNb:N<=1000000:=o_;rw[<-hN];have yi:=fun b (h:aB x.ps (3*k+2)=b)=>kJ h;obtain⟨CG,QI,Bo⟩:=zh3 hN DV yi;clear hN DV yi Hc;have yes:aB x.ps (3*k+2)=true->1+x.ps.length+br (aB x.ps) (3*k+(2+1))=N+1:=fun h=>by
       have:=Bo.o true h;rw[if_pos rfl]at this;have:=CG.o;omega
      have no:aB x.ps (3*k+2)=false->1+x.ps.length+br (aB x.ps) (3*k+(2+1))=N:=fun h=>by
       have:=Bo.o false h;rw[if_neg d_]at this;have:=CG.o;omega
      obtain⟨YES,NO⟩:=zh2 yes no;clear yes no;obtain rfl|⟨j,hj⟩:k=0\/ ∃j,k=j+1:=by(cases k with|zero=>exact .inl rfl|succ j=>exact .inr ⟨j,rfl⟩)
      ·have HY:=wP (YES.o (by rw[QI.o];rfl));go_wp2_with fail;go_roundw
       case rel=>exact⟨2+1,o_,by rw[HY.o];go_num,by go_num,trivial⟩
       case measure=>(first|(simp[intOf];done)|(simp[intOf];omega))
      ·obtain⟨CX,Cw⟩:=HT.o o_;rw[show k-1=j by omega]at CX Cw;have PZ:adAt x.ps (k-1)=t.ad:=(by(unfold adAt;rw[show k-1=j by omega,CX];rfl));have hjc:j<x.pc:=o_;have Ha:(k:Int)-1=(j:Int):=o_;have TV:IntKind.i64.wrap (j:Int)=(j:Int):=(by(rw[IntKind.wrap_i64];omega));have Ik:((k:Int)==0)=false:=(by(rw[xf];omega));have zh:(k==0)=false:=(by(rw[xf];omega));have DV:=QI.o;rw[PZ]at DV;have AJ:=wP DV;clear DV PZ CX hj;by_cases he:t.ad/549755813888=s.ad/549755813888
       ·have b1:((t.ad:Int)/549755813888 != (s.ad:Int)/549755813888)=false:=(by(rw[bne_eq_false_iff_eq];omega));have HZ:=wP (NO.o (by rw[AJ.o,show 4096*512^(2+1)=549755813888 by decide,he,zh];simp));clear he zh;go_wp2_with fail;go_roundw
        case rel=>exact⟨2+1,o_,by rw[HZ.o],by go_num,trivial⟩
        case measure=>(first|(simp[intOf];done)|(simp[intOf];omega))
       ·have b1:((t.ad:Int)/549755813888 != (s.ad:Int)/549755813888)=true:=(by(rw[bne_iff_ne];omega));have HZ:=wP (YES.o (by rw[AJ.o,show 4096*512^(2+1)=549755813888 by decide];simp[he]));clear he zh;go_wp2_with fail;go_roundw
        case rel=>exact⟨2+1,o_,by rw[HZ.o];go_num,by go_num,trivial⟩
        case measure=>(first|(simp[intOf];done)|(simp[intOf];omega))
theorem az.lowerD {base:Nat}(h:az w base q x)(hD:D<=base):az w D q x:=
 ⟨h.self,xn hD h.low,⟨h.reg.1,h.reg.2.imp id fun⟨g,cp,cur,e1,e2,e3⟩=>⟨g,cp,cur,e1,xn hD e2,e3⟩⟩,h.row.lower hD,fun s hs=>by
  obtain⟨d,hd⟩:=h.pages s hs;exact⟨d,hd.lower hD⟩⟩
theorem az.snoc {w7 w8:World}{g xq:Nat}(h:az w D q x)(hD:D<=w.heap.size)(hb:Below w.heap.size w w7)(hs:Pg w7 w.heap.size s.g s.cp)(ho:OwnG 119 2 shC w8 D (some ⟨g,0,none⟩) xq (x.ps++[s]))
  (hm:Mod (fun b=>x.PA=some ⟨b,0,none⟩) w7 w8):az (w8.setCell ⟨x.f,2,none⟩ (.slice (some ⟨g,0,none⟩) (x.ps.length+1) xq)) D q { x with PA:=some ⟨g,0,none⟩,pc:=xq,ps:=x.ps++[s]} :=by
 have h7:=h.kept hb;have xA: ∀ {T:TypeId} {cs:Array Value} {f:Nat×Nat} {b:Nat},w7.heap[b]? =some (.cells cs T f)->T≠119->x.PA≠some ⟨b,0,none⟩:=fun xx hT e=>by
  obtain⟨cur,h9⟩:=bj h7.row e;exact aZ xx h9 hT rfl
 have hs8:=(hm.block _ h7.lt (xA h7.self d_)).trans h7.self;have yq:=aj (S:=fun b=>b=x.f) (w:=w8) (b:=x.f) rfl 2 (.slice (some ⟨g,0,none⟩) (x.ps.length+1) xq);have zq: ∀t:ShM,Pg w7 D t.g t.cp->Pg (w8.setCell ⟨x.f,2,none⟩ (.slice (some ⟨g,0,none⟩) (x.ps.length+1) xq)) D t.g t.cp:=fun t ht=>by
  obtain⟨d,hd⟩:=ht;obtain⟨_,_,_,e1,hg⟩:=hd.byteRow.2.1 _ rfl;injection e1 with e1;subst e1;have h9:Pg w8 D t.g t.cp:=⟨d,.ofG (hd.toG.same fun b e=>by injection e with e;injection e with e;subst e;exact hm.block _ hd.form.2 (xA hg d_))⟩;exact h9.set (h9.ne hs8 d_)
 refine⟨?_,h.low,h7.reg.sameR2 fun b e=>?_,ho.same fun b e=>?_,fun t ht=>zq t ?_⟩
 ·have h9:=Joins.block_setCell (i:=2) hs8 (.slice (some ⟨g,0,none⟩) (x.ps.length+1) xq);have h5:(x.ps++[s]).length=x.ps.length+1:=(by rw[wU];rfl);unfold flV;dsimp only;rw[h5];exact h9
 ·obtain⟨cur,h2⟩:=bj h7.reg e;have hl:=(wO h2).1;exact(yq.block b (wW hl hm.size) (aZ h2 h7.self d_)).trans (hm.block b hl (xA h2 d_))
 ·obtain⟨cur,h2⟩:=bj ho e;exact yq.block b (wO h2).1 (aZ h2 hs8 d_)
 ·rcases List.mem_append.1 ht with ht|ht
  ·exact h7.pages t ht
  ·rw[List.mem_singleton.1 ht];obtain⟨d,hd⟩:=hs;exact⟨d,hd.lower hD⟩
def FForked (w:World)(q:Nat)(x:FlM)(e:Ending)(w':World):Prop:=
 (x.gone=true/\e= .returned (.tuple #[.pointer none,.int .i64 2])/\w=w')\/(x.gone=false/\ ∃x2:FlM,e= .returned (.tuple #[.pointer (some ⟨x2.f,0,none⟩),.int .i64 0])/\az w' w.heap.size q x2/\x2.gone=false/\x2.rl=x.rl/\x2.ps.map (·.ad)=x.ps.map (·.ad)/\Below w.heap.size w w')
theorem vD (h:az w D q x)(DE:x.rl.length<=1000000)(Al:x.gone=false->x.ps.length<=200000)(hD:D<=w.heap.size):Calls prog 53 #[.pointer (some ⟨x.f,0,none⟩)] w (FForked w q x):=by
 have hg:=dL h;obtain⟨c0,c1,c2, -⟩:=h.c;have yO:=h.lt;obtain⟨H,HG⟩:=zh2 h hg;clear h hg;cases za:x.gone with
 |true=>
  rw[za]at HG;go_enter func53,ntmps53;go_wp2_with (first
   |(go_at_call 55;refine(HG.o).mono ?_;rintro e w1⟨rfl,rfl⟩)
   |fail)
  go_ret2;exact .inl ⟨za,rfl,rfl⟩
 |false=>
  rw[za]at HG;have hp2:=Al za;have KP:=wP (show∀W,Below w.heap.size w W->0<x.rl.length-> ∃y,x.A=some y/\ ∀j u,(x.rl.flatMap rc)[j]? =some u->W.cell? (y.add j)=some u from fun W hW=>((H.o.reg.below hW (wS _)).toG).read uD);clear Al;go_enter func53,ntmps53;go_upto_region 3 with(first
   |(go_at_call 55;refine(HG.o).mono ?_;rintro e w1⟨rfl,rfl⟩)
   |fail)
  go_cut [4]from 8 to 19 (fun v wx=> ∃f2 A2 c2,v= .pointer (some ⟨f2,0,none⟩)/\az wx w.heap.size q ⟨f2,A2,c2,x.rl,none,0,[],false⟩/\Below w.heap.size w wx)
  case first=>
   go_region_held3 (fun w'=>w'.cell? ⟨x.f,0,none⟩=some (.pointer (some ⟨q,0,none⟩))/\w'.cell? ⟨x.f,1,none⟩=some (.slice x.A x.rl.length x.cap))
    (go_keep)
    ((first
    |(refine nS uD (by rfl) (.tmp 12) (.tmp 16) (by rfl) w.heap.size (some ⟨w.heap.size,0,none⟩) 0 0 x.rl.length [] x.rl rfl rfl (by rfl) (OwnG.made0 _ _ _ w.drew) x.A x.cap (by rfl) (KP.o _ (((xp w.heap.size w).drew).alloc s_ _)) o_ s_ ?_;intro R3 zQ w3 Am xE;obtain⟨yZ,Jk⟩:=zh2 ((((xp w.heap.size w).drew).alloc s_ _).trans xE) Am;have d0:=(yZ.o.cell (p:=⟨x.f,0,none⟩) yO).trans c0;have d1:=(yZ.o.cell (p:=⟨x.f,1,none⟩) yO).trans c1;clear Am xE)))
   all_goals
    go_wp2_with fail
    go_meet
    exact⟨_,R3,zQ,rfl,⟨ab w3 _,yZ.o.size,OwnR.ofG (Jk.o.alloc _),OwnG.nil _ _,fun s hs=>by cases hs⟩,yZ.o.alloc yZ.o.size _⟩
  case rest=>
  obtain⟨f2,A2,c2',rfl,Bn,xx⟩:=hcut;obtain⟨w2,rfl⟩:=e_ wc;obtain⟨Nt,yW⟩:=zh2 Bn xx;clear Bn xx c0 c1;go_wp2_with fail;go_loopw [5] (fun i wr=> ∃(k:Nat) (R2:Option Addr) (cp2:Nat) (ps2:List ShM),k<=x.ps.length/\i= .int .i64 (k:Int)/\az wr w.heap.size q ⟨f2,A2,c2',x.rl,R2,cp2,ps2,false⟩/\ps2.map (·.ad)=(x.ps.take k).map (·.ad)/\Below w.heap.size w wr) (fun i _ =>x.ps.length-(intOf i).toNat)
  case atStart=>exact⟨0,none,0,[],xm _,rfl,Nt.o,rfl,yW.o⟩
  case round=>
   obtain⟨k,R2,cp2,ps2,hk,rfl,hi,Au,hb⟩:=hrel;have e2:=(hb.cell (p:=⟨x.f,2,none⟩) yO).trans c2;by_cases xw:k<x.ps.length
   rotate_left
   ·obtain rfl:k=x.ps.length:=o_;rw[List.take_length]at Au;obtain⟨HI,Gz,HB⟩:=zh3 hi Au hb;clear hi Au hb;go_wp2_with fail;go_ret2;exact .inr ⟨za,_,rfl,HI.o,rfl,rfl,Gz.o,HB.o⟩
   ·obtain⟨s,hs⟩: ∃s,x.ps[k]? =some s:=⟨_,wV xw⟩;obtain⟨g,Gs,NP,Gk⟩: ∃g,x.PA=some ⟨g,0,none⟩/\g<w.heap.size/\x.ps.length<=x.pc:=by
     rcases H.o.row.form with⟨_,e,_⟩|⟨g,e,_,h1,h2⟩
     ·rw[e]at xw;simp at xw
     ·exact⟨g,e,h1,h2⟩
    have xG:=H.o.row.kept hb;rw[Gs]at xG e2;have d0:wr.cell? ⟨g,k*2,none⟩=some (.int .u64 (s.ad:Int)):=xG.cell cy hs 0 o_;have d1:wr.cell? ⟨g,k*2+1,none⟩=some (.slice (some ⟨s.g,0,none⟩) 4096 s.cp):=xG.cell cy hs 1 o_;have Lb:k<x.pc:=o_;have hcpy:=(H.o.pages s (xb hs)).kept hb;have n2:wr.cell? ⟨f2,2,none⟩=some (.slice R2 ps2.length cp2):=hi.c.2.2.1;have nz2:=ae hi.self 2;have Sb:=hi.lt;have WL:=hi.low;dsimp only at Sb WL nz2;have JK:g<wr.heap.size:=wW NP hb.size;have hxr:x.f<wr.heap.size:=wW yO hb.size;obtain⟨Tg,QX⟩:=zh2 (show∀W,Below wr.heap.size wr W->W.cell? ⟨f2,2,none⟩=some (.slice R2 ps2.length cp2)/\W.cell? ⟨x.f,2,none⟩=some (.slice (some ⟨g,0,none⟩) x.ps.length x.pc)/\W.cell? ⟨g,k*2,none⟩=some (.int .u64 (s.ad:Int))/\W.cell? ⟨g,k*2+1,none⟩=some (.slice (some ⟨s.g,0,none⟩) 4096 s.cp)from fun W hW=>⟨(hW.cell (p:=⟨f2,2,none⟩) Sb).trans n2,(hW.cell (p:=⟨x.f,2,none⟩) hxr).trans e2,(hW.cell (p:=⟨g,k*2,none⟩) JK).trans d0,(hW.cell (p:=⟨g,k*2+1,none⟩) JK).trans d1⟩) (show Below wr.heap.size wr wr.drew from(xp _ _).drew);obtain⟨d,hd⟩:=hcpy;obtain⟨HD,HI,Gz,HB,HS,Lm⟩:=zh6 hd hi Au hb hs Gs;have VT:prog.follows .mixedOrders=true:=k_;have Kk:ps2.length=k:=by
     have:=congrArg List.length Au;simp only[List.length_map,List.length_take]at this;omega
    have hRb: ∀b,R2=some ⟨b,0,none⟩->w.heap.size<=b:=fun b e=>(hi.row.lt b e).1;have HRB:=wP hRb;clear hd hi Au hb hs Gs xG hRb;go_upto_region 7 with fail;refine ka (fun w'=>w'.cell? ⟨f2,2,none⟩=some (.slice R2 ps2.length cp2)/\w'.cell? ⟨x.f,2,none⟩=some (.slice (some ⟨g,0,none⟩) x.ps.length x.pc)/\w'.cell? ⟨g,k*2,none⟩=some (.int .u64 (s.ad:Int))/\w'.cell? ⟨g,k*2+1,none⟩=some (.slice (some ⟨s.g,0,none⟩) 4096 s.cp)) 28 k_ (dS.of 16 k_ k_) (Tg.o _ QX.o) ?_;intro Uz Jg;clear n2 e2 d0 d1;refine zt 0 ?_;refine zt 1 ?_;refine zt 2 ?_;refine zt 3 ?_;refine zt 4 ?_;refine zt 5 ?_;refine zt 6 ?_;refine zt 7 ?_;refine zt 8 ?_;refine zt 9 ?_;refine zt 10 ?_;refine zt 11 ?_;refine zt 12 ?_;refine zt 14 ?_;refine zt 15 ?_;refine zt 16 ?_;refine zt 17 ?_;refine zt 18 ?_;refine zt 19 ?_;refine zt 20 ?_;refine zt 21 ?_;refine bQ 13 k_ rfl (fun K' hK=>?_)
    go_simp
    have UH:=wP ((QX.o).alloc QX.o.size (.cells #[] 5));refine hK.out _ _ (Tg.o _ UH.o) (fun Jg=>?_);clear hK K'
    try simp only[Act.put,List.setIfInBounds_toArray,List.set_cons_zero,List.set_cons_succ,List.getElem_toArray,List.getElem_cons_succ,List.getElem_cons_zero]
    refine bQ 22 k_ rfl (fun K' hK=>?_);refine nS nt (by rfl) (.tmp 42) (.tmp 50) (by rfl) wr.heap.size (some ⟨wr.heap.size,0,none⟩) 0 0 4096 [] ((List.range 4096).map d) rfl s_ (by rfl) (OwnG.made0 _ _ _ wr.drew) (some ⟨s.g,0,none⟩) s.cp (by rfl) (nr (OwnB.below0 HD.o UH.o).v) o_ s_ ?_;intro R7 zC w7 Ko Bu;obtain⟨QY,Kb⟩:=zh2 (UH.o.trans Bu) Ko;clear Ko Bu;refine hK.out _ _ (Tg.o _ QY.o) (fun Jg=>?_);clear hK K'
    try simp only[Act.put,List.setIfInBounds_toArray,List.set_cons_zero,List.set_cons_succ,List.getElem_toArray,List.getElem_cons_succ,List.getElem_cons_zero]
    refine zt 23 ?_;refine bQ 24 k_ rfl (fun K' hK=>?_)
    go_simp
    obtain⟨g7,rfl⟩: ∃g7,R7=some ⟨g7,0,none⟩:=by
     rcases Kb.o.form with⟨_,e,_⟩|⟨g7,e,_⟩
     ·have:=congrArg List.length e;simp at this
     ·exact⟨g7,e⟩
    obtain⟨s',Gj⟩: ∃s':ShM,s'=⟨s.ad,g7,zC⟩:=⟨_,rfl⟩;have UG:=wP (QY.o.alloc QY.o.size (.cells (shC ⟨s.ad,g7,zC⟩).toArray 119));refine hK.out _ _ (Tg.o _ UG.o) (fun Jg=>?_);clear hK K'
    try simp only[Act.put,List.setIfInBounds_toArray,List.set_cons_zero,List.set_cons_succ,List.getElem_toArray,List.getElem_cons_succ,List.getElem_cons_zero]
    have hsz8:=QY.o.size;have UZ:=HB.o.size;refine bQ 25 k_ rfl (fun K' hK=>?_);refine mt cy (by rfl) (.tmp 33) (.tmp 53) (by rfl) w.heap.size R2 cp2 k ps2 Kk.symm (by rfl) (HI.o.row.kept UG.o) ⟨s.ad,g7,zC⟩ w7.heap.size 1 (by rfl) (ab w7 _) o_ t_ ?_;intro g8 OZ w8 EN Gp OQ IT;have TT: ∀b,b=f2\/b=x.f\/b=g->some b≠R2.map (·.block):=fun b hb e=>by
     rcases HI.o.row.form with⟨e1,_⟩|⟨gr,e1,_⟩
     ·change R2=none at e1;rw[e1]at e;cases e
     ·change R2=some ⟨gr,0,none⟩at e1;have xY:=HRB.o gr e1;rw[e1]at e;simp only[Option.map_some,Option.some.injEq]at e;subst e;rcases hb with rfl|rfl|rfl
      ·obtain⟨cur,h9⟩:=bj HI.o.row e1;exact aZ h9 HI.o.self d_ rfl
      ·omega
      ·omega
    obtain⟨y1,y2,y3,y4⟩:=Tg.o _ UG.o;have z1:=(Gp.cell_far ⟨f2,2,none⟩ t_ (TT _ (.inl rfl))).trans y1;have z2:=(Gp.cell_far ⟨x.f,2,none⟩ t_ (TT _ (.inr (.inl rfl)))).trans y2;have z3:=(Gp.cell_far ⟨g,k*2,none⟩ t_ (TT _ (.inr (.inr rfl)))).trans y3;have z4:=(Gp.cell_far ⟨g,k*2+1,none⟩ t_ (TT _ (.inr (.inr rfl)))).trans y4;have zf:=(Gp.frozen_far ⟨f2,2,none⟩ t_ (TT _ (.inl rfl))).trans ((UG.o.frozen (p:=⟨f2,2,none⟩) Sb).trans nz2);have zW:Mod (fun b=>R2=some ⟨b,0,none⟩) (w7.alloc (.cells (shC ⟨s.ad,g7,zC⟩).toArray 119)) w8:=⟨Gp.os,Gp.tape,Gp.output,Gp.size,fun b hb hn=>Gp.block b hb fun e=>by
     rcases HI.o.row.form with⟨e1,_⟩|⟨gr,e1,_⟩
     ·change R2=none at e1;rw[e1]at e;cases e
     ·change R2=some ⟨gr,0,none⟩at e1;rw[e1]at e hn;simp only[Option.map_some,Option.some.injEq]at e;exact hn (by rw[e])⟩
    have hp8:Pg (w7.alloc (.cells (shC ⟨s.ad,g7,zC⟩).toArray 119)) wr.heap.size g7 zC:=⟨d,.ofG (Kb.o.alloc _)⟩;have xB:=HI.o.snoc (s:=⟨s.ad,g7,zC⟩) UZ UG.o hp8 EN zW;have Sr:Below w.heap.size w (w8.setCell ⟨f2,2,none⟩ (.slice (some ⟨g8,0,none⟩) (ps2.length+1) OZ)):=(HB.o.trans ((UG.o.mono UZ).trans (zW.below (fun b e=>HRB.o b e) t_))).setCell WL _;have Xe:(ps2++[(⟨s.ad,g7,zC⟩:ShM)]).map (·.ad)=(x.ps.take (k+1)).map (·.ad):=by
     rw[List.take_add_one,HS.o,List.map_append,List.map_append,Gz.o];rfl
    dsimp only at xB;rw[Kk]at xB Sr;obtain⟨Cu,HBEL,HADS⟩:=zh3 xB Sr Xe;clear xB Sr Xe hp8 zW TT EN Gp OQ y1 y2 y3 y4;refine hK.out _ _ ⟨z1,z2,z3,z4⟩ (fun Jg=>?_);clear hK K'
    try simp only[Act.put,List.setIfInBounds_toArray,List.set_cons_zero,List.set_cons_succ,List.getElem_toArray,List.getElem_cons_succ,List.getElem_cons_zero]
    refine zt 26 ?_;refine zt 27 ?_;refine cw 28 k_ rfl rfl (fun K' hK=>?_)
    go_simp
    refine hK.out _ _ ?_;clear hK K';refine cx k_ ?_ _
    all_goals
     go_wp2_with fail;go_roundw
     case rel=>exact⟨k+1,_,_,_,o_,by go_num,Cu.o,HADS.o,HBEL.o⟩
     case measure=>(simp[intOf];omega)
end
section
open Go.RowKit Go.Sort
variable {w w' w1 w2 w3:World}{D q fb cr k:Nat}{R R':Option Addr}{xs xs':List FlM}{x x':FlM}
theorem mT:Elem 36 48 1 8 (.pointer none) ptrC:=
 ⟨underlying36,k_,rfl,d_,d_,fun _ =>rfl,fun x v hv=>by simp[ptrC]at hv;subst hv;rfl⟩
def FlsF (fb:Nat)(R:Option Addr)(xs:List FlM)(b:Nat):Prop:=b=fb\/R=some ⟨b,0,none⟩\/ ∃x∈xs,FlB x b
structure Fls (w:World)(D q fb:Nat)(R:Option Addr)(cr:Nat)(xs:List FlM):Prop where
 self:w.heap[fb]? =some (.cells #[.pointer (some ⟨q,0,none⟩),.slice R xs.length cr] 38 (0,0))
 low:D<=fb
 row:OwnG 48 1 ptrC w D R cr (xs.map (·.f))
 each: ∀x∈xs,az w D q x
 apart: ∀(j k:Nat) (x y:FlM),xs[j]? =some x->xs[k]? =some y->j≠k-> ∀b,FlB x b-> ¬FlB y b
theorem az.types (h:az w D q x){T:TypeId}{cs:Array Value}{f:Nat×Nat}{b:Nat}(hb:w.heap[b]? =some (.cells cs T f))(h1:T≠117)(h2:T≠45)(h3:T≠119)(h4:T≠5): ¬FlB x b:=fun e=>by
 rcases e with e|e|e|⟨s,hs,e⟩
 ·exact aZ hb h.self h1 e
 ·obtain⟨cur,h9⟩:=bj h.reg e;exact aZ hb h9 h2 rfl
 ·obtain⟨cur,h9⟩:=bj h.row e;exact aZ hb h9 h3 rfl
 ·exact(h.pages s hs).ne hb h4 e.symm
theorem Fls.lt (h:Fls w D q fb R cr xs):fb<w.heap.size:=(wO h.self).1
theorem Fls.lowB (h:Fls w D q fb R cr xs): ∀b,FlsF fb R xs b->D<=b/\b<w.heap.size:=fun b e=>by
 rcases e with rfl|e|⟨x,hx,e⟩
 ·exact⟨h.low,h.lt⟩
 ·exact h.row.lt b e
 ·exact(h.each x hx).lowB b e
theorem Fls.noSelf (h:Fls w D q fb R cr xs)(hx:x∈xs): ¬FlB x fb:=(h.each x hx).types h.self d_ d_ d_ d_
theorem Fls.noRow (h:Fls w D q fb R cr xs)(hx:x∈xs): ∀b,R=some ⟨b,0,none⟩-> ¬FlB x b:=fun b e=>by
 obtain⟨cur,h2⟩:=bj h.row e;exact(h.each x hx).types h2 d_ d_ d_ d_
theorem Fls.far (h:Fls w D q fb R cr xs)(hb: ∀b,FlsF fb R xs b->w'.heap[b]? =w.heap[b]?):Fls w' D q fb R cr xs:=
 ⟨(hb _ (.inl rfl)).trans h.self,h.low,h.row.same fun g e=>hb g (.inr (.inl e)),fun x hx=>(h.each x hx).far fun b e=>hb b (.inr (.inr ⟨x,hx,e⟩)),h.apart⟩
theorem Fls.kept (h:Fls w D q fb R cr xs)(hb:Below w.heap.size w w'):Fls w' D q fb R cr xs:=h.far fun b e=>hb.block b (h.lowB b e).2
theorem Fls.set (h:Fls w D q fb R cr xs)(hx:xs[k]? =some x)(hn:aU w D q x w' x'):Fls w' D q fb R cr (xs.set k x')/\Mod (FlsF fb R xs) w w'/\Out (FlsF fb R xs) (FlsF fb R (xs.set k x')) w:=by
 have hm:=xb hx;have hold: ∀b,FlB x' b->FlB x b\/w.heap.size<=b:=hn.o;have AU: ∀(j:Nat) (y:FlM),xs[j]? =some y->j≠k-> ∀b,FlB y b->w'.heap[b]? =w.heap[b]? :=fun j y hy xA b e=>hn.mod.block b ((h.each y (xb hy)).lowB b e).2 (h.apart j k y x hy hx xA b e);refine⟨⟨?_,h.low,?_,fun y hy=>?_,fun i j y z hy hz xA b e=>?_⟩,hn.mod.sub fun b e=> .inr (.inr ⟨x,hm,e⟩),fun b e=>?_⟩
 ·rw[List.length_set];exact(hn.mod.block fb h.lt (h.noSelf hm)).trans h.self
 ·rw[List.map_set,hn.f,fV (by rw[xj,hx];rfl)];exact h.row.same fun g e=>hn.mod.block g (h.row.lt g e).2 (h.noRow hm g e)
 ·obtain⟨j,hj⟩:=List.mem_iff_getElem?.1 hy;rcases bJ hj with⟨_,rfl,_⟩|⟨xA,hj⟩
  ·exact hn.is
  ·exact(h.each y (xb hj)).far (AU j y hj xA)
 ·rcases bJ hy with⟨rfl,rfl,_⟩|⟨h1,TM⟩<;>rcases bJ hz with⟨rfl,rfl,_⟩|⟨h2,xX⟩
  ·exact absurd rfl xA
  ·intro e2;rcases hold b e with e3|e3
   ·exact h.apart _ _ _ _ hx xX xA b e3 e2
   ·have:=((h.each z (xb xX)).lowB b e2).2;omega
  ·intro e2;rcases hold b e2 with e3|e3
   ·exact h.apart _ _ _ _ TM hx xA b e e3
   ·have:=((h.each y (xb TM)).lowB b e).2;omega
  ·exact h.apart _ _ _ _ TM xX xA b e
 ·rcases e with e|e|⟨y,hy,e⟩
  ·exact .inl (.inl e)
  ·exact .inl (.inr (.inl e))
  ·obtain⟨j,hj⟩:=List.mem_iff_getElem?.1 hy;rcases bJ hj with⟨_,rfl,_⟩|⟨_,hj⟩
   ·exact(hold b e).imp (fun e=> .inr (.inr ⟨x,hm,e⟩)) id
   ·exact .inl (.inr (.inr ⟨y,xb hj,e⟩))
theorem Fls.snoc {g xq:Nat}(h:Fls w D q fb R cr xs)(hb:Below w.heap.size w w1)(hD:D<=w.heap.size)(hi:az w1 D q x)(hnew: ∀b,FlB x b->w.heap.size<=b)(ho:OwnG 48 1 ptrC w2 D (some ⟨g,0,none⟩) xq (xs.map (·.f)++[x.f]))
  (hm:Mod (fun b=>R=some ⟨b,0,none⟩) w1 w2)(hg:R=some ⟨g,0,none⟩\/w1.heap.size<=g):
  Fls (w2.setCell ⟨fb,1,none⟩ (.slice (some ⟨g,0,none⟩) (xs.length+1) xq)) D q fb (some ⟨g,0,none⟩) xq (xs++[x])/\Mod (FlsF fb R xs) w (w2.setCell ⟨fb,1,none⟩ (.slice (some ⟨g,0,none⟩) (xs.length+1) xq))/\Out (FlsF fb R xs) (FlsF fb (some ⟨g,0,none⟩) (xs++[x])) w:=by
 have h1:=h.kept hb;have zM:R≠some ⟨fb,0,none⟩:=fun e=>by
  obtain⟨cur,h9⟩:=bj h.row e;exact aZ h9 h.self d_ rfl
 have Cx:w2.heap[fb]? =some (.cells #[.pointer (some ⟨q,0,none⟩),.slice R xs.length cr] 38 (0,0)):=(hm.block fb h1.lt zM).trans h1.self;have yq:=aj (S:=fun b=>b=fb) (w:=w2) (b:=fb) rfl 1 (.slice (some ⟨g,0,none⟩) (xs.length+1) xq);have hxr: ∀b,FlB x b->R≠some ⟨b,0,none⟩:=fun b e e2=>by
  have:=(h.row.lt b e2).2;have:=hnew b e;omega
 have Re: ¬FlB x fb:=fun e=>by have:=hnew fb e;have:=h.lt;omega
 have Mh:=hi.lowB;have CN:x∈xs++[x]:=List.mem_append.2 (.inr (List.mem_singleton.2 rfl));refine⟨⟨?_,h.low,?_,fun y hy=>?_,fun i j y z hy hz xA b e=>?_⟩,?_,fun b e=>?_⟩
 ·have h9:=Joins.block_setCell (i:=1) Cx (.slice (some ⟨g,0,none⟩) (xs.length+1) xq);rw[wU];exact h9
 ·rw[List.map_append];refine ho.same fun g' e=>yq.block g' (ho.lt g' e).2 fun e2=>?_;obtain⟨cur,h9⟩:=bj ho e;exact aZ h9 Cx d_ e2
 ·rcases List.mem_append.1 hy with hy|hy
  ·exact((h1.each y hy).far fun b e=>hm.block b ((h1.each y hy).lowB b e).2 fun e2=>h1.noRow hy b e2 e).far fun b e=>yq.block b (wW ((h1.each y hy).lowB b e).2 hm.size) fun e2=>h1.noSelf hy (by rw[<-e2];exact e)
  ·rw[List.mem_singleton.1 hy];exact(hi.far fun b e=>hm.block b (Mh b e).2 (hxr b e)).far fun b e=>yq.block b (wW (Mh b e).2 hm.size) fun e2=>Re (by rw[<-e2];exact e)
 ·have key: ∀(i:Nat) (y:FlM),(xs++[x])[i]? =some y->(xs[i]? =some y/\i<xs.length)\/(i=xs.length/\y=x):=fun i y hy=>by
   rcases Nat.lt_or_ge i xs.length with h2|h2
   ·rw[wZ h2]at hy;exact .inl ⟨hy,h2⟩
   ·have h3:=(List.getElem?_eq_some_iff.1 hy).1;rw[wU,xc]at h3;rw[wY h2]at hy;exact .inr ⟨o_,List.mem_singleton.1 (xb hy)⟩
  rcases key i y hy with⟨TM,h2⟩|⟨h2,rfl⟩<;>rcases key j z hz with⟨xX,h3⟩|⟨h3,rfl⟩
  ·exact h.apart i j y z TM xX xA b e
  ·exact fun e2=>by have:=hnew b e2;have:=((h.each y (xb TM)).lowB b e).2;omega
  ·exact fun e2=>by have:=hnew b e;have:=((h.each z (xb xX)).lowB b e2).2;omega
  ·omega
 ·exact((Mod.of hb).trans (Out.refl _ _) (hm.sub fun b e=> .inr (.inl e))).trans (Out.refl (FlsF fb R xs) _) (yq.sub fun b e=> .inl e)
 ·rcases e with e|e|⟨y,hy,e⟩
  ·exact .inl (.inl e)
  ·injection e with e;injection e with e;subst e;exact hg.imp (fun e=> .inr (.inl e)) (fun e=>xn hb.size e)
  ·rcases List.mem_append.1 hy with hy|hy
   ·exact .inl (.inr (.inr ⟨y,hy,e⟩))
   ·rw[List.mem_singleton.1 hy]at e;exact .inr (hnew b e)
end
section
open Go.RowKit Go.Sort
variable {w w' w2:World}{D q base cap:Nat}{R:Option Addr}{L:List NdR}{F:List Nd}{x x' x2:FlM}
def FOkM (F:List Nd)(rl:List Reg)(r:Reg):Prop:=0=(Rg.put rl r).2/\(r.ino= -1\/0<=r.ino/\ ∃y,F[r.ino.toNat]? =some y/\y.kind=1)
theorem vz (h:Doc w D q F)(ino:Int)(hD:D<=w.heap.size):Calls prog 88 #[.pointer (some ⟨q,0,none⟩),.int .i64 ino] w fun e w'=> ∃(kd md u g n:Nat) (me:Int),e= .returned (.tuple #[.agg #[.int .u8 (kd:Int),.int .u16 (md:Int),.int .u32 (u:Int),.int .u32 (g:Int),.int .i64 (n:Int)],.int .i64 me])/\Hid (RMeta F ino kd md u g n me)/\Hid (Below w.heap.size w w'):=by
 obtain⟨bs,Rd,cd,Ld,KC, -, -⟩:=h.ex;obtain⟨kd,md,u,g,n,me,h1,h2⟩:=oh ino KC h.few;exact h2.mono fun e w' ⟨e1,e2⟩=>⟨kd,md,u,g,n,me,e1,wP h1,wP e2⟩
theorem fmap_any (r:Reg)(h:az w D q x)(hF:Doc w D q F)(DE:x.rl.length<=1000000)(Al:x.gone=false->x.ps.length<=200000)(ya:bG x.rl)(hr:r.Ok)(hD:D<=w.heap.size):
  Calls prog 46 #[.pointer (some ⟨x.f,0,none⟩),.agg #[.int .u64 (r).fr,.int .u64 (r).to,.int .u8 (r).prot,.int .i64 (r).ino,.int .u64 (r).off]] w (eK w D q x (FOkM F x.rl r) (Rg.put x.rl r).1 (ft r.fr r.to)):=by
 obtain⟨w0,xv⟩:=e_ (w.alloc (.cells #[.int .u64 r.fr,.int .u64 r.to,.int .u8 r.prot,.int .i64 r.ino,.int .u64 r.off] 45));have xz:Below w.heap.size w w0:=(by rw[xv];exact wR);have AI:w0.heap[w.heap.size]? =some (.cells #[.int .u64 r.fr,.int .u64 r.to,.int .u8 r.prot,.int .i64 r.ino,.int .u64 r.off] 45 (0,0)):=(by rw[xv];exact ab w _);have hi:=h.kept xz;have hg:=dL hi;have hD0:D<=w0.heap.size:=xn hD xz.size;have Um:=hF.kept (xz.mono hD);have BL:=rput_any r x.A x.rl.length x.cap w0.drew x.rl ((hi.reg.below ((xp w0.heap.size w0).drew) (wS _)).rsl DE) ya hr;obtain⟨⟨rl',er⟩,TQ⟩: ∃rb,rb=Rg.put x.rl r:=⟨_,rfl⟩;have VF:FOkM F x.rl r↔0=er/\(r.ino= -1\/0<=r.ino/\ ∃y,F[r.ino.toNat]? =some y/\y.kind=1):=(by unfold FOkM;rw[<-TQ]);rw[<-TQ]at BL⊢;have GL:Calls prog 87 #[.slice x.A x.rl.length x.cap,.agg #[.int .u64 (r).fr,.int .u64 (r).to,.int .u8 (r).prot,.int .i64 (r).ino,.int .u64 (r).off]] w0.drew fun e W=> ∃A1 xt,e= .returned (.tuple #[.slice A1 rl'.length xt,.int .i64 er])/\Hid (OwnR W w0.heap.size A1 xt rl')/\Hid (Below w0.heap.size w0 W):=by
  refine BL.mono ?_;rintro e W⟨A1,xt,rfl,h1,h2⟩;exact⟨A1,xt,rfl,wP h1,wP (((xp w0.heap.size w0).drew).trans h2)⟩
 obtain⟨c0,c1, -, -⟩:=hi.c;have yO:=hi.lt;have AM:w.heap.size<w0.heap.size:=(wO AI).1;have xQ:=ae hi.self 1;have r0:w0.cell? ⟨w.heap.size,0,none⟩=some (.int .u64 r.fr):=aa AI 0;have r1:w0.cell? ⟨w.heap.size,1,none⟩=some (.int .u64 r.to):=aa AI 1;have r2:w0.cell? ⟨w.heap.size,2,none⟩=some (.int .u8 r.prot):=aa AI 2;have r3:w0.cell? ⟨w.heap.size,3,none⟩=some (.int .i64 r.ino):=aa AI 3;have r4:w0.cell? ⟨w.heap.size,4,none⟩=some (.int .u64 r.off):=aa AI 4;obtain⟨H,HG,HI,HF,yd,Pf,Hu,xU⟩:=zh8 h hg hi Um xz GL VF xv;clear h hg hi hF Um xz BL GL VF TQ xv AI ya hr;cases za:x.gone with
 |true=>
  rw[za]at HG;go_enter func46,ntmps46;go_upto_region 1 with fail;rw[<-xU.o];go_wp2_with (first
   |(go_at_call 55;refine(HG.o).mono ?_;rintro e w1⟨rfl,rfl⟩)
   |fail)
  go_ret;exact eK.no H.o yd.o (.inl za)
 |false=>
  rw[za]at HG;go_enter func46,ntmps46;go_upto_region 1 with fail;rw[<-xU.o];go_upto_region 3 with(first
   |(go_at_call 55;refine(HG.o).mono ?_;rintro e w1⟨rfl,rfl⟩)
   |fail)
  go_cut [5,6]from 12 (fun a b wx=> ∃A1 xt,a= .slice A1 rl'.length xt/\b= .int .i64 er/\OwnR wx w0.heap.size A1 xt rl'/\Below w0.heap.size w0 wx)
  case first=>
   go_region_with ((first
    |(go_at_call 87;refine(Pf.o).mono ?_;rintro e w1⟨A1,xt,rfl,yB,xI⟩)))
   all_goals
    go_wp2_with fail
    go_meet
    exact⟨A1,xt,rfl,rfl,yB.o,xI.o⟩
  case rest=>
  obtain⟨A1,xt,rfl,rfl,yJ,xu⟩:=hcut;obtain⟨w1,rfl⟩:=e_ wc;have e0:=(xu.cell (p:=⟨x.f,0,none⟩) yO).trans c0;have s0:=(xu.cell (p:=⟨w.heap.size,0,none⟩) AM).trans r0;have s1:=(xu.cell (p:=⟨w.heap.size,1,none⟩) AM).trans r1;have s3:=(xu.cell (p:=⟨w.heap.size,3,none⟩) AM).trans r3;obtain⟨xI,yB⟩:=zh2 xu yJ;clear xu yJ r0 r1 r2 r3 r4 c0;by_cases he:er=0
  rotate_left
  ·have b1:(er != 0)=true:=(by rw[bne_iff_ne];exact he);have HE:=wP he;clear he;go_wp2_with fail;go_ret;exact eK.no H.o (yd.o.trans (xI.o.mono yd.o.size)) (.inr fun e=>HE.o ((Hu.o.1 e).1).symm)
  subst he;have key: ∀w3,Below w1.heap.size w1 w3-> ∃w4,w4=w3.setCell ⟨x.f,1,none⟩ (.slice A1 rl'.length xt)/\aU w D q x w4 { x with A:=A1,cap:=xt,rl:=rl'} /\w3.cell? ⟨x.f,1,none⟩=some (.slice x.A x.rl.length x.cap)/\w3.frozen? ⟨x.f,1,none⟩=false/\w4.cell? ⟨w.heap.size,0,none⟩=some (.int .u64 r.fr)/\w4.cell? ⟨w.heap.size,1,none⟩=some (.int .u64 r.to)/\
    Calls prog 89 #[.pointer (some ⟨x.f,0,none⟩),.int .u64 r.fr,.int .u64 r.to] w4 fun e w'=> ∃PA pc,e= .returned (.tuple #[])/\aU w4 D q { x with A:=A1,cap:=xt,rl:=rl'} w' { x with A:=A1,cap:=xt,rl:=rl',PA:=PA,pc:=pc,ps:=ft r.fr r.to x.ps} :=fun w3 xE=>by
   have Co:Below w0.heap.size w0 w3:=xI.o.trans (xE.mono xI.o.size);have hb03:Below w.heap.size w w3:=yd.o.trans (Co.mono yd.o.size);have Am:OwnR w3 w.heap.size A1 xt rl':=by
    have:=yB.o.below xE (wS _);exact⟨this.1,this.2.imp id fun⟨g,cp,cur,e1,e2,e3⟩=>⟨g,cp,cur,e1,xn yd.o.size e2,e3⟩⟩
   have hn:=H.o.list hD hb03 Am;have xA:w.heap.size≠x.f:=(by have:=H.o.lt;omega);have yN:w.heap.size<w1.heap.size:=wW AM xI.o.size;refine⟨_,rfl,hn,(Co.cell (p:=⟨x.f,1,none⟩) yO).trans c1,(Co.frozen (p:=⟨x.f,1,none⟩) yO).trans xQ,?_,?_,oT r.fr r.to hn.is (Al za) (xn hD hn.mod.size)⟩
   ·exact(World.cell?_setCell_far _ _ _ _ (fun e=>xA e.symm)).trans ((xE.cell (p:=⟨w.heap.size,0,none⟩) yN).trans s0)
   ·exact(World.cell?_setCell_far _ _ _ _ (fun e=>xA e.symm)).trans ((xE.cell (p:=⟨w.heap.size,1,none⟩) yN).trans s1)
  have KEY:=wP key;clear key s0 s1 c1 xQ;by_cases Dx:r.ino= -1
  ·have b2:(r.ino != -1)=false:=(by rw[bne_eq_false_iff_eq];exact Dx);have Nm:=wP (Hu.o.2 ⟨rfl,.inl Dx⟩);obtain⟨w4,zV,hn,k1,k2,k3,k4,BF⟩:=KEY.o w1 (xp _ _);obtain⟨HN,Gx,XV⟩:=zh3 hn BF zV;clear hn BF zV Dx;go_upto_region 11 with fail;rw[<-XV.o];go_wp2_with (first
    |(go_at_call 89;refine(Gx.o).mono ?_;rintro e w5⟨PA,pc,rfl,JE⟩;have HN5:=wP JE;clear JE)
    |fail)
   go_ret;exact eK.yes HN.o HN5.o Nm.o za
  ·have b2:(r.ino != -1)=true:=(by rw[bne_iff_ne];exact Dx);have Ks: ∀W,Below w1.heap.size w1 W->Calls prog 88 #[.pointer (some ⟨q,0,none⟩),.int .i64 r.ino] W fun e w'=> ∃(kd md u g n:Nat) (me:Int),e= .returned (.tuple #[.agg #[.int .u8 (kd:Int),.int .u16 (md:Int),.int .u32 (u:Int),.int .u32 (g:Int),.int .i64 (n:Int)],.int .i64 me])/\Hid (RMeta F r.ino kd md u g n me)/\Hid (Below W.heap.size W w'):=fun W hW=>
    vz (HF.o.kept ((xI.o.mono hD0).trans (hW.mono (xn hD0 xI.o.size)))) r.ino (xn hD0 (xn xI.o.size hW.size))
   obtain⟨Jm,HINO⟩:=zh2 Ks Dx;have hfl1:x.f<w1.heap.size:=wW yO xI.o.size;have yN:w.heap.size<w1.heap.size:=wW AM xI.o.size;clear Ks Dx;go_upto_region 7 with fail;go_cut [7,8]from 27 (fun a b wx=> ∃(bx kd md u g n:Nat) (me:Int),a= .pointer (some ⟨bx,0,none⟩)/\b= .int .i64 me/\wx.cell? ⟨bx,0,none⟩=some (.int .u8 (kd:Int))/\RMeta F r.ino kd md u g n me/\Below w1.heap.size w1 wx)
   case first=>
    go_region_with ((first
     |(go_at_call 88;refine(Jm.o _ ((xp _ _).drew)).mono ?_;rintro e w3⟨kd,md,u,g,n,me,rfl,Ew,yZ⟩;have NC:=wP ((xp w1.heap.size w1).drew.trans yZ.o))
     |(go_at_call 88;refine(Jm.o _ ((xp w1.heap.size w1).drew.alloc s_ _)).mono ?_;rintro e w3⟨kd,md,u,g,n,me,rfl,Ew,yZ⟩;obtain⟨NC,CF⟩:=zh2 (((xp w1.heap.size w1).drew.alloc s_ (.cells #[.int .u8 0,.int .u16 0,.int .u32 0,.int .u32 0,.int .i64 0] 103)).trans (yZ.o.mono s_)) ((yZ.o.block w1.heap.size s_).trans (ab w1.drew _));obtain⟨⟨k0,k1,k2,k3,k4⟩,kf⟩:=lX CF.o;have kf0:=kf 0;have kf1:=kf 1;have kf2:=kf 2;have kf3:=kf 3;have kf4:=kf 4;clear kf)
     |fail))
    all_goals
     go_wp2_with fail
     go_meet
     refine⟨_,kd,md,u,g,n,me,rfl,rfl,?_,Ew.o,?_⟩
     ·first
       |(have:=CF.o;exact lW this)
       |(have hx:=ab w3 (.cells #[.int .u8 (kd:Int),.int .u16 (md:Int),.int .u32 (u:Int),.int .u32 (g:Int),.int .i64 (n:Int)] 103);exact aa hx 0)
     ·first
       |(have:=CF;exact lY NC.o (wS _) _ _ _ _ _)
       |exact NC.o.alloc NC.o.size _
   case rest=>
   obtain⟨bx,kd,md,u,g,n,me,rfl,rfl,zh,Ch,xE⟩:=hcut;obtain⟨w3,rfl⟩:=e_ wc;obtain⟨HMT,yZ⟩:=zh2 Ch xE;by_cases xP:me=0/\kd=1
   rotate_left
   ·have Ds:=wP (show¬FOkM F x.rl r from fun e=>by
     rcases(Hu.o.1 e).2 with h1|⟨h1,y,h2,h3⟩
     ·exact HINO.o h1
     ·rcases HMT.o with⟨_,_,h4|h4⟩|⟨h5,_,y',h6,h7,_⟩
      ·omega
      ·have:=(List.getElem?_eq_some_iff.1 h2).1;omega
      ·rw[h2]at h6;injection h6 with h6;subst h6;exact xP ⟨h5,o_⟩)
    by_cases IP:me=0
    ·subst IP;have b3:((kd:Int) != 1)=true:=(by rw[bne_iff_ne];exact fun e=>xP ⟨rfl,o_⟩);clear xP Ch xE;go_wp2_with fail;go_ret;exact eK.no H.o (yd.o.trans ((xI.o.trans (yZ.o.mono xI.o.size)).mono yd.o.size)) (.inr Ds.o)
    ·have b3:(me != 0)=true:=(by rw[bne_iff_ne];exact IP);clear xP Ch xE IP;go_wp2_with fail;go_ret;exact eK.no H.o (yd.o.trans ((xI.o.trans (yZ.o.mono xI.o.size)).mono yd.o.size)) (.inr Ds.o)
   ·obtain⟨rfl,rfl⟩:=xP;have Nm:=wP (Hu.o.2 ⟨rfl,.inr (by
     rcases HMT.o with⟨h5,_⟩|⟨_,h0,y',h6,h7,_⟩
     ·omega
     ·exact⟨h0,y',h6,h7.symm⟩)⟩)
    obtain⟨w4,zV,hn,k1,k2,k3,k4,BF⟩:=KEY.o w3 xE;obtain⟨HN,Gx,XV⟩:=zh3 hn BF zV;clear hn BF zV Ch xE;go_upto_region 11 with fail;rw[<-XV.o];go_wp2_with (first
     |(go_at_call 89;refine(Gx.o).mono ?_;rintro e w5⟨PA,pc,rfl,JE⟩;have HN5:=wP JE;clear JE)
     |fail)
    go_ret;exact eK.yes HN.o HN5.o Nm.o za
end
