/- A range over a function, whatever the function keeps: the statement, and a round. -/
import Derived.Test.YtoochjhipmpehaaGreatDoorAbK
import Derived.BigRegion
import Derived.CallsIn
import Derived.Deep.AppendLies
import Derived.Deep.Cut
import Derived.Deep.CutBlock
import Derived.Deep.CutRange
import Derived.Deep.DeepCutAuto
import Derived.Deep.MidRow
import Derived.Deep.RegionHeld
import Derived.Deep.Upon
import Derived.DeepKeys4
import Derived.Laws.Bits64b
import Derived.Laws.BitsAllLaws
import Derived.Laws.CopyOwn
import Derived.Laws.MakeOwn
import Derived.Lib.SmallJoins
import Derived.Lib.TrailingZeros
import Derived.LoopTactic
import Derived.Maps.OwnOps
import Derived.Maps.RangeWalk
import Derived.OrdersHeld
import Derived.OrdersIn
import Derived.Outline
import Derived.OwnWalkIn
import Derived.RangeFuncBound
import Derived.RangeFuncCalls
import Derived.RegionTactic
import Derived.Test.YtoochjhipmpehaaGreatDoorRows
import Derived.WalkKit
import Derived.WalkLawsBesides
import Derived.WalkSpells
set_option linter.unusedVariables false
set_option linter.unusedSimpArgs false
set_option maxRecDepth 100000
set_option maxHeartbeats 4000000
namespace Go.Proofs.YtoochjhipmpehaaGreatDoor
open Go.Proofs.Tryz
section
open Go Go.RowKit
variable {F:Fence}{n:Nat}{P:Program}
def iY (fn:FuncId)(tmps:Array Value)(ps:Array Tmp)(assign body:Code)(D:Nat)(st:LoopState)(pe:Option Code):Loop:= { state:=st,pending:=pe,fn:=fn,tmps:=tmps,params:=ps,assign:=assign,body:=body,defers:=D}
def ec (a:Act)(D:Nat):Act:= { a with defers:= { target:= .collected D,args:= #[]} ::a.defers}
variable {g:Operand}{a:Act}{gf l:Nat}{lb:Array Value}
theorem uG (hg:a.eval g= .func (.func gf) #[] lb)(w:World):(resolve a.eval (rangeCall g l) 0).run P w= .ok { target:= .fn (.func gf) lb,args:= #[.func (.yield l) #[] #[]]} w:=by
 simp only[resolve,hg];simp[go_sem]
theorem uH (eg: ∀args w,(callFunc gf args).run P w= .ok (.enter gf args) w)(v:Value)(w:World):(invoke (.fn (.func gf) lb) #[v]).run P w= .ok (.enter gf (#[v]++lb)) w:=by
 simp[invoke,go_sem,eg]
theorem pO (Xx:F.fn gf)(v:Value)(w:World): ∀f',Target.leads P w (.fn (.func gf) lb) #[v]=some f'->F.fn f':=by
 intro f' KB;simp[Target.leads]at KB;subst KB;exact Xx
variable {ps:Array Tmp}{assign body:Code}{Q:Exit->Act->World->Prop}{w:World}
theorem rW (BZ:F.round=none)(h1:1<=n)(hg:a.eval g= .func (.func gf) #[] lb)(Xx:F.fn gf)
  (eg: ∀args w,(callFunc gf args).run P w= .ok (.enter gf args) w)
  (h: ∀fn,F.fn fn->CallsIn F (n-1) P gf (#[Value.func (Fn.yield (w.heap.size+1)) #[] #[]]++lb) ((w.alloc (.deferred (some []))).alloc (.loop (iY fn a.tmps ps assign body w.heap.size .ready none)))
   fun e W2=>(∃v,e= .returned v)/\
    (
     (W2.heap[w.heap.size+1]? =some (.loop (iY fn a.tmps ps assign body w.heap.size .ready none))/\Q .normal (ec a w.heap.size) (W2.putObj (w.heap.size+1) (.loop (iY fn a.tmps ps assign body w.heap.size .exhausted none))))\/
     ∃c,W2.heap[w.heap.size+1]? =some (.loop (iY fn a.tmps ps assign body w.heap.size .done (some c)))/\c.wpIn F n P Q (ec a w.heap.size) (W2.putObj (w.heap.size+1) (.loop (iY fn a.tmps ps assign body w.heap.size .exhausted (some c)))))):
  (Code.rangeFunc g ps assign body).wpIn F n P Q a w:=by
 refine wpIn_rangeFunc ?_;intro fn FP;rw[BZ];obtain⟨W1,DA,hC⟩: ∃W1,(Instr.enterLoop fn a.tmps ps assign body none).run P w= .ok (w.heap.size+1,[{ target:= .collected w.heap.size,args:= #[]}]) W1/\CallsIn F (n-1) P gf (#[Value.func (Fn.yield (w.heap.size+1)) #[] #[]]++lb) W1 (rangePost F n P (w.heap.size+1) Q { a with defers:=[{ target:= .collected w.heap.size,args:= #[]}]++a.defers}):=by
  refine⟨_,run_enterLoop_outer _ _ _ _ _,(h fn FP).mono ?_⟩;rintro e W2⟨⟨v,rfl⟩,⟨hl,hq⟩|⟨c,hl,hc⟩⟩
  ·exact⟨none,_,run_endLoop hl (by simp[iY]),hq⟩
  ·exact⟨some c,_,run_endLoop hl (by simp[iY]),hc⟩
 clear h;refine⟨w.heap.size+1,[{ target:= .collected w.heap.size,args:= #[]}],W1, { target:= .fn (.func gf) lb,args:= #[Value.func (Fn.yield (w.heap.size+1)) #[] #[]]},W1,gf,
  #[Value.func (Fn.yield (w.heap.size+1)) #[] #[]]++lb,W1,DA,uG (l:=w.heap.size+1) hg W1,pO Xx (.func (.yield (w.heap.size+1)) #[] #[]) W1,uH eg (.func (.yield (w.heap.size+1)) #[] #[]) W1,fun _ =>h1,hC⟩
def qW (l:Nat)(rec:LoopState->Option Code->Loop)(R:Ending->World->Prop):Exit->Act->World->Prop
 | .normal,_,w=>w.heap[l]? =some (.loop (rec .busy none))/\R (.returned (.bool true)) (w.putObj l (.loop (rec .ready none)))
 | .ret,_,w=>w.heap[l]? =some (.loop (rec .busy none))/\R (.returned (.bool false)) (w.putObj l (.loop (rec .done (some .ret))))
 | .exit id,_,w=>w.heap[l]? =some (.loop (rec .busy none))/\R (.returned (.bool false)) (w.putObj l (.loop (rec .done (some (.exit id)))))
 |_,_,_ =>False
variable {fn:FuncId}{tmps args:Array Value}{D:Nat}{W:World}{R:Ending->World->Prop}
theorem pu (hF:F.fn fn)
  (hl:W.heap[l]? =some (.loop (iY fn tmps ps assign body D .ready none)))(hs:args.size=ps.size)
  (h:assign.wpIn (F.inRound l) n P (Exit.then (fun a₁ W1=>W1.heap[l]? =some (.loop (iY fn tmps ps assign body D .ready none))/\body.wpIn (F.inRound l) n P (qW l (iY fn tmps ps assign body D) R) a₁ (W1.putObj l (.loop (iY fn tmps ps assign body D .busy none)))) (fun _ _ _ =>False))
   { tmps:=(ps.zip args).foldl (fun t (p,v)=>t.setIfInBounds p v) tmps,defers:=[]} W):
  YieldAt F n P l args W R:=by
 refine⟨fn,_,assign,body,run_yield hl hs,roundIn_of_wpIn hF (wpIn_mono h ?_)⟩;intro e a1 W1 hq;cases e with
 |normal=>
  obtain⟨h1,h2⟩:=hq;refine⟨_,run_beginRound h1 rfl,wpIn_mono h2 ?_⟩;intro e a3 W3 hq;cases e with
  |normal=>exact⟨_,_,run_endRound none hq.1,hq.2⟩
  |ret=>exact⟨_,_,run_endRound (some .ret) hq.1,hq.2⟩
  |exit id=>exact⟨_,_,run_endRound (some (.exit id)) hq.1,hq.2⟩
  |goto t=>exact hq.elim
  |panic ch=>exact hq.elim
  |outgrown=>exact hq.elim
 |exit id=>exact hq.elim
 |goto t=>exact hq.elim
 |ret=>exact hq.elim
 |panic ch=>exact hq.elim
 |outgrown=>exact hq.elim
theorem cv (BZ:F.round=none)(h1:1<=n)(hg:a.eval g= .func (.func gf) #[] lb)(Xx:F.fn gf)
  (eg: ∀args w,(callFunc gf args).run P w= .ok (.enter gf args) w)
  (h: ∀fn,F.fn fn-> ∀rec,iY fn a.tmps ps assign body w.heap.size=rec->CallsIn F (n-1) P gf (#[Value.func (Fn.yield (w.heap.size+1)) #[] #[]]++lb) ((w.alloc (.deferred (some []))).alloc (.loop (rec .ready none)))
   fun e W2=>(∃v,e= .returned v)/\
    (
     (W2.heap[w.heap.size+1]? =some (.loop (rec .ready none))/\Q .normal (ec a w.heap.size) (W2.putObj (w.heap.size+1) (.loop (rec .exhausted none))))\/
     ∃c,W2.heap[w.heap.size+1]? =some (.loop (rec .done (some c)))/\c.wpIn F n P Q (ec a w.heap.size) (W2.putObj (w.heap.size+1) (.loop (rec .exhausted (some c)))))):
  (Code.rangeFunc g ps assign body).wpIn F n P Q a w:=rW BZ h1 hg Xx eg fun fn FP=>h fn FP _ rfl
theorem bP {rec:LoopState->Option Code->Loop}(hF:F.fn fn)(zr:iY fn tmps ps assign body D=rec)
  (hl:W.heap[l]? =some (.loop (rec .ready none)))(hs:args.size=ps.size)
  (h:assign.wpIn (F.inRound l) n P (Exit.then (fun a₁ W1=>W1.heap[l]? =some (.loop (rec .ready none))/\body.wpIn (F.inRound l) n P (qW l rec R) a₁ (W1.putObj l (.loop (rec .busy none)))) (fun _ _ _ =>False))
   { tmps:=(ps.zip args).foldl (fun t (p,v)=>t.setIfInBounds p v) tmps,defers:=[]} W):
  YieldAt F n P l args W R:=by
 subst zr;exact pu hF hl hs h
end
section
def upd {α:Type}(f:Nat->α)(i:Nat)(x:α):Nat->α:=fun j=>if j=i then x else f j
theorem af {α:Type}(f:Nat->α)(i:Nat)(x:α):upd f i x i=x:=by simp[upd]
variable {j:Nat}
theorem ah {α:Type}(f:Nat->α){i:Nat}(x:α)(h:j≠i):upd f i x j=f j:=by simp[upd,h]
def dJ (d:Nat->Nat)(o:Nat):Nat->Nat
 |0=>0
 |n+1=>dJ d o n+d (o+n)*256^n
variable {d:Nat->Nat}
theorem leVal_lt (hd: ∀i,d i<256)(o n:Nat):dJ d o n<256^n:=by
 induction n with
 |zero=>simp[dJ]
 |succ n ih=>
  unfold dJ;have h1:=hd (o+n);have h2:d (o+n)*256^n<=255*256^n:=Nat.mul_le_mul_right _ o_;rw[Nat.pow_succ];omega
variable {e:Nat->Nat}{o n:Nat}
theorem gP (h: ∀i,i<n->d (o+i)=e (o+i)):dJ d o n=dJ e o n:=by
 induction n with
 |zero=>rfl
 |succ n ih=>
  unfold dJ;rw[ih (fun i hi=>h i o_),h n o_]
theorem oI (x o:Nat)(d:Nat->Nat)(n:Nat)(h: ∀i,i<n->d (o+i)=x/256^i % 256):dJ d o n=x % 256^n:=by
 induction n with
 |zero=>simp[dJ,Nat.mod_one]
 |succ n ih=>
  unfold dJ;rw[ih (fun i hi=>h i o_),h n o_,Nat.pow_succ,Nat.mod_mul];rw[Nat.mul_comm]
theorem jf :dJ d o n=0↔ ∀i,i<n->d (o+i)=0:=by
 induction n with
 |zero=>simp[dJ]
 |succ n ih=>
  unfold dJ;have hp:0<256^n:=Nat.pow_pos d_;constructor
  ·intro h i hi;have h1:dJ d o n=0:=o_;have h2:d (o+n)*256^n=0:=o_;have h3:d (o+n)=0:=by
    rcases Nat.mul_eq_zero.1 h2 with h|h
    ·exact h
    ·omega
   rcases Nat.lt_or_ge i n with h4|h4
   ·exact ih.1 h1 i h4
   ·have:i=n:=o_;rw[this];exact h3
  ·intro h;rw[ih.2 (fun i hi=>h i o_),h n o_];simp
def word (d:Nat->Nat)(k:Nat):Nat:=dJ d (8*k) 8
def aG (d:Nat->Nat)(k x:Nat):Nat->Nat:=fun i=>if 8*k<=i/\i<8*k+8 then x/256^(i-8*k) % 256 else d i
variable {x:Nat}
theorem fx {k:Nat}(hx:x<18446744073709551616):word (aG d k x) j=if j=k then x else word d j:=by
 unfold word;split
 ·rename_i h;subst h;rw[oI x (8*j) _ 8 (fun i hi=>by unfold aG;rw[if_pos o_];congr 3;omega)];exact Nat.mod_eq_of_lt hx
 ·rename_i h;exact gP fun i hi=>by
   unfold aG;rw[if_neg o_]
theorem nI (k:Nat):word (fun _ =>0) k=0:=jf.2 fun _ _ =>rfl
theorem rX :(∀i,i<4096->d i=0)↔ ∀k,k<512->word d k=0:=by
 constructor
 ·intro h k hk;exact jf.2 fun i hi=>h _ o_
 ·intro h i hi;have:=jf.1 (h (i/8) o_) (i % 8) o_
  rwa [show 8*(i/8)+i % 8=i from by omega]at this
structure Pool where
 n:Nat
 cnt:Nat->Nat
 dat:Nat->Nat->Nat
def Pool.lowest (p:Pool):Option Nat:=(List.range p.n).find? fun f=>p.cnt f==0
def Pool.takeAt (p:Pool)(f:Nat):Pool:=⟨p.n,upd p.cnt f 1,upd p.dat f (fun _ =>0)⟩
def Pool.up (p:Pool)(f:Nat):Pool:=⟨p.n,upd p.cnt f (p.cnt f+1),p.dat⟩
def Pool.down (p:Pool)(f:Nat):Pool:=⟨p.n,upd p.cnt f (p.cnt f-1),p.dat⟩
def Pool.store (p:Pool)(f:Nat)(d:Nat->Nat):Pool:=⟨p.n,p.cnt,upd p.dat f d⟩
def cf (c:Nat->Nat):Nat->Nat
 |0=>0
 |n+1=>cf c n+if c n=0 then 1 else 0
def Pool.left (p:Pool):Nat:=cf p.cnt p.n
theorem oP (c:Nat->Nat)(n:Nat):cf c n<=n:=by
 induction n with
 |zero=>simp[cf]
 |succ n ih=>unfold cf;split<;>omega
variable {c:Nat->Nat}
theorem fI (h: ∀i,i<n->(c i=0↔e i=0)):cf c n=cf e n:=by
 induction n with
 |zero=>rfl
 |succ n ih=>
  unfold cf;rw[ih (fun i hi=>h i o_)];have:=h n o_;split<;>split<;>simp_all
variable {f:Nat}
theorem gq (hf:f<n):cf (upd c f x) n+(if c f=0 then 1 else 0)=cf c n+(if x=0 then 1 else 0):=by
 induction n with
 |zero=>omega
 |succ n ih=>
  unfold cf;by_cases h:f=n
  ·subst h;rw[af,fI (c:=upd c f x) (e:=c) (fun i hi=>by rw[ah _ _ o_])];omega
  ·have:=ih o_;rw[ah _ _ (fun e=>h e.symm)];omega
theorem kU :cf c n=0↔ ∀i,i<n->c i≠0:=by
 induction n with
 |zero=>simp[cf]
 |succ n ih=>
  unfold cf;constructor
  ·intro h i hi;have h1:cf c n=0:=o_;rcases Nat.lt_or_ge i n with h2|h2
   ·exact ih.1 h1 i h2
   ·have:i=n:=o_;subst this;intro h3;rw[if_pos h3]at h;omega
  ·intro h;rw[ih.2 (fun i hi=>h i o_),if_neg (h n o_)]
variable {p:Pool}
theorem cT (h:p.lowest=some f):f<p.n/\p.cnt f=0/\ ∀g,g<f->p.cnt g≠0:=by
 unfold Pool.lowest at h;rw[List.find?_range_eq_some]at h;obtain⟨h1,h2,h3⟩:=h;refine⟨by simpa using h2,by simpa using h1,fun g hg h4=>?_⟩;have:=h3 g hg;simp[h4]at this
theorem cB (h:p.lowest=none): ∀f,f<p.n->p.cnt f≠0:=by
 intro f hf h0;unfold Pool.lowest at h;rw[List.find?_eq_none]at h;have:=h f (List.mem_range.2 hf);simp[h0]at this
theorem oF (h1:f<p.n)(h2:p.cnt f=0)(h3: ∀g,g<f->p.cnt g≠0):p.lowest=some f:=by
 unfold Pool.lowest;rw[List.find?_range_eq_some];exact⟨by simpa using h2,by simpa using h1,fun g hg=>by simpa using h3 g hg⟩
end
section
structure Leaf where
 frame:Nat
 prot:Nat
 copy:Bool
deriving DecidableEq
def Leaf.pack (l:Leaf):Nat:=l.frame*4096+l.prot*2+1+(if l.copy=true then 16 else 0)
def gB (x:Nat):Leaf:=⟨x/4096,x/2 % 8,x/16 % 2==1⟩
theorem eM (l:Leaf)(h:l.prot<=7):gB l.pack=l:=by
 obtain⟨f,p,c⟩:=l;simp only at h;unfold gB Leaf.pack;cases c
 ·simp only[Leaf.mk.injEq];refine⟨t_,t_,?_⟩;rw[xf];simp;omega
 ·simp only[Leaf.mk.injEq];refine⟨t_,t_,?_⟩;rw[beq_iff_eq];simp;omega
theorem fZ (l:Leaf):l.pack % 2=1:=by
 unfold Leaf.pack;split<;>omega
theorem eR (l:Leaf)(h:l.prot<=7)(hf:l.frame<1024):l.pack<4194304:=by
 unfold Leaf.pack;split<;>omega
structure Tab where
 nd:Nat->Nat->Option Nat
 lf:Nat->Option Leaf
def Tab.word (t:Tab)(lv part k:Nat):Nat:=
 if lv=1 then(match t.lf (part*512+k)with|some l=>l.pack|none=>0)
 else match t.nd (lv-1) (part*512+k)with|some f=>f*4096+1|none=>0
structure Tab.Ok (p:Pool)(t:Tab):Prop where
 root:(t.nd 4 0).isSome=true
 only: ∀part f,t.nd 4 part=some f->part=0
 level: ∀lv part f,t.nd lv part=some f->1<=lv/\lv<=4
 above: ∀lv part f,t.nd lv part=some f->lv<4->(t.nd (lv+1) (part/512)).isSome=true
 leaf: ∀pg l,t.lf pg=some l->(t.nd 1 (pg/512)).isSome=true/\l.prot<=7/\l.frame<p.n
 inj: ∀l1 p1 l2 p2 f,t.nd l1 p1=some f->t.nd l2 p2=some f->l1=l2/\p1=p2
 live: ∀lv part f,t.nd lv part=some f->f<p.n/\0<p.cnt f
 words: ∀lv part f,t.nd lv part=some f-> ∀k,k<512->Go.Proofs.YtoochjhipmpehaaGreatDoor.word (p.dat f) k=t.word lv part k
 full: ∀lv part f,t.nd lv part=some f->lv<4-> ∃k,k<512/\t.word lv part k≠0
 few:p.n<=1024
def part (pg lv:Nat):Nat:=pg/512^lv
def num (pg lv:Nat):Nat:=pg/512^(lv-1) % 512
theorem ir (pg lv:Nat)(h:1<=lv):part pg lv*512+num pg lv=part pg (lv-1):=by
 unfold part num;obtain⟨m,rfl⟩: ∃m,lv=m+1:=⟨lv-1,o_⟩;rw[Nat.pow_succ,<-Nat.div_div_eq_div_mul,Nat.add_sub_cancel];omega
theorem kG (pg:Nat):part pg 0=pg:=by simp[part]
theorem mK (pg lv:Nat):part pg lv/512=part pg (lv+1):=by
 unfold part;rw[Nat.pow_succ,<-Nat.div_div_eq_div_mul]
theorem ce (pg lv:Nat):num pg lv<512:=Nat.mod_lt _ d_
theorem iu (pg:Nat)(h:pg<68719476736):part pg 4=0:=by
 unfold part;exact Nat.div_eq_of_lt (by simpa using h)
def Tab.on (t:Tab)(pg lv:Nat):Nat:=t.word lv (part pg lv) (num pg lv)
theorem Tab.on_one (t:Tab)(pg:Nat):t.on pg 1=match t.lf pg with|some l=>l.pack|none=>0:=by
 unfold Tab.on Tab.word;rw[if_pos rfl,ir pg 1 (wS _),kG]
theorem Tab.on_more (t:Tab)(pg lv:Nat)(h:2<=lv):t.on pg lv=match t.nd (lv-1) (part pg (lv-1))with|some f=>f*4096+1|none=>0:=by
 unfold Tab.on Tab.word;rw[if_neg o_,ir pg lv o_]
theorem bC {α:Type}{o:Option α}(h:o.isSome=true): ∃x,o=some x:=Option.isSome_iff_exists.1 h
variable {p:Pool}{t:Tab}{pg lv:Nat}
theorem Tab.Ok.ups (h:t.Ok p)(hs:(t.nd lv (part pg lv)).isSome=true): ∀m,lv<=m->m<=4->(t.nd m (part pg m)).isSome=true:=by
 have key: ∀d,lv+d<=4->(t.nd (lv+d) (part pg (lv+d))).isSome=true:=by
  intro d
  induction d with
  |zero=>intro _;exact hs
  |succ d ih=>
   intro h4;obtain⟨f,hf⟩:=bC (ih o_);have:=h.above (lv+d) _ f hf o_
   rwa [mK]at this
 intro m hm h4;have:=key (m-lv) o_
 rwa [show lv+(m-lv)=m from by omega]at this
variable {l:Leaf}
theorem Tab.Ok.leafUp (h:t.Ok p)(hl:t.lf pg=some l)(m:Nat)(h1:1<=m)(h4:m<=4):(t.nd m (part pg m)).isSome=true:=by
 have:=(h.leaf pg l hl).1;have e:pg/512=part pg 1:=(by simp[part]);rw[e]at this;exact h.ups this m h1 h4
theorem Tab.Ok.noLeaf (h:t.Ok p)(h1:1<=lv)(h4:lv<=4)(hn:t.nd lv (part pg lv)=none):t.lf pg=none:=by
 cases hl:t.lf pg with
 |none=>rfl
 |some l=>
  have:=h.leafUp hl lv h1 h4;rw[hn]at this;simp at this
theorem Tab.Ok.rootPage (h:t.Ok p)(hl:t.lf pg=some l):pg<68719476736:=by
 obtain⟨f,hf⟩:=bC (h.leafUp hl 4 o_ o_);have:=h.only _ f hf;unfold part at this;have h2:(512:Nat)^4=68719476736:=d_;rw[h2]at this;omega
end
section
def br (q:Nat->Bool):Nat->Nat
 |0=>0
 |n+1=>br q n+if q n=true then 1 else 0
variable {q r:Nat->Bool}{n:Nat}
theorem gT (h: ∀i,i<n->q i=r i):br q n=br r n:=by
 induction n with
 |zero=>rfl
 |succ n ih=>unfold br;rw[ih (fun i hi=>h i o_),h n o_]
variable {i:Nat}
theorem vM (hi:i<n)(h: ∀j,j≠i->q j=r j):br r n+(if q i=true then 1 else 0)=br q n+(if r i=true then 1 else 0):=by
 induction n with
 |zero=>omega
 |succ n ih=>
  unfold br;by_cases e:i=n
  ·subst e;rw[gT (q:=q) (r:=r) (fun j hj=>h j o_)];omega
  ·have:=ih o_;rw[h n (fun e'=>e e'.symm)];omega
theorem eG :br q n=0↔ ∀i,i<n->q i=false:=by
 induction n with
 |zero=>simp[br]
 |succ n ih=>
  unfold br;constructor
  ·intro h i hi;rcases Nat.lt_or_ge i n with h2|h2
   ·exact ih.1 o_ i h2
   ·have:i=n:=o_;subst this;cases hq:q i with
    |false=>rfl
    |true=>rw[if_pos hq]at h;omega
  ·intro h;rw[ih.2 (fun i hi=>h i o_),h n o_];simp
theorem vN (hi:i<n)(h:q i=true):0<br q n:=by
 rcases Nat.eq_zero_or_pos (br q n)with h0|h0
 ·have:=eG.1 h0 i hi;rw[h]at this;cases this
 ·exact h0
def bN:Nat:=68719476736
def cQ (t:Tab)(f:Nat):Nat->Bool:=fun pg=>match t.lf pg with|some l=>l.frame==f|none=>false
def ai (t:Tab)(f:Nat):Nat:=br (cQ t f) bN
def an (t:Tab)(f:Nat):Prop:= ∃lv part,t.nd lv part=some f
open Classical in
noncomputable def ay (t:Tab)(f:Nat):Nat:=if an t f then 1 else 0
variable {t:Tab}{f:Nat}
theorem ao (h:an t f):ay t f=1:=by unfold ay;rw[if_pos h]
theorem aF (h: ¬an t f):ay t f=0:=by unfold ay;rw[if_neg h]
theorem eW {t':Tab}(h:an t f↔an t' f):ay t f=ay t' f:=by
 unfold ay;by_cases h1:an t f
 ·rw[if_pos h1,if_pos (h.1 h1)]
 ·rw[if_neg h1,if_neg (fun e=>h1 (h.2 e))]
structure Tab.But (p:Pool)(t:Tab)(pg lv0:Nat):Prop where
 root:(t.nd 4 0).isSome=true
 only: ∀part f,t.nd 4 part=some f->part=0
 level: ∀lv part f,t.nd lv part=some f->1<=lv/\lv<=4
 above: ∀lv part f,t.nd lv part=some f->lv<4->(t.nd (lv+1) (part/512)).isSome=true
 leaf: ∀pg l,t.lf pg=some l->(t.nd 1 (pg/512)).isSome=true/\l.prot<=7/\l.frame<p.n
 inj: ∀l1 p1 l2 p2 f,t.nd l1 p1=some f->t.nd l2 p2=some f->l1=l2/\p1=p2
 words: ∀lv part f,t.nd lv part=some f->f<p.n/\ ∀k,k<512->Go.Proofs.YtoochjhipmpehaaGreatDoor.word (p.dat f) k=t.word lv part k
 full: ∀lv part f,t.nd lv part=some f->lv<4-> ¬(lv=lv0/\part=Go.Proofs.YtoochjhipmpehaaGreatDoor.part pg lv0)-> ∃k,k<512/\t.word lv part k≠0
 few:p.n<=1024
structure Tab.Good (p:Pool)(t:Tab)(rest:Nat->Nat)(pg lv0:Nat):Prop where
 but:t.But p pg lv0
 cnt: ∀f,f<p.n->p.cnt f=ai t f+ay t f+rest f
variable {p:Pool}{rest:Nat->Nat}{pg lv0:Nat}
theorem Tab.Good.node {lv part:Nat}(h:t.Good p rest pg lv0)(hf:t.nd lv part=some f):f<p.n/\0<p.cnt f:=by
 have h1:=(h.but.words lv part f hf).1;have h2:=h.cnt f h1;rw[ao ⟨lv,part,hf⟩]at h2;exact⟨h1,o_⟩
theorem Tab.Good.ok (h:t.Good p rest pg 4):t.Ok p:=
 ⟨h.but.root,h.but.only,h.but.level,h.but.above,h.but.leaf,h.but.inj,fun lv part f hf=>h.node hf,fun lv part f hf=>(h.but.words lv part f hf).2,fun lv part f hf hl=>h.but.full lv part f hf hl (fun e=>o_),h.but.few⟩
theorem Tab.But.any (h:t.But p pg 4)(pg' lv0:Nat):t.But p pg' lv0:=
 ⟨h.root,h.only,h.level,h.above,h.leaf,h.inj,h.words,fun lv part f hf hl _ =>h.full lv part f hf hl (fun e=>o_),h.few⟩
theorem Tab.But.whole (h:t.But p pg lv0)(hw:(t.nd lv0 (Go.Proofs.YtoochjhipmpehaaGreatDoor.part pg lv0)).isSome=true-> ∃k,k<512/\t.word lv0 (Go.Proofs.YtoochjhipmpehaaGreatDoor.part pg lv0) k≠0)(pg':Nat):t.But p pg' 4:=
 ⟨h.root,h.only,h.level,h.above,h.leaf,h.inj,h.words,fun lv part f hf hl _ =>by
  by_cases e:lv=lv0/\part=Go.Proofs.YtoochjhipmpehaaGreatDoor.part pg lv0
  ·obtain⟨rfl,rfl⟩:=e;exact hw (by rw[hf];rfl)
  ·exact h.full lv part f hf hl e,h.few⟩
def Tab.lay (t:Tab)(pg:Nat)(o:Option Leaf):Tab:=⟨t.nd,upd t.lf pg o⟩
def jU:Option Leaf->Nat
 |some l=>l.pack
 |none=>0
theorem Tab.lay_word (t:Tab)(pg:Nat)(o:Option Leaf)(lv q k:Nat)(hk:k<512):
  (t.lay pg o).word lv q k=if lv=1/\q=part pg 1/\k=num pg 1 then jU o else t.word lv q k:=by
 unfold Tab.word Tab.lay;by_cases h1:lv=1
 ·subst h1;rw[if_pos rfl,if_pos rfl];have hp:part pg 1*512+num pg 1=pg:=(by rw[ir pg 1 (wS _),kG]);have hn:=ce pg 1;by_cases h2:q=part pg 1/\k=num pg 1
  ·rw[if_pos ⟨rfl,h2⟩,h2.1,h2.2,hp];simp only[af];cases o<;>rfl
  ·rw[if_neg (fun e=>h2 e.2)];have:q*512+k≠pg:=by
    intro e;apply h2;constructor<;>omega
   simp only[ah _ _ this]
 ·rw[if_neg h1,if_neg h1,if_neg (fun e=>h1 e.1)]
theorem dI (zq:pg<bN)(o:Option Leaf)(f:Nat):
  ai (t.lay pg o) f+(if cQ t f pg=true then 1 else 0)=ai t f+(match o with|some l=>if l.frame=f then 1 else 0|none=>0):=by
 unfold ai;have:=vM (q:=cQ t f) (r:=cQ (t.lay pg o) f) zq (fun j hj=>by unfold cQ Tab.lay;simp only[ah _ _ hj]);rw[this];congr 1;unfold cQ Tab.lay;simp only[af];cases o with
 |none=>rfl
 |some l=>simp
theorem eV (t:Tab)(pg:Nat)(o:Option Leaf)(f:Nat):ay (t.lay pg o) f=ay t f:=eW Iff.rfl
theorem Tab.But.lay {g:Nat}(h:t.But p pg lv0)(yR:lv0=4\/lv0=1)(hg:t.nd 1 (part pg 1)=some g)(o:Option Leaf)(ho: ∀l,o=some l->l.prot<=7/\l.frame<p.n):
  (t.lay pg o).But (p.store g (aG (p.dat g) (num pg 1) (jU o))) pg (match o with|some _ =>4|none=>1):=by
 refine⟨h.root,h.only,h.level,h.above,fun q l hq=>?_,h.inj,fun lv q f hf=>?_,fun lv q f hf hl xA=>?_,h.few⟩
 ·by_cases e:q=pg
  ·subst e;simp only[Tab.lay,af]at hq;have e1:q/512=part q 1:=(by simp[part]);refine⟨?_,ho l hq⟩;show(t.nd 1 (q/512)).isSome=true;rw[e1,hg];rfl
  ·simp only[Tab.lay,ah _ _ e]at hq;exact h.leaf q l hq
 ·have KB:t.nd lv q=some f:=hf;refine⟨(h.words lv q f KB).1,fun k hk=>?_⟩;rw[Tab.lay_word t pg o lv q k hk];have hx:jU o<18446744073709551616:=by
   cases o with
   |none=>decide
   |some l=>
    have:=ho l rfl;have:=eR l this.1 (by have:=h.few;omega);simp only[jU];omega
  by_cases e:f=g
  ·subst e;obtain⟨rfl,rfl⟩:=h.inj _ _ _ _ _ KB hg;simp only[Pool.store,af];rw[fx hx];by_cases e2:k=num pg 1
   ·rw[if_pos e2,if_pos (by simp[e2])]
   ·rw[if_neg e2,if_neg (fun e=>e2 e.2.2)];exact(h.words _ _ _ KB).2 k hk
  ·simp only[Pool.store,ah _ _ e];rw[if_neg (fun e2=>e (by
    obtain⟨rfl,rfl,_⟩:=e2;rw[hg]at KB;injection KB with e3;exact e3.symm))]
   exact(h.words _ _ _ KB).2 k hk
 ·have KB:t.nd lv q=some f:=hf;by_cases e:lv=1/\q=part pg 1
  ·obtain⟨rfl,rfl⟩:=e;cases o with
   |none=>exact(xA ⟨rfl,rfl⟩).elim
   |some l=>
    refine⟨num pg 1,ce pg 1,?_⟩;rw[Tab.lay_word t pg _ 1 _ _ (ce pg 1),if_pos ⟨rfl,rfl,rfl⟩];have:=fZ l;show l.pack≠0;omega
  ·obtain⟨k,hk,hw⟩:=h.full lv q f KB hl (fun e2=>by
    rcases yR with rfl|rfl
    ·omega
    ·exact e e2)
   refine⟨k,hk,?_⟩;rw[Tab.lay_word t pg o lv q k hk,if_neg (fun e2=>e ⟨e2.1,e2.2.1⟩)];exact hw
end
section
def Tab.put (t:Tab)(lv q:Nat)(o:Option Nat):Tab:=⟨upd t.nd lv (upd (t.nd lv) q o),t.lf⟩
def eU:Option Nat->Nat
 |some f=>f*4096+1
 |none=>0
theorem Tab.put_at (t:Tab)(lv q:Nat)(o:Option Nat):(t.put lv q o).nd lv q=o:=by simp[Tab.put,af]
variable {q':Nat}
theorem Tab.put_ne (t:Tab)(lv q:Nat)(o:Option Nat){lv':Nat}(h: ¬(lv'=lv/\q'=q)):(t.put lv q o).nd lv' q'=t.nd lv' q':=by
 unfold Tab.put;by_cases h1:lv'=lv
 ·subst h1;simp only[af];exact ah _ _ (fun e=>h ⟨rfl,e⟩)
 ·simp only[ah _ _ h1]
variable {lv:Nat}
theorem Tab.put_word (t:Tab)(yR:1<=lv)(pg:Nat)(o:Option Nat)(lv' q k:Nat)(hk:k<512):
  (t.put lv (part pg lv) o).word lv' q k=if lv'=lv+1/\q=part pg (lv+1)/\k=num pg (lv+1)then eU o else t.word lv' q k:=by
 have hp:part pg (lv+1)*512+num pg (lv+1)=part pg lv:=by
  have:=ir pg (lv+1) o_;simpa using this
 have hn:=ce pg (lv+1);unfold Tab.word;by_cases h1:lv'=1
 ·subst h1;rw[if_pos rfl,if_pos rfl,if_neg o_];rfl
 ·rw[if_neg h1,if_neg h1];by_cases h2:lv'=lv+1/\q=part pg (lv+1)/\k=num pg (lv+1)
  ·rw[if_pos h2];obtain⟨rfl,rfl,rfl⟩:=h2;rw[hp,Nat.add_sub_cancel,Tab.put_at];cases o<;>rfl
  ·rw[if_neg h2,Tab.put_ne];intro e;apply h2;refine⟨o_,?_,?_⟩<;>omega
theorem pV {o:Option Nat}(h: ∀f,o=some f->f<1024):eU o<18446744073709551616:=by
 cases o with
 |none=>decide
 |some f=>have:=h f rfl;simp only[eU];omega
variable {p:Pool}{t:Tab}{pg lv0 q:Nat}
theorem Tab.But.bare (h:t.But p pg lv0)(hn:t.nd lv q=none)(yR:1<=lv)(Mt:lv<=4)(k:Nat)(hk:k<512):t.word lv q k=0:=by
 unfold Tab.word;by_cases h1:lv=1
 ·subst h1;rw[if_pos rfl];cases hl:t.lf (q*512+k)with
  |none=>rfl
  |some l=>
   have:=(h.leaf _ l hl).1;rw[show(q*512+k)/512=q from by omega,hn]at this;cases this
 ·rw[if_neg h1];cases hf:t.nd (lv-1) (q*512+k)with
  |none=>rfl
  |some f=>
   have:=h.above _ _ f hf o_;rw[show lv-1+1=lv from by omega,show(q*512+k)/512=q from by omega,hn]at this;cases this
theorem Tab.clear (yR:2<=lv)(hz: ∀k,k<512->t.word lv q k=0)(hq:q'/512=q):t.nd (lv-1) q'=none:=by
 cases hf:t.nd (lv-1) q' with
 |none=>rfl
 |some f=>
  have:=hz (q' % 512) (Nat.mod_lt _ d_);unfold Tab.word at this;rw[if_neg o_,show q*512+q' % 512=q' from by omega,hf]at this;simp at this
theorem Tab.clear1 (hz: ∀k,k<512->t.word 1 q k=0)(hq:q'/512=q):t.lf q'=none:=by
 cases hf:t.lf q' with
 |none=>rfl
 |some l=>
  have:=hz (q' % 512) (Nat.mod_lt _ d_);unfold Tab.word at this;rw[if_pos rfl,show q*512+q' % 512=q' from by omega,hf]at this;have:=fZ l;simp at *
  omega
variable {g f:Nat}
theorem Tab.But.link (h:t.But p pg lv0)(h1:1<=lv)(h3:lv<=3)(yR:lv0=4\/lv0=lv+1)(hn:t.nd lv (part pg lv)=none)(hg:t.nd (lv+1) (part pg (lv+1))=some g)
  (hf:f<p.n)(hnew: ¬an t f)(hz:p.dat f=fun _ =>0):
  (t.put lv (part pg lv) (some f)).But (p.store g (aG (p.dat g) (num pg (lv+1)) (eU (some f)))) pg lv:=by
 have xD:=h.few;have hgf:g≠f:=fun e=>hnew ⟨lv+1,part pg (lv+1),by rw[hg,e]⟩;have hx:eU (some f)<18446744073709551616:=pV (fun f' e=>by injection e with e;omega);refine⟨?_,fun q x hq=>?_,fun l q x hq=>?_,fun l q x hq hl=>?_,fun q l hq=>?_,fun l1 p1 l2 p2 x zY Ak=>?_,fun l q x hq=>?_,fun l q x hq hl xA=>?_,h.few⟩
 ·rw[Tab.put_ne _ _ _ _ o_];exact h.root
 ·rw[Tab.put_ne _ _ _ _ o_]at hq;exact h.only q x hq
 ·by_cases e:l=lv/\q=part pg lv
  ·omega
  ·rw[Tab.put_ne _ _ _ _ e]at hq;exact h.level l q x hq
 ·by_cases e:l=lv/\q=part pg lv
  ·obtain⟨rfl,rfl⟩:=e;rw[mK,Tab.put_ne _ _ _ _ o_,hg];rfl
  ·rw[Tab.put_ne _ _ _ _ e]at hq;have:=h.above l q x hq hl;by_cases e2:l+1=lv/\q/512=part pg lv
   ·rw[e2.1,e2.2,Tab.put_at];rfl
   ·rw[Tab.put_ne _ _ _ _ e2];exact this
 ·have:=h.leaf q l hq;refine⟨?_,this.2⟩;by_cases e2:1=lv/\q/512=part pg lv
  ·rw[e2.2];obtain⟨rfl,_⟩:=e2;rw[Tab.put_at];rfl
  ·rw[Tab.put_ne _ _ _ _ e2];exact this.1
 ·by_cases e1:l1=lv/\p1=part pg lv
  ·by_cases e2:l2=lv/\p2=part pg lv
   ·omega
   ·obtain⟨rfl,rfl⟩:=e1;rw[Tab.put_at]at zY;rw[Tab.put_ne _ _ _ _ e2]at Ak;injection zY with zY;subst zY;exact absurd ⟨_,_,Ak⟩ hnew
  ·rw[Tab.put_ne _ _ _ _ e1]at zY;by_cases e2:l2=lv/\p2=part pg lv
   ·obtain⟨rfl,rfl⟩:=e2;rw[Tab.put_at]at Ak;injection Ak with Ak;subst Ak;exact absurd ⟨_,_,zY⟩ hnew
   ·rw[Tab.put_ne _ _ _ _ e2]at Ak;exact h.inj _ _ _ _ _ zY Ak
 ·by_cases e:l=lv/\q=part pg lv
  ·obtain⟨rfl,rfl⟩:=e;rw[Tab.put_at]at hq;injection hq with hq;subst hq;refine⟨hf,fun k hk=>?_⟩;rw[Tab.put_word t h1 pg _ _ _ k hk,if_neg o_,h.bare hn h1 o_ k hk];simp only[Pool.store,ah _ _ hgf.symm];rw[hz];exact nI k
  ·rw[Tab.put_ne _ _ _ _ e]at hq;obtain⟨w1,w2⟩:=h.words l q x hq;refine⟨w1,fun k hk=>?_⟩;rw[Tab.put_word t h1 pg _ _ _ k hk];by_cases ex:x=g
   ·subst ex;obtain⟨rfl,rfl⟩:=h.inj _ _ _ _ _ hq hg;simp only[Pool.store,af];rw[fx hx];by_cases e2:k=num pg (lv+1)
    ·rw[if_pos e2,if_pos (by simp[e2])]
    ·rw[if_neg e2,if_neg (fun e=>e2 e.2.2)];exact w2 k hk
   ·simp only[Pool.store,ah _ _ ex];rw[if_neg (fun e2=>ex (by
     obtain⟨rfl,rfl,_⟩:=e2;rw[hg]at hq;injection hq with e3;exact e3.symm))]
    exact w2 k hk
 ·by_cases e:l=lv+1/\q=part pg (lv+1)
  ·obtain⟨rfl,rfl⟩:=e;refine⟨num pg (lv+1),ce _ _,?_⟩;rw[Tab.put_word t h1 pg _ _ _ _ (ce _ _),if_pos ⟨rfl,rfl,rfl⟩];simp[eU]
  ·rw[Tab.put_ne _ _ _ _ xA]at hq;obtain⟨k,hk,hw⟩:=h.full l q x hq hl (fun e2=>by
    rcases yR with rfl|rfl
    ·omega
    ·exact e e2)
   refine⟨k,hk,?_⟩;rw[Tab.put_word t h1 pg _ _ _ k hk,if_neg (fun e2=>e ⟨e2.1,e2.2.1⟩)];exact hw
theorem Tab.But.prune (h:t.But p pg lv)(h1:1<=lv)(h3:lv<=3)(hf:t.nd lv (part pg lv)=some f)(hg:t.nd (lv+1) (part pg (lv+1))=some g)(hz: ∀k,k<512->t.word lv (part pg lv) k=0):
  (t.put lv (part pg lv) none).But ((p.store g (aG (p.dat g) (num pg (lv+1)) 0)).down f) pg (lv+1):=by
 have hx:(0:Nat)<18446744073709551616:=d_;refine⟨?_,fun q x hq=>?_,fun l q x hq=>?_,fun l q x hq hl=>?_,fun q l hq=>?_,fun l1 p1 l2 p2 x zY Ak=>?_,fun l q x hq=>?_,fun l q x hq hl xA=>?_,h.few⟩
 ·rw[Tab.put_ne _ _ _ _ o_];exact h.root
 ·rw[Tab.put_ne _ _ _ _ o_]at hq;exact h.only q x hq
 ·by_cases e:l=lv/\q=part pg lv
  ·omega
  ·rw[Tab.put_ne _ _ _ _ e]at hq;exact h.level l q x hq
 ·by_cases e:l=lv/\q=part pg lv
  ·obtain⟨rfl,rfl⟩:=e;rw[Tab.put_at]at hq;cases hq
  ·rw[Tab.put_ne _ _ _ _ e]at hq;have:=h.above l q x hq hl;by_cases e2:l+1=lv/\q/512=part pg lv
   ·have h5:=(h.level l q x hq).1;have:=Tab.clear (t:=t) (lv:=lv) o_ hz e2.2;rw[show lv-1=l from by omega,hq]at this;cases this
   ·rw[Tab.put_ne _ _ _ _ e2];exact this
 ·have:=h.leaf q l hq;refine⟨?_,this.2⟩;by_cases e2:1=lv/\q/512=part pg lv
  ·obtain⟨rfl,e3⟩:=e2;have h5:t.lf q=none:=Tab.clear1 (t:=t) hz e3;have h6:t.lf q=some l:=hq;rw[h5]at h6;cases h6
  ·rw[Tab.put_ne _ _ _ _ e2];exact this.1
 ·by_cases e1:l1=lv/\p1=part pg lv
  ·obtain⟨rfl,rfl⟩:=e1;rw[Tab.put_at]at zY;cases zY
  ·by_cases e2:l2=lv/\p2=part pg lv
   ·obtain⟨rfl,rfl⟩:=e2;rw[Tab.put_at]at Ak;cases Ak
   ·rw[Tab.put_ne _ _ _ _ e1]at zY;rw[Tab.put_ne _ _ _ _ e2]at Ak;exact h.inj _ _ _ _ _ zY Ak
 ·by_cases e:l=lv/\q=part pg lv
  ·obtain⟨rfl,rfl⟩:=e;rw[Tab.put_at]at hq;cases hq
  ·rw[Tab.put_ne _ _ _ _ e]at hq;obtain⟨w1,w2⟩:=h.words l q x hq;refine⟨w1,fun k hk=>?_⟩;rw[Tab.put_word t h1 pg _ _ _ k hk];by_cases ex:x=g
   ·subst ex;obtain⟨rfl,rfl⟩:=h.inj _ _ _ _ _ hq hg;simp only[Pool.store,Pool.down,af];rw[fx hx];by_cases e2:k=num pg (lv+1)
    ·rw[if_pos e2,if_pos (by simp[e2])];rfl
    ·rw[if_neg e2,if_neg (fun e=>e2 e.2.2)];exact w2 k hk
   ·simp only[Pool.store,Pool.down,ah _ _ ex];rw[if_neg (fun e2=>ex (by
     obtain⟨rfl,rfl,_⟩:=e2;rw[hg]at hq;injection hq with e3;exact e3.symm))]
    exact w2 k hk
 ·by_cases e:l=lv/\q=part pg lv
  ·obtain⟨rfl,rfl⟩:=e;rw[Tab.put_at]at hq;cases hq
  ·rw[Tab.put_ne _ _ _ _ e]at hq;obtain⟨k,hk,hw⟩:=h.full l q x hq hl e;refine⟨k,hk,?_⟩;rw[Tab.put_word t h1 pg _ _ _ k hk,if_neg (fun e2=>xA ⟨e2.1,e2.2.1⟩)];exact hw
end
section
variable {p:Pool}{t:Tab}{pg lv0:Nat}
theorem Tab.But.same {p':Pool}(h:t.But p pg lv0)(hn:p'.n=p.n)(hd: ∀f,an t f->p'.dat f=p.dat f):t.But p' pg lv0:=
 ⟨h.root,h.only,h.level,h.above,fun q l hq=>by rw[hn];exact h.leaf q l hq,h.inj,fun lv q f hf=>by rw[hn,hd f ⟨lv,q,hf⟩];exact h.words lv q f hf,h.full,by rw[hn];exact h.few⟩
variable {rest:Nat->Nat}{f:Nat}
theorem Tab.Good.fresh (h:t.Good p rest pg lv0)(hf:f<p.n)(h0:p.cnt f=0): ¬an t f/\ai t f=0/\rest f=0:=by
 have h1:=h.cnt f hf;refine⟨fun e=>?_,o_,o_⟩;rw[ao e]at h1;omega
theorem Tab.Good.take (h:t.Good p rest pg lv0)(hf:f<p.n)(h0:p.cnt f=0):t.Good (p.takeAt f) (upd rest f 1) pg lv0:=by
 obtain⟨h1,h2,h3⟩:=h.fresh hf h0;refine⟨h.but.same rfl (fun x hx=>ah _ _ (fun e=>h1 (e▸hx))),fun x hx=>?_⟩;by_cases e:x=f
 ·subst e;rw[aF h1];simp only[Pool.takeAt,af];omega
 ·simp only[Pool.takeAt,ah _ _ e];exact h.cnt x hx
theorem Tab.Good.up (h:t.Good p rest pg lv0)(f:Nat):t.Good (p.up f) (upd rest f (rest f+1)) pg lv0:=by
 refine⟨h.but.same rfl (fun x hx=>rfl),fun x hx=>?_⟩;have h1:=h.cnt x hx;by_cases e:x=f
 ·subst e;simp only[Pool.up,af];omega
 ·simp only[Pool.up,ah _ _ e];exact h1
theorem Tab.Good.down (h:t.Good p rest pg lv0)(hr:0<rest f):t.Good (p.down f) (upd rest f (rest f-1)) pg lv0:=by
 refine⟨h.but.same rfl (fun x hx=>rfl),fun x hx=>?_⟩;have h1:=h.cnt x hx;by_cases e:x=f
 ·subst e;simp only[Pool.down,af];omega
 ·simp only[Pool.down,ah _ _ e];exact h1
variable {l:Leaf}
theorem dH (h:t.lf pg=some l):cQ t f pg=(l.frame==f):=by unfold cQ;rw[h]
theorem dG (h:t.lf pg=none):cQ t f pg=false:=by unfold cQ;rw[h]
theorem cC (zq:pg<bN)(h:t.lf pg=some l):0<ai t l.frame:=vN zq (by rw[dH h];simp)
variable {g:Nat}
theorem Tab.Good.layNew (h:t.Good p rest pg lv0)(yR:lv0=4\/lv0=1)(zq:pg<bN)(hg:t.nd 1 (part pg 1)=some g)(xL:t.lf pg=none)(h7:l.prot<=7)(hf:l.frame<p.n)(hr:0<rest l.frame):
  (t.lay pg (some l)).Good (p.store g (aG (p.dat g) (num pg 1) l.pack)) (upd rest l.frame (rest l.frame-1)) pg 4:=by
 refine⟨h.but.lay yR hg (some l) (fun x hx=>by injection hx with hx;subst hx;exact⟨h7,hf⟩),fun x hx=>?_⟩;have h1:=h.cnt x hx;have h2:=dI zq (some l) (t:=t) x;rw[dG xL]at h2;rw[eV];by_cases e:l.frame=x
 ·subst e;rw[af];show p.cnt l.frame=_;simp only[if_pos]at h2;rw[if_neg s_]at h2;omega
 ·rw[ah _ _ (fun e'=>e e'.symm)];show p.cnt x=_;simp only[if_neg e]at h2;rw[if_neg s_]at h2;omega
theorem up_down (c:Nat->Nat)(a b x L L' R:Nat)(h1:c x=L+R)(h2:L'+(if b=x then 1 else 0)=L+(if a=x then 1 else 0))(h3:b=x->0<L):
  upd (upd c a (c a+1)) b (upd c a (c a+1) b-1) x=L'+R:=by
 unfold upd;by_cases e1:b=x
 ·subst e1;have:=h3 rfl;rw[if_pos rfl]at h2⊢;by_cases e2:b=a
  ·subst e2;rw[if_pos rfl]at h2⊢;omega
  ·rw[if_neg (fun e=>e2 e.symm)]at h2;rw[if_neg e2];omega
 ·rw[if_neg e1]at h2;rw[if_neg (fun e=>e1 e.symm)];by_cases e2:x=a
  ·subst e2;rw[if_pos rfl]at h2⊢;omega
  ·rw[if_neg (fun e=>e2 e.symm)]at h2;rw[if_neg e2];omega
theorem vn (c:Nat->Nat)(b x L L' R:Nat)(h1:c x=L+R)(h2:L'+(if b=x then 1 else 0)=L)(h3:b=x->0<L):upd c b (c b-1) x=L'+R:=by
 unfold upd;by_cases e1:b=x
 ·subst e1;have:=h3 rfl;rw[if_pos rfl]at h2⊢;omega
 ·rw[if_neg e1]at h2;rw[if_neg (fun e=>e1 e.symm)];omega
variable {was:Leaf}
theorem Tab.Good.laySet (h:t.Good p rest pg 4)(zq:pg<bN)(hg:t.nd 1 (part pg 1)=some g)(hw:t.lf pg=some was)(h7:l.prot<=7)(hf:l.frame<p.n):
  (t.lay pg (some l)).Good (((p.up l.frame).down was.frame).store g (aG (p.dat g) (num pg 1) l.pack)) rest pg 4:=by
 refine⟨(h.but.lay (.inl rfl) hg (some l) (fun x hx=>by injection hx with hx;subst hx;exact⟨h7,hf⟩)).same rfl (fun _ _ =>rfl),fun x hx=>?_⟩;have h1:=h.cnt x hx;have h2:=dI zq (some l) (t:=t) x;rw[dH hw]at h2;rw[eV];have h3:=cC zq hw;have h4:=up_down p.cnt l.frame was.frame x (ai t x) (ai (t.lay pg (some l)) x) (ay t x+rest x) o_ (by simpa using h2) (fun e=>by rw[<-e];exact h3);rw[Nat.add_assoc];exact h4
theorem Tab.Good.layNone (h:t.Good p rest pg 4)(zq:pg<bN)(hg:t.nd 1 (part pg 1)=some g)(hw:t.lf pg=some was):
  (t.lay pg none).Good ((p.down was.frame).store g (aG (p.dat g) (num pg 1) 0)) rest pg 1:=by
 refine⟨(h.but.lay (.inl rfl) hg none (fun x hx=>by cases hx)).same rfl (fun _ _ =>rfl),fun x hx=>?_⟩;have h1:=h.cnt x hx;have h2:=dI zq none (t:=t) x;rw[dH hw]at h2;rw[eV];have h3:=cC zq hw;have h4:=vn p.cnt was.frame x (ai t x) (ai (t.lay pg none) x) (ay t x+rest x) o_ (by simpa using h2) (fun e=>by rw[<-e];exact h3);rw[Nat.add_assoc];exact h4
variable {lv:Nat}
theorem cV {q:Nat}{o:Option Nat}{x:Nat} :an (t.put lv q o) x↔o=some x\/ ∃l r,¬(l=lv/\r=q)/\t.nd l r=some x:=by
 constructor
 ·rintro⟨l,r,h⟩;by_cases e:l=lv/\r=q
  ·obtain⟨rfl,rfl⟩:=e;rw[Tab.put_at]at h;exact .inl h
  ·rw[Tab.put_ne _ _ _ _ e]at h;exact .inr ⟨l,r,e,h⟩
 ·rintro(h|⟨l,r,e,h⟩)
  ·exact⟨lv,q,by rw[Tab.put_at];exact h⟩
  ·exact⟨l,r,by rw[Tab.put_ne _ _ _ _ e];exact h⟩
theorem kO (t:Tab)(lv q:Nat)(o:Option Nat)(f:Nat):ai (t.put lv q o) f=ai t f:=rfl
theorem Tab.Good.link (h:t.Good p rest pg lv0)(h1:1<=lv)(h3:lv<=3)(yR:lv0=4\/lv0=lv+1)(hn:t.nd lv (part pg lv)=none)(hg:t.nd (lv+1) (part pg (lv+1))=some g)
  (hf:f<p.n)(hnew: ¬an t f)(hz:p.dat f=fun _ =>0)(hr:0<rest f):
  (t.put lv (part pg lv) (some f)).Good (p.store g (aG (p.dat g) (num pg (lv+1)) (eU (some f)))) (upd rest f (rest f-1)) pg lv:=by
 refine⟨h.but.link h1 h3 yR hn hg hf hnew hz,fun x hx=>?_⟩;have hc:=h.cnt x hx;rw[kO];by_cases e:x=f
 ·subst e;rw[ao (cV.2 (.inl rfl)),af];rw[aF hnew]at hc;simp only[Pool.store];omega
 ·rw[ah _ _ e,eW (t':=t)]
  ·exact hc
  ·rw[cV];constructor
   ·rintro(h5|⟨l,r,_,h5⟩)
    ·injection h5 with h5;exact absurd h5.symm e
    ·exact⟨l,r,h5⟩
   ·rintro⟨l,r,h5⟩;refine .inr ⟨l,r,fun e2=>?_,h5⟩;rw[e2.1,e2.2,hn]at h5;cases h5
theorem Tab.Good.prune (h:t.Good p rest pg lv)(h1:1<=lv)(h3:lv<=3)(hf:t.nd lv (part pg lv)=some f)(hg:t.nd (lv+1) (part pg (lv+1))=some g)(hz: ∀k,k<512->t.word lv (part pg lv) k=0):
  (t.put lv (part pg lv) none).Good ((p.store g (aG (p.dat g) (num pg (lv+1)) 0)).down f) rest pg (lv+1):=by
 refine⟨h.but.prune h1 h3 hf hg hz,fun x hx=>?_⟩;have hc:=h.cnt x hx;rw[kO];by_cases e:x=f
 ·subst e;have: ¬an (t.put lv (part pg lv) none) x:=by
   rw[cV];rintro(h5|⟨l,r,h6,h5⟩)
   ·cases h5
   ·exact h6 (h.but.inj _ _ _ _ _ h5 hf)
  rw[aF this];rw[ao ⟨_,_,hf⟩]at hc;simp only[Pool.store,Pool.down,af];omega
 ·simp only[Pool.store,Pool.down,ah _ _ e];rw[eW (t':=t)]
  ·exact hc
  ·rw[cV];constructor
   ·rintro(h5|⟨l,r,_,h5⟩)
    ·cases h5
    ·exact⟨l,r,h5⟩
   ·rintro⟨l,r,h5⟩;refine .inr ⟨l,r,fun e2=>?_,h5⟩;rw[e2.1,e2.2,hf]at h5;injection h5 with h5;exact e h5.symm
end
section
variable {p:Pool}{t:Tab}{rest:Nat->Nat}{pg0 pg:Nat}{l:Leaf}
theorem Tab.Good.leafOf (h:t.Good p rest pg0 4)(hl:t.lf pg=some l):l.prot<=7/\l.frame<p.n/\1<=p.cnt l.frame:=by
 have h1:=h.but.leaf pg l hl;have h2:=h.cnt l.frame h1.2.2;have zq:pg<bN:=h.ok.rootPage hl;have h3:=cC zq hl;exact⟨h1.2.1,h1.2.2,o_⟩
variable {lv g:Nat}
theorem Tab.Good.safe {q:Nat}(h:t.Good p rest pg0 4)(hl:t.lf pg=some l)(hg:t.nd lv q=some g):2<=p.cnt g\/(g≠l.frame/\1<=p.cnt g):=by
 have h1:=h.node hg;by_cases e:g=l.frame
 ·left;have h2:=h.cnt g h1.1;rw[ao ⟨lv,q,hg⟩]at h2;have h3:=cC (h.ok.rootPage hl) hl;rw[<-e]at h3;omega
 ·exact .inr ⟨e,h1.2⟩
theorem Tab.Good.any (h:t.Good p rest pg0 4)(pg lv:Nat):t.Good p rest pg lv:=⟨h.but.any pg lv,h.cnt⟩
structure Gone (p:Pool)(T:Tab)(rest:Nat->Nat)(pg lv:Nat)(p':Pool)(T':Tab):Prop where
 good:T'.Good p' rest pg lv
 lf:T'.lf=upd T.lf pg none
 sub: ∀l q f,T'.nd l q=some f->T.nd l q=some f
 top: ∀l q,lv<=l->T'.nd l q=T.nd l q
 n:p'.n=p.n
 kept: ∀x,¬an T x->p'.dat x=p.dat x
variable {T:Tab}
theorem Gone.start {was:Leaf}(h:T.Good p rest pg0 4)(hw:T.lf pg=some was)(hg:T.nd 1 (part pg 1)=some g):
  Gone p T rest pg 1 ((p.down was.frame).store g (aG (p.dat g) (num pg 1) 0)) (T.lay pg none):=
 ⟨(h.any pg 4).layNone (h.ok.rootPage hw) hg hw,rfl,fun _ _ _ e=>e,fun _ _ _ =>rfl,rfl,fun x hx=>ah _ _ fun e=>hx (e▸⟨_,_,hg⟩)⟩
variable {p':Pool}{T':Tab}
theorem Gone.zero (h:Gone p T rest pg lv p' T')(hg:T'.nd lv (part pg lv)=some g):
  (∀i,i<4096->p'.dat g i=0)↔ ∀k,k<512->T'.word lv (part pg lv) k=0:=by
 rw[rX];have h1:=(h.good.but.words lv _ g hg).2;constructor
 ·intro h2 k hk;rw[<-h1 k hk];exact h2 k hk
 ·intro h2 k hk;rw[h1 k hk];exact h2 k hk
theorem Gone.keep (h:Gone p T rest pg lv p' T')(hg:T'.nd lv (part pg lv)=some g)(hz: ¬ ∀i,i<4096->p'.dat g i=0)(m:Nat)(hm:lv<=m):
  Gone p T rest pg m p' T':=by
 have h1: ∃k,k<512/\T'.word lv (part pg lv) k≠0:=xe fun e=>hz ((h.zero hg).2 fun k hk=>xe fun e2=>e ⟨k,hk,e2⟩);exact⟨⟨(h.good.but.whole (fun _ =>h1) 0).any pg m,h.good.cnt⟩,h.lf,h.sub,fun l q hl=>h.top l q o_,h.n,h.kept⟩
theorem Gone.prune (h:Gone p T rest pg lv p' T')(h1:1<=lv)(h3:lv<=3){f:Nat}(hg:T'.nd lv (part pg lv)=some g)(hf:T'.nd (lv+1) (part pg (lv+1))=some f)
  (hz: ∀i,i<4096->p'.dat g i=0):
  Gone p T rest pg (lv+1) ((p'.store f (aG (p'.dat f) (num pg (lv+1)) 0)).down g) (T'.put lv (part pg lv) none):=
 ⟨h.good.prune h1 h3 hg hf ((h.zero hg).1 hz),h.lf,fun l q x hx=>by
  by_cases e:l=lv/\q=part pg lv
  ·obtain⟨rfl,rfl⟩:=e;rw[Tab.put_at]at hx;cases hx
  ·rw[Tab.put_ne _ _ _ _ e]at hx;exact h.sub l q x hx,fun l q hl=>by
  rw[Tab.put_ne _ _ _ _ o_];exact h.top l q o_,h.n,fun x hx=>(show upd p'.dat f _ x=_ from ah _ _ fun e=>hx (e▸⟨_,_,h.sub _ _ _ hf⟩)).trans (h.kept x hx)⟩
end
section
inductive Ev where
 |node (f:Nat)
 |leaf (pg:Nat)(l:Leaf)
deriving DecidableEq
def Tab.evs (T:Tab):Nat->Nat->List Ev
 |0,q=>match T.lf q with|some l=>[.leaf q l]|none=>[]
 |lv+1,q=>match T.nd (lv+1) q with|some f=> .node f::(List.range 512).flatMap fun i=>T.evs lv (q*512+i)|none=>[]
def Tab.upto (T:Tab)(lv q k:Nat):List Ev:=(List.range k).flatMap fun i=>T.evs lv (q*512+i)
theorem Tab.upto_zero (T:Tab)(lv q:Nat):T.upto lv q 0=[]:=rfl
theorem Tab.upto_succ (T:Tab)(lv q k:Nat):T.upto lv q (k+1)=T.upto lv q k++T.evs lv (q*512+k):=by
 unfold Tab.upto;rw[List.range_succ,List.flatMap_append];simp
variable {T:Tab}{lv q:Nat}
theorem Tab.evs_node {f:Nat}(h:T.nd (lv+1) q=some f):T.evs (lv+1) q= .node f::T.upto lv q 512:=by
 unfold Tab.upto;rw[Tab.evs,h]
theorem Tab.evs_none (h:T.nd (lv+1) q=none):T.evs (lv+1) q=[]:=by rw[Tab.evs,h]
theorem Tab.evs_leaf {l:Leaf}(h:T.lf q=some l):T.evs 0 q=[.leaf q l]:=by rw[Tab.evs,h]
theorem Tab.evs_noleaf (h:T.lf q=none):T.evs 0 q=[]:=by rw[Tab.evs,h]
theorem Tab.upto_le (T:Tab)(lv q:Nat){k m:Nat}(h:k<=m):(T.upto lv q k).length<=(T.upto lv q m).length:=by
 induction m with
 |zero=>
      obtain rfl:k=0:=o_;exact wS _
 |succ m ih=>
  rcases Nat.lt_or_ge m k with h1|h1
  ·obtain rfl:k=m+1:=o_;exact wS _
  ·rw[Tab.upto_succ,wU];exact xn (ih h1) (Nat.le_add_right _ _)
end
section
def Ev.ns:Ev->List Nat
 | .node f=>[f]
 | .leaf _ _ =>[]
def Ev.ls:Ev->List (Nat×Leaf)
 | .node _ =>[]
 | .leaf pg y=>[(pg,y)]
def Ev.fs:Ev->List Nat
 | .node f=>[f]
 | .leaf _ y=>[y.frame]
variable {p:Pool}{t:Tab}
theorem Tab.Ok.over (h:t.Ok p){l x f:Nat}(hf:t.nd l x=some f)(d:Nat)(hd:l+d<=4):(t.nd (l+d) (x/512^d)).isSome=true:=by
 induction d with
 |zero=>simp[hf]
 |succ d ih=>
  obtain⟨g,hg⟩:=bC (ih o_);have:=h.above _ _ g hg o_;rw[Nat.div_div_eq_div_mul,<-Nat.pow_succ]at this;exact this
theorem Tab.evs_ns {lv q g:Nat}(h:t.nd (lv+1) q=some g):(t.evs (lv+1) q).flatMap Ev.ns=g::(List.range 512).flatMap fun i=>(t.evs lv (q*512+i)).flatMap Ev.ns:=by
 rw[Tab.evs_node h,xo,Tab.upto,List.flatMap_assoc];simp only[Ev.ns,List.cons_append,List.nil_append]
theorem Tab.evs0_ns (t:Tab)(q:Nat):(t.evs 0 q).flatMap Ev.ns=[]:=by
 cases h:t.lf q with
 |none=>rw[Tab.evs_noleaf h];rfl
 |some l=>rw[Tab.evs_leaf h];rfl
theorem Tab.Ok.mem_ns (h:t.Ok p)(f:Nat)(lv:Nat): ∀(q:Nat),lv<=4->(f∈(t.evs lv q).flatMap Ev.ns↔ ∃l d x,1<=l/\l+d=lv/\x/512^d=q/\t.nd l x=some f):=by
 induction lv with
 |zero=>
  intro q _;rw[Tab.evs0_ns];constructor
  ·intro e;simp at e
  ·rintro⟨l,d,x,h1,h2,_⟩;omega
 |succ lv ih=>
  intro q yR;cases hn:t.nd (lv+1) q with
  |none=>
   rw[Tab.evs_none hn];constructor
   ·intro e;simp at e
   ·rintro⟨l,d,x,h1,h2,h3,h4⟩;have:=h.over h4 d o_;rw[h2,h3,hn]at this;simp at this
  |some g=>
   rw[Tab.evs_ns hn,List.mem_cons,List.mem_flatMap];constructor
   ·rintro(rfl|⟨i,hi,hm⟩)
    ·exact⟨lv+1,0,q,o_,o_,s_,hn⟩
    ·obtain⟨l,d,x,h1,h2,h3,h4⟩:=(ih _ o_).1 hm;refine⟨l,d+1,x,h1,o_,?_,h4⟩;rw[Nat.pow_succ,<-Nat.div_div_eq_div_mul,h3];have:=List.mem_range.1 hi;omega
   ·rintro⟨l,d,x,h1,h2,h3,h4⟩;cases d with
    |zero=>
     have e1:l=lv+1:=o_;subst e1;simp at h3;subst h3;left;rw[hn]at h4;injection h4 with h4;exact h4.symm
    |succ d=>
     right;rw[Nat.pow_succ,<-Nat.div_div_eq_div_mul]at h3;refine⟨x/512^d % 512,List.mem_range.2 (Nat.mod_lt _ o_),(ih _ o_).2 ⟨l,d,x,h1,o_,?_,h4⟩⟩;omega
theorem Tab.Ok.nodup_ns (h:t.Ok p)(lv:Nat): ∀(q:Nat),lv<=4->((t.evs lv q).flatMap Ev.ns).Nodup:=by
 induction lv with
 |zero=>intro q _;rw[Tab.evs0_ns];exact List.nodup_nil
 |succ lv ih=>
  intro q yR;cases hn:t.nd (lv+1) q with
  |none=>rw[Tab.evs_none hn];exact List.nodup_nil
  |some g=>
   rw[Tab.evs_ns hn,List.nodup_cons];refine⟨?_,?_⟩
   ·intro e;obtain⟨i,hi,hm⟩:=List.mem_flatMap.1 e;obtain⟨l,d,x,h1,h2,h3,h4⟩:=(h.mem_ns g lv _ o_).1 hm;have:=(h.inj _ _ _ _ _ h4 hn).1;omega
   ·refine List.pairwise_flatMap.2 ⟨fun i _ =>ih _ o_,?_⟩;refine List.Pairwise.imp ?_ (List.pairwise_lt_range (n:=512));intro i j ER x hx y hy e;subst e;obtain⟨l,d,z,h1,h2,h3,h4⟩:=(h.mem_ns x lv _ o_).1 hx;obtain⟨l',d',z',h1',h2',h3',Un⟩:=(h.mem_ns x lv _ o_).1 hy;obtain⟨e1,e2⟩:=h.inj _ _ _ _ _ h4 Un;subst e1 e2;have e3:d=d':=o_;subst e3;omega
theorem Tab.Ok.nodes_cnt (h:t.Ok p)(f:Nat):((t.evs 4 0).flatMap Ev.ns).count f=ay t f:=by
 by_cases hn:an t f
 ·rw[ao hn];obtain⟨l,x,hl⟩:=hn;have h4:=(h.level _ _ _ hl);have hm:f∈(t.evs 4 0).flatMap Ev.ns:=by
   refine(h.mem_ns f 4 0 o_).2 ⟨l,4-l,x,h4.1,o_,?_,hl⟩;obtain⟨g,hg⟩:=bC (h.over hl (4-l) o_);rw[show l+(4-l)=4 from by omega]at hg;exact h.only _ _ hg
  have h1:=List.nodup_iff_count.1 (h.nodup_ns 4 0 o_) f;have h2:=List.count_pos_iff.2 hm;omega
 ·rw[aF hn];refine List.count_eq_zero.2 fun e=>hn ?_;obtain⟨l,d,x,_,_,_,h4⟩:=(h.mem_ns f 4 0 o_).1 e;exact⟨l,x,h4⟩
theorem vE (n:Nat): ∀(l:List Nat),l.Nodup->(∀x,x∈l->x<n)->l.length<=n:=by
 induction n with
 |zero=>
  intro l _ h;cases l with
  |nil=>simp
  |cons a l=>exact absurd (h a s_) o_
 |succ n ih=>
  intro l hl h;by_cases hn:n∈l
  ·have h1:=ih (l.erase n) (hl.erase n) (fun x hx=>by
    have:=(hl.mem_erase_iff.1 hx);have:=h x this.2;have:=(hl.mem_erase_iff.1 hx).1;omega)
   rw[List.length_erase_of_mem hn]at h1;have:=List.length_pos_of_mem hn;omega
  ·have:=ih l hl (fun x hx=>by
    have h1:=h x hx;have:x≠n:=fun e=>hn (e▸hx);omega)
   omega
theorem Tab.evs_short (t:Tab)(lv:Nat): ∀q,(t.evs (lv+1) q).length<=513*((t.evs (lv+1) q).flatMap Ev.ns).length:=by
 induction lv with
 |zero=>
  intro q;cases hn:t.nd (0+1) q with
  |none=>rw[Tab.evs_none hn];simp
  |some g=>
   rw[Tab.evs_ns hn,Tab.evs_node hn];have: ∀k,(t.upto 0 q k).length<=k:=by
    intro k
    induction k with
    |zero=>rw[Tab.upto_zero];simp
    |succ k ih=>
     rw[Tab.upto_succ,wU];have:(t.evs 0 (q*512+k)).length<=1:=by
      cases h:t.lf (q*512+k)with
      |none=>rw[Tab.evs_noleaf h];simp
      |some l=>rw[Tab.evs_leaf h];simp
     omega
   have:=this 512;simp only[xd];omega
 |succ lv ih=>
  intro q;cases hn:t.nd (lv+1+1) q with
  |none=>rw[Tab.evs_none hn];simp
  |some g=>
   rw[Tab.evs_node hn,xo];have: ∀k,(t.upto (lv+1) q k).length<=513*((t.upto (lv+1) q k).flatMap Ev.ns).length:=by
    intro k
    induction k with
    |zero=>rw[Tab.upto_zero];simp
    |succ k ih'=>
     rw[Tab.upto_succ,wU,List.flatMap_append,wU];have:=ih (q*512+k);omega
   have:=this 512;simp only[xd,wU,Ev.ns,List.length_nil];omega
theorem Tab.Ok.short (h:t.Ok p):(t.evs 4 0).length<=525312:=by
 have h1:(t.evs 4 0).length<=513*((t.evs 4 0).flatMap Ev.ns).length:=Tab.evs_short t 3 0;have h2:=vE p.n _ (h.nodup_ns 4 0 o_) (fun x hx=>by
  obtain⟨l,d,y,_,_,_,h4⟩:=(h.mem_ns x 4 0 o_).1 hx;exact(h.live _ _ _ h4).1)
 have h3:=h.few;omega
theorem vO (q:Nat->Bool)(a b:Nat):br q (a+b)=br q a+br (fun i=>q (a+i)) b:=by
 induction b with
 |zero=>rfl
 |succ b ih=>rw[<-Nat.add_assoc];simp only[br];rw[ih];omega
theorem Tab.Ok.leaf_cnt (h:t.Ok p)(f:Nat)(lv:Nat): ∀q,lv<=4->((t.evs lv q).flatMap Ev.ls).countP (fun y=>y.2.frame==f)=br (fun i=>cQ t f (q*512^lv+i)) (512^lv):=by
 induction lv with
 |zero=>
  intro q _;simp only[Nat.pow_zero,Nat.mul_one,br,Nat.add_zero,Nat.zero_add];cases hl:t.lf q with
  |none=>simp[Tab.evs_noleaf hl,dG hl]
  |some l=>simp[Tab.evs_leaf hl,dH hl,Ev.ls,List.countP_cons]
 |succ lv ih=>
  intro q yR;cases hn:t.nd (lv+1) q with
  |none=>
   rw[Tab.evs_none hn];symm;refine eG.2 fun i hi=>dG (h.noLeaf (lv:=lv+1) o_ yR ?_);have:part (q*512^(lv+1)+i) (lv+1)=q:=by
    unfold part;rw[Nat.mul_comm,Nat.mul_add_div (Nat.pos_of_ne_zero s_),Nat.div_eq_of_lt hi,Nat.add_zero]
   rw[this];exact hn
  |some g=>
   rw[Tab.evs_node hn,xo];have: ∀k,((t.upto lv q k).flatMap Ev.ls).countP (fun y=>y.2.frame==f)=br (fun i=>cQ t f (q*512^(lv+1)+i)) (k*512^lv):=by
    intro k
    induction k with
    |zero=>rw[Tab.upto_zero,Nat.zero_mul];rfl
    |succ k ih'=>
     rw[Tab.upto_succ,List.flatMap_append,List.countP_append,ih',ih _ o_,Nat.succ_mul,vO];congr 1;refine gT fun i hi=>?_;congr 1;rw[Nat.pow_succ,Nat.add_mul,Nat.mul_assoc,Nat.mul_comm 512 (512^lv),<-Nat.mul_assoc];omega
   rw[List.countP_append,this 512,Nat.pow_succ,Nat.mul_comm (512^lv) 512];simp[Ev.ls]
theorem Tab.Ok.leaves_cnt (h:t.Ok p)(f:Nat):((t.evs 4 0).flatMap Ev.ls).countP (fun y=>y.2.frame==f)=ai t f:=by
 rw[h.leaf_cnt f 4 0 o_];refine gT fun i _ =>?_;congr 1;omega
theorem evs_fs (l:List Ev)(f:Nat):(l.flatMap Ev.fs).count f=(l.flatMap Ev.ns).count f+(l.flatMap Ev.ls).countP (fun y=>y.2.frame==f):=by
 induction l with
 |nil=>rfl
 |cons e l ih=>
  rw[xo,xo,xo,List.count_append,List.count_append,List.countP_append,ih];cases e<;>simp[Ev.fs,Ev.ns,Ev.ls,List.count_cons,List.countP_cons]<;>omega
theorem Tab.Ok.frames_cnt (h:t.Ok p)(f:Nat):((t.evs 4 0).flatMap Ev.fs).count f=ai t f+ay t f:=by
 rw[evs_fs,h.nodes_cnt,h.leaves_cnt,Nat.add_comm]
theorem Tab.evs_sound (t:Tab)(pg:Nat)(y:Leaf)(lv:Nat): ∀q,(pg,y)∈(t.evs lv q).flatMap Ev.ls->t.lf pg=some y:=by
 induction lv with
 |zero=>
  intro q hm;cases hl:t.lf q with
  |none=>rw[Tab.evs_noleaf hl]at hm;simp at hm
  |some l=>
   rw[Tab.evs_leaf hl]at hm;simp[Ev.ls]at hm;obtain⟨rfl,rfl⟩:=hm;exact hl
 |succ lv ih=>
  intro q hm;cases hn:t.nd (lv+1) q with
  |none=>rw[Tab.evs_none hn]at hm;simp at hm
  |some g=>
   rw[Tab.evs_node hn,xo,List.mem_append]at hm;rcases hm with hm|hm
   ·simp[Ev.ls]at hm
   ·rw[Tab.upto,List.flatMap_assoc]at hm;obtain⟨i,_,hi⟩:=List.mem_flatMap.1 hm;exact ih _ hi
end
section
def Tab.there (t:Tab):Nat->Nat->Bool
 |0,q=>(t.lf q).isSome
 |lv+1,q=>(t.nd (lv+1) q).isSome
theorem Tab.word_there (t:Tab)(lv q k:Nat):t.word (lv+1) q k≠0↔t.there lv (q*512+k)=true:=by
 cases lv with
 |zero=>
  show t.word 1 q k≠0↔(t.lf (q*512+k)).isSome=true;unfold Tab.word;rw[if_pos rfl];cases h:t.lf (q*512+k)with
  |none=>simp
  |some l=>
   have:=fZ l;have h0:l.pack≠0:=o_;simpa using h0
 |succ lv=>
  show t.word (lv+1+1) q k≠0↔(t.nd (lv+1) (q*512+k)).isSome=true;unfold Tab.word;rw[if_neg o_];simp only[Nat.add_sub_cancel];cases h:t.nd (lv+1) (q*512+k)with
  |none=>simp
  |some f=>simp
end
section
open Go.RowKit
def rowV (n:Nat)(g:Nat->Value):Array Value:=((List.range n).map g).toArray
theorem bT (n:Nat)(g:Nat->Value):(rowV n g).size=n:=by simp[rowV]
variable {n i:Nat}{g:Nat->Value}
theorem dD (h:i<n):(rowV n g)[i]? =some (g i):=by simp[rowV,h]
theorem dX (v:Value):(rowV n g).setIfInBounds i v=rowV n (upd g i v):=by
 apply Array.ext_getElem?;intro j;rw[Array.getElem?_setIfInBounds];by_cases h:j<n
 ·rw[dD h];by_cases e:i=j
  ·subst e;rw[if_pos rfl,bT,if_pos h,dD h,af]
  ·rw[if_neg e,dD h,ah _ _ (fun e'=>e e'.symm)]
 ·rw[Array.getElem?_eq_none (by rw[bT];omega),bT,Array.getElem?_eq_none (by rw[bT];omega)];split<;>first|rfl|(split<;>first|rfl|omega)
theorem bH {h:Nat->Value}(e: ∀i,i<n->g i=h i):rowV n g=rowV n h:=by
 apply Array.ext_getElem?;intro j;by_cases hj:j<n
 ·rw[dD hj,dD hj,e j hj]
 ·rw[Array.getElem?_eq_none (by rw[bT];omega),Array.getElem?_eq_none (by rw[bT];omega)]
theorem ab (w:World)(o:Obj):(w.alloc o).heap[w.heap.size]? =some o:=by
 show(w.heap.push o)[w.heap.size]? =some o;simp
structure Mod (S:Nat->Prop)(w w':World):Prop where
 os:w'.os=w.os
 tape:w'.tape=w.tape
 output:w'.output=w.output
 size:w.heap.size<=w'.heap.size
 block: ∀b,b<w.heap.size-> ¬S b->w'.heap[b]? =w.heap[b]?
theorem Mod.refl (S:Nat->Prop)(w:World):Mod S w w:=⟨rfl,rfl,rfl,wS _,fun _ _ _ =>rfl⟩
variable {S:Nat->Prop}{w w':World}
theorem Mod.of (h:Below w.heap.size w w'):Mod S w w':=⟨h.os,h.tape,h.output,h.size,fun b hb _ =>h.block b hb⟩
variable {B:Nat}
theorem Mod.below (h:Mod S w w')(hS: ∀b,S b->B<=b)(hB:B<=w.heap.size):Below B w w':=⟨h.os,h.tape,h.output,h.size,fun b hb=>h.block b o_ (fun e=>by have:=hS b e;omega)⟩
def Out (S S':Nat->Prop)(w:World):Prop:= ∀b,S' b->S b\/w.heap.size<=b
theorem Out.refl (S:Nat->Prop)(w:World):Out S S w:=fun _ h=> .inl h
variable {S':Nat->Prop}
theorem Mod.trans {w'':World}(h:Mod S w w')(ho:Out S S' w)(k:Mod S' w' w''):Mod S w w'':=
 ⟨k.os.trans h.os,k.tape.trans h.tape,k.output.trans h.output,xn h.size k.size,fun b hb hs=>(k.block b (wW hb h.size) (fun e=>by
  rcases ho b e with h1|h1
  ·exact hs h1
  ·omega)).trans (h.block b hb hs)⟩
theorem Out.trans {S'':Nat->Prop}(h:Out S S' w)(k:Out S' S'' w')(hz:w.heap.size<=w'.heap.size):Out S S'' w:=fun b hb=>by
 rcases k b hb with h1|h1
 ·exact h b h1
 ·right;omega
variable {T:Nat->Prop}
theorem Mod.sub (h:Mod S w w')(hs: ∀b,S b->T b):Mod T w w':=⟨h.os,h.tape,h.output,h.size,fun b hb ht=>h.block b hb (fun e=>ht (hs b e))⟩
structure cl (w:World)(a C B F:Nat)(wd:Nat->Nat)(pt:Nat->Option Nat)(p:Pool):Prop where
 self:w.heap[a]? =some (.cells #[.slice (some ⟨C,0,none⟩) p.n p.n,.slice (some ⟨B,0,none⟩) p.n p.n,.slice (some ⟨F,0,none⟩) ((p.n+63)/64) ((p.n+63)/64),.int .i64 (p.left:Int)] 135 (0,0))
 counts:w.heap[C]? =some (.cells (rowV p.n fun f=> .int .i64 (p.cnt f:Int)) 3 (0,0))
 ptrs:w.heap[B]? =some (.cells (rowV p.n fun f=> .pointer ((pt f).map fun b=>⟨b,0,none⟩)) 251 (0,0))
 free:w.heap[F]? =some (.cells (rowV ((p.n+63)/64) fun i=> .int .u64 (wd i:Int)) 43 (0,0))
 wds: ∀i,i<(p.n+63)/64->wd i<18446744073709551616/\ ∀j,j<64->(wd i).testBit j=decide (64*i+j<p.n/\p.cnt (64*i+j)=0)
 bytes: ∀f,f<p.n->0<p.cnt f-> ∃b,pt f=some b/\w.heap[b]? =some (.cells (rowV 4096 fun i=> .int .u8 (p.dat f i:Int)) 259 (0,0))/\b≠a/\b≠C/\b≠B/\b≠F
 sole: ∀f g b,f<p.n->g<p.n->0<p.cnt f->0<p.cnt g->pt f=some b->pt g=some b->f=g
 apart:a≠C/\a≠B/\a≠F/\C≠B/\C≠F/\B≠F
 small: ∀f i,p.dat f i<256
 few:1<=p.n/\p.n<=1024
 cap: ∀f,p.cnt f<1000000000000
def DB (w:World):Prop:= ∀j,j<Lib.deBruijn64tab.length->w.cell? ⟨0,j,none⟩=some (.int .u8 (Lib.deBruijn64tab.getD j 0))
theorem DB.same (h:DB w)(hb:w'.heap[0]? =w.heap[0]?):DB w':=fun j hj=>by
 rw[<-h j hj];exact World.cell?_of_block (w:=w) hb
def rP (w:World)(S:Nat->Prop)(a:Nat)(p:Pool):Prop:= ∃C B F wd pt,cl w a C B F wd pt p/\S a/\S C/\S B/\S F/\ ∀f b,f<p.n->0<p.cnt f->pt f=some b->S b
structure am (w:World)(S:Nat->Prop)(a:Nat)(p:Pool):Prop where
 is:rP w S a p
 low: ∀b,S b->b<w.heap.size
 tab:DB w
 no0: ¬S 0
variable {a:Nat}{p:Pool}
theorem cl.same {C F:Nat}{wd:Nat->Nat}{pt:Nat->Option Nat}(h:cl w a C B F wd pt p)(S:Nat->Prop)(hS:S a/\S C/\S B/\S F/\ ∀f b,f<p.n->0<p.cnt f->pt f=some b->S b)
  (hb: ∀b,S b->w'.heap[b]? =w.heap[b]?):cl w' a C B F wd pt p:=
 ⟨(
  hb a hS.1).trans h.self,(hb C hS.2.1).trans h.counts,(hb B hS.2.2.1).trans h.ptrs,(hb F hS.2.2.2.1).trans h.free,h.wds,fun f hf hc=>by
  obtain⟨b,e,h1,h2⟩:=h.bytes f hf hc;exact⟨b,e,(hb b (hS.2.2.2.2 f b hf hc e)).trans h1,h2⟩,h.sole,h.apart,h.small,h.few,h.cap⟩
theorem am.same (h:am w S a p)(hz:w.heap.size<=w'.heap.size)(hb: ∀b,S b->w'.heap[b]? =w.heap[b]?)(h0:w'.heap[0]? =w.heap[0]?):am w' S a p:=by
 obtain⟨⟨C,B,F,wd,pt,h1,hS⟩,h2,h3,h4⟩:=h;exact⟨⟨C,B,F,wd,pt,h1.same S hS hb,hS⟩,fun b hb=>wW (h2 b hb) hz,h3.same h0,h4⟩
theorem am.pos (h:am w S a p):0<w.heap.size:=by
 obtain⟨C,B,F,wd,pt,_,ha,_⟩:=h.is;have:=h.low a ha;omega
theorem am.below (h:am w S a p)(hb:Below w.heap.size w w'):am w' S a p:=
 h.same hb.size (fun b hs=>hb.block b (h.low b hs)) (hb.block 0 h.pos)
theorem am.mod (h:am w S a p)(hm:Mod T w w')(hST: ∀b,S b-> ¬T b)(hT: ¬T 0):am w' S a p:=
 h.same hm.size (fun b hs=>hm.block b (h.low b hs) (hST b hs)) (hm.block 0 h.pos hT)
variable {p':Pool}
theorem am.turn (h:am w S a p)(hm:Mod S w w')(hi:rP w' S' a p')(ho:Out S S' w)(hl: ∀b,S' b->b<w'.heap.size):am w' S' a p':=
 ⟨hi,hl,h.tab.same (hm.block 0 h.pos h.no0),fun e=>by
  rcases ho 0 e with h1|h1
  ·exact h.no0 h1
  ·have:=h.pos;omega⟩
theorem am.stay (h:am w S a p)(hm:Mod S w w')(hi:rP w' S a p'):am w' S a p':=
 h.turn hm hi (Out.refl _ _) fun b hb=>wW (h.low b hb) hm.size
end
section
variable {j:Nat}
theorem fY (hj:j<64):2^j<18446744073709551616:=by
 have:2^j<2^64:=Nat.pow_lt_pow_right d_ hj;exact this
theorem qJ (hj:j<64):IntKind.u64.wrap ((2:Int)^j)=((2^j:Nat):Int):=by
 rw[IntKind.wrap_u64];have h:=fY hj;have e:((2:Int)^j)=((2^j:Nat):Int):=s_;rw[e];clear e;generalize 2^j=m at h⊢;omega
variable {x:Nat}
theorem or_bit (hx:x<18446744073709551616)(hj:j<64):bits .or .u64 (x:Int) (IntKind.u64.wrap ((2:Int)^j))=((x|||2^j:Nat):Int):=by
 rw[qJ hj,bits_or_u64_nat x (2^j) hx (fY hj)]
theorem or_lt (hx:x<18446744073709551616)(hj:j<64):x|||2^j<18446744073709551616:=by
 have:x|||2^j<2^64:=Nat.or_lt_two_pow hx (fY hj);exact this
theorem uX (x j i:Nat):(x|||2^j).testBit i=(x.testBit i || decide (j=i)):=by
 rw[Nat.testBit_or,Nat.testBit_two_pow]
theorem clr_bit (hx:x<18446744073709551616)(hj:j<64):bits .andNot .u64 (x:Int) (IntKind.u64.wrap ((2:Int)^j))=((x&&&(18446744073709551615-2^j):Nat):Int):=by
 rw[qJ hj,u64_andNot_nat x (2^j) hx (fY hj)]
theorem clr_lt (hx:x<18446744073709551616):x&&&(18446744073709551615-2^j)<18446744073709551616:=Nat.lt_of_le_of_lt Nat.and_le_left hx
theorem clr_test {i:Nat}(hj:j<64)(hi:i<64):(x&&&(18446744073709551615-2^j)).testBit i=(x.testBit i&& !decide (j=i)):=by
 rw[Nat.testBit_and];congr 1;have h:=Nat.testBit_two_pow_sub_succ (x:=2^j) (n:=64) (fY hj) i;rw[show(2:Nat)^64-(2^j+1)=18446744073709551615-2^j from by
  have:=fY hj;have e:(2:Nat)^64=18446744073709551616:=d_;rw[e];omega]at h
 rw[h,Nat.testBit_two_pow];simp[hi]
theorem or_shift {b k:Nat}(hx:x<256^k)(hb:b<256)(hk:k<8):bits .or .u64 (x:Int) (IntKind.u64.wrap ((b:Int)*(2:Int)^(8*k)))=((x+b*256^k:Nat):Int):=by
 have e:(2:Nat)^(8*k)=256^k:=(by rw[Nat.pow_mul]);have e2:((2:Int)^(8*k))=((256^k:Nat):Int):=by
  rw[<-e];simp
 have h256:(256:Nat)^k*256<=18446744073709551616:=by
  have:(256:Nat)^(k+1)<=256^8:=Nat.pow_le_pow_right d_ o_;rw[Nat.pow_succ]at this;have e3:(256:Nat)^8=18446744073709551616:=d_;omega
 have xx:b*256^k<=255*256^k:=Nat.mul_le_mul_right _ o_;have xZ:0<256^k:=Nat.pow_pos d_;rw[e2,show((b:Int)*((256^k:Nat):Int))=((b*256^k:Nat):Int)from by simp];have hor:x|||b*256^k=x+b*256^k:=by
  rw[<-e]at hx⊢;rw[Nat.or_comm,Nat.mul_comm b,<-Nat.two_pow_add_eq_or_of_lt hx,Nat.add_comm]
 generalize hm:b*256^k=m at *
 generalize 256^k=q at *
 have hw:IntKind.u64.wrap (m:Int)=(m:Int):=v_;rw[hw,bits_or_u64_nat x m o_ o_,hor]
end
section
open Go.RowKit
def ev (p:Pool)(f:Int):Bool:=decide (0<=f/\f<p.n/\0<p.cnt f.toNat)
variable {p:Pool}
theorem sh {f:Int}(h:ev p f=true): ∃g:Nat,f=g/\g<p.n/\0<p.cnt g:=by
 unfold ev at h;obtain⟨h1,h2,h3⟩:=xi h;exact⟨f.toNat,o_,o_,h3⟩
variable {g:Nat}
theorem bn :ev p (g:Int)=decide (g<p.n/\0<p.cnt g):=by
 unfold ev;rw[Bool.eq_iff_iff];simp
theorem im {a b:Bool}(h:a=b):Ending.returned (.bool a)= .returned (.bool b):=by rw[h]
variable {w:World}{b:Nat}{cs:Array Value}{T:TypeId}{fr:Nat×Nat}
theorem aa (h:w.heap[b]? =some (.cells cs T fr))(i:Nat):w.cell? ⟨b,i,none⟩=cs[i]? :=by simp[World.cell?,h]
theorem ae (h:w.heap[b]? =some (.cells cs T (0,0)))(i:Nat):w.frozen? ⟨b,i,none⟩=false:=by simp[World.frozen?,h]
theorem aW {n:Nat}{g:Nat->Value}(h:w.heap[b]? =some (.cells (rowV n g) T fr)){i:Nat}(hi:i<n):w.cell? ⟨b,i,none⟩=some (g i):=by
 rw[aa h,dD hi]
theorem eu (a:Nat)(f:Int)(w:World)(S:Nat->Prop)(p:Pool)(h:am w S a p):
  Calls prog 96 #[.pointer (some ⟨a,0,none⟩),.int .i64 f] w fun e w'=>e= .returned (.bool (ev p f))/\w=w':=by
 obtain⟨⟨C,B,F,wd,pt,hi,_⟩,_,_,_⟩:=h;have h0:w.cell? ⟨a,0,none⟩=some (.slice (some ⟨C,0,none⟩) p.n p.n):=aa hi.self 0;have hC:=hi.counts;have hn:=hi.few.2;clear hi;by_cases h1:0<=f
 ·obtain⟨g,rfl⟩:=Int.eq_ofNat_of_zero_le h1;by_cases h2:g<p.n
  ·have hc:=aW hC h2;clear hC;go_enter func96,ntmps96;go_wp2;go_ret;exact⟨im (by rw[bn];simp[h2]),rfl⟩
  ·clear hC;go_enter func96,ntmps96;go_wp2;go_ret;exact⟨im (by rw[bn];simp[h2]),rfl⟩
 ·clear hC;go_enter func96,ntmps96;go_wp2;go_ret;exact⟨im ((xg (fun e=>o_)).symm),rfl⟩
variable {a C B F x:Nat}{wd:Nat->Nat}{pt:Nat->Option Nat}
theorem cl.setCnt (h:cl w a C B F wd pt p)(hg:g<p.n)(h0:0<p.cnt g)(hx:0<x)(Ak:x<1000000000000):
  cl (w.setCell ⟨C,g,none⟩ (.int .i64 (x:Int))) a C B F wd pt ⟨p.n,upd p.cnt g x,p.dat⟩:=by
 obtain⟨n1,n2,n3,n4,n5,n6⟩:=h.apart;have hz: ∀f,upd p.cnt g x f=0↔p.cnt f=0:=fun f=>by
  by_cases e:f=g
  ·subst e;rw[af];omega
  ·rw[ah _ _ e]
 have hl:Pool.left ⟨p.n,upd p.cnt g x,p.dat⟩=p.left:=fI fun i _ =>hz i;refine⟨?_,?_,?_,?_,fun i hi=>⟨(h.wds i hi).1,fun j hj=>?_⟩,fun f hf hc=>?_,fun f k b hf hk hc hd=>?_,h.apart,h.small,h.few,fun f=>?_⟩
 ·rw[hl];exact(wX _ _ _ _ n1).trans h.self
 ·rw[Joins.block_setCell h.counts,dX];congr 2;refine bH fun i _ =>?_;by_cases e:i=g
  ·subst e;rw[af];simp only[af]
  ·rw[ah _ _ e];simp only[ah _ _ e]
 ·exact(wX _ _ _ _ n4.symm).trans h.ptrs
 ·exact(wX _ _ _ _ n5.symm).trans h.free
 ·rw[(h.wds i hi).2 j hj];simp only[hz]
 ·obtain⟨b,e,h1,h2⟩:=h.bytes f hf (by have:=hz f;simp only at hc;omega);exact⟨b,e,(wX _ _ _ _ h2.2.1).trans h1,h2⟩
 ·exact h.sole f k b hf hk (by have:=hz f;simp only at hc;omega) (by have:=hz k;simp only at hd;omega)
 ·by_cases e:f=g
  ·subst e;simp only[af];exact Ak
  ·simp only[ah _ _ e];exact h.cap f
variable {S:Nat->Prop}
theorem Mod.drew {w':World}(h:Mod S w w'):Mod S w w'.drew:=⟨h.os,h.tape,h.output,h.size,h.block⟩
theorem aj (hb:S b)(o:Nat)(v:Value):Mod S w (w.setCell ⟨b,o,none⟩ v):=
 ⟨rfl,rfl,rfl,by simp[World.setCell],fun k _ hk=>wX _ _ _ _ (fun e=>hk (by rw[e];exact hb))⟩
theorem up_yes (a g:Nat)(w:World)(S:Nat->Prop)(p:Pool)(h:am w S a p)(ht:ev p (g:Int)=true)(yA:p.cnt g+1<1000000000000):
  Calls prog 117 #[.pointer (some ⟨a,0,none⟩),.int .i64 g] w fun e w'=>e= .returned (.int .i64 0)/\am w' S a (p.up g)/\Mod S w w':=by
 have hT:=fun W=>eu a (g:Int) W S p;rw[ht]at hT;obtain⟨HT,HP⟩:=zh2 hT h;obtain⟨⟨C,B,F,wd,pt,hi,hS⟩,xY,_,_⟩:=h;have h0:w.cell? ⟨a,0,none⟩=some (.slice (some ⟨C,0,none⟩) p.n p.n):=aa hi.self 0;have hg:g<p.n/\0<p.cnt g:=(by rw[bn]at ht;exact xi ht);obtain⟨hg,xZ⟩:=hg;have hc:=aW hi.counts hg;have hf:=ae hi.counts g;have hn:=hi.few.2;have hcap':p.cnt g<1000000000000:=o_;have HI:=wP hi;clear hi hT ht xY;go_enter func117,ntmps117;go_wp2_with (go_at_call 96;refine(HT.o _ HP.o).mono ?_;rintro e w1⟨rfl,rfl⟩);go_ret;refine⟨rfl,HP.o.stay (aj hS.2.1 _ _) ⟨C,B,F,wd,pt,HI.o.setCnt hg xZ o_ o_,hS.1,hS.2.1,hS.2.2.1,hS.2.2.2.1,fun f b hf hc he=>hS.2.2.2.2 f b hf ?_ he⟩,aj hS.2.1 _ _⟩;by_cases e:f=g
 ·subst e;exact xZ
 ·simp only[Pool.up,ah _ _ e]at hc;exact hc
theorem vJ (a g:Nat)(w:World)(S:Nat->Prop)(p:Pool)(h:am w S a p)(hg:g<p.n)(h2:2<=p.cnt g):
  Calls prog 59 #[.pointer (some ⟨a,0,none⟩),.int .i64 g] w fun e w'=>e= .returned (.int .i64 0)/\am w' S a (p.down g)/\Mod S w w':=by
 have ht:ev p (g:Int)=true:=(by rw[bn];exact xh ⟨hg,o_⟩);have hT:=fun W=>eu a (g:Int) W S p;rw[ht]at hT;obtain⟨HT,HP⟩:=zh2 hT h;obtain⟨⟨C,B,F,wd,pt,hi,hS⟩,xY,_,_⟩:=h;have h0:w.cell? ⟨a,0,none⟩=some (.slice (some ⟨C,0,none⟩) p.n p.n):=aa hi.self 0;have hc:=aW hi.counts hg;have hf:=ae hi.counts g;have hn:=hi.few.2;have yA:=hi.cap g;have haC:=hi.apart.1;have hd:((p.cnt g:Int)-1==0)=false:=(by rw[xf];omega);have HI:=wP hi;clear hi hT ht xY;go_enter func59,ntmps59;go_wp2_with (go_at_call 96;refine(HT.o _ HP.o).mono ?_;rintro e w1⟨rfl,rfl⟩);go_ret;rw[show((p.cnt g:Int)-1)=((p.cnt g-1:Nat):Int)from by omega];refine⟨rfl,HP.o.stay (aj hS.2.1 _ _) ⟨C,B,F,wd,pt,HI.o.setCnt hg o_ o_ o_,hS.1,hS.2.1,hS.2.2.1,hS.2.2.2.1,fun f b hf hc he=>hS.2.2.2.2 f b hf ?_ he⟩,aj hS.2.1 _ _⟩;by_cases e:f=g
 ·subst e;omega
 ·simp only[Pool.down,ah _ _ e]at hc;exact hc
variable {W:World}
theorem cl.turn (h:cl w a C B F wd pt p){y L:Nat}(hg:g<p.n)(hx:x<1000000000000)
  (hy:y<18446744073709551616)(hyb: ∀j,j<64->y.testBit j=if j=g % 64 then decide (x=0)else(wd (g/64)).testBit j)(hL:L=cf (upd p.cnt g x) p.n)
  (hW:W.heap=(((w.setCell ⟨C,g,none⟩ (.int .i64 (x:Int))).setCell ⟨F,g/64,none⟩ (.int .u64 (y:Int))).setCell ⟨a,3,none⟩ (.int .i64 (L:Int))).heap)(hb:p.cnt g=0->x=0):
  cl W a C B F (upd wd (g/64) y) pt ⟨p.n,upd p.cnt g x,p.dat⟩:=by
 obtain⟨n1,n2,n3,n4,n5,n6⟩:=h.apart;have far: ∀b,b≠C->b≠F->b≠a->W.heap[b]? =w.heap[b]? :=fun b h1 h2 h3=>by
  rw[hW];exact(wX _ _ _ _ h3).trans ((wX _ _ _ _ h2).trans (wX _ _ _ _ h1))
 refine⟨?_,?_,?_,?_,fun i hi=>?_,fun f hf hc=>?_,fun f k b hf hk hc hd=>?_,h.apart,h.small,h.few,fun f=>?_⟩
 ·rw[hW,Joins.block_setCell ((wX _ _ _ _ n3).trans ((wX _ _ _ _ n1).trans h.self))];show _ =some (Obj.cells #[_,_,_,Value.int .i64 ((cf (upd p.cnt g x) p.n:Nat):Int)] _ _);rw[<-hL];rfl
 ·rw[hW,(wX _ _ _ _ n1.symm),(wX _ _ _ _ n5),Joins.block_setCell h.counts,dX];congr 2;refine bH fun i _ =>?_;by_cases e:i=g
  ·subst e;rw[af];simp only[af]
  ·rw[ah _ _ e];simp only[ah _ _ e]
 ·exact(far B n4.symm n6 n2.symm).trans h.ptrs
 ·rw[hW,(wX _ _ _ _ n3.symm),Joins.block_setCell ((wX _ _ _ _ n5.symm).trans h.free),dX];congr 2;refine bH fun i _ =>?_;by_cases e:i=g/64
  ·subst e;rw[af];simp only[af]
  ·rw[ah _ _ e];simp only[ah _ _ e]
 ·simp only at hi;by_cases e:i=g/64
  ·subst e;rw[af];refine⟨hy,fun j hj=>?_⟩;rw[hyb j hj];by_cases e2:j=g % 64
   ·subst e2;rw[if_pos rfl,show 64*(g/64)+g % 64=g from by omega];simp only[af];simp[hg]
   ·rw[if_neg e2,(h.wds _ hi).2 j hj];simp only[ah p.cnt x (show 64*(g/64)+j≠g from by omega)]
  ·rw[ah _ _ e];refine⟨(h.wds i hi).1,fun j hj=>?_⟩;rw[(h.wds i hi).2 j hj];simp only[ah p.cnt x (show 64*i+j≠g from by omega)]
 ·simp only at hf hc;have Qm:0<p.cnt f:=by
   by_cases e:f=g
   ·subst e;rw[af]at hc;rcases Nat.eq_zero_or_pos (p.cnt f)with h0|h0
    ·have:=hb h0;omega
    ·exact h0
   ·rw[ah _ _ e]at hc;exact hc
  obtain⟨b,e,h1,h2⟩:=h.bytes f hf Qm;exact⟨b,e,(far b h2.2.1 h2.2.2.2 h2.1).trans h1,h2⟩
 ·have key: ∀f,0<upd p.cnt g x f->0<p.cnt f:=fun f hc=>by
   by_cases e:f=g
   ·subst e;rw[af]at hc;rcases Nat.eq_zero_or_pos (p.cnt f)with h0|h0
    ·have:=hb h0;omega
    ·exact h0
   ·rw[ah _ _ e]at hc;exact hc
  exact h.sole f k b hf hk (key f hc) (key k hd)
 ·by_cases e:f=g
  ·subst e;simp only[af];exact hx
  ·simp only[ah _ _ e];exact h.cap f
theorem cl.last (h:cl w a C B F wd pt p)(hg:g<p.n)(h1:p.cnt g=1)
  (hW:W.heap=(((w.setCell ⟨C,g,none⟩ (.int .i64 0)).setCell ⟨F,g/64,none⟩ (.int .u64 (bits .or .u64 (wd (g/64):Int) (IntKind.u64.wrap (2^(g % 64)))))).setCell ⟨a,3,none⟩ (.int .i64 ((p.left:Int)+1))).heap):
  cl W a C B F (upd wd (g/64) (wd (g/64)|||2^(g % 64))) pt (p.down g):=by
 have JJ:g/64<(p.n+63)/64:=o_;have hw:=h.wds _ JJ;have hm:g % 64<64:=Nat.mod_lt _ d_;rw[or_bit hw.1 hm]at hW;have hL:=gq (c:=p.cnt) (x:=0) hg;rw[if_neg o_,if_pos rfl]at hL;have:=h.turn (x:=0) (y:=wd (g/64)|||2^(g % 64)) (L:=p.left+1) (W:=W) hg o_ (or_lt hw.1 hm) (fun j hj=>?_) (by unfold Pool.left;omega) (by rw[hW];rfl) (fun e=>rfl)
 ·rw[show(⟨p.n,upd p.cnt g 0,p.dat⟩:Pool)=p.down g from by unfold Pool.down;rw[h1]]at this;exact this
 ·rw[uX];by_cases e:j=g % 64
  ·subst e;simp
  ·rw[if_neg e,xg (fun e'=>e e'.symm),Bool.or_false]
theorem vK (a g:Nat)(w:World)(S:Nat->Prop)(p:Pool)(h:am w S a p)(hg:g<p.n)(h1:p.cnt g=1):
  Calls prog 59 #[.pointer (some ⟨a,0,none⟩),.int .i64 g] w fun e w'=>e= .returned (.int .i64 0)/\am w' S a (p.down g)/\Mod S w w':=by
 have ht:ev p (g:Int)=true:=(by rw[bn];exact xh ⟨hg,o_⟩);have hT:=fun W=>eu a (g:Int) W S p;rw[ht]at hT;obtain⟨HT,HP⟩:=zh2 hT h;obtain⟨⟨C,B,F,wd,pt,hi,hS⟩,xY,_,_⟩:=h;have h0:w.cell? ⟨a,0,none⟩=some (.slice (some ⟨C,0,none⟩) p.n p.n):=aa hi.self 0;have h2:w.cell? ⟨a,2,none⟩=some (.slice (some ⟨F,0,none⟩) ((p.n+63)/64) ((p.n+63)/64)):=aa hi.self 2;have h3:w.cell? ⟨a,3,none⟩=some (.int .i64 (p.left:Int)):=aa hi.self 3;have f3:=ae hi.self 3;have hc:=aW hi.counts hg;rw[h1]at hc;have hf:=ae hi.counts g;have hn:=hi.few.2;have JJ:g/64<(p.n+63)/64:=o_;have hw:=aW hi.free JJ;have fw:=ae hi.free (g/64);obtain⟨n1,n2,n3,n4,n5,n6⟩:=hi.apart;have hl:p.left<=p.n:=oP _ _;obtain⟨H1,HI⟩:=zh2 h1 hi;clear hi hT ht xY h1;go_enter func59,ntmps59;go_wp2_with (go_at_call 96;refine(HT.o _ HP.o).mono ?_;rintro e w1⟨rfl,rfl⟩);go_region;go_wp2;go_ret;have hm:Mod S w (((w.setCell ⟨C,g,none⟩ (.int .i64 0)).setCell ⟨F,g/64,none⟩ (.int .u64 (bits .or .u64 (wd (g/64):Int) (IntKind.u64.wrap (2^(g % 64)))))).setCell ⟨a,3,none⟩ (.int .i64 ((p.left:Int)+1))).drew:=
  (((aj hS.2.1 _ _).trans (Out.refl _ _) (aj hS.2.2.2.1 _ _)).trans (Out.refl _ _) (aj hS.1 _ _)).drew
 refine⟨rfl,HP.o.stay hm ⟨C,B,F,_,pt,HI.o.last hg H1.o rfl,hS.1,hS.2.1,hS.2.2.1,hS.2.2.2.1,fun f b hf hc he=>hS.2.2.2.2 f b hf ?_ he⟩,hm⟩;by_cases e:f=g
 ·subst e;rw[H1.o];decide
 ·simp only[Pool.down,ah _ _ e]at hc;exact hc
end
section
open Go.RowKit
theorem du (a g:Nat)(w:World)(S:Nat->Prop)(p:Pool)(h:am w S a p)(hg:g<p.n)(h1:1<=p.cnt g):
  Calls prog 59 #[.pointer (some ⟨a,0,none⟩),.int .i64 g] w fun e w'=>e= .returned (.int .i64 0)/\am w' S a (p.down g)/\Mod S w w':=by
 rcases Nat.lt_or_ge 1 (p.cnt g)with h2|h2
 ·exact vJ a g w S p h hg h2
 ·exact vK a g w S p h hg o_
def bD (p:Pool)(f:Int):Nat:=if ev p f=true then p.cnt f.toNat else 0
theorem aO {p:Pool}{g:Nat}(hg:g<p.n):bD p (g:Int)=p.cnt g:=by
 unfold bD;rw[bn];by_cases h:0<p.cnt g
 ·simp[hg,h]
 ·simp[hg,h];omega
theorem mz {k:IntKind}{a b:Int}(h:a=b):Ending.returned (.int k a)= .returned (.int k b):=by rw[h]
theorem iG (a:Nat)(f:Int)(w:World)(S:Nat->Prop)(p:Pool)(h:am w S a p):
  Calls prog 81 #[.pointer (some ⟨a,0,none⟩),.int .i64 f] w fun e w'=>e= .returned (.int .i64 (bD p f:Int))/\w=w':=by
 have hT:=fun W=>eu a f W S p;have HP:=wP h;obtain⟨⟨C,B,F,wd,pt,hi,hS⟩,xY,_,_⟩:=h;have h0:w.cell? ⟨a,0,none⟩=some (.slice (some ⟨C,0,none⟩) p.n p.n):=aa hi.self 0;have hn:=hi.few.2;cases ht:ev p f with
 |true=>
  obtain⟨g,rfl,hg,xZ⟩:=sh ht;have hc:=aW hi.counts hg;have HC:Hid (bD p (g:Int)=p.cnt g):=wP (aO hg);rw[ht]at hT;have HT:=wP hT;clear hi hT ht xY hS;go_enter func81,ntmps81;go_wp2_with (go_at_call 96;refine(HT.o _ HP.o).mono ?_;rintro e w1⟨rfl,rfl⟩);go_ret;exact⟨mz (by rw[HC.o]),rfl⟩
 |false=>
  have HC:Hid (bD p f=0):=wP (by unfold bD;rw[ht];rfl);rw[ht]at hT;have HT:=wP hT;clear hi hT ht xY hS;go_enter func81,ntmps81;go_wp2_with (go_at_call 96;refine(HT.o _ HP.o).mono ?_;rintro e w1⟨rfl,rfl⟩);go_ret;exact⟨mz (by rw[HC.o];rfl),rfl⟩
end
section
open Go.RowKit
theorem oE (z:Value)(n:Nat):madeCells #[z] n=rowV n fun _ =>z:=by
 apply Array.ext_getElem?;intro j;by_cases h:j<n
 ·rw[dD h];simp[madeCells,h,Nat.mod_one]
 ·rw[Array.getElem?_eq_none (by rw[size_madeCells];omega),Array.getElem?_eq_none (by rw[bT];omega)]
def eS (gd gs:Nat->Value)(o so k:Nat):Nat->Value:=fun i=>if o<=i/\i<o+k then gs (so+(i-o))else gd i
variable {n:Nat}
theorem ko {m o so k:Nat}{gd gs:Nat->Value}(h1:o+k<=n)(h2:so+k<=m):
  ((rowV n gd).toList.take o++(((List.range k).map fun i=>gs (so+i))++(rowV n gd).toList.drop (o+k))).toArray=rowV n (eS gd gs o so k):=by
 apply Array.ext_getElem?;intro j;have hl:(rowV n gd).toList.length=n:=(by rw[Array.length_toList,bT]);rw[List.getElem?_toArray];by_cases hj:j<n
 ·rw[dD hj];unfold eS;by_cases c1:j<o
  ·rw[wZ (by rw[List.length_take,hl];omega),List.getElem?_take,if_pos c1,Array.getElem?_toList,dD hj,if_neg o_]
  ·rw[wY (by rw[List.length_take,hl];omega),List.length_take,hl,Nat.min_eq_left o_];by_cases c2:j<o+k
   ·rw[wZ t_,if_pos o_,xj,List.getElem?_range o_];rfl
   ·rw[wY t_,if_neg o_,List.getElem?_drop,Array.getElem?_toList];simp only[List.length_map,List.length_range];rw[show o+k+(j-o-k)=j from by omega,dD hj]
 ·rw[Array.getElem?_eq_none (by rw[bT];omega),List.getElem?_eq_none];simp[hl];omega
variable {w:World}{ops:Array Oper}{rest:List Oper}{o:Oper}{a:Act}{Q:Exit->Act->World->Prop}
theorem jH (zH:o.guard=none)(d s:Operand)(dT sT:TypeId)
  (ho:o.op= .call { callee:= .builtin .copy,args:= #[d,s],argTypes:= #[dT,sT]})(elem:TypeId)(hu:prog.underlying dT=some (.slice elem))(LC:(prog.info? elem).map (·.size)=some 1)
  (g off dLen dCap h so sLen sCap k:Nat)(hd:a.eval d= .slice (some ⟨g,off,none⟩) dLen dCap)(hs:a.eval s= .slice (some ⟨h,so,none⟩) sLen sCap)(hk:k=Nat.min sLen dLen)
  (n m:Nat)(gd gs:Nat->Value)(t t':TypeId)(hg:w.heap[g]? =some (.cells (rowV n gd) t (0,0)))(fr:Nat×Nat)(hh:w.heap[h]? =some (.cells (rowV m gs) t' fr))(h1:off+k<=n)(h2:so+k<=m)
  (yv: ∀i,(gs i).oneCell'=true)
  (hc:wpList prog ops Q rest (a.put o.dst (goInt k)) (w.setRow g (rowV n (eS gd gs off so k)))):wpList prog ops Q (o::rest) a w:=by
 refine wpList_copy_own zH d s dT sT ho elem hu LC g off dLen dCap ⟨h,so,none⟩ sLen sCap hd hs (rowV n gd) t hg ((List.range k).map fun i=>gs (so+i)) (by simp[hk]) (fun j v hv=>?_) (by rw[bT];simpa using h1) (fun v hv=>?_) ?_
 ·have CR:j<k:=by
   have:=(List.getElem?_eq_some_iff.1 hv).1;simpa using this
  rw[xj,List.getElem?_range CR]at hv;simp only[Option.map_some,Option.some.injEq]at hv;subst hv;have e:(⟨h,so,none⟩:Addr).add j=⟨h,so+j,none⟩:=by unfold Addr.add;split<;>simp_all
  rw[e,aa hh,dD o_]
 ·obtain⟨i,_,rfl⟩:=List.mem_map.1 hv;exact yv _
 ·have Cx:=ko (gd:=gd) (gs:=gs) h1 h2;simp only[List.length_map,List.length_range];rw[Cx];exact hc
variable {b:Nat}
theorem vd {S:Nat->Prop}(hb:S b)(cs:Array Value):Mod S w (w.setRow b cs):=
 ⟨rfl,rfl,rfl,by simp[World.setRow],fun k _ hk=>setRow_other w b k cs (fun e=>hk (by rw[e];exact hb))⟩
def aT (w:World)(b n:Nat)(d:Nat->Nat):Prop:=w.heap[b]? =some (.cells (rowV n fun i=> .int .u8 (d i:Int)) 5 (0,0))
theorem tW:(prog.info? 5).map (·.size)=some 1:=k_
theorem ki:(prog.info? 5).map (fun i=>(i.zero,i.size,i.bytes))=some (some (.int .u8 0),1,1):=k_
theorem gj (n:Nat)(hn:n<=1000000)(W:World):(Instr.makeSlice 39 (.int .i64 (n:Int)) (.int .i64 (n:Int))).run prog W= .ok (.slice (some ⟨W.heap.size,0,none⟩) n n) (W.alloc (.cells (rowV n fun _ => .int .u8 0) 5)):=by
 obtain⟨i0,zx,xT,xQ,xX⟩:=info_parts ki;have h:=run_make (P:=prog) W 39 5 i0 (.int .u8 0) underlying39 zx xT .i64 .i64 (n:Int) (n:Int) o_ o_ (by rw[xX];omega) o_;rw[h,xQ];simp[Value.cells,oE]
theorem kV:prog.arrayLen 259=4096:=k_
theorem lV:prog.elem 259=5:=k_
theorem oQ:prog.underlying 259=some (.array (prog.arrayLen 259) (prog.elem 259)):=k_
theorem nL (W:World):(sizeOf 5).run prog W= .ok 1 W:=by
 obtain⟨i0,zx,xT,xQ,xX⟩:=info_parts ki;simp[sizeOf,typeInfo,zx,xQ]
theorem pI (b off n:Nat)(h:off+n<=4096)(W:World):
  (Instr.sliceAt 259 (.pointer (some ⟨b,0,none⟩)) (some (.int .i64 (off:Int))) (some (.int .i64 ((off:Int)+(n:Int)))) (some (.int .i64 ((off:Int)+(n:Int))))).run prog W= .ok (.slice (some ⟨b,if n=0 then 0 else off,none⟩) n n) W:=by
 have h1:=run_sliceAt_array_lhm W 259 ⟨b,0,none⟩ oQ .i64 .i64 .i64 (off:Int) ((off:Int)+(n:Int)) ((off:Int)+(n:Int)) o_ o_ o_ (by rw[kV];omega);rw[h1,lV,nL];have e:((off:Int)+(n:Int)).toNat=off+n:=o_;simp only[Result.andThen_ok,slicedAt,e,Int.toNat_natCast,Nat.add_sub_cancel_left];by_cases hn:n=0
 ·subst hn;simp
 ·rw[if_neg o_,if_neg hn];unfold Addr.add;split<;>simp_all
theorem gl (a g off n:Nat)(w:World)(S:Nat->Prop)(p:Pool)(h:am w S a p)(hg:g<p.n)(h1:1<=p.cnt g)(ho:off<=4096)(hn:n<=4096-off):
  Calls prog 122 #[.pointer (some ⟨a,0,none⟩),.int .i64 g,.int .i64 off,.int .i64 n] w
   fun e w'=>e= .returned (.tuple #[.slice (some ⟨w.heap.size,0,none⟩) n n,.int .i64 0])/\aT w' w.heap.size n (fun i=>p.dat g (off+i))/\w.heap.size<w'.heap.size/\Below w.heap.size w w':=by
 have ht:ev p (g:Int)=true:=(by rw[bn];exact xh ⟨hg,o_⟩);have hT:=fun W=>eu a (g:Int) W S p;rw[ht]at hT;obtain⟨HT,HP⟩:=zh2 hT h;obtain⟨⟨C,B,F,wd,pt,hi,hS⟩,xY,_,_⟩:=h;have h1':w.cell? ⟨a,1,none⟩=some (.slice (some ⟨B,0,none⟩) p.n p.n):=aa hi.self 1;obtain⟨b,xu,xx,xE,yG,zJ,Bv⟩:=hi.bytes g hg o_;have VC:=aW hi.ptrs hg;rw[xu]at VC;have TZ:=xY a hS.1;have hbB:=xY B hS.2.2.1;have KG:=xY b (hS.2.2.2.2 g b hg o_ xu);have hN:=hi.few.2;have yW:=wP xx;have IN:=gj n o_;clear hi hT ht xY hS xu xx;go_enter func122,ntmps122;go_upto_region 6 with(go_at_call 96;refine(HT.o _ HP.o).mono ?_;rintro e w1⟨rfl,rfl⟩);have hX:(w.alloc (.cells (rowV n fun _ => .int .u8 0) 5)).heap[w.heap.size]? =some (.cells (rowV n fun _ => .int .u8 0) 5 (0,0)):=ab w _;have hY:(w.alloc (.cells (rowV n fun _ => .int .u8 0) 5)).heap[b]? =some (.cells (rowV 4096 fun i=> .int .u8 (p.dat g i:Int)) 259 (0,0)):=(wT _ _ _ KG).trans yW.o;obtain⟨HX,HY⟩:=zh2 hX hY;clear hX hY;have TP:=pI b off n o_;have hso:(if n=0 then 0 else off)+n<=4096:=by split<;>omega
 generalize BH:(if n=0 then 0 else off)=so at *
 have Bp:=wP BH;clear BH;go_wp2_with ((with_reducible refine jH rfl (.tmp 39) (.tmp 55) 39 39 rfl 5 underlying39 tW w.heap.size 0 n n b so n n n rfl rfl s_ n 4096 _ _ _ _ HX.o _ HY.o o_ o_ (fun _ =>rfl) ?_));go_ret2;refine⟨rfl,?_,by simp[World.setRow],?_⟩
 ·unfold aT;rw[setRow_heap _ _ _ _ _ _ HX.o];congr 2;refine bH fun i hi=>?_;unfold eS;rw[if_pos o_,<-Bp.o,if_neg o_];simp
 ·exact below_setRow wR (wS _) _
def ap (w:World)(A:Option Addr)(n:Nat)(d:Nat->Nat):Prop:=0<n-> ∃ad,A=some ad/\ ∀j,j<n->w.cell? (ad.add j)=some (.int .u8 (d j:Int))
variable {d:Nat->Nat}
theorem aT.v (h:aT w b n d):ap w (some ⟨b,0,none⟩) n d:=fun _ =>⟨_,rfl,fun j hj=>by
 rw[Addr.add_mid,Nat.zero_add];exact aW h hj⟩
variable {B:Nat}
theorem ap.below {w':World}{A:Option Addr}(h:ap w A n d)(hb:Below B w w')(hA: ∀ad,A=some ad->ad.block<B):ap w' A n d:=fun h0=>by
 obtain⟨ad,e,hc⟩:=h h0;refine⟨ad,e,fun j hj=>?_⟩;rw[<-hc j hj];refine hb.cell ?_;have:(ad.add j).block=ad.block:=by unfold Addr.add;split<;>rfl
 rw[this];exact hA ad e
theorem iQ (zH:o.guard=none)(d s:Operand)
  (ho:o.op= .call { callee:= .builtin .copy,args:= #[d,s],argTypes:= #[39,39]})
  (g off dLen dCap n sCap:Nat)(A:Option Addr)(hd:a.eval d= .slice (some ⟨g,off,none⟩) dLen dCap)(hs:a.eval s= .slice A n sCap)(hk:n<=dLen)
  (N:Nat)(gd:Nat->Value)(e:Nat->Nat)(t:TypeId)(hg:w.heap[g]? =some (.cells (rowV N gd) t (0,0)))(hA:ap w A n e)(h1:off+n<=N)
  (hc:wpList prog ops Q rest (a.put o.dst (goInt n)) (w.setRow g (rowV N (eS gd (fun i=> .int .u8 (e i:Int)) off 0 n)))):wpList prog ops Q (o::rest) a w:=by
 rcases Nat.eq_zero_or_pos n with rfl|hn
 ·have h0:=wpList_copy_nothing (P:=prog) (w:=w) (ops:=ops) (rest:=rest) (Q:=Q) zH d s 39 39 ho 5 underlying39 tW _ _ dLen dCap 0 sCap hd hs s_;refine h0 ?_;have e1:w.setRow g (rowV N (eS gd (fun i=> .int .u8 (e i:Int)) off 0 0))=w:=by
   rw[bH (h:=gd) (fun i hi=>by unfold eS;rw[if_neg o_])];exact setRow_self w g _ t _ hg
  rw[e1]at hc;exact hc
 ·obtain⟨ad,rfl,Aq⟩:=hA hn;refine wpList_copy_own zH d s 39 39 ho 5 underlying39 tW g off dLen dCap ad n sCap hd hs (rowV N gd) t hg ((List.range n).map fun i=> .int .u8 (e i:Int)) (by rw[List.length_map,List.length_range];exact(Nat.min_eq_left hk).symm) (fun j v hv=>?_) (by rw[bT];simpa using h1) (fun v hv=>?_) ?_
  ·have CR:j<n:=by
    have:=(List.getElem?_eq_some_iff.1 hv).1;simpa using this
   rw[xj,List.getElem?_range CR]at hv;simp only[Option.map_some,Option.some.injEq]at hv;subst hv;exact Aq j CR
  ·obtain⟨i,_,rfl⟩:=List.mem_map.1 hv;rfl
  ·have Cx:=ko (gd:=gd) (gs:=fun i=> .int .u8 (e i:Int)) (so:=0) h1 (wS (0+n));simp only[List.length_map,List.length_range];simp only[Nat.zero_add]at Cx;rw[Cx];exact hc
theorem cl.setBytes {a C F g:Nat}{wd:Nat->Nat}{pt:Nat->Option Nat}{p:Pool}(h:cl w a C B F wd pt p)(hg:g<p.n)(h1:1<=p.cnt g)(hb:pt g=some b)(d:Nat->Nat)(hd: ∀i,d i<256)
  {v:Nat->Value}(hv: ∀i,i<4096->v i= .int .u8 (d i:Int)):cl (w.setRow b (rowV 4096 v)) a C B F wd pt (p.store g d):=by
 obtain⟨b',e,h2,h3,h4,h5,h6⟩:=h.bytes g hg h1;rw[hb]at e;injection e with e;subst e;have far: ∀k,k≠b->(w.setRow b (rowV 4096 v)).heap[k]? =w.heap[k]? :=fun k hk=>setRow_other w b k _ hk;refine⟨(far a h3.symm).trans h.self,(far C h4.symm).trans h.counts,(far B h5.symm).trans h.ptrs,(far F h6.symm).trans h.free,h.wds,fun f hf hc=>?_,h.sole,h.apart,fun f i=>?_,h.few,h.cap⟩
 ·obtain⟨b',e,k2,k3⟩:=h.bytes f hf hc;refine⟨b',e,?_,k3⟩;by_cases ef:f=g
  ·subst ef;rw[hb]at e;injection e with e;subst e;have xG:rowV 4096 v=rowV 4096 fun i=> .int .u8 ((p.store f d).dat f i:Int):=bH fun i hi=>by
    rw[hv i hi];simp only[Pool.store,af]
   rw[setRow_heap w b _ _ _ _ h2,xG]
  ·have:b'≠b:=fun e2=>ef (h.sole f g b hf hg hc h1 (by rw[e,e2]) hb);rw[far b' this,k2];simp only[Pool.store,ah _ _ ef]
 ·by_cases ef:f=g
  ·subst ef;simp only[Pool.store,af];exact hd i
  ·simp only[Pool.store,ah _ _ ef];exact h.small f i
theorem jI (b off:Nat)(h:off<=4096)(W:World):
  (Instr.sliceAt 259 (.pointer (some ⟨b,0,none⟩)) (some (.int .i64 (off:Int))) none none).run prog W= .ok (.slice (some ⟨b,if off=4096 then 0 else off,none⟩) (4096-off) (4096-off)) W:=by
 have h1:=run_sliceAt_array_l W 259 ⟨b,0,none⟩ oQ .i64 (off:Int) o_ (by rw[kV];omega);rw[h1,lV,nL,kV];simp only[Result.andThen_ok,slicedAt,Int.toNat_natCast];by_cases hn:off=4096
 ·subst hn;simp
 ·rw[if_neg o_,if_neg hn];unfold Addr.add;split<;>simp_all
def laid (d0 d:Nat->Nat)(off n:Nat):Nat->Nat:=fun i=>if off<=i/\i<off+n then d (i-off)else d0 i
theorem ie (a g off n c:Nat)(A:Option Addr)(d:Nat->Nat)(w:World)(S:Nat->Prop)(p:Pool)(h:am w S a p)(hg:g<p.n)(h1:1<=p.cnt g)(ho:off<=4096)(hn:n<=4096-off)(hA:ap w A n d)(hd: ∀j,d j<256):
  Calls prog 124 #[.pointer (some ⟨a,0,none⟩),.int .i64 g,.int .i64 off,.slice A n c] w
   fun e w'=>e= .returned (.int .i64 0)/\am w' S a (p.store g (laid (p.dat g) d off n))/\Mod S w w':=by
 have ht:ev p (g:Int)=true:=(by rw[bn];exact xh ⟨hg,o_⟩);have hT:=fun W=>eu a (g:Int) W S p;rw[ht]at hT;obtain⟨HT,HP⟩:=zh2 hT h;obtain⟨⟨C,B,F,wd,pt,hi,hS⟩,xY,_,_⟩:=h;have h1':w.cell? ⟨a,1,none⟩=some (.slice (some ⟨B,0,none⟩) p.n p.n):=aa hi.self 1;obtain⟨b,xu,xx,xE,yG,zJ,Bv⟩:=hi.bytes g hg o_;have VC:=aW hi.ptrs hg;rw[xu]at VC;have hN:=hi.few.2;obtain⟨yW,HI,xI,HA⟩:=zh4 xx hi xu hA;have TP:=jI b off ho;clear hi hT ht xY xu xx hA;have hso:(if off=4096 then 0 else off)<=4096:=by split<;>omega
 generalize BH:(if off=4096 then 0 else off)=so at *
 have Bp:=wP BH;clear BH;go_enter func124,ntmps124;go_upto_region 5 with(go_at_call 96;refine(HT.o _ HP.o).mono ?_;rintro e w1⟨rfl,rfl⟩);go_wp2_with ((with_reducible refine iQ rfl (.tmp 41) (.tmp 42) rfl b so (4096-off) (4096-off) n c A rfl rfl o_ 4096 _ d _ yW.o HA.o (by rw[<-Bp.o];split<;>omega) ?_));go_ret;have xB:=HI.o.setBytes hg h1 xI.o (laid (p.dat g) d off n) (fun i=>by unfold laid;split;exact hd _;exact HI.o.small _ _) (v:=eS (fun i=> .int .u8 (p.dat g i:Int)) (fun i=> .int .u8 (d i:Int)) so 0 n) (fun i hi=>by
  unfold eS laid;by_cases e:n=0
  ·rw[if_neg o_,if_neg o_]
  ·have e2:so=off:=(by rw[<-Bp.o,if_neg o_]);subst e2;by_cases e3:so<=i/\i<so+n
   ·rw[if_pos e3,if_pos e3];simp
   ·rw[if_neg e3,if_neg e3])
 exact⟨rfl,HP.o.stay (vd (hS.2.2.2.2 g b hg o_ xI.o) _) ⟨C,B,F,wd,pt,xB,hS⟩,vd (hS.2.2.2.2 g b hg o_ xI.o) _⟩
end
section
open Go.RowKit
theorem tz_key (x a:Nat)(hx:x<18446744073709551616)(EA:x≠0)(xY:x&&&(18446744073709551616-x)=a):
  IntKind.u64.wrap (bits BinOp.and IntKind.u64 (x:Int) (IntKind.u64.wrap (-(x:Int)))*285870213051353865)/288230376151711744=((a*285870213051353865 % 18446744073709551616/288230376151711744:Nat):Int):=by
 have e1:IntKind.u64.wrap (-(x:Int))=((18446744073709551616-x:Nat):Int):=v_;rw[e1,bits_and_u64_nat x _ hx o_,xY,IntKind.wrap_u64];omega
theorem tz_core (x k idx:Nat)(w:World)(EA:((x:Int)==0)=false)
  (key:IntKind.u64.wrap (bits BinOp.and IntKind.u64 (x:Int) (IntKind.u64.wrap (-(x:Int)))*285870213051353865)/288230376151711744=(idx:Int))
  (hi:idx<64)(hk:k<64)(xV:w.cell? ⟨0,idx,none⟩=some (.int .u8 k)):
  Calls prog 168 #[.int .u64 x] w fun e w'=>e= .returned (.int .i64 k)/\w=w':=by
 go_enter func168,ntmps168;go_wp2_with (simp only[key]);go_ret;exact⟨rfl,rfl⟩
theorem tz_any (x:Nat)(hx:x<18446744073709551616)(EA:x≠0)(w:World)(hT:DB w):
  Calls prog 168 #[.int .u64 x] w fun e w'=>e= .returned (.int .i64 (Lib.ctz 64 x:Nat))/\w=w':=by
 obtain⟨xY,hk⟩:=Lib.lowest_bit 64 x EA hx;obtain⟨hi,On⟩:=Lib.deBruijn64_at _ hk;have xV:=hT _ hi;rw[On]at xV;exact tz_core x _ _ w t_ (tz_key x _ hx EA xY) hi hk xV
theorem ctz_bits {x k:Nat}(hx:x<18446744073709551616)(hk:k<64)(h1:x.testBit k=true)(h2: ∀j,j<k->x.testBit j=false):Lib.ctz 64 x=k:=by
 have EA:x≠0:=fun e=>by rw[e]at h1;simp at h1
 obtain⟨m,hm,Ec⟩:=Lib.ctzFrom_spec 64 x o_ hx;have e:Lib.ctz 64 x=Lib.ctzFrom 64 x:=(by simp[Lib.ctz,EA]);rw[e];generalize Lib.ctzFrom 64 x=c at hm Ec;have t1:x.testBit c=true:=by
  rw[hm,Nat.mul_comm,Nat.testBit_mul_two_pow];simp
 have t2: ∀j,j<c->x.testBit j=false:=fun j hj=>by
  rw[hm,Nat.mul_comm,Nat.testBit_mul_two_pow];simp;omega
 rcases Nat.lt_trichotomy c k with h|h|h
 ·rw[h2 c h]at t1;cases t1
 ·exact h
 ·rw[t2 k h]at h1;cases h1
end
section
open Go.RowKit
theorem nF {x:Nat}(hx:x<18446744073709551616)(h: ∀j,j<64->x.testBit j=false):x=0:=by
 refine Nat.eq_of_testBit_eq fun i=>?_;rw[Nat.zero_testBit];rcases Nat.lt_or_ge i 64 with h1|h1
 ·exact h i h1
 ·exact Nat.testBit_lt_two_pow (wW hx (by
   have:(2:Nat)^64<=2^i:=Nat.pow_le_pow_right d_ h1;exact this))
variable {w:World}{a C B F:Nat}{wd:Nat->Nat}{pt:Nat->Option Nat}{p:Pool}
theorem cl.zeroWord (h:cl w a C B F wd pt p){i:Nat}(hi:i<(p.n+63)/64)(hz: ∀f,f/64=i->f<p.n->p.cnt f≠0):wd i=0:=by
 refine nF (h.wds i hi).1 fun j hj=>?_;rw[(h.wds i hi).2 j hj];exact xg fun e=>hz (64*i+j) o_ e.1 e.2
def mj:Array Value:=rowV 4096 fun _ => .int .u8 0
theorem jZ:prog.built 259 []=some mj:=k_
theorem jL {α:Type}(n:Nat)(F:α->Value)(c:Nat->α)(g:Nat)(x:α):rowV n (upd (fun i=>F (c i)) g (F x))=rowV n fun i=>F (upd c g x i):=bH fun i _ =>by
 by_cases e:i=g
 ·subst e;rw[af,af]
 ·rw[ah _ _ e,ah _ _ e]
theorem nG {ops:Array Oper}{rest:List Oper}{o:Oper}{a:Act}{Q:Exit->Act->World->Prop}(hg:o.guard=none)(ho:o.op= .build 259 #[])
  (h:wpList prog ops Q rest (a.put o.dst (.agg mj)) w):wpList prog ops Q (o::rest) a w:=by
 refine wpList_build hg 259 #[] ho ?_ ?_
 ·simp[jZ]
 ·have e:(prog.built 259 ((#[]:Array (Nat×Operand)).map fun(i,x)=>(i,a.eval x)).toList).getD #[]=mj:=(by simp[jZ]);rw[e];exact h
theorem cl.taken {W:World}{nb:Nat}(h:cl w a C B F wd pt p){g:Nat}(hg:g<p.n)(h0:p.cnt g=0)(TS:nb≠a/\nb≠C/\nb≠B/\nb≠F)(hold: ∀f b,f<p.n->0<p.cnt f->pt f=some b->b≠nb)
  (hC:W.heap[C]? =some (.cells (rowV p.n fun f=> .int .i64 ((upd p.cnt g 1 f:Nat):Int)) 3 (0,0)))
  (hB:W.heap[B]? =some (.cells (rowV p.n fun f=> .pointer ((upd pt g (some nb) f).map fun b=>⟨b,0,none⟩)) 251 (0,0)))
  (hF:W.heap[F]? =some (.cells (rowV ((p.n+63)/64) fun i=> .int .u64 ((upd wd (g/64) (wd (g/64)&&&(18446744073709551615-2^(g % 64))) i:Nat):Int)) 43 (0,0)))
  (hA:W.heap[a]? =some (.cells #[.slice (some ⟨C,0,none⟩) p.n p.n, .slice (some ⟨B,0,none⟩) p.n p.n, .slice (some ⟨F,0,none⟩) ((p.n+63)/64) ((p.n+63)/64), .int .i64 ((p.left:Int)-1)] 135 (0,0)))
  (hN:W.heap[nb]? =some (.cells mj 259 (0,0)))
  (far: ∀b,b≠a->b≠C->b≠B->b≠F->b≠nb->W.heap[b]? =w.heap[b]?):
  cl W a C B F (upd wd (g/64) (wd (g/64)&&&(18446744073709551615-2^(g % 64)))) (upd pt g (some nb)) (p.takeAt g):=by
 have hl:(p.takeAt g).left+1=p.left:=by
  have:=gq (c:=p.cnt) (x:=1) hg;rw[if_pos h0,if_neg o_]at this;exact this
 have hc: ∀f,f≠g->(p.takeAt g).cnt f=p.cnt f:=fun f e=>ah _ _ e;refine⟨?_,hC,hB,hF,fun i hi=>?_,fun f hf hp=>?_,fun f k b hf hk h1 h2 e1 e2=>?_,h.apart,fun f i=>?_,h.few,fun f=>?_⟩
 ·rw[hA,show((p.left:Int)-1)=((p.takeAt g).left:Int)from by omega];rfl
 ·by_cases e:i=g/64
  ·subst e;rw[af];refine⟨clr_lt (h.wds _ hi).1,fun j hj=>?_⟩;rw[clr_test (Nat.mod_lt _ d_) hj,(h.wds _ hi).2 j hj];by_cases e2:j=g % 64
   ·subst e2;rw[xh (rfl:g % 64=g % 64),Bool.not_true,Bool.and_false];refine(xg fun e=>?_).symm;have e3:=e.2;rw[show 64*(g/64)+g % 64=g from by omega]at e3;simp only[Pool.takeAt,af]at e3;omega
   ·rw[show decide (g % 64=j)=false from xg (fun e'=>e2 e'.symm),Bool.not_false,Bool.and_true];exact decide_eq_decide.2 (by rw[hc (64*(g/64)+j) o_];exact Iff.rfl)
  ·rw[ah _ _ e];refine⟨(h.wds i hi).1,fun j hj=>?_⟩;rw[(h.wds i hi).2 j hj];exact decide_eq_decide.2 (by rw[hc (64*i+j) o_];exact Iff.rfl)
 ·by_cases e:f=g
  ·subst e;refine⟨nb,af _ _ _,?_,TS⟩;rw[hN];have:mj=rowV 4096 fun i=> .int .u8 ((p.takeAt f).dat f i:Int):=bH fun i _ =>by simp[Pool.takeAt,af]
   rw[this]
  ·rw[hc f e]at hp;obtain⟨b,e1,e2,e3⟩:=h.bytes f hf hp;refine⟨b,by rw[ah _ _ e];exact e1,?_,e3⟩;rw[far b e3.1 e3.2.1 e3.2.2.1 e3.2.2.2 (hold f b hf hp e1),e2];simp[Pool.takeAt,ah _ _ e]
 ·by_cases ef:f=g
  ·by_cases ek:k=g
   ·rw[ef,ek]
   ·subst ef;rw[af]at e1;injection e1 with e1;subst e1;rw[ah _ _ ek]at e2;rw[hc k ek]at h2;exact absurd rfl (hold k _ hk h2 e2)
  ·by_cases ek:k=g
   ·subst ek;rw[af]at e2;injection e2 with e2;subst e2;rw[ah _ _ ef]at e1;rw[hc f ef]at h1;exact absurd rfl (hold f _ hf h1 e1)
   ·rw[ah _ _ ef]at e1;rw[ah _ _ ek]at e2;rw[hc f ef]at h1;rw[hc k ek]at h2;exact h.sole f k b hf hk h1 h2 e1 e2
 ·by_cases e:f=g
  ·subst e;simp[Pool.takeAt,af]
  ·simp only[Pool.takeAt,ah _ _ e];exact h.small f i
 ·by_cases e:f=g
  ·subst e;simp only[Pool.takeAt,af];decide
  ·rw[hc f e];exact h.cap f
def TakePost (w:World)(S:Nat->Prop)(a:Nat)(p:Pool)(f:Nat)(e:Ending)(w':World):Prop:=
 e= .returned (.tuple #[.int .i64 (f:Int),.int .i64 0])/\ ∃S',am w' S' a (p.takeAt f)/\Mod S w w'/\Out S S' w
theorem uj (a:Nat)(w:World)(S:Nat->Prop)(p:Pool)(h:am w S a p)(hl:p.lowest=none):
  Calls prog 147 #[.pointer (some ⟨a,0,none⟩)] w fun e w'=>e= .returned (.tuple #[.int .i64 0,.int .i64 4])/\w=w':=by
 have xL:=cB hl;obtain⟨⟨C,B,F,wd,pt,hi,hS⟩,xY,_,_⟩:=h;have h2:w.cell? ⟨a,2,none⟩=some (.slice (some ⟨F,0,none⟩) ((p.n+63)/64) ((p.n+63)/64)):=aa hi.self 2;have hn:=hi.few.2;obtain⟨HI,HN⟩:=zh2 hi xL;clear hi hS xY xL hl;generalize hm:(p.n+63)/64=m at *
 have HM:=wP hm;have Ba:m<=16:=o_;clear hm;go_enter func147,ntmps147;go_wp2;go_loop [14] (fun i=> ∃k:Nat,k<=m/\i= .int .i64 k) (fun i=>m-(intOf i).toNat)
 case atStart=>exact⟨0,xm _,rfl⟩
 case round=>
  obtain⟨k,hk,rfl⟩:=hrel;by_cases xw:k<m
  ·have hw:=aW HI.o.free (i:=k) (by rw[HM.o];exact xw);rw[HI.o.zeroWord (i:=k) (by rw[HM.o];exact xw) (fun f _ hf=>HN.o f hf)]at hw;go_wp2;go_round
   case rel=>exact⟨k+1,o_,by go_num⟩
   case measure=>simp[intOf];omega
  ·go_wp2;go_ret2;exact⟨rfl,rfl⟩
theorem nP (a g:Nat)(w:World)(S:Nat->Prop)(p:Pool)(h:am w S a p)(hl:p.lowest=some g):
  Calls prog 147 #[.pointer (some ⟨a,0,none⟩)] w (TakePost w S a p g):=by
 obtain⟨hg,Qb,Ml⟩:=cT hl;have HP:=wP h;obtain⟨⟨C,B,F,wd,pt,hi,hS⟩,xY,On,_⟩:=h;have h0:w.cell? ⟨a,0,none⟩=some (.slice (some ⟨C,0,none⟩) p.n p.n):=aa hi.self 0;have h1:w.cell? ⟨a,1,none⟩=some (.slice (some ⟨B,0,none⟩) p.n p.n):=aa hi.self 1;have h2:w.cell? ⟨a,2,none⟩=some (.slice (some ⟨F,0,none⟩) ((p.n+63)/64) ((p.n+63)/64)):=aa hi.self 2;have h3:w.cell? ⟨a,3,none⟩=some (.int .i64 (p.left:Int)):=aa hi.self 3;have f3:=ae hi.self 3;have hn:=hi.few.2;have hle:p.left<=p.n:=oP _ _;have xZ:1<=p.left:=by
  have:=gq (c:=p.cnt) (x:=1) hg;rw[if_pos Qb,if_neg o_]at this;unfold Pool.left;omega
 have OK:=aW hi.counts hg;have Sc:=ae hi.counts g;have xz:=aW hi.ptrs hg;have Sq:=ae hi.ptrs g;have JJ:g/64<(p.n+63)/64:=o_;have hw:=aW hi.free JJ;have Ie:=ae hi.free (g/64);obtain⟨n1,n2,n3,n4,n5,n6⟩:=hi.apart;have z1:=xY a hS.1;have z2:=xY C hS.2.1;have z3:=xY B hS.2.2.1;have z4:=xY F hS.2.2.2.1;have hx:=(hi.wds _ JJ).1;have WR:Lib.ctz 64 (wd (g/64))=g % 64:=ctz_bits hx (Nat.mod_lt _ d_) (by
   rw[(hi.wds _ JJ).2 _ (Nat.mod_lt _ d_)];rw[show 64*(g/64)+g % 64=g from by omega];exact xh ⟨hg,Qb⟩) (fun j hj=>by
   rw[(hi.wds _ JJ).2 _ o_];exact xg fun e=>Ml _ o_ e.2)
 have EA:wd (g/64)≠0:=fun e=>by
  have:=(hi.wds _ JJ).2 (g % 64) (Nat.mod_lt _ d_);rw[show 64*(g/64)+g % 64=g from by omega,xh ⟨hg,Qb⟩,e]at this;simp at this
 have htz:=tz_any _ hx EA w On;rw[WR]at htz;have HTZ:=wP htz;have hx0':((wd (g/64):Int)==0)=false:=(by rw[xf];omega);obtain⟨HI,HLOW⟩:=zh2 hi Ml;clear hi xY On WR EA htz Ml hl;generalize hm:(p.n+63)/64=m at *
 have HM:=wP hm;have Ba:m<=16:=o_;clear hm;go_enter func147,ntmps147;go_wp2;go_loop [14] (fun i=> ∃k:Nat,k<=g/64/\i= .int .i64 k) (fun i=>m-(intOf i).toNat)
 case atStart=>exact⟨0,xm _,rfl⟩
 case round=>
  obtain⟨k,hk,rfl⟩:=hrel;by_cases xw:k<g/64
  ·have hw:=aW HI.o.free (i:=k) (by rw[HM.o];omega);rw[HI.o.zeroWord (i:=k) (by rw[HM.o];omega) (fun f _ hf=>HLOW.o f o_)]at hw;go_wp2;go_round
   case rel=>exact⟨k+1,o_,by go_num⟩
   case measure=>simp[intOf];omega
  ·obtain rfl:k=g/64:=o_;clear xw hk;go_wp2_with (go_at_call 168;refine(HTZ.o).mono ?_;rintro e w1⟨rfl,rfl⟩);rw[show((g:Int)/64*64+(g:Int) % 64)=(g:Int)from by omega];go_region;go_wp2_with ((with_reducible refine nG rfl rfl ?_));go_ret2;have hm:Mod S w ((((((w.setCell ⟨F,g/64,none⟩ (.int .u64 (bits .andNot .u64 (wd (g/64):Int) (IntKind.u64.wrap (2^(g % 64)))))).setCell ⟨a,3,none⟩ (.int .i64 ((p.left:Int)-1))).setCell ⟨C,g,none⟩ (.int .i64 1)).setCell ⟨B,g,none⟩ (.pointer (some ⟨w.heap.size,0,none⟩))).alloc (.cells mj 259)).drew):=
    (((((aj hS.2.2.2.1 _ _).trans (Out.refl _ _) (aj hS.1 _ _)).trans (Out.refl _ _) (aj hS.2.1 _ _)).trans (Out.refl _ _) (aj hS.2.2.1 _ _)).trans (Out.refl _ _) (Mod.of wR)).drew
   rw[clr_bit hx (Nat.mod_lt _ d_)]at hm⊢;have ho:Out S (fun b=>S b\/b=w.heap.size) w:=fun b hb=>by
    rcases hb with hb|hb
    ·exact .inl hb
    ·right;omega
   have ym:rP ((((((w.setCell ⟨F,g/64,none⟩ (.int .u64 ((wd (g/64)&&&(18446744073709551615-2^(g % 64)):Nat):Int))).setCell ⟨a,3,none⟩ (.int .i64 ((p.left:Int)-1))).setCell ⟨C,g,none⟩ (.int .i64 1)).setCell ⟨B,g,none⟩ (.pointer (some ⟨w.heap.size,0,none⟩))).alloc (.cells mj 259)).drew) (fun b=>S b\/b=w.heap.size) a (p.takeAt g):=by
    generalize hX:(((w.setCell ⟨F,g/64,none⟩ (.int .u64 ((wd (g/64)&&&(18446744073709551615-2^(g % 64)):Nat):Int))).setCell ⟨a,3,none⟩ (.int .i64 ((p.left:Int)-1))).setCell ⟨C,g,none⟩ (.int .i64 1)).setCell ⟨B,g,none⟩ (.pointer (some ⟨w.heap.size,0,none⟩))=X;have hXs:X.heap.size=w.heap.size:=(by rw[<-hX];simp);have far: ∀b,b≠a->b≠C->b≠B->b≠F->X.heap[b]? =w.heap[b]? :=fun b h1 h2 h3 h4=>by
     rw[<-hX,wX _ _ _ _ h3,wX _ _ _ _ h2,wX _ _ _ _ h1,wX _ _ _ _ h4]
    have hi:=HI.o;refine⟨C,B,F,_,_,hi.taken (W:=(X.alloc (.cells mj 259)).drew) (nb:=w.heap.size) hg Qb ⟨o_,o_,o_,o_⟩ (fun f b hf hp he e=>?_) ?_ ?_ ?_ ?_ ?_ (fun b h1 h2 h3 h4 h5=>?_),.inl hS.1,.inl hS.2.1,.inl hS.2.2.1,.inl hS.2.2.2.1,fun f b hf hp he=>?_⟩
    ·have:=HP.o.low b (hS.2.2.2.2 f b hf hp he);omega
    ·refine(wT _ _ _ o_).trans ?_;rw[<-hX,wX _ _ _ _ n4,Joins.block_setCell ((wX _ _ _ _ n1.symm).trans ((wX _ _ _ _ n5).trans hi.counts)),dX];rw[<-jL p.n (fun c:Nat=>Value.int .i64 (c:Int)) p.cnt g 1];rfl
    ·refine(wT _ _ _ o_).trans ?_;rw[<-hX,Joins.block_setCell ((wX _ _ _ _ n4.symm).trans ((wX _ _ _ _ n2.symm).trans ((wX _ _ _ _ n6).trans hi.ptrs))),dX];rw[<-jL p.n (fun o:Option Nat=>Value.pointer (o.map fun b=>⟨b,0,none⟩)) pt g (some w.heap.size)];rfl
    ·refine(wT _ _ _ o_).trans ?_;rw[<-hX,wX _ _ _ _ n6.symm,wX _ _ _ _ n5.symm,wX _ _ _ _ n3.symm,Joins.block_setCell hi.free,dX];rw[<-jL ((p.n+63)/64) (fun c:Nat=>Value.int .u64 (c:Int)) wd (g/64) _]
    ·refine(wT _ _ _ o_).trans ?_;rw[<-hX,wX _ _ _ _ n2,wX _ _ _ _ n1,Joins.block_setCell ((wX _ _ _ _ n3).trans hi.self)];rfl
    ·have:=ab X (.cells mj 259);rw[hXs]at this;exact this
    ·show(X.heap.push _)[b]? =_;by_cases hb:b<X.heap.size
     ·rw[Array.getElem?_push_lt hb,<-Array.getElem?_eq_getElem hb];exact far b h1 h2 h3 h4
     ·rw[Array.getElem?_eq_none t_,Array.getElem?_eq_none o_]
    ·by_cases e:f=g
     ·subst e;rw[af]at he;injection he with he;exact .inr he.symm
     ·rw[ah _ _ e]at he;simp only[Pool.takeAt,ah _ _ e]at hp;exact .inl (hS.2.2.2.2 f b hf hp he)
   exact⟨rfl,_,HP.o.turn hm ym ho (fun b hb=>by
    rcases hb with hb|hb
    ·exact wW (HP.o.low b hb) hm.size
    ·simp;omega),hm,ho⟩
end
section
open Go.RowKit
theorem rx:(prog.info? 3).map (fun i=>(i.zero,i.size,i.bytes))=some (some (.int .i64 0),1,8):=k_
theorem u64_info:(prog.info? 43).map (fun i=>(i.zero,i.size,i.bytes))=some (some (.int .u64 0),1,8):=k_
theorem pfr_info:(prog.info? 251).map (fun i=>(i.zero,i.size,i.bytes))=some (some (.pointer none),1,8):=k_
theorem mO (t e:TypeId)(z:Value)(xQ:z.cells= #[z])(ht:prog.underlying t=some (.slice e))(Wm:(prog.info? e).map (fun i=>(i.zero,i.size,i.bytes))=some (some z,1,8))(l:Int)(n:Nat)(hl:l=(n:Int))(hn:n<=1000000)(W:World):
  (Instr.makeSlice t (.int .i64 l) (.int .i64 l)).run prog W= .ok (.slice (some ⟨W.heap.size,0,none⟩) n n) (W.alloc (.cells (rowV n fun _ =>z) e)):=by
 subst hl;obtain⟨i0,zx,xT,hs,hb⟩:=info_parts Wm;have h:=run_make (P:=prog) W t e i0 z ht zx xT .i64 .i64 (n:Int) (n:Int) o_ o_ (by rw[hb];omega) o_;rw[h,hs,xQ];simp[oE]
structure qH (w wx:World)(n a C B F:Nat)(wd:Nat->Nat):Prop where
 self:wx.heap[a]? =some (.cells #[.slice (some ⟨C,0,none⟩) n n,.slice (some ⟨B,0,none⟩) n n,.slice (some ⟨F,0,none⟩) ((n+63)/64) ((n+63)/64),.int .i64 (n:Int)] 135 (0,0))
 counts:wx.heap[C]? =some (.cells (rowV n fun _ => .int .i64 0) 3 (0,0))
 ptrs:wx.heap[B]? =some (.cells (rowV n fun _ => .pointer none) 251 (0,0))
 free:wx.heap[F]? =some (.cells (rowV ((n+63)/64) fun i=> .int .u64 (wd i:Int)) 43 (0,0))
 apart:a≠C/\a≠B/\a≠F/\C≠B/\C≠F/\B≠F
 new:w.heap.size<=a/\w.heap.size<=C/\w.heap.size<=B/\w.heap.size<=F
 below:Below w.heap.size w wx
variable {w:World}{o0 o1 o2 o3:Obj}
theorem hp3 :((((w.alloc o0).alloc o1).alloc o2).alloc o3).drew.heap[w.heap.size+1+1+1]? =some o3:=by
 have e:(((w.alloc o0).alloc o1).alloc o2).heap.size=w.heap.size+1+1+1:=s_;rw[<-e];exact ab _ _
theorem hp2 :((((w.alloc o0).alloc o1).alloc o2).alloc o3).drew.heap[w.heap.size+1+1]? =some o2:=by
 have e:((w.alloc o0).alloc o1).heap.size=w.heap.size+1+1:=s_;rw[<-e];exact(wT _ _ _ s_).trans (ab _ _)
theorem hp1 :((((w.alloc o0).alloc o1).alloc o2).alloc o3).drew.heap[w.heap.size+1]? =some o1:=by
 have e:(w.alloc o0).heap.size=w.heap.size+1:=s_;rw[<-e];exact(wT _ _ _ s_).trans ((wT _ _ _ s_).trans (ab _ _))
theorem hp0 :((((w.alloc o0).alloc o1).alloc o2).alloc o3).drew.heap[w.heap.size]? =some o0:=
 (wT _ _ _ (by simp;try omega)).trans ((wT _ _ _ (by simp;try omega)).trans ((wT _ _ _ (by simp;try omega)).trans (ab w o0)))
theorem hpb :Below w.heap.size w ((((w.alloc o0).alloc o1).alloc o2).alloc o3).drew:=
 (((wR.alloc s_ _).alloc (by simp;try omega) _).alloc (by simp;try omega) _).drew
variable {wr:World}{n a C B F:Nat}{wd:Nat->Nat}
theorem qH.bit {k:Nat}(h:qH w wr n a C B F wd)(hk:k<n)(hw: ∀i,i<(n+63)/64->wd i<18446744073709551616/\ ∀j,j<64->(wd i).testBit j=decide (64*i+j<k)):
  ∃wd',qH w (wr.setCell ⟨F,k/64,none⟩ (.int .u64 (bits .or .u64 (wd (k/64):Int) (IntKind.u64.wrap (2^(k % 64)))))).drew n a C B F wd'/\
   ∀i,i<(n+63)/64->wd' i<18446744073709551616/\ ∀j,j<64->(wd' i).testBit j=decide (64*i+j<k+1):=by
 obtain⟨n1,n2,n3,n4,n5,n6⟩:=h.apart;have TV:k/64<(n+63)/64:=o_;have hm:k % 64<64:=Nat.mod_lt _ d_;obtain⟨hx,hb⟩:=hw _ TV;rw[or_bit hx hm];refine⟨upd wd (k/64) (wd (k/64)|||2^(k % 64)),⟨?_,?_,?_,?_,h.apart,h.new,?_⟩,fun i hi=>?_⟩
 ·exact(wX _ _ _ _ n3).trans h.self
 ·exact(wX _ _ _ _ n5).trans h.counts
 ·exact(wX _ _ _ _ n6).trans h.ptrs
 ·show(wr.setCell _ _).heap[F]? =_;rw[Joins.block_setCell h.free,dX,<-jL ((n+63)/64) (fun c:Nat=>Value.int .u64 (c:Int)) wd (k/64) _]
 ·exact(h.below.setCell h.new.2.2.2 _).drew
 ·by_cases e:i=k/64
  ·subst e;rw[af];refine⟨or_lt hx hm,fun j hj=>?_⟩;rw[uX,hb j hj];by_cases e2:j=k % 64
   ·subst e2;rw[xh (rfl:k % 64=k % 64),Bool.or_true];exact(xh o_).symm
   ·rw[show decide (k % 64=j)=false from xg (fun e'=>e2 e'.symm),Bool.or_false];exact decide_eq_decide.2 o_
  ·rw[ah _ _ e];refine⟨(hw i hi).1,fun j hj=>?_⟩;rw[(hw i hi).2 j hj];exact decide_eq_decide.2 o_
theorem ti (n:Nat):cf (fun _ =>0) n=n:=by
 induction n with
 |zero=>rfl
 |succ n ih=>unfold cf;rw[ih,if_pos rfl]
theorem qH.pool (h:qH w wr n a C B F wd)(h1:1<=n)(h2:n<=1024)(hw: ∀i,i<(n+63)/64->wd i<18446744073709551616/\ ∀j,j<64->(wd i).testBit j=decide (64*i+j<n))(BD:DB w)(h0:0<w.heap.size):
  ∃S,am wr S a ⟨n,fun _ =>0,fun _ _ =>0⟩/\ ∀b,S b->w.heap.size<=b:=by
 have xw: ∀b,(∃o,wr.heap[b]? =some o)->b<wr.heap.size:=fun b ⟨o,ho⟩=>(wO ho).1;refine⟨fun b=>b=a\/b=C\/b=B\/b=F,⟨⟨C,B,F,wd,fun _ =>none,⟨?_,h.counts,h.ptrs,h.free,fun i hi=>⟨(hw i hi).1,fun j hj=>?_⟩,fun f hf hc=>by simp at hc,fun f g b hf hg hc=>by simp at hc,h.apart,fun _ _ =>(by show(0:Nat)<256;decide),⟨h1,h2⟩,fun _ =>(by show(0:Nat)<1000000000000;decide)⟩,.inl rfl,.inr (.inl rfl),.inr (.inr (.inl rfl)),.inr (.inr (.inr rfl)),fun f b hf hc=>by simp at hc⟩,fun b hb=>?_,BD.same (h.below.block 0 h0),fun hb=>?_⟩,fun b hb=>?_⟩
 ·rw[h.self];show _ =some (Obj.cells #[_,_,_,Value.int .i64 ((cf (fun _ =>0) n:Nat):Int)] _ _);rw[ti]
 ·rw[(hw i hi).2 j hj];exact decide_eq_decide.2 ⟨fun e=>⟨e,rfl⟩,fun e=>e.1⟩
 ·rcases hb with rfl|rfl|rfl|rfl
  ·exact xw _ ⟨_,h.self⟩
  ·exact xw _ ⟨_,h.counts⟩
  ·exact xw _ ⟨_,h.ptrs⟩
  ·exact xw _ ⟨_,h.free⟩
 ·obtain⟨m1,m2,m3,m4⟩:=h.new;omega
 ·obtain⟨m1,m2,m3,m4⟩:=h.new;omega
theorem mV (n:Nat)(w:World)(h1:1<=n)(h2:n<=1024)(BD:DB w)(xv:0<w.heap.size):
  Calls prog 38 #[.int .i64 (n:Int)] w fun e w'=> ∃a S,e= .returned (.tuple #[.pointer (some ⟨a,0,none⟩),.int .i64 0])/\am w' S a ⟨n,fun _ =>0,fun _ _ =>0⟩/\Below w.heap.size w w'/\ ∀b,S b->w.heap.size<=b:=by
 have m1:=mO 131 3 (.int .i64 0) rfl underlying131 rx (n:Int) n rfl o_;have m2:=mO 132 251 (.pointer none) rfl underlying132 pfr_info (n:Int) n rfl o_;have m3:=mO 133 43 (.int .u64 0) rfl underlying133 u64_info (((n:Int)+63)/64) ((n+63)/64) o_ o_;go_enter func38,ntmps38;go_upto_region 3 with(fail);go_cut [4] (fun s4 wx=> ∃a C B F,s4= .pointer (some ⟨a,0,none⟩)/\qH w wx n a C B F (fun _ =>0))
 case first=>
  go_region
  all_goals(go_wp2_with fail;go_meet)
  all_goals first
   |exact⟨_,w.heap.size,w.heap.size+1,w.heap.size+1+1,rfl,⟨hp3,hp0,hp1,hp2,o_,o_,hpb⟩⟩
   |exact⟨_,w.heap.size,w.heap.size+1+1,w.heap.size+1,rfl,⟨hp3,hp0,hp2,hp1,o_,o_,hpb⟩⟩
   |exact⟨_,w.heap.size+1,w.heap.size,w.heap.size+1+1,rfl,⟨hp3,hp1,hp0,hp2,o_,o_,hpb⟩⟩
   |exact⟨_,w.heap.size+1,w.heap.size+1+1,w.heap.size,rfl,⟨hp3,hp1,hp2,hp0,o_,o_,hpb⟩⟩
   |exact⟨_,w.heap.size+1+1,w.heap.size,w.heap.size+1,rfl,⟨hp3,hp2,hp0,hp1,o_,o_,hpb⟩⟩
   |exact⟨_,w.heap.size+1+1,w.heap.size+1,w.heap.size,rfl,⟨hp3,hp2,hp1,hp0,o_,o_,hpb⟩⟩
 case rest=>
  obtain⟨a,C,B,F,rfl,hN⟩:=hcut;have c2:wc.cell? ⟨a,2,none⟩=some (.slice (some ⟨F,0,none⟩) ((n+63)/64) ((n+63)/64)):=aa hN.self 2;have HN:=wP hN;clear hN m1 m2 m3;go_wp2;go_loopw [5,24] (fun v5 i wr=> ∃k:Nat,k<=n/\i= .int .i64 k/\ ∃wd,qH w wr n a C B F wd/\ ∀i,i<(n+63)/64->wd i<18446744073709551616/\ ∀j,j<64->(wd i).testBit j=decide (64*i+j<k)) (fun _ i _ =>n-(intOf i).toNat)
  case atStart=>exact⟨0,xm _,rfl,_,HN.o,fun i hi=>⟨d_,fun j hj=>by rw[Nat.zero_testBit];exact(xg o_).symm⟩⟩
  case round=>
   obtain⟨k,hk,rfl,wd,hN,Fh⟩:=hrel;have c2:wr.cell? ⟨a,2,none⟩=some (.slice (some ⟨F,0,none⟩) ((n+63)/64) ((n+63)/64)):=aa hN.self 2;obtain⟨n1,n2,n3,n4,n5,n6⟩:=hN.apart;obtain⟨HN,HW⟩:=zh2 hN Fh;by_cases xw:k<n
   ·have TV:k/64<(n+63)/64:=o_;have cF:=aW hN.free TV;have fF:=ae hN.free (k/64);clear hN Fh;have xB:=HN.o.bit xw HW.o;have Cu:=wP xB;clear xB;go_wp2;go_region;go_wp2;go_roundw
    case rel=>exact⟨k+1,o_,by go_num,Cu.o⟩
    case measure=>simp[intOf];omega
   ·clear hN Fh;go_wp2;go_ret2;obtain rfl:k=n:=o_;obtain⟨S,EE,EU⟩:=HN.o.pool h1 h2 HW.o BD xv;exact⟨a,S,rfl,EE,HN.o.below,EU⟩
end
section
open Go.RowKit Go.Maps Go.WideMaps
open Go.ChangeMaps (setBlock heap_setBlock_same heap_setBlock_other)
open Go.MapKept (Stamped)
structure Slot where
 ino:Int
 page:Int
 frame:Nat
 asked:Int
deriving DecidableEq
def keyV (i p:Int):Value:= .agg #[.int .i64 i,.int .i64 p]
def en (f a:Int):Value:= .agg #[.int .i64 f,.int .i64 a]
def Slot.at (i p:Int)(s:Slot):Bool:=s.ino==i&&s.page==p
def Slot.kv (s:Slot):Value×Value:=(keyV s.ino s.page,en (s.frame:Int) s.asked)
variable {i p:Int}
theorem gm {j q:Int} :keyV i p=keyV j q↔i=j/\p=q:=by
 unfold keyV;simp
variable {s:Slot}
theorem Slot.at_iff :s.at i p=true↔s.ino=i/\s.page=p:=by
 unfold Slot.at
 simp
theorem ut:laidOutB prog=true:=k_
theorem skey_row:(127:TypeId)<prog.types.size:=xi k_
theorem uu:prog.keyTypeAt 2 127=true:=k_
theorem dr:Keyed prog 127:=Keyed.of_law (deep_law_laid ut (m:=2) o_ skey_row uu (by rw[underlying127]))
theorem ur:prog.keyType 127=true:=k_
theorem nW:prog.cellsOf 127=2:=k_
theorem int_size:prog.cellsOf 3=1:=k_
theorem sa: ∃n,prog.types.size=n+2:=⟨prog.types.size-2,(Nat.sub_add_cancel (xi k_:2<=prog.types.size)).symm⟩
theorem mv (hi:(Lit.int .i64 i).wf=true)(hp:(Lit.int .i64 p).wf=true): ∃l,keyOf prog 127 (keyV i p)=some l:=by
 obtain⟨n,hn⟩:=sa;have hf:(keyV i p).formed prog 127=true:=by
  unfold keyV;simp[Value.formed,underlying127,nW]
 unfold keyOf;rw[underlying127];simp only[ur,hf,Bool.and_self,if_true,hn];refine⟨.string (keyBytes [.int .i64 i,.int .i64 p]),?_⟩;rw[show n+2+1=(n+1+1)+1 from rfl];have e3:prog.keyLits (n+1+1) 3 [.int .i64 i]=some [.int .i64 i]:=by
  unfold Program.keyLits;rw[underlying3];simp[hi]
 have e4:prog.keyLits (n+1+1) 3 [.int .i64 p]=some [.int .i64 p]:=by
  unfold Program.keyLits;rw[underlying3];simp[hp]
 have:prog.keyLits (n+1+1+1) 127 (keyV i p).cells.toList=some [.int .i64 i,.int .i64 p]:=by
  unfold Program.keyLits;rw[underlying127];simp[keyV,Value.cells,nW,int_size,e3,e4]
 rw[this];rfl
structure bK (w:World)(m:Nat)(es:Array MapEntry)(yj:Nat)(L:List Slot):Prop where
 block:w.heap[m]? =some (.map es yj)
 stamped:Stamped es yj
 is:es.toList.map (fun e=>(e.key,e.val))=L.map Slot.kv
 wf: ∀s∈L,(Lit.int .i64 s.ino).wf=true/\(Lit.int .i64 s.page).wf=true
def aR (w:World)(m:Nat)(L:List Slot):Prop:= ∃es yj,bK w m es yj L
variable {w:World}{m:Nat}{L:List Slot}
theorem aR.same {w':World}(h:aR w m L)(hb:w'.heap[m]? =w.heap[m]?):aR w' m L:=by
 obtain⟨es,yj,h1⟩:=h;exact⟨es,yj,hb.trans h1.block,h1.stamped,h1.is,h1.wf⟩
theorem aR.lt (h:aR w m L):m<w.heap.size:=by
 obtain⟨es,yj,h1⟩:=h;exact(wO h1.block).1
variable {es:Array MapEntry}{yj:Nat}
theorem bK.keys (h:bK w m es yj L): ∀e∈es.toList,∃s∈L,e.key=keyV s.ino s.page/\e.val=en s.frame s.asked:=fun e he=>by
 have h1:(e.key,e.val)∈L.map Slot.kv:=by
  rw[<-h.is];exact List.mem_map.2 ⟨e,he,rfl⟩
 obtain⟨s,hs,h2⟩:=List.mem_map.1 h1;unfold Slot.kv at h2;injection h2 with h3 h4;exact⟨s,hs,h3.symm,h4.symm⟩
theorem bK.keyOf (h:bK w m es yj L): ∀e∈es.toList,∃l,Go.keyOf prog 127 e.key=some l:=fun e he=>by
 obtain⟨s,hs,h1,_⟩:=h.keys e he;rw[h1];exact mv (h.wf s hs).1 (h.wf s hs).2
theorem bK.at (h:bK w m es yj L)(j:Nat):(es.toList[j]?).map (fun e=>(e.key,e.val))=(L[j]?).map Slot.kv:=by
 have:=congrArg (fun l=>l[j]?) h.is;simpa using this
def Sole (L:List Slot):Prop:=L.Pairwise fun a b=> ¬(a.ino=b.ino/\a.page=b.page)
theorem bK.sole (h:bK w m es yj L):Sole L:=by
 have h1:=h.stamped.2.2;have e1:es.toList.map (·.key)=L.map fun s=>keyV s.ino s.page:=by
  have:=congrArg (List.map Prod.fst) h.is;simpa [Slot.kv,Function.comp_def]using this
 rw[e1,List.Nodup,List.pairwise_map]at h1;exact h1.imp fun xA e=>xA (by rw[gm];exact e)
theorem ee (h:Sole L)(hs:s∈L):L.find? (Slot.at s.ino s.page)=some s:=by
 induction L with
 |nil=>cases hs
 |cons x l ih=>
  have hp:=List.pairwise_cons.1 h;rcases List.mem_cons.1 hs with rfl|h1
  ·rw[List.find?_cons_of_pos (Slot.at_iff.2 ⟨rfl,rfl⟩)]
  ·rw[List.find?_cons_of_neg (fun e=>hp.1 s h1 (Slot.at_iff.1 e)),ih hp.2 h1]
theorem bK.look (h:bK w m es yj L)(hi:(Lit.int .i64 i).wf=true)(hp:(Lit.int .i64 p).wf=true)(c:Bool):
  (Instr.lookup 123 (.map (some m)) (keyV i p) c).run prog w=
   .ok (match L.find? (Slot.at i p)with|some s=>if c then .tuple #[en s.frame s.asked,.bool true]else en s.frame s.asked|none=>if c then .tuple #[en 0 0,.bool false]else en 0 0) w:=by
 obtain⟨l,hl⟩:=mv hi hp;have hz:(zeroValue 129).run prog w= .ok (en 0 0) w:=k_;rcases dr.find w hl es.toList h.keyOf with⟨h1,h2⟩|⟨j,e0,h1,h2,h3⟩
 ·have hf:L.find? (Slot.at i p)=none:=by
   rw[List.find?_eq_none];intro s hs Cx;obtain⟨rfl,rfl⟩:=Slot.at_iff.1 Cx;have:s.kv∈es.toList.map (fun e=>(e.key,e.val)):=by
    rw[h.is];exact List.mem_map.2 ⟨s,hs,rfl⟩
   obtain⟨e,he,h3⟩:=List.mem_map.1 this;injection h3 with h3 h4;exact h2 e he h3
  rw[hf];simp[Instr.lookup,run_underlying underlying123,MapKept.run_getObj_map h.block,dr.check w _ hl,h1,hz,Result.andThen]
 ·have hj:=h.at j;rw[h2]at hj;obtain⟨s,hs,h4⟩: ∃s,L[j]? =some s/\(e0.key,e0.val)=s.kv:=by
   cases hL:L[j]? with
   |none=>rw[hL]at hj;cases hj
   |some s=>rw[hL]at hj;exact⟨s,rfl,by simpa using hj⟩
  have h5:e0.key=keyV s.ino s.page:=congrArg Prod.fst h4;have h6:e0.val=en s.frame s.asked:=congrArg Prod.snd h4;clear h4;rw[h3,gm]at h5;obtain⟨rfl,rfl⟩:=h5;have NS:=ee h.sole (xb hs);generalize L.find? (Slot.at s.ino s.page)=o at NS⊢;subst NS;show _ =Result.ok (if c then .tuple #[en s.frame s.asked,.bool true]else en s.frame s.asked) w;rw[<-h6];simp[Instr.lookup,run_underlying underlying123,MapKept.run_getObj_map h.block,dr.check w _ hl,h1,Result.andThen]
theorem oU (h:Sole L){j:Nat}(hs:L[j]? =some s):L.eraseIdx j=L.filter fun x=> !Slot.at s.ino s.page x:=by
 induction L generalizing j with
 |nil=>cases hs
 |cons x l ih=>
  have hp:=List.pairwise_cons.1 h;cases j with
  |zero=>
   simp only[List.getElem?_cons_zero,Option.some.injEq]at hs;subst hs;rw[List.eraseIdx_cons_zero,List.filter_cons_of_neg (by simp[Slot.at])];exact(List.filter_eq_self.2 fun y hy=>by
    have:=hp.1 y hy;cases hc:Slot.at x.ino x.page y with
    |false=>rfl
    |true=>
     have:=Slot.at_iff.1 hc;exact absurd ⟨this.1.symm,this.2.symm⟩ (hp.1 y hy)).symm
  |succ j=>
   simp only[List.getElem?_cons_succ]at hs;have hm:=xb hs;rw[List.eraseIdx_cons_succ,ih hp.2 hs,List.filter_cons_of_pos];cases hc:Slot.at s.ino s.page x with
   |false=>rfl
   |true=>exact absurd (Slot.at_iff.1 hc) (hp.1 s hm)
theorem bK.drop (h:bK w m es yj L)(hs:s∈L)(ty:TypeId):
  ∃es',(Builtin.delete_ #[123,127] ty #[.map (some m),keyV s.ino s.page]).run prog w= .ok (.tuple #[]) (setBlock w m (.map es' yj))/\
   bK (setBlock w m (.map es' yj)) m es' yj (L.filter fun x=> !Slot.at s.ino s.page x):=by
 obtain⟨l,hl⟩:=mv (h.wf s hs).1 (h.wf s hs).2;rcases dr.find w hl es.toList h.keyOf with⟨h1,h2⟩|⟨j,e0,h1,h2,h3⟩
 ·exfalso;have:s.kv∈es.toList.map (fun e=>(e.key,e.val)):=by
   rw[h.is];exact List.mem_map.2 ⟨s,hs,rfl⟩
  obtain⟨e,he,h3⟩:=List.mem_map.1 this;injection h3 with h3 h4;exact h2 e he h3
 ·have hj:=h.at j;rw[h2]at hj;obtain⟨s',Gj,h4⟩: ∃s',L[j]? =some s'/\(e0.key,e0.val)=s'.kv:=by
   cases hL:L[j]? with
   |none=>rw[hL]at hj;cases hj
   |some s'=>rw[hL]at hj;exact⟨s',rfl,by simpa using hj⟩
  have h5:e0.key=keyV s'.ino s'.page:=congrArg Prod.fst h4;rw[h3,gm]at h5;have Cj:j<es.toList.length:=(List.getElem?_eq_some_iff.1 h2).1;have hjs:j<es.size:=(by simpa using Cj);have FI:(es.eraseIdxIfInBounds j).toList=es.toList.eraseIdx j:=by
   unfold Array.eraseIdxIfInBounds;rw[dif_pos hjs];simp
  refine⟨es.eraseIdxIfInBounds j,?_,heap_setBlock_same h.block _,MapKept.stamped_erase h.stamped j,?_,fun x hx=>h.wf x (List.mem_filter.1 hx).1⟩
  ·simp[Builtin.delete_,run_underlying underlying123,MapKept.run_getObj_map h.block,dr.check w _ hl,h1,MapKept.run_setObj_map _ h.block,Result.andThen,setBlock]
  ·have e1:=oU h.sole Gj;rw[<-h5.1,<-h5.2]at e1;rw[FI,<-e1,Go.ChangeMaps.map_eraseIdx,h.is,Go.ChangeMaps.map_eraseIdx]
end
section
open Go.RowKit Go.Maps Go.WideMaps
open Go.ChangeMaps (setBlock heap_setBlock_same heap_setBlock_other)
open Go.MapKept (Stamped)
variable {w:World}{b:Nat}{o:Obj}
theorem sb_same (h:b<w.heap.size):(setBlock w b o).heap[b]? =some o:=by simp[setBlock,h]
variable {j:Nat}
theorem qT (h:j≠b):(setBlock w b o).heap[j]? =w.heap[j]? :=by simp[setBlock,Array.getElem?_setIfInBounds,Ne.symm h]
theorem fz :Mod (fun j=>j=b) w (setBlock w b o):=⟨rfl,rfl,rfl,by simp[setBlock],fun j _ hj=>qT hj⟩
theorem eP :(setBlock w b o).heap.size=w.heap.size:=by simp[setBlock]
def ei (L:List Slot)(s:Slot):List Slot:=if L.any (Slot.at s.ino s.page)=true then L.map fun x=>if Slot.at s.ino s.page x=true then s else x else L++[s]
variable {L:List Slot}{s:Slot}
theorem set_map (h:Sole L){s':Slot}(hs:L[j]? =some s')(he:s'.ino=s.ino/\s'.page=s.page):L.set j s=L.map fun x=>if Slot.at s.ino s.page x=true then s else x:=by
 induction L generalizing j with
 |nil=>cases hs
 |cons x l ih=>
  have hp:=List.pairwise_cons.1 h;cases j with
  |zero=>
   simp only[List.getElem?_cons_zero,Option.some.injEq]at hs;subst hs;rw[List.set_cons_zero,List.map_cons,if_pos (Slot.at_iff.2 he)];congr 1;refine(List.map_congr_left fun y hy=>?_).trans (List.map_id l) |>.symm;rw[if_neg]
   ·rfl
   ·intro hc;have:=Slot.at_iff.1 hc;exact hp.1 y hy ⟨he.1.trans this.1.symm,he.2.trans this.2.symm⟩
  |succ j=>
   simp only[List.getElem?_cons_succ]at hs;have hm:=xb hs;rw[List.set_cons_succ,List.map_cons,ih hp.2 hs,if_neg];intro hc;have:=Slot.at_iff.1 hc;exact hp.1 s' hm ⟨this.1.trans he.1.symm,this.2.trans he.2.symm⟩
variable {m:Nat}
theorem bK.put {es:Array MapEntry}{yj:Nat}(h:bK w m es yj L)(hi:(Lit.int .i64 s.ino).wf=true)(hp:(Lit.int .i64 s.page).wf=true):
  ∃es' Ga,(Instr.mapUpdate 123 (.map (some m)) (keyV s.ino s.page) (en s.frame s.asked)).run prog w= .ok () (setBlock w m (.map es' Ga))/\bK (setBlock w m (.map es' Ga)) m es' Ga (ei L s):=by
 obtain⟨l,hl⟩:=mv hi hp;rcases dr.find w hl es.toList h.keyOf with⟨h1,h2⟩|⟨j,e0,h1,h2,h3⟩
 ·have xL:L.any (Slot.at s.ino s.page)=false:=by
   rw[List.any_eq_false];intro x hx Ak;have EJ:=Slot.at_iff.1 Ak;have:x.kv∈es.toList.map (fun e=>(e.key,e.val)):=by
    rw[h.is];exact List.mem_map.2 ⟨x,hx,rfl⟩
   obtain⟨e,he,h3⟩:=List.mem_map.1 this;refine h2 e he ?_;rw[show e.key=keyV x.ino x.page from congrArg Prod.fst h3,EJ.1,EJ.2]
  refine⟨es.push ⟨keyV s.ino s.page,en s.frame s.asked,yj⟩,yj+1,?_,heap_setBlock_same h.block _,MapKept.stamped_push h.stamped h2,?_,fun x hx=>?_⟩
  ·simp[Instr.mapUpdate,run_underlying underlying123,MapKept.run_getObj_map h.block,dr.check w false hl,h1,MapKept.run_setObj_map _ h.block,Result.andThen,setBlock]
  ·unfold ei;rw[if_neg (by rw[xL];decide),Array.toList_push,List.map_append,List.map_append,h.is];rfl
  ·unfold ei at hx;rw[if_neg (by rw[xL];decide)]at hx;rcases List.mem_append.1 hx with h4|h4
   ·exact h.wf x h4
   ·simp only[List.mem_singleton]at h4;subst h4;exact⟨hi,hp⟩
 ·have hj:=h.at j;rw[h2]at hj;obtain⟨s',Gj,h4⟩: ∃s',L[j]? =some s'/\(e0.key,e0.val)=s'.kv:=by
   cases hL:L[j]? with
   |none=>rw[hL]at hj;cases hj
   |some s'=>rw[hL]at hj;exact⟨s',rfl,by simpa using hj⟩
  have h5:e0.key=keyV s'.ino s'.page:=congrArg Prod.fst h4;rw[h3,gm]at h5;have Lq:L.any (Slot.at s.ino s.page)=true:=List.any_eq_true.2 ⟨s',xb Gj,Slot.at_iff.2 ⟨h5.1.symm,h5.2.symm⟩⟩;have hej:es[j]? =some e0:=(by simpa using h2);have We:(es.modify j (fun e'=> { e' with key:=keyV s.ino s.page,val:=en s.frame s.asked})).toList=es.toList.set j { e0 with key:=keyV s.ino s.page,val:=en s.frame s.asked} :=(by rw[Array.toList_modify,Go.ChangeMaps.modify_eq_set _ _ _ _ h2]);refine⟨es.modify j (fun e'=> { e' with key:=keyV s.ino s.page,val:=en s.frame s.asked}),yj,?_,heap_setBlock_same h.block _,MapKept.stamped_modify h.stamped _ _ (fun _ _ =>rfl) (fun e' _ he'=>by rw[hej]at he';cases he';exact h3.symm),?_,fun x hx=>?_⟩
  ·simp[Instr.mapUpdate,run_underlying underlying123,MapKept.run_getObj_map h.block,dr.check w false hl,h1,hej,h3,dr.stays w hl,MapKept.run_setObj_map _ h.block,Result.andThen,setBlock]
  ·unfold ei;rw[if_pos Lq,We,List.map_set,h.is,<-set_map h.sole Gj ⟨h5.1.symm,h5.2.symm⟩,List.map_set];rfl
  ·unfold ei at hx;rw[if_pos Lq]at hx;obtain⟨y,hy,rfl⟩:=List.mem_map.1 hx;split
   ·exact⟨hi,hp⟩
   ·exact h.wf y hy
structure aS (w:World)(m r:Nat)(L left:List Slot):Prop where
 is: ∃es yj since seen c0,bK w m es yj L/\w.heap[r]? =some (.mapIter (some m) since seen c0)/\(∀x∈es.toList,x.born<since)/\since<=c0/\since<=yj/\(leftOf es seen).toList.map (fun e=>(e.key,e.val))=left.map Slot.kv
variable {r:Nat}{left:List Slot}
theorem aS.same {w':World}(h:aS w m r L left)(hm:w'.heap[m]? =w.heap[m]?)(hr:w'.heap[r]? =w.heap[r]?):aS w' m r L left:=by
 obtain⟨es,yj,since,seen,c0,h1,h2,h3⟩:=h.is;exact⟨es,yj,since,seen,c0,⟨hm.trans h1.block,h1.stamped,h1.is,h1.wf⟩,hr.trans h2,h3⟩
theorem aS.lt (h:aS w m r L left):r<w.heap.size/\m<w.heap.size:=by
 obtain⟨es,yj,since,seen,c0,h1,h2,h3⟩:=h.is;exact⟨(wO h2).1,(wO h1.block).1⟩
theorem aS.slots (h:aS w m r L left):aR w m L:=by
 obtain⟨es,yj,since,seen,c0,h1,h2,h3⟩:=h.is;exact⟨es,yj,h1⟩
def leftN (w:World)(m r:Nat):Nat:=
 match w.heap[m]?,w.heap[r]? with
 |some (.map es _),some (.mapIter _ _ seen _)=>(leftOf es seen).size
 |_,_ =>0
theorem aS.leftN (h:aS w m r L left):leftN w m r=left.length:=by
 obtain⟨es,yj,since,seen,c0,h1,h2,h3,h4,Un,h5⟩:=h.is;have:=congrArg List.length h5;simp only[Go.Proofs.YtoochjhipmpehaaGreatDoor.leftN,h1.block,h2];simpa using this
theorem aS.sub (h:aS w m r L left): ∀s∈left,s.kv∈L.map Slot.kv:=fun s hs=>by
 obtain⟨es,yj,since,seen,c0,h1,h2,h3,h4,Un,h5⟩:=h.is;have:s.kv∈(leftOf es seen).toList.map (fun e=>(e.key,e.val)):=by
  rw[h5];exact List.mem_map.2 ⟨s,hs,rfl⟩
 obtain⟨e,he,h6⟩:=List.mem_map.1 this;rw[<-h1.is];exact List.mem_map.2 ⟨e,(mem_left he).1,h6⟩
theorem aR.range (h:aR w m L): ∃w',(Instr.range 123 (.map (some m))).run prog w= .ok (.pointer (some ⟨w.heap.size,0,none⟩)) w'/\aS w' m w.heap.size L L/\Below w.heap.size w w'/\w'.heap.size=w.heap.size+1:=by
 have xw:=h.lt;obtain⟨es,yj,h1⟩:=h;refine⟨_,run_range_map w _ _ _ m es yj underlying123 h1.block,⟨es,yj,yj, #[],yj,⟨((MapKept.heap_alloc w _).2 m xw).trans h1.block,h1.stamped,h1.is,h1.wf⟩,(MapKept.heap_alloc w _).1,h1.stamped.1,wS _,wS _,?_⟩,wR,s_⟩;rw[<-h1.is];unfold leftOf;rw[Array.toList_filter];rw[List.filter_eq_self.2 (fun _ _ =>s_)]
theorem aS.next (h:aS w m r L left)(ty:TypeId):
  (left=[]/\(Instr.next (.pointer (some ⟨r,0,none⟩)) false ty).run prog w= .ok (.tuple #[.bool false]) w)\/
  ∃s w',s∈left/\(Instr.next (.pointer (some ⟨r,0,none⟩)) false ty).run prog w= .ok (.tuple #[.bool true,keyV s.ino s.page,en s.frame s.asked]) w'/\aS w' m r L (left.filter fun x=> !Slot.at s.ino s.page x)/\Mod (fun j=>j=r) w w'/\w'.heap.size=w.heap.size/\
   (Instr.entry (.pointer (some ⟨r,0,none⟩))).run prog w'= .ok (.tuple #[keyV s.ino s.page,en s.frame s.asked]) w':=by
 obtain⟨es,yj,since,seen,c0,h1,h2,h3,h4,Un,h5⟩:=h.is;have xA:m≠r:=fun e=>by
  have:=h1.block;rw[e,h2]at this;cases this
 rcases run_next_at w ty r m since c0 seen es yj h2 h1.block h3 h4 with⟨h6,h7⟩|⟨e,he,w1,Ad,h7⟩
 ·left;refine⟨?_,h7⟩;have:=congrArg List.length h5;simp only[List.length_map,Array.length_toList,h6]at this;exact List.eq_nil_of_length_eq_zero this.symm
 ·right;have Ks:(e.key,e.val)∈left.map Slot.kv:=by
   rw[<-h5];exact List.mem_map.2 ⟨e,he,rfl⟩
  obtain⟨s,hs,h8⟩:=List.mem_map.1 Ks;have hk:e.key=keyV s.ino s.page:=(congrArg Prod.fst h8).symm;have hv:e.val=en s.frame s.asked:=(congrArg Prod.snd h8).symm;have yb:=(MapKept.stamped_iff es yj).1 h1.stamped;have ym:=(mem_left he).1;have xu:w1.heap=w.heap:=by rcases Ad with rfl|rfl<;>rfl
  have zn:Mod (fun j=>j=r) w w1:=by rcases Ad with rfl|rfl<;>exact⟨rfl,rfl,rfl,wS _,fun _ _ _ =>rfl⟩
  have EM:w1.heap[r]? =some (.mapIter (some m) since seen c0):=(by rw[xu];exact h2);have hnew:(setBlock w1 r (.mapIter (some m) since (seen.push e.born) yj)).heap[r]? =some (.mapIter (some m) since (seen.push e.born) yj):=sb_same (wO EM).1;have hmap:(setBlock w1 r (.mapIter (some m) since (seen.push e.born) yj)).heap[m]? =w.heap[m]? :=by
   rw[<-xu];exact qT xA
  rw[hk,hv]at h7;refine⟨s,_,hs,h7,⟨es,yj,since,seen.push e.born,yj,⟨hmap.trans h1.block,h1.stamped,h1.is,h1.wf⟩,hnew,h3,Un,Un,?_⟩,zn.trans (Out.refl _ _) fz,by rw[eP,xu],?_⟩
  ·classical
   have e1:(leftOf es (seen.push e.born)).toList=(leftOf es seen).toList.filter fun x=>decide (x.key≠keyV s.ino s.page):=by
    unfold leftOf;rw[Array.toList_filter,Array.toList_filter,List.filter_filter];refine List.filter_congr fun x hx=>?_;rw[contains_push];by_cases zI:x.born=e.born
    ·have hxe:=born_inj yb.2.1 hx ym zI;subst hxe;simp[hk]
    ·have: ¬x.key=keyV s.ino s.page:=fun e1=>zI (by rw[entry_eq_of_key yb.2.2 hx ym (e1.trans hk.symm)]);simp[zI,this]
   rw[e1];have e2:((leftOf es seen).toList.filter fun x=>decide (x.key≠keyV s.ino s.page)).map (fun e=>(e.key,e.val))=(((leftOf es seen).toList.map (fun e=>(e.key,e.val))).filter fun v=>decide (v.1≠keyV s.ino s.page)):=by
    rw[List.filter_map];rfl
   rw[e2,h5,List.filter_map];congr 1;refine List.filter_congr fun x hx=>?_;show decide (keyV x.ino x.page≠keyV s.ino s.page)= !Slot.at s.ino s.page x;cases hc:Slot.at s.ino s.page x with
   |true=>
    obtain⟨a1,a2⟩:=Slot.at_iff.1 hc;rw[a1,a2];simp
   |false=>
    refine xh fun e3=>?_;rw[gm]at e3;rw[Slot.at_iff.2 e3]at hc;cases hc
  ·rw[<-hk,<-hv];exact run_entry_at _ r m since seen es yj e hnew (hmap.trans h1.block) ym yb.2.1
end
section
open Go.RowKit
theorem index_8 (g:Nat)(w:World)(h0:w.cell? ⟨g,0,none⟩=some (.int .i64 1))(h1:w.cell? ⟨g,1,none⟩=some (.int .i64 2))(h2:w.cell? ⟨g,2,none⟩=some (.int .i64 4))(h3:w.cell? ⟨g,3,none⟩=some (.int .i64 8)):
  Calls prog 202 #[.slice (some ⟨g,0,none⟩) 4 4,.int .i64 8] w fun e w'=>e= .returned (.int .i64 3)/\w=w':=by
 go_enter func202,ntmps202;go_wp2;go_loop [8] (fun i=> ∃k:Nat,k<=3/\i= .int .i64 k) (fun i=>4-(intOf i).toNat)
 case atStart=>exact⟨0,xm _,rfl⟩
 case round=>
  obtain⟨k,hk,rfl⟩:=hrel;rcases(show k=0\/k=1\/k=2\/k=3 by omega)with rfl|rfl|rfl|rfl
  ·go_wp2;go_round
   case rel=>exact⟨1,o_,by go_num⟩
   case measure=>simp[intOf]
  ·go_wp2;go_round
   case rel=>exact⟨2,o_,by go_num⟩
   case measure=>simp[intOf]
  ·go_wp2;go_round
   case rel=>exact⟨3,o_,by go_num⟩
   case measure=>simp[intOf]
  ·go_wp2;go_ret;exact⟨rfl,rfl⟩
theorem tD (g:Nat)(w:World)(h0:w.cell? ⟨g,0,none⟩=some (.int .i64 1))(h1:w.cell? ⟨g,1,none⟩=some (.int .i64 2))(h2:w.cell? ⟨g,2,none⟩=some (.int .i64 4))(h3:w.cell? ⟨g,3,none⟩=some (.int .i64 8)):
  Calls prog 192 #[.slice (some ⟨g,0,none⟩) 4 4,.int .i64 8] w fun e w'=>e= .returned (.bool true)/\w=w':=by
 go_enter func192,ntmps192;go_wp2_with (go_at_call 202;refine(index_8 g _ h0 h1 h2 h3).mono ?_;rintro e w1⟨rfl,rfl⟩);go_ret;exact⟨rfl,rfl⟩
theorem sized_8 (w:World):Calls prog 171 #[.int .i64 8] w fun e w'=>e= .returned (.bool true)/\Below w.heap.size w w':=by
 go_enter func171,ntmps171;go_wp2_with (go_at_call 192;refine(tD w.heap.size _ s_ s_ s_ s_).mono ?_;rintro e w1⟨rfl,rfl⟩);go_ret;exact⟨rfl,wR⟩
theorem not_8:bits .xor .u64 (if IntKind.u64.signed=true then-1 else IntKind.u64.max) 8=18446744073709551607:=by decide+kernel
theorem no_8 (a:Nat)(ha:a<=1000000): ¬bits .xor .u64 (if IntKind.u64.signed=true then-1 else IntKind.u64.max) 8<(a:Int):=by
 rw[not_8];omega
theorem add_8 (a:Nat)(w:World)(ha:a<=1000000):Calls prog 193 #[.int .u64 (a:Int),.int .u64 8] w fun e w'=>e= .returned (.tuple #[.int .u64 ((a:Int)+8),.bool true])/\w=w':=by
 have xL:=no_8 a ha;go_enter func193,ntmps193;go_wp2
 all_goals
  go_ret2;exact⟨rfl,rfl⟩
theorem inside_8 (a n:Nat)(w:World)(ha:a+8<=n)(hn:n<=1000000):Calls prog 172 #[.int .u64 (a:Int),.int .u64 8,.int .u64 (n:Int)] w fun e w'=>e= .returned (.bool true)/\w=w':=by
 have hle:decide ((a:Int)+8<=(n:Int))=true:=xh o_;go_enter func172,ntmps172;go_wp2_with (go_at_call 193;refine(add_8 a _ o_).mono ?_;rintro e w1⟨rfl,rfl⟩);go_ret;exact⟨rfl,rfl⟩
theorem vQ (a n c:Nat)(A:Option Addr)(w:World)(ha:a+8<=n)(hn:n<=1000000):Calls prog 158 #[.slice A n c,.int .u64 (a:Int),.int .i64 8] w fun e w'=>e= .returned (.int .i64 0)/\Below w.heap.size w w':=by
 go_enter func158,ntmps158;go_wp2_with (first
  |(go_at_call 171;refine(sized_8 _).mono ?_;rintro e w1⟨rfl,xu⟩)
  |(go_at_call 172;refine(inside_8 a n _ ha hn).mono ?_;rintro e w1⟨rfl,rfl⟩))
 go_ret;exact⟨rfl,xu⟩
theorem get_8 (a n c b:Nat)(d:Nat->Nat)(w:World)(ha:a+8<=n)(hn:n<=1000000)(hb:aT w b n d)(hd: ∀i,d i<256)(AO:b<w.heap.size):
  Calls prog 128 #[.slice (some ⟨b,0,none⟩) n c,.int .u64 (a:Int),.int .i64 8] w fun e w'=>e= .returned (.tuple #[.int .u64 ((dJ d a 8:Nat):Int),.int .i64 0])/\Below w.heap.size w w':=by
 go_enter func128,ntmps128;go_wp2_with (go_at_call 158;refine(vQ a n c _ _ ha hn).mono ?_;rintro e w1⟨rfl,xu⟩);have hB:aT w1 b n d:=(xu.block b AO).trans hb;have HB:=wP hB;clear hB hb;go_loop [6,18] (fun x i=> ∃k:Nat,k<=8/\i= .int .i64 k/\x= .int .u64 ((dJ d a k:Nat):Int)) (fun _ i=>8-(intOf i).toNat)
 case atStart=>exact⟨0,xm _,rfl,rfl⟩
 case round=>
  obtain⟨k,hk,rfl,rfl⟩:=hrel;by_cases xw:k<8
  ·have hc:=aW HB.o (i:=a+k) o_;have WM:=hd (a+k);go_wp2;go_round
   case rel=>exact⟨k+1,o_,by go_num,by rw[or_shift (leVal_lt hd a k) WM xw];rfl⟩
   case measure=>simp[intOf];omega
  ·obtain rfl:k=8:=o_;go_wp2;go_ret2;exact⟨rfl,xu⟩
end
section
open Go.RowKit
def OwnB (w:World)(base:Nat)(A:Option Addr)(cap n:Nat)(d:Nat->Nat):Prop:=w.ownsRow base 5 1 (.slice A n cap) n ((List.range n).map fun j=>Value.int .u8 (d j:Int))
variable {w:World}{base g cap n j:Nat}{d:Nat->Nat}
theorem OwnB.cell (h:OwnB w base (some ⟨g,0,none⟩) cap n d)(hj:j<n):w.cell? ⟨g,j,none⟩=some (.int .u8 (d j:Int)):=by
 rw[World.ownsRow.cellAt h j o_,xj,List.getElem?_range hj];rfl
theorem OwnB.v (h:OwnB w base (some ⟨g,0,none⟩) cap n d):ap w (some ⟨g,0,none⟩) n d:=fun _ =>⟨_,rfl,fun j hj=>by
 rw[Addr.add_mid,Nat.zero_add];exact h.cell hj⟩
theorem OwnB.put (h:OwnB w base (some ⟨g,0,none⟩) cap n d){x:Nat}(hj:j<n):OwnB (w.setCell ⟨g,j,none⟩ (.int .u8 (x:Int))) base (some ⟨g,0,none⟩) cap n (upd d j x):=by
 have h1:=World.ownsRow.stored h j (.int .u8 (x:Int));unfold OwnB;have e:((List.range n).map fun i=>Value.int .u8 ((upd d j x i:Nat):Int))=((List.range n).map fun i=>Value.int .u8 (d i:Int)).set j (.int .u8 (x:Int)):=by
  apply List.ext_getElem?;intro i;rw[List.getElem?_set];by_cases hi:i<n
  ·rw[xj,List.getElem?_range hi];by_cases e:j=i
   ·subst e;rw[if_pos rfl,if_pos (by simpa using hi)];simp[af]
   ·rw[if_neg e,xj,List.getElem?_range hi];simp[ah _ _ (fun e'=>e e'.symm:i≠j)]
  ·rw[List.getElem?_eq_none t_,List.getElem?_eq_none t_];split<;>first|rfl|(rw[if_neg t_])
 rw[e];exact h1.1
theorem OwnB.none_made (w:World):OwnB (w.alloc (.cells #[] 5)) w.heap.size (some ⟨w.heap.size,0,none⟩) 0 0 (fun _ =>0):=
 ⟨rfl,.inr ⟨w.heap.size,0, #[],rfl,wS _,ab w _,wS _,d_,rfl,rfl⟩⟩
theorem vj (d e:Nat->Nat)(k i:Nat):upd (laid d e 0 k) k (e k) i=laid d e 0 (k+1) i:=by
 unfold laid upd;simp only;by_cases h:i=k
 ·subst h;rw[if_pos rfl,if_pos o_,Nat.sub_zero]
 ·rw[if_neg h];by_cases h2:i<k
  ·rw[if_pos (show 0<=i/\i<0+k by omega),if_pos (show 0<=i/\i<0+(k+1) by omega)]
  ·rw[if_neg (show¬(0<=i/\i<0+k) by omega),if_neg (show¬(0<=i/\i<0+(k+1)) by omega)]
theorem ph {ops:Array Oper}{rest:List Oper}{o:Oper}{a:Act}{Q:Exit->Act->World->Prop}(zH:o.guard=none)(s x:Operand)
  (ho:o.op= .call { callee:= .builtin .append,args:= #[s,x],argTypes:= #[39,39]})
  (base:Nat)(A:Option Addr)(cap k:Nat)(e:Nat->Nat)(hs:a.eval s= .slice A k cap)(xC:OwnB w base A cap k e)
  (ad:Addr)(n c:Nat)(d:Nat->Nat)(hx:a.eval x= .slice (some ad) n c)(hA:ap w (some ad) n d)(hn:0<n)(xD:k+n<=10000000)(xH:base<=w.heap.size)
  (h: ∀g xq w',OwnB w' base (some ⟨g,0,none⟩) xq (k+n) (fun i=>if i<k then e i else d (i-k))->w.grownBy w' (A.map (·.block))->(A.map (·.block)=some g\/g=w.heap.size)->g<w'.heap.size->wpList prog ops Q rest (a.put o.dst (.slice (some ⟨g,0,none⟩) (k+n) xq)) w'):
  wpList prog ops Q (o::rest) a w:=by
 obtain⟨i0,zx,xT,xQ,xX⟩:=info_parts ki;obtain⟨ad',e',Aq⟩:=hA hn;injection e' with e';subst e';refine wpList_append_lies w zH s x 39 ho base 5 i0 (.int .u8 0) 1 1 underlying39 zx xT xQ xX rfl d_ _ k _ hs xC ad n c ((List.range n).map fun j=>Value.int .u8 (d j:Int)) hx s_ (fun j u hu=>?_) (fun u hu=>?_) hn (by unfold maxLen;omega) o_ xH w.heap.size rfl ?_
 ·have hj:j<n:=by
   have:=(List.getElem?_eq_some_iff.1 hu).1;simpa using this
  rw[xj,List.getElem?_range hj]at hu;simp only[Option.map_some,Option.some.injEq]at hu;subst hu;exact Aq j hj
 ·obtain⟨i,_,rfl⟩:=List.mem_map.1 hu;rfl
 ·intro g xq w' zg hg yr xw;refine h g xq w' ?_ ?_ ?_ xw
  ·unfold OwnB;have e2:((List.range (k+n)).map fun j=>Value.int .u8 ((if j<k then e j else d (j-k):Nat):Int))=((List.range k).map fun j=>Value.int .u8 (e j:Int))++((List.range n).map fun j=>Value.int .u8 (d j:Int)):=by
    have e3:((List.range k).map fun j=>Value.int .u8 ((if j<k then e j else d (j-k):Nat):Int))=(List.range k).map fun j=>Value.int .u8 (e j:Int):=List.map_congr_left fun j hj=>by rw[if_pos (List.mem_range.1 hj)]
    have e4:(((List.range n).map (k+ ·)).map fun j=>Value.int .u8 ((if j<k then e j else d (j-k):Nat):Int))=(List.range n).map fun j=>Value.int .u8 (d j:Int):=by
     rw[List.map_map];exact List.map_congr_left fun j hj=>by
      simp only[Function.comp];rw[if_neg o_,Nat.add_sub_cancel_left]
    rw[List.range_add,List.map_append,e3,e4]
   rw[e2];exact zg
  ·cases A<;>simpa [Value.ownBlock]using hg
  ·cases A<;>simpa [Value.ownBlock]using yr
variable {A:Option Addr}
theorem OwnB.congr {e:Nat->Nat}(h:OwnB w base A cap n d)(hde: ∀i,i<n->d i=e i):OwnB w base A cap n e:=by
 unfold OwnB;rw[<-List.map_congr_left (f:=fun j=>Value.int .u8 (d j:Int)) (fun j hj=>by rw[hde j (List.mem_range.1 hj)])];exact h
theorem OwnB.lower {Bk:Nat}(h:OwnB w base A cap n d)(hb:Bk<=base):OwnB w Bk A cap n d:=by
 rcases h with⟨h1,h2|⟨g,xq,cur,e1,e2,e3⟩⟩
 ·exact⟨h1,.inl h2⟩
 ·exact⟨h1,.inr ⟨g,xq,cur,e1,o_,e3⟩⟩
theorem OwnB.form (h:OwnB w base (some ⟨g,0,none⟩) cap n d):base<=g/\g<w.heap.size:=World.ownsRow.lt h g rfl
theorem li (n c:Nat)(ad:Addr)(d:Nat->Nat)(w:World)(hn:0<n)(DW:n<=1000000)(hA:ap w (some ad) n d)(Au:ad.block<w.heap.size):
  Calls prog 135 #[.slice (some ad) n c] w fun e w'=> ∃g cap,e= .returned (.slice (some ⟨g,0,none⟩) n cap)/\OwnB w' w.heap.size (some ⟨g,0,none⟩) cap n d/\Below w.heap.size w w':=by
 have SU:=hA.below (w':=w.alloc (.cells #[] 5)) (B:=w.heap.size) wR (fun x hx=>by injection hx with hx;subst hx;exact Au);have Zj:=wP SU;clear SU hA;have Du:=fun(W:World)=>Lib.run_eql_slice_nil (P:=prog) (w:=W) 39 5 (some ad) n c 0 0 underlying39;go_enter func135,ntmps135;go_upto_region 3 with(fail);go_wp2_with (at_builtin;refine ph rfl (.tmp 5) (.tmp 6) rfl w.heap.size (some ⟨w.heap.size,0,none⟩) 0 0 (fun _ =>0) rfl (OwnB.none_made w) ad n c d rfl Zj.o hn o_ s_ ?_;intro g cap w2 ho hg yr xw);have hb:Below w.heap.size w w2:=wR.grown hg s_ (fun k hk=>by simp at hk;omega);have HO:=wP ho;clear ho hg yr
 go_ret;exact⟨g,cap,rfl,(show OwnB w2 w.heap.size (some ⟨g,0,none⟩) cap n _ from by have h9:=HO.o;rw[Nat.zero_add]at h9;exact h9).congr (fun i _ =>s_),hb⟩
theorem set_8 (n c b x:Nat)(w:World)(OA:8<=n)(hn:n<=1000000)(d:Nat->Nat)(hb:aT w b n d)(AO:b<w.heap.size)(hx:x<18446744073709551616):
  Calls prog 154 #[.slice (some ⟨b,0,none⟩) n c,.int .u64 0,.int .i64 8,.int .u64 (x:Int)] w fun e w'=> ∃g cap,e= .returned (.tuple #[.slice (some ⟨g,0,none⟩) n cap,.int .i64 0])/\OwnB w' w.heap.size (some ⟨g,0,none⟩) cap n (laid d (fun i=>x/256^i % 256) 0 8)/\Below w.heap.size w w':=by
 go_enter func154,ntmps154;go_wp2_with fail;refine(vQ 0 n c _ _ o_ hn).mono ?_;rintro e w1⟨rfl,xu⟩;have Cq:aT w1 b n d:=(xu.block b AO).trans hb;have xQ:=xu.size;go_wp2_with fail;refine(li n c ⟨b,0,none⟩ d w1 o_ hn Cq.v (wW AO xQ)).mono ?_;rintro e w2⟨g,cap,rfl,ho,xx⟩;have xX:=xx.size;have HO:=wP ho;clear ho Cq hb;go_wp2_with fail;go_loopw [23] (fun i wr=> ∃k:Nat,k<=8/\i= .int .i64 k/\OwnB wr w1.heap.size (some ⟨g,0,none⟩) cap n (laid d (fun i=>x/256^i % 256) 0 k)/\Below w.heap.size w wr) (fun i _ =>8-(intOf i).toNat)
 case atStart=>exact⟨0,xm _,rfl,HO.o.congr (fun i _ =>by unfold laid;rw[if_neg o_]),xu.trans (xx.mono xQ)⟩
 case round=>
  obtain⟨k,hk,rfl,ho,hB⟩:=hrel;have hg:=ho.form;by_cases xw:k<8
  ·have hc:=ho.cell (j:=k) o_;have hf:=World.ownsRow.frozenAt ho k;have Fa:=wP ho;clear ho;have hv:((x:Int)/2^(8*k) % 256)=((x/256^k % 256:Nat):Int):=by
    have e:(2:Nat)^(8*k)=256^k:=(by rw[Nat.pow_mul]);rw[<-e];simp
   have HV:=wP hv;clear hv;go_wp2;rw[HV.o];go_roundw
   case rel=>exact⟨k+1,o_,by go_num,(Fa.o.put (j:=k) o_).congr (fun i _ =>vj d (fun i=>x/256^i % 256) k i),hB.setCell (by show w.heap.size<=g;omega) _⟩
   case measure=>simp[intOf];omega
  ·obtain rfl:k=8:=o_;have Fa:=wP (ho.lower xQ);clear ho;go_wp2;go_ret2;exact⟨g,cap,rfl,Fa.o,hB⟩
end
section
open Go.RowKit
def OwnN (w:World)(base:Nat)(A:Option Addr)(cap:Nat)(l:List Nat):Prop:=w.ownsRow base 3 1 (.slice A l.length cap) l.length (l.map fun x:Nat=>Value.int .i64 (x:Int))
theorem OwnN.nil (w:World)(base:Nat):OwnN w base none 0 []:=World.ownsRow_nil w base _ 1
variable {w:World}{base cap:Nat}{A:Option Addr}{l:List Nat}
theorem OwnN.form (h:OwnN w base A cap l):(A=none/\l=[]/\cap=0)\/ ∃g,A=some ⟨g,0,none⟩/\base<=g/\g<w.heap.size/\l.length<=cap:=by
 rcases h.2 with⟨h2,h3⟩|⟨g,xq,cur,h1,h2,h3,h4,_⟩
 ·injection h2 with h4 h5 h6;exact .inl ⟨h4,List.eq_nil_of_length_eq_zero h3,h6⟩
 ·injection h1 with e1 e2 e3;subst e3;exact .inr ⟨g,e1,h2,(wO h3).1,h4⟩
variable {w':World}
theorem OwnN.same (h:OwnN w base A cap l)(hb: ∀g,A=some ⟨g,0,none⟩->w'.heap[g]? =w.heap[g]?):OwnN w' base A cap l:=by
 refine⟨h.1,?_⟩;rcases h.2 with h2|⟨g,xq,cur,h1,h2,h3,h4⟩
 ·exact .inl h2
 ·injection h1 with e1 e2 e3;exact .inr ⟨g,xq,cur,by rw[e1,e2,e3],h2,(hb g e1).trans h3,h4⟩
theorem OwnN.below {B:Nat}(h:OwnN w base A cap l)(hb:Below B w w')(hB:w.heap.size<=B):OwnN w' base A cap l:=
 World.ownsRow.kept h (row:=none) ⟨hb.os,hb.tape,hb.output,hb.size,fun k hk _ =>hb.block k o_⟩ (by cases A<;>simp[Value.ownBlock])
theorem OwnN.alloc (h:OwnN w base A cap l)(o:Obj):OwnN (w.alloc o) base A cap l:=World.ownsRow.alloc h o
theorem OwnN.elem {g:Nat}(h:OwnN w base (some ⟨g,0,none⟩) cap l){j:Nat}{t:Nat}(hp:l[j]? =some t):w.cell? ⟨g,j,none⟩=some (.int .i64 (t:Int)):=by
 have hk:j<l.length:=(List.getElem?_eq_some_iff.1 hp).1;rw[World.ownsRow.cellAt h j o_,xj,hp];rfl
theorem qz {ops:Array Oper}{rest:List Oper}{o:Oper}{a:Act}{Q:Exit->Act->World->Prop}(zH:o.guard=none)(s x:Operand)
  (ho:o.op= .call { callee:= .builtin .append,args:= #[s,x],argTypes:= #[131,131]})
  (base:Nat)(A:Option Addr)(cap:Nat)(l:List Nat)(hs:a.eval s= .slice A l.length cap)(xC:OwnN w base A cap l)
  (t:Nat)(b c:Nat)(hx:a.eval x= .slice (some ⟨b,0,none⟩) 1 c)(hb:w.heap[b]? =some (.cells #[.int .i64 (t:Int)] 3 (0,0)))
  (xD:l.length<1000000)(xH:base<=w.heap.size)
  (h: ∀g xq w',OwnN w' base (some ⟨g,0,none⟩) xq (l++[t])->w.grownBy w' (A.map (·.block))->(A.map (·.block)=some g\/g=w.heap.size)->g<w'.heap.size->wpList prog ops Q rest (a.put o.dst (.slice (some ⟨g,0,none⟩) (l.length+1) xq)) w'):
  wpList prog ops Q (o::rest) a w:=by
 obtain⟨i0,zx,xT,xQ,xX⟩:=info_parts rx;refine wpList_append_lies w zH s x 131 ho base 3 i0 _ 1 8 underlying131 zx xT xQ xX rfl o_ _ l.length (l.map fun x:Nat=>Value.int .i64 (x:Int)) hs xC ⟨b,0,none⟩ 1 c [.int .i64 (t:Int)] hx rfl (World.news_of_block (cs:= #[.int .i64 (t:Int)]) hb)
  (by simp[Value.oneCell']) o_ (by unfold maxLen;omega) o_ xH w.heap.size rfl ?_
 intro g xq w' zg hg yr xw;refine h g xq w' ?_ ?_ ?_ xw
 ·unfold OwnN;rw[List.map_append,wU];exact zg
 ·cases A<;>simpa [Value.ownBlock]using hg
 ·cases A<;>simpa [Value.ownBlock]using yr
end
section
open Go.RowKit Go.Sort
structure Elem {α:Type}(sT T:TypeId)(k bytes:Nat)(z:Value)(C:α->List Value):Prop where
 und:prog.underlying sT=some (.slice T)
 info:(prog.info? T).map (fun i=>(i.zero,i.size,i.bytes))=some (some z,k,bytes)
 size:z.cells.size=k
 pos:0<k
 small:bytes<=1000
 len: ∀x,(C x).length=k
 one: ∀x,∀v∈C x,v.oneCell'=true
def OwnG {α:Type}(T:TypeId)(k:Nat)(C:α->List Value)(w:World)(base:Nat)(R:Option Addr)(cap:Nat)(L:List α):Prop:=w.ownsRow base T k (.slice R L.length cap) L.length (L.flatMap C)
section
variable {α:Type}{sT T:TypeId}{k bytes:Nat}{z:Value}{C:α->List Value}
theorem Elem.flat (h:Elem sT T k bytes z C)(L:List α):(L.flatMap C).length=L.length*k:=by
 induction L with
 |nil=>simp
 |cons x L ih=>rw[xo,wU,ih,xd,h.len,Nat.add_mul];omega
variable {i:Nat}
theorem Elem.get (h:Elem sT T k bytes z C){L:List α}{r:α}(hr:L[i]? =some r)(j:Nat)(hj:j<k):(L.flatMap C)[i*k+j]? =(C r)[j]? :=by
 induction L generalizing i with
 |nil=>simp at hr
 |cons x L ih=>
  rw[xo];cases i with
  |zero=>
   simp at hr;subst hr;rw[Nat.zero_mul,Nat.zero_add,wZ (by rw[h.len];exact hj)]
  |succ i=>
   simp at hr;rw[wY (by rw[h.len,Nat.add_mul];omega)];have e:(i+1)*k+j-(C x).length=i*k+j:=(by rw[h.len,Nat.add_mul];omega);rw[e];exact ih hr
theorem OwnG.nil (w:World)(base:Nat):OwnG T k C w base none 0 []:=World.ownsRow_nil w base _ k
variable {w:World}{base cap:Nat}{R:Option Addr}
theorem OwnG.form {L:List α}(h:OwnG T k C w base R cap L):(R=none/\L=[]/\cap=0)\/ ∃g,R=some ⟨g,0,none⟩/\base<=g/\g<w.heap.size/\L.length<=cap:=by
 rcases h.2 with⟨h2,h3⟩|⟨g,xq,cur,h1,h2,h3,h4,_⟩
 ·injection h2 with e1 e2 e3;exact .inl ⟨e1,List.eq_nil_of_length_eq_zero h3,e3⟩
 ·injection h1 with e1 e2 e3;exact .inr ⟨g,e1,h2,(wO h3).1,o_⟩
variable {g:Nat}
theorem OwnG.formS {L:List α}(h:OwnG T k C w base (some ⟨g,0,none⟩) cap L):base<=g/\g<w.heap.size/\L.length<=cap:=by
 rcases h.form with⟨h1,_⟩|⟨g',h1,h2,h3,h4⟩
 ·cases h1
 ·injection h1 with h1;injection h1 with h1;subst h1;exact⟨h2,h3,h4⟩
variable {w':World}
theorem OwnG.same {L:List α}(h:OwnG T k C w base R cap L)(hb: ∀g,R=some ⟨g,0,none⟩->w'.heap[g]? =w.heap[g]?):OwnG T k C w' base R cap L:=by
 refine⟨h.1,?_⟩;rcases h.2 with h2|⟨g,xq,cur,h1,h2,h3,h4⟩
 ·exact .inl h2
 ·injection h1 with e1 e2 e3;exact .inr ⟨g,xq,cur,by rw[e1,e2,e3],h2,(hb g e1).trans h3,h4⟩
theorem OwnG.lt {L:List α}(h:OwnG T k C w base R cap L): ∀g,R=some ⟨g,0,none⟩->base<=g/\g<w.heap.size:=fun g e=>by
 subst e;exact⟨h.formS.1,h.formS.2.1⟩
theorem OwnG.kept {L:List α}(h:OwnG T k C w base R cap L)(hb:Below w.heap.size w w'):OwnG T k C w' base R cap L:=h.same fun g hg=>hb.block _ (h.lt g hg).2
theorem OwnG.alloc {L:List α}(h:OwnG T k C w base R cap L)(o:Obj):OwnG T k C (w.alloc o) base R cap L:=World.ownsRow.alloc h o
theorem OwnG.lower {Bk:Nat}{L:List α}(h:OwnG T k C w base R cap L)(hb:Bk<=base):OwnG T k C w Bk R cap L:=by
 rcases h with⟨h1,h2|⟨g,xq,cur,e1,e2,e3⟩⟩
 ·exact⟨h1,.inl h2⟩
 ·exact⟨h1,.inr ⟨g,xq,cur,e1,o_,e3⟩⟩
theorem OwnG.cell (hE:Elem sT T k bytes z C){L:List α}(h:OwnG T k C w base (some ⟨g,0,none⟩) cap L){r:α}(hr:L[i]? =some r)(j:Nat)(hj:j<k):w.cell? ⟨g,i*k+j,none⟩=(C r)[j]? :=by
 have hk:i<L.length:=(List.getElem?_eq_some_iff.1 hr).1;have xw:i*k+j<L.length*k:=by
  have h1:(i+1)*k<=L.length*k:=Nat.mul_le_mul_right k hk;rw[Nat.add_mul]at h1;omega
 rw[World.ownsRow.cellAt h (i*k+j) xw,hE.get hr j hj]
theorem OwnG.free {L:List α}(h:OwnG T k C w base (some ⟨g,0,none⟩) cap L)(j:Nat):w.frozen? ⟨g,j,none⟩=false:=World.ownsRow.frozenAt h j
theorem OwnG.part (hE:Elem sT T k bytes z C){L:List α}(h:OwnG T k C w base (some ⟨g,0,none⟩) cap L)(a m:Nat): ∀j u,(((L.drop a).take m).flatMap C)[j]? =some u->w.cell? ((⟨g,a*k,none⟩:Addr).add j)=some u:=fun j u hu=>by
 have hl:=(List.getElem?_eq_some_iff.1 hu).1;rw[hE.flat]at hl;have Eb:=hE.pos;have hi:j/k<((L.drop a).take m).length:=Nat.div_lt_of_lt_mul (by rw[Nat.mul_comm];exact hl);obtain⟨r,hr⟩: ∃r,((L.drop a).take m)[j/k]? =some r:=⟨_,wV hi⟩;have hjm:j % k<k:=Nat.mod_lt _ Eb;have e:j/k*k+j % k=j:=(by rw[Nat.mul_comm];exact Nat.div_add_mod j k);have h1:=hE.get hr (j % k) hjm;rw[e,hu]at h1;have LR:L[a+j/k]? =some r:=by
  rw[List.getElem?_take]at hr;split at hr
  ·rw[List.getElem?_drop]at hr;exact hr
  ·cases hr
 have h2:=h.cell hE LR (j % k) hjm;rw[Addr.add_mid,<-h1.symm.symm]at *
 rw[show a*k+j=(a+j/k)*k+j % k by rw[Nat.add_mul];omega,h2,<-h1]
variable {ops:Array Oper}{rest:List Oper}{o:Oper}{a:Act}{Q:Exit->Act->World->Prop}
theorem jj (hE:Elem sT T k bytes z C)(zH:o.guard=none)(s x:Operand)
  (ho:o.op= .call { callee:= .builtin .append,args:= #[s,x],argTypes:= #[sT,sT]})
  (base:Nat)(R:Option Addr)(cap m:Nat)(L:List α)(hm:m=L.length)(hs:a.eval s= .slice R m cap)(xC:OwnG T k C w base R cap L)
  (r:α)(b c:Nat)(hx:a.eval x= .slice (some ⟨b,0,none⟩) 1 c)(hb:w.heap[b]? =some (.cells (C r).toArray T (0,0)))
  (xD:m<1000000)(xH:base<=w.heap.size)
  (h: ∀g xq w',OwnG T k C w' base (some ⟨g,0,none⟩) xq (L++[r])->w.grownBy w' (R.map (·.block))->(R.map (·.block)=some g\/g=w.heap.size)->g<w'.heap.size->wpList prog ops Q rest (a.put o.dst (.slice (some ⟨g,0,none⟩) (m+1) xq)) w'):
  wpList prog ops Q (o::rest) a w:=by
 obtain⟨i0,zx,xT,xQ,xX⟩:=info_parts hE.info;have AK:=hE.small;refine wpList_append_lies w zH s x sT ho base T i0 _ k bytes hE.und zx xT xQ xX hE.size hE.pos _ L.length (L.flatMap C) (by rw[hs,hm]) xC ⟨b,0,none⟩ 1 c (C r) hx (by rw[hE.len];omega) (World.news_of_block (cs:=(C r).toArray) hb)
  (hE.one r) o_ (by unfold maxLen;omega) (xn (Nat.mul_le_mul (show L.length+1<=1000001 by omega) AK) d_) xH w.heap.size rfl ?_
 intro g xq w' zg hg yr xw;rw[<-hm]at zg⊢;refine h g xq w' ?_ ?_ ?_ xw
 ·unfold OwnG;rw[List.flatMap_append,wU,xc,<-hm];simpa using zg
 ·cases R<;>simpa [Value.ownBlock]using hg
 ·cases R<;>simpa [Value.ownBlock]using yr
theorem mt (hE:Elem sT T k bytes z C){K:Act->World->Prop}{E:Prop}(zH:o.guard=none)(s x:Operand)
  (ho:o.op= .call { callee:= .builtin .append,args:= #[s,x],argTypes:= #[sT,sT]})
  (base:Nat)(R:Option Addr)(cap m:Nat)(L:List α)(hm:m=L.length)(hs:a.eval s= .slice R m cap)(xC:OwnG T k C w base R cap L)
  (r:α)(b c:Nat)(hx:a.eval x= .slice (some ⟨b,0,none⟩) 1 c)(hb:w.heap[b]? =some (.cells (C r).toArray T (0,0)))
  (xD:m<1000000)(xH:base<=w.heap.size)
  (h: ∀g xq w',OwnG T k C w' base (some ⟨g,0,none⟩) xq (L++[r])->w.grownBy w' (R.map (·.block))->(R.map (·.block)=some g\/g=w.heap.size)->g<w'.heap.size->K (a.put o.dst (.slice (some ⟨g,0,none⟩) (m+1) xq)) w'):
  if Region.wanted o (yielded ops a.tmps)=true then Oper.wp prog o a w K Q else E:=by
 obtain⟨i0,zx,xT,xQ,xX⟩:=info_parts hE.info;have AK:=hE.small;refine step_append_lies w zH s x sT ho base T i0 _ k bytes hE.und zx xT xQ xX hE.size hE.pos _ L.length (L.flatMap C) (by rw[hs,hm]) xC ⟨b,0,none⟩ 1 c (C r) hx (by rw[hE.len];omega) (World.news_of_block (cs:=(C r).toArray) hb)
  (hE.one r) o_ (by unfold maxLen;omega) (xn (Nat.mul_le_mul (show L.length+1<=1000001 by omega) AK) d_) xH w.heap.size rfl ?_
 intro g xq w' zg hg yr xw;rw[<-hm]at zg⊢;refine h g xq w' ?_ ?_ ?_ xw
 ·unfold OwnG;rw[List.flatMap_append,wU,xc,<-hm];simpa using zg
 ·cases R<;>simpa [Value.ownBlock]using hg
 ·cases R<;>simpa [Value.ownBlock]using yr
theorem nw (hE:Elem sT T k bytes z C)(zH:o.guard=none)(s x:Operand)
  (ho:o.op= .call { callee:= .builtin .append,args:= #[s,x],argTypes:= #[sT,sT]})
  (base:Nat)(R:Option Addr)(cap k1 m:Nat)(L L2:List α)(hk:L.length=k1)(hm:L2.length=m)(hs:a.eval s= .slice R k1 cap)(xC:OwnG T k C w base R cap L)
  (ad:Option Addr)(c:Nat)(hx:a.eval x= .slice ad m c)(hA:0<m-> ∃x,ad=some x/\ ∀j u,(L2.flatMap C)[j]? =some u->w.cell? (x.add j)=some u)(xD:k1+m<=1000000\/(bytes=1/\k1+m<=140737488355328))(xH:base<=w.heap.size)
  (h: ∀R' xq w',OwnG T k C w' base R' xq (L++L2)->Below base w w'->wpList prog ops Q rest (a.put o.dst (.slice R' (k1+m) xq)) w'):
  wpList prog ops Q (o::rest) a w:=by
 obtain⟨i0,zx,xT,xQ,xX⟩:=info_parts hE.info;have AK:=hE.small;by_cases GS:m=0
 ·subst GS;have xW:L2=[]:=List.eq_nil_of_length_eq_zero hm;subst xW;refine wpList_plain zH fun K hK=>?_;have hle:k1<=cap:=by
   rcases xC.form with⟨_,e,e2⟩|⟨g,_,_,_,e⟩
   ·rw[e]at hk;simp at hk;omega
   ·omega
  have Ae:Src prog i0.size sT (.slice ad 0 c) 0 [] w:=by
   cases ad with
   |none=>exact Src.ofNil w hE.und c
   |some ad=>exact Src.ofSlice w hE.und ad 0 c [] s_ (fun j u hu=>by simp at hu) (fun u hu=>by cases hu)
  have yL:=run_append_nothing (P:=prog) w sT sT o.type T i0 hE.und zx R k1 cap hle (.slice ad 0 c) Ae;have h9:=h R cap w (by rw[List.append_nil];exact xC) (xp _ _);unfold Oper.wp;simp[execOp,ho,resolve,invoke,builtin,hs,hx,yL,Result.andThen];exact hK _ _ h9
 ·obtain⟨xa,rfl,Hr⟩:=hA o_;refine wpList_append_lies w zH s x sT ho base T i0 _ k bytes hE.und zx xT xQ xX hE.size hE.pos _ L.length (L.flatMap C) (by rw[hs,hk]) xC xa m c (L2.flatMap C) hx (by rw[hE.flat,hm]) Hr
   (fun u hu=>by obtain⟨r,_,hr⟩:=List.mem_flatMap.1 hu;exact hE.one r u hr) o_ (by unfold maxLen;omega) (by
    rcases xD with hf|⟨hf,KA⟩
    ·exact xn (Nat.mul_le_mul (show L.length+m<=1000000 by omega) AK) d_
    ·rw[hf,Nat.mul_one];omega) xH w.heap.size rfl ?_
  intro g xq w' zg hg yr xw;rw[hk]at zg⊢;refine h (some ⟨g,0,none⟩) xq w' ?_ ?_
  ·unfold OwnG;rw[List.flatMap_append,wU,hk,hm];exact zg
  ·have yE:w.grownBy w' (R.map (·.block)):=by cases R<;>simpa [Value.ownBlock]using hg
   exact(xp _ _).grown yE xH (fun b hb=>by
    rcases xC.form with⟨e,_⟩|⟨g,e,h1,_⟩
    ·rw[e]at hb;cases hb
    ·rw[e]at hb;simp at hb;omega)
end
end
section
open Go
section
variable {P:Program}{ops:Array Oper}{Q:Exit->Act->World->Prop}{md:Region.Mode}{S:World->Prop}{z:Nat}
def dA (P:Program)(md:Region.Mode)(ops:Array Oper)(Q:Exit->Act->World->Prop)(S:World->Prop)(z:Nat):Nat->Array Bool->Act->World->Prop
 |0,listed,a,w=>Region.ready md ops listed=[]/\Q .normal a w
 |n+1,listed,a,w=>(Region.ready md ops listed=[]->Q .normal a w)/\
  ∀i∈Region.ready md ops listed,wpOp P ops Q i (fun a' w'=>(i≠z->S w')/\dA P md ops Q S z n (listed.setIfInBounds i true) a' w') a w
theorem iR: ∀(n:Nat) (listed:Array Bool) (a:Act) (w:World),dA P md ops Q S z n listed a w->wpAny P md ops Q n listed a w
 |0,_,_,_,h=>h
 |n+1,_,_,_,h=>⟨h.1,fun i hi=>wpOp_mono (fun a' w' h'=>iR n _ a' w' h'.2) (h.2 i hi)⟩
def iM (md:Region.Mode)(ops:Array Oper)(listed:Array Bool):Prop:=
 ∀j o,ops[j]? =some o->listed.getD j true=true-> ∀e∈o.after,Region.binds md e=true->listed.getD e.on true=true
variable {listed:Array Bool}{j:Nat}
theorem qh (h:listed.getD j false=true):listed.getD j true=true:=by
 simp only[Array.getD_eq_getD_getElem?]at *
 cases hc:listed[j]? with
 |none=>rfl
 |some b=>rw[hc]at h;simpa using h
variable {i:Nat}
theorem kT (h:listed.getD j true=true):(listed.setIfInBounds i true).getD j true=true:=by
 by_cases e:i=j
 ·subst e;simp only[Array.getD_eq_getD_getElem?,Array.getElem?_setIfInBounds_self];split<;>rfl
 ·rw[getD_set_ne true e];exact h
theorem iM.set (h:iM md ops listed)(hi:i∈Region.ready md ops listed):iM md ops (listed.setIfInBounds i true):=by
 intro j o ho hj e he hb;by_cases Mu:i=j
 ·subst Mu;obtain⟨_,o',zg,yb⟩:=mem_ready.1 hi;rw[ho]at zg;injection zg with zg;subst zg;exact kT (qh (yb e he hb))
 ·rw[getD_set_ne true Mu]at hj;exact kT (h j o ho hj e he hb)
def waits (md:Region.Mode)(ops:Array Oper)(k j:Nat):Bool:=match ops[k]? with|some o=>o.after.toList.any fun e=>Region.binds md e&&e.on==j|none=>false
def back (md:Region.Mode)(ops:Array Oper)(z:Nat):Nat->List Nat
 |0=>(List.range ops.size).filter fun j=>waits md ops z j
 |n+1=>let l:=back md ops z n;(List.range ops.size).filter fun j=>l.contains j || l.any fun k=>waits md ops k j
theorem lG {k:Nat}(h:waits md ops k j=true): ∃o,ops[k]? =some o/\ ∃e∈o.after,Region.binds md e=true/\e.on=j:=by
 unfold waits at h;split at h
 ·next o ho=>
  obtain⟨e,he,hp⟩:=List.any_eq_true.1 h;rw[Bool.and_eq_true,beq_iff_eq]at hp;exact⟨o,ho,e,by simpa using he,hp.1,hp.2⟩
 ·cases h
theorem ln (hc:iM md ops listed)(hz:z∈Region.ready md ops listed): ∀n,∀j∈back md ops z n,listed.getD j true=true
 |0,j,hj=>by
  obtain⟨o,ho,e,he,hb,rfl⟩:=lG (List.mem_filter.1 hj).2;obtain⟨_,o',zg,yb⟩:=mem_ready.1 hz;rw[ho]at zg;injection zg with zg;subst zg;exact qh (yb e he hb)
 |n+1,j,hj=>by
  have h1:=(List.mem_filter.1 hj).2;rw[Bool.or_eq_true]at h1;rcases h1 with h1|h1
  ·exact ln hc hz n j (by simpa using h1)
  ·obtain⟨k,hk,hw⟩:=List.any_eq_true.1 h1;obtain⟨o,ho,e,he,hb,rfl⟩:=lG hw;exact hc k o ho (ln hc hz n k hk) e he hb
def lastB (md:Region.Mode)(ops:Array Oper)(z n:Nat):Bool:=let l:=back md ops z n;(List.range ops.size).all fun j=>j==z || l.contains j
variable {n:Nat}
theorem vi (h:lastB md ops z n=true)(hc:iM md ops listed)(hz:z∈Region.ready md ops listed)(hj:j∈Region.ready md ops listed):j=z:=by
 obtain⟨h1,o,ho,_⟩:=mem_ready.1 hj;have xw:=(wO ho).1;unfold lastB at h;have h2:=List.all_eq_true.1 h j (List.mem_range.2 xw);rw[Bool.or_eq_true,beq_iff_eq]at h2;rcases h2 with h2|h2
 ·exact h2
 ·have h3:=ln hc hz n j (by simpa using h2);rw[h1]at h3;cases h3
variable {oi:Oper}{v:Value}
theorem nH (hi:ops[i]? =some oi)(Vk: ∀(j:Nat) (o:Oper) cs b,ops[j]? =some o->o.op≠ .select cs b)
  (hQ: ∀c a w,Q (.panic c) (a.put oi.dst v) w->Q (.panic c) a w)(hz: ∀listed,iM md ops listed->z∈Region.ready md ops listed-> ∀j∈Region.ready md ops listed,j=z)(RQ:i≠z):
  ∀(n:Nat) (listed:Array Bool) (a:Act) (w:World),iM md ops listed->
   (∀j oj,ops[j]? =some oj->j≠i->listed.getD j true=false->(∀e∈oj.after,Region.binds md e=true->e.on≠i)->oi.apart ops oj=true)->
   i∈Region.ready md ops listed->YieldsIf P ops S oi v a->S w->
   dA P md ops Q S z n (listed.setIfInBounds i true) (a.put oi.dst v) w->dA P md ops Q S z (n+1) listed a w:=by
 intro n
 induction n with
 |zero=>
  intro listed a w _ _ hr hy hS H;refine⟨fun h=>(by rw[h]at hr;cases hr),fun j hj=>?_⟩;by_cases Mu:j=i
  ·subst Mu;exact hy.wpOp hi hS ⟨fun _ =>hS,H⟩
  ·have:=ready_mono hj Mu;rw[H.1]at this;cases this
 |succ n ih=>
  intro listed a w BE hfree hr hy hS H;refine⟨fun h=>(by rw[h]at hr;cases hr),fun j hj=>?_⟩;by_cases Mu:j=i
  ·subst Mu;exact hy.wpOp hi hS ⟨fun _ =>hS,H⟩
  have hjz:j≠z:=fun e=>by subst e;exact RQ (hz listed BE hj i hr)
  have h1:=H.2 j (ready_mono hj Mu);obtain⟨Wj,oj,hoj,yb⟩:=mem_ready.1 hj;have Oy: ∀e∈oj.after,Region.binds md e=true->e.on≠i:=fun e he hb heq=>by
   have h2:=qh (yb e he hb);rw[heq,(mem_ready.1 hr).1]at h2;cases h2
  have h2:=wpOp_putIf hoj (hfree j oj hoj Mu Wj Oy) (fun cs b=>Vk i oi cs b hi) (fun cs b=>Vk j oj cs b hoj) hQ hy h1;refine wpOp_mono (fun a' w' h3=>⟨h3.2.1,ih (listed.setIfInBounds j true) a' w' (BE.set hj) (fun k ok hk La Lz xL=>?_) (ready_mono hr (Ne.symm Mu)) h3.1 (h3.2.1 hjz) ?_⟩) h2
  ·refine hfree k ok hk La ?_ xL;by_cases CR:j=k
   ·subst CR;exact Wj
   ·rw[getD_set_ne true CR]at Lz;exact Lz
  ·rw[Array.setIfInBounds_comm _ _ Mu];exact h3.2.2
def qu (md:Region.Mode)(ops:Array Oper)(listed:Array Bool):Bool:=
 (List.range ops.size).all fun j=> !listed.getD j true || match ops[j]? with|some o=>o.after.toList.all fun e=> !Region.binds md e || listed.getD e.on true|none=>true
theorem pa (h:qu md ops listed=true):iM md ops listed:=by
 intro j o ho hj e he hb;have xw:=(wO ho).1;have h1:=List.all_eq_true.1 h j (List.mem_range.2 xw);rw[hj,ho]at h1;simp only[Bool.not_true,Bool.false_or]at h1;have h2:=List.all_eq_true.1 h1 e (by simpa using he);rw[hb]at h2;simpa using h2
structure dS (md:Region.Mode)(ops:Array Oper)(z:Nat):Prop where
 last: ∀listed,iM md ops listed->z∈Region.ready md ops listed-> ∀j∈Region.ready md ops listed,j=z
 noSel:Region.noSelect ops=true
theorem dS.of (n:Nat)(h:lastB md ops z n=true)(h2:Region.noSelect ops=true):dS md ops z:=⟨fun listed hc hz j hj=>vi h hc hz hj,h2⟩
variable {a:Act}{w:World}
theorem pv (i:Nat)(hl:dS md ops z)(hi:ops[i]? =some oi)(RQ:(i==z)=false)
  (hc:qu md ops listed=true)(hf:Region.free md ops listed i=true)(hr:(Region.ready md ops listed).contains i=true)
  (hQ: ∀c a w,Q (.panic c) (a.put oi.dst v) w->Q (.panic c) a w)(hy:YieldsIf P ops S oi v a)(hS:S w)
  (h:dA P md ops Q S z n (listed.setIfInBounds i true) (a.put oi.dst v) w):dA P md ops Q S z (n+1) listed a w:=
 nH hi (Region.noSelect_spec hl.noSel) hQ hl.last (by simpa using RQ) n listed a w (pa hc) (Region.free_spec hi hf) (by simpa using hr) hy hS h
theorem zt (i:Nat){l2:Array Bool}{a2:Act}(h:dA P md ops Q S z n l2 a2 w)
  (hl:dS md ops z:=by assumption)(hi:ops[i]? =some oi:=by rfl)(RQ:(i==z)=false:=by rfl)
  (hc:qu md ops listed=true:=by kernel_rfl)(hf:Region.free md ops listed i=true:=by kernel_rfl)(hr:(Region.ready md ops listed).contains i=true:=by kernel_rfl)
  (hQ: ∀c a w,Q (.panic c) (a.put oi.dst v) w->Q (.panic c) a w:=by exact fun _ _ _ h=>h)
  (hy:YieldsIf P ops S oi v a:=by(refine Or.inl ⟨by rfl,?_⟩;intro w hSw;(try dsimp only at hSw);go_simp;all_goals(with_reducible rfl)))(hS:S w:=by assumption)
  (e1:listed.setIfInBounds i true=l2:=by((try simp only[List.setIfInBounds_toArray,List.set_cons_zero,List.set_cons_succ]);exact rfl))
  (e2:a.put oi.dst v=a2:=by((try simp only[Act.put,List.setIfInBounds_toArray,List.set_cons_zero,List.set_cons_succ,List.getElem_toArray,List.getElem_cons_succ,List.getElem_cons_zero]);exact rfl)):
  dA P md ops Q S z (n+1) listed a w:=by
 subst e1 e2;exact pv i hl hi RQ hc hf hr hQ hy hS h
variable {o:Oper}
theorem bQ (i:Nat)(hr:Region.ready md ops listed=[i])(ho:ops[i]? =some o)
  (h: ∀K':Act->World->Prop,Shut (∀a w,S w->(S w->dA P md ops Q S z n (listed.setIfInBounds i true) a w)->K' a w)->if Region.wanted o (yielded ops a.tmps)=true then Oper.wp P o a w K' Q else K' (a.put o.dst undef) w):
  dA P md ops Q S z (n+1) listed a w:=by
 refine⟨fun h0=>absurd (hr▸h0) s_,fun j hj=>?_⟩;rw[hr,List.mem_singleton]at hj;subst hj;exact wpOp_step ho fun K' hK=>h K' (fun a w hS hW=>hK a w ⟨fun _ =>hS,hW hS⟩)
theorem cw (i:Nat)(hr:Region.ready md ops listed=[i])(RQ:i=z)(ho:ops[i]? =some o)
  (h: ∀K':Act->World->Prop,Shut (∀a w,dA P md ops Q S z n (listed.setIfInBounds i true) a w->K' a w)->if Region.wanted o (yielded ops a.tmps)=true then Oper.wp P o a w K' Q else K' (a.put o.dst undef) w):
  dA P md ops Q S z (n+1) listed a w:=by
 refine⟨fun h0=>absurd (hr▸h0) s_,fun j hj=>?_⟩;rw[hr,List.mem_singleton]at hj;subst hj;exact wpOp_step ho fun K' hK=>h K' (fun a w hW=>hK a w ⟨fun e=>absurd RQ e,hW⟩)
theorem cx (hr:Region.ready md ops listed=[])(h:Q .normal a w): ∀n,dA P md ops Q S z n listed a w
 |0=>⟨hr,h⟩
 |_ +1=>⟨fun _ =>h,by rw[hr];simp⟩
theorem ka {id:Nat}(S:World->Prop)(z:Nat)(hm:P.follows .mixedOrders=true)(hl:dS .any ops z)(hS:S w.drew)
  (h:dS .any ops z->S w.drew->dA P .any ops Q S z ops.size (Array.replicate ops.size false) a w.drew):(Code.region id ops true).wp P Q a w:=
 wp_region_any hm (iR _ _ _ _ (h hl hS))
end
end
section
open Go.RowKit Go.Sort
variable {F:Fence}{n':Nat}{w:World}{ops:Array Oper}{rest:List Oper}{o:Oper}{a:Act}{Q:Exit->Act->World->Prop}
theorem fG {P:Program}(zH:o.guard=none)(s x:Operand)(t:TypeId)
  (ho:o.op= .call { callee:= .builtin .append,args:= #[s,x],argTypes:= #[t,t]})
  (base:Nat)(e:TypeId)(i:TypeInfo)(z:Value)(size bytes:Nat)(ht:P.underlying t=some (.slice e))(hi:P.info? e=some i)(hz:i.zero=some z)
  (Vg:i.size=size)(TY:i.bytes=bytes)(hzs:z.cells.size=size)(LC:0<size)
  (v:Value)(n:Nat)(xs:List Value)(hs:a.eval s=v)(xC:w.ownsRow base e size v n xs)
  (ad:Addr)(m c:Nat)(news:List Value)(hx:a.eval x= .slice (some ad) m c)(hl:news.length=m*size)(VK: ∀j u,news[j]? =some u->w.cell? (ad.add j)=some u)(h1: ∀u∈news,u.oneCell'=true)
  (hm:0<m)(h63:n+m<=maxLen)(Sl:(n+m)*bytes<=140737488355328)(xH:base<=w.heap.size)
  (h: ∀g cap w',w'.ownsRow base e size (.slice (some ⟨g,0,none⟩) (n+m) cap) (n+m) (xs++news)->w.grownBy w' v.ownBlock->(v.ownBlock=some g\/g=w.heap.size)->g<w'.heap.size->wpListIn F n' P ops Q rest (a.put o.dst (.slice (some ⟨g,0,none⟩) (n+m) cap)) w'):wpListIn F n' P ops Q (o::rest) a w:=by
 refine wpListIn_plain zH fun K hK=>?_;obtain⟨g,cap,w',hr,h2,h3,h4,h5⟩:=run_append_lies (P:=P) w t o.type base e i z size bytes ht hi hz Vg TY hzs LC v n xs xC ad m c news hl VK h1 hm h63 Sl xH w.heap.size rfl;unfold Oper.wpIn;refine⟨by simp[Oper.about,ho,resolve,Target.leads,Sem.run_pure],?_⟩;rw[Oper.semAt_plain F _ _ (by rw[ho];intro c Qm;cases Qm)];simp[execOp,ho,resolve,invoke,builtin,hs,hx,hr,Result.andThen];exact hK _ _ (h g cap w' h2 h3 h4 h5)
theorem qA (zH:o.guard=none)(s x:Operand)
  (ho:o.op= .call { callee:= .builtin .append,args:= #[s,x],argTypes:= #[39,39]})
  (base:Nat)(A:Option Addr)(cap k:Nat)(e:Nat->Nat)(hs:a.eval s= .slice A k cap)(xC:OwnB w base A cap k e)
  (ad:Addr)(n c:Nat)(d:Nat->Nat)(hx:a.eval x= .slice (some ad) n c)(hA:ap w (some ad) n d)(hn:0<n)(xD:k+n<=10000000)(xH:base<=w.heap.size)
  (h: ∀g xq w',OwnB w' base (some ⟨g,0,none⟩) xq (k+n) (fun i=>if i<k then e i else d (i-k))->w.grownBy w' (A.map (·.block))->(A.map (·.block)=some g\/g=w.heap.size)->g<w'.heap.size->wpListIn F n' prog ops Q rest (a.put o.dst (.slice (some ⟨g,0,none⟩) (k+n) xq)) w'):
  wpListIn F n' prog ops Q (o::rest) a w:=by
 obtain⟨i0,zx,xT,xQ,xX⟩:=info_parts ki;obtain⟨ad',e',Aq⟩:=hA hn;injection e' with e';subst e';refine fG zH s x 39 ho base 5 i0 (.int .u8 0) 1 1 underlying39 zx xT xQ xX rfl d_ _ k _ hs xC ad n c ((List.range n).map fun j=>Value.int .u8 (d j:Int)) hx s_ (fun j u hu=>?_) (fun u hu=>?_) hn (by unfold maxLen;omega) o_ xH ?_
 ·have hj:j<n:=by
   have:=(List.getElem?_eq_some_iff.1 hu).1;simpa using this
  rw[xj,List.getElem?_range hj]at hu;simp only[Option.map_some,Option.some.injEq]at hu;subst hu;exact Aq j hj
 ·obtain⟨i,_,rfl⟩:=List.mem_map.1 hu;rfl
 ·intro g xq w' zg hg yr xw;refine h g xq w' ?_ ?_ ?_ xw
  ·unfold OwnB;have e2:((List.range (k+n)).map fun j=>Value.int .u8 ((if j<k then e j else d (j-k):Nat):Int))=((List.range k).map fun j=>Value.int .u8 (e j:Int))++((List.range n).map fun j=>Value.int .u8 (d j:Int)):=by
    have e3:((List.range k).map fun j=>Value.int .u8 ((if j<k then e j else d (j-k):Nat):Int))=(List.range k).map fun j=>Value.int .u8 (e j:Int):=List.map_congr_left fun j hj=>by rw[if_pos (List.mem_range.1 hj)]
    have e4:(((List.range n).map (k+ ·)).map fun j=>Value.int .u8 ((if j<k then e j else d (j-k):Nat):Int))=(List.range n).map fun j=>Value.int .u8 (d j:Int):=by
     rw[List.map_map];exact List.map_congr_left fun j hj=>by
      simp only[Function.comp];rw[if_neg o_,Nat.add_sub_cancel_left]
    rw[List.range_add,List.map_append,e3,e4]
   rw[e2];exact zg
  ·cases A<;>simpa [Value.ownBlock]using hg
  ·cases A<;>simpa [Value.ownBlock]using yr
theorem wk {α:Type}{sT T:TypeId}{k bytes:Nat}{z:Value}{C:α->List Value}(hE:Elem sT T k bytes z C)(zH:o.guard=none)(s x:Operand)
  (ho:o.op= .call { callee:= .builtin .append,args:= #[s,x],argTypes:= #[sT,sT]})
  (base:Nat)(R:Option Addr)(cap m:Nat)(L:List α)(hm:m=L.length)(hs:a.eval s= .slice R m cap)(xC:OwnG T k C w base R cap L)
  (r:α)(b c:Nat)(hx:a.eval x= .slice (some ⟨b,0,none⟩) 1 c)(hb:w.heap[b]? =some (.cells (C r).toArray T (0,0)))
  (xD:m<1000000)(xH:base<=w.heap.size)
  (h: ∀g xq w',OwnG T k C w' base (some ⟨g,0,none⟩) xq (L++[r])->w.grownBy w' (R.map (·.block))->(R.map (·.block)=some g\/g=w.heap.size)->g<w'.heap.size->wpListIn F n' prog ops Q rest (a.put o.dst (.slice (some ⟨g,0,none⟩) (m+1) xq)) w'):
  wpListIn F n' prog ops Q (o::rest) a w:=by
 obtain⟨i0,zx,xT,xQ,xX⟩:=info_parts hE.info;have AK:=hE.small;refine fG zH s x sT ho base T i0 _ k bytes hE.und zx xT xQ xX hE.size hE.pos _ L.length (L.flatMap C) (by rw[hs,hm]) xC ⟨b,0,none⟩ 1 c (C r) hx (by rw[hE.len];omega) (World.news_of_block (cs:=(C r).toArray) hb)
  (hE.one r) o_ (by unfold maxLen;omega) (xn (Nat.mul_le_mul (show L.length+1<=1000001 by omega) AK) d_) xH ?_
 intro g xq w' zg hg yr xw;rw[<-hm]at zg⊢;refine h g xq w' ?_ ?_ ?_ xw
 ·unfold OwnG;rw[List.flatMap_append,wU,xc,<-hm];simpa using zg
 ·cases R<;>simpa [Value.ownBlock]using hg
 ·cases R<;>simpa [Value.ownBlock]using yr
end
section
open Go
section
variable {P:Program}{ops:Array Oper}{Q:Exit->Act->World->Prop}{md:Region.Mode}{n l:Nat}
def qG (Q:Exit->Act->World->Prop):Exit->Act->World->Prop
 | .outgrown,_,_ =>False
 | .panic _,_,_ =>False
 |e,a,w=>Q e a w
theorem lN: ¬LetsOut (qG Q):=fun⟨_,_,h⟩=>h
variable {a:Act}{w:World}
theorem bV (h:Q .normal a w):qG Q .normal a w:=h
def jP (ops:Array Oper):Bool:=ops.toList.all fun o=>match o.op with| .defer _ =>false|_ =>true
variable {i:Nat}{o:Oper}
theorem mI (h:jP ops=true)(ho:ops[i]? =some o): ∀c,o.op≠ .defer c:=by
 intro c hc;have hm:o∈ops.toList:=xb (by simpa using ho);have:=List.all_eq_true.1 h o hm;rw[hc]at this;cases this
theorem tV {next next':Act->World->Prop}(himp: ∀a w,next a w->next' a w){r:Result Next}(h:o.upon P a next (qG Q) r):o.uponIn (Fence.wide.inRound l) n P a next' Q r:=by
 cases r with
 |ok nx w=>
  cases nx with
  |value v=>exact himp _ _ h
  |skip=>exact himp _ _ h
  |defer d=>exact himp _ _ h
  |enter f args=>
   refine⟨fun hh=>by simp[Fence.wide]at hh,CallsIn.inRound l (callsIn_wide.2 (Calls.mono h ?_))⟩;intro e w'' hh;cases e with
   |returned v=>exact himp _ _ hh
   |panicked ch=>exact False.elim hh
   |outgrown=>exact(lN hh).elim
  |row x y=>
   refine⟨fun hh=>by simp[Fence.wide]at hh,fun c cs _ =>?_⟩;obtain⟨v,w',h1,h2⟩:=h c cs;exact⟨v,w',himp _ _ h1,stepsIn_wide.2 h2⟩
  |_ =>exact False.elim h
 |halt r w=>
  cases r with
  |panic v=>exact False.elim h
  |_ =>exact False.elim h
theorem tO {K K':Act->World->Prop}(hp:jP ops=true)(himp: ∀a w,K a w->K' a w)(h:wpOp P ops (qG Q) i K a w):wpOpIn (Fence.wide.inRound l) n P ops Q i K' a w:=by
 unfold wpOp at h;unfold wpOpIn;cases ho:ops[i]? with
 |none=>rw[ho]at h;exact himp _ _ h
 |some o=>
  rw[ho]at h;simp only at h⊢;split
  ·rename_i hw;rw[if_pos hw]at h;rcases h with h|⟨_,h⟩
   ·refine⟨fun _ _ =>trivial,?_⟩;rw[Oper.semAt_eq _ _ _ (mI hp ho)];exact tV himp h
   ·exact(lN h).elim
  ·rename_i hw;rw[if_neg hw]at h;exact⟨fun _ _ =>trivial,himp _ _ h⟩
theorem lE (hp:jP ops=true): ∀(fuel:Nat) (listed:Array Bool) (a:Act) (w:World),wpAny P md ops (qG Q) fuel listed a w->wpAnyIn (Fence.wide.inRound l) n P md ops Q fuel listed a w
 |0,_,_,_,h=>h
 |fuel+1,listed,_,_,h=>⟨h.1,fun i hi=>tO hp (fun a w h'=>lE hp fuel _ a w h') (h.2 i hi)⟩
theorem cK {id:Nat}(S:World->Prop)(z:Nat)(hm:P.follows .mixedOrders=true)(hp:jP ops=true)(hl:dS .any ops z)(hS:S w.drew)
  (h:dS .any ops z->S w.drew->dA P .any ops (qG Q) S z ops.size (Array.replicate ops.size false) a w.drew):(Code.region id ops true).wpIn (Fence.wide.inRound l) n P Q a w:=
 wpIn_region_any hm (lE hp _ _ _ _ (iR _ _ _ _ (h hl hS)))
end
end
