/- Spaces, plain: what lies at an address; -/
import Derived.Test.YtoochjhipmpehaaGreatDoorSpGK
set_option linter.unusedVariables false
set_option linter.unusedSimpArgs false
set_option maxRecDepth 100000
namespace Go.Proofs.YtoochjhipmpehaaGreatDoor
section
structure Rgs (F:List Nd) (rl:List Reg):Prop where
 right:Rg.right rl=true
 ok:dD rl
 file: ∀r∈rl,0<=r.ino-> ∃y,F[r.ino.toNat]? =some y/\y.kind=1
variable {rl:List Reg}
theorem tT (h1: ∀x∈rl,Rg.one x=true) (a:Int):Rg.find rl (a/4096*4096)=Rg.find rl a:=by
 have:rl.find? (Rg.holds · (a/4096*4096))=rl.find? (Rg.holds · a):=by
  induction rl with
  |nil=>rfl
  |cons x l ih=>
   have hx:=aD (h1 x (by simp));have e:Rg.holds x (a/4096*4096)=Rg.holds x a:=by
    unfold Rg.holds;rw[decide_eq_decide];omega
   simp only[List.find?_cons,e,ih (fun y hy=>h1 y (by simp[hy]))]
 unfold Rg.find;rw[this]
variable {F:List Nd} {r:Reg}
theorem Rgs.ask (h:Rgs F rl) {a:Nat} (hf:Rg.find rl (a:Int)=(r,true)):Ask F rl r (a/4096):=by
 have h1:=di h.right;have e:(((a/4096:Nat):Int))*4096=(a:Int)/4096*4096:=(by omega);have IL:Rg.find rl (((a/4096:Nat):Int)*4096)=(r,true):=(by rw[e,tT h1,hf]);rcases ld rl (((a/4096:Nat):Int)*4096)with⟨_,h2⟩|⟨x,_,h2,hm,h3,h4⟩
 ·rw[IL]at h2;injection h2 with _ h2;cases h2
 ·rw[IL]at h2;injection h2 with h2 _;subst h2;exact⟨IL,h1 r hm,h3,h4,h.ok r hm,h.file r hm⟩
def oA (F:List Nd) (rl:List Reg) (g:Nat):Nat->Nat:=srcD F (Rg.find rl ((g:Int)*4096)).1 g
def cont (F:List Nd) (rl:List Reg) (p:Pool) (T:Tab) (g:Nat):Nat->Nat:=match T.lf g with|some l=>p.dat l.frame|none=>oA F rl g
variable {p:Pool} {T:Tab} {g:Nat} {l:Leaf}
theorem aV (h:T.lf g=some l):cont F rl p T g=p.dat l.frame:=by unfold cont;rw[h]
theorem bQ (h:T.lf g=none):cont F rl p T g=oA F rl g:=by unfold cont;rw[h]
structure Seen (F:List Nd) (hold:Nat->Nat) (rl:List Reg) (p:Pool) (L:List Slot) (T:Tab) (p':Pool) (L':List Slot) (T':Tab):Prop where
 kept:Kept F hold p L T p' L' T'
 cont: ∀g i,i<4096->cont F rl p' T' g i=cont F rl p T g i
variable {hold:Nat->Nat} {L:List Slot}
theorem Seen.refl (h:Sp F hold p L T) (ho:Own p T):Seen F hold rl p L T p L T:=⟨Kept.refl h ho,fun _ _ _ =>rfl⟩
variable {p1:Pool} {L1:List Slot} {T1:Tab}
theorem Seen.trans {p2:Pool} {L2:List Slot} {T2:Tab} (h:Seen F hold rl p L T p1 L1 T1) (k:Seen F hold rl p1 L1 T1 p2 L2 T2):Seen F hold rl p L T p2 L2 T2:=
 ⟨h.kept.trans k.kept,fun g i hi=>(k.cont g i hi).trans (h.cont g i hi)⟩
variable {pg:Nat} {e:Int} {p':Pool} {L':List Slot} {T':Tab}
theorem aX.seen (h:aX F hold r pg p L T e l p' L' T') (hr:(Rg.find rl ((pg:Int)*4096)).1=r):Seen F hold rl p L T p' L' T':=by
 refine⟨h.kept,fun g i hi=>?_⟩;cases hg:T.lf g with
 |some y=>
  obtain⟨y',h1,_,h3⟩:=h.kept.keep g y hg;rw[aV hg,aV h1,h3 i hi]
 |none=>
  rw[bQ hg];by_cases e1:g=pg
  ·subst e1;by_cases he:e=0
   ·obtain⟨h1,h2⟩:=h.got he;rw[aV h1,(h2 hg).2 i hi];unfold oA;rw[hr]
   ·obtain⟨_,h2,_⟩:=h.err he;rw[h2,bQ hg]
  ·rw[bQ (h.rest g e1 hg)]
theorem et.seen (h:et F hold r pg p L T e l p' L' T') (hr:(Rg.find rl ((pg:Int)*4096)).1=r):Seen F hold rl p L T p' L' T':=by
 refine⟨h.kept,fun g i hi=>?_⟩;cases hg:T.lf g with
 |some y=>
  obtain⟨y',h1,_,h3⟩:=h.kept.keep g y hg;rw[aV hg,aV h1,h3 i hi]
 |none=>
  rw[bQ hg];by_cases e1:g=pg
  ·subst e1;have key: ∀y,T'.lf g=some y->p'.dat y.frame i=srcD F r g i:=fun y hy=>h.fresh hg y hy i hi;cases h1:T'.lf g with
   |none=>rw[bQ h1]
   |some y=>
    rw[aV h1,key y h1];unfold oA;rw[hr]
  ·rw[bQ (h.rest g e1 hg)]
theorem sX (x:Nat×Nat) (k:Nat) (h:0<(pst x (k+1)).2):(pst x (k+1)).1 % 4096=0/\(pst x (k+1)).1/4096=(pst x k).1/4096+1:=by
 have e1:(pst x (k+1)).1=(pst x k).1+pm (pst x k):=rfl;have e2:(pst x (k+1)).2=(pst x k).2-pm (pst x k):=rfl;rw[e2]at h;have e3:pm (pst x k)=4096-(pst x k).1 % 4096:=(by unfold pm at h⊢;omega);rw[e1,e3];omega
variable {x:Nat×Nat} {k:Nat}
theorem ji {j:Nat} (zn:j<=k) (h:0<(pst x k).2):0<(pst x j).2:=by
 rcases Nat.eq_zero_or_pos (pst x j).2 with h0|h0
 ·have:=gE h0 (k-j);rw[show j+(k-j)=k by omega]at this;omega
 ·exact h0
theorem lI (x:Nat×Nat) (k:Nat) (h:0<(pst x k).2):(pst x k).1/4096=x.1/4096+k:=by
 induction k with
 |zero=>rfl
 |succ k ih=>
  have h1:=ji (x:=x) (Nat.le_succ k) h;rw[(sX x k h).2,ih h1];omega
theorem jN (x:Nat×Nat) (k:Nat) (h:0<(pst x k).2):k*4096<x.2+4096:=by
 have h1:=lI x k h;have h2:=dm x k;rcases k with _ |k
 ·omega
 ·have h3:=(sX x k h).1;omega
theorem pY (x:Nat×Nat) (k:Nat):(pst x k).2<=x.2:=by
 induction k with
 |zero=>exact vd _
 |succ k ih=>exact vx (Nat.sub_le _ _) ih
theorem pst_byte (x:Nat×Nat) (k:Nat) (i:Nat) (h:0<(pst x k).2) (h1:(pst x k).1<=x.1+i) (h2:x.1+i<(pst x k).1+pm (pst x k)):(x.1+i)/4096=(pst x k).1/4096/\(x.1+i) % 4096=(pst x k).1 % 4096+(x.1+i-(pst x k).1):=by
 have h3:pm (pst x k)<=4096-(pst x k).1 % 4096:=Nat.min_le_right _ _;omega
structure fV (F:List Nd) (hold:Nat->Nat) (rl:List Reg) (x:Nat×Nat) (k:Nat) (p:Pool) (L:List Slot) (T:Tab) (p':Pool) (L':List Slot) (T':Tab):Prop where
 seen:Seen F hold rl p L T p' L' T'
 same: ∀g y,T.lf g=some y->T'.lf g=some y
 there: ∀j,j<k-> ∃l,T'.lf ((pst x j).1/4096)=some l
 only: ∀g,T.lf g=none->(∀j,j<k->g≠(pst x j).1/4096)->T'.lf g=none
 still:(∀j,j<k->T.lf ((pst x j).1/4096)≠none)->p'=p/\L'=L/\T'=T
 pos: ∀j,j<k->0<(pst x j).2
theorem fV.start (h:Sp F hold p L T) (ho:Own p T):fV F hold rl x 0 p L T p L T:=
 ⟨Seen.refl h ho,fun _ _ h=>h,fun j hj=>absurd hj (by omega),fun _ h _ =>h,fun _ =>⟨rfl,rfl,rfl⟩,fun j hj=>absurd hj (by omega)⟩
theorem fV.step (h:fV F hold rl x k p L T p1 L1 T1) (hx:0<(pst x k).2) (hr:(Rg.find rl ((((pst x k).1/4096:Nat):Int)*4096)).1=r) (hb:aX F hold r ((pst x k).1/4096) p1 L1 T1 0 l p' L' T'):fV F hold rl x (k+1) p L T p' L' T':=by
 refine⟨h.seen.trans (hb.seen hr),fun g y hy=>hb.same g y (h.same g y hy),fun j hj=>?_,fun g hg vK=>?_,fun ha=>?_,fun j hj=>(by rcases Nat.lt_or_ge j k with h1|h1;exact h.pos j h1;obtain rfl:j=k:=(by omega);exact hx)⟩
 ·rcases Nat.lt_or_ge j k with h1|h1
  ·obtain⟨y,hy⟩:=h.there j h1;exact⟨y,hb.same _ y hy⟩
  ·obtain rfl:j=k:=(by omega);exact⟨l,(hb.got rfl).1⟩
 ·exact hb.rest g (vK k (by omega)) (h.only g hg fun j hj=>vK j (by omega))
 ·obtain⟨e1,e2,e3⟩:=h.still fun j hj=>ha j (by omega);subst e1 e2 e3;exact(hb.stay (ha k (by omega))).2
structure Short (F:List Nd) (hold:Nat->Nat) (rl:List Reg) (x:Nat×Nat) (p:Pool) (L:List Slot) (T:Tab) (p':Pool) (L':List Slot) (T':Tab):Prop where
 seen:Seen F hold rl p L T p' L' T'
 only: ∀g,T.lf g=none->(∀j,0<(pst x j).2->g≠(pst x j).1/4096)->T'.lf g=none
 full:Full hold p' T'
 gap: ∃j,0<(pst x j).2/\T.lf ((pst x j).1/4096)=none
theorem fV.fail (h:fV F hold rl x k p L T p1 L1 T1) (hx:0<(pst x k).2) (hr:(Rg.find rl ((((pst x k).1/4096:Nat):Int)*4096)).1=r) (hb:aX F hold r ((pst x k).1/4096) p1 L1 T1 e l p' L' T') (he:e≠0):
  e=4/\Short F hold rl x p L T p' L' T':=by
 obtain⟨e1,e2,e3⟩:=hb.err he;subst e2;refine⟨e1,h.seen.trans (hb.seen hr),fun g hg vK=>h.only g hg fun j hj=>vK j (ji (Nat.le_of_lt hj) hx),e3,k,hx,?_⟩;cases hg:T.lf ((pst x k).1/4096)with
 |none=>rfl
 |some y=>exact absurd (hb.stay (by rw[h.same _ y hg];exact fun e=>by cases e)).1 he
structure Owns (F:List Nd) (hold:Nat->Nat) (rl:List Reg) (x:Nat×Nat) (k:Nat) (p:Pool) (L:List Slot) (T:Tab) (all:List Leaf) (p':Pool) (L':List Slot) (T':Tab):Prop where
 seen:Seen F hold rl p L T p' L' T'
 len:all.length=k
 there: ∀j l,all[j]? =some l->T'.lf ((pst x j).1/4096)=some l/\l.copy=false
 only: ∀g,T.lf g=none->(∀j,j<k->g≠(pst x j).1/4096)->T'.lf g=none
 pos: ∀j,j<k->0<(pst x j).2
theorem Owns.start (h:Sp F hold p L T) (ho:Own p T):Owns F hold rl x 0 p L T [] p L T:=
 ⟨Seen.refl h ho,rfl,fun j l h=>by simp at h,fun _ h _ =>h,fun j hj=>absurd hj (by omega)⟩
variable {all:List Leaf}
theorem Owns.step (h:Owns F hold rl x k p L T all p1 L1 T1) (hx:0<(pst x k).2) (hr:(Rg.find rl ((((pst x k).1/4096:Nat):Int)*4096)).1=r) (hb:et F hold r ((pst x k).1/4096) p1 L1 T1 0 l p' L' T'):Owns F hold rl x (k+1) p L T (all++[l]) p' L' T':=by
 refine⟨h.seen.trans (hb.seen hr),by rw[vf,h.len];rfl,fun j y hj=>?_,fun g hg vK=>hb.rest g (vK k (by omega)) (h.only g hg fun j hj=>vK j (by omega)),fun j hj=>(by rcases Nat.lt_or_ge j k with h1|h1;exact h.pos j h1;obtain rfl:j=k:=(by omega);exact hx)⟩;rcases Nat.lt_or_ge j k with h1|h1
 ·rw[vk (by rw[h.len];exact h1)]at hj;obtain⟨h2,h3⟩:=h.there j y hj;refine⟨hb.same _ y (fun e=>?_) h2,h3⟩;have e1:=lI x k hx;have e2:=lI x j (ji (Nat.le_of_lt h1) hx);omega
 ·rw[vj (by rw[h.len];exact h1),h.len]at hj;have zn:j=k:=by
   have:=(List.getElem?_eq_some_iff.1 hj).1;simp at this;omega
  subst zn;simp at hj;subst hj;exact hb.got rfl
theorem Owns.fail (h:Owns F hold rl x k p L T all p1 L1 T1) (hx:0<(pst x k).2) (hr:(Rg.find rl ((((pst x k).1/4096:Nat):Int)*4096)).1=r) (hb:et F hold r ((pst x k).1/4096) p1 L1 T1 e l p' L' T') (he:e≠0):
  e=4/\Seen F hold rl p L T p' L' T'/\(∀g,T.lf g=none->(∀j,0<(pst x j).2->g≠(pst x j).1/4096)->T'.lf g=none)/\Full hold p' T':=by
 obtain⟨e1,e2⟩:=hb.err he;exact⟨e1,h.seen.trans (hb.seen hr),fun g hg vK=>hb.rest g (vK k hx) (h.only g hg fun j hj=>vK j (ji (Nat.le_of_lt hj) hx)),e2⟩
structure Lays (F:List Nd) (hold:Nat->Nat) (rl:List Reg) (x:Nat×Nat) (d:Nat->Nat) (m:Nat) (p:Pool) (L:List Slot) (T:Tab) (p':Pool):Prop where
 sp:Sp F hold p' L T
 far: ∀E,Far hold T E p p'
 own:Own p' T
 cnt:p'.cnt=p.cnt
 byte: ∀g i,i<4096->cont F rl p' T g i=if x.1<=g*4096+i/\g*4096+i<x.1+m then d (g*4096+i-x.1)else cont F rl p T g i
variable {d:Nat->Nat}
theorem Lays.start (h:Sp F hold p L T) (ho:Own p T):Lays F hold rl x d 0 p L T p:=
 ⟨h,fun _ =>Far.refl,ho,rfl,fun g i hi=>by rw[if_neg (by omega)]⟩
theorem Lays.step {e:Nat->Nat} (h:Lays F hold rl x d ((pst x k).1-x.1) p L T p1) (hx:0<(pst x k).2) (hl:T.lf ((pst x k).1/4096)=some l) (hc:l.copy=false) (he: ∀i,i<pm (pst x k)->e i=d ((pst x k).1-x.1+i)):
  Lays F hold rl x d ((pst x (k+1)).1-x.1) p L T (p1.store l.frame (laid (p1.dat l.frame) e ((pst x k).1 % 4096) (pm (pst x k)))):=by
 have h1:=h.own _ l hl hc;obtain⟨s1,s2,s3⟩:=h.sp.store hl h1 (laid (p1.dat l.frame) e ((pst x k).1 % 4096) (pm (pst x k)));have e1:(pst x (k+1)).1=(pst x k).1+pm (pst x k):=rfl;have e2:pm (pst x k)<=4096-(pst x k).1 % 4096:=Nat.min_le_right _ _;have e3:x.1<=(pst x k).1:=(by have:=dm x k;have:=pY x k;omega);refine⟨s1,fun E=>(h.far E).trans h.sp (s2 E),s3 h.own,h.cnt,fun g i hi=>?_⟩;by_cases hg:g=(pst x k).1/4096
 ·subst hg;have h4:=h.byte ((pst x k).1/4096) i hi;rw[aV hl]at h4⊢;show upd p1.dat l.frame _ l.frame i=_;rw[af,e1];unfold laid;split
  ·rename_i h5;rw[he _ (by omega),if_pos (by omega)];congr 1;omega
  ·rename_i h5;rw[h4];by_cases h6:x.1<=(pst x k).1/4096*4096+i/\(pst x k).1/4096*4096+i<x.1+((pst x k).1-x.1)
   ·rw[if_pos h6,if_pos (by omega)]
   ·rw[if_neg h6,if_neg (by omega)]
 ·have h4:=h.byte g i hi;have h5:cont F rl (p1.store l.frame (laid (p1.dat l.frame) e ((pst x k).1 % 4096) (pm (pst x k)))) T g i=cont F rl p1 T g i:=by
   cases hy:T.lf g with
   |none=>rw[bQ hy,bQ hy]
   |some y=>
    rw[aV hy,aV hy];refine congrFun (show upd p1.dat l.frame _ y.frame=_ from ag _ _ fun e=>?_) i;obtain⟨c1,c2,c3,c4,c5,c6⟩:=h.sp.leaf hl;have h7:=jZ c1 (h.sp.leaf hy).1 hg hl hy e;have h8:=h.sp.eq c3;omega
  rw[h5,h4];by_cases h6:x.1<=g*4096+i/\g*4096+i<x.1+((pst x k).1-x.1)
  ·rw[if_pos h6,if_pos (by omega)]
  ·rw[if_neg h6,if_neg (by omega)]
end
