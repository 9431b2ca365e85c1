/- Spaces, plain: what it comes to to go through a stretch's leaves: to take them away, to turn them. -/
import Derived.Test.YtoochjhipmpehaaGreatDoorKgK
set_option linter.unusedVariables false
set_option linter.unusedSimpArgs false
set_option maxRecDepth 100000
set_option maxHeartbeats 8000000
namespace Go.Proofs.YtoochjhipmpehaaGreatDoor
open Go.Proofs.Tryz
section
def Tab.puts (t:Tab):List (Nat×Leaf):=(t.evs 4 0).flatMap Ev.ls
theorem Tab.evs_part (t:Tab)(x:Nat×Leaf)(lv:Nat): ∀q,x∈(t.evs lv q).flatMap Ev.ls->x.1/512^lv=q:=by
 induction lv with
 |zero=>
  intro q hm;cases hl:t.lf q with
  |none=>rw[Tab.evs_noleaf hl]at hm;simp at hm
  |some l=>
   rw[Tab.evs_leaf hl]at hm;simp[Ev.ls]at hm;subst hm;simp
 |succ lv ih=>
  intro q hm;cases hn:t.nd (lv+1) q with
  |none=>rw[Tab.evs_none hn]at hm;simp at hm
  |some g=>
   rw[Tab.evs_node hn,xo,List.mem_append]at hm;rcases hm with hm|hm
   ·simp[Ev.ls]at hm
   ·rw[Tab.upto,List.flatMap_assoc]at hm;obtain⟨i,hi,Bn⟩:=List.mem_flatMap.1 hm;have h1:=ih _ Bn;have h2:=List.mem_range.1 hi;rw[Nat.pow_succ,<-Nat.div_div_eq_div_mul,h1];omega
variable {pg:Nat}{l:Leaf}
theorem Tab.Ok.evs_full {p:Pool}{t:Tab}(h:t.Ok p)(hl:t.lf pg=some l)(lv:Nat):lv<=4->(pg,l)∈(t.evs lv (part pg lv)).flatMap Ev.ls:=by
 induction lv with
 |zero=>
  intro _;rw[kG,Tab.evs_leaf hl];simp[Ev.ls]
 |succ lv ih=>
  intro yR;obtain⟨g,hg⟩:=bC (h.leafUp hl (lv+1) o_ yR);rw[Tab.evs_node hg,xo,List.mem_append];right;rw[Tab.upto,List.flatMap_assoc];have h1:=ir pg (lv+1) o_;rw[Nat.add_sub_cancel]at h1;exact List.mem_flatMap.2 ⟨num pg (lv+1),List.mem_range.2 (ce _ _),by rw[h1];exact ih o_⟩
theorem Tab.Ok.puts_mem {p:Pool}{t:Tab}(h:t.Ok p) :(pg,l)∈t.puts↔t.lf pg=some l:=by
 constructor
 ·exact t.evs_sound pg l 4 0
 ·intro hl;have h1:=h.evs_full hl 4 o_
  rwa [iu pg (h.rootPage hl)]at h1
theorem Tab.evs_rising (t:Tab)(lv:Nat): ∀q,((t.evs lv q).flatMap Ev.ls).Pairwise (fun a b=>a.1<b.1):=by
 induction lv with
 |zero=>
  intro q;cases hl:t.lf q with
  |none=>rw[Tab.evs_noleaf hl];simp
  |some l=>rw[Tab.evs_leaf hl];simp[Ev.ls]
 |succ lv ih=>
  intro q;cases hn:t.nd (lv+1) q with
  |none=>rw[Tab.evs_none hn];simp
  |some g=>
   rw[Tab.evs_node hn,xo,Tab.upto,List.flatMap_assoc,show Ev.ls (.node g)=[]from rfl,List.nil_append];refine List.pairwise_flatMap.2 ⟨fun i _ =>ih _,?_⟩;refine List.Pairwise.imp ?_ (List.pairwise_lt_range (n:=512));intro i j ER x hx y hy;have h1:=t.evs_part x lv _ hx;have h2:=t.evs_part y lv _ hy;refine Nat.lt_of_not_le fun hle=>?_;have h3:=Nat.div_le_div_right (c:=512^lv) hle;omega
theorem Tab.puts_rising (t:Tab):t.puts.Pairwise (fun a b=>a.1<b.1):=t.evs_rising 4 0
def inSt (f t:Int)(g:Nat):Bool:=decide (f<=(g:Int)*4096/\(g:Int)*4096<t)
variable {f t:Int}{g:Nat}
theorem eY :inSt f t g=true↔f<=(g:Int)*4096/\(g:Int)*4096<t:=by unfold inSt;simp
def bS (l:List (Nat×Leaf))(k g:Nat):Prop:= ∃j x,j<k/\l[j]? =some x/\x.1=g
variable {k:Nat}{x:Nat×Leaf}
theorem bS.succ {l:List (Nat×Leaf)}(hx:l[k]? =some x):bS l (k+1) g↔bS l k g\/x.1=g:=by
 constructor
 ·rintro⟨j,y,h1,h2,h3⟩;rcases Nat.lt_or_ge j k with h4|h4
  ·exact .inl ⟨j,y,h4,h2,h3⟩
  ·obtain rfl:j=k:=o_;rw[hx]at h2;injection h2 with h2;subst h2;exact .inr h3
 ·rintro(⟨j,y,h1,h2,h3⟩|h)
  ·exact⟨j,y,o_,h2,h3⟩
  ·exact⟨k,x,o_,hx,h⟩
theorem bS.all {t:Tab}{p:Pool}(h:t.Ok p)(hk:t.puts.length<=k)(hl:t.lf g=some l):bS t.puts k g:=by
 obtain⟨j,hj,e⟩:=List.mem_iff_getElem.1 (h.puts_mem.2 hl);exact⟨j,(g,l),o_,by rw[wV hj,e],rfl⟩
theorem Tab.Ok.puts_at {p:Pool}{t:Tab}(h:t.Ok p)(hx:t.puts[k]? =some x):t.lf x.1=some x.2:=h.puts_mem.1 (xb hx)
variable {F:List Nd}{hold:Nat->Nat}{p p1 p':Pool}{L:List Slot}{T T1 T':Tab}
open Classical in
structure dk (F:List Nd)(hold:Nat->Nat)(f t:Int)(p:Pool)(L:List Slot)(T:Tab)(k:Nat)(p':Pool)(T':Tab):Prop where
 sp:Sp F hold p' L T'
 lf: ∀g,T'.lf g=if inSt f t g=true/\bS T.puts k g then none else T.lf g
 far: ∀E,Far hold T E p p'
 dat: ∀x,¬an T x->p'.dat x=p.dat x
 cnt: ∀x,x<p.n->p'.cnt x<=p.cnt x
 sub: ∀lv q f,T'.nd lv q=some f->T.nd lv q=some f
 top:T'.nd 4 0=T.nd 4 0
theorem dk.start (h:Sp F hold p L T):dk F hold f t p L T 0 p T:=
 ⟨h,fun g=>by rw[if_neg (fun e=>by obtain⟨j,_,hj,_⟩:=e.2;omega)],fun _ =>Far.refl,fun _ _ =>rfl,fun _ _ =>wS _,fun _ _ _ h=>h,rfl⟩
theorem dk.skip (h:dk F hold f t p L T k p' T')(hx:T.puts[k]? =some x)(hn:inSt f t x.1=false):dk F hold f t p L T (k+1) p' T':=by
 refine⟨h.sp,fun g=>?_,h.far,h.dat,h.cnt,h.sub,h.top⟩;rw[h.lf g];by_cases h1:inSt f t g=true/\bS T.puts k g
 ·rw[if_pos h1,if_pos ⟨h1.1,(bS.succ hx).2 (.inl h1.2)⟩]
 ·rw[if_neg h1,if_neg];rintro⟨h2,h3⟩;rcases(bS.succ hx).1 h3 with h3|h3
  ·exact h1 ⟨h2,h3⟩
  ·rw[<-h3,hn]at h2;cases h2
theorem dk.step {A r:Int}(h:dk F hold f t p L T k p1 T1)(hx:T.puts[k]? =some x)(ym:inSt f t x.1=true)(ht:t<=140737488355328)(hA:A=(x.1:Int)*4096)(hu:UnRes p1 T1 (held L hold) A r p' T'):dk F hold f t p L T (k+1) p' T':=by
 have e:A.toNat/4096=x.1:=o_;unfold UnRes at hu;rw[e]at hu;rcases hu with⟨hr,rfl,rfl,xL⟩|⟨hr,xw,hs,hg⟩
 ·refine⟨h.sp,fun g=>?_,h.far,h.dat,h.cnt,h.sub,h.top⟩;by_cases h1:g=x.1
  ·subst h1;rw[if_pos ⟨ym,(bS.succ hx).2 (.inr rfl)⟩];rcases xL with⟨_,h2⟩|⟨_,_,h2⟩
   ·cases hc:T'.lf x.1 with
    |none=>rfl
    |some l=>
     have h4:=eY.1 ym;omega
   ·exact h2
  ·rw[h.lf g];by_cases h2:inSt f t g=true/\bS T.puts k g
   ·rw[if_pos h2,if_pos ⟨h2.1,(bS.succ hx).2 (.inl h2.2)⟩]
   ·rw[if_neg h2,if_neg];rintro⟨h3,h4⟩;rcases(bS.succ hx).1 h4 with h4|h4
    ·exact h2 ⟨h3,h4⟩
    ·exact h1 h4.symm
 ·obtain⟨a1,a2,a3,a4,a5,a6⟩:=h.sp.unmap hg;refine⟨a1,fun g=>?_,fun E=>(h.far E).trans h.sp (a3 E),fun y hy=>(a4 y fun e=>hy (by obtain⟨lv,q,e⟩:=e;exact⟨lv,q,h.sub _ _ _ e⟩)).trans (h.dat y hy),fun y hy=>xn (a6 y (by rw[(h.far (fun _ =>False)).n];exact hy)) (h.cnt y hy),fun lv q f e=>h.sub _ _ _ (hg.sub _ _ _ e),(hg.top 4 0 (wS _)).trans h.top⟩;rw[a2];by_cases h1:g=x.1
  ·subst h1;rw[af,if_pos ⟨ym,(bS.succ hx).2 (.inr rfl)⟩]
  ·rw[ah _ _ h1,h.lf g];by_cases h2:inSt f t g=true/\bS T.puts k g
   ·rw[if_pos h2,if_pos ⟨h2.1,(bS.succ hx).2 (.inl h2.2)⟩]
   ·rw[if_neg h2,if_neg];rintro⟨h3,h4⟩;rcases(bS.succ hx).1 h4 with h4|h4
    ·exact h2 ⟨h3,h4⟩
    ·exact h1 h4.symm
theorem dk.done (h0:Sp F hold p L T)(h:dk F hold f t p L T k p' T')(hk:T.puts.length<=k)(g:Nat):T'.lf g=if inSt f t g=true then none else T.lf g:=by
 rw[h.lf g];by_cases h1:inSt f t g=true
 ·rw[if_pos h1];cases hl:T.lf g with
  |none=>simp
  |some l=>rw[if_pos ⟨h1,bS.all h0.good.ok hk hl⟩]
 ·rw[if_neg h1,if_neg (fun e=>h1 e.1)]
theorem dk.own (h:dk F hold f t p L T k p' T')(ho:Own p T):Own p' T':=fun g l hl hc=>by
 have h1:=h.lf g;rw[hl]at h1;split at h1
 ·cases h1
 ·have h2:=ho g l h1.symm hc;obtain⟨_,_,c3,c4,_⟩:=h.sp.leaf hl;have h3:=h.cnt l.frame (by rw[<-(h.far (fun _ =>False)).n];exact c3);omega
open Classical in
structure bO (F:List Nd)(hold:Nat->Nat)(φ:Leaf->Leaf)(f t:Int)(p:Pool)(L:List Slot)(T:Tab)(k:Nat)(p':Pool)(T':Tab):Prop where
 sp:Sp F hold p' L T'
 lf: ∀g,T'.lf g=if inSt f t g=true/\bS T.puts k g then(T.lf g).map φ else T.lf g
 far: ∀E,Far hold T E p p'
 dat: ∀x,¬an T x->p'.dat x=p.dat x
 cnt: ∀x,x<p.n->p'.cnt x=p.cnt x
 nd:T'.nd=T.nd
variable {φ:Leaf->Leaf}
theorem bO.start (h:Sp F hold p L T):bO F hold φ f t p L T 0 p T:=
 ⟨h,fun g=>by rw[if_neg (fun e=>by obtain⟨j,_,hj,_⟩:=e.2;omega)],fun _ =>Far.refl,fun _ _ =>rfl,fun _ _ =>rfl,rfl⟩
theorem bO.skip (h:bO F hold φ f t p L T k p' T')(hx:T.puts[k]? =some x)(hn:inSt f t x.1=false):bO F hold φ f t p L T (k+1) p' T':=by
 refine⟨h.sp,fun g=>?_,h.far,h.dat,h.cnt,h.nd⟩;rw[h.lf g];by_cases h1:inSt f t g=true/\bS T.puts k g
 ·rw[if_pos h1,if_pos ⟨h1.1,(bS.succ hx).2 (.inl h1.2)⟩]
 ·rw[if_neg h1,if_neg];rintro⟨h2,h3⟩;rcases(bS.succ hx).1 h3 with h3|h3
  ·exact h1 ⟨h2,h3⟩
  ·rw[<-h3,hn]at h2;cases h2
theorem bO.was (h0:Sp F hold p L T)(h:bO F hold φ f t p L T k p1 T1)(hx:T.puts[k]? =some x)(hφ: ∀l,(φ l).frame=l.frame): ∃was,T1.lf x.1=some was/\was.frame=x.2.frame:=by
 have h1:=h0.good.ok.puts_at hx;have h2:=h.lf x.1;rw[h1]at h2;split at h2
 ·exact⟨_,h2,hφ _⟩
 ·exact⟨_,h2,rfl⟩
theorem bO.step {was:Leaf}(h0:Sp F hold p L T)(h:bO F hold φ f t p L T k p1 T1)(hx:T.puts[k]? =some x)(ym:inSt f t x.1=true)(hφ: ∀l,(φ l).frame=l.frame)(h7:(φ x.2).prot<=7)(hw:T1.lf x.1=some was)(hg:T1.nd 1 (part x.1 1)=some g):
  bO F hold φ f t p L T (k+1) (bc p1 was (φ x.2) g x.1) (T1.lay x.1 (some (φ x.2))):=by
 obtain⟨was',yX,hf⟩:=h.was h0 hx hφ;rw[hw]at yX;injection yX with yX;subst yX;have zM:(φ x.2).frame=was.frame:=(by rw[hφ,hf]);obtain⟨c1,c2,c3,c4,c5,c6⟩:=h.sp.leaf hw;obtain⟨a1,a2,a3,a4,a5⟩:=h.sp.set hw hg h7 (by rw[zM];exact c3) (by rw[zM];exact c6);refine⟨a1,fun y=>?_,fun E=>(h.far E).trans h.sp (a2 E (.inr (by rw[zM];exact c5))),fun y hy=>(a3 y (fun e=>hy (by obtain⟨lv,q,e⟩:=e;rw[h.nd]at e;exact⟨lv,q,e⟩))).trans (h.dat y hy),fun y hy=>?_,h.nd⟩
 ·show upd T1.lf x.1 (some (φ x.2)) y=_;by_cases h1:y=x.1
  ·subst h1;rw[af,if_pos ⟨ym,(bS.succ hx).2 (.inr rfl)⟩,h0.good.ok.puts_at hx];rfl
  ·rw[ah _ _ h1,h.lf y];by_cases h2:inSt f t y=true/\bS T.puts k y
   ·rw[if_pos h2,if_pos ⟨h2.1,(bS.succ hx).2 (.inl h2.2)⟩]
   ·rw[if_neg h2,if_neg];rintro⟨h3,h4⟩;rcases(bS.succ hx).1 h4 with h4|h4
    ·exact h2 ⟨h3,h4⟩
    ·exact h1 h4.symm
 ·have h1:=a5 y (by rw[(h.far (fun _ =>False)).n];exact hy);have h2:=h.cnt y hy;rw[zM]at h1;omega
theorem bO.done (h0:Sp F hold p L T)(h:bO F hold φ f t p L T k p' T')(hk:T.puts.length<=k)(g:Nat):T'.lf g=if inSt f t g=true then(T.lf g).map φ else T.lf g:=by
 rw[h.lf g];by_cases h1:inSt f t g=true
 ·rw[if_pos h1];cases hl:T.lf g with
  |none=>simp
  |some l=>rw[if_pos ⟨h1,bS.all h0.good.ok hk hl⟩]
 ·rw[if_neg h1,if_neg (fun e=>h1 e.1)]
theorem bO.own (h0:Sp F hold p L T)(h:bO F hold φ f t p L T k p' T')(hφ: ∀l,(φ l).frame=l.frame)(hc: ∀l,(φ l).copy=false->l.copy=false)(ho:Own p T):Own p' T':=fun g l hl zm=>by
 have h1:=h.lf g;rw[hl]at h1;have key: ∀y,T.lf g=some y->y.copy=false->y.frame=l.frame->p'.cnt l.frame=1:=fun y hy hyc hyf=>by
  have h2:=ho g y hy hyc;have h3:=(h0.leaf hy).2.2.1;rw[<-hyf,h.cnt _ h3,h2]
 split at h1
 ·cases hy:T.lf g with
  |none=>rw[hy]at h1;cases h1
  |some y=>
   rw[hy]at h1;injection h1 with h1;exact key y hy (hc y (by rw[<-h1];exact zm)) (by rw[h1,hφ])
 ·exact key l h1.symm zm rfl
end
section
variable {F:List Nd}{hold:Nat->Nat}{p p1 p':Pool}{L L1 L':List Slot}{T T1 T1' T' T2 T2' T3 N:Tab}
def sO:Tab:=⟨fun _ _ =>none,fun _ =>none⟩
theorem ga (x:Nat): ¬an sO x:=fun⟨_,_,h⟩=>by cases h
theorem tn_root (r x:Nat):tn (aH r) x=if x=r then 1 else 0:=by
 unfold tn;rw[fA];by_cases e:x=r
 ·rw[if_pos e,ao (cH.2 e)]
 ·rw[if_neg e,aF (fun h=>e (cH.1 h))]
structure jF (H3 rest:Nat->Nat)(T3 N:Tab):Prop where
 ge: ∀x,tn T3 x<=rest x
 eq: ∀x,H3 x=0->rest x=tn T3 x
 no: ∀x,0<tn T3 x-> ¬an N x
theorem tZ {x:Nat}(h:an T x):0<tn T x:=by unfold tn;rw[ao h];omega
theorem kj {x:Nat}(h:0<ai T x):0<tn T x:=by unfold tn;omega
variable {E:Nat->Prop}{H3 rest:Nat->Nat}
theorem Sp.beside {H' more:Nat->Nat}(h1:Sp F H3 p L T3)(hb:jF H3 rest T3 N)(hf:Far rest N E p p')(hE: ∀x,an T3 x-> ¬E x)(h':Sp F H' p' L' T')
  (he: ∀x,x<p.n->p'.cnt x=tn T3 x+(ax L' x+more x)):Sp F more p' L' T3:=by
 refine⟨⟨h1.good.but.same hf.n fun x hx=>hf.dat x (wW (tZ hx) (hb.ge x)) (hb.no x (tZ hx)),fun x hx=>?_⟩,h'.sole,fun x hx=>?_,h'.slow,h'.filled,h'.once⟩
 ·have e1:=he x (by rw[<-hf.n];exact hx);unfold held;simp only[tn]at e1;omega
 ·obtain⟨a1,a2,a3,a4⟩:=h1.alone hx;have e2:=h1.one x hx;have e4:=ao hx;have e5:=hb.eq x a4;have e6:tn T3 x=1:=(by unfold tn;omega);rw[hf.cnt x a1 o_ (hE x hx) o_];omega
theorem Own.beside (ho:Own p T3)(h1:Sp F H3 p L T3)(hb:jF H3 rest T3 N)(hf:Far rest N E p p')(hE: ∀g l,T3.lf g=some l->l.copy=false-> ¬E l.frame):Own p' T3:=fun g l hl zm=>by
 obtain⟨d1,d2,d3,d4,d5,d6⟩:=h1.leaf hl;have e1:=ho g l hl zm;have e2:=h1.eq d3;have e3:=hb.eq l.frame o_;have e6:tn T3 l.frame=1:=(by unfold tn;omega);rw[hf.cnt l.frame d3 o_ (hE g l hl zm) o_];omega
theorem Sp.besideDat (hb:jF H3 rest T3 N)(hf:Far rest N E p p'){x:Nat}(hx:0<tn T3 x):p'.dat x=p.dat x:=hf.dat x (wW hx (hb.ge x)) (hb.no x hx)
theorem Sp.freed (h:Sp F hold p L T):(∀E,Far hold T E p (cD p ((T.evs 4 0).flatMap Ev.fs)))/\(∀x,x<p.n->(cD p ((T.evs 4 0).flatMap Ev.fs)).cnt x=ax L x+hold x):=by
 have hc: ∀x,x<p.n->(cD p ((T.evs 4 0).flatMap Ev.fs)).cnt x=ax L x+hold x:=fun x hx=>by
  rw[oX,h.good.ok.frames_cnt,h.eq hx];omega
 refine⟨fun E=>⟨kZ _ _,fun x _ _ =>by rw[eF],fun x hx h0 _ he=>?_⟩,hc⟩;rw[hc x hx];have:=h.eq hx;omega
def cpy (l:Leaf):Leaf:= { l with copy:=true}
open Classical in
structure bz (F:List Nd)(hold:Nat->Nat)(p:Pool)(L:List Slot)(T1:Tab)(k:Nat)(p':Pool)(L':List Slot)(T2:Tab):Prop where
 one:Sp F (fun x=>hold x+tn T2 x) p' L' T1
 two:Sp F (fun x=>hold x+tn T1 x) p' L' T2
 lf: ∀g,T2.lf g=if bS T1.puts k g then(T1.lf g).map cpy else none
 far:Far (fun x=>hold x+tn T1 x) sO (fun x=>0<ai T1 x) p p'
 sub:L'.Sublist L
theorem bz.start {f:Nat}(h:Sp F hold p L T1)(hn:p.n<=1024)(ht:aw p L 0 f p' L'):bz F hold p L T1 0 p' L' (aH f):=by
 obtain⟨a1,a2,a3,a4,a5⟩:=h.take ht;have hT:=h.even.take h.sole ht;have e1:(fun x=>hold x+tn (aH f) x)=upd hold f 1:=by
  funext x;rw[tn_root];by_cases e:x=f
  ·rw[if_pos e,e,af,a5.hold]
  ·rw[if_neg e,ah _ _ e];rfl
 have h0:hold f+tn T1 f=0:=(by have:=hT.none;simp only[tn];omega);have hG:(aH f).Good p' (held L' fun x=>hold x+tn T1 x) 0 4:=by
  refine kA (by rw[hT.n];exact hn) (by rw[hT.n];exact hT.lt) h0 hT.zero fun x hx=>?_;have:=hT.even x hx;rw[this];by_cases e:x=f
  ·subst e;rw[af,af]
  ·rw[ah _ _ e,ah _ _ e];simp only[tn];omega
 refine⟨by rw[e1];exact a1,⟨hG,a1.sole,fun x hx=>by rw[cH.1 hx];exact hT.one,a1.slow,a1.filled,a1.once⟩,fun g=>by rw[if_neg (fun e=>by obtain⟨j,_,hj,_⟩:=e;omega)];rfl,⟨hT.n,fun x hx _ =>hT.dat x fun e=>by subst e;(try dsimp only at hx);omega,fun x hx h1 _ hc=>?_⟩,hT.sub⟩
 (try dsimp only at h1 hc)
 rw[hT.cnt x fun e=>by subst e;omega];exact hc
variable {k:Nat}{x:Nat×Leaf}
theorem bz.fresh (h:bz F hold p L T1 k p' L' T2)(hx:T1.puts[k]? =some x):T2.lf x.1=none:=by
 rw[h.lf,if_neg];rintro⟨j,y,hj,hy,e⟩;obtain⟨h1,e1⟩:=List.getElem?_eq_some_iff.1 hy;obtain⟨h2,e2⟩:=List.getElem?_eq_some_iff.1 hx;have:=List.pairwise_iff_getElem.1 T1.puts_rising j k h1 h2 hj;rw[e1,e2]at this;omega
theorem bz.beside (h:bz F hold p L T1 k p' L' T2):jF (fun x=>hold x+tn T2 x) (fun x=>hold x+tn T1 x) T1 T2:=
 ⟨fun x=>by(try dsimp only);omega,fun x hx=>by(try dsimp only at hx⊢);omega,fun x hx e=>by have:=(h.two.alone e).2.2.2;(try dsimp only at this);omega⟩
theorem bz.next (h0:Sp F hold p L T1)(h:bz F hold p L T1 k p' L' T2)(hx:T1.puts[k]? =some x):x.1<bN/\x.2.prot<=7/\x.2.frame<p'.n/\1<=p'.cnt x.2.frame/\0<ai T1 x.2.frame/\ ¬an T2 x.2.frame:=by
 obtain⟨c1,c2,c3,c4,c5,c6⟩:=h.one.leaf (h0.good.ok.puts_at hx);exact⟨c1,c2,c3,c4,c5,h.beside.no _ (kj c5)⟩
variable {p2:Pool}
theorem Far.more {T T':Tab}(h:Far hold T E p p1)(hT: ∀x,0<hold x-> ¬an T' x)(k:Far hold T' E p1 p2):Far hold T E p p2:=
 ⟨k.n.trans h.n,fun x hx hn=>(k.dat x hx (hT x hx)).trans (h.dat x hx hn),fun x hx h0 hE hc=>k.cnt x (by rw[h.n];exact hx) h0 hE (h.cnt x hx h0 hE hc)⟩
theorem bz.step (h0:Sp F hold p L T1)(h:bz F hold p L T1 k p1 L1 T2)(hx:T1.puts[k]? =some x)
  (hm:iJ p1 T2 L1 (fun y=>hold y+tn T1 y) x.1 (cpy x.2) 0 p' T2' L')(hf:ly p1 T2 L1 (fun y=>hold y+tn T1 y) (cpy x.2) 0 p' T2' L'):bz F hold p L T1 (k+1) p' L' T2':=by
 obtain⟨c1,c2,c3,c4,c5,c6⟩:=h.next h0 hx;have zM:=h.fresh hx;obtain⟨a1,a2,a3,a4,a5,a6,a7,a8,a9⟩:=h.two.map hm hf c1 zM (by show 0<ax L1 x.2.frame+(hold x.2.frame+tn T1 x.2.frame);have:=kj c5;omega) c3 c6;have Br:=a3 (fun x=>0<ai T1 x) c5;have zI:=h.beside;refine⟨h.one.beside zI Br (fun y hy e=>by have:=(h.one.alone hy).2.1;omega) a1 (fun y hy=>?_),a1,fun g=>?_,h.far.more (fun y hy e=>by have:=(h.two.alone e).2.2.2;omega) Br,a8.trans h.sub⟩
 ·rw[a1.eq (by rw[Br.n];exact hy)];simp only[tn];omega
 ·rw[a2];by_cases e:g=x.1
  ·subst e;rw[af,if_pos ((bS.succ hx).2 (.inr rfl)),h0.good.ok.puts_at hx];rfl
  ·rw[ah _ _ e,h.lf g];by_cases h1:bS T1.puts k g
   ·rw[if_pos h1,if_pos ((bS.succ hx).2 (.inl h1))]
   ·rw[if_neg h1,if_neg (fun h2=>((bS.succ hx).1 h2).elim h1 fun h3=>e h3.symm)]
theorem bz.fail {r:Int}(h0:Sp F hold p L T1)(h:bz F hold p L T1 k p1 L1 T2)(hx:T1.puts[k]? =some x)(hr:r≠0)
  (hm:iJ p1 T2 L1 (fun y=>hold y+tn T1 y) x.1 (cpy x.2) r p' T2' L')(hf:ly p1 T2 L1 (fun y=>hold y+tn T1 y) (cpy x.2) r p' T2' L'):
  r=4/\T2'=T2/\bz F hold p L T1 k p' L' T2/\Full (fun y=>hold y+tn T1 y) p1 T2:=by
 obtain⟨c1,c2,c3,c4,c5,c6⟩:=h.next h0 hx;obtain⟨e4,eT,a1,a2,a3,a4,⟨gs,g1,g2⟩,a6⟩:=h.two.mapNot hm hf hr c6;refine⟨e4,eT,⟨h.one.beside h.beside (a2 (fun x=>0<ai T1 x)) (fun y hy e=>by have:=(h.one.alone hy).2.1;omega) a1 (fun y hy=>?_),a1,h.lf,h.far.more (fun y hy e=>by have:=(h.two.alone e).2.2.2;omega) (a2 _),a6.trans h.sub⟩,x.2.frame::gs,t_,fun f hf=>?_⟩
 ·rw[a1.eq (by rw[(a2 (fun _ =>False)).n];exact hy)];simp only[tn];omega
 ·rcases g2 f hf (h.two.once f)with h1|h1|h1
  ·exact .inl h1
  ·exact .inr (by rw[h1];exact xl ..)
  ·exact .inr (xk _ h1)
theorem bz.farOne (h0:Sp F hold p L T1)(h:Far (fun x=>hold x+tn T1 x) sO (fun x=>0<ai T1 x) p p2):Far hold T1 E p p2:=
 ⟨h.n,fun x hx _ =>h.dat x (by(try dsimp only);omega) (ga x),fun x hx h1 _ hc=>by
  have e1:=h0.eq hx;have e2:=h.cnt x hx (by(try dsimp only);omega) (by show¬0<ai T1 x;omega) (by simp only[tn];omega);simp only[tn]at e2;omega⟩
theorem bz.undo (h0:Sp F hold p L T1)(h:bz F hold p L T1 k p1 L1 T2):
  Sp F hold (cD p1 ((T2.evs 4 0).flatMap Ev.fs)) L1 T1/\(∀E,Far hold T1 E p (cD p1 ((T2.evs 4 0).flatMap Ev.fs)))/\(∀x,0<ai T1 x->(cD p1 ((T2.evs 4 0).flatMap Ev.fs)).dat x=p.dat x)/\(Own p T1->Own (cD p1 ((T2.evs 4 0).flatMap Ev.fs)) T1):=by
 obtain⟨b1,b2⟩:=h.two.freed;have Br:Far (fun x=>hold x+tn T1 x) sO (fun x=>0<ai T1 x) p (cD p1 ((T2.evs 4 0).flatMap Ev.fs)):=h.far.more (fun y hy e=>by have:=(h.two.alone e).2.2.2;omega) (b1 _);have TP:Sp F (fun x=>hold x+tn T2 x) p1 L1 T1:=h.one;have hn:(cD p1 ((T2.evs 4 0).flatMap Ev.fs)).n=p1.n:=kZ _ _;have hS:Sp F hold (cD p1 ((T2.evs 4 0).flatMap Ev.fs)) L1 T1:=by
  refine⟨⟨h.one.good.but.same hn fun x _ =>by rw[eF],fun x hx=>?_⟩,h.one.sole,fun x hx=>?_,fun s hs=>by rw[hn];exact h.one.slow s hs,fun s hs=>by rw[eF];exact h.one.filled s hs,h.one.once⟩
  ·rw[b2 x (by rw[<-hn];exact hx)];unfold held;simp only[tn];omega
  ·obtain⟨d1,d2,d3,d4⟩:=h.one.alone hx;rw[b2 x d1];have:=ao hx;simp only[tn]at d4⊢;omega
 refine⟨hS,fun E=>bz.farOne h0 Br,fun x hx=>Br.dat x (by have:=kj hx;(try dsimp only);omega) (ga x),fun ho g l hl hc=>?_⟩;obtain⟨c1,c2,c3,c4,c5,c6⟩:=h0.leaf hl;have e1:=ho g l hl hc;have e2:=h0.eq c3;have e3:ax L1 l.frame<=ax L l.frame:=List.Sublist.countP_le h.sub;have e4:=hS.eq (x:=l.frame) (by rw[Br.n];exact c3);omega
open Classical in
structure iL (F:List Nd)(hold:Nat->Nat)(p:Pool)(L:List Slot)(T1:Tab)(p':Pool)(L':List Slot)(T1' T2:Tab):Prop where
 one:Sp F (fun x=>hold x+tn T2 x) p' L' T1'
 two:Sp F (fun x=>hold x+tn T1' x) p' L' T2
 lf1: ∀g,T1'.lf g=(T1.lf g).map cpy
 lf2: ∀g,T2.lf g=(T1.lf g).map cpy
 own1:Own p' T1'
 own2:Own p' T2
 far: ∀E,Far hold T1 E p p'
 dat: ∀x,0<ai T1 x->p'.dat x=p.dat x
 nd:T1'.nd=T1.nd
 sub:L'.Sublist L
variable {f t:Int}
theorem rz (h0:f<=0)(h1:18446744073709551615<=t){g:Nat}(hg:g<bN):inSt f t g=true:=by
 rw[eY];unfold bN at hg;omega
theorem bz.done (h0:Sp F hold p L T1)(h:bz F hold p L T1 k p1 L1 T2)(hk:T1.puts.length<=k)(hf:f<=0)(ht:18446744073709551615<=t){j:Nat}(hT:bO F (fun x=>hold x+tn T2 x) cpy f t p1 L1 T1 j p' T1')(hj:T1.puts.length<=j):
  iL F hold p L T1 p' L1 T1' T2:=by
 have xW: ∀g,T2.lf g=(T1.lf g).map cpy:=fun g=>by
  rw[h.lf g];cases hl:T1.lf g with
  |none=>simp
  |some l=>rw[if_pos (bS.all h0.good.ok hk hl)]
 have yN: ∀g,T1'.lf g=(T1.lf g).map cpy:=fun g=>by
  rw[hT.done h.one hj g];cases hl:T1.lf g with
  |none=>simp
  |some l=>rw[if_pos (rz hf ht (h0.leaf hl).1)]
 have zI:jF (fun x=>hold x+tn T1 x) (fun x=>hold x+tn T2 x) T2 T1:=⟨fun x=>by(try dsimp only);omega,fun x hx=>by(try dsimp only at hx⊢);omega,fun x hx e=>by have:=(h.one.alone e).2.2.2;(try dsimp only at this);omega⟩;have zm: ∀ {X:Tab} {q:Pool},(∀g,X.lf g=(T1.lf g).map cpy)->Own q X:=fun hX g l hl hc=>by
  rw[hX g]at hl;cases hy:T1.lf g with
  |none=>rw[hy]at hl;cases hl
  |some y=>
   rw[hy]at hl;injection hl with hl;rw[<-hl]at hc;cases hc
 refine⟨hT.sp,h.two.beside zI (hT.far (fun _ =>False)) (fun _ _ e=>e) hT.sp (fun x hx=>?_),yN,xW,zm yN,zm xW,fun E=>?_,fun x hx=>?_,hT.nd,h.sub⟩
 ·rw[hT.sp.eq (by rw[(hT.far (fun _ =>False)).n];exact hx)];simp only[tn];omega
 ·have hA:Far hold T1 (fun _ =>False) p p1:=bz.farOne h0 h.far;have hB:=hT.far (fun _ =>False);refine⟨hB.n.trans hA.n,fun x hx hn=>(hT.dat x hn).trans (hA.dat x hx hn),fun x hx h1 _ hc=>?_⟩;rw[hT.cnt x (by rw[hA.n];exact hx)];exact hA.cnt x hx h1 (fun e=>e) hc
 ·exact(hT.dat x fun e=>by have:=(h0.alone e).2.1;omega).trans (h.far.dat x (by have:=kj hx;(try dsimp only);omega) (ga x))
end
section
noncomputable def tnO:Option Tab->Nat->Nat
 |some T,x=>tn T x
 |none,_ =>0
noncomputable def tnS (Ts:List (Option Tab))(x:Nat):Nat:=(Ts.map fun o=>tnO o x).sum
theorem gL (x:Nat):tnS [] x=0:=rfl
theorem bM (o:Option Tab)(Ts:List (Option Tab))(x:Nat):tnS (o::Ts) x=tnO o x+tnS Ts x:=by simp[tnS]
theorem fU (a b:List (Option Tab))(x:Nat):tnS (a++b) x=tnS a x+tnS b x:=by simp[tnS]
theorem mo {Ts:List (Option Tab)}{k:Nat}{o:Option Tab}(h:Ts[k]? =some o)(o':Option Tab)(x:Nat):tnS (Ts.set k o') x+tnO o x=tnS Ts x+tnO o' x:=by
 induction Ts generalizing k with
 |nil=>simp at h
 |cons a Ts ih=>
  cases k with
  |zero=>
   simp at h;subst h;rw[List.set_cons_zero,bM,bM];omega
  |succ k=>
   simp at h;rw[List.set_cons_succ,bM,bM];have:=ih h;omega
theorem dp {Ts:List (Option Tab)}{k:Nat}{T:Tab}(h:Ts[k]? =some (some T))(x:Nat):tnS Ts x=tnS (Ts.set k none) x+tn T x:=by
 have:=mo h none x;simp only[tnO]at this;omega
theorem pC {Ts:List (Option Tab)}{k:Nat}{T:Tab}(h:Ts[k]? =some (some T))(T':Tab)(x:Nat):tnS (Ts.set k (some T')) x=tnS (Ts.set k none) x+tn T' x:=by
 have h1:=mo h none x;have h2:=mo h (some T') x;simp only[tnO]at h1 h2;omega
structure Hs (F:List Nd)(p:Pool)(L:List Slot)(Ts:List (Option Tab)):Prop where
 sole:Sole L
 slow: ∀s∈L,s.frame<p.n
 filled:lz F p L
 once: ∀x,ax L x<=1
 few:p.n<=1024
 cnt: ∀x,x<p.n->p.cnt x=tnS Ts x+ax L x
 but: ∀(j:Nat) (T:Tab),Ts[j]? =some (some T)->T.But p 0 4
 one: ∀(j:Nat) (T:Tab),Ts[j]? =some (some T)-> ∀x,an T x->p.cnt x=1
 own: ∀(j:Nat) (T:Tab),Ts[j]? =some (some T)->Own p T
variable {F:List Nd}{p p':Pool}{L L':List Slot}{Ts Ts':List (Option Tab)}{T T' T2 N:Tab}{k j:Nat}
theorem Hs.at_ (h:Hs F p L Ts)(hk:Ts[k]? =some (some T)):Sp F (tnS (Ts.set k none)) p L T:=by
 refine⟨⟨h.but k T hk,fun x hx=>?_⟩,h.sole,h.one k T hk,h.slow,h.filled,h.once⟩;rw[h.cnt x hx,dp hk];unfold held;simp only[tn];omega
theorem pB (hk:Ts[k]? =some (some T))(hj:Ts[j]? =some (some T'))(xA:j≠k)(x:Nat): ∃r,tnS (Ts.set k none) x=tn T' x+r/\tnS (Ts.set j none) x=tn T x+r:=by
 have h1:=dp hk x;have h2:=dp hj x;have RP:(Ts.set k none)[j]? =some (some T'):=(by rw[List.getElem?_set_ne (fun e=>xA e.symm)];exact hj);have h3:=dp RP x;exact⟨tnS ((Ts.set k none).set j none) x,o_,o_⟩
theorem Hs.beside (h:Hs F p L Ts)(hk:Ts[k]? =some (some T))(hj:Ts[j]? =some (some T'))(xA:j≠k):jF (tnS (Ts.set j none)) (tnS (Ts.set k none)) T' T:=by
 refine⟨fun x=>?_,fun x hx=>?_,fun x hx e=>?_⟩
 ·obtain⟨r,h1,h2⟩:=pB hk hj xA x;omega
 ·obtain⟨r,h1,h2⟩:=pB hk hj xA x;omega
 ·obtain⟨r,h1,h2⟩:=pB hk hj xA x;have:=((h.at_ hk).alone e).2.2.2;omega
theorem Hs.besideNo (h:Hs F p L Ts)(hj:Ts[j]? =some (some T')):jF (tnS (Ts.set j none)) (tnS Ts) T' sO:=by
 refine⟨fun x=>?_,fun x hx=>?_,fun x _ e=>ga x e⟩
 ·have:=dp hj x;omega
 ·have:=dp hj x;omega
theorem Hs.turn {rest:Nat->Nat}(h:Hs F p L Ts)(hf:Far rest N (fun _ =>False) p p'){H':Nat->Nat}{T0:Tab}(h':Sp F H' p' L' T0)
  (hold: ∀(i:Nat) (T1:Tab),Ts'[i]? =some (some T1)->(∃j,Ts[j]? =some (some T1)/\jF (tnS (Ts.set j none)) rest T1 N)\/(Sp F (tnS (Ts'.set i none)) p' L' T1/\Own p' T1))
  (ze: ∀x,x<p.n->p'.cnt x=tnS Ts' x+ax L' x):Hs F p' L' Ts':=by
 have key: ∀(i:Nat) (T1:Tab),Ts'[i]? =some (some T1)->Sp F (tnS (Ts'.set i none)) p' L' T1/\Own p' T1:=fun i T1 hi=>by
  rcases hold i T1 hi with⟨j,hj,hb⟩|h1
  ·have hs:=h.at_ hj;refine⟨hs.beside hb hf (fun _ _ e=>e) h' (fun x hx=>?_),(h.own j T1 hj).beside hs hb hf (fun _ _ _ _ e=>e)⟩;rw[ze x hx,dp hi];omega
  ·exact h1
 exact⟨h'.sole,h'.slow,h'.filled,h'.once,by rw[hf.n];exact h.few,fun x hx=>ze x (by rw[<-hf.n];exact hx),fun i T1 hi=>(key i T1 hi).1.good.but,fun i T1 hi=>(key i T1 hi).1.one,fun i T1 hi=>(key i T1 hi).2⟩
theorem bJ {α:Type}{l:List α}{k i:Nat}{x y:α}(h:(l.set k x)[i]? =some y):(i=k/\y=x/\k<l.length)\/(i≠k/\l[i]? =some y):=by
 by_cases e:i=k
 ·subst e;rw[List.getElem?_set_self']at h;cases hl:l[i]? with
  |none=>rw[hl]at h;cases h
  |some z=>
   rw[hl]at h;injection h with h;exact .inl ⟨rfl,h.symm,(List.getElem?_eq_some_iff.1 hl).1⟩
 ·rw[List.getElem?_set_ne (fun e2=>e e2.symm)]at h;exact .inr ⟨e,h⟩
theorem Hs.step (h:Hs F p L Ts)(hk:Ts[k]? =some (some T))(hf:Far (tnS (Ts.set k none)) T (fun _ =>False) p p')(h':Sp F (tnS (Ts.set k none)) p' L' T')(ho:Own p' T'):Hs F p' L' (Ts.set k (some T')):=by
 refine h.turn hf h' (fun i T1 hi=>?_) (fun x hx=>?_)
 ·rcases bJ hi with⟨rfl,e,_⟩|⟨xA,hi⟩
  ·injection e with e;subst e;exact .inr ⟨by rw[List.set_set];exact h',ho⟩
  ·exact .inl ⟨i,hi,h.beside hk hi xA⟩
 ·rw[h'.eq (by rw[hf.n];exact hx),pC hk];simp only[tn];omega
theorem fV {α:Type}{l:List α}{k:Nat}{x:α}(h:l[k]? =some x):l.set k x=l:=by
 refine List.ext_getElem? fun i=>?_;by_cases e:i=k
 ·subst e;rw[List.getElem?_set_self',h];rfl
 ·rw[List.getElem?_set_ne (fun e2=>e e2.symm)]
theorem Hs.same (h:Hs F p L Ts)(hk:Ts[k]? =some (some T))(hf:Far (tnS (Ts.set k none)) T (fun _ =>False) p p')(h':Sp F (tnS (Ts.set k none)) p' L' T)(ho:Own p' T):Hs F p' L' Ts:=by
 have h1:=h.step hk hf h' ho
 rwa [fV hk]at h1
theorem Hs.gone (h:Hs F p L Ts)(hk:Ts[k]? =some (some T)):Hs F (cD p ((T.evs 4 0).flatMap Ev.fs)) L (Ts.set k none):=by
 obtain⟨b1,b2⟩:=(h.at_ hk).freed;have hn:(cD p ((T.evs 4 0).flatMap Ev.fs)).n=p.n:=kZ _ _;have key: ∀(i:Nat) (T1:Tab),(Ts.set k none)[i]? =some (some T1)->i≠k/\Ts[i]? =some (some T1):=fun i T1 hi=>by
  rcases bJ hi with⟨_,e,_⟩|h1
  ·cases e
  ·exact h1
 have hs: ∀(i:Nat) (T1:Tab),(Ts.set k none)[i]? =some (some T1)->Sp F (tnS ((Ts.set k none).set i none)) (cD p ((T.evs 4 0).flatMap Ev.fs)) L T1:=fun i T1 hi=>by
  obtain⟨xA,Bn⟩:=key i T1 hi;have h1:=h.at_ Bn;have hb:=h.beside hk Bn xA;have hf:=b1 (fun _ =>False);have hc: ∀x,x<p.n->(cD p ((T.evs 4 0).flatMap Ev.fs)).cnt x=tn T1 x+(ax L x+tnS ((Ts.set k none).set i none) x):=fun x hx=>by
   rw[b2 x hx,dp hi];omega
  refine⟨⟨h1.good.but.same hn fun x _ =>by rw[eF],fun x hx=>?_⟩,h.sole,fun x hx=>?_,fun s hs=>by rw[hn];exact h.slow s hs,fun s hs=>by rw[eF];exact h.filled s hs,h.once⟩
  ·rw[hc x (by rw[<-hn];exact hx)];unfold held;simp only[tn]
  ·obtain⟨a1,a2,a3,a4⟩:=h1.alone hx;have e1:=h1.one x hx;have e2:=hb.eq x a4;have e3:=ao hx;have e6:tn T1 x=1:=(by unfold tn;omega);rw[hf.cnt x a1 o_ (fun e=>e) o_];omega
 refine⟨h.sole,fun s hs=>by rw[hn];exact h.slow s hs,fun s hs=>by rw[eF];exact h.filled s hs,h.once,by rw[hn];exact h.few,fun x hx=>?_,fun i T1 hi=>(hs i T1 hi).good.but,fun i T1 hi=>(hs i T1 hi).one,fun i T1 hi=>?_⟩
 ·rw[b2 x (by rw[<-hn];exact hx)];omega
 ·obtain⟨xA,Bn⟩:=key i T1 hi;exact(h.own i T1 Bn).beside (h.at_ Bn) (h.beside hk Bn xA) (b1 (fun _ =>False)) (fun _ _ _ _ e=>e)
theorem Hs.more {f:Nat}(h:Hs F p L Ts)(ht:aw p L 0 f p' L'):Hs F p' L' (Ts++[some (aH f)]):=by
 have Sd:Even p L (tnS Ts):=fun x hx=>by rw[h.cnt x hx];omega
 have hT:=Sd.take h.sole ht;have hle: ∀x,ax L' x<=ax L x:=fun x=>List.Sublist.countP_le hT.sub;have hf:Far (tnS Ts) sO (fun _ =>False) p p':=⟨hT.n,fun x hx _ =>hT.dat x fun e=>by subst e;have:=hT.none;omega,fun x hx h1 _ hc=>by
  rw[hT.cnt x fun e=>by subst e;have:=hT.none;omega];exact hc⟩
 have hG:(aH f).Good p' (held L' (tnS Ts)) 0 4:=kA (by rw[hT.n];exact h.few) (by rw[hT.n];exact hT.lt) hT.none hT.zero hT.even;have h':Sp F (tnS Ts) p' L' (aH f):=⟨hG,hT.sole,fun x hx=>by rw[cH.1 hx];exact hT.one,fun s hs=>by rw[hT.n];exact h.slow s (hT.sub.subset hs),hT.filled h.filled,fun x=>xn (hle x) (h.once x)⟩;have yq:(Ts++[some (aH f)]).set Ts.length none=Ts++[none]:=(by rw[List.set_append_right _ _ (wS _)];simp);refine h.turn hf h' (fun i T1 hi=>?_) (fun x hx=>?_)
 ·rcases Nat.lt_or_ge i Ts.length with h1|h1
  ·rw[wZ h1]at hi;exact .inl ⟨i,hi,h.besideNo hi⟩
  ·have h2:i=Ts.length:=by
    have:=(List.getElem?_eq_some_iff.1 hi).1;simp at this;omega
   subst h2;rw[wY (wS _)]at hi;simp at hi;subst hi;refine .inr ⟨?_,fun g l hl _ =>by cases hl⟩;rw[yq];have e:tnS (Ts++[none])=tnS Ts:=(by funext x;rw[fU,bM,gL];simp[tnO]);rw[e];exact h'
 ·rw[h'.eq (by rw[hT.n];exact hx),fU,bM,gL];simp only[tnO,tn];omega
theorem set_last {α:Type}{l:List α}{n:Nat}{x y:α}(h:l.length=n):(l++[x]).set n y=l++[y]:=by
 subst h
 induction l with
 |nil=>rfl
 |cons a l ih=>
  show a::(l++[x]).set l.length y=_;rw[ih];rfl
theorem ua:tnS (Ts++[none])=tnS Ts:=by
 funext x;rw[fU,bM,gL];show tnS Ts x+(0+0)=_;omega
theorem kl (x:Nat):tnS (Ts++[some T]) x=tnS Ts x+tn T x:=by
 rw[fU,bM,gL];show tnS Ts x+(tn T x+0)=_;rw[Nat.add_zero]
theorem Hs.forks1 (hk:Ts[k]? =some (some T)):tnS ((Ts.set k (some T')++[some T2]).set k none)=fun x=>tnS (Ts.set k none) x+tn T2 x:=by
 have zz:k<Ts.length:=(List.getElem?_eq_some_iff.1 hk).1;rw[List.set_append_left _ _ (by rw[List.length_set];exact zz),List.set_set];funext x;exact kl x
theorem Hs.forks2 (hk:Ts[k]? =some (some T)):tnS ((Ts.set k (some T')++[some T2]).set Ts.length none)=fun x=>tnS (Ts.set k none) x+tn T' x:=by
 rw[set_last List.length_set,ua];funext x;exact pC hk T' x
theorem Hs.forks (h:Hs F p L Ts)(hk:Ts[k]? =some (some T))(hd:iL F (tnS (Ts.set k none)) p L T p' L' T' T2):Hs F p' L' (Ts.set k (some T')++[some T2]):=by
 have hf:=hd.far (fun _ =>False);have hl:(Ts.set k (some T')).length=Ts.length:=List.length_set;refine h.turn hf hd.one (fun i T1 hi=>?_) (fun x hx=>?_)
 ·rcases Nat.lt_or_ge i Ts.length with h1|h1
  ·rw[wZ (by rw[hl];exact h1)]at hi;rcases bJ hi with⟨rfl,e,_⟩|⟨xA,hi⟩
   ·injection e with e;subst e;exact .inr ⟨by rw[Hs.forks1 hk];exact hd.one,hd.own1⟩
   ·exact .inl ⟨i,hi,h.beside hk hi xA⟩
  ·have h2:i=Ts.length:=by
    have:=(List.getElem?_eq_some_iff.1 hi).1;rw[wU,hl,xc]at this;omega
   subst h2;rw[wY (by rw[hl];exact wS _),hl,Nat.sub_self]at hi;injection hi with hi;injection hi with hi;subst hi;exact .inr ⟨by rw[Hs.forks2 hk];exact hd.two,hd.own2⟩
 ·have h9:=hd.one.eq (x:=x) (by rw[hf.n];exact hx);have h8:=kl (Ts:=Ts.set k (some T')) (T:=T2) x;have h7:=pC hk T' x;have h6:tn T' x=ai T' x+ay T' x:=rfl;omega
end
section
variable {t:Tab}{x:Nat}
theorem jx (h:0<ai t x): ∃g l,t.lf g=some l/\l.frame=x:=by
 refine xe fun xL=>?_;have h0:ai t x=0:=by
  refine eG.2 fun i _ =>?_;cases hl:t.lf i with
  |none=>exact dG hl
  |some l=>
   rw[dH hl];rw[xf];exact fun e=>xL ⟨i,l,hl,e⟩
 omega
variable {p:Pool}
theorem Tab.Ok.under (h:t.Ok p)(lv:Nat): ∀q f,t.nd lv q=some f->lv<4-> ∃g l,t.lf g=some l/\part g lv=q:=by
 induction lv with
 |zero=>intro q f hf _;have:=(h.level _ _ _ hf).1;omega
 |succ lv ih=>
  intro q f hf h4;obtain⟨k,hk,hw⟩:=h.full _ _ _ hf h4;have ht:=(t.word_there lv q k).1 hw;cases lv with
  |zero=>
   obtain⟨l,hl⟩:=bC (show(t.lf (q*512+k)).isSome=true from ht);refine⟨q*512+k,l,hl,?_⟩;unfold part;omega
  |succ lv=>
   obtain⟨f',KB⟩:=bC (show(t.nd (lv+1) (q*512+k)).isSome=true from ht);obtain⟨g,l,hl,hg⟩:=ih _ _ KB o_;exact⟨g,l,hl,by rw[<-mK,hg];omega⟩
def Tab.names (t:Tab)(G:List Nat):List Nat:=(t.nd 4 0).toList++G.flatMap fun g=>((t.lf g).map (·.frame)).toList++((t.nd 1 (part g 1)).toList++((t.nd 2 (part g 2)).toList++(t.nd 3 (part g 3)).toList))
theorem gN {α:Type}(o:Option α):o.toList.length<=1:=by cases o<;>simp
theorem Tab.names_len (t:Tab)(G:List Nat):(t.names G).length<=1+4*G.length:=by
 unfold Tab.names;rw[wU];have h1:=gN (t.nd 4 0);have h2:(G.flatMap fun g=>((t.lf g).map (·.frame)).toList++((t.nd 1 (part g 1)).toList++((t.nd 2 (part g 2)).toList++(t.nd 3 (part g 3)).toList))).length<=4*G.length:=by
  induction G with
  |nil=>simp
  |cons g G ih=>
   rw[xo,wU,wU,wU,wU,xd];have a1:=gN ((t.lf g).map (·.frame));have a2:=gN (t.nd 1 (part g 1));have a3:=gN (t.nd 2 (part g 2));have a4:=gN (t.nd 3 (part g 3));omega
 omega
variable {G:List Nat}
theorem Tab.Ok.named (h:t.Ok p)(hG: ∀g l,t.lf g=some l->g∈G)(hx:0<ai t x+ay t x):x∈t.names G:=by
 unfold Tab.names;rw[List.mem_append,List.mem_flatMap];rcases Nat.eq_zero_or_pos (ai t x)with h0|h0
 ·have hn:an t x:=xe fun e=>by rw[aF e]at hx;omega
  obtain⟨lv,q,hq⟩:=hn;obtain⟨l1,l2⟩:=h.level _ _ _ hq;by_cases h4:lv=4
  ·subst h4;have:=h.only _ _ hq;subst this;exact .inl (by rw[hq];simp)
  ·obtain⟨g,l,hl,hg⟩:=h.under lv q x hq o_;refine .inr ⟨g,hG g l hl,?_⟩;subst hg;obtain h1|h1|h1:lv=1\/lv=2\/lv=3:=o_
   ·subst h1;rw[hq];simp
   ·subst h1;rw[hq];simp
   ·subst h1;rw[hq];simp
 ·obtain⟨g,l,hl,e⟩:=jx h0;exact .inr ⟨g,hG g l hl,by rw[hl];simp[e]⟩
theorem qC: ∀(n:Nat) (us:List Nat),(∀f,f<n->f∈us)->n<=us.length
 |0,_,_ =>xm _
 |n+1,us,h=>by
  have h1:=h n o_;have h2:=qC n (us.erase n) fun f hf=>(List.mem_erase_of_ne o_).2 (h f o_);have h3:=List.length_erase_of_mem h1;have h4:=List.length_pos_of_mem h1;omega
variable {hold:Nat->Nat}
theorem Full.few (h:Full hold p t)(hk:t.Ok p){us:List Nat}(hG: ∀g l,t.lf g=some l->g∈G)(hu: ∀x,0<hold x->x∈us):p.n<=us.length+(1+4*G.length)+3:=by
 obtain⟨gs,h1,h2⟩:=h;have h3:=qC p.n (us++(t.names G++gs)) fun f hf=>by
  rw[List.mem_append,List.mem_append];rcases h2 f hf with h3|h3
  ·by_cases h4:0<hold f
   ·exact .inl (hu f h4)
   ·exact .inr (.inl (hk.named hG o_))
  ·exact .inr (.inr h3)
 have h4:=t.names_len G;rw[wU,wU]at h3;omega
theorem qP (h:t.Ok p)(hG: ∀g l,t.lf g=some l->g∈G)(hx:0<tn t x):x∈t.names G:=h.named hG hx
variable {F:List Nd}{L:List Slot}
theorem Sp.tn_cap {T:Tab}(h:Sp F hold p L T)(x:Nat):tn T x<=525313:=by
 have h1:ai T x<=525312:=by
  rw[<-h.good.ok.leaves_cnt x];refine xn List.countP_le_length ?_;refine xn ?_ h.good.ok.short;generalize T.evs 4 0=l
  induction l with
  |nil=>simp
  |cons e l ih=>
   rw[xo,wU,xd];have:(Ev.ls e).length<=1:=by cases e<;>simp[Ev.ls]
   omega
 have h4:ay T x<=1:=by
  by_cases e:an T x
  ·rw[ao e];exact wS _
  ·rw[aF e];exact xm _
 unfold tn;omega
theorem ub (K x:Nat): ∀(Ts:List (Option Tab)),(∀(j:Nat) (T:Tab),Ts[j]? =some (some T)->tn T x<=K)->tnS Ts x<=K*Ts.length
 | [],_ =>xm _
 |o::Ts,h=>by
  have h1:=ub K x Ts fun j T hj=>h (j+1) T hj;rw[bM,xd,Nat.mul_add];cases o with
  |none=>
   have:tnO none x=0:=rfl;omega
  |some T=>
   have h2:tnO (some T) x<=K:=h 0 T rfl;omega
theorem Hs.cap {Ts:List (Option Tab)}(h:Hs F p L Ts)(hl:Ts.length<=100)(k x:Nat):tnS (Ts.set k none) x<=100000000000:=by
 have h1:=ub 525313 x (Ts.set k none) fun j T hj=>by
  rcases bJ hj with⟨_,e,_⟩|⟨_,hj⟩
  ·cases e
  ·exact(h.at_ hj).tn_cap x
 rw[List.length_set]at h1;omega
theorem Hs.start (F:List Nd)(n:Nat)(hn:n<=1024):Hs F (fresh n) [] []:=by
 have h0: ∀(j:Nat) (T:Tab),([]:List (Option Tab))[j]? =some (some T)->False:=fun j T h=>by rw[List.getElem?_nil]at h;cases h
 have h1: ∀s:Slot,s∈([]:List Slot)->False:=fun s h=>by cases h
 exact⟨List.Pairwise.nil,fun s hs=>(h1 s hs).elim,fun s hs=>(h1 s hs).elim,fun x=>xm _,hn,fun x hx=>rfl,fun j T h=>(h0 j T h).elim,fun j T h=>(h0 j T h).elim,fun j T h=>(h0 j T h).elim⟩
end
section
open Go.RowKit Go.Sort
variable {l:List (Nat×Leaf)}
theorem pcs_get {k:Nat}{r:Nat×Leaf}(h:l[k]? =some r)(j:Nat)(hj:j<4):(l.flatMap pc)[k*4+j]? =(pc r)[j]? :=by
 induction l generalizing k with
 |nil=>simp at h
 |cons x l ih=>
  cases k with
  |zero=>
   simp at h;subst h;have:(pc x).length=4:=rfl;simp[xo,List.getElem?_append,this,hj]
  |succ k=>
   simp at h;have e:=ih h;have:(pc x).length=4:=rfl;rw[xo,wY o_,this,<-e];congr 1;omega
variable {w:World}{base cap:Nat}
theorem OwnP.elem {g:Nat}(h:OwnP w base (some ⟨g,0,none⟩) cap l){j:Nat}{x:Nat×Leaf}(hp:l[j]? =some x):
  w.cell? ⟨g,j*4,none⟩=some (.int .u64 ((x.1*4096:Nat):Int))/\w.cell? ⟨g,j*4+1,none⟩=some (.int .i64 (x.2.frame:Int))/\w.cell? ⟨g,j*4+2,none⟩=some (.int .u8 (x.2.prot:Int))/\w.cell? ⟨g,j*4+3,none⟩=some (.bool x.2.copy):=by
 have hk:j<l.length:=(List.getElem?_eq_some_iff.1 hp).1;have hc: ∀i,i<4->w.cell? ⟨g,j*4+i,none⟩=(pc x)[i]? :=fun i hi=>by
  rw[World.ownsRow.cellAt h (j*4+i) o_,pcs_get hp i hi]
 exact⟨hc 0 o_,hc 1 o_,hc 2 o_,hc 3 o_⟩
variable {A:Option Addr}
theorem OwnP.form (h:OwnP w base A cap l):(A=none/\l=[]/\cap=0)\/ ∃g,A=some ⟨g,0,none⟩/\base<=g/\g<w.heap.size/\l.length<=cap:=dY.form h
variable {w':World}
theorem OwnP.same (h:OwnP w base A cap l)(hb: ∀g,A=some ⟨g,0,none⟩->w'.heap[g]? =w.heap[g]?):OwnP w' base A cap l:=dY.same h hb
theorem OwnP.kept (h:OwnP w base A cap l)(hb:Below w.heap.size w w'):OwnP w' base A cap l:=h.same fun g hg=>by
 rcases h.form with⟨e,_⟩|⟨g',e,_,xw,_⟩
 ·rw[e]at hg;cases hg
 ·rw[e]at hg;injection hg with hg;injection hg with hg;subst hg;exact hb.block _ xw
end
section
open Go.RowKit Go.Sort
section
variable {w W W':World}{G K:Nat->Prop}{B c a fs m s t root:Nat}{A:Option Addr}{n cap:Nat}{rl:List Reg}{S0 S S':Nat->Prop}{F:List Nd}{clock xr:Int}{p p':Pool}{L L':List Slot}
theorem Run.add (h:Run w W G K B c a fs m s t root A n cap rl S0 S F clock p L){K':Nat->Prop}(hA: ∀ad,A=some ad->ad.block<w.heap.size)(hK: ∀b,K' b->K b\/(¬S b/\w.heap.size<=b/\b<W.heap.size)):Run w W G K' B c a fs m s t root A n cap rl S0 S F clock p L:=
 ⟨h.home,h.one,h.mod,h.o,h.foot,h.low,fun b hb=>(hK b hb).elim (h.own b) id,fun ad e x=>(hK _ x).elim (h.row ad e) (fun y=>by have:=hA ad e;omega)⟩
end
structure rR (F:List Nd)(hold:Nat->Nat)(p:Pool)(L:List Slot)(T:Tab)(p':Pool)(L':List Slot):Prop where
 sp:Sp F hold p' L' T
 far: ∀E,Far hold T E p p'
 dat: ∀x,0<ai T x->p'.dat x=p.dat x
 own:Own p T->Own p' T
 full:Full hold p T\/ ∃k p1 L1 T2,bz F hold p L T k p1 L1 T2/\Full (fun x=>hold x+tn T x) p1 T2
def ForkPost (w:World)(B c a fs m s t root:Nat)(A:Option Addr)(n cap:Nat)(rl:List Reg)(S:Nat->Prop)(F:List Nd)(clock:Int)(p:Pool)(L:List Slot)(T:Tab)(hold:Nat->Nat)(e:Ending)(w':World):Prop:=
 (∃p' L' S',e= .returned (.tuple #[.pointer none,.int .i64 4])/\Home w' B c a fs m S' F clock p' L'/\One w' B c a m S' s t root A n cap rl/\Mod (av S c m) w w'/\Out S S' w/\rR F hold p L T p' L')\/
 (∃s2 t2 f p' L' T' T2 S' A' xq,e= .returned (.tuple #[.pointer (some ⟨s2,0,none⟩),.int .i64 0])/\Home w' B c a fs m S' F clock p' L'/\One w' B c a m S' s t root A n cap rl/\One w' B c a m S' s2 t2 f A' n xq rl/\T2.nd 4 0=some f/\w.heap.size<=s2/\w.heap.size<=t2/\(∀ad,A'=some ad->w.heap.size<=ad.block)/\Mod (av S c m) w w'/\Out S S' w/\iL F hold p L T p' L' T' T2)
structure FkJ (w:World)(bs:Nat)(B c a fs m s t root:Nat)(A:Option Addr)(n cap:Nat)(rl:List Reg)(S:Nat->Prop)(F:List Nd)(clock:Int)(p:Pool)(L:List Slot)(T:Tab)(hold:Nat->Nat)(t2 f:Nat)(R:Option Addr)(cp k:Nat)(W:World)(S':Nat->Prop)(p':Pool)(L':List Slot)(T2:Tab):Prop where
 run:Run w W (av S c m) (fun b=>b=t2\/R.map (·.block)=some b) B c a fs m s t root A n cap rl S S' F clock p' L'
 tab:al W t2 c a f
 row:OwnP W bs R cp T.puts
 fk:bz F hold p L T k p' L' T2
 nd:T2.nd 4 0=some f
structure FkT (w:World)(bs:Nat)(B c a fs m s t root:Nat)(A:Option Addr)(n cap:Nat)(rl:List Reg)(S:Nat->Prop)(F:List Nd)(clock:Int)(p1:Pool)(L1:List Slot)(T:Tab)(hold:Nat->Nat)(t2 f:Nat)(R:Option Addr)(cp k:Nat)(W:World)(S':Nat->Prop)(T2:Tab)(p':Pool)(T':Tab):Prop where
 run:Run w W (av S c m) (fun b=>b=t2\/R.map (·.block)=some b) B c a fs m s t root A n cap rl S S' F clock p' L1
 tab:al W t2 c a f
 row:OwnP W bs R cp T.puts
 tr:bO F (fun x=>hold x+tn T2 x) cpy 0 18446744073709551615 p1 L1 T k p' T'
variable {W W':World}{c a t2:Nat}
theorem Run.keepRow {R:Option Addr}{bs cp:Nat}{ps:List (Nat×Leaf)}{f:Nat}(ht:al W t2 c a f)(hr:OwnP W bs R cp ps)(hk: ∀b,(b=t2\/R.map (·.block)=some b)->W'.heap[b]? =W.heap[b]?):al W' t2 c a f/\OwnP W' bs R cp ps:=
 ⟨(hk t2 (.inl rfl)).trans ht,hr.same fun g hg=>hk g (.inr (by rw[hg];rfl))⟩
variable {w:World}{cap:Nat}{A:Option Addr}{F:List Nd}{p p':Pool}{L:List Slot}
theorem Run.freed {K:Nat->Prop}{B fs m s t root n:Nat}{rl:List Reg}{S0 S:Nat->Prop}{clock:Int}(h:Run w W (av S0 c m) K B c a fs m s t root A n cap rl S0 S F clock p L)(hC:au W' S c a fs m clock p' L)(hm:Mod (fun b=>S b\/b=t2) W W')(Cw:w.heap.size<=t2)(hA: ∀ad,A=some ad->ad.block<w.heap.size):
  Home W' B c a fs m S F clock p' L/\One W' B c a m S s t root A n cap rl/\Mod (av S0 c m) w W':=by
 obtain⟨l1,l2,l3,l4,l5⟩:=h.low;have hz:=h.mod.size;have xX:=hm.size;have hB:=h.home.base;have NM:=h.home.lows;obtain⟨w1,B1,nb,c2,ad,mp,f1,f2,f3⟩:=h.home.files;have yv:=h.one;refine⟨⟨hC,⟨w1,B1,nb,c2,ad,mp,f1,f2,f3.trans (hm.below (fun b hb=>hb.elim (h.home.low b) (fun e=>o_)) hB)⟩,h.home.bytes,h.home.low,NM⟩,⟨(hm.block s yv.lts.1 (fun e=>e.elim yv.noS.1 (fun e=>o_))).trans yv.self,(hm.block t yv.lts.2.1 (fun e=>e.elim yv.noT.1 (fun e=>o_))).trans yv.tab,yv.row.mod hm (fun ad e e2=>e2.elim (yv.noR ad e).1 (fun e2=>by have:=hA ad e;omega)),yv.noS,yv.noT,fun ad e=>by
  obtain⟨n1,n2,n3,n4,n5,n6,n7⟩:=yv.noR ad e;exact⟨n1,n2,n3,n4,n5,n6,o_⟩⟩,?_⟩
 exact((h.mod.sub (T:=fun b=>av S0 c m b\/w.heap.size<=b) fun b e=> .inl e).trans (Out.refl _ _) (hm.sub fun b e=>by
  rcases e with e|e
  ·exact(h.o b e).imp (fun e=> .inl e) id
  ·exact .inr o_)).own fun b e=>e
theorem OwnP.blk2 {base:Nat}{l:List (Nat×Leaf)}(h:OwnP w base A cap l): ∀g,A.map (·.block)=some g->base<=g/\g<w.heap.size:=fun g e=>by
 rcases h.form with⟨h2,_⟩|⟨g',h1,h2,h3,_⟩
 ·rw[h2]at e;cases e
 ·rw[h1]at e;simp at e;subst e;exact⟨h2,h3⟩
variable {hold:Nat->Nat}{T:Tab}
theorem Tab.Good.puts_few (h:Sp F hold p L T):T.puts.length<=525312:=by
 refine xn (cW (fun e=>?_) _) h.good.ok.short;cases e<;>simp[Ev.ls]
theorem bz.tnle {L':List Slot}{T2:Tab}{k:Nat}(h0:Sp F hold p L T)(h:bz F hold p L T k p' L' T2)(x:Nat):tn T2 x<=525314:=by
 have h1:ai T2 x<=525312:=by
  rw[<-h.two.good.ok.leaves_cnt x];exact xn List.countP_le_length (Tab.Good.puts_few h.two)
 have h4:ay T2 x<=1:=by
  by_cases e:an T2 x
  ·rw[ao e];exact wS _
  ·rw[aF e];exact xm _
 unfold tn;omega
theorem uw (B c a fs m s t root n cap:Nat)(A:Option Addr)(rl:List Reg)(clock:Int)(w:World)(S:Nat->Prop)(F:List Nd)(p:Pool)(L:List Slot)(T:Tab)(hold:Nat->Nat)
  (hH:Home w B c a fs m S F clock p L)(hO:One w B c a m S s t root A n cap rl)(zZ:Sp F hold p L T)(hr:T.nd 4 0=some root)(yA: ∀f,hold f<=100000000000)(xY: ∀g l,T.lf g=some l->g<34359738368)(Mf:n<900000):
  Calls prog 32 #[.pointer (some ⟨s,0,none⟩)] w (ForkPost w B c a fs m s t root A n cap rl S F clock p L T hold):=by
 have zv:=eO s c a t n cap A w hO.self;have hnew:=qO c a fs m clock w S p L hH.cache;have yL:=Run.start hH hO (fun _ e=>e);have hAw: ∀ad,A=some ad->ad.block<w.heap.size:=fun ad e=>(hO.noR ad e).2.2.2.2.2.2;have s0:w.cell? ⟨s,0,none⟩=some (.pointer (some ⟨c,0,none⟩)):=aa hO.self 0;obtain⟨yu,Ai,Yi,AA,HR,HH,HO⟩:=zh7 zv hnew yL zZ hr hH hO;have VU:=hH.lts.2.1;have ZA:=hH.lts.1;have DK:=hH.base;have yT:=hH.lows.2.2;clear zv hnew yL zZ hr hH hO;go_enter func32,ntmps32;go_wp2_with (first
  |(go_at_call 56;refine(yu.o).mono ?_;rintro e w1⟨rfl,rfl⟩)
  |fail)
 refine(Ai.o).mono ?_;rintro e w1 (⟨f,p1,L1,S1,t2,rfl,JW,Dm,zn,yJ,Cw,UY,ht2S,xJ⟩|⟨f,p1,L1,S1,rfl,JW,zn,yJ,xJ,hp1,FY⟩)
 rotate_left
 ·subst hp1 FY;obtain⟨Fe,Jp,yB,yc⟩:=zh4 JW zn yJ xJ;clear JW zn yJ xJ;go_wp2_with fail;go_ret2;have hm:Mod (av S c m) w w1:=Jp.o.sub fun b e=>e.elim .inl fun e=> .inr (.inl e);obtain⟨xM,_⟩:=Yi.o.call Fe.o hm yB.o;exact .inl ⟨p1,L1,S1,rfl,xM.home,xM.one,xM.mod,xM.o,AA.o,fun _ =>Far.refl,fun _ _ =>rfl,id,.inl (AA.o.full yc.o)⟩
 have hm:Mod (av S c m) w w1:=zn.sub fun b e=>e.elim .inl fun e=> .inr (.inl e);obtain⟨xM,_⟩:=Yi.o.call JW hm yJ;have Mx:=bz.start AA.o AA.o.good.but.few xJ;have yb:Calls prog 34 #[.pointer (some ⟨t,0,none⟩)] w1 (wD OwnP w1 T.puts):=qS t c a root w1 S1 p1 T (held L1 (fun x=>hold x+tn (aH f) x)) 0 xM.home.cache.pool xM.one.tab Mx.one.good HR.o;have LK:=xM.add (K':=fun b=>b=t2) hAw (fun b e=> .inr ⟨e▸ht2S,e▸Cw,e▸UY⟩);have s2:w1.cell? ⟨s,2,none⟩=some (.pointer (some ⟨t,0,none⟩)):=aa xM.one.self 2;have hw01:w.heap.size<=w1.heap.size:=hm.size;obtain⟨Fx,YN,KS,BX⟩:=zh4 LK Mx yb Dm;clear hm xM LK Mx yb Dm JW zn yJ xJ;go_wp2_with (first
  |(go_at_call 34;refine(KS.o).mono ?_;rintro e w2⟨R,cp,rfl,zk,xx⟩)
  |fail)
 have Al:T.puts.length<=525312:=Tab.Good.puts_few AA.o;have Kv:FkJ w w1.heap.size B c a fs m s t root A n cap rl S F clock p L T hold t2 f R cp 0 w2 S1 p1 L1 (aH f):=
  ⟨(
   Fx.o.below xx).sub (fun b e=>by
   rcases e with e|e
   ·exact .inl e
   ·exact .inr (zk.blk2 b e)),(xx.block _ UY).trans BX.o,zk,YN.o,dZ f⟩
 have UD:=wP Kv;clear Kv zk xx s2;go_loopw [32] (fun i wr=> ∃(k:Nat) (S':Nat->Prop) (p':Pool) (L':List Slot) (T2:Tab),i= .int .i64 (k:Int)/\k<=T.puts.length/\FkJ w w1.heap.size B c a fs m s t root A n cap rl S F clock p L T hold t2 f R cp k wr S' p' L' T2) (fun i _ =>T.puts.length-(intOf i).toNat)
 case atStart=>exact⟨0,S1,p1,L1,aH f,rfl,xm _,UD.o⟩
 case round=>
  obtain⟨k,S2,p2,L2,T2,rfl,hk,hj⟩:=hrel;clear UD YN KS Fx BX;by_cases zz:k<T.puts.length
  ·obtain⟨⟨pg,fq,pr,cb⟩,hx⟩: ∃x,T.puts[k]? =some x:=⟨T.puts[k],wV zz⟩;rcases hj.row.form with⟨_,h2,_⟩|⟨g,Ck,yE,Im,DG⟩
   ·rw[h2]at zz;exact absurd zz (Nat.not_lt_zero _)
   subst Ck;obtain⟨e0,e1,e2,e3⟩:=hj.row.elem hx;dsimp only at e0 e1 e2 e3;obtain⟨ad,Au⟩: ∃ad:Int,ad=((pg*4096:Nat):Int):=⟨_,rfl⟩;rw[<-Au]at e0;obtain⟨n1,n2,n3,n4,n5,n6⟩:=hj.fk.next AA.o hx;dsimp only at n2 n3 n4 n5 n6;have zq:=xY pg _ (AA.o.good.ok.puts_at hx);have zM:=hj.fk.fresh hx;dsimp only at zM;obtain⟨W3,CT⟩:=e_ (wr.alloc (.cells #[.int .u64 ad,.int .i64 (fq:Int),.int .u8 (pr:Int),.bool true] 85));have xE:Below wr.heap.size wr W3:=(by rw[CT];exact wR);have Ek:W3.heap[wr.heap.size]? =some (.cells #[.int .u64 ad,.int .i64 (fq:Int),.int .u8 (pr:Int),.bool true] 85 (0,0)):=(by rw[CT];exact ab wr _);have Gm:FkJ w w1.heap.size B c a fs m s t root A n cap rl S F clock p L T hold t2 f (some ⟨g,0,none⟩) cp k W3 S2 p2 L2 T2:=⟨(hj.run.below xE).sub (fun b e=> .inl e),(xE.block _ (wO hj.tab).1).trans hj.tab,hj.row.kept xE,hj.fk,hj.nd⟩;have zw:ad.toNat/4096=pg:=o_;have DP:=Gm.run.own t2 (.inl rfl);have hmap:=mq t2 c a f fs m clock ad fq pr true W3 S2 p2 T2 L2 (fun y=>hold y+tn T y) 0 ⟨fq,pr,true⟩ Gm.run.home.cache Gm.tab DP.1 o_ Gm.fk.two.good Gm.nd o_ o_ o_ o_ (by rw[aO n3];omega) (by rw[zw,zM];rfl) rfl rfl rfl n3 n4 (by have h8:=Gm.fk.one.cap n3;have h7:=yA fq;have h5:=Gm.fk.tnle AA.o fq;show p2.cnt fq+1<_;omega);rw[zw]at hmap;have y0:W3.cell? ⟨wr.heap.size,0,none⟩=some (.int .u64 ad):=aa Ek 0;have y1:W3.cell? ⟨wr.heap.size,1,none⟩=some (.int .i64 (fq:Int)):=aa Ek 1;have y2:W3.cell? ⟨wr.heap.size,2,none⟩=some (.int .u8 (pr:Int)):=aa Ek 2;have y3:W3.cell? ⟨wr.heap.size,3,none⟩=some (.bool true):=aa Ek 3;obtain⟨HX,Fb,Jn,Fw,Tq⟩:=zh5 hx Gm hmap CT DP;clear hx Gm hmap CT Au hj xE Ek n5 n6 zM zw DP;go_upto_region 11 with(fail);rw[<-Fw.o];go_upto_region 12 with(first
    |(go_at_call 72;refine(Jn.o).mono ?_;rintro e W4⟨er,p4,T4,L4,S4,rfl,Fs,zl,AY,Dd,JP⟩)
    |fail)
   obtain⟨yg,Dj⟩:=Fb.o.run.call Fs (zl.sub fun b e=>e.elim .inl fun e=> .inr (.inl e)) AY;obtain⟨Fi,AV⟩:=Run.keepRow Fb.o.tab Fb.o.row Dj;by_cases Bs:er=0
   ·subst Bs;have hj4:FkJ w w1.heap.size B c a fs m s t root A n cap rl S F clock p L T hold t2 f (some ⟨g,0,none⟩) cp (k+1) W4 S4 p4 L4 T4:=⟨yg,Fi,AV,Fb.o.fk.step AA.o HX.o Dd JP,Dd.mono 4 0 f Fb.o.nd⟩;have HJ4:=wP hj4;clear yg Dj Fi AV Fs zl AY Dd JP hj4;go_wp2_with fail;go_roundw
    case rel=>exact⟨k+1,S4,p4,L4,T4,rfl,o_,HJ4.o⟩
    case measure=>(simp[intOf];omega)
   ·have xA:(er != 0)=true:=(by rw[bne_iff_ne];exact Bs);obtain⟨MA,Ho,Sa,Hd⟩:=Fb.o.fk.fail AA.o HX.o Bs Dd JP;subst MA;have DP:=yg.own t2 (.inl rfl);have hfree:=nO t2 c a f W4 S4 p4 T2 (held L4 (fun y=>hold y+tn T y)) 0 yg.home.cache.pool Fi DP.1 o_ Sa.two.good Fb.o.nd;obtain⟨Hy,zd,Tv,Nx,HT2O⟩:=zh5 hfree yg Sa Hd DP;clear hfree yg Sa Hd Ho DP Dj Fi AV Fs zl AY Dd JP Bs;go_wp2_with (first
     |(go_at_call 58;refine(Hy.o).mono ?_;rintro e W5⟨rfl,Lh,yK,_⟩)
     |fail)
    go_ret2;obtain⟨v1,v2,v3,v4⟩:=Tv.o.undo AA.o;obtain⟨z1,z2,z3⟩:=HT2O.o;have Ee:=zd.o.home.cache;have EW:au W5 S4 c a fs m clock (cD p4 ((T2.evs 4 0).flatMap Ev.fs)) L4:=⟨Lh,(yK.block c Ee.lts.1 (fun e=>e.elim Ee.noC (fun e=>o_))).trans Ee.self,Ee.slots.same (yK.block m Ee.lts.2.1 (fun e=>e.elim Ee.noM (fun e=>o_))),Ee.noC,Ee.noM⟩;obtain⟨Uk,NV,BO⟩:=Run.freed zd.o EW yK z2 hAw;exact .inl ⟨_,L4,S4,rfl,Uk,NV,BO,zd.o.o,v1,v2,v3,v4,.inr ⟨k,p2,L2,T2,Fb.o.fk,Nx.o⟩⟩
  ·obtain rfl:k=T.puts.length:=o_;have HJ:=wP hj;have hjt:FkT w w1.heap.size B c a fs m s t root A n cap rl S F clock p2 L2 T hold t2 f R cp 0 wr S2 T2 p2 T:=⟨hj.run,hj.tab,hj.row,bO.start hj.fk.one⟩;have QN:=wP hjt;clear hj hjt;go_wp2_with fail;go_loopw [52] (fun i wx=> ∃(j:Nat) (p':Pool) (T':Tab),i= .int .i64 (j:Int)/\j<=T.puts.length/\FkT w w1.heap.size B c a fs m s t root A n cap rl S F clock p2 L2 T hold t2 f R cp j wx S2 T2 p' T') (fun i _ =>T.puts.length-(intOf i).toNat)
   case atStart=>exact⟨0,p2,T,rfl,xm _,QN.o⟩
   case round=>
    obtain⟨j,p3,T3,rfl,Cj,hj⟩:=hrel;clear QN;by_cases CR:j<T.puts.length
    ·obtain⟨⟨pg,fq,pr,cb⟩,hx⟩: ∃x,T.puts[j]? =some x:=⟨T.puts[j],wV CR⟩;rcases hj.row.form with⟨_,h2,_⟩|⟨g,Ck,yE,Im,DG⟩
     ·rw[h2]at CR;exact absurd CR (Nat.not_lt_zero _)
     subst Ck;obtain⟨e0,e1,e2,e3⟩:=hj.row.elem hx;dsimp only at e0 e1 e2 e3;obtain⟨ad,Au⟩: ∃ad:Int,ad=((pg*4096:Nat):Int):=⟨_,rfl⟩;rw[<-Au]at e0;obtain⟨was,hw,Ie⟩:=hj.tr.was HJ.o.fk.one hx (fun _ =>rfl);dsimp only at hw Ie;obtain⟨gg,RW⟩:=hj.tr.sp.node1 hw;obtain⟨n1,n2,n3,n4,n5,n6⟩:=hj.tr.sp.leaf hw;have h7:=(AA.o.leaf (AA.o.good.ok.puts_at hx)).2.1;dsimp only at h7;rw[Ie]at n3 n4;have zq:=xY pg _ (AA.o.good.ok.puts_at hx);obtain⟨W3,CT⟩:=e_ (wr.alloc (.cells #[.int .u64 ad,.int .i64 (fq:Int),.int .u8 (pr:Int),.bool true] 85));have xE:Below wr.heap.size wr W3:=(by rw[CT];exact wR);have Ek:W3.heap[wr.heap.size]? =some (.cells #[.int .u64 ad,.int .i64 (fq:Int),.int .u8 (pr:Int),.bool true] 85 (0,0)):=(by rw[CT];exact ab wr _);have Gm:FkT w w1.heap.size B c a fs m s t root A n cap rl S F clock p2 L2 T hold t2 f (some ⟨g,0,none⟩) cp j W3 S2 T2 p3 T3:=⟨(hj.run.below xE).sub (fun b e=> .inl e),(xE.block _ (wO hj.tab).1).trans hj.tab,hj.row.kept xE,hj.tr⟩;have yD:T3.nd 4 0=some root:=(by rw[hj.tr.nd];exact HR.o);have yq:=ia t c a root 0 ad ⟨fq,pr,true⟩ W3.drew S2 p3 T3 (held L2 (fun y=>hold y+tn T2 y)) Gm.run.home.cache.pool.drew Gm.run.one.tab Gm.run.one.noT.1 Gm.tr.sp.good yD o_ h7 n3 n4 (by have h9:=Gm.tr.sp.cap n3;have h8:=yA fq;have h5:=HJ.o.fk.tnle AA.o fq;show p3.cnt fq+1<_;omega) (fq:Int) (pr:Int) rfl rfl;have AF:Calls prog 69 #[.pointer (some ⟨t,0,none⟩),.int .u64 ad,.agg #[.int .i64 (fq:Int),.int .u8 (pr:Int),.bool true]] W3.drew fun e W=>e= .returned (.int .i64 0)/\Hid (am W S2 a (bc p3 was ⟨fq,pr,true⟩ gg pg))/\Hid (Mod S2 W3 W):=by
      refine yq.mono ?_;rw[fW (was:=was) (g:=gg) (by rw[Au];omega) zq o_ (by rw[aO n3];omega) hw RW];rintro e W⟨rfl,hP,Dw⟩;exact⟨rfl,wP (by simpa using hP),wP Dw.undrew⟩
     have s2:W3.cell? ⟨s,2,none⟩=some (.pointer (some ⟨t,0,none⟩)):=aa Gm.run.one.self 2;have y0:W3.cell? ⟨wr.heap.size,0,none⟩=some (.int .u64 ad):=aa Ek 0;have y1:W3.cell? ⟨wr.heap.size,1,none⟩=some (.int .i64 (fq:Int)):=aa Ek 1;have y2:W3.cell? ⟨wr.heap.size,2,none⟩=some (.int .u8 (pr:Int)):=aa Ek 2;have y3:W3.cell? ⟨wr.heap.size,3,none⟩=some (.bool true):=aa Ek 3;obtain⟨HX,Fb,Ge,Fw,HW,HGG⟩:=zh6 hx Gm AF CT hw RW;clear hx Gm yq AF CT Au hj xE Ek hw RW Ie n5 n6 yD;go_upto_region 20 with(fail);rw[<-Fw.o];go_region_with ((first
      |(go_at_call 69;refine(Ge.o).mono ?_;rintro e W4⟨rfl,Pj,Hw⟩)))
     all_goals
      go_wp2_with fail;go_roundw
      case rel=>
       obtain⟨yg,Dj⟩:=Fb.o.run.pool Pj.o Hw.o;obtain⟨Fi,AV⟩:=Run.keepRow Fb.o.tab Fb.o.row Dj;exact⟨j+1,_,_,rfl,o_,yg,Fi,AV,Fb.o.tr.step HJ.o.fk.one HX.o (rz d_ d_ n1) (fun _ =>rfl) h7 HW.o HGG.o⟩
      case measure=>(simp[intOf];omega)
    ·obtain rfl:j=T.puts.length:=o_;have Qf:=HJ.o.fk.done AA.o (wS _) d_ d_ hj.tr (wS _);have PI:=hj.run.one.row;have BE:=sB A n cap rl wr.drew (PI.below ((xp wr.heap.size wr).drew) (wS _)) Mf;have WT:Calls prog 57 #[.slice A n cap] wr.drew fun e W=> ∃A5 Bj,e= .returned (.slice A5 n Bj)/\Hid (OwnR W wr.heap.size A5 Bj rl)/\Hid (Below wr.heap.size wr W):=by
      refine BE.mono ?_;rintro e W⟨A5,Bj,rfl,NV,OY⟩;exact⟨A5,Bj,rfl,wP NV,wP (bw OY)⟩
     have s0:wr.cell? ⟨s,0,none⟩=some (.pointer (some ⟨c,0,none⟩)):=aa hj.run.one.self 0;have s1:wr.cell? ⟨s,1,none⟩=some (.pointer (some ⟨a,0,none⟩)):=aa hj.run.one.self 1;have s3:wr.cell? ⟨s,3,none⟩=some (.slice A n cap):=aa hj.run.one.self 3;have PF:s<wr.heap.size:=hj.run.one.lts.1;obtain⟨YP,NB,QN⟩:=zh3 Qf WT hj;clear Qf PI BE WT hj;go_upto_region 22 with(fail);go_region_held3 (fun w'=>w'.cell? ⟨s,0,none⟩=some (.pointer (some ⟨c,0,none⟩))/\w'.cell? ⟨s,1,none⟩=some (.pointer (some ⟨a,0,none⟩))/\w'.cell? ⟨s,3,none⟩=some (.slice A n cap))
      (go_keep)
      ((first
      |(go_at_call 57;refine(NB.o).mono ?_;rintro e W5⟨A5,Bj,rfl,Dr,CH⟩;have d0:W5.cell? ⟨s,0,none⟩=some (.pointer (some ⟨c,0,none⟩)):=(CH.o.cell PF).trans s0;have d1:W5.cell? ⟨s,1,none⟩=some (.pointer (some ⟨a,0,none⟩)):=(CH.o.cell PF).trans s1;have d3:W5.cell? ⟨s,3,none⟩=some (.slice A n cap):=(CH.o.cell PF).trans s3)))
     all_goals
      go_wp2_with fail;go_ret2;have Su:=(CH.o).alloc CH.o.size (.cells #[.pointer (some ⟨c,0,none⟩),.pointer (some ⟨a,0,none⟩),.pointer (some ⟨t2,0,none⟩),.slice A5 n Bj] 122);have CZ:=QN.o.run.below Su;have DP:=QN.o.run.own t2 (.inl rfl);have Iw:=CH.o.size;have hlen:=QN.o.run.one.row.len;have PJ:=Dr.o.row;have BP:=QN.o.run.home.lts;have hbB:=(xp W5.heap.size W5).alloc (wS _) (.cells #[.pointer (some ⟨c,0,none⟩),.pointer (some ⟨a,0,none⟩),.pointer (some ⟨t2,0,none⟩),.slice A5 n Bj] 122);refine .inr ⟨W5.heap.size,t2,f,p3,L2,T3,T2,S2,A5,Bj,rfl,CZ.home,CZ.one,⟨ab _ _,(Su.block t2 DP.2.2).trans QN.o.tab,?_,⟨fun e=>by have:=BP.2.2 _ e;omega,o_,o_,o_⟩,⟨DP.1,o_,o_,o_⟩,fun ad e=>?_⟩,HJ.o.nd,o_,DP.2.1,fun ad e=>?_,CZ.mod,CZ.o,YP.o⟩
      ·have h9:=Dr.o.rsl (by rw[hlen];omega);rw[hlen]at h9;exact(h9.below hbB (wS _)).more s_
      ·have h9:=PJ ad.block (by rw[e];rfl);refine⟨fun e=>by have:=BP.2.2 _ e;omega,o_,o_,o_,o_,o_,t_⟩
      ·have h9:=PJ ad.block (by rw[e];rfl);omega
end
section
open Go.RowKit Go.Sort
attribute [local go_sem] Oper.semAt_some
theorem iS (P:Option Addr)(fr ot:Int)(w:World):Calls prog 65 #[.pointer P,.int .u64 fr,.int .u64 ot] w fun e w'=>e= .returned (.func (.func 107) #[] #[.pointer (some ⟨w.heap.size,0,none⟩),.pointer (some ⟨w.heap.size+1,0,none⟩),.pointer (some ⟨w.heap.size+1+1,0,none⟩)])/\
  w'=((w.alloc (.cells #[.pointer P] 60)).alloc (.cells #[.int .u64 fr] 43)).alloc (.cells #[.int .u64 ot] 43):=by
 go_enter func65,ntmps65;go_wp2_with fail;go_ret;exact⟨rfl,rfl⟩
theorem ud (n:Nat)(hn:1<=n)(l b1 b2 b3 s t base:Nat)(fr ot:Int)(ps:List (Nat×Leaf))(hlen:ps.length<=525312)(J:Option Addr->Nat->Nat->World->Prop)(W:World)
  (c1:W.cell? ⟨b1,0,none⟩=some (.pointer (some ⟨s,0,none⟩)))(c2:W.cell? ⟨s,2,none⟩=some (.pointer (some ⟨t,0,none⟩)))
  (XR:Calls prog 34 #[.pointer (some ⟨t,0,none⟩)] W fun e W1=> ∃R cap,e= .returned (.slice R ps.length cap)/\J R cap 0 W1)
  (hJ: ∀R cap k W,J R cap k W->OwnP W base R cap ps/\W.cell? ⟨b2,0,none⟩=some (.int .u64 fr)/\W.cell? ⟨b3,0,none⟩=some (.int .u64 ot)/\b2<W.heap.size/\b3<W.heap.size)
  (hB: ∀R cap k W W',J R cap k W->Below W.heap.size W W'->J R cap k W')
  (JB: ∀R cap k W x,J R cap k W->ps[k]? =some x->inSt fr ot x.1=false->J R cap (k+1) W)
  (hY: ∀R cap k W x,J R cap k W->ps[k]? =some x->inSt fr ot x.1=true->YieldAt Fence.wide (n-1) prog l #[.agg #[.int .u64 ((x.1*4096:Nat):Int), .int .i64 (x.2.frame:Int), .int .u8 (x.2.prot:Int), .bool x.2.copy]] W fun e W'=>e= .returned (.bool true)/\J R cap (k+1) W'):
  CallsIn Fence.wide n prog 107 #[.func (.yield l) #[] #[],.pointer (some ⟨b1,0,none⟩),.pointer (some ⟨b2,0,none⟩),.pointer (some ⟨b3,0,none⟩)] W fun e W'=>(∃v,e= .returned v)/\ ∃R cap,J R cap ps.length W':=by
 have BZ:Fence.wide.round=none:=rfl;refine callsIn_of_wp func107 rfl trivial ?_ BZ;simp only[ntmps107,List.size_toArray,xd,List.length_nil,Nat.reduceAdd,Nat.reduceSub,Array.replicate_succ,Array.replicate_zero,List.push_toArray,List.append_toArray,List.nil_append,List.cons_append];obtain⟨KS,HJ,HB,HSK,HY⟩:=zh5 XR hJ hB JB hY;clear XR hJ hB JB hY;gi_wp2_with (first
  |(refine⟨trivial,?_⟩;refine(callsIn_wide.2 KS.o).mono ?_;rintro e W1⟨R,cap,rfl,hJ1⟩;have YC:=wP hJ1;clear hJ1)
  |fail)
 gi_loopw [13] (fun i wr=> ∃k:Nat,i= .int .i64 (k:Int)/\k<=ps.length/\J R cap k wr) (fun i _ =>ps.length-(intOf i).toNat)
 case atStart=>exact⟨0,rfl,xm _,YC.o⟩
 case round=>
  obtain⟨k,rfl,hk,SJ⟩:=hrel;have HJK:=wP SJ;obtain⟨xC,d2,d3,xW,NN⟩:=HJ.o _ _ _ _ SJ;clear SJ;by_cases zz:k<ps.length
  ·obtain⟨⟨pg,y⟩,hx⟩: ∃y,ps[k]? =some y:=⟨ps[k],wV zz⟩;rcases xC.form with⟨_,h2,_⟩|⟨g,rfl,yE,Im,DG⟩
   ·rw[h2]at zz;exact absurd zz (Nat.not_lt_zero _)
   obtain⟨e0,e1,e2,e3⟩:=xC.elem hx;dsimp only at e0 e1 e2 e3;obtain⟨ad,Au⟩: ∃ad:Int,ad=((pg*4096:Nat):Int):=⟨_,rfl⟩;rw[<-Au]at e0;obtain⟨HX,AS,Gz⟩:=zh3 hx xC Au;clear hx xC Au;gi_upto_region 3 with(fail);obtain⟨W2,yo⟩:=e_ (wr.alloc (.cells #[.int .u64 ad,.int .i64 (y.frame:Int),.int .u8 (y.prot:Int),.bool y.copy] 85));rw[<-yo];have xx:Below wr.heap.size wr W2:=(by rw[yo];exact wR);have Dp:W2.heap[wr.heap.size]? =some (.cells #[.int .u64 ad,.int .i64 (y.frame:Int),.int .u8 (y.prot:Int),.bool y.copy] 85 (0,0)):=(by rw[yo];exact ab wr _);have x0:W2.cell? ⟨wr.heap.size,0,none⟩=some (.int .u64 ad):=aa Dp 0;have x1:W2.cell? ⟨wr.heap.size,1,none⟩=some (.int .i64 (y.frame:Int)):=aa Dp 1;have x2:W2.cell? ⟨wr.heap.size,2,none⟩=some (.int .u8 (y.prot:Int)):=aa Dp 2;have x3:W2.cell? ⟨wr.heap.size,3,none⟩=some (.bool y.copy):=aa Dp 3;have f2:W2.cell? ⟨b2,0,none⟩=some (.int .u64 fr):=(xx.cell xW).trans d2;have f3:W2.cell? ⟨b3,0,none⟩=some (.int .u64 ot):=(xx.cell NN).trans d3;have SK:=HB.o _ _ _ _ W2 HJK.o xx;have QO:=wP SK;clear yo xx Dp d2 d3 e0 e1 e2 e3 SK;by_cases h1:fr<=ad
   ·by_cases h2:ad<ot
    ·have TK:=HY.o _ _ _ W2 (pg,y) QO.o HX.o (eY.2 ⟨by have:=Gz.o;dsimp only;omega,by have:=Gz.o;dsimp only;omega⟩);dsimp only at TK;rw[<-Gz.o]at TK;obtain⟨fn,tmps,assign,body,hy,hR⟩:=TK;have HR:=wP hR;clear hR
     gi_wp2
     refine HR.o.mono ?_;rintro e W3⟨rfl,KL⟩;have Fb:=wP KL;clear KL
     gi_wp2
     go_roundw
     case rel=>exact⟨k+1,rfl,o_,Fb.o⟩
     case measure=>(simp[intOf];omega)
    ·have KL:=HSK.o _ _ _ _ (pg,y) QO.o HX.o (by rw[Bool.eq_false_iff];intro h;have:=eY.1 h;have:=Gz.o;dsimp only at *;omega);have Fb:=wP KL;clear KL
     gi_wp2
     refine⟨(fun _ h=>by cases h),?_⟩
     gi_wp2
     go_roundw
     case rel=>exact⟨k+1,rfl,o_,Fb.o⟩
     case measure=>(simp[intOf];omega)
   ·have KL:=HSK.o _ _ _ _ (pg,y) QO.o HX.o (by rw[Bool.eq_false_iff];intro h;have:=eY.1 h;have:=Gz.o;dsimp only at *;omega);have Fb:=wP KL;clear KL
    gi_wp2
    refine⟨(fun _ h=>by cases h),?_⟩
    gi_wp2
    go_roundw
    case rel=>exact⟨k+1,rfl,o_,Fb.o⟩
    case measure=>(simp[intOf];omega)
  ·obtain rfl:k=ps.length:=o_
   gi_wp2
   go_end0;exact⟨⟨_,rfl⟩,_,_,HJK.o⟩
structure lC (W:World)(s kb:Nat)(fr ot:Int)(o:Obj):Prop where
 b1:W.heap[kb]? =some (.cells #[.pointer (some ⟨s,0,none⟩)] 60 (0,0))
 b2:W.heap[kb+1]? =some (.cells #[.int .u64 fr] 43 (0,0))
 b3:W.heap[kb+1+1]? =some (.cells #[.int .u64 ot] 43 (0,0))
 mark:W.heap[kb+3]? =some (.deferred (some []))
 loop:W.heap[kb+3+1]? =some o
variable {W W':World}{s kb:Nat}{fr ot:Int}{o:Obj}
theorem lC.keep (h:lC W s kb fr ot o)(hk: ∀b,kb<=b->b<kb+5->W'.heap[b]? =W.heap[b]?):lC W' s kb fr ot o:=
 ⟨(hk _ o_ o_).trans h.b1,(hk _ o_ o_).trans h.b2,(hk _ o_ o_).trans h.b3,(hk _ o_ o_).trans h.mark,(hk _ o_ o_).trans h.loop⟩
theorem lC.lts (h:lC W s kb fr ot o):kb+5<=W.heap.size:=by have:=(wO h.loop).1;omega
def ThK (kb:Nat)(R:Option Addr):Nat->Prop:=fun b=>(kb<=b/\b<kb+5)\/R.map (·.block)=some b
structure ThJ (w2:World)(B c a fs m s t root:Nat)(A:Option Addr)(n cap:Nat)(rl:List Reg)(S:Nat->Prop)(F:List Nd)(clock:Int)(L:List Slot)(fr ot:Int)(ps:List (Nat×Leaf))(o:Obj)(Rel:Nat->Pool->Prop)(R:Option Addr)(cp k:Nat)(W:World)(p':Pool):Prop where
 run:Run w2 W (av S c m) (ThK w2.heap.size R) B c a fs m s t root A n cap rl S S F clock p' L
 box:lC W s w2.heap.size fr ot o
 row:OwnP W (w2.heap.size+5) R cp ps
 rel:Rel k p'
variable {A:Option Addr}{cap:Nat}
theorem OwnP.blk {w:World}{base:Nat}{l:List (Nat×Leaf)}(h:OwnP w base A cap l): ∀g,A.map (·.block)=some g->base<=g/\g<w.heap.size:=fun g e=>by
 rcases h.form with⟨h2,_⟩|⟨g',h1,h2,h3,_⟩
 ·rw[h2]at e;cases e
 ·rw[h1]at e;simp at e;subst e;exact⟨h2,h3⟩
theorem ThJ.below {w2:World}{B c a fs m t root:Nat}{n:Nat}{rl:List Reg}{S:Nat->Prop}{F:List Nd}{clock:Int}{L:List Slot}{ps:List (Nat×Leaf)}{Rel:Nat->Pool->Prop}{R:Option Addr}{cp k:Nat}{p':Pool}(h:ThJ w2 B c a fs m s t root A n cap rl S F clock L fr ot ps o Rel R cp k W p')(hb:Below W.heap.size W W'):
  ThJ w2 B c a fs m s t root A n cap rl S F clock L fr ot ps o Rel R cp k W' p':=
 ⟨(h.run.below hb).sub fun _ e=> .inl e,h.box.keep fun b h1 h2=>hb.block b (by have:=h.box.lts;omega),h.row.kept hb,h.rel⟩
theorem ue (n':Nat)(hn:1<=n')(B c a fs m s t root:Nat)(A:Option Addr)(n cap:Nat)(rl:List Reg)(S:Nat->Prop)(F:List Nd)(clock:Int)(p:Pool)(L:List Slot)(T:Tab)(hold:Nat->Nat)(fr ot:Int)(o:Obj)(Rel:Nat->Pool->Prop)(w2 w3:World)
  (hH:Home w2 B c a fs m S F clock p L)(hO:One w2 B c a m S s t root A n cap rl)(zZ:Sp F hold p L T)(hr:T.nd 4 0=some root)
  (yU:w3=((w2.alloc (.cells #[.pointer (some ⟨s,0,none⟩)] 60)).alloc (.cells #[.int .u64 fr] 43)).alloc (.cells #[.int .u64 ot] 43))
  (h0:Rel 0 p)(JB: ∀k p' x,Rel k p'->T.puts[k]? =some x->inSt fr ot x.1=false->Rel (k+1) p')
  (hY: ∀R cp k W x p',ThJ w2 B c a fs m s t root A n cap rl S F clock L fr ot T.puts o Rel R cp k W p'->T.puts[k]? =some x->inSt fr ot x.1=true->YieldAt Fence.wide (n'-1) prog (w2.heap.size+3+1) #[.agg #[.int .u64 ((x.1*4096:Nat):Int), .int .i64 (x.2.frame:Int), .int .u8 (x.2.prot:Int), .bool x.2.copy]] W fun e W'=>e= .returned (.bool true)/\ ∃p'',ThJ w2 B c a fs m s t root A n cap rl S F clock L fr ot T.puts o Rel R cp (k+1) W' p''):
  CallsIn Fence.wide n' prog 107 #[.func (.yield (w2.heap.size+3+1)) #[] #[],.pointer (some ⟨w2.heap.size,0,none⟩),.pointer (some ⟨w2.heap.size+1,0,none⟩),.pointer (some ⟨w2.heap.size+1+1,0,none⟩)] ((w3.alloc (.deferred (some []))).alloc o) fun e W'=>(∃v,e= .returned v)/\ ∃R cp p',ThJ w2 B c a fs m s t root A n cap rl S F clock L fr ot T.puts o Rel R cp T.puts.length W' p':=by
 have xE:Below w2.heap.size w2 w3:=(by rw[yU];exact(wR.alloc s_ _).alloc t_ _);have zy:w3.heap.size=w2.heap.size+3:=(by rw[yU];simp);have yG:Below w2.heap.size w2 ((w3.alloc (.deferred (some []))).alloc o):=(xE.alloc o_ _).alloc t_ _;have CU:((w3.alloc (.deferred (some []))).alloc o).heap.size=w2.heap.size+5:=(by simp[zy]);have e1:w3.heap[w2.heap.size]? =some (.cells #[.pointer (some ⟨s,0,none⟩)] 60 (0,0)):=by
  rw[yU];exact(wT _ _ _ t_).trans ((wT _ _ _ s_).trans (ab w2 _))
 have e2:w3.heap[w2.heap.size+1]? =some (.cells #[.int .u64 fr] 43 (0,0)):=by
  rw[yU];have:=ab (w2.alloc (.cells #[.pointer (some ⟨s,0,none⟩)] 60)) (.cells #[.int .u64 fr] 43);rw[World.size_alloc]at this;exact(wT _ _ _ s_).trans this
 have e3:w3.heap[w2.heap.size+1+1]? =some (.cells #[.int .u64 ot] 43 (0,0)):=by
  rw[yU];have:=ab ((w2.alloc (.cells #[.pointer (some ⟨s,0,none⟩)] 60)).alloc (.cells #[.int .u64 fr] 43)) (.cells #[.int .u64 ot] 43)
  rwa [World.size_alloc,World.size_alloc]at this
 have As:lC ((w3.alloc (.deferred (some []))).alloc o) s w2.heap.size fr ot o:=by
  refine⟨(cn o_).trans e1,(cn o_).trans e2,(cn o_).trans e3,?_,?_⟩
  ·have:=ab w3 (.deferred (some []));rw[zy]at this;exact(wT _ _ _ (by simp[zy])).trans this
  ·have:=ab (w3.alloc (.deferred (some []))) o
   rwa [World.size_alloc,zy]at this
 have yL:Run w2 ((w3.alloc (.deferred (some []))).alloc o) (av S c m) (ThK w2.heap.size none) B c a fs m s t root A n cap rl S S F clock p L:=((Run.start hH hO (fun _ e=>e)).below yG).sub (fun b e=>by
  rcases e with e|e
  ·exact .inr ⟨e.1,o_⟩
  ·cases e)
 have yb:=qS t c a root ((w3.alloc (.deferred (some []))).alloc o) S p T (held L hold) 0 yL.home.cache.pool yL.one.tab zZ.good hr;refine(ud n' hn (w2.heap.size+3+1) w2.heap.size (w2.heap.size+1) (w2.heap.size+1+1) s t (w2.heap.size+5) fr ot T.puts ?_ (fun R cp k W=> ∃p',ThJ w2 B c a fs m s t root A n cap rl S F clock L fr ot T.puts o Rel R cp k W p') _ (aa As.b1 0) (aa yL.one.self 2) (yb.mono ?_) ?_ ?_ ?_ ?_).mono ?_
 ·refine xn (cW (fun e=>?_) _) zZ.good.ok.short;cases e<;>simp[Ev.ls]
 ·rintro e W1⟨R,cp,rfl,xG,hb⟩;rw[CU]at xG;refine⟨R,cp,rfl,p,(yL.below hb).sub (fun b e=>?_),As.keep fun b h1 h2=>hb.block b o_,xG,h0⟩;rcases e with e|e
  ·exact .inl (.inl e)
  ·have:=xG.blk b e;exact .inr ⟨o_,this.2⟩
 ·rintro R cp k W⟨p',hj⟩;have:=hj.box.lts;exact⟨hj.row,aa hj.box.b2 0,aa hj.box.b3 0,o_,o_⟩
 ·rintro R cp k W W'⟨p',hj⟩ hb;exact⟨p',hj.below hb⟩
 ·rintro R cp k W x⟨p',hj⟩ hx ym;exact⟨p',hj.run,hj.box,hj.row,JB k p' x hj.rel hx ym⟩
 ·rintro R cp k W x⟨p',hj⟩ hx ym;exact hY R cp k W x p' hj hx ym
 ·rintro e W⟨hv,R,cp,p',hj⟩;exact⟨hv,R,cp,p',hj⟩
end
section
open Go.RowKit Go.Sort
attribute [local go_sem] Oper.semAt_some
def jW (w:World)(B c a fs m s t root:Nat)(S:Nat->Prop)(F:List Nd)(clock:Int)(L:List Slot)(res:List Reg)(No:Int->Prop)(Rel:Pool->Prop)(e:Ending)(w':World):Prop:=
 (∃er,e= .returned (.int .i64 er)/\er≠0/\No er/\Below w.heap.size w w')\/
 (e= .returned (.int .i64 0)/\No 0/\ ∃A' xq p',Home w' B c a fs m S F clock p' L/\One w' B c a m S s t root A' res.length xq res/\Mod (fun b=>av S c m b\/b=s) w w'/\(∀ad,A'=some ad->w.heap.size<=ad.block)/\Rel p')
theorem One.laid {w w1:World}{B c a fs m s t root n cap base xt:Nat}{A A1:Option Addr}{rl l2:List Reg}{S:Nat->Prop}{F:List Nd}{clock:Int}{p:Pool}{L:List Slot}(hH:Home w B c a fs m S F clock p L)(hO:One w B c a m S s t root A n cap rl)(hb:Below w.heap.size w w1)(ho:OwnR w1 base A1 xt l2)(xH:w.heap.size<=base)(hf:l2.length<=1000000):
  Home (w1.setCell ⟨s,3,none⟩ (.slice A1 l2.length xt)) B c a fs m S F clock p L/\One (w1.setCell ⟨s,3,none⟩ (.slice A1 l2.length xt)) B c a m S s t root A1 l2.length xt l2/\Mod (fun b=>b=s) w (w1.setCell ⟨s,3,none⟩ (.slice A1 l2.length xt))/\w1.heap.size=(w1.setCell ⟨s,3,none⟩ (.slice A1 l2.length xt)).heap.size:=by
 have Xw:=hH.below hb;have zB:=hO.below hb;obtain⟨l1,l3,yi⟩:=zB.lts;obtain⟨k1,k2,_⟩:=hO.lts;have hm:Mod (fun b=>b=s) w1 (w1.setCell ⟨s,3,none⟩ (.slice A1 l2.length xt)):=aj (S:=fun b=>b=s) rfl 3 _;have xG:=ho.row;have hz:=hb.size;have hl:=hH.lts;have hB:=hH.base;refine⟨Xw.mod hm (fun b e=>by subst e;exact⟨zB.noS.1,zB.noS.2.2.1,zB.noS.2.1,zB.noS.2.2.2⟩),⟨?_,(hm.block t l3 (fun e=>yi e.symm)).trans zB.tab,?_,zB.noS,zB.noT,fun ad e=>?_⟩,(Mod.of hb).trans (Out.refl _ _) hm,s_⟩
 ·have h9:=Joins.block_setCell (i:=3) zB.self (.slice A1 l2.length xt);simpa [dP]using h9
 ·refine(ho.rsl hf).mod hm (fun ad e e2=>?_);have:=xG ad.block (by rw[e];rfl);omega
 ·have h9:=xG ad.block (by rw[e];rfl);refine⟨fun e=>by have:=hl.2.2 _ e;omega,o_,o_,o_,o_,o_,by simpa using h9.2⟩
theorem si (B c a fs m s t root n cap:Nat)(fr ot:Int)(A:Option Addr)(rl:List Reg)(clock:Int)(w:World)(S:Nat->Prop)(F:List Nd)(p:Pool)(L:List Slot)(T:Tab)(hold:Nat->Nat)
  (hH:Home w B c a fs m S F clock p L)(hO:One w B c a m S s t root A n cap rl)(zZ:Sp F hold p L T)(hr:T.nd 4 0=some root)(ya:bG rl)(h0:0<=fr)(h1:fr<=18446744073709551615)(h2:0<=ot)(h3:ot<=18446744073709551615)(xD:(Rg.cut rl fr ot).1.length<=1000000)(DU:(Rg.cut rl fr ot).2=0->ot<=140737488355328):
  Calls prog 26 #[.pointer (some ⟨s,0,none⟩),.int .u64 fr,.int .u64 ot] w (jW w B c a fs m s t root S F clock L (Rg.cut rl fr ot).1 (fun er=>er=(Rg.cut rl fr ot).2) (fun p'=> ∃T',dk F hold fr ot p L T T.puts.length p' T')):=by
 refine(callsIn_wide (n:=9)).1 ?_;refine callsIn_of_wp_marks func26 rfl trivial ?_;simp only[ntmps26,List.size_toArray,xd,List.length_nil,Nat.reduceAdd,Nat.reduceSub,Array.replicate_succ,Array.replicate_zero,List.push_toArray,List.append_toArray,List.nil_append,List.cons_append];obtain⟨w0,xv⟩:=e_ (w.alloc (.cells #[.pointer (some ⟨s,0,none⟩)] 60));have xT:w0.heap.size=w.heap.size+1:=(by rw[xv];simp);have xz:Below w.heap.size w w0:=(by rw[xv];exact wR);have BH:w0.heap[w.heap.size]? =some (.cells #[.pointer (some ⟨s,0,none⟩)] 60 (0,0)):=(by rw[xv];exact ab w _);have CB:=hO.below xz;have Gv:=hH.below xz;have zv:=eO s c a t n cap A w0 CB.self;have hcut:=cut_any A n cap fr ot w0 rl CB.row ya h0 h1 h2 h3;have s0:w0.cell? ⟨w.heap.size,0,none⟩=some (.pointer (some ⟨s,0,none⟩)):=aa BH 0;have s3:w0.cell? ⟨s,3,none⟩=some (.slice A n cap):=aa CB.self 3;obtain⟨l2,xW⟩:=e_ ((Rg.cut rl fr ot).1);obtain⟨e2,JQ⟩:=e_ ((Rg.cut rl fr ot).2);unfold gw at hcut;rw[<-xW,<-JQ]at hcut;rw[<-xW,<-JQ];rw[<-xW]at xD;rw[<-JQ]at DU;obtain⟨yu,BY,xU,EH,yd,Bp,Kc,Fc⟩:=zh8 zv hcut xv xT xz BH CB Gv;obtain⟨AA,HR⟩:=zh2 zZ hr;have PF:=hO.lts.1;have Pn:=wP (show¬S w.heap.size from fun e=>by have:=hH.lts.2.2 _ e;omega);have Sh:c<w.heap.size/\m<w.heap.size:=⟨hH.lts.1,hH.lts.2.1⟩;clear zv hcut xv xT xz BH CB Gv hH hO zZ hr xW JQ;gi_upto_region 4 with(first
  |(refine⟨trivial,?_⟩;rw[<-xU.o];refine(callsIn_wide.2 yu.o).mono ?_;rintro e w1⟨rfl,rfl⟩)
  |(refine⟨trivial,?_⟩;refine(callsIn_wide.2 BY.o).mono ?_;rintro e w1⟨A1,xt,rfl,yJ,xu⟩)
  |fail)
 obtain⟨xI,yB⟩:=zh2 xu yJ;clear xu yJ s0 s3;by_cases xJ:e2=0
 rotate_left
 ·have xA:(e2 != 0)=true:=(by rw[bne_iff_ne];exact xJ);have yc:=wP xJ;clear xJ
  gi_wp2
  refine⟨.int .i64 e2,by simp[results,results26,go_sem],.inl ⟨e2,rfl,yc.o,rfl,yd.o.trans (xI.o.mono yd.o.size)⟩⟩
 subst xJ;have Zs:=DU rfl;clear DU;obtain⟨w2,yl⟩:=e_ (w1.setCell ⟨s,3,none⟩ (.slice A1 l2.length xt));obtain⟨MV,CA,xS,xX⟩:=One.laid Fc.o Kc.o xI.o yB.o (wS _) xD;rw[<-yl]at MV CA xS xX;have zB:=Kc.o.below xI.o;have EE:=(xI.o.block _ (wO Bp.o).1).trans Bp.o;have EU:=(xS.block _ (wO Bp.o).1 o_).trans Bp.o;have s0:w1.cell? ⟨w.heap.size,0,none⟩=some (.pointer (some ⟨s,0,none⟩)):=aa EE 0;have s3:w1.cell? ⟨s,3,none⟩=some (.slice A n cap):=aa zB.self 3;have sf3:=ae zB.self 3;have t0:w2.cell? ⟨w.heap.size,0,none⟩=some (.pointer (some ⟨s,0,none⟩)):=aa EU 0;obtain⟨Gc,QQ,Fa,Ex,Nc⟩:=zh5 yl MV CA xS EU;have Lw:w.heap.size<w2.heap.size:=(wO EU).1;clear yl MV CA xS zB EE EU xX;gi_upto_region 7 with(fail);rw[<-Gc.o];gi_wp2_with (first
  |(refine⟨trivial,?_⟩;refine(callsIn_wide.2 (iS _ _ _ w2)).mono ?_;rintro e w3⟨rfl,yU⟩;have Fw:=wP yU;clear yU)
  |fail)
 have zy:w3.heap.size=w2.heap.size+3:=(by rw[Fw.o];simp);refine cv rfl o_ (gf:=107) (lb:= #[.pointer (some ⟨w2.heap.size,0,none⟩),.pointer (some ⟨w2.heap.size+1,0,none⟩),.pointer (some ⟨w2.heap.size+1+1,0,none⟩)]) rfl trivial (enters_of func107 k_ rfl) ?_;rw[zy];intro fn FP rec zr;refine(ue (9-1) o_ B c a fs m s t root A1 l2.length xt l2 S F clock p L T hold fr ot (.loop (rec .ready none)) (fun k p'=> ∃T',dk F hold fr ot p L T k p' T') w2 w3 QQ.o Fa.o AA.o HR.o Fw.o ⟨T,dk.start AA.o⟩ (fun k p' x ⟨T',h⟩ hx ym=>⟨T',h.skip hx ym⟩) ?_).mono ?_
 ·rintro R cp k W⟨pg,fq,pr,cb⟩ p1 hj hx ym;dsimp only at ym;refine bP trivial zr hj.box.loop rfl ?_;obtain⟨ad,Au⟩: ∃ad:Int,ad=((pg*4096:Nat):Int):=⟨_,rfl⟩;dsimp only;rw[<-Au];obtain⟨T1,Dm⟩:=hj.rel;obtain⟨HX,yQ,HJ,Gz,BX⟩:=zh5 hx ym hj Au Dm;clear hx ym hj zr Au Dm
  gi_wp2
  obtain⟨W1,DA⟩:=e_ (W.alloc (.cells #[.int .u64 ad,.int .i64 (fq:Int),.int .u8 (pr:Int),.bool cb] 85));rw[<-DA];have xu:Below W.heap.size W W1:=(by rw[DA];exact wR);have EF:W1.heap[W.heap.size]? =some (.cells #[.int .u64 ad,.int .i64 (fq:Int),.int .u8 (pr:Int),.bool cb] 85 (0,0)):=(by rw[DA];exact ab W _);have zi:=HJ.o.below xu;refine⟨zi.box.loop,?_⟩;obtain⟨W2,yo⟩:=e_ (W1.putObj (w2.heap.size+3+1) (.loop (rec .busy none)));rw[<-yo];have xS:Mod (fun b=>b=w2.heap.size+3+1) W1 W2:=(by rw[yo];exact aC);have yN:=zi.box.loop;have hlW:=HJ.o.box.lts;have xW:W2.heap[w2.heap.size+3+1]? =some (.loop (rec .busy none)):=(by rw[yo];exact World.putObj_heap_same (wO yN).1);have xF:=zi.run.set xS (fun b e=> .inl o_);have yV:lC W2 s w2.heap.size fr ot (.loop (rec .busy none)):=⟨(xS.block _ (wO zi.box.b1).1 o_).trans zi.box.b1,(xS.block _ (wO zi.box.b2).1 o_).trans zi.box.b2,(xS.block _ (wO zi.box.b3).1 o_).trans zi.box.b3,(xS.block _ (wO zi.box.mark).1 o_).trans zi.box.mark,xW⟩;have zk:OwnP W2 (w2.heap.size+5) R cp T.puts:=zi.row.same fun g hg=>by
   have h9:=zi.row.blk g (by rw[hg];rfl);exact xS.block g h9.2 o_
  have Dp:=(xS.block _ (wO EF).1 o_).trans EF;have BP:=QQ.o.lts;have Lg:W2.heap[w.heap.size]? =w2.heap[w.heap.size]? :=xF.mod.block w.heap.size Lw (fun e=>e.elim (fun e=>Pn.o e) (fun e=>o_));have c0:W2.cell? ⟨w.heap.size,0,none⟩=some (.pointer (some ⟨s,0,none⟩)):=aa (Lg.trans Nc.o) 0;have s2:W2.cell? ⟨s,2,none⟩=some (.pointer (some ⟨t,0,none⟩)):=aa xF.one.self 2;have x0:W2.cell? ⟨W.heap.size,0,none⟩=some (.int .u64 ad):=aa Dp 0;have yD:T1.nd 4 0=some root:=BX.o.top.trans HR.o;have Lz:=lH t c a root ad W2.drew S p1 T1 (held L hold) 0 xF.home.cache.pool.drew xF.one.tab xF.one.noT.1 BX.o.sp.good yD (by have:=Gz.o;omega);obtain⟨Tc,yh,zS,Dq⟩:=zh4 Lz xF yV zk;have VT:prog.follows .mixedOrders=true:=k_;clear Lz xF yV zk DA yo xu EF Dp xS yN xW zi Lg yD;gi_upto_region 9 with(fail);refine cK (fun w'=>w'.cell? ⟨w.heap.size,0,none⟩=some (.pointer (some ⟨s,0,none⟩))/\w'.cell? ⟨s,2,none⟩=some (.pointer (some ⟨t,0,none⟩))/\w'.cell? ⟨W.heap.size,0,none⟩=some (.int .u64 ad)) 6 k_ k_ (dS.of 5 k_ k_) ⟨c0,s2,x0⟩ ?_;intro Uz Jg;refine zt 0 ?_;refine zt 1 ?_;refine zt 2 ?_;refine zt 3 ?_;refine zt 4 ?_;refine zt 5 ?_;refine cw 6 k_ rfl rfl (fun K' hK=>?_)
  go_simp
  refine(Tc.o).mono ?_;rintro e W6⟨er,p6,T6,rfl,FX,Kt,Ro⟩;have BO:=Kt.undrew;obtain⟨zp,EP⟩:=yh.o.pool FX BO;go_wp2_with fail;refine hK.out _ _ ?_;clear hK K';refine cx k_ ?_ _;refine bV ?_;have yt:=zS.o.keep (W':=W6) (fun b h1 h2=>EP b (.inl ⟨h1,h2⟩));have Dc:OwnP W6 (w2.heap.size+5) R cp T.puts:=Dq.o.same fun g hg=>EP g (.inr (by rw[hg];rfl));have yY:=aC (l:=w2.heap.size+3+1) (o:= .loop (rec .ready none)) (W:=W6);have zG:=yt.loop;have Eb: ∀ {b:Nat} {o:Obj},W6.heap[b]? =some o->b≠w2.heap.size+3+1->(W6.putObj (w2.heap.size+3+1) (.loop (rec .ready none))).heap[b]? =some o:=fun h1 h2=>(yY.block _ (wO h1).1 h2).trans h1;refine⟨zG,rfl,p6,zp.set yY (fun b e=> .inl o_),⟨Eb yt.b1 o_,Eb yt.b2 o_,Eb yt.b3 o_,Eb yt.mark o_,World.putObj_heap_same (wO zG).1⟩,Dc.same fun g hg=>?_,T6,BX.o.step HX.o yQ.o Zs (by rw[Gz.o];dsimp only;omega) Ro⟩;have h9:=Dc.blk g (by rw[hg];rfl);exact yY.block g h9.2 o_
 ·rintro e W⟨hv,R,cp,p1,hj⟩;refine⟨hv,.inl ⟨hj.box.loop,?_⟩⟩;obtain⟨W2,yo⟩:=e_ (W.putObj (w2.heap.size+3+1) (.loop (rec .exhausted none)));rw[<-yo];have xS:Mod (fun b=>b=w2.heap.size+3+1) W W2:=(by rw[yo];exact aC);have xF:=hj.run.set xS (fun b e=> .inl o_);have EV:=(xS.block _ (wO hj.box.mark).1 o_).trans hj.box.mark;obtain⟨yh,Ew,Nj⟩:=zh3 xF EV hj.rel;clear yo xS xF EV hj zr hv;unfold ec
  gi_wp2
  refine⟨s_,.inl ⟨_,_,rfl,run_takeDeferred Ew.o,?_⟩⟩;have EO:=aC (l:=w2.heap.size+3) (o:= .deferred none) (W:=W2);have xK:=yh.o.set EO (fun b e=> .inl o_);refine⟨.int .i64 0,by simp[results,results26,go_sem],.inr ⟨rfl,rfl,A1,xt,p1,xK.home,xK.one,?_,(fun ad e=>by have h1:=yB.o.row ad.block (by rw[e];rfl);have h2:=yd.o.size;omega),Nj.o⟩⟩;have hA:Mod (fun b=>av S c m b\/b=s) w w2:=((Mod.of yd.o).trans (Out.refl _ _) (Ex.o)).sub fun b e=> .inr e;exact hA.trans (Out.refl _ _) (xK.mod.sub fun b e=> .inl e)
end
section
open Go.RowKit Go.Sort
theorem tK {F:List Nd}{e:Ent}(hF:iN F)(hd: ∀i,e.dat i<256):iN (addM F e).2:=by
 unfold addM;split
 ·exact hF
 ·split
  ·exact hF
  ·split
   ·exact hF
   ·split
    ·exact hF
    ·intro i y hy;simp only at hy;by_cases hi:i<F.length
     ·rw[wZ hi]at hy;exact hF i y hy
     ·rw[wY o_]at hy;have:=xb hy;rw[List.mem_singleton]at this;subst this;exact hd
theorem lO: ∀ {l:List Ent} {F:List Nd} {i:Nat},iN F->(∀x∈l,∀i,x.dat i<256)->iN (newM F i l).2.2
 | [],F,i,hF,_ =>hF
 |e::l,F,i,hF,hd=>by
  unfold newM;split
  ·exact hF
  ·exact lO (tK hF (hd e (xl ..))) (fun x hx=>hd x (xk _ hx))
theorem sw:iN [aD]:=fun i y hy=>by
 have:=xb hy;rw[List.mem_singleton]at this;subst this;exact fun j=>by show 0<256;omega
theorem rp: ∀ {l:List Ent} {F:List Nd} {i:Nat},(newM F i l).2.2.length<=F.length+l.length
 | [],F,i=>wS _
 |e::l,F,i=>by
  unfold newM;split
  ·show F.length<=F.length+(l.length+1);omega
  ·have h1:= @rp l (addM F e).2 (i+1);have h2:(addM F e).2.length<=F.length+1:=by
    unfold addM
    repeat' split
    all_goals(simp)
   show _ <=F.length+(l.length+1);omega
def dn (l:List Ent):List Nd:=(newM [aD] 0 l).2.2
variable {l:List Ent}
theorem iB (h: ∀x∈l,∀i,x.dat i<256):iN (dn l):=lO sw h
theorem qk (h:l.length<=64):(dn l).length<=1000:=by
 have:= @rp l [aD] 0;unfold dn;simp at this;omega
theorem kg (P:Option Addr)(cap:Nat)(l:List Ent)(w:World)(hl:gH w P l)(yA:l.length<=cap)(CD:l.length<=64)(hr:(newM [aD] 0 l).1=0):
  Calls prog 37 #[.slice P l.length cap] w fun e w'=> ∃fs,e= .returned (.tuple #[.pointer (some ⟨fs,0,none⟩),.int .i64 0,.int .i64 0])/\(∃nb c2 ad mp,FsIs w' w.heap.size fs nb c2 ad mp (dn l))/\Below w.heap.size w w':=by
 refine(qL P l.length cap l w hl rfl yA o_).mono fun e w' h=>?_;unfold dO at h;rw[if_neg o_,if_neg o_]at h;obtain⟨fs,nb,c2,ad,mp,h1,h2,h3⟩:=h;exact⟨fs,h1,⟨nb,c2,ad,mp,h2⟩,h3⟩
theorem vx (n:Int)(w:World)(h:n<1):Calls prog 38 #[.int .i64 n] w fun e w'=>e= .returned (.tuple #[.pointer none,.int .i64 1])/\w=w':=by
 go_enter func38,ntmps38;go_wp2_with fail;go_ret2;exact⟨rfl,rfl⟩
def entA:Ent:=⟨⟨#[47,97]⟩,1,420,0,0,1,fun _ =>7,⟨#[]⟩⟩
theorem entA_ok:(newM [aD] 0 [entA]).1=0:=k_
theorem vI: ∃y,(dn [entA])[1]? =some y/\y.kind=1/\y.n=1/\ ∀i,y.dat i=7:=⟨bB entA 0 ⟨#[97]⟩,k_,k_,k_,fun i=>rfl⟩
end
