/- Spaces, plain: what it comes to to go through a stretch's leaves: to take them away, to turn them. Spaces, plain: what a fork comes to; Spaces, plain: several tables over one pool. Spaces, plain: how many frames a few pages take; -/
import Derived.Test.YtoochjhipmpehaaGreatDoorSpHK
set_option linter.unusedVariables false
set_option linter.unusedSimpArgs false
set_option maxRecDepth 100000
namespace Go.Proofs.YtoochjhipmpehaaGreatDoor
section
def Tab.puts (t:Tab):List (Nat×Leaf):=(t.evs 4 0).flatMap Ev.ls
theorem Tab.evs_part (t:Tab) (x:Nat×Leaf) (lv:Nat): ∀q,x∈(t.evs lv q).flatMap Ev.ls->x.1/512^lv=q:=by
 induction lv with
 |zero=>
  intro q hm;cases hl:t.lf q with
  |none=>rw[Tab.evs_noleaf hl]at hm;simp at hm
  |some l=>
   rw[Tab.evs_leaf hl]at hm;simp[Ev.ls]at hm;subst hm;simp
 |succ lv ih=>
  intro q hm;cases hn:t.nd (lv+1) q with
  |none=>rw[Tab.evs_none hn]at hm;simp at hm
  |some g=>
   rw[Tab.evs_node hn,vy,List.mem_append]at hm;rcases hm with hm|hm
   ·simp[Ev.ls]at hm
   ·rw[Tab.upto,List.flatMap_assoc]at hm;obtain⟨i,hi,Ca⟩:=List.mem_flatMap.1 hm;have h1:=ih _ Ca;have h2:=List.mem_range.1 hi;rw[Nat.pow_succ,<-Nat.div_div_eq_div_mul,h1];omega
variable {pg:Nat} {l:Leaf}
theorem Tab.Ok.evs_full {p:Pool} {t:Tab} (h:t.Ok p) (hl:t.lf pg=some l) (lv:Nat):lv<=4->(pg,l)∈(t.evs lv (part pg lv)).flatMap Ev.ls:=by
 induction lv with
 |zero=>
  intro _;rw[jS,Tab.evs_leaf hl];simp[Ev.ls]
 |succ lv ih=>
  intro xc;obtain⟨g,hg⟩:=bE (h.leafUp hl (lv+1) (by omega) xc);rw[Tab.evs_node hg,vy,List.mem_append];right;rw[Tab.upto,List.flatMap_assoc];have h1:=gI pg (lv+1) (by omega);rw[Nat.add_sub_cancel]at h1;exact List.mem_flatMap.2 ⟨num pg (lv+1),List.mem_range.2 (bU _ _),by rw[h1];exact ih (by omega)⟩
theorem Tab.Ok.puts_mem {p:Pool} {t:Tab} (h:t.Ok p) :(pg,l)∈t.puts↔t.lf pg=some l:=by
 constructor
 ·exact t.evs_sound pg l 4 0
 ·intro hl;have h1:=h.evs_full hl 4 (by omega)
  rwa [gJ pg (h.rootPage hl)]at h1
theorem Tab.evs_rising (t:Tab) (lv:Nat): ∀q,((t.evs lv q).flatMap Ev.ls).Pairwise (fun a b=>a.1<b.1):=by
 induction lv with
 |zero=>
  intro q;cases hl:t.lf q with
  |none=>rw[Tab.evs_noleaf hl];simp
  |some l=>rw[Tab.evs_leaf hl];simp[Ev.ls]
 |succ lv ih=>
  intro q;cases hn:t.nd (lv+1) q with
  |none=>rw[Tab.evs_none hn];simp
  |some g=>
   rw[Tab.evs_node hn,vy,Tab.upto,List.flatMap_assoc,show Ev.ls (.node g)=[]from rfl,List.nil_append];refine List.pairwise_flatMap.2 ⟨fun i _ =>ih _,?_⟩;refine List.Pairwise.imp ?_ (List.pairwise_lt_range (n:=512));intro i j CH x hx y hy;have h1:=t.evs_part x lv _ hx;have h2:=t.evs_part y lv _ hy;refine Nat.lt_of_not_le fun hle=>?_;have h3:=Nat.div_le_div_right (c:=512^lv) hle;omega
theorem Tab.puts_rising (t:Tab):t.puts.Pairwise (fun a b=>a.1<b.1):=t.evs_rising 4 0
def inSt (f t:Int) (g:Nat):Bool:=decide (f<=(g:Int)*4096/\(g:Int)*4096<t)
variable {f t:Int} {g:Nat}
theorem fI :inSt f t g=true↔f<=(g:Int)*4096/\(g:Int)*4096<t:=by unfold inSt;simp
def bW (l:List (Nat×Leaf)) (k g:Nat):Prop:= ∃j x,j<k/\l[j]? =some x/\x.1=g
variable {k:Nat} {x:Nat×Leaf}
theorem bW.succ {l:List (Nat×Leaf)} (hx:l[k]? =some x):bW l (k+1) g↔bW l k g\/x.1=g:=by
 constructor
 ·rintro⟨j,y,h1,h2,h3⟩;rcases Nat.lt_or_ge j k with h4|h4
  ·exact .inl ⟨j,y,h4,h2,h3⟩
  ·obtain rfl:j=k:=(by omega);rw[hx]at h2;injection h2 with h2;subst h2;exact .inr h3
 ·rintro(⟨j,y,h1,h2,h3⟩|h)
  ·exact⟨j,y,by omega,h2,h3⟩
  ·exact⟨k,x,by omega,hx,h⟩
theorem bW.all {t:Tab} {p:Pool} (h:t.Ok p) (hk:t.puts.length<=k) (hl:t.lf g=some l):bW t.puts k g:=by
 obtain⟨j,hj,e⟩:=List.mem_iff_getElem.1 (h.puts_mem.2 hl);exact⟨j,(g,l),by omega,by rw[vg hj,e],rfl⟩
theorem Tab.Ok.puts_at {p:Pool} {t:Tab} (h:t.Ok p) (hx:t.puts[k]? =some x):t.lf x.1=some x.2:=h.puts_mem.1 (vl hx)
variable {F:List Nd} {hold:Nat->Nat} {p p1 p':Pool} {L:List Slot} {T T1 T':Tab}
open Classical in
structure cC (F:List Nd) (hold:Nat->Nat) (f t:Int) (p:Pool) (L:List Slot) (T:Tab) (k:Nat) (p':Pool) (T':Tab):Prop where
 sp:Sp F hold p' L T'
 lf: ∀g,T'.lf g=if inSt f t g=true/\bW T.puts k g then none else T.lf g
 far: ∀E,Far hold T E p p'
 dat: ∀x,¬an T x->p'.dat x=p.dat x
 cnt: ∀x,x<p.n->p'.cnt x<=p.cnt x
 sub: ∀lv q f,T'.nd lv q=some f->T.nd lv q=some f
 top:T'.nd 4 0=T.nd 4 0
theorem cC.start (h:Sp F hold p L T):cC F hold f t p L T 0 p T:=
 ⟨h,fun g=>by rw[if_neg (fun e=>by obtain⟨j,_,hj,_⟩:=e.2;omega)],fun _ =>Far.refl,fun _ _ =>rfl,fun _ _ =>vd _,fun _ _ _ h=>h,rfl⟩
theorem cC.skip (h:cC F hold f t p L T k p' T') (hx:T.puts[k]? =some x) (hn:inSt f t x.1=false):cC F hold f t p L T (k+1) p' T':=by
 refine⟨h.sp,fun g=>?_,h.far,h.dat,h.cnt,h.sub,h.top⟩;rw[h.lf g];by_cases h1:inSt f t g=true/\bW T.puts k g
 ·rw[if_pos h1,if_pos ⟨h1.1,(bW.succ hx).2 (.inl h1.2)⟩]
 ·rw[if_neg h1,if_neg];rintro⟨h2,h3⟩;rcases(bW.succ hx).1 h3 with h3|h3
  ·exact h1 ⟨h2,h3⟩
  ·rw[<-h3,hn]at h2;cases h2
theorem cC.step {A r:Int} (h:cC F hold f t p L T k p1 T1) (hx:T.puts[k]? =some x) (wI:inSt f t x.1=true) (ht:t<=140737488355328) (hA:A=(x.1:Int)*4096) (hu:UnRes p1 T1 (held L hold) A r p' T'):cC F hold f t p L T (k+1) p' T':=by
 have e:A.toNat/4096=x.1:=(by omega);unfold UnRes at hu;rw[e]at hu;rcases hu with⟨hr,rfl,rfl,vW⟩|⟨hr,vH,hs,hg⟩
 ·refine⟨h.sp,fun g=>?_,h.far,h.dat,h.cnt,h.sub,h.top⟩;by_cases h1:g=x.1
  ·subst h1;rw[if_pos ⟨wI,(bW.succ hx).2 (.inr rfl)⟩];rcases vW with⟨_,h2⟩|⟨_,_,h2⟩
   ·cases hc:T'.lf x.1 with
    |none=>rfl
    |some l=>
     have h4:=fI.1 wI;omega
   ·exact h2
  ·rw[h.lf g];by_cases h2:inSt f t g=true/\bW T.puts k g
   ·rw[if_pos h2,if_pos ⟨h2.1,(bW.succ hx).2 (.inl h2.2)⟩]
   ·rw[if_neg h2,if_neg];rintro⟨h3,h4⟩;rcases(bW.succ hx).1 h4 with h4|h4
    ·exact h2 ⟨h3,h4⟩
    ·exact h1 h4.symm
 ·obtain⟨a1,a2,a3,a4,a5,a6⟩:=h.sp.unmap hg;refine⟨a1,fun g=>?_,fun E=>(h.far E).trans h.sp (a3 E),fun y hy=>(a4 y fun e=>hy (by obtain⟨lv,q,e⟩:=e;exact⟨lv,q,h.sub _ _ _ e⟩)).trans (h.dat y hy),fun y hy=>vx (a6 y (by rw[(h.far (fun _ =>False)).n];exact hy)) (h.cnt y hy),fun lv q f e=>h.sub _ _ _ (hg.sub _ _ _ e),(hg.top 4 0 (vd _)).trans h.top⟩;rw[a2];by_cases h1:g=x.1
  ·subst h1;rw[af,if_pos ⟨wI,(bW.succ hx).2 (.inr rfl)⟩]
  ·rw[ag _ _ h1,h.lf g];by_cases h2:inSt f t g=true/\bW T.puts k g
   ·rw[if_pos h2,if_pos ⟨h2.1,(bW.succ hx).2 (.inl h2.2)⟩]
   ·rw[if_neg h2,if_neg];rintro⟨h3,h4⟩;rcases(bW.succ hx).1 h4 with h4|h4
    ·exact h2 ⟨h3,h4⟩
    ·exact h1 h4.symm
theorem cC.done (h0:Sp F hold p L T) (h:cC F hold f t p L T k p' T') (hk:T.puts.length<=k) (g:Nat):T'.lf g=if inSt f t g=true then none else T.lf g:=by
 rw[h.lf g];by_cases h1:inSt f t g=true
 ·rw[if_pos h1];cases hl:T.lf g with
  |none=>simp
  |some l=>rw[if_pos ⟨h1,bW.all h0.good.ok hk hl⟩]
 ·rw[if_neg h1,if_neg (fun e=>h1 e.1)]
theorem cC.own (h:cC F hold f t p L T k p' T') (ho:Own p T):Own p' T':=fun g l hl hc=>by
 have h1:=h.lf g;rw[hl]at h1;split at h1
 ·cases h1
 ·have h2:=ho g l h1.symm hc;obtain⟨_,_,c3,c4,_⟩:=h.sp.leaf hl;have h3:=h.cnt l.frame (by rw[<-(h.far (fun _ =>False)).n];exact c3);omega
open Classical in
structure bJ (F:List Nd) (hold:Nat->Nat) (φ:Leaf->Leaf) (f t:Int) (p:Pool) (L:List Slot) (T:Tab) (k:Nat) (p':Pool) (T':Tab):Prop where
 sp:Sp F hold p' L T'
 lf: ∀g,T'.lf g=if inSt f t g=true/\bW T.puts k g then(T.lf g).map φ else T.lf g
 far: ∀E,Far hold T E p p'
 dat: ∀x,¬an T x->p'.dat x=p.dat x
 cnt: ∀x,x<p.n->p'.cnt x=p.cnt x
 nd:T'.nd=T.nd
variable {φ:Leaf->Leaf}
theorem bJ.start (h:Sp F hold p L T):bJ F hold φ f t p L T 0 p T:=
 ⟨h,fun g=>by rw[if_neg (fun e=>by obtain⟨j,_,hj,_⟩:=e.2;omega)],fun _ =>Far.refl,fun _ _ =>rfl,fun _ _ =>rfl,rfl⟩
theorem bJ.skip (h:bJ F hold φ f t p L T k p' T') (hx:T.puts[k]? =some x) (hn:inSt f t x.1=false):bJ F hold φ f t p L T (k+1) p' T':=by
 refine⟨h.sp,fun g=>?_,h.far,h.dat,h.cnt,h.nd⟩;rw[h.lf g];by_cases h1:inSt f t g=true/\bW T.puts k g
 ·rw[if_pos h1,if_pos ⟨h1.1,(bW.succ hx).2 (.inl h1.2)⟩]
 ·rw[if_neg h1,if_neg];rintro⟨h2,h3⟩;rcases(bW.succ hx).1 h3 with h3|h3
  ·exact h1 ⟨h2,h3⟩
  ·rw[<-h3,hn]at h2;cases h2
theorem bJ.was (h0:Sp F hold p L T) (h:bJ F hold φ f t p L T k p1 T1) (hx:T.puts[k]? =some x) (hφ: ∀l,(φ l).frame=l.frame): ∃was,T1.lf x.1=some was/\was.frame=x.2.frame:=by
 have h1:=h0.good.ok.puts_at hx;have h2:=h.lf x.1;rw[h1]at h2;split at h2
 ·exact⟨_,h2,hφ _⟩
 ·exact⟨_,h2,rfl⟩
theorem bJ.step {was:Leaf} (h0:Sp F hold p L T) (h:bJ F hold φ f t p L T k p1 T1) (hx:T.puts[k]? =some x) (wI:inSt f t x.1=true) (hφ: ∀l,(φ l).frame=l.frame) (h7:(φ x.2).prot<=7) (hw:T1.lf x.1=some was) (hg:T1.nd 1 (part x.1 1)=some g):
  bJ F hold φ f t p L T (k+1) (bg p1 was (φ x.2) g x.1) (T1.lay x.1 (some (φ x.2))):=by
 obtain⟨was',xI,hf⟩:=h.was h0 hx hφ;rw[hw]at xI;injection xI with xI;subst xI;have yw:(φ x.2).frame=was.frame:=(by rw[hφ,hf]);obtain⟨c1,c2,c3,c4,c5,c6⟩:=h.sp.leaf hw;obtain⟨a1,a2,a3,a4,a5⟩:=h.sp.set hw hg h7 (by rw[yw];exact c3) (by rw[yw];exact c6);refine⟨a1,fun y=>?_,fun E=>(h.far E).trans h.sp (a2 E (.inr (by rw[yw];exact c5))),fun y hy=>(a3 y (fun e=>hy (by obtain⟨lv,q,e⟩:=e;rw[h.nd]at e;exact⟨lv,q,e⟩))).trans (h.dat y hy),fun y hy=>?_,h.nd⟩
 ·show upd T1.lf x.1 (some (φ x.2)) y=_;by_cases h1:y=x.1
  ·subst h1;rw[af,if_pos ⟨wI,(bW.succ hx).2 (.inr rfl)⟩,h0.good.ok.puts_at hx];rfl
  ·rw[ag _ _ h1,h.lf y];by_cases h2:inSt f t y=true/\bW T.puts k y
   ·rw[if_pos h2,if_pos ⟨h2.1,(bW.succ hx).2 (.inl h2.2)⟩]
   ·rw[if_neg h2,if_neg];rintro⟨h3,h4⟩;rcases(bW.succ hx).1 h4 with h4|h4
    ·exact h2 ⟨h3,h4⟩
    ·exact h1 h4.symm
 ·have h1:=a5 y (by rw[(h.far (fun _ =>False)).n];exact hy);have h2:=h.cnt y hy;rw[yw]at h1;omega
theorem bJ.done (h0:Sp F hold p L T) (h:bJ F hold φ f t p L T k p' T') (hk:T.puts.length<=k) (g:Nat):T'.lf g=if inSt f t g=true then(T.lf g).map φ else T.lf g:=by
 rw[h.lf g];by_cases h1:inSt f t g=true
 ·rw[if_pos h1];cases hl:T.lf g with
  |none=>simp
  |some l=>rw[if_pos ⟨h1,bW.all h0.good.ok hk hl⟩]
 ·rw[if_neg h1,if_neg (fun e=>h1 e.1)]
theorem bJ.own (h0:Sp F hold p L T) (h:bJ F hold φ f t p L T k p' T') (hφ: ∀l,(φ l).frame=l.frame) (hc: ∀l,(φ l).copy=false->l.copy=false) (ho:Own p T):Own p' T':=fun g l hl xK=>by
 have h1:=h.lf g;rw[hl]at h1;have key: ∀y,T.lf g=some y->y.copy=false->y.frame=l.frame->p'.cnt l.frame=1:=fun y hy hyc hyf=>by
  have h2:=ho g y hy hyc;have h3:=(h0.leaf hy).2.2.1;rw[<-hyf,h.cnt _ h3,h2]
 split at h1
 ·cases hy:T.lf g with
  |none=>rw[hy]at h1;cases h1
  |some y=>
   rw[hy]at h1;injection h1 with h1;exact key y hy (hc y (by rw[<-h1];exact xK)) (by rw[h1,hφ])
 ·exact key l h1.symm xK rfl
end
section
variable {F:List Nd} {hold:Nat->Nat} {p p1 p':Pool} {L L1 L':List Slot} {T T1 T1' T' T2 T2' T3 N:Tab}
def rg:Tab:=⟨fun _ _ =>none,fun _ =>none⟩
theorem fD (x:Nat): ¬an rg x:=fun⟨_,_,h⟩=>by cases h
theorem tn_root (r x:Nat):tn (aG r) x=if x=r then 1 else 0:=by
 unfold tn;rw[eZ];by_cases e:x=r
 ·rw[if_pos e,ao (cv.2 e)]
 ·rw[if_neg e,aE (fun h=>e (cv.1 h))]
structure iW (H3 rest:Nat->Nat) (T3 N:Tab):Prop where
 ge: ∀x,tn T3 x<=rest x
 eq: ∀x,H3 x=0->rest x=tn T3 x
 no: ∀x,0<tn T3 x-> ¬an N x
theorem sh {x:Nat} (h:an T x):0<tn T x:=by unfold tn;rw[ao h];omega
theorem il {x:Nat} (h:0<ah T x):0<tn T x:=by unfold tn;omega
variable {E:Nat->Prop} {H3 rest:Nat->Nat}
theorem Sp.beside {H' more:Nat->Nat} (h1:Sp F H3 p L T3) (hb:iW H3 rest T3 N) (hf:Far rest N E p p') (hE: ∀x,an T3 x-> ¬E x) (h':Sp F H' p' L' T')
  (he: ∀x,x<p.n->p'.cnt x=tn T3 x+(ay L' x+more x)):Sp F more p' L' T3:=by
 refine⟨⟨h1.good.but.same hf.n fun x hx=>hf.dat x (vh (sh hx) (hb.ge x)) (hb.no x (sh hx)),fun x hx=>?_⟩,h'.sole,fun x hx=>?_,h'.slow,h'.filled,h'.once⟩
 ·have e1:=he x (by rw[<-hf.n];exact hx);unfold held;simp only[tn]at e1;omega
 ·obtain⟨a1,a2,a3,a4⟩:=h1.alone hx;have e2:=h1.one x hx;have e4:=ao hx;have e5:=hb.eq x a4;have e6:tn T3 x=1:=(by unfold tn;omega);rw[hf.cnt x a1 (by omega) (hE x hx) (by omega)];omega
theorem Own.beside (ho:Own p T3) (h1:Sp F H3 p L T3) (hb:iW H3 rest T3 N) (hf:Far rest N E p p') (hE: ∀g l,T3.lf g=some l->l.copy=false-> ¬E l.frame):Own p' T3:=fun g l hl xK=>by
 obtain⟨d1,d2,d3,d4,d5,d6⟩:=h1.leaf hl;have e1:=ho g l hl xK;have e2:=h1.eq d3;have e3:=hb.eq l.frame (by omega);have e6:tn T3 l.frame=1:=(by unfold tn;omega);rw[hf.cnt l.frame d3 (by omega) (hE g l hl xK) (by omega)];omega
theorem Sp.besideDat (hb:iW H3 rest T3 N) (hf:Far rest N E p p') {x:Nat} (hx:0<tn T3 x):p'.dat x=p.dat x:=hf.dat x (vh hx (hb.ge x)) (hb.no x hx)
theorem Sp.freed (h:Sp F hold p L T):(∀E,Far hold T E p (cj p ((T.evs 4 0).flatMap Ev.fs)))/\(∀x,x<p.n->(cj p ((T.evs 4 0).flatMap Ev.fs)).cnt x=ay L x+hold x):=by
 have hc: ∀x,x<p.n->(cj p ((T.evs 4 0).flatMap Ev.fs)).cnt x=ay L x+hold x:=fun x hx=>by
  rw[nO,h.good.ok.frames_cnt,h.eq hx];omega
 refine⟨fun E=>⟨kq _ _,fun x _ _ =>by rw[dy],fun x hx h0 _ he=>?_⟩,hc⟩;rw[hc x hx];have:=h.eq hx;omega
def cpy (l:Leaf):Leaf:= { l with copy:=true}
open Classical in
structure bB (F:List Nd) (hold:Nat->Nat) (p:Pool) (L:List Slot) (T1:Tab) (k:Nat) (p':Pool) (L':List Slot) (T2:Tab):Prop where
 one:Sp F (fun x=>hold x+tn T2 x) p' L' T1
 two:Sp F (fun x=>hold x+tn T1 x) p' L' T2
 lf: ∀g,T2.lf g=if bW T1.puts k g then(T1.lf g).map cpy else none
 far:Far (fun x=>hold x+tn T1 x) rg (fun x=>0<ah T1 x) p p'
 sub:L'.Sublist L
theorem bB.start {f:Nat} (h:Sp F hold p L T1) (hn:p.n<=1024) (ht:ax p L 0 f p' L'):bB F hold p L T1 0 p' L' (aG f):=by
 obtain⟨a1,a2,a3,a4,a5⟩:=h.take ht;have hT:=h.even.take h.sole ht;have e1:(fun x=>hold x+tn (aG f) x)=upd hold f 1:=by
  funext x;rw[tn_root];by_cases e:x=f
  ·rw[if_pos e,e,af,a5.hold]
  ·rw[if_neg e,ag _ _ e];rfl
 have h0:hold f+tn T1 f=0:=(by have:=hT.none;simp only[tn];omega);have hG:(aG f).Good p' (held L' fun x=>hold x+tn T1 x) 0 4:=by
  refine jL (by rw[hT.n];exact hn) (by rw[hT.n];exact hT.lt) h0 hT.zero fun x hx=>?_;have:=hT.even x hx;rw[this];by_cases e:x=f
  ·subst e;rw[af,af]
  ·rw[ag _ _ e,ag _ _ e];simp only[tn];omega
 refine⟨by rw[e1];exact a1,⟨hG,a1.sole,fun x hx=>by rw[cv.1 hx];exact hT.one,a1.slow,a1.filled,a1.once⟩,fun g=>by rw[if_neg (fun e=>by obtain⟨j,_,hj,_⟩:=e;omega)];rfl,⟨hT.n,fun x hx _ =>hT.dat x fun e=>by subst e;(try dsimp only at hx);omega,fun x hx h1 _ hc=>?_⟩,hT.sub⟩
 (try dsimp only at h1 hc)
 rw[hT.cnt x fun e=>by subst e;omega];exact hc
variable {k:Nat} {x:Nat×Leaf}
theorem bB.fresh (h:bB F hold p L T1 k p' L' T2) (hx:T1.puts[k]? =some x):T2.lf x.1=none:=by
 rw[h.lf,if_neg];rintro⟨j,y,hj,hy,e⟩;obtain⟨h1,e1⟩:=List.getElem?_eq_some_iff.1 hy;obtain⟨h2,e2⟩:=List.getElem?_eq_some_iff.1 hx;have:=List.pairwise_iff_getElem.1 T1.puts_rising j k h1 h2 hj;rw[e1,e2]at this;omega
theorem bB.beside (h:bB F hold p L T1 k p' L' T2):iW (fun x=>hold x+tn T2 x) (fun x=>hold x+tn T1 x) T1 T2:=
 ⟨fun x=>by(try dsimp only);omega,fun x hx=>by(try dsimp only at hx⊢);omega,fun x hx e=>by have:=(h.two.alone e).2.2.2;(try dsimp only at this);omega⟩
theorem bB.next (h0:Sp F hold p L T1) (h:bB F hold p L T1 k p' L' T2) (hx:T1.puts[k]? =some x):x.1<bz/\x.2.prot<=7/\x.2.frame<p'.n/\1<=p'.cnt x.2.frame/\0<ah T1 x.2.frame/\ ¬an T2 x.2.frame:=by
 obtain⟨c1,c2,c3,c4,c5,c6⟩:=h.one.leaf (h0.good.ok.puts_at hx);exact⟨c1,c2,c3,c4,c5,h.beside.no _ (il c5)⟩
variable {p2:Pool}
theorem Far.more {T T':Tab} (h:Far hold T E p p1) (hT: ∀x,0<hold x-> ¬an T' x) (k:Far hold T' E p1 p2):Far hold T E p p2:=
 ⟨k.n.trans h.n,fun x hx hn=>(k.dat x hx (hT x hx)).trans (h.dat x hx hn),fun x hx h0 hE hc=>k.cnt x (by rw[h.n];exact hx) h0 hE (h.cnt x hx h0 hE hc)⟩
theorem bB.step (h0:Sp F hold p L T1) (h:bB F hold p L T1 k p1 L1 T2) (hx:T1.puts[k]? =some x)
  (hm:gX p1 T2 L1 (fun y=>hold y+tn T1 y) x.1 (cpy x.2) 0 p' T2' L') (hf:kJ p1 T2 L1 (fun y=>hold y+tn T1 y) (cpy x.2) 0 p' T2' L'):bB F hold p L T1 (k+1) p' L' T2':=by
 obtain⟨c1,c2,c3,c4,c5,c6⟩:=h.next h0 hx;have yw:=h.fresh hx;obtain⟨a1,a2,a3,a4,a5,a6,a7,a8,a9⟩:=h.two.map hm hf c1 yw (by show 0<ay L1 x.2.frame+(hold x.2.frame+tn T1 x.2.frame);have:=il c5;omega) c3 c6;have zB:=a3 (fun x=>0<ah T1 x) c5;have xV:=h.beside;refine⟨h.one.beside xV zB (fun y hy e=>by have:=(h.one.alone hy).2.1;omega) a1 (fun y hy=>?_),a1,fun g=>?_,h.far.more (fun y hy e=>by have:=(h.two.alone e).2.2.2;omega) zB,a8.trans h.sub⟩
 ·rw[a1.eq (by rw[zB.n];exact hy)];simp only[tn];omega
 ·rw[a2];by_cases e:g=x.1
  ·subst e;rw[af,if_pos ((bW.succ hx).2 (.inr rfl)),h0.good.ok.puts_at hx];rfl
  ·rw[ag _ _ e,h.lf g];by_cases h1:bW T1.puts k g
   ·rw[if_pos h1,if_pos ((bW.succ hx).2 (.inl h1))]
   ·rw[if_neg h1,if_neg (fun h2=>((bW.succ hx).1 h2).elim h1 fun h3=>e h3.symm)]
theorem bB.fail {r:Int} (h0:Sp F hold p L T1) (h:bB F hold p L T1 k p1 L1 T2) (hx:T1.puts[k]? =some x) (hr:r≠0)
  (hm:gX p1 T2 L1 (fun y=>hold y+tn T1 y) x.1 (cpy x.2) r p' T2' L') (hf:kJ p1 T2 L1 (fun y=>hold y+tn T1 y) (cpy x.2) r p' T2' L'):
  r=4/\T2'=T2/\bB F hold p L T1 k p' L' T2/\Full (fun y=>hold y+tn T1 y) p1 T2:=by
 obtain⟨c1,c2,c3,c4,c5,c6⟩:=h.next h0 hx;obtain⟨e4,eT,a1,a2,a3,a4,⟨gs,g1,g2⟩,a6⟩:=h.two.mapNot hm hf hr c6;refine⟨e4,eT,⟨h.one.beside h.beside (a2 (fun x=>0<ah T1 x)) (fun y hy e=>by have:=(h.one.alone hy).2.1;omega) a1 (fun y hy=>?_),a1,h.lf,h.far.more (fun y hy e=>by have:=(h.two.alone e).2.2.2;omega) (a2 _),a6.trans h.sub⟩,x.2.frame::gs,by simp;omega,fun f hf=>?_⟩
 ·rw[a1.eq (by rw[(a2 (fun _ =>False)).n];exact hy)];simp only[tn];omega
 ·rcases g2 f hf (h.two.once f)with h1|h1|h1
  ·exact .inl h1
  ·exact .inr (by rw[h1];exact vv ..)
  ·exact .inr (vu _ h1)
theorem bB.farOne (h0:Sp F hold p L T1) (h:Far (fun x=>hold x+tn T1 x) rg (fun x=>0<ah T1 x) p p2):Far hold T1 E p p2:=
 ⟨h.n,fun x hx _ =>h.dat x (by(try dsimp only);omega) (fD x),fun x hx h1 _ hc=>by
  have e1:=h0.eq hx;have e2:=h.cnt x hx (by(try dsimp only);omega) (by show¬0<ah T1 x;omega) (by simp only[tn];omega);simp only[tn]at e2;omega⟩
theorem bB.undo (h0:Sp F hold p L T1) (h:bB F hold p L T1 k p1 L1 T2):
  Sp F hold (cj p1 ((T2.evs 4 0).flatMap Ev.fs)) L1 T1/\(∀E,Far hold T1 E p (cj p1 ((T2.evs 4 0).flatMap Ev.fs)))/\(∀x,0<ah T1 x->(cj p1 ((T2.evs 4 0).flatMap Ev.fs)).dat x=p.dat x)/\(Own p T1->Own (cj p1 ((T2.evs 4 0).flatMap Ev.fs)) T1):=by
 obtain⟨b1,b2⟩:=h.two.freed;have zB:Far (fun x=>hold x+tn T1 x) rg (fun x=>0<ah T1 x) p (cj p1 ((T2.evs 4 0).flatMap Ev.fs)):=h.far.more (fun y hy e=>by have:=(h.two.alone e).2.2.2;omega) (b1 _);have WY:Sp F (fun x=>hold x+tn T2 x) p1 L1 T1:=h.one;have hn:(cj p1 ((T2.evs 4 0).flatMap Ev.fs)).n=p1.n:=kq _ _;have hS:Sp F hold (cj p1 ((T2.evs 4 0).flatMap Ev.fs)) L1 T1:=by
  refine⟨⟨h.one.good.but.same hn fun x _ =>by rw[dy],fun x hx=>?_⟩,h.one.sole,fun x hx=>?_,fun s hs=>by rw[hn];exact h.one.slow s hs,fun s hs=>by rw[dy];exact h.one.filled s hs,h.one.once⟩
  ·rw[b2 x (by rw[<-hn];exact hx)];unfold held;simp only[tn];omega
  ·obtain⟨d1,d2,d3,d4⟩:=h.one.alone hx;rw[b2 x d1];have:=ao hx;simp only[tn]at d4⊢;omega
 refine⟨hS,fun E=>bB.farOne h0 zB,fun x hx=>zB.dat x (by have:=il hx;(try dsimp only);omega) (fD x),fun ho g l hl hc=>?_⟩;obtain⟨c1,c2,c3,c4,c5,c6⟩:=h0.leaf hl;have e1:=ho g l hl hc;have e2:=h0.eq c3;have e3:ay L1 l.frame<=ay L l.frame:=List.Sublist.countP_le h.sub;have e4:=hS.eq (x:=l.frame) (by rw[zB.n];exact c3);omega
open Classical in
structure gZ (F:List Nd) (hold:Nat->Nat) (p:Pool) (L:List Slot) (T1:Tab) (p':Pool) (L':List Slot) (T1' T2:Tab):Prop where
 one:Sp F (fun x=>hold x+tn T2 x) p' L' T1'
 two:Sp F (fun x=>hold x+tn T1' x) p' L' T2
 lf1: ∀g,T1'.lf g=(T1.lf g).map cpy
 lf2: ∀g,T2.lf g=(T1.lf g).map cpy
 own1:Own p' T1'
 own2:Own p' T2
 far: ∀E,Far hold T1 E p p'
 dat: ∀x,0<ah T1 x->p'.dat x=p.dat x
 nd:T1'.nd=T1.nd
 sub:L'.Sublist L
variable {f t:Int}
theorem qj (h0:f<=0) (h1:18446744073709551615<=t) {g:Nat} (hg:g<bz):inSt f t g=true:=by
 rw[fI];unfold bz at hg;omega
theorem bB.done (h0:Sp F hold p L T1) (h:bB F hold p L T1 k p1 L1 T2) (hk:T1.puts.length<=k) (hf:f<=0) (ht:18446744073709551615<=t) {j:Nat} (hT:bJ F (fun x=>hold x+tn T2 x) cpy f t p1 L1 T1 j p' T1') (hj:T1.puts.length<=j):
  gZ F hold p L T1 p' L1 T1' T2:=by
 have wE: ∀g,T2.lf g=(T1.lf g).map cpy:=fun g=>by
  rw[h.lf g];cases hl:T1.lf g with
  |none=>simp
  |some l=>rw[if_pos (bW.all h0.good.ok hk hl)]
 have xm: ∀g,T1'.lf g=(T1.lf g).map cpy:=fun g=>by
  rw[hT.done h.one hj g];cases hl:T1.lf g with
  |none=>simp
  |some l=>rw[if_pos (qj hf ht (h0.leaf hl).1)]
 have xV:iW (fun x=>hold x+tn T1 x) (fun x=>hold x+tn T2 x) T2 T1:=⟨fun x=>by(try dsimp only);omega,fun x hx=>by(try dsimp only at hx⊢);omega,fun x hx e=>by have:=(h.one.alone e).2.2.2;(try dsimp only at this);omega⟩;have xK: ∀ {X:Tab} {q:Pool},(∀g,X.lf g=(T1.lf g).map cpy)->Own q X:=fun hX g l hl hc=>by
  rw[hX g]at hl;cases hy:T1.lf g with
  |none=>rw[hy]at hl;cases hl
  |some y=>
   rw[hy]at hl;injection hl with hl;rw[<-hl]at hc;cases hc
 refine⟨hT.sp,h.two.beside xV (hT.far (fun _ =>False)) (fun _ _ e=>e) hT.sp (fun x hx=>?_),xm,wE,xK xm,xK wE,fun E=>?_,fun x hx=>?_,hT.nd,h.sub⟩
 ·rw[hT.sp.eq (by rw[(hT.far (fun _ =>False)).n];exact hx)];simp only[tn];omega
 ·have hA:Far hold T1 (fun _ =>False) p p1:=bB.farOne h0 h.far;have hB:=hT.far (fun _ =>False);refine⟨hB.n.trans hA.n,fun x hx hn=>(hT.dat x hn).trans (hA.dat x hx hn),fun x hx h1 _ hc=>?_⟩;rw[hT.cnt x (by rw[hA.n];exact hx)];exact hA.cnt x hx h1 (fun e=>e) hc
 ·exact(hT.dat x fun e=>by have:=(h0.alone e).2.1;omega).trans (h.far.dat x (by have:=il hx;(try dsimp only);omega) (fD x))
end
section
noncomputable def tnO:Option Tab->Nat->Nat
 |some T,x=>tn T x
 |none,_ =>0
noncomputable def tnS (Ts:List (Option Tab)) (x:Nat):Nat:=(Ts.map fun o=>tnO o x).sum
theorem im (x:Nat):tnS [] x=0:=rfl
theorem ce (o:Option Tab) (Ts:List (Option Tab)) (x:Nat):tnS (o::Ts) x=tnO o x+tnS Ts x:=by simp[tnS]
theorem fx (a b:List (Option Tab)) (x:Nat):tnS (a++b) x=tnS a x+tnS b x:=by simp[tnS]
theorem oq {Ts:List (Option Tab)} {k:Nat} {o:Option Tab} (h:Ts[k]? =some o) (o':Option Tab) (x:Nat):tnS (Ts.set k o') x+tnO o x=tnS Ts x+tnO o' x:=by
 induction Ts generalizing k with
 |nil=>simp at h
 |cons a Ts ih=>
  cases k with
  |zero=>
   simp at h;subst h;rw[List.set_cons_zero,ce,ce];omega
  |succ k=>
   simp at h;rw[List.set_cons_succ,ce,ce];have:=ih h;omega
theorem dG {Ts:List (Option Tab)} {k:Nat} {T:Tab} (h:Ts[k]? =some (some T)) (x:Nat):tnS Ts x=tnS (Ts.set k none) x+tn T x:=by
 have:=oq h none x;simp only[tnO]at this;omega
theorem ou {Ts:List (Option Tab)} {k:Nat} {T:Tab} (h:Ts[k]? =some (some T)) (T':Tab) (x:Nat):tnS (Ts.set k (some T')) x=tnS (Ts.set k none) x+tn T' x:=by
 have h1:=oq h none x;have h2:=oq h (some T') x;simp only[tnO]at h1 h2;omega
structure Hs (F:List Nd) (p:Pool) (L:List Slot) (Ts:List (Option Tab)):Prop where
 sole:Sole L
 slow: ∀s∈L,s.frame<p.n
 filled:kK F p L
 once: ∀x,ay L x<=1
 few:p.n<=1024
 cnt: ∀x,x<p.n->p.cnt x=tnS Ts x+ay L x
 but: ∀(j:Nat) (T:Tab),Ts[j]? =some (some T)->T.But p 0 4
 one: ∀(j:Nat) (T:Tab),Ts[j]? =some (some T)-> ∀x,an T x->p.cnt x=1
 own: ∀(j:Nat) (T:Tab),Ts[j]? =some (some T)->Own p T
variable {F:List Nd} {p p':Pool} {L L':List Slot} {Ts Ts':List (Option Tab)} {T T' T2 N:Tab} {k j:Nat}
theorem Hs.at_ (h:Hs F p L Ts) (hk:Ts[k]? =some (some T)):Sp F (tnS (Ts.set k none)) p L T:=by
 refine⟨⟨h.but k T hk,fun x hx=>?_⟩,h.sole,h.one k T hk,h.slow,h.filled,h.once⟩;rw[h.cnt x hx,dG hk];unfold held;simp only[tn];omega
theorem ly (hk:Ts[k]? =some (some T)) (hj:Ts[j]? =some (some T')) (vK:j≠k) (x:Nat): ∃r,tnS (Ts.set k none) x=tn T' x+r/\tnS (Ts.set j none) x=tn T x+r:=by
 have h1:=dG hk x;have h2:=dG hj x;have Pw:(Ts.set k none)[j]? =some (some T'):=(by rw[List.getElem?_set_ne (fun e=>vK e.symm)];exact hj);have h3:=dG Pw x;exact⟨tnS ((Ts.set k none).set j none) x,by omega,by omega⟩
theorem Hs.beside (h:Hs F p L Ts) (hk:Ts[k]? =some (some T)) (hj:Ts[j]? =some (some T')) (vK:j≠k):iW (tnS (Ts.set j none)) (tnS (Ts.set k none)) T' T:=by
 refine⟨fun x=>?_,fun x hx=>?_,fun x hx e=>?_⟩
 ·obtain⟨r,h1,h2⟩:=ly hk hj vK x;omega
 ·obtain⟨r,h1,h2⟩:=ly hk hj vK x;omega
 ·obtain⟨r,h1,h2⟩:=ly hk hj vK x;have:=((h.at_ hk).alone e).2.2.2;omega
theorem Hs.besideNo (h:Hs F p L Ts) (hj:Ts[j]? =some (some T')):iW (tnS (Ts.set j none)) (tnS Ts) T' rg:=by
 refine⟨fun x=>?_,fun x hx=>?_,fun x _ e=>fD x e⟩
 ·have:=dG hj x;omega
 ·have:=dG hj x;omega
theorem Hs.turn {rest:Nat->Nat} (h:Hs F p L Ts) (hf:Far rest N (fun _ =>False) p p') {H':Nat->Nat} {T0:Tab} (h':Sp F H' p' L' T0)
  (hold: ∀(i:Nat) (T1:Tab),Ts'[i]? =some (some T1)->(∃j,Ts[j]? =some (some T1)/\iW (tnS (Ts.set j none)) rest T1 N)\/(Sp F (tnS (Ts'.set i none)) p' L' T1/\Own p' T1))
  (yq: ∀x,x<p.n->p'.cnt x=tnS Ts' x+ay L' x):Hs F p' L' Ts':=by
 have key: ∀(i:Nat) (T1:Tab),Ts'[i]? =some (some T1)->Sp F (tnS (Ts'.set i none)) p' L' T1/\Own p' T1:=fun i T1 hi=>by
  rcases hold i T1 hi with⟨j,hj,hb⟩|h1
  ·have hs:=h.at_ hj;refine⟨hs.beside hb hf (fun _ _ e=>e) h' (fun x hx=>?_),(h.own j T1 hj).beside hs hb hf (fun _ _ _ _ e=>e)⟩;rw[yq x hx,dG hi];omega
  ·exact h1
 exact⟨h'.sole,h'.slow,h'.filled,h'.once,by rw[hf.n];exact h.few,fun x hx=>yq x (by rw[<-hf.n];exact hx),fun i T1 hi=>(key i T1 hi).1.good.but,fun i T1 hi=>(key i T1 hi).1.one,fun i T1 hi=>(key i T1 hi).2⟩
theorem cA {α:Type} {l:List α} {k i:Nat} {x y:α} (h:(l.set k x)[i]? =some y):(i=k/\y=x/\k<l.length)\/(i≠k/\l[i]? =some y):=by
 by_cases e:i=k
 ·subst e;rw[List.getElem?_set_self']at h;cases hl:l[i]? with
  |none=>rw[hl]at h;cases h
  |some z=>
   rw[hl]at h;injection h with h;exact .inl ⟨rfl,h.symm,(List.getElem?_eq_some_iff.1 hl).1⟩
 ·rw[List.getElem?_set_ne (fun e2=>e e2.symm)]at h;exact .inr ⟨e,h⟩
theorem Hs.step (h:Hs F p L Ts) (hk:Ts[k]? =some (some T)) (hf:Far (tnS (Ts.set k none)) T (fun _ =>False) p p') (h':Sp F (tnS (Ts.set k none)) p' L' T') (ho:Own p' T'):Hs F p' L' (Ts.set k (some T')):=by
 refine h.turn hf h' (fun i T1 hi=>?_) (fun x hx=>?_)
 ·rcases cA hi with⟨rfl,e,_⟩|⟨vK,hi⟩
  ·injection e with e;subst e;exact .inr ⟨by rw[List.set_set];exact h',ho⟩
  ·exact .inl ⟨i,hi,h.beside hk hi vK⟩
 ·rw[h'.eq (by rw[hf.n];exact hx),ou hk];simp only[tn];omega
theorem lD {α:Type} {l:List α} {k:Nat} {x:α} (h:l[k]? =some x):l.set k x=l:=by
 refine List.ext_getElem? fun i=>?_;by_cases e:i=k
 ·subst e;rw[List.getElem?_set_self',h];rfl
 ·rw[List.getElem?_set_ne (fun e2=>e e2.symm)]
theorem Hs.same (h:Hs F p L Ts) (hk:Ts[k]? =some (some T)) (hf:Far (tnS (Ts.set k none)) T (fun _ =>False) p p') (h':Sp F (tnS (Ts.set k none)) p' L' T) (ho:Own p' T):Hs F p' L' Ts:=by
 have h1:=h.step hk hf h' ho
 rwa [lD hk]at h1
theorem Hs.gone (h:Hs F p L Ts) (hk:Ts[k]? =some (some T)):Hs F (cj p ((T.evs 4 0).flatMap Ev.fs)) L (Ts.set k none):=by
 obtain⟨b1,b2⟩:=(h.at_ hk).freed;have hn:(cj p ((T.evs 4 0).flatMap Ev.fs)).n=p.n:=kq _ _;have key: ∀(i:Nat) (T1:Tab),(Ts.set k none)[i]? =some (some T1)->i≠k/\Ts[i]? =some (some T1):=fun i T1 hi=>by
  rcases cA hi with⟨_,e,_⟩|h1
  ·cases e
  ·exact h1
 have hs: ∀(i:Nat) (T1:Tab),(Ts.set k none)[i]? =some (some T1)->Sp F (tnS ((Ts.set k none).set i none)) (cj p ((T.evs 4 0).flatMap Ev.fs)) L T1:=fun i T1 hi=>by
  obtain⟨vK,Ca⟩:=key i T1 hi;have h1:=h.at_ Ca;have hb:=h.beside hk Ca vK;have hf:=b1 (fun _ =>False);have hc: ∀x,x<p.n->(cj p ((T.evs 4 0).flatMap Ev.fs)).cnt x=tn T1 x+(ay L x+tnS ((Ts.set k none).set i none) x):=fun x hx=>by
   rw[b2 x hx,dG hi];omega
  refine⟨⟨h1.good.but.same hn fun x _ =>by rw[dy],fun x hx=>?_⟩,h.sole,fun x hx=>?_,fun s hs=>by rw[hn];exact h.slow s hs,fun s hs=>by rw[dy];exact h.filled s hs,h.once⟩
  ·rw[hc x (by rw[<-hn];exact hx)];unfold held;simp only[tn]
  ·obtain⟨a1,a2,a3,a4⟩:=h1.alone hx;have e1:=h1.one x hx;have e2:=hb.eq x a4;have e3:=ao hx;have e6:tn T1 x=1:=(by unfold tn;omega);rw[hf.cnt x a1 (by omega) (fun e=>e) (by omega)];omega
 refine⟨h.sole,fun s hs=>by rw[hn];exact h.slow s hs,fun s hs=>by rw[dy];exact h.filled s hs,h.once,by rw[hn];exact h.few,fun x hx=>?_,fun i T1 hi=>(hs i T1 hi).good.but,fun i T1 hi=>(hs i T1 hi).one,fun i T1 hi=>?_⟩
 ·rw[b2 x (by rw[<-hn];exact hx)];omega
 ·obtain⟨vK,Ca⟩:=key i T1 hi;exact(h.own i T1 Ca).beside (h.at_ Ca) (h.beside hk Ca vK) (b1 (fun _ =>False)) (fun _ _ _ _ e=>e)
theorem Hs.more {f:Nat} (h:Hs F p L Ts) (ht:ax p L 0 f p' L'):Hs F p' L' (Ts++[some (aG f)]):=by
 have PK:Even p L (tnS Ts):=fun x hx=>by rw[h.cnt x hx];omega
 have hT:=PK.take h.sole ht;have hle: ∀x,ay L' x<=ay L x:=fun x=>List.Sublist.countP_le hT.sub;have hf:Far (tnS Ts) rg (fun _ =>False) p p':=⟨hT.n,fun x hx _ =>hT.dat x fun e=>by subst e;have:=hT.none;omega,fun x hx h1 _ hc=>by
  rw[hT.cnt x fun e=>by subst e;have:=hT.none;omega];exact hc⟩
 have hG:(aG f).Good p' (held L' (tnS Ts)) 0 4:=jL (by rw[hT.n];exact h.few) (by rw[hT.n];exact hT.lt) hT.none hT.zero hT.even;have h':Sp F (tnS Ts) p' L' (aG f):=⟨hG,hT.sole,fun x hx=>by rw[cv.1 hx];exact hT.one,fun s hs=>by rw[hT.n];exact h.slow s (hT.sub.subset hs),hT.filled h.filled,fun x=>vx (hle x) (h.once x)⟩;have xy:(Ts++[some (aG f)]).set Ts.length none=Ts++[none]:=(by rw[List.set_append_right _ _ (vd _)];simp);refine h.turn hf h' (fun i T1 hi=>?_) (fun x hx=>?_)
 ·rcases Nat.lt_or_ge i Ts.length with h1|h1
  ·rw[vk h1]at hi;exact .inl ⟨i,hi,h.besideNo hi⟩
  ·have h2:i=Ts.length:=by
    have:=(List.getElem?_eq_some_iff.1 hi).1;simp at this;omega
   subst h2;rw[vj (vd _)]at hi;simp at hi;subst hi;refine .inr ⟨?_,fun g l hl _ =>by cases hl⟩;rw[xy];have e:tnS (Ts++[none])=tnS Ts:=(by funext x;rw[fx,ce,im];simp[tnO]);rw[e];exact h'
 ·rw[h'.eq (by rw[hT.n];exact hx),fx,ce,im];simp only[tnO,tn];omega
theorem set_last {α:Type} {l:List α} {n:Nat} {x y:α} (h:l.length=n):(l++[x]).set n y=l++[y]:=by
 subst h
 induction l with
 |nil=>rfl
 |cons a l ih=>
  show a::(l++[x]).set l.length y=_;rw[ih];rfl
theorem si:tnS (Ts++[none])=tnS Ts:=by
 funext x;rw[fx,ce,im];show tnS Ts x+(0+0)=_;omega
theorem mK (x:Nat):tnS (Ts++[some T]) x=tnS Ts x+tn T x:=by
 rw[fx,ce,im];show tnS Ts x+(tn T x+0)=_;rw[Nat.add_zero]
theorem Hs.forks1 (hk:Ts[k]? =some (some T)):tnS ((Ts.set k (some T')++[some T2]).set k none)=fun x=>tnS (Ts.set k none) x+tn T2 x:=by
 have xP:k<Ts.length:=(List.getElem?_eq_some_iff.1 hk).1;rw[List.set_append_left _ _ (by rw[List.length_set];exact xP),List.set_set];funext x;exact mK x
theorem Hs.forks2 (hk:Ts[k]? =some (some T)):tnS ((Ts.set k (some T')++[some T2]).set Ts.length none)=fun x=>tnS (Ts.set k none) x+tn T' x:=by
 rw[set_last List.length_set,si];funext x;exact ou hk T' x
theorem Hs.forks (h:Hs F p L Ts) (hk:Ts[k]? =some (some T)) (hd:gZ F (tnS (Ts.set k none)) p L T p' L' T' T2):Hs F p' L' (Ts.set k (some T')++[some T2]):=by
 have hf:=hd.far (fun _ =>False);have hl:(Ts.set k (some T')).length=Ts.length:=List.length_set;refine h.turn hf hd.one (fun i T1 hi=>?_) (fun x hx=>?_)
 ·rcases Nat.lt_or_ge i Ts.length with h1|h1
  ·rw[vk (by rw[hl];exact h1)]at hi;rcases cA hi with⟨rfl,e,_⟩|⟨vK,hi⟩
   ·injection e with e;subst e;exact .inr ⟨by rw[Hs.forks1 hk];exact hd.one,hd.own1⟩
   ·exact .inl ⟨i,hi,h.beside hk hi vK⟩
  ·have h2:i=Ts.length:=by
    have:=(List.getElem?_eq_some_iff.1 hi).1;rw[vf,hl,vm]at this;omega
   subst h2;rw[vj (by rw[hl];exact vd _),hl,Nat.sub_self]at hi;injection hi with hi;injection hi with hi;subst hi;exact .inr ⟨by rw[Hs.forks2 hk];exact hd.two,hd.own2⟩
 ·have h9:=hd.one.eq (x:=x) (by rw[hf.n];exact hx);have h8:=mK (Ts:=Ts.set k (some T')) (T:=T2) x;have h7:=ou hk T' x;have h6:tn T' x=ah T' x+az T' x:=rfl;omega
end
section
variable {t:Tab} {x:Nat}
theorem nC (h:0<ah t x): ∃g l,t.lf g=some l/\l.frame=x:=by
 refine vo fun vW=>?_;have h0:ah t x=0:=by
  refine eo.2 fun i _ =>?_;cases hl:t.lf i with
  |none=>exact dt hl
  |some l=>
   rw[du hl];rw[vp];exact fun e=>vW ⟨i,l,hl,e⟩
 omega
variable {p:Pool}
theorem Tab.Ok.under (h:t.Ok p) (lv:Nat): ∀q f,t.nd lv q=some f->lv<4-> ∃g l,t.lf g=some l/\part g lv=q:=by
 induction lv with
 |zero=>intro q f hf _;have:=(h.level _ _ _ hf).1;omega
 |succ lv ih=>
  intro q f hf h4;obtain⟨k,hk,hw⟩:=h.full _ _ _ hf h4;have ht:=(t.word_there lv q k).1 hw;cases lv with
  |zero=>
   obtain⟨l,hl⟩:=bE (show(t.lf (q*512+k)).isSome=true from ht);refine⟨q*512+k,l,hl,?_⟩;unfold part;omega
  |succ lv=>
   obtain⟨f',Ii⟩:=bE (show(t.nd (lv+1) (q*512+k)).isSome=true from ht);obtain⟨g,l,hl,hg⟩:=ih _ _ Ii (by omega);exact⟨g,l,hl,by rw[<-lP,hg];omega⟩
def Tab.names (t:Tab) (G:List Nat):List Nat:=(t.nd 4 0).toList++G.flatMap fun g=>((t.lf g).map (·.frame)).toList++((t.nd 1 (part g 1)).toList++((t.nd 2 (part g 2)).toList++(t.nd 3 (part g 3)).toList))
theorem jU {α:Type} (o:Option α):o.toList.length<=1:=by cases o<;>simp
theorem Tab.names_len (t:Tab) (G:List Nat):(t.names G).length<=1+4*G.length:=by
 unfold Tab.names;rw[vf];have h1:=jU (t.nd 4 0);have h2:(G.flatMap fun g=>((t.lf g).map (·.frame)).toList++((t.nd 1 (part g 1)).toList++((t.nd 2 (part g 2)).toList++(t.nd 3 (part g 3)).toList))).length<=4*G.length:=by
  induction G with
  |nil=>simp
  |cons g G ih=>
   rw[vy,vf,vf,vf,vf,vn];have a1:=jU ((t.lf g).map (·.frame));have a2:=jU (t.nd 1 (part g 1));have a3:=jU (t.nd 2 (part g 2));have a4:=jU (t.nd 3 (part g 3));omega
 omega
variable {G:List Nat}
theorem Tab.Ok.named (h:t.Ok p) (hG: ∀g l,t.lf g=some l->g∈G) (hx:0<ah t x+az t x):x∈t.names G:=by
 unfold Tab.names;rw[List.mem_append,List.mem_flatMap];rcases Nat.eq_zero_or_pos (ah t x)with h0|h0
 ·have hn:an t x:=vo fun e=>by rw[aE e]at hx;omega
  obtain⟨lv,q,hq⟩:=hn;obtain⟨l1,l2⟩:=h.level _ _ _ hq;by_cases h4:lv=4
  ·subst h4;have:=h.only _ _ hq;subst this;exact .inl (by rw[hq];simp)
  ·obtain⟨g,l,hl,hg⟩:=h.under lv q x hq (by omega);refine .inr ⟨g,hG g l hl,?_⟩;subst hg;obtain h1|h1|h1:lv=1\/lv=2\/lv=3:=by omega
   ·subst h1;rw[hq];simp
   ·subst h1;rw[hq];simp
   ·subst h1;rw[hq];simp
 ·obtain⟨g,l,hl,e⟩:=nC h0;exact .inr ⟨g,hG g l hl,by rw[hl];simp[e]⟩
theorem uE: ∀(n:Nat) (us:List Nat),(∀f,f<n->f∈us)->n<=us.length
 |0,_,_ =>vw _
 |n+1,us,h=>by
  have h1:=h n (by omega);have h2:=uE n (us.erase n) fun f hf=>(List.mem_erase_of_ne (by omega)).2 (h f (by omega));have h3:=List.length_erase_of_mem h1;have h4:=List.length_pos_of_mem h1;omega
variable {hold:Nat->Nat}
theorem Full.few (h:Full hold p t) (hk:t.Ok p) {us:List Nat} (hG: ∀g l,t.lf g=some l->g∈G) (hu: ∀x,0<hold x->x∈us):p.n<=us.length+(1+4*G.length)+3:=by
 obtain⟨gs,h1,h2⟩:=h;have h3:=uE p.n (us++(t.names G++gs)) fun f hf=>by
  rw[List.mem_append,List.mem_append];rcases h2 f hf with h3|h3
  ·by_cases h4:0<hold f
   ·exact .inl (hu f h4)
   ·exact .inr (.inl (hk.named hG (by omega)))
  ·exact .inr (.inr h3)
 have h4:=t.names_len G;rw[vf,vf]at h3;omega
theorem pK (h:t.Ok p) (hG: ∀g l,t.lf g=some l->g∈G) (hx:0<tn t x):x∈t.names G:=h.named hG hx
variable {F:List Nd} {L:List Slot}
theorem Sp.tn_cap {T:Tab} (h:Sp F hold p L T) (x:Nat):tn T x<=525313:=by
 have h1:ah T x<=525312:=by
  rw[<-h.good.ok.leaves_cnt x];refine vx List.countP_le_length ?_;refine vx ?_ h.good.ok.short;generalize T.evs 4 0=l
  induction l with
  |nil=>simp
  |cons e l ih=>
   rw[vy,vf,vn];have:(Ev.ls e).length<=1:=by cases e<;>simp[Ev.ls]
   omega
 have h4:az T x<=1:=by
  by_cases e:an T x
  ·rw[ao e];exact vd _
  ·rw[aE e];exact vw _
 unfold tn;omega
theorem sj (K x:Nat): ∀(Ts:List (Option Tab)),(∀(j:Nat) (T:Tab),Ts[j]? =some (some T)->tn T x<=K)->tnS Ts x<=K*Ts.length
 | [],_ =>vw _
 |o::Ts,h=>by
  have h1:=sj K x Ts fun j T hj=>h (j+1) T hj;rw[ce,vn,Nat.mul_add];cases o with
  |none=>
   have:tnO none x=0:=rfl;omega
  |some T=>
   have h2:tnO (some T) x<=K:=h 0 T rfl;omega
theorem Hs.cap {Ts:List (Option Tab)} (h:Hs F p L Ts) (hl:Ts.length<=100) (k x:Nat):tnS (Ts.set k none) x<=100000000000:=by
 have h1:=sj 525313 x (Ts.set k none) fun j T hj=>by
  rcases cA hj with⟨_,e,_⟩|⟨_,hj⟩
  ·cases e
  ·exact(h.at_ hj).tn_cap x
 rw[List.length_set]at h1;omega
theorem Hs.start (F:List Nd) (n:Nat) (hn:n<=1024):Hs F (fresh n) [] []:=by
 have h0: ∀(j:Nat) (T:Tab),([]:List (Option Tab))[j]? =some (some T)->False:=fun j T h=>by rw[List.getElem?_nil]at h;cases h
 have h1: ∀s:Slot,s∈([]:List Slot)->False:=fun s h=>by cases h
 exact⟨List.Pairwise.nil,fun s hs=>(h1 s hs).elim,fun s hs=>(h1 s hs).elim,fun x=>vw _,hn,fun x hx=>rfl,fun j T h=>(h0 j T h).elim,fun j T h=>(h0 j T h).elim,fun j T h=>(h0 j T h).elim⟩
end
