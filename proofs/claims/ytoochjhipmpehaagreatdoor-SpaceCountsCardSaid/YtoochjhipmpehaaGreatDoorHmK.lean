/- The spaces' laws: a house in memory; The spaces' laws: what is done with a house's spaces. The spaces' laws: does, its walk. -/
import Derived.Test.YtoochjhipmpehaaGreatDoorBgAK
import Derived.Test.YtoochjhipmpehaaGreatDoorOsK
import Derived.Laws.ResultCell
set_option linter.unusedVariables false
set_option linter.unusedSimpArgs false
set_option maxRecDepth 100000
set_option maxHeartbeats 8000000
namespace Go.Proofs.YtoochjhipmpehaaGreatDoor
section
open Go.RowKit Go.Sort
def ptrC (s:Nat):List Value:=[.pointer (some ⟨s,0,none⟩)]
theorem jb:Elem 56 60 1 8 (.pointer none) ptrC:=
 ⟨Tryz.underlying56,by kernel_rfl,rfl,by decide,by decide,fun _ =>rfl,fun x v hv=>by simp[ptrC]at hv;subst hv;rfl⟩
def byC (x:Nat):List Value:=[.int .u8 (x:Int)]
theorem mj:Elem 39 5 1 1 (.int .u8 0) byC:=
 ⟨Tryz.underlying39,by kernel_rfl,rfl,by decide,by decide,fun _ =>rfl,fun x v hv=>by simp[byC]at hv;subst hv;rfl⟩
theorem oR (n:Nat) (d:Nat->Nat):((List.range n).map d).flatMap byC=(List.range n).map fun j=>Value.int .u8 (d j:Int):=by
 induction List.range n with
 |nil=>rfl
 |cons x l ih=>rw[List.map_cons,vN,ih];rfl
variable {base cap n:Nat} {d:Nat->Nat}
theorem OwnB.toG {w:World} {R:Option Addr} (h:OwnB w base R cap n d):OwnG 5 1 byC w base R cap ((List.range n).map d):=by
 unfold OwnG;rw[oR,List.length_map,List.length_range];exact h
theorem OwnB.ofG {w:World} {R:Option Addr} (h:OwnG 5 1 byC w base R cap ((List.range n).map d)):OwnB w base R cap n d:=by
 unfold OwnG at h;rw[oR,List.length_map,List.length_range]at h;exact h
variable {A:Option Addr}
theorem OwnB.formA {w:World} (h:OwnB w base A cap n d):(A=none/\n=0)\/ ∃g,A=some ⟨g,0,none⟩/\base<=g/\g<w.heap.size:=by
 rcases h.toG.form with⟨h1,h2,_⟩|⟨g,h1,h2,h3,_⟩
 ·exact .inl ⟨h1,by simpa using congrArg List.length h2⟩
 ·exact .inr ⟨g,h1,h2,h3⟩
theorem OwnB.vAny {w:World} (h:OwnB w base A cap n d):av w A n d:=by
 rcases h.formA with⟨_,e⟩|⟨g,rfl,_⟩
 ·intro h0;omega
 ·exact h.v
theorem mi {w:World} (h:av w A n d):0<n-> ∃x,A=some x/\ ∀(j:Nat) u,(((List.range n).map d).flatMap byC)[j]? =some u->w.cell? (x.add j)=some u:=fun h0=>by
 obtain⟨x,e,hx⟩:=h h0;refine⟨x,e,fun j u hu=>?_⟩;rw[oR,vI]at hu;obtain⟨i,hi,rfl⟩:=Option.map_eq_some_iff.1 hu;obtain⟨h1,h2⟩:=List.getElem?_eq_some_iff.1 hi;rw[List.length_range]at h1;rw[List.getElem_range]at h2;subst h2;exact hx j h1
variable {w w' w1 w3 w4:World} {hb B c a fs m:Nat} {S S':Nat->Prop} {F:List Nd} {clock vQ:Int} {p p':Pool} {L L':List Slot} {l l':List SpM} {R:Option Addr} {cr:Nat} {ls:List Nat}
variable {X:Nat->Prop}
theorem Hse.aside (h:Hse w B c a fs m S F clock p L l) (hm:Mod X w w') (hX: ∀b,X b-> ¬aw S c m b/\B<=b/\ ∀(k:Nat) (x:SpM),l[k]? =some x->b≠x.s/\b≠x.t/\ ∀ad,x.A=some ad->ad.block≠b):Hse w' B c a fs m S F clock p L l:=
 ⟨h.home.mod hm (fun b e=>⟨fun e2=>(hX b e).1 (.inl e2),fun e2=>(hX b e).1 (.inr (.inr e2)),fun e2=>(hX b e).1 (.inr (.inl e2)),(hX b e).2.1⟩),h.hs,
  fun j y hj=>(h.each j y hj).keep (h.lt j y hj) hm (fun b e=> .inr (.inr ((hX b e).2.2 j y hj))) (Out.refl _ _),h.apart,fun j y hj=>(h.lt j y hj).more hm.size⟩
structure Hou (w:World) (hb B c a fs m:Nat) (S:Nat->Prop) (F:List Nd) (clock:Int) (p:Pool) (L:List Slot) (l:List SpM) (R:Option Addr) (cr:Nat) (ls:List Nat):Prop where
 hse:Hse w B c a fs m S F clock p L l
 self:gW w hb fs a c R ls.length cr
 row:OwnG 60 1 ptrC w B R cr ls
 hbB:B<=hb
 no: ¬aw S c m hb
 sp: ∀(k:Nat) (x:SpM),l[k]? =some x->hb≠x.s/\hb≠x.t/\ ∀ad,x.A=some ad->ad.block≠hb
 noR: ∀g,R=some ⟨g,0,none⟩->g≠hb/\ ¬aw S c m g/\ ∀(k:Nat) (x:SpM),l[k]? =some x->g≠x.s/\g≠x.t/\ ∀ad,x.A=some ad->ad.block≠g
 tl: ∀(k:Nat) (x:SpM),l[k]? =some x->B<=x.t
theorem Hou.lt (h:Hou w hb B c a fs m S F clock p L l R cr ls):hb<w.heap.size:=(vo h.self).1
theorem aw.out {b:Nat} (ho:Out S S' w) (hb:b<w.heap.size) (h: ¬aw S c m b): ¬aw S' c m b:=fun e=>by
 rcases e with e|e
 ·exact(ho b e).elim (fun e=>h (.inl e)) (fun e=>by omega)
 ·exact h (.inr e)
theorem Hou.next (h:Hou w hb B c a fs m S F clock p L l R cr ls) (hh:Hse w' B c a fs m S' F vQ p' L' l') (hm:Mod X w w') (hX: ∀b,X b->aw S c m b\/w.heap.size<=b\/ ∃(k:Nat) (x:SpM),l[k]? =some x/\(b=x.s\/b=x.t)) (ho:Out S S' w)
  (hn: ∀(k:Nat) (y:SpM),l'[k]? =some y->(∃(j:Nat) (x:SpM),l[j]? =some x/\y.s=x.s/\y.t=x.t/\ ∀ad,y.A=some ad->x.A=some ad\/w.heap.size<=ad.block)\/(w.heap.size<=y.s/\w.heap.size<=y.t/\ ∀ad,y.A=some ad->w.heap.size<=ad.block)):
  Hou w' hb B c a fs m S' F vQ p' L' l' R cr ls:=by
 have vW:=h.lt;have keep: ∀g,g<w.heap.size-> ¬aw S c m g->(∀(k:Nat) (x:SpM),l[k]? =some x->g≠x.s/\g≠x.t/\ ∀ad,x.A=some ad->ad.block≠g)->w'.heap[g]? =w.heap[g]? :=fun g hg h1 h2=>hm.block g hg fun e=>by
  rcases hX g e with e|e|⟨k,x,h3,h4⟩
  ·exact h1 e
  ·omega
  ·exact h4.elim (h2 k x h3).1 (h2 k x h3).2.1
 have far: ∀g,g<w.heap.size->(∀(k:Nat) (x:SpM),l[k]? =some x->g≠x.s/\g≠x.t/\ ∀ad,x.A=some ad->ad.block≠g)-> ∀(k:Nat) (y:SpM),l'[k]? =some y->g≠y.s/\g≠y.t/\ ∀ad,y.A=some ad->ad.block≠g:=fun g hg h2 k y hy=>by
  rcases hn k y hy with⟨j,x,h3,h4,h5,h6⟩|⟨h3,h4,h5⟩
  ·obtain⟨e1,e2,e3⟩:=h2 j x h3;exact⟨by rw[h4];exact e1,by rw[h5];exact e2,fun ad e=>(h6 ad e).elim (e3 ad) (fun e=>by omega)⟩
  ·exact⟨by omega,by omega,fun ad e=>by have:=h5 ad e;omega⟩
 refine⟨hh,(keep hb vW h.no h.sp).trans h.self,h.row.same fun g hg=>keep g (h.row.lt g hg).2 (h.noR g hg).2.1 (h.noR g hg).2.2,h.hbB,aw.out ho vW h.no,far hb vW h.sp,
  fun g hg=>⟨(h.noR g hg).1,aw.out ho (h.row.lt g hg).2 (h.noR g hg).2.1,far g (h.row.lt g hg).2 (h.noR g hg).2.2⟩,fun k y hy=>?_⟩
 have Dp:=h.hse.home.base;rcases hn k y hy with⟨j,x,h3,h4,h5,h6⟩|⟨h3,h4,h5⟩
 ·rw[h5];exact h.tl j x h3
 ·omega
theorem Hou.old (h:Hou w hb B c a fs m S F clock p L l R cr ls): ∀(k:Nat) (y:SpM),l[k]? =some y->(∃(j:Nat) (x:SpM),l[j]? =some x/\y.s=x.s/\y.t=x.t/\ ∀ad,y.A=some ad->x.A=some ad\/w.heap.size<=ad.block)\/(w.heap.size<=y.s/\w.heap.size<=y.t/\ ∀ad,y.A=some ad->w.heap.size<=ad.block):=fun k y hy=> .inl ⟨k,y,hy,rfl,rfl,fun _ e=> .inl e⟩
theorem Hou.below (h:Hou w hb B c a fs m S F clock p L l R cr ls) (BJ:Below w.heap.size w w'):Hou w' hb B c a fs m S F clock p L l R cr ls:=
 h.next (X:=fun _ =>False) (h.hse.below BJ) (Mod.of BJ) (fun _ e=>e.elim) (Out.refl _ _) h.old
def iR (S:Nat->Prop) (B c m hb:Nat) (R:Option Addr) (l:List SpM) (b:Nat):Prop:= ¬aw S c m b/\B<=b/\b≠hb/\R≠some ⟨b,0,none⟩/\ ∀(k:Nat) (x:SpM),l[k]? =some x->b≠x.s/\b≠x.t/\ ∀ad,x.A=some ad->ad.block≠b
theorem Hou.aside (h:Hou w hb B c a fs m S F clock p L l R cr ls) (hm:Mod X w w') (hX: ∀b,X b->iR S B c m hb R l b):Hou w' hb B c a fs m S F clock p L l R cr ls:=
 ⟨h.hse.aside hm (fun b e=>⟨(hX b e).1,(hX b e).2.1,(hX b e).2.2.2.2⟩),(hm.block hb h.lt (fun e=>(hX hb e).2.2.1 rfl)).trans h.self,h.row.same fun x hx=>hm.block x (h.row.lt x hx).2 (fun e=>(hX x e).2.2.2.1 hx),h.hbB,h.no,h.sp,h.noR,h.tl⟩
theorem Hou.far (h:Hou w hb B c a fs m S F clock p L l R cr ls) (wG:Below w.heap.size w w3) (Aq:w3.grownBy w4 (R.map (·.block))):w4.heap[hb]? =w.heap[hb]? :=by
 have hh:=h.lt;have yk:=wG.size;refine(Aq.block hb (by omega) (fun e=>?_)).trans (wG.block hb hh);rcases h.row.form with⟨h9,_⟩|⟨g,h9,_⟩
 ·rw[h9]at e;cases e
 ·rw[h9]at e;simp only[Option.map_some,Option.some.injEq]at e;exact(h.noR g h9).1 e.symm
theorem Hou.push {s g vP:Nat} (h:Hou w hb B c a fs m S F clock p L l R cr ls) (wG:Below w.heap.size w w3) (zN:OwnG 60 1 ptrC w4 B (some ⟨g,0,none⟩) vP (ls++[s])) (Aq:w3.grownBy w4 (R.map (·.block))) (xi:R.map (·.block)=some g\/g=w3.heap.size) (vW:g<w4.heap.size):
  Hou (w4.setCell ⟨hb,3,none⟩ (.slice (some ⟨g,0,none⟩) (ls.length+1) vP)) hb B c a fs m S F clock p L l (some ⟨g,0,none⟩) vP (ls++[s])/\Mod (fun b=>R=some ⟨b,0,none⟩\/b=hb) w (w4.setCell ⟨hb,3,none⟩ (.slice (some ⟨g,0,none⟩) (ls.length+1) vP))/\(R=some ⟨g,0,none⟩\/w.heap.size<=g):=by
 have RD: ∀k,R.map (·.block)=some k->R=some ⟨k,0,none⟩:=fun k e=>by
  rcases h.row.form with⟨h9,_⟩|⟨g,h9,_⟩
  ·rw[h9]at e;cases e
  ·rw[h9]at e;simp only[Option.map_some,Option.some.injEq]at e;rw[h9,e]
 have hh:=h.lt;have yk:=wG.size;have hl:=h.hse.home.lts;have Dp:=h.hse.home.base;have xH:Mod (fun b=>R.map (·.block)=some b\/b=hb) w w4:=(Mod.of wG).trans (Out.refl _ _) ((cw Aq).sub fun b e=> .inl e);have xu:Mod (fun b=>R.map (·.block)=some b\/b=hb) w (w4.setCell ⟨hb,3,none⟩ (.slice (some ⟨g,0,none⟩) (ls.length+1) vP)):=xH.trans (Out.refl _ _) ((aj (S:=fun b=>b=hb) rfl 3 _).sub fun b e=> .inr e);have xv:w4.heap[hb]? =w.heap[hb]? :=(Aq.block hb (by omega) (fun e=>(h.noR hb (RD hb e.symm)).1 rfl)).trans (wG.block hb hh);have Ph:=xv.trans h.self;have NM:(R=some ⟨g,0,none⟩)\/w.heap.size<=g:=xi.imp (RD g) fun e=>by omega
 have Ug:g≠hb:=NM.elim (fun e=>(h.noR g e).1) (fun e=>by omega);refine⟨⟨h.hse.aside xu fun b e=>?_,?_,zN.same fun x hx=>?_,h.hbB,h.no,h.sp,fun x hx=>?_,h.tl⟩,xu.sub fun b e=>e.imp (RD b) id,NM⟩
 ·rcases e with e|e
  ·exact⟨(h.noR b (RD b e)).2.1,(h.row.lt b (RD b e)).1,(h.noR b (RD b e)).2.2⟩
  ·subst e;exact⟨h.no,h.hbB,h.sp⟩
 ·have h9:=Joins.block_setCell (i:=3) Ph (.slice (some ⟨g,0,none⟩) (ls.length+1) vP);unfold gW;rw[h9,vu,vB];rfl
 ·injection hx with hx;injection hx with hx;subst hx;exact(aj (S:=fun b=>b=hb) (w:=w4) (b:=hb) rfl 3 _).block g vW Ug
 ·injection hx with hx;injection hx with hx;subst hx;rcases NM with e|e
  ·exact h.noR g e
  ·exact⟨Ug,fun e2=>by have:=hl.2.2;rcases e2 with e2|e2|e2;(have:=hl.2.2 g e2;omega);omega;omega,fun k x hk=>by have h5:=h.hse.lt k x hk;have h6:=h5.s;have h7:=h5.t;exact⟨by omega,by omega,fun ad e=>by have:=h5.r ad e;omega⟩⟩
def numI (s:Int) (n:Nat):Int:=if n=0 then-1 else if s.tmod n<0 then s.tmod n+n else s.tmod n
theorem pE (s:Int) (hn:0<n): -(n:Int)<s.tmod n:=by
 rcases Int.le_total 0 s with h|h
 ·have:=Int.tmod_nonneg (n:Int) h;omega
 ·have h3:=Int.tmod_lt_of_pos (-s) (show(0:Int)<n by omega);rw[Int.neg_tmod]at h3;omega
theorem numI_at (s:Int) (hn:0<n): ∃j,j<n/\numI s n=(j:Int):=by
 have h1:=Int.tmod_lt_of_pos s (show(0:Int)<n by omega);have h2:=pE s hn;refine⟨(numI s n).toNat,?_,?_⟩<;>(unfold numI;rw[if_neg (by omega)];split<;>omega)
theorem ri (s:Int) (n:Nat) (hn:n<=1000) (w:World):Calls Tryz.prog 16 #[.int .i64 s, .int .i64 (n:Int)] w fun e w'=>e= .returned (.int .i64 (numI s n))/\w=w':=by
 by_cases h0:n=0
 ·subst h0;go_enter Tryz.func16,Tryz.ntmps16;go_wp2_with fail;go_ret;exact⟨rfl,rfl⟩
 ·have hz:((n:Int)==0)=false:=(by rw[vE];omega);have h1:=Int.tmod_lt_of_pos s (show(0:Int)<n by omega);have h2:=pE s (n:=n) (by omega);by_cases JW:s.tmod n<0
  ·have hd:decide (s.tmod n<0)=true:=vG JW;have hr:Hid (numI s n=s.tmod n+n):=vp (by unfold numI;rw[if_neg h0,if_pos JW]);go_enter Tryz.func16,Tryz.ntmps16;go_wp2_with fail;go_ret;exact⟨by rw[hr.out];rfl,rfl⟩
  ·have hd:decide (s.tmod n<0)=false:=vF JW;have hr:Hid (numI s n=s.tmod n):=vp (by unfold numI;rw[if_neg h0,if_neg JW]);go_enter Tryz.func16,Tryz.ntmps16;go_wp2_with fail;go_ret;exact⟨by rw[hr.out];rfl,rfl⟩
theorem kO (A1 A2:Option Addr) (n c1 c2:Nat) (d0:Nat->Nat) (w:World) (h1:av w A1 n d0) (h2:av w A2 n d0) (hn:n<=140737488355328) (yr:n<=c1) (Au:n<=c2):
  Calls Tryz.prog 20 #[.slice A1 n c1, .slice A2 n c2] w fun e w'=>e= .returned (.bool true)/\Below w.heap.size w w':=by
 have H1:=vp h1;have H2:=vp h2;clear h1 h2;go_enter Tryz.func20,Tryz.ntmps20;go_wp2_with fail;go_loopw [5] (fun i wr=> ∃(k:Nat),i= .int .i64 (k:Int)/\k<=n/\Below w.heap.size w wr) (fun i _ =>n-(intOf i).toNat)
 case atStart=>exact⟨0,rfl,vL _,vO _ _⟩
 case round=>
  obtain⟨k,rfl,hk,yd⟩:=hrel;by_cases vW:k<n
  ·obtain⟨a1,rfl,g1⟩:=H1.out (by omega);obtain⟨a2,rfl,g2⟩:=H2.out (by omega);have e1:=(yd.cell (World.block_lt_of_cell? _ _ (g1 k vW))).trans (g1 k vW);have e2:=(yd.cell (World.block_lt_of_cell? _ _ (g2 k vW))).trans (g2 k vW);have f1: ∀d os,(grow (redrawn wr d) os).cell? (a1.add k)=some (.int .u8 ((d0 k:Nat):Int)):=fun d os=>cell_regrown e1 d os;have f2: ∀d os,(grow (redrawn wr d) os).cell? (a2.add k)=some (.int .u8 ((d0 k:Nat):Int)):=fun d os=>cell_regrown e2 d os;have yG:(k:Int)<(n:Int):=(by omega);have HB:=vp yd;clear e1 e2 g1 g2 yd;go_upto_region 6 with(fail);refine wp_region_quiet_below (by kernel_rfl) (by kernel_rfl) ?_;(repeat(go_big_quiet_step ((fail))));refine wpQuiet_nil ?_;intro _ yq;obtain⟨⟨dq,osq⟩,hw''⟩:=yq;subst hw'';have xc:=below_regrown (wr) dq osq;generalize grow (redrawn (wr) dq) osq=wq at xc⊢;go_wp2_with fail;go_roundw
   case rel=>exact⟨k+1,by go_num,by omega,HB.out.trans (xc.mono HB.out.size)⟩
   case measure=>(simp[intOf];omega)
  ·obtain rfl:k=n:=(by omega);go_wp2_with fail;go_ret;exact⟨rfl,yd⟩
end
section
open Go.RowKit Go.Sort
structure O11 where
 kd:Int
 sI:Int
 r:Reg
 addr:Nat
 n:Int
 q:Nat
 d:Nat->Nat
inductive Do11 (F:List Nd) (p:Pool) (L:List Slot) (l:List SpM) (o:O11):Int->Pool->List Slot->List SpM->Prop
 |idle:Do11 F p L l o 0 p L l
 |new (s t f:Nat) (p':Pool) (L':List Slot):o.kd=9->ax p L 0 f p' L'->Do11 F p L l o 0 p' L' (l++[⟨s,t,f,none,0,0,[],some (aF f)⟩])
 |newNo (f:Nat):o.kd=9->ax p L 4 f p L->Do11 F p L l o 4 p L l
 |gone (k:Nat) (x:SpM) (er:Int):o.kd≠9->numI o.sI l.length=k->l[k]? =some x->x.T=none->er=0\/er=2->Do11 F p L l o er p L l
 |no (k:Nat) (x:SpM) (T:Tab) (er:Int):o.kd=0\/o.kd=1\/o.kd=2->numI o.sI l.length=k->l[k]? =some x->x.T=some T->er≠0->Do11 F p L l o er p L l
 |map (k:Nat) (x:SpM) (T:Tab) (A':Option Addr) (vP:Nat) (p':Pool) (T':Tab):o.kd=0->numI o.sI l.length=k->l[k]? =some x->x.T=some T->0=ee F x.rl o.r->cy F (tnS ((l.map (·.T)).set k none)) o.r.fr o.r.to p L T T.puts.length p' T'->Do11 F p L l o 0 p' L (l.set k (x.withR A' vP (Rg.put x.rl o.r).1 T'))
 |unmap (k:Nat) (x:SpM) (T:Tab) (A':Option Addr) (vP:Nat) (p':Pool) (T':Tab):o.kd=1->numI o.sI l.length=k->l[k]? =some x->x.T=some T->0=(Rg.cut x.rl o.r.fr o.r.to).2->cy F (tnS ((l.map (·.T)).set k none)) o.r.fr o.r.to p L T T.puts.length p' T'->Do11 F p L l o 0 p' L (l.set k (x.withR A' vP (Rg.cut x.rl o.r.fr o.r.to).1 T'))
 |prot (k:Nat) (x:SpM) (T:Tab) (A':Option Addr) (vP:Nat) (p':Pool) (T':Tab) (q:Nat):o.kd=2->numI o.sI l.length=k->l[k]? =some x->x.T=some T->o.r.prot=(q:Int)->0=(Rg.protect x.rl o.r.fr o.r.to q).2->bH F (tnS ((l.map (·.T)).set k none)) (prt q) o.r.fr o.r.to p L T T.puts.length p' T'->Do11 F p L l o 0 p' L (l.set k (x.withR A' vP (Rg.protect x.rl o.r.fr o.r.to q).1 T'))
 |load (k:Nat) (x:SpM) (T:Tab) (want er:Int) (kk:Nat) (d:Nat->Nat) (p':Pool) (L':List Slot) (T':Tab):(o.kd=3/\want=4)\/(o.kd=5/\want=0)->numI o.sI l.length=k->l[k]? =some x->x.T=some T->eM F (tnS ((l.map (·.T)).set k none)) x.rl p L T o.addr o.n want er kk d p' L' T'->Do11 F p L l o er p' L' (l.set k (x.withT T'))
 |store (k:Nat) (x:SpM) (T:Tab) (want er:Int) (p':Pool) (L':List Slot) (T':Tab):(o.kd=4/\want=2)\/(o.kd=6/\want=0)->numI o.sI l.length=k->l[k]? =some x->x.T=some T->dJ F (tnS ((l.map (·.T)).set k none)) x.rl p L T o.addr o.q o.d want er p' L' T'->Do11 F p L l o er p' L' (l.set k (x.withT T'))
 |forkNo (k:Nat) (x:SpM) (T:Tab) (p':Pool) (L':List Slot):o.kd=7->numI o.sI l.length=k->l[k]? =some x->x.T=some T->qr F (tnS ((l.map (·.T)).set k none)) p L T p' L'->Do11 F p L l o 4 p' L' l
 |fork (k:Nat) (x:SpM) (T:Tab) (s2 t2 f:Nat) (A':Option Addr) (vP:Nat) (p':Pool) (L':List Slot) (T' T2:Tab):o.kd=7->numI o.sI l.length=k->l[k]? =some x->x.T=some T->gX F (tnS ((l.map (·.T)).set k none)) p L T p' L' T' T2->Do11 F p L l o 0 p' L' (l.set k (x.withT T')++[⟨s2,t2,f,A',x.n,vP,x.rl,some T2⟩])
 |free (k:Nat) (x:SpM) (T:Tab):o.kd=8->numI o.sI l.length=k->l[k]? =some x->x.T=some T->Do11 F p L l o 0 (ce p ((T.evs 4 0).flatMap Ev.fs)) L (l.set k x.dead)
def houF (S:Nat->Prop) (c m hb:Nat) (R:Option Addr) (l:List SpM):Nat->Prop:=fun b=>aw S c m b\/b=hb\/R=some ⟨b,0,none⟩\/ ∃(k:Nat) (x:SpM),l[k]? =some x/\(b=x.s\/b=x.t)
variable {w w':World} {hb B c a fs m:Nat} {S S':Nat->Prop} {F:List Nd} {clock vQ:Int} {p p':Pool} {L L':List Slot} {l l':List SpM} {R R':Option Addr} {cr:Nat} {ls:List Nat}
theorem Hou.lowF (h:Hou w hb B c a fs m S F clock p L l R cr ls): ∀b,houF S c m hb R l b->B<=b:=fun b e=>by
 rcases e with e|e|e|⟨k,x,hk,e⟩
 ·exact h.hse.footLow b e
 ·rw[e];exact h.hbB
 ·exact(h.row.lt b e).1
 ·rcases e with e|e
  ·rw[e];have h1:=h.hse.each k x hk;cases hT:x.T with
   |none=>exact(h1.dead hT).noS.2.2.2
   |some T=>exact(h1.live hT).one.noS.2.2.2
  ·rw[e];exact h.tl k x hk
theorem qb (ho:Out S S' w)
  (hn: ∀(k:Nat) (y:SpM),l'[k]? =some y->(∃(j:Nat) (x:SpM),l[j]? =some x/\y.s=x.s/\y.t=x.t/\ ∀ad,y.A=some ad->x.A=some ad\/w.heap.size<=ad.block)\/(w.heap.size<=y.s/\w.heap.size<=y.t/\ ∀ad,y.A=some ad->w.heap.size<=ad.block))
  (hR: ∀g,R'=some ⟨g,0,none⟩->R=some ⟨g,0,none⟩\/w.heap.size<=g):Out (houF S c m hb R l) (houF S' c m hb R' l') w:=fun b e=>by
 rcases e with(e|e|e)|e|e|⟨k,y,hk,e⟩
 ·exact(ho b e).imp (fun e=> .inl (.inl e)) id
 ·exact .inl (.inl (.inr (.inl e)))
 ·exact .inl (.inl (.inr (.inr e)))
 ·exact .inl (.inr (.inl e))
 ·exact(hR b e).imp (fun e=> .inr (.inr (.inl e))) id
 ·rcases hn k y hk with⟨j,x,h3,h4,h5,_⟩|⟨h3,h4,_⟩
  ·exact .inl (.inr (.inr (.inr ⟨j,x,h3,by rw[<-h4,<-h5];exact e⟩)))
  ·exact .inr (e.elim (fun e=>by omega) (fun e=>by omega))
def cQ (w:World) (l l':List SpM):Prop:= ∀(k:Nat) (y:SpM),l'[k]? =some y->(∃(j:Nat) (x:SpM),l[j]? =some x/\y.s=x.s/\y.t=x.t/\ ∀ad,y.A=some ad->x.A=some ad\/w.heap.size<=ad.block)\/(w.heap.size<=y.s/\w.heap.size<=y.t/\ ∀ad,y.A=some ad->w.heap.size<=ad.block)
theorem cQ.refl (w:World) (l:List SpM):cQ w l l:=fun k y hy=> .inl ⟨k,y,hy,rfl,rfl,fun _ e=> .inl e⟩
variable {y:SpM}
theorem cQ.set {k:Nat} {x:SpM} (hk:l[k]? =some x) (hs:y.s=x.s) (ht:y.t=x.t) (hA: ∀ad,y.A=some ad->x.A=some ad\/w.heap.size<=ad.block):cQ w l (l.set k y):=fun j z hj=>by
 rcases cT hj with⟨_,rfl,_⟩|⟨_,hj⟩
 ·exact .inl ⟨k,x,hk,hs,ht,hA⟩
 ·exact .inl ⟨j,z,hj,rfl,rfl,fun _ e=> .inl e⟩
theorem cQ.snoc (h:cQ w l l') (hy:w.heap.size<=y.s/\w.heap.size<=y.t/\ ∀ad,y.A=some ad->w.heap.size<=ad.block):cQ w l (l'++[y]):=fun j z hj=>by
 rcases Nat.lt_or_ge j l'.length with h1|h1
 ·rw[vz h1]at hj;exact h j z hj
 ·rw[vy h1]at hj;have:=vA hj;rw[List.mem_singleton]at this;subst this;exact .inr hy
theorem fd {k:Nat} {x:SpM} (hk:l[k]? =some x) (hs:y.s=x.s):(l.set k y).map (·.s)=l.map (·.s):=by
 rw[List.map_set,hs];exact pH (by rw[vI,hk];rfl)
variable {wq:World} {b:Nat}
theorem Hou.mine (h:Hou w hb B c a fs m S F clock p L l R cr ls) (hz:w.heap.size<=wq.heap.size) (ho:Out S S' wq) (hn:cQ wq l l') (h2:w.heap.size<=b) (h3:b<wq.heap.size):iR S' B c m hb R l' b:=by
 have hl:=h.hse.home.lts;refine⟨fun e=>?_,vM h.hse.home.base h2,fun e=>by have:=h.lt;omega,fun e=>by have:=(h.row.lt b e).2;omega,fun k y hy=>?_⟩
 ·rcases e with e|e|e
  ·exact(ho b e).elim (fun e=>by have:=hl.2.2 b e;omega) (fun e=>by omega)
  ·omega
  ·omega
 ·rcases hn k y hy with⟨j,x,e1,e2,e3,e4⟩|⟨e1,e2,e3⟩
  ·have h5:=h.hse.lt j x e1;have h6:=h5.s;have h7:=h5.t;exact⟨by omega,by omega,fun ad e=>(e4 ad e).elim (fun e=>by have:=h5.r ad e;omega) (fun e=>by omega)⟩
  ·exact⟨by omega,by omega,fun ad e=>by have:=e3 ad e;omega⟩
variable {w1:World} {X Y:Nat->Prop}
theorem Hou.ends {wf:World} (h:Hou w hb B c a fs m S F clock p L l R cr (l.map (·.s))) (xc:Below w.heap.size w wq) (h1:Hse w1 B c a fs m S' F vQ p' L' l') (hm:Mod X wq w1) (hX: ∀b,X b->aw S c m b\/ ∃(k:Nat) (x:SpM),l[k]? =some x/\(b=x.s\/b=x.t)) (ho:Out S S' wq) (hn:cQ wq l l') (hs:l'.map (·.s)=l.map (·.s)) (hY:Mod Y w1 wf) (UQ: ∀b,Y b->w.heap.size<=b/\(b<wq.heap.size\/iR S' B c m hb R l' b)):
  Hou wf hb B c a fs m S' F vQ p' L' l' R cr (l'.map (·.s))/\Mod (houF S c m hb R l) w wf/\Out (houF S c m hb R l) (houF S' c m hb R l') w:=by
 have hz:=xc.size;have hq:=h.below xc;have yV:=hq.next h1 hm (fun b e=>(hX b e).imp id .inr) ho hn;have hXF: ∀b,X b->houF S c m hb R l b:=fun b e=>(hX b e).elim .inl fun e=> .inr (.inr (.inr e));have JW:cQ w l l':=fun k y hy=>by
  rcases hn k y hy with⟨j,x,e1,e2,e3,e4⟩|⟨e1,e2,e3⟩
  ·exact .inl ⟨j,x,e1,e2,e3,fun ad e=>(e4 ad e).imp id (fun e=>by omega)⟩
  ·exact .inr ⟨by omega,by omega,fun ad e=>by have:=e3 ad e;omega⟩
 refine⟨by rw[hs];exact yV.aside hY fun b e=>(UQ b e).2.elim (fun e2=>h.mine hz ho hn (UQ b e).1 e2) id,?_,qb (fun b e=>(ho b e).imp id (fun e=>by omega)) JW (fun g e=> .inl e)⟩;exact((((Mod.of xc).trans (Out.refl _ _) ((hm.sub hXF).sub (T:=fun b=>houF S c m hb R l b\/w.heap.size<=b) fun b e=> .inl e)).trans (Out.refl _ _) (hY.sub fun b e=> .inr (UQ b e).1))).own fun b e=>e
def nP (w:World) (hb B c a fs m:Nat) (S:Nat->Prop) (F:List Nd) (clock:Int) (p:Pool) (L:List Slot) (l:List SpM) (R:Option Addr) (o:O11) (e:Ending) (w':World):Prop:=
 ∃(Rb:Option Addr) (kk cp:Nat) (er vQ:Int) (S':Nat->Prop) (p':Pool) (L':List Slot) (l':List SpM) (R':Option Addr) (cr':Nat),e= .returned (.tuple #[.agg #[.slice Rb kk cp, .int .i64 er], .bool true])/\Hou w' hb B c a fs m S' F vQ p' L' l' R' cr' (l'.map (·.s))/\l'.length<=6/\clock<=vQ/\vQ<=clock+32/\Mod (houF S c m hb R l) w w'/\Out (houF S c m hb R l) (houF S' c m hb R' l') w/\Do11 F p L l o er p' L' l'
structure se (w:World) (B:Nat) (o:O11) (A:Option Addr) (cq:Nat):Prop where
 ok:o.r.Ok
 addr:o.addr<18446744073709551616
 q:o.q<=140737488355328
 cap:o.q<=cq
 bytes:av w A o.q o.d
 small: ∀j,o.d j<256
 low: ∀ad,A=some ad->0<o.q->ad.block<B
def opV (o:O11) (A:Option Addr) (cq:Nat):Array Value:= #[.int .i64 o.kd, .int .i64 o.sI, .int .u64 o.r.fr, .int .u64 o.r.to, .int .u8 o.r.prot, .int .i64 o.r.ino, .int .u64 o.r.off, .int .u64 (o.addr:Int), .int .i64 o.n, .slice A o.q cq]
structure Bx (w:World) (E:Nat) (op:Array Value):Prop where
 op:w.heap[E]? =some (.cells op 47 (0,0))
 res:w.heap[E+1]? =some (.cells #[.slice none 0 0, .int .i64 0] 41 (0,0))
 x:w.heap[E+2]? =some (.cells #[.slice none 0 0, .int .i64 0] 41 (0,0))
variable {E:Nat} {op:Array Value}
theorem Bx.mod (h:Bx w E op) (hm:Mod X w w') (hX: ∀b,X b->b<E\/w.heap.size<=b):Bx w' E op:=by
 have k: ∀(b:Nat) (ob:Obj),E<=b->w.heap[b]? =some ob->w'.heap[b]? =some ob:=fun b ob hE hb=>by
  have h1:=(vo hb).1;exact(hm.block b h1 (fun e=>by have:=hX b e;omega)).trans hb
 exact⟨k _ _ (by omega) h.op,k _ _ (by omega) h.res,k _ _ (by omega) h.x⟩
theorem Bx.below (h:Bx w E op) (BJ:Below w.heap.size w w'):Bx w' E op:=h.mod (X:=fun _ =>False) (Mod.of BJ) (fun _ e=>e.elim)
structure Op1 (wq:World) (B c a fs m:Nat) (S:Nat->Prop) (F:List Nd) (clock:Int) (p:Pool) (L:List Slot) (l:List SpM) (o:O11) (er:Int) (X:Nat->Prop) (S':Nat->Prop) (vQ:Int) (p':Pool) (L':List Slot) (l':List SpM) (w1:World):Prop where
 hse:Hse w1 B c a fs m S' F vQ p' L' l'
 mod:Mod X wq w1
 foot: ∀b,X b->aw S c m b\/ ∃(k:Nat) (x:SpM),l[k]? =some x/\(b=x.s\/b=x.t)
 out:Out S S' wq
 next:cQ wq l l'
 same:l'.map (·.s)=l.map (·.s)
 lo:clock<=vQ
 hi:vQ<=clock+32
 done:Do11 F p L l o er p' L' l'
def ci (wq:World) (B c a fs m:Nat) (S:Nat->Prop) (F:List Nd) (clock:Int) (p:Pool) (L:List Slot) (l:List SpM) (o:O11) (er:Int) (w1:World):Prop:= ∃X S' vQ p' L' l',Op1 wq B c a fs m S F clock p L l o er X S' vQ p' L' l' w1
variable {o:O11} {k:Nat} {x:SpM}
variable {er:Int}
theorem ci.idle (h:Hse w B c a fs m S F clock p L l) (hb:Below w.heap.size w w') (hd:Do11 F p L l o er p L l):ci w B c a fs m S F clock p L l o er w':=
 ⟨fun _ =>False,S,clock,p,L,l,h.below hb,Mod.of hb,fun _ e=>e.elim,Out.refl _ _,cQ.refl _ _,rfl,Int.le_refl _,by omega,hd⟩
theorem Hse.goneOf (h:Hse w B c a fs m S F clock p L l) (hk:l[k]? =some x) (hT:x.T=none):br w (some ⟨x.s,0,none⟩):=⟨x.s,rfl,((h.each k x hk).dead hT).cell⟩
def Err1 (w:World) (B c a fs m:Nat) (S:Nat->Prop) (F:List Nd) (clock:Int) (p:Pool) (L:List Slot) (l:List SpM) (o:O11) (e:Ending) (w':World):Prop:= ∃er,e= .returned (.int .i64 er)/\Hid (ci w B c a fs m S F clock p L l o er w')
variable {vP:Nat}
theorem ci.turn {res:List Reg} {A':Option Addr} {T':Tab} (h:Hse w B c a fs m S F clock p L l) (hk:l[k]? =some x) (h2:Hse w' B c a fs m S F clock p' L (l.set k (x.withR A' vP res T'))) (hm:Mod (fun b=>aw S c m b\/b=x.s) w w') (hA: ∀ad,A'=some ad->x.A=some ad\/w.heap.size<=ad.block) (hd:Do11 F p L l o er p' L (l.set k (x.withR A' vP res T'))):ci w B c a fs m S F clock p L l o er w':=
 ⟨_,S,clock,p',L,_,h2,hm,fun b e=>e.imp id fun e=>⟨k,x,hk, .inl e⟩,Out.refl _ _,cQ.set hk rfl rfl hA,fd hk rfl,Int.le_refl _,by omega,hd⟩
theorem k_map (h:Hse w B c a fs m S F clock p L l) (hk:l[k]? =some x) (hn:numI o.sI l.length=k) (DJ:o.kd=0) (Ax:o.r.Ok):Calls Tryz.prog 25 #[.pointer (some ⟨x.s,0,none⟩), .agg #[.int .u64 (o.r).fr, .int .u64 (o.r).to, .int .u8 (o.r).prot, .int .i64 (o.r).ino, .int .u64 (o.r).off]] w (Err1 w B c a fs m S F clock p L l o):=by
 cases hT:x.T with
 |none=>
  refine(sL _ o.r w (h.goneOf hk hT)).mono ?_;rintro e w' ⟨rfl,hb⟩;exact⟨2,rfl,vp (.idle h hb (.gone k x 2 (by omega) hn hk hT (.inr rfl)))⟩
 |some T=>
  refine(hmap' h hk hT o.r Ax).mono ?_;rintro e w' (⟨er,rfl,h1,h2,h3,h4⟩|⟨rfl,h0,A',vP,p',T',h4,hm,hA,hr⟩)
  ·exact⟨er,rfl,vp (.idle h h3 (.no k x T er (.inl DJ) hn hk hT h1))⟩
  ·exact⟨0,rfl,vp (.turn h hk h4 hm (fun ad e=> .inr (hA ad e)) (.map k x T A' vP p' T' DJ hn hk hT h0 hr))⟩
theorem k_unmap (h:Hse w B c a fs m S F clock p L l) (hk:l[k]? =some x) (hn:numI o.sI l.length=k) (DJ:o.kd=1) (Ax:o.r.Ok):Calls Tryz.prog 26 #[.pointer (some ⟨x.s,0,none⟩), .int .u64 o.r.fr, .int .u64 o.r.to] w (Err1 w B c a fs m S F clock p L l o):=by
 cases hT:x.T with
 |none=>
  refine(ol _ _ _ w (h.goneOf hk hT)).mono ?_;rintro e w' ⟨rfl,hb⟩;exact⟨2,rfl,vp (.idle h hb (.gone k x 2 (by omega) hn hk hT (.inr rfl)))⟩
 |some T=>
  refine(hunmap h hk hT o.r.fr o.r.to Ax.fr0 Ax.fr1 Ax.to0 Ax.to1).mono ?_;rintro e w' (⟨er,rfl,h1,h2,h3,h4⟩|⟨rfl,h0,A',vP,p',T',h4,hm,hA,hr⟩)
  ·exact⟨er,rfl,vp (.idle h h3 (.no k x T er (.inr (.inl DJ)) hn hk hT h1))⟩
  ·exact⟨0,rfl,vp (.turn h hk h4 hm (fun ad e=> .inr (hA ad e)) (.unmap k x T A' vP p' T' DJ hn hk hT h0 hr))⟩
theorem tT (h:Hse w B c a fs m S F clock p L l) (hk:l[k]? =some x) (hl:l.length<=100) (hn:numI o.sI l.length=k) (DJ:o.kd=2) (Ax:o.r.Ok):Calls Tryz.prog 27 #[.pointer (some ⟨x.s,0,none⟩), .int .u64 o.r.fr, .int .u64 o.r.to, .int .u8 o.r.prot] w (Err1 w B c a fs m S F clock p L l o):=by
 cases hT:x.T with
 |none=>
  refine(lu _ _ _ _ w (h.goneOf hk hT)).mono ?_;rintro e w' ⟨rfl,hb⟩;exact⟨2,rfl,vp (.idle h hb (.gone k x 2 (by omega) hn hk hT (.inr rfl)))⟩
 |some T=>
  obtain⟨q,hq⟩: ∃q:Nat,o.r.prot=(q:Int):=⟨o.r.prot.toNat,by have:=Ax.prot0;omega⟩;rw[hq];refine(hprotect h hk hT hl o.r.fr o.r.to q Ax.fr0 Ax.fr1 Ax.to0 Ax.to1).mono ?_;rintro e w' (⟨er,rfl,h1,h2,h3,h4⟩|⟨rfl,h0,A',vP,p',T',h4,hm,hA,hr⟩)
  ·exact⟨er,rfl,vp (.idle h h3 (.no k x T er (.inr (.inr DJ)) hn hk hT h1))⟩
  ·exact⟨0,rfl,vp (.turn h hk h4 hm (fun ad e=> .inr (hA ad e)) (.prot k x T A' vP p' T' q DJ hn hk hT hq h0 hr))⟩
variable {want:Int}
theorem tS {Ab:Option Addr} {cq:Nat} (h:Hse w B c a fs m S F clock p L l) (hk:l[k]? =some x) (hl:l.length<=100) (hn:numI o.sI l.length=k) (DJ:(o.kd=4/\want=2)\/(o.kd=6/\want=0)) (zE:o.addr<18446744073709551616) (Ar:0<=clock/\clock+32<1000000) (hq:o.q<=140737488355328) (DG:o.q<=cq) (hb:av w Ab o.q o.d) (hd: ∀j,o.d j<256) (Dq: ∀ad,Ab=some ad->ad.block<w.heap.size/\ ¬aw S c m ad.block):
  Calls Tryz.prog 71 #[.pointer (some ⟨x.s,0,none⟩), .int .u64 (o.addr:Int), .slice Ab o.q cq, .int .u8 want] w fun e w'=> ∃er,e= .returned (.int .i64 er)/\Hid (ci w B c a fs m S F clock p L l o er w')/\Hid (av w' Ab o.q o.d):=by
 cases hT:x.T with
 |none=>
  refine(oq _ _ _ Ab o.q cq w (h.goneOf hk hT)).mono ?_;rintro e w' ⟨rfl,FT⟩;exact⟨2,rfl,vp (.idle h FT (.gone k x 2 (by omega) hn hk hT (.inr rfl))),vp (hb.kept FT)⟩
 |some T=>
  refine(nz h hk hT hl o.addr o.q cq want Ab o.d zE Ar (by omega) DG hb hd Dq).mono ?_;rintro e w' ⟨er,p',L',T',vQ,S',rfl,h2,hm,ho,yr,Au,wi⟩;exact⟨er,rfl,vp ⟨_,S',vQ,p',L',_,h2,hm,fun b e=> .inl e,ho,cQ.set hk rfl rfl (fun ad e=> .inl e),fd hk rfl,yr,Au, .store k x T want er p' L' T' DJ hn hk hT wi⟩,vp (hb.run hm Dq)⟩
theorem k_free (h:Hse w B c a fs m S F clock p L l) (hk:l[k]? =some x) (hn:numI o.sI l.length=k) (DJ:o.kd=8):Calls Tryz.prog 21 #[.pointer (some ⟨x.s,0,none⟩)] w fun e w'=>e= .returned (.tuple #[])/\Hid (ci w B c a fs m S F clock p L l o 0 w'):=by
 cases hT:x.T with
 |none=>
  refine(qN _ w (h.goneOf hk hT)).mono ?_;rintro e w' ⟨rfl,rfl⟩;exact⟨rfl,vp (.idle h (vO _ _) (.gone k x 0 (by omega) hn hk hT (.inl rfl)))⟩
 |some T=>
  refine(oP h hk hT).mono ?_;rintro e w' ⟨rfl,h2,hm⟩;exact⟨rfl,vp ⟨_,S,clock,_,L,_,h2,hm,fun b e=>e.imp id fun e=>⟨k,x,hk,e⟩,Out.refl _ _,cQ.set hk rfl rfl (fun ad e=> .inl e),fd hk rfl,Int.le_refl _,by omega, .free k x T DJ hn hk hT⟩⟩
theorem k_load (h:Hse w B c a fs m S F clock p L l) (hk:l[k]? =some x) (hl:l.length<=100) (hn:numI o.sI l.length=k) (DJ:(o.kd=3/\want=4)\/(o.kd=5/\want=0)) (zE:o.addr<18446744073709551616) (Ar:0<=clock/\clock+32<1000000):
  Calls Tryz.prog 70 #[.pointer (some ⟨x.s,0,none⟩), .int .u64 (o.addr:Int), .int .i64 o.n, .int .u8 want] w fun e w'=> ∃Rb kk cp er d X S' vQ p' L' l',e= .returned (.tuple #[.slice Rb kk cp, .int .i64 er])/\Hid (Op1 w B c a fs m S F clock p L l o er X S' vQ p' L' l' w')/\Hid (OwnB w' w.heap.size Rb cp kk d)/\Hid (∀g,Rb.map (·.block)=some g-> ¬S' g)/\Hid (∀(j:Nat) (y:SpM),l'[j]? =some y->LtW w y)/\Hid (kk<=65536):=by
 cases hT:x.T with
 |none=>
  refine(qM _ _ _ _ w (h.goneOf hk hT)).mono ?_;rintro e w' ⟨rfl,hb⟩;exact⟨none,0,0,2,fun _ =>0,fun _ =>False,S,clock,p,L,l,rfl,vp ⟨h.below hb,Mod.of hb,fun _ e=>e.elim,Out.refl _ _,cQ.refl _ _,rfl,Int.le_refl _,by omega, .gone k x 2 (by omega) hn hk hT (.inr rfl)⟩,vp (OwnB.nilB _ _ _),vp (fun g e=>by cases e),vp h.lt,vp (by omega)⟩
 |some T=>
  refine(jW h hk hT hl o.addr o.n want zE Ar).mono ?_;rintro e w' ⟨er,Rb,kk,cp,d,p',L',T',vQ,S',rfl,h2,hm,ho,yr,Au,wh,⟨JV,ya⟩,wi⟩;exact⟨Rb,kk,cp,er,d,_,S',vQ,p',L',_,rfl,vp ⟨h2,hm,fun b e=> .inl e,ho,cQ.set hk rfl rfl (fun ad e=> .inl e),fd hk rfl,yr,Au, .load k x T want er kk d p' L' T' DJ hn hk hT wi⟩,vp wh,vp JV,vp (fun j y hj=>by
   rcases cT hj with⟨_,rfl,_⟩|⟨_,hj⟩
   ·exact(h.lt k x hk).withT
   ·exact h.lt j y hj),vp ya⟩
theorem k_new (h:Hse w B c a fs m S F clock p L l) (DJ:o.kd=9):Calls Tryz.prog 24 #[.pointer (some ⟨c,0,none⟩)] w fun e w'=>
  (∃s t f p' L' S',e= .returned (.tuple #[.pointer (some ⟨s,0,none⟩), .int .i64 0])/\Hid (Hse w' B c a fs m S' F clock p' L' (l++[⟨s,t,f,none,0,0,[],some (aF f)⟩]))/\Hid (Mod (aw S c m) w w')/\Hid (Out S S' w)/\Hid (w.heap.size<=s/\w.heap.size<=t)/\Hid (Do11 F p L l o 0 p' L' (l++[⟨s,t,f,none,0,0,[],some (aF f)⟩])))\/
  (e= .returned (.tuple #[.pointer none, .int .i64 4])/\Hid (ci w B c a fs m S F clock p L l o 4 w')):=by
 refine(hnew h).mono ?_;rintro e w' (⟨s,t,f,p',L',S',rfl,h2,hm,ho,xX,ht⟩|⟨f,p',L',S',rfl,h2,hm,ho,ht,rfl,rfl⟩)
 ·exact .inl ⟨s,t,f,p',L',S',rfl,vp h2,vp hm,vp ho,vp xX,vp (.new s t f p' L' DJ ht)⟩
 ·exact .inr ⟨rfl,vp ⟨_,S',clock,_,_,l,h2,hm,fun b e=> .inl e,ho,cQ.refl _ _,rfl,Int.le_refl _,by omega, .newNo f DJ ht⟩⟩
def SpM.twin (x:SpM) (s t f:Nat) (A:Option Addr) (cap:Nat) (T:Tab):SpM:=⟨s,t,f,A,x.n,cap,x.rl,some T⟩
theorem k_fork (h:Hse w B c a fs m S F clock p L l) (hk:l[k]? =some x) (hl:l.length<=100) (hn:numI o.sI l.length=k) (DJ:o.kd=7):Calls Tryz.prog 32 #[.pointer (some ⟨x.s,0,none⟩)] w fun e w'=>
  (∃s t f A' vP p' L' T' T2 S',e= .returned (.tuple #[.pointer (some ⟨s,0,none⟩), .int .i64 0])/\Hid (Hse w' B c a fs m S' F clock p' L' (l.set k (x.withT T')++[x.twin s t f A' vP T2]))/\Hid (Mod (aw S c m) w w')/\Hid (Out S S' w)/\Hid (w.heap.size<=s/\w.heap.size<=t/\ ∀ad,A'=some ad->w.heap.size<=ad.block)/\Hid (Do11 F p L l o 0 p' L' (l.set k (x.withT T')++[x.twin s t f A' vP T2])))\/
  (∃er,e= .returned (.tuple #[.pointer none, .int .i64 er])/\er≠0/\Hid (ci w B c a fs m S F clock p L l o er w')):=by
 cases hT:x.T with
 |none=>
  refine(qO _ w (h.goneOf hk hT)).mono ?_;rintro e w' ⟨rfl,rfl⟩;exact .inr ⟨2,rfl,by decide,vp (.idle h (vO _ _) (.gone k x 2 (by omega) hn hk hT (.inr rfl)))⟩
 |some T=>
  have DF:=(h.live hk hT).rgs.right;have Md:x.n<900000:=by
   have h1:=(h.live hk hT).one.row.len;have h2:=(dX DF).2;omega
  refine(hfork h hk hT hl Md).mono ?_;rintro e w' (⟨p',L',S',rfl,h2,hm,ho,wE⟩|⟨s2,t2,f,A',vP,p',L',T',T2,S',rfl,h2,hm,ho,hs,hd⟩)
  ·exact .inr ⟨4,rfl,by decide,vp ⟨_,S',clock,p',L',l,h2,hm,fun b e=> .inl e,ho,cQ.refl _ _,rfl,Int.le_refl _,by omega, .forkNo k x T p' L' DJ hn hk hT wE⟩⟩
  ·exact .inl ⟨s2,t2,f,A',vP,p',L',T',T2,S',rfl,vp h2,vp hm,vp ho,vp hs,vp (.fork k x T s2 t2 f A' vP p' L' T' T2 DJ hn hk hT hd)⟩
theorem Op1.bx (h:Hou w hb B c a fs m S F clock p L l R cr ls) (h1:Op1 wq B c a fs m S F clock p L l o er X S' vQ p' L' l' w1) (hx:Bx wq w.heap.size op):Bx w1 w.heap.size op:=
 hx.mod h1.mod fun b e=> .inl (by
  have hl:=h.hse.home.lts;rcases h1.foot b e with e|⟨k,x,hk,e⟩
  ·rcases e with e|e|e
   ·exact hl.2.2 b e
   ·omega
   ·omega
  ·have h5:=h.hse.lt k x hk;have:=h5.s;have:=h5.t;omega)
variable {W:World}
theorem Bx.facts (h:Bx W E op):W.cell? ⟨E+1+1,0,none⟩=some (.slice none 0 0)/\W.cell? ⟨E+1+1,1,none⟩=some (.int .i64 0)/\W.frozen? ⟨E+1+1,0,none⟩=false/\W.frozen? ⟨E+1+1,1,none⟩=false/\W.frozen? ⟨E+1,0,none⟩=false/\W.frozen? ⟨E+1,1,none⟩=false/\W.cell? ⟨E+1,0,none⟩=some (.slice none 0 0)/\W.cell? ⟨E+1,1,none⟩=some (.int .i64 0):=
 ⟨aa h.x 0,aa h.x 1,ae h.x 0,ae h.x 1,ae h.res 0,ae h.res 1,aa h.res 0,aa h.res 1⟩
theorem ci.bx (h:Hou w hb B c a fs m S F clock p L l R cr ls) (h1:ci wq B c a fs m S F clock p L l o er w1) (hx:Bx wq w.heap.size op):Bx w1 w.heap.size op:=by
 obtain⟨X,S',vQ,p',L',l',h1⟩:=h1;exact h1.bx h hx
theorem Hou.footLt (h:Hou w hb B c a fs m S F clock p L l R cr ls) (e:aw S c m b\/ ∃(k:Nat) (x:SpM),l[k]? =some x/\(b=x.s\/b=x.t)):B<=b/\b<w.heap.size:=by
 have hl:=h.hse.home.lts;refine⟨h.lowF b (e.imp id fun e=> .inr (.inr e)),?_⟩;rcases e with e|⟨k,x,hk,e⟩
 ·rcases e with e|e|e
  ·exact hl.2.2 b e
  ·omega
  ·omega
 ·have h5:=h.hse.lt k x hk;have:=h5.s;have:=h5.t;omega
variable {d:Nat->Nat}
theorem av.run0 {G:Nat->Prop} {Z:Option Addr} {n:Nat} (h:av w Z n d) (hm:Mod G w W) (hZ: ∀ad,Z=some ad->0<n->ad.block<w.heap.size/\ ¬G ad.block):av W Z n d:=fun h0=>h.run hm (fun ad e=>hZ ad e h0) h0
variable {u v:Value}
theorem pA {x y:Value} {T:TypeId} (h:W.heap[E]? =some (.cells #[x,y] T (0,0))):((W.setCell ⟨E,0,none⟩ u).setCell ⟨E,1,none⟩ v).cell? ⟨E,0,none⟩=some u/\((W.setCell ⟨E,0,none⟩ u).setCell ⟨E,1,none⟩ v).cell? ⟨E,1,none⟩=some v/\Mod (fun b=>b=E) W ((W.setCell ⟨E,0,none⟩ u).setCell ⟨E,1,none⟩ v):=by
 have h1:=Joins.block_setCell (i:=0) h u;have h2:=Joins.block_setCell (i:=1) h1 v;exact⟨aa h2 0,aa h2 1,(aj (S:=fun b=>b=E) rfl 0 _).trans (Out.refl _ _) (aj (S:=fun b=>b=E) rfl 1 _)⟩
theorem iG (E:Nat) (tmps:Array Value) (v0 v1:Value) (w:World) (ht:tmps.getD 4 undef= .pointer (some ⟨E,0,none⟩)) (h0:w.cell? ⟨E,0,none⟩=some v0) (h1:w.cell? ⟨E,1,none⟩=some v1):
  (results Tryz.f15 tmps).run Tryz.prog w= .ok (.tuple #[.agg #[v0,v1],tmps.getD 5 undef]) w:=by
 rw[results_cell_tmp rfl,ht];simp[go_sem,h0,h1]
variable {tmps:Array Value} {Rb:Option Addr} {kk cp:Nat}
theorem en (h:Hou w hb B c a fs m S F clock p L l R cr (l.map (·.s))) (yU:l.length<=6) (xc:Below w.heap.size w wq) (LM:w.heap.size+3<=wq.heap.size) (h1:Op1 wq B c a fs m S F clock p L l o er X S' vQ p' L' l' w1) (hY:Mod Y w1 W) (UQ: ∀b,Y b->w.heap.size<=b/\(b<wq.heap.size\/iR S' B c m hb R l' b))
  (hr:W.heap[w.heap.size+1]? =some (.cells #[.slice none 0 0, .int .i64 0] 41 (0,0))) (ht:tmps.getD 4 undef= .pointer (some ⟨w.heap.size+1,0,none⟩)) (h5:tmps.getD 5 undef= .bool true):
  bodyPost Tryz.prog Tryz.f15 (nP w hb B c a fs m S F clock p L l R o) .ret ⟨tmps,[]⟩ ((W.setCell ⟨w.heap.size+1,0,none⟩ (.slice Rb kk cp)).setCell ⟨w.heap.size+1,1,none⟩ (.int .i64 er)):=by
 obtain⟨c0,c1,hm⟩:=pA (u:= .slice Rb kk cp) (v:= .int .i64 er) hr;refine bodyPost_ret (iG (w.heap.size+1) _ _ _ _ ht c0 c1) rfl ?_;have hY3:Mod (fun b=>Y b\/b=w.heap.size+1) w1 ((W.setCell ⟨w.heap.size+1,0,none⟩ (.slice Rb kk cp)).setCell ⟨w.heap.size+1,1,none⟩ (.int .i64 er)):=(hY.sub fun b e=> .inl e).trans (Out.refl _ _) (hm.sub fun b e=> .inr e);obtain⟨a1,a2,a3⟩:=h.ends xc h1.hse h1.mod h1.foot h1.out h1.next h1.same hY3 (fun b e=>e.elim (UQ b) (fun e=>⟨by omega, .inl (by omega)⟩));have hlen:l'.length=l.length:=(by have:=congrArg List.length h1.same;simpa using this);exact⟨Rb,kk,cp,er,vQ,S',p',L',l',R,cr,by rw[h5],a1,by omega,h1.lo,h1.hi,a2,a3,h1.done⟩
theorem cK (h:Hou w hb B c a fs m S F clock p L l R cr (l.map (·.s))) (yU:l.length<=6) (xc:Below w.heap.size w wq) (LM:w.heap.size+3<=wq.heap.size) (hx:Bx wq w.heap.size op) (h1:ci wq B c a fs m S F clock p L l o er w1) (ht:tmps.getD 4 undef= .pointer (some ⟨w.heap.size+1,0,none⟩)) (h5:tmps.getD 5 undef= .bool true):
  bodyPost Tryz.prog Tryz.f15 (nP w hb B c a fs m S F clock p L l R o) .ret ⟨tmps,[]⟩ ((w1.setCell ⟨w.heap.size+1,0,none⟩ (.slice none 0 0)).setCell ⟨w.heap.size+1,1,none⟩ (.int .i64 er)):=by
 obtain⟨X,S',vQ,p',L',l',h1⟩:=h1;exact en h yU xc LM h1 (Mod.refl (fun _ =>False) _) (fun _ e=>e.elim) (h1.bx h hx).res ht h5
theorem iy (h:Hou w hb B c a fs m S F clock p L l R cr (l.map (·.s))) (yU:l.length<=6) (xc:Below w.heap.size w wq) (LM:w.heap.size+3<=wq.heap.size) (hx:Bx wq w.heap.size op) (h1:ci wq B c a fs m S F clock p L l o er w1) (ht:tmps.getD 4 undef= .pointer (some ⟨w.heap.size+1,0,none⟩)) (h5:tmps.getD 5 undef= .bool true):
  bodyPost Tryz.prog Tryz.f15 (nP w hb B c a fs m S F clock p L l R o) .ret ⟨tmps,[]⟩ (((w1.setCell ⟨w.heap.size+1+1,1,none⟩ (.int .i64 er)).setCell ⟨w.heap.size+1,0,none⟩ (.slice none 0 0)).setCell ⟨w.heap.size+1,1,none⟩ (.int .i64 er)):=by
 obtain⟨X,S',vQ,p',L',l',h1⟩:=h1;have zM:=h1.bx h hx;have hm:=aj (S:=fun b=>b=w.heap.size+1+1) (w:=w1) (b:=w.heap.size+1+1) rfl 1 (.int .i64 er);exact en h yU xc LM h1 hm (fun b e=>⟨by omega, .inl (by omega)⟩) ((hm.block _ (vo zM.res).1 (by omega)).trans zM.res) ht h5
variable {w7:World}
theorem Hou.bx7 (h:Hou w hb B c a fs m S F clock p L l R cr ls) (hx:Bx wq w.heap.size op) (hm:Mod (aw S c m) wq w1) (xw:Mod (fun b=>R=some ⟨b,0,none⟩\/b=hb) w1 w7):Bx w7 w.heap.size op:=by
 have hl:=h.hse.home.lts;have YZ:=h.lt;exact(hx.mod hm fun b e=> .inl (by
  rcases e with e|e|e
  ·exact hl.2.2 b e
  ·omega
  ·omega)).mod xw fun b e=> .inl (e.elim (fun e=>(h.row.lt b e).2) (fun e=>by omega))
variable {g:Nat}
theorem kX {l1:List SpM} (h:Hou w hb B c a fs m S F clock p L l R cr (l.map (·.s))) (yU:l.length<6) (xc:Below w.heap.size w wq) (LM:w.heap.size+3<=wq.heap.size) (hx:Bx wq w.heap.size op)
  (hm:Mod (aw S c m) wq w1) (ho:Out S S' wq) (hn:cQ wq l (l1++[y])) (hs:l1.map (·.s)=l.map (·.s)) (h7:Hou w7 hb B c a fs m S' F clock p' L' (l1++[y]) (some ⟨g,0,none⟩) vP (l.map (·.s)++[y.s])) (xw:Mod (fun b=>R=some ⟨b,0,none⟩\/b=hb) w1 w7) (hg:R=some ⟨g,0,none⟩\/w1.heap.size<=g) (hd:Do11 F p L l o 0 p' L' (l1++[y])) (ht:tmps.getD 4 undef= .pointer (some ⟨w.heap.size+1,0,none⟩)) (h5:tmps.getD 5 undef= .bool true):
  bodyPost Tryz.prog Tryz.f15 (nP w hb B c a fs m S F clock p L l R o) .ret ⟨tmps,[]⟩ ((w7.setCell ⟨w.heap.size+1,0,none⟩ (.slice none 0 0)).setCell ⟨w.heap.size+1,1,none⟩ (.int .i64 0)):=by
 have hl:=h.hse.home.lts;have hz:=hm.size;have Rw:=xw.size;have YZ:=h.lt;have hR: ∀b,R=some ⟨b,0,none⟩->b<w.heap.size:=fun b e=>(h.row.lt b e).2;have OR:Bx w7 w.heap.size op:=(hx.mod hm fun b e=> .inl (by
  rcases e with e|e|e
  ·exact hl.2.2 b e
  ·omega
  ·omega)).mod xw fun b e=> .inl (e.elim (hR b) (fun e=>by omega))
 obtain⟨c0,c1,CS⟩:=pA (u:= .slice none 0 0) (v:= .int .i64 0) OR.res;refine bodyPost_ret (iG (w.heap.size+1) _ _ _ _ ht c0 c1) rfl ?_;have hlen:l1.length=l.length:=(by have:=congrArg List.length hs;simpa using this);have hE:=h.mine (b:=w.heap.size+1) (by omega) ho hn (by omega) (by omega);have hN:iR S' B c m hb (some ⟨g,0,none⟩) (l1++[y]) (w.heap.size+1):=⟨hE.1,hE.2.1,hE.2.2.1,fun e=>by
  injection e with e;injection e with e;rcases hg with hg|hg
  ·have:=hR g hg;omega
  ·omega,hE.2.2.2.2⟩
 have hF:houF S c m hb R l=houF S c m hb R l:=rfl;refine⟨none,0,0,0,clock,S',p',L',l1++[y],some ⟨g,0,none⟩,vP,by rw[h5],?_,by rw[vu,vB];omega,Int.le_refl _,by omega,?_,?_,hd⟩
 ·rw[List.map_append,hs];exact h7.aside CS fun b e=>by subst e;exact hN
 ·exact((((Mod.of xc).trans (Out.refl _ _) (hm.sub (T:=fun b=>houF S c m hb R l b\/w.heap.size<=b) fun b e=> .inl (.inl e))).trans (Out.refl _ _) (xw.sub fun b e=> .inl (e.elim (fun e=> .inr (.inr (.inl e))) (fun e=> .inr (.inl e))))).trans (Out.refl _ _) (CS.sub fun b e=> .inr (by omega))).own fun b e=>e
 ·refine qb (fun b e=>(ho b e).imp id (fun e=>by omega)) (fun k z hz=>?_) (fun g' e=>?_)
  ·rcases hn k z hz with⟨j,x,e1,e2,e3,e4⟩|⟨e1,e2,e3⟩
   ·exact .inl ⟨j,x,e1,e2,e3,fun ad e=>(e4 ad e).imp id (fun e=>by omega)⟩
   ·exact .inr ⟨by omega,by omega,fun ad e=>by have:=e3 ad e;omega⟩
  ·injection e with e;injection e with e;subst e;exact hg.imp id (fun e=>by omega)
def RowJ (w:World) (base:Nat) (Rb:Option Addr) (cp kk:Nat):Prop:= ∃d,OwnB w base Rb cp kk d
theorem RowJ.some_of {base:Nat} (h:RowJ w base Rb cp kk) (h0:0<kk): ∃g,Rb=some ⟨g,0,none⟩:=by
 obtain⟨d,h⟩:=h;exact h.some_of h0
structure iD (E:Nat) (wq w1:World) (Rb:Option Addr) (cp kk:Nat) (u v:Value) (wr:World):Prop where
 row:RowJ wr wq.heap.size Rb cp kk
 mod:Mod (fun b=>b=E+1+1\/Rb=some ⟨b,0,none⟩) w1 wr
 x:wr.heap[E+1+1]? =some (.cells #[u,v] 41 (0,0))
 res:wr.heap[E+1]? =some (.cells #[.slice none 0 0, .int .i64 0] 41 (0,0))
variable {wr:World}
theorem iD.put {j y:Nat} (h:iD E wq w1 (some ⟨g,0,none⟩) cp kk u v wr) (hj:j<kk) (hE:E+1+1<wq.heap.size):iD E wq w1 (some ⟨g,0,none⟩) cp kk u v (wr.setCell ⟨g,j,none⟩ (.int .u8 (y:Int))):=by
 obtain⟨⟨d,h1⟩,h2,h3,h4⟩:=h;have hm:=aj (S:=fun b=>b=g) (w:=wr) (b:=g) rfl j (.int .u8 (y:Int));have hg:=h1.form;exact⟨⟨_,h1.put hj⟩,h2.trans (Out.refl _ _) (hm.sub fun b e=> .inr (by rw[e])),(hm.block _ (vo h3).1 (by omega)).trans h3,(hm.block _ (vo h4).1 (by omega)).trans h4⟩
theorem iD.foot (hJ:iD w.heap.size wq w1 Rb cp kk u v wr) (h:Hou w hb B c a fs m S F clock p L l R cr ls) (LM:w.heap.size+3<=wq.heap.size) (hz:w.heap.size<=wq.heap.size) (wh:OwnB w1 wq.heap.size Rb cp kk d) (JV: ∀g,Rb.map (·.block)=some g-> ¬S' g) (vW: ∀(j:Nat) (y:SpM),l'[j]? =some y->LtW wq y):
  ∀b,(b=w.heap.size+1+1\/Rb=some ⟨b,0,none⟩)->w.heap.size<=b/\(b<wq.heap.size\/iR S' B c m hb R l' b):=fun b e=>by
 rcases e with e|e
 ·exact⟨by omega, .inl (by omega)⟩
 ·have h1:=(wh.blk b (by rw[e];rfl)).1;have hl:=h.hse.home.lts;have hB:=h.hse.home.base;have YZ:=h.lt;refine⟨by omega, .inr ⟨fun e2=>?_,by omega,by omega,fun e2=>by have:=(h.row.lt b e2).2;omega,fun k y hk=>?_⟩⟩
  ·rcases e2 with e2|e2|e2
   ·exact JV b (by rw[e];rfl) e2
   ·omega
   ·omega
  ·have h5:=vW k y hk;have h6:=h5.s;have h7:=h5.t;exact⟨by omega,by omega,fun ad e3=>by have:=h5.r ad e3;omega⟩
theorem Bx.lt (h:Bx w E op):E+1+1<w.heap.size:=(vo h.x).1
end
section
open Go.RowKit Go.Sort
theorem rQ (hb B c a fs m:Nat) (S:Nat->Prop) (F:List Nd) (clock:Int) (p:Pool) (L:List Slot) (l:List SpM) (R A:Option Addr) (cr cq:Nat) (kd sI:Int) (r:Reg) (addr q:Nat) (n:Int) (d:Nat->Nat) (w:World) (h:Hou w hb B c a fs m S F clock p L l R cr (l.map (·.s))) (yU:l.length<=6) (Ar:0<=clock/\clock+32<1000000) (wX:se w B ⟨kd,sI,r,addr,n,q,d⟩ A cq):
  Calls Tryz.prog 15 #[.pointer (some ⟨hb,0,none⟩), .agg #[.int .i64 kd, .int .i64 sI, .int .u64 r.fr, .int .u64 r.to, .int .u8 r.prot, .int .i64 r.ino, .int .u64 r.off, .int .u64 (addr:Int), .int .i64 n, .slice A q cq]] w (nP w hb B c a fs m S F clock p L l R ⟨kd,sI,r,addr,n,q,d⟩):=by
 obtain⟨w0,vT⟩: ∃w0,w0=((w.alloc (.cells #[.int .i64 kd, .int .i64 sI, .int .u64 r.fr, .int .u64 r.to, .int .u8 r.prot, .int .i64 r.ino, .int .u64 r.off, .int .u64 (addr:Int), .int .i64 n, .slice A q cq] 47)).alloc (.cells #[.slice none 0 0, .int .i64 0] 41)).alloc (.cells #[.slice none 0 0, .int .i64 0] 41):=⟨_,rfl⟩;have vU:Below w.heap.size w w0:=(by rw[vT];exact(vr.alloc (by simp) _).alloc (by simp;omega) _);have wM:w0.heap.size=w.heap.size+3:=(by rw[vT];simp);have EN:Bx w0 w.heap.size (opV ⟨kd,sI,r,addr,n,q,d⟩ A cq):=by
  rw[vT];refine⟨?_,?_,?_⟩
  ·exact(vt _ _ _ (by simp;omega)).trans ((vt _ _ _ (by simp)).trans (ab w _))
  ·have h9:=ab (w.alloc (.cells #[.int .i64 kd, .int .i64 sI, .int .u64 r.fr, .int .u64 r.to, .int .u8 r.prot, .int .i64 r.ino, .int .u64 r.off, .int .u64 (addr:Int), .int .i64 n, .slice A q cq] 47)) (.cells #[.slice none 0 0, .int .i64 0] 41);exact(vt _ _ _ (by simp)).trans (by simpa using h9)
  ·have h9:=ab ((w.alloc (.cells #[.int .i64 kd, .int .i64 sI, .int .u64 r.fr, .int .u64 r.to, .int .u8 r.prot, .int .i64 r.ino, .int .u64 r.off, .int .u64 (addr:Int), .int .i64 n, .slice A q cq] 47)).alloc (.cells #[.slice none 0 0, .int .i64 0] 41)) (.cells #[.slice none 0 0, .int .i64 0] 41);simpa using h9
 have NK:=h.below vU;have e0:w0.cell? ⟨w.heap.size,0,none⟩=some (.int .i64 kd):=aa EN.op 0;have e1:w0.cell? ⟨w.heap.size,1,none⟩=some (.int .i64 sI):=aa EN.op 1;have o2:w0.cell? ⟨hb,2,none⟩=some (.pointer (some ⟨c,0,none⟩)):=aa NK.self 2;have o3:w0.cell? ⟨hb,3,none⟩=some (.slice R l.length cr):=by
  have h9:=NK.self;rw[List.length_map]at h9;exact aa h9 3
 have YZ:=h.lt;have wD:=vp vT;have xe:=vp vU;have GF:=vp EN;have Jj:=vp NK;have HH:=vp h;have xZ:=vp wX;have hlen6:(l.length:Int)<=6:=(by omega);clear vT vU EN NK wX h;by_cases h9:kd=9
 ·subst h9;by_cases Uu:(6:Int)<=(l.length:Int)
  ·have Uw:decide ((6:Int)<=(l.length:Int))=true:=vG Uu;obtain⟨y0,y1,y2,y3,y4,y5,y6,y7⟩:=GF.out.facts;go_enter Tryz.func15,Tryz.ntmps15;go_upto_region 2 with(fail);rw[<-wD.out];go_wp2_with fail;exact cK HH.out yU xe.out (by omega) GF.out (.idle Jj.out.hse (vO _ _) .idle) rfl rfl
  have Uw:decide ((6:Int)<=(l.length:Int))=false:=vF Uu;have HK:=vp (k_new (o:=⟨9,sI,r,addr,n,q,d⟩) Jj.out.hse rfl);have Dv:=Jj;have hz0':=wM;go_enter Tryz.func15,Tryz.ntmps15;go_upto_region 2 with(fail);rw[<-wD.out];go_upto_region 6 with(first
   |(go_at_call 24;refine(HK.out).mono ?_;rintro e w1 (⟨s1,t1,f1,p1,L1,S1,rfl,QQ,GM,wu,Sn,LL⟩|⟨rfl,HP⟩))
   |fail)
  rotate_left
  ·obtain⟨y0,y1,y2,y3,y4,y5,y6,y7⟩:=(HP.out.bx HH.out GF.out).facts;clear e0 e1 o2 o3;go_wp2_with fail;exact cK HH.out yU xe.out (by omega) GF.out HP.out rfl rfl
  clear e0 e1 o2 o3 Uw;have wM:w.heap.size+3<=w0.heap.size:=(by omega);have QY:Hid (cQ w0 l (l++[⟨s1,t1,f1,none,0,0,[],some (aF f1)⟩])):=vp ((cQ.refl _ _).snoc ⟨Sn.out.1,Sn.out.2,fun ad e=>by cases e⟩);have Et:=vp (Dv.out.next QQ.out (X:=aw S c m) GM.out (fun b e=> .inl e) wu.out QY.out);have hp3:w1.cell? ⟨hb,3,none⟩=some (.slice R l.length cr):=by
   have h9:=Et.out.self;rw[List.length_map]at h9;exact aa h9 3
  have JR:=Et.out.lt;have Mz:=Et.out.hse.home.base;have Lq:=vp (show Below w1.heap.size w1 (w1.alloc (.cells #[.pointer (some ⟨s1,0,none⟩)] 60))from vr);go_upto_region 8 with(first
   |(at_builtin;refine pj jb rfl (.tmp 42) (.tmp 44) rfl B R cr l.length (l.map (·.s)) (by rw[List.length_map]) rfl (Et.out.row.alloc _) s1 w1.heap.size 1 rfl (ab _ _) (by omega) (by simp;omega) ?_;intro g6 Bl w6 Cm EH Dj Bf;have Dl:=Et.out.push Lq.out Cm EH Dj Bf;have Dm:w6.heap[hb]? =w1.heap[hb]? :=(Et.out.far Lq.out EH);have p1:w6.cell? ⟨hb,3,none⟩=some (.slice R l.length cr):=(bq Dm).trans hp3;have p2:w6.frozen? ⟨hb,3,none⟩=false:=ae (Dm.trans Et.out.self) 3;rw[List.length_map]at Dl;have MJ:=vp Dl;clear Dl Dm Cm EH Dj Bf)
   |fail)
  obtain⟨w7,yv⟩: ∃w7,w7=w6.setCell ⟨hb,3,none⟩ (.slice (some ⟨g6,0,none⟩) (l.length+1) Bl):=⟨_,rfl⟩;rw[<-yv];have Hw:=MJ;rw[<-yv]at Hw;obtain⟨y0,y1,y2,y3,y4,y5,y6,y7⟩:=(HH.out.bx7 GF.out GM.out Hw.out.2.1).facts;clear yv MJ p1 p2 hp3;go_wp2_with fail;exact kX HH.out (by omega) xe.out wM GF.out GM.out wu.out QY.out rfl Hw.out.1 Hw.out.2.1 Hw.out.2.2 LL.out rfl rfl
 have k9:(kd==9)=false:=(by rw[vE];exact h9);have Tx:=fun dd os=>Calls.regrown_of ((ri sI l.length (by omega) (grow (redrawn w0 dd) os)).mono fun e w' ⟨h1,h2⟩=>⟨h1,h2▸vO (grow (redrawn w0 dd) os).heap.size (grow (redrawn w0 dd) os)⟩);have f1: ∀dd os,(grow (redrawn w0 dd) os).cell? ⟨w.heap.size,1,none⟩=some (.int .i64 sI):=fun dd os=>cell_regrown e1 dd os;have f3: ∀dd os,(grow (redrawn w0 dd) os).cell? ⟨hb,3,none⟩=some (.slice R l.length cr):=fun dd os=>cell_regrown o3 dd os;have HNUM:=vp Tx;clear Tx;go_enter Tryz.func15,Tryz.ntmps15;go_upto_region 2 with(fail);rw[<-wD.out];go_upto_region 9 with(fail);refine wp_region_quiet_below (by kernel_rfl) (by kernel_rfl) ?_;(repeat(go_big_quiet_step ((exact HNUM.out _ _))));refine wpQuiet_nil ?_;intro _ yq;obtain⟨⟨dq,osq⟩,hw''⟩:=yq;subst hw'';have xc:=below_regrown (w0) dq osq;generalize grow (redrawn (w0) dq) osq=wq at xc⊢;clear e0 e1 o2 o3 f1 f3 k9;have hhq:=Jj.out.below xc;have hxq:=GF.out.below xc;have wM:w.heap.size+3<=wq.heap.size:=(by have:=xc.size;omega);have hBQ:Below w.heap.size w wq:=xe.out.trans (xc.mono xe.out.size);have Dv:=vp hhq;have xT:=vp hxq;have EA:=vp hBQ;clear hhq hxq hBQ xc;by_cases Dc:l.length=0
 ·have hn:numI sI l.length= -1:=(by unfold numI;rw[if_pos Dc]);rw[hn];have x0:(wq).cell? ⟨w.heap.size+1+1,0,none⟩=some (.slice none 0 0):=aa (xT.out).x 0;have x1:(wq).cell? ⟨w.heap.size+1+1,1,none⟩=some (.int .i64 0):=aa (xT.out).x 1;have xf0:=ae (xT.out).x 0;have xf1:(wq).frozen? ⟨w.heap.size+1+1,1,none⟩=false:=ae (xT.out).x 1;have r0:(wq).frozen? ⟨w.heap.size+1,0,none⟩=false:=ae (xT.out).res 0;have r1:(wq).frozen? ⟨w.heap.size+1,1,none⟩=false:=ae (xT.out).res 1;have rc0:(wq).cell? ⟨w.heap.size+1,0,none⟩=some (.slice none 0 0):=aa (xT.out).res 0;have rc1:(wq).cell? ⟨w.heap.size+1,1,none⟩=some (.int .i64 0):=aa (xT.out).res 1;clear hn Dc;go_wp2_with fail;exact cK HH.out yU EA.out wM xT.out (.idle Dv.out.hse (vO _ _) .idle) rfl rfl
 obtain⟨k,yG,RJ⟩:=numI_at sI (n:=l.length) (by omega);obtain⟨x,hx⟩: ∃x,l[k]? =some x:=⟨_,vv yG⟩;have GV:(l.map (·.s))[k]? =some x.s:=(by rw[vI,hx];rfl);obtain⟨gR,rfl⟩: ∃g,R=some ⟨g,0,none⟩:=by
  rcases Dv.out.row.form with⟨_,e,_⟩|⟨g,e,_⟩
  ·exact absurd (by have:=congrArg List.length e;simpa using this) Dc
  ·exact⟨g,e⟩
 have o3:wq.cell? ⟨hb,3,none⟩=some (.slice (some ⟨gR,0,none⟩) l.length cr):=by
  have h9:=Dv.out.self;rw[List.length_map]at h9;exact aa h9 3
 have UE:wq.cell? ⟨gR,k,none⟩=some (.pointer (some ⟨x.s,0,none⟩)):=by
  have h8:=Dv.out.row.cell jb GV 0 (by omega);rw[Nat.mul_one,Nat.add_zero]at h8;rw[h8];rfl
 have ya:(k:Int)<(l.length:Int):=(by omega);have zc: ¬((k:Int)<0):=(by omega);have RN:decide ((k:Int)<0)=false:=vF zc;rw[RJ];have e0:wq.cell? ⟨w.heap.size,0,none⟩=some (.int .i64 kd):=aa xT.out.op 0;have MR:=vp RJ;have HX:=vp hx;clear RJ hx GV Dc;go_upto_region 14 with(fail);clear o3 UE zc RN ya e0;by_cases k0:kd=0
 ·subst k0;have HK:=vp (k_map (o:=⟨0,sI,r,addr,n,q,d⟩) Dv.out.hse HX.out MR.out rfl xZ.out.ok);have e2:wq.cell? ⟨w.heap.size,2,none⟩=some (.int .u64 r.fr):=aa xT.out.op 2;have e3:wq.cell? ⟨w.heap.size,3,none⟩=some (.int .u64 r.to):=aa xT.out.op 3;have e4:wq.cell? ⟨w.heap.size,4,none⟩=some (.int .u8 r.prot):=aa xT.out.op 4;have e5:wq.cell? ⟨w.heap.size,5,none⟩=some (.int .i64 r.ino):=aa xT.out.op 5;have e6:wq.cell? ⟨w.heap.size,6,none⟩=some (.int .u64 r.off):=aa xT.out.op 6;go_wp2_with (first
   |(go_at_call 25;refine(HK.out).mono ?_;rintro e w1 ⟨er,rfl,HP⟩;obtain⟨y0,y1,y2,y3,y4,y5,y6,y7⟩:=(HP.out.bx HH.out xT.out).facts)
   |fail)
  exact iy HH.out yU EA.out wM xT.out HP.out rfl rfl
 by_cases k1:kd=1
 ·subst k1;have HK:=vp (k_unmap (o:=⟨1,sI,r,addr,n,q,d⟩) Dv.out.hse HX.out MR.out rfl xZ.out.ok);have e2:wq.cell? ⟨w.heap.size,2,none⟩=some (.int .u64 r.fr):=aa xT.out.op 2;have e3:wq.cell? ⟨w.heap.size,3,none⟩=some (.int .u64 r.to):=aa xT.out.op 3;go_wp2_with (first
   |(go_at_call 26;refine(HK.out).mono ?_;rintro e w1 ⟨er,rfl,HP⟩;obtain⟨y0,y1,y2,y3,y4,y5,y6,y7⟩:=(HP.out.bx HH.out xT.out).facts)
   |fail)
  exact iy HH.out yU EA.out wM xT.out HP.out rfl rfl
 by_cases k2:kd=2
 ·subst k2;have HK:=vp (tT (o:=⟨2,sI,r,addr,n,q,d⟩) Dv.out.hse HX.out (by omega) MR.out rfl xZ.out.ok);have e2:wq.cell? ⟨w.heap.size,2,none⟩=some (.int .u64 r.fr):=aa xT.out.op 2;have e3:wq.cell? ⟨w.heap.size,3,none⟩=some (.int .u64 r.to):=aa xT.out.op 3;have e4:wq.cell? ⟨w.heap.size,4,none⟩=some (.int .u8 r.prot):=aa xT.out.op 4;go_wp2_with (first
   |(go_at_call 27;refine(HK.out).mono ?_;rintro e w1 ⟨er,rfl,HP⟩;obtain⟨y0,y1,y2,y3,y4,y5,y6,y7⟩:=(HP.out.bx HH.out xT.out).facts)
   |fail)
  exact iy HH.out yU EA.out wM xT.out HP.out rfl rfl
 by_cases k7:kd=7
 ·subst k7;have o3:wq.cell? ⟨hb,3,none⟩=some (.slice (some ⟨gR,0,none⟩) l.length cr):=by
   have h9:=Dv.out.self;rw[List.length_map]at h9;exact aa h9 3
  by_cases Uu:(6:Int)<=(l.length:Int)
  ·have Uw:decide ((6:Int)<=(l.length:Int))=true:=vG Uu;obtain⟨y0,y1,y2,y3,y4,y5,y6,y7⟩:=xT.out.facts;go_wp2_with fail;exact cK HH.out yU EA.out wM xT.out (.idle Dv.out.hse (vO _ _) .idle) rfl rfl
  have Uw:decide ((6:Int)<=(l.length:Int))=false:=vF Uu;have HK:=vp (k_fork (o:=⟨7,sI,r,addr,n,q,d⟩) Dv.out.hse HX.out (by omega) MR.out rfl);go_upto_region 46 with(fail);clear o3 Uw;go_upto_region 47 with(first
   |(go_at_call 32;refine(HK.out).mono ?_;rintro e w1 (⟨s1,t1,f1,A1,vR,p1,L1,T1,U1,S1,rfl,QQ,GM,wu,Sn,LL⟩|⟨er,rfl,zR,HP⟩))
   |fail)
  rotate_left
  ·have q1:(er==0)=false:=(by rw[vE];exact zR);have q2:(er != 0)=true:=(by rw[bne_iff_ne];exact zR);obtain⟨y0,y1,y2,y3,y4,y5,y6,y7⟩:=(HP.out.bx HH.out xT.out).facts;go_wp2_with fail;exact cK HH.out yU EA.out wM xT.out HP.out rfl rfl
  have QY:Hid (cQ wq l (l.set k (x.withT T1)++[x.twin s1 t1 f1 A1 vR U1])):=vp ((cQ.set (y:=x.withT T1) HX.out rfl rfl (fun ad e=> .inl e)).snoc Sn.out);have Et:=vp (Dv.out.next QQ.out (X:=aw S c m) GM.out (fun b e=> .inl e) wu.out QY.out);have hp3:w1.cell? ⟨hb,3,none⟩=some (.slice (some ⟨gR,0,none⟩) l.length cr):=by
   have h9:=Et.out.self;rw[List.length_map]at h9;exact aa h9 3
  have JR:=Et.out.lt;have Mz:=Et.out.hse.home.base;have Lq:=vp (show Below w1.heap.size w1 (w1.alloc (.cells #[.pointer (some ⟨s1,0,none⟩)] 60))from vr);go_upto_region 49 with(first
   |(at_builtin;refine pj jb rfl (.tmp 205) (.tmp 207) rfl B (some ⟨gR,0,none⟩) cr l.length (l.map (·.s)) (by rw[List.length_map]) rfl (Et.out.row.alloc _) s1 w1.heap.size 1 rfl (ab _ _) (by omega) (by simp;omega) ?_;intro g6 Bl w6 Cm EH Dj Bf;have Dl:=Et.out.push Lq.out Cm EH Dj Bf;have Dm:w6.heap[hb]? =w1.heap[hb]? :=(Et.out.far Lq.out EH);have p1:w6.cell? ⟨hb,3,none⟩=some (.slice (some ⟨gR,0,none⟩) l.length cr):=(bq Dm).trans hp3;have p2:w6.frozen? ⟨hb,3,none⟩=false:=ae (Dm.trans Et.out.self) 3;rw[List.length_map]at Dl;have MJ:=vp Dl;clear Dl Dm Cm EH Dj Bf)
   |fail)
  obtain⟨w7,yv⟩: ∃w7,w7=w6.setCell ⟨hb,3,none⟩ (.slice (some ⟨g6,0,none⟩) (l.length+1) Bl):=⟨_,rfl⟩;rw[<-yv];have Hw:=MJ;rw[<-yv]at Hw;obtain⟨y0,y1,y2,y3,y4,y5,y6,y7⟩:=(HH.out.bx7 xT.out GM.out Hw.out.2.1).facts;clear yv MJ p1 p2 hp3;go_wp2_with fail;exact kX HH.out (by omega) EA.out wM xT.out GM.out wu.out QY.out (fd HX.out rfl) Hw.out.1 Hw.out.2.1 Hw.out.2.2 LL.out rfl rfl
 by_cases k8:kd=8
 ·subst k8;have HK:=vp (k_free (o:=⟨8,sI,r,addr,n,q,d⟩) Dv.out.hse HX.out MR.out rfl);go_wp2_with (first
   |(go_at_call 21;refine(HK.out).mono ?_;rintro e w1 ⟨rfl,HP⟩;obtain⟨y0,y1,y2,y3,y4,y5,y6,y7⟩:=(HP.out.bx HH.out xT.out).facts)
   |fail)
  exact cK HH.out yU EA.out wM xT.out HP.out rfl rfl
 by_cases k3:kd=3
 ·subst k3;have HK:=vp (iY (.pointer (some ⟨x.s,0,none⟩)) (.int .u64 (addr:Int)) (.int .i64 n) wq (fun e w'=> ∃Rb kk cp er d1 X S' vQ p' L' l',e= .returned (.tuple #[.slice Rb kk cp, .int .i64 er])/\Hid (Op1 wq B c a fs m S F clock p L l ⟨3,sI,r,addr,n,q,d⟩ er X S' vQ p' L' l' w')/\Hid (OwnB w' wq.heap.size Rb cp kk d1)/\Hid (∀g,Rb.map (·.block)=some g-> ¬S' g)/\Hid (∀(j:Nat) (y:SpM),l'[j]? =some y->LtW wq y)/\Hid (kk<=65536)) ((k_load (o:=⟨3,sI,r,addr,n,q,d⟩) (want:=4) Dv.out.hse HX.out (by omega) MR.out (.inl ⟨rfl,rfl⟩) xZ.out.addr Ar).mono fun e w' ⟨Rb,kk,cp,er,d1,X,S',vQ,p',L',l',h1,h2⟩=>⟨⟨_,_,h1⟩,Rb,kk,cp,er,d1,X,S',vQ,p',L',l',h1,h2⟩));have e0:wq.cell? ⟨w.heap.size,0,none⟩=some (.int .i64 3):=aa xT.out.op 0;have e7:wq.cell? ⟨w.heap.size,7,none⟩=some (.int .u64 (addr:Int)):=aa xT.out.op 7;have e8:wq.cell? ⟨w.heap.size,8,none⟩=some (.int .i64 n):=aa xT.out.op 8;go_upto_region 26 with(first
   |(go_at_call 28;refine(HK.out).mono ?_;rintro e w1 ⟨Rb,kk,cp,er,d1,X,S1,vX,p1,L1,l1,rfl,HP,GK,Lc,Ra,OC⟩;obtain⟨y0,y1,y2,y3,y4,y5,y6,y7⟩:=(HP.out.bx HH.out xT.out).facts)
   |fail)
  have AS:=vp (HP.out.bx HH.out xT.out);obtain⟨w2,wO⟩: ∃w2,w2=w1.setCell ⟨w.heap.size+1+1,1,none⟩ (.int .i64 er):=⟨_,rfl⟩;rw[<-wO];have wk:Mod (fun b=>b=w.heap.size+1+1) w1 w2:=(by rw[wO];exact aj (S:=fun b=>b=w.heap.size+1+1) rfl 1 _);have zn:w2.heap[w.heap.size+1+1]? =some (.cells #[.slice none 0 0, .int .i64 er] 41 (0,0)):=by
   rw[wO];have h9:=Joins.block_setCell (i:=1) AS.out.x (.int .i64 er);simpa using h9
  have XP:=HP.out.mod.size;have Gz:OwnB w2 wq.heap.size Rb cp kk d1:=GK.out.sameR fun g e=>wk.block g (GK.out.blk g (by rw[e];rfl)).2 (by have:=(GK.out.blk g (by rw[e];rfl)).1;omega);have z0:w2.cell? ⟨w.heap.size+1+1,0,none⟩=some (.slice none 0 0):=aa zn 0;have zf:=ae zn 0;have OO:w.heap.size+1+1<w2.heap.size:=(vo zn).1;have EX:=mi Gz.vAny;have ya:=OC.out;have CP:=vp wk;have Bn:=vp zn;have HOB2:=vp Gz;have IK:=vp EX;clear wO wk zn Gz EX y0 y1 y2 y3 y4 y5 y6 y7 e0 e7 e8;go_upto_region 27 with(first
   |(at_builtin;refine ji mj rfl (.tmp 135) (.tmp 136) rfl w2.heap.size none 0 0 kk [] ((List.range kk).map d1) rfl (by simp) rfl (OwnG.nil _ _) Rb cp rfl IK.out (by omega) (vs _) ?_;intro R3 xJ w3 Db wG;have z1:w3.cell? ⟨w.heap.size+1+1,0,none⟩=some (.slice none 0 0):=(wG.cell OO).trans z0;have zf1:w3.frozen? ⟨w.heap.size+1+1,0,none⟩=false:=ae ((wG.block _ OO).trans Bn.out) 0;have zm:=vp wG;clear wG Db)
   |fail)
  obtain⟨w4,yE⟩: ∃w4,w4=w3.setCell ⟨w.heap.size+1+1,0,none⟩ (.slice R3 kk xJ):=⟨_,rfl⟩;rw[<-yE];have zL:w4.heap[w.heap.size+1+1]? =some (.cells #[.slice R3 kk xJ, .int .i64 er] 41 (0,0)):=by
   rw[yE];have h9:=Joins.block_setCell (i:=0) ((zm.out.block _ OO).trans Bn.out) (.slice R3 kk xJ);simpa using h9
  have xH:Mod (fun b=>b=w.heap.size+1+1) w1 w4:=(CP.out.trans (Out.refl _ _) (Mod.of zm.out)).trans (Out.refl _ _) (by rw[yE];exact aj (S:=fun b=>b=w.heap.size+1+1) rfl 0 _);have Ei:iD w.heap.size wq w1 Rb cp kk (.slice R3 kk xJ) (.int .i64 er) w4:=⟨⟨d1,GK.out.sameR fun g e=>xH.block g (GK.out.blk g (by rw[e];rfl)).2 (by have:=(GK.out.blk g (by rw[e];rfl)).1;omega)⟩,xH.sub fun b e=> .inl e,zL,(xH.block _ (vo AS.out.res).1 (by omega)).trans AS.out.res⟩;have LJ:=vp Ei;clear yE zL xH Ei z0 zf z1 zf1;go_wp2_with fail;go_loopw [12] (fun i wr=> ∃j:Nat,i= .int .i64 (j:Int)/\j<=kk/\iD w.heap.size wq w1 Rb cp kk (.slice R3 kk xJ) (.int .i64 er) wr) (fun i _ =>kk-(intOf i).toNat)
  case atStart=>exact⟨0,rfl,vL _,LJ.out⟩
  case round=>
   obtain⟨j,rfl,hj,hJ⟩:=hrel;by_cases zP:j<kk
   ·obtain⟨g,rfl⟩:=hJ.row.some_of (by omega);obtain⟨dj,wz⟩:=hJ.row;have b1:=wz.cell zP;have b2:wr.frozen? ⟨g,j,none⟩=false:=OwnG.free wz.toG j;have yG:(j:Int)<(kk:Int):=(by omega);have HJ:=vp hJ;clear wz hJ;go_wp2_with fail;go_roundw
    case rel=>exact⟨j+1,by go_num,by omega,HJ.out.put (y:=238) zP xT.out.lt⟩
    case measure=>(simp[intOf];omega)
   ·obtain rfl:j=kk:=(by omega);have c0:wr.cell? ⟨w.heap.size+1+1,0,none⟩=some (.slice R3 j xJ):=aa hJ.x 0;have c1:wr.cell? ⟨w.heap.size+1+1,1,none⟩=some (.int .i64 er):=aa hJ.x 1;have c2:wr.frozen? ⟨w.heap.size+1,0,none⟩=false:=ae hJ.res 0;have c3:wr.frozen? ⟨w.heap.size+1,1,none⟩=false:=ae hJ.res 1;have c4:wr.cell? ⟨w.heap.size+1,0,none⟩=some (.slice none 0 0):=aa hJ.res 0;have c5:wr.cell? ⟨w.heap.size+1,1,none⟩=some (.int .i64 0):=aa hJ.res 1;have HJ:=vp hJ;clear hJ;go_wp2_with fail;exact en HH.out yU EA.out wM HP.out HJ.out.mod (HJ.out.foot HH.out wM EA.out.size GK.out Lc.out Ra.out) HJ.out.res rfl rfl
 by_cases k5:kd=5
 ·subst k5;have HK:=vp (sPeek_of (.pointer (some ⟨x.s,0,none⟩)) (.int .u64 (addr:Int)) (.int .i64 n) wq (fun e w'=> ∃Rb kk cp er d1 X S' vQ p' L' l',e= .returned (.tuple #[.slice Rb kk cp, .int .i64 er])/\Hid (Op1 wq B c a fs m S F clock p L l ⟨5,sI,r,addr,n,q,d⟩ er X S' vQ p' L' l' w')/\Hid (OwnB w' wq.heap.size Rb cp kk d1)/\Hid (∀g,Rb.map (·.block)=some g-> ¬S' g)/\Hid (∀(j:Nat) (y:SpM),l'[j]? =some y->LtW wq y)/\Hid (kk<=65536)) ((k_load (o:=⟨5,sI,r,addr,n,q,d⟩) (want:=0) Dv.out.hse HX.out (by omega) MR.out (.inr ⟨rfl,rfl⟩) xZ.out.addr Ar).mono fun e w' ⟨Rb,kk,cp,er,d1,X,S',vQ,p',L',l',h1,h2⟩=>⟨⟨_,_,h1⟩,Rb,kk,cp,er,d1,X,S',vQ,p',L',l',h1,h2⟩));have e0:wq.cell? ⟨w.heap.size,0,none⟩=some (.int .i64 5):=aa xT.out.op 0;have e7:wq.cell? ⟨w.heap.size,7,none⟩=some (.int .u64 (addr:Int)):=aa xT.out.op 7;have e8:wq.cell? ⟨w.heap.size,8,none⟩=some (.int .i64 n):=aa xT.out.op 8;go_upto_region 26 with(first
   |(go_at_call 29;refine(HK.out).mono ?_;rintro e w1 ⟨Rb,kk,cp,er,d1,X,S1,vX,p1,L1,l1,rfl,HP,GK,Lc,Ra,OC⟩;obtain⟨y0,y1,y2,y3,y4,y5,y6,y7⟩:=(HP.out.bx HH.out xT.out).facts)
   |fail)
  have AS:=vp (HP.out.bx HH.out xT.out);obtain⟨w2,wO⟩: ∃w2,w2=w1.setCell ⟨w.heap.size+1+1,1,none⟩ (.int .i64 er):=⟨_,rfl⟩;rw[<-wO];have wk:Mod (fun b=>b=w.heap.size+1+1) w1 w2:=(by rw[wO];exact aj (S:=fun b=>b=w.heap.size+1+1) rfl 1 _);have zn:w2.heap[w.heap.size+1+1]? =some (.cells #[.slice none 0 0, .int .i64 er] 41 (0,0)):=by
   rw[wO];have h9:=Joins.block_setCell (i:=1) AS.out.x (.int .i64 er);simpa using h9
  have XP:=HP.out.mod.size;have Gz:OwnB w2 wq.heap.size Rb cp kk d1:=GK.out.sameR fun g e=>wk.block g (GK.out.blk g (by rw[e];rfl)).2 (by have:=(GK.out.blk g (by rw[e];rfl)).1;omega);have z0:w2.cell? ⟨w.heap.size+1+1,0,none⟩=some (.slice none 0 0):=aa zn 0;have zf:=ae zn 0;have OO:w.heap.size+1+1<w2.heap.size:=(vo zn).1;have EX:=mi Gz.vAny;have ya:=OC.out;have CP:=vp wk;have Bn:=vp zn;have HOB2:=vp Gz;have IK:=vp EX;clear wO wk zn Gz EX y0 y1 y2 y3 y4 y5 y6 y7 e0 e7 e8;go_upto_region 27 with(first
   |(at_builtin;refine ji mj rfl (.tmp 135) (.tmp 136) rfl w2.heap.size none 0 0 kk [] ((List.range kk).map d1) rfl (by simp) rfl (OwnG.nil _ _) Rb cp rfl IK.out (by omega) (vs _) ?_;intro R3 xJ w3 Db wG;have z1:w3.cell? ⟨w.heap.size+1+1,0,none⟩=some (.slice none 0 0):=(wG.cell OO).trans z0;have zf1:w3.frozen? ⟨w.heap.size+1+1,0,none⟩=false:=ae ((wG.block _ OO).trans Bn.out) 0;have zm:=vp wG;clear wG Db)
   |fail)
  obtain⟨w4,yE⟩: ∃w4,w4=w3.setCell ⟨w.heap.size+1+1,0,none⟩ (.slice R3 kk xJ):=⟨_,rfl⟩;rw[<-yE];have zL:w4.heap[w.heap.size+1+1]? =some (.cells #[.slice R3 kk xJ, .int .i64 er] 41 (0,0)):=by
   rw[yE];have h9:=Joins.block_setCell (i:=0) ((zm.out.block _ OO).trans Bn.out) (.slice R3 kk xJ);simpa using h9
  have xH:Mod (fun b=>b=w.heap.size+1+1) w1 w4:=(CP.out.trans (Out.refl _ _) (Mod.of zm.out)).trans (Out.refl _ _) (by rw[yE];exact aj (S:=fun b=>b=w.heap.size+1+1) rfl 0 _);have Ei:iD w.heap.size wq w1 Rb cp kk (.slice R3 kk xJ) (.int .i64 er) w4:=⟨⟨d1,GK.out.sameR fun g e=>xH.block g (GK.out.blk g (by rw[e];rfl)).2 (by have:=(GK.out.blk g (by rw[e];rfl)).1;omega)⟩,xH.sub fun b e=> .inl e,zL,(xH.block _ (vo AS.out.res).1 (by omega)).trans AS.out.res⟩;have LJ:=vp Ei;clear yE zL xH Ei z0 zf z1 zf1;go_wp2_with fail;go_loopw [12] (fun i wr=> ∃j:Nat,i= .int .i64 (j:Int)/\j<=kk/\iD w.heap.size wq w1 Rb cp kk (.slice R3 kk xJ) (.int .i64 er) wr) (fun i _ =>kk-(intOf i).toNat)
  case atStart=>exact⟨0,rfl,vL _,LJ.out⟩
  case round=>
   obtain⟨j,rfl,hj,hJ⟩:=hrel;by_cases zP:j<kk
   ·obtain⟨g,rfl⟩:=hJ.row.some_of (by omega);obtain⟨dj,wz⟩:=hJ.row;have b1:=wz.cell zP;have b2:wr.frozen? ⟨g,j,none⟩=false:=OwnG.free wz.toG j;have yG:(j:Int)<(kk:Int):=(by omega);have HJ:=vp hJ;clear wz hJ;go_wp2_with fail;go_roundw
    case rel=>exact⟨j+1,by go_num,by omega,HJ.out.put (y:=238) zP xT.out.lt⟩
    case measure=>(simp[intOf];omega)
   ·obtain rfl:j=kk:=(by omega);have c0:wr.cell? ⟨w.heap.size+1+1,0,none⟩=some (.slice R3 j xJ):=aa hJ.x 0;have c1:wr.cell? ⟨w.heap.size+1+1,1,none⟩=some (.int .i64 er):=aa hJ.x 1;have c2:wr.frozen? ⟨w.heap.size+1,0,none⟩=false:=ae hJ.res 0;have c3:wr.frozen? ⟨w.heap.size+1,1,none⟩=false:=ae hJ.res 1;have c4:wr.cell? ⟨w.heap.size+1,0,none⟩=some (.slice none 0 0):=aa hJ.res 0;have c5:wr.cell? ⟨w.heap.size+1,1,none⟩=some (.int .i64 0):=aa hJ.res 1;have HJ:=vp hJ;clear hJ;go_wp2_with fail;exact en HH.out yU EA.out wM HP.out HJ.out.mod (HJ.out.foot HH.out wM EA.out.size GK.out Lc.out Ra.out) HJ.out.res rfl rfl
 by_cases k4:kd=4
 ·subst k4;have e0:wq.cell? ⟨w.heap.size,0,none⟩=some (.int .i64 4):=aa xT.out.op 0;have e9:wq.cell? ⟨w.heap.size,9,none⟩=some (.slice A q cq):=aa xT.out.op 9;have yL:av wq A q d:=xZ.out.bytes.kept EA.out;have IY:Below wq.heap.size wq (wq.alloc (.cells #[] 5)):=vr;have IK:=vp (mi (yL.kept IY));have e9a:(wq.alloc (.cells #[] 5)).cell? ⟨w.heap.size,9,none⟩=some (.slice A q cq):=(IY.cell (p:=⟨w.heap.size,9,none⟩) (by show w.heap.size<wq.heap.size;omega)).trans e9;have Na:=vp IY;have Tm:=xZ.out.q;dsimp only at Tm;clear yL IY;go_upto_region 34 with(first
   |(at_builtin;refine ji mj rfl (.tmp 151) (.tmp 153) rfl wq.heap.size (some ⟨wq.heap.size,0,none⟩) 0 0 q [] ((List.range q).map d) rfl (by simp) rfl (OwnB.toG (d:=fun _ =>0) (OwnB.none_made wq)) A cq rfl IK.out (by omega) (by simp) ?_;intro R3 xJ w1 wK vS;have wu:Hid (OwnB w1 wq.heap.size R3 xJ q d):=vp (OwnB.ofG wK);have vY:=vp (Na.out.trans vS);clear wK vS)
   |fail)
  have wF:=vY.out.size;have AS:=vp (xT.out.below vY.out);have Ji:=vp (Dv.out.below vY.out);have GS:=vp (EA.out.trans (vY.out.mono EA.out.size));have zA:=Dv.out.hse.home.lts;have Em: ∀ad,R3=some ad->wq.heap.size<=ad.block/\ad.block<w1.heap.size:=fun ad e=>by
   rcases wu.out.formA with⟨e2,_⟩|⟨g,e2,h1,h2⟩
   ·rw[e2]at e;cases e
   ·rw[e2]at e;injection e with e;subst e;exact⟨h1,h2⟩
  have Qb:q<=xJ:=by
   rcases wu.out.toG.form with⟨_,e2,_⟩|⟨g,_,_,_,e2⟩
   ·have:q=0:=(by simpa using congrArg List.length e2);omega
   ·simpa using e2
  have HK:=vp (mR (.pointer (some ⟨x.s,0,none⟩)) (.int .u64 (addr:Int)) (.slice R3 q xJ) w1 (fun e w'=> ∃er,e= .returned (.int .i64 er)/\Hid (ci w1 B c a fs m S F clock p L l ⟨4,sI,r,addr,n,q,d⟩ er w')/\Hid (av w' R3 q d)) ((tS (o:=⟨4,sI,r,addr,n,q,d⟩) (want:=2) (Ab:=R3) (cq:=xJ) Ji.out.hse HX.out (by omega) MR.out (.inl ⟨rfl,rfl⟩) xZ.out.addr Ar Tm Qb wu.out.vAny xZ.out.small (fun ad e=>⟨(Em ad e).2,fun e2=>by have h1:=(Em ad e).1;rcases e2 with e2|e2|e2;(have:=zA.2.2 _ e2;omega);omega;omega⟩)).mono fun e w' ⟨er,h1,h2⟩=>⟨⟨_,h1⟩,er,h1,h2⟩));have f0:w1.cell? ⟨w.heap.size,0,none⟩=some (.int .i64 4):=aa AS.out.op 0;have f7:w1.cell? ⟨w.heap.size,7,none⟩=some (.int .u64 (addr:Int)):=aa AS.out.op 7;clear e0 e9 e9a;go_upto_region 37 with(first
   |(go_at_call 30;refine(HK.out).mono ?_;rintro e w2 ⟨er,rfl,QV,WR⟩;obtain⟨y0,y1,y2,y3,y4,y5,y6,y7⟩:=(QV.out.bx (HH.out) (AS.out)).facts)
   |fail)
  obtain⟨X,S1,vX,p1,L1,l1,BQ⟩:=QV.out;have HP:=vp BQ;have Bn:=vp (BQ.bx HH.out AS.out);have KE: ∀b,X b->B<=b/\b<w.heap.size:=fun b e=>HH.out.footLt (BQ.foot b e);obtain⟨w3,xq⟩: ∃w3,w3=w2.setCell ⟨w.heap.size+1+1,1,none⟩ (.int .i64 er):=⟨_,rfl⟩;rw[<-xq];have xW:Mod (fun b=>b=w.heap.size+1+1) w2 w3:=(by rw[xq];exact aj (S:=fun b=>b=w.heap.size+1+1) rfl 1 _);have CZ:w3.heap[w.heap.size+1+1]? =some (.cells #[.slice none 0 0, .int .i64 er] 41 (0,0)):=by
   rw[xq];have h9:=Joins.block_setCell (i:=1) Bn.out.x (.int .i64 er);simpa using h9
  have KI:OwnB w3 wq.heap.size R3 xJ q d:=wu.out.sameR fun g e=>by
   have h1:=Em _ e;dsimp only at h1;exact(xW.block g (by have:=BQ.mod.size;omega) (by omega)).trans (BQ.mod.block g h1.2 (fun e2=>by have:=KE g e2;omega))
  have KP:av w3 A q d:=(xZ.out.bytes.kept GS.out).run0 (((BQ.mod.sub (T:=fun b=>X b\/b=w.heap.size+1+1) fun b e=> .inl e)).trans (Out.refl _ _) (xW.sub fun b e=> .inr e)) fun ad e h0=>by
   have h1:=xZ.out.low ad e h0;have h2:=HH.out.hse.home.base;exact⟨by have:=GS.out.size;omega,fun e2=>e2.elim (fun e2=>by have:=KE _ e2;omega) (fun e2=>by omega)⟩
  have yS:=kO R3 A q xJ cq d w3 KI.vAny KP (by omega) Qb xZ.out.cap;have g9:w3.cell? ⟨w.heap.size,9,none⟩=some (.slice A q cq):=(bq (xW.block _ (vo Bn.out.op).1 (by omega))).trans (aa Bn.out.op 9);have Oo:=vp yS;have Je:=vp KI;have Cb:=vp xW;have Bm:=vp CZ;have LH:=vp ((xW.block _ (vo Bn.out.res).1 (by omega)).trans Bn.out.res);clear xq xW CZ KI KP yS BQ f0 f7 y0 y1 y2 y3 y4 y5 y6 y7;go_upto_region 38 with(first
   |(go_at_call 20;refine(Oo.out).mono ?_;rintro e w4 ⟨rfl,wA⟩;have xj:=vp wA;clear wA)
   |fail)
  have Ei:iD w.heap.size wq w2 R3 xJ q (.slice none 0 0) (.int .i64 er) w4:=⟨⟨d,Je.out.sameR fun g e=>xj.out.block g (Je.out.blk g (by rw[e];rfl)).2⟩,(Cb.out.sub fun b e=> .inl e).trans (Out.refl _ _) (Mod.of xj.out),(xj.out.block _ (vo Bm.out).1).trans Bm.out,(xj.out.block _ (vo LH.out).1).trans LH.out⟩;have LJ:=vp Ei;clear Ei g9;go_wp2_with fail;go_loopw [15] (fun i wr=> ∃j:Nat,i= .int .i64 (j:Int)/\j<=q/\iD w.heap.size wq w2 R3 xJ q (.slice none 0 0) (.int .i64 er) wr) (fun i _ =>q-(intOf i).toNat)
  case atStart=>exact⟨0,rfl,vL _,LJ.out⟩
  case round=>
   obtain⟨j,rfl,hj,hJ⟩:=hrel;by_cases zP:j<q
   ·obtain⟨g,rfl⟩:=hJ.row.some_of (by omega);obtain⟨dj,wz⟩:=hJ.row;have b1:=wz.cell zP;have b2:wr.frozen? ⟨g,j,none⟩=false:=OwnG.free wz.toG j;have yG:(j:Int)<(q:Int):=(by omega);have HJ:=vp hJ;clear wz hJ;go_wp2_with fail;go_roundw
    case rel=>exact⟨j+1,by go_num,by omega,HJ.out.put (y:=237) zP xT.out.lt⟩
    case measure=>(simp[intOf];omega)
   ·obtain rfl:j=q:=(by omega);have c0:wr.cell? ⟨w.heap.size+1+1,0,none⟩=some (.slice none 0 0):=aa hJ.x 0;have c1:wr.cell? ⟨w.heap.size+1+1,1,none⟩=some (.int .i64 er):=aa hJ.x 1;have c2:wr.frozen? ⟨w.heap.size+1,0,none⟩=false:=ae hJ.res 0;have c3:wr.frozen? ⟨w.heap.size+1,1,none⟩=false:=ae hJ.res 1;have c4:wr.cell? ⟨w.heap.size+1,0,none⟩=some (.slice none 0 0):=aa hJ.res 0;have c5:wr.cell? ⟨w.heap.size+1,1,none⟩=some (.int .i64 0):=aa hJ.res 1;have HJ:=vp hJ;clear hJ;go_wp2_with fail;exact en HH.out yU GS.out (by omega) HP.out HJ.out.mod (fun b e=>e.elim (fun e=>⟨by omega, .inl (by omega)⟩) (fun e=>by have h1:=Em _ e;dsimp only at h1;exact⟨by omega, .inl h1.2⟩)) HJ.out.res rfl rfl
 by_cases k6:kd=6
 ·subst k6;have e0:wq.cell? ⟨w.heap.size,0,none⟩=some (.int .i64 6):=aa xT.out.op 0;have e9:wq.cell? ⟨w.heap.size,9,none⟩=some (.slice A q cq):=aa xT.out.op 9;have yL:av wq A q d:=xZ.out.bytes.kept EA.out;have IY:Below wq.heap.size wq (wq.alloc (.cells #[] 5)):=vr;have IK:=vp (mi (yL.kept IY));have e9a:(wq.alloc (.cells #[] 5)).cell? ⟨w.heap.size,9,none⟩=some (.slice A q cq):=(IY.cell (p:=⟨w.heap.size,9,none⟩) (by show w.heap.size<wq.heap.size;omega)).trans e9;have Na:=vp IY;have Tm:=xZ.out.q;dsimp only at Tm;clear yL IY;go_upto_region 34 with(first
   |(at_builtin;refine ji mj rfl (.tmp 151) (.tmp 153) rfl wq.heap.size (some ⟨wq.heap.size,0,none⟩) 0 0 q [] ((List.range q).map d) rfl (by simp) rfl (OwnB.toG (d:=fun _ =>0) (OwnB.none_made wq)) A cq rfl IK.out (by omega) (by simp) ?_;intro R3 xJ w1 wK vS;have wu:Hid (OwnB w1 wq.heap.size R3 xJ q d):=vp (OwnB.ofG wK);have vY:=vp (Na.out.trans vS);clear wK vS)
   |fail)
  have wF:=vY.out.size;have AS:=vp (xT.out.below vY.out);have Ji:=vp (Dv.out.below vY.out);have GS:=vp (EA.out.trans (vY.out.mono EA.out.size));have zA:=Dv.out.hse.home.lts;have Em: ∀ad,R3=some ad->wq.heap.size<=ad.block/\ad.block<w1.heap.size:=fun ad e=>by
   rcases wu.out.formA with⟨e2,_⟩|⟨g,e2,h1,h2⟩
   ·rw[e2]at e;cases e
   ·rw[e2]at e;injection e with e;subst e;exact⟨h1,h2⟩
  have Qb:q<=xJ:=by
   rcases wu.out.toG.form with⟨_,e2,_⟩|⟨g,_,_,_,e2⟩
   ·have:q=0:=(by simpa using congrArg List.length e2);omega
   ·simpa using e2
  have HK:=vp (sPoke_of (.pointer (some ⟨x.s,0,none⟩)) (.int .u64 (addr:Int)) (.slice R3 q xJ) w1 (fun e w'=> ∃er,e= .returned (.int .i64 er)/\Hid (ci w1 B c a fs m S F clock p L l ⟨6,sI,r,addr,n,q,d⟩ er w')/\Hid (av w' R3 q d)) ((tS (o:=⟨6,sI,r,addr,n,q,d⟩) (want:=0) (Ab:=R3) (cq:=xJ) Ji.out.hse HX.out (by omega) MR.out (.inr ⟨rfl,rfl⟩) xZ.out.addr Ar Tm Qb wu.out.vAny xZ.out.small (fun ad e=>⟨(Em ad e).2,fun e2=>by have h1:=(Em ad e).1;rcases e2 with e2|e2|e2;(have:=zA.2.2 _ e2;omega);omega;omega⟩)).mono fun e w' ⟨er,h1,h2⟩=>⟨⟨_,h1⟩,er,h1,h2⟩));have f0:w1.cell? ⟨w.heap.size,0,none⟩=some (.int .i64 6):=aa AS.out.op 0;have f7:w1.cell? ⟨w.heap.size,7,none⟩=some (.int .u64 (addr:Int)):=aa AS.out.op 7;clear e0 e9 e9a;go_upto_region 37 with(first
   |(go_at_call 31;refine(HK.out).mono ?_;rintro e w2 ⟨er,rfl,QV,WR⟩;obtain⟨y0,y1,y2,y3,y4,y5,y6,y7⟩:=(QV.out.bx (HH.out) (AS.out)).facts)
   |fail)
  obtain⟨X,S1,vX,p1,L1,l1,BQ⟩:=QV.out;have HP:=vp BQ;have Bn:=vp (BQ.bx HH.out AS.out);have KE: ∀b,X b->B<=b/\b<w.heap.size:=fun b e=>HH.out.footLt (BQ.foot b e);obtain⟨w3,xq⟩: ∃w3,w3=w2.setCell ⟨w.heap.size+1+1,1,none⟩ (.int .i64 er):=⟨_,rfl⟩;rw[<-xq];have xW:Mod (fun b=>b=w.heap.size+1+1) w2 w3:=(by rw[xq];exact aj (S:=fun b=>b=w.heap.size+1+1) rfl 1 _);have CZ:w3.heap[w.heap.size+1+1]? =some (.cells #[.slice none 0 0, .int .i64 er] 41 (0,0)):=by
   rw[xq];have h9:=Joins.block_setCell (i:=1) Bn.out.x (.int .i64 er);simpa using h9
  have KI:OwnB w3 wq.heap.size R3 xJ q d:=wu.out.sameR fun g e=>by
   have h1:=Em _ e;dsimp only at h1;exact(xW.block g (by have:=BQ.mod.size;omega) (by omega)).trans (BQ.mod.block g h1.2 (fun e2=>by have:=KE g e2;omega))
  have KP:av w3 A q d:=(xZ.out.bytes.kept GS.out).run0 (((BQ.mod.sub (T:=fun b=>X b\/b=w.heap.size+1+1) fun b e=> .inl e)).trans (Out.refl _ _) (xW.sub fun b e=> .inr e)) fun ad e h0=>by
   have h1:=xZ.out.low ad e h0;have h2:=HH.out.hse.home.base;exact⟨by have:=GS.out.size;omega,fun e2=>e2.elim (fun e2=>by have:=KE _ e2;omega) (fun e2=>by omega)⟩
  have yS:=kO R3 A q xJ cq d w3 KI.vAny KP (by omega) Qb xZ.out.cap;have g9:w3.cell? ⟨w.heap.size,9,none⟩=some (.slice A q cq):=(bq (xW.block _ (vo Bn.out.op).1 (by omega))).trans (aa Bn.out.op 9);have Oo:=vp yS;have Je:=vp KI;have Cb:=vp xW;have Bm:=vp CZ;have LH:=vp ((xW.block _ (vo Bn.out.res).1 (by omega)).trans Bn.out.res);clear xq xW CZ KI KP yS BQ f0 f7 y0 y1 y2 y3 y4 y5 y6 y7;go_upto_region 38 with(first
   |(go_at_call 20;refine(Oo.out).mono ?_;rintro e w4 ⟨rfl,wA⟩;have xj:=vp wA;clear wA)
   |fail)
  have Ei:iD w.heap.size wq w2 R3 xJ q (.slice none 0 0) (.int .i64 er) w4:=⟨⟨d,Je.out.sameR fun g e=>xj.out.block g (Je.out.blk g (by rw[e];rfl)).2⟩,(Cb.out.sub fun b e=> .inl e).trans (Out.refl _ _) (Mod.of xj.out),(xj.out.block _ (vo Bm.out).1).trans Bm.out,(xj.out.block _ (vo LH.out).1).trans LH.out⟩;have LJ:=vp Ei;clear Ei g9;go_wp2_with fail;go_loopw [15] (fun i wr=> ∃j:Nat,i= .int .i64 (j:Int)/\j<=q/\iD w.heap.size wq w2 R3 xJ q (.slice none 0 0) (.int .i64 er) wr) (fun i _ =>q-(intOf i).toNat)
  case atStart=>exact⟨0,rfl,vL _,LJ.out⟩
  case round=>
   obtain⟨j,rfl,hj,hJ⟩:=hrel;by_cases zP:j<q
   ·obtain⟨g,rfl⟩:=hJ.row.some_of (by omega);obtain⟨dj,wz⟩:=hJ.row;have b1:=wz.cell zP;have b2:wr.frozen? ⟨g,j,none⟩=false:=OwnG.free wz.toG j;have yG:(j:Int)<(q:Int):=(by omega);have HJ:=vp hJ;clear wz hJ;go_wp2_with fail;go_roundw
    case rel=>exact⟨j+1,by go_num,by omega,HJ.out.put (y:=237) zP xT.out.lt⟩
    case measure=>(simp[intOf];omega)
   ·obtain rfl:j=q:=(by omega);have c0:wr.cell? ⟨w.heap.size+1+1,0,none⟩=some (.slice none 0 0):=aa hJ.x 0;have c1:wr.cell? ⟨w.heap.size+1+1,1,none⟩=some (.int .i64 er):=aa hJ.x 1;have c2:wr.frozen? ⟨w.heap.size+1,0,none⟩=false:=ae hJ.res 0;have c3:wr.frozen? ⟨w.heap.size+1,1,none⟩=false:=ae hJ.res 1;have c4:wr.cell? ⟨w.heap.size+1,0,none⟩=some (.slice none 0 0):=aa hJ.res 0;have c5:wr.cell? ⟨w.heap.size+1,1,none⟩=some (.int .i64 0):=aa hJ.res 1;have HJ:=vp hJ;clear hJ;go_wp2_with fail;exact en HH.out yU GS.out (by omega) HP.out HJ.out.mod (fun b e=>e.elim (fun e=>⟨by omega, .inl (by omega)⟩) (fun e=>by have h1:=Em _ e;dsimp only at h1;exact⟨by omega, .inl h1.2⟩)) HJ.out.res rfl rfl
 have b0:(kd==0)=false:=(by rw[vE];exact k0);have b1:(kd==1)=false:=(by rw[vE];exact k1);have b2:(kd==2)=false:=(by rw[vE];exact k2);have b3:(kd==3)=false:=(by rw[vE];exact k3);have b4:(kd==4)=false:=(by rw[vE];exact k4);have b5:(kd==5)=false:=(by rw[vE];exact k5);have b6:(kd==6)=false:=(by rw[vE];exact k6);have b7:(kd==7)=false:=(by rw[vE];exact k7);have b8:(kd==8)=false:=(by rw[vE];exact k8);clear k0 k1 k2 k3 k4 k5 k6 k7 k8 h9;obtain⟨y0,y1,y2,y3,y4,y5,y6,y7⟩:=xT.out.facts;go_wp2_with fail;exact cK HH.out yU EA.out wM xT.out (.idle Dv.out.hse (vO _ _) .idle) rfl rfl
end
