/- The spaces' laws: a house in memory; The spaces' laws: what is done with a house's spaces. The spaces' laws: does, its walk. -/
import Derived.Test.YtoochjhipmpehaaGreatDoorBgAK
import Derived.Test.YtoochjhipmpehaaGreatDoorOsK
import Derived.Laws.ResultCell
set_option linter.unusedVariables false
set_option linter.unusedSimpArgs false
set_option maxRecDepth 100000
set_option maxHeartbeats 8000000
namespace Go.Proofs.YtoochjhipmpehaaGreatDoor
section
open Go.RowKit Go.Sort
def ptrC (s:Nat):List Value:=[.pointer (some ⟨s,0,none⟩)]
theorem jh:Elem 56 60 1 8 (.pointer none) ptrC:=
 ⟨Tryz.underlying56,by kernel_rfl,rfl,by decide,by decide,fun _ =>rfl,fun x v hv=>by simp[ptrC]at hv;subst hv;rfl⟩
def byC (x:Nat):List Value:=[.int .u8 (x:Int)]
theorem mq:Elem 39 5 1 1 (.int .u8 0) byC:=
 ⟨Tryz.underlying39,by kernel_rfl,rfl,by decide,by decide,fun _ =>rfl,fun x v hv=>by simp[byC]at hv;subst hv;rfl⟩
theorem oY (n:Nat) (d:Nat->Nat):((List.range n).map d).flatMap byC=(List.range n).map fun j=>Value.int .u8 (d j:Int):=by
 induction List.range n with
 |nil=>rfl
 |cons x l ih=>rw[List.map_cons,vy,ih];rfl
variable {base cap n:Nat} {d:Nat->Nat}
theorem OwnB.toG {w:World} {R:Option Addr} (h:OwnB w base R cap n d):OwnG 5 1 byC w base R cap ((List.range n).map d):=by
 unfold OwnG;rw[oY,List.length_map,List.length_range];exact h
theorem OwnB.ofG {w:World} {R:Option Addr} (h:OwnG 5 1 byC w base R cap ((List.range n).map d)):OwnB w base R cap n d:=by
 unfold OwnG at h;rw[oY,List.length_map,List.length_range]at h;exact h
variable {A:Option Addr}
theorem OwnB.formA {w:World} (h:OwnB w base A cap n d):(A=none/\n=0)\/ ∃g,A=some ⟨g,0,none⟩/\base<=g/\g<w.heap.size:=by
 rcases h.toG.form with⟨h1,h2,_⟩|⟨g,h1,h2,h3,_⟩
 ·exact .inl ⟨h1,by simpa using congrArg List.length h2⟩
 ·exact .inr ⟨g,h1,h2,h3⟩
theorem OwnB.vAny {w:World} (h:OwnB w base A cap n d):au w A n d:=by
 rcases h.formA with⟨_,e⟩|⟨g,rfl,_⟩
 ·intro h0;omega
 ·exact h.v
theorem mo {w:World} (h:au w A n d):0<n-> ∃x,A=some x/\ ∀(j:Nat) u,(((List.range n).map d).flatMap byC)[j]? =some u->w.cell? (x.add j)=some u:=fun h0=>by
 obtain⟨x,e,hx⟩:=h h0;refine⟨x,e,fun j u hu=>?_⟩;rw[oY,vt]at hu;obtain⟨i,hi,rfl⟩:=Option.map_eq_some_iff.1 hu;obtain⟨h1,h2⟩:=List.getElem?_eq_some_iff.1 hi;rw[List.length_range]at h1;rw[List.getElem_range]at h2;subst h2;exact hx j h1
variable {w w' w1 w3 w4:World} {hb B c a fs m:Nat} {S S':Nat->Prop} {F:List Nd} {clock vB:Int} {p p':Pool} {L L':List Slot} {l l':List SpM} {R:Option Addr} {cr:Nat} {ls:List Nat}
variable {X:Nat->Prop}
theorem Hse.aside (h:Hse w B c a fs m S F clock p L l) (hm:Mod X w w') (hX: ∀b,X b-> ¬aw S c m b/\B<=b/\ ∀(k:Nat) (x:SpM),l[k]? =some x->b≠x.s/\b≠x.t/\ ∀ad,x.A=some ad->ad.block≠b):Hse w' B c a fs m S F clock p L l:=
 ⟨h.home.mod hm (fun b e=>⟨fun e2=>(hX b e).1 (.inl e2),fun e2=>(hX b e).1 (.inr (.inr e2)),fun e2=>(hX b e).1 (.inr (.inl e2)),(hX b e).2.1⟩),h.hs,
  fun j y hj=>(h.each j y hj).keep (h.lt j y hj) hm (fun b e=> .inr (.inr ((hX b e).2.2 j y hj))) (Out.refl _ _),h.apart,fun j y hj=>(h.lt j y hj).more hm.size⟩
structure Hou (w:World) (hb B c a fs m:Nat) (S:Nat->Prop) (F:List Nd) (clock:Int) (p:Pool) (L:List Slot) (l:List SpM) (R:Option Addr) (cr:Nat) (ls:List Nat):Prop where
 hse:Hse w B c a fs m S F clock p L l
 self:gY w hb fs a c R ls.length cr
 row:OwnG 60 1 ptrC w B R cr ls
 hbB:B<=hb
 no: ¬aw S c m hb
 sp: ∀(k:Nat) (x:SpM),l[k]? =some x->hb≠x.s/\hb≠x.t/\ ∀ad,x.A=some ad->ad.block≠hb
 noR: ∀g,R=some ⟨g,0,none⟩->g≠hb/\ ¬aw S c m g/\ ∀(k:Nat) (x:SpM),l[k]? =some x->g≠x.s/\g≠x.t/\ ∀ad,x.A=some ad->ad.block≠g
 tl: ∀(k:Nat) (x:SpM),l[k]? =some x->B<=x.t
theorem Hou.lt (h:Hou w hb B c a fs m S F clock p L l R cr ls):hb<w.heap.size:=(uZ h.self).1
theorem aw.out {b:Nat} (ho:Out S S' w) (hb:b<w.heap.size) (h: ¬aw S c m b): ¬aw S' c m b:=fun e=>by
 rcases e with e|e
 ·exact(ho b e).elim (fun e=>h (.inl e)) (fun e=>by omega)
 ·exact h (.inr e)
theorem Hou.next (h:Hou w hb B c a fs m S F clock p L l R cr ls) (hh:Hse w' B c a fs m S' F vB p' L' l') (hm:Mod X w w') (hX: ∀b,X b->aw S c m b\/w.heap.size<=b\/ ∃(k:Nat) (x:SpM),l[k]? =some x/\(b=x.s\/b=x.t)) (ho:Out S S' w)
  (hn: ∀(k:Nat) (y:SpM),l'[k]? =some y->(∃(j:Nat) (x:SpM),l[j]? =some x/\y.s=x.s/\y.t=x.t/\ ∀ad,y.A=some ad->x.A=some ad\/w.heap.size<=ad.block)\/(w.heap.size<=y.s/\w.heap.size<=y.t/\ ∀ad,y.A=some ad->w.heap.size<=ad.block)):
  Hou w' hb B c a fs m S' F vB p' L' l' R cr ls:=by
 have vH:=h.lt;have keep: ∀g,g<w.heap.size-> ¬aw S c m g->(∀(k:Nat) (x:SpM),l[k]? =some x->g≠x.s/\g≠x.t/\ ∀ad,x.A=some ad->ad.block≠g)->w'.heap[g]? =w.heap[g]? :=fun g hg h1 h2=>hm.block g hg fun e=>by
  rcases hX g e with e|e|⟨k,x,h3,h4⟩
  ·exact h1 e
  ·omega
  ·exact h4.elim (h2 k x h3).1 (h2 k x h3).2.1
 have far: ∀g,g<w.heap.size->(∀(k:Nat) (x:SpM),l[k]? =some x->g≠x.s/\g≠x.t/\ ∀ad,x.A=some ad->ad.block≠g)-> ∀(k:Nat) (y:SpM),l'[k]? =some y->g≠y.s/\g≠y.t/\ ∀ad,y.A=some ad->ad.block≠g:=fun g hg h2 k y hy=>by
  rcases hn k y hy with⟨j,x,h3,h4,h5,h6⟩|⟨h3,h4,h5⟩
  ·obtain⟨e1,e2,e3⟩:=h2 j x h3;exact⟨by rw[h4];exact e1,by rw[h5];exact e2,fun ad e=>(h6 ad e).elim (e3 ad) (fun e=>by omega)⟩
  ·exact⟨by omega,by omega,fun ad e=>by have:=h5 ad e;omega⟩
 refine⟨hh,(keep hb vH h.no h.sp).trans h.self,h.row.same fun g hg=>keep g (h.row.lt g hg).2 (h.noR g hg).2.1 (h.noR g hg).2.2,h.hbB,aw.out ho vH h.no,far hb vH h.sp,
  fun g hg=>⟨(h.noR g hg).1,aw.out ho (h.row.lt g hg).2 (h.noR g hg).2.1,far g (h.row.lt g hg).2 (h.noR g hg).2.2⟩,fun k y hy=>?_⟩
 have Aa:=h.hse.home.base;rcases hn k y hy with⟨j,x,h3,h4,h5,h6⟩|⟨h3,h4,h5⟩
 ·rw[h5];exact h.tl j x h3
 ·omega
theorem Hou.old (h:Hou w hb B c a fs m S F clock p L l R cr ls): ∀(k:Nat) (y:SpM),l[k]? =some y->(∃(j:Nat) (x:SpM),l[j]? =some x/\y.s=x.s/\y.t=x.t/\ ∀ad,y.A=some ad->x.A=some ad\/w.heap.size<=ad.block)\/(w.heap.size<=y.s/\w.heap.size<=y.t/\ ∀ad,y.A=some ad->w.heap.size<=ad.block):=fun k y hy=> .inl ⟨k,y,hy,rfl,rfl,fun _ e=> .inl e⟩
theorem Hou.below (h:Hou w hb B c a fs m S F clock p L l R cr ls) (Br:Below w.heap.size w w'):Hou w' hb B c a fs m S F clock p L l R cr ls:=
 h.next (X:=fun _ =>False) (h.hse.below Br) (Mod.of Br) (fun _ e=>e.elim) (Out.refl _ _) h.old
def kI (S:Nat->Prop) (B c m hb:Nat) (R:Option Addr) (l:List SpM) (b:Nat):Prop:= ¬aw S c m b/\B<=b/\b≠hb/\R≠some ⟨b,0,none⟩/\ ∀(k:Nat) (x:SpM),l[k]? =some x->b≠x.s/\b≠x.t/\ ∀ad,x.A=some ad->ad.block≠b
theorem Hou.aside (h:Hou w hb B c a fs m S F clock p L l R cr ls) (hm:Mod X w w') (hX: ∀b,X b->kI S B c m hb R l b):Hou w' hb B c a fs m S F clock p L l R cr ls:=
 ⟨h.hse.aside hm (fun b e=>⟨(hX b e).1,(hX b e).2.1,(hX b e).2.2.2.2⟩),(hm.block hb h.lt (fun e=>(hX hb e).2.2.1 rfl)).trans h.self,h.row.same fun x hx=>hm.block x (h.row.lt x hx).2 (fun e=>(hX x e).2.2.2.1 hx),h.hbB,h.no,h.sp,h.noR,h.tl⟩
theorem Hou.far (h:Hou w hb B c a fs m S F clock p L l R cr ls) (vX:Below w.heap.size w w3) (DL:w3.grownBy w4 (R.map (·.block))):w4.heap[hb]? =w.heap[hb]? :=by
 have hh:=h.lt;have xR:=vX.size;refine(DL.block hb (by omega) (fun e=>?_)).trans (vX.block hb hh);rcases h.row.form with⟨h9,_⟩|⟨g,h9,_⟩
 ·rw[h9]at e;cases e
 ·rw[h9]at e;simp only[Option.map_some,Option.some.injEq]at e;exact(h.noR g h9).1 e.symm
theorem Hou.push {s g vA:Nat} (h:Hou w hb B c a fs m S F clock p L l R cr ls) (vX:Below w.heap.size w w3) (Ag:OwnG 60 1 ptrC w4 B (some ⟨g,0,none⟩) vA (ls++[s])) (DL:w3.grownBy w4 (R.map (·.block))) (wK:R.map (·.block)=some g\/g=w3.heap.size) (vH:g<w4.heap.size):
  Hou (w4.setCell ⟨hb,3,none⟩ (.slice (some ⟨g,0,none⟩) (ls.length+1) vA)) hb B c a fs m S F clock p L l (some ⟨g,0,none⟩) vA (ls++[s])/\Mod (fun b=>R=some ⟨b,0,none⟩\/b=hb) w (w4.setCell ⟨hb,3,none⟩ (.slice (some ⟨g,0,none⟩) (ls.length+1) vA))/\(R=some ⟨g,0,none⟩\/w.heap.size<=g):=by
 have Rq: ∀k,R.map (·.block)=some k->R=some ⟨k,0,none⟩:=fun k e=>by
  rcases h.row.form with⟨h9,_⟩|⟨g,h9,_⟩
  ·rw[h9]at e;cases e
  ·rw[h9]at e;simp only[Option.map_some,Option.some.injEq]at e;rw[h9,e]
 have hh:=h.lt;have xR:=vX.size;have hl:=h.hse.home.lts;have Aa:=h.hse.home.base;have xq:Mod (fun b=>R.map (·.block)=some b\/b=hb) w w4:=(Mod.of vX).trans (Out.refl _ _) ((bZ DL).sub fun b e=> .inl e);have xf:Mod (fun b=>R.map (·.block)=some b\/b=hb) w (w4.setCell ⟨hb,3,none⟩ (.slice (some ⟨g,0,none⟩) (ls.length+1) vA)):=xq.trans (Out.refl _ _) ((aj (S:=fun b=>b=hb) rfl 3 _).sub fun b e=> .inr e);have xL:w4.heap[hb]? =w.heap[hb]? :=(DL.block hb (by omega) (fun e=>(h.noR hb (Rq hb e.symm)).1 rfl)).trans (vX.block hb hh);have OV:=xL.trans h.self;have NJ:(R=some ⟨g,0,none⟩)\/w.heap.size<=g:=wK.imp (Rq g) fun e=>by omega
 have TQ:g≠hb:=NJ.elim (fun e=>(h.noR g e).1) (fun e=>by omega);refine⟨⟨h.hse.aside xf fun b e=>?_,?_,Ag.same fun x hx=>?_,h.hbB,h.no,h.sp,fun x hx=>?_,h.tl⟩,xf.sub fun b e=>e.imp (Rq b) id,NJ⟩
 ·rcases e with e|e
  ·exact⟨(h.noR b (Rq b e)).2.1,(h.row.lt b (Rq b e)).1,(h.noR b (Rq b e)).2.2⟩
  ·subst e;exact⟨h.no,h.hbB,h.sp⟩
 ·have h9:=Joins.block_setCell (i:=3) OV (.slice (some ⟨g,0,none⟩) (ls.length+1) vA);unfold gY;rw[h9,vf,vm];rfl
 ·injection hx with hx;injection hx with hx;subst hx;exact(aj (S:=fun b=>b=hb) (w:=w4) (b:=hb) rfl 3 _).block g vH TQ
 ·injection hx with hx;injection hx with hx;subst hx;rcases NJ with e|e
  ·exact h.noR g e
  ·exact⟨TQ,fun e2=>by have:=hl.2.2;rcases e2 with e2|e2|e2;(have:=hl.2.2 g e2;omega);omega;omega,fun k x hk=>by have h5:=h.hse.lt k x hk;have h6:=h5.s;have h7:=h5.t;exact⟨by omega,by omega,fun ad e=>by have:=h5.r ad e;omega⟩⟩
def numI (s:Int) (n:Nat):Int:=if n=0 then-1 else if s.tmod n<0 then s.tmod n+n else s.tmod n
theorem pM (s:Int) (hn:0<n): -(n:Int)<s.tmod n:=by
 rcases Int.le_total 0 s with h|h
 ·have:=Int.tmod_nonneg (n:Int) h;omega
 ·have h3:=Int.tmod_lt_of_pos (-s) (show(0:Int)<n by omega);rw[Int.neg_tmod]at h3;omega
theorem tp (s:Int) (hn:0<n): ∃j,j<n/\numI s n=(j:Int):=by
 have h1:=Int.tmod_lt_of_pos s (show(0:Int)<n by omega);have h2:=pM s hn;refine⟨(numI s n).toNat,?_,?_⟩<;>(unfold numI;rw[if_neg (by omega)];split<;>omega)
theorem ix (s:Int) (n:Nat) (hn:n<=1000) (w:World):Calls Tryz.prog 16 #[.int .i64 s, .int .i64 (n:Int)] w fun e w'=>e= .returned (.int .i64 (numI s n))/\w=w':=by
 by_cases h0:n=0
 ·subst h0;go_enter Tryz.func16,Tryz.ntmps16;go_wp2_with fail;go_ret;exact⟨rfl,rfl⟩
 ·have hz:((n:Int)==0)=false:=(by rw[vp];omega);have h1:=Int.tmod_lt_of_pos s (show(0:Int)<n by omega);have h2:=pM s (n:=n) (by omega);by_cases JM:s.tmod n<0
  ·have hd:decide (s.tmod n<0)=true:=vr JM;have hr:Hid (numI s n=s.tmod n+n):=va (by unfold numI;rw[if_neg h0,if_pos JM]);go_enter Tryz.func16,Tryz.ntmps16;go_wp2_with fail;go_ret;exact⟨by rw[hr.out];rfl,rfl⟩
  ·have hd:decide (s.tmod n<0)=false:=vq JM;have hr:Hid (numI s n=s.tmod n):=va (by unfold numI;rw[if_neg h0,if_neg JM]);go_enter Tryz.func16,Tryz.ntmps16;go_wp2_with fail;go_ret;exact⟨by rw[hr.out];rfl,rfl⟩
theorem iq (A1 A2:Option Addr) (n c1 c2:Nat) (d0:Nat->Nat) (w:World) (h1:au w A1 n d0) (h2:au w A2 n d0) (hn:n<=140737488355328) (xU:n<=c1) (zM:n<=c2):
  Calls Tryz.prog 20 #[.slice A1 n c1, .slice A2 n c2] w fun e w'=>e= .returned (.bool true)/\Below w.heap.size w w':=by
 have H1:=va h1;have H2:=va h2;clear h1 h2;go_enter Tryz.func20,Tryz.ntmps20;go_wp2_with fail;go_loopw [5] (fun i wr=> ∃(k:Nat),i= .int .i64 (k:Int)/\k<=n/\Below w.heap.size w wr) (fun i _ =>n-(intOf i).toNat)
 case atStart=>exact⟨0,rfl,vw _,vz _ _⟩
 case round=>
  obtain⟨k,rfl,hk,xV⟩:=hrel;by_cases vH:k<n
  ·obtain⟨a1,rfl,g1⟩:=H1.out (by omega);obtain⟨a2,rfl,g2⟩:=H2.out (by omega);have e1:=(xV.cell (World.block_lt_of_cell? _ _ (g1 k vH))).trans (g1 k vH);have e2:=(xV.cell (World.block_lt_of_cell? _ _ (g2 k vH))).trans (g2 k vH);have f1: ∀d os,(grow (redrawn wr d) os).cell? (a1.add k)=some (.int .u8 ((d0 k:Nat):Int)):=fun d os=>cell_regrown e1 d os;have f2: ∀d os,(grow (redrawn wr d) os).cell? (a2.add k)=some (.int .u8 ((d0 k:Nat):Int)):=fun d os=>cell_regrown e2 d os;have xP:(k:Int)<(n:Int):=(by omega);have HB:=va xV;clear e1 e2 g1 g2 xV;go_upto_region 6 with(fail);refine wp_region_quiet_below (by kernel_rfl) (by kernel_rfl) ?_;(repeat(go_big_quiet_step ((fail))));refine wpQuiet_nil ?_;intro _ xI;obtain⟨⟨dq,osq⟩,hw''⟩:=xI;subst hw'';have wM:=below_regrown (wr) dq osq;generalize grow (redrawn (wr) dq) osq=wq at wM⊢;go_wp2_with fail;go_roundw
   case rel=>exact⟨k+1,by go_num,by omega,HB.out.trans (wM.mono HB.out.size)⟩
   case measure=>(simp[intOf];omega)
  ·obtain rfl:k=n:=(by omega);go_wp2_with fail;go_ret;exact⟨rfl,xV⟩
end
section
open Go.RowKit Go.Sort
structure O11 where
 kd:Int
 sI:Int
 r:Reg
 addr:Nat
 n:Int
 q:Nat
 d:Nat->Nat
inductive Do11 (F:List Nd) (p:Pool) (L:List Slot) (l:List SpM) (o:O11):Int->Pool->List Slot->List SpM->Prop
 |idle:Do11 F p L l o 0 p L l
 |new (s t f:Nat) (p':Pool) (L':List Slot):o.kd=9->ax p L 0 f p' L'->Do11 F p L l o 0 p' L' (l++[⟨s,t,f,none,0,0,[],some (aG f)⟩])
 |newNo (f:Nat):o.kd=9->ax p L 4 f p L->Do11 F p L l o 4 p L l
 |gone (k:Nat) (x:SpM) (er:Int):o.kd≠9->numI o.sI l.length=k->l[k]? =some x->x.T=none->er=0\/er=2->Do11 F p L l o er p L l
 |no (k:Nat) (x:SpM) (T:Tab) (er:Int):o.kd=0\/o.kd=1\/o.kd=2->numI o.sI l.length=k->l[k]? =some x->x.T=some T->er≠0->Do11 F p L l o er p L l
 |map (k:Nat) (x:SpM) (T:Tab) (A':Option Addr) (vA:Nat) (p':Pool) (T':Tab):o.kd=0->numI o.sI l.length=k->l[k]? =some x->x.T=some T->0=eh F x.rl o.r->cC F (tnS ((l.map (·.T)).set k none)) o.r.fr o.r.to p L T T.puts.length p' T'->Do11 F p L l o 0 p' L (l.set k (x.withR A' vA (Rg.put x.rl o.r).1 T'))
 |unmap (k:Nat) (x:SpM) (T:Tab) (A':Option Addr) (vA:Nat) (p':Pool) (T':Tab):o.kd=1->numI o.sI l.length=k->l[k]? =some x->x.T=some T->0=(Rg.cut x.rl o.r.fr o.r.to).2->cC F (tnS ((l.map (·.T)).set k none)) o.r.fr o.r.to p L T T.puts.length p' T'->Do11 F p L l o 0 p' L (l.set k (x.withR A' vA (Rg.cut x.rl o.r.fr o.r.to).1 T'))
 |prot (k:Nat) (x:SpM) (T:Tab) (A':Option Addr) (vA:Nat) (p':Pool) (T':Tab) (q:Nat):o.kd=2->numI o.sI l.length=k->l[k]? =some x->x.T=some T->o.r.prot=(q:Int)->0=(Rg.protect x.rl o.r.fr o.r.to q).2->bJ F (tnS ((l.map (·.T)).set k none)) (prt q) o.r.fr o.r.to p L T T.puts.length p' T'->Do11 F p L l o 0 p' L (l.set k (x.withR A' vA (Rg.protect x.rl o.r.fr o.r.to q).1 T'))
 |load (k:Nat) (x:SpM) (T:Tab) (want er:Int) (kk:Nat) (d:Nat->Nat) (p':Pool) (L':List Slot) (T':Tab):(o.kd=3/\want=4)\/(o.kd=5/\want=0)->numI o.sI l.length=k->l[k]? =some x->x.T=some T->eN F (tnS ((l.map (·.T)).set k none)) x.rl p L T o.addr o.n want er kk d p' L' T'->Do11 F p L l o er p' L' (l.set k (x.withT T'))
 |store (k:Nat) (x:SpM) (T:Tab) (want er:Int) (p':Pool) (L':List Slot) (T':Tab):(o.kd=4/\want=2)\/(o.kd=6/\want=0)->numI o.sI l.length=k->l[k]? =some x->x.T=some T->dN F (tnS ((l.map (·.T)).set k none)) x.rl p L T o.addr o.q o.d want er p' L' T'->Do11 F p L l o er p' L' (l.set k (x.withT T'))
 |forkNo (k:Nat) (x:SpM) (T:Tab) (p':Pool) (L':List Slot):o.kd=7->numI o.sI l.length=k->l[k]? =some x->x.T=some T->qv F (tnS ((l.map (·.T)).set k none)) p L T p' L'->Do11 F p L l o 4 p' L' l
 |fork (k:Nat) (x:SpM) (T:Tab) (s2 t2 f:Nat) (A':Option Addr) (vA:Nat) (p':Pool) (L':List Slot) (T' T2:Tab):o.kd=7->numI o.sI l.length=k->l[k]? =some x->x.T=some T->gZ F (tnS ((l.map (·.T)).set k none)) p L T p' L' T' T2->Do11 F p L l o 0 p' L' (l.set k (x.withT T')++[⟨s2,t2,f,A',x.n,vA,x.rl,some T2⟩])
 |free (k:Nat) (x:SpM) (T:Tab):o.kd=8->numI o.sI l.length=k->l[k]? =some x->x.T=some T->Do11 F p L l o 0 (cj p ((T.evs 4 0).flatMap Ev.fs)) L (l.set k x.dead)
def houF (S:Nat->Prop) (c m hb:Nat) (R:Option Addr) (l:List SpM):Nat->Prop:=fun b=>aw S c m b\/b=hb\/R=some ⟨b,0,none⟩\/ ∃(k:Nat) (x:SpM),l[k]? =some x/\(b=x.s\/b=x.t)
variable {w w':World} {hb B c a fs m:Nat} {S S':Nat->Prop} {F:List Nd} {clock vB:Int} {p p':Pool} {L L':List Slot} {l l':List SpM} {R R':Option Addr} {cr:Nat} {ls:List Nat}
theorem Hou.lowF (h:Hou w hb B c a fs m S F clock p L l R cr ls): ∀b,houF S c m hb R l b->B<=b:=fun b e=>by
 rcases e with e|e|e|⟨k,x,hk,e⟩
 ·exact h.hse.footLow b e
 ·rw[e];exact h.hbB
 ·exact(h.row.lt b e).1
 ·rcases e with e|e
  ·rw[e];have h1:=h.hse.each k x hk;cases hT:x.T with
   |none=>exact(h1.dead hT).noS.2.2.2
   |some T=>exact(h1.live hT).one.noS.2.2.2
  ·rw[e];exact h.tl k x hk
theorem jp (ho:Out S S' w)
  (hn: ∀(k:Nat) (y:SpM),l'[k]? =some y->(∃(j:Nat) (x:SpM),l[j]? =some x/\y.s=x.s/\y.t=x.t/\ ∀ad,y.A=some ad->x.A=some ad\/w.heap.size<=ad.block)\/(w.heap.size<=y.s/\w.heap.size<=y.t/\ ∀ad,y.A=some ad->w.heap.size<=ad.block))
  (hR: ∀g,R'=some ⟨g,0,none⟩->R=some ⟨g,0,none⟩\/w.heap.size<=g):Out (houF S c m hb R l) (houF S' c m hb R' l') w:=fun b e=>by
 rcases e with(e|e|e)|e|e|⟨k,y,hk,e⟩
 ·exact(ho b e).imp (fun e=> .inl (.inl e)) id
 ·exact .inl (.inl (.inr (.inl e)))
 ·exact .inl (.inl (.inr (.inr e)))
 ·exact .inl (.inr (.inl e))
 ·exact(hR b e).imp (fun e=> .inr (.inr (.inl e))) id
 ·rcases hn k y hk with⟨j,x,h3,h4,h5,_⟩|⟨h3,h4,_⟩
  ·exact .inl (.inr (.inr (.inr ⟨j,x,h3,by rw[<-h4,<-h5];exact e⟩)))
  ·exact .inr (e.elim (fun e=>by omega) (fun e=>by omega))
def cP (w:World) (l l':List SpM):Prop:= ∀(k:Nat) (y:SpM),l'[k]? =some y->(∃(j:Nat) (x:SpM),l[j]? =some x/\y.s=x.s/\y.t=x.t/\ ∀ad,y.A=some ad->x.A=some ad\/w.heap.size<=ad.block)\/(w.heap.size<=y.s/\w.heap.size<=y.t/\ ∀ad,y.A=some ad->w.heap.size<=ad.block)
theorem cP.refl (w:World) (l:List SpM):cP w l l:=fun k y hy=> .inl ⟨k,y,hy,rfl,rfl,fun _ e=> .inl e⟩
variable {y:SpM}
theorem cP.set {k:Nat} {x:SpM} (hk:l[k]? =some x) (hs:y.s=x.s) (ht:y.t=x.t) (hA: ∀ad,y.A=some ad->x.A=some ad\/w.heap.size<=ad.block):cP w l (l.set k y):=fun j z hj=>by
 rcases cA hj with⟨_,rfl,_⟩|⟨_,hj⟩
 ·exact .inl ⟨k,x,hk,hs,ht,hA⟩
 ·exact .inl ⟨j,z,hj,rfl,rfl,fun _ e=> .inl e⟩
theorem cP.snoc (h:cP w l l') (hy:w.heap.size<=y.s/\w.heap.size<=y.t/\ ∀ad,y.A=some ad->w.heap.size<=ad.block):cP w l (l'++[y]):=fun j z hj=>by
 rcases Nat.lt_or_ge j l'.length with h1|h1
 ·rw[vk h1]at hj;exact h j z hj
 ·rw[vj h1]at hj;have:=vl hj;rw[List.mem_singleton]at this;subst this;exact .inr hy
theorem dr {k:Nat} {x:SpM} (hk:l[k]? =some x) (hs:y.s=x.s):(l.set k y).map (·.s)=l.map (·.s):=by
 rw[List.map_set,hs];exact lD (by rw[vt,hk];rfl)
variable {wq:World} {b:Nat}
theorem Hou.mine (h:Hou w hb B c a fs m S F clock p L l R cr ls) (hz:w.heap.size<=wq.heap.size) (ho:Out S S' wq) (hn:cP wq l l') (h2:w.heap.size<=b) (h3:b<wq.heap.size):kI S' B c m hb R l' b:=by
 have hl:=h.hse.home.lts;refine⟨fun e=>?_,vx h.hse.home.base h2,fun e=>by have:=h.lt;omega,fun e=>by have:=(h.row.lt b e).2;omega,fun k y hy=>?_⟩
 ·rcases e with e|e|e
  ·exact(ho b e).elim (fun e=>by have:=hl.2.2 b e;omega) (fun e=>by omega)
  ·omega
  ·omega
 ·rcases hn k y hy with⟨j,x,e1,e2,e3,e4⟩|⟨e1,e2,e3⟩
  ·have h5:=h.hse.lt j x e1;have h6:=h5.s;have h7:=h5.t;exact⟨by omega,by omega,fun ad e=>(e4 ad e).elim (fun e=>by have:=h5.r ad e;omega) (fun e=>by omega)⟩
  ·exact⟨by omega,by omega,fun ad e=>by have:=e3 ad e;omega⟩
variable {w1:World} {X Y:Nat->Prop}
theorem Hou.ends {wf:World} (h:Hou w hb B c a fs m S F clock p L l R cr (l.map (·.s))) (wM:Below w.heap.size w wq) (h1:Hse w1 B c a fs m S' F vB p' L' l') (hm:Mod X wq w1) (hX: ∀b,X b->aw S c m b\/ ∃(k:Nat) (x:SpM),l[k]? =some x/\(b=x.s\/b=x.t)) (ho:Out S S' wq) (hn:cP wq l l') (hs:l'.map (·.s)=l.map (·.s)) (hY:Mod Y w1 wf) (UG: ∀b,Y b->w.heap.size<=b/\(b<wq.heap.size\/kI S' B c m hb R l' b)):
  Hou wf hb B c a fs m S' F vB p' L' l' R cr (l'.map (·.s))/\Mod (houF S c m hb R l) w wf/\Out (houF S c m hb R l) (houF S' c m hb R l') w:=by
 have hz:=wM.size;have hq:=h.below wM;have yS:=hq.next h1 hm (fun b e=>(hX b e).imp id .inr) ho hn;have hXF: ∀b,X b->houF S c m hb R l b:=fun b e=>(hX b e).elim .inl fun e=> .inr (.inr (.inr e));have JM:cP w l l':=fun k y hy=>by
  rcases hn k y hy with⟨j,x,e1,e2,e3,e4⟩|⟨e1,e2,e3⟩
  ·exact .inl ⟨j,x,e1,e2,e3,fun ad e=>(e4 ad e).imp id (fun e=>by omega)⟩
  ·exact .inr ⟨by omega,by omega,fun ad e=>by have:=e3 ad e;omega⟩
 refine⟨by rw[hs];exact yS.aside hY fun b e=>(UG b e).2.elim (fun e2=>h.mine hz ho hn (UG b e).1 e2) id,?_,jp (fun b e=>(ho b e).imp id (fun e=>by omega)) JM (fun g e=> .inl e)⟩;exact((((Mod.of wM).trans (Out.refl _ _) ((hm.sub hXF).sub (T:=fun b=>houF S c m hb R l b\/w.heap.size<=b) fun b e=> .inl e)).trans (Out.refl _ _) (hY.sub fun b e=> .inr (UG b e).1))).own fun b e=>e
def nZ (w:World) (hb B c a fs m:Nat) (S:Nat->Prop) (F:List Nd) (clock:Int) (p:Pool) (L:List Slot) (l:List SpM) (R:Option Addr) (o:O11) (e:Ending) (w':World):Prop:=
 ∃(Rb:Option Addr) (kk cp:Nat) (er vB:Int) (S':Nat->Prop) (p':Pool) (L':List Slot) (l':List SpM) (R':Option Addr) (cr':Nat),e= .returned (.tuple #[.agg #[.slice Rb kk cp, .int .i64 er], .bool true])/\Hou w' hb B c a fs m S' F vB p' L' l' R' cr' (l'.map (·.s))/\l'.length<=6/\clock<=vB/\vB<=clock+32/\Mod (houF S c m hb R l) w w'/\Out (houF S c m hb R l) (houF S' c m hb R' l') w/\Do11 F p L l o er p' L' l'
structure pC (w:World) (B:Nat) (o:O11) (A:Option Addr) (cq:Nat):Prop where
 ok:o.r.Ok
 addr:o.addr<18446744073709551616
 q:o.q<=140737488355328
 cap:o.q<=cq
 bytes:au w A o.q o.d
 small: ∀j,o.d j<256
 low: ∀ad,A=some ad->0<o.q->ad.block<B
def opV (o:O11) (A:Option Addr) (cq:Nat):Array Value:= #[.int .i64 o.kd, .int .i64 o.sI, .int .u64 o.r.fr, .int .u64 o.r.to, .int .u8 o.r.prot, .int .i64 o.r.ino, .int .u64 o.r.off, .int .u64 (o.addr:Int), .int .i64 o.n, .slice A o.q cq]
structure Bx (w:World) (E:Nat) (op:Array Value):Prop where
 op:w.heap[E]? =some (.cells op 47 (0,0))
 res:w.heap[E+1]? =some (.cells #[.slice none 0 0, .int .i64 0] 41 (0,0))
 x:w.heap[E+2]? =some (.cells #[.slice none 0 0, .int .i64 0] 41 (0,0))
variable {E:Nat} {op:Array Value}
theorem Bx.mod (h:Bx w E op) (hm:Mod X w w') (hX: ∀b,X b->b<E\/w.heap.size<=b):Bx w' E op:=by
 have k: ∀(b:Nat) (ob:Obj),E<=b->w.heap[b]? =some ob->w'.heap[b]? =some ob:=fun b ob hE hb=>by
  have h1:=(uZ hb).1;exact(hm.block b h1 (fun e=>by have:=hX b e;omega)).trans hb
 exact⟨k _ _ (by omega) h.op,k _ _ (by omega) h.res,k _ _ (by omega) h.x⟩
theorem Bx.below (h:Bx w E op) (Br:Below w.heap.size w w'):Bx w' E op:=h.mod (X:=fun _ =>False) (Mod.of Br) (fun _ e=>e.elim)
structure Op1 (wq:World) (B c a fs m:Nat) (S:Nat->Prop) (F:List Nd) (clock:Int) (p:Pool) (L:List Slot) (l:List SpM) (o:O11) (er:Int) (X:Nat->Prop) (S':Nat->Prop) (vB:Int) (p':Pool) (L':List Slot) (l':List SpM) (w1:World):Prop where
 hse:Hse w1 B c a fs m S' F vB p' L' l'
 mod:Mod X wq w1
 foot: ∀b,X b->aw S c m b\/ ∃(k:Nat) (x:SpM),l[k]? =some x/\(b=x.s\/b=x.t)
 out:Out S S' wq
 next:cP wq l l'
 same:l'.map (·.s)=l.map (·.s)
 lo:clock<=vB
 hi:vB<=clock+32
 done:Do11 F p L l o er p' L' l'
def cm (wq:World) (B c a fs m:Nat) (S:Nat->Prop) (F:List Nd) (clock:Int) (p:Pool) (L:List Slot) (l:List SpM) (o:O11) (er:Int) (w1:World):Prop:= ∃X S' vB p' L' l',Op1 wq B c a fs m S F clock p L l o er X S' vB p' L' l' w1
variable {o:O11} {k:Nat} {x:SpM}
variable {er:Int}
theorem cm.idle (h:Hse w B c a fs m S F clock p L l) (hb:Below w.heap.size w w') (hd:Do11 F p L l o er p L l):cm w B c a fs m S F clock p L l o er w':=
 ⟨fun _ =>False,S,clock,p,L,l,h.below hb,Mod.of hb,fun _ e=>e.elim,Out.refl _ _,cP.refl _ _,rfl,Int.le_refl _,by omega,hd⟩
theorem Hse.goneOf (h:Hse w B c a fs m S F clock p L l) (hk:l[k]? =some x) (hT:x.T=none):bu w (some ⟨x.s,0,none⟩):=⟨x.s,rfl,((h.each k x hk).dead hT).cell⟩
def Err1 (w:World) (B c a fs m:Nat) (S:Nat->Prop) (F:List Nd) (clock:Int) (p:Pool) (L:List Slot) (l:List SpM) (o:O11) (e:Ending) (w':World):Prop:= ∃er,e= .returned (.int .i64 er)/\Hid (cm w B c a fs m S F clock p L l o er w')
variable {vA:Nat}
theorem cm.turn {res:List Reg} {A':Option Addr} {T':Tab} (h:Hse w B c a fs m S F clock p L l) (hk:l[k]? =some x) (h2:Hse w' B c a fs m S F clock p' L (l.set k (x.withR A' vA res T'))) (hm:Mod (fun b=>aw S c m b\/b=x.s) w w') (hA: ∀ad,A'=some ad->x.A=some ad\/w.heap.size<=ad.block) (hd:Do11 F p L l o er p' L (l.set k (x.withR A' vA res T'))):cm w B c a fs m S F clock p L l o er w':=
 ⟨_,S,clock,p',L,_,h2,hm,fun b e=>e.imp id fun e=>⟨k,x,hk, .inl e⟩,Out.refl _ _,cP.set hk rfl rfl hA,dr hk rfl,Int.le_refl _,by omega,hd⟩
theorem k_map (h:Hse w B c a fs m S F clock p L l) (hk:l[k]? =some x) (hn:numI o.sI l.length=k) (AG:o.kd=0) (Af:o.r.Ok):Calls Tryz.prog 25 #[.pointer (some ⟨x.s,0,none⟩), .agg #[.int .u64 (o.r).fr, .int .u64 (o.r).to, .int .u8 (o.r).prot, .int .i64 (o.r).ino, .int .u64 (o.r).off]] w (Err1 w B c a fs m S F clock p L l o):=by
 cases hT:x.T with
 |none=>
  refine(sx _ o.r w (h.goneOf hk hT)).mono ?_;rintro e w' ⟨rfl,hb⟩;exact⟨2,rfl,va (.idle h hb (.gone k x 2 (by omega) hn hk hT (.inr rfl)))⟩
 |some T=>
  refine(hmap' h hk hT o.r Af).mono ?_;rintro e w' (⟨er,rfl,h1,h2,h3,h4⟩|⟨rfl,h0,A',vA,p',T',h4,hm,hA,hr⟩)
  ·exact⟨er,rfl,va (.idle h h3 (.no k x T er (.inl AG) hn hk hT h1))⟩
  ·exact⟨0,rfl,va (.turn h hk h4 hm (fun ad e=> .inr (hA ad e)) (.map k x T A' vA p' T' AG hn hk hT h0 hr))⟩
theorem k_unmap (h:Hse w B c a fs m S F clock p L l) (hk:l[k]? =some x) (hn:numI o.sI l.length=k) (AG:o.kd=1) (Af:o.r.Ok):Calls Tryz.prog 26 #[.pointer (some ⟨x.s,0,none⟩), .int .u64 o.r.fr, .int .u64 o.r.to] w (Err1 w B c a fs m S F clock p L l o):=by
 cases hT:x.T with
 |none=>
  refine(ow _ _ _ w (h.goneOf hk hT)).mono ?_;rintro e w' ⟨rfl,hb⟩;exact⟨2,rfl,va (.idle h hb (.gone k x 2 (by omega) hn hk hT (.inr rfl)))⟩
 |some T=>
  refine(hunmap h hk hT o.r.fr o.r.to Af.fr0 Af.fr1 Af.to0 Af.to1).mono ?_;rintro e w' (⟨er,rfl,h1,h2,h3,h4⟩|⟨rfl,h0,A',vA,p',T',h4,hm,hA,hr⟩)
  ·exact⟨er,rfl,va (.idle h h3 (.no k x T er (.inr (.inl AG)) hn hk hT h1))⟩
  ·exact⟨0,rfl,va (.turn h hk h4 hm (fun ad e=> .inr (hA ad e)) (.unmap k x T A' vA p' T' AG hn hk hT h0 hr))⟩
theorem tF (h:Hse w B c a fs m S F clock p L l) (hk:l[k]? =some x) (hl:l.length<=100) (hn:numI o.sI l.length=k) (AG:o.kd=2) (Af:o.r.Ok):Calls Tryz.prog 27 #[.pointer (some ⟨x.s,0,none⟩), .int .u64 o.r.fr, .int .u64 o.r.to, .int .u8 o.r.prot] w (Err1 w B c a fs m S F clock p L l o):=by
 cases hT:x.T with
 |none=>
  refine(lB _ _ _ _ w (h.goneOf hk hT)).mono ?_;rintro e w' ⟨rfl,hb⟩;exact⟨2,rfl,va (.idle h hb (.gone k x 2 (by omega) hn hk hT (.inr rfl)))⟩
 |some T=>
  obtain⟨q,hq⟩: ∃q:Nat,o.r.prot=(q:Int):=⟨o.r.prot.toNat,by have:=Af.prot0;omega⟩;rw[hq];refine(hprotect h hk hT hl o.r.fr o.r.to q Af.fr0 Af.fr1 Af.to0 Af.to1).mono ?_;rintro e w' (⟨er,rfl,h1,h2,h3,h4⟩|⟨rfl,h0,A',vA,p',T',h4,hm,hA,hr⟩)
  ·exact⟨er,rfl,va (.idle h h3 (.no k x T er (.inr (.inr AG)) hn hk hT h1))⟩
  ·exact⟨0,rfl,va (.turn h hk h4 hm (fun ad e=> .inr (hA ad e)) (.prot k x T A' vA p' T' q AG hn hk hT hq h0 hr))⟩
variable {want:Int}
theorem tE {Ab:Option Addr} {cq:Nat} (h:Hse w B c a fs m S F clock p L l) (hk:l[k]? =some x) (hl:l.length<=100) (hn:numI o.sI l.length=k) (AG:(o.kd=4/\want=2)\/(o.kd=6/\want=0)) (zq:o.addr<18446744073709551616) (yA:0<=clock/\clock+32<1000000) (hq:o.q<=140737488355328) (EH:o.q<=cq) (hb:au w Ab o.q o.d) (hd: ∀j,o.d j<256) (Eo: ∀ad,Ab=some ad->ad.block<w.heap.size/\ ¬aw S c m ad.block):
  Calls Tryz.prog 71 #[.pointer (some ⟨x.s,0,none⟩), .int .u64 (o.addr:Int), .slice Ab o.q cq, .int .u8 want] w fun e w'=> ∃er,e= .returned (.int .i64 er)/\Hid (cm w B c a fs m S F clock p L l o er w')/\Hid (au w' Ab o.q o.d):=by
 cases hT:x.T with
 |none=>
  refine(oz _ _ _ Ab o.q cq w (h.goneOf hk hT)).mono ?_;rintro e w' ⟨rfl,Ip⟩;exact⟨2,rfl,va (.idle h Ip (.gone k x 2 (by omega) hn hk hT (.inr rfl))),va (hb.kept Ip)⟩
 |some T=>
  refine(nH h hk hT hl o.addr o.q cq want Ab o.d zq yA (by omega) EH hb hd Eo).mono ?_;rintro e w' ⟨er,p',L',T',vB,S',rfl,h2,hm,ho,xU,zM,vO⟩;exact⟨er,rfl,va ⟨_,S',vB,p',L',_,h2,hm,fun b e=> .inl e,ho,cP.set hk rfl rfl (fun ad e=> .inl e),dr hk rfl,xU,zM, .store k x T want er p' L' T' AG hn hk hT vO⟩,va (hb.run hm Eo)⟩
theorem k_free (h:Hse w B c a fs m S F clock p L l) (hk:l[k]? =some x) (hn:numI o.sI l.length=k) (AG:o.kd=8):Calls Tryz.prog 21 #[.pointer (some ⟨x.s,0,none⟩)] w fun e w'=>e= .returned (.tuple #[])/\Hid (cm w B c a fs m S F clock p L l o 0 w'):=by
 cases hT:x.T with
 |none=>
  refine(qM _ w (h.goneOf hk hT)).mono ?_;rintro e w' ⟨rfl,rfl⟩;exact⟨rfl,va (.idle h (vz _ _) (.gone k x 0 (by omega) hn hk hT (.inl rfl)))⟩
 |some T=>
  refine(oW h hk hT).mono ?_;rintro e w' ⟨rfl,h2,hm⟩;exact⟨rfl,va ⟨_,S,clock,_,L,_,h2,hm,fun b e=>e.imp id fun e=>⟨k,x,hk,e⟩,Out.refl _ _,cP.set hk rfl rfl (fun ad e=> .inl e),dr hk rfl,Int.le_refl _,by omega, .free k x T AG hn hk hT⟩⟩
theorem k_load (h:Hse w B c a fs m S F clock p L l) (hk:l[k]? =some x) (hl:l.length<=100) (hn:numI o.sI l.length=k) (AG:(o.kd=3/\want=4)\/(o.kd=5/\want=0)) (zq:o.addr<18446744073709551616) (yA:0<=clock/\clock+32<1000000):
  Calls Tryz.prog 70 #[.pointer (some ⟨x.s,0,none⟩), .int .u64 (o.addr:Int), .int .i64 o.n, .int .u8 want] w fun e w'=> ∃Rb kk cp er d X S' vB p' L' l',e= .returned (.tuple #[.slice Rb kk cp, .int .i64 er])/\Hid (Op1 w B c a fs m S F clock p L l o er X S' vB p' L' l' w')/\Hid (OwnB w' w.heap.size Rb cp kk d)/\Hid (∀g,Rb.map (·.block)=some g-> ¬S' g)/\Hid (∀(j:Nat) (y:SpM),l'[j]? =some y->LtW w y)/\Hid (kk<=65536):=by
 cases hT:x.T with
 |none=>
  refine(qL _ _ _ _ w (h.goneOf hk hT)).mono ?_;rintro e w' ⟨rfl,hb⟩;exact⟨none,0,0,2,fun _ =>0,fun _ =>False,S,clock,p,L,l,rfl,va ⟨h.below hb,Mod.of hb,fun _ e=>e.elim,Out.refl _ _,cP.refl _ _,rfl,Int.le_refl _,by omega, .gone k x 2 (by omega) hn hk hT (.inr rfl)⟩,va (OwnB.nilB _ _ _),va (fun g e=>by cases e),va h.lt,va (by omega)⟩
 |some T=>
  refine(jb h hk hT hl o.addr o.n want zq yA).mono ?_;rintro e w' ⟨er,Rb,kk,cp,d,p',L',T',vB,S',rfl,h2,hm,ho,xU,zM,vR,⟨Hz,xD⟩,vO⟩;exact⟨Rb,kk,cp,er,d,_,S',vB,p',L',_,rfl,va ⟨h2,hm,fun b e=> .inl e,ho,cP.set hk rfl rfl (fun ad e=> .inl e),dr hk rfl,xU,zM, .load k x T want er kk d p' L' T' AG hn hk hT vO⟩,va vR,va Hz,va (fun j y hj=>by
   rcases cA hj with⟨_,rfl,_⟩|⟨_,hj⟩
   ·exact(h.lt k x hk).withT
   ·exact h.lt j y hj),va xD⟩
theorem k_new (h:Hse w B c a fs m S F clock p L l) (AG:o.kd=9):Calls Tryz.prog 24 #[.pointer (some ⟨c,0,none⟩)] w fun e w'=>
  (∃s t f p' L' S',e= .returned (.tuple #[.pointer (some ⟨s,0,none⟩), .int .i64 0])/\Hid (Hse w' B c a fs m S' F clock p' L' (l++[⟨s,t,f,none,0,0,[],some (aG f)⟩]))/\Hid (Mod (aw S c m) w w')/\Hid (Out S S' w)/\Hid (w.heap.size<=s/\w.heap.size<=t)/\Hid (Do11 F p L l o 0 p' L' (l++[⟨s,t,f,none,0,0,[],some (aG f)⟩])))\/
  (e= .returned (.tuple #[.pointer none, .int .i64 4])/\Hid (cm w B c a fs m S F clock p L l o 4 w')):=by
 refine(hnew h).mono ?_;rintro e w' (⟨s,t,f,p',L',S',rfl,h2,hm,ho,xo,ht⟩|⟨f,p',L',S',rfl,h2,hm,ho,ht,rfl,rfl⟩)
 ·exact .inl ⟨s,t,f,p',L',S',rfl,va h2,va hm,va ho,va xo,va (.new s t f p' L' AG ht)⟩
 ·exact .inr ⟨rfl,va ⟨_,S',clock,_,_,l,h2,hm,fun b e=> .inl e,ho,cP.refl _ _,rfl,Int.le_refl _,by omega, .newNo f AG ht⟩⟩
def SpM.twin (x:SpM) (s t f:Nat) (A:Option Addr) (cap:Nat) (T:Tab):SpM:=⟨s,t,f,A,x.n,cap,x.rl,some T⟩
theorem k_fork (h:Hse w B c a fs m S F clock p L l) (hk:l[k]? =some x) (hl:l.length<=100) (hn:numI o.sI l.length=k) (AG:o.kd=7):Calls Tryz.prog 32 #[.pointer (some ⟨x.s,0,none⟩)] w fun e w'=>
  (∃s t f A' vA p' L' T' T2 S',e= .returned (.tuple #[.pointer (some ⟨s,0,none⟩), .int .i64 0])/\Hid (Hse w' B c a fs m S' F clock p' L' (l.set k (x.withT T')++[x.twin s t f A' vA T2]))/\Hid (Mod (aw S c m) w w')/\Hid (Out S S' w)/\Hid (w.heap.size<=s/\w.heap.size<=t/\ ∀ad,A'=some ad->w.heap.size<=ad.block)/\Hid (Do11 F p L l o 0 p' L' (l.set k (x.withT T')++[x.twin s t f A' vA T2])))\/
  (∃er,e= .returned (.tuple #[.pointer none, .int .i64 er])/\er≠0/\Hid (cm w B c a fs m S F clock p L l o er w')):=by
 cases hT:x.T with
 |none=>
  refine(qN _ w (h.goneOf hk hT)).mono ?_;rintro e w' ⟨rfl,rfl⟩;exact .inr ⟨2,rfl,by decide,va (.idle h (vz _ _) (.gone k x 2 (by omega) hn hk hT (.inr rfl)))⟩
 |some T=>
  have DE:=(h.live hk hT).rgs.right;have LX:x.n<900000:=by
   have h1:=(h.live hk hT).one.row.len;have h2:=(bY DE).2;omega
  refine(hfork h hk hT hl LX).mono ?_;rintro e w' (⟨p',L',S',rfl,h2,hm,ho,vW⟩|⟨s2,t2,f,A',vA,p',L',T',T2,S',rfl,h2,hm,ho,hs,hd⟩)
  ·exact .inr ⟨4,rfl,by decide,va ⟨_,S',clock,p',L',l,h2,hm,fun b e=> .inl e,ho,cP.refl _ _,rfl,Int.le_refl _,by omega, .forkNo k x T p' L' AG hn hk hT vW⟩⟩
  ·exact .inl ⟨s2,t2,f,A',vA,p',L',T',T2,S',rfl,va h2,va hm,va ho,va hs,va (.fork k x T s2 t2 f A' vA p' L' T' T2 AG hn hk hT hd)⟩
theorem Op1.bx (h:Hou w hb B c a fs m S F clock p L l R cr ls) (h1:Op1 wq B c a fs m S F clock p L l o er X S' vB p' L' l' w1) (hx:Bx wq w.heap.size op):Bx w1 w.heap.size op:=
 hx.mod h1.mod fun b e=> .inl (by
  have hl:=h.hse.home.lts;rcases h1.foot b e with e|⟨k,x,hk,e⟩
  ·rcases e with e|e|e
   ·exact hl.2.2 b e
   ·omega
   ·omega
  ·have h5:=h.hse.lt k x hk;have:=h5.s;have:=h5.t;omega)
variable {W:World}
theorem Bx.facts (h:Bx W E op):W.cell? ⟨E+1+1,0,none⟩=some (.slice none 0 0)/\W.cell? ⟨E+1+1,1,none⟩=some (.int .i64 0)/\W.frozen? ⟨E+1+1,0,none⟩=false/\W.frozen? ⟨E+1+1,1,none⟩=false/\W.frozen? ⟨E+1,0,none⟩=false/\W.frozen? ⟨E+1,1,none⟩=false/\W.cell? ⟨E+1,0,none⟩=some (.slice none 0 0)/\W.cell? ⟨E+1,1,none⟩=some (.int .i64 0):=
 ⟨aa h.x 0,aa h.x 1,ae h.x 0,ae h.x 1,ae h.res 0,ae h.res 1,aa h.res 0,aa h.res 1⟩
theorem cm.bx (h:Hou w hb B c a fs m S F clock p L l R cr ls) (h1:cm wq B c a fs m S F clock p L l o er w1) (hx:Bx wq w.heap.size op):Bx w1 w.heap.size op:=by
 obtain⟨X,S',vB,p',L',l',h1⟩:=h1;exact h1.bx h hx
theorem Hou.footLt (h:Hou w hb B c a fs m S F clock p L l R cr ls) (e:aw S c m b\/ ∃(k:Nat) (x:SpM),l[k]? =some x/\(b=x.s\/b=x.t)):B<=b/\b<w.heap.size:=by
 have hl:=h.hse.home.lts;refine⟨h.lowF b (e.imp id fun e=> .inr (.inr e)),?_⟩;rcases e with e|⟨k,x,hk,e⟩
 ·rcases e with e|e|e
  ·exact hl.2.2 b e
  ·omega
  ·omega
 ·have h5:=h.hse.lt k x hk;have:=h5.s;have:=h5.t;omega
variable {d:Nat->Nat}
theorem au.run0 {G:Nat->Prop} {Z:Option Addr} {n:Nat} (h:au w Z n d) (hm:Mod G w W) (hZ: ∀ad,Z=some ad->0<n->ad.block<w.heap.size/\ ¬G ad.block):au W Z n d:=fun h0=>h.run hm (fun ad e=>hZ ad e h0) h0
variable {u v:Value}
theorem pI {x y:Value} {T:TypeId} (h:W.heap[E]? =some (.cells #[x,y] T (0,0))):((W.setCell ⟨E,0,none⟩ u).setCell ⟨E,1,none⟩ v).cell? ⟨E,0,none⟩=some u/\((W.setCell ⟨E,0,none⟩ u).setCell ⟨E,1,none⟩ v).cell? ⟨E,1,none⟩=some v/\Mod (fun b=>b=E) W ((W.setCell ⟨E,0,none⟩ u).setCell ⟨E,1,none⟩ v):=by
 have h1:=Joins.block_setCell (i:=0) h u;have h2:=Joins.block_setCell (i:=1) h1 v;exact⟨aa h2 0,aa h2 1,(aj (S:=fun b=>b=E) rfl 0 _).trans (Out.refl _ _) (aj (S:=fun b=>b=E) rfl 1 _)⟩
theorem iM (E:Nat) (tmps:Array Value) (v0 v1:Value) (w:World) (ht:tmps.getD 4 undef= .pointer (some ⟨E,0,none⟩)) (h0:w.cell? ⟨E,0,none⟩=some v0) (h1:w.cell? ⟨E,1,none⟩=some v1):
  (results Tryz.f15 tmps).run Tryz.prog w= .ok (.tuple #[.agg #[v0,v1],tmps.getD 5 undef]) w:=by
 rw[results_cell_tmp rfl,ht];simp[go_sem,h0,h1]
variable {tmps:Array Value} {Rb:Option Addr} {kk cp:Nat}
theorem en (h:Hou w hb B c a fs m S F clock p L l R cr (l.map (·.s))) (xO:l.length<=6) (wM:Below w.heap.size w wq) (LH:w.heap.size+3<=wq.heap.size) (h1:Op1 wq B c a fs m S F clock p L l o er X S' vB p' L' l' w1) (hY:Mod Y w1 W) (UG: ∀b,Y b->w.heap.size<=b/\(b<wq.heap.size\/kI S' B c m hb R l' b))
  (hr:W.heap[w.heap.size+1]? =some (.cells #[.slice none 0 0, .int .i64 0] 41 (0,0))) (ht:tmps.getD 4 undef= .pointer (some ⟨w.heap.size+1,0,none⟩)) (h5:tmps.getD 5 undef= .bool true):
  bodyPost Tryz.prog Tryz.f15 (nZ w hb B c a fs m S F clock p L l R o) .ret ⟨tmps,[]⟩ ((W.setCell ⟨w.heap.size+1,0,none⟩ (.slice Rb kk cp)).setCell ⟨w.heap.size+1,1,none⟩ (.int .i64 er)):=by
 obtain⟨c0,c1,hm⟩:=pI (u:= .slice Rb kk cp) (v:= .int .i64 er) hr;refine bodyPost_ret (iM (w.heap.size+1) _ _ _ _ ht c0 c1) rfl ?_;have hY3:Mod (fun b=>Y b\/b=w.heap.size+1) w1 ((W.setCell ⟨w.heap.size+1,0,none⟩ (.slice Rb kk cp)).setCell ⟨w.heap.size+1,1,none⟩ (.int .i64 er)):=(hY.sub fun b e=> .inl e).trans (Out.refl _ _) (hm.sub fun b e=> .inr e);obtain⟨a1,a2,a3⟩:=h.ends wM h1.hse h1.mod h1.foot h1.out h1.next h1.same hY3 (fun b e=>e.elim (UG b) (fun e=>⟨by omega, .inl (by omega)⟩));have hlen:l'.length=l.length:=(by have:=congrArg List.length h1.same;simpa using this);exact⟨Rb,kk,cp,er,vB,S',p',L',l',R,cr,by rw[h5],a1,by omega,h1.lo,h1.hi,a2,a3,h1.done⟩
theorem cN (h:Hou w hb B c a fs m S F clock p L l R cr (l.map (·.s))) (xO:l.length<=6) (wM:Below w.heap.size w wq) (LH:w.heap.size+3<=wq.heap.size) (hx:Bx wq w.heap.size op) (h1:cm wq B c a fs m S F clock p L l o er w1) (ht:tmps.getD 4 undef= .pointer (some ⟨w.heap.size+1,0,none⟩)) (h5:tmps.getD 5 undef= .bool true):
  bodyPost Tryz.prog Tryz.f15 (nZ w hb B c a fs m S F clock p L l R o) .ret ⟨tmps,[]⟩ ((w1.setCell ⟨w.heap.size+1,0,none⟩ (.slice none 0 0)).setCell ⟨w.heap.size+1,1,none⟩ (.int .i64 er)):=by
 obtain⟨X,S',vB,p',L',l',h1⟩:=h1;exact en h xO wM LH h1 (Mod.refl (fun _ =>False) _) (fun _ e=>e.elim) (h1.bx h hx).res ht h5
theorem iF (h:Hou w hb B c a fs m S F clock p L l R cr (l.map (·.s))) (xO:l.length<=6) (wM:Below w.heap.size w wq) (LH:w.heap.size+3<=wq.heap.size) (hx:Bx wq w.heap.size op) (h1:cm wq B c a fs m S F clock p L l o er w1) (ht:tmps.getD 4 undef= .pointer (some ⟨w.heap.size+1,0,none⟩)) (h5:tmps.getD 5 undef= .bool true):
  bodyPost Tryz.prog Tryz.f15 (nZ w hb B c a fs m S F clock p L l R o) .ret ⟨tmps,[]⟩ (((w1.setCell ⟨w.heap.size+1+1,1,none⟩ (.int .i64 er)).setCell ⟨w.heap.size+1,0,none⟩ (.slice none 0 0)).setCell ⟨w.heap.size+1,1,none⟩ (.int .i64 er)):=by
 obtain⟨X,S',vB,p',L',l',h1⟩:=h1;have zA:=h1.bx h hx;have hm:=aj (S:=fun b=>b=w.heap.size+1+1) (w:=w1) (b:=w.heap.size+1+1) rfl 1 (.int .i64 er);exact en h xO wM LH h1 hm (fun b e=>⟨by omega, .inl (by omega)⟩) ((hm.block _ (uZ zA.res).1 (by omega)).trans zA.res) ht h5
variable {w7:World}
theorem Hou.bx7 (h:Hou w hb B c a fs m S F clock p L l R cr ls) (hx:Bx wq w.heap.size op) (hm:Mod (aw S c m) wq w1) (xh:Mod (fun b=>R=some ⟨b,0,none⟩\/b=hb) w1 w7):Bx w7 w.heap.size op:=by
 have hl:=h.hse.home.lts;have YW:=h.lt;exact(hx.mod hm fun b e=> .inl (by
  rcases e with e|e|e
  ·exact hl.2.2 b e
  ·omega
  ·omega)).mod xh fun b e=> .inl (e.elim (fun e=>(h.row.lt b e).2) (fun e=>by omega))
variable {g:Nat}
theorem le {l1:List SpM} (h:Hou w hb B c a fs m S F clock p L l R cr (l.map (·.s))) (xO:l.length<6) (wM:Below w.heap.size w wq) (LH:w.heap.size+3<=wq.heap.size) (hx:Bx wq w.heap.size op)
  (hm:Mod (aw S c m) wq w1) (ho:Out S S' wq) (hn:cP wq l (l1++[y])) (hs:l1.map (·.s)=l.map (·.s)) (h7:Hou w7 hb B c a fs m S' F clock p' L' (l1++[y]) (some ⟨g,0,none⟩) vA (l.map (·.s)++[y.s])) (xh:Mod (fun b=>R=some ⟨b,0,none⟩\/b=hb) w1 w7) (hg:R=some ⟨g,0,none⟩\/w1.heap.size<=g) (hd:Do11 F p L l o 0 p' L' (l1++[y])) (ht:tmps.getD 4 undef= .pointer (some ⟨w.heap.size+1,0,none⟩)) (h5:tmps.getD 5 undef= .bool true):
  bodyPost Tryz.prog Tryz.f15 (nZ w hb B c a fs m S F clock p L l R o) .ret ⟨tmps,[]⟩ ((w7.setCell ⟨w.heap.size+1,0,none⟩ (.slice none 0 0)).setCell ⟨w.heap.size+1,1,none⟩ (.int .i64 0)):=by
 have hl:=h.hse.home.lts;have hz:=hm.size;have Rj:=xh.size;have YW:=h.lt;have hR: ∀b,R=some ⟨b,0,none⟩->b<w.heap.size:=fun b e=>(h.row.lt b e).2;have OH:Bx w7 w.heap.size op:=(hx.mod hm fun b e=> .inl (by
  rcases e with e|e|e
  ·exact hl.2.2 b e
  ·omega
  ·omega)).mod xh fun b e=> .inl (e.elim (hR b) (fun e=>by omega))
 obtain⟨c0,c1,Cw⟩:=pI (u:= .slice none 0 0) (v:= .int .i64 0) OH.res;refine bodyPost_ret (iM (w.heap.size+1) _ _ _ _ ht c0 c1) rfl ?_;have hlen:l1.length=l.length:=(by have:=congrArg List.length hs;simpa using this);have hE:=h.mine (b:=w.heap.size+1) (by omega) ho hn (by omega) (by omega);have hN:kI S' B c m hb (some ⟨g,0,none⟩) (l1++[y]) (w.heap.size+1):=⟨hE.1,hE.2.1,hE.2.2.1,fun e=>by
  injection e with e;injection e with e;rcases hg with hg|hg
  ·have:=hR g hg;omega
  ·omega,hE.2.2.2.2⟩
 have hF:houF S c m hb R l=houF S c m hb R l:=rfl;refine⟨none,0,0,0,clock,S',p',L',l1++[y],some ⟨g,0,none⟩,vA,by rw[h5],?_,by rw[vf,vm];omega,Int.le_refl _,by omega,?_,?_,hd⟩
 ·rw[List.map_append,hs];exact h7.aside Cw fun b e=>by subst e;exact hN
 ·exact((((Mod.of wM).trans (Out.refl _ _) (hm.sub (T:=fun b=>houF S c m hb R l b\/w.heap.size<=b) fun b e=> .inl (.inl e))).trans (Out.refl _ _) (xh.sub fun b e=> .inl (e.elim (fun e=> .inr (.inr (.inl e))) (fun e=> .inr (.inl e))))).trans (Out.refl _ _) (Cw.sub fun b e=> .inr (by omega))).own fun b e=>e
 ·refine jp (fun b e=>(ho b e).imp id (fun e=>by omega)) (fun k z hz=>?_) (fun g' e=>?_)
  ·rcases hn k z hz with⟨j,x,e1,e2,e3,e4⟩|⟨e1,e2,e3⟩
   ·exact .inl ⟨j,x,e1,e2,e3,fun ad e=>(e4 ad e).imp id (fun e=>by omega)⟩
   ·exact .inr ⟨by omega,by omega,fun ad e=>by have:=e3 ad e;omega⟩
  ·injection e with e;injection e with e;subst e;exact hg.imp id (fun e=>by omega)
def RowJ (w:World) (base:Nat) (Rb:Option Addr) (cp kk:Nat):Prop:= ∃d,OwnB w base Rb cp kk d
theorem RowJ.some_of {base:Nat} (h:RowJ w base Rb cp kk) (h0:0<kk): ∃g,Rb=some ⟨g,0,none⟩:=by
 obtain⟨d,h⟩:=h;exact h.some_of h0
structure iJ (E:Nat) (wq w1:World) (Rb:Option Addr) (cp kk:Nat) (u v:Value) (wr:World):Prop where
 row:RowJ wr wq.heap.size Rb cp kk
 mod:Mod (fun b=>b=E+1+1\/Rb=some ⟨b,0,none⟩) w1 wr
 x:wr.heap[E+1+1]? =some (.cells #[u,v] 41 (0,0))
 res:wr.heap[E+1]? =some (.cells #[.slice none 0 0, .int .i64 0] 41 (0,0))
variable {wr:World}
theorem iJ.put {j y:Nat} (h:iJ E wq w1 (some ⟨g,0,none⟩) cp kk u v wr) (hj:j<kk) (hE:E+1+1<wq.heap.size):iJ E wq w1 (some ⟨g,0,none⟩) cp kk u v (wr.setCell ⟨g,j,none⟩ (.int .u8 (y:Int))):=by
 obtain⟨⟨d,h1⟩,h2,h3,h4⟩:=h;have hm:=aj (S:=fun b=>b=g) (w:=wr) (b:=g) rfl j (.int .u8 (y:Int));have hg:=h1.form;exact⟨⟨_,h1.put hj⟩,h2.trans (Out.refl _ _) (hm.sub fun b e=> .inr (by rw[e])),(hm.block _ (uZ h3).1 (by omega)).trans h3,(hm.block _ (uZ h4).1 (by omega)).trans h4⟩
theorem iJ.foot (hJ:iJ w.heap.size wq w1 Rb cp kk u v wr) (h:Hou w hb B c a fs m S F clock p L l R cr ls) (LH:w.heap.size+3<=wq.heap.size) (hz:w.heap.size<=wq.heap.size) (vR:OwnB w1 wq.heap.size Rb cp kk d) (Hz: ∀g,Rb.map (·.block)=some g-> ¬S' g) (vH: ∀(j:Nat) (y:SpM),l'[j]? =some y->LtW wq y):
  ∀b,(b=w.heap.size+1+1\/Rb=some ⟨b,0,none⟩)->w.heap.size<=b/\(b<wq.heap.size\/kI S' B c m hb R l' b):=fun b e=>by
 rcases e with e|e
 ·exact⟨by omega, .inl (by omega)⟩
 ·have h1:=(vR.blk b (by rw[e];rfl)).1;have hl:=h.hse.home.lts;have hB:=h.hse.home.base;have YW:=h.lt;refine⟨by omega, .inr ⟨fun e2=>?_,by omega,by omega,fun e2=>by have:=(h.row.lt b e2).2;omega,fun k y hk=>?_⟩⟩
  ·rcases e2 with e2|e2|e2
   ·exact Hz b (by rw[e];rfl) e2
   ·omega
   ·omega
  ·have h5:=vH k y hk;have h6:=h5.s;have h7:=h5.t;exact⟨by omega,by omega,fun ad e3=>by have:=h5.r ad e3;omega⟩
theorem Bx.lt (h:Bx w E op):E+1+1<w.heap.size:=(uZ h.x).1
end
section
open Go.RowKit Go.Sort
theorem lh (hb B c a fs m:Nat) (S:Nat->Prop) (F:List Nd) (clock:Int) (p:Pool) (L:List Slot) (l:List SpM) (R A:Option Addr) (cr cq:Nat) (kd sI:Int) (r:Reg) (addr q:Nat) (n:Int) (d:Nat->Nat) (w:World) (h:Hou w hb B c a fs m S F clock p L l R cr (l.map (·.s))) (xO:l.length<=6) (yA:0<=clock/\clock+32<1000000) (wI:pC w B ⟨kd,sI,r,addr,n,q,d⟩ A cq):
  Calls Tryz.prog 15 #[.pointer (some ⟨hb,0,none⟩), .agg #[.int .i64 kd, .int .i64 sI, .int .u64 r.fr, .int .u64 r.to, .int .u8 r.prot, .int .i64 r.ino, .int .u64 r.off, .int .u64 (addr:Int), .int .i64 n, .slice A q cq]] w (nZ w hb B c a fs m S F clock p L l R ⟨kd,sI,r,addr,n,q,d⟩):=by
 obtain⟨w0,vE⟩: ∃w0,w0=((w.alloc (.cells #[.int .i64 kd, .int .i64 sI, .int .u64 r.fr, .int .u64 r.to, .int .u8 r.prot, .int .i64 r.ino, .int .u64 r.off, .int .u64 (addr:Int), .int .i64 n, .slice A q cq] 47)).alloc (.cells #[.slice none 0 0, .int .i64 0] 41)).alloc (.cells #[.slice none 0 0, .int .i64 0] 41):=⟨_,rfl⟩;have vF:Below w.heap.size w w0:=(by rw[vE];exact(vc.alloc (by simp) _).alloc (by simp;omega) _);have wz:w0.heap.size=w.heap.size+3:=(by rw[vE];simp);have Eu:Bx w0 w.heap.size (opV ⟨kd,sI,r,addr,n,q,d⟩ A cq):=by
  rw[vE];refine⟨?_,?_,?_⟩
  ·exact(ve _ _ _ (by simp;omega)).trans ((ve _ _ _ (by simp)).trans (ab w _))
  ·have h9:=ab (w.alloc (.cells #[.int .i64 kd, .int .i64 sI, .int .u64 r.fr, .int .u64 r.to, .int .u8 r.prot, .int .i64 r.ino, .int .u64 r.off, .int .u64 (addr:Int), .int .i64 n, .slice A q cq] 47)) (.cells #[.slice none 0 0, .int .i64 0] 41);exact(ve _ _ _ (by simp)).trans (by simpa using h9)
  ·have h9:=ab ((w.alloc (.cells #[.int .i64 kd, .int .i64 sI, .int .u64 r.fr, .int .u64 r.to, .int .u8 r.prot, .int .i64 r.ino, .int .u64 r.off, .int .u64 (addr:Int), .int .i64 n, .slice A q cq] 47)).alloc (.cells #[.slice none 0 0, .int .i64 0] 41)) (.cells #[.slice none 0 0, .int .i64 0] 41);simpa using h9
 have NH:=h.below vF;have e0:w0.cell? ⟨w.heap.size,0,none⟩=some (.int .i64 kd):=aa Eu.op 0;have e1:w0.cell? ⟨w.heap.size,1,none⟩=some (.int .i64 sI):=aa Eu.op 1;have o2:w0.cell? ⟨hb,2,none⟩=some (.pointer (some ⟨c,0,none⟩)):=aa NH.self 2;have o3:w0.cell? ⟨hb,3,none⟩=some (.slice R l.length cr):=by
  have h9:=NH.self;rw[List.length_map]at h9;exact aa h9 3
 have YW:=h.lt;have vY:=va vE;have wO:=va vF;have Gp:=va Eu;have IZ:=va NH;have HH:=va h;have xQ:=va wI;have hlen6:(l.length:Int)<=6:=(by omega);clear vE vF Eu NH wI h;by_cases h9:kd=9
 ·subst h9;by_cases Uf:(6:Int)<=(l.length:Int)
  ·have Uh:decide ((6:Int)<=(l.length:Int))=true:=vr Uf;obtain⟨y0,y1,y2,y3,y4,y5,y6,y7⟩:=Gp.out.facts;go_enter Tryz.func15,Tryz.ntmps15;go_upto_region 2 with(fail);rw[<-vY.out];go_wp2_with fail;exact cN HH.out xO wO.out (by omega) Gp.out (.idle IZ.out.hse (vz _ _) .idle) rfl rfl
  have Uh:decide ((6:Int)<=(l.length:Int))=false:=vq Uf;have HK:=va (k_new (o:=⟨9,sI,r,addr,n,q,d⟩) IZ.out.hse rfl);have Ac:=IZ;have hz0':=wz;go_enter Tryz.func15,Tryz.ntmps15;go_upto_region 2 with(fail);rw[<-vY.out];go_upto_region 6 with(first
   |(go_at_call 24;refine(HK.out).mono ?_;rintro e w1 (⟨s1,t1,f1,p1,L1,S1,rfl,VD,Gv,vS,OA,LG⟩|⟨rfl,HP⟩))
   |fail)
  rotate_left
  ·obtain⟨y0,y1,y2,y3,y4,y5,y6,y7⟩:=(HP.out.bx HH.out Gp.out).facts;clear e0 e1 o2 o3;go_wp2_with fail;exact cN HH.out xO wO.out (by omega) Gp.out HP.out rfl rfl
  clear e0 e1 o2 o3 Uh;have wz:w.heap.size+3<=w0.heap.size:=(by omega);have QJ:Hid (cP w0 l (l++[⟨s1,t1,f1,none,0,0,[],some (aG f1)⟩])):=va ((cP.refl _ _).snoc ⟨OA.out.1,OA.out.2,fun ad e=>by cases e⟩);have DW:=va (Ac.out.next VD.out (X:=aw S c m) Gv.out (fun b e=> .inl e) vS.out QJ.out);have hp3:w1.cell? ⟨hb,3,none⟩=some (.slice R l.length cr):=by
   have h9:=DW.out.self;rw[List.length_map]at h9;exact aa h9 3
  have JF:=DW.out.lt;have Mu:=DW.out.hse.home.base;have Lf:=va (show Below w1.heap.size w1 (w1.alloc (.cells #[.pointer (some ⟨s1,0,none⟩)] 60))from vc);go_upto_region 8 with(first
   |(at_builtin;refine mt jh rfl (.tmp 42) (.tmp 44) rfl B R cr l.length (l.map (·.s)) (by rw[List.length_map]) rfl (DW.out.row.alloc _) s1 w1.heap.size 1 rfl (ab _ _) (by omega) (by simp;omega) ?_;intro g6 AU w6 BU Ej CN AR;have CP:=DW.out.push Lf.out BU Ej CN AR;have Em:w6.heap[hb]? =w1.heap[hb]? :=(DW.out.far Lf.out Ej);have p1:w6.cell? ⟨hb,3,none⟩=some (.slice R l.length cr):=(aS Em).trans hp3;have p2:w6.frozen? ⟨hb,3,none⟩=false:=ae (Em.trans DW.out.self) 3;rw[List.length_map]at CP;have MF:=va CP;clear CP Em BU Ej CN AR)
   |fail)
  obtain⟨w7,yg⟩: ∃w7,w7=w6.setCell ⟨hb,3,none⟩ (.slice (some ⟨g6,0,none⟩) (l.length+1) AU):=⟨_,rfl⟩;rw[<-yg];have Hh:=MF;rw[<-yg]at Hh;obtain⟨y0,y1,y2,y3,y4,y5,y6,y7⟩:=(HH.out.bx7 Gp.out Gv.out Hh.out.2.1).facts;clear yg MF p1 p2 hp3;go_wp2_with fail;exact le HH.out (by omega) wO.out wz Gp.out Gv.out vS.out QJ.out rfl Hh.out.1 Hh.out.2.1 Hh.out.2.2 LG.out rfl rfl
 have k9:(kd==9)=false:=(by rw[vp];exact h9);have JI:=fun dd os=>Calls.regrown_of ((ix sI l.length (by omega) (grow (redrawn w0 dd) os)).mono fun e w' ⟨h1,h2⟩=>⟨h1,h2▸vz (grow (redrawn w0 dd) os).heap.size (grow (redrawn w0 dd) os)⟩);have f1: ∀dd os,(grow (redrawn w0 dd) os).cell? ⟨w.heap.size,1,none⟩=some (.int .i64 sI):=fun dd os=>cell_regrown e1 dd os;have f3: ∀dd os,(grow (redrawn w0 dd) os).cell? ⟨hb,3,none⟩=some (.slice R l.length cr):=fun dd os=>cell_regrown o3 dd os;have QI:=va JI;clear JI;go_enter Tryz.func15,Tryz.ntmps15;go_upto_region 2 with(fail);rw[<-vY.out];go_upto_region 9 with(fail);refine wp_region_quiet_below (by kernel_rfl) (by kernel_rfl) ?_;(repeat(go_big_quiet_step ((exact QI.out _ _))));refine wpQuiet_nil ?_;intro _ xI;obtain⟨⟨dq,osq⟩,hw''⟩:=xI;subst hw'';have wM:=below_regrown (w0) dq osq;generalize grow (redrawn (w0) dq) osq=wq at wM⊢;clear e0 e1 o2 o3 f1 f3 k9;have hhq:=IZ.out.below wM;have hxq:=Gp.out.below wM;have wz:w.heap.size+3<=wq.heap.size:=(by have:=wM.size;omega);have hBQ:Below w.heap.size w wq:=wO.out.trans (wM.mono wO.out.size);have Ac:=va hhq;have xB:=va hxq;have BA:=va hBQ;clear hhq hxq hBQ wM;by_cases Cy:l.length=0
 ·have hn:numI sI l.length= -1:=(by unfold numI;rw[if_pos Cy]);rw[hn];have x0:(wq).cell? ⟨w.heap.size+1+1,0,none⟩=some (.slice none 0 0):=aa (xB.out).x 0;have x1:(wq).cell? ⟨w.heap.size+1+1,1,none⟩=some (.int .i64 0):=aa (xB.out).x 1;have xf0:=ae (xB.out).x 0;have xf1:(wq).frozen? ⟨w.heap.size+1+1,1,none⟩=false:=ae (xB.out).x 1;have r0:(wq).frozen? ⟨w.heap.size+1,0,none⟩=false:=ae (xB.out).res 0;have r1:(wq).frozen? ⟨w.heap.size+1,1,none⟩=false:=ae (xB.out).res 1;have rc0:(wq).cell? ⟨w.heap.size+1,0,none⟩=some (.slice none 0 0):=aa (xB.out).res 0;have rc1:(wq).cell? ⟨w.heap.size+1,1,none⟩=some (.int .i64 0):=aa (xB.out).res 1;clear hn Cy;go_wp2_with fail;exact cN HH.out xO BA.out wz xB.out (.idle Ac.out.hse (vz _ _) .idle) rfl rfl
 obtain⟨k,xP,Rv⟩:=tp sI (n:=l.length) (by omega);obtain⟨x,hx⟩: ∃x,l[k]? =some x:=⟨_,vg xP⟩;have GD:(l.map (·.s))[k]? =some x.s:=(by rw[vt,hx];rfl);obtain⟨gR,rfl⟩: ∃g,R=some ⟨g,0,none⟩:=by
  rcases Ac.out.row.form with⟨_,e,_⟩|⟨g,e,_⟩
  ·exact absurd (by have:=congrArg List.length e;simpa using this) Cy
  ·exact⟨g,e⟩
 have o3:wq.cell? ⟨hb,3,none⟩=some (.slice (some ⟨gR,0,none⟩) l.length cr):=by
  have h9:=Ac.out.self;rw[List.length_map]at h9;exact aa h9 3
 have Ij:wq.cell? ⟨gR,k,none⟩=some (.pointer (some ⟨x.s,0,none⟩)):=by
  have h8:=Ac.out.row.cell jh GD 0 (by omega);rw[Nat.mul_one,Nat.add_zero]at h8;rw[h8];rfl
 have xD:(k:Int)<(l.length:Int):=(by omega);have yJ: ¬((k:Int)<0):=(by omega);have NT:decide ((k:Int)<0)=false:=vq yJ;rw[Rv];have e0:wq.cell? ⟨w.heap.size,0,none⟩=some (.int .i64 kd):=aa xB.out.op 0;have ML:=va Rv;have HX:=va hx;clear Rv hx GD Cy;go_upto_region 14 with(fail);clear o3 Ij yJ NT xD e0;by_cases k0:kd=0
 ·subst k0;have HK:=va (k_map (o:=⟨0,sI,r,addr,n,q,d⟩) Ac.out.hse HX.out ML.out rfl xQ.out.ok);have e2:wq.cell? ⟨w.heap.size,2,none⟩=some (.int .u64 r.fr):=aa xB.out.op 2;have e3:wq.cell? ⟨w.heap.size,3,none⟩=some (.int .u64 r.to):=aa xB.out.op 3;have e4:wq.cell? ⟨w.heap.size,4,none⟩=some (.int .u8 r.prot):=aa xB.out.op 4;have e5:wq.cell? ⟨w.heap.size,5,none⟩=some (.int .i64 r.ino):=aa xB.out.op 5;have e6:wq.cell? ⟨w.heap.size,6,none⟩=some (.int .u64 r.off):=aa xB.out.op 6;go_wp2_with (first
   |(go_at_call 25;refine(HK.out).mono ?_;rintro e w1 ⟨er,rfl,HP⟩;obtain⟨y0,y1,y2,y3,y4,y5,y6,y7⟩:=(HP.out.bx HH.out xB.out).facts)
   |fail)
  exact iF HH.out xO BA.out wz xB.out HP.out rfl rfl
 by_cases k1:kd=1
 ·subst k1;have HK:=va (k_unmap (o:=⟨1,sI,r,addr,n,q,d⟩) Ac.out.hse HX.out ML.out rfl xQ.out.ok);have e2:wq.cell? ⟨w.heap.size,2,none⟩=some (.int .u64 r.fr):=aa xB.out.op 2;have e3:wq.cell? ⟨w.heap.size,3,none⟩=some (.int .u64 r.to):=aa xB.out.op 3;go_wp2_with (first
   |(go_at_call 26;refine(HK.out).mono ?_;rintro e w1 ⟨er,rfl,HP⟩;obtain⟨y0,y1,y2,y3,y4,y5,y6,y7⟩:=(HP.out.bx HH.out xB.out).facts)
   |fail)
  exact iF HH.out xO BA.out wz xB.out HP.out rfl rfl
 by_cases k2:kd=2
 ·subst k2;have HK:=va (tF (o:=⟨2,sI,r,addr,n,q,d⟩) Ac.out.hse HX.out (by omega) ML.out rfl xQ.out.ok);have e2:wq.cell? ⟨w.heap.size,2,none⟩=some (.int .u64 r.fr):=aa xB.out.op 2;have e3:wq.cell? ⟨w.heap.size,3,none⟩=some (.int .u64 r.to):=aa xB.out.op 3;have e4:wq.cell? ⟨w.heap.size,4,none⟩=some (.int .u8 r.prot):=aa xB.out.op 4;go_wp2_with (first
   |(go_at_call 27;refine(HK.out).mono ?_;rintro e w1 ⟨er,rfl,HP⟩;obtain⟨y0,y1,y2,y3,y4,y5,y6,y7⟩:=(HP.out.bx HH.out xB.out).facts)
   |fail)
  exact iF HH.out xO BA.out wz xB.out HP.out rfl rfl
 by_cases k7:kd=7
 ·subst k7;have o3:wq.cell? ⟨hb,3,none⟩=some (.slice (some ⟨gR,0,none⟩) l.length cr):=by
   have h9:=Ac.out.self;rw[List.length_map]at h9;exact aa h9 3
  by_cases Uf:(6:Int)<=(l.length:Int)
  ·have Uh:decide ((6:Int)<=(l.length:Int))=true:=vr Uf;obtain⟨y0,y1,y2,y3,y4,y5,y6,y7⟩:=xB.out.facts;go_wp2_with fail;exact cN HH.out xO BA.out wz xB.out (.idle Ac.out.hse (vz _ _) .idle) rfl rfl
  have Uh:decide ((6:Int)<=(l.length:Int))=false:=vq Uf;have HK:=va (k_fork (o:=⟨7,sI,r,addr,n,q,d⟩) Ac.out.hse HX.out (by omega) ML.out rfl);go_upto_region 46 with(fail);clear o3 Uh;go_upto_region 47 with(first
   |(go_at_call 32;refine(HK.out).mono ?_;rintro e w1 (⟨s1,t1,f1,A1,vC,p1,L1,T1,U1,S1,rfl,VD,Gv,vS,OA,LG⟩|⟨er,rfl,zo,HP⟩))
   |fail)
  rotate_left
  ·have q1:(er==0)=false:=(by rw[vp];exact zo);have q2:(er != 0)=true:=(by rw[bne_iff_ne];exact zo);obtain⟨y0,y1,y2,y3,y4,y5,y6,y7⟩:=(HP.out.bx HH.out xB.out).facts;go_wp2_with fail;exact cN HH.out xO BA.out wz xB.out HP.out rfl rfl
  have QJ:Hid (cP wq l (l.set k (x.withT T1)++[x.twin s1 t1 f1 A1 vC U1])):=va ((cP.set (y:=x.withT T1) HX.out rfl rfl (fun ad e=> .inl e)).snoc OA.out);have DW:=va (Ac.out.next VD.out (X:=aw S c m) Gv.out (fun b e=> .inl e) vS.out QJ.out);have hp3:w1.cell? ⟨hb,3,none⟩=some (.slice (some ⟨gR,0,none⟩) l.length cr):=by
   have h9:=DW.out.self;rw[List.length_map]at h9;exact aa h9 3
  have JF:=DW.out.lt;have Mu:=DW.out.hse.home.base;have Lf:=va (show Below w1.heap.size w1 (w1.alloc (.cells #[.pointer (some ⟨s1,0,none⟩)] 60))from vc);go_upto_region 49 with(first
   |(at_builtin;refine mt jh rfl (.tmp 205) (.tmp 207) rfl B (some ⟨gR,0,none⟩) cr l.length (l.map (·.s)) (by rw[List.length_map]) rfl (DW.out.row.alloc _) s1 w1.heap.size 1 rfl (ab _ _) (by omega) (by simp;omega) ?_;intro g6 AU w6 BU Ej CN AR;have CP:=DW.out.push Lf.out BU Ej CN AR;have Em:w6.heap[hb]? =w1.heap[hb]? :=(DW.out.far Lf.out Ej);have p1:w6.cell? ⟨hb,3,none⟩=some (.slice (some ⟨gR,0,none⟩) l.length cr):=(aS Em).trans hp3;have p2:w6.frozen? ⟨hb,3,none⟩=false:=ae (Em.trans DW.out.self) 3;rw[List.length_map]at CP;have MF:=va CP;clear CP Em BU Ej CN AR)
   |fail)
  obtain⟨w7,yg⟩: ∃w7,w7=w6.setCell ⟨hb,3,none⟩ (.slice (some ⟨g6,0,none⟩) (l.length+1) AU):=⟨_,rfl⟩;rw[<-yg];have Hh:=MF;rw[<-yg]at Hh;obtain⟨y0,y1,y2,y3,y4,y5,y6,y7⟩:=(HH.out.bx7 xB.out Gv.out Hh.out.2.1).facts;clear yg MF p1 p2 hp3;go_wp2_with fail;exact le HH.out (by omega) BA.out wz xB.out Gv.out vS.out QJ.out (dr HX.out rfl) Hh.out.1 Hh.out.2.1 Hh.out.2.2 LG.out rfl rfl
 by_cases k8:kd=8
 ·subst k8;have HK:=va (k_free (o:=⟨8,sI,r,addr,n,q,d⟩) Ac.out.hse HX.out ML.out rfl);go_wp2_with (first
   |(go_at_call 21;refine(HK.out).mono ?_;rintro e w1 ⟨rfl,HP⟩;obtain⟨y0,y1,y2,y3,y4,y5,y6,y7⟩:=(HP.out.bx HH.out xB.out).facts)
   |fail)
  exact cN HH.out xO BA.out wz xB.out HP.out rfl rfl
 by_cases k3:kd=3
 ·subst k3;have HK:=va (jd (.pointer (some ⟨x.s,0,none⟩)) (.int .u64 (addr:Int)) (.int .i64 n) wq (fun e w'=> ∃Rb kk cp er d1 X S' vB p' L' l',e= .returned (.tuple #[.slice Rb kk cp, .int .i64 er])/\Hid (Op1 wq B c a fs m S F clock p L l ⟨3,sI,r,addr,n,q,d⟩ er X S' vB p' L' l' w')/\Hid (OwnB w' wq.heap.size Rb cp kk d1)/\Hid (∀g,Rb.map (·.block)=some g-> ¬S' g)/\Hid (∀(j:Nat) (y:SpM),l'[j]? =some y->LtW wq y)/\Hid (kk<=65536)) ((k_load (o:=⟨3,sI,r,addr,n,q,d⟩) (want:=4) Ac.out.hse HX.out (by omega) ML.out (.inl ⟨rfl,rfl⟩) xQ.out.addr yA).mono fun e w' ⟨Rb,kk,cp,er,d1,X,S',vB,p',L',l',h1,h2⟩=>⟨⟨_,_,h1⟩,Rb,kk,cp,er,d1,X,S',vB,p',L',l',h1,h2⟩));have e0:wq.cell? ⟨w.heap.size,0,none⟩=some (.int .i64 3):=aa xB.out.op 0;have e7:wq.cell? ⟨w.heap.size,7,none⟩=some (.int .u64 (addr:Int)):=aa xB.out.op 7;have e8:wq.cell? ⟨w.heap.size,8,none⟩=some (.int .i64 n):=aa xB.out.op 8;go_upto_region 26 with(first
   |(go_at_call 28;refine(HK.out).mono ?_;rintro e w1 ⟨Rb,kk,cp,er,d1,X,S1,vI,p1,L1,l1,rfl,HP,Gt,KT,QL,Ot⟩;obtain⟨y0,y1,y2,y3,y4,y5,y6,y7⟩:=(HP.out.bx HH.out xB.out).facts)
   |fail)
  have AA:=va (HP.out.bx HH.out xB.out);obtain⟨w2,wD⟩: ∃w2,w2=w1.setCell ⟨w.heap.size+1+1,1,none⟩ (.int .i64 er):=⟨_,rfl⟩;rw[<-wD];have vT:Mod (fun b=>b=w.heap.size+1+1) w1 w2:=(by rw[wD];exact aj (S:=fun b=>b=w.heap.size+1+1) rfl 1 _);have yY:w2.heap[w.heap.size+1+1]? =some (.cells #[.slice none 0 0, .int .i64 er] 41 (0,0)):=by
   rw[wD];have h9:=Joins.block_setCell (i:=1) AA.out.x (.int .i64 er);simpa using h9
  have XH:=HP.out.mod.size;have Gj:OwnB w2 wq.heap.size Rb cp kk d1:=Gt.out.sameR fun g e=>vT.block g (Gt.out.blk g (by rw[e];rfl)).2 (by have:=(Gt.out.blk g (by rw[e];rfl)).1;omega);have z0:w2.cell? ⟨w.heap.size+1+1,0,none⟩=some (.slice none 0 0):=aa yY 0;have zf:=ae yY 0;have OE:w.heap.size+1+1<w2.heap.size:=(uZ yY).1;have EG:=mo Gj.vAny;have xD:=Ot.out;have Fp:=va vT;have AW:=va yY;have HOB2:=va Gj;have IA:=va EG;clear wD vT yY Gj EG y0 y1 y2 y3 y4 y5 y6 y7 e0 e7 e8;go_upto_region 27 with(first
   |(at_builtin;refine jq mq rfl (.tmp 135) (.tmp 136) rfl w2.heap.size none 0 0 kk [] ((List.range kk).map d1) rfl (by simp) rfl (OwnG.nil _ _) Rb cp rfl IA.out (by omega) (vd _) ?_;intro R3 wS w3 AF vX;have z1:w3.cell? ⟨w.heap.size+1+1,0,none⟩=some (.slice none 0 0):=(vX.cell OE).trans z0;have zf1:w3.frozen? ⟨w.heap.size+1+1,0,none⟩=false:=ae ((vX.block _ OE).trans AW.out) 0;have yH:=va vX;clear vX AF)
   |fail)
  obtain⟨w4,yR⟩: ∃w4,w4=w3.setCell ⟨w.heap.size+1+1,0,none⟩ (.slice R3 kk wS):=⟨_,rfl⟩;rw[<-yR];have zz:w4.heap[w.heap.size+1+1]? =some (.cells #[.slice R3 kk wS, .int .i64 er] 41 (0,0)):=by
   rw[yR];have h9:=Joins.block_setCell (i:=0) ((yH.out.block _ OE).trans AW.out) (.slice R3 kk wS);simpa using h9
  have xq:Mod (fun b=>b=w.heap.size+1+1) w1 w4:=(Fp.out.trans (Out.refl _ _) (Mod.of yH.out)).trans (Out.refl _ _) (by rw[yR];exact aj (S:=fun b=>b=w.heap.size+1+1) rfl 0 _);have Dh:iJ w.heap.size wq w1 Rb cp kk (.slice R3 kk wS) (.int .i64 er) w4:=⟨⟨d1,Gt.out.sameR fun g e=>xq.block g (Gt.out.blk g (by rw[e];rfl)).2 (by have:=(Gt.out.blk g (by rw[e];rfl)).1;omega)⟩,xq.sub fun b e=> .inl e,zz,(xq.block _ (uZ AA.out.res).1 (by omega)).trans AA.out.res⟩;have LD:=va Dh;clear yR zz xq Dh z0 zf z1 zf1;go_wp2_with fail;go_loopw [12] (fun i wr=> ∃j:Nat,i= .int .i64 (j:Int)/\j<=kk/\iJ w.heap.size wq w1 Rb cp kk (.slice R3 kk wS) (.int .i64 er) wr) (fun i _ =>kk-(intOf i).toNat)
  case atStart=>exact⟨0,rfl,vw _,LD.out⟩
  case round=>
   obtain⟨j,rfl,hj,hJ⟩:=hrel;by_cases zn:j<kk
   ·obtain⟨g,rfl⟩:=hJ.row.some_of (by omega);obtain⟨dj,wj⟩:=hJ.row;have b1:=wj.cell zn;have b2:wr.frozen? ⟨g,j,none⟩=false:=OwnG.free wj.toG j;have xP:(j:Int)<(kk:Int):=(by omega);have HJ:=va hJ;clear wj hJ;go_wp2_with fail;go_roundw
    case rel=>exact⟨j+1,by go_num,by omega,HJ.out.put (y:=238) zn xB.out.lt⟩
    case measure=>(simp[intOf];omega)
   ·obtain rfl:j=kk:=(by omega);have c0:wr.cell? ⟨w.heap.size+1+1,0,none⟩=some (.slice R3 j wS):=aa hJ.x 0;have c1:wr.cell? ⟨w.heap.size+1+1,1,none⟩=some (.int .i64 er):=aa hJ.x 1;have c2:wr.frozen? ⟨w.heap.size+1,0,none⟩=false:=ae hJ.res 0;have c3:wr.frozen? ⟨w.heap.size+1,1,none⟩=false:=ae hJ.res 1;have c4:wr.cell? ⟨w.heap.size+1,0,none⟩=some (.slice none 0 0):=aa hJ.res 0;have c5:wr.cell? ⟨w.heap.size+1,1,none⟩=some (.int .i64 0):=aa hJ.res 1;have HJ:=va hJ;clear hJ;go_wp2_with fail;exact en HH.out xO BA.out wz HP.out HJ.out.mod (HJ.out.foot HH.out wz BA.out.size Gt.out KT.out QL.out) HJ.out.res rfl rfl
 by_cases k5:kd=5
 ·subst k5;have HK:=va (pQ (.pointer (some ⟨x.s,0,none⟩)) (.int .u64 (addr:Int)) (.int .i64 n) wq (fun e w'=> ∃Rb kk cp er d1 X S' vB p' L' l',e= .returned (.tuple #[.slice Rb kk cp, .int .i64 er])/\Hid (Op1 wq B c a fs m S F clock p L l ⟨5,sI,r,addr,n,q,d⟩ er X S' vB p' L' l' w')/\Hid (OwnB w' wq.heap.size Rb cp kk d1)/\Hid (∀g,Rb.map (·.block)=some g-> ¬S' g)/\Hid (∀(j:Nat) (y:SpM),l'[j]? =some y->LtW wq y)/\Hid (kk<=65536)) ((k_load (o:=⟨5,sI,r,addr,n,q,d⟩) (want:=0) Ac.out.hse HX.out (by omega) ML.out (.inr ⟨rfl,rfl⟩) xQ.out.addr yA).mono fun e w' ⟨Rb,kk,cp,er,d1,X,S',vB,p',L',l',h1,h2⟩=>⟨⟨_,_,h1⟩,Rb,kk,cp,er,d1,X,S',vB,p',L',l',h1,h2⟩));have e0:wq.cell? ⟨w.heap.size,0,none⟩=some (.int .i64 5):=aa xB.out.op 0;have e7:wq.cell? ⟨w.heap.size,7,none⟩=some (.int .u64 (addr:Int)):=aa xB.out.op 7;have e8:wq.cell? ⟨w.heap.size,8,none⟩=some (.int .i64 n):=aa xB.out.op 8;go_upto_region 26 with(first
   |(go_at_call 29;refine(HK.out).mono ?_;rintro e w1 ⟨Rb,kk,cp,er,d1,X,S1,vI,p1,L1,l1,rfl,HP,Gt,KT,QL,Ot⟩;obtain⟨y0,y1,y2,y3,y4,y5,y6,y7⟩:=(HP.out.bx HH.out xB.out).facts)
   |fail)
  have AA:=va (HP.out.bx HH.out xB.out);obtain⟨w2,wD⟩: ∃w2,w2=w1.setCell ⟨w.heap.size+1+1,1,none⟩ (.int .i64 er):=⟨_,rfl⟩;rw[<-wD];have vT:Mod (fun b=>b=w.heap.size+1+1) w1 w2:=(by rw[wD];exact aj (S:=fun b=>b=w.heap.size+1+1) rfl 1 _);have yY:w2.heap[w.heap.size+1+1]? =some (.cells #[.slice none 0 0, .int .i64 er] 41 (0,0)):=by
   rw[wD];have h9:=Joins.block_setCell (i:=1) AA.out.x (.int .i64 er);simpa using h9
  have XH:=HP.out.mod.size;have Gj:OwnB w2 wq.heap.size Rb cp kk d1:=Gt.out.sameR fun g e=>vT.block g (Gt.out.blk g (by rw[e];rfl)).2 (by have:=(Gt.out.blk g (by rw[e];rfl)).1;omega);have z0:w2.cell? ⟨w.heap.size+1+1,0,none⟩=some (.slice none 0 0):=aa yY 0;have zf:=ae yY 0;have OE:w.heap.size+1+1<w2.heap.size:=(uZ yY).1;have EG:=mo Gj.vAny;have xD:=Ot.out;have Fp:=va vT;have AW:=va yY;have HOB2:=va Gj;have IA:=va EG;clear wD vT yY Gj EG y0 y1 y2 y3 y4 y5 y6 y7 e0 e7 e8;go_upto_region 27 with(first
   |(at_builtin;refine jq mq rfl (.tmp 135) (.tmp 136) rfl w2.heap.size none 0 0 kk [] ((List.range kk).map d1) rfl (by simp) rfl (OwnG.nil _ _) Rb cp rfl IA.out (by omega) (vd _) ?_;intro R3 wS w3 AF vX;have z1:w3.cell? ⟨w.heap.size+1+1,0,none⟩=some (.slice none 0 0):=(vX.cell OE).trans z0;have zf1:w3.frozen? ⟨w.heap.size+1+1,0,none⟩=false:=ae ((vX.block _ OE).trans AW.out) 0;have yH:=va vX;clear vX AF)
   |fail)
  obtain⟨w4,yR⟩: ∃w4,w4=w3.setCell ⟨w.heap.size+1+1,0,none⟩ (.slice R3 kk wS):=⟨_,rfl⟩;rw[<-yR];have zz:w4.heap[w.heap.size+1+1]? =some (.cells #[.slice R3 kk wS, .int .i64 er] 41 (0,0)):=by
   rw[yR];have h9:=Joins.block_setCell (i:=0) ((yH.out.block _ OE).trans AW.out) (.slice R3 kk wS);simpa using h9
  have xq:Mod (fun b=>b=w.heap.size+1+1) w1 w4:=(Fp.out.trans (Out.refl _ _) (Mod.of yH.out)).trans (Out.refl _ _) (by rw[yR];exact aj (S:=fun b=>b=w.heap.size+1+1) rfl 0 _);have Dh:iJ w.heap.size wq w1 Rb cp kk (.slice R3 kk wS) (.int .i64 er) w4:=⟨⟨d1,Gt.out.sameR fun g e=>xq.block g (Gt.out.blk g (by rw[e];rfl)).2 (by have:=(Gt.out.blk g (by rw[e];rfl)).1;omega)⟩,xq.sub fun b e=> .inl e,zz,(xq.block _ (uZ AA.out.res).1 (by omega)).trans AA.out.res⟩;have LD:=va Dh;clear yR zz xq Dh z0 zf z1 zf1;go_wp2_with fail;go_loopw [12] (fun i wr=> ∃j:Nat,i= .int .i64 (j:Int)/\j<=kk/\iJ w.heap.size wq w1 Rb cp kk (.slice R3 kk wS) (.int .i64 er) wr) (fun i _ =>kk-(intOf i).toNat)
  case atStart=>exact⟨0,rfl,vw _,LD.out⟩
  case round=>
   obtain⟨j,rfl,hj,hJ⟩:=hrel;by_cases zn:j<kk
   ·obtain⟨g,rfl⟩:=hJ.row.some_of (by omega);obtain⟨dj,wj⟩:=hJ.row;have b1:=wj.cell zn;have b2:wr.frozen? ⟨g,j,none⟩=false:=OwnG.free wj.toG j;have xP:(j:Int)<(kk:Int):=(by omega);have HJ:=va hJ;clear wj hJ;go_wp2_with fail;go_roundw
    case rel=>exact⟨j+1,by go_num,by omega,HJ.out.put (y:=238) zn xB.out.lt⟩
    case measure=>(simp[intOf];omega)
   ·obtain rfl:j=kk:=(by omega);have c0:wr.cell? ⟨w.heap.size+1+1,0,none⟩=some (.slice R3 j wS):=aa hJ.x 0;have c1:wr.cell? ⟨w.heap.size+1+1,1,none⟩=some (.int .i64 er):=aa hJ.x 1;have c2:wr.frozen? ⟨w.heap.size+1,0,none⟩=false:=ae hJ.res 0;have c3:wr.frozen? ⟨w.heap.size+1,1,none⟩=false:=ae hJ.res 1;have c4:wr.cell? ⟨w.heap.size+1,0,none⟩=some (.slice none 0 0):=aa hJ.res 0;have c5:wr.cell? ⟨w.heap.size+1,1,none⟩=some (.int .i64 0):=aa hJ.res 1;have HJ:=va hJ;clear hJ;go_wp2_with fail;exact en HH.out xO BA.out wz HP.out HJ.out.mod (HJ.out.foot HH.out wz BA.out.size Gt.out KT.out QL.out) HJ.out.res rfl rfl
 by_cases k4:kd=4
 ·subst k4;have e0:wq.cell? ⟨w.heap.size,0,none⟩=some (.int .i64 4):=aa xB.out.op 0;have e9:wq.cell? ⟨w.heap.size,9,none⟩=some (.slice A q cq):=aa xB.out.op 9;have yy:au wq A q d:=xQ.out.bytes.kept BA.out;have Gf:Below wq.heap.size wq (wq.alloc (.cells #[] 5)):=vc;have IA:=va (mo (yy.kept Gf));have e9a:(wq.alloc (.cells #[] 5)).cell? ⟨w.heap.size,9,none⟩=some (.slice A q cq):=(Gf.cell (p:=⟨w.heap.size,9,none⟩) (by show w.heap.size<wq.heap.size;omega)).trans e9;have MU:=va Gf;have SY:=xQ.out.q;dsimp only at SY;clear yy Gf;go_upto_region 34 with(first
   |(at_builtin;refine jq mq rfl (.tmp 151) (.tmp 153) rfl wq.heap.size (some ⟨wq.heap.size,0,none⟩) 0 0 q [] ((List.range q).map d) rfl (by simp) rfl (OwnB.toG (d:=fun _ =>0) (OwnB.none_made wq)) A cq rfl IA.out (by omega) (by simp) ?_;intro R3 wS w1 wi vD;have vS:Hid (OwnB w1 wq.heap.size R3 wS q d):=va (OwnB.ofG wi);have vJ:=va (MU.out.trans vD);clear wi vD)
   |fail)
  have wg:=vJ.out.size;have AA:=va (xB.out.below vJ.out);have IY:=va (Ac.out.below vJ.out);have GB:=va (BA.out.trans (vJ.out.mono BA.out.size));have zk:=Ac.out.hse.home.lts;have DP: ∀ad,R3=some ad->wq.heap.size<=ad.block/\ad.block<w1.heap.size:=fun ad e=>by
   rcases vS.out.formA with⟨e2,_⟩|⟨g,e2,h1,h2⟩
   ·rw[e2]at e;cases e
   ·rw[e2]at e;injection e with e;subst e;exact⟨h1,h2⟩
  have PQ:q<=wS:=by
   rcases vS.out.toG.form with⟨_,e2,_⟩|⟨g,_,_,_,e2⟩
   ·have:q=0:=(by simpa using congrArg List.length e2);omega
   ·simpa using e2
  have HK:=va (mU (.pointer (some ⟨x.s,0,none⟩)) (.int .u64 (addr:Int)) (.slice R3 q wS) w1 (fun e w'=> ∃er,e= .returned (.int .i64 er)/\Hid (cm w1 B c a fs m S F clock p L l ⟨4,sI,r,addr,n,q,d⟩ er w')/\Hid (au w' R3 q d)) ((tE (o:=⟨4,sI,r,addr,n,q,d⟩) (want:=2) (Ab:=R3) (cq:=wS) IY.out.hse HX.out (by omega) ML.out (.inl ⟨rfl,rfl⟩) xQ.out.addr yA SY PQ vS.out.vAny xQ.out.small (fun ad e=>⟨(DP ad e).2,fun e2=>by have h1:=(DP ad e).1;rcases e2 with e2|e2|e2;(have:=zk.2.2 _ e2;omega);omega;omega⟩)).mono fun e w' ⟨er,h1,h2⟩=>⟨⟨_,h1⟩,er,h1,h2⟩));have f0:w1.cell? ⟨w.heap.size,0,none⟩=some (.int .i64 4):=aa AA.out.op 0;have f7:w1.cell? ⟨w.heap.size,7,none⟩=some (.int .u64 (addr:Int)):=aa AA.out.op 7;clear e0 e9 e9a;go_upto_region 37 with(first
   |(go_at_call 30;refine(HK.out).mono ?_;rintro e w2 ⟨er,rfl,QE,WC⟩;obtain⟨y0,y1,y2,y3,y4,y5,y6,y7⟩:=(QE.out.bx (HH.out) (AA.out)).facts)
   |fail)
  obtain⟨X,S1,vI,p1,L1,l1,BC⟩:=QE.out;have HP:=va BC;have AW:=va (BC.bx HH.out AA.out);have Gh: ∀b,X b->B<=b/\b<w.heap.size:=fun b e=>HH.out.footLt (BC.foot b e);obtain⟨w3,xb⟩: ∃w3,w3=w2.setCell ⟨w.heap.size+1+1,1,none⟩ (.int .i64 er):=⟨_,rfl⟩;rw[<-xb];have xH:Mod (fun b=>b=w.heap.size+1+1) w2 w3:=(by rw[xb];exact aj (S:=fun b=>b=w.heap.size+1+1) rfl 1 _);have CG:w3.heap[w.heap.size+1+1]? =some (.cells #[.slice none 0 0, .int .i64 er] 41 (0,0)):=by
   rw[xb];have h9:=Joins.block_setCell (i:=1) AW.out.x (.int .i64 er);simpa using h9
  have Kz:OwnB w3 wq.heap.size R3 wS q d:=vS.out.sameR fun g e=>by
   have h1:=DP _ e;dsimp only at h1;exact(xH.block g (by have:=BC.mod.size;omega) (by omega)).trans (BC.mod.block g h1.2 (fun e2=>by have:=Gh g e2;omega))
  have KG:au w3 A q d:=(xQ.out.bytes.kept GB.out).run0 (((BC.mod.sub (T:=fun b=>X b\/b=w.heap.size+1+1) fun b e=> .inl e)).trans (Out.refl _ _) (xH.sub fun b e=> .inr e)) fun ad e h0=>by
   have h1:=xQ.out.low ad e h0;have h2:=HH.out.hse.home.base;exact⟨by have:=GB.out.size;omega,fun e2=>e2.elim (fun e2=>by have:=Gh _ e2;omega) (fun e2=>by omega)⟩
  have yM:=iq R3 A q wS cq d w3 Kz.vAny KG (by omega) PQ xQ.out.cap;have g9:w3.cell? ⟨w.heap.size,9,none⟩=some (.slice A q cq):=(aS (xH.block _ (uZ AW.out.op).1 (by omega))).trans (aa AW.out.op 9);have Lz:=va yM;have Fo:=va Kz;have BK:=va xH;have AV:=va CG;have LB:=va ((xH.block _ (uZ AW.out.res).1 (by omega)).trans AW.out.res);clear xb xH CG Kz KG yM BC f0 f7 y0 y1 y2 y3 y4 y5 y6 y7;go_upto_region 38 with(first
   |(go_at_call 20;refine(Lz.out).mono ?_;rintro e w4 ⟨rfl,vZ⟩;have wV:=va vZ;clear vZ)
   |fail)
  have Dh:iJ w.heap.size wq w2 R3 wS q (.slice none 0 0) (.int .i64 er) w4:=⟨⟨d,Fo.out.sameR fun g e=>wV.out.block g (Fo.out.blk g (by rw[e];rfl)).2⟩,(BK.out.sub fun b e=> .inl e).trans (Out.refl _ _) (Mod.of wV.out),(wV.out.block _ (uZ AV.out).1).trans AV.out,(wV.out.block _ (uZ LB.out).1).trans LB.out⟩;have LD:=va Dh;clear Dh g9;go_wp2_with fail;go_loopw [15] (fun i wr=> ∃j:Nat,i= .int .i64 (j:Int)/\j<=q/\iJ w.heap.size wq w2 R3 wS q (.slice none 0 0) (.int .i64 er) wr) (fun i _ =>q-(intOf i).toNat)
  case atStart=>exact⟨0,rfl,vw _,LD.out⟩
  case round=>
   obtain⟨j,rfl,hj,hJ⟩:=hrel;by_cases zn:j<q
   ·obtain⟨g,rfl⟩:=hJ.row.some_of (by omega);obtain⟨dj,wj⟩:=hJ.row;have b1:=wj.cell zn;have b2:wr.frozen? ⟨g,j,none⟩=false:=OwnG.free wj.toG j;have xP:(j:Int)<(q:Int):=(by omega);have HJ:=va hJ;clear wj hJ;go_wp2_with fail;go_roundw
    case rel=>exact⟨j+1,by go_num,by omega,HJ.out.put (y:=237) zn xB.out.lt⟩
    case measure=>(simp[intOf];omega)
   ·obtain rfl:j=q:=(by omega);have c0:wr.cell? ⟨w.heap.size+1+1,0,none⟩=some (.slice none 0 0):=aa hJ.x 0;have c1:wr.cell? ⟨w.heap.size+1+1,1,none⟩=some (.int .i64 er):=aa hJ.x 1;have c2:wr.frozen? ⟨w.heap.size+1,0,none⟩=false:=ae hJ.res 0;have c3:wr.frozen? ⟨w.heap.size+1,1,none⟩=false:=ae hJ.res 1;have c4:wr.cell? ⟨w.heap.size+1,0,none⟩=some (.slice none 0 0):=aa hJ.res 0;have c5:wr.cell? ⟨w.heap.size+1,1,none⟩=some (.int .i64 0):=aa hJ.res 1;have HJ:=va hJ;clear hJ;go_wp2_with fail;exact en HH.out xO GB.out (by omega) HP.out HJ.out.mod (fun b e=>e.elim (fun e=>⟨by omega, .inl (by omega)⟩) (fun e=>by have h1:=DP _ e;dsimp only at h1;exact⟨by omega, .inl h1.2⟩)) HJ.out.res rfl rfl
 by_cases k6:kd=6
 ·subst k6;have e0:wq.cell? ⟨w.heap.size,0,none⟩=some (.int .i64 6):=aa xB.out.op 0;have e9:wq.cell? ⟨w.heap.size,9,none⟩=some (.slice A q cq):=aa xB.out.op 9;have yy:au wq A q d:=xQ.out.bytes.kept BA.out;have Gf:Below wq.heap.size wq (wq.alloc (.cells #[] 5)):=vc;have IA:=va (mo (yy.kept Gf));have e9a:(wq.alloc (.cells #[] 5)).cell? ⟨w.heap.size,9,none⟩=some (.slice A q cq):=(Gf.cell (p:=⟨w.heap.size,9,none⟩) (by show w.heap.size<wq.heap.size;omega)).trans e9;have MU:=va Gf;have SY:=xQ.out.q;dsimp only at SY;clear yy Gf;go_upto_region 34 with(first
   |(at_builtin;refine jq mq rfl (.tmp 151) (.tmp 153) rfl wq.heap.size (some ⟨wq.heap.size,0,none⟩) 0 0 q [] ((List.range q).map d) rfl (by simp) rfl (OwnB.toG (d:=fun _ =>0) (OwnB.none_made wq)) A cq rfl IA.out (by omega) (by simp) ?_;intro R3 wS w1 wi vD;have vS:Hid (OwnB w1 wq.heap.size R3 wS q d):=va (OwnB.ofG wi);have vJ:=va (MU.out.trans vD);clear wi vD)
   |fail)
  have wg:=vJ.out.size;have AA:=va (xB.out.below vJ.out);have IY:=va (Ac.out.below vJ.out);have GB:=va (BA.out.trans (vJ.out.mono BA.out.size));have zk:=Ac.out.hse.home.lts;have DP: ∀ad,R3=some ad->wq.heap.size<=ad.block/\ad.block<w1.heap.size:=fun ad e=>by
   rcases vS.out.formA with⟨e2,_⟩|⟨g,e2,h1,h2⟩
   ·rw[e2]at e;cases e
   ·rw[e2]at e;injection e with e;subst e;exact⟨h1,h2⟩
  have PQ:q<=wS:=by
   rcases vS.out.toG.form with⟨_,e2,_⟩|⟨g,_,_,_,e2⟩
   ·have:q=0:=(by simpa using congrArg List.length e2);omega
   ·simpa using e2
  have HK:=va (sPoke_of (.pointer (some ⟨x.s,0,none⟩)) (.int .u64 (addr:Int)) (.slice R3 q wS) w1 (fun e w'=> ∃er,e= .returned (.int .i64 er)/\Hid (cm w1 B c a fs m S F clock p L l ⟨6,sI,r,addr,n,q,d⟩ er w')/\Hid (au w' R3 q d)) ((tE (o:=⟨6,sI,r,addr,n,q,d⟩) (want:=0) (Ab:=R3) (cq:=wS) IY.out.hse HX.out (by omega) ML.out (.inr ⟨rfl,rfl⟩) xQ.out.addr yA SY PQ vS.out.vAny xQ.out.small (fun ad e=>⟨(DP ad e).2,fun e2=>by have h1:=(DP ad e).1;rcases e2 with e2|e2|e2;(have:=zk.2.2 _ e2;omega);omega;omega⟩)).mono fun e w' ⟨er,h1,h2⟩=>⟨⟨_,h1⟩,er,h1,h2⟩));have f0:w1.cell? ⟨w.heap.size,0,none⟩=some (.int .i64 6):=aa AA.out.op 0;have f7:w1.cell? ⟨w.heap.size,7,none⟩=some (.int .u64 (addr:Int)):=aa AA.out.op 7;clear e0 e9 e9a;go_upto_region 37 with(first
   |(go_at_call 31;refine(HK.out).mono ?_;rintro e w2 ⟨er,rfl,QE,WC⟩;obtain⟨y0,y1,y2,y3,y4,y5,y6,y7⟩:=(QE.out.bx (HH.out) (AA.out)).facts)
   |fail)
  obtain⟨X,S1,vI,p1,L1,l1,BC⟩:=QE.out;have HP:=va BC;have AW:=va (BC.bx HH.out AA.out);have Gh: ∀b,X b->B<=b/\b<w.heap.size:=fun b e=>HH.out.footLt (BC.foot b e);obtain⟨w3,xb⟩: ∃w3,w3=w2.setCell ⟨w.heap.size+1+1,1,none⟩ (.int .i64 er):=⟨_,rfl⟩;rw[<-xb];have xH:Mod (fun b=>b=w.heap.size+1+1) w2 w3:=(by rw[xb];exact aj (S:=fun b=>b=w.heap.size+1+1) rfl 1 _);have CG:w3.heap[w.heap.size+1+1]? =some (.cells #[.slice none 0 0, .int .i64 er] 41 (0,0)):=by
   rw[xb];have h9:=Joins.block_setCell (i:=1) AW.out.x (.int .i64 er);simpa using h9
  have Kz:OwnB w3 wq.heap.size R3 wS q d:=vS.out.sameR fun g e=>by
   have h1:=DP _ e;dsimp only at h1;exact(xH.block g (by have:=BC.mod.size;omega) (by omega)).trans (BC.mod.block g h1.2 (fun e2=>by have:=Gh g e2;omega))
  have KG:au w3 A q d:=(xQ.out.bytes.kept GB.out).run0 (((BC.mod.sub (T:=fun b=>X b\/b=w.heap.size+1+1) fun b e=> .inl e)).trans (Out.refl _ _) (xH.sub fun b e=> .inr e)) fun ad e h0=>by
   have h1:=xQ.out.low ad e h0;have h2:=HH.out.hse.home.base;exact⟨by have:=GB.out.size;omega,fun e2=>e2.elim (fun e2=>by have:=Gh _ e2;omega) (fun e2=>by omega)⟩
  have yM:=iq R3 A q wS cq d w3 Kz.vAny KG (by omega) PQ xQ.out.cap;have g9:w3.cell? ⟨w.heap.size,9,none⟩=some (.slice A q cq):=(aS (xH.block _ (uZ AW.out.op).1 (by omega))).trans (aa AW.out.op 9);have Lz:=va yM;have Fo:=va Kz;have BK:=va xH;have AV:=va CG;have LB:=va ((xH.block _ (uZ AW.out.res).1 (by omega)).trans AW.out.res);clear xb xH CG Kz KG yM BC f0 f7 y0 y1 y2 y3 y4 y5 y6 y7;go_upto_region 38 with(first
   |(go_at_call 20;refine(Lz.out).mono ?_;rintro e w4 ⟨rfl,vZ⟩;have wV:=va vZ;clear vZ)
   |fail)
  have Dh:iJ w.heap.size wq w2 R3 wS q (.slice none 0 0) (.int .i64 er) w4:=⟨⟨d,Fo.out.sameR fun g e=>wV.out.block g (Fo.out.blk g (by rw[e];rfl)).2⟩,(BK.out.sub fun b e=> .inl e).trans (Out.refl _ _) (Mod.of wV.out),(wV.out.block _ (uZ AV.out).1).trans AV.out,(wV.out.block _ (uZ LB.out).1).trans LB.out⟩;have LD:=va Dh;clear Dh g9;go_wp2_with fail;go_loopw [15] (fun i wr=> ∃j:Nat,i= .int .i64 (j:Int)/\j<=q/\iJ w.heap.size wq w2 R3 wS q (.slice none 0 0) (.int .i64 er) wr) (fun i _ =>q-(intOf i).toNat)
  case atStart=>exact⟨0,rfl,vw _,LD.out⟩
  case round=>
   obtain⟨j,rfl,hj,hJ⟩:=hrel;by_cases zn:j<q
   ·obtain⟨g,rfl⟩:=hJ.row.some_of (by omega);obtain⟨dj,wj⟩:=hJ.row;have b1:=wj.cell zn;have b2:wr.frozen? ⟨g,j,none⟩=false:=OwnG.free wj.toG j;have xP:(j:Int)<(q:Int):=(by omega);have HJ:=va hJ;clear wj hJ;go_wp2_with fail;go_roundw
    case rel=>exact⟨j+1,by go_num,by omega,HJ.out.put (y:=237) zn xB.out.lt⟩
    case measure=>(simp[intOf];omega)
   ·obtain rfl:j=q:=(by omega);have c0:wr.cell? ⟨w.heap.size+1+1,0,none⟩=some (.slice none 0 0):=aa hJ.x 0;have c1:wr.cell? ⟨w.heap.size+1+1,1,none⟩=some (.int .i64 er):=aa hJ.x 1;have c2:wr.frozen? ⟨w.heap.size+1,0,none⟩=false:=ae hJ.res 0;have c3:wr.frozen? ⟨w.heap.size+1,1,none⟩=false:=ae hJ.res 1;have c4:wr.cell? ⟨w.heap.size+1,0,none⟩=some (.slice none 0 0):=aa hJ.res 0;have c5:wr.cell? ⟨w.heap.size+1,1,none⟩=some (.int .i64 0):=aa hJ.res 1;have HJ:=va hJ;clear hJ;go_wp2_with fail;exact en HH.out xO GB.out (by omega) HP.out HJ.out.mod (fun b e=>e.elim (fun e=>⟨by omega, .inl (by omega)⟩) (fun e=>by have h1:=DP _ e;dsimp only at h1;exact⟨by omega, .inl h1.2⟩)) HJ.out.res rfl rfl
 have b0:(kd==0)=false:=(by rw[vp];exact k0);have b1:(kd==1)=false:=(by rw[vp];exact k1);have b2:(kd==2)=false:=(by rw[vp];exact k2);have b3:(kd==3)=false:=(by rw[vp];exact k3);have b4:(kd==4)=false:=(by rw[vp];exact k4);have b5:(kd==5)=false:=(by rw[vp];exact k5);have b6:(kd==6)=false:=(by rw[vp];exact k6);have b7:(kd==7)=false:=(by rw[vp];exact k7);have b8:(kd==8)=false:=(by rw[vp];exact k8);clear k0 k1 k2 k3 k4 k5 k6 k7 k8 h9;obtain⟨y0,y1,y2,y3,y4,y5,y6,y7⟩:=xB.out.facts;go_wp2_with fail;exact cN HH.out xO BA.out wz xB.out (.idle Ac.out.hse (vz _ _) .idle) rfl rfl
end
