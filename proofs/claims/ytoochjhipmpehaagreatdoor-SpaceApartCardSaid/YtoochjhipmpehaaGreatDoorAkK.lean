/- The spaces' laws: the bytes of all regions of a space. The spaces' laws: look, its walk. The spaces' laws: what is done to one space leaves the others as they are. The spaces' laws: a space looked at, once and again. SpaceApart, its walk. -/
import Derived.Test.YtoochjhipmpehaaGreatDoorFrK
set_option linter.unusedVariables false
set_option linter.unusedSimpArgs false
set_option maxRecDepth 100000
set_option maxHeartbeats 16000000
namespace Go.Proofs.YtoochjhipmpehaaGreatDoor
section
open Go.RowKit Go.Sort
structure RowB where
 Z:Option Addr
 cz:Nat
 d:Nat->Nat
def rowC (r:RowB):List Value:=[.slice r.Z 4096 r.cz]
theorem mY:Elem 62 39 1 24 (.slice none 0 0) rowC:=
 ⟨Tryz.underlying62,by kernel_rfl,rfl,by decide,by decide,fun _ =>rfl,fun x v hv=>by simp[rowC]at hv;subst hv;rfl⟩
structure ba (w:World) (base:Nat) (X:Nat->Prop) (A:Option Addr) (cap:Nat) (rs:List RowB):Prop where
 row:OwnG 39 1 rowC w base A cap rs
 noX: ∀g,A=some ⟨g,0,none⟩-> ¬X g
 each: ∀r∈rs,4096<=r.cz/\ ∃g,r.Z=some ⟨g,0,none⟩/\base<=g/\g<w.heap.size/\ ¬X g/\A≠some ⟨g,0,none⟩/\ ∀i,i<4096->w.cell? ⟨g,i,none⟩=some (.int .u8 (r.d i:Int))
variable {w w' w1 w2:World} {base cap:Nat} {X X':Nat->Prop} {A:Option Addr} {rs:List RowB}
theorem ba.nil (w:World) (base:Nat) (X:Nat->Prop):ba w base X none 0 []:=⟨OwnG.nil _ _,(fun g e=>by cases e),fun r hr=>absurd hr List.not_mem_nil⟩
theorem ba.step (h:ba w base X A cap rs) (hm:Mod X w w') (ho:Out X X' w):ba w' base X' A cap rs:=by
 refine⟨h.row.same fun g hg=>hm.block g (h.row.lt g hg).2 (h.noX g hg),fun g hg e=>(ho g e).elim (h.noX g hg) fun e=>by have:=(h.row.lt g hg).2;omega,fun r hr=>?_⟩;obtain⟨h1,g,h2,h3,h4,h5,h6,h7⟩:=h.each r hr;exact⟨h1,g,h2,h3,vh h4 hm.size,fun e=>(ho g e).elim h5 fun e=>by omega,h6,fun i hi=>(aS (hm.block g h4 h5)).trans (h7 i hi)⟩
theorem ba.below (h:ba w base X A cap rs) (hb:Below w.heap.size w w'):ba w' base X A cap rs:=by
 refine⟨h.row.kept hb,h.noX,fun r hr=>?_⟩;obtain⟨h1,g,h2,h3,h4,h5,h6,h7⟩:=h.each r hr;exact⟨h1,g,h2,h3,vh h4 hb.size,h5,h6,fun i hi=>(hb.cell (p:=⟨g,i,none⟩) h4).trans (h7 i hi)⟩
variable {g vA gz:Nat} {r:RowB}
theorem ba.push (h:ba w base X A cap rs) (hb:Below w.heap.size w w1) (ho:OwnG 39 1 rowC w2 base (some ⟨g,0,none⟩) vA (rs++[r])) (hg:w1.grownBy w2 (A.map (·.block))) (wK:A.map (·.block)=some g\/g=w1.heap.size) (Gh: ∀b,X b->b<w.heap.size)
  (hr:4096<=r.cz/\r.Z=some ⟨gz,0,none⟩/\base<=gz/\gz<w.heap.size/\ ¬X gz/\A≠some ⟨gz,0,none⟩/\ ∀i,i<4096->w.cell? ⟨gz,i,none⟩=some (.int .u8 (r.d i:Int))):ba w2 base X (some ⟨g,0,none⟩) vA (rs++[r]):=by
 have hz:=hb.size;have wm:=hg.size;have hA: ∀b,A.map (·.block)=some b->A=some ⟨b,0,none⟩:=fun b e=>by
  rcases h.row.form with⟨h9,_⟩|⟨g9,h9,_⟩
  ·rw[h9]at e;cases e
  ·rw[h9]at e;simp only[Option.map_some,Option.some.injEq]at e;rw[h9,e]
 have key: ∀b,b<w.heap.size->A≠some ⟨b,0,none⟩->w2.heap[b]? =w.heap[b]? :=fun b h1 h2=>(hg.block b (by omega) fun e=>h2 (hA b e.symm)).trans (hb.block b h1);have one: ∀r:RowB,(4096<=r.cz/\ ∃g,r.Z=some ⟨g,0,none⟩/\base<=g/\g<w.heap.size/\ ¬X g/\A≠some ⟨g,0,none⟩/\ ∀i,i<4096->w.cell? ⟨g,i,none⟩=some (.int .u8 (r.d i:Int)))->4096<=r.cz/\ ∃z,r.Z=some ⟨z,0,none⟩/\base<=z/\z<w2.heap.size/\ ¬X z/\some (⟨g,0,none⟩:Addr)≠some ⟨z,0,none⟩/\ ∀i,i<4096->w2.cell? ⟨z,i,none⟩=some (.int .u8 (r.d i:Int)):=fun r ⟨h1,z,h2,h3,h4,h5,h6,h7⟩=>by
  refine⟨h1,z,h2,h3,by omega,h5,fun e=>?_,fun i hi=>(aS (key z h4 h6)).trans (h7 i hi)⟩;injection e with e;injection e with e;rcases wK with h9|h9
  ·exact h6 (by rw[hA g h9,e])
  ·omega
 refine⟨ho,fun z e hX=>?_,fun q hq=>?_⟩
 ·injection e with e;injection e with e;subst e;rcases wK with h9|h9
  ·exact h.noX g (hA g h9) hX
  ·have:=Gh g hX;omega
 ·rcases List.mem_append.1 hq with hq|hq
  ·exact one q (h.each q hq)
  ·rw[List.mem_singleton]at hq;subst hq;exact one q ⟨hr.1,gz,hr.2⟩
def cnt3 (r:Reg):Nat:=min 3 ((r.to.toNat-r.fr.toNat)/4096)
def pgs3 (r:Reg):List Nat:=(List.range (cnt3 r)).map fun j=>r.fr.toNat/4096+j
def ec (rl:List Reg):List Nat:=rl.flatMap pgs3
variable {rl:List Reg}
theorem qX {q:Nat} {r:Reg} (h:rl[q]? =some r):ec (rl.take (q+1))=ec (rl.take q)++pgs3 r:=by
 unfold ec;rw[dX h,List.flatMap_append];simp
variable {j:Nat}
theorem tc (r:Reg) (hj:j<cnt3 r):(pgs3 r).take (j+1)=(pgs3 r).take j++[r.fr.toNat/4096+j]:=by
 refine dX ?_;unfold pgs3;rw[vt,List.getElem?_range hj];rfl
theorem one_page (h:0<(pst (g*4096,4096) j).2):j=0:=by
 have h1:=jN (g*4096,4096) j h;have h2:j=0\/j=1:=(by simp only at h1;omega);rcases h2 with rfl|rfl
 ·rfl
 ·exfalso;simp only[pst,pm]at h;omega
variable {hb B c a fs m:Nat} {S S':Nat->Prop} {F:List Nd} {clock vB:Int} {p p':Pool} {L L':List Slot} {l l':List SpM} {R R':Option Addr} {cr:Nat} {k:Nat} {x:SpM} {T T':Tab}
theorem hold_set (hk:l[k]? =some x) (T1:Tab):tnS (((l.set k (x.withT T1)).map (·.T)).set k none)=tnS ((l.map (·.T)).set k none):=by
 rw[List.map_set,List.set_set]
def PgOk (F:List Nd) (rl:List Reg) (p:Pool) (T T':Tab) (g:Nat) (r:RowB):Prop:=dE rl (g*4096,4096) 0=true/\T'.lf g≠none/\ ∀i,i<4096->r.d i=cont F rl p T g i
theorem PgOk.keep {hold:Nat->Nat} {p1 p2:Pool} {L1 L2:List Slot} {T1 T2:Tab} (h:PgOk F rl p T T1 g r) (hs:Seen F hold rl p1 L1 T1 p2 L2 T2):PgOk F rl p T T2 g r:=by
 refine⟨h.1,fun e=>?_,h.2.2⟩;cases hT:T1.lf g with
 |none=>exact h.2.1 hT
 |some y=>
  obtain⟨y',h1,_⟩:=hs.kept.keep g y hT;rw[e]at h1;cases h1
def PgNo (rl:List Reg) (T:Tab) (g:Nat):Prop:=dE rl (g*4096,4096) 0=false\/T.lf g=none
def houA (S:Nat->Prop) (c m hb:Nat) (R:Option Addr) (l:List SpM) (b:Nat):Prop:=houF S c m hb R l b\/ ∃(k:Nat) (x:SpM) (ad:Addr),l[k]? =some x/\x.A=some ad/\ad.block=b
variable {ls:List Nat}
theorem tK (h:Hou w hb B c a fs m S F clock p L l R cr ls): ∀b,houA S c m hb R l b->b<w.heap.size:=fun b e=>by
 rcases e with e|⟨j,z,ad,h1,h2,rfl⟩
 ·exact h.ltF b e
 ·exact(h.hse.lt j z h1).r ad h2
theorem houA_out (ho:Out S S' w) (hn:cP w l l'):Out (houA S c m hb R l) (houA S' c m hb R l') w:=fun b e=>by
 rcases e with e|⟨j,z,ad,h1,h2,rfl⟩
 ·exact(jp ho hn (fun g e=> .inl e) b e).imp .inl id
 ·rcases hn j z h1 with⟨j2,z2,h3,_,_,h4⟩|⟨_,_,h4⟩
  ·exact(h4 ad h2).imp (fun h5=> .inr ⟨j2,z2,ad,h3,h5,rfl⟩) id
  ·exact .inr (h4 ad h2)
variable {b:Nat}
theorem houA_not (h: ¬houA S c m hb R l b) (hB:B<=b):kI S B c m hb R l b:=
 ⟨fun e=>h (.inl (.inl e)),hB,fun e=>h (.inl (.inr (.inl e))),fun e=>h (.inl (.inr (.inr (.inl e)))),fun k x hk=>⟨fun e=>h (.inl (.inr (.inr (.inr ⟨k,x,hk, .inl e⟩)))),fun e=>h (.inl (.inr (.inr (.inr ⟨k,x,hk, .inr e⟩)))),fun ad e1 e2=>h (.inr ⟨k,x,ad,hk,e1,e2⟩)⟩⟩
structure LkSt (w:World) (hb B c a fs m:Nat) (S:Nat->Prop) (F:List Nd) (clock:Int) (p:Pool) (L:List Slot) (l:List SpM) (R:Option Addr) (cr k:Nat) (x:SpM) (T:Tab) (base:Nat) (A3:Option Addr) (c3:Nat) (pgs:List Nat) (A:Option Addr) (cap:Nat) (rs:List RowB) (n:Nat) (S1:Nat->Prop) (xl:Int) (p1:Pool) (L1:List Slot) (T1:Tab) (wr:World):Prop where
 hou:Hou wr hb B c a fs m S1 F xl p1 L1 (l.set k (x.withT T1)) R cr (l.map (·.s))
 mod:Mod (houF S c m hb R l) w wr
 out:Out (houF S c m hb R l) (houF S1 c m hb R (l.set k (x.withT T1))) w
 seen:Seen F (tnS ((l.map (·.T)).set k none)) x.rl p L T p1 L1 T1
 rows:ba wr base (houA S1 c m hb R (l.set k (x.withT T1))) A cap rs
 len:rs.length=pgs.length
 pg: ∀(j:Nat) (r:RowB) (g:Nat),rs[j]? =some r->pgs[j]? =some g->PgOk F x.rl p T T1 g r
 regs:RSl wr wr.heap.size A3 x.rl.length c3 x.rl
 noA3: ∀ad,A3=some ad->base<=ad.block/\ad.block<wr.heap.size/\ ¬houA S1 c m hb R (l.set k (x.withT T1)) ad.block/\ ∀g,A=some ⟨g,0,none⟩->ad.block≠g
 clk:0<=xl/\xl<=clock+32*(n:Int)
theorem Hou.newNot {y:SpM} (h:Hou w hb B c a fs m S F clock p L l R cr ls) (hk:l[k]? =some x) (hs:y.s=x.s) (ht:y.t=x.t) (hA:y.A=x.A) (h1:w.heap.size<=b) (h2: ¬S' b): ¬houA S' c m hb R (l.set k y) b:=fun e=>by
 have hl:=h.hse.home.lts;rcases e with((e|e|e)|e|e|⟨j,z,hj,e⟩)|⟨j,z,ad,hj,e,rfl⟩
 ·exact h2 e
 ·omega
 ·omega
 ·have:=h.lt;omega
 ·have:=(h.row.lt b e).2;omega
 ·rcases cA hj with⟨_,rfl,_⟩|⟨_,hj⟩
  ·have h5:=h.hse.lt k x hk;have:=h5.s;have:=h5.t;rw[hs,ht]at e;omega
  ·have h5:=h.hse.lt j z hj;have:=h5.s;have:=h5.t;omega
 ·rcases cA hj with⟨_,rfl,_⟩|⟨_,hj⟩
  ·have:=(h.hse.lt k x hk).r ad (by rw[<-hA];exact e);omega
  ·have:=(h.hse.lt j z hj).r ad e;omega
variable {xl:Int} {p1:Pool} {L1:List Slot} {T1:Tab} {S1:Nat->Prop} {A3:Option Addr} {c3 n:Nat} {pgs:List Nat} {wr:World}
theorem LkSt.peek (h:LkSt w hb B c a fs m S F clock p L l R cr k x T base A3 c3 pgs A cap rs n S1 xl p1 L1 T1 wr) (hk:l[k]? =some x) (xO:l.length<=6) (yA:clock+32*(n:Int)+32<1000000) (g:Nat) (hg:g*4096<18446744073709551616):
  Calls Tryz.prog 29 #[.pointer (some ⟨x.s,0,none⟩), .int .u64 ((g*4096:Nat):Int), .int .i64 4096] wr fun e w'=>
   (∃gz cz d S2 Bw p2 L2 T2,e= .returned (.tuple #[.slice (some ⟨gz,0,none⟩) 4096 cz, .int .i64 0])/\Hid (LkSt w hb B c a fs m S F clock p L l R cr k x T base A3 c3 pgs A cap rs (n+1) S2 Bw p2 L2 T2 w')/\Hid (4096<=cz/\wr.heap.size<=gz/\gz<w'.heap.size/\ ¬houA S2 c m hb R (l.set k (x.withT T2)) gz/\ ∀i,i<4096->w'.cell? ⟨gz,i,none⟩=some (.int .u8 (d i:Int)))/\Hid (PgOk F x.rl p T T2 g ⟨some ⟨gz,0,none⟩,cz,d⟩))\/
   (∃Z kk cz er S2 Bw p2 L2 T2,e= .returned (.tuple #[.slice Z kk cz, .int .i64 er])/\er≠0/\Hid (LkSt w hb B c a fs m S F clock p L l R cr k x T base A3 c3 pgs A cap rs (n+1) S2 Bw p2 L2 T2 w')/\Hid (PgNo x.rl T g)):=by
 have xP:k<l.length:=(List.getElem?_eq_some_iff.1 hk).1;have If:(l.set k (x.withT T1))[k]? =some (x.withT T1):=(by rw[List.getElem?_set_self xP]);have Zp:=h.clk;refine pQ _ _ _ _ _ ((jb h.hou.hse If rfl (by rw[List.length_set];omega) (g*4096) 4096 0 hg ⟨Zp.1,by omega⟩).mono ?_);rintro e w' ⟨er,Rb,kk,cp,d,p2,L2,T2,Bw,S2,rfl,hse,hm,ho,xU,zM,vR,⟨Hz,_⟩,vO⟩;refine⟨⟨_,_,rfl⟩,?_⟩;rw[hold_set hk]at vO;have Yn:Hse w' B c a fs m S2 F Bw p2 L2 (l.set k (x.withT T2)):=by
  have h9:=hse;rw[List.set_set]at h9;exact h9
 have hn:cP wr (l.set k (x.withT T1)) (l.set k (x.withT T2)):=by
  have h9:=cP.set (w:=wr) (l:=l.set k (x.withT T1)) (y:=x.withT T2) If rfl rfl (fun ad e=> .inl e);rw[List.set_set]at h9;exact h9
 have hmF:Mod (houF S1 c m hb R (l.set k (x.withT T1))) wr w':=hm.sub fun b e=> .inl e;have hoF:=jp (hb:=hb) (c:=c) (m:=m) (R:=R) (R':=R) ho hn (fun g e=> .inl e);have hoA:=houA_out (hb:=hb) (c:=c) (m:=m) (R:=R) ho hn;have Lo:Mod (houA S1 c m hb R (l.set k (x.withT T1))) wr w':=hm.sub fun b e=> .inl (.inl e);have hz:=hm.size;have FK:Seen F (tnS ((l.map (·.T)).set k none)) x.rl p1 L1 T1 p2 L2 T2:=by
  rcases vO with⟨_,_,rfl,rfl,rfl⟩|⟨_,_,_,_,rfl,rfl,rfl⟩|⟨_,_,_,_,h9⟩|⟨_,_,_,_,_,⟨j,_,h9⟩,_⟩
  ·exact Seen.refl h.seen.kept.sp h.seen.kept.own
  ·exact Seen.refl h.seen.kept.sp h.seen.kept.own
  ·exact h9.seen
  ·exact h9.seen
 have xo:LkSt w hb B c a fs m S F clock p L l R cr k x T base A3 c3 pgs A cap rs (n+1) S2 Bw p2 L2 T2 w':=by
  refine⟨h.hou.next Yn hm (fun b e=> .inl e) ho hn,h.mod.trans h.out hmF,h.out.trans hoF h.mod.size,h.seen.trans FK,h.rows.step Lo hoA,h.len,fun j r g h1 h2=>(h.pg j r g h1 h2).keep FK,h.regs.mod Lo (fun ad e=>(h.noA3 ad e).2.2.1),fun ad e=>?_,by omega,by omega⟩;obtain⟨n1,n2,n3,n4⟩:=h.noA3 ad e;exact⟨n1,by omega,fun e2=>(hoA _ e2).elim n3 (fun e3=>by omega),n4⟩
 rcases vO with⟨h1,_⟩|⟨_,_,h1,rfl,_⟩|⟨_,_,_,rfl,h1⟩|⟨_,_,h1,rfl,h2,⟨j,h3,h4⟩,h5⟩
 ·omega
 ·exact .inr ⟨_,_,_,6,_,_,_,_,_,rfl,by decide,va xo,va (.inl h1)⟩
 ·refine .inr ⟨_,_,_,4,_,_,_,_,_,rfl,by decide,va xo,va (.inr ?_)⟩;obtain⟨j,h2,h3⟩:=h1.gap;obtain rfl:=one_page h2;have h4:T1.lf g=none:=by
   have h9:T1.lf (g*4096/4096)=none:=h3
   rwa [Nat.mul_div_cancel _ (by decide)]at h9
  cases hT:T.lf g with
  |none=>rfl
  |some y=>
   obtain⟨y',h6,_⟩:=h.seen.kept.keep g y hT;rw[h4]at h6;cases h6
 ·obtain rfl:kk=4096:=(by omega);obtain⟨gz,rfl⟩:=vR.some_of (by omega);have hf:=vR.toG.formS;rw[List.length_map,List.length_range]at hf;refine .inl ⟨gz,cp,d,_,_,_,_,_,rfl,va xo,va ⟨hf.2.2,hf.1,hf.2.1,h.hou.newNot (y:=x.withT T2) If rfl rfl rfl hf.1 (Hz gz rfl) |> fun h9=>by rw[List.set_set]at h9;exact h9,fun i hi=>?_⟩,va ⟨h1,fun e=>?_,fun i hi=>?_⟩⟩
  ·exact vR.cell hi
  ·have hj:0<j:=Nat.pos_of_ne_zero fun e=>by rw[e]at h3;exact absurd (show(4096:Nat)=0 from h3) (by decide)
   obtain⟨y,h9⟩:=h4.there 0 hj;have h8:T2.lf (g*4096/4096)=some y:=h9;rw[Nat.mul_div_cancel _ (by decide),e]at h8;cases h8
  ·show d i=_;rw[h5 i hi,show(g*4096+i)/4096=g by omega,show(g*4096+i) % 4096=i by omega];exact h.seen.cont g i hi
theorem LkSt.push {cz pg:Nat} {d:Nat->Nat} (h:LkSt w hb B c a fs m S F clock p L l R cr k x T base A3 c3 pgs A cap rs n S1 xl p1 L1 T1 w1) (vQ:w.heap.size<=base) (hBb:B<=w.heap.size) (hn:n<=1000) (hz:4096<=cz/\base<=gz/\gz<w1.heap.size/\ ¬houA S1 c m hb R (l.set k (x.withT T1)) gz/\ ∀i,i<4096->w1.cell? ⟨gz,i,none⟩=some (.int .u8 (d i:Int))) (hzA:A≠some ⟨gz,0,none⟩) (hp:PgOk F x.rl p T T1 pg ⟨some ⟨gz,0,none⟩,cz,d⟩)
  (vD:Below w1.heap.size w1 wr) (ho:OwnG 39 1 rowC w2 base (some ⟨g,0,none⟩) vA (rs++[⟨some ⟨gz,0,none⟩,cz,d⟩])) (hg:wr.grownBy w2 (A.map (·.block))) (wK:A.map (·.block)=some g\/g=wr.heap.size):
  LkSt w hb B c a fs m S F clock p L l R cr k x T base A3 c3 (pgs++[pg]) (some ⟨g,0,none⟩) vA (rs++[⟨some ⟨gz,0,none⟩,cz,d⟩]) n S1 xl p1 L1 T1 w2:=by
 have hA: ∀b,A.map (·.block)=some b->A=some ⟨b,0,none⟩:=fun b e=>by
  rcases h.rows.row.form with⟨h9,_⟩|⟨g9,h9,_⟩
  ·rw[h9]at e;cases e
  ·rw[h9]at e;simp only[Option.map_some,Option.some.injEq]at e;rw[h9,e]
 have hm:Mod (fun b=>A=some ⟨b,0,none⟩) w1 w2:=(Mod.of vD).trans (Out.refl _ _) ((bZ hg).sub hA);have Gf: ∀b,A=some ⟨b,0,none⟩->base<=b:=fun b e=>(h.rows.row.lt b e).1;have wg:=vD.size;refine⟨h.hou.aside hm (fun b e=>houA_not (h.rows.noX b e) (by have:=Gf b e;omega)),?_,h.out,h.seen,h.rows.push vD ho hg wK (tK h.hou) ⟨hz.1,rfl,hz.2.1,hz.2.2.1,hz.2.2.2.1,hzA,hz.2.2.2.2⟩,by rw[vf,vf,h.len];rfl,fun j r g2 h1 h2=>?_,h.regs.mod hm (fun ad e e2=>(h.noA3 ad e).2.2.2 _ e2 rfl),fun ad e=>?_,h.clk⟩
 ·exact((h.mod.sub (T:=fun b=>houF S c m hb R l b\/w.heap.size<=b) fun b e=> .inl e).trans (Out.refl _ _) (hm.sub fun b e=> .inr (vx vQ (Gf b e)))).own fun b e=>e
 ·rcases Nat.lt_or_ge j rs.length with h3|h3
  ·rw[vk h3]at h1;rw[vk (by rw[<-h.len];exact h3)]at h2;exact h.pg j r g2 h1 h2
  ·rw[vj h3]at h1;rw[vj (by rw[<-h.len];exact h3),<-h.len]at h2;have e1:=vl h1;have e2:=vl h2;rw[List.mem_singleton]at e1 e2;rw[e1,e2];exact hp
 ·obtain⟨n1,n2,n3,n4⟩:=h.noA3 ad e;refine⟨n1,vh n2 hm.size,n3,fun g2 e2 e3=>?_⟩;injection e2 with e2;injection e2 with e2;rcases wK with h9|h9
  ·exact n4 g (hA g h9) (by rw[e3,e2])
  ·omega
end
section
open Go.RowKit Go.Sort
structure Lkd (w:World) (hb B c a fs m:Nat) (S:Nat->Prop) (F:List Nd) (clock:Int) (p:Pool) (L:List Slot) (l:List SpM) (R:Option Addr) (cr k:Nat) (x:SpM) (T:Tab) (S1:Nat->Prop) (xl:Int) (p1:Pool) (L1:List Slot) (T1:Tab) (wr:World):Prop where
 hou:Hou wr hb B c a fs m S1 F xl p1 L1 (l.set k (x.withT T1)) R cr ((l.set k (x.withT T1)).map (·.s))
 mod:Mod (houF S c m hb R l) w wr
 out:Out (houF S c m hb R l) (houF S1 c m hb R (l.set k (x.withT T1))) w
 seen:Seen F (tnS ((l.map (·.T)).set k none)) x.rl p L T p1 L1 T1
 clk:0<=xl/\xl<=clock+6200
def LookPost (w:World) (hb B c a fs m:Nat) (S:Nat->Prop) (F:List Nd) (clock:Int) (p:Pool) (L:List Slot) (l:List SpM) (R:Option Addr) (cr k:Nat) (x:SpM) (T:Tab) (e:Ending) (w':World):Prop:=
 ∃S1 xl p1 L1 T1,Lkd w hb B c a fs m S F clock p L l R cr k x T S1 xl p1 L1 T1 w'/\
  (
   (∃A cap rs,e= .returned (.tuple #[.slice A rs.length cap, .bool true])/\ba w' w.heap.size (houF S1 c m hb R (l.set k (x.withT T1))) A cap rs/\rs.length=(ec x.rl).length/\ ∀(j:Nat) (r:RowB) (g:Nat),rs[j]? =some r->(ec x.rl)[j]? =some g->PgOk F x.rl p T T1 g r)\/
   (e= .returned (.tuple #[.slice none 0 0, .bool false])/\ ∃g,g∈ec x.rl/\PgNo x.rl T g))
theorem ba.less {w:World} {base cap:Nat} {X Y:Nat->Prop} {A:Option Addr} {rs:List RowB} (h:ba w base X A cap rs) (hX: ∀b,Y b->X b):ba w base Y A cap rs:=
 ⟨h.row,fun g e h1=>h.noX g e (hX g h1),fun r hr=>by obtain⟨h1,g,h2,h3,h4,h5,h6,h7⟩:=h.each r hr;exact⟨h1,g,h2,h3,h4,fun e=>h5 (hX g e),h6,h7⟩⟩
variable {w w' w1 w2 wr:World} {base cap cr k n c3:Nat} {hb B c a fs m:Nat} {S S' S1:Nat->Prop} {F:List Nd} {clock xl:Int} {p p1:Pool} {L L1:List Slot} {l:List SpM} {R A A3:Option Addr} {rs:List RowB} {x:SpM} {T T1:Tab} {pgs:List Nat}
theorem LkSt.lkd (h:LkSt w hb B c a fs m S F clock p L l R cr k x T base A3 c3 pgs A cap rs n S1 xl p1 L1 T1 wr) (hk:l[k]? =some x) (hn:n<=193):Lkd w hb B c a fs m S F clock p L l R cr k x T S1 xl p1 L1 T1 wr:=
 ⟨by rw[dr (y:=x.withT T1) hk rfl];exact h.hou,h.mod,h.out,h.seen,h.clk.1,by have:=h.clk.2;omega⟩
theorem sN {r:Reg} (h:Rg.one r=true) (ho:r.Ok): ∃f t:Nat,r.fr=((f*4096:Nat):Int)/\r.to=((t*4096:Nat):Int)/\f<t/\t<=34359738368/\cnt3 r=min 3 (t-f)/\r.fr.toNat/4096=f:=by
 have h1:r.fr<r.to/\r.to<=140737488355328/\r.fr % 4096=0/\r.to % 4096=0:=by
  unfold Rg.one at h;rw[decide_eq_true_eq]at h;exact⟨h.1,h.2.1,h.2.2.1,h.2.2.2.1⟩
 have h0:=ho.fr0;refine⟨r.fr.toNat/4096,r.to.toNat/4096,by omega,by omega,by omega,by omega,?_,rfl⟩;unfold cnt3;omega
theorem qh (h:Hou w hb B c a fs m S F clock p L l R cr (l.map (·.s))) (xO:l.length<=6) (yA:0<=clock/\clock+6300<1000000) (hk:l[k]? =some x) (hT:x.T=some T):
  Calls Tryz.prog 18 #[.pointer (some ⟨hb,0,none⟩), .int .i64 (k:Int)] w (LookPost w hb B c a fs m S F clock p L l R cr k x T):=by
 have xP:k<l.length:=(List.getElem?_eq_some_iff.1 hk).1;have xD:(k:Int)<(l.length:Int):=(by omega);have o3:=h.cells.2;obtain⟨gR,rfl,Ij⟩:=h.at_ hk;have xc:=h.hse.live hk hT;have hr64:=(bY xc.rgs.right).2;have Aa:=h.hse.home.base;have MC:=va (h.regionsAt hk hT);have HH:=va h;have HK:=va hk;have HT:=va hT;have HONE:=va (show∀r∈x.rl,Rg.one r=true/\r.Ok from fun r hr=>⟨di xc.rgs.right r hr,xc.rgs.ok r hr⟩);have yo:=va (Seen.refl (rl:=x.rl) (h.hse.sp hk hT) (h.hse.ownT hk hT));clear h hk hT xc;go_enter Tryz.func18,Tryz.ntmps18;go_upto_region 3 with(first
  |(go_at_call 17;refine(MC.out).mono ?_;rintro e w3 ⟨A3,c3,rfl,AF,vX⟩)
  |fail)
 have xy:l.set k (x.withT T)=l:=(by rw[SpM.withT_self HT.out,lD HK.out]);have xR:=vX.size;have CD:Hid (LkSt w hb B c a fs m S F clock p L l (some ⟨gR,0,none⟩) cr k x T w.heap.size A3 c3 (ec (x.rl.take 0)) none 0 [] 0 S clock p L T w3):=va (by
  refine⟨by rw[xy];exact HH.out.below vX,Mod.of vX,by rw[xy];exact Out.refl _ _,yo.out,ba.nil _ _ _,rfl,fun j r g e=>(by simp at e),AF.rsl (by omega),fun ad e=>?_,yA.1,by simp⟩;have h9:=AF.row ad.block (by rw[e];rfl);rw[xy];exact⟨h9.1,h9.2,fun e2=>by have:=tK HH.out _ e2;omega,(fun g e=>by cases e)⟩)
 clear o3 Ij AF vX xy yo;go_wp2_with fail;go_loopw [6,8] (fun v i wr=> ∃(q n:Nat) (A:Option Addr) (cap:Nat) (rs:List RowB) (S1:Nat->Prop) (xl:Int) (p1:Pool) (L1:List Slot) (T1:Tab),i= .int .i64 (q:Int)/\q<=x.rl.length/\v= .slice A rs.length cap/\n<=3*q/\rs.length<=n/\LkSt w hb B c a fs m S F clock p L l (some ⟨gR,0,none⟩) cr k x T w.heap.size A3 c3 (ec (x.rl.take q)) A cap rs n S1 xl p1 L1 T1 wr) (fun _ i _ =>x.rl.length-(intOf i).toNat)
 case atStart=>exact⟨0,0,none,0,[],S,clock,p,L,T,rfl,vw _,rfl,vd _,vd _,CD.out⟩
 case round=>
  obtain⟨q,n,A,cap,rs,S1,xl,p1,L1,T1,rfl,hq,rfl,hn,OZ,xo⟩:=hrel;obtain⟨wl,rfl⟩: ∃wl:World,wl=wr:=⟨_,rfl⟩;clear CD;by_cases IG:q<x.rl.length
  ·obtain⟨r,hr⟩: ∃r,x.rl[q]? =some r:=⟨x.rl[q],vg IG⟩;obtain⟨h1,h2⟩:=HONE.out r (vl hr);obtain⟨f0,t0,hf,ht,xu,DC,Gb,hfd⟩:=sN h1 h2;obtain⟨b3,off3,rfl,YM,yT⟩:=xo.regs.at_ q r hr;have r0:wl.cell? ⟨b3,off3+q*5,none⟩=some (.int .u64 ((f0*4096:Nat):Int)):=(by rw[<-hf];exact yT.c0);have hqi:(q:Int)<(x.rl.length:Int):=(by omega);have HS:=va xo;have HR:=va hr;have HTO:=va ht;have HFD:=va hfd;have QX:=va Gb;obtain⟨f1,AH⟩: ∃f1:Int,f1=((f0*4096:Nat):Int):=⟨_,rfl⟩;rw[<-AH]at r0;have OA:=va AH;clear xo hr yT h1 h2 hf ht Gb hfd AH;have hck1:clock+6300<1000000:=yA.2;have HHK:=va (show∀T2:Tab,(l.set k (x.withT T2)).map (·.s)=l.map (·.s)from fun T2=>dr (y:=x.withT T2) HK.out rfl);go_wp2_with fail;go_loopw [6,9,10] (fun v pj av wr=> ∃(j n:Nat) (A:Option Addr) (cap:Nat) (rs:List RowB) (S1:Nat->Prop) (xl:Int) (p1:Pool) (L1:List Slot) (T1:Tab),pj= .int .i64 (j:Int)/\av= .int .u64 (((f0+j)*4096:Nat):Int)/\j<=cnt3 r/\v= .slice A rs.length cap/\n<=3*q+j/\rs.length<=n/\LkSt w hb B c a fs m S F clock p L l (some ⟨gR,0,none⟩) cr k x T w.heap.size (some ⟨b3,off3,none⟩) c3 (ec (x.rl.take q)++(pgs3 r).take j) A cap rs n S1 xl p1 L1 T1 wr) (fun _ pj _ _ =>3-(intOf pj).toNat)
   case atStart=>exact⟨0,n,A,cap,rs,S1,xl,p1,L1,T1,rfl,by rw[OA.out];rfl,vw _,rfl,by omega,OZ,by rw[List.take_zero,List.append_nil];exact HS.out⟩
   case round=>
    obtain⟨j,n2,A2,xS,rs2,S2,Bw,p2,L2,T2,rfl,rfl,hj,rfl,Fy,SN,yx⟩:=hrel;obtain⟨a1,RC⟩: ∃a1:Int,a1=(((f0+j)*4096:Nat):Int):=⟨_,rfl⟩;obtain⟨t1,Ey⟩: ∃t1:Int,t1=((t0*4096:Nat):Int):=⟨_,rfl⟩;rw[<-RC];obtain⟨b4,off4,e4,Ps,SV⟩:=yx.regs.at_ q r HR.out;injection e4 with e4;injection e4 with e4 e5;subst e4 e5;have r1:wr.cell? ⟨b3,off3+q*5+1,none⟩=some (.int .u64 t1):=(by rw[Ey,<-HTO.out];exact SV.c1);have Un:=QX.out;have ha9:0<=a1/\a1+4096<18446744073709551616:=(by omega);have Xm:cnt3 r<=3:=(by omega);have XG:=yx.mod.size;clear HS SV;by_cases Bq:j<cnt3 r
    ·have vH:a1<t1:=(by omega);have Dg:(j:Int)<3:=(by omega);have Ht:=yx.peek HK.out xO (by omega) (f0+j) (by omega);rw[<-RC]at Ht;have hh:=yx.hou;rw[<-HHK.out T2]at hh;have o3:=hh.cells.2;rw[List.length_set]at o3;obtain⟨gR',e9,Ij⟩:=hh.at_ (k:=k) (x:=x.withT T2) (by rw[List.getElem?_set_self xP]);injection e9 with e9;injection e9 with e9;subst e9;have Zu:wr.cell? ⟨gR,k,none⟩=some (.pointer (some ⟨x.s,0,none⟩)):=Ij;have RY:=va Ht;have Ri:=va RC;have xg:=yx.rows.row.lt;have AD:=va xg;clear Ht hh Ij yx RC Ey Un xg;go_upto_region 13 with(first
      |(go_at_call 29;refine(RY.out).mono ?_;rintro e w4 (⟨gz,cz,d,S4,DT,p4,L4,T4,rfl,Gw,IT,KQ⟩|⟨Z,kk,cz,er,S4,DT,p4,L4,T4,rfl,zo,Gw,HN4⟩))
      |fail)
     rotate_left
     ·have q1:(er != 0)=true:=(by rw[bne_iff_ne];exact zo);go_wp2_with fail;go_ret2;refine⟨S4,DT,p4,L4,T4,Gw.out.lkd HK.out (by omega), .inr ⟨rfl,f0+j,?_,HN4.out⟩⟩;refine List.mem_flatMap.2 ⟨r,vl HR.out,List.mem_map.2 ⟨j,List.mem_range.2 Bq,?_⟩⟩;rw[HFD.out]
     clear o3 Zu r1 vH;have AX:=Gw.out.mod.size;have Uc:rs2.length<1000000:=(by omega);go_wp2_with (first
      |(at_builtin;refine mt mY rfl (.tmp 59) (.tmp 61) rfl w.heap.size A2 xS rs2.length rs2 rfl rfl (Gw.out.rows.row.alloc _) ⟨some ⟨gz,0,none⟩,cz,d⟩ w4.heap.size 1 rfl (ab _ _) Uc (by simp;omega) ?_;intro g5 zE w5 yG Cb Iq Pr;have Wb:=va (Gw.out.push (vd _) Aa (by omega) ⟨IT.out.1,by have:=IT.out.2.1;omega,IT.out.2.2.1,IT.out.2.2.2.1,IT.out.2.2.2.2⟩ (fun e=>by have:=(AD.out gz e).2;have:=IT.out.2.1;omega) KQ.out vc yG Cb Iq);clear yG Cb Iq Pr)
      |fail)
     go_roundw
     case rel=>
      refine⟨j+1,n2+1,some ⟨g5,0,none⟩,zE,rs2++[⟨some ⟨gz,0,none⟩,cz,d⟩],S4,DT,p4,L4,T4,by go_num,?_,by omega,by rw[vf];rfl,by omega,by rw[vf];show _ +1<=_;omega,?_⟩
      ·exact congrArg (Value.int .u64) (by rw[Ri.out];omega)
      ·have h9:=Wb.out;rw[tc r Bq,HFD.out,<-List.append_assoc];exact h9
     case measure=>(simp[intOf];omega)
    ·obtain rfl:j=cnt3 r:=(by omega);have Er:=va yx;have Nm:Hid (ec (x.rl.take q)++(pgs3 r).take (cnt3 r)=ec (x.rl.take (q+1))):=va (by
      have h9:(pgs3 r).take (cnt3 r)=pgs3 r:=List.take_of_length_le (by unfold pgs3;rw[List.length_map,List.length_range];exact vd _);rw[qX HR.out,h9])
     clear yx;by_cases vH:a1<t1
     ·have Dg: ¬((cnt3 r:Nat):Int)<3:=(by omega);clear RC Ey Un;go_wp2_with fail;go_roundw
      case rel=>exact⟨q+1,n2,A2,xS,rs2,S2,Bw,p2,L2,T2,by go_num,by omega,rfl,by omega,SN,by rw[<-Nm.out];exact Er.out⟩
      case measure=>(simp[intOf];omega)
     ·clear RC Ey Un;go_wp2_with fail;go_roundw
      case rel=>exact⟨q+1,n2,A2,xS,rs2,S2,Bw,p2,L2,T2,by go_num,by omega,rfl,by omega,SN,by rw[<-Nm.out];exact Er.out⟩
      case measure=>(simp[intOf];omega)
  ·obtain rfl:q=x.rl.length:=(by omega);have HS:=va xo;clear xo;go_wp2_with fail;go_ret2;refine⟨S1,xl,p1,L1,T1,HS.out.lkd HK.out (by omega), .inl ⟨A,cap,rs,rfl,HS.out.rows.less fun b e=> .inl e,?_,?_⟩⟩
   ·have h9:=HS.out.len
    rwa [List.take_length]at h9
   ·have h9:=HS.out.pg
    rwa [List.take_length]at h9
end
section
open Go.RowKit Go.Sort
variable {w w':World} {hb B c a fs m:Nat} {S S':Nat->Prop} {F:List Nd} {clock vB:Int} {p p':Pool} {L L':List Slot} {l l':List SpM} {R R':Option Addr} {cr j k:Nat} {ls:List Nat} {o:O11} {x y:SpM} {T U:Tab}
theorem Hse.farDat {E:Nat->Prop} (h:Hse w B c a fs m S F clock p L l) (hj:l[j]? =some y) (hU:y.T=some U) (hk:l[k]? =some x) (hT:x.T=some T) (vK:j≠k) (hf:Far (tnS ((l.map (·.T)).set j none)) U E p p') {f:Nat} (h0:0<ah T f):p'.dat f=p.dat f:=by
 obtain⟨r,h1,_⟩:=ly (eQ hj hU) (eQ hk hT) (fun e=>vK e.symm) f;have h2:=il h0;refine hf.dat f (by omega) fun hn=>?_;have h3:=((h.sp hj hU).alone hn).2.2.2;omega
theorem tM {z:SpM} {l2:List SpM} (hk:l[k]? =some x):(l++l2)[k]? =some x:=by
 rw[vk (List.getElem?_eq_some_iff.1 hk).1];exact hk
theorem Do11.away {er:Int} (h:Hse w B c a fs m S F clock p L l) (hd:Do11 F p L l o er p' L' l') (hk:l[k]? =some x) (hn:o.kd=9\/numI o.sI l.length≠(k:Int)):l'[k]? =some x/\ ∀T,x.T=some T-> ∀f,0<ah T f->p'.dat f=p.dat f:=by
 have set_ne: ∀ {j:Nat} {y:SpM},j≠k->(l.set j y)[k]? =some x:=fun vK=>by rw[List.getElem?_set_ne vK];exact hk
 cases hd with
 |idle=>exact⟨hk,fun T hT f h0=>rfl⟩
 |new s t f p' L' _ ht=>
  refine⟨tM (z:=x) hk,fun T hT f0 h0=>?_⟩;exact((h.sp hk hT).take ht).2.2.1 f0 h0
 |newNo f _ ht=>exact⟨hk,fun T hT f h0=>rfl⟩
 |gone=>exact⟨hk,fun T hT f h0=>rfl⟩
 |no=>exact⟨hk,fun T hT f h0=>rfl⟩
 |map j y U A' vA p' T' AG hj hy hU _ hr=>
  have vK:j≠k:=fun e=>by subst e;rcases hn with e|e;omega;exact e hj
  exact⟨set_ne vK,fun T hT f h0=>h.farDat hy hU hk hT vK (hr.far fun _ =>False) h0⟩
 |unmap j y U A' vA p' T' AG hj hy hU _ hr=>
  have vK:j≠k:=fun e=>by subst e;rcases hn with e|e;omega;exact e hj
  exact⟨set_ne vK,fun T hT f h0=>h.farDat hy hU hk hT vK (hr.far fun _ =>False) h0⟩
 |prot j y U A' vA p' T' q AG hj hy hU _ _ hr=>
  have vK:j≠k:=fun e=>by subst e;rcases hn with e|e;omega;exact e hj
  exact⟨set_ne vK,fun T hT f h0=>h.farDat hy hU hk hT vK (hr.far fun _ =>False) h0⟩
 |load j y U want er kk d p' L' T' AG hj hy hU hr=>
  have vK:j≠k:=fun e=>by subst e;rcases hn with e|e;omega;exact e hj
  exact⟨set_ne vK,fun T hT f h0=>h.farDat hy hU hk hT vK ((hr.kept (h.sp hy hU) (h.ownT hy hU)).far fun _ =>False) h0⟩
 |store j y U want er p' L' T' AG hj hy hU hr=>
  have vK:j≠k:=fun e=>by subst e;rcases hn with e|e;omega;exact e hj
  exact⟨set_ne vK,fun T hT f h0=>h.farDat hy hU hk hT vK ((hr.left (h.sp hy hU) (h.ownT hy hU)).2.1 fun _ =>False) h0⟩
 |forkNo j y U p' L' AG hj hy hU hr=>
  have vK:j≠k:=fun e=>by subst e;rcases hn with e|e;omega;exact e hj
  exact⟨hk,fun T hT f h0=>h.farDat hy hU hk hT vK (hr.far fun _ =>False) h0⟩
 |fork j y U s2 t2 f A' vA p' L' T' T2 AG hj hy hU hr=>
  have vK:j≠k:=fun e=>by subst e;rcases hn with e|e;omega;exact e hj
  exact⟨tM (z:=x) (set_ne vK),fun T hT f h0=>h.farDat hy hU hk hT vK (hr.far fun _ =>False) h0⟩
 |free j y U AG hj hy hU=>
  have vK:j≠k:=fun e=>by subst e;rcases hn with e|e;omega;exact e hj
  exact⟨set_ne vK,fun T hT f h0=>by rw[dy]⟩
theorem ud {rl:List Reg} {p1 p2:Pool} {g:Nat} (hT:T.lf g≠none) (hg:g<bz) (h: ∀f,0<ah T f->p2.dat f=p1.dat f):cont F rl p2 T g=cont F rl p1 T g:=by
 cases hl:T.lf g with
 |none=>exact absurd hl hT
 |some y=>rw[aV hl,aV hl,h _ (bO hg hl)]
end
section
open Go.RowKit Go.Sort
variable {w w':World} {hb B c a fs m:Nat} {S S':Nat->Prop} {F:List Nd} {clock vB:Int} {p p' p1:Pool} {L L':List Slot} {l l':List SpM} {R R':Option Addr} {cr j k:Nat} {ls:List Nat} {x y x1:SpM} {T U:Tab} {rs:List RowB}
def SpM.regs (x:SpM):List Reg:=match x.T with|none=>[]|some _ =>x.rl
theorem Hou.regsAt (h:Hou w hb B c a fs m S F clock p L l R cr ls) (hk:l[k]? =some x):Calls Tryz.prog 17 #[.pointer (some ⟨x.s,0,none⟩)] w fun e w'=> ∃A' vA,e= .returned (.slice A' x.regs.length vA)/\OwnR w' w.heap.size A' vA x.regs/\Below w.heap.size w w':=by
 cases hT:x.T with
 |none=>
  have e:x.regs=[]:=(by unfold SpM.regs;rw[hT]);refine(gx _ w (h.hse.goneOf hk hT)).mono ?_;rintro e w' ⟨rfl,rfl⟩;rw[e];exact⟨none,0,rfl,OwnR.nil _ _,vz _ _⟩
 |some T=>
  have e:x.regs=x.rl:=(by unfold SpM.regs;rw[hT]);rw[e];exact h.regionsAt hk hT
theorem Hou.regsFew (h:Hou w hb B c a fs m S F clock p L l R cr ls) (hk:l[k]? =some x):x.regs.length<=1000000:=by
 cases hT:x.T with
 |none=>unfold SpM.regs;rw[hT];exact vw _
 |some T=>
  have:=(bY (h.hse.live hk hT).rgs.right).2;unfold SpM.regs;rw[hT];show x.rl.length<=_;omega
theorem Hou.regsFew2 (h:Hou w hb B c a fs m S F clock p L l R cr ls) (hk:l[k]? =some x) (hT:x.T=some T):x.rl.length<=64:=(bY (h.hse.live hk hT).rgs.right).2
theorem ta: ∀ {rl:List Reg},rl.length<=64->(ec rl).length<=1000000000:=fun {rl} h=>by
 have: ∀l:List Reg,(ec l).length<=3*l.length:=fun l=>by
  induction l with
  |nil=>exact vd _
  |cons r l ih=>
   have h1:(pgs3 r).length<=3:=(by unfold pgs3 cnt3;rw[List.length_map,List.length_range];omega);have h2:(ec (r::l)).length=(pgs3 r).length+(ec l).length:=(by unfold ec;rw[vy,vf]);rw[h2,vn];omega
 have:=this rl;omega
def Again (F:List Nd) (x:SpM) (p:Pool) (rs:List RowB):Prop:=(x.T=none/\rs=[])\/ ∃T,x.T=some T/\rs.length=(ec x.rl).length/\ ∀(j:Nat) (r:RowB) (g:Nat),rs[j]? =some r->(ec x.rl)[j]? =some g->PgOk F x.rl p T T g r
theorem nz (h:Hou w hb B c a fs m S F clock p L l R cr (l.map (·.s))) (xO:l.length<=6) (hk:l[k]? =some x) (hT:x.T=none):Calls Tryz.prog 18 #[.pointer (some ⟨hb,0,none⟩), .int .i64 (k:Int)] w fun e w'=>e= .returned (.tuple #[.slice none 0 0, .bool true])/\w=w':=by
 have xP:k<l.length:=(List.getElem?_eq_some_iff.1 hk).1;have xD:(k:Int)<(l.length:Int):=(by omega);have o3:=h.cells.2;obtain⟨gR,rfl,Ij⟩:=h.at_ hk;have MC:=va (gx _ w (h.hse.goneOf hk hT));clear h hk hT;go_enter Tryz.func18,Tryz.ntmps18;go_wp2_with (first
  |(go_at_call 17;refine(MC.out).mono ?_;rintro e w3 ⟨rfl,rfl⟩)
  |fail)
 go_loopw [6,8] (fun v i wr=>v= .slice none 0 0/\i= .int .i64 0/\wr=w) (fun _ _ _ =>0)
 case atStart=>exact⟨rfl,rfl,rfl⟩
 case round=>
  obtain⟨rfl,rfl,rfl⟩:=hrel;go_wp2_with fail;go_ret2;exact⟨rfl,rfl⟩
def LookA (w:World) (hb B c a fs m:Nat) (S:Nat->Prop) (F:List Nd) (clock:Int) (l:List SpM) (R:Option Addr) (cr k:Nat) (x:SpM) (e:Ending) (w':World):Prop:=
 (∃A cap rs x1 l1 S1 xl p1 L1,e= .returned (.tuple #[.slice A rs.length cap, .bool true])/\Hid (Hou w' hb B c a fs m S1 F xl p1 L1 l1 R cr (l1.map (·.s))/\l1.length=l.length/\l1[k]? =some x1/\x1.regs=x.regs/\x1.s=x.s/\0<=xl/\xl<=clock+6200)/\Hid (Mod (houF S c m hb R l) w w'/\Out (houF S c m hb R l) (houF S1 c m hb R l1) w)/\Hid (ba w' w.heap.size (houF S1 c m hb R l1) A cap rs)/\Hid (Again F x1 p1 rs))\/
 (e= .returned (.tuple #[.slice none 0 0, .bool false])/\Hid (Below B w w'))
theorem nh (hT:x.T=some T):(x.withT U).regs=x.regs:=by unfold SpM.regs;rw[hT];rfl
theorem tz (h:Hou w hb B c a fs m S F clock p L l R cr (l.map (·.s))) (xO:l.length<=6) (yA:0<=clock/\clock+6300<1000000) (hk:l[k]? =some x):
  Calls Tryz.prog 18 #[.pointer (some ⟨hb,0,none⟩), .int .i64 (k:Int)] w (LookA w hb B c a fs m S F clock l R cr k x):=by
 have xP:k<l.length:=(List.getElem?_eq_some_iff.1 hk).1;cases hT:x.T with
 |none=>
  refine(nz h xO hk hT).mono ?_;rintro e w' ⟨rfl,rfl⟩;exact .inl ⟨none,0,[],x,l,S,clock,p,L,rfl,va ⟨h,rfl,hk,rfl,rfl,yA.1,by omega⟩,va ⟨Mod.refl _ _,Out.refl _ _⟩,va (ba.nil _ _ _),va (.inl ⟨hT,rfl⟩)⟩
 |some T=>
  refine(qh h xO yA hk hT).mono ?_;rintro e w' ⟨S1,xl,p1,L1,T1,h1,⟨A,cap,rs,rfl,h2,h3,h4⟩|⟨rfl,_⟩⟩
  ·refine .inl ⟨A,cap,rs,x.withT T1,_,S1,xl,p1,L1,rfl,va ⟨h1.hou,by rw[List.length_set],by rw[List.getElem?_set_self xP],nh hT,rfl,h1.clk⟩,va ⟨h1.mod,h1.out⟩,va h2,va (.inr ⟨T1,rfl,h3,fun j r g e1 e2=>?_⟩)⟩;obtain⟨g1,g2,g3⟩:=h4 j r g e1 e2;exact⟨g1,g2,fun i hi=>(g3 i hi).trans (h1.seen.cont g i hi).symm⟩
  ·exact .inr ⟨rfl,va (h1.mod.below h.lowF h.hse.home.base)⟩
def LookB (w:World) (hb B c a fs m:Nat) (S:Nat->Prop) (F:List Nd) (l:List SpM) (R:Option Addr) (cr k:Nat) (x:SpM) (rs:List RowB) (e:Ending) (w':World):Prop:=
 ∃A cap rs2 x2 l2 S2 Bw p2 L2,e= .returned (.tuple #[.slice A rs.length cap, .bool true])/\Hid (Hou w' hb B c a fs m S2 F Bw p2 L2 l2 R cr (l2.map (·.s))/\l2.length=l.length/\l2[k]? =some x2/\x2.regs=x.regs/\x2.s=x.s)/\Hid (Mod (houF S c m hb R l) w w'/\Out (houF S c m hb R l) (houF S2 c m hb R l2) w)/\Hid (ba w' w.heap.size (houF S2 c m hb R l2) A cap rs2)/\Hid (rs2.length=rs.length/\ ∀(j:Nat) (r r2:RowB),rs[j]? =some r->rs2[j]? =some r2-> ∀i,i<4096->r2.d i=r.d i)
theorem tx (h:Hou w hb B c a fs m S F clock p L l R cr (l.map (·.s))) (xO:l.length<=6) (yA:0<=clock/\clock+6300<1000000) (hk:l[k]? =some x) (hag:Again F x p1 rs) (hd: ∀T,x.T=some T-> ∀f,0<ah T f->p.dat f=p1.dat f):
  Calls Tryz.prog 18 #[.pointer (some ⟨hb,0,none⟩), .int .i64 (k:Int)] w (LookB w hb B c a fs m S F l R cr k x rs):=by
 have xP:k<l.length:=(List.getElem?_eq_some_iff.1 hk).1;rcases hag with⟨hT,rfl⟩|⟨T,hT,hlen,yt⟩
 ·refine(nz h xO hk hT).mono ?_;rintro e w' ⟨rfl,rfl⟩;exact⟨none,0,[],x,l,S,clock,p,L,rfl,va ⟨h,rfl,hk,rfl,rfl⟩,va ⟨Mod.refl _ _,Out.refl _ _⟩,va (ba.nil _ _ _),va ⟨rfl,fun j r r2 e=>(by simp at e)⟩⟩
 ·refine(qh h xO yA hk hT).mono ?_;have ya:=h.hse.sp hk hT;have xk: ∀(j:Nat) (g:Nat),(ec x.rl)[j]? =some g-> ∃r,rs[j]? =some r/\PgOk F x.rl p1 T T g r:=fun j g e=>by
   have h1:j<rs.length:=(by rw[hlen];exact(List.getElem?_eq_some_iff.1 e).1);exact⟨rs[j],vg h1,yt j _ g (vg h1) e⟩
  rintro e w' ⟨S1,xl,p2,L1,T1,h1,⟨A,cap,rs2,rfl,h2,h3,h4⟩|⟨rfl,g,hg,vW⟩⟩
  ·refine⟨A,cap,rs2,x.withT T1,_,S1,xl,p2,L1,by rw[h3,<-hlen],va ⟨h1.hou,by rw[List.length_set],by rw[List.getElem?_set_self xP],nh hT,rfl⟩,va ⟨h1.mod,h1.out⟩,va h2,va ⟨by rw[h3,hlen],fun j r r2 e1 e2 i hi=>?_⟩⟩;obtain⟨g,hg⟩: ∃g,(ec x.rl)[j]? =some g:=⟨_,vg (by rw[<-hlen];exact(List.getElem?_eq_some_iff.1 e1).1)⟩;obtain⟨_,g2,g3⟩:=yt j r g e1 hg;obtain⟨_,_,k3⟩:=h4 j r2 g e2 hg;have hgN:g<bz:=by
    cases hl:T.lf g with
    |none=>exact absurd hl g2
    |some y=>exact(ya.leaf hl).1
   rw[k3 i hi,g3 i hi,ud g2 hgN (hd T hT)]
  ·exfalso;obtain⟨j,hj,e⟩:=List.mem_iff_getElem.1 hg;obtain⟨r,_,g1,g2,_⟩:=xk j g (by rw[vg hj,e]);rcases vW with h9|h9
   ·rw[h9]at g1;cases g1
   ·exact g2 h9
def AtK (w2:World) (hb B c a fs m:Nat) (F:List Nd) (k:Nat) (x:SpM) (p1:Pool) (we:World) (G:Nat->Prop) (ck:Int) (j:Nat) (wr:World):Prop:=
 ∃S clock p L l R cr,Hou wr hb B c a fs m S F clock p L l R cr (l.map (·.s))/\l.length<=6/\0<=clock/\clock<=ck+32*(j:Int)/\Below B w2 wr/\l[k]? =some x/\(∀T,x.T=some T-> ∀f,0<ah T f->p.dat f=p1.dat f)/\Mod (fun b=> ¬G b) we wr/\ ∀b,G b->b<we.heap.size/\ ¬houF S c m hb R l b
variable {w2 we wr:World} {G:Nat->Prop} {ck:Int}
theorem AtK.below {wx:World} {j:Nat} (h:AtK w2 hb B c a fs m F k x p1 we G ck j wr) (vD:Below wr.heap.size wr wx):AtK w2 hb B c a fs m F k x p1 we G ck (j+1) wx:=by
 obtain⟨S,clock,p,L,l,R,cr,h1,h2,h3,h4,h5,h6,h7,h8,h9⟩:=h;exact⟨S,clock,p,L,l,R,cr,h1.below vD,h2,h3,by omega,h5.trans (vD.mono h1.hse.home.base),h6,h7,h8.trans (Out.refl _ _) (Mod.of vD),h9⟩
variable {A:Option Addr}
theorem AtK.does {wn:World} {j q cq:Nat} {kd sI n:Int} {r:Reg} {addr:Nat} {d:Nat->Nat} (wK:AtK w2 hb B c a fs m F k x p1 we G ck j wr) (Dj:Below wr.heap.size wr wn) (yA:0<=ck/\ck<=100000) (hj:j<=1000) (wI:pC wn B ⟨kd,sI,r,addr,n,q,d⟩ A cq) (vW: ∀S clock p L l R cr,Hou wn hb B c a fs m S F clock p L l R cr (l.map (·.s))->kd=9\/numI sI l.length≠(k:Int)):
  Calls Tryz.prog 15 #[.pointer (some ⟨hb,0,none⟩), .agg #[.int .i64 kd, .int .i64 sI, .int .u64 r.fr, .int .u64 r.to, .int .u8 r.prot, .int .i64 r.ino, .int .u64 r.off, .int .u64 (addr:Int), .int .i64 n, .slice A q cq]] wn fun e w'=> ∃(Rb:Option Addr) (kk cp:Nat) (er:Int),e= .returned (.tuple #[.agg #[.slice Rb kk cp, .int .i64 er], .bool true])/\Hid (AtK w2 hb B c a fs m F k x p1 we G ck (j+1) w'):=by
 obtain⟨S,clock,p,L,l,R,cr,h1,h2,h3,h4,h5,h6,h7,h8,h9⟩:=wK
 have Vq:=h1.below Dj;refine(lh hb B c a fs m S F clock p L l R A cr cq kd sI r addr q n d wn Vq h2 ⟨h3,by omega⟩ wI).mono ?_;rintro e w' ⟨Rb,kk,cp,er,vB,S',p',L',l',R',cr',rfl,g1,g2,g3,g4,g5,g6,g7⟩;obtain⟨k1,k2⟩:=g7.away Vq.hse h6 (vW _ _ _ _ _ _ _ Vq);have hz:=Dj.size;have LI:=h8.size;refine⟨Rb,kk,cp,er,rfl,va ⟨S',vB,p',L',l',R',cr',g1,g2,by omega,by omega,(h5.trans (Dj.mono h1.hse.home.base)).trans (g5.below Vq.lowF Vq.hse.home.base),k1,fun T hT f h0=>(k2 T hT f h0).trans (h7 T hT f h0),(h8.trans (Out.refl _ _) (Mod.of Dj)).trans (Out.refl _ _) (g5.sub fun b e hG=>(h9 b hG).2 e),fun b hG=>⟨(h9 b hG).1,fun e=>(g6 b e).elim (h9 b hG).2 (fun e=>by have:=(h9 b hG).1;omega)⟩⟩⟩
variable {base cap:Nat} {X:Nat->Prop}
theorem ba.into (h:ba w base X A cap rs) (hG: ∀b,base<=b->b<w.heap.size-> ¬X b->G b):ba w base (fun b=> ¬G b) A cap rs:=
 ⟨h.row,fun g e h1=>h1 (hG g (h.row.lt g e).1 (h.row.lt g e).2 (h.noX g e)),fun r hr=>by obtain⟨h1,g,h2,h3,h4,h5,h6,h7⟩:=h.each r hr;exact⟨h1,g,h2,h3,h4,fun e=>e (hG g h3 h4 h5),h6,h7⟩⟩
variable {r:RowB}
theorem ba.bytes {j:Nat} (h:ba w base X A cap rs) (hr:rs[j]? =some r) (d:Nat->Nat) (hd: ∀i,i<4096->r.d i=d i):4096<=r.cz/\au w r.Z 4096 d:=by
 obtain⟨h1,g,h2,_,_,_,_,h7⟩:=h.each r (vl hr);refine⟨h1,fun _ =>⟨⟨g,0,none⟩,h2,fun i hi=>?_⟩⟩;rw[Addr.add_mid,Nat.zero_add,h7 i hi,hd i hi]
theorem ba.at_ {j:Nat} (h:ba w base X A cap rs) (hr:rs[j]? =some r): ∃g,A=some ⟨g,0,none⟩/\rs.length<=cap/\w.cell? ⟨g,j,none⟩=some (.slice r.Z 4096 r.cz):=by
 rcases h.row.form with⟨_,e,_⟩|⟨g,e,_⟩
 ·rw[e]at hr;simp at hr
 ·subst e;have h8:=h.row.cell mY hr 0 (by omega);rw[Nat.mul_one,Nat.add_zero]at h8;exact⟨g,rfl,h.row.formS.2.2,by rw[h8];rfl⟩
end
section
open Go.RowKit Go.Sort
theorem pv (P Q Q2:Option Addr) (n cap k xS k2 wS:Nat) (N sI:Int) (w:World) (hF:iX w P n cap) (hO:ie w Q k xS) (yQ:ie w Q2 k2 wS) (Ah:DB w) (vE:0<w.heap.size):
  Calls Tryz.prog 4 #[.agg #[.slice P n cap, .int .i64 N], .slice Q k xS, .slice Q2 k2 wS, .int .i64 sI] w (uQ w):=by
 obtain⟨w0,Db⟩: ∃w0,w0=w.alloc (.cells #[.slice P n cap, .int .i64 N] 24):=⟨_,rfl⟩;have vF:Below w.heap.size w w0:=(by rw[Db];exact vc);have hE:w0.heap[w.heap.size]? =some (.cells #[.slice P n cap, .int .i64 N] 24 (0,0)):=(by rw[Db];exact ab w _);have wz:=vF.size;have l0:w.heap.size<w0.heap.size:=(uZ hE).1;have x0:w0.cell? ⟨w.heap.size,0,none⟩=some (.slice P n cap):=aa hE 0;have x1:w0.cell? ⟨w.heap.size,1,none⟩=some (.int .i64 N):=aa hE 1;have HV:=va (mG P n cap k xS Q N w0 (hF.below vF) (hO.below vF));have HVZ:=va (fun W (hW:Below w.heap.size w W)=>mG P n cap k2 wS Q2 N W (hF.below hW) (yQ.below hW));have RR:=va (fun W (hW:Below w.heap.size w W)=>og W (Ah.same (hW.block 0 vE)) (vh vE hW.size));have HE:=va hE;have Qv:=va Db;have Es:=va Ah;have wO:=va vF;have HO:=va hO;have Bz:=va yQ;clear hE Db Ah vF hF hO yQ;go_enter Tryz.func4,Tryz.ntmps4;go_upto_region 1 with(fail);rw[<-Qv.out];go_upto_region 3 with(first
  |(go_at_call 9;(with_reducible refine(HV.out).mono ?_);rintro e wv ⟨bv,rfl,Xn,Mk⟩;have Ld:=va (wO.out.trans (Mk.mono wz));have XD:=va ((Mk.block _ l0).trans HE.out);have WQ:=va Mk;have v0:wv.cell? ⟨w.heap.size,0,none⟩=some (.slice P n cap):=aa XD.out 0;have v1:wv.cell? ⟨w.heap.size,1,none⟩=some (.int .i64 N):=aa XD.out 1;have HBVF:=va Xn;clear Mk Xn)
  |(go_at_call 9;(with_reducible refine(HVZ.out _ Ld.out).mono ?_);rintro e w1 ⟨bv2,rfl,Ur,vD⟩;have vJ:=va (Ld.out.trans (vD.mono Ld.out.size));have xF:=va ((vD.block _ (uZ XD.out).1).trans XD.out);have HBV1:=va vD;have WD:=va Ur;clear vD Ur)
  |(go_at_call 10;refine(RR.out _ vJ.out).mono ?_;rintro e w2 ⟨rfl,vM⟩)
  |(go_at_call 10;refine(RR.out _ Ld.out).mono ?_;rintro e w2 ⟨rfl,vM⟩)
  |fail)
 all_goals try(go_ret;first|exact⟨rfl,vJ.out.trans (vM.mono vJ.out.size)⟩|exact⟨rfl,Ld.out.trans (vM.mono Ld.out.size)⟩)
 have Uv:bv=false:=Bool.eq_false_iff.2 (by assumption);have Uu:bv2=false:=(by assumption);obtain⟨hk80,hN,l,wI⟩:=HBVF.out Uv;obtain⟨hk80',_,_⟩:=WD.out Uu;obtain⟨ops2,Tf,Nr⟩:=Bz.out.2 (by omega);have KS:=va Nr;have HOL2:=va Tf;have WO:=va (WQ.out.trans (HBV1.out.mono WQ.out.size));clear Uv Uu Nr Tf x0 x1 v0 v1;have wg:=vJ.out.size;have l1:w.heap.size<w1.heap.size:=(uZ xF.out).1;have y0:w1.cell? ⟨w.heap.size,0,none⟩=some (.slice P n cap):=aa xF.out 0;have y1:w1.cell? ⟨w.heap.size,1,none⟩=some (.int .i64 N):=aa xF.out 1;obtain⟨ops,Pg,Hw⟩:=HO.out.2 (by omega);have QF:=va Hw;have HOL:=va Pg;have HIN0:=va wI;clear wI Hw Pg;have xQ:=va (HIN0.out.below WO.out);have Mh:DB w1:=Es.out.same (vJ.out.block 0 vE);have h01:0<w1.heap.size:=(by omega);by_cases yV:(newM [aC] 0 l).1≠0\/N<1
 ·have HBG:=va (uq P n cap N l w1 xQ.out hN yV Mh h01);clear yV Mh;go_wp2_with (first
   |(go_at_call 11;refine(HBG.out).mono ?_;rintro e w2 ⟨rfl,vM⟩;have xC:=va (vJ.out.trans (vM.mono wg));clear vM)
   |(go_at_call 10;refine(RR.out _ xC.out).mono ?_;rintro e w3 ⟨rfl,vX⟩)
   |fail)
  go_ret;exact⟨rfl,xC.out.trans (vX.mono xC.out.size)⟩
 obtain⟨nf,rfl⟩: ∃nf:Nat,N=(nf:Int):=⟨N.toNat,by omega⟩;have HBG:=va (rQ P n cap nf l w1 xQ.out (by omega) (by omega) (vo fun h=>yV (.inl h)) Mh h01);clear yV Mh;go_upto_region 4 with(first
  |(go_at_call 11;refine(HBG.out).mono ?_;rintro e w2 ⟨B,hb,a,c,fs,m,S,rfl,xL,hse,vM,hB,hBo,hoS,hom,hoc⟩;have xC:=va (vJ.out.trans (vM.mono wg));clear vM)
  |fail)
 have PB:Hou w2 hb B c a fs m S (cV l) 0 (fresh nf) [] [] none 0 (([]:List SpM).map (·.s)):=Hou.start hse xL hBo hoS hom hoc;have WR:Hid (At11 w2 hb B c a fs m (cV l) nf 0 w2):=va ⟨S,0,fresh nf,[],[],none,0,PB,by simp,Int.le_refl _,Int.le_refl _,rfl,vz _ _⟩;have Aa:w.heap.size<=B:=(by omega);have hBw2:=PB.hse.home.base;clear xL hse PB hoS hom hoc y0 y1;go_wp2_with fail;go_loopw [11] (fun i wr=> ∃j:Nat,i= .int .i64 (j:Int)/\j<=k/\At11 w2 hb B c a fs m (cV l) nf j wr) (fun i _ =>k-(intOf i).toNat)
 case atStart=>exact⟨0,rfl,vw _,WR.out⟩
 case round=>
  obtain⟨j,rfl,hj,wK⟩:=hrel;have Cv:=va wK
  clear WR;by_cases zn:j<k
  ·obtain⟨o,ho⟩: ∃o,ops[j]? =some o:=⟨_,vg (by rw[HOL.out];exact zn)⟩;have FB:Below w.heap.size w wr:=xC.out.trans ((by obtain⟨_,_,_,_,_,_,_,_,_,_,_,_,DO⟩:=wK;exact DO:Below B w2 wr).mono Aa);obtain⟨b,off,Ao,co,rfl,⟨e0,e1,e2,e3,e4,e5,e6,e7,e8,e9⟩,EX⟩:=QF.out.at_ FB Aa ho;obtain⟨kd2,sI2,r2,Vt,n2,q2,d2⟩:=o;have hdo:=wK.does (by omega) EX;have Wt:=va hdo;have xP:(j:Int)<(k:Int):=(by omega);clear hdo EX FB wK ho;go_wp2_with (first
    |(go_at_call 15;refine(Wt.out).mono ?_;rintro e w3 ⟨Rb,kk,cp,er,rfl,Rf⟩)
    |fail)
   go_roundw
   case rel=>exact⟨j+1,by go_num,by omega,Rf.out⟩
   case measure=>(simp[intOf];omega)
  ·obtain rfl:j=k:=(by omega);obtain⟨S1,xl,p1,L1,l1,R1,cr1,PC,xO,NU,xU,hpn,DO⟩:=wK
   have XG:=DO.size;obtain⟨wq,rfl⟩: ∃wq:World,wq=wr:=⟨_,rfl⟩;have o3:=PC.cells.2;have QI:=va (ix sI l1.length (by omega) wq);have Ac:=va PC;have HB2Q:=va DO;have BA:=va (xC.out.trans (DO.mono Aa));clear PC DO Cv;go_upto_region 11 with(first
    |(go_at_call 16;refine(QI.out).mono ?_;rintro e w9 ⟨rfl,rfl⟩)
    |fail)
   clear o3;by_cases Cy:l1.length=0
   ·have hn:numI sI l1.length= -1:=(by unfold numI;rw[if_pos Cy]);rw[hn];clear hn Cy;go_wp2_with (first
     |(go_at_call 10;refine(RR.out _ BA.out).mono ?_;rintro e w3 ⟨rfl,vX⟩)
     |fail)
    go_ret;exact⟨rfl,BA.out.trans (vX.mono BA.out.size)⟩
   obtain⟨u,Sm,Ee⟩:=tp sI (n:=l1.length) (by omega);obtain⟨x,hx⟩: ∃x,l1[u]? =some x:=⟨_,vg Sm⟩;rw[Ee];have WW: ¬((u:Int)<0):=(by omega);have NT:decide ((u:Int)<0)=false:=vq WW;have xD:(u:Int)<(l1.length:Int):=(by omega);have o3:=Ac.out.cells.2;obtain⟨gR,rfl,Ij⟩:=Ac.out.at_ hx;have Lx:=va Ee;have HX:=va hx;have MC:=va (Ac.out.regsAt hx);have Wq:=va (Ac.out.regsFew hx);clear Ee hx;go_upto_region 14 with(first
    |(go_at_call 17;refine(MC.out).mono ?_;rintro e w3 ⟨A3,c3,rfl,AF,vX⟩)
    |fail)
   clear o3 Ij NT WW;have IX:=va (Ac.out.below vX);have yH:=va (BA.out.trans (vX.mono BA.out.size));have MW:=va (HB2Q.out.trans (vX.mono Ac.out.hse.home.base));have HLK:=va (tz IX.out xO ⟨NU,by omega⟩ HX.out);have xR:=vX.size;have Fo:=va AF;clear AF vX;go_upto_region 17 with(first
    |(go_at_call 18;refine(HLK.out).mono ?_;rintro e w4 (⟨A4,c4,rs,x1,l4,S4,DT,p4,L4,rfl,H4,CF,LA,HAG⟩|⟨rfl,wV⟩))
    |(go_at_call 10;refine(RR.out _ (yH.out.trans (wV.out.mono Aa))).mono ?_;rintro e w5 ⟨rfl,zZ⟩)
    |fail)
   rotate_left
   ·go_ret;have UA:=yH.out.trans (wV.out.mono Aa);exact⟨rfl,UA.trans (zZ.mono UA.size)⟩
   have AX:=CF.out.1.size;obtain⟨G,hG⟩: ∃G:Nat->Prop,G=fun b=>wq.heap.size<=b/\b<w4.heap.size/\ ¬houF S4 c m hb (some ⟨gR,0,none⟩) l4 b:=⟨_,rfl⟩;have HG:=va hG;have hBQ2:=Ac.out.hse.home.base;have HB24:=va (MW.out.trans (CF.out.1.below IX.out.lowF IX.out.hse.home.base));have HAK0:=va (show AtK w2 hb B c a fs m (cV l) u x1 p4 w4 G DT 0 w4 from⟨S4,DT,p4,L4,l4,_,cr1,H4.out.1,by rw[H4.out.2.1];exact xO,H4.out.2.2.2.2.2.1,by simp,HB24.out,H4.out.2.2.1,fun _ _ _ _ =>rfl,Mod.refl _ _,fun b e=>by rw[hG]at e;exact⟨e.2.1,e.2.2⟩⟩);have Up:0<=DT/\DT<=100000:=⟨H4.out.2.2.2.2.2.1,by have:=H4.out.2.2.2.2.2.2;omega⟩;clear hG;go_wp2_with fail;go_loopw [16] (fun i wr=> ∃j:Nat,i= .int .i64 (j:Int)/\j<=k2/\AtK w2 hb B c a fs m (cV l) u x1 p4 w4 G DT j wr) (fun i _ =>k2-(intOf i).toNat)
   case atStart=>exact⟨0,rfl,vw _,HAK0.out⟩
   case round=>
    obtain⟨j,rfl,hj,wK⟩:=hrel;have Cv:=va wK
    obtain⟨Sr,clkr,pr,Lr,lr,Rr,crr,AM,FP,hr3,hr4,Yv,Yu,Yt,Xa,Ys⟩:=wK
    have FB:Below w.heap.size w wr:=xC.out.trans (Yv.mono Aa);by_cases zn:j<k2
    ·obtain⟨o,ho⟩: ∃o,ops2[j]? =some o:=⟨_,vg (by rw[HOL2.out];exact zn)⟩;obtain⟨kd2,sI2,r2,Vt,n2,q2,d2⟩:=o;obtain⟨b,off,Ao,co,rfl,⟨e0,e1,_⟩,_⟩:=KS.out.at_ FB Aa ho;simp only at e0 e1;have o3:=AM.cells.2;have Bq:(j:Int)<(k2:Int):=(by omega);have Dh:(0:Int)<=(j:Int):=(by omega);have Hn:=va FB;have HO:=va ho;have QC:=va AM;clear AM Yv Yu Yt Xa Ys ho FB;have d0: ∀dd os,(grow (redrawn wr dd) os).cell? ⟨b,off+j*10,none⟩=some (.int .i64 kd2):=fun dd os=>cell_regrown e0 dd os;have d1: ∀dd os,(grow (redrawn wr dd) os).cell? ⟨b,off+j*10+1,none⟩=some (.int .i64 sI2):=fun dd os=>cell_regrown e1 dd os;have d3: ∀dd os,(grow (redrawn wr dd) os).cell? ⟨hb,3,none⟩=some (.slice Rr lr.length crr):=fun dd os=>cell_regrown o3 dd os;have JI:=fun dd os=>Calls.regrown_of ((ix sI2 lr.length (by omega) (grow (redrawn wr dd) os)).mono fun e w' ⟨h1,h2⟩=>⟨h1,h2▸vz (grow (redrawn wr dd) os).heap.size (grow (redrawn wr dd) os)⟩);have HNU:=va JI;clear e0 e1 o3 JI;have Zt:kd2=9\/(kd2≠9/\numI sI2 lr.length≠(u:Int))\/(kd2≠9/\numI sI2 lr.length=(u:Int)):=(by omega);rcases Zt with h9|⟨h9,vK⟩|⟨h9,heq⟩
     ·subst h9;go_upto_region 20 with(fail);refine wp_region_quiet_below (by kernel_rfl) (by kernel_rfl) ?_;(repeat(go_big_quiet_step ((exact HNU.out _ _))));refine wpQuiet_nil ?_;intro _ xI;obtain⟨⟨dq,osq⟩,hw''⟩:=xI;subst hw'';have Dj:=below_regrown (wr) dq osq;generalize grow (redrawn (wr) dq) osq=wn at Dj⊢;have HBN:=va (Hn.out.trans (Dj.mono Hn.out.size));obtain⟨b',off',Ao,co,e9',⟨e0,e1,e2,e3,e4,e5,e6,e7,e8,e9⟩,EX⟩:=KS.out.at_ HBN.out Aa HO.out;injection e9' with e9';injection e9' with e9' e10';subst e9' e10';have Wt:=va (Cv.out.does Dj Up (by omega) EX (fun _ _ _ _ _ _ _ _ => .inl rfl));clear d0 d1 d3 EX;go_wp2_with (first
       |(go_at_call 15;refine(Wt.out).mono ?_;rintro e w5 ⟨Rb,kk,cp,er,rfl,HA5⟩)
       |fail)
      go_roundw
      case rel=>exact⟨j+1,by go_num,by omega,HA5.out⟩
      case measure=>(simp[intOf];omega)
     ·have k9:(kd2==9)=false:=(by rw[vp];exact h9);have kn:(numI sI2 lr.length != (u:Int))=true:=(by rw[bne_iff_ne];exact vK);have HNE:=va vK;clear vK;go_upto_region 20 with(fail);refine wp_region_quiet_below (by kernel_rfl) (by kernel_rfl) ?_;(repeat(go_big_quiet_step ((exact HNU.out _ _))));refine wpQuiet_nil ?_;intro _ xI;obtain⟨⟨dq,osq⟩,hw''⟩:=xI;subst hw'';have Dj:=below_regrown (wr) dq osq;generalize grow (redrawn (wr) dq) osq=wn at Dj⊢;clear k9 kn;have HBN:=va (Hn.out.trans (Dj.mono Hn.out.size));obtain⟨b',off',Ao,co,e9',⟨e0,e1,e2,e3,e4,e5,e6,e7,e8,e9⟩,EX⟩:=KS.out.at_ HBN.out Aa HO.out;injection e9' with e9';injection e9' with e9' e10';subst e9' e10';have Wt:=va (Cv.out.does Dj Up (by omega) EX (fun _ _ _ _ l' _ _ h'=> .inr (by
       have e9:=h'.cells.2.symm.trans (QC.out.below Dj).cells.2;injection e9 with e9;injection e9 with _ e9 _;rw[e9];exact HNE.out)))
      clear d0 d1 d3 EX;go_wp2_with (first
       |(go_at_call 15;refine(Wt.out).mono ?_;rintro e w5 ⟨Rb,kk,cp,er,rfl,HA5⟩)
       |fail)
      go_roundw
      case rel=>exact⟨j+1,by go_num,by omega,HA5.out⟩
      case measure=>(simp[intOf];omega)
     ·have k9:(kd2==9)=false:=(by rw[vp];exact h9);have kn:(numI sI2 lr.length != (u:Int))=false:=(by rw[heq];simp);clear heq h9;go_upto_region 20 with(fail);refine wp_region_quiet_below (by kernel_rfl) (by kernel_rfl) ?_;(repeat(go_big_quiet_step ((exact HNU.out _ _))));refine wpQuiet_nil ?_;intro _ xI;obtain⟨⟨dq,osq⟩,hw''⟩:=xI;subst hw'';have Dj:=below_regrown (wr) dq osq;generalize grow (redrawn (wr) dq) osq=wn at Dj⊢;clear d0 d1 d3;go_wp2_with fail;go_roundw
      case rel=>exact⟨j+1,by go_num,by omega,Cv.out.below Dj⟩
      case measure=>(simp[intOf];omega)
    ·obtain rfl:j=k2:=(by omega);obtain⟨wx,rfl⟩: ∃wx:World,wx=wr:=⟨_,rfl⟩;have LI:=Xa.size;have HLB:=va (tx AM FP ⟨hr3,by omega⟩ Yu HAG.out Yt);have Ep:=va Xa;have QQ:=va Ys;have Hn:=va FB;have QM:=va AM.lowF;have vQ:=AM.hse.home.base;clear AM Yv Yu Yt Xa Ys FB Cv;go_upto_region 23 with(first
      |(go_at_call 18;refine(HLB.out).mono ?_;rintro e w6 ⟨A6,c6,rs2,x6,l6,S6,Qt,p6,L6,rfl,H6,Hk,XA,XE⟩)
      |fail)
     have hul6:(u:Int)<(l6.length:Int):=(by have:=(List.getElem?_eq_some_iff.1 H6.out.2.2.1).1;omega);have o3:=H6.out.1.cells.2;obtain⟨g6,rfl,Ij⟩:=H6.out.1.at_ H6.out.2.2.1;have e66:x6.regs=x.regs:=H6.out.2.2.2.1.trans H4.out.2.2.2.1;have Pc:=H6.out.1.regsAt H6.out.2.2.1;rw[e66]at Pc;have HRG6:=va Pc;have OF:=Hk.out.1.size;have ZV: ∀b,wq.heap.size<=b->b<w3.heap.size->G b:=fun b h1 h2=>by
      rw[HG.out];refine⟨h1,by omega,fun e=>(CF.out.2 b e).elim (fun e=>?_) (fun e=>by omega)⟩;have:=Ac.out.ltF b e;omega
     have yU:Mod (fun b=> ¬G b) wx w6:=Hk.out.1.sub fun b e hGb=>(QQ.out b hGb).2 e;have HRS6:=va (show RSl w6 w6.heap.size A3 x.regs.length c3 x.regs from(((Fo.out.rsl Wq.out).mod CF.out.1 (fun ad e1 e2=>by
      have h8:=Fo.out.row ad.block (by rw[e1];rfl);have h9:=Ac.out.ltF _ e2;omega)).mod Ep.out (fun ad e1 e2=>e2 (by
      have h8:=Fo.out.row ad.block (by rw[e1];rfl);exact ZV _ h8.1 h8.2))).mod yU (fun ad e1 e2=>e2 (by
      have h8:=Fo.out.row ad.block (by rw[e1];rfl);exact ZV _ h8.1 h8.2)))
     have HRW6:=va (show ba w6 w3.heap.size (fun b=> ¬G b) A4 c4 rs from((LA.out.into fun b h1 h2 h3=>by rw[HG.out];exact⟨by omega,h2,h3⟩).step Ep.out (Out.refl _ _)).step yU (Out.refl _ _));have MV:=va (Hn.out.trans ((Hk.out.1.below QM.out vQ).mono Aa));clear Pc e66 ZV yU;go_upto_region 25 with(first
      |(go_at_call 17;refine(HRG6.out).mono ?_;rintro e w7 ⟨A7,c7,rfl,Ns,Ek⟩;have HRS7:=va (sL A7 A3 x.regs.length c7 c3 w7 x.regs (Ns.rsl Wq.out) (HRS6.out.mod (X:=fun _ =>False) (Mod.of Ek) (fun _ _ e=>e.elim)));have WH:=va Ek;clear Ns Ek)
      |(go_at_call 19;refine(HRS7.out).mono ?_;rintro e w8 ⟨rfl,Ux⟩;have Rc:=va (WH.out.trans (Ux.mono WH.out.size));clear Ux)
      |fail)
     clear o3 Ij;have DY:=va (XA.out.below Rc.out);have Vu:=va (HRW6.out.below Rc.out);have HB8:=va (MV.out.trans (Rc.out.mono MV.out.size));have hrsl:rs.length<=1000000000:=by
      rcases HAG.out with⟨_,e⟩|⟨T,hT,e,_⟩
      ·rw[e];exact vw _
      ·rw[e];exact ta (H4.out.1.regsFew2 H4.out.2.2.1 hT)
     go_wp2_with fail;go_loopw [18] (fun i wy=> ∃j:Nat,i= .int .i64 (j:Int)/\j<=rs.length/\Below w8.heap.size w8 wy) (fun i _ =>rs.length-(intOf i).toNat)
     case atStart=>exact⟨0,rfl,vw _,vz _ _⟩
     case round=>
      obtain⟨q,rfl,hq,hb⟩:=hrel;have HB:=va hb;clear hb;by_cases IG:q<rs.length
      ·obtain⟨r,hr⟩: ∃r,rs[q]? =some r:=⟨rs[q],vg IG⟩;obtain⟨r2,FP⟩: ∃r2,rs2[q]? =some r2:=⟨_,vg (by rw[XE.out.1];exact IG)⟩;obtain⟨u1,rfl,Uq,a1⟩:=(DY.out.below HB.out).at_ FP;obtain⟨u2,rfl,GW,a2⟩:=(Vu.out.below HB.out).at_ hr;have zX: ∀dd os,(4096<=r2.cz/\au (grow (redrawn wr dd) os) r2.Z 4096 r.d)/\(4096<=r.cz/\au (grow (redrawn wr dd) os) r.Z 4096 r.d):=fun dd os=>by
        have h9:=HB.out.trans ((below_regrown wr dd os).mono HB.out.size);exact⟨(DY.out.below h9).bytes FP r.d (XE.out.2 q r r2 hr FP),(Vu.out.below h9).bytes hr r.d (fun i _ =>rfl)⟩
       have yM:=fun dd os=>Calls.regrown_of (iq r2.Z r.Z 4096 r2.cz r.cz r.d (grow (redrawn wr dd) os) (zX dd os).1.2 (zX dd os).2.2 (by omega) (zX dd os).1.1 (zX dd os).2.1);have f1: ∀dd os,(grow (redrawn wr dd) os).cell? ⟨u1,q,none⟩=some (.slice r2.Z 4096 r2.cz):=fun dd os=>cell_regrown a1 dd os;have f2: ∀dd os,(grow (redrawn wr dd) os).cell? ⟨u2,q,none⟩=some (.slice r.Z 4096 r.cz):=fun dd os=>cell_regrown a2 dd os;have xP:(q:Int)<(rs.length:Int):=(by omega);have yJ:(0:Int)<=(q:Int):=(by omega);have Lz:=va yM;clear yM zX a1 a2 hr FP Uq GW;go_upto_region 28 with(fail);refine wp_region_quiet_below (by kernel_rfl) (by kernel_rfl) ?_;(repeat(go_big_quiet_step ((exact Lz.out _ _))));refine wpQuiet_nil ?_;intro _ xI;obtain⟨⟨dq,osq⟩,hw''⟩:=xI;subst hw'';have Dj:=below_regrown (wr) dq osq;generalize grow (redrawn (wr) dq) osq=wn at Dj⊢;clear f1 f2;go_wp2_with fail;go_roundw
       case rel=>exact⟨q+1,by go_num,by omega,HB.out.trans (Dj.mono HB.out.size)⟩
       case measure=>(simp[intOf];omega)
      ·obtain rfl:q=rs.length:=(by omega);have hBx:Below w.heap.size w wr:=HB8.out.trans (HB.out.mono HB8.out.size);go_wp2_with (first
        |(go_at_call 10;refine(RR.out _ hBx).mono ?_;rintro e w11 ⟨rfl,ZE⟩)
        |fail)
       go_ret;exact⟨rfl,hBx.trans (ZE.mono hBx.size)⟩
end
