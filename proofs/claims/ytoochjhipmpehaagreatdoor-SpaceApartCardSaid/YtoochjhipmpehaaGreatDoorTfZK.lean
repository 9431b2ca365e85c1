/- Frames: how a pool lies in memory; -/
import Derived.Test.YtoochjhipmpehaaGreatDoorTbAK
import Derived.BigRegion
import Derived.Deep.Cut
import Derived.Deep.CutBlock
import Derived.Deep.CutRange
import Derived.Deep.DeepCutAuto
import Derived.Deep.MidRow
import Derived.Laws.Bits64b
import Derived.Laws.BitsAllLaws
import Derived.Laws.CopyOwn
import Derived.Laws.MakeOwn
import Derived.Lib.SmallJoins
import Derived.Lib.TrailingZeros
import Derived.LoopTactic
import Derived.Outline
import Derived.RegionTactic
import Derived.Test.YtoochjhipmpehaaGreatDoorRows
import Derived.WalkKit
import Derived.WalkLawsBesides
import Derived.WalkSpells
set_option linter.unusedVariables false
set_option linter.unusedSimpArgs false
set_option maxRecDepth 100000
set_option maxHeartbeats 4000000
namespace Go.Proofs.YtoochjhipmpehaaGreatDoor
section
open Go.RowKit
def rowV (n:Nat) (g:Nat->Value):Array Value:=((List.range n).map g).toArray
theorem bM (n:Nat) (g:Nat->Value):(rowV n g).size=n:=by simp[rowV]
variable {n i:Nat} {g:Nat->Value}
theorem dh (h:i<n):(rowV n g)[i]? =some (g i):=by simp[rowV,h]
theorem dI (v:Value):(rowV n g).setIfInBounds i v=rowV n (upd g i v):=by
 apply Array.ext_getElem?;intro j;rw[Array.getElem?_setIfInBounds];by_cases h:j<n
 ·rw[dh h];by_cases e:i=j
  ·subst e;rw[if_pos rfl,bM,if_pos h,dh h,af]
  ·rw[if_neg e,dh h,ag _ _ (fun e'=>e e'.symm)]
 ·rw[Array.getElem?_eq_none (by rw[bM];omega),bM,Array.getElem?_eq_none (by rw[bM];omega)];split<;>first|rfl|(split<;>first|rfl|omega)
theorem bG {h:Nat->Value} (e: ∀i,i<n->g i=h i):rowV n g=rowV n h:=by
 apply Array.ext_getElem?;intro j;by_cases hj:j<n
 ·rw[dh hj,dh hj,e j hj]
 ·rw[Array.getElem?_eq_none (by rw[bM];omega),Array.getElem?_eq_none (by rw[bM];omega)]
theorem ab (w:World) (o:Obj):(w.alloc o).heap[w.heap.size]? =some o:=by
 show(w.heap.push o)[w.heap.size]? =some o;simp
structure Mod (S:Nat->Prop) (w w':World):Prop where
 os:w'.os=w.os
 tape:w'.tape=w.tape
 output:w'.output=w.output
 size:w.heap.size<=w'.heap.size
 block: ∀b,b<w.heap.size-> ¬S b->w'.heap[b]? =w.heap[b]?
theorem Mod.refl (S:Nat->Prop) (w:World):Mod S w w:=⟨rfl,rfl,rfl,vd _,fun _ _ _ =>rfl⟩
variable {S:Nat->Prop} {w w':World}
theorem Mod.of (h:Below w.heap.size w w'):Mod S w w':=⟨h.os,h.tape,h.output,h.size,fun b hb _ =>h.block b hb⟩
variable {B:Nat}
theorem Mod.below (h:Mod S w w') (hS: ∀b,S b->B<=b) (hB:B<=w.heap.size):Below B w w':=⟨h.os,h.tape,h.output,h.size,fun b hb=>h.block b (by omega) (fun e=>by have:=hS b e;omega)⟩
def Out (S S':Nat->Prop) (w:World):Prop:= ∀b,S' b->S b\/w.heap.size<=b
theorem Out.refl (S:Nat->Prop) (w:World):Out S S w:=fun _ h=> .inl h
variable {S':Nat->Prop}
theorem Mod.trans {w'':World} (h:Mod S w w') (ho:Out S S' w) (k:Mod S' w' w''):Mod S w w'':=
 ⟨k.os.trans h.os,k.tape.trans h.tape,k.output.trans h.output,vx h.size k.size,fun b hb hs=>(k.block b (vh hb h.size) (fun e=>by
  rcases ho b e with h1|h1
  ·exact hs h1
  ·omega)).trans (h.block b hb hs)⟩
theorem Out.trans {S'':Nat->Prop} (h:Out S S' w) (k:Out S' S'' w') (hz:w.heap.size<=w'.heap.size):Out S S'' w:=fun b hb=>by
 rcases k b hb with h1|h1
 ·exact h b h1
 ·right;omega
variable {T:Nat->Prop}
theorem Mod.sub (h:Mod S w w') (hs: ∀b,S b->T b):Mod T w w':=⟨h.os,h.tape,h.output,h.size,fun b hb ht=>h.block b hb (fun e=>ht (hs b e))⟩
structure ca (w:World) (a C B F:Nat) (wd:Nat->Nat) (pt:Nat->Option Nat) (p:Pool):Prop where
 self:w.heap[a]? =some (.cells #[.slice (some ⟨C,0,none⟩) p.n p.n, .slice (some ⟨B,0,none⟩) p.n p.n, .slice (some ⟨F,0,none⟩) ((p.n+63)/64) ((p.n+63)/64), .int .i64 (p.left:Int)] 135 (0,0))
 counts:w.heap[C]? =some (.cells (rowV p.n fun f=> .int .i64 (p.cnt f:Int)) 3 (0,0))
 ptrs:w.heap[B]? =some (.cells (rowV p.n fun f=> .pointer ((pt f).map fun b=>⟨b,0,none⟩)) 251 (0,0))
 free:w.heap[F]? =some (.cells (rowV ((p.n+63)/64) fun i=> .int .u64 (wd i:Int)) 43 (0,0))
 wds: ∀i,i<(p.n+63)/64->wd i<18446744073709551616/\ ∀j,j<64->(wd i).testBit j=decide (64*i+j<p.n/\p.cnt (64*i+j)=0)
 bytes: ∀f,f<p.n->0<p.cnt f-> ∃b,pt f=some b/\w.heap[b]? =some (.cells (rowV 4096 fun i=> .int .u8 (p.dat f i:Int)) 259 (0,0))/\b≠a/\b≠C/\b≠B/\b≠F
 sole: ∀f g b,f<p.n->g<p.n->0<p.cnt f->0<p.cnt g->pt f=some b->pt g=some b->f=g
 apart:a≠C/\a≠B/\a≠F/\C≠B/\C≠F/\B≠F
 small: ∀f i,p.dat f i<256
 few:1<=p.n/\p.n<=1024
 cap: ∀f,p.cnt f<1000000000000
def DB (w:World):Prop:= ∀j,j<Lib.deBruijn64tab.length->w.cell? ⟨0,j,none⟩=some (.int .u8 (Lib.deBruijn64tab.getD j 0))
theorem DB.same (h:DB w) (hb:w'.heap[0]? =w.heap[0]?):DB w':=fun j hj=>by
 rw[<-h j hj];exact World.cell?_of_block (w:=w) hb
def qt (w:World) (S:Nat->Prop) (a:Nat) (p:Pool):Prop:= ∃C B F wd pt,ca w a C B F wd pt p/\S a/\S C/\S B/\S F/\ ∀f b,f<p.n->0<p.cnt f->pt f=some b->S b
structure am (w:World) (S:Nat->Prop) (a:Nat) (p:Pool):Prop where
 is:qt w S a p
 low: ∀b,S b->b<w.heap.size
 tab:DB w
 no0: ¬S 0
variable {a:Nat} {p:Pool}
theorem ca.same {C F:Nat} {wd:Nat->Nat} {pt:Nat->Option Nat} (h:ca w a C B F wd pt p) (S:Nat->Prop) (hS:S a/\S C/\S B/\S F/\ ∀f b,f<p.n->0<p.cnt f->pt f=some b->S b)
  (hb: ∀b,S b->w'.heap[b]? =w.heap[b]?):ca w' a C B F wd pt p:=
 ⟨(
  hb a hS.1).trans h.self,(hb C hS.2.1).trans h.counts,(hb B hS.2.2.1).trans h.ptrs,(hb F hS.2.2.2.1).trans h.free,h.wds,fun f hf hc=>by
  obtain⟨b,e,h1,h2⟩:=h.bytes f hf hc;exact⟨b,e,(hb b (hS.2.2.2.2 f b hf hc e)).trans h1,h2⟩,h.sole,h.apart,h.small,h.few,h.cap⟩
theorem am.same (h:am w S a p) (hz:w.heap.size<=w'.heap.size) (hb: ∀b,S b->w'.heap[b]? =w.heap[b]?) (h0:w'.heap[0]? =w.heap[0]?):am w' S a p:=by
 obtain⟨⟨C,B,F,wd,pt,h1,hS⟩,h2,h3,h4⟩:=h;exact⟨⟨C,B,F,wd,pt,h1.same S hS hb,hS⟩,fun b hb=>vh (h2 b hb) hz,h3.same h0,h4⟩
theorem am.pos (h:am w S a p):0<w.heap.size:=by
 obtain⟨C,B,F,wd,pt,_,ha,_⟩:=h.is;have:=h.low a ha;omega
theorem am.below (h:am w S a p) (hb:Below w.heap.size w w'):am w' S a p:=
 h.same hb.size (fun b hs=>hb.block b (h.low b hs)) (hb.block 0 h.pos)
theorem am.mod (h:am w S a p) (hm:Mod T w w') (hST: ∀b,S b-> ¬T b) (hT: ¬T 0):am w' S a p:=
 h.same hm.size (fun b hs=>hm.block b (h.low b hs) (hST b hs)) (hm.block 0 h.pos hT)
variable {p':Pool}
theorem am.turn (h:am w S a p) (hm:Mod S w w') (hi:qt w' S' a p') (ho:Out S S' w) (hl: ∀b,S' b->b<w'.heap.size):am w' S' a p':=
 ⟨hi,hl,h.tab.same (hm.block 0 h.pos h.no0),fun e=>by
  rcases ho 0 e with h1|h1
  ·exact h.no0 h1
  ·have:=h.pos;omega⟩
theorem am.stay (h:am w S a p) (hm:Mod S w w') (hi:qt w' S a p'):am w' S a p':=
 h.turn hm hi (Out.refl _ _) fun b hb=>vh (h.low b hb) hm.size
end
section
variable {j:Nat}
theorem fB (hj:j<64):2^j<18446744073709551616:=by
 have:2^j<2^64:=Nat.pow_lt_pow_right (by decide) hj;exact this
theorem pE (hj:j<64):IntKind.u64.wrap ((2:Int)^j)=((2^j:Nat):Int):=by
 rw[IntKind.wrap_u64];have h:=fB hj;have e:((2:Int)^j)=((2^j:Nat):Int):=(by simp);rw[e];clear e;generalize 2^j=m at h⊢;omega
variable {x:Nat}
theorem or_bit (hx:x<18446744073709551616) (hj:j<64):bits .or .u64 (x:Int) (IntKind.u64.wrap ((2:Int)^j))=((x|||2^j:Nat):Int):=by
 rw[pE hj,bits_or_u64_nat x (2^j) hx (fB hj)]
theorem or_lt (hx:x<18446744073709551616) (hj:j<64):x|||2^j<18446744073709551616:=by
 have:x|||2^j<2^64:=Nat.or_lt_two_pow hx (fB hj);exact this
theorem ti (x j i:Nat):(x|||2^j).testBit i=(x.testBit i || decide (j=i)):=by
 rw[Nat.testBit_or,Nat.testBit_two_pow]
theorem clr_bit (hx:x<18446744073709551616) (hj:j<64):bits .andNot .u64 (x:Int) (IntKind.u64.wrap ((2:Int)^j))=((x&&&(18446744073709551615-2^j):Nat):Int):=by
 rw[pE hj,u64_andNot_nat x (2^j) hx (fB hj)]
theorem clr_lt (hx:x<18446744073709551616):x&&&(18446744073709551615-2^j)<18446744073709551616:=Nat.lt_of_le_of_lt Nat.and_le_left hx
theorem clr_test {i:Nat} (hj:j<64) (hi:i<64):(x&&&(18446744073709551615-2^j)).testBit i=(x.testBit i&& !decide (j=i)):=by
 rw[Nat.testBit_and];congr 1;have h:=Nat.testBit_two_pow_sub_succ (x:=2^j) (n:=64) (fB hj) i;rw[show(2:Nat)^64-(2^j+1)=18446744073709551615-2^j from by
  have:=fB hj;have e:(2:Nat)^64=18446744073709551616:=(by decide);rw[e];omega]at h
 rw[h,Nat.testBit_two_pow];simp[hi]
theorem or_shift {b k:Nat} (hx:x<256^k) (hb:b<256) (hk:k<8):bits .or .u64 (x:Int) (IntKind.u64.wrap ((b:Int)*(2:Int)^(8*k)))=((x+b*256^k:Nat):Int):=by
 have e:(2:Nat)^(8*k)=256^k:=(by rw[Nat.pow_mul]);have e2:((2:Int)^(8*k))=((256^k:Nat):Int):=by
  rw[<-e];simp
 have h256:(256:Nat)^k*256<=18446744073709551616:=by
  have:(256:Nat)^(k+1)<=256^8:=Nat.pow_le_pow_right (by decide) (by omega);rw[Nat.pow_succ]at this;have e3:(256:Nat)^8=18446744073709551616:=(by decide);omega
 have vM:b*256^k<=255*256^k:=Nat.mul_le_mul_right _ (by omega);have wo:0<256^k:=Nat.pow_pos (by decide);rw[e2,show((b:Int)*((256^k:Nat):Int))=((b*256^k:Nat):Int)from by simp];have hor:x|||b*256^k=x+b*256^k:=by
  rw[<-e]at hx⊢;rw[Nat.or_comm,Nat.mul_comm b,<-Nat.two_pow_add_eq_or_of_lt hx,Nat.add_comm]
 generalize hm:b*256^k=m at *
 generalize 256^k=q at *
 have hw:IntKind.u64.wrap (m:Int)=(m:Int):=(by rw[IntKind.wrap_u64];omega);rw[hw,bits_or_u64_nat x m (by omega) (by omega),hor]
end
section
open Go.RowKit
def dW (p:Pool) (f:Int):Bool:=decide (0<=f/\f<p.n/\0<p.cnt f.toNat)
variable {p:Pool}
theorem qI {f:Int} (h:dW p f=true): ∃g:Nat,f=g/\g<p.n/\0<p.cnt g:=by
 unfold dW at h;obtain⟨h1,h2,h3⟩:=vs h;exact⟨f.toNat,by omega,by omega,h3⟩
variable {g:Nat}
theorem br :dW p (g:Int)=decide (g<p.n/\0<p.cnt g):=by
 unfold dW;rw[Bool.eq_iff_iff];simp
theorem gD {a b:Bool} (h:a=b):Ending.returned (.bool a)= .returned (.bool b):=by rw[h]
variable {w:World} {b:Nat} {cs:Array Value} {T:TypeId} {fr:Nat×Nat}
theorem aa (h:w.heap[b]? =some (.cells cs T fr)) (i:Nat):w.cell? ⟨b,i,none⟩=cs[i]? :=by simp[World.cell?,h]
theorem ae (h:w.heap[b]? =some (.cells cs T (0,0))) (i:Nat):w.frozen? ⟨b,i,none⟩=false:=by simp[World.frozen?,h]
theorem aW {n:Nat} {g:Nat->Value} (h:w.heap[b]? =some (.cells (rowV n g) T fr)) {i:Nat} (hi:i<n):w.cell? ⟨b,i,none⟩=some (g i):=by
 rw[aa h,dh hi]
theorem dV (a:Nat) (f:Int) (w:World) (S:Nat->Prop) (p:Pool) (h:am w S a p):
  Calls Tryz.prog 96 #[.pointer (some ⟨a,0,none⟩), .int .i64 f] w fun e w'=>e= .returned (.bool (dW p f))/\w=w':=by
 obtain⟨⟨C,B,F,wd,pt,hi,_⟩,_,_,_⟩:=h;have h0:w.cell? ⟨a,0,none⟩=some (.slice (some ⟨C,0,none⟩) p.n p.n):=aa hi.self 0;have hC:=hi.counts;have hn:=hi.few.2;clear hi;by_cases h1:0<=f
 ·obtain⟨g,rfl⟩:=Int.eq_ofNat_of_zero_le h1;by_cases h2:g<p.n
  ·have hc:=aW hC h2;clear hC;go_enter Tryz.func96,Tryz.ntmps96;go_wp2;go_ret;exact⟨gD (by rw[br];simp[h2]),rfl⟩
  ·clear hC;go_enter Tryz.func96,Tryz.ntmps96;go_wp2;go_ret;exact⟨gD (by rw[br];simp[h2]),rfl⟩
 ·clear hC;go_enter Tryz.func96,Tryz.ntmps96;go_wp2;go_ret;exact⟨gD ((vq (fun e=>by omega)).symm),rfl⟩
variable {a C B F x:Nat} {wd:Nat->Nat} {pt:Nat->Option Nat}
theorem ca.setCnt (h:ca w a C B F wd pt p) (hg:g<p.n) (h0:0<p.cnt g) (hx:0<x) (yY:x<1000000000000):
  ca (w.setCell ⟨C,g,none⟩ (.int .i64 (x:Int))) a C B F wd pt ⟨p.n,upd p.cnt g x,p.dat⟩:=by
 obtain⟨n1,n2,n3,n4,n5,n6⟩:=h.apart;have hz: ∀f,upd p.cnt g x f=0↔p.cnt f=0:=fun f=>by
  by_cases e:f=g
  ·subst e;rw[af];omega
  ·rw[ag _ _ e]
 have hl:Pool.left ⟨p.n,upd p.cnt g x,p.dat⟩=p.left:=ff fun i _ =>hz i;refine⟨?_,?_,?_,?_,fun i hi=>⟨(h.wds i hi).1,fun j hj=>?_⟩,fun f hf hc=>?_,fun f k b hf hk hc hd=>?_,h.apart,h.small,h.few,fun f=>?_⟩
 ·rw[hl];exact(vi _ _ _ _ n1).trans h.self
 ·rw[Joins.block_setCell h.counts,dI];congr 2;refine bG fun i _ =>?_;by_cases e:i=g
  ·subst e;rw[af];simp only[af]
  ·rw[ag _ _ e];simp only[ag _ _ e]
 ·exact(vi _ _ _ _ n4.symm).trans h.ptrs
 ·exact(vi _ _ _ _ n5.symm).trans h.free
 ·rw[(h.wds i hi).2 j hj];simp only[hz]
 ·obtain⟨b,e,h1,h2⟩:=h.bytes f hf (by have:=hz f;simp only at hc;omega);exact⟨b,e,(vi _ _ _ _ h2.2.1).trans h1,h2⟩
 ·exact h.sole f k b hf hk (by have:=hz f;simp only at hc;omega) (by have:=hz k;simp only at hd;omega)
 ·by_cases e:f=g
  ·subst e;simp only[af];exact yY
  ·simp only[ag _ _ e];exact h.cap f
variable {S:Nat->Prop}
theorem Mod.drew {w':World} (h:Mod S w w'):Mod S w w'.drew:=⟨h.os,h.tape,h.output,h.size,h.block⟩
theorem aj (hb:S b) (o:Nat) (v:Value):Mod S w (w.setCell ⟨b,o,none⟩ v):=
 ⟨rfl,rfl,rfl,by simp[World.setCell],fun k _ hk=>vi _ _ _ _ (fun e=>hk (by rw[e];exact hb))⟩
theorem up_yes (a g:Nat) (w:World) (S:Nat->Prop) (p:Pool) (h:am w S a p) (ht:dW p (g:Int)=true) (wY:p.cnt g+1<1000000000000):
  Calls Tryz.prog 117 #[.pointer (some ⟨a,0,none⟩), .int .i64 g] w fun e w'=>e= .returned (.int .i64 0)/\am w' S a (p.up g)/\Mod S w w':=by
 have hT:=fun W=>dV a (g:Int) W S p;rw[ht]at hT;have HT:=va hT;have HP:=va h;obtain⟨⟨C,B,F,wd,pt,hi,hS⟩,wk,_,_⟩:=h;have h0:w.cell? ⟨a,0,none⟩=some (.slice (some ⟨C,0,none⟩) p.n p.n):=aa hi.self 0;have hg:g<p.n/\0<p.cnt g:=(by rw[br]at ht;exact vs ht);obtain⟨hg,wo⟩:=hg;have hc:=aW hi.counts hg;have hf:=ae hi.counts g;have hn:=hi.few.2;have hcap':p.cnt g<1000000000000:=(by omega);have HI:=va hi;clear hi hT ht wk;go_enter Tryz.func117,Tryz.ntmps117;go_wp2_with (go_at_call 96;refine(HT.out _ HP.out).mono ?_;rintro e w1 ⟨rfl,rfl⟩);go_ret;refine⟨rfl,HP.out.stay (aj hS.2.1 _ _) ⟨C,B,F,wd,pt,HI.out.setCnt hg wo (by omega) (by omega),hS.1,hS.2.1,hS.2.2.1,hS.2.2.2.1,fun f b hf hc he=>hS.2.2.2.2 f b hf ?_ he⟩,aj hS.2.1 _ _⟩;by_cases e:f=g
 ·subst e;exact wo
 ·simp only[Pool.up,ag _ _ e]at hc;exact hc
theorem tZ (a g:Nat) (w:World) (S:Nat->Prop) (p:Pool) (h:am w S a p) (hg:g<p.n) (h2:2<=p.cnt g):
  Calls Tryz.prog 59 #[.pointer (some ⟨a,0,none⟩), .int .i64 g] w fun e w'=>e= .returned (.int .i64 0)/\am w' S a (p.down g)/\Mod S w w':=by
 have ht:dW p (g:Int)=true:=(by rw[br];exact vr ⟨hg,by omega⟩);have hT:=fun W=>dV a (g:Int) W S p;rw[ht]at hT;have HT:=va hT;have HP:=va h;obtain⟨⟨C,B,F,wd,pt,hi,hS⟩,wk,_,_⟩:=h;have h0:w.cell? ⟨a,0,none⟩=some (.slice (some ⟨C,0,none⟩) p.n p.n):=aa hi.self 0;have hc:=aW hi.counts hg;have hf:=ae hi.counts g;have hn:=hi.few.2;have wY:=hi.cap g;have haC:=hi.apart.1;have hd:((p.cnt g:Int)-1==0)=false:=(by rw[vp];omega);have HI:=va hi;clear hi hT ht wk;go_enter Tryz.func59,Tryz.ntmps59;go_wp2_with (go_at_call 96;refine(HT.out _ HP.out).mono ?_;rintro e w1 ⟨rfl,rfl⟩);go_ret;rw[show((p.cnt g:Int)-1)=((p.cnt g-1:Nat):Int)from by omega];refine⟨rfl,HP.out.stay (aj hS.2.1 _ _) ⟨C,B,F,wd,pt,HI.out.setCnt hg (by omega) (by omega) (by omega),hS.1,hS.2.1,hS.2.2.1,hS.2.2.2.1,fun f b hf hc he=>hS.2.2.2.2 f b hf ?_ he⟩,aj hS.2.1 _ _⟩;by_cases e:f=g
 ·subst e;omega
 ·simp only[Pool.down,ag _ _ e]at hc;exact hc
variable {W:World}
theorem ca.turn (h:ca w a C B F wd pt p) {y L:Nat} (hg:g<p.n) (hx:x<1000000000000)
  (hy:y<18446744073709551616) (hyb: ∀j,j<64->y.testBit j=if j=g % 64 then decide (x=0)else(wd (g/64)).testBit j) (hL:L=bV (upd p.cnt g x) p.n)
  (hW:W.heap=(((w.setCell ⟨C,g,none⟩ (.int .i64 (x:Int))).setCell ⟨F,g/64,none⟩ (.int .u64 (y:Int))).setCell ⟨a,3,none⟩ (.int .i64 (L:Int))).heap) (hb:p.cnt g=0->x=0):
  ca W a C B F (upd wd (g/64) y) pt ⟨p.n,upd p.cnt g x,p.dat⟩:=by
 obtain⟨n1,n2,n3,n4,n5,n6⟩:=h.apart;have far: ∀b,b≠C->b≠F->b≠a->W.heap[b]? =w.heap[b]? :=fun b h1 h2 h3=>by
  rw[hW];exact(vi _ _ _ _ h3).trans ((vi _ _ _ _ h2).trans (vi _ _ _ _ h1))
 refine⟨?_,?_,?_,?_,fun i hi=>?_,fun f hf hc=>?_,fun f k b hf hk hc hd=>?_,h.apart,h.small,h.few,fun f=>?_⟩
 ·rw[hW,Joins.block_setCell ((vi _ _ _ _ n3).trans ((vi _ _ _ _ n1).trans h.self))];show _ =some (Obj.cells #[_,_,_,Value.int .i64 ((bV (upd p.cnt g x) p.n:Nat):Int)] _ _);rw[<-hL];rfl
 ·rw[hW,(vi _ _ _ _ n1.symm),(vi _ _ _ _ n5),Joins.block_setCell h.counts,dI];congr 2;refine bG fun i _ =>?_;by_cases e:i=g
  ·subst e;rw[af];simp only[af]
  ·rw[ag _ _ e];simp only[ag _ _ e]
 ·exact(far B n4.symm n6 n2.symm).trans h.ptrs
 ·rw[hW,(vi _ _ _ _ n3.symm),Joins.block_setCell ((vi _ _ _ _ n5.symm).trans h.free),dI];congr 2;refine bG fun i _ =>?_;by_cases e:i=g/64
  ·subst e;rw[af];simp only[af]
  ·rw[ag _ _ e];simp only[ag _ _ e]
 ·simp only at hi;by_cases e:i=g/64
  ·subst e;rw[af];refine⟨hy,fun j hj=>?_⟩;rw[hyb j hj];by_cases e2:j=g % 64
   ·subst e2;rw[if_pos rfl,show 64*(g/64)+g % 64=g from by omega];simp only[af];simp[hg]
   ·rw[if_neg e2,(h.wds _ hi).2 j hj];simp only[ag p.cnt x (show 64*(g/64)+j≠g from by omega)]
  ·rw[ag _ _ e];refine⟨(h.wds i hi).1,fun j hj=>?_⟩;rw[(h.wds i hi).2 j hj];simp only[ag p.cnt x (show 64*i+j≠g from by omega)]
 ·simp only at hf hc;have NV:0<p.cnt f:=by
   by_cases e:f=g
   ·subst e;rw[af]at hc;rcases Nat.eq_zero_or_pos (p.cnt f)with h0|h0
    ·have:=hb h0;omega
    ·exact h0
   ·rw[ag _ _ e]at hc;exact hc
  obtain⟨b,e,h1,h2⟩:=h.bytes f hf NV;exact⟨b,e,(far b h2.2.1 h2.2.2.2 h2.1).trans h1,h2⟩
 ·have key: ∀f,0<upd p.cnt g x f->0<p.cnt f:=fun f hc=>by
   by_cases e:f=g
   ·subst e;rw[af]at hc;rcases Nat.eq_zero_or_pos (p.cnt f)with h0|h0
    ·have:=hb h0;omega
    ·exact h0
   ·rw[ag _ _ e]at hc;exact hc
  exact h.sole f k b hf hk (key f hc) (key k hd)
 ·by_cases e:f=g
  ·subst e;simp only[af];exact hx
  ·simp only[ag _ _ e];exact h.cap f
theorem ca.last (h:ca w a C B F wd pt p) (hg:g<p.n) (h1:p.cnt g=1)
  (hW:W.heap=(((w.setCell ⟨C,g,none⟩ (.int .i64 0)).setCell ⟨F,g/64,none⟩ (.int .u64 (bits .or .u64 (wd (g/64):Int) (IntKind.u64.wrap (2^(g % 64)))))).setCell ⟨a,3,none⟩ (.int .i64 ((p.left:Int)+1))).heap):
  ca W a C B F (upd wd (g/64) (wd (g/64)|||2^(g % 64))) pt (p.down g):=by
 have GP:g/64<(p.n+63)/64:=(by omega);have hw:=h.wds _ GP;have hm:g % 64<64:=Nat.mod_lt _ (by decide);rw[or_bit hw.1 hm]at hW;have hL:=fJ (c:=p.cnt) (x:=0) hg;rw[if_neg (by omega),if_pos rfl]at hL;have:=h.turn (x:=0) (y:=wd (g/64)|||2^(g % 64)) (L:=p.left+1) (W:=W) hg (by omega) (or_lt hw.1 hm) (fun j hj=>?_) (by unfold Pool.left;omega) (by rw[hW];rfl) (fun e=>rfl)
 ·rw[show(⟨p.n,upd p.cnt g 0,p.dat⟩:Pool)=p.down g from by unfold Pool.down;rw[h1]]at this;exact this
 ·rw[ti];by_cases e:j=g % 64
  ·subst e;simp
  ·rw[if_neg e,vq (fun e'=>e e'.symm),Bool.or_false]
theorem ua (a g:Nat) (w:World) (S:Nat->Prop) (p:Pool) (h:am w S a p) (hg:g<p.n) (h1:p.cnt g=1):
  Calls Tryz.prog 59 #[.pointer (some ⟨a,0,none⟩), .int .i64 g] w fun e w'=>e= .returned (.int .i64 0)/\am w' S a (p.down g)/\Mod S w w':=by
 have ht:dW p (g:Int)=true:=(by rw[br];exact vr ⟨hg,by omega⟩);have hT:=fun W=>dV a (g:Int) W S p;rw[ht]at hT;have HT:=va hT;have HP:=va h;obtain⟨⟨C,B,F,wd,pt,hi,hS⟩,wk,_,_⟩:=h;have h0:w.cell? ⟨a,0,none⟩=some (.slice (some ⟨C,0,none⟩) p.n p.n):=aa hi.self 0;have h2:w.cell? ⟨a,2,none⟩=some (.slice (some ⟨F,0,none⟩) ((p.n+63)/64) ((p.n+63)/64)):=aa hi.self 2;have h3:w.cell? ⟨a,3,none⟩=some (.int .i64 (p.left:Int)):=aa hi.self 3;have f3:=ae hi.self 3;have hc:=aW hi.counts hg;rw[h1]at hc;have hf:=ae hi.counts g;have hn:=hi.few.2;have GP:g/64<(p.n+63)/64:=(by omega);have hw:=aW hi.free GP;have fw:=ae hi.free (g/64);obtain⟨n1,n2,n3,n4,n5,n6⟩:=hi.apart;have hl:p.left<=p.n:=nK _ _;have H1:=va h1;have HI:=va hi;clear hi hT ht wk h1;go_enter Tryz.func59,Tryz.ntmps59;go_wp2_with (go_at_call 96;refine(HT.out _ HP.out).mono ?_;rintro e w1 ⟨rfl,rfl⟩);go_region;go_wp2;go_ret;have hm:Mod S w (((w.setCell ⟨C,g,none⟩ (.int .i64 0)).setCell ⟨F,g/64,none⟩ (.int .u64 (bits .or .u64 (wd (g/64):Int) (IntKind.u64.wrap (2^(g % 64)))))).setCell ⟨a,3,none⟩ (.int .i64 ((p.left:Int)+1))).drew:=
  (((aj hS.2.1 _ _).trans (Out.refl _ _) (aj hS.2.2.2.1 _ _)).trans (Out.refl _ _) (aj hS.1 _ _)).drew
 refine⟨rfl,HP.out.stay hm ⟨C,B,F,_,pt,HI.out.last hg H1.out rfl,hS.1,hS.2.1,hS.2.2.1,hS.2.2.2.1,fun f b hf hc he=>hS.2.2.2.2 f b hf ?_ he⟩,hm⟩;by_cases e:f=g
 ·subst e;rw[H1.out];decide
 ·simp only[Pool.down,ag _ _ e]at hc;exact hc
end
section
open Go.RowKit
theorem cZ (a g:Nat) (w:World) (S:Nat->Prop) (p:Pool) (h:am w S a p) (hg:g<p.n) (h1:1<=p.cnt g):
  Calls Tryz.prog 59 #[.pointer (some ⟨a,0,none⟩), .int .i64 g] w fun e w'=>e= .returned (.int .i64 0)/\am w' S a (p.down g)/\Mod S w w':=by
 rcases Nat.lt_or_ge 1 (p.cnt g)with h2|h2
 ·exact tZ a g w S p h hg h2
 ·exact ua a g w S p h hg (by omega)
def bF (p:Pool) (f:Int):Nat:=if dW p f=true then p.cnt f.toNat else 0
theorem aR {p:Pool} {g:Nat} (hg:g<p.n):bF p (g:Int)=p.cnt g:=by
 unfold bF;rw[br];by_cases h:0<p.cnt g
 ·simp[hg,h]
 ·simp[hg,h];omega
theorem lG {k:IntKind} {a b:Int} (h:a=b):Ending.returned (.int k a)= .returned (.int k b):=by rw[h]
theorem gU (a:Nat) (f:Int) (w:World) (S:Nat->Prop) (p:Pool) (h:am w S a p):
  Calls Tryz.prog 81 #[.pointer (some ⟨a,0,none⟩), .int .i64 f] w fun e w'=>e= .returned (.int .i64 (bF p f:Int))/\w=w':=by
 have hT:=fun W=>dV a f W S p;have HP:=va h;obtain⟨⟨C,B,F,wd,pt,hi,hS⟩,wk,_,_⟩:=h;have h0:w.cell? ⟨a,0,none⟩=some (.slice (some ⟨C,0,none⟩) p.n p.n):=aa hi.self 0;have hn:=hi.few.2;cases ht:dW p f with
 |true=>
  obtain⟨g,rfl,hg,wo⟩:=qI ht;have hc:=aW hi.counts hg;have HC:Hid (bF p (g:Int)=p.cnt g):=va (aR hg);rw[ht]at hT;have HT:=va hT;clear hi hT ht wk hS;go_enter Tryz.func81,Tryz.ntmps81;go_wp2_with (go_at_call 96;refine(HT.out _ HP.out).mono ?_;rintro e w1 ⟨rfl,rfl⟩);go_ret;exact⟨lG (by rw[HC.out]),rfl⟩
 |false=>
  have HC:Hid (bF p f=0):=va (by unfold bF;rw[ht];rfl);rw[ht]at hT;have HT:=va hT;clear hi hT ht wk hS;go_enter Tryz.func81,Tryz.ntmps81;go_wp2_with (go_at_call 96;refine(HT.out _ HP.out).mono ?_;rintro e w1 ⟨rfl,rfl⟩);go_ret;exact⟨lG (by rw[HC.out];rfl),rfl⟩
end
section
open Go.RowKit
theorem nw (z:Value) (n:Nat):madeCells #[z] n=rowV n fun _ =>z:=by
 apply Array.ext_getElem?;intro j;by_cases h:j<n
 ·rw[dh h];simp[madeCells,h,Nat.mod_one]
 ·rw[Array.getElem?_eq_none (by rw[size_madeCells];omega),Array.getElem?_eq_none (by rw[bM];omega)]
def eC (gd gs:Nat->Value) (o so k:Nat):Nat->Value:=fun i=>if o<=i/\i<o+k then gs (so+(i-o))else gd i
variable {n:Nat}
theorem jD {m o so k:Nat} {gd gs:Nat->Value} (h1:o+k<=n) (h2:so+k<=m):
  ((rowV n gd).toList.take o++(((List.range k).map fun i=>gs (so+i))++(rowV n gd).toList.drop (o+k))).toArray=rowV n (eC gd gs o so k):=by
 apply Array.ext_getElem?;intro j;have hl:(rowV n gd).toList.length=n:=(by rw[Array.length_toList,bM]);rw[List.getElem?_toArray];by_cases hj:j<n
 ·rw[dh hj];unfold eC;by_cases c1:j<o
  ·rw[vk (by rw[List.length_take,hl];omega),List.getElem?_take,if_pos c1,Array.getElem?_toList,dh hj,if_neg (by omega)]
  ·rw[vj (by rw[List.length_take,hl];omega),List.length_take,hl,Nat.min_eq_left (by omega)];by_cases c2:j<o+k
   ·rw[vk (by simp;omega),if_pos (by omega),vt,List.getElem?_range (by omega)];rfl
   ·rw[vj (by simp;omega),if_neg (by omega),List.getElem?_drop,Array.getElem?_toList];simp only[List.length_map,List.length_range];rw[show o+k+(j-o-k)=j from by omega,dh hj]
 ·rw[Array.getElem?_eq_none (by rw[bM];omega),List.getElem?_eq_none];simp[hl];omega
variable {w:World} {ops:Array Oper} {rest:List Oper} {o:Oper} {a:Act} {Q:Exit->Act->World->Prop}
theorem iY (yv:o.guard=none) (d s:Operand) (dT sT:TypeId)
  (ho:o.op= .call { callee:= .builtin .copy,args:= #[d,s],argTypes:= #[dT,sT]}) (elem:TypeId) (hu:Tryz.prog.underlying dT=some (.slice elem)) (Lj:(Tryz.prog.info? elem).map (·.size)=some 1)
  (g off dLen dCap h so sLen sCap k:Nat) (hd:a.eval d= .slice (some ⟨g,off,none⟩) dLen dCap) (hs:a.eval s= .slice (some ⟨h,so,none⟩) sLen sCap) (hk:k=Nat.min sLen dLen)
  (n m:Nat) (gd gs:Nat->Value) (t t':TypeId) (hg:w.heap[g]? =some (.cells (rowV n gd) t (0,0))) (fr:Nat×Nat) (hh:w.heap[h]? =some (.cells (rowV m gs) t' fr)) (h1:off+k<=n) (h2:so+k<=m)
  (xj: ∀i,(gs i).oneCell'=true)
  (hc:wpList Tryz.prog ops Q rest (a.put o.dst (goInt k)) (w.setRow g (rowV n (eC gd gs off so k)))):wpList Tryz.prog ops Q (o::rest) a w:=by
 refine wpList_copy_own yv d s dT sT ho elem hu Lj g off dLen dCap ⟨h,so,none⟩ sLen sCap hd hs (rowV n gd) t hg ((List.range k).map fun i=>gs (so+i)) (by simp[hk]) (fun j v hv=>?_) (by rw[bM];simpa using h1) (fun v hv=>?_) ?_
 ·have zn:j<k:=by
   have:=(List.getElem?_eq_some_iff.1 hv).1;simpa using this
  rw[vt,List.getElem?_range zn]at hv;simp only[Option.map_some,Option.some.injEq]at hv;subst hv;have e:(⟨h,so,none⟩:Addr).add j=⟨h,so+j,none⟩:=by unfold Addr.add;split<;>simp_all
  rw[e,aa hh,dh (by omega)]
 ·obtain⟨i,_,rfl⟩:=List.mem_map.1 hv;exact xj _
 ·have Ef:=jD (gd:=gd) (gs:=gs) h1 h2;simp only[List.length_map,List.length_range];rw[Ef];exact hc
variable {b:Nat}
theorem tv {S:Nat->Prop} (hb:S b) (cs:Array Value):Mod S w (w.setRow b cs):=
 ⟨rfl,rfl,rfl,by simp[World.setRow],fun k _ hk=>setRow_other w b k cs (fun e=>hk (by rw[e];exact hb))⟩
def aO (w:World) (b n:Nat) (d:Nat->Nat):Prop:=w.heap[b]? =some (.cells (rowV n fun i=> .int .u8 (d i:Int)) 5 (0,0))
theorem sf:(Tryz.prog.info? 5).map (·.size)=some 1:=by kernel_rfl
theorem jA:(Tryz.prog.info? 5).map (fun i=>(i.zero,i.size,i.bytes))=some (some (.int .u8 0),1,1):=by kernel_rfl
theorem iz (n:Nat) (hn:n<=1000000) (W:World):(Instr.makeSlice 39 (.int .i64 (n:Int)) (.int .i64 (n:Int))).run Tryz.prog W= .ok (.slice (some ⟨W.heap.size,0,none⟩) n n) (W.alloc (.cells (rowV n fun _ => .int .u8 0) 5)):=by
 obtain⟨i0,yb,wz,wg,wm⟩:=info_parts jA;have h:=run_make (P:=Tryz.prog) W 39 5 i0 (.int .u8 0) Tryz.underlying39 yb wz .i64 .i64 (n:Int) (n:Int) (by omega) (by omega) (by rw[wm];omega) (by omega);rw[h,wg];simp[Value.cells,nw]
theorem kj:Tryz.prog.arrayLen 259=4096:=by kernel_rfl
theorem lc:Tryz.prog.elem 259=5:=by kernel_rfl
theorem nL:Tryz.prog.underlying 259=some (.array (Tryz.prog.arrayLen 259) (Tryz.prog.elem 259)):=by kernel_rfl
theorem mH (W:World):(sizeOf 5).run Tryz.prog W= .ok 1 W:=by
 obtain⟨i0,yb,wz,wg,wm⟩:=info_parts jA;simp[sizeOf,typeInfo,yb,wg]
theorem oB (b off n:Nat) (h:off+n<=4096) (W:World):
  (Instr.sliceAt 259 (.pointer (some ⟨b,0,none⟩)) (some (.int .i64 (off:Int))) (some (.int .i64 ((off:Int)+(n:Int)))) (some (.int .i64 ((off:Int)+(n:Int))))).run Tryz.prog W= .ok (.slice (some ⟨b,if n=0 then 0 else off,none⟩) n n) W:=by
 have h1:=run_sliceAt_array_lhm W 259 ⟨b,0,none⟩ nL .i64 .i64 .i64 (off:Int) ((off:Int)+(n:Int)) ((off:Int)+(n:Int)) (by omega) (by omega) (by omega) (by rw[kj];omega);rw[h1,lc,mH];have e:((off:Int)+(n:Int)).toNat=off+n:=(by omega);simp only[Result.andThen_ok,slicedAt,e,Int.toNat_natCast,Nat.add_sub_cancel_left];by_cases hn:n=0
 ·subst hn;simp
 ·rw[if_neg (by omega),if_neg hn];unfold Addr.add;split<;>simp_all
theorem fG (a g off n:Nat) (w:World) (S:Nat->Prop) (p:Pool) (h:am w S a p) (hg:g<p.n) (h1:1<=p.cnt g) (ho:off<=4096) (hn:n<=4096-off):
  Calls Tryz.prog 122 #[.pointer (some ⟨a,0,none⟩), .int .i64 g, .int .i64 off, .int .i64 n] w
   fun e w'=>e= .returned (.tuple #[.slice (some ⟨w.heap.size,0,none⟩) n n, .int .i64 0])/\aO w' w.heap.size n (fun i=>p.dat g (off+i))/\w.heap.size<w'.heap.size/\Below w.heap.size w w':=by
 have ht:dW p (g:Int)=true:=(by rw[br];exact vr ⟨hg,by omega⟩);have hT:=fun W=>dV a (g:Int) W S p;rw[ht]at hT;have HT:=va hT;have HP:=va h;obtain⟨⟨C,B,F,wd,pt,hi,hS⟩,wk,_,_⟩:=h;have h1':w.cell? ⟨a,1,none⟩=some (.slice (some ⟨B,0,none⟩) p.n p.n):=aa hi.self 1;obtain⟨b,vD,vM,vX,vZ,zZ,Bt⟩:=hi.bytes g hg (by omega);have SZ:=aW hi.ptrs hg;rw[vD]at SZ;have RA:=wk a hS.1;have hbB:=wk B hS.2.2.1;have Im:=wk b (hS.2.2.2.2 g b hg (by omega) vD);have hN:=hi.few.2;have xC:=va vM;have GK:=iz n (by omega);clear hi hT ht wk hS vD vM;go_enter Tryz.func122,Tryz.ntmps122;go_upto_region 6 with(go_at_call 96;refine(HT.out _ HP.out).mono ?_;rintro e w1 ⟨rfl,rfl⟩);have hX:(w.alloc (.cells (rowV n fun _ => .int .u8 0) 5)).heap[w.heap.size]? =some (.cells (rowV n fun _ => .int .u8 0) 5 (0,0)):=ab w _;have hY:(w.alloc (.cells (rowV n fun _ => .int .u8 0) 5)).heap[b]? =some (.cells (rowV 4096 fun i=> .int .u8 (p.dat g i:Int)) 259 (0,0)):=(ve _ _ _ Im).trans xC.out;have HX:=va hX;have HY:=va hY;clear hX hY;have WY:=oB b off n (by omega);have hso:(if n=0 then 0 else off)+n<=4096:=by split<;>omega
 generalize zP:(if n=0 then 0 else off)=so at *
 have zv:=va zP;clear zP;go_wp2_with ((with_reducible refine iY rfl (.tmp 39) (.tmp 55) 39 39 rfl 5 Tryz.underlying39 sf w.heap.size 0 n n b so n n n rfl rfl (by simp) n 4096 _ _ _ _ HX.out _ HY.out (by omega) (by omega) (fun _ =>rfl) ?_));go_ret2;refine⟨rfl,?_,by simp[World.setRow],?_⟩
 ·unfold aO;rw[setRow_heap _ _ _ _ _ _ HX.out];congr 2;refine bG fun i hi=>?_;unfold eC;rw[if_pos (by omega),<-zv.out,if_neg (by omega)];simp
 ·exact below_setRow vc (vd _) _
def au (w:World) (A:Option Addr) (n:Nat) (d:Nat->Nat):Prop:=0<n-> ∃ad,A=some ad/\ ∀j,j<n->w.cell? (ad.add j)=some (.int .u8 (d j:Int))
variable {d:Nat->Nat}
theorem aO.v (h:aO w b n d):au w (some ⟨b,0,none⟩) n d:=fun _ =>⟨_,rfl,fun j hj=>by
 rw[Addr.add_mid,Nat.zero_add];exact aW h hj⟩
variable {B:Nat}
theorem au.below {w':World} {A:Option Addr} (h:au w A n d) (hb:Below B w w') (hA: ∀ad,A=some ad->ad.block<B):au w' A n d:=fun h0=>by
 obtain⟨ad,e,hc⟩:=h h0;refine⟨ad,e,fun j hj=>?_⟩;rw[<-hc j hj];refine hb.cell ?_;have:(ad.add j).block=ad.block:=by unfold Addr.add;split<;>rfl
 rw[this];exact hA ad e
theorem ii (yv:o.guard=none) (d s:Operand)
  (ho:o.op= .call { callee:= .builtin .copy,args:= #[d,s],argTypes:= #[39,39]})
  (g off dLen dCap n sCap:Nat) (A:Option Addr) (hd:a.eval d= .slice (some ⟨g,off,none⟩) dLen dCap) (hs:a.eval s= .slice A n sCap) (hk:n<=dLen)
  (N:Nat) (gd:Nat->Value) (e:Nat->Nat) (t:TypeId) (hg:w.heap[g]? =some (.cells (rowV N gd) t (0,0))) (hA:au w A n e) (h1:off+n<=N)
  (hc:wpList Tryz.prog ops Q rest (a.put o.dst (goInt n)) (w.setRow g (rowV N (eC gd (fun i=> .int .u8 (e i:Int)) off 0 n)))):wpList Tryz.prog ops Q (o::rest) a w:=by
 rcases Nat.eq_zero_or_pos n with rfl|hn
 ·have h0:=wpList_copy_nothing (P:=Tryz.prog) (w:=w) (ops:=ops) (rest:=rest) (Q:=Q) yv d s 39 39 ho 5 Tryz.underlying39 sf _ _ dLen dCap 0 sCap hd hs (by simp);refine h0 ?_;have e1:w.setRow g (rowV N (eC gd (fun i=> .int .u8 (e i:Int)) off 0 0))=w:=by
   rw[bG (h:=gd) (fun i hi=>by unfold eC;rw[if_neg (by omega)])];exact setRow_self w g _ t _ hg
  rw[e1]at hc;exact hc
 ·obtain⟨ad,rfl,yK⟩:=hA hn;refine wpList_copy_own yv d s 39 39 ho 5 Tryz.underlying39 sf g off dLen dCap ad n sCap hd hs (rowV N gd) t hg ((List.range n).map fun i=> .int .u8 (e i:Int)) (by rw[List.length_map,List.length_range];exact(Nat.min_eq_left hk).symm) (fun j v hv=>?_) (by rw[bM];simpa using h1) (fun v hv=>?_) ?_
  ·have zn:j<n:=by
    have:=(List.getElem?_eq_some_iff.1 hv).1;simpa using this
   rw[vt,List.getElem?_range zn]at hv;simp only[Option.map_some,Option.some.injEq]at hv;subst hv;exact yK j zn
  ·obtain⟨i,_,rfl⟩:=List.mem_map.1 hv;rfl
  ·have Ef:=jD (gd:=gd) (gs:=fun i=> .int .u8 (e i:Int)) (so:=0) h1 (vd (0+n));simp only[List.length_map,List.length_range];simp only[Nat.zero_add]at Ef;rw[Ef];exact hc
theorem ca.setBytes {a C F g:Nat} {wd:Nat->Nat} {pt:Nat->Option Nat} {p:Pool} (h:ca w a C B F wd pt p) (hg:g<p.n) (h1:1<=p.cnt g) (hb:pt g=some b) (d:Nat->Nat) (hd: ∀i,d i<256)
  {v:Nat->Value} (hv: ∀i,i<4096->v i= .int .u8 (d i:Int)):ca (w.setRow b (rowV 4096 v)) a C B F wd pt (p.store g d):=by
 obtain⟨b',e,h2,h3,h4,h5,h6⟩:=h.bytes g hg h1;rw[hb]at e;injection e with e;subst e;have far: ∀k,k≠b->(w.setRow b (rowV 4096 v)).heap[k]? =w.heap[k]? :=fun k hk=>setRow_other w b k _ hk;refine⟨(far a h3.symm).trans h.self,(far C h4.symm).trans h.counts,(far B h5.symm).trans h.ptrs,(far F h6.symm).trans h.free,h.wds,fun f hf hc=>?_,h.sole,h.apart,fun f i=>?_,h.few,h.cap⟩
 ·obtain⟨b',e,k2,k3⟩:=h.bytes f hf hc;refine⟨b',e,?_,k3⟩;by_cases ef:f=g
  ·subst ef;rw[hb]at e;injection e with e;subst e;have wj:rowV 4096 v=rowV 4096 fun i=> .int .u8 ((p.store f d).dat f i:Int):=bG fun i hi=>by
    rw[hv i hi];simp only[Pool.store,af]
   rw[setRow_heap w b _ _ _ _ h2,wj]
  ·have:b'≠b:=fun e2=>ef (h.sole f g b hf hg hc h1 (by rw[e,e2]) hb);rw[far b' this,k2];simp only[Pool.store,ag _ _ ef]
 ·by_cases ef:f=g
  ·subst ef;simp only[Pool.store,af];exact hd i
  ·simp only[Pool.store,ag _ _ ef];exact h.small f i
theorem iZ (b off:Nat) (h:off<=4096) (W:World):
  (Instr.sliceAt 259 (.pointer (some ⟨b,0,none⟩)) (some (.int .i64 (off:Int))) none none).run Tryz.prog W= .ok (.slice (some ⟨b,if off=4096 then 0 else off,none⟩) (4096-off) (4096-off)) W:=by
 have h1:=run_sliceAt_array_l W 259 ⟨b,0,none⟩ nL .i64 (off:Int) (by omega) (by rw[kj];omega);rw[h1,lc,mH,kj];simp only[Result.andThen_ok,slicedAt,Int.toNat_natCast];by_cases hn:off=4096
 ·subst hn;simp
 ·rw[if_neg (by omega),if_neg hn];unfold Addr.add;split<;>simp_all
def laid (d0 d:Nat->Nat) (off n:Nat):Nat->Nat:=fun i=>if off<=i/\i<off+n then d (i-off)else d0 i
theorem gw (a g off n c:Nat) (A:Option Addr) (d:Nat->Nat) (w:World) (S:Nat->Prop) (p:Pool) (h:am w S a p) (hg:g<p.n) (h1:1<=p.cnt g) (ho:off<=4096) (hn:n<=4096-off) (hA:au w A n d) (hd: ∀j,d j<256):
  Calls Tryz.prog 124 #[.pointer (some ⟨a,0,none⟩), .int .i64 g, .int .i64 off, .slice A n c] w
   fun e w'=>e= .returned (.int .i64 0)/\am w' S a (p.store g (laid (p.dat g) d off n))/\Mod S w w':=by
 have ht:dW p (g:Int)=true:=(by rw[br];exact vr ⟨hg,by omega⟩);have hT:=fun W=>dV a (g:Int) W S p;rw[ht]at hT;have HT:=va hT;have HP:=va h;obtain⟨⟨C,B,F,wd,pt,hi,hS⟩,wk,_,_⟩:=h;have h1':w.cell? ⟨a,1,none⟩=some (.slice (some ⟨B,0,none⟩) p.n p.n):=aa hi.self 1;obtain⟨b,vD,vM,vX,vZ,zZ,Bt⟩:=hi.bytes g hg (by omega);have SZ:=aW hi.ptrs hg;rw[vD]at SZ;have hN:=hi.few.2;have xC:=va vM;have HI:=va hi;have vJ:=va vD;have HA:=va hA;have WY:=iZ b off ho;clear hi hT ht wk vD vM hA;have hso:(if off=4096 then 0 else off)<=4096:=by split<;>omega
 generalize zP:(if off=4096 then 0 else off)=so at *
 have zv:=va zP;clear zP;go_enter Tryz.func124,Tryz.ntmps124;go_upto_region 5 with(go_at_call 96;refine(HT.out _ HP.out).mono ?_;rintro e w1 ⟨rfl,rfl⟩);go_wp2_with ((with_reducible refine ii rfl (.tmp 41) (.tmp 42) rfl b so (4096-off) (4096-off) n c A rfl rfl (by omega) 4096 _ d _ xC.out HA.out (by rw[<-zv.out];split<;>omega) ?_));go_ret;have wU:=HI.out.setBytes hg h1 vJ.out (laid (p.dat g) d off n) (fun i=>by unfold laid;split;exact hd _;exact HI.out.small _ _) (v:=eC (fun i=> .int .u8 (p.dat g i:Int)) (fun i=> .int .u8 (d i:Int)) so 0 n) (fun i hi=>by
  unfold eC laid;by_cases e:n=0
  ·rw[if_neg (by omega),if_neg (by omega)]
  ·have e2:so=off:=(by rw[<-zv.out,if_neg (by omega)]);subst e2;by_cases e3:so<=i/\i<so+n
   ·rw[if_pos e3,if_pos e3];simp
   ·rw[if_neg e3,if_neg e3])
 exact⟨rfl,HP.out.stay (tv (hS.2.2.2.2 g b hg (by omega) vJ.out) _) ⟨C,B,F,wd,pt,wU,hS⟩,tv (hS.2.2.2.2 g b hg (by omega) vJ.out) _⟩
end
section
open Go.RowKit
theorem tz_key (x a:Nat) (hx:x<18446744073709551616) (Eu:x≠0) (wk:x&&&(18446744073709551616-x)=a):
  IntKind.u64.wrap (bits BinOp.and IntKind.u64 (x:Int) (IntKind.u64.wrap (-(x:Int)))*285870213051353865)/288230376151711744=((a*285870213051353865 % 18446744073709551616/288230376151711744:Nat):Int):=by
 have e1:IntKind.u64.wrap (-(x:Int))=((18446744073709551616-x:Nat):Int):=(by rw[IntKind.wrap_u64];omega);rw[e1,bits_and_u64_nat x _ hx (by omega),wk,IntKind.wrap_u64];omega
theorem tz_core (x k idx:Nat) (w:World) (Eu:((x:Int)==0)=false)
  (key:IntKind.u64.wrap (bits BinOp.and IntKind.u64 (x:Int) (IntKind.u64.wrap (-(x:Int)))*285870213051353865)/288230376151711744=(idx:Int))
  (hi:idx<64) (hk:k<64) (vU:w.cell? ⟨0,idx,none⟩=some (.int .u8 k)):
  Calls Tryz.prog 168 #[.int .u64 x] w fun e w'=>e= .returned (.int .i64 k)/\w=w':=by
 go_enter Tryz.func168,Tryz.ntmps168;go_wp2_with (simp only[key]);go_ret;exact⟨rfl,rfl⟩
theorem tz_any (x:Nat) (hx:x<18446744073709551616) (Eu:x≠0) (w:World) (hT:DB w):
  Calls Tryz.prog 168 #[.int .u64 x] w fun e w'=>e= .returned (.int .i64 (Lib.ctz 64 x:Nat))/\w=w':=by
 obtain⟨wk,hk⟩:=Lib.lowest_bit 64 x Eu hx;obtain⟨hi,LP⟩:=Lib.deBruijn64_at _ hk;have vU:=hT _ hi;rw[LP]at vU;exact tz_core x _ _ w (by simp;omega) (tz_key x _ hx Eu wk) hi hk vU
theorem ctz_bits {x k:Nat} (hx:x<18446744073709551616) (hk:k<64) (h1:x.testBit k=true) (h2: ∀j,j<k->x.testBit j=false):Lib.ctz 64 x=k:=by
 have Eu:x≠0:=fun e=>by rw[e]at h1;simp at h1
 obtain⟨m,hm,FA⟩:=Lib.ctzFrom_spec 64 x (by omega) hx;have e:Lib.ctz 64 x=Lib.ctzFrom 64 x:=(by simp[Lib.ctz,Eu]);rw[e];generalize Lib.ctzFrom 64 x=c at hm FA;have t1:x.testBit c=true:=by
  rw[hm,Nat.mul_comm,Nat.testBit_mul_two_pow];simp
 have t2: ∀j,j<c->x.testBit j=false:=fun j hj=>by
  rw[hm,Nat.mul_comm,Nat.testBit_mul_two_pow];simp;omega
 rcases Nat.lt_trichotomy c k with h|h|h
 ·rw[h2 c h]at t1;cases t1
 ·exact h
 ·rw[t2 k h]at h1;cases h1
end
section
open Go.RowKit
theorem mz {x:Nat} (hx:x<18446744073709551616) (h: ∀j,j<64->x.testBit j=false):x=0:=by
 refine Nat.eq_of_testBit_eq fun i=>?_;rw[Nat.zero_testBit];rcases Nat.lt_or_ge i 64 with h1|h1
 ·exact h i h1
 ·exact Nat.testBit_lt_two_pow (vh hx (by
   have:(2:Nat)^64<=2^i:=Nat.pow_le_pow_right (by decide) h1;exact this))
variable {w:World} {a C B F:Nat} {wd:Nat->Nat} {pt:Nat->Option Nat} {p:Pool}
theorem ca.zeroWord (h:ca w a C B F wd pt p) {i:Nat} (hi:i<(p.n+63)/64) (hz: ∀f,f/64=i->f<p.n->p.cnt f≠0):wd i=0:=by
 refine mz (h.wds i hi).1 fun j hj=>?_;rw[(h.wds i hi).2 j hj];exact vq fun e=>hz (64*i+j) (by omega) e.1 e.2
def lp:Array Value:=rowV 4096 fun _ => .int .u8 0
theorem jv:Tryz.prog.built 259 []=some lp:=by kernel_rfl
theorem je {α:Type} (n:Nat) (F:α->Value) (c:Nat->α) (g:Nat) (x:α):rowV n (upd (fun i=>F (c i)) g (F x))=rowV n fun i=>F (upd c g x i):=bG fun i _ =>by
 by_cases e:i=g
 ·subst e;rw[af,af]
 ·rw[ag _ _ e,ag _ _ e]
theorem mA {ops:Array Oper} {rest:List Oper} {o:Oper} {a:Act} {Q:Exit->Act->World->Prop} (hg:o.guard=none) (ho:o.op= .build 259 #[])
  (h:wpList Tryz.prog ops Q rest (a.put o.dst (.agg lp)) w):wpList Tryz.prog ops Q (o::rest) a w:=by
 refine wpList_build hg 259 #[] ho ?_ ?_
 ·simp[jv]
 ·have e:(Tryz.prog.built 259 ((#[]:Array (Nat×Operand)).map fun(i,x)=>(i,a.eval x)).toList).getD #[]=lp:=(by simp[jv]);rw[e];exact h
theorem ca.taken {W:World} {nb:Nat} (h:ca w a C B F wd pt p) {g:Nat} (hg:g<p.n) (h0:p.cnt g=0) (YD:nb≠a/\nb≠C/\nb≠B/\nb≠F) (hold: ∀f b,f<p.n->0<p.cnt f->pt f=some b->b≠nb)
  (hC:W.heap[C]? =some (.cells (rowV p.n fun f=> .int .i64 ((upd p.cnt g 1 f:Nat):Int)) 3 (0,0)))
  (hB:W.heap[B]? =some (.cells (rowV p.n fun f=> .pointer ((upd pt g (some nb) f).map fun b=>⟨b,0,none⟩)) 251 (0,0)))
  (hF:W.heap[F]? =some (.cells (rowV ((p.n+63)/64) fun i=> .int .u64 ((upd wd (g/64) (wd (g/64)&&&(18446744073709551615-2^(g % 64))) i:Nat):Int)) 43 (0,0)))
  (hA:W.heap[a]? =some (.cells #[.slice (some ⟨C,0,none⟩) p.n p.n, .slice (some ⟨B,0,none⟩) p.n p.n, .slice (some ⟨F,0,none⟩) ((p.n+63)/64) ((p.n+63)/64), .int .i64 ((p.left:Int)-1)] 135 (0,0)))
  (hN:W.heap[nb]? =some (.cells lp 259 (0,0)))
  (far: ∀b,b≠a->b≠C->b≠B->b≠F->b≠nb->W.heap[b]? =w.heap[b]?):
  ca W a C B F (upd wd (g/64) (wd (g/64)&&&(18446744073709551615-2^(g % 64)))) (upd pt g (some nb)) (p.takeAt g):=by
 have hl:(p.takeAt g).left+1=p.left:=by
  have:=fJ (c:=p.cnt) (x:=1) hg;rw[if_pos h0,if_neg (by omega)]at this;exact this
 have hc: ∀f,f≠g->(p.takeAt g).cnt f=p.cnt f:=fun f e=>ag _ _ e;refine⟨?_,hC,hB,hF,fun i hi=>?_,fun f hf hp=>?_,fun f k b hf hk h1 h2 e1 e2=>?_,h.apart,fun f i=>?_,h.few,fun f=>?_⟩
 ·rw[hA,show((p.left:Int)-1)=((p.takeAt g).left:Int)from by omega];rfl
 ·by_cases e:i=g/64
  ·subst e;rw[af];refine⟨clr_lt (h.wds _ hi).1,fun j hj=>?_⟩;rw[clr_test (Nat.mod_lt _ (by decide)) hj,(h.wds _ hi).2 j hj];by_cases e2:j=g % 64
   ·subst e2;rw[vr (rfl:g % 64=g % 64),Bool.not_true,Bool.and_false];refine(vq fun e=>?_).symm;have e3:=e.2;rw[show 64*(g/64)+g % 64=g from by omega]at e3;simp only[Pool.takeAt,af]at e3;omega
   ·rw[show decide (g % 64=j)=false from vq (fun e'=>e2 e'.symm),Bool.not_false,Bool.and_true];exact decide_eq_decide.2 (by rw[hc (64*(g/64)+j) (by omega)];exact Iff.rfl)
  ·rw[ag _ _ e];refine⟨(h.wds i hi).1,fun j hj=>?_⟩;rw[(h.wds i hi).2 j hj];exact decide_eq_decide.2 (by rw[hc (64*i+j) (by omega)];exact Iff.rfl)
 ·by_cases e:f=g
  ·subst e;refine⟨nb,af _ _ _,?_,YD⟩;rw[hN];have:lp=rowV 4096 fun i=> .int .u8 ((p.takeAt f).dat f i:Int):=bG fun i _ =>by simp[Pool.takeAt,af]
   rw[this]
  ·rw[hc f e]at hp;obtain⟨b,e1,e2,e3⟩:=h.bytes f hf hp;refine⟨b,by rw[ag _ _ e];exact e1,?_,e3⟩;rw[far b e3.1 e3.2.1 e3.2.2.1 e3.2.2.2 (hold f b hf hp e1),e2];simp[Pool.takeAt,ag _ _ e]
 ·by_cases ef:f=g
  ·by_cases ek:k=g
   ·rw[ef,ek]
   ·subst ef;rw[af]at e1;injection e1 with e1;subst e1;rw[ag _ _ ek]at e2;rw[hc k ek]at h2;exact absurd rfl (hold k _ hk h2 e2)
  ·by_cases ek:k=g
   ·subst ek;rw[af]at e2;injection e2 with e2;subst e2;rw[ag _ _ ef]at e1;rw[hc f ef]at h1;exact absurd rfl (hold f _ hf h1 e1)
   ·rw[ag _ _ ef]at e1;rw[ag _ _ ek]at e2;rw[hc f ef]at h1;rw[hc k ek]at h2;exact h.sole f k b hf hk h1 h2 e1 e2
 ·by_cases e:f=g
  ·subst e;simp[Pool.takeAt,af]
  ·simp only[Pool.takeAt,ag _ _ e];exact h.small f i
 ·by_cases e:f=g
  ·subst e;simp only[Pool.takeAt,af];decide
  ·rw[hc f e];exact h.cap f
def TakePost (w:World) (S:Nat->Prop) (a:Nat) (p:Pool) (f:Nat) (e:Ending) (w':World):Prop:=
 e= .returned (.tuple #[.int .i64 (f:Int), .int .i64 0])/\ ∃S',am w' S' a (p.takeAt f)/\Mod S w w'/\Out S S' w
theorem sr (a:Nat) (w:World) (S:Nat->Prop) (p:Pool) (h:am w S a p) (hl:p.lowest=none):
  Calls Tryz.prog 147 #[.pointer (some ⟨a,0,none⟩)] w fun e w'=>e= .returned (.tuple #[.int .i64 0, .int .i64 4])/\w=w':=by
 have vW:=cH hl;obtain⟨⟨C,B,F,wd,pt,hi,hS⟩,wk,_,_⟩:=h;have h2:w.cell? ⟨a,2,none⟩=some (.slice (some ⟨F,0,none⟩) ((p.n+63)/64) ((p.n+63)/64)):=aa hi.self 2;have hn:=hi.few.2;have HI:=va hi;have HN:=va vW;clear hi hS wk vW hl;generalize hm:(p.n+63)/64=m at *
 have HM:=va hm;have zi:m<=16:=(by omega);clear hm;go_enter Tryz.func147,Tryz.ntmps147;go_wp2;go_loop [14] (fun i=> ∃k:Nat,k<=m/\i= .int .i64 k) (fun i=>m-(intOf i).toNat)
 case atStart=>exact⟨0,vw _,rfl⟩
 case round=>
  obtain⟨k,hk,rfl⟩:=hrel;by_cases vH:k<m
  ·have hw:=aW HI.out.free (i:=k) (by rw[HM.out];exact vH);rw[HI.out.zeroWord (i:=k) (by rw[HM.out];exact vH) (fun f _ hf=>HN.out f hf)]at hw;go_wp2;go_round
   case rel=>exact⟨k+1,by omega,by go_num⟩
   case measure=>simp[intOf];omega
  ·go_wp2;go_ret2;exact⟨rfl,rfl⟩
theorem mM (a g:Nat) (w:World) (S:Nat->Prop) (p:Pool) (h:am w S a p) (hl:p.lowest=some g):
  Calls Tryz.prog 147 #[.pointer (some ⟨a,0,none⟩)] w (TakePost w S a p g):=by
 obtain⟨hg,NJ,JT⟩:=cG hl;have HP:=va h;obtain⟨⟨C,B,F,wd,pt,hi,hS⟩,wk,LP,_⟩:=h;have h0:w.cell? ⟨a,0,none⟩=some (.slice (some ⟨C,0,none⟩) p.n p.n):=aa hi.self 0;have h1:w.cell? ⟨a,1,none⟩=some (.slice (some ⟨B,0,none⟩) p.n p.n):=aa hi.self 1;have h2:w.cell? ⟨a,2,none⟩=some (.slice (some ⟨F,0,none⟩) ((p.n+63)/64) ((p.n+63)/64)):=aa hi.self 2;have h3:w.cell? ⟨a,3,none⟩=some (.int .i64 (p.left:Int)):=aa hi.self 3;have f3:=ae hi.self 3;have hn:=hi.few.2;have hle:p.left<=p.n:=nK _ _;have wo:1<=p.left:=by
  have:=fJ (c:=p.cnt) (x:=1) hg;rw[if_pos NJ,if_neg (by omega)]at this;unfold Pool.left;omega
 have NU:=aW hi.counts hg;have PJ:=ae hi.counts g;have vF:=aW hi.ptrs hg;have Uv:=ae hi.ptrs g;have GP:g/64<(p.n+63)/64:=(by omega);have hw:=aW hi.free GP;have Fv:=ae hi.free (g/64);obtain⟨n1,n2,n3,n4,n5,n6⟩:=hi.apart;have z1:=wk a hS.1;have z2:=wk C hS.2.1;have z3:=wk B hS.2.2.1;have z4:=wk F hS.2.2.2.1;have hx:=(hi.wds _ GP).1;have Ul:Lib.ctz 64 (wd (g/64))=g % 64:=ctz_bits hx (Nat.mod_lt _ (by decide)) (by
   rw[(hi.wds _ GP).2 _ (Nat.mod_lt _ (by decide))];rw[show 64*(g/64)+g % 64=g from by omega];exact vr ⟨hg,NJ⟩) (fun j hj=>by
   rw[(hi.wds _ GP).2 _ (by omega)];exact vq fun e=>JT _ (by omega) e.2)
 have Eu:wd (g/64)≠0:=fun e=>by
  have:=(hi.wds _ GP).2 (g % 64) (Nat.mod_lt _ (by decide));rw[show 64*(g/64)+g % 64=g from by omega,vr ⟨hg,NJ⟩,e]at this;simp at this
 have Yg:=tz_any _ hx Eu w LP;rw[Ul]at Yg;have HTZ:=va Yg;have hx0':((wd (g/64):Int)==0)=false:=(by rw[vp];omega);have HI:=va hi;have QM:=va JT;clear hi wk LP Ul Eu Yg JT hl;generalize hm:(p.n+63)/64=m at *
 have HM:=va hm;have zi:m<=16:=(by omega);clear hm;go_enter Tryz.func147,Tryz.ntmps147;go_wp2;go_loop [14] (fun i=> ∃k:Nat,k<=g/64/\i= .int .i64 k) (fun i=>m-(intOf i).toNat)
 case atStart=>exact⟨0,vw _,rfl⟩
 case round=>
  obtain⟨k,hk,rfl⟩:=hrel;by_cases vH:k<g/64
  ·have hw:=aW HI.out.free (i:=k) (by rw[HM.out];omega);rw[HI.out.zeroWord (i:=k) (by rw[HM.out];omega) (fun f _ hf=>QM.out f (by omega))]at hw;go_wp2;go_round
   case rel=>exact⟨k+1,by omega,by go_num⟩
   case measure=>simp[intOf];omega
  ·obtain rfl:k=g/64:=(by omega);clear vH hk;go_wp2_with (go_at_call 168;refine(HTZ.out).mono ?_;rintro e w1 ⟨rfl,rfl⟩);rw[show((g:Int)/64*64+(g:Int) % 64)=(g:Int)from by omega];go_region;go_wp2_with ((with_reducible refine mA rfl rfl ?_));go_ret2;have hm:Mod S w ((((((w.setCell ⟨F,g/64,none⟩ (.int .u64 (bits .andNot .u64 (wd (g/64):Int) (IntKind.u64.wrap (2^(g % 64)))))).setCell ⟨a,3,none⟩ (.int .i64 ((p.left:Int)-1))).setCell ⟨C,g,none⟩ (.int .i64 1)).setCell ⟨B,g,none⟩ (.pointer (some ⟨w.heap.size,0,none⟩))).alloc (.cells lp 259)).drew):=
    (((((aj hS.2.2.2.1 _ _).trans (Out.refl _ _) (aj hS.1 _ _)).trans (Out.refl _ _) (aj hS.2.1 _ _)).trans (Out.refl _ _) (aj hS.2.2.1 _ _)).trans (Out.refl _ _) (Mod.of vc)).drew
   rw[clr_bit hx (Nat.mod_lt _ (by decide))]at hm⊢;have ho:Out S (fun b=>S b\/b=w.heap.size) w:=fun b hb=>by
    rcases hb with hb|hb
    ·exact .inl hb
    ·right;omega
   have wI:qt ((((((w.setCell ⟨F,g/64,none⟩ (.int .u64 ((wd (g/64)&&&(18446744073709551615-2^(g % 64)):Nat):Int))).setCell ⟨a,3,none⟩ (.int .i64 ((p.left:Int)-1))).setCell ⟨C,g,none⟩ (.int .i64 1)).setCell ⟨B,g,none⟩ (.pointer (some ⟨w.heap.size,0,none⟩))).alloc (.cells lp 259)).drew) (fun b=>S b\/b=w.heap.size) a (p.takeAt g):=by
    generalize hX:(((w.setCell ⟨F,g/64,none⟩ (.int .u64 ((wd (g/64)&&&(18446744073709551615-2^(g % 64)):Nat):Int))).setCell ⟨a,3,none⟩ (.int .i64 ((p.left:Int)-1))).setCell ⟨C,g,none⟩ (.int .i64 1)).setCell ⟨B,g,none⟩ (.pointer (some ⟨w.heap.size,0,none⟩))=X;have hXs:X.heap.size=w.heap.size:=(by rw[<-hX];simp);have far: ∀b,b≠a->b≠C->b≠B->b≠F->X.heap[b]? =w.heap[b]? :=fun b h1 h2 h3 h4=>by
     rw[<-hX,vi _ _ _ _ h3,vi _ _ _ _ h2,vi _ _ _ _ h1,vi _ _ _ _ h4]
    have hi:=HI.out;refine⟨C,B,F,_,_,hi.taken (W:=(X.alloc (.cells lp 259)).drew) (nb:=w.heap.size) hg NJ ⟨by omega,by omega,by omega,by omega⟩ (fun f b hf hp he e=>?_) ?_ ?_ ?_ ?_ ?_ (fun b h1 h2 h3 h4 h5=>?_), .inl hS.1, .inl hS.2.1, .inl hS.2.2.1, .inl hS.2.2.2.1,fun f b hf hp he=>?_⟩
    ·have:=HP.out.low b (hS.2.2.2.2 f b hf hp he);omega
    ·refine(ve _ _ _ (by omega)).trans ?_;rw[<-hX,vi _ _ _ _ n4,Joins.block_setCell ((vi _ _ _ _ n1.symm).trans ((vi _ _ _ _ n5).trans hi.counts)),dI];rw[<-je p.n (fun c:Nat=>Value.int .i64 (c:Int)) p.cnt g 1];rfl
    ·refine(ve _ _ _ (by omega)).trans ?_;rw[<-hX,Joins.block_setCell ((vi _ _ _ _ n4.symm).trans ((vi _ _ _ _ n2.symm).trans ((vi _ _ _ _ n6).trans hi.ptrs))),dI];rw[<-je p.n (fun o:Option Nat=>Value.pointer (o.map fun b=>⟨b,0,none⟩)) pt g (some w.heap.size)];rfl
    ·refine(ve _ _ _ (by omega)).trans ?_;rw[<-hX,vi _ _ _ _ n6.symm,vi _ _ _ _ n5.symm,vi _ _ _ _ n3.symm,Joins.block_setCell hi.free,dI];rw[<-je ((p.n+63)/64) (fun c:Nat=>Value.int .u64 (c:Int)) wd (g/64) _]
    ·refine(ve _ _ _ (by omega)).trans ?_;rw[<-hX,vi _ _ _ _ n2,vi _ _ _ _ n1,Joins.block_setCell ((vi _ _ _ _ n3).trans hi.self)];rfl
    ·have:=ab X (.cells lp 259);rw[hXs]at this;exact this
    ·show(X.heap.push _)[b]? =_;by_cases hb:b<X.heap.size
     ·rw[Array.getElem?_push_lt hb,<-Array.getElem?_eq_getElem hb];exact far b h1 h2 h3 h4
     ·rw[Array.getElem?_eq_none (by simp;omega),Array.getElem?_eq_none (by omega)]
    ·by_cases e:f=g
     ·subst e;rw[af]at he;injection he with he;exact .inr he.symm
     ·rw[ag _ _ e]at he;simp only[Pool.takeAt,ag _ _ e]at hp;exact .inl (hS.2.2.2.2 f b hf hp he)
   exact⟨rfl,_,HP.out.turn hm wI ho (fun b hb=>by
    rcases hb with hb|hb
    ·exact vh (HP.out.low b hb) hm.size
    ·simp;omega),hm,ho⟩
end
section
open Go.RowKit
theorem qi:(Tryz.prog.info? 3).map (fun i=>(i.zero,i.size,i.bytes))=some (some (.int .i64 0),1,8):=by kernel_rfl
theorem u64_info:(Tryz.prog.info? 43).map (fun i=>(i.zero,i.size,i.bytes))=some (some (.int .u64 0),1,8):=by kernel_rfl
theorem pfr_info:(Tryz.prog.info? 251).map (fun i=>(i.zero,i.size,i.bytes))=some (some (.pointer none),1,8):=by kernel_rfl
theorem lT (t e:TypeId) (z:Value) (wg:z.cells= #[z]) (ht:Tryz.prog.underlying t=some (.slice e)) (TM:(Tryz.prog.info? e).map (fun i=>(i.zero,i.size,i.bytes))=some (some z,1,8)) (l:Int) (n:Nat) (hl:l=(n:Int)) (hn:n<=1000000) (W:World):
  (Instr.makeSlice t (.int .i64 l) (.int .i64 l)).run Tryz.prog W= .ok (.slice (some ⟨W.heap.size,0,none⟩) n n) (W.alloc (.cells (rowV n fun _ =>z) e)):=by
 subst hl;obtain⟨i0,yb,wz,hs,hb⟩:=info_parts TM;have h:=run_make (P:=Tryz.prog) W t e i0 z ht yb wz .i64 .i64 (n:Int) (n:Int) (by omega) (by omega) (by rw[hb];omega) (by omega);rw[h,hs,wg];simp[nw]
structure pB (w wx:World) (n a C B F:Nat) (wd:Nat->Nat):Prop where
 self:wx.heap[a]? =some (.cells #[.slice (some ⟨C,0,none⟩) n n, .slice (some ⟨B,0,none⟩) n n, .slice (some ⟨F,0,none⟩) ((n+63)/64) ((n+63)/64), .int .i64 (n:Int)] 135 (0,0))
 counts:wx.heap[C]? =some (.cells (rowV n fun _ => .int .i64 0) 3 (0,0))
 ptrs:wx.heap[B]? =some (.cells (rowV n fun _ => .pointer none) 251 (0,0))
 free:wx.heap[F]? =some (.cells (rowV ((n+63)/64) fun i=> .int .u64 (wd i:Int)) 43 (0,0))
 apart:a≠C/\a≠B/\a≠F/\C≠B/\C≠F/\B≠F
 new:w.heap.size<=a/\w.heap.size<=C/\w.heap.size<=B/\w.heap.size<=F
 below:Below w.heap.size w wx
variable {w:World} {o0 o1 o2 o3:Obj}
theorem hp3 :((((w.alloc o0).alloc o1).alloc o2).alloc o3).drew.heap[w.heap.size+1+1+1]? =some o3:=by
 have e:(((w.alloc o0).alloc o1).alloc o2).heap.size=w.heap.size+1+1+1:=(by simp);rw[<-e];exact ab _ _
theorem hp2 :((((w.alloc o0).alloc o1).alloc o2).alloc o3).drew.heap[w.heap.size+1+1]? =some o2:=by
 have e:((w.alloc o0).alloc o1).heap.size=w.heap.size+1+1:=(by simp);rw[<-e];exact(ve _ _ _ (by simp)).trans (ab _ _)
theorem hp1 :((((w.alloc o0).alloc o1).alloc o2).alloc o3).drew.heap[w.heap.size+1]? =some o1:=by
 have e:(w.alloc o0).heap.size=w.heap.size+1:=(by simp);rw[<-e];exact(ve _ _ _ (by simp)).trans ((ve _ _ _ (by simp)).trans (ab _ _))
theorem hp0 :((((w.alloc o0).alloc o1).alloc o2).alloc o3).drew.heap[w.heap.size]? =some o0:=
 (ve _ _ _ (by simp;try omega)).trans ((ve _ _ _ (by simp;try omega)).trans ((ve _ _ _ (by simp;try omega)).trans (ab w o0)))
theorem hpb :Below w.heap.size w ((((w.alloc o0).alloc o1).alloc o2).alloc o3).drew:=
 (((vc.alloc (by simp) _).alloc (by simp;try omega) _).alloc (by simp;try omega) _).drew
variable {wr:World} {n a C B F:Nat} {wd:Nat->Nat}
theorem pB.bit {k:Nat} (h:pB w wr n a C B F wd) (hk:k<n) (hw: ∀i,i<(n+63)/64->wd i<18446744073709551616/\ ∀j,j<64->(wd i).testBit j=decide (64*i+j<k)):
  ∃wd',pB w (wr.setCell ⟨F,k/64,none⟩ (.int .u64 (bits .or .u64 (wd (k/64):Int) (IntKind.u64.wrap (2^(k % 64)))))).drew n a C B F wd'/\
   ∀i,i<(n+63)/64->wd' i<18446744073709551616/\ ∀j,j<64->(wd' i).testBit j=decide (64*i+j<k+1):=by
 obtain⟨n1,n2,n3,n4,n5,n6⟩:=h.apart;have YQ:k/64<(n+63)/64:=(by omega);have hm:k % 64<64:=Nat.mod_lt _ (by decide);obtain⟨hx,hb⟩:=hw _ YQ;rw[or_bit hx hm];refine⟨upd wd (k/64) (wd (k/64)|||2^(k % 64)),⟨?_,?_,?_,?_,h.apart,h.new,?_⟩,fun i hi=>?_⟩
 ·exact(vi _ _ _ _ n3).trans h.self
 ·exact(vi _ _ _ _ n5).trans h.counts
 ·exact(vi _ _ _ _ n6).trans h.ptrs
 ·show(wr.setCell _ _).heap[F]? =_;rw[Joins.block_setCell h.free,dI,<-je ((n+63)/64) (fun c:Nat=>Value.int .u64 (c:Int)) wd (k/64) _]
 ·exact(h.below.setCell h.new.2.2.2 _).drew
 ·by_cases e:i=k/64
  ·subst e;rw[af];refine⟨or_lt hx hm,fun j hj=>?_⟩;rw[ti,hb j hj];by_cases e2:j=k % 64
   ·subst e2;rw[vr (rfl:k % 64=k % 64),Bool.or_true];exact(vr (by omega)).symm
   ·rw[show decide (k % 64=j)=false from vq (fun e'=>e2 e'.symm),Bool.or_false];exact decide_eq_decide.2 (by omega)
  ·rw[ag _ _ e];refine⟨(hw i hi).1,fun j hj=>?_⟩;rw[(hw i hi).2 j hj];exact decide_eq_decide.2 (by omega)
theorem rD (n:Nat):bV (fun _ =>0) n=n:=by
 induction n with
 |zero=>rfl
 |succ n ih=>unfold bV;rw[ih,if_pos rfl]
theorem pB.pool (h:pB w wr n a C B F wd) (h1:1<=n) (h2:n<=1024) (hw: ∀i,i<(n+63)/64->wd i<18446744073709551616/\ ∀j,j<64->(wd i).testBit j=decide (64*i+j<n)) (Ah:DB w) (h0:0<w.heap.size):
  ∃S,am wr S a ⟨n,fun _ =>0,fun _ _ =>0⟩/\ ∀b,S b->w.heap.size<=b:=by
 have vH: ∀b,(∃o,wr.heap[b]? =some o)->b<wr.heap.size:=fun b ⟨o,ho⟩=>(uZ ho).1;refine⟨fun b=>b=a\/b=C\/b=B\/b=F,⟨⟨C,B,F,wd,fun _ =>none,⟨?_,h.counts,h.ptrs,h.free,fun i hi=>⟨(hw i hi).1,fun j hj=>?_⟩,fun f hf hc=>by simp at hc,fun f g b hf hg hc=>by simp at hc,h.apart,fun _ _ =>(by show(0:Nat)<256;decide),⟨h1,h2⟩,fun _ =>(by show(0:Nat)<1000000000000;decide)⟩, .inl rfl, .inr (.inl rfl), .inr (.inr (.inl rfl)), .inr (.inr (.inr rfl)),fun f b hf hc=>by simp at hc⟩,fun b hb=>?_,Ah.same (h.below.block 0 h0),fun hb=>?_⟩,fun b hb=>?_⟩
 ·rw[h.self];show _ =some (Obj.cells #[_,_,_,Value.int .i64 ((bV (fun _ =>0) n:Nat):Int)] _ _);rw[rD]
 ·rw[(hw i hi).2 j hj];exact decide_eq_decide.2 ⟨fun e=>⟨e,rfl⟩,fun e=>e.1⟩
 ·rcases hb with rfl|rfl|rfl|rfl
  ·exact vH _ ⟨_,h.self⟩
  ·exact vH _ ⟨_,h.counts⟩
  ·exact vH _ ⟨_,h.ptrs⟩
  ·exact vH _ ⟨_,h.free⟩
 ·obtain⟨m1,m2,m3,m4⟩:=h.new;omega
 ·obtain⟨m1,m2,m3,m4⟩:=h.new;omega
theorem lY (n:Nat) (w:World) (h1:1<=n) (h2:n<=1024) (Ah:DB w) (vE:0<w.heap.size):
  Calls Tryz.prog 38 #[.int .i64 (n:Int)] w fun e w'=> ∃a S,e= .returned (.tuple #[.pointer (some ⟨a,0,none⟩), .int .i64 0])/\am w' S a ⟨n,fun _ =>0,fun _ _ =>0⟩/\Below w.heap.size w w'/\ ∀b,S b->w.heap.size<=b:=by
 have m1:=lT 131 3 (.int .i64 0) rfl Tryz.underlying131 qi (n:Int) n rfl (by omega);have m2:=lT 132 251 (.pointer none) rfl Tryz.underlying132 pfr_info (n:Int) n rfl (by omega);have m3:=lT 133 43 (.int .u64 0) rfl Tryz.underlying133 u64_info (((n:Int)+63)/64) ((n+63)/64) (by omega) (by omega);go_enter Tryz.func38,Tryz.ntmps38;go_upto_region 3 with(fail);go_cut [4] (fun s4 wx=> ∃a C B F,s4= .pointer (some ⟨a,0,none⟩)/\pB w wx n a C B F (fun _ =>0))
 case first=>
  go_region
  all_goals(go_wp2_with fail;go_meet)
  all_goals first
   |exact⟨_,w.heap.size,w.heap.size+1,w.heap.size+1+1,rfl,⟨hp3,hp0,hp1,hp2,(by omega),(by omega),hpb⟩⟩
   |exact⟨_,w.heap.size,w.heap.size+1+1,w.heap.size+1,rfl,⟨hp3,hp0,hp2,hp1,(by omega),(by omega),hpb⟩⟩
   |exact⟨_,w.heap.size+1,w.heap.size,w.heap.size+1+1,rfl,⟨hp3,hp1,hp0,hp2,(by omega),(by omega),hpb⟩⟩
   |exact⟨_,w.heap.size+1,w.heap.size+1+1,w.heap.size,rfl,⟨hp3,hp1,hp2,hp0,(by omega),(by omega),hpb⟩⟩
   |exact⟨_,w.heap.size+1+1,w.heap.size,w.heap.size+1,rfl,⟨hp3,hp2,hp0,hp1,(by omega),(by omega),hpb⟩⟩
   |exact⟨_,w.heap.size+1+1,w.heap.size+1,w.heap.size,rfl,⟨hp3,hp2,hp1,hp0,(by omega),(by omega),hpb⟩⟩
 case rest=>
  obtain⟨a,C,B,F,rfl,hN⟩:=hcut;have c2:wc.cell? ⟨a,2,none⟩=some (.slice (some ⟨F,0,none⟩) ((n+63)/64) ((n+63)/64)):=aa hN.self 2;have HN:=va hN;clear hN m1 m2 m3;go_wp2;go_loopw [5,24] (fun v5 i wr=> ∃k:Nat,k<=n/\i= .int .i64 k/\ ∃wd,pB w wr n a C B F wd/\ ∀i,i<(n+63)/64->wd i<18446744073709551616/\ ∀j,j<64->(wd i).testBit j=decide (64*i+j<k)) (fun _ i _ =>n-(intOf i).toNat)
  case atStart=>exact⟨0,vw _,rfl,_,HN.out,fun i hi=>⟨by decide,fun j hj=>by rw[Nat.zero_testBit];exact(vq (by omega)).symm⟩⟩
  case round=>
   obtain⟨k,hk,rfl,wd,hN,Db⟩:=hrel;have c2:wr.cell? ⟨a,2,none⟩=some (.slice (some ⟨F,0,none⟩) ((n+63)/64) ((n+63)/64)):=aa hN.self 2;obtain⟨n1,n2,n3,n4,n5,n6⟩:=hN.apart;have HN:=va hN;have HW:=va Db;by_cases vH:k<n
   ·have YQ:k/64<(n+63)/64:=(by omega);have cF:=aW hN.free YQ;have fF:=ae hN.free (k/64);clear hN Db;have wU:=HN.out.bit vH HW.out;have IC:=va wU;clear wU;go_wp2;go_region;go_wp2;go_roundw
    case rel=>exact⟨k+1,by omega,by go_num,IC.out⟩
    case measure=>simp[intOf];omega
   ·clear hN Db;go_wp2;go_ret2;obtain rfl:k=n:=(by omega);obtain⟨S,Bu,Bl⟩:=HN.out.pool h1 h2 HW.out Ah vE;exact⟨a,S,rfl,Bu,HN.out.below,Bl⟩
end
