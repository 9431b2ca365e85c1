/- Tables: a node's word read and written; -/
import Derived.Test.YtoochjhipmpehaaGreatDoorTwAK
import Derived.BigQuiet
import Derived.Deep.QuietTactic
import Derived.Deep.RegionHeld3
import Derived.Laws.ShiftsVarLaws
import Derived.Lib.QuietBelow
import Derived.StillTailTactics
set_option linter.unusedVariables false
set_option linter.unusedSimpArgs false
set_option maxRecDepth 100000
set_option maxHeartbeats 16000000
namespace Go.Proofs.YtoochjhipmpehaaGreatDoor
section
open Go.RowKit
def am (w:World) (t c a root:Nat):Prop:=w.heap[t]? =some (.cells #[.pointer (some ⟨c,0,none⟩), .pointer (some ⟨a,0,none⟩), .int .i64 (root:Int)] 154 (0,0))
theorem bJ (t c a root f k:Nat) (w:World) (S:Nat->Prop) (p:Pool) (h:al w S a p) (ht:am w t c a root) (hf:f<p.n) (h1:1<=p.cnt f) (hk:k<512):
  Calls Tryz.prog 111 #[.pointer (some ⟨t,0,none⟩), .int .i64 (f:Int), .int .i64 (k:Int)] w fun e w'=>e= .returned (.int .u64 ((word (p.dat f) k:Nat):Int))/\Below w.heap.size w w':=by
 have c1:w.cell? ⟨t,1,none⟩=some (.pointer (some ⟨a,0,none⟩)):=aa ht 1;obtain⟨⟨C,B,F,wd,pt,hi,hS⟩,vK,_,_⟩:=id h;have yC:=hi.small f;clear hi hS vK ht;go_enter Tryz.func111,Tryz.ntmps111;go_wp2_with fail;refine(fA a f (8*k) 8 w S p h hf h1 (by omega) (by omega)).mono ?_;rintro e w1 ⟨rfl,hB,hz,vk⟩;have HB:=uH hB;clear hB;go_wp2_with fail;refine(get_8 0 8 8 w.heap.size (fun i=>p.dat f (8*k+i)) w1 (by omega) (by omega) HB.out (fun i=>yC _) hz).mono ?_;rintro e w2 ⟨rfl,vs⟩;have hw:dp (fun i=>p.dat f (8*k+i)) 0 8=word (p.dat f) k:=by
  unfold word;have key: ∀n,dp (fun i=>p.dat f (8*k+i)) 0 n=dp (p.dat f) (8*k) n:=fun n=>by
   induction n with
   |zero=>rfl
   |succ n ih=>unfold dp;rw[ih,Nat.zero_add]
  exact key 8
 rw[hw];go_wp2_with fail;go_ret;exact⟨rfl,vk.trans (vs.mono (Nat.le_of_lt hz))⟩
theorem oh (d0:Nat->Nat) (k x:Nat):laid d0 (laid (fun _ =>0) (fun i=>x/256^i % 256) 0 8) (8*k) 8=aE d0 k x:=by
 funext i;unfold laid aE;simp only;by_cases h:8*k<=i/\i<8*k+8
 ·rw[if_pos h,if_pos h,if_pos (by omega),Nat.sub_zero]
 ·rw[if_neg h,if_neg h]
theorem gn (t c a root f k x:Nat) (w:World) (S:Nat->Prop) (p:Pool) (h:al w S a p) (ht:am w t c a root) (wv:t<w.heap.size) (hf:f<p.n) (h1:1<=p.cnt f) (hk:k<512) (hx:x<18446744073709551616):
  Calls Tryz.prog 112 #[.pointer (some ⟨t,0,none⟩), .int .i64 (f:Int), .int .i64 (k:Int), .int .u64 (x:Int)] w fun e w'=>e= .returned (.tuple #[])/\al w' S a (p.store f (aE (p.dat f) k x))/\Mod S w w':=by
 have wR:Below w.heap.size w (w.alloc (.cells (rowV 8 fun _ => .int .u8 0) 5)):=uJ;have hX:aN (w.alloc (.cells (rowV 8 fun _ => .int .u8 0) 5)) w.heap.size 8 (fun _ =>0):=ab w _;have Gg: ∀W:World,(Instr.makeSlice 39 (.int .i64 8) (.int .i64 8)).run Tryz.prog W= .ok (.slice (some ⟨W.heap.size,0,none⟩) 8 8) (W.alloc (.cells (rowV 8 fun _ => .int .u8 0) 5)):=im 8 (by omega);have HT:=uH ht;have HX:=uH hX;clear ht hX;go_enter Tryz.func112,Tryz.ntmps112;go_wp2_with fail;refine(set_8 8 8 w.heap.size x _ (by omega) (by omega) (fun _ =>0) HX.out (by simp) hx).mono ?_;rintro e w1 ⟨g,cap,rfl,ho,vk⟩;have vI:=vk.size;simp at vI;have AV:Below w.heap.size w w1:=wR.trans (vk.mono (by simp));have zS:am w1 t c a root:=(AV.block t wv).trans HT.out;have c1:w1.cell? ⟨t,1,none⟩=some (.pointer (some ⟨a,0,none⟩)):=aa zS 1;have Dy:=uH (h.below AV);have HO:=uH ho;clear ho zS;go_wp2_with fail;refine(gt a f (8*k) 8 cap (some ⟨g,0,none⟩) (laid (fun _ =>0) (fun i=>x/256^i % 256) 0 8) w1 S p Dy.out hf h1 (by omega) (by omega) HO.out.v (fun j=>by unfold laid;split;exact Nat.mod_lt _ (by decide);exact(by decide:(0:Nat)<256))).mono ?_;rintro e w2 ⟨rfl,zU,vy⟩;rw[oh]at zU;go_wp2_with fail;go_end0;exact⟨rfl,zU,(Mod.of AV).trans (Out.refl _ _) vy⟩
theorem jI (f m:Nat) (hm:m<4096):f*4096|||m=f*4096+m:=by
 have:=Nat.two_pow_add_eq_or_of_lt (i:=12) (b:=m) hm f;rw[show(2:Nat)^12=4096 from by decide,Nat.mul_comm]at this;exact this.symm
theorem pN: ∀q:Fin 8,(q.val*2|||1)=q.val*2+1/\((q.val*2+1)|||16)=q.val*2+17:=by decide
theorem or_one (f q:Nat) (hq:q<=7):(f*4096+q*2)|||1=f*4096+q*2+1:=by
 have s1:q*2|||1=q*2+1:=(pN ⟨q,by omega⟩).1;have h:=jI f (q*2) (by omega);have h2:=jI f (q*2+1) (by omega);rw[<-h,Nat.or_assoc,s1,h2,h];omega
theorem qN (f q:Nat) (hq:q<=7):(f*4096+q*2+1)|||16=f*4096+q*2+1+16:=by
 have s1:(q*2+1)|||16=q*2+17:=(pN ⟨q,by omega⟩).2;have h:=jI f (q*2+1) (by omega);have h2:=jI f (q*2+17) (by omega);rw[Nat.add_assoc,<-h,Nat.or_assoc,s1,h2,h];omega
theorem sR (f q:Nat) (hf:f<1024) (hq:q<=7):bits .or .u64 (bits .or .u64 ((f:Int)*4096) ((q:Int)*2)) 1=((f*4096+q*2+1:Nat):Int):=by
 have e1:((f:Int)*4096)=((f*4096:Nat):Int):=(by simp);have e2:((q:Int)*2)=((q*2:Nat):Int):=(by simp);have e3:(1:Int)=((1:Nat):Int):=rfl;rw[e1,e2,bits_or_u64_nat _ _ (by omega) (by omega),e3,jI _ _ (by omega),bits_or_u64_nat _ _ (by omega) (by omega),or_one f q hq]
theorem oz (f q:Nat) (hf:f<1024) (hq:q<=7):bits .or .u64 ((f*4096+q*2+1:Nat):Int) 16=((f*4096+q*2+1+16:Nat):Int):=by
 have e3:(16:Int)=((16:Nat):Int):=rfl;rw[e3,bits_or_u64_nat _ _ (by omega) (by omega),qN f q hq]
variable {x:Nat}
theorem uj (hx:x<18446744073709551616):bits .and .u64 ((x:Int)/2) 7 % 256=((x/2 % 8:Nat):Int):=by
 have e1:((x:Int)/2)=((x/2:Nat):Int):=(by simp);have e3:(7:Int)=((7:Nat):Int):=rfl;rw[e1,e3,bits_and_u64_nat _ _ (by omega) (by omega),show(7:Nat)=2^3-1 from rfl,Nat.and_two_pow_sub_one_eq_mod];omega
theorem pa (hx:x<18446744073709551616):(bits .and .u64 (x:Int) 16 != 0)=(x/16 % 2==1):=by
 have e3:(16:Int)=((16:Nat):Int):=rfl;have h:=and_two_pow_eq_zero (x:Int) 4 (by omega);rw[Int.toNat_natCast,show((2:Int)^4).toNat=16 from rfl,show(2:Int)^4=16 from rfl]at h;rw[e3,bits_and_u64_nat _ _ hx (by omega)];by_cases h0:x&&&16=0
 ·have h2:=h.1 h0;rw[h0,show(x/16 % 2==1)=false from by rw[uW];omega];rfl
 ·have h2:(x:Int)/16 % 2=1:=Decidable.by_contra fun e=>h0 (h.2 e);rw[show(x/16 % 2==1)=true from by rw[beq_iff_eq];omega,bne_iff_ne];omega
theorem my (l:Leaf) (w:World) (h:l.prot<=7) (hf:l.frame<1024):
  Calls Tryz.prog 118 #[.agg #[.int .i64 (l.frame:Int), .int .u8 (l.prot:Int), .bool l.copy]] w fun e w'=>e= .returned (.int .u64 (l.pack:Int))/\Below w.heap.size w w':=by
 obtain⟨f,q,c⟩:=l;simp only at h hf;have h1:=sR f q hf h;have h2:=oz f q hf h;have H1:=uH h1;have H2:=uH h2;clear h1 h2;cases c
 ·go_enter Tryz.func118,Tryz.ntmps118;go_wp2;go_ret;exact⟨lr (by rw[H1.out];simp[Leaf.pack]),uJ⟩
 ·go_enter Tryz.func118,Tryz.ntmps118;go_wp2;go_ret;exact⟨lr (by rw[H1.out,H2.out];simp[Leaf.pack]),uJ⟩
theorem ep (x:Nat) (w:World) (hx:x<18446744073709551616):
  Calls Tryz.prog 110 #[.int .u64 (x:Int)] w fun e w'=>e= .returned (.agg #[.int .i64 ((fJ x).frame:Int), .int .u8 ((fJ x).prot:Int), .bool (fJ x).copy])/\Below w.heap.size w w':=by
 go_enter Tryz.func110,Tryz.ntmps110;go_wp2;rw[uj hx,pa hx];exact bodyPost_ret (v:= .agg #[.int .i64 ((fJ x).frame:Int), .int .u8 ((fJ x).prot:Int), .bool (fJ x).copy]) (by simp[results,Tryz.results110,go_sem,fJ]) rfl ⟨rfl,uJ⟩
end
section
open Go.RowKit
def wayV (pg k j:Nat):Value:= .int .i64 (if j<k then((num pg (4-j):Nat):Int)else 0)
def wayA (pg:Nat):Value:= .agg #[.int .i64 ((num pg 4:Nat):Int), .int .i64 ((num pg 3:Nat):Int), .int .i64 ((num pg 2:Nat):Int), .int .i64 ((num pg 1:Nat):Int)]
theorem lc (a k:Nat) (h:1<=k):((a:Int)/(2:Int)^(12+9*(k-1)) % 512)=((num (a/4096) k:Nat):Int):=by
 unfold num;have e:(2:Nat)^(12+9*(k-1))=4096*512^(k-1):=by
  rw[Nat.pow_add,Nat.pow_mul]
 rw[Nat.div_div_eq_div_mul,<-e];simp
theorem way_any (a:Nat) (w:World) (ha:a<18446744073709551616):
  Calls Tryz.prog 125 #[.int .u64 (a:Int)] w fun e w'=>e= .returned (wayA (a/4096))/\Below w.heap.size w w':=by
 have e4:((a:Int)/549755813888 % 512)=((num (a/4096) 4:Nat):Int):=lc a 4 (by omega);have e3:((a:Int)/1073741824 % 512)=((num (a/4096) 3:Nat):Int):=lc a 3 (by omega);have e2:((a:Int)/2097152 % 512)=((num (a/4096) 2:Nat):Int):=lc a 2 (by omega);have e1:((a:Int)/4096 % 512)=((num (a/4096) 1:Nat):Int):=lc a 1 (by omega);have E4:=uH e4;have E3:=uH e3;have E2:=uH e2;have E1:=uH e1;have DU:=ab w (.cells #[wayV (a/4096) 0 0,wayV (a/4096) 0 1,wayV (a/4096) 0 2,wayV (a/4096) 0 3] 212);have FH:=uH DU;clear e1 e2 e3 e4 DU;go_enter Tryz.func125,Tryz.ntmps125;go_wp2_with fail;go_loopw [3,4] (fun _ i wr=> ∃k:Nat,k<=4/\i= .int .i64 k/\wr.heap[w.heap.size]? =some (.cells #[wayV (a/4096) k 0,wayV (a/4096) k 1,wayV (a/4096) k 2,wayV (a/4096) k 3] 212 (0,0))/\Below w.heap.size w wr) (fun _ i _ =>4-(intOf i).toNat)
 case atStart=>exact⟨0,vd _,rfl,FH.out,uJ⟩
 case round=>
  obtain⟨k,hk,rfl,hX,hB⟩:=hrel;have vo:w.heap.size<wr.heap.size:=(uG hX).1;have f0:=ae hX 0;have f1:=ae hX 1;have f2:=ae hX 2;have f3:=ae hX 3;have HX:=uH hX;rcases(show k=0\/k=1\/k=2\/k=3\/k=4 by omega)with rfl|rfl|rfl|rfl|rfl
  ·have c0:wr.cell? ⟨w.heap.size,0,none⟩=some (.int .i64 0):=aa hX 0;clear hX;go_wp2;go_roundw
   case rel=>
    refine⟨1,by omega,by go_num,?_,hB.setCell (uK _) _⟩;rw[Joins.block_setCell HX.out,E4.out];rfl
   case measure=>simp[intOf]
  ·have c0:wr.cell? ⟨w.heap.size,1,none⟩=some (.int .i64 0):=aa hX 1;clear hX;go_wp2;go_roundw
   case rel=>
    refine⟨2,by omega,by go_num,?_,hB.setCell (uK _) _⟩;rw[Joins.block_setCell HX.out,E3.out];rfl
   case measure=>simp[intOf]
  ·have c0:wr.cell? ⟨w.heap.size,2,none⟩=some (.int .i64 0):=aa hX 2;clear hX;go_wp2;go_roundw
   case rel=>
    refine⟨3,by omega,by go_num,?_,hB.setCell (uK _) _⟩;rw[Joins.block_setCell HX.out,E2.out];rfl
   case measure=>simp[intOf]
  ·have c0:wr.cell? ⟨w.heap.size,3,none⟩=some (.int .i64 0):=aa hX 3;clear hX;go_wp2;go_roundw
   case rel=>
    refine⟨4,by omega,by go_num,?_,hB.setCell (uK _) _⟩;rw[Joins.block_setCell HX.out,E1.out];rfl
   case measure=>simp[intOf]
  ·have c0:wr.cell? ⟨w.heap.size,0,none⟩=some (.int .i64 ((num (a/4096) 4:Nat):Int)):=aa hX 0;have c1:wr.cell? ⟨w.heap.size,1,none⟩=some (.int .i64 ((num (a/4096) 3:Nat):Int)):=aa hX 1;have c2:wr.cell? ⟨w.heap.size,2,none⟩=some (.int .i64 ((num (a/4096) 2:Nat):Int)):=aa hX 2;have c3:wr.cell? ⟨w.heap.size,3,none⟩=some (.int .i64 ((num (a/4096) 1:Nat):Int)):=aa hX 3;clear hX;go_wp2;exact bodyPost_ret (v:=wayA (a/4096)) (by simp[results,Tryz.results125,go_sem,vo,f0,f1,f2,f3,c0,c1,c2,c3,wayA]) rfl ⟨rfl,(((hB.setCell (uK _) _).setCell (uK _) _).setCell (uK _) _).setCell (uK _) _⟩
theorem cL (t c a root:Nat) (w:World) (ht:am w t c a root):
  Calls Tryz.prog 73 #[.pointer (some ⟨t,0,none⟩)] w fun e w'=>e= .returned (.bool false)/\w=w':=by
 have c1:w.cell? ⟨t,1,none⟩=some (.pointer (some ⟨a,0,none⟩)):=aa ht 1;clear ht;go_enter Tryz.func73,Tryz.ntmps73;go_wp2;go_ret;exact⟨rfl,rfl⟩
def pd (d:Nat->Nat) (n:Nat):Bool:=decide (∀i,i<n->d i=0)
theorem qs (t c a root f:Nat) (w:World) (S:Nat->Prop) (p:Pool) (h:al w S a p) (ht:am w t c a root) (hf:f<p.n) (h1:1<=p.cnt f):
  Calls Tryz.prog 157 #[.pointer (some ⟨t,0,none⟩), .int .i64 (f:Int)] w fun e w'=>e= .returned (.bool (pd (p.dat f) 4096))/\Below w.heap.size w w':=by
 have c1:w.cell? ⟨t,1,none⟩=some (.pointer (some ⟨a,0,none⟩)):=aa ht 1;clear ht;go_enter Tryz.func157,Tryz.ntmps157;go_wp2_with fail;refine(fA a f 0 4096 w S p h hf h1 (by omega) (by omega)).mono ?_;rintro e w1 ⟨rfl,hB,hz,vk⟩;have HB:=uH hB;clear hB;go_wp2_with fail;go_loop [20] (fun i=> ∃k:Nat,k<=4096/\i= .int .i64 k/\ ∀i,i<k->p.dat f i=0) (fun i=>4096-(intOf i).toNat)
 case atStart=>exact⟨0,vd _,rfl,fun i hi=>by omega⟩
 case round=>
  obtain⟨k,hk,rfl,vQ⟩:=hrel;have HZ:=uH vQ;clear vQ;by_cases vo:k<4096
  ·have hc:w1.cell? ⟨w.heap.size,k,none⟩=some (.int .u8 ((p.dat f k:Nat):Int)):=by
    have h9:=aT HB.out vo;simpa using h9
   by_cases hd:p.dat f k=0
   ·rw[hd]at hc;have HD:=uH hd;clear hd;go_wp2;go_round
    case rel=>exact⟨k+1,by omega,by go_num,fun i hi=>by
     rcases Nat.lt_or_ge i k with h2|h2
     ·exact HZ.out i h2
     ·have:i=k:=(by omega);rw[this];exact HD.out⟩
    case measure=>simp[intOf];omega
   ·have vu:(((p.dat f k:Nat):Int) != 0)=true:=(by rw[bne_iff_ne];omega);have HD:=uH hd;clear hd;go_wp2;go_ret;exact⟨gx (uX fun e=>HD.out (e k vo)).symm,vk⟩
  ·obtain rfl:k=4096:=(by omega);go_wp2;go_ret;exact⟨gx (uY HZ.out).symm,vk⟩
end
section
open Go.RowKit
structure Way (p:Pool) (T:Tab) (pg:Nat):Prop where
 node: ∀lv f,1<=lv->lv<=4->T.nd lv (part pg lv)=some f->f<p.n/\1<=p.cnt f/\word (p.dat f) (num pg lv)=T.on pg lv
 few:p.n<=1024
 prot: ∀l,T.lf pg=some l->l.prot<=7/\l.frame<p.n
variable {p:Pool}
theorem Tab.Good.way {t:Tab} {rest:Nat->Nat} {pg0 lv0:Nat} (h:t.Good p rest pg0 lv0) (pg:Nat):Way p t pg:=
 ⟨fun lv f h1 h4 hf=>⟨(h.node hf).1,(h.node hf).2,(h.but.words lv _ f hf).2 _ (bR _ _)⟩,h.but.few,fun l hl=>(h.but.leaf pg l hl).2⟩
variable {x:Nat}
theorem and_one (hx:x<18446744073709551616):bits .and .u64 (x:Int) 1=((x % 2:Nat):Int):=by
 have e3:(1:Int)=((1:Nat):Int):=rfl;rw[e3,bits_and_u64_nat _ _ hx (by omega),Nat.and_one_is_mod]
theorem fg (hx:x<18446744073709551616) (h:x % 2=1):(bits .and .u64 (x:Int) 1==0)=false:=by
 rw[and_one hx,h];rfl
theorem gQ:(bits .and .u64 0 1==0)=true:=by decide+kernel
def kX (w:World) (b pg:Nat):Prop:=w.heap[b]? =some (.cells #[.int .i64 ((num pg 4:Nat):Int), .int .i64 ((num pg 3:Nat):Int), .int .i64 ((num pg 2:Nat):Int), .int .i64 ((num pg 1:Nat):Int)] 212 (0,0))
variable {w:World} {pg:Nat}
theorem kX.cells {b:Nat} (h:kX w b pg):w.cell? ⟨b,0,none⟩=some (.int .i64 ((num pg 4:Nat):Int))/\w.cell? ⟨b,1,none⟩=some (.int .i64 ((num pg 3:Nat):Int))/\w.cell? ⟨b,2,none⟩=some (.int .i64 ((num pg 2:Nat):Int))/\w.cell? ⟨b,3,none⟩=some (.int .i64 ((num pg 1:Nat):Int)):=⟨aa h 0,aa h 1,aa h 2,aa h 3⟩
theorem cZ {S:Nat->Prop} {t c a root:Nat} (pg:Nat) (h:al w S a p) (ht:am w t c a root) (wv:t<w.heap.size): ∃w0,w0=w.alloc (.cells #[.int .i64 ((num pg 4:Nat):Int), .int .i64 ((num pg 3:Nat):Int), .int .i64 ((num pg 2:Nat):Int), .int .i64 ((num pg 1:Nat):Int)] 212)/\Below w.heap.size w w0/\al w0 S a p/\am w0 t c a root/\kX w0 w.heap.size pg/\w.heap.size<w0.heap.size/\t<w0.heap.size:=by
 have wR:Below w.heap.size w (w.alloc (.cells #[.int .i64 ((num pg 4:Nat):Int), .int .i64 ((num pg 3:Nat):Int), .int .i64 ((num pg 2:Nat):Int), .int .i64 ((num pg 1:Nat):Int)] 212)):=uJ;exact⟨_,rfl,wR,h.below wR,(wR.block t wv).trans ht,ab w _,by simp,by simp;omega⟩
def eH (LV LW:Nat) (D E:Int):Prop:=(LV=2/\LW=1/\D=2/\E=3)\/(LV=3/\LW=2/\D=1/\E=2)\/(LV=4/\LW=3/\D=0/\E=1)
variable {LV LW:Nat} {D E:Int}
theorem eH.nums (h:eH LV LW D E):LV=LW+1/\1<=LW/\LV<=4:=by
 rcases h with⟨rfl,rfl,_⟩|⟨rfl,rfl,_⟩|⟨rfl,rfl,_⟩<;>decide
variable {T:Tab} {f:Nat}
theorem oA {g:Nat} (hc:eH LV LW D E) (h:word (p.dat f) (num pg LV)=T.on pg LV) (hg:T.nd LW (part pg LW)=some g):word (p.dat f) (num pg LV)=g*4096+1:=by
 obtain⟨rfl,h1,h2⟩:=hc.nums;rw[h,Tab.on_more _ _ _ (by omega)];show(match T.nd LW (part pg LW)with|some f=>f*4096+1|none=>0)=_;rw[hg]
theorem on_none (hc:eH LV LW D E) (h:word (p.dat f) (num pg LV)=T.on pg LV) (hg:T.nd LW (part pg LW)=none):word (p.dat f) (num pg LV)=0:=by
 obtain⟨rfl,h1,h2⟩:=hc.nums;rw[h,Tab.on_more _ _ _ (by omega)];show(match T.nd LW (part pg LW)with|some f=>f*4096+1|none=>0)=_;rw[hg]
def qj (LV:Nat) (D:Int):Prop:= ∀(t c a root f pg:Nat) (V:Value) (w:World) (S:Nat->Prop) (p:Pool) (T:Tab),al w S a p->am w t c a root->t<w.heap.size->Way p T pg->T.lf pg=none->T.nd LV (part pg LV)=some f->
 Calls Tryz.prog 126 #[.pointer (some ⟨t,0,none⟩), .int .i64 (f:Int),wayA pg, .int .i64 D,V] w fun e w'=>e= .returned (.tuple #[.bool false, .bool false])/\Below w.heap.size w w'
theorem desc_no1:qj 1 3:=by
 intro t c a root f pg V w S p T h ht wv hw vE hf;obtain⟨f1,f2,f3⟩:=hw.node 1 f (by omega) (by omega) hf;obtain⟨w0,vl,wR,Cf,yo,BI,yi,Bk⟩:=cZ pg h ht wv;obtain⟨c0,c1,c2,c3⟩:=BI.cells;have e0:word (p.dat f) (num pg 1)=0:=(by rw[f3,Tab.on_one,vE]);have E0:=uH e0;have vF:=uH vl;have hz:=gQ;clear f3 hf vl h ht e0 vE;unfold wayA;go_enter Tryz.func126,Tryz.ntmps126;go_upto_region 1 with(fail);rw[<-vF.out];go_wp2_with fail;refine(bJ t c a root f _ w0 S p Cf yo f1 f2 (bR pg _)).mono ?_;rintro e w1 ⟨rfl,vk⟩;rw[E0.out];go_wp2_with fail;go_ret2;exact⟨rfl,wR.trans (vk.mono (Nat.le_of_lt yi))⟩
theorem lW (hc:eH LV LW D E) (ih:qj LW E):qj LV D:=by
 intro t c a root f pg V w S p T h ht wv hw vE hf;obtain⟨f1,f2,f3⟩:=hw.node LV f (by have:=hc.nums;omega) (by have:=hc.nums;omega) hf;obtain⟨w0,vl,wR,Cf,yo,BI,yi,Bk⟩:=cZ pg h ht wv;obtain⟨c0,c1,c2,c3⟩:=BI.cells;have vF:=uH vl;have hz:=gQ;have IH:=uH ih;cases hg:T.nd LW (part pg LW)with
 |none=>
  have E0:=uH (on_none hc f3 hg);clear f3 hf vl h ht vE hg ih IH;unfold wayA;rcases hc with⟨rfl,rfl,rfl,rfl⟩|⟨rfl,rfl,rfl,rfl⟩|⟨rfl,rfl,rfl,rfl⟩<;>(
   go_enter Tryz.func126,Tryz.ntmps126;go_upto_region 1 with(fail);rw[<-vF.out];go_wp2_with fail;refine(bJ t c a root f _ w0 S p Cf yo f1 f2 (bR pg _)).mono ?_;rintro e w1 ⟨rfl,vk⟩;rw[E0.out];go_wp2_with fail;go_ret2;exact⟨rfl,wR.trans (vk.mono (Nat.le_of_lt yi))⟩)
 |some g=>
  obtain⟨g1,g2,_⟩:=hw.node LW g (by have:=hc.nums;omega) (by have:=hc.nums;omega) hg;have vH:=hw.few;obtain⟨x,hx⟩: ∃x,x=g*4096+1:=⟨_,rfl⟩;have e0:=oA hc f3 hg;rw[<-hx]at e0;have E0:=uH e0;have ze:x<18446744073709551616:=(by omega);have Fl:=fg ze (by omega);have Ho:=uH (show((x:Int)/4096)=(g:Int) by omega);have HG:=uH hg;have HN:=uH vE;clear f3 hf vl h ht vE hg ih e0 hx;unfold wayA;rcases hc with⟨rfl,rfl,rfl,rfl⟩|⟨rfl,rfl,rfl,rfl⟩|⟨rfl,rfl,rfl,rfl⟩<;>(
   go_enter Tryz.func126,Tryz.ntmps126;go_upto_region 1 with(fail);rw[<-vF.out];go_wp2_with fail;refine(bJ t c a root f _ w0 S p Cf yo f1 f2 (bR pg _)).mono ?_;rintro e w1 ⟨rfl,vk⟩;rw[E0.out];have vI:=vk.size;obtain⟨d0,d1,d2,d3⟩:=kX.cells ((vk.block _ yi).trans BI);have zS:am w1 t c a root:=(vk.block t Bk).trans yo;clear c0 c1 c2 c3;go_wp2_with fail;rw[Ho.out];refine(IH.out t c a root g pg V w1 S p T (Cf.below vk) zS (by omega) hw HN.out HG.out).mono ?_;rintro e w2 ⟨rfl,vs⟩;go_wp2_with fail;go_ret2;exact⟨rfl,wR.trans ((vk.trans (vs.mono vI)).mono (Nat.le_of_lt yi))⟩)
theorem gM:qj 4 0:=lW (.inr (.inr ⟨rfl,rfl,rfl,rfl⟩)) (lW (.inr (.inl ⟨rfl,rfl,rfl,rfl⟩)) (lW (.inl ⟨rfl,rfl,rfl,rfl⟩) desc_no1))
end
section
open Go.RowKit
def ji (bt bl:Nat) (f:FuncId) (C:Array Value):Prop:=(f=127/\C= #[])\/(f=170/\C= #[.pointer (some ⟨bt,0,none⟩), .pointer (some ⟨bl,0,none⟩)])\/(f=116/\C= #[.pointer (some ⟨bt,0,none⟩), .pointer (some ⟨bl,0,none⟩)])
def mn (fid:FuncId) (C:Array Value) (LV:Nat) (D:Int):Prop:= ∀(t c a root f pg:Nat) (R:World->World->Prop) (w:World) (S:Nat->Prop) (p:Pool) (T:Tab),al w S a p->am w t c a root->t<w.heap.size->Way p T pg->(∀m,1<=m->m<=4->(T.nd m (part pg m)).isSome=true)-> ∀(l:Leaf) (q1:Nat),T.lf pg=some l->T.nd 1 (part pg 1)=some q1->
 (∀w1,Below w.heap.size w w1->Calls Tryz.prog fid (#[.int .i64 (q1:Int), .int .i64 ((num pg 1:Nat):Int)]++C) w1 fun e w2=>e= .returned (.bool false)/\R w1 w2)->T.nd LV (part pg LV)=some f->
 Calls Tryz.prog 126 #[.pointer (some ⟨t,0,none⟩), .int .i64 (f:Int),wayA pg, .int .i64 D, .func (.func fid) #[] C] w fun e w'=>e= .returned (.tuple #[.bool true, .bool false])/\ ∃w1,Below w.heap.size w w1/\R w1 w'
variable {bt bl:Nat} {fid:FuncId} {C:Array Value}
theorem tK (hk:ji bt bl fid C):mn fid C 1 3:=by
 intro t c a root f pg R w S p T h ht wv hw DW l q1 vY AJ zk hf;obtain⟨f1,f2,f3⟩:=hw.node 1 f (by omega) (by omega) hf;obtain⟨w0,vl,wR,Cf,yo,BI,yi,Bk⟩:=cZ pg h ht wv;obtain⟨c0,c1,c2,c3⟩:=BI.cells;obtain rfl:f=q1:=(by rw[AJ]at hf;injection hf with e9;exact e9.symm);obtain⟨x,hx⟩: ∃x,x=l.pack:=⟨_,rfl⟩;have e0:word (p.dat f) (num pg 1)=x:=(by rw[f3,Tab.on_one,vY,hx]);have E0:=uH e0;have Ie:=hw.prot l vY;have vH:=hw.few;have ze:x<18446744073709551616:=(by rw[hx];have:=eu l Ie.1 (by omega);omega);have Fl:=fg ze (by rw[hx];exact fx l);have vF:=uH vl;have KF:=uH zk;clear f3 hf vl h ht e0 hx vY AJ zk DW;unfold wayA;rcases hk with⟨rfl,rfl⟩|⟨rfl,rfl⟩|⟨rfl,rfl⟩<;>(
  go_enter Tryz.func126,Tryz.ntmps126;go_upto_region 1 with(fail);rw[<-vF.out];go_wp2_with fail;refine(bJ t c a root f _ w0 S p Cf yo f1 f2 (bR pg _)).mono ?_;rintro e w1 ⟨rfl,vk⟩;rw[E0.out];go_wp2_with fail;refine(KF.out w1 (wR.trans (vk.mono (Nat.le_of_lt yi)))).mono ?_;rintro e w2 ⟨rfl,hR⟩;go_wp2_with fail;go_ret2;exact⟨rfl,w1,wR.trans (vk.mono (Nat.le_of_lt yi)),hR⟩)
theorem ke (hk:ji bt bl fid C) {LV LW:Nat} {D E:Int} (hc:eH LV LW D E) (ih:mn fid C LW E):mn fid C LV D:=by
 intro t c a root f pg R w S p T h ht wv hw DW l q1 vY AJ zk hf;obtain⟨f1,f2,f3⟩:=hw.node LV f (by have:=hc.nums;omega) (by have:=hc.nums;omega) hf;obtain⟨w0,vl,wR,Cf,yo,BI,yi,Bk⟩:=cZ pg h ht wv;obtain⟨c0,c1,c2,c3⟩:=BI.cells;have vF:=uH vl;have IH:=uH ih;obtain⟨g,hg⟩: ∃g,T.nd LW (part pg LW)=some g:=bB (DW LW (by have:=hc.nums;omega) (by have:=hc.nums;omega));obtain⟨g1,g2,_⟩:=hw.node LW g (by have:=hc.nums;omega) (by have:=hc.nums;omega) hg;have vH:=hw.few;obtain⟨x,hx⟩: ∃x,x=g*4096+1:=⟨_,rfl⟩;have e0:=oA hc f3 hg;rw[<-hx]at e0;have E0:=uH e0;have ze:x<18446744073709551616:=(by omega);have Fl:=fg ze (by omega);have Ho:=uH (show((x:Int)/4096)=(g:Int) by omega);have HG:=uH hg;have HU:=uH DW;have HL:=uH vY;have Rx:=uH AJ;have KF:=uH zk;clear f3 hf vl h ht hg ih e0 hx DW vY AJ zk;unfold wayA;rcases hk with⟨rfl,rfl⟩|⟨rfl,rfl⟩|⟨rfl,rfl⟩<;>rcases hc with⟨rfl,rfl,rfl,rfl⟩|⟨rfl,rfl,rfl,rfl⟩|⟨rfl,rfl,rfl,rfl⟩<;>(
  go_enter Tryz.func126,Tryz.ntmps126;go_upto_region 1 with(fail);rw[<-vF.out];go_wp2_with fail;refine(bJ t c a root f _ w0 S p Cf yo f1 f2 (bR pg _)).mono ?_;rintro e w1 ⟨rfl,vk⟩;rw[E0.out];have vI:=vk.size;obtain⟨d0,d1,d2,d3⟩:=kX.cells ((vk.block _ yi).trans BI);have zS:am w1 t c a root:=(vk.block t Bk).trans yo;clear c0 c1 c2 c3;go_wp2_with fail;rw[Ho.out];refine(IH.out t c a root g pg R w1 S p T (Cf.below vk) zS (by omega) hw HU.out l q1 HL.out Rx.out (fun w5 VW=>KF.out w5 (wR.trans ((vk.trans (VW.mono vI)).mono (Nat.le_of_lt yi)))) HG.out).mono ?_;rintro e w2 ⟨rfl,w5,vs,hR⟩;go_wp2_with fail;go_ret2;exact⟨rfl,w5,wR.trans ((vk.trans (vs.mono vI)).mono (Nat.le_of_lt yi)),hR⟩)
theorem ka (hk:ji bt bl fid C):mn fid C 4 0:=ke hk (.inr (.inr ⟨rfl,rfl,rfl,rfl⟩)) (ke hk (.inr (.inl ⟨rfl,rfl,rfl,rfl⟩)) (ke hk (.inl ⟨rfl,rfl,rfl,rfl⟩) (tK hk)))
end
section
open Go.RowKit
def ap (l:Leaf):Array Value:= #[.int .i64 (l.frame:Int), .int .u8 (l.prot:Int), .bool l.copy]
def eN (w:World) (b t:Nat):Prop:=w.heap[b]? =some (.cells #[.pointer (some ⟨t,0,none⟩)] 77 (0,0))
def cw (w:World) (b:Nat) (l:Leaf):Prop:=w.heap[b]? =some (.cells #[.int .i64 (l.frame:Int), .int .u8 (l.prot:Int), .bool l.copy] 83 (0,0))
theorem keep2 {w w':World} {b o:Nat} {v:Value} (hb:Below w.heap.size w w') (h:w.cell? ⟨b,o,none⟩=some v/\b<w.heap.size):w'.cell? ⟨b,o,none⟩=some v/\b<w'.heap.size:=
 ⟨(hb.cell (p:=⟨b,o,none⟩) h.2).trans h.1,uO h.2 hb.size⟩
theorem find_cl (t c a root f k bt bl:Nat) (l0 l:Leaf) (w:World) (S:Nat->Prop) (p:Pool) (h:al w S a p) (ht:am w t c a root) (zm:eN w bt t) (AQ:cw w bl l0) (hf:f<p.n) (h1:1<=p.cnt f) (hk:k<512)
  (hw:word (p.dat f) k=l.pack) (h7:l.prot<=7) (hl:l.frame<1024):
  Calls Tryz.prog 170 (#[.int .i64 (f:Int), .int .i64 (k:Int)]++ #[.pointer (some ⟨bt,0,none⟩), .pointer (some ⟨bl,0,none⟩)]) w fun e w'=>e= .returned (.bool false)/\(cw w' bl l/\Mod (fun b=>b=bl) w w'):=by
 have c0:w.cell? ⟨bt,0,none⟩=some (.pointer (some ⟨t,0,none⟩)):=aa zm 0;have yA:bl<w.heap.size:=(uG AQ).1;have HBL:=uH AQ;have ze:l.pack<18446744073709551616:=(by have:=eu l h7 hl;omega);have yk:=eo l h7;have LS:=uH yk;have HW:=uH hw;clear zm AQ yk hw;show Calls Tryz.prog 170 #[.int .i64 (f:Int), .int .i64 (k:Int), .pointer (some ⟨bt,0,none⟩), .pointer (some ⟨bl,0,none⟩)] w _;go_enter Tryz.func170,Tryz.ntmps170;go_wp2_with fail;refine(bJ t c a root f k w S p h ht hf h1 hk).mono ?_;rintro e w1 ⟨rfl,vk⟩;rw[HW.out];go_wp2_with fail;refine(ep l.pack w1 ze).mono ?_;rintro e w2 ⟨rfl,vs⟩;rw[LS.out];have vI:=vk.size;have vO:=vs.size;have xe:Below w.heap.size w w2:=vk.trans (vs.mono vI);have Il:cw w2 bl l0:=(xe.block bl yA).trans HBL.out;have x0:=aa Il 0;have x1:=aa Il 1;have x2:=aa Il 2;have z0:=ae Il 0;have z1:=ae Il 1;have z2:=ae Il 2;simp at x0 x1 x2;have FR:=uH Il;clear Il;go_wp2_with fail;go_ret;refine⟨rfl,?_,(Mod.of xe).trans (Out.refl _ _) (((aj (S:=fun b=>b=bl) rfl _ _).trans (Out.refl _ _) (aj (S:=fun b=>b=bl) rfl _ _)).trans (Out.refl _ _) (aj (S:=fun b=>b=bl) rfl _ _))⟩;unfold cw;have:=Joins.block_setCell (i:=2) (Joins.block_setCell (i:=1) (Joins.block_setCell (i:=0) FR.out (.int .i64 (l.frame:Int))) (.int .u8 (l.prot:Int))) (.bool l.copy);simpa using this
theorem ld (A:Int) (w:World) (h0:0<=A) (h1:A<18446744073709551616):
  Calls Tryz.prog 125 #[.int .u64 A] w fun e w'=>e= .returned (wayA (A.toNat/4096))/\Below w.heap.size w w':=by
 obtain⟨a,rfl⟩:=Int.eq_ofNat_of_zero_le h0;rw[Int.toNat_natCast];exact way_any a w (by omega)
theorem li (t c a root:Nat) (A:Int) (V:Value) (w:World) (S:Nat->Prop) (p:Pool) (T:Tab) (h:al w S a p) (ht:am w t c a root) (wv:t<w.heap.size) (hw:Way p T (A.toNat/4096)) (vE:T.lf (A.toNat/4096)=none)
  (hr:T.nd 4 (part (A.toNat/4096) 4)=some root) (yv:0<=A) (hA:A<140737488355328):
  Calls Tryz.prog 108 #[.pointer (some ⟨t,0,none⟩), .int .u64 A,V] w fun e w'=>e= .returned (.int .i64 6)/\Below w.heap.size w w':=by
 have c2:w.cell? ⟨t,2,none⟩=some (.int .i64 (root:Int)):=aa ht 2;have HT:=uH ht;have HP:=uH h;have HN:=uH vE;have HR:=uH hr;have HW:=uH hw;have Nv:A<18446744073709551616:=(by omega);have VT:=uH Nv;clear ht h vE hr Nv hw;go_enter Tryz.func108,Tryz.ntmps108;go_wp2_with fail;refine(cL t c a root _ HT.out).mono ?_;rintro e w1 ⟨rfl,rfl⟩;go_wp2_with fail;go_region_held3 (fun w'=>w'.cell? ⟨t,2,none⟩=some (.int .i64 (root:Int))/\t<w'.heap.size)
  ((first|(simp[*];done)|exact keep2 vs (by assumption)|exact keep2 vk (by assumption)))
  ((
   first
   |(go_at_call 125;refine(ld A _ yv VT.out).mono ?_;rintro e w1 ⟨rfl,vk⟩;have xB:Below w.heap.size w w1:=((vg w.heap.size w).drew).trans vk)
   |(go_at_call 126;refine(gM t c a root root (A.toNat/4096) V _ S p T (HP.out.below xB) ((xB.block t wv).trans HT.out) (uO wv xB.size) HW.out HN.out HR.out).mono ?_;rintro e w2 ⟨rfl,vs⟩)))
 have hB:Below w.heap.size w w2:=xB.trans (vs.mono xB.size);go_wp2_with fail;go_ret;exact⟨rfl,hB⟩
theorem nY (t c a root:Nat) (A:Int) (V:Value) (w:World) (ht:am w t c a root) (hA:140737488355328<=A):
  Calls Tryz.prog 108 #[.pointer (some ⟨t,0,none⟩), .int .u64 A,V] w fun e w'=>e= .returned (.int .i64 1)/\w=w':=by
 have HT:=uH ht;clear ht;go_enter Tryz.func108,Tryz.ntmps108;go_wp2_with fail;refine(cL t c a root _ HT.out).mono ?_;rintro e w1 ⟨rfl,rfl⟩;go_wp2_with fail;go_ret;exact⟨rfl,rfl⟩
theorem sb {bt bl:Nat} {fid:FuncId} {C:Array Value} (hk:ji bt bl fid C) (t c a root:Nat) (A:Int) (R:World->World->Prop) (w:World) (S:Nat->Prop) (p:Pool) (T:Tab) (h:al w S a p) (ht:am w t c a root) (wv:t<w.heap.size) (hw:Way p T (A.toNat/4096)) (DW: ∀m,1<=m->m<=4->(T.nd m (part (A.toNat/4096) m)).isSome=true) (l:Leaf) (q1:Nat) (vY:T.lf (A.toNat/4096)=some l) (Ic:T.nd 1 (part (A.toNat/4096) 1)=some q1)
  (zk: ∀w1,Below w.heap.size w w1->Calls Tryz.prog fid (#[.int .i64 (q1:Int), .int .i64 ((num (A.toNat/4096) 1:Nat):Int)]++C) w1 fun e w2=>e= .returned (.bool false)/\R w1 w2)
  (hr:T.nd 4 (part (A.toNat/4096) 4)=some root) (yv:0<=A) (hA:A<140737488355328):
  Calls Tryz.prog 108 #[.pointer (some ⟨t,0,none⟩), .int .u64 A, .func (.func fid) #[] C] w fun e w'=>e= .returned (.int .i64 0)/\ ∃w1,Below w.heap.size w w1/\R w1 w':=by
 have c2:w.cell? ⟨t,2,none⟩=some (.int .i64 (root:Int)):=aa ht 2;have HT:=uH ht;have HP:=uH h;have HL:=uH vY;have HQ:=uH Ic;have KF:=uH zk;have HU:=uH DW;have HR:=uH hr;have HW:=uH hw;have Nv:A<18446744073709551616:=(by omega);have VT:=uH Nv;have HD:=uH (ka hk);clear ht h vY Ic zk DW hr Nv hw;rcases hk with⟨rfl,rfl⟩|⟨rfl,rfl⟩|⟨rfl,rfl⟩<;>(
  go_enter Tryz.func108,Tryz.ntmps108;go_wp2_with fail;refine(cL t c a root _ HT.out).mono ?_;rintro e w1 ⟨rfl,rfl⟩;go_wp2_with fail;go_region_with
   ((
    first
    |(go_at_call 125;refine(ld A _ yv VT.out).mono ?_;rintro e w1 ⟨rfl,vk⟩;have xB:Below w.heap.size w w1:=((vg w.heap.size w).drew).trans vk;have c2':w1.cell? ⟨t,2,none⟩=some (.int .i64 (root:Int)):=aa ((xB.block t wv).trans HT.out) 2)
    |(go_at_call 126;refine(HD.out t c a root root (A.toNat/4096) R _ S p T (HP.out.below xB) ((xB.block t wv).trans HT.out) (uO wv xB.size) HW.out HU.out l q1 HL.out HQ.out (fun w5 VW=>KF.out w5 (xB.trans (VW.mono xB.size))) HR.out).mono ?_;rintro e w2 ⟨rfl,w5,zQ,hR⟩)))
  all_goals
   go_wp2_with fail;go_ret;exact⟨rfl,w5,xB.trans (zQ.mono xB.size),hR⟩)
end
section
open Go.RowKit
def noLeaf:Leaf:=⟨0,0,false⟩
def cH (T:Tab) (A:Int):Leaf×Int:=if 140737488355328<=A then(noLeaf,1)else match T.lf (A.toNat/4096)with
 |some l=>(l,0)
 |none=>(noLeaf,6)
structure Tree (p:Pool) (T:Tab) (root:Nat):Prop where
 way: ∀pg,Way p T pg
 ups: ∀pg l,T.lf pg=some l-> ∀m,1<=m->m<=4->(T.nd m (part pg m)).isSome=true
 root:T.nd 4 0=some root
variable {p:Pool} {root:Nat}
theorem Tree.top {T:Tab} (h:Tree p T root) {A:Int} (h0:0<=A) (hA:A<140737488355328):T.nd 4 (part (A.toNat/4096) 4)=some root:=by
 rw[gE _ (by omega)];exact h.root
theorem Tab.Good.tree {t:Tab} {rest:Nat->Nat} {pg0:Nat} (h:t.Good p rest pg0 4) (hr:t.nd 4 0=some root):Tree p t root:=
 ⟨fun pg=>h.way pg,fun pg l hl m h1 h4=>h.ok.leafUp hl m h1 h4,hr⟩
def FindPost (w:World) (bl:Nat) (r:Leaf×Int) (e:Ending) (w':World):Prop:=e= .returned (.int .i64 r.2)/\cw w' bl r.1/\Mod (fun b=>b=bl) w w'
theorem tat_res (t c a root bt bl:Nat) (A:Int) (w:World) (S:Nat->Prop) (p:Pool) (T:Tab) (h:al w S a p) (ht:am w t c a root) (wv:t<w.heap.size) (hw:Tree p T root) (yv:0<=A)
  (zm:eN w bt t) (AQ:cw w bl noLeaf):
  Calls Tryz.prog 108 #[.pointer (some ⟨t,0,none⟩), .int .u64 A, .func (.func 170) #[] #[.pointer (some ⟨bt,0,none⟩), .pointer (some ⟨bl,0,none⟩)]] w (FindPost w bl (cH T A)):=by
 have zb:bt<w.heap.size:=(uG zm).1;have Hc:bl<w.heap.size:=(uG AQ).1;by_cases ya:140737488355328<=A
 ·have hr:cH T A=(noLeaf,1):=(by unfold cH;rw[if_pos ya]);rw[hr];exact(nY t c a root A _ w ht ya).mono fun e w' ⟨he,xt⟩=>by
   subst xt;exact⟨he,AQ,Mod.refl _ _⟩
 ·have vo:A<140737488355328:=(by omega);have AO:=hw.top yv vo;have DE:=hw.way (A.toNat/4096);cases vY:T.lf (A.toNat/4096)with
  |none=>
   have hr:cH T A=(noLeaf,6):=(by unfold cH;rw[if_neg ya,vY]);rw[hr];exact(li t c a root A _ w S p T h ht wv DE vY AO yv vo).mono fun e w' ⟨he,hb⟩=>⟨he,(hb.block bl Hc).trans AQ,Mod.of hb⟩
  |some l=>
   have hr:cH T A=(l,0):=(by unfold cH;rw[if_neg ya,vY]);rw[hr];have yk:=hw.ups _ l vY;obtain⟨q1,Ic⟩:=bB (yk 1 (by omega) (by omega));obtain⟨n1,n2,n3⟩:=DE.node 1 q1 (by omega) (by omega) Ic;obtain⟨p7,pf⟩:=DE.prot l vY;have vH:=DE.few;refine(sb (bt:=bt) (bl:=bl) (.inr (.inl ⟨rfl,rfl⟩)) t c a root A (fun w1 w2=>cw w2 bl l/\Mod (fun b=>b=bl) w1 w2) w S p T h ht wv DE yk l q1 vY Ic (fun w1 hb=>?_) AO yv vo).mono fun e w' ⟨he,w1,hb,vV,hm⟩=>⟨he,vV,(Mod.of hb).trans (Out.refl _ _) hm⟩;exact find_cl t c a root q1 (num (A.toNat/4096) 1) bt bl noLeaf l w1 S p (h.below hb) ((hb.block t wv).trans ht) ((hb.block bt zb).trans zm) ((hb.block bl Hc).trans AQ) n1 n2 (bR _ _) (by rw[n3,Tab.on_one,vY]) p7 (by omega)
theorem sa (t c a root:Nat) (A:Int) (w:World) (S:Nat->Prop) (p:Pool) (T:Tab) (h:al w S a p) (ht:am w t c a root) (wv:t<w.heap.size) (hw:Tree p T root) (yv:0<=A):
  Calls Tryz.prog 156 #[.pointer (some ⟨t,0,none⟩), .int .u64 A] w
   fun e w'=>e= .returned (.tuple #[.agg (ap (cH T A).1), .int .i64 (cH T A).2])/\Below w.heap.size w w':=by
 have HP:=uH h;have HT:=uH ht;have HW:=uH hw;clear h ht;obtain⟨w0,vl⟩: ∃w0,w0=(((w.alloc (.cells #[.pointer (some ⟨t,0,none⟩)] 77)).alloc (.cells #[.int .i64 0, .int .u8 0, .bool false] 83)).alloc (.cells #[.int .i64 0, .int .u8 0, .bool false] 83)):=⟨_,rfl⟩;have wR:Below w.heap.size w w0:=(by rw[vl];exact(uJ.alloc (by simp) _).alloc (by simp;omega) _);have AX:w0.heap.size=w.heap.size+1+1+1:=(by rw[vl];simp);have Rh:eN w0 w.heap.size t:=(by rw[vl];exact(uL _ _ _ (by simp;omega)).trans ((uL _ _ _ (by simp)).trans (ab w _)));have yB:cw w0 (w.heap.size+1) noLeaf:=by
  rw[vl];have e:(w.alloc (.cells #[.pointer (some ⟨t,0,none⟩)] 77)).heap.size=w.heap.size+1:=(by simp);rw[<-e];exact(uL _ _ _ (by simp)).trans (ab _ _)
 have zV:cw w0 (w.heap.size+1+1) noLeaf:=by
  rw[vl];have e:((w.alloc (.cells #[.pointer (some ⟨t,0,none⟩)] 77)).alloc (.cells #[.int .i64 0, .int .u8 0, .bool false] 83)).heap.size=w.heap.size+1+1:=(by simp);rw[<-e];exact ab _ _
 have vw:=tat_res t c a root w.heap.size (w.heap.size+1+1) A w0 S p T (HP.out.below wR) ((wR.block t wv).trans HT.out) (by omega) HW.out yv Rh zV;generalize hL:cH T A=r at *
 have vT:=uH vw;have CS:=uH yB;have yQ:=uH AX;have yi:w.heap.size+1<w0.heap.size:=(by omega);clear vw yB zV Rh hL AX;have vF:=uH vl;clear vl;go_enter Tryz.func156,Tryz.ntmps156;go_wp2_with fail;rw[<-vF.out];refine(vT.out).mono ?_;rintro e w2 ⟨rfl,vV,hm⟩;have vO:=hm.size;have xE:cw w2 (w.heap.size+1) noLeaf:=(hm.block _ yi (by omega)).trans CS.out;have x0:w2.cell? ⟨w.heap.size+1+1,0,none⟩=some (.int .i64 (r.1.frame:Int)):=aa vV 0;have x1:w2.cell? ⟨w.heap.size+1+1,1,none⟩=some (.int .u8 (r.1.prot:Int)):=aa vV 1;have x2:w2.cell? ⟨w.heap.size+1+1,2,none⟩=some (.bool r.1.copy):=aa vV 2;have y0:w2.cell? ⟨w.heap.size+1,0,none⟩=some (.int .i64 0):=aa xE 0;have y1:w2.cell? ⟨w.heap.size+1,1,none⟩=some (.int .u8 0):=aa xE 1;have y2:w2.cell? ⟨w.heap.size+1,2,none⟩=some (.bool false):=aa xE 2;have z0:=ae xE 0;have z1:=ae xE 1;have z2:=ae xE 2;have vo:w.heap.size+1<w2.heap.size:=(by omega);clear vV xE;have hB:Below w.heap.size w w2:=wR.trans (hm.below (fun b hb=>by omega) (by omega));go_wp2_with fail;exact bodyPost_ret (v:= .tuple #[.agg (ap r.1), .int .i64 r.2]) (by simp[results,Tryz.results156,go_sem,vo,y0,y1,y2,z0,z1,z2,ap]) rfl ⟨rfl,((hB.setCell (by show w.heap.size<=w.heap.size+1;omega) _).setCell (by show w.heap.size<=w.heap.size+1;omega) _).setCell (by show w.heap.size<=w.heap.size+1;omega) _⟩
end
section
open Go.RowKit
theorem up_cnt (p:Pool) (f g:Nat) (h:1<=p.cnt g):1<=(p.up f).cnt g:=by
 by_cases e:g=f
 ·subst e;simp only[Pool.up,af];omega
 ·simp only[Pool.up,ag _ _ e];exact h
variable {w:World} {S:Nat->Prop}
theorem al.drew {a:Nat} {p:Pool} (h:al w S a p):al w.drew S a p:=h.below ((vg _ _).drew)
variable {w':World}
theorem Mod.undrew (h:Mod S w.drew w'):Mod S w w':=⟨h.os,h.tape,h.output,h.size,h.block⟩
theorem bu {B:Nat} (h:Below B w.drew w'):Below B w w':=⟨h.os,h.tape,h.output,h.size,h.block⟩
theorem set_cl (t c a root f k bt bl:Nat) (l was:Leaf) (w:World) (S:Nat->Prop) (p:Pool) (h:al w S a p) (ht:am w t c a root) (zJ: ¬S t) (wv:t<w.heap.size) (zm:eN w bt t) (zP: ¬S bt) (AQ:cw w bl l) (LH: ¬S bl)
  (hf:f<p.n) (h1:1<=p.cnt f) (hk:k<512) (hw:word (p.dat f) k=was.pack) (xG:was.prot<=7) (EO:was.frame<p.n) (Le:1<=p.cnt was.frame) (h7:l.prot<=7) (vY:l.frame<p.n) (Bb:1<=p.cnt l.frame) (wB:p.cnt l.frame+1<1000000000000) (hn:p.n<=1024)
  (Tw:1<=((p.up l.frame).down was.frame).cnt f):
  Calls Tryz.prog 116 (#[.int .i64 (f:Int), .int .i64 (k:Int)]++ #[.pointer (some ⟨bt,0,none⟩), .pointer (some ⟨bl,0,none⟩)]) w
   fun e w'=>e= .returned (.bool false)/\(al w' S a (((p.up l.frame).down was.frame).store f (aE (p.dat f) k l.pack))/\Mod S w w'):=by
 have c0:w.cell? ⟨bt,0,none⟩=some (.pointer (some ⟨t,0,none⟩)):=aa zm 0;have zb:bt<w.heap.size:=(uG zm).1;have Hc:bl<w.heap.size:=(uG AQ).1;have ze:was.pack<18446744073709551616:=(by have:=eu was xG (by omega);omega);have SZ:l.pack<18446744073709551616:=(by have:=eu l h7 (by omega);omega);have LS:=uH (eo was xG);have HW:=uH hw;have Mn:=uH zm;have HBL:=uH AQ;have HT:=uH ht;have HP:=uH h;clear zm AQ hw h ht;show Calls Tryz.prog 116 #[.int .i64 (f:Int), .int .i64 (k:Int), .pointer (some ⟨bt,0,none⟩), .pointer (some ⟨bl,0,none⟩)] w _;go_enter Tryz.func116,Tryz.ntmps116;go_wp2_with fail;refine(bJ t c a root f k w S p HP.out HT.out hf h1 hk).mono ?_;rintro e w1 ⟨rfl,vk⟩;rw[HW.out];go_wp2_with fail;refine(ep was.pack w1 ze).mono ?_;rintro e w2 ⟨rfl,vs⟩;rw[LS.out];have vI:=vk.size;have vO:=vs.size;go_upto_region 2 with(fail);obtain⟨w3,wE⟩: ∃w3,w3=w2.alloc (.cells #[.int .i64 (was.frame:Int), .int .u8 (was.prot:Int), .bool was.copy] 83):=⟨_,rfl⟩;rw[<-wE];have Ds:Below w.heap.size w w3:=(by rw[wE];exact(vk.trans (vs.mono vI)).alloc (by omega) _);have Aq:cw w3 w2.heap.size was:=(by rw[wE];exact ab _ _);have IL:w2.heap.size<w3.heap.size:=(by rw[wE];simp);have BJ:=HP.out.below Ds;have Rc:am w3 t c a root:=(Ds.block t wv).trans HT.out;have Hj:eN w3 bt t:=(Ds.block bt zb).trans Mn.out;have PQ:cw w3 bl l:=(Ds.block bl Hc).trans HBL.out;have hWS: ¬S w2.heap.size:=fun e=>by have:=HP.out.low _ e;omega
 clear wE c0;have d0:w3.cell? ⟨bt,0,none⟩=some (.pointer (some ⟨t,0,none⟩)):=aa Hj 0;have d1:w3.cell? ⟨t,1,none⟩=some (.pointer (some ⟨a,0,none⟩)):=aa Rc 1;have d2:w3.cell? ⟨bl,0,none⟩=some (.int .i64 (l.frame:Int)):=aa PQ 0;have Md:=uH BJ;have Kn:=uH Rc;have Zw:=uH Hj;have aa1:=uH PQ;have BO:=uH Aq;clear BJ Rc Hj PQ Aq
 go_still_tail 6,(by kernel_rfl)
 go_wp2_with fail;refine(up_yes a l.frame _ S p (Md.out.drew) (by rw[bj];exact uY ⟨vY,Bb⟩) wB).mono ?_;rintro e w4 ⟨rfl,LN,Jh⟩;have wP:=Jh.undrew;have AN:=wP.size;have Xo:w2.heap.size<w4.heap.size:=(by omega);have EG:am w4 t c a root:=(wP.block t (by omega) zJ).trans Kn.out;have PG:eN w4 bt t:=(wP.block bt (by omega) zP).trans Zw.out;have Un:cw w4 bl l:=(wP.block bl (by omega) LH).trans aa1.out;have DN:cw w4 w2.heap.size was:=(wP.block _ IL hWS).trans BO.out;clear d0 d1 d2 Jh;have d0:w4.cell? ⟨bt,0,none⟩=some (.pointer (some ⟨t,0,none⟩)):=aa PG 0;have d1:w4.cell? ⟨t,1,none⟩=some (.pointer (some ⟨a,0,none⟩)):=aa EG 1;have d2:w4.cell? ⟨w2.heap.size,0,none⟩=some (.int .i64 (was.frame:Int)):=aa DN 0;have Mc:=uH LN;have KU:=uH EG;have Zv:=uH PG;have aa0:=uH Un;clear LN EG PG Un DN;go_upto_region 3 with(fail)
 go_still_tail 6,(by kernel_rfl)
 go_wp2_with fail;refine(cV a was.frame _ S _ (Mc.out.drew) EO (up_cnt p _ _ Le)).mono ?_;rintro e w5 ⟨rfl,Ii,Eo⟩;have wH:=Eo.undrew;have It:=wH.size;have Ra:am w5 t c a root:=(wH.block t (by omega) zJ).trans KU.out;have TU:eN w5 bt t:=(wH.block bt (by omega) zP).trans Zv.out;have LQ:cw w5 bl l:=(wH.block bl (by omega) LH).trans aa0.out;clear d0 d1 d2 Eo;have d0:w5.cell? ⟨bt,0,none⟩=some (.pointer (some ⟨t,0,none⟩)):=aa TU 0;have d1:w5.cell? ⟨bl,0,none⟩=some (.int .i64 (l.frame:Int)):=aa LQ 0;have d2:w5.cell? ⟨bl,1,none⟩=some (.int .u8 (l.prot:Int)):=aa LQ 1;have d3:w5.cell? ⟨bl,2,none⟩=some (.bool l.copy):=aa LQ 2;have HP5:=uH Ii;have HT5:=uH Ra;have Yo:bt<w5.heap.size:=(by omega);have hbl5:bl<w5.heap.size:=(by omega);clear Ii Ra TU LQ;go_upto_region 4 with(fail);go_region_with
  ((
   first
   |(go_at_call 118;refine(my l _ h7 (by omega)).mono ?_;rintro e w6 ⟨rfl,AS⟩;have AT:Below w5.heap.size w5 w6:=bu AS;have d0':w6.cell? ⟨bt,0,none⟩=some (.pointer (some ⟨t,0,none⟩)):=(AT.cell (p:=⟨bt,0,none⟩) Yo).trans d0)
   |(go_at_call 112;refine(gn t c a root f k l.pack _ S _ (HP5.out.below AT) ((AT.block t (by omega)).trans HT5.out) (by have:=AT.size;omega) hf Tw hk SZ).mono ?_;rintro e w7 ⟨rfl,PH,wI⟩)))
 all_goals
  go_wp2_with fail;go_ret;exact⟨rfl,PH,(Mod.of Ds).trans (Out.refl _ _) (wP.trans (Out.refl _ _) (wH.trans (Out.refl _ _) ((Mod.of AT).trans (Out.refl _ _) wI)))⟩
end
