/- Tables: a node's word read and written; -/
import Derived.Test.YtoochjhipmpehaaGreatDoorTwAK
import Derived.BigQuiet
import Derived.Deep.QuietTactic
import Derived.Deep.RegionHeld3
import Derived.Laws.ShiftsVarLaws
import Derived.Lib.QuietBelow
import Derived.StillTailTactics
set_option linter.unusedVariables false
set_option linter.unusedSimpArgs false
set_option maxRecDepth 100000
set_option maxHeartbeats 16000000
namespace Go.Proofs.YtoochjhipmpehaaGreatDoor
section
open Go.RowKit
def al (w:World) (t c a root:Nat):Prop:=w.heap[t]? =some (.cells #[.pointer (some ⟨c,0,none⟩), .pointer (some ⟨a,0,none⟩), .int .i64 (root:Int)] 154 (0,0))
theorem bL (t c a root f k:Nat) (w:World) (S:Nat->Prop) (p:Pool) (h:am w S a p) (ht:al w t c a root) (hf:f<p.n) (h1:1<=p.cnt f) (hk:k<512):
  Calls Tryz.prog 111 #[.pointer (some ⟨t,0,none⟩), .int .i64 (f:Int), .int .i64 (k:Int)] w fun e w'=>e= .returned (.int .u64 ((word (p.dat f) k:Nat):Int))/\Below w.heap.size w w':=by
 have c1:w.cell? ⟨t,1,none⟩=some (.pointer (some ⟨a,0,none⟩)):=aa ht 1;obtain⟨⟨C,B,F,wd,pt,hi,hS⟩,wk,_,_⟩:=id h;have yM:=hi.small f;clear hi hS wk ht;go_enter Tryz.func111,Tryz.ntmps111;go_wp2_with fail;refine(fG a f (8*k) 8 w S p h hf h1 (by omega) (by omega)).mono ?_;rintro e w1 ⟨rfl,hB,hz,vD⟩;have HB:=va hB;clear hB;go_wp2_with fail;refine(get_8 0 8 8 w.heap.size (fun i=>p.dat f (8*k+i)) w1 (by omega) (by omega) HB.out (fun i=>yM _) hz).mono ?_;rintro e w2 ⟨rfl,vM⟩;have hw:dw (fun i=>p.dat f (8*k+i)) 0 8=word (p.dat f) k:=by
  unfold word;have key: ∀n,dw (fun i=>p.dat f (8*k+i)) 0 n=dw (p.dat f) (8*k) n:=fun n=>by
   induction n with
   |zero=>rfl
   |succ n ih=>unfold dw;rw[ih,Nat.zero_add]
  exact key 8
 rw[hw];go_wp2_with fail;go_ret;exact⟨rfl,vD.trans (vM.mono (Nat.le_of_lt hz))⟩
theorem oC (d0:Nat->Nat) (k x:Nat):laid d0 (laid (fun _ =>0) (fun i=>x/256^i % 256) 0 8) (8*k) 8=aF d0 k x:=by
 funext i;unfold laid aF;simp only;by_cases h:8*k<=i/\i<8*k+8
 ·rw[if_pos h,if_pos h,if_pos (by omega),Nat.sub_zero]
 ·rw[if_neg h,if_neg h]
theorem gv (t c a root f k x:Nat) (w:World) (S:Nat->Prop) (p:Pool) (h:am w S a p) (ht:al w t c a root) (wT:t<w.heap.size) (hf:f<p.n) (h1:1<=p.cnt f) (hk:k<512) (hx:x<18446744073709551616):
  Calls Tryz.prog 112 #[.pointer (some ⟨t,0,none⟩), .int .i64 (f:Int), .int .i64 (k:Int), .int .u64 (x:Int)] w fun e w'=>e= .returned (.tuple #[])/\am w' S a (p.store f (aF (p.dat f) k x))/\Mod S w w':=by
 have xr:Below w.heap.size w (w.alloc (.cells (rowV 8 fun _ => .int .u8 0) 5)):=vc;have hX:aO (w.alloc (.cells (rowV 8 fun _ => .int .u8 0) 5)) w.heap.size 8 (fun _ =>0):=ab w _;have GK: ∀W:World,(Instr.makeSlice 39 (.int .i64 8) (.int .i64 8)).run Tryz.prog W= .ok (.slice (some ⟨W.heap.size,0,none⟩) 8 8) (W.alloc (.cells (rowV 8 fun _ => .int .u8 0) 5)):=iz 8 (by omega);have HT:=va ht;have HX:=va hX;clear ht hX;go_enter Tryz.func112,Tryz.ntmps112;go_wp2_with fail;refine(set_8 8 8 w.heap.size x _ (by omega) (by omega) (fun _ =>0) HX.out (by simp) hx).mono ?_;rintro e w1 ⟨g,cap,rfl,ho,vD⟩;have wg:=vD.size;simp at wg;have Bv:Below w.heap.size w w1:=xr.trans (vD.mono (by simp));have Aw:al w1 t c a root:=(Bv.block t wT).trans HT.out;have c1:w1.cell? ⟨t,1,none⟩=some (.pointer (some ⟨a,0,none⟩)):=aa Aw 1;have DZ:=va (h.below Bv);have HO:=va ho;clear ho Aw;go_wp2_with fail;refine(gw a f (8*k) 8 cap (some ⟨g,0,none⟩) (laid (fun _ =>0) (fun i=>x/256^i % 256) 0 8) w1 S p DZ.out hf h1 (by omega) (by omega) HO.out.v (fun j=>by unfold laid;split;exact Nat.mod_lt _ (by decide);exact(by decide:(0:Nat)<256))).mono ?_;rintro e w2 ⟨rfl,Ay,vT⟩;rw[oC]at Ay;go_wp2_with fail;go_end0;exact⟨rfl,Ay,(Mod.of Bv).trans (Out.refl _ _) vT⟩
theorem jT (f m:Nat) (hm:m<4096):f*4096|||m=f*4096+m:=by
 have:=Nat.two_pow_add_eq_or_of_lt (i:=12) (b:=m) hm f;rw[show(2:Nat)^12=4096 from by decide,Nat.mul_comm]at this;exact this.symm
theorem qc: ∀q:Fin 8,(q.val*2|||1)=q.val*2+1/\((q.val*2+1)|||16)=q.val*2+17:=by decide
theorem or_one (f q:Nat) (hq:q<=7):(f*4096+q*2)|||1=f*4096+q*2+1:=by
 have s1:q*2|||1=q*2+1:=(qc ⟨q,by omega⟩).1;have h:=jT f (q*2) (by omega);have h2:=jT f (q*2+1) (by omega);rw[<-h,Nat.or_assoc,s1,h2,h];omega
theorem rd (f q:Nat) (hq:q<=7):(f*4096+q*2+1)|||16=f*4096+q*2+1+16:=by
 have s1:(q*2+1)|||16=q*2+17:=(qc ⟨q,by omega⟩).2;have h:=jT f (q*2+1) (by omega);have h2:=jT f (q*2+17) (by omega);rw[Nat.add_assoc,<-h,Nat.or_assoc,s1,h2,h];omega
theorem tg (f q:Nat) (hf:f<1024) (hq:q<=7):bits .or .u64 (bits .or .u64 ((f:Int)*4096) ((q:Int)*2)) 1=((f*4096+q*2+1:Nat):Int):=by
 have e1:((f:Int)*4096)=((f*4096:Nat):Int):=(by simp);have e2:((q:Int)*2)=((q*2:Nat):Int):=(by simp);have e3:(1:Int)=((1:Nat):Int):=rfl;rw[e1,e2,bits_or_u64_nat _ _ (by omega) (by omega),e3,jT _ _ (by omega),bits_or_u64_nat _ _ (by omega) (by omega),or_one f q hq]
theorem oL (f q:Nat) (hf:f<1024) (hq:q<=7):bits .or .u64 ((f*4096+q*2+1:Nat):Int) 16=((f*4096+q*2+1+16:Nat):Int):=by
 have e3:(16:Int)=((16:Nat):Int):=rfl;rw[e3,bits_or_u64_nat _ _ (by omega) (by omega),rd f q hq]
variable {x:Nat}
theorem uD (hx:x<18446744073709551616):bits .and .u64 ((x:Int)/2) 7 % 256=((x/2 % 8:Nat):Int):=by
 have e1:((x:Int)/2)=((x/2:Nat):Int):=(by simp);have e3:(7:Int)=((7:Nat):Int):=rfl;rw[e1,e3,bits_and_u64_nat _ _ (by omega) (by omega),show(7:Nat)=2^3-1 from rfl,Nat.and_two_pow_sub_one_eq_mod];omega
theorem pw (hx:x<18446744073709551616):(bits .and .u64 (x:Int) 16 != 0)=(x/16 % 2==1):=by
 have e3:(16:Int)=((16:Nat):Int):=rfl;have h:=and_two_pow_eq_zero (x:Int) 4 (by omega);rw[Int.toNat_natCast,show((2:Int)^4).toNat=16 from rfl,show(2:Int)^4=16 from rfl]at h;rw[e3,bits_and_u64_nat _ _ hx (by omega)];by_cases h0:x&&&16=0
 ·have h2:=h.1 h0;rw[h0,show(x/16 % 2==1)=false from by rw[vp];omega];rfl
 ·have h2:(x:Int)/16 % 2=1:=Decidable.by_contra fun e=>h0 (h.2 e);rw[show(x/16 % 2==1)=true from by rw[beq_iff_eq];omega,bne_iff_ne];omega
theorem mJ (l:Leaf) (w:World) (h:l.prot<=7) (hf:l.frame<1024):
  Calls Tryz.prog 118 #[.agg #[.int .i64 (l.frame:Int), .int .u8 (l.prot:Int), .bool l.copy]] w fun e w'=>e= .returned (.int .u64 (l.pack:Int))/\Below w.heap.size w w':=by
 obtain⟨f,q,c⟩:=l;simp only at h hf;have h1:=tg f q hf h;have h2:=oL f q hf h;have H1:=va h1;have H2:=va h2;clear h1 h2;cases c
 ·go_enter Tryz.func118,Tryz.ntmps118;go_wp2;go_ret;exact⟨lG (by rw[H1.out];simp[Leaf.pack]),vc⟩
 ·go_enter Tryz.func118,Tryz.ntmps118;go_wp2;go_ret;exact⟨lG (by rw[H1.out,H2.out];simp[Leaf.pack]),vc⟩
theorem ez (x:Nat) (w:World) (hx:x<18446744073709551616):
  Calls Tryz.prog 110 #[.int .u64 (x:Int)] w fun e w'=>e= .returned (.agg #[.int .i64 ((fO x).frame:Int), .int .u8 ((fO x).prot:Int), .bool (fO x).copy])/\Below w.heap.size w w':=by
 go_enter Tryz.func110,Tryz.ntmps110;go_wp2;rw[uD hx,pw hx];exact bodyPost_ret (v:= .agg #[.int .i64 ((fO x).frame:Int), .int .u8 ((fO x).prot:Int), .bool (fO x).copy]) (by simp[results,Tryz.results110,go_sem,fO]) rfl ⟨rfl,vc⟩
end
section
open Go.RowKit
def wayV (pg k j:Nat):Value:= .int .i64 (if j<k then((num pg (4-j):Nat):Int)else 0)
def wayA (pg:Nat):Value:= .agg #[.int .i64 ((num pg 4:Nat):Int), .int .i64 ((num pg 3:Nat):Int), .int .i64 ((num pg 2:Nat):Int), .int .i64 ((num pg 1:Nat):Int)]
theorem lq (a k:Nat) (h:1<=k):((a:Int)/(2:Int)^(12+9*(k-1)) % 512)=((num (a/4096) k:Nat):Int):=by
 unfold num;have e:(2:Nat)^(12+9*(k-1))=4096*512^(k-1):=by
  rw[Nat.pow_add,Nat.pow_mul]
 rw[Nat.div_div_eq_div_mul,<-e];simp
theorem way_any (a:Nat) (w:World) (ha:a<18446744073709551616):
  Calls Tryz.prog 125 #[.int .u64 (a:Int)] w fun e w'=>e= .returned (wayA (a/4096))/\Below w.heap.size w w':=by
 have e4:((a:Int)/549755813888 % 512)=((num (a/4096) 4:Nat):Int):=lq a 4 (by omega);have e3:((a:Int)/1073741824 % 512)=((num (a/4096) 3:Nat):Int):=lq a 3 (by omega);have e2:((a:Int)/2097152 % 512)=((num (a/4096) 2:Nat):Int):=lq a 2 (by omega);have e1:((a:Int)/4096 % 512)=((num (a/4096) 1:Nat):Int):=lq a 1 (by omega);have E4:=va e4;have E3:=va e3;have E2:=va e2;have E1:=va e1;have Eu:=ab w (.cells #[wayV (a/4096) 0 0,wayV (a/4096) 0 1,wayV (a/4096) 0 2,wayV (a/4096) 0 3] 212);have Gp:=va Eu;clear e1 e2 e3 e4 Eu;go_enter Tryz.func125,Tryz.ntmps125;go_wp2_with fail;go_loopw [3,4] (fun _ i wr=> ∃k:Nat,k<=4/\i= .int .i64 k/\wr.heap[w.heap.size]? =some (.cells #[wayV (a/4096) k 0,wayV (a/4096) k 1,wayV (a/4096) k 2,wayV (a/4096) k 3] 212 (0,0))/\Below w.heap.size w wr) (fun _ i _ =>4-(intOf i).toNat)
 case atStart=>exact⟨0,vw _,rfl,Gp.out,vc⟩
 case round=>
  obtain⟨k,hk,rfl,hX,hB⟩:=hrel;have vH:w.heap.size<wr.heap.size:=(uZ hX).1;have f0:=ae hX 0;have f1:=ae hX 1;have f2:=ae hX 2;have f3:=ae hX 3;have HX:=va hX;rcases(show k=0\/k=1\/k=2\/k=3\/k=4 by omega)with rfl|rfl|rfl|rfl|rfl
  ·have c0:wr.cell? ⟨w.heap.size,0,none⟩=some (.int .i64 0):=aa hX 0;clear hX;go_wp2;go_roundw
   case rel=>
    refine⟨1,by omega,by go_num,?_,hB.setCell (vd _) _⟩;rw[Joins.block_setCell HX.out,E4.out];rfl
   case measure=>simp[intOf]
  ·have c0:wr.cell? ⟨w.heap.size,1,none⟩=some (.int .i64 0):=aa hX 1;clear hX;go_wp2;go_roundw
   case rel=>
    refine⟨2,by omega,by go_num,?_,hB.setCell (vd _) _⟩;rw[Joins.block_setCell HX.out,E3.out];rfl
   case measure=>simp[intOf]
  ·have c0:wr.cell? ⟨w.heap.size,2,none⟩=some (.int .i64 0):=aa hX 2;clear hX;go_wp2;go_roundw
   case rel=>
    refine⟨3,by omega,by go_num,?_,hB.setCell (vd _) _⟩;rw[Joins.block_setCell HX.out,E2.out];rfl
   case measure=>simp[intOf]
  ·have c0:wr.cell? ⟨w.heap.size,3,none⟩=some (.int .i64 0):=aa hX 3;clear hX;go_wp2;go_roundw
   case rel=>
    refine⟨4,by omega,by go_num,?_,hB.setCell (vd _) _⟩;rw[Joins.block_setCell HX.out,E1.out];rfl
   case measure=>simp[intOf]
  ·have c0:wr.cell? ⟨w.heap.size,0,none⟩=some (.int .i64 ((num (a/4096) 4:Nat):Int)):=aa hX 0;have c1:wr.cell? ⟨w.heap.size,1,none⟩=some (.int .i64 ((num (a/4096) 3:Nat):Int)):=aa hX 1;have c2:wr.cell? ⟨w.heap.size,2,none⟩=some (.int .i64 ((num (a/4096) 2:Nat):Int)):=aa hX 2;have c3:wr.cell? ⟨w.heap.size,3,none⟩=some (.int .i64 ((num (a/4096) 1:Nat):Int)):=aa hX 3;clear hX;go_wp2;exact bodyPost_ret (v:=wayA (a/4096)) (by simp[results,Tryz.results125,go_sem,vH,f0,f1,f2,f3,c0,c1,c2,c3,wayA]) rfl ⟨rfl,(((hB.setCell (vd _) _).setCell (vd _) _).setCell (vd _) _).setCell (vd _) _⟩
theorem cQ (t c a root:Nat) (w:World) (ht:al w t c a root):
  Calls Tryz.prog 73 #[.pointer (some ⟨t,0,none⟩)] w fun e w'=>e= .returned (.bool false)/\w=w':=by
 have c1:w.cell? ⟨t,1,none⟩=some (.pointer (some ⟨a,0,none⟩)):=aa ht 1;clear ht;go_enter Tryz.func73,Tryz.ntmps73;go_wp2;go_ret;exact⟨rfl,rfl⟩
def px (d:Nat->Nat) (n:Nat):Bool:=decide (∀i,i<n->d i=0)
theorem qG (t c a root f:Nat) (w:World) (S:Nat->Prop) (p:Pool) (h:am w S a p) (ht:al w t c a root) (hf:f<p.n) (h1:1<=p.cnt f):
  Calls Tryz.prog 157 #[.pointer (some ⟨t,0,none⟩), .int .i64 (f:Int)] w fun e w'=>e= .returned (.bool (px (p.dat f) 4096))/\Below w.heap.size w w':=by
 have c1:w.cell? ⟨t,1,none⟩=some (.pointer (some ⟨a,0,none⟩)):=aa ht 1;clear ht;go_enter Tryz.func157,Tryz.ntmps157;go_wp2_with fail;refine(fG a f 0 4096 w S p h hf h1 (by omega) (by omega)).mono ?_;rintro e w1 ⟨rfl,hB,hz,vD⟩;have HB:=va hB;clear hB;go_wp2_with fail;go_loop [20] (fun i=> ∃k:Nat,k<=4096/\i= .int .i64 k/\ ∀i,i<k->p.dat f i=0) (fun i=>4096-(intOf i).toNat)
 case atStart=>exact⟨0,vw _,rfl,fun i hi=>by omega⟩
 case round=>
  obtain⟨k,hk,rfl,wz⟩:=hrel;have HZ:=va wz;clear wz;by_cases vH:k<4096
  ·have hc:w1.cell? ⟨w.heap.size,k,none⟩=some (.int .u8 ((p.dat f k:Nat):Int)):=by
    have h9:=aW HB.out vH;simpa using h9
   by_cases hd:p.dat f k=0
   ·rw[hd]at hc;have HD:=va hd;clear hd;go_wp2;go_round
    case rel=>exact⟨k+1,by omega,by go_num,fun i hi=>by
     rcases Nat.lt_or_ge i k with h2|h2
     ·exact HZ.out i h2
     ·have:i=k:=(by omega);rw[this];exact HD.out⟩
    case measure=>simp[intOf];omega
   ·have vK:(((p.dat f k:Nat):Int) != 0)=true:=(by rw[bne_iff_ne];omega);have HD:=va hd;clear hd;go_wp2;go_ret;exact⟨gD (vq fun e=>HD.out (e k vH)).symm,vD⟩
  ·obtain rfl:k=4096:=(by omega);go_wp2;go_ret;exact⟨gD (vr HZ.out).symm,vD⟩
end
section
open Go.RowKit
structure Way (p:Pool) (T:Tab) (pg:Nat):Prop where
 node: ∀lv f,1<=lv->lv<=4->T.nd lv (part pg lv)=some f->f<p.n/\1<=p.cnt f/\word (p.dat f) (num pg lv)=T.on pg lv
 few:p.n<=1024
 prot: ∀l,T.lf pg=some l->l.prot<=7/\l.frame<p.n
variable {p:Pool}
theorem Tab.Good.way {t:Tab} {rest:Nat->Nat} {pg0 lv0:Nat} (h:t.Good p rest pg0 lv0) (pg:Nat):Way p t pg:=
 ⟨fun lv f h1 h4 hf=>⟨(h.node hf).1,(h.node hf).2,(h.but.words lv _ f hf).2 _ (bU _ _)⟩,h.but.few,fun l hl=>(h.but.leaf pg l hl).2⟩
variable {x:Nat}
theorem and_one (hx:x<18446744073709551616):bits .and .u64 (x:Int) 1=((x % 2:Nat):Int):=by
 have e3:(1:Int)=((1:Nat):Int):=rfl;rw[e3,bits_and_u64_nat _ _ hx (by omega),Nat.and_one_is_mod]
theorem fp (hx:x<18446744073709551616) (h:x % 2=1):(bits .and .u64 (x:Int) 1==0)=false:=by
 rw[and_one hx,h];rfl
theorem gW:(bits .and .u64 0 1==0)=true:=by decide+kernel
def ln (w:World) (b pg:Nat):Prop:=w.heap[b]? =some (.cells #[.int .i64 ((num pg 4:Nat):Int), .int .i64 ((num pg 3:Nat):Int), .int .i64 ((num pg 2:Nat):Int), .int .i64 ((num pg 1:Nat):Int)] 212 (0,0))
variable {w:World} {pg:Nat}
theorem ln.cells {b:Nat} (h:ln w b pg):w.cell? ⟨b,0,none⟩=some (.int .i64 ((num pg 4:Nat):Int))/\w.cell? ⟨b,1,none⟩=some (.int .i64 ((num pg 3:Nat):Int))/\w.cell? ⟨b,2,none⟩=some (.int .i64 ((num pg 2:Nat):Int))/\w.cell? ⟨b,3,none⟩=some (.int .i64 ((num pg 1:Nat):Int)):=⟨aa h 0,aa h 1,aa h 2,aa h 3⟩
theorem df {S:Nat->Prop} {t c a root:Nat} (pg:Nat) (h:am w S a p) (ht:al w t c a root) (wT:t<w.heap.size): ∃w0,w0=w.alloc (.cells #[.int .i64 ((num pg 4:Nat):Int), .int .i64 ((num pg 3:Nat):Int), .int .i64 ((num pg 2:Nat):Int), .int .i64 ((num pg 1:Nat):Int)] 212)/\Below w.heap.size w w0/\am w0 S a p/\al w0 t c a root/\ln w0 w.heap.size pg/\w.heap.size<w0.heap.size/\t<w0.heap.size:=by
 have xr:Below w.heap.size w (w.alloc (.cells #[.int .i64 ((num pg 4:Nat):Int), .int .i64 ((num pg 3:Nat):Int), .int .i64 ((num pg 2:Nat):Int), .int .i64 ((num pg 1:Nat):Int)] 212)):=vc;exact⟨_,rfl,xr,h.below xr,(xr.block t wT).trans ht,ab w _,by simp,by simp;omega⟩
def eO (LV LW:Nat) (D E:Int):Prop:=(LV=2/\LW=1/\D=2/\E=3)\/(LV=3/\LW=2/\D=1/\E=2)\/(LV=4/\LW=3/\D=0/\E=1)
variable {LV LW:Nat} {D E:Int}
theorem eO.nums (h:eO LV LW D E):LV=LW+1/\1<=LW/\LV<=4:=by
 rcases h with⟨rfl,rfl,_⟩|⟨rfl,rfl,_⟩|⟨rfl,rfl,_⟩<;>decide
variable {T:Tab} {f:Nat}
theorem oM {g:Nat} (hc:eO LV LW D E) (h:word (p.dat f) (num pg LV)=T.on pg LV) (hg:T.nd LW (part pg LW)=some g):word (p.dat f) (num pg LV)=g*4096+1:=by
 obtain⟨rfl,h1,h2⟩:=hc.nums;rw[h,Tab.on_more _ _ _ (by omega)];show(match T.nd LW (part pg LW)with|some f=>f*4096+1|none=>0)=_;rw[hg]
theorem on_none (hc:eO LV LW D E) (h:word (p.dat f) (num pg LV)=T.on pg LV) (hg:T.nd LW (part pg LW)=none):word (p.dat f) (num pg LV)=0:=by
 obtain⟨rfl,h1,h2⟩:=hc.nums;rw[h,Tab.on_more _ _ _ (by omega)];show(match T.nd LW (part pg LW)with|some f=>f*4096+1|none=>0)=_;rw[hg]
def qx (LV:Nat) (D:Int):Prop:= ∀(t c a root f pg:Nat) (V:Value) (w:World) (S:Nat->Prop) (p:Pool) (T:Tab),am w S a p->al w t c a root->t<w.heap.size->Way p T pg->T.lf pg=none->T.nd LV (part pg LV)=some f->
 Calls Tryz.prog 126 #[.pointer (some ⟨t,0,none⟩), .int .i64 (f:Int),wayA pg, .int .i64 D,V] w fun e w'=>e= .returned (.tuple #[.bool false, .bool false])/\Below w.heap.size w w'
theorem desc_no1:qx 1 3:=by
 intro t c a root f pg V w S p T h ht wT hw vW hf;obtain⟨f1,f2,f3⟩:=hw.node 1 f (by omega) (by omega) hf;obtain⟨w0,vE,xr,CB,yP,Cj,yI,BM⟩:=df pg h ht wT;obtain⟨c0,c1,c2,c3⟩:=Cj.cells;have e0:word (p.dat f) (num pg 1)=0:=(by rw[f3,Tab.on_one,vW]);have E0:=va e0;have vY:=va vE;have hz:=gW;clear f3 hf vE h ht e0 vW;unfold wayA;go_enter Tryz.func126,Tryz.ntmps126;go_upto_region 1 with(fail);rw[<-vY.out];go_wp2_with fail;refine(bL t c a root f _ w0 S p CB yP f1 f2 (bU pg _)).mono ?_;rintro e w1 ⟨rfl,vD⟩;rw[E0.out];go_wp2_with fail;go_ret2;exact⟨rfl,xr.trans (vD.mono (Nat.le_of_lt yI))⟩
theorem mi (hc:eO LV LW D E) (ih:qx LW E):qx LV D:=by
 intro t c a root f pg V w S p T h ht wT hw vW hf;obtain⟨f1,f2,f3⟩:=hw.node LV f (by have:=hc.nums;omega) (by have:=hc.nums;omega) hf;obtain⟨w0,vE,xr,CB,yP,Cj,yI,BM⟩:=df pg h ht wT;obtain⟨c0,c1,c2,c3⟩:=Cj.cells;have vY:=va vE;have hz:=gW;have IH:=va ih;cases hg:T.nd LW (part pg LW)with
 |none=>
  have E0:=va (on_none hc f3 hg);clear f3 hf vE h ht vW hg ih IH;unfold wayA;rcases hc with⟨rfl,rfl,rfl,rfl⟩|⟨rfl,rfl,rfl,rfl⟩|⟨rfl,rfl,rfl,rfl⟩<;>(
   go_enter Tryz.func126,Tryz.ntmps126;go_upto_region 1 with(fail);rw[<-vY.out];go_wp2_with fail;refine(bL t c a root f _ w0 S p CB yP f1 f2 (bU pg _)).mono ?_;rintro e w1 ⟨rfl,vD⟩;rw[E0.out];go_wp2_with fail;go_ret2;exact⟨rfl,xr.trans (vD.mono (Nat.le_of_lt yI))⟩)
 |some g=>
  obtain⟨g1,g2,_⟩:=hw.node LW g (by have:=hc.nums;omega) (by have:=hc.nums;omega) hg;have wb:=hw.few;obtain⟨x,hx⟩: ∃x,x=g*4096+1:=⟨_,rfl⟩;have e0:=oM hc f3 hg;rw[<-hx]at e0;have E0:=va e0;have zG:x<18446744073709551616:=(by omega);have FR:=fp zG (by omega);have Ix:=va (show((x:Int)/4096)=(g:Int) by omega);have HG:=va hg;have HN:=va vW;clear f3 hf vE h ht vW hg ih e0 hx;unfold wayA;rcases hc with⟨rfl,rfl,rfl,rfl⟩|⟨rfl,rfl,rfl,rfl⟩|⟨rfl,rfl,rfl,rfl⟩<;>(
   go_enter Tryz.func126,Tryz.ntmps126;go_upto_region 1 with(fail);rw[<-vY.out];go_wp2_with fail;refine(bL t c a root f _ w0 S p CB yP f1 f2 (bU pg _)).mono ?_;rintro e w1 ⟨rfl,vD⟩;rw[E0.out];have wg:=vD.size;obtain⟨d0,d1,d2,d3⟩:=ln.cells ((vD.block _ yI).trans Cj);have Aw:al w1 t c a root:=(vD.block t BM).trans yP;clear c0 c1 c2 c3;go_wp2_with fail;rw[Ix.out];refine(IH.out t c a root g pg V w1 S p T (CB.below vD) Aw (by omega) hw HN.out HG.out).mono ?_;rintro e w2 ⟨rfl,vM⟩;go_wp2_with fail;go_ret2;exact⟨rfl,xr.trans ((vD.trans (vM.mono wg)).mono (Nat.le_of_lt yI))⟩)
theorem gS:qx 4 0:=mi (.inr (.inr ⟨rfl,rfl,rfl,rfl⟩)) (mi (.inr (.inl ⟨rfl,rfl,rfl,rfl⟩)) (mi (.inl ⟨rfl,rfl,rfl,rfl⟩) desc_no1))
end
section
open Go.RowKit
def ju (bt bl:Nat) (f:FuncId) (C:Array Value):Prop:=(f=127/\C= #[])\/(f=170/\C= #[.pointer (some ⟨bt,0,none⟩), .pointer (some ⟨bl,0,none⟩)])\/(f=116/\C= #[.pointer (some ⟨bt,0,none⟩), .pointer (some ⟨bl,0,none⟩)])
def my (fid:FuncId) (C:Array Value) (LV:Nat) (D:Int):Prop:= ∀(t c a root f pg:Nat) (R:World->World->Prop) (w:World) (S:Nat->Prop) (p:Pool) (T:Tab),am w S a p->al w t c a root->t<w.heap.size->Way p T pg->(∀m,1<=m->m<=4->(T.nd m (part pg m)).isSome=true)-> ∀(l:Leaf) (q1:Nat),T.lf pg=some l->T.nd 1 (part pg 1)=some q1->
 (∀w1,Below w.heap.size w w1->Calls Tryz.prog fid (#[.int .i64 (q1:Int), .int .i64 ((num pg 1:Nat):Int)]++C) w1 fun e w2=>e= .returned (.bool false)/\R w1 w2)->T.nd LV (part pg LV)=some f->
 Calls Tryz.prog 126 #[.pointer (some ⟨t,0,none⟩), .int .i64 (f:Int),wayA pg, .int .i64 D, .func (.func fid) #[] C] w fun e w'=>e= .returned (.tuple #[.bool true, .bool false])/\ ∃w1,Below w.heap.size w w1/\R w1 w'
variable {bt bl:Nat} {fid:FuncId} {C:Array Value}
theorem ub (hk:ju bt bl fid C):my fid C 1 3:=by
 intro t c a root f pg R w S p T h ht wT hw Ex l q1 wH AH zL hf;obtain⟨f1,f2,f3⟩:=hw.node 1 f (by omega) (by omega) hf;obtain⟨w0,vE,xr,CB,yP,Cj,yI,BM⟩:=df pg h ht wT;obtain⟨c0,c1,c2,c3⟩:=Cj.cells;obtain rfl:f=q1:=(by rw[AH]at hf;injection hf with e9;exact e9.symm);obtain⟨x,hx⟩: ∃x,x=l.pack:=⟨_,rfl⟩;have e0:word (p.dat f) (num pg 1)=x:=(by rw[f3,Tab.on_one,wH,hx]);have E0:=va e0;have IJ:=hw.prot l wH;have wb:=hw.few;have zG:x<18446744073709551616:=(by rw[hx];have:=eB l IJ.1 (by omega);omega);have FR:=fp zG (by rw[hx];exact fC l);have vY:=va vE;have Lc:=va zL;clear f3 hf vE h ht e0 hx wH AH zL Ex;unfold wayA;rcases hk with⟨rfl,rfl⟩|⟨rfl,rfl⟩|⟨rfl,rfl⟩<;>(
  go_enter Tryz.func126,Tryz.ntmps126;go_upto_region 1 with(fail);rw[<-vY.out];go_wp2_with fail;refine(bL t c a root f _ w0 S p CB yP f1 f2 (bU pg _)).mono ?_;rintro e w1 ⟨rfl,vD⟩;rw[E0.out];go_wp2_with fail;refine(Lc.out w1 (xr.trans (vD.mono (Nat.le_of_lt yI)))).mono ?_;rintro e w2 ⟨rfl,hR⟩;go_wp2_with fail;go_ret2;exact⟨rfl,w1,xr.trans (vD.mono (Nat.le_of_lt yI)),hR⟩)
theorem ku (hk:ju bt bl fid C) {LV LW:Nat} {D E:Int} (hc:eO LV LW D E) (ih:my fid C LW E):my fid C LV D:=by
 intro t c a root f pg R w S p T h ht wT hw Ex l q1 wH AH zL hf;obtain⟨f1,f2,f3⟩:=hw.node LV f (by have:=hc.nums;omega) (by have:=hc.nums;omega) hf;obtain⟨w0,vE,xr,CB,yP,Cj,yI,BM⟩:=df pg h ht wT;obtain⟨c0,c1,c2,c3⟩:=Cj.cells;have vY:=va vE;have IH:=va ih;obtain⟨g,hg⟩: ∃g,T.nd LW (part pg LW)=some g:=bE (Ex LW (by have:=hc.nums;omega) (by have:=hc.nums;omega));obtain⟨g1,g2,_⟩:=hw.node LW g (by have:=hc.nums;omega) (by have:=hc.nums;omega) hg;have wb:=hw.few;obtain⟨x,hx⟩: ∃x,x=g*4096+1:=⟨_,rfl⟩;have e0:=oM hc f3 hg;rw[<-hx]at e0;have E0:=va e0;have zG:x<18446744073709551616:=(by omega);have FR:=fp zG (by omega);have Ix:=va (show((x:Int)/4096)=(g:Int) by omega);have HG:=va hg;have HU:=va Ex;have HL:=va wH;have OA:=va AH;have Lc:=va zL;clear f3 hf vE h ht hg ih e0 hx Ex wH AH zL;unfold wayA;rcases hk with⟨rfl,rfl⟩|⟨rfl,rfl⟩|⟨rfl,rfl⟩<;>rcases hc with⟨rfl,rfl,rfl,rfl⟩|⟨rfl,rfl,rfl,rfl⟩|⟨rfl,rfl,rfl,rfl⟩<;>(
  go_enter Tryz.func126,Tryz.ntmps126;go_upto_region 1 with(fail);rw[<-vY.out];go_wp2_with fail;refine(bL t c a root f _ w0 S p CB yP f1 f2 (bU pg _)).mono ?_;rintro e w1 ⟨rfl,vD⟩;rw[E0.out];have wg:=vD.size;obtain⟨d0,d1,d2,d3⟩:=ln.cells ((vD.block _ yI).trans Cj);have Aw:al w1 t c a root:=(vD.block t BM).trans yP;clear c0 c1 c2 c3;go_wp2_with fail;rw[Ix.out];refine(IH.out t c a root g pg R w1 S p T (CB.below vD) Aw (by omega) hw HU.out l q1 HL.out OA.out (fun w5 WV=>Lc.out w5 (xr.trans ((vD.trans (WV.mono wg)).mono (Nat.le_of_lt yI)))) HG.out).mono ?_;rintro e w2 ⟨rfl,w5,vM,hR⟩;go_wp2_with fail;go_ret2;exact⟨rfl,w5,xr.trans ((vD.trans (vM.mono wg)).mono (Nat.le_of_lt yI)),hR⟩)
theorem kt (hk:ju bt bl fid C):my fid C 4 0:=ku hk (.inr (.inr ⟨rfl,rfl,rfl,rfl⟩)) (ku hk (.inr (.inl ⟨rfl,rfl,rfl,rfl⟩)) (ku hk (.inl ⟨rfl,rfl,rfl,rfl⟩) (ub hk)))
end
section
open Go.RowKit
def ap (l:Leaf):Array Value:= #[.int .i64 (l.frame:Int), .int .u8 (l.prot:Int), .bool l.copy]
def eV (w:World) (b t:Nat):Prop:=w.heap[b]? =some (.cells #[.pointer (some ⟨t,0,none⟩)] 77 (0,0))
def cB (w:World) (b:Nat) (l:Leaf):Prop:=w.heap[b]? =some (.cells #[.int .i64 (l.frame:Int), .int .u8 (l.prot:Int), .bool l.copy] 83 (0,0))
theorem keep2 {w w':World} {b o:Nat} {v:Value} (hb:Below w.heap.size w w') (h:w.cell? ⟨b,o,none⟩=some v/\b<w.heap.size):w'.cell? ⟨b,o,none⟩=some v/\b<w'.heap.size:=
 ⟨(hb.cell (p:=⟨b,o,none⟩) h.2).trans h.1,vh h.2 hb.size⟩
theorem find_cl (t c a root f k bt bl:Nat) (l0 l:Leaf) (w:World) (S:Nat->Prop) (p:Pool) (h:am w S a p) (ht:al w t c a root) (zN:eV w bt t) (Br:cB w bl l0) (hf:f<p.n) (h1:1<=p.cnt f) (hk:k<512)
  (hw:word (p.dat f) k=l.pack) (h7:l.prot<=7) (hl:l.frame<1024):
  Calls Tryz.prog 170 (#[.int .i64 (f:Int), .int .i64 (k:Int)]++ #[.pointer (some ⟨bt,0,none⟩), .pointer (some ⟨bl,0,none⟩)]) w fun e w'=>e= .returned (.bool false)/\(cB w' bl l/\Mod (fun b=>b=bl) w w'):=by
 have c0:w.cell? ⟨bt,0,none⟩=some (.pointer (some ⟨t,0,none⟩)):=aa zN 0;have za:bl<w.heap.size:=(uZ Br).1;have HBL:=va Br;have zG:l.pack<18446744073709551616:=(by have:=eB l h7 hl;omega);have yL:=ey l h7;have My:=va yL;have HW:=va hw;clear zN Br yL hw;show Calls Tryz.prog 170 #[.int .i64 (f:Int), .int .i64 (k:Int), .pointer (some ⟨bt,0,none⟩), .pointer (some ⟨bl,0,none⟩)] w _;go_enter Tryz.func170,Tryz.ntmps170;go_wp2_with fail;refine(bL t c a root f k w S p h ht hf h1 hk).mono ?_;rintro e w1 ⟨rfl,vD⟩;rw[HW.out];go_wp2_with fail;refine(ez l.pack w1 zG).mono ?_;rintro e w2 ⟨rfl,vM⟩;rw[My.out];have wg:=vD.size;have wm:=vM.size;have xE:Below w.heap.size w w2:=vD.trans (vM.mono wg);have IS:cB w2 bl l0:=(xE.block bl za).trans HBL.out;have x0:=aa IS 0;have x1:=aa IS 1;have x2:=aa IS 2;have z0:=ae IS 0;have z1:=ae IS 1;have z2:=ae IS 2;simp at x0 x1 x2;have Er:=va IS;clear IS;go_wp2_with fail;go_ret;refine⟨rfl,?_,(Mod.of xE).trans (Out.refl _ _) (((aj (S:=fun b=>b=bl) rfl _ _).trans (Out.refl _ _) (aj (S:=fun b=>b=bl) rfl _ _)).trans (Out.refl _ _) (aj (S:=fun b=>b=bl) rfl _ _))⟩;unfold cB;have:=Joins.block_setCell (i:=2) (Joins.block_setCell (i:=1) (Joins.block_setCell (i:=0) Er.out (.int .i64 (l.frame:Int))) (.int .u8 (l.prot:Int))) (.bool l.copy);simpa using this
theorem lu (A:Int) (w:World) (h0:0<=A) (h1:A<18446744073709551616):
  Calls Tryz.prog 125 #[.int .u64 A] w fun e w'=>e= .returned (wayA (A.toNat/4096))/\Below w.heap.size w w':=by
 obtain⟨a,rfl⟩:=Int.eq_ofNat_of_zero_le h0;rw[Int.toNat_natCast];exact way_any a w (by omega)
theorem lA (t c a root:Nat) (A:Int) (V:Value) (w:World) (S:Nat->Prop) (p:Pool) (T:Tab) (h:am w S a p) (ht:al w t c a root) (wT:t<w.heap.size) (hw:Way p T (A.toNat/4096)) (vW:T.lf (A.toNat/4096)=none)
  (hr:T.nd 4 (part (A.toNat/4096) 4)=some root) (yW:0<=A) (hA:A<140737488355328):
  Calls Tryz.prog 108 #[.pointer (some ⟨t,0,none⟩), .int .u64 A,V] w fun e w'=>e= .returned (.int .i64 6)/\Below w.heap.size w w':=by
 have c2:w.cell? ⟨t,2,none⟩=some (.int .i64 (root:Int)):=aa ht 2;have HT:=va ht;have HP:=va h;have HN:=va vW;have HR:=va hr;have HW:=va hw;have Of:A<18446744073709551616:=(by omega);have WT:=va Of;clear ht h vW hr Of hw;go_enter Tryz.func108,Tryz.ntmps108;go_wp2_with fail;refine(cQ t c a root _ HT.out).mono ?_;rintro e w1 ⟨rfl,rfl⟩;go_wp2_with fail;go_region_held3 (fun w'=>w'.cell? ⟨t,2,none⟩=some (.int .i64 (root:Int))/\t<w'.heap.size)
  ((first|(simp[*];done)|exact keep2 vM (by assumption)|exact keep2 vD (by assumption)))
  ((
   first
   |(go_at_call 125;refine(lu A _ yW WT.out).mono ?_;rintro e w1 ⟨rfl,vD⟩;have xY:Below w.heap.size w w1:=((vz w.heap.size w).drew).trans vD)
   |(go_at_call 126;refine(gS t c a root root (A.toNat/4096) V _ S p T (HP.out.below xY) ((xY.block t wT).trans HT.out) (vh wT xY.size) HW.out HN.out HR.out).mono ?_;rintro e w2 ⟨rfl,vM⟩)))
 have hB:Below w.heap.size w w2:=xY.trans (vM.mono xY.size);go_wp2_with fail;go_ret;exact⟨rfl,hB⟩
theorem ov (t c a root:Nat) (A:Int) (V:Value) (w:World) (ht:al w t c a root) (hA:140737488355328<=A):
  Calls Tryz.prog 108 #[.pointer (some ⟨t,0,none⟩), .int .u64 A,V] w fun e w'=>e= .returned (.int .i64 1)/\w=w':=by
 have HT:=va ht;clear ht;go_enter Tryz.func108,Tryz.ntmps108;go_wp2_with fail;refine(cQ t c a root _ HT.out).mono ?_;rintro e w1 ⟨rfl,rfl⟩;go_wp2_with fail;go_ret;exact⟨rfl,rfl⟩
theorem sn {bt bl:Nat} {fid:FuncId} {C:Array Value} (hk:ju bt bl fid C) (t c a root:Nat) (A:Int) (R:World->World->Prop) (w:World) (S:Nat->Prop) (p:Pool) (T:Tab) (h:am w S a p) (ht:al w t c a root) (wT:t<w.heap.size) (hw:Way p T (A.toNat/4096)) (Ex: ∀m,1<=m->m<=4->(T.nd m (part (A.toNat/4096) m)).isSome=true) (l:Leaf) (q1:Nat) (wH:T.lf (A.toNat/4096)=some l) (II:T.nd 1 (part (A.toNat/4096) 1)=some q1)
  (zL: ∀w1,Below w.heap.size w w1->Calls Tryz.prog fid (#[.int .i64 (q1:Int), .int .i64 ((num (A.toNat/4096) 1:Nat):Int)]++C) w1 fun e w2=>e= .returned (.bool false)/\R w1 w2)
  (hr:T.nd 4 (part (A.toNat/4096) 4)=some root) (yW:0<=A) (hA:A<140737488355328):
  Calls Tryz.prog 108 #[.pointer (some ⟨t,0,none⟩), .int .u64 A, .func (.func fid) #[] C] w fun e w'=>e= .returned (.int .i64 0)/\ ∃w1,Below w.heap.size w w1/\R w1 w':=by
 have c2:w.cell? ⟨t,2,none⟩=some (.int .i64 (root:Int)):=aa ht 2;have HT:=va ht;have HP:=va h;have HL:=va wH;have HQ:=va II;have Lc:=va zL;have HU:=va Ex;have HR:=va hr;have HW:=va hw;have Of:A<18446744073709551616:=(by omega);have WT:=va Of;have HD:=va (kt hk);clear ht h wH II zL Ex hr Of hw;rcases hk with⟨rfl,rfl⟩|⟨rfl,rfl⟩|⟨rfl,rfl⟩<;>(
  go_enter Tryz.func108,Tryz.ntmps108;go_wp2_with fail;refine(cQ t c a root _ HT.out).mono ?_;rintro e w1 ⟨rfl,rfl⟩;go_wp2_with fail;go_region_with
   ((
    first
    |(go_at_call 125;refine(lu A _ yW WT.out).mono ?_;rintro e w1 ⟨rfl,vD⟩;have xY:Below w.heap.size w w1:=((vz w.heap.size w).drew).trans vD;have c2':w1.cell? ⟨t,2,none⟩=some (.int .i64 (root:Int)):=aa ((xY.block t wT).trans HT.out) 2)
    |(go_at_call 126;refine(HD.out t c a root root (A.toNat/4096) R _ S p T (HP.out.below xY) ((xY.block t wT).trans HT.out) (vh wT xY.size) HW.out HU.out l q1 HL.out HQ.out (fun w5 WV=>Lc.out w5 (xY.trans (WV.mono xY.size))) HR.out).mono ?_;rintro e w2 ⟨rfl,w5,zZ,hR⟩)))
  all_goals
   go_wp2_with fail;go_ret;exact⟨rfl,w5,xY.trans (zZ.mono xY.size),hR⟩)
end
section
open Go.RowKit
def noLeaf:Leaf:=⟨0,0,false⟩
def cM (T:Tab) (A:Int):Leaf×Int:=if 140737488355328<=A then(noLeaf,1)else match T.lf (A.toNat/4096)with
 |some l=>(l,0)
 |none=>(noLeaf,6)
structure Tree (p:Pool) (T:Tab) (root:Nat):Prop where
 way: ∀pg,Way p T pg
 ups: ∀pg l,T.lf pg=some l-> ∀m,1<=m->m<=4->(T.nd m (part pg m)).isSome=true
 root:T.nd 4 0=some root
variable {p:Pool} {root:Nat}
theorem Tree.top {T:Tab} (h:Tree p T root) {A:Int} (h0:0<=A) (hA:A<140737488355328):T.nd 4 (part (A.toNat/4096) 4)=some root:=by
 rw[gJ _ (by omega)];exact h.root
theorem Tab.Good.tree {t:Tab} {rest:Nat->Nat} {pg0:Nat} (h:t.Good p rest pg0 4) (hr:t.nd 4 0=some root):Tree p t root:=
 ⟨fun pg=>h.way pg,fun pg l hl m h1 h4=>h.ok.leafUp hl m h1 h4,hr⟩
def FindPost (w:World) (bl:Nat) (r:Leaf×Int) (e:Ending) (w':World):Prop:=e= .returned (.int .i64 r.2)/\cB w' bl r.1/\Mod (fun b=>b=bl) w w'
theorem tat_res (t c a root bt bl:Nat) (A:Int) (w:World) (S:Nat->Prop) (p:Pool) (T:Tab) (h:am w S a p) (ht:al w t c a root) (wT:t<w.heap.size) (hw:Tree p T root) (yW:0<=A)
  (zN:eV w bt t) (Br:cB w bl noLeaf):
  Calls Tryz.prog 108 #[.pointer (some ⟨t,0,none⟩), .int .u64 A, .func (.func 170) #[] #[.pointer (some ⟨bt,0,none⟩), .pointer (some ⟨bl,0,none⟩)]] w (FindPost w bl (cM T A)):=by
 have zC:bt<w.heap.size:=(uZ zN).1;have Ik:bl<w.heap.size:=(uZ Br).1;by_cases yC:140737488355328<=A
 ·have hr:cM T A=(noLeaf,1):=(by unfold cM;rw[if_pos yC]);rw[hr];exact(ov t c a root A _ w ht yC).mono fun e w' ⟨he,xI⟩=>by
   subst xI;exact⟨he,Br,Mod.refl _ _⟩
 ·have vH:A<140737488355328:=(by omega);have Bo:=hw.top yW vH;have Ed:=hw.way (A.toNat/4096);cases wH:T.lf (A.toNat/4096)with
  |none=>
   have hr:cM T A=(noLeaf,6):=(by unfold cM;rw[if_neg yC,wH]);rw[hr];exact(lA t c a root A _ w S p T h ht wT Ed wH Bo yW vH).mono fun e w' ⟨he,hb⟩=>⟨he,(hb.block bl Ik).trans Br,Mod.of hb⟩
  |some l=>
   have hr:cM T A=(l,0):=(by unfold cM;rw[if_neg yC,wH]);rw[hr];have yL:=hw.ups _ l wH;obtain⟨q1,II⟩:=bE (yL 1 (by omega) (by omega));obtain⟨n1,n2,n3⟩:=Ed.node 1 q1 (by omega) (by omega) II;obtain⟨p7,pf⟩:=Ed.prot l wH;have wb:=Ed.few;refine(sn (bt:=bt) (bl:=bl) (.inr (.inl ⟨rfl,rfl⟩)) t c a root A (fun w1 w2=>cB w2 bl l/\Mod (fun b=>b=bl) w1 w2) w S p T h ht wT Ed yL l q1 wH II (fun w1 hb=>?_) Bo yW vH).mono fun e w' ⟨he,w1,hb,wE,hm⟩=>⟨he,wE,(Mod.of hb).trans (Out.refl _ _) hm⟩;exact find_cl t c a root q1 (num (A.toNat/4096) 1) bt bl noLeaf l w1 S p (h.below hb) ((hb.block t wT).trans ht) ((hb.block bt zC).trans zN) ((hb.block bl Ik).trans Br) n1 n2 (bU _ _) (by rw[n3,Tab.on_one,wH]) p7 (by omega)
theorem sm (t c a root:Nat) (A:Int) (w:World) (S:Nat->Prop) (p:Pool) (T:Tab) (h:am w S a p) (ht:al w t c a root) (wT:t<w.heap.size) (hw:Tree p T root) (yW:0<=A):
  Calls Tryz.prog 156 #[.pointer (some ⟨t,0,none⟩), .int .u64 A] w
   fun e w'=>e= .returned (.tuple #[.agg (ap (cM T A).1), .int .i64 (cM T A).2])/\Below w.heap.size w w':=by
 have HP:=va h;have HT:=va ht;have HW:=va hw;clear h ht;obtain⟨w0,vE⟩: ∃w0,w0=(((w.alloc (.cells #[.pointer (some ⟨t,0,none⟩)] 77)).alloc (.cells #[.int .i64 0, .int .u8 0, .bool false] 83)).alloc (.cells #[.int .i64 0, .int .u8 0, .bool false] 83)):=⟨_,rfl⟩;have xr:Below w.heap.size w w0:=(by rw[vE];exact(vc.alloc (by simp) _).alloc (by simp;omega) _);have BB:w0.heap.size=w.heap.size+1+1+1:=(by rw[vE];simp);have RK:eV w0 w.heap.size t:=(by rw[vE];exact(ve _ _ _ (by simp;omega)).trans ((ve _ _ _ (by simp)).trans (ab w _)));have zb:cB w0 (w.heap.size+1) noLeaf:=by
  rw[vE];have e:(w.alloc (.cells #[.pointer (some ⟨t,0,none⟩)] 77)).heap.size=w.heap.size+1:=(by simp);rw[<-e];exact(ve _ _ _ (by simp)).trans (ab _ _)
 have Az:cB w0 (w.heap.size+1+1) noLeaf:=by
  rw[vE];have e:((w.alloc (.cells #[.pointer (some ⟨t,0,none⟩)] 77)).alloc (.cells #[.int .i64 0, .int .u8 0, .bool false] 83)).heap.size=w.heap.size+1+1:=(by simp);rw[<-e];exact ab _ _
 have vO:=tat_res t c a root w.heap.size (w.heap.size+1+1) A w0 S p T (HP.out.below xr) ((xr.block t wT).trans HT.out) (by omega) HW.out yW RK Az;generalize hL:cM T A=r at *
 have wC:=va vO;have Ds:=va zb;have zv:=va BB;have yI:w.heap.size+1<w0.heap.size:=(by omega);clear vO zb Az RK hL BB;have vY:=va vE;clear vE;go_enter Tryz.func156,Tryz.ntmps156;go_wp2_with fail;rw[<-vY.out];refine(wC.out).mono ?_;rintro e w2 ⟨rfl,wE,hm⟩;have wm:=hm.size;have yc:cB w2 (w.heap.size+1) noLeaf:=(hm.block _ yI (by omega)).trans Ds.out;have x0:w2.cell? ⟨w.heap.size+1+1,0,none⟩=some (.int .i64 (r.1.frame:Int)):=aa wE 0;have x1:w2.cell? ⟨w.heap.size+1+1,1,none⟩=some (.int .u8 (r.1.prot:Int)):=aa wE 1;have x2:w2.cell? ⟨w.heap.size+1+1,2,none⟩=some (.bool r.1.copy):=aa wE 2;have y0:w2.cell? ⟨w.heap.size+1,0,none⟩=some (.int .i64 0):=aa yc 0;have y1:w2.cell? ⟨w.heap.size+1,1,none⟩=some (.int .u8 0):=aa yc 1;have y2:w2.cell? ⟨w.heap.size+1,2,none⟩=some (.bool false):=aa yc 2;have z0:=ae yc 0;have z1:=ae yc 1;have z2:=ae yc 2;have vH:w.heap.size+1<w2.heap.size:=(by omega);clear wE yc;have hB:Below w.heap.size w w2:=xr.trans (hm.below (fun b hb=>by omega) (by omega));go_wp2_with fail;exact bodyPost_ret (v:= .tuple #[.agg (ap r.1), .int .i64 r.2]) (by simp[results,Tryz.results156,go_sem,vH,y0,y1,y2,z0,z1,z2,ap]) rfl ⟨rfl,((hB.setCell (by show w.heap.size<=w.heap.size+1;omega) _).setCell (by show w.heap.size<=w.heap.size+1;omega) _).setCell (by show w.heap.size<=w.heap.size+1;omega) _⟩
end
section
open Go.RowKit
theorem up_cnt (p:Pool) (f g:Nat) (h:1<=p.cnt g):1<=(p.up f).cnt g:=by
 by_cases e:g=f
 ·subst e;simp only[Pool.up,af];omega
 ·simp only[Pool.up,ag _ _ e];exact h
variable {w:World} {S:Nat->Prop}
theorem am.drew {a:Nat} {p:Pool} (h:am w S a p):am w.drew S a p:=h.below ((vz _ _).drew)
variable {w':World}
theorem Mod.undrew (h:Mod S w.drew w'):Mod S w w':=⟨h.os,h.tape,h.output,h.size,h.block⟩
theorem bA {B:Nat} (h:Below B w.drew w'):Below B w w':=⟨h.os,h.tape,h.output,h.size,h.block⟩
theorem set_cl (t c a root f k bt bl:Nat) (l was:Leaf) (w:World) (S:Nat->Prop) (p:Pool) (h:am w S a p) (ht:al w t c a root) (Am: ¬S t) (wT:t<w.heap.size) (zN:eV w bt t) (Au: ¬S bt) (Br:cB w bl l) (Mm: ¬S bl)
  (hf:f<p.n) (h1:1<=p.cnt f) (hk:k<512) (hw:word (p.dat f) k=was.pack) (yg:was.prot<=7) (Fv:was.frame<p.n) (LL:1<=p.cnt was.frame) (h7:l.prot<=7) (wH:l.frame<p.n) (BE:1<=p.cnt l.frame) (wY:p.cnt l.frame+1<1000000000000) (hn:p.n<=1024)
  (Ud:1<=((p.up l.frame).down was.frame).cnt f):
  Calls Tryz.prog 116 (#[.int .i64 (f:Int), .int .i64 (k:Int)]++ #[.pointer (some ⟨bt,0,none⟩), .pointer (some ⟨bl,0,none⟩)]) w
   fun e w'=>e= .returned (.bool false)/\(am w' S a (((p.up l.frame).down was.frame).store f (aF (p.dat f) k l.pack))/\Mod S w w'):=by
 have c0:w.cell? ⟨bt,0,none⟩=some (.pointer (some ⟨t,0,none⟩)):=aa zN 0;have zC:bt<w.heap.size:=(uZ zN).1;have Ik:bl<w.heap.size:=(uZ Br).1;have zG:was.pack<18446744073709551616:=(by have:=eB was yg (by omega);omega);have TH:l.pack<18446744073709551616:=(by have:=eB l h7 (by omega);omega);have My:=va (ey was yg);have HW:=va hw;have MR:=va zN;have HBL:=va Br;have HT:=va ht;have HP:=va h;clear zN Br hw h ht;show Calls Tryz.prog 116 #[.int .i64 (f:Int), .int .i64 (k:Int), .pointer (some ⟨bt,0,none⟩), .pointer (some ⟨bl,0,none⟩)] w _;go_enter Tryz.func116,Tryz.ntmps116;go_wp2_with fail;refine(bL t c a root f k w S p HP.out HT.out hf h1 hk).mono ?_;rintro e w1 ⟨rfl,vD⟩;rw[HW.out];go_wp2_with fail;refine(ez was.pack w1 zG).mono ?_;rintro e w2 ⟨rfl,vM⟩;rw[My.out];have wg:=vD.size;have wm:=vM.size;go_upto_region 2 with(fail);obtain⟨w3,xb⟩: ∃w3,w3=w2.alloc (.cells #[.int .i64 (was.frame:Int), .int .u8 (was.prot:Int), .bool was.copy] 83):=⟨_,rfl⟩;rw[<-xb];have DS:Below w.heap.size w w3:=(by rw[xb];exact(vD.trans (vM.mono wg)).alloc (by omega) _);have AT:cB w3 w2.heap.size was:=(by rw[xb];exact ab _ _);have Js:w2.heap.size<w3.heap.size:=(by rw[xb];simp);have Ck:=HP.out.below DS;have RG:al w3 t c a root:=(DS.block t wT).trans HT.out;have Is:eV w3 bt t:=(DS.block bt zC).trans MR.out;have Qn:cB w3 bl l:=(DS.block bl Ik).trans HBL.out;have hWS: ¬S w2.heap.size:=fun e=>by have:=HP.out.low _ e;omega
 clear xb c0;have d0:w3.cell? ⟨bt,0,none⟩=some (.pointer (some ⟨t,0,none⟩)):=aa Is 0;have d1:w3.cell? ⟨t,1,none⟩=some (.pointer (some ⟨a,0,none⟩)):=aa RG 1;have d2:w3.cell? ⟨bl,0,none⟩=some (.int .i64 (l.frame:Int)):=aa Qn 0;have MG:=va Ck;have MA:=va RG;have HPt3:=va Is;have HBl3:=va Qn;have Cp:=va AT;clear Ck RG Is Qn AT
 go_still_tail 6,(by kernel_rfl)
 go_wp2_with fail;refine(up_yes a l.frame _ S p (MG.out.drew) (by rw[br];exact vr ⟨wH,BE⟩) wY).mono ?_;rintro e w4 ⟨rfl,Ms,JN⟩;have xq:=JN.undrew;have AX:=xq.size;have Yp:w2.heap.size<w4.heap.size:=(by omega);have Fk:al w4 t c a root:=(xq.block t (by omega) Am).trans MA.out;have Qf:eV w4 bt t:=(xq.block bt (by omega) Au).trans HPt3.out;have Ve:cB w4 bl l:=(xq.block bl (by omega) Mm).trans HBl3.out;have El:cB w4 w2.heap.size was:=(xq.block _ Js hWS).trans Cp.out;clear d0 d1 d2 JN;have d0:w4.cell? ⟨bt,0,none⟩=some (.pointer (some ⟨t,0,none⟩)):=aa Qf 0;have d1:w4.cell? ⟨t,1,none⟩=some (.pointer (some ⟨a,0,none⟩)):=aa Fk 1;have d2:w4.cell? ⟨w2.heap.size,0,none⟩=some (.int .i64 (was.frame:Int)):=aa El 0;have KQ:=va Ms;have Ly:=va Fk;have HPt4:=va Qf;have HBl4:=va Ve;clear Ms Fk Qf Ve El;go_upto_region 3 with(fail)
 go_still_tail 6,(by kernel_rfl)
 go_wp2_with fail;refine(cZ a was.frame _ S _ (KQ.out.drew) Fv (up_cnt p _ _ LL)).mono ?_;rintro e w5 ⟨rfl,IN,EP⟩;have xf:=EP.undrew;have Lh:=xf.size;have RF:al w5 t c a root:=(xf.block t (by omega) Am).trans Ly.out;have UK:eV w5 bt t:=(xf.block bt (by omega) Au).trans HPt4.out;have Mv:cB w5 bl l:=(xf.block bl (by omega) Mm).trans HBl4.out;clear d0 d1 d2 EP;have d0:w5.cell? ⟨bt,0,none⟩=some (.pointer (some ⟨t,0,none⟩)):=aa UK 0;have d1:w5.cell? ⟨bl,0,none⟩=some (.int .i64 (l.frame:Int)):=aa Mv 0;have d2:w5.cell? ⟨bl,1,none⟩=some (.int .u8 (l.prot:Int)):=aa Mv 1;have d3:w5.cell? ⟨bl,2,none⟩=some (.bool l.copy):=aa Mv 2;have HP5:=va IN;have HT5:=va RF;have Zv:bt<w5.heap.size:=(by omega);have hbl5:bl<w5.heap.size:=(by omega);clear IN RF UK Mv;go_upto_region 4 with(fail);go_region_with
  ((
   first
   |(go_at_call 118;refine(mJ l _ h7 (by omega)).mono ?_;rintro e w6 ⟨rfl,Bs⟩;have Bt:Below w5.heap.size w5 w6:=bA Bs;have d0':w6.cell? ⟨bt,0,none⟩=some (.pointer (some ⟨t,0,none⟩)):=(Bt.cell (p:=⟨bt,0,none⟩) Zv).trans d0)
   |(go_at_call 112;refine(gv t c a root f k l.pack _ S _ (HP5.out.below Bt) ((Bt.block t (by omega)).trans HT5.out) (by have:=Bt.size;omega) hf Ud hk TH).mono ?_;rintro e w7 ⟨rfl,Xt,xh⟩)))
 all_goals
  go_wp2_with fail;go_ret;exact⟨rfl,Xt,(Mod.of DS).trans (Out.refl _ _) (xq.trans (Out.refl _ _) (xf.trans (Out.refl _ _) ((Mod.of Bt).trans (Out.refl _ _) xh)))⟩
end
