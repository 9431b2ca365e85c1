/- Tables: a node's word read and written; -/
import Derived.Test.YtoochjhipmpehaaGreatDoorTwAK
import Derived.BigQuiet
import Derived.Deep.QuietTactic
import Derived.Deep.RegionHeld3
import Derived.Laws.ShiftsVarLaws
import Derived.Lib.QuietBelow
import Derived.StillTailTactics
set_option linter.unusedVariables false
set_option linter.unusedSimpArgs false
set_option maxRecDepth 100000
set_option maxHeartbeats 16000000
namespace Go.Proofs.YtoochjhipmpehaaGreatDoor
section
open Go.RowKit
def al (w:World) (t c a root:Nat):Prop:=w.heap[t]? =some (.cells #[.pointer (some ⟨c,0,none⟩), .pointer (some ⟨a,0,none⟩), .int .i64 (root:Int)] 154 (0,0))
theorem bJ (t c a root f k:Nat) (w:World) (S:Nat->Prop) (p:Pool) (h:am w S a p) (ht:al w t c a root) (hf:f<p.n) (h1:1<=p.cnt f) (hk:k<512):
  Calls Tryz.prog 111 #[.pointer (some ⟨t,0,none⟩), .int .i64 (f:Int), .int .i64 (k:Int)] w fun e w'=>e= .returned (.int .u64 ((word (p.dat f) k:Nat):Int))/\Below w.heap.size w w':=by
 have c1:w.cell? ⟨t,1,none⟩=some (.pointer (some ⟨a,0,none⟩)):=aa ht 1;obtain⟨⟨C,B,F,wd,pt,hi,hS⟩,wI,_,_⟩:=id h;have yS:=hi.small f;clear hi hS wI ht;go_enter Tryz.func111,Tryz.ntmps111;go_wp2_with fail;refine(fH a f (8*k) 8 w S p h hf h1 (by omega) (by omega)).mono ?_;rintro e w1 ⟨rfl,hB,hz,vS⟩;have HB:=vp hB;clear hB;go_wp2_with fail;refine(get_8 0 8 8 w.heap.size (fun i=>p.dat f (8*k+i)) w1 (by omega) (by omega) HB.out (fun i=>yS _) hz).mono ?_;rintro e w2 ⟨rfl,wb⟩;have hw:dv (fun i=>p.dat f (8*k+i)) 0 8=word (p.dat f) k:=by
  unfold word;have key: ∀n,dv (fun i=>p.dat f (8*k+i)) 0 n=dv (p.dat f) (8*k) n:=fun n=>by
   induction n with
   |zero=>rfl
   |succ n ih=>unfold dv;rw[ih,Nat.zero_add]
  exact key 8
 rw[hw];go_wp2_with fail;go_ret;exact⟨rfl,vS.trans (wb.mono (Nat.le_of_lt hz))⟩
theorem ow (d0:Nat->Nat) (k x:Nat):laid d0 (laid (fun _ =>0) (fun i=>x/256^i % 256) 0 8) (8*k) 8=aE d0 k x:=by
 funext i;unfold laid aE;simp only;by_cases h:8*k<=i/\i<8*k+8
 ·rw[if_pos h,if_pos h,if_pos (by omega),Nat.sub_zero]
 ·rw[if_neg h,if_neg h]
theorem gw (t c a root f k x:Nat) (w:World) (S:Nat->Prop) (p:Pool) (h:am w S a p) (ht:al w t c a root) (xf:t<w.heap.size) (hf:f<p.n) (h1:1<=p.cnt f) (hk:k<512) (hx:x<18446744073709551616):
  Calls Tryz.prog 112 #[.pointer (some ⟨t,0,none⟩), .int .i64 (f:Int), .int .i64 (k:Int), .int .u64 (x:Int)] w fun e w'=>e= .returned (.tuple #[])/\am w' S a (p.store f (aE (p.dat f) k x))/\Mod S w w':=by
 have xC:Below w.heap.size w (w.alloc (.cells (rowV 8 fun _ => .int .u8 0) 5)):=vr;have hX:aP (w.alloc (.cells (rowV 8 fun _ => .int .u8 0) 5)) w.heap.size 8 (fun _ =>0):=ab w _;have Ff: ∀W:World,(Instr.makeSlice 39 (.int .i64 8) (.int .i64 8)).run Tryz.prog W= .ok (.slice (some ⟨W.heap.size,0,none⟩) 8 8) (W.alloc (.cells (rowV 8 fun _ => .int .u8 0) 5)):=iq 8 (by omega);have HT:=vp ht;have HX:=vp hX;clear ht hX;go_enter Tryz.func112,Tryz.ntmps112;go_wp2_with fail;refine(set_8 8 8 w.heap.size x _ (by omega) (by omega) (fun _ =>0) HX.out (by simp) hx).mono ?_;rintro e w1 ⟨g,cap,rfl,ho,vS⟩;have wF:=vS.size;simp at wF;have Bk:Below w.heap.size w w1:=xC.trans (vS.mono (by simp));have AN:al w1 t c a root:=(Bk.block t xf).trans HT.out;have c1:w1.cell? ⟨t,1,none⟩=some (.pointer (some ⟨a,0,none⟩)):=aa AN 1;have Ex:=vp (h.below Bk);have HO:=vp ho;clear ho AN;go_wp2_with fail;refine(gx a f (8*k) 8 cap (some ⟨g,0,none⟩) (laid (fun _ =>0) (fun i=>x/256^i % 256) 0 8) w1 S p Ex.out hf h1 (by omega) (by omega) HO.out.v (fun j=>by unfold laid;split;exact Nat.mod_lt _ (by decide);exact(by decide:(0:Nat)<256))).mono ?_;rintro e w2 ⟨rfl,AP,wk⟩;rw[ow]at AP;go_wp2_with fail;go_end0;exact⟨rfl,AP,(Mod.of Bk).trans (Out.refl _ _) wk⟩
theorem jM (f m:Nat) (hm:m<4096):f*4096|||m=f*4096+m:=by
 have:=Nat.two_pow_add_eq_or_of_lt (i:=12) (b:=m) hm f;rw[show(2:Nat)^12=4096 from by decide,Nat.mul_comm]at this;exact this.symm
theorem pT: ∀q:Fin 8,(q.val*2|||1)=q.val*2+1/\((q.val*2+1)|||16)=q.val*2+17:=by decide
theorem or_one (f q:Nat) (hq:q<=7):(f*4096+q*2)|||1=f*4096+q*2+1:=by
 have s1:q*2|||1=q*2+1:=(pT ⟨q,by omega⟩).1;have h:=jM f (q*2) (by omega);have h2:=jM f (q*2+1) (by omega);rw[<-h,Nat.or_assoc,s1,h2,h];omega
theorem rf (f q:Nat) (hq:q<=7):(f*4096+q*2+1)|||16=f*4096+q*2+1+16:=by
 have s1:(q*2+1)|||16=q*2+17:=(pT ⟨q,by omega⟩).2;have h:=jM f (q*2+1) (by omega);have h2:=jM f (q*2+17) (by omega);rw[Nat.add_assoc,<-h,Nat.or_assoc,s1,h2,h];omega
theorem tD (f q:Nat) (hf:f<1024) (hq:q<=7):bits .or .u64 (bits .or .u64 ((f:Int)*4096) ((q:Int)*2)) 1=((f*4096+q*2+1:Nat):Int):=by
 have e1:((f:Int)*4096)=((f*4096:Nat):Int):=(by simp);have e2:((q:Int)*2)=((q*2:Nat):Int):=(by simp);have e3:(1:Int)=((1:Nat):Int):=rfl;rw[e1,e2,bits_or_u64_nat _ _ (by omega) (by omega),e3,jM _ _ (by omega),bits_or_u64_nat _ _ (by omega) (by omega),or_one f q hq]
theorem oF (f q:Nat) (hf:f<1024) (hq:q<=7):bits .or .u64 ((f*4096+q*2+1:Nat):Int) 16=((f*4096+q*2+1+16:Nat):Int):=by
 have e3:(16:Int)=((16:Nat):Int):=rfl;rw[e3,bits_or_u64_nat _ _ (by omega) (by omega),rf f q hq]
variable {x:Nat}
theorem uR (hx:x<18446744073709551616):bits .and .u64 ((x:Int)/2) 7 % 256=((x/2 % 8:Nat):Int):=by
 have e1:((x:Int)/2)=((x/2:Nat):Int):=(by simp);have e3:(7:Int)=((7:Nat):Int):=rfl;rw[e1,e3,bits_and_u64_nat _ _ (by omega) (by omega),show(7:Nat)=2^3-1 from rfl,Nat.and_two_pow_sub_one_eq_mod];omega
theorem pl (hx:x<18446744073709551616):(bits .and .u64 (x:Int) 16 != 0)=(x/16 % 2==1):=by
 have e3:(16:Int)=((16:Nat):Int):=rfl;have h:=and_two_pow_eq_zero (x:Int) 4 (by omega);rw[Int.toNat_natCast,show((2:Int)^4).toNat=16 from rfl,show(2:Int)^4=16 from rfl]at h;rw[e3,bits_and_u64_nat _ _ hx (by omega)];by_cases h0:x&&&16=0
 ·have h2:=h.1 h0;rw[h0,show(x/16 % 2==1)=false from by rw[vE];omega];rfl
 ·have h2:(x:Int)/16 % 2=1:=Decidable.by_contra fun e=>h0 (h.2 e);rw[show(x/16 % 2==1)=true from by rw[beq_iff_eq];omega,bne_iff_ne];omega
theorem mD (l:Leaf) (w:World) (h:l.prot<=7) (hf:l.frame<1024):
  Calls Tryz.prog 118 #[.agg #[.int .i64 (l.frame:Int), .int .u8 (l.prot:Int), .bool l.copy]] w fun e w'=>e= .returned (.int .u64 (l.pack:Int))/\Below w.heap.size w w':=by
 obtain⟨f,q,c⟩:=l;simp only at h hf;have h1:=tD f q hf h;have h2:=oF f q hf h;have H1:=vp h1;have H2:=vp h2;clear h1 h2;cases c
 ·go_enter Tryz.func118,Tryz.ntmps118;go_wp2;go_ret;exact⟨lA (by rw[H1.out];simp[Leaf.pack]),vr⟩
 ·go_enter Tryz.func118,Tryz.ntmps118;go_wp2;go_ret;exact⟨lA (by rw[H1.out,H2.out];simp[Leaf.pack]),vr⟩
theorem ez (x:Nat) (w:World) (hx:x<18446744073709551616):
  Calls Tryz.prog 110 #[.int .u64 (x:Int)] w fun e w'=>e= .returned (.agg #[.int .i64 ((fP x).frame:Int), .int .u8 ((fP x).prot:Int), .bool (fP x).copy])/\Below w.heap.size w w':=by
 go_enter Tryz.func110,Tryz.ntmps110;go_wp2;rw[uR hx,pl hx];exact bodyPost_ret (v:= .agg #[.int .i64 ((fP x).frame:Int), .int .u8 ((fP x).prot:Int), .bool (fP x).copy]) (by simp[results,Tryz.results110,go_sem,fP]) rfl ⟨rfl,vr⟩
end
section
open Go.RowKit
def wayV (pg k j:Nat):Value:= .int .i64 (if j<k then((num pg (4-j):Nat):Int)else 0)
def wayA (pg:Nat):Value:= .agg #[.int .i64 ((num pg 4:Nat):Int), .int .i64 ((num pg 3:Nat):Int), .int .i64 ((num pg 2:Nat):Int), .int .i64 ((num pg 1:Nat):Int)]
theorem li (a k:Nat) (h:1<=k):((a:Int)/(2:Int)^(12+9*(k-1)) % 512)=((num (a/4096) k:Nat):Int):=by
 unfold num;have e:(2:Nat)^(12+9*(k-1))=4096*512^(k-1):=by
  rw[Nat.pow_add,Nat.pow_mul]
 rw[Nat.div_div_eq_div_mul,<-e];simp
theorem way_any (a:Nat) (w:World) (ha:a<18446744073709551616):
  Calls Tryz.prog 125 #[.int .u64 (a:Int)] w fun e w'=>e= .returned (wayA (a/4096))/\Below w.heap.size w w':=by
 have e4:((a:Int)/549755813888 % 512)=((num (a/4096) 4:Nat):Int):=li a 4 (by omega);have e3:((a:Int)/1073741824 % 512)=((num (a/4096) 3:Nat):Int):=li a 3 (by omega);have e2:((a:Int)/2097152 % 512)=((num (a/4096) 2:Nat):Int):=li a 2 (by omega);have e1:((a:Int)/4096 % 512)=((num (a/4096) 1:Nat):Int):=li a 1 (by omega);have E4:=vp e4;have E3:=vp e3;have E2:=vp e2;have E1:=vp e1;have EN:=ab w (.cells #[wayV (a/4096) 0 0,wayV (a/4096) 0 1,wayV (a/4096) 0 2,wayV (a/4096) 0 3] 212);have GF:=vp EN;clear e1 e2 e3 e4 EN;go_enter Tryz.func125,Tryz.ntmps125;go_wp2_with fail;go_loopw [3,4] (fun _ i wr=> ∃k:Nat,k<=4/\i= .int .i64 k/\wr.heap[w.heap.size]? =some (.cells #[wayV (a/4096) k 0,wayV (a/4096) k 1,wayV (a/4096) k 2,wayV (a/4096) k 3] 212 (0,0))/\Below w.heap.size w wr) (fun _ i _ =>4-(intOf i).toNat)
 case atStart=>exact⟨0,vL _,rfl,GF.out,vr⟩
 case round=>
  obtain⟨k,hk,rfl,hX,hB⟩:=hrel;have vW:w.heap.size<wr.heap.size:=(vo hX).1;have f0:=ae hX 0;have f1:=ae hX 1;have f2:=ae hX 2;have f3:=ae hX 3;have HX:=vp hX;rcases(show k=0\/k=1\/k=2\/k=3\/k=4 by omega)with rfl|rfl|rfl|rfl|rfl
  ·have c0:wr.cell? ⟨w.heap.size,0,none⟩=some (.int .i64 0):=aa hX 0;clear hX;go_wp2;go_roundw
   case rel=>
    refine⟨1,by omega,by go_num,?_,hB.setCell (vs _) _⟩;rw[Joins.block_setCell HX.out,E4.out];rfl
   case measure=>simp[intOf]
  ·have c0:wr.cell? ⟨w.heap.size,1,none⟩=some (.int .i64 0):=aa hX 1;clear hX;go_wp2;go_roundw
   case rel=>
    refine⟨2,by omega,by go_num,?_,hB.setCell (vs _) _⟩;rw[Joins.block_setCell HX.out,E3.out];rfl
   case measure=>simp[intOf]
  ·have c0:wr.cell? ⟨w.heap.size,2,none⟩=some (.int .i64 0):=aa hX 2;clear hX;go_wp2;go_roundw
   case rel=>
    refine⟨3,by omega,by go_num,?_,hB.setCell (vs _) _⟩;rw[Joins.block_setCell HX.out,E2.out];rfl
   case measure=>simp[intOf]
  ·have c0:wr.cell? ⟨w.heap.size,3,none⟩=some (.int .i64 0):=aa hX 3;clear hX;go_wp2;go_roundw
   case rel=>
    refine⟨4,by omega,by go_num,?_,hB.setCell (vs _) _⟩;rw[Joins.block_setCell HX.out,E1.out];rfl
   case measure=>simp[intOf]
  ·have c0:wr.cell? ⟨w.heap.size,0,none⟩=some (.int .i64 ((num (a/4096) 4:Nat):Int)):=aa hX 0;have c1:wr.cell? ⟨w.heap.size,1,none⟩=some (.int .i64 ((num (a/4096) 3:Nat):Int)):=aa hX 1;have c2:wr.cell? ⟨w.heap.size,2,none⟩=some (.int .i64 ((num (a/4096) 2:Nat):Int)):=aa hX 2;have c3:wr.cell? ⟨w.heap.size,3,none⟩=some (.int .i64 ((num (a/4096) 1:Nat):Int)):=aa hX 3;clear hX;go_wp2;exact bodyPost_ret (v:=wayA (a/4096)) (by simp[results,Tryz.results125,go_sem,vW,f0,f1,f2,f3,c0,c1,c2,c3,wayA]) rfl ⟨rfl,(((hB.setCell (vs _) _).setCell (vs _) _).setCell (vs _) _).setCell (vs _) _⟩
theorem cn (t c a root:Nat) (w:World) (ht:al w t c a root):
  Calls Tryz.prog 73 #[.pointer (some ⟨t,0,none⟩)] w fun e w'=>e= .returned (.bool false)/\w=w':=by
 have c1:w.cell? ⟨t,1,none⟩=some (.pointer (some ⟨a,0,none⟩)):=aa ht 1;clear ht;go_enter Tryz.func73,Tryz.ntmps73;go_wp2;go_ret;exact⟨rfl,rfl⟩
def pn (d:Nat->Nat) (n:Nat):Bool:=decide (∀i,i<n->d i=0)
theorem qD (t c a root f:Nat) (w:World) (S:Nat->Prop) (p:Pool) (h:am w S a p) (ht:al w t c a root) (hf:f<p.n) (h1:1<=p.cnt f):
  Calls Tryz.prog 157 #[.pointer (some ⟨t,0,none⟩), .int .i64 (f:Int)] w fun e w'=>e= .returned (.bool (pn (p.dat f) 4096))/\Below w.heap.size w w':=by
 have c1:w.cell? ⟨t,1,none⟩=some (.pointer (some ⟨a,0,none⟩)):=aa ht 1;clear ht;go_enter Tryz.func157,Tryz.ntmps157;go_wp2_with fail;refine(fH a f 0 4096 w S p h hf h1 (by omega) (by omega)).mono ?_;rintro e w1 ⟨rfl,hB,hz,vS⟩;have HB:=vp hB;clear hB;go_wp2_with fail;go_loop [20] (fun i=> ∃k:Nat,k<=4096/\i= .int .i64 k/\ ∀i,i<k->p.dat f i=0) (fun i=>4096-(intOf i).toNat)
 case atStart=>exact⟨0,vL _,rfl,fun i hi=>by omega⟩
 case round=>
  obtain⟨k,hk,rfl,wM⟩:=hrel;have HZ:=vp wM;clear wM;by_cases vW:k<4096
  ·have hc:w1.cell? ⟨w.heap.size,k,none⟩=some (.int .u8 ((p.dat f k:Nat):Int)):=by
    have h9:=aL HB.out vW;simpa using h9
   by_cases hd:p.dat f k=0
   ·rw[hd]at hc;have HD:=vp hd;clear hd;go_wp2;go_round
    case rel=>exact⟨k+1,by omega,by go_num,fun i hi=>by
     rcases Nat.lt_or_ge i k with h2|h2
     ·exact HZ.out i h2
     ·have:i=k:=(by omega);rw[this];exact HD.out⟩
    case measure=>simp[intOf];omega
   ·have wg:(((p.dat f k:Nat):Int) != 0)=true:=(by rw[bne_iff_ne];omega);have HD:=vp hd;clear hd;go_wp2;go_ret;exact⟨gC (vF fun e=>HD.out (e k vW)).symm,vS⟩
  ·obtain rfl:k=4096:=(by omega);go_wp2;go_ret;exact⟨gC (vG HZ.out).symm,vS⟩
end
section
open Go.RowKit
structure Way (p:Pool) (T:Tab) (pg:Nat):Prop where
 node: ∀lv f,1<=lv->lv<=4->T.nd lv (part pg lv)=some f->f<p.n/\1<=p.cnt f/\word (p.dat f) (num pg lv)=T.on pg lv
 few:p.n<=1024
 prot: ∀l,T.lf pg=some l->l.prot<=7/\l.frame<p.n
variable {p:Pool}
theorem Tab.Good.way {t:Tab} {rest:Nat->Nat} {pg0 lv0:Nat} (h:t.Good p rest pg0 lv0) (pg:Nat):Way p t pg:=
 ⟨fun lv f h1 h4 hf=>⟨(h.node hf).1,(h.node hf).2,(h.but.words lv _ f hf).2 _ (bS _ _)⟩,h.but.few,fun l hl=>(h.but.leaf pg l hl).2⟩
variable {x:Nat}
theorem and_one (hx:x<18446744073709551616):bits .and .u64 (x:Int) 1=((x % 2:Nat):Int):=by
 have e3:(1:Int)=((1:Nat):Int):=rfl;rw[e3,bits_and_u64_nat _ _ hx (by omega),Nat.and_one_is_mod]
theorem fu (hx:x<18446744073709551616) (h:x % 2=1):(bits .and .u64 (x:Int) 1==0)=false:=by
 rw[and_one hx,h];rfl
theorem gU:(bits .and .u64 0 1==0)=true:=by decide+kernel
def le (w:World) (b pg:Nat):Prop:=w.heap[b]? =some (.cells #[.int .i64 ((num pg 4:Nat):Int), .int .i64 ((num pg 3:Nat):Int), .int .i64 ((num pg 2:Nat):Int), .int .i64 ((num pg 1:Nat):Int)] 212 (0,0))
variable {w:World} {pg:Nat}
theorem le.cells {b:Nat} (h:le w b pg):w.cell? ⟨b,0,none⟩=some (.int .i64 ((num pg 4:Nat):Int))/\w.cell? ⟨b,1,none⟩=some (.int .i64 ((num pg 3:Nat):Int))/\w.cell? ⟨b,2,none⟩=some (.int .i64 ((num pg 2:Nat):Int))/\w.cell? ⟨b,3,none⟩=some (.int .i64 ((num pg 1:Nat):Int)):=⟨aa h 0,aa h 1,aa h 2,aa h 3⟩
theorem df {S:Nat->Prop} {t c a root:Nat} (pg:Nat) (h:am w S a p) (ht:al w t c a root) (xf:t<w.heap.size): ∃w0,w0=w.alloc (.cells #[.int .i64 ((num pg 4:Nat):Int), .int .i64 ((num pg 3:Nat):Int), .int .i64 ((num pg 2:Nat):Int), .int .i64 ((num pg 1:Nat):Int)] 212)/\Below w.heap.size w w0/\am w0 S a p/\al w0 t c a root/\le w0 w.heap.size pg/\w.heap.size<w0.heap.size/\t<w0.heap.size:=by
 have xC:Below w.heap.size w (w.alloc (.cells #[.int .i64 ((num pg 4:Nat):Int), .int .i64 ((num pg 3:Nat):Int), .int .i64 ((num pg 2:Nat):Int), .int .i64 ((num pg 1:Nat):Int)] 212)):=vr;exact⟨_,rfl,xC,h.below xC,(xC.block t xf).trans ht,ab w _,by simp,by simp;omega⟩
def eN (LV LW:Nat) (D E:Int):Prop:=(LV=2/\LW=1/\D=2/\E=3)\/(LV=3/\LW=2/\D=1/\E=2)\/(LV=4/\LW=3/\D=0/\E=1)
variable {LV LW:Nat} {D E:Int}
theorem eN.nums (h:eN LV LW D E):LV=LW+1/\1<=LW/\LV<=4:=by
 rcases h with⟨rfl,rfl,_⟩|⟨rfl,rfl,_⟩|⟨rfl,rfl,_⟩<;>decide
variable {T:Tab} {f:Nat}
theorem oG {g:Nat} (hc:eN LV LW D E) (h:word (p.dat f) (num pg LV)=T.on pg LV) (hg:T.nd LW (part pg LW)=some g):word (p.dat f) (num pg LV)=g*4096+1:=by
 obtain⟨rfl,h1,h2⟩:=hc.nums;rw[h,Tab.on_more _ _ _ (by omega)];show(match T.nd LW (part pg LW)with|some f=>f*4096+1|none=>0)=_;rw[hg]
theorem on_none (hc:eN LV LW D E) (h:word (p.dat f) (num pg LV)=T.on pg LV) (hg:T.nd LW (part pg LW)=none):word (p.dat f) (num pg LV)=0:=by
 obtain⟨rfl,h1,h2⟩:=hc.nums;rw[h,Tab.on_more _ _ _ (by omega)];show(match T.nd LW (part pg LW)with|some f=>f*4096+1|none=>0)=_;rw[hg]
def qt (LV:Nat) (D:Int):Prop:= ∀(t c a root f pg:Nat) (V:Value) (w:World) (S:Nat->Prop) (p:Pool) (T:Tab),am w S a p->al w t c a root->t<w.heap.size->Way p T pg->T.lf pg=none->T.nd LV (part pg LV)=some f->
 Calls Tryz.prog 126 #[.pointer (some ⟨t,0,none⟩), .int .i64 (f:Int),wayA pg, .int .i64 D,V] w fun e w'=>e= .returned (.tuple #[.bool false, .bool false])/\Below w.heap.size w w'
theorem desc_no1:qt 1 3:=by
 intro t c a root f pg V w S p T h ht xf hw wE hf;obtain⟨f1,f2,f3⟩:=hw.node 1 f (by omega) (by omega) hf;obtain⟨w0,vT,xC,CW,yK,CA,yW,Cd⟩:=df pg h ht xf;obtain⟨c0,c1,c2,c3⟩:=CA.cells;have e0:word (p.dat f) (num pg 1)=0:=(by rw[f3,Tab.on_one,wE]);have E0:=vp e0;have wD:=vp vT;have hz:=gU;clear f3 hf vT h ht e0 wE;unfold wayA;go_enter Tryz.func126,Tryz.ntmps126;go_upto_region 1 with(fail);rw[<-wD.out];go_wp2_with fail;refine(bJ t c a root f _ w0 S p CW yK f1 f2 (bS pg _)).mono ?_;rintro e w1 ⟨rfl,vS⟩;rw[E0.out];go_wp2_with fail;go_ret2;exact⟨rfl,xC.trans (vS.mono (Nat.le_of_lt yW))⟩
theorem ma (hc:eN LV LW D E) (ih:qt LW E):qt LV D:=by
 intro t c a root f pg V w S p T h ht xf hw wE hf;obtain⟨f1,f2,f3⟩:=hw.node LV f (by have:=hc.nums;omega) (by have:=hc.nums;omega) hf;obtain⟨w0,vT,xC,CW,yK,CA,yW,Cd⟩:=df pg h ht xf;obtain⟨c0,c1,c2,c3⟩:=CA.cells;have wD:=vp vT;have hz:=gU;have IH:=vp ih;cases hg:T.nd LW (part pg LW)with
 |none=>
  have E0:=vp (on_none hc f3 hg);clear f3 hf vT h ht wE hg ih IH;unfold wayA;rcases hc with⟨rfl,rfl,rfl,rfl⟩|⟨rfl,rfl,rfl,rfl⟩|⟨rfl,rfl,rfl,rfl⟩<;>(
   go_enter Tryz.func126,Tryz.ntmps126;go_upto_region 1 with(fail);rw[<-wD.out];go_wp2_with fail;refine(bJ t c a root f _ w0 S p CW yK f1 f2 (bS pg _)).mono ?_;rintro e w1 ⟨rfl,vS⟩;rw[E0.out];go_wp2_with fail;go_ret2;exact⟨rfl,xC.trans (vS.mono (Nat.le_of_lt yW))⟩)
 |some g=>
  obtain⟨g1,g2,_⟩:=hw.node LW g (by have:=hc.nums;omega) (by have:=hc.nums;omega) hg;have wC:=hw.few;obtain⟨x,hx⟩: ∃x,x=g*4096+1:=⟨_,rfl⟩;have e0:=oG hc f3 hg;rw[<-hx]at e0;have E0:=vp e0;have zV:x<18446744073709551616:=(by omega);have Gk:=fu zV (by omega);have II:=vp (show((x:Int)/4096)=(g:Int) by omega);have HG:=vp hg;have HN:=vp wE;clear f3 hf vT h ht wE hg ih e0 hx;unfold wayA;rcases hc with⟨rfl,rfl,rfl,rfl⟩|⟨rfl,rfl,rfl,rfl⟩|⟨rfl,rfl,rfl,rfl⟩<;>(
   go_enter Tryz.func126,Tryz.ntmps126;go_upto_region 1 with(fail);rw[<-wD.out];go_wp2_with fail;refine(bJ t c a root f _ w0 S p CW yK f1 f2 (bS pg _)).mono ?_;rintro e w1 ⟨rfl,vS⟩;rw[E0.out];have wF:=vS.size;obtain⟨d0,d1,d2,d3⟩:=le.cells ((vS.block _ yW).trans CA);have AN:al w1 t c a root:=(vS.block t Cd).trans yK;clear c0 c1 c2 c3;go_wp2_with fail;rw[II.out];refine(IH.out t c a root g pg V w1 S p T (CW.below vS) AN (by omega) hw HN.out HG.out).mono ?_;rintro e w2 ⟨rfl,wb⟩;go_wp2_with fail;go_ret2;exact⟨rfl,xC.trans ((vS.trans (wb.mono wF)).mono (Nat.le_of_lt yW))⟩)
theorem gQ:qt 4 0:=ma (.inr (.inr ⟨rfl,rfl,rfl,rfl⟩)) (ma (.inr (.inl ⟨rfl,rfl,rfl,rfl⟩)) (ma (.inl ⟨rfl,rfl,rfl,rfl⟩) desc_no1))
end
section
open Go.RowKit
def jn (bt bl:Nat) (f:FuncId) (C:Array Value):Prop:=(f=127/\C= #[])\/(f=170/\C= #[.pointer (some ⟨bt,0,none⟩), .pointer (some ⟨bl,0,none⟩)])\/(f=116/\C= #[.pointer (some ⟨bt,0,none⟩), .pointer (some ⟨bl,0,none⟩)])
def mu (fid:FuncId) (C:Array Value) (LV:Nat) (D:Int):Prop:= ∀(t c a root f pg:Nat) (R:World->World->Prop) (w:World) (S:Nat->Prop) (p:Pool) (T:Tab),am w S a p->al w t c a root->t<w.heap.size->Way p T pg->(∀m,1<=m->m<=4->(T.nd m (part pg m)).isSome=true)-> ∀(l:Leaf) (q1:Nat),T.lf pg=some l->T.nd 1 (part pg 1)=some q1->
 (∀w1,Below w.heap.size w w1->Calls Tryz.prog fid (#[.int .i64 (q1:Int), .int .i64 ((num pg 1:Nat):Int)]++C) w1 fun e w2=>e= .returned (.bool false)/\R w1 w2)->T.nd LV (part pg LV)=some f->
 Calls Tryz.prog 126 #[.pointer (some ⟨t,0,none⟩), .int .i64 (f:Int),wayA pg, .int .i64 D, .func (.func fid) #[] C] w fun e w'=>e= .returned (.tuple #[.bool true, .bool false])/\ ∃w1,Below w.heap.size w w1/\R w1 w'
variable {bt bl:Nat} {fid:FuncId} {C:Array Value}
theorem uq (hk:jn bt bl fid C):mu fid C 1 3:=by
 intro t c a root f pg R w S p T h ht xf hw EO l q1 wV BV Ad hf;obtain⟨f1,f2,f3⟩:=hw.node 1 f (by omega) (by omega) hf;obtain⟨w0,vT,xC,CW,yK,CA,yW,Cd⟩:=df pg h ht xf;obtain⟨c0,c1,c2,c3⟩:=CA.cells;obtain rfl:f=q1:=(by rw[BV]at hf;injection hf with e9;exact e9.symm);obtain⟨x,hx⟩: ∃x,x=l.pack:=⟨_,rfl⟩;have e0:word (p.dat f) (num pg 1)=x:=(by rw[f3,Tab.on_one,wV,hx]);have E0:=vp e0;have IT:=hw.prot l wV;have wC:=hw.few;have zV:x<18446744073709551616:=(by rw[hx];have:=eB l IT.1 (by omega);omega);have Gk:=fu zV (by rw[hx];exact fD l);have wD:=vp vT;have Ln:=vp Ad;clear f3 hf vT h ht e0 hx wV BV Ad EO;unfold wayA;rcases hk with⟨rfl,rfl⟩|⟨rfl,rfl⟩|⟨rfl,rfl⟩<;>(
  go_enter Tryz.func126,Tryz.ntmps126;go_upto_region 1 with(fail);rw[<-wD.out];go_wp2_with fail;refine(bJ t c a root f _ w0 S p CW yK f1 f2 (bS pg _)).mono ?_;rintro e w1 ⟨rfl,vS⟩;rw[E0.out];go_wp2_with fail;refine(Ln.out w1 (xC.trans (vS.mono (Nat.le_of_lt yW)))).mono ?_;rintro e w2 ⟨rfl,hR⟩;go_wp2_with fail;go_ret2;exact⟨rfl,w1,xC.trans (vS.mono (Nat.le_of_lt yW)),hR⟩)
theorem kl (hk:jn bt bl fid C) {LV LW:Nat} {D E:Int} (hc:eN LV LW D E) (ih:mu fid C LW E):mu fid C LV D:=by
 intro t c a root f pg R w S p T h ht xf hw EO l q1 wV BV Ad hf;obtain⟨f1,f2,f3⟩:=hw.node LV f (by have:=hc.nums;omega) (by have:=hc.nums;omega) hf;obtain⟨w0,vT,xC,CW,yK,CA,yW,Cd⟩:=df pg h ht xf;obtain⟨c0,c1,c2,c3⟩:=CA.cells;have wD:=vp vT;have IH:=vp ih;obtain⟨g,hg⟩: ∃g,T.nd LW (part pg LW)=some g:=bC (EO LW (by have:=hc.nums;omega) (by have:=hc.nums;omega));obtain⟨g1,g2,_⟩:=hw.node LW g (by have:=hc.nums;omega) (by have:=hc.nums;omega) hg;have wC:=hw.few;obtain⟨x,hx⟩: ∃x,x=g*4096+1:=⟨_,rfl⟩;have e0:=oG hc f3 hg;rw[<-hx]at e0;have E0:=vp e0;have zV:x<18446744073709551616:=(by omega);have Gk:=fu zV (by omega);have II:=vp (show((x:Int)/4096)=(g:Int) by omega);have HG:=vp hg;have HU:=vp EO;have HL:=vp wV;have Sn:=vp BV;have Ln:=vp Ad;clear f3 hf vT h ht hg ih e0 hx EO wV BV Ad;unfold wayA;rcases hk with⟨rfl,rfl⟩|⟨rfl,rfl⟩|⟨rfl,rfl⟩<;>rcases hc with⟨rfl,rfl,rfl,rfl⟩|⟨rfl,rfl,rfl,rfl⟩|⟨rfl,rfl,rfl,rfl⟩<;>(
  go_enter Tryz.func126,Tryz.ntmps126;go_upto_region 1 with(fail);rw[<-wD.out];go_wp2_with fail;refine(bJ t c a root f _ w0 S p CW yK f1 f2 (bS pg _)).mono ?_;rintro e w1 ⟨rfl,vS⟩;rw[E0.out];have wF:=vS.size;obtain⟨d0,d1,d2,d3⟩:=le.cells ((vS.block _ yW).trans CA);have AN:al w1 t c a root:=(vS.block t Cd).trans yK;clear c0 c1 c2 c3;go_wp2_with fail;rw[II.out];refine(IH.out t c a root g pg R w1 S p T (CW.below vS) AN (by omega) hw HU.out l q1 HL.out Sn.out (fun w5 Xg=>Ln.out w5 (xC.trans ((vS.trans (Xg.mono wF)).mono (Nat.le_of_lt yW)))) HG.out).mono ?_;rintro e w2 ⟨rfl,w5,wb,hR⟩;go_wp2_with fail;go_ret2;exact⟨rfl,w5,xC.trans ((vS.trans (wb.mono wF)).mono (Nat.le_of_lt yW)),hR⟩)
theorem kj (hk:jn bt bl fid C):mu fid C 4 0:=kl hk (.inr (.inr ⟨rfl,rfl,rfl,rfl⟩)) (kl hk (.inr (.inl ⟨rfl,rfl,rfl,rfl⟩)) (kl hk (.inl ⟨rfl,rfl,rfl,rfl⟩) (uq hk)))
end
section
open Go.RowKit
def ap (l:Leaf):Array Value:= #[.int .i64 (l.frame:Int), .int .u8 (l.prot:Int), .bool l.copy]
def eU (w:World) (b t:Nat):Prop:=w.heap[b]? =some (.cells #[.pointer (some ⟨t,0,none⟩)] 77 (0,0))
def cx (w:World) (b:Nat) (l:Leaf):Prop:=w.heap[b]? =some (.cells #[.int .i64 (l.frame:Int), .int .u8 (l.prot:Int), .bool l.copy] 83 (0,0))
theorem keep2 {w w':World} {b o:Nat} {v:Value} (hb:Below w.heap.size w w') (h:w.cell? ⟨b,o,none⟩=some v/\b<w.heap.size):w'.cell? ⟨b,o,none⟩=some v/\b<w'.heap.size:=
 ⟨(hb.cell (p:=⟨b,o,none⟩) h.2).trans h.1,vw h.2 hb.size⟩
theorem find_cl (t c a root f k bt bl:Nat) (l0 l:Leaf) (w:World) (S:Nat->Prop) (p:Pool) (h:am w S a p) (ht:al w t c a root) (Ae:eU w bt t) (BJ:cx w bl l0) (hf:f<p.n) (h1:1<=p.cnt f) (hk:k<512)
  (hw:word (p.dat f) k=l.pack) (h7:l.prot<=7) (hl:l.frame<1024):
  Calls Tryz.prog 170 (#[.int .i64 (f:Int), .int .i64 (k:Int)]++ #[.pointer (some ⟨bt,0,none⟩), .pointer (some ⟨bl,0,none⟩)]) w fun e w'=>e= .returned (.bool false)/\(cx w' bl l/\Mod (fun b=>b=bl) w w'):=by
 have c0:w.cell? ⟨bt,0,none⟩=some (.pointer (some ⟨t,0,none⟩)):=aa Ae 0;have zd:bl<w.heap.size:=(vo BJ).1;have HBL:=vp BJ;have zV:l.pack<18446744073709551616:=(by have:=eB l h7 hl;omega);have yZ:=ey l h7;have GG:=vp yZ;have HW:=vp hw;clear Ae BJ yZ hw;show Calls Tryz.prog 170 #[.int .i64 (f:Int), .int .i64 (k:Int), .pointer (some ⟨bt,0,none⟩), .pointer (some ⟨bl,0,none⟩)] w _;go_enter Tryz.func170,Tryz.ntmps170;go_wp2_with fail;refine(bJ t c a root f k w S p h ht hf h1 hk).mono ?_;rintro e w1 ⟨rfl,vS⟩;rw[HW.out];go_wp2_with fail;refine(ez l.pack w1 zV).mono ?_;rintro e w2 ⟨rfl,wb⟩;rw[GG.out];have wF:=vS.size;have wL:=wb.size;have xD:Below w.heap.size w w2:=vS.trans (wb.mono wF);have Jc:cx w2 bl l0:=(xD.block bl zd).trans HBL.out;have x0:=aa Jc 0;have x1:=aa Jc 1;have x2:=aa Jc 2;have z0:=ae Jc 0;have z1:=ae Jc 1;have z2:=ae Jc 2;simp at x0 x1 x2;have GN:=vp Jc;clear Jc;go_wp2_with fail;go_ret;refine⟨rfl,?_,(Mod.of xD).trans (Out.refl _ _) (((aj (S:=fun b=>b=bl) rfl _ _).trans (Out.refl _ _) (aj (S:=fun b=>b=bl) rfl _ _)).trans (Out.refl _ _) (aj (S:=fun b=>b=bl) rfl _ _))⟩;unfold cx;have:=Joins.block_setCell (i:=2) (Joins.block_setCell (i:=1) (Joins.block_setCell (i:=0) GN.out (.int .i64 (l.frame:Int))) (.int .u8 (l.prot:Int))) (.bool l.copy);simpa using this
theorem lj (A:Int) (w:World) (h0:0<=A) (h1:A<18446744073709551616):
  Calls Tryz.prog 125 #[.int .u64 A] w fun e w'=>e= .returned (wayA (A.toNat/4096))/\Below w.heap.size w w':=by
 obtain⟨a,rfl⟩:=Int.eq_ofNat_of_zero_le h0;rw[Int.toNat_natCast];exact way_any a w (by omega)
theorem lq (t c a root:Nat) (A:Int) (V:Value) (w:World) (S:Nat->Prop) (p:Pool) (T:Tab) (h:am w S a p) (ht:al w t c a root) (xf:t<w.heap.size) (hw:Way p T (A.toNat/4096)) (wE:T.lf (A.toNat/4096)=none)
  (hr:T.nd 4 (part (A.toNat/4096) 4)=some root) (zj:0<=A) (hA:A<140737488355328):
  Calls Tryz.prog 108 #[.pointer (some ⟨t,0,none⟩), .int .u64 A,V] w fun e w'=>e= .returned (.int .i64 6)/\Below w.heap.size w w':=by
 have c2:w.cell? ⟨t,2,none⟩=some (.int .i64 (root:Int)):=aa ht 2;have HT:=vp ht;have HP:=vp h;have HN:=vp wE;have HR:=vp hr;have HW:=vp hw;have Ol:A<18446744073709551616:=(by omega);have Xe:=vp Ol;clear ht h wE hr Ol hw;go_enter Tryz.func108,Tryz.ntmps108;go_wp2_with fail;refine(cn t c a root _ HT.out).mono ?_;rintro e w1 ⟨rfl,rfl⟩;go_wp2_with fail;go_region_held3 (fun w'=>w'.cell? ⟨t,2,none⟩=some (.int .i64 (root:Int))/\t<w'.heap.size)
  ((first|(simp[*];done)|exact keep2 wb (by assumption)|exact keep2 vS (by assumption)))
  ((
   first
   |(go_at_call 125;refine(lj A _ zj Xe.out).mono ?_;rintro e w1 ⟨rfl,vS⟩;have yo:Below w.heap.size w w1:=((vO w.heap.size w).drew).trans vS)
   |(go_at_call 126;refine(gQ t c a root root (A.toNat/4096) V _ S p T (HP.out.below yo) ((yo.block t xf).trans HT.out) (vw xf yo.size) HW.out HN.out HR.out).mono ?_;rintro e w2 ⟨rfl,wb⟩)))
 have hB:Below w.heap.size w w2:=yo.trans (wb.mono yo.size);go_wp2_with fail;go_ret;exact⟨rfl,hB⟩
theorem oh (t c a root:Nat) (A:Int) (V:Value) (w:World) (ht:al w t c a root) (hA:140737488355328<=A):
  Calls Tryz.prog 108 #[.pointer (some ⟨t,0,none⟩), .int .u64 A,V] w fun e w'=>e= .returned (.int .i64 1)/\w=w':=by
 have HT:=vp ht;clear ht;go_enter Tryz.func108,Tryz.ntmps108;go_wp2_with fail;refine(cn t c a root _ HT.out).mono ?_;rintro e w1 ⟨rfl,rfl⟩;go_wp2_with fail;go_ret;exact⟨rfl,rfl⟩
theorem sA {bt bl:Nat} {fid:FuncId} {C:Array Value} (hk:jn bt bl fid C) (t c a root:Nat) (A:Int) (R:World->World->Prop) (w:World) (S:Nat->Prop) (p:Pool) (T:Tab) (h:am w S a p) (ht:al w t c a root) (xf:t<w.heap.size) (hw:Way p T (A.toNat/4096)) (EO: ∀m,1<=m->m<=4->(T.nd m (part (A.toNat/4096) m)).isSome=true) (l:Leaf) (q1:Nat) (wV:T.lf (A.toNat/4096)=some l) (IS:T.nd 1 (part (A.toNat/4096) 1)=some q1)
  (Ad: ∀w1,Below w.heap.size w w1->Calls Tryz.prog fid (#[.int .i64 (q1:Int), .int .i64 ((num (A.toNat/4096) 1:Nat):Int)]++C) w1 fun e w2=>e= .returned (.bool false)/\R w1 w2)
  (hr:T.nd 4 (part (A.toNat/4096) 4)=some root) (zj:0<=A) (hA:A<140737488355328):
  Calls Tryz.prog 108 #[.pointer (some ⟨t,0,none⟩), .int .u64 A, .func (.func fid) #[] C] w fun e w'=>e= .returned (.int .i64 0)/\ ∃w1,Below w.heap.size w w1/\R w1 w':=by
 have c2:w.cell? ⟨t,2,none⟩=some (.int .i64 (root:Int)):=aa ht 2;have HT:=vp ht;have HP:=vp h;have HL:=vp wV;have HQ:=vp IS;have Ln:=vp Ad;have HU:=vp EO;have HR:=vp hr;have HW:=vp hw;have Ol:A<18446744073709551616:=(by omega);have Xe:=vp Ol;have HD:=vp (kj hk);clear ht h wV IS Ad EO hr Ol hw;rcases hk with⟨rfl,rfl⟩|⟨rfl,rfl⟩|⟨rfl,rfl⟩<;>(
  go_enter Tryz.func108,Tryz.ntmps108;go_wp2_with fail;refine(cn t c a root _ HT.out).mono ?_;rintro e w1 ⟨rfl,rfl⟩;go_wp2_with fail;go_region_with
   ((
    first
    |(go_at_call 125;refine(lj A _ zj Xe.out).mono ?_;rintro e w1 ⟨rfl,vS⟩;have yo:Below w.heap.size w w1:=((vO w.heap.size w).drew).trans vS;have c2':w1.cell? ⟨t,2,none⟩=some (.int .i64 (root:Int)):=aa ((yo.block t xf).trans HT.out) 2)
    |(go_at_call 126;refine(HD.out t c a root root (A.toNat/4096) R _ S p T (HP.out.below yo) ((yo.block t xf).trans HT.out) (vw xf yo.size) HW.out HU.out l q1 HL.out HQ.out (fun w5 Xg=>Ln.out w5 (yo.trans (Xg.mono yo.size))) HR.out).mono ?_;rintro e w2 ⟨rfl,w5,zi,hR⟩)))
  all_goals
   go_wp2_with fail;go_ret;exact⟨rfl,w5,yo.trans (zi.mono yo.size),hR⟩)
end
section
open Go.RowKit
def noLeaf:Leaf:=⟨0,0,false⟩
def cH (T:Tab) (A:Int):Leaf×Int:=if 140737488355328<=A then(noLeaf,1)else match T.lf (A.toNat/4096)with
 |some l=>(l,0)
 |none=>(noLeaf,6)
structure Tree (p:Pool) (T:Tab) (root:Nat):Prop where
 way: ∀pg,Way p T pg
 ups: ∀pg l,T.lf pg=some l-> ∀m,1<=m->m<=4->(T.nd m (part pg m)).isSome=true
 root:T.nd 4 0=some root
variable {p:Pool} {root:Nat}
theorem Tree.top {T:Tab} (h:Tree p T root) {A:Int} (h0:0<=A) (hA:A<140737488355328):T.nd 4 (part (A.toNat/4096) 4)=some root:=by
 rw[gI _ (by omega)];exact h.root
theorem Tab.Good.tree {t:Tab} {rest:Nat->Nat} {pg0:Nat} (h:t.Good p rest pg0 4) (hr:t.nd 4 0=some root):Tree p t root:=
 ⟨fun pg=>h.way pg,fun pg l hl m h1 h4=>h.ok.leafUp hl m h1 h4,hr⟩
def FindPost (w:World) (bl:Nat) (r:Leaf×Int) (e:Ending) (w':World):Prop:=e= .returned (.int .i64 r.2)/\cx w' bl r.1/\Mod (fun b=>b=bl) w w'
theorem tat_res (t c a root bt bl:Nat) (A:Int) (w:World) (S:Nat->Prop) (p:Pool) (T:Tab) (h:am w S a p) (ht:al w t c a root) (xf:t<w.heap.size) (hw:Tree p T root) (zj:0<=A)
  (Ae:eU w bt t) (BJ:cx w bl noLeaf):
  Calls Tryz.prog 108 #[.pointer (some ⟨t,0,none⟩), .int .u64 A, .func (.func 170) #[] #[.pointer (some ⟨bt,0,none⟩), .pointer (some ⟨bl,0,none⟩)]] w (FindPost w bl (cH T A)):=by
 have zS:bt<w.heap.size:=(vo Ae).1;have Ix:bl<w.heap.size:=(vo BJ).1;by_cases yN:140737488355328<=A
 ·have hr:cH T A=(noLeaf,1):=(by unfold cH;rw[if_pos yN]);rw[hr];exact(oh t c a root A _ w ht yN).mono fun e w' ⟨he,yq⟩=>by
   subst yq;exact⟨he,BJ,Mod.refl _ _⟩
 ·have vW:A<140737488355328:=(by omega);have BH:=hw.top zj vW;have EB:=hw.way (A.toNat/4096);cases wV:T.lf (A.toNat/4096)with
  |none=>
   have hr:cH T A=(noLeaf,6):=(by unfold cH;rw[if_neg yN,wV]);rw[hr];exact(lq t c a root A _ w S p T h ht xf EB wV BH zj vW).mono fun e w' ⟨he,hb⟩=>⟨he,(hb.block bl Ix).trans BJ,Mod.of hb⟩
  |some l=>
   have hr:cH T A=(l,0):=(by unfold cH;rw[if_neg yN,wV]);rw[hr];have yZ:=hw.ups _ l wV;obtain⟨q1,IS⟩:=bC (yZ 1 (by omega) (by omega));obtain⟨n1,n2,n3⟩:=EB.node 1 q1 (by omega) (by omega) IS;obtain⟨p7,pf⟩:=EB.prot l wV;have wC:=EB.few;refine(sA (bt:=bt) (bl:=bl) (.inr (.inl ⟨rfl,rfl⟩)) t c a root A (fun w1 w2=>cx w2 bl l/\Mod (fun b=>b=bl) w1 w2) w S p T h ht xf EB yZ l q1 wV IS (fun w1 hb=>?_) BH zj vW).mono fun e w' ⟨he,w1,hb,wS,hm⟩=>⟨he,wS,(Mod.of hb).trans (Out.refl _ _) hm⟩;exact find_cl t c a root q1 (num (A.toNat/4096) 1) bt bl noLeaf l w1 S p (h.below hb) ((hb.block t xf).trans ht) ((hb.block bt zS).trans Ae) ((hb.block bl Ix).trans BJ) n1 n2 (bS _ _) (by rw[n3,Tab.on_one,wV]) p7 (by omega)
theorem sz (t c a root:Nat) (A:Int) (w:World) (S:Nat->Prop) (p:Pool) (T:Tab) (h:am w S a p) (ht:al w t c a root) (xf:t<w.heap.size) (hw:Tree p T root) (zj:0<=A):
  Calls Tryz.prog 156 #[.pointer (some ⟨t,0,none⟩), .int .u64 A] w
   fun e w'=>e= .returned (.tuple #[.agg (ap (cH T A).1), .int .i64 (cH T A).2])/\Below w.heap.size w w':=by
 have HP:=vp h;have HT:=vp ht;have HW:=vp hw;clear h ht;obtain⟨w0,vT⟩: ∃w0,w0=(((w.alloc (.cells #[.pointer (some ⟨t,0,none⟩)] 77)).alloc (.cells #[.int .i64 0, .int .u8 0, .bool false] 83)).alloc (.cells #[.int .i64 0, .int .u8 0, .bool false] 83)):=⟨_,rfl⟩;have xC:Below w.heap.size w w0:=(by rw[vT];exact(vr.alloc (by simp) _).alloc (by simp;omega) _);have BP:w0.heap.size=w.heap.size+1+1+1:=(by rw[vT];simp);have Sa:eU w0 w.heap.size t:=(by rw[vT];exact(vt _ _ _ (by simp;omega)).trans ((vt _ _ _ (by simp)).trans (ab w _)));have zp:cx w0 (w.heap.size+1) noLeaf:=by
  rw[vT];have e:(w.alloc (.cells #[.pointer (some ⟨t,0,none⟩)] 77)).heap.size=w.heap.size+1:=(by simp);rw[<-e];exact(vt _ _ _ (by simp)).trans (ab _ _)
 have AQ:cx w0 (w.heap.size+1+1) noLeaf:=by
  rw[vT];have e:((w.alloc (.cells #[.pointer (some ⟨t,0,none⟩)] 77)).alloc (.cells #[.int .i64 0, .int .u8 0, .bool false] 83)).heap.size=w.heap.size+1+1:=(by simp);rw[<-e];exact ab _ _
 have wi:=tat_res t c a root w.heap.size (w.heap.size+1+1) A w0 S p T (HP.out.below xC) ((xC.block t xf).trans HT.out) (by omega) HW.out zj Sa AQ;generalize hL:cH T A=r at *
 have wP:=vp wi;have DS:=vp zp;have zI:=vp BP;have yW:w.heap.size+1<w0.heap.size:=(by omega);clear wi zp AQ Sa hL BP;have wD:=vp vT;clear vT;go_enter Tryz.func156,Tryz.ntmps156;go_wp2_with fail;rw[<-wD.out];refine(wP.out).mono ?_;rintro e w2 ⟨rfl,wS,hm⟩;have wL:=hm.size;have yt:cx w2 (w.heap.size+1) noLeaf:=(hm.block _ yW (by omega)).trans DS.out;have x0:w2.cell? ⟨w.heap.size+1+1,0,none⟩=some (.int .i64 (r.1.frame:Int)):=aa wS 0;have x1:w2.cell? ⟨w.heap.size+1+1,1,none⟩=some (.int .u8 (r.1.prot:Int)):=aa wS 1;have x2:w2.cell? ⟨w.heap.size+1+1,2,none⟩=some (.bool r.1.copy):=aa wS 2;have y0:w2.cell? ⟨w.heap.size+1,0,none⟩=some (.int .i64 0):=aa yt 0;have y1:w2.cell? ⟨w.heap.size+1,1,none⟩=some (.int .u8 0):=aa yt 1;have y2:w2.cell? ⟨w.heap.size+1,2,none⟩=some (.bool false):=aa yt 2;have z0:=ae yt 0;have z1:=ae yt 1;have z2:=ae yt 2;have vW:w.heap.size+1<w2.heap.size:=(by omega);clear wS yt;have hB:Below w.heap.size w w2:=xC.trans (hm.below (fun b hb=>by omega) (by omega));go_wp2_with fail;exact bodyPost_ret (v:= .tuple #[.agg (ap r.1), .int .i64 r.2]) (by simp[results,Tryz.results156,go_sem,vW,y0,y1,y2,z0,z1,z2,ap]) rfl ⟨rfl,((hB.setCell (by show w.heap.size<=w.heap.size+1;omega) _).setCell (by show w.heap.size<=w.heap.size+1;omega) _).setCell (by show w.heap.size<=w.heap.size+1;omega) _⟩
end
section
open Go.RowKit
theorem up_cnt (p:Pool) (f g:Nat) (h:1<=p.cnt g):1<=(p.up f).cnt g:=by
 by_cases e:g=f
 ·subst e;simp only[Pool.up,af];omega
 ·simp only[Pool.up,ag _ _ e];exact h
variable {w:World} {S:Nat->Prop}
theorem am.drew {a:Nat} {p:Pool} (h:am w S a p):am w.drew S a p:=h.below ((vO _ _).drew)
variable {w':World}
theorem Mod.undrew (h:Mod S w.drew w'):Mod S w w':=⟨h.os,h.tape,h.output,h.size,h.block⟩
theorem bw {B:Nat} (h:Below B w.drew w'):Below B w w':=⟨h.os,h.tape,h.output,h.size,h.block⟩
theorem set_cl (t c a root f k bt bl:Nat) (l was:Leaf) (w:World) (S:Nat->Prop) (p:Pool) (h:am w S a p) (ht:al w t c a root) (AF: ¬S t) (xf:t<w.heap.size) (Ae:eU w bt t) (AL: ¬S bt) (BJ:cx w bl l) (Mr: ¬S bl)
  (hf:f<p.n) (h1:1<=p.cnt f) (hk:k<512) (hw:word (p.dat f) k=was.pack) (yv:was.prot<=7) (FM:was.frame<p.n) (LP:1<=p.cnt was.frame) (h7:l.prot<=7) (wV:l.frame<p.n) (BS:1<=p.cnt l.frame) (xn:p.cnt l.frame+1<1000000000000) (hn:p.n<=1024)
  (Us:1<=((p.up l.frame).down was.frame).cnt f):
  Calls Tryz.prog 116 (#[.int .i64 (f:Int), .int .i64 (k:Int)]++ #[.pointer (some ⟨bt,0,none⟩), .pointer (some ⟨bl,0,none⟩)]) w
   fun e w'=>e= .returned (.bool false)/\(am w' S a (((p.up l.frame).down was.frame).store f (aE (p.dat f) k l.pack))/\Mod S w w'):=by
 have c0:w.cell? ⟨bt,0,none⟩=some (.pointer (some ⟨t,0,none⟩)):=aa Ae 0;have zS:bt<w.heap.size:=(vo Ae).1;have Ix:bl<w.heap.size:=(vo BJ).1;have zV:was.pack<18446744073709551616:=(by have:=eB was yv (by omega);omega);have TV:l.pack<18446744073709551616:=(by have:=eB l h7 (by omega);omega);have GG:=vp (ey was yv);have HW:=vp hw;have MX:=vp Ae;have HBL:=vp BJ;have HT:=vp ht;have HP:=vp h;clear Ae BJ hw h ht;show Calls Tryz.prog 116 #[.int .i64 (f:Int), .int .i64 (k:Int), .pointer (some ⟨bt,0,none⟩), .pointer (some ⟨bl,0,none⟩)] w _;go_enter Tryz.func116,Tryz.ntmps116;go_wp2_with fail;refine(bJ t c a root f k w S p HP.out HT.out hf h1 hk).mono ?_;rintro e w1 ⟨rfl,vS⟩;rw[HW.out];go_wp2_with fail;refine(ez was.pack w1 zV).mono ?_;rintro e w2 ⟨rfl,wb⟩;rw[GG.out];have wF:=vS.size;have wL:=wb.size;go_upto_region 2 with(fail);obtain⟨w3,xq⟩: ∃w3,w3=w2.alloc (.cells #[.int .i64 (was.frame:Int), .int .u8 (was.prot:Int), .bool was.copy] 83):=⟨_,rfl⟩;rw[<-xq];have Ep:Below w.heap.size w w3:=(by rw[xq];exact(vS.trans (wb.mono wF)).alloc (by omega) _);have Bj:cx w3 w2.heap.size was:=(by rw[xq];exact ab _ _);have JD:w2.heap.size<w3.heap.size:=(by rw[xq];simp);have CC:=HP.out.below Ep;have RW:al w3 t c a root:=(Ep.block t xf).trans HT.out;have IB:eU w3 bt t:=(Ep.block bt zS).trans MX.out;have QB:cx w3 bl l:=(Ep.block bl Ix).trans HBL.out;have hWS: ¬S w2.heap.size:=fun e=>by have:=HP.out.low _ e;omega
 clear xq c0;have d0:w3.cell? ⟨bt,0,none⟩=some (.pointer (some ⟨t,0,none⟩)):=aa IB 0;have d1:w3.cell? ⟨t,1,none⟩=some (.pointer (some ⟨a,0,none⟩)):=aa RW 1;have d2:w3.cell? ⟨bl,0,none⟩=some (.int .i64 (l.frame:Int)):=aa QB 0;have ML:=vp CC;have MF:=vp RW;have HPt3:=vp IB;have HBl3:=vp QB;have CH:=vp Bj;clear CC RW IB QB Bj
 go_still_tail 6,(by kernel_rfl)
 go_wp2_with fail;refine(up_yes a l.frame _ S p (ML.out.drew) (by rw[bj];exact vG ⟨wV,BS⟩) xn).mono ?_;rintro e w4 ⟨rfl,Mx,JX⟩;have xH:=JX.undrew;have AZ:=xH.size;have Yy:w2.heap.size<w4.heap.size:=(by omega);have FC:al w4 t c a root:=(xH.block t (by omega) AF).trans MF.out;have Qt:eU w4 bt t:=(xH.block bt (by omega) AL).trans HPt3.out;have Vo:cx w4 bl l:=(xH.block bl (by omega) Mr).trans HBl3.out;have EI:cx w4 w2.heap.size was:=(xH.block _ JD hWS).trans CH.out;clear d0 d1 d2 JX;have d0:w4.cell? ⟨bt,0,none⟩=some (.pointer (some ⟨t,0,none⟩)):=aa Qt 0;have d1:w4.cell? ⟨t,1,none⟩=some (.pointer (some ⟨a,0,none⟩)):=aa FC 1;have d2:w4.cell? ⟨w2.heap.size,0,none⟩=some (.int .i64 (was.frame:Int)):=aa EI 0;have MK:=vp Mx;have LF:=vp FC;have HPt4:=vp Qt;have HBl4:=vp Vo;clear Mx FC Qt Vo EI;go_upto_region 3 with(fail)
 go_still_tail 6,(by kernel_rfl)
 go_wp2_with fail;refine(cZ a was.frame _ S _ (MK.out.drew) FM (up_cnt p _ _ LP)).mono ?_;rintro e w5 ⟨rfl,IZ,Fi⟩;have xu:=Fi.undrew;have Jm:=xu.size;have RV:al w5 t c a root:=(xu.block t (by omega) AF).trans LF.out;have UU:eU w5 bt t:=(xu.block bt (by omega) AL).trans HPt4.out;have MA:cx w5 bl l:=(xu.block bl (by omega) Mr).trans HBl4.out;clear d0 d1 d2 Fi;have d0:w5.cell? ⟨bt,0,none⟩=some (.pointer (some ⟨t,0,none⟩)):=aa UU 0;have d1:w5.cell? ⟨bl,0,none⟩=some (.int .i64 (l.frame:Int)):=aa MA 0;have d2:w5.cell? ⟨bl,1,none⟩=some (.int .u8 (l.prot:Int)):=aa MA 1;have d3:w5.cell? ⟨bl,2,none⟩=some (.bool l.copy):=aa MA 2;have HP5:=vp IZ;have HT5:=vp RV;have Zy:bt<w5.heap.size:=(by omega);have hbl5:bl<w5.heap.size:=(by omega);clear IZ RV UU MA;go_upto_region 4 with(fail);go_region_with
  ((
   first
   |(go_at_call 118;refine(mD l _ h7 (by omega)).mono ?_;rintro e w6 ⟨rfl,BK⟩;have Az:Below w5.heap.size w5 w6:=bw BK;have d0':w6.cell? ⟨bt,0,none⟩=some (.pointer (some ⟨t,0,none⟩)):=(Az.cell (p:=⟨bt,0,none⟩) Zy).trans d0)
   |(go_at_call 112;refine(gw t c a root f k l.pack _ S _ (HP5.out.below Az) ((Az.block t (by omega)).trans HT5.out) (by have:=Az.size;omega) hf Us hk TV).mono ?_;rintro e w7 ⟨rfl,Xz,xw⟩)))
 all_goals
  go_wp2_with fail;go_ret;exact⟨rfl,Xz,(Mod.of Ep).trans (Out.refl _ _) (xH.trans (Out.refl _ _) (xu.trans (Out.refl _ _) ((Mod.of Az).trans (Out.refl _ _) xw)))⟩
end
