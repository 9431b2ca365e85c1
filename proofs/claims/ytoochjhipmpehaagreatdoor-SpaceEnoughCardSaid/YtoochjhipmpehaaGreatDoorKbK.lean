/- Tables: a node's word read and written. -/
import Derived.Test.YtoochjhipmpehaaGreatDoorKaK
import Derived.BigQuiet
import Derived.Carry
import Derived.Deep.QuietTactic
import Derived.Deep.RegionHeld3
import Derived.Laws.ShiftsVarLaws
import Derived.Lib.QuietBelow
import Derived.OwnWalk
import Derived.StillTailTactics
set_option linter.unusedVariables false
set_option linter.unusedSimpArgs false
set_option maxRecDepth 100000
set_option maxHeartbeats 40000000
namespace Go.Proofs.YtoochjhipmpehaaGreatDoor
open Go.Proofs.Tryz
section
open Go.RowKit
def al (w:World)(t c a root:Nat):Prop:=w.heap[t]? =some (.cells #[.pointer (some ⟨c,0,none⟩),.pointer (some ⟨a,0,none⟩),.int .i64 (root:Int)] 154 (0,0))
theorem bR (t c a root f k:Nat)(w:World)(S:Nat->Prop)(p:Pool)(h:am w S a p)(ht:al w t c a root)(hf:f<p.n)(h1:1<=p.cnt f)(hk:k<512):
  Calls prog 111 #[.pointer (some ⟨t,0,none⟩),.int .i64 (f:Int),.int .i64 (k:Int)] w fun e w'=>e= .returned (.int .u64 ((word (p.dat f) k:Nat):Int))/\Below w.heap.size w w':=by
 have c1:w.cell? ⟨t,1,none⟩=some (.pointer (some ⟨a,0,none⟩)):=aa ht 1;obtain⟨⟨C,B,F,wd,pt,hi,hS⟩,xY,_,_⟩:=id h;have AK:=hi.small f;clear hi hS xY ht;go_enter func111,ntmps111;go_wp2_with fail;refine(gl a f (8*k) 8 w S p h hf h1 o_ o_).mono ?_;rintro e w1⟨rfl,hB,hz,xu⟩;have HB:=wP hB;clear hB;go_wp2_with fail;refine(get_8 0 8 8 w.heap.size (fun i=>p.dat f (8*k+i)) w1 o_ o_ HB.o (fun i=>AK _) hz).mono ?_;rintro e w2⟨rfl,xx⟩;have hw:dJ (fun i=>p.dat f (8*k+i)) 0 8=word (p.dat f) k:=by
  unfold word;have key: ∀n,dJ (fun i=>p.dat f (8*k+i)) 0 n=dJ (p.dat f) (8*k) n:=fun n=>by
   induction n with
   |zero=>rfl
   |succ n ih=>unfold dJ;rw[ih,Nat.zero_add]
  exact key 8
 rw[hw];go_wp2_with fail;go_ret;exact⟨rfl,xu.trans (xx.mono (Nat.le_of_lt hz))⟩
theorem pJ (d0:Nat->Nat)(k x:Nat):laid d0 (laid (fun _ =>0) (fun i=>x/256^i % 256) 0 8) (8*k) 8=aG d0 k x:=by
 funext i;unfold laid aG;simp only;by_cases h:8*k<=i/\i<8*k+8
 ·rw[if_pos h,if_pos h,if_pos o_,Nat.sub_zero]
 ·rw[if_neg h,if_neg h]
theorem ib (t c a root f k x:Nat)(w:World)(S:Nat->Prop)(p:Pool)(h:am w S a p)(ht:al w t c a root)(yC:t<w.heap.size)(hf:f<p.n)(h1:1<=p.cnt f)(hk:k<512)(hx:x<18446744073709551616):
  Calls prog 112 #[.pointer (some ⟨t,0,none⟩),.int .i64 (f:Int),.int .i64 (k:Int),.int .u64 (x:Int)] w fun e w'=>e= .returned (.tuple #[])/\am w' S a (p.store f (aG (p.dat f) k x))/\Mod S w w':=by
 have yT:Below w.heap.size w (w.alloc (.cells (rowV 8 fun _ => .int .u8 0) 5)):=wR;have hX:aT (w.alloc (.cells (rowV 8 fun _ => .int .u8 0) 5)) w.heap.size 8 (fun _ =>0):=ab w _;have IN: ∀W:World,(Instr.makeSlice 39 (.int .i64 8) (.int .i64 8)).run prog W= .ok (.slice (some ⟨W.heap.size,0,none⟩) 8 8) (W.alloc (.cells (rowV 8 fun _ => .int .u8 0) 5)):=gj 8 o_;obtain⟨HT,HX⟩:=zh2 ht hX;clear ht hX;go_enter func112,ntmps112;go_wp2_with fail;refine(set_8 8 8 w.heap.size x _ o_ o_ (fun _ =>0) HX.o s_ hx).mono ?_;rintro e w1⟨g,cap,rfl,ho,xu⟩;have xQ:=xu.size;simp at xQ;have Cq:Below w.heap.size w w1:=yT.trans (xu.mono s_);have Dm:al w1 t c a root:=(Cq.block t yC).trans HT.o;have c1:w1.cell? ⟨t,1,none⟩=some (.pointer (some ⟨a,0,none⟩)):=aa Dm 1;obtain⟨Gg,HO⟩:=zh2 (h.below Cq) ho;clear ho Dm;go_wp2_with fail;refine(ie a f (8*k) 8 cap (some ⟨g,0,none⟩) (laid (fun _ =>0) (fun i=>x/256^i % 256) 0 8) w1 S p Gg.o hf h1 o_ o_ HO.o.v (fun j=>by unfold laid;split;exact Nat.mod_lt _ d_;exact(by decide:(0:Nat)<256))).mono ?_;rintro e w2⟨rfl,Dp,xS⟩;rw[pJ]at Dp;go_wp2_with fail;go_end0;exact⟨rfl,Dp,(Mod.of Cq).trans (Out.refl _ _) xS⟩
theorem kH (f m:Nat)(hm:m<4096):f*4096|||m=f*4096+m:=by
 have:=Nat.two_pow_add_eq_or_of_lt (i:=12) (b:=m) hm f;rw[show(2:Nat)^12=4096 from by decide,Nat.mul_comm]at this;exact this.symm
theorem rk: ∀q:Fin 8,(q.val*2|||1)=q.val*2+1/\((q.val*2+1)|||16)=q.val*2+17:=d_
theorem or_one (f q:Nat)(hq:q<=7):(f*4096+q*2)|||1=f*4096+q*2+1:=by
 have s1:q*2|||1=q*2+1:=(rk ⟨q,o_⟩).1;have h:=kH f (q*2) o_;have h2:=kH f (q*2+1) o_;rw[<-h,Nat.or_assoc,s1,h2,h];omega
theorem sL (f q:Nat)(hq:q<=7):(f*4096+q*2+1)|||16=f*4096+q*2+1+16:=by
 have s1:(q*2+1)|||16=q*2+17:=(rk ⟨q,o_⟩).2;have h:=kH f (q*2+1) o_;have h2:=kH f (q*2+17) o_;rw[Nat.add_assoc,<-h,Nat.or_assoc,s1,h2,h];omega
theorem uU (f q:Nat)(hf:f<1024)(hq:q<=7):bits .or .u64 (bits .or .u64 ((f:Int)*4096) ((q:Int)*2)) 1=((f*4096+q*2+1:Nat):Int):=by
 have e1:((f:Int)*4096)=((f*4096:Nat):Int):=s_;have e2:((q:Int)*2)=((q*2:Nat):Int):=s_;have e3:(1:Int)=((1:Nat):Int):=rfl;rw[e1,e2,bits_or_u64_nat _ _ o_ o_,e3,kH _ _ o_,bits_or_u64_nat _ _ o_ o_,or_one f q hq]
theorem pS (f q:Nat)(hf:f<1024)(hq:q<=7):bits .or .u64 ((f*4096+q*2+1:Nat):Int) 16=((f*4096+q*2+1+16:Nat):Int):=by
 have e3:(16:Int)=((16:Nat):Int):=rfl;rw[e3,bits_or_u64_nat _ _ o_ o_,sL f q hq]
variable {x:Nat}
theorem wo (hx:x<18446744073709551616):bits .and .u64 ((x:Int)/2) 7 % 256=((x/2 % 8:Nat):Int):=by
 have e1:((x:Int)/2)=((x/2:Nat):Int):=s_;have e3:(7:Int)=((7:Nat):Int):=rfl;rw[e1,e3,bits_and_u64_nat _ _ o_ o_,show(7:Nat)=2^3-1 from rfl,Nat.and_two_pow_sub_one_eq_mod];omega
theorem qB (hx:x<18446744073709551616):(bits .and .u64 (x:Int) 16 != 0)=(x/16 % 2==1):=by
 have e3:(16:Int)=((16:Nat):Int):=rfl;have h:=and_two_pow_eq_zero (x:Int) 4 o_;rw[Int.toNat_natCast,show((2:Int)^4).toNat=16 from rfl,show(2:Int)^4=16 from rfl]at h;rw[e3,bits_and_u64_nat _ _ hx o_];by_cases h0:x&&&16=0
 ·have h2:=h.1 h0;rw[h0,show(x/16 % 2==1)=false from by rw[xf];omega];rfl
 ·have h2:(x:Int)/16 % 2=1:=Decidable.by_contra fun e=>h0 (h.2 e);rw[show(x/16 % 2==1)=true from by rw[beq_iff_eq];omega,bne_iff_ne];omega
theorem nN (l:Leaf)(w:World)(h:l.prot<=7)(hf:l.frame<1024):
  Calls prog 118 #[.agg #[.int .i64 (l.frame:Int),.int .u8 (l.prot:Int),.bool l.copy]] w fun e w'=>e= .returned (.int .u64 (l.pack:Int))/\Below w.heap.size w w':=by
 obtain⟨f,q,c⟩:=l;simp only at h hf;have h1:=uU f q hf h;have h2:=pS f q hf h;obtain⟨H1,H2⟩:=zh2 h1 h2;clear h1 h2;cases c
 ·go_enter func118,ntmps118;go_wp2;go_ret;exact⟨mz (by rw[H1.o];simp[Leaf.pack]),wR⟩
 ·go_enter func118,ntmps118;go_wp2;go_ret;exact⟨mz (by rw[H1.o,H2.o];simp[Leaf.pack]),wR⟩
theorem eN (x:Nat)(w:World)(hx:x<18446744073709551616):
  Calls prog 110 #[.int .u64 (x:Int)] w fun e w'=>e= .returned (.agg #[.int .i64 ((gB x).frame:Int),.int .u8 ((gB x).prot:Int),.bool (gB x).copy])/\Below w.heap.size w w':=by
 go_enter func110,ntmps110;go_wp2;rw[wo hx,qB hx];exact bodyPost_ret (v:= .agg #[.int .i64 ((gB x).frame:Int),.int .u8 ((gB x).prot:Int),.bool (gB x).copy]) (by simp[results,results110,go_sem,gB]) rfl ⟨rfl,wR⟩
end
section
open Go.RowKit
def wayV (pg k j:Nat):Value:= .int .i64 (if j<k then((num pg (4-j):Nat):Int)else 0)
def wayA (pg:Nat):Value:= .agg #[.int .i64 ((num pg 4:Nat):Int),.int .i64 ((num pg 3:Nat):Int),.int .i64 ((num pg 2:Nat):Int),.int .i64 ((num pg 1:Nat):Int)]
theorem ml (a k:Nat)(h:1<=k):((a:Int)/(2:Int)^(12+9*(k-1)) % 512)=((num (a/4096) k:Nat):Int):=by
 unfold num;have e:(2:Nat)^(12+9*(k-1))=4096*512^(k-1):=by
  rw[Nat.pow_add,Nat.pow_mul]
 rw[Nat.div_div_eq_div_mul,<-e];simp
theorem way_any (a:Nat)(w:World)(ha:a<18446744073709551616):
  Calls prog 125 #[.int .u64 (a:Int)] w fun e w'=>e= .returned (wayA (a/4096))/\Below w.heap.size w w':=by
 have e4:((a:Int)/549755813888 % 512)=((num (a/4096) 4:Nat):Int):=ml a 4 o_;have e3:((a:Int)/1073741824 % 512)=((num (a/4096) 3:Nat):Int):=ml a 3 o_;have e2:((a:Int)/2097152 % 512)=((num (a/4096) 2:Nat):Int):=ml a 2 o_;have e1:((a:Int)/4096 % 512)=((num (a/4096) 1:Nat):Int):=ml a 1 o_;obtain⟨E4,E3,E2,E1⟩:=zh4 e4 e3 e2 e1;have EA:=ab w (.cells #[wayV (a/4096) 0 0,wayV (a/4096) 0 1,wayV (a/4096) 0 2,wayV (a/4096) 0 3] 212);have Fv:=wP EA;clear e1 e2 e3 e4 EA;go_enter func125,ntmps125;go_wp2_with fail;go_loopw [3,4] (fun _ i wr=> ∃k:Nat,k<=4/\i= .int .i64 k/\wr.heap[w.heap.size]? =some (.cells #[wayV (a/4096) k 0,wayV (a/4096) k 1,wayV (a/4096) k 2,wayV (a/4096) k 3] 212 (0,0))/\Below w.heap.size w wr) (fun _ i _ =>4-(intOf i).toNat)
 case atStart=>exact⟨0,xm _,rfl,Fv.o,wR⟩
 case round=>
  obtain⟨k,hk,rfl,hX,hB⟩:=hrel;have xw:w.heap.size<wr.heap.size:=(wO hX).1;have f0:=ae hX 0;have f1:=ae hX 1;have f2:=ae hX 2;have f3:=ae hX 3;have HX:=wP hX;rcases(show k=0\/k=1\/k=2\/k=3\/k=4 by omega)with rfl|rfl|rfl|rfl|rfl
  ·have c0:wr.cell? ⟨w.heap.size,0,none⟩=some (.int .i64 0):=aa hX 0;clear hX;go_wp2;go_roundw
   case rel=>
    refine⟨1,o_,by go_num,?_,hB.setCell (wS _) _⟩;rw[Joins.block_setCell HX.o,E4.o];rfl
   case measure=>simp[intOf]
  ·have c0:wr.cell? ⟨w.heap.size,1,none⟩=some (.int .i64 0):=aa hX 1;clear hX;go_wp2;go_roundw
   case rel=>
    refine⟨2,o_,by go_num,?_,hB.setCell (wS _) _⟩;rw[Joins.block_setCell HX.o,E3.o];rfl
   case measure=>simp[intOf]
  ·have c0:wr.cell? ⟨w.heap.size,2,none⟩=some (.int .i64 0):=aa hX 2;clear hX;go_wp2;go_roundw
   case rel=>
    refine⟨3,o_,by go_num,?_,hB.setCell (wS _) _⟩;rw[Joins.block_setCell HX.o,E2.o];rfl
   case measure=>simp[intOf]
  ·have c0:wr.cell? ⟨w.heap.size,3,none⟩=some (.int .i64 0):=aa hX 3;clear hX;go_wp2;go_roundw
   case rel=>
    refine⟨4,o_,by go_num,?_,hB.setCell (wS _) _⟩;rw[Joins.block_setCell HX.o,E1.o];rfl
   case measure=>simp[intOf]
  ·have c0:wr.cell? ⟨w.heap.size,0,none⟩=some (.int .i64 ((num (a/4096) 4:Nat):Int)):=aa hX 0;have c1:wr.cell? ⟨w.heap.size,1,none⟩=some (.int .i64 ((num (a/4096) 3:Nat):Int)):=aa hX 1;have c2:wr.cell? ⟨w.heap.size,2,none⟩=some (.int .i64 ((num (a/4096) 2:Nat):Int)):=aa hX 2;have c3:wr.cell? ⟨w.heap.size,3,none⟩=some (.int .i64 ((num (a/4096) 1:Nat):Int)):=aa hX 3;clear hX;go_wp2;exact bodyPost_ret (v:=wayA (a/4096)) (by simp[results,results125,go_sem,xw,f0,f1,f2,f3,c0,c1,c2,c3,wayA]) rfl ⟨rfl,(((hB.setCell (wS _) _).setCell (wS _) _).setCell (wS _) _).setCell (wS _) _⟩
theorem de (t c a root:Nat)(w:World)(ht:al w t c a root):
  Calls prog 73 #[.pointer (some ⟨t,0,none⟩)] w fun e w'=>e= .returned (.bool false)/\w=w':=by
 have c1:w.cell? ⟨t,1,none⟩=some (.pointer (some ⟨a,0,none⟩)):=aa ht 1;clear ht;go_enter func73,ntmps73;go_wp2;go_ret;exact⟨rfl,rfl⟩
def qD (d:Nat->Nat)(n:Nat):Bool:=decide (∀i,i<n->d i=0)
theorem sf (t c a root f:Nat)(w:World)(S:Nat->Prop)(p:Pool)(h:am w S a p)(ht:al w t c a root)(hf:f<p.n)(h1:1<=p.cnt f):
  Calls prog 157 #[.pointer (some ⟨t,0,none⟩),.int .i64 (f:Int)] w fun e w'=>e= .returned (.bool (qD (p.dat f) 4096))/\Below w.heap.size w w':=by
 have c1:w.cell? ⟨t,1,none⟩=some (.pointer (some ⟨a,0,none⟩)):=aa ht 1;clear ht;go_enter func157,ntmps157;go_wp2_with fail;refine(gl a f 0 4096 w S p h hf h1 o_ o_).mono ?_;rintro e w1⟨rfl,hB,hz,xu⟩;have HB:=wP hB;clear hB;go_wp2_with fail;go_loop [20] (fun i=> ∃k:Nat,k<=4096/\i= .int .i64 k/\ ∀i,i<k->p.dat f i=0) (fun i=>4096-(intOf i).toNat)
 case atStart=>exact⟨0,xm _,rfl,fun i hi=>o_⟩
 case round=>
  obtain⟨k,hk,rfl,xT⟩:=hrel;have HZ:=wP xT;clear xT;by_cases xw:k<4096
  ·have hc:w1.cell? ⟨w.heap.size,k,none⟩=some (.int .u8 ((p.dat f k:Nat):Int)):=by
    have h9:=aW HB.o xw;simpa using h9
   by_cases hd:p.dat f k=0
   ·rw[hd]at hc;have HD:=wP hd;clear hd;go_wp2;go_round
    case rel=>exact⟨k+1,o_,by go_num,fun i hi=>by
     rcases Nat.lt_or_ge i k with h2|h2
     ·exact HZ.o i h2
     ·have:i=k:=o_;rw[this];exact HD.o⟩
    case measure=>simp[intOf];omega
   ·have xA:(((p.dat f k:Nat):Int) != 0)=true:=(by rw[bne_iff_ne];omega);have HD:=wP hd;clear hd;go_wp2;go_ret;exact⟨im (xg fun e=>HD.o (e k xw)).symm,xu⟩
  ·obtain rfl:k=4096:=o_;go_wp2;go_ret;exact⟨im (xh HZ.o).symm,xu⟩
end
section
open Go.RowKit
structure Way (p:Pool)(T:Tab)(pg:Nat):Prop where
 node: ∀lv f,1<=lv->lv<=4->T.nd lv (part pg lv)=some f->f<p.n/\1<=p.cnt f/\word (p.dat f) (num pg lv)=T.on pg lv
 few:p.n<=1024
 prot: ∀l,T.lf pg=some l->l.prot<=7/\l.frame<p.n
variable {p:Pool}
theorem Tab.Good.way {t:Tab}{rest:Nat->Nat}{pg0 lv0:Nat}(h:t.Good p rest pg0 lv0)(pg:Nat):Way p t pg:=
 ⟨fun lv f h1 h4 hf=>⟨(h.node hf).1,(h.node hf).2,(h.but.words lv _ f hf).2 _ (ce _ _)⟩,h.but.few,fun l hl=>(h.but.leaf pg l hl).2⟩
variable {x:Nat}
theorem and_one (hx:x<18446744073709551616):bits .and .u64 (x:Int) 1=((x % 2:Nat):Int):=by
 have e3:(1:Int)=((1:Nat):Int):=rfl;rw[e3,bits_and_u64_nat _ _ hx o_,Nat.and_one_is_mod]
theorem fO (hx:x<18446744073709551616)(h:x % 2=1):(bits .and .u64 (x:Int) 1==0)=false:=by
 rw[and_one hx,h];rfl
theorem iI:(bits .and .u64 0 1==0)=true:=by decide+kernel
def mi (w:World)(b pg:Nat):Prop:=w.heap[b]? =some (.cells #[.int .i64 ((num pg 4:Nat):Int),.int .i64 ((num pg 3:Nat):Int),.int .i64 ((num pg 2:Nat):Int),.int .i64 ((num pg 1:Nat):Int)] 212 (0,0))
variable {w:World}{pg:Nat}
theorem mi.cells {b:Nat}(h:mi w b pg):w.cell? ⟨b,0,none⟩=some (.int .i64 ((num pg 4:Nat):Int))/\w.cell? ⟨b,1,none⟩=some (.int .i64 ((num pg 3:Nat):Int))/\w.cell? ⟨b,2,none⟩=some (.int .i64 ((num pg 2:Nat):Int))/\w.cell? ⟨b,3,none⟩=some (.int .i64 ((num pg 1:Nat):Int)):=⟨aa h 0,aa h 1,aa h 2,aa h 3⟩
theorem dy {S:Nat->Prop}{t c a root:Nat}(pg:Nat)(h:am w S a p)(ht:al w t c a root)(yC:t<w.heap.size): ∃w0,w0=w.alloc (.cells #[.int .i64 ((num pg 4:Nat):Int),.int .i64 ((num pg 3:Nat):Int),.int .i64 ((num pg 2:Nat):Int),.int .i64 ((num pg 1:Nat):Int)] 212)/\Below w.heap.size w w0/\am w0 S a p/\al w0 t c a root/\mi w0 w.heap.size pg/\w.heap.size<w0.heap.size/\t<w0.heap.size:=by
 have yT:Below w.heap.size w (w.alloc (.cells #[.int .i64 ((num pg 4:Nat):Int),.int .i64 ((num pg 3:Nat):Int),.int .i64 ((num pg 2:Nat):Int),.int .i64 ((num pg 1:Nat):Int)] 212)):=wR;exact⟨_,rfl,yT,h.below yT,(yT.block t yC).trans ht,ab w _,s_,t_⟩
def fg (LV LW:Nat)(D E:Int):Prop:=(LV=2/\LW=1/\D=2/\E=3)\/(LV=3/\LW=2/\D=1/\E=2)\/(LV=4/\LW=3/\D=0/\E=1)
variable {LV LW:Nat}{D E:Int}
theorem fg.nums (h:fg LV LW D E):LV=LW+1/\1<=LW/\LV<=4:=by
 rcases h with⟨rfl,rfl,_⟩|⟨rfl,rfl,_⟩|⟨rfl,rfl,_⟩<;>decide
variable {T:Tab}{f:Nat}
theorem pU {g:Nat}(hc:fg LV LW D E)(h:word (p.dat f) (num pg LV)=T.on pg LV)(hg:T.nd LW (part pg LW)=some g):word (p.dat f) (num pg LV)=g*4096+1:=by
 obtain⟨rfl,h1,h2⟩:=hc.nums;rw[h,Tab.on_more _ _ _ o_];show(match T.nd LW (part pg LW)with|some f=>f*4096+1|none=>0)=_;rw[hg]
theorem on_none (hc:fg LV LW D E)(h:word (p.dat f) (num pg LV)=T.on pg LV)(hg:T.nd LW (part pg LW)=none):word (p.dat f) (num pg LV)=0:=by
 obtain⟨rfl,h1,h2⟩:=hc.nums;rw[h,Tab.on_more _ _ _ o_];show(match T.nd LW (part pg LW)with|some f=>f*4096+1|none=>0)=_;rw[hg]
def rU (LV:Nat)(D:Int):Prop:= ∀(t c a root f pg:Nat) (V:Value) (w:World) (S:Nat->Prop) (p:Pool) (T:Tab),am w S a p->al w t c a root->t<w.heap.size->Way p T pg->T.lf pg=none->T.nd LV (part pg LV)=some f->
 Calls prog 126 #[.pointer (some ⟨t,0,none⟩),.int .i64 (f:Int),wayA pg,.int .i64 D,V] w fun e w'=>e= .returned (.tuple #[.bool false,.bool false])/\Below w.heap.size w w'
theorem desc_no1:rU 1 3:=by
 intro t c a root f pg V w S p T h ht yC hw xL hf;obtain⟨f1,f2,f3⟩:=hw.node 1 f o_ o_ hf;obtain⟨w0,xv,yT,EG,AH,Ej,Az,DN⟩:=dy pg h ht yC;obtain⟨c0,c1,c2,c3⟩:=Ej.cells;have e0:word (p.dat f) (num pg 1)=0:=(by rw[f3,Tab.on_one,xL]);obtain⟨E0,xU⟩:=zh2 e0 xv;have hz:=iI;clear f3 hf xv h ht e0 xL;unfold wayA;go_enter func126,ntmps126;go_upto_region 1 with(fail);rw[<-xU.o];go_wp2_with fail;refine(bR t c a root f _ w0 S p EG AH f1 f2 (ce pg _)).mono ?_;rintro e w1⟨rfl,xu⟩;rw[E0.o];go_wp2_with fail;go_ret2;exact⟨rfl,yT.trans (xu.mono (Nat.le_of_lt Az))⟩
theorem ni (hc:fg LV LW D E)(ih:rU LW E):rU LV D:=by
 intro t c a root f pg V w S p T h ht yC hw xL hf;obtain⟨f1,f2,f3⟩:=hw.node LV f (by have:=hc.nums;omega) (by have:=hc.nums;omega) hf;obtain⟨w0,xv,yT,EG,AH,Ej,Az,DN⟩:=dy pg h ht yC;obtain⟨c0,c1,c2,c3⟩:=Ej.cells;have xU:=wP xv;have hz:=iI;have IH:=wP ih;cases hg:T.nd LW (part pg LW)with
 |none=>
  have E0:=wP (on_none hc f3 hg);clear f3 hf xv h ht xL hg ih IH;unfold wayA;rcases hc with⟨rfl,rfl,rfl,rfl⟩|⟨rfl,rfl,rfl,rfl⟩|⟨rfl,rfl,rfl,rfl⟩<;>(
   go_enter func126,ntmps126;go_upto_region 1 with(fail);rw[<-xU.o];go_wp2_with fail;refine(bR t c a root f _ w0 S p EG AH f1 f2 (ce pg _)).mono ?_;rintro e w1⟨rfl,xu⟩;rw[E0.o];go_wp2_with fail;go_ret2;exact⟨rfl,yT.trans (xu.mono (Nat.le_of_lt Az))⟩)
 |some g=>
  obtain⟨g1,g2,_⟩:=hw.node LW g (by have:=hc.nums;omega) (by have:=hc.nums;omega) hg;have xD:=hw.few;obtain⟨x,hx⟩:=e_ (g*4096+1);have e0:=pU hc f3 hg;rw[<-hx]at e0;have E0:=wP e0;have Bz:x<18446744073709551616:=o_;have II:=fO Bz o_;obtain⟨Ht,HG,HN⟩:=zh3 (show((x:Int)/4096)=(g:Int) by omega) hg xL;clear f3 hf xv h ht xL hg ih e0 hx;unfold wayA;rcases hc with⟨rfl,rfl,rfl,rfl⟩|⟨rfl,rfl,rfl,rfl⟩|⟨rfl,rfl,rfl,rfl⟩<;>(
   go_enter func126,ntmps126;go_upto_region 1 with(fail);rw[<-xU.o];go_wp2_with fail;refine(bR t c a root f _ w0 S p EG AH f1 f2 (ce pg _)).mono ?_;rintro e w1⟨rfl,xu⟩;rw[E0.o];have xQ:=xu.size;obtain⟨d0,d1,d2,d3⟩:=mi.cells ((xu.block _ Az).trans Ej);have Dm:al w1 t c a root:=(xu.block t DN).trans AH;clear c0 c1 c2 c3;go_wp2_with fail;rw[Ht.o];refine(IH.o t c a root g pg V w1 S p T (EG.below xu) Dm o_ hw HN.o HG.o).mono ?_;rintro e w2⟨rfl,xx⟩;go_wp2_with fail;go_ret2;exact⟨rfl,yT.trans ((xu.trans (xx.mono xQ)).mono (Nat.le_of_lt Az))⟩)
theorem iE:rU 4 0:=ni (.inr (.inr ⟨rfl,rfl,rfl,rfl⟩)) (ni (.inr (.inl ⟨rfl,rfl,rfl,rfl⟩)) (ni (.inl ⟨rfl,rfl,rfl,rfl⟩) desc_no1))
end
section
open Go.RowKit
def jY (bt bl:Nat)(f:FuncId)(C:Array Value):Prop:=(f=127/\C= #[])\/(f=170/\C= #[.pointer (some ⟨bt,0,none⟩),.pointer (some ⟨bl,0,none⟩)])\/(f=116/\C= #[.pointer (some ⟨bt,0,none⟩),.pointer (some ⟨bl,0,none⟩)])
def nE (fid:FuncId)(C:Array Value)(LV:Nat)(D:Int):Prop:= ∀(t c a root f pg:Nat) (R:World->World->Prop) (w:World) (S:Nat->Prop) (p:Pool) (T:Tab),am w S a p->al w t c a root->t<w.heap.size->Way p T pg->(∀m,1<=m->m<=4->(T.nd m (part pg m)).isSome=true)-> ∀(l:Leaf) (q1:Nat),T.lf pg=some l->T.nd 1 (part pg 1)=some q1->
 (∀w1,Below w.heap.size w w1->Calls prog fid (#[.int .i64 (q1:Int),.int .i64 ((num pg 1:Nat):Int)]++C) w1 fun e w2=>e= .returned (.bool false)/\R w1 w2)->T.nd LV (part pg LV)=some f->
 Calls prog 126 #[.pointer (some ⟨t,0,none⟩),.int .i64 (f:Int),wayA pg,.int .i64 D,.func (.func fid) #[] C] w fun e w'=>e= .returned (.tuple #[.bool true,.bool false])/\ ∃w1,Below w.heap.size w w1/\R w1 w'
variable {bt bl:Nat}{fid:FuncId}{C:Array Value}
theorem vL (hk:jY bt bl fid C):nE fid C 1 3:=by
 intro t c a root f pg R w S p T h ht yC hw GC l q1 ye DH BE hf;obtain⟨f1,f2,f3⟩:=hw.node 1 f o_ o_ hf;obtain⟨w0,xv,yT,EG,AH,Ej,Az,DN⟩:=dy pg h ht yC;obtain⟨c0,c1,c2,c3⟩:=Ej.cells;obtain rfl:f=q1:=(by rw[DH]at hf;injection hf with e9;exact e9.symm);obtain⟨x,hx⟩:=e_ l.pack;have e0:word (p.dat f) (num pg 1)=x:=(by rw[f3,Tab.on_one,ye,hx]);have E0:=wP e0;have KZ:=hw.prot l ye;have xD:=hw.few;have Bz:x<18446744073709551616:=(by rw[hx];have:=eR l KZ.1 o_;omega);have II:=fO Bz (by rw[hx];exact fZ l);obtain⟨xU,NB⟩:=zh2 xv BE;clear f3 hf xv h ht e0 hx ye DH BE GC;unfold wayA;rcases hk with⟨rfl,rfl⟩|⟨rfl,rfl⟩|⟨rfl,rfl⟩<;>(
  go_enter func126,ntmps126;go_upto_region 1 with(fail);rw[<-xU.o];go_wp2_with fail;refine(bR t c a root f _ w0 S p EG AH f1 f2 (ce pg _)).mono ?_;rintro e w1⟨rfl,xu⟩;rw[E0.o];go_wp2_with fail;refine(NB.o w1 (yT.trans (xu.mono (Nat.le_of_lt Az)))).mono ?_;rintro e w2⟨rfl,hR⟩;go_wp2_with fail;go_ret2;exact⟨rfl,w1,yT.trans (xu.mono (Nat.le_of_lt Az)),hR⟩)
theorem ld (hk:jY bt bl fid C){LV LW:Nat}{D E:Int}(hc:fg LV LW D E)(ih:nE fid C LW E):nE fid C LV D:=by
 intro t c a root f pg R w S p T h ht yC hw GC l q1 ye DH BE hf;obtain⟨f1,f2,f3⟩:=hw.node LV f (by have:=hc.nums;omega) (by have:=hc.nums;omega) hf;obtain⟨w0,xv,yT,EG,AH,Ej,Az,DN⟩:=dy pg h ht yC;obtain⟨c0,c1,c2,c3⟩:=Ej.cells;obtain⟨xU,IH⟩:=zh2 xv ih;obtain⟨g,hg⟩: ∃g,T.nd LW (part pg LW)=some g:=bC (GC LW (by have:=hc.nums;omega) (by have:=hc.nums;omega));obtain⟨g1,g2,_⟩:=hw.node LW g (by have:=hc.nums;omega) (by have:=hc.nums;omega) hg;have xD:=hw.few;obtain⟨x,hx⟩:=e_ (g*4096+1);have e0:=pU hc f3 hg;rw[<-hx]at e0;have E0:=wP e0;have Bz:x<18446744073709551616:=o_;have II:=fO Bz o_;obtain⟨Ht,HG,HU,HL,UF,NB⟩:=zh6 (show((x:Int)/4096)=(g:Int) by omega) hg GC ye DH BE;clear f3 hf xv h ht hg ih e0 hx GC ye DH BE;unfold wayA;rcases hk with⟨rfl,rfl⟩|⟨rfl,rfl⟩|⟨rfl,rfl⟩<;>rcases hc with⟨rfl,rfl,rfl,rfl⟩|⟨rfl,rfl,rfl,rfl⟩|⟨rfl,rfl,rfl,rfl⟩<;>(
  go_enter func126,ntmps126;go_upto_region 1 with(fail);rw[<-xU.o];go_wp2_with fail;refine(bR t c a root f _ w0 S p EG AH f1 f2 (ce pg _)).mono ?_;rintro e w1⟨rfl,xu⟩;rw[E0.o];have xQ:=xu.size;obtain⟨d0,d1,d2,d3⟩:=mi.cells ((xu.block _ Az).trans Ej);have Dm:al w1 t c a root:=(xu.block t DN).trans AH;clear c0 c1 c2 c3;go_wp2_with fail;rw[Ht.o];refine(IH.o t c a root g pg R w1 S p T (EG.below xu) Dm o_ hw HU.o l q1 HL.o UF.o (fun w5 Zn=>NB.o w5 (yT.trans ((xu.trans (Zn.mono xQ)).mono (Nat.le_of_lt Az)))) HG.o).mono ?_;rintro e w2⟨rfl,w5,xx,hR⟩;go_wp2_with fail;go_ret2;exact⟨rfl,w5,yT.trans ((xu.trans (xx.mono xQ)).mono (Nat.le_of_lt Az)),hR⟩)
theorem lc (hk:jY bt bl fid C):nE fid C 4 0:=ld hk (.inr (.inr ⟨rfl,rfl,rfl,rfl⟩)) (ld hk (.inr (.inl ⟨rfl,rfl,rfl,rfl⟩)) (ld hk (.inl ⟨rfl,rfl,rfl,rfl⟩) (vL hk)))
end
section
open Go.RowKit
def aq (l:Leaf):Array Value:= #[.int .i64 (l.frame:Int),.int .u8 (l.prot:Int),.bool l.copy]
def fu (w:World)(b t:Nat):Prop:=w.heap[b]? =some (.cells #[.pointer (some ⟨t,0,none⟩)] 77 (0,0))
def cP (w:World)(b:Nat)(l:Leaf):Prop:=w.heap[b]? =some (.cells #[.int .i64 (l.frame:Int),.int .u8 (l.prot:Int),.bool l.copy] 83 (0,0))
theorem keep2 {w w':World}{b o:Nat}{v:Value}(hb:Below w.heap.size w w')(h:w.cell? ⟨b,o,none⟩=some v/\b<w.heap.size):w'.cell? ⟨b,o,none⟩=some v/\b<w'.heap.size:=
 ⟨(hb.cell (p:=⟨b,o,none⟩) h.2).trans h.1,wW h.2 hb.size⟩
theorem find_cl (t c a root f k bt bl:Nat)(l0 l:Leaf)(w:World)(S:Nat->Prop)(p:Pool)(h:am w S a p)(ht:al w t c a root)(AP:fu w bt t)(Cz:cP w bl l0)(hf:f<p.n)(h1:1<=p.cnt f)(hk:k<512)
  (hw:word (p.dat f) k=l.pack)(h7:l.prot<=7)(hl:l.frame<1024):
  Calls prog 170 (#[.int .i64 (f:Int),.int .i64 (k:Int)]++ #[.pointer (some ⟨bt,0,none⟩),.pointer (some ⟨bl,0,none⟩)]) w fun e w'=>e= .returned (.bool false)/\(cP w' bl l/\Mod (fun b=>b=bl) w w'):=by
 have c0:w.cell? ⟨bt,0,none⟩=some (.pointer (some ⟨t,0,none⟩)):=aa AP 0;have AO:bl<w.heap.size:=(wO Cz).1;have HBL:=wP Cz;have Bz:l.pack<18446744073709551616:=(by have:=eR l h7 hl;omega);have AE:=eM l h7;obtain⟨Pc,HW⟩:=zh2 AE hw;clear AP Cz AE hw;show Calls prog 170 #[.int .i64 (f:Int),.int .i64 (k:Int),.pointer (some ⟨bt,0,none⟩),.pointer (some ⟨bl,0,none⟩)] w _;go_enter func170,ntmps170;go_wp2_with fail;refine(bR t c a root f k w S p h ht hf h1 hk).mono ?_;rintro e w1⟨rfl,xu⟩;rw[HW.o];go_wp2_with fail;refine(eN l.pack w1 Bz).mono ?_;rintro e w2⟨rfl,xx⟩;rw[Pc.o];have xQ:=xu.size;have xX:=xx.size;have yw:Below w.heap.size w w2:=xu.trans (xx.mono xQ);have Lk:cP w2 bl l0:=(yw.block bl AO).trans HBL.o;have x0:=aa Lk 0;have x1:=aa Lk 1;have x2:=aa Lk 2;have z0:=ae Lk 0;have z1:=ae Lk 1;have z2:=ae Lk 2;simp at x0 x1 x2;have Jq:=wP Lk;clear Lk;go_wp2_with fail;go_ret;refine⟨rfl,?_,(Mod.of yw).trans (Out.refl _ _) (((aj (S:=fun b=>b=bl) rfl _ _).trans (Out.refl _ _) (aj (S:=fun b=>b=bl) rfl _ _)).trans (Out.refl _ _) (aj (S:=fun b=>b=bl) rfl _ _))⟩;unfold cP;have:=Joins.block_setCell (i:=2) (Joins.block_setCell (i:=1) (Joins.block_setCell (i:=0) Jq.o (.int .i64 (l.frame:Int))) (.int .u8 (l.prot:Int))) (.bool l.copy);simpa using this
theorem mm (A:Int)(w:World)(h0:0<=A)(h1:A<18446744073709551616):
  Calls prog 125 #[.int .u64 A] w fun e w'=>e= .returned (wayA (A.toNat/4096))/\Below w.heap.size w w':=by
 obtain⟨a,rfl⟩:=Int.eq_ofNat_of_zero_le h0;rw[Int.toNat_natCast];exact way_any a w o_
theorem ms (t c a root:Nat)(A:Int)(V:Value)(w:World)(S:Nat->Prop)(p:Pool)(T:Tab)(h:am w S a p)(ht:al w t c a root)(yC:t<w.heap.size)(hw:Way p T (A.toNat/4096))(xL:T.lf (A.toNat/4096)=none)
  (hr:T.nd 4 (part (A.toNat/4096) 4)=some root)(AQ:0<=A)(hA:A<140737488355328):
  Calls prog 108 #[.pointer (some ⟨t,0,none⟩),.int .u64 A,V] w fun e w'=>e= .returned (.int .i64 6)/\Below w.heap.size w w':=by
 have c2:w.cell? ⟨t,2,none⟩=some (.int .i64 (root:Int)):=aa ht 2;obtain⟨HT,HP,HN,HR,HW⟩:=zh5 ht h xL hr hw;have Qx:A<18446744073709551616:=o_;have Zk:=wP Qx;clear ht h xL hr Qx hw;go_enter func108,ntmps108;go_wp2_with fail;refine(de t c a root _ HT.o).mono ?_;rintro e w1⟨rfl,rfl⟩;go_wp2_with fail;go_region_held3 (fun w'=>w'.cell? ⟨t,2,none⟩=some (.int .i64 (root:Int))/\t<w'.heap.size)
  ((first|(simp[*];done)|exact keep2 xx (by assumption)|exact keep2 xu (by assumption)))
  ((
   first
   |(go_at_call 125;refine(mm A _ AQ Zk.o).mono ?_;rintro e w1⟨rfl,xu⟩;have zO:Below w.heap.size w w1:=((xp w.heap.size w).drew).trans xu)
   |(go_at_call 126;refine(iE t c a root root (A.toNat/4096) V _ S p T (HP.o.below zO) ((zO.block t yC).trans HT.o) (wW yC zO.size) HW.o HN.o HR.o).mono ?_;rintro e w2⟨rfl,xx⟩)))
 have hB:Below w.heap.size w w2:=zO.trans (xx.mono zO.size);go_wp2_with fail;go_ret;exact⟨rfl,hB⟩
theorem pD (t c a root:Nat)(A:Int)(V:Value)(w:World)(ht:al w t c a root)(hA:140737488355328<=A):
  Calls prog 108 #[.pointer (some ⟨t,0,none⟩),.int .u64 A,V] w fun e w'=>e= .returned (.int .i64 1)/\w=w':=by
 have HT:=wP ht;clear ht;go_enter func108,ntmps108;go_wp2_with fail;refine(de t c a root _ HT.o).mono ?_;rintro e w1⟨rfl,rfl⟩;go_wp2_with fail;go_ret;exact⟨rfl,rfl⟩
theorem ug {bt bl:Nat}{fid:FuncId}{C:Array Value}(hk:jY bt bl fid C)(t c a root:Nat)(A:Int)(R:World->World->Prop)(w:World)(S:Nat->Prop)(p:Pool)(T:Tab)(h:am w S a p)(ht:al w t c a root)(yC:t<w.heap.size)(hw:Way p T (A.toNat/4096))(GC: ∀m,1<=m->m<=4->(T.nd m (part (A.toNat/4096) m)).isSome=true)(l:Leaf)(q1:Nat)(ye:T.lf (A.toNat/4096)=some l)(KX:T.nd 1 (part (A.toNat/4096) 1)=some q1)
  (BE: ∀w1,Below w.heap.size w w1->Calls prog fid (#[.int .i64 (q1:Int), .int .i64 ((num (A.toNat/4096) 1:Nat):Int)]++C) w1 fun e w2=>e= .returned (.bool false)/\R w1 w2)
  (hr:T.nd 4 (part (A.toNat/4096) 4)=some root)(AQ:0<=A)(hA:A<140737488355328):
  Calls prog 108 #[.pointer (some ⟨t,0,none⟩),.int .u64 A,.func (.func fid) #[] C] w fun e w'=>e= .returned (.int .i64 0)/\ ∃w1,Below w.heap.size w w1/\R w1 w':=by
 have c2:w.cell? ⟨t,2,none⟩=some (.int .i64 (root:Int)):=aa ht 2;obtain⟨HT,HP,HL,HQ,NB,HU,HR,HW⟩:=zh8 ht h ye KX BE GC hr hw;have Qx:A<18446744073709551616:=o_;obtain⟨Zk,HD⟩:=zh2 Qx (lc hk);clear ht h ye KX BE GC hr Qx hw;rcases hk with⟨rfl,rfl⟩|⟨rfl,rfl⟩|⟨rfl,rfl⟩<;>(
  go_enter func108,ntmps108;go_wp2_with fail;refine(de t c a root _ HT.o).mono ?_;rintro e w1⟨rfl,rfl⟩;go_wp2_with fail;go_region_with
   ((
    first
    |(go_at_call 125;refine(mm A _ AQ Zk.o).mono ?_;rintro e w1⟨rfl,xu⟩;have zO:Below w.heap.size w w1:=((xp w.heap.size w).drew).trans xu;have c2':w1.cell? ⟨t,2,none⟩=some (.int .i64 (root:Int)):=aa ((zO.block t yC).trans HT.o) 2)
    |(go_at_call 126;refine(HD.o t c a root root (A.toNat/4096) R _ S p T (HP.o.below zO) ((zO.block t yC).trans HT.o) (wW yC zO.size) HW.o HU.o l q1 HL.o HQ.o (fun w5 Zn=>NB.o w5 (zO.trans (Zn.mono zO.size))) HR.o).mono ?_;rintro e w2⟨rfl,w5,zJ,hR⟩)))
  all_goals
   go_wp2_with fail;go_ret;exact⟨rfl,w5,zO.trans (zJ.mono zO.size),hR⟩)
end
section
open Go.RowKit
def noLeaf:Leaf:=⟨0,0,false⟩
def cX (T:Tab)(A:Int):Leaf×Int:=if 140737488355328<=A then(noLeaf,1)else match T.lf (A.toNat/4096)with
 |some l=>(l,0)
 |none=>(noLeaf,6)
structure Tree (p:Pool)(T:Tab)(root:Nat):Prop where
 way: ∀pg,Way p T pg
 ups: ∀pg l,T.lf pg=some l-> ∀m,1<=m->m<=4->(T.nd m (part pg m)).isSome=true
 root:T.nd 4 0=some root
variable {p:Pool}{root:Nat}
theorem Tree.top {T:Tab}(h:Tree p T root){A:Int}(h0:0<=A)(hA:A<140737488355328):T.nd 4 (part (A.toNat/4096) 4)=some root:=by
 rw[iu _ o_];exact h.root
theorem Tab.Good.tree {t:Tab}{rest:Nat->Nat}{pg0:Nat}(h:t.Good p rest pg0 4)(hr:t.nd 4 0=some root):Tree p t root:=
 ⟨fun pg=>h.way pg,fun pg l hl m h1 h4=>h.ok.leafUp hl m h1 h4,hr⟩
def FindPost (w:World)(bl:Nat)(r:Leaf×Int)(e:Ending)(w':World):Prop:=e= .returned (.int .i64 r.2)/\cP w' bl r.1/\Mod (fun b=>b=bl) w w'
theorem tat_res (t c a root bt bl:Nat)(A:Int)(w:World)(S:Nat->Prop)(p:Pool)(T:Tab)(h:am w S a p)(ht:al w t c a root)(yC:t<w.heap.size)(hw:Tree p T root)(AQ:0<=A)
  (AP:fu w bt t)(Cz:cP w bl noLeaf):
  Calls prog 108 #[.pointer (some ⟨t,0,none⟩),.int .u64 A,.func (.func 170) #[] #[.pointer (some ⟨bt,0,none⟩),.pointer (some ⟨bl,0,none⟩)]] w (FindPost w bl (cX T A)):=by
 have Bt:bt<w.heap.size:=(wO AP).1;have KE:bl<w.heap.size:=(wO Cz).1;by_cases Ag:140737488355328<=A
 ·have hr:cX T A=(noLeaf,1):=(by unfold cX;rw[if_pos Ag]);rw[hr];exact(pD t c a root A _ w ht Ag).mono fun e w' ⟨he,yX⟩=>by
   subst yX;exact⟨he,Cz,Mod.refl _ _⟩
 ·have xw:A<140737488355328:=o_;have Dt:=hw.top AQ xw;have Gi:=hw.way (A.toNat/4096);cases ye:T.lf (A.toNat/4096)with
  |none=>
   have hr:cX T A=(noLeaf,6):=(by unfold cX;rw[if_neg Ag,ye]);rw[hr];exact(ms t c a root A _ w S p T h ht yC Gi ye Dt AQ xw).mono fun e w' ⟨he,hb⟩=>⟨he,(hb.block bl KE).trans Cz,Mod.of hb⟩
  |some l=>
   have hr:cX T A=(l,0):=(by unfold cX;rw[if_neg Ag,ye]);rw[hr];have AE:=hw.ups _ l ye;obtain⟨q1,KX⟩:=bC (AE 1 o_ o_);obtain⟨n1,n2,n3⟩:=Gi.node 1 q1 o_ o_ KX;obtain⟨p7,pf⟩:=Gi.prot l ye;have xD:=Gi.few;refine(ug (bt:=bt) (bl:=bl) (.inr (.inl ⟨rfl,rfl⟩)) t c a root A (fun w1 w2=>cP w2 bl l/\Mod (fun b=>b=bl) w1 w2) w S p T h ht yC Gi AE l q1 ye KX (fun w1 hb=>?_) Dt AQ xw).mono fun e w' ⟨he,w1,hb,xW,hm⟩=>⟨he,xW,(Mod.of hb).trans (Out.refl _ _) hm⟩;exact find_cl t c a root q1 (num (A.toNat/4096) 1) bt bl noLeaf l w1 S p (h.below hb) ((hb.block t yC).trans ht) ((hb.block bt Bt).trans AP) ((hb.block bl KE).trans Cz) n1 n2 (ce _ _) (by rw[n3,Tab.on_one,ye]) p7 o_
theorem uf (t c a root:Nat)(A:Int)(w:World)(S:Nat->Prop)(p:Pool)(T:Tab)(h:am w S a p)(ht:al w t c a root)(yC:t<w.heap.size)(hw:Tree p T root)(AQ:0<=A):
  Calls prog 156 #[.pointer (some ⟨t,0,none⟩),.int .u64 A] w
   fun e w'=>e= .returned (.tuple #[.agg (aq (cX T A).1),.int .i64 (cX T A).2])/\Below w.heap.size w w':=by
 obtain⟨HP,HT,HW⟩:=zh3 h ht hw;clear h ht;obtain⟨w0,xv⟩:=e_ ((((w.alloc (.cells #[.pointer (some ⟨t,0,none⟩)] 77)).alloc (.cells #[.int .i64 0,.int .u8 0,.bool false] 83)).alloc (.cells #[.int .i64 0,.int .u8 0,.bool false] 83)));have yT:Below w.heap.size w w0:=(by rw[xv];exact(wR.alloc s_ _).alloc t_ _);have CK:w0.heap.size=w.heap.size+1+1+1:=(by rw[xv];simp);have Ui:fu w0 w.heap.size t:=(by rw[xv];exact(wT _ _ _ t_).trans ((wT _ _ _ s_).trans (ab w _)));have AI:cP w0 (w.heap.size+1) noLeaf:=by
  rw[xv];have e:(w.alloc (.cells #[.pointer (some ⟨t,0,none⟩)] 77)).heap.size=w.heap.size+1:=s_;rw[<-e];exact(wT _ _ _ s_).trans (ab _ _)
 have Cp:cP w0 (w.heap.size+1+1) noLeaf:=by
  rw[xv];have e:((w.alloc (.cells #[.pointer (some ⟨t,0,none⟩)] 77)).alloc (.cells #[.int .i64 0,.int .u8 0,.bool false] 83)).heap.size=w.heap.size+1+1:=s_;rw[<-e];exact ab _ _
 have xJ:=tat_res t c a root w.heap.size (w.heap.size+1+1) A w0 S p T (HP.o.below yT) ((yT.block t yC).trans HT.o) o_ HW.o AQ Ui Cp;generalize hL:cX T A=r at *
 obtain⟨yc,Gf,Bp⟩:=zh3 xJ AI CK;have Az:w.heap.size+1<w0.heap.size:=o_;clear xJ AI Cp Ui hL CK;have xU:=wP xv;clear xv;go_enter func156,ntmps156;go_wp2_with fail;rw[<-xU.o];refine(yc.o).mono ?_;rintro e w2⟨rfl,xW,hm⟩;have xX:=hm.size;have Aj:cP w2 (w.heap.size+1) noLeaf:=(hm.block _ Az o_).trans Gf.o;have x0:w2.cell? ⟨w.heap.size+1+1,0,none⟩=some (.int .i64 (r.1.frame:Int)):=aa xW 0;have x1:w2.cell? ⟨w.heap.size+1+1,1,none⟩=some (.int .u8 (r.1.prot:Int)):=aa xW 1;have x2:w2.cell? ⟨w.heap.size+1+1,2,none⟩=some (.bool r.1.copy):=aa xW 2;have y0:w2.cell? ⟨w.heap.size+1,0,none⟩=some (.int .i64 0):=aa Aj 0;have y1:w2.cell? ⟨w.heap.size+1,1,none⟩=some (.int .u8 0):=aa Aj 1;have y2:w2.cell? ⟨w.heap.size+1,2,none⟩=some (.bool false):=aa Aj 2;have z0:=ae Aj 0;have z1:=ae Aj 1;have z2:=ae Aj 2;have xw:w.heap.size+1<w2.heap.size:=o_;clear xW Aj;have hB:Below w.heap.size w w2:=yT.trans (hm.below (fun b hb=>o_) o_);go_wp2_with fail;exact bodyPost_ret (v:= .tuple #[.agg (aq r.1),.int .i64 r.2]) (by simp[results,results156,go_sem,xw,y0,y1,y2,z0,z1,z2,aq]) rfl ⟨rfl,((hB.setCell (by show w.heap.size<=w.heap.size+1;omega) _).setCell (by show w.heap.size<=w.heap.size+1;omega) _).setCell (by show w.heap.size<=w.heap.size+1;omega) _⟩
end
section
open Go.RowKit
theorem up_cnt (p:Pool)(f g:Nat)(h:1<=p.cnt g):1<=(p.up f).cnt g:=by
 by_cases e:g=f
 ·subst e;simp only[Pool.up,af];omega
 ·simp only[Pool.up,ah _ _ e];exact h
variable {w:World}{S:Nat->Prop}
theorem am.drew {a:Nat}{p:Pool}(h:am w S a p):am w.drew S a p:=h.below ((xp _ _).drew)
variable {w':World}
theorem Mod.undrew (h:Mod S w.drew w'):Mod S w w':=⟨h.os,h.tape,h.output,h.size,h.block⟩
theorem bw {B:Nat}(h:Below B w.drew w'):Below B w w':=⟨h.os,h.tape,h.output,h.size,h.block⟩
theorem set_cl (t c a root f k bt bl:Nat)(l was:Leaf)(w:World)(S:Nat->Prop)(p:Pool)(h:am w S a p)(ht:al w t c a root)(Cc: ¬S t)(yC:t<w.heap.size)(AP:fu w bt t)(Cm: ¬S bt)(Cz:cP w bl l)(OM: ¬S bl)
  (hf:f<p.n)(h1:1<=p.cnt f)(hk:k<512)(hw:word (p.dat f) k=was.pack)(zu:was.prot<=7)(Ie:was.frame<p.n)(Oi:1<=p.cnt was.frame)(h7:l.prot<=7)(ye:l.frame<p.n)(DF:1<=p.cnt l.frame)(yA:p.cnt l.frame+1<1000000000000)(hn:p.n<=1024)
  (WJ:1<=((p.up l.frame).down was.frame).cnt f):
  Calls prog 116 (#[.int .i64 (f:Int),.int .i64 (k:Int)]++ #[.pointer (some ⟨bt,0,none⟩),.pointer (some ⟨bl,0,none⟩)]) w
   fun e w'=>e= .returned (.bool false)/\(am w' S a (((p.up l.frame).down was.frame).store f (aG (p.dat f) k l.pack))/\Mod S w w'):=by
 have c0:w.cell? ⟨bt,0,none⟩=some (.pointer (some ⟨t,0,none⟩)):=aa AP 0;have Bt:bt<w.heap.size:=(wO AP).1;have KE:bl<w.heap.size:=(wO Cz).1;have Bz:was.pack<18446744073709551616:=(by have:=eR was zu o_;omega);have PX:l.pack<18446744073709551616:=(by have:=eR l h7 o_;omega);obtain⟨Pc,HW,Pu,HBL,HT,HP⟩:=zh6 (eM was zu) hw AP Cz ht h;clear AP Cz hw h ht;show Calls prog 116 #[.int .i64 (f:Int),.int .i64 (k:Int),.pointer (some ⟨bt,0,none⟩),.pointer (some ⟨bl,0,none⟩)] w _;go_enter func116,ntmps116;go_wp2_with fail;refine(bR t c a root f k w S p HP.o HT.o hf h1 hk).mono ?_;rintro e w1⟨rfl,xu⟩;rw[HW.o];go_wp2_with fail;refine(eN was.pack w1 Bz).mono ?_;rintro e w2⟨rfl,xx⟩;rw[Pc.o];have xQ:=xu.size;have xX:=xx.size;go_upto_region 2 with(fail);obtain⟨w3,yU⟩:=e_ (w2.alloc (.cells #[.int .i64 (was.frame:Int),.int .u8 (was.prot:Int),.bool was.copy] 83));rw[<-yU];have EX:Below w.heap.size w w3:=(by rw[yU];exact(xu.trans (xx.mono xQ)).alloc o_ _);have CT:cP w3 w2.heap.size was:=(by rw[yU];exact ab _ _);have KW:w2.heap.size<w3.heap.size:=(by rw[yU];simp);have Ek:=HP.o.below EX;have Uf:al w3 t c a root:=(EX.block t yC).trans HT.o;have KK:fu w3 bt t:=(EX.block bt Bt).trans Pu.o;have SO:cP w3 bl l:=(EX.block bl KE).trans HBL.o;have hWS: ¬S w2.heap.size:=fun e=>by have:=HP.o.low _ e;omega
 clear yU c0;have d0:w3.cell? ⟨bt,0,none⟩=some (.pointer (some ⟨t,0,none⟩)):=aa KK 0;have d1:w3.cell? ⟨t,1,none⟩=some (.pointer (some ⟨a,0,none⟩)):=aa Uf 1;have d2:w3.cell? ⟨bl,0,none⟩=some (.int .i64 (l.frame:Int)):=aa SO 0;obtain⟨Pk,Pe,HPt3,HBl3,Fw⟩:=zh5 Ek Uf KK SO CT;clear Ek Uf KK SO CT
 go_still_tail 6,k_
 go_wp2_with fail;refine(up_yes a l.frame _ S p (Pk.o.drew) (by rw[bn];exact xh ⟨ye,DF⟩) yA).mono ?_;rintro e w4⟨rfl,OU,Mg⟩;have zl:=Mg.undrew;have CU:=zl.size;have hs4:w2.heap.size<w4.heap.size:=o_;have Ho:al w4 t c a root:=(zl.block t o_ Cc).trans Pe.o;have SD:fu w4 bt t:=(zl.block bt o_ Cm).trans HPt3.o;have XE:cP w4 bl l:=(zl.block bl o_ OM).trans HBl3.o;have Gr:cP w4 w2.heap.size was:=(zl.block _ KW hWS).trans Fw.o;clear d0 d1 d2 Mg;have d0:w4.cell? ⟨bt,0,none⟩=some (.pointer (some ⟨t,0,none⟩)):=aa SD 0;have d1:w4.cell? ⟨t,1,none⟩=some (.pointer (some ⟨a,0,none⟩)):=aa Ho 1;have d2:w4.cell? ⟨w2.heap.size,0,none⟩=some (.int .i64 (was.frame:Int)):=aa Gr 0;obtain⟨Pj,NZ,HPt4,HBl4⟩:=zh4 OU Ho SD XE;clear OU Ho SD XE Gr;go_upto_region 3 with(fail)
 go_still_tail 6,k_
 go_wp2_with fail;refine(du a was.frame _ S _ (Pj.o.drew) Ie (up_cnt p _ _ Oi)).mono ?_;rintro e w5⟨rfl,Lh,GR⟩;have yK:=GR.undrew;have Iw:=yK.size;have Ue:al w5 t c a root:=(yK.block t o_ Cc).trans NZ.o;have Xl:fu w5 bt t:=(yK.block bt o_ Cm).trans HPt4.o;have OX:cP w5 bl l:=(yK.block bl o_ OM).trans HBl4.o;clear d0 d1 d2 GR;have d0:w5.cell? ⟨bt,0,none⟩=some (.pointer (some ⟨t,0,none⟩)):=aa Xl 0;have d1:w5.cell? ⟨bl,0,none⟩=some (.int .i64 (l.frame:Int)):=aa OX 0;have d2:w5.cell? ⟨bl,1,none⟩=some (.int .u8 (l.prot:Int)):=aa OX 1;have d3:w5.cell? ⟨bl,2,none⟩=some (.bool l.copy):=aa OX 2;obtain⟨HP5,HT5⟩:=zh2 Lh Ue;have hbt5:bt<w5.heap.size:=o_;have hbl5:bl<w5.heap.size:=o_;clear Lh Ue Xl OX;go_upto_region 4 with(fail);go_region_with
  ((
   first
   |(go_at_call 118;refine(nN l _ h7 o_).mono ?_;rintro e w6⟨rfl,Dy⟩;have Bv:Below w5.heap.size w5 w6:=bw Dy;have d0':w6.cell? ⟨bt,0,none⟩=some (.pointer (some ⟨t,0,none⟩)):=(Bv.cell (p:=⟨bt,0,none⟩) hbt5).trans d0)
   |(go_at_call 112;refine(ib t c a root f k l.pack _ S _ (HP5.o.below Bv) ((Bv.block t o_).trans HT5.o) (by have:=Bv.size;omega) hf WJ hk PX).mono ?_;rintro e w7⟨rfl,ZI,yY⟩)))
 all_goals
  go_wp2_with fail;go_ret;exact⟨rfl,ZI,(Mod.of EX).trans (Out.refl _ _) (zl.trans (Out.refl _ _) (yK.trans (Out.refl _ _) ((Mod.of Bv).trans (Out.refl _ _) yY)))⟩
end
section
open Go.RowKit Go.Maps Go.WideMaps Go.Sort
open Go.ChangeMaps (setBlock)
variable {s t:Slot}
theorem Slot.kv_inj (h:s.kv=t.kv):s=t:=by
 have h1:keyV s.ino s.page=keyV t.ino t.page:=congrArg Prod.fst h;have h2:en s.frame s.asked=en t.frame t.asked:=congrArg Prod.snd h;rw[gm]at h1;unfold en at h2;simp at h2;obtain⟨a,b,c,d⟩:=s;obtain⟨a',b',c',d'⟩:=t;simp only at h1 h2;obtain⟨rfl,rfl⟩:=h1;obtain⟨h3,rfl⟩:=h2;have:c=c':=o_;subst this;rfl
variable {w:World}{m:Nat}{L left:List Slot}
theorem aS.mem {r:Nat}(h:aS w m r L left)(hs:s∈left):s∈L:=by
 obtain⟨t,ht,e⟩:=List.mem_map.1 (h.sub s hs);rw[<-Slot.kv_inj e];exact ht
theorem aR.sole (h:aR w m L):Sole L:=by
 obtain⟨es,yj,h1⟩:=h;exact h1.sole
theorem Sole.eq (h:Sole L)(hs:s∈L)(ht:t∈L)(he:s.ino=t.ino/\s.page=t.page):s=t:=by
 have h1:=ee h hs;rw[he.1,he.2,ee h ht]at h1;injection h1 with h1;exact h1.symm
def iO (p:Pool)(L left:List Slot)(found:Bool)(bi bp:Int):Prop:=
 (found=false/\ ∀s∈L,s∉left->bD p s.frame≠1)\/
 (found=true/\ ∃b∈L,b.ino=bi/\b.page=bp/\bD p b.frame=1/\ ∀s∈L,s∉left->bD p s.frame=1->b.asked<=s.asked)
theorem come (h:Sole L){x:Slot}(hs:s∈L)(hx:x∈L)(hn:x∉left.filter fun y=> !Slot.at s.ino s.page y):x∉left\/x=s:=by
 by_cases e:x∈left
 ·right;have:Slot.at s.ino s.page x=true:=by
   cases hc:Slot.at s.ino s.page x with
   |true=>rfl
   |false=>exact absurd (List.mem_filter.2 ⟨e,by rw[hc];rfl⟩) hn
  exact h.eq hx hs (Slot.at_iff.1 this)
 ·exact .inl e
theorem tF (p:Pool)(L:List Slot):iO p L L false 0 0:= .inl ⟨rfl,fun s h1 h2=>absurd h1 h2⟩
variable {p:Pool}{f:Bool}{bi bp:Int}
theorem vU (hL:Sole L)(h:iO p L left f bi bp)(hs:s∈L)(hl:bD p s.frame≠1):iO p L (left.filter fun y=> !Slot.at s.ino s.page y) f bi bp:=by
 rcases h with⟨h1,h2⟩|⟨h1,b,hb,h2,h3,h4,h5⟩
 ·refine .inl ⟨h1,fun x hx hn=>?_⟩;rcases come hL hs hx hn with h3|rfl
  ·exact h2 x hx h3
  ·exact hl
 ·refine .inr ⟨h1,b,hb,h2,h3,h4,fun x hx hn hc=>?_⟩;rcases come hL hs hx hn with h6|rfl
  ·exact h5 x hx h6 hc
  ·exact absurd hc hl
theorem vV (hL:Sole L){b:Slot}(hb:b∈L)(h:iO p L left true b.ino b.page)(hs:s∈L)(hl: ¬s.asked<b.asked):iO p L (left.filter fun y=> !Slot.at s.ino s.page y) true b.ino b.page:=by
 rcases h with⟨h1,_⟩|⟨h1,b',Le,h2,h3,h4,h5⟩
 ·cases h1
 ·obtain rfl:=hL.eq Le hb ⟨h2,h3⟩;refine .inr ⟨rfl,b',hb,h2,h3,h4,fun x hx hn hc=>?_⟩;rcases come hL hs hx hn with h6|rfl
  ·exact h5 x hx h6 hc
  ·omega
theorem rJ (hL:Sole L)(h:iO p L left f bi bp)(hs:s∈L)(hc:bD p s.frame=1)(hl:f=true-> ∃b∈L,b.ino=bi/\b.page=bp/\s.asked<b.asked):iO p L (left.filter fun y=> !Slot.at s.ino s.page y) true s.ino s.page:=by
 refine .inr ⟨rfl,s,hs,rfl,rfl,hc,fun x hx hn hcx=>?_⟩;rcases come hL hs hx hn with h6|rfl
 ·rcases h with⟨h1,h2⟩|⟨h1,b',Le,h2,h3,h4,h5⟩
  ·exact absurd hcx (h2 x hx h6)
  ·obtain⟨b,hb,e1,e2,e3⟩:=hl h1;obtain rfl:=hL.eq Le hb ⟨h2.trans e1.symm,h3.trans e2.symm⟩;have:=h5 x hx h6 hcx;omega
 ·omega
section
variable {ops:Array Oper}{rest:List Oper}{o:Oper}{a:Act}{w:World}{Q:Exit->Act->World->Prop}
theorem gW (hg:o.guard=none)(x:Operand)(Ig:o.op=Op.range 123 x)(m:Nat)(L:List Slot)(hx:a.eval x= .map (some m))(h:aR w m L)
  (hK: ∀w',aS w' m w.heap.size L L->Below w.heap.size w w'->w'.heap.size=w.heap.size+1->wpList prog ops Q rest (a.put o.dst (.pointer (some ⟨w.heap.size,0,none⟩))) w'):
  wpList prog ops Q (o::rest) a w:=by
 refine wpList_plain hg fun K' Uj=>?_;obtain⟨w',yL,r1,r2,r3⟩:=h.range;unfold Oper.wp;simp[execOp,Ig,hx,yL,Result.andThen];exact Uj _ _ (hK w' r1 r2 r3)
theorem iP (hg:o.guard=none)(it:Operand)(Ig:o.op=Op.next it false)(m r:Nat)(L left:List Slot)(hit:a.eval it= .pointer (some ⟨r,0,none⟩))(h:aS w m r L left)
  (XB:left=[]->wpList prog ops Q rest (a.put o.dst (.tuple #[.bool false])) w)
  (Xq: ∀(s:Slot) (w':World),s∈left->aS w' m r L (left.filter fun x=> !Slot.at s.ino s.page x)->Mod (fun j=>j=r) w w'->w'.heap.size=w.heap.size->
   (Instr.entry (.pointer (some ⟨r,0,none⟩))).run prog w'= .ok (.tuple #[.agg #[.int .i64 s.ino, .int .i64 s.page], .agg #[.int .i64 (s.frame:Int), .int .i64 s.asked]]) w'->
   wpList prog ops Q rest (a.put o.dst (.tuple #[.bool true, .agg #[.int .i64 s.ino, .int .i64 s.page], .agg #[.int .i64 (s.frame:Int), .int .i64 s.asked]])) w'):
  wpList prog ops Q (o::rest) a w:=by
 refine wpList_plain hg fun K' Uj=>?_;unfold Oper.wp;rcases h.next o.type with⟨h0,yL⟩|⟨s,w',hs,yL,h1,h2,h3,h4⟩
 ·simp[execOp,Ig,hit,yL,Result.andThen];exact Uj _ _ (XB h0)
 ·simp[execOp,Ig,hit,yL,Result.andThen];exact Uj _ _ (Xq s w' hs h1 h2 h3 h4)
end
variable {w:World}
theorem aR.lookS {m:Nat}{L:List Slot}(h:aR w m L){b:Slot}(hb:b∈L):(Instr.lookup 123 (.map (some m)) (.agg #[.int .i64 b.ino,.int .i64 b.page]) false).run prog w= .ok (.agg #[.int .i64 (b.frame:Int),.int .i64 b.asked]) w:=by
 have hs:=h.sole;obtain⟨es,yj,h1⟩:=h;have h2:=h1.look (h1.wf b hb).1 (h1.wf b hb).2 false;have h3:=ee hs hb;generalize L.find? (Slot.at b.ino b.page)=o at h2 h3;subst h3;exact h2
theorem tg (x y:Value)(W:World):(Instr.field 129 (.agg #[x,y]) 1).run prog W= .ok y W:=k_
theorem tf (x y:Value)(W:World):(Instr.field 129 (.agg #[x,y]) 0).run prog W= .ok x W:=k_
theorem tX {b:Nat}{x y x' y':Value}{t:TypeId}(h:w.heap[b]? =some (.cells #[x,y] t (0,0))):((w.setCell ⟨b,0,none⟩ x').setCell ⟨b,1,none⟩ y').heap[b]? =some (.cells #[x',y'] t (0,0)):=by
 have h1:=Joins.block_setCell (i:=0) h x';have h2:=Joins.block_setCell (i:=1) h1 y';simpa using h2
theorem cL (w:World)(b:Nat)(x y:Value):Mod (fun j=>j=b) w ((w.setCell ⟨b,0,none⟩ x).setCell ⟨b,1,none⟩ y):=(aj (S:=fun j=>j=b) (b:=b) rfl 0 x).trans (Out.refl _ _) (aj (S:=fun j=>j=b) (b:=b) rfl 1 y)
def aN (w:World)(c a fs m:Nat)(clock:Int):Prop:=w.heap[c]? =some (.cells #[.pointer (some ⟨a,0,none⟩),.pointer (some ⟨fs,0,none⟩),.map (some m),.int .i64 clock] 125 (0,0))
theorem sN (c a fs m:Nat)(clock:Int)(w:World)(S:Nat->Prop)(p:Pool)(L:List Slot)(h:am w S a p)(hc:aN w c a fs m clock)(hL:aR w m L):
  Calls prog 148 #[.pointer (some ⟨c,0,none⟩)] w fun e w'=> ∃found bi bp,e= .returned (.tuple #[.agg #[.int .i64 bi,.int .i64 bp],.bool found])/\iO p L [] found bi bp/\Below w.heap.size w w':=by
 have ZA:c<w.heap.size:=(wO hc).1;have VU:=hL.lt;have JT:=hL.sole;obtain⟨w0,xv⟩:=e_ ((w.alloc (.cells #[.int .i64 0,.int .i64 0] 127)).alloc (.cells #[.int .i64 0,.int .i64 0] 127));have yT:Below w.heap.size w w0:=(by rw[xv];exact wR.alloc s_ _);have CK:w0.heap.size=w.heap.size+1+1:=(by rw[xv];simp);have AI:w0.heap[w.heap.size]? =some (.cells #[.int .i64 0,.int .i64 0] 127 (0,0)):=(by rw[xv];exact(wT _ _ _ s_).trans (ab w _));have ZJ:w0.heap[w.heap.size+1]? =some (.cells #[.int .i64 0,.int .i64 0] 127 (0,0)):=by
  rw[xv];have e:(w.alloc (.cells #[.int .i64 0,.int .i64 0] 127)).heap.size=w.heap.size+1:=s_;rw[<-e];exact ab _ _
 have hC0:aN w0 c a fs m clock:=(yT.block c ZA).trans hc;have Cp:aR w0 m L:=hL.same (yT.block m VU);have c2:w0.cell? ⟨c,2,none⟩=some (.map (some m)):=aa hC0 2;obtain⟨HC,HP,xU,Gf,UC,HS,Jr⟩:=zh7 hc h xv AI ZJ CK Cp;clear xv h hc hL AI ZJ hC0 Cp;go_enter func148,ntmps148;go_upto_region 3 with(fail);rw[<-xU.o];go_wp2_with (first
  |(at_range;refine gW rfl _ rfl m L rfl Jr.o ?_;intro w1 Oo xu CY;rw[HS.o]at Oo CY⊢;go_frame)
  |fail)
 go_loopw [5] (fun v wr=> ∃left found bi bp,v= .bool found/\aS wr m (w.heap.size+1+1) L left/\iO p L left found bi bp/\Below w.heap.size w wr/\(w.heap.size+1+1)<wr.heap.size/\wr.heap[w.heap.size]? =some (.cells #[.int .i64 0,.int .i64 0] 127 (0,0))/\wr.heap[w.heap.size+1]? =some (.cells #[.int .i64 bi,.int .i64 bp] 127 (0,0)))
  (fun _ wr=>leftN wr m (w.heap.size+1+1))
 case atStart=>
  have h9:=HS.o;exact⟨L,false,0,0,rfl,Oo,tF p L,yT.trans (xu.mono yT.size),o_,(xu.block _ o_).trans Gf.o,(xu.block _ o_).trans UC.o⟩
 case round=>
  obtain⟨left,found,bi,bp,rfl,GI,Fp,hb,xw,hR,hK⟩:=hrel;obtain⟨AD,HR,HK⟩:=zh3 Fp hR hK;clear Fp hR hK;go_wp2_with (first
   |(at_next;refine iP rfl _ rfl m (w.heap.size+1+1) L left rfl GI ?_ ?_)
   |fail)
  ·intro AM;subst AM;have x0:wr.cell? ⟨w.heap.size+1,0,none⟩=some (.int .i64 bi):=aa HK.o 0;have x1:wr.cell? ⟨w.heap.size+1,1,none⟩=some (.int .i64 bp):=aa HK.o 1;have y0:wr.cell? ⟨w.heap.size,0,none⟩=some (.int .i64 0):=aa HR.o 0;have y1:wr.cell? ⟨w.heap.size,1,none⟩=some (.int .i64 0):=aa HR.o 1;have z0:=ae HR.o 0;have z1:=ae HR.o 1;have AL:w.heap.size<wr.heap.size:=(by have:=HS.o;omega);go_wp2_with fail;exact bodyPost_ret (v:= .tuple #[.agg #[.int .i64 bi,.int .i64 bp],.bool found]) (by simp[results,results148,go_sem,AL,y0,y1,z0,z1]) rfl ⟨found,bi,bp,rfl,AD.o,(hb.setCell (wS _) _).setCell (wS _) _⟩
  ·intro s w1 hs Oo zn CY hen;obtain⟨HRG1,HEN⟩:=zh2 Oo hen;have CN:=GI.mem hs;have yM:=GI.lt;go_upto_region 6 with(fail);have xu:Below w.heap.size w w1:=hb.trans (zn.below (fun b e=>by have:=HS.o;omega) hb.size);obtain⟨w2,yl⟩:=e_ ((w1.alloc (.cells #[.int .i64 s.ino,.int .i64 s.page] 127)).alloc (.cells #[.int .i64 (s.frame:Int),.int .i64 s.asked] 129));rw[<-yl];have ML:Below w1.heap.size w1 w2:=(by rw[yl];exact wR.alloc s_ _);have yw:Below w.heap.size w w2:=xu.trans (ML.mono xu.size);have Cx:w2.heap.size=wr.heap.size+1+1:=(by rw[yl];simp[CY]);have Ec:w2.heap[wr.heap.size]? =some (.cells #[.int .i64 s.ino,.int .i64 s.page] 127 (0,0)):=(by rw[yl,<-CY];exact(wT _ _ _ s_).trans (ab w1 _));have Zx:w2.heap[wr.heap.size+1]? =some (.cells #[.int .i64 (s.frame:Int),.int .i64 s.asked] 129 (0,0)):=by
    rw[yl,<-CY];have e:(w1.alloc (.cells #[.int .i64 s.ino,.int .i64 s.page] 127)).heap.size=w1.heap.size+1:=s_;rw[<-e];exact ab _ _
   have Ft:aN w2 c a fs m clock:=(yw.block c ZA).trans HC.o;have Aj:=(ML.block w.heap.size o_).trans ((zn.block w.heap.size (by have:=HS.o;omega) (by have:=HS.o;omega)).trans HR.o);have Ca:=(ML.block (w.heap.size+1) o_).trans ((zn.block (w.heap.size+1) (by have:=HS.o;omega) (by have:=HS.o;omega)).trans HK.o);have Vx:aS w2 m (w.heap.size+1+1) L (left.filter fun x=> !Slot.at s.ino s.page x):=HRG1.o.same (ML.block m o_) (ML.block _ o_);have d0: ∀d os,(grow (redrawn w2 d) os).cell? ⟨c,0,none⟩=some (.pointer (some ⟨a,0,none⟩)):=fun d os=>cell_regrown (aa Ft 0) d os;have d1: ∀d os,(grow (redrawn w2 d) os).cell? ⟨wr.heap.size+1,0,none⟩=some (.int .i64 (s.frame:Int)):=fun d os=>cell_regrown (aa Zx 0) d os;have CC:=fun d os=>Calls.regrown_of ((iG a (s.frame:Int) (grow (redrawn w2 d) os) S p ((HP.o.below yw).below (below_regrown w2 d os))).mono fun _ _ ⟨h1,h2⟩=>⟨h1,h2▸xp _ _⟩);obtain⟨HCt,zU,EZ,It,Hk2,Hh2,HRG2,Nc⟩:=zh8 CC Ft Aj Ca Ec Zx Vx Cx;clear yl CC Ft Aj Ca Ec Zx Vx Cx;refine wp_region_quiet_below k_ k_ ?_;(repeat(go_big_quiet_step ((exact HCt.o _ _))));refine wpQuiet_nil ?_;intro _ yX;obtain⟨⟨dq,osq⟩,hw''⟩:=yX;subst hw'';have xR:=below_regrown (w2) dq osq;generalize grow (redrawn (w2) dq) osq=wq at xR⊢;clear d0 d1;have Ib:=xR.size;have Cx:=Nc.o;have DJ:aN wq c a fs m clock:=(xR.block c o_).trans zU.o;have FW:=(xR.block w.heap.size o_).trans EZ.o;have JV:=(xR.block (w.heap.size+1) o_).trans It.o;have Il:=(xR.block wr.heap.size o_).trans Hk2.o;have hh3:=(xR.block (wr.heap.size+1) o_).trans Hh2.o;have LN:aS wq m (w.heap.size+1+1) L (left.filter fun x=> !Slot.at s.ino s.page x):=HRG2.o.same (xR.block m o_) (xR.block _ o_);have EX:=yw.trans (xR.mono yw.size);have Dh:(left.filter fun x=> !Slot.at s.ino s.page x).length<left.length:=by
    exact List.length_filter_lt_length_iff_exists.2 ⟨s,hs,by simp[Slot.at]⟩
   have hltq:w.heap.size+1+1<wq.heap.size:=o_;clear Cx;by_cases hl:bD p (s.frame:Int)=1
   ·have JH:(((bD p (s.frame:Int):Nat):Int) != 1)=false:=(by rw[hl];rfl);have D0: ∀d os,(grow (redrawn wq d) os).cell? ⟨c,2,none⟩=some (.map (some m)):=fun d os=>cell_regrown (aa DJ 2) d os;have D1: ∀d os,(grow (redrawn wq d) os).cell? ⟨wr.heap.size+1,1,none⟩=some (.int .i64 s.asked):=fun d os=>cell_regrown (aa hh3 1) d os;have D2: ∀d os,(grow (redrawn wq d) os).cell? ⟨w.heap.size+1,0,none⟩=some (.int .i64 bi):=fun d os=>cell_regrown (aa JV 0) d os;have D3: ∀d os,(grow (redrawn wq d) os).cell? ⟨w.heap.size+1,1,none⟩=some (.int .i64 bp):=fun d os=>cell_regrown (aa JV 1) d os;have hqw:wr.heap.size<wq.heap.size:=(by have:=Nc.o;omega);have hnew: ∀w',Below wq.heap.size wq w'->aS w' m (w.heap.size+1+1) L (left.filter fun x=> !Slot.at s.ino s.page x)/\Below w.heap.size w w'/\w.heap.size+1+1<w'.heap.size/\w'.heap[w.heap.size]? =some (.cells #[.int .i64 0,.int .i64 0] 127 (0,0))/\w'.heap[w.heap.size+1]? =some (.cells #[.int .i64 bi,.int .i64 bp] 127 (0,0))/\w'.heap[wr.heap.size]? =some (.cells #[.int .i64 s.ino,.int .i64 s.page] 127 (0,0)):=fun w' hm=>⟨LN.same (hm.block m o_) (hm.block _ o_),EX.trans (hm.mono o_),by have:=hm.size;omega,(hm.block _ o_).trans FW,(hm.block _ o_).trans JV,(hm.block _ o_).trans Il⟩;have PT:=LN.slots;obtain⟨Ai,Jn⟩:=zh2 hnew PT;clear Il hh3 DJ JV FW LN hnew PT;cases found with
    |false=>
     go_upto_region 7 with(fail);refine wp_region_quiet_below k_ k_ ?_;(repeat(go_big_quiet_step ((fail))));refine wpQuiet_nil ?_;intro _ yX;obtain⟨⟨dq,osq⟩,hw''⟩:=yX;subst hw'';have Bu:=below_regrown (wq) dq osq;generalize grow (redrawn (wq) dq) osq=w7 at Bu⊢;clear D0 D1 D2 D3;obtain⟨g1,g2,g3,g4,g5,g6⟩:=Ai.o _ Bu;have k0:w7.cell? ⟨wr.heap.size,0,none⟩=some (.int .i64 s.ino):=aa g6 0;have k1:w7.cell? ⟨wr.heap.size,1,none⟩=some (.int .i64 s.page):=aa g6 1;have b0:w7.cell? ⟨w.heap.size+1,0,none⟩=some (.int .i64 bi):=aa g5 0;have b1:w7.cell? ⟨w.heap.size+1,1,none⟩=some (.int .i64 bp):=aa g5 1;have f0:=ae g5 0;have f1:=ae g5 1;obtain⟨G1,G4,G5⟩:=zh3 g1 g4 g5;clear g1 g4 g5 g6;go_wp2_with fail;go_roundw
     case rel=>exact⟨_,true,s.ino,s.page,rfl,G1.o.same ((cL _ _ _ _).block m o_ o_) ((cL _ _ _ _).block _ o_ o_),rJ JT AD.o CN hl (fun e=>by cases e),g2.trans ((cL _ _ _ _).below (fun b e=>o_) o_),by have:=(cL w7 (w.heap.size+1) (.int .i64 s.ino) (.int .i64 s.page)).size;omega,((cL _ _ _ _).block _ o_ o_).trans G4.o,tX G5.o⟩
     case measure=>rw[(G1.o.same ((cL _ _ _ _).block m o_ o_) ((cL _ _ _ _).block _ o_ o_)).leftN,GI.leftN];exact Dh
    |true=>
     rcases AD.o with⟨h9,_⟩|⟨_,b,Ja,rfl,rfl,Ss,hbo⟩
     ·cases h9
     have Bd: ∀d os,(Instr.lookup 123 (.map (some m)) (.agg #[.int .i64 b.ino,.int .i64 b.page]) false).run prog (grow (redrawn wq d) os)= .ok (.agg #[.int .i64 (b.frame:Int),.int .i64 b.asked]) (grow (redrawn wq d) os):=fun d os=>(Jn.o.same ((below_regrown wq d os).block m o_)).lookS Ja;have yO:=tg (.int .i64 (b.frame:Int)) (.int .i64 b.asked);by_cases JG:s.asked<b.asked
     ·have hd:decide (s.asked<b.asked)=true:=xh JG;go_upto_region 7 with(fail);refine wp_region_quiet_below k_ k_ ?_;(repeat(go_big_quiet_step ((fail))));refine wpQuiet_nil ?_;intro _ yX;obtain⟨⟨dq,osq⟩,hw''⟩:=yX;subst hw'';have Bu:=below_regrown (wq) dq osq;generalize grow (redrawn (wq) dq) osq=w7 at Bu⊢;clear D0 D1 D2 D3;obtain⟨g1,g2,g3,g4,g5,g6⟩:=Ai.o _ Bu;have k0:w7.cell? ⟨wr.heap.size,0,none⟩=some (.int .i64 s.ino):=aa g6 0;have k1:w7.cell? ⟨wr.heap.size,1,none⟩=some (.int .i64 s.page):=aa g6 1;have b0:w7.cell? ⟨w.heap.size+1,0,none⟩=some (.int .i64 b.ino):=aa g5 0;have b1:w7.cell? ⟨w.heap.size+1,1,none⟩=some (.int .i64 b.page):=aa g5 1;have f0:=ae g5 0;have f1:=ae g5 1;obtain⟨G1,G4,G5⟩:=zh3 g1 g4 g5;clear g1 g4 g5 g6;go_wp2_with fail;go_roundw
      case rel=>exact⟨_,true,s.ino,s.page,rfl,G1.o.same ((cL _ _ _ _).block m o_ o_) ((cL _ _ _ _).block _ o_ o_),rJ JT AD.o CN hl (fun e=>⟨b,Ja,rfl,rfl,JG⟩),g2.trans ((cL _ _ _ _).below (fun b e=>o_) o_),by have:=(cL w7 (w.heap.size+1) (.int .i64 s.ino) (.int .i64 s.page)).size;omega,((cL _ _ _ _).block _ o_ o_).trans G4.o,tX G5.o⟩
      case measure=>rw[(G1.o.same ((cL _ _ _ _).block m o_ o_) ((cL _ _ _ _).block _ o_ o_)).leftN,GI.leftN];exact Dh
     ·have hd:decide (s.asked<b.asked)=false:=xg JG;go_upto_region 7 with(fail);refine wp_region_quiet_below k_ k_ ?_;(repeat(go_big_quiet_step ((fail))));refine wpQuiet_nil ?_;intro _ yX;obtain⟨⟨dq,osq⟩,hw''⟩:=yX;subst hw'';have Bu:=below_regrown (wq) dq osq;generalize grow (redrawn (wq) dq) osq=w7 at Bu⊢;clear D0 D1 D2 D3;obtain⟨g1,g2,g3,g4,g5,g6⟩:=Ai.o _ Bu;obtain⟨G1,G4,G5⟩:=zh3 g1 g4 g5;clear g1 g4 g5 g6;go_wp2_with fail;go_roundw
      case rel=>exact⟨_,true,b.ino,b.page,rfl,G1.o,vV JT Ja AD.o CN JG,g2,g3,G4.o,G5.o⟩
      case measure=>rw[G1.o.leftN,GI.leftN];exact Dh
   ·have JH:(((bD p (s.frame:Int):Nat):Int) != 1)=true:=(by rw[bne_iff_ne];omega);obtain⟨Ns,KQ,Yk⟩:=zh3 JV FW LN;clear Il hh3 DJ JV FW LN;go_wp2_with fail;go_roundw
    case rel=>exact⟨_,found,bi,bp,rfl,Yk.o,vU JT AD.o CN hl,EX,hltq,KQ.o,Ns.o⟩
    case measure=>rw[Yk.o.leftN,GI.leftN];exact Dh
end
section
open Go.RowKit Go.Maps Go.WideMaps Go.Sort
open Go.ChangeMaps (setBlock)
structure au (w:World)(S:Nat->Prop)(c a fs m:Nat)(clock:Int)(p:Pool)(L:List Slot):Prop where
 pool:am w S a p
 self:aN w c a fs m clock
 slots:aR w m L
 noC: ¬S c
 noM: ¬S m
variable {w:World}{S:Nat->Prop}{c a fs m:Nat}{clock:Int}{p:Pool}{L:List Slot}
theorem au.lts (h:au w S c a fs m clock p L):c<w.heap.size/\m<w.heap.size/\c≠m/\m≠0:=by
 have h1:c<w.heap.size:=(wO h.self).1;refine⟨h1,h.slots.lt,fun e=>?_,fun e=>?_⟩
 ·obtain⟨es,yj,h2⟩:=h.slots;have h3:=h2.block;have h4:=h.self;unfold aN at h4;rw[<-e,h4]at h3;cases h3
 ·obtain⟨es,yj,h2⟩:=h.slots;have h3:=h2.block;have h4:=h.pool.tab 0 d_;unfold World.cell? at h4;rw[e]at h3;simp[h3]at h4
variable {w':World}
theorem au.mod {T:Nat->Prop}(h:au w S c a fs m clock p L)(hm:Mod T w w')(hS: ∀b,S b-> ¬T b)(h0: ¬T 0)(hc: ¬T c)(EC: ¬T m):au w' S c a fs m clock p L:=
 ⟨h.pool.mod hm hS h0,(hm.block c h.lts.1 hc).trans h.self,h.slots.same (hm.block m h.lts.2.1 EC),h.noC,h.noM⟩
theorem au.below (h:au w S c a fs m clock p L)(hb:Below w.heap.size w w'):au w' S c a fs m clock p L:=
 ⟨h.pool.below hb,(hb.block c h.lts.1).trans h.self,h.slots.same (hb.block m h.lts.2.1),h.noC,h.noM⟩
theorem au.turn {S':Nat->Prop}{p':Pool}(h:au w S c a fs m clock p L)(hm:Mod S w w')(hp:am w' S' a p')(ho:Out S S' w):au w' S' c a fs m clock p' L:=
 ⟨hp,(hm.block c h.lts.1 h.noC).trans h.self,h.slots.same (hm.block m h.lts.2.1 h.noM),fun e=>by
  rcases ho c e with h1|h1
  ·exact h.noC h1
  ·have:=h.lts.1;omega,fun e=>by
  rcases ho m e with h1|h1
  ·exact h.noM h1
  ·have:=h.lts.2.1;omega⟩
def Both (S:Nat->Prop)(m:Nat):Nat->Prop:=fun b=>S b\/b=m
inductive aw (p:Pool)(L:List Slot):Int->Nat->Pool->List Slot->Prop
 |free (f:Nat):p.lowest=some f->aw p L 0 f (p.takeAt f) L
 |loose (s:Slot):p.lowest=none->s∈L->s.frame<p.n->p.cnt s.frame=1->(∀t∈L,bD p t.frame=1->s.asked<=t.asked)->aw p L 0 s.frame ((p.down s.frame).takeAt s.frame) (L.filter fun x=> !Slot.at s.ino s.page x)
 |none:p.lowest=none->(∀t∈L,bD p t.frame≠1)->aw p L 4 0 p L
def wL (w:World)(S:Nat->Prop)(c a fs m:Nat)(clock:Int)(p:Pool)(L:List Slot)(e:Ending)(w':World):Prop:=
 ∃r f p' L' S',e= .returned (.tuple #[.int .i64 (f:Nat),.int .i64 r])/\au w' S' c a fs m clock p' L'/\Mod (Both S m) w w'/\Out S S' w/\aw p L r f p' L'
variable {g:Nat}
theorem tC (h:bD p (g:Int)=1):g<p.n/\p.cnt g=1:=by
 unfold bD at h;by_cases h1:ev p (g:Int)=true
 ·rw[if_pos h1,Int.toNat_natCast]at h;rw[bn]at h1;exact⟨(xi h1).1,h⟩
 ·rw[if_neg h1]at h;cases h
theorem pX (h:p.lowest=none)(hg:g<p.n)(h1:p.cnt g=1):(p.down g).lowest=some g:=by
 have hn:=cB h;refine oF hg ?_ fun x hx=>?_
 ·simp only[Pool.down,af];omega
 ·simp only[Pool.down,ah _ _ (show x≠g by omega)];exact hn x o_
theorem gJ {ops:Array Oper}{rest:List Oper}{o:Oper}{A:Act}{Q:Exit->Act->World->Prop}(hg:o.guard=none)(x y:Operand)(Ig:o.op=Op.call { callee:=Callee.builtin Builtin.delete,args:= #[x,y],argTypes:= #[123,127]})
  (m:Nat)(L:List Slot)(s:Slot)(hx:A.eval x= .map (some m))(hy:A.eval y= .agg #[.int .i64 s.ino, .int .i64 s.page])(h:aR w m L)(hs:s∈L)
  (hK: ∀w',aR w' m (L.filter fun x=> !Slot.at s.ino s.page x)->Mod (fun j=>j=m) w w'->w'.heap.size=w.heap.size->wpList prog ops Q rest (A.put o.dst (.tuple #[])) w'):
  wpList prog ops Q (o::rest) A w:=by
 refine wpList_plain hg fun K' Uj=>?_;obtain⟨es,yj,h1⟩:=h;obtain⟨es',yL,h2⟩:=h1.drop hs o.type;have Vp:(Builtin.delete_ #[123,127] o.type #[.map (some m),.agg #[.int .i64 s.ino,.int .i64 s.page]]).run prog w= .ok (.tuple #[]) (setBlock w m (.map es' yj)):=yL;unfold Oper.wp;simp[execOp,Ig,resolve,invoke,builtin,hx,hy,Vp,Result.andThen];exact Uj _ _ (hK _ ⟨es',yj,h2⟩ fz eP)
theorem fL (c a fs m:Nat)(clock:Int)(w:World)(S:Nat->Prop)(p:Pool)(L:List Slot)(h:au w S c a fs m clock p L):
  Calls prog 97 #[.pointer (some ⟨c,0,none⟩)] w (wL w S c a fs m clock p L):=by
 obtain⟨ZA,VU,Sh,GS⟩:=h.lts;have c0:w.cell? ⟨c,0,none⟩=some (.pointer (some ⟨a,0,none⟩)):=aa h.self 0;have H:=wP h;clear h;cases hl:p.lowest with
 |some g=>
  have HL:=wP hl;clear hl;go_enter func97,ntmps97;go_wp2_with fail;refine(nP a g w S p H.o.pool HL.o).mono ?_;rintro e w1⟨rfl,S',EF,zn,yJ⟩;go_wp2_with fail;go_ret2;exact⟨0,g,_,L,S',rfl,H.o.turn zn EF yJ,zn.sub fun b hb=> .inl hb,yJ,.free g HL.o⟩
 |none=>
  have HL:=wP hl;clear hl;go_enter func97,ntmps97;go_wp2_with fail;refine(uj a w S p H.o.pool HL.o).mono ?_;rintro e w1⟨rfl,rfl⟩;go_wp2_with fail;refine(sN c a fs m clock w S p L H.o.pool H.o.self H.o.slots).mono ?_;rintro e w2⟨found,bi,bp,rfl,Fp,xx⟩;cases found with
  |false=>
   have HB:=wP Fp;clear Fp;go_wp2_with fail;go_ret2;rcases HB.o with⟨_,h2⟩|⟨h1,_⟩
   ·exact⟨4,0,p,L,S,rfl,H.o.below (xx.alloc xx.size _),Mod.of (xx.alloc xx.size _),Out.refl _ _,.none HL.o fun t ht=>h2 t ht s_⟩
   ·cases h1
  |true=>
   rcases Fp with⟨h9,_⟩|⟨_,s,hs,rfl,rfl,zT,Kr⟩
   ·cases h9
   go_upto_region 9 with(fail);obtain⟨KV,CY⟩:=tC zT;have PQ: ∀t∈L,bD p t.frame=1->s.asked<=t.asked:=fun t ht h2=>Kr t ht s_ h2;obtain⟨w3,yU⟩:=e_ (w2.alloc (.cells #[.int .i64 s.ino,.int .i64 s.page] 127));rw[<-yU];have EX:Below w.heap.size w w3:=(by rw[yU];exact xx.alloc xx.size _);have Il:w3.heap[w2.heap.size]? =some (.cells #[.int .i64 s.ino,.int .i64 s.page] 127 (0,0)):=(by rw[yU];exact ab _ _);have KW:w2.heap.size<w3.heap.size:=(by rw[yU];simp);have xX:=xx.size;have DJ:=H.o.below EX;have d0:w3.cell? ⟨c,0,none⟩=some (.pointer (some ⟨a,0,none⟩)):=aa DJ.self 0;have d1:w3.cell? ⟨c,2,none⟩=some (.map (some m)):=aa DJ.self 2;have d2:w3.cell? ⟨w2.heap.size,0,none⟩=some (.int .i64 s.ino):=aa Il 0;have d3:w3.cell? ⟨w2.heap.size,1,none⟩=some (.int .i64 s.page):=aa Il 1;have Bd:=(DJ.slots.same (w':=w3.drew) rfl).lookS hs;have yO:=tf (.int .i64 (s.frame:Int)) (.int .i64 s.asked);have hkS: ¬S w2.heap.size:=fun e=>by have:=H.o.pool.low _ e;omega
   obtain⟨Jv,Ns,HMIN,HS⟩:=zh4 DJ Il PQ hs;clear yU DJ Il Kr PQ c0 hs
   go_still_tail 11,k_
   go_wp2_with fail;refine(du a s.frame _ S p (Jv.o.pool.drew) KV o_).mono ?_;rintro e w4⟨rfl,OU,Mg⟩;have zl:=Mg.undrew;have CU:=zl.size;have Fs:=Jv.o.turn zl OU (Out.refl _ _);have Dj:=(zl.block _ KW hkS).trans Ns.o;clear d0 d1 d2 d3 Bd yO Mg;have d1:w4.cell? ⟨c,2,none⟩=some (.map (some m)):=aa Fs.self 2;have d2:w4.cell? ⟨w2.heap.size,0,none⟩=some (.int .i64 s.ino):=aa Dj 0;have d3:w4.cell? ⟨w2.heap.size,1,none⟩=some (.int .i64 s.page):=aa Dj 1;have Vf:=Fs.slots.same (w':=w4.drew) rfl;have Ey:=wP Fs;clear Fs Dj;go_upto_region 10 with(fail)
   go_still_tail 5,k_
   go_upto_region 11 with((first
    |(refine gJ rfl _ _ rfl m L s rfl rfl Vf HS.o ?_;intro w5 Ve GR NJ;go_frame)
    |fail))
   have yK:=GR.undrew;have Lh:=Ey.o.pool.mod yK (fun b hb e=>H.o.noM (e▸hb)) (fun e=>GS e.symm);have EW:au w5 S c a fs m clock (p.down s.frame) (L.filter fun x=> !Slot.at s.ino s.page x):=⟨Lh,(yK.block c Ey.o.lts.1 Sh).trans Ey.o.self,Ve,H.o.noC,H.o.noM⟩;have c0:w5.cell? ⟨c,0,none⟩=some (.pointer (some ⟨a,0,none⟩)):=aa EW.self 0;have Ke:=wP EW;clear EW Lh Ve Vf d1 d2 d3;go_wp2_with fail;refine(nP a s.frame w5 S _ Ke.o.pool (pX HL.o KV CY)).mono ?_;rintro e w6⟨rfl,S',FX,BO,Bq⟩;go_wp2_with fail;go_ret2;have GQ:Mod (Both S m) w w5:=(Mod.of EX).trans (Out.refl _ _) ((zl.sub fun b hb=> .inl hb).trans (Out.refl _ _) (yK.sub fun b hb=> .inr hb));exact⟨0,s.frame,_,_,S',rfl,Ke.o.turn BO FX Bq,GQ.trans (Out.refl _ _) (BO.sub fun b hb=> .inl hb),fun b hb=>(Bq b hb).imp id fun e=>xn GQ.size e,.loose s HL.o HS.o KV CY HMIN.o⟩
end
section
def ax (L:List Slot)(f:Nat):Nat:=L.countP fun s=>s.frame==f
variable {L:List Slot}{s:Slot}
theorem iV (h:Sole L)(hs:s∈L)(f:Nat):ax (L.filter fun x=> !Slot.at s.ino s.page x) f+(if s.frame=f then 1 else 0)=ax L f:=by
 unfold ax
 induction L with
 |nil=>cases hs
 |cons x l ih=>
  have hp:=List.pairwise_cons.1 h;rcases List.mem_cons.1 hs with rfl|h1
  ·rw[List.filter_cons_of_neg (by simp[Slot.at]),List.countP_cons];have e:(l.filter fun x=> !Slot.at s.ino s.page x)=l:=List.filter_eq_self.2 fun y hy=>by
    cases hc:Slot.at s.ino s.page y with
    |false=>rfl
    |true=>
     obtain⟨a1,a2⟩:=Slot.at_iff.1 hc;exact absurd ⟨a1.symm,a2.symm⟩ (hp.1 y hy)
   rw[e];simp
  ·have hx:(!Slot.at s.ino s.page x)=true:=by
    cases hc:Slot.at s.ino s.page x with
    |false=>rfl
    |true=>
     obtain⟨a1,a2⟩:=Slot.at_iff.1 hc;exact absurd ⟨a1,a2⟩ (hp.1 s h1)
   rw[List.filter_cons_of_pos (p:=fun x=> !Slot.at s.ino s.page x) hx,List.countP_cons,List.countP_cons,<-ih hp.2 h1];omega
theorem aV (hs:s∈L):0<ax L s.frame:=List.countP_pos_iff.2 ⟨s,hs,s_⟩
theorem Sole.drop (h:Sole L)(q:Slot->Bool):Sole (L.filter q):=List.Pairwise.sublist List.filter_sublist h
def held (L:List Slot)(hold:Nat->Nat):Nat->Nat:=fun x=>ax L x+hold x
theorem Tab.Good.ctake {p p':Pool}{T:Tab}{L':List Slot}{hold:Nat->Nat}{pg lv f:Nat}(h:T.Good p (held L hold) pg lv)(hS:Sole L)(ht:aw p L 0 f p' L'):
  T.Good p' (held L' (upd hold f 1)) pg lv/\f<p.n/\p'.n=p.n/\hold f=0/\ ¬an T f/\(p'.dat f=fun _ =>0)/\(∀x,x≠f->p'.dat x=p.dat x)/\Sole L'/\p'.cnt f=1/\(∀x,x≠f->p'.cnt x=p.cnt x):=by
 cases ht with
 |free _ hl=>
  obtain⟨h1,h2,h3⟩:=cT hl;obtain⟨a1,a2,a3⟩:=h.fresh h1 h2;have a4:ax L f=0/\hold f=0:=(by unfold held at a3;omega);have hg:=h.take h1 h2;have e:upd (held L hold) f 1=held L (upd hold f 1):=by
   funext x;unfold held;by_cases e:x=f
   ·subst e;rw[af,af,a4.1]
   ·rw[ah _ _ e,ah _ _ e]
  rw[e]at hg;exact⟨hg,h1,rfl,a4.2,a1,af _ _ _,fun x hx=>ah _ _ hx,hS,af _ _ _,fun x hx=>ah _ _ hx⟩
 |loose s hl hs KV h1 Kr=>
  have hc:=h.cnt s.frame KV;have hp:=aV hs;have hd:=iV hS hs;have a1:ax L s.frame=1/\hold s.frame=0/\ay T s.frame=0/\ai T s.frame=0:=(by unfold held at hc;omega);have hn: ¬an T s.frame:=fun e=>by
   have:=ao e;omega
  have hg:=(h.down (f:=s.frame) (by unfold held;omega)).take (f:=s.frame) KV (by simp only[Pool.down,af];omega);have e:upd (upd (held L hold) s.frame (held L hold s.frame-1)) s.frame 1=held (L.filter fun x=> !Slot.at s.ino s.page x) (upd hold s.frame 1):=by
   funext x;have h2:=hd x;unfold held;by_cases e:x=s.frame
   ·subst e;rw[if_pos rfl]at h2;rw[af,af];omega
   ·rw[if_neg (fun e1=>e e1.symm)]at h2;rw[ah _ _ e,ah _ _ e,ah _ _ e];omega
  rw[e]at hg;refine⟨hg,KV,rfl,a1.2.1,hn,af _ _ _,fun x hx=>ah _ _ hx,hS.drop _,af _ _ _,fun x hx=>?_⟩;show upd (upd p.cnt s.frame _) s.frame 1 x=p.cnt x;rw[ah _ _ hx,ah _ _ hx]
theorem held_upd (L:List Slot)(hold:Nat->Nat)(f d:Nat):upd (held L hold) f (held L hold f+d)=held L (upd hold f (hold f+d)):=by
 funext x;unfold held;by_cases e:x=f
 ·subst e;rw[af,af];omega
 ·rw[ah _ _ e,ah _ _ e]
theorem fH (L:List Slot)(hold:Nat->Nat)(f:Nat)(h:0<hold f):upd (held L hold) f (held L hold f-1)=held L (upd hold f (hold f-1)):=by
 funext x;unfold held;by_cases e:x=f
 ·subst e;rw[af,af];omega
 ·rw[ah _ _ e,ah _ _ e]
end
section
def plus (hold:Nat->Nat)(fs:List Nat):Nat->Nat:=fun x=>hold x+if x∈fs then 1 else 0
theorem mH (hold:Nat->Nat):plus hold []=hold:=by
 funext x;unfold plus;simp
variable {hold:Nat->Nat}{fs:List Nat}{f:Nat}
theorem uQ (h0:plus hold fs f=0):upd (plus hold fs) f 1=plus hold (fs++[f]):=by
 funext x;unfold plus at h0⊢;by_cases e:x=f
 ·subst e;rw[af];have:hold x=0:=o_;simp[this]
 ·rw[ah _ _ e];simp[e]
theorem ou (hn:f∉fs)(h0:hold f=0):upd (plus hold (f::fs)) f (plus hold (f::fs) f-1)=plus hold fs:=by
 funext x;unfold plus;by_cases e:x=f
 ·subst e;rw[af];simp[hn,h0]
 ·rw[ah _ _ e];simp[e]
variable {L:List Slot}
theorem Sole.nodup (h:Sole L):L.Nodup:=List.Pairwise.imp (fun h e=>h (by subst e;exact⟨rfl,rfl⟩)) h
def Loose (T:Tab)(L:List Slot)(hold:Nat->Nat)(s:Slot):Prop:=ax L s.frame=1/\ai T s.frame=0/\ ¬an T s.frame/\hold s.frame=0
theorem un (h:Sole L){s t:Slot}(hs:s∈L)(ht:t∈L)(xA:t≠s)(hf:t.frame=s.frame):2<=ax L s.frame:=by
 have h1:=iV h hs s.frame;rw[if_pos rfl]at h1;have h2:t∈L.filter fun x=> !Slot.at s.ino s.page x:=by
  rw[List.mem_filter];refine⟨ht,?_⟩;rw[Bool.not_eq_true',Bool.eq_false_iff];intro e;have e2:=Slot.at_iff.1 e;exact xA (h.eq ht hs e2)
 have h3:=aV h2;rw[hf]at h3;omega
variable {L1:List Slot}
theorem uo (h:L.Sublist L1)(hn:L1.Nodup)(hf: ∀t∈L1,t∉L->t.frame≠f):ax L1 f=ax L f:=by
 induction h with
 |slnil=>rfl
 |cons a h ih=>
  have EB:=List.nodup_cons.1 hn;have ha:=hf a (xl ..) fun e=>EB.1 (h.subset e);have:=ih EB.2 fun t ht=>hf t (xk _ ht);rw[<-this];unfold ax;rw[List.countP_cons_of_neg (by simpa using ha)]
 |cons_cons a h ih=>
  have EB:=List.nodup_cons.1 hn;have:=ih EB.2 fun t ht hnt=>hf t (xk _ ht) fun e=>by
   rcases List.mem_cons.1 e with e|e
   ·exact EB.1 (e▸ht)
   ·exact hnt e
  unfold ax at *
  rw[List.countP_cons,List.countP_cons,this]
structure Took (T:Tab)(n r0:Nat)(d0:Nat->Nat->Nat)(L1:List Slot)(hold:Nat->Nat)(pg:Nat)(fs:List Nat)(p:Pool)(L:List Slot):Prop where
 good:T.Good p (held L (plus hold fs)) pg 4
 nodup:fs.Nodup
 each: ∀f∈fs,f<p.n/\ ¬an T f/\(p.dat f=fun _ =>0)/\hold f=0/\p.cnt f=1
 n:p.n=n
 sole:Sole L
 sub:L.Sublist L1
 room:r0<=p.left+fs.length
 sole1:Sole L1
 drop: ∀s∈L1,s∉L->Loose T L1 hold s
 dat: ∀x,0<hold x+ai T x+ax L x->p.dat x=d0 x
 each2: ∀f∈fs,ai T f=0/\ax L f=0
variable {T:Tab}{p:Pool}
theorem Took.nil {pg0:Nat}(h:T.Good p (held L hold) pg0 4)(hS:Sole L)(pg:Nat):Took T p.n p.left p.dat L hold pg [] p L:=
 ⟨by rw[mH];exact h.any pg 4,List.nodup_nil,(fun f hf=>absurd hf s_),rfl,hS,List.Sublist.refl _,s_,hS,(fun s h1 h2=>absurd h1 h2),fun _ _ =>rfl,fun f hf=>absurd hf s_⟩
variable {p':Pool}{L':List Slot}
theorem aw.sub {r:Int}(h:aw p L r f p' L'):L'.Sublist L:=by
 cases h
 ·exact List.Sublist.refl _
 ·exact List.filter_sublist
 ·exact List.Sublist.refl _
theorem aw.full (h:aw p L 4 f p' L'):p.left=0:=by
 cases h with
 |none h1=>exact kU.2 (cB h1)
theorem aw.left (h:aw p L 0 f p' L'):p.left<=p'.left+1:=by
 cases h with
 |free f h1=>
  obtain⟨h2,h3,_⟩:=cT h1;have:=gq (c:=p.cnt) (n:=p.n) (f:=f) (x:=1) h2;rw[if_pos h3]at this;show cf p.cnt p.n<=cf (upd p.cnt f 1) p.n+1;omega
 |loose s h1=>
  have:p.left=0:=kU.2 (cB h1);omega
theorem vh (h:1<=p.cnt f):(p.up f).left=p.left:=by
 refine fI fun i _ =>?_;show upd p.cnt f (p.cnt f+1) i=0↔_;by_cases e:i=f
 ·subst e;rw[af];omega
 ·rw[ah _ _ e]
variable {n r0 pg:Nat}{d0:Nat->Nat->Nat}
theorem Took.step (h:Took T n r0 d0 L1 hold pg fs p L)(ht:aw p L 0 f p' L'):Took T n r0 d0 L1 hold pg (fs++[f]) p' L':=by
 have Vs:r0<=p'.left+(fs++[f]).length:=(by have h1:=h.room;have h2:=ht.left;rw[wU];show r0<=p'.left+(fs.length+1);omega);obtain⟨a1,a2,a3,a4,a5,a6,a7,a8,a9,a10⟩:=h.good.ctake h.sole ht;have Oy:f∉fs:=fun e=>by
  unfold plus at a4;rw[if_pos e]at a4;omega
 have h0:hold f=0:=by
  unfold plus at a4;omega
 have Qe: ∀s∈L1,s∉L'->Loose T L1 hold s:=fun s CY Cx=>by
  by_cases KW:s∈L
  ·have NM:p.cnt s.frame=1/\s.frame<p.n:=by
    cases ht with
    |free=>exact absurd KW Cx
    |loose s0 hl CK KV h1 Kr=>
     have:s=s0:=by
      apply xe;intro xA;refine Cx (List.mem_filter.2 ⟨KW,?_⟩);rw[Bool.not_eq_true',Bool.eq_false_iff];intro e;exact xA (h.sole.eq KW CK (Slot.at_iff.1 e))
     subst this;exact⟨h1,KV⟩
   have hc:=h.good.cnt s.frame NM.2;have hp:=aV KW;have b1:ax L s.frame=1/\plus hold fs s.frame=0/\ay T s.frame=0/\ai T s.frame=0:=(by unfold held at hc;omega);have b2:ax L1 s.frame=ax L s.frame:=uo h.sub h.sole1.nodup fun t CX Cw e=>by
    have h5:=(h.drop t CX Cw).1;have h6:=un h.sole1 CY CX (fun e2=>Cw (e2▸KW)) e;rw[e]at h5;omega
   exact⟨o_,b1.2.2.2,fun e=>by have:=ao e;omega,by have:=b1.2.1;unfold plus at this;omega⟩
  ·exact h.drop s CY KW
 have ye:ai T f=0/\ax L' f=0:=by
  have h5:=a1.cnt f (by rw[a3];exact a2);have h6:=aF a5;unfold held at h5;rw[af]at h5;omega
 have hle: ∀x,ax L' x<=ax L x:=fun x=>List.Sublist.countP_le ht.sub;have Hg: ∀x,0<hold x+ai T x+ax L' x->p'.dat x=d0 x:=fun x hx=>by
  have xA:x≠f:=fun e=>by subst e;omega
  rw[a7 x xA];exact h.dat x (by have:=hle x;omega)
 refine⟨by rw[<-uQ a4];exact a1,?_,fun x hx=>?_,a3.trans h.n,a8,ht.sub.trans h.sub,Vs,h.sole1,Qe,Hg,fun x hx=>?_⟩
 rotate_right
 ·rcases List.mem_append.1 hx with h1|h1
  ·exact⟨(h.each2 x h1).1,by have h8:=(h.each2 x h1).2;have:=hle x;omega⟩
  ·simp only[List.mem_singleton]at h1;subst h1;exact ye
 ·rw[List.nodup_append];exact⟨h.nodup,s_,fun x hx y hy=>by simp only[List.mem_singleton]at hy;subst hy;exact fun e=>Oy (e▸hx)⟩
 ·rcases List.mem_append.1 hx with h1|h1
  ·obtain⟨b1,b2,b3,b4,b5⟩:=h.each x h1;have xA:x≠f:=fun e=>Oy (e▸h1);exact⟨by rw[a3];exact b1,b2,by rw[a7 x xA];exact b3,b4,by rw[a10 x xA];exact b5⟩
  ·simp only[List.mem_singleton]at h1;subst h1;exact⟨by rw[a3];exact a2,a5,a6,h0,a9⟩
structure Undo (T:Tab)(n:Nat)(d0:Nat->Nat->Nat)(L:List Slot)(hold:Nat->Nat)(pg:Nat)(fs:List Nat)(p:Pool):Prop where
 good:T.Good p (held L (plus hold fs)) pg 4
 nodup:fs.Nodup
 each: ∀f∈fs,f<p.n/\hold f=0
 n:p.n=n
 dat: ∀x,0<hold x+ai T x+ax L x->p.dat x=d0 x
theorem Took.undo (h:Took T n r0 d0 L1 hold pg fs p L):Undo T n d0 L hold pg fs p:=
 ⟨h.good,h.nodup,fun f hf=>⟨(h.each f hf).1,(h.each f hf).2.2.2.1⟩,h.n,h.dat⟩
theorem Took.full {f0:Nat}(h:Took T n r0 d0 L1 hold pg fs p L)(ht:aw p L 4 f0 p' L')(hf:f<n)(hs:ax L1 f<=1):0<ai T f+ay T f+hold f\/f∈fs:=by
 have hle:ax L f<=ax L1 f:=List.Sublist.countP_le h.sub;have hc:=h.good.cnt f (by rw[h.n];exact hf);have hp:plus hold fs f=hold f+(if f∈fs then 1 else 0):=rfl;cases ht with
 |none h1 h2=>
  have h3:=cB h1 f (by rw[h.n];exact hf);by_cases hm:f∈fs
  ·exact .inr hm
  ·left;rw[if_neg hm]at hp;unfold held at hc;by_cases h0:ax L f=0
   ·omega
   ·obtain⟨t,CX,Cw⟩:=List.countP_pos_iff.1 (show 0<ax L f by omega);have UX:t.frame=f:=(by simpa using Cw);have h4:=h2 t CX;rw[UX,aO (by rw[h.n];exact hf)]at h4;omega
theorem Undo.live (h:Undo T n d0 L hold pg (f::fs) p):f<p.n/\1<=p.cnt f:=by
 have h1:=(h.each f (xl ..)).1;have h2:=h.good.cnt f h1;unfold held plus at h2;rw[if_pos (xl ..)]at h2;exact⟨h1,o_⟩
theorem Undo.step (h:Undo T n d0 L hold pg (f::fs) p):Undo T n d0 L hold pg fs (p.down f):=by
 have hp:=List.nodup_cons.1 h.nodup;have h0:=(h.each f (xl ..)).2;have h1:0<plus hold (f::fs) f:=(by unfold plus;rw[if_pos (xl ..)];omega);have hg:=h.good.down (f:=f) (by unfold held;omega);rw[fH _ _ _ h1,ou hp.1 h0]at hg;exact⟨hg,hp.2,fun x hx=>h.each x (xk _ hx),h.n,h.dat⟩
end
section
structure eI (T:Tab)(n r0:Nat)(d0:Nat->Nat->Nat)(L:List Slot)(hold:Nat->Nat)(pg d:Nat)(g:Nat)(fs:List Nat)(p:Pool)(T':Tab):Prop where
 good:T'.Good p (held L (plus hold fs)) pg (4-d)
 deep:d+fs.length=3
 node:T'.nd (4-d) (part pg (4-d))=some g
 below:d=3\/T'.nd (3-d) (part pg (3-d))=none
 nodup:fs.Nodup
 each: ∀f∈fs,f<p.n/\ ¬an T' f/\(p.dat f=fun _ =>0)/\hold f=0
 lf:T'.lf=T.lf
 mono: ∀lv q f,T.nd lv q=some f->T'.nd lv q=some f
 only: ∀f,an T' f->an T f\/hold f=0
 n:p.n=n
 dat: ∀x,¬an T x->0<hold x+ai T x+ax L x->p.dat x=d0 x
 each2: ∀f∈fs,ai T f=0/\ax L f=0/\p.cnt f=1
 only2: ∀f,an T' f->an T f\/(hold f=0/\ai T f=0/\ax L f=0/\p.cnt f=1)
 room:r0<=p.left+3
variable {T:Tab}{n r0 pg d g:Nat}{d0:Nat->Nat->Nat}{hold:Nat->Nat}{fs:List Nat}{p:Pool}{L:List Slot}
theorem eI.start {L1:List Slot}(h:Took T n r0 d0 L1 hold pg fs p L)(hd:d+fs.length=3)(hg:T.nd (4-d) (part pg (4-d))=some g)(hb:d=3\/T.nd (3-d) (part pg (3-d))=none):
  eI T n r0 d0 L hold pg d g fs p T:=
 ⟨h.good.any pg _,hd,hg,hb,h.nodup,fun f hf=>⟨(h.each f hf).1,(h.each f hf).2.1,(h.each f hf).2.2.1,(h.each f hf).2.2.2.1⟩,rfl,fun _ _ _ e=>e,fun _ e=> .inl e,h.n,fun x _ hx=>h.dat x hx,fun f hf=>⟨(h.each2 f hf).1,(h.each2 f hf).2,(h.each f hf).2.2.2.2⟩,fun _ e=> .inl e,by have:=h.room;omega⟩
variable {T':Tab}
theorem eI.live (h:eI T n r0 d0 L hold pg d g fs p T'):g<p.n/\1<=p.cnt g:=h.good.node h.node
theorem eI.step {f:Nat}(h:eI T n r0 d0 L hold pg d g (f::fs) p T'):
  eI T n r0 d0 L hold pg (d+1) f fs (p.store g (aG (p.dat g) (num pg (4-d)) (f*4096+1))) (T'.put (3-d) (part pg (3-d)) (some f)):=by
 have hd:=h.deep;simp only[xd]at hd;have hd3:d<3:=o_;have Md:T'.nd (3-d) (part pg (3-d))=none:=h.below.resolve_left o_;obtain⟨f1,f2,f3,f4⟩:=h.each f (xl ..);have hp:=List.nodup_cons.1 h.nodup;have e1:4-d=(3-d)+1:=o_;have Cg:=h.node;rw[e1]at Cg;have hr:0<plus hold (f::fs) f:=(by unfold plus;rw[if_pos (xl ..)];omega);have hl:=h.good.link (lv:=3-d) (f:=f) o_ o_ (.inr e1) Md Cg f1 f2 f3 (by unfold held;omega);rw[fH _ _ _ hr,ou hp.1 f4]at hl;have e2:4-(d+1)=3-d:=o_;have e3:3-(d+1)=2-d:=o_;have hgf: ∀x,x∈fs->x≠g:=fun x hx e=>(h.each x (xk _ hx)).2.1 ⟨4-d,part pg (4-d),by rw[h.node,e]⟩;refine⟨by rw[e2,e1];exact hl,o_,by rw[e2];exact Tab.put_at _ _ _ _,?_,hp.2,fun x hx=>?_,h.lf,fun lv q x hx=>?_,fun x hx=>?_,h.n,fun x hn hx=>?_,fun x hx=>h.each2 x (xk _ hx),fun x hx=>?_,h.room⟩
 ·rcases Nat.lt_or_ge d 2 with h2|h2
  ·right;rw[e3,Tab.put_ne _ _ _ _ o_];cases hc:T'.nd (2-d) (part pg (2-d))with
   |none=>rfl
   |some y=>
    have h5:=h.good.but.above _ _ _ hc o_;rw[mK,show 2-d+1=3-d from by omega,Md]at h5;cases h5
  ·left;omega
 ·obtain⟨x1,x2,x3,x4⟩:=h.each x (xk _ hx);refine⟨x1,fun e=>?_,(ah _ _ (hgf x hx)).trans x3,x4⟩;rcases cV.1 e with e4|⟨l,r,_,e5⟩
  ·injection e4 with e4;exact hp.1 (e4▸hx)
  ·exact x2 ⟨l,r,e5⟩
 ·have h5:=h.mono lv q x hx;rw[Tab.put_ne]
  ·exact h5
  ·rintro⟨rfl,rfl⟩;rw[Md]at h5;cases h5
 ·rcases cV.1 hx with e4|⟨l,r,_,e5⟩
  ·injection e4 with e4;exact .inr (e4▸f4)
  ·exact h.only x ⟨l,r,e5⟩
 ·have hxg:x≠g:=fun e=>by
   subst e;rcases h.only2 x ⟨_,_,h.node⟩with h9|h9
   ·exact hn h9
   ·omega
  exact(ah _ _ hxg).trans (h.dat x hn hx)
 ·rcases cV.1 hx with e4|⟨l,r,_,e5⟩
  ·injection e4 with e4;subst e4;exact .inr ⟨f4,h.each2 f (xl ..)⟩
  ·exact h.only2 x ⟨l,r,e5⟩
theorem eI.fin {l:Leaf}(h:eI T n r0 d0 L hold pg 3 g [] p T')(zq:pg<bN)(xL:T.lf pg=none)(h7:l.prot<=7)(hf:l.frame<n)(hh:0<hold l.frame):
  (T'.lay pg (some l)).Good (p.store g (aG (p.dat g) (num pg 1) l.pack)) (held L (upd hold l.frame (hold l.frame-1))) pg 4/\(T'.lay pg (some l)).lf=upd T.lf pg (some l)/\(∀lv q f,T.nd lv q=some f->(T'.lay pg (some l)).nd lv q=some f)/\(an (T'.lay pg (some l)) l.frame->an T l.frame):=by
 have hg:=h.good;rw[mH]at hg;have hl:=hg.layNew (.inr rfl) zq h.node (by rw[h.lf];exact xL) h7 (by rw[h.n];exact hf) (by unfold held;omega);rw[fH _ _ _ hh]at hl;exact⟨hl,by show upd T'.lf pg (some l)=_;rw[h.lf],h.mono,fun e=>(h.only _ e).resolve_right o_⟩
theorem eI.fin2 (h:eI T n r0 d0 L hold pg 3 g [] p T')(o:Option Leaf)(d:Nat->Nat):
  (∀x,¬an T x->0<hold x+ai T x+ax L x->(p.store g d).dat x=d0 x)/\(∀x,an (T'.lay pg o) x->an T x\/(p.store g d).cnt x=1)/\r0<=(p.store g d).left+3:=
 ⟨fun x hn hx=>by
  have hxg:x≠g:=fun e=>by
   subst e;rcases h.only2 x ⟨_,_,h.node⟩with h9|h9
   ·exact hn h9
   ·omega
  exact(ah _ _ hxg).trans (h.dat x hn hx),fun x hx=>(h.only2 x hx).imp id (fun e=>e.2.2.2),h.room⟩
end
section
def fresh (n:Nat):Pool:=⟨n,fun _ =>0,fun _ _ =>0⟩
theorem jz {n:Nat}(h:1<=n):(fresh n).lowest=some 0:=oF (p:=fresh n) (by show 0<n;omega) rfl (fun g hg=>o_)
def aH (r:Nat):Tab:=⟨fun lv q=>if lv=4/\q=0 then some r else none,fun _ =>none⟩
variable {r f:Nat}
theorem bZ {lv q:Nat} :(aH r).nd lv q=some f↔lv=4/\q=0/\f=r:=by
 show(if lv=4/\q=0 then some r else none)=some f↔_;constructor
 ·intro h;by_cases c:lv=4/\q=0
  ·rw[if_pos c]at h;injection h with h;exact⟨c.1,c.2,h.symm⟩
  ·rw[if_neg c]at h;cases h
 ·rintro⟨h1,h2,h3⟩;rw[if_pos ⟨h1,h2⟩,h3]
theorem dZ (r:Nat):(aH r).nd 4 0=some r:=bZ.2 ⟨rfl,rfl,rfl⟩
theorem cH :an (aH r) f↔f=r:=by
 constructor
 ·rintro⟨lv,q,h⟩;exact(bZ.1 h).2.2
 ·rintro rfl;exact⟨4,0,dZ _⟩
theorem fA (r f:Nat):ai (aH r) f=0:=eG.2 fun i _ =>rfl
end
section
inductive dU (ino page r0:Int)(k:Nat)(d:Nat->Nat)(p:Pool)(L:List Slot)(clock:Int):Int->Nat->Pool->List Slot->Int->Prop
 |bad:page<0\/16<=page->dU ino page r0 k d p L clock 1 0 p L clock
 |err:0<=page->page<16->r0≠0->dU ino page r0 k d p L clock r0 0 p L clock
 |hit (s:Slot):0<=page->page<16->r0=0->L.find? (Slot.at ino page)=some s->dU ino page r0 k d p L clock 0 s.frame p (ei L ⟨ino,page,s.frame,clock+1⟩) (clock+1)
 |full:0<=page->page<16->r0=0->L.find? (Slot.at ino page)=none->aw p L 4 0 p L->dU ino page r0 k d p L clock 4 0 p L clock
 |miss (f:Nat) (p1:Pool) (L1:List Slot):0<=page->page<16->r0=0->L.find? (Slot.at ino page)=none->aw p L 0 f p1 L1->dU ino page r0 k d p L clock 0 f (p1.store f (laid (p1.dat f) d 0 k)) (ei L1 ⟨ino,page,f,clock+1⟩) (clock+1)
variable {L:List Slot}{i g:Int}
theorem eZ (h:L.find? (Slot.at i g)=none):L.any (Slot.at i g)=false:=by
 rw[List.any_eq_false];rw[List.find?_eq_none]at h;exact h
variable {s:Slot}
theorem ed (h:L.find? (Slot.at i g)=some s):s∈L/\s.ino=i/\s.page=g:=⟨List.mem_of_find?_eq_some h,Slot.at_iff.1 (List.find?_some h)⟩
theorem kt (h:L.any (Slot.at s.ino s.page)=false)(f:Nat):ax (ei L s) f=ax L f+if s.frame=f then 1 else 0:=by
 unfold ei ax;rw[if_neg (by rw[h];decide),List.countP_append];by_cases e:s.frame=f
 ·simp[e]
 ·simp[e]
theorem kq (h:Sole L){s0:Slot}(hs:s0∈L)(hi:s0.ino=s.ino)(hp:s0.page=s.page)(hf:s0.frame=s.frame)(f:Nat):ax (ei L s) f=ax L f:=by
 unfold ei ax;have hany:L.any (Slot.at s.ino s.page)=true:=List.any_eq_true.2 ⟨s0,hs,Slot.at_iff.2 ⟨hi,hp⟩⟩;rw[if_pos hany,List.countP_map];refine List.countP_congr fun x hx=>?_;simp only[Function.comp_apply];by_cases c:Slot.at s.ino s.page x=true
 ·rw[if_pos c];have hk:=Slot.at_iff.1 c;have:x=s0:=h.eq hx hs ⟨hk.1.trans hi.symm,hk.2.trans hp.symm⟩;rw[this,hf]
 ·rw[if_neg c]
theorem mL {L1:List Slot}(h:L.any (Slot.at i g)=false)(hs:L1.Sublist L):L1.any (Slot.at i g)=false:=by
 rw[List.any_eq_false]at h⊢;exact fun x hx=>h x (hs.subset hx)
theorem lI (h:Sole L)(s:Slot):Sole (ei L s):=by
 unfold ei;by_cases c:L.any (Slot.at s.ino s.page)=true
 ·rw[if_pos c];refine List.pairwise_map.2 (h.imp ?_);intro a b Ua;have hk: ∀x:Slot,(if Slot.at s.ino s.page x=true then s else x).ino=x.ino/\(if Slot.at s.ino s.page x=true then s else x).page=x.page:=by
   intro x;by_cases e:Slot.at s.ino s.page x=true
   ·rw[if_pos e];have:=Slot.at_iff.1 e;exact⟨this.1.symm,this.2.symm⟩
   ·rw[if_neg e];exact⟨rfl,rfl⟩
  rw[(hk a).1,(hk a).2,(hk b).1,(hk b).2];exact Ua
 ·rw[if_neg c];refine List.pairwise_append.2 ⟨h,List.pairwise_singleton _ _,?_⟩;intro a ha b hb;rw[List.mem_singleton]at hb;subst hb;intro e;exact c (List.any_eq_true.2 ⟨a,ha,Slot.at_iff.2 e⟩)
theorem ig {x:Slot}(h:x∈ei L s):x∈L\/x=s:=by
 unfold ei at h;split at h
 ·obtain⟨y,hy,e⟩:=List.mem_map.1 h;split at e
  ·exact .inr e.symm
  ·exact .inl (e▸hy)
 ·rcases List.mem_append.1 h with h|h
  ·exact .inl h
  ·exact .inr (List.mem_singleton.1 h)
variable {p p':Pool}{L':List Slot}{r:Int}{f:Nat}
theorem aw.size (h:aw p L r f p' L'):p'.n=p.n/\(r=0->f<p.n):=by
 cases h with
 |free f h1=>exact⟨rfl,fun _ =>(cT h1).1⟩
 |loose s h1 h2 h3=>exact⟨rfl,fun _ =>h3⟩
 |none=>exact⟨rfl,fun e=>by cases e⟩
theorem dU.slow {ino page r0:Int}{k:Nat}{d:Nat->Nat}{clock xr:Int}{n:Nat}(h:dU ino page r0 k d p L clock r f p' L' xr)(hn:p.n=n)(hL: ∀s∈L,s.frame<n): ∀s∈L',s.frame<n:=by
 cases h with
 |bad=>exact hL
 |err=>exact hL
 |hit s _ _ _ hs=>
  intro x hx;rcases ig hx with hx|rfl
  ·exact hL x hx
  ·exact hL s (ed hs).1
 |full=>exact hL
 |miss f p1 L1 _ _ _ _ ht=>
  intro x hx;rcases ig hx with hx|rfl
  ·exact hL x (ht.sub.subset hx)
  ·rw[<-hn];exact ht.size.2 rfl
end
section
open Go.RowKit Go.Maps Go.WideMaps Go.Sort
open Go.ChangeMaps (setBlock)
end
section
open Go.RowKit
theorem tq (x y z:Value)(W:World):(Instr.field 83 (.agg #[x,y,z]) 0).run prog W= .ok x W:=k_
theorem unmap_cl (t c a root f k bt:Nat)(was:Leaf)(w:World)(S:Nat->Prop)(p:Pool)(h:am w S a p)(ht:al w t c a root)(Cc: ¬S t)(yC:t<w.heap.size)(AP:fu w bt t)(Cm: ¬S bt)
  (hf:f<p.n)(h1:1<=p.cnt f)(hk:k<512)(hw:word (p.dat f) k=was.pack)(zu:was.prot<=7)(Ie:was.frame<p.n)(Oi:1<=p.cnt was.frame)(hn:p.n<=1024)
  (WJ:1<=(p.down was.frame).cnt f):
  Calls prog 109 (#[.int .i64 (f:Int),.int .i64 (k:Int)]++ #[.pointer (some ⟨bt,0,none⟩)]) w
   fun e w'=>e= .returned (.bool true)/\(am w' S a ((p.down was.frame).store f (aG (p.dat f) k 0))/\Mod S w w'):=by
 have c0:w.cell? ⟨bt,0,none⟩=some (.pointer (some ⟨t,0,none⟩)):=aa AP 0;have c1:w.cell? ⟨t,1,none⟩=some (.pointer (some ⟨a,0,none⟩)):=aa ht 1;have Bt:bt<w.heap.size:=(wO AP).1;have Bz:was.pack<18446744073709551616:=(by have:=eR was zu o_;omega);have yO:=tq (.int .i64 (was.frame:Int)) (.int .u8 (was.prot:Int)) (.bool was.copy);obtain⟨Pc,HW,Pu,HT,HP⟩:=zh5 (eM was zu) hw AP ht h;clear AP hw h ht;show Calls prog 109 #[.int .i64 (f:Int),.int .i64 (k:Int),.pointer (some ⟨bt,0,none⟩)] w _;go_enter func109,ntmps109;go_upto_region 1 with(fail);go_region_with
  ((
   first
   |(go_at_call 111;refine(bR t c a root f k _ S p HP.o.drew HT.o hf h1 hk).mono ?_;rintro e w1⟨rfl,zO⟩;have xu:Below w.heap.size w w1:=bw zO;rw[HW.o];have e0:w1.cell? ⟨bt,0,none⟩=some (.pointer (some ⟨t,0,none⟩)):=(xu.cell (p:=⟨bt,0,none⟩) Bt).trans c0;have e1:w1.cell? ⟨t,1,none⟩=some (.pointer (some ⟨a,0,none⟩)):=(xu.cell (p:=⟨t,1,none⟩) yC).trans c1)
   |(go_at_call 110;refine(eN was.pack w1 Bz).mono ?_;rintro e w2⟨rfl,OP⟩;rw[Pc.o];have xx:Below w.heap.size w w2:=xu.trans (OP.mono xu.size);have g0:w2.cell? ⟨bt,0,none⟩=some (.pointer (some ⟨t,0,none⟩)):=(xx.cell (p:=⟨bt,0,none⟩) Bt).trans c0;have g1:w2.cell? ⟨t,1,none⟩=some (.pointer (some ⟨a,0,none⟩)):=(xx.cell (p:=⟨t,1,none⟩) yC).trans c1)
   |(go_at_call 59;refine(du a was.frame _ S _ (HP.o.below xx) Ie Oi).mono ?_;rintro e w3⟨rfl,Ek,zF⟩)))
 all_goals
  have Uf:al w3 t c a root:=(zF.block t (wW yC xx.size) Cc).trans ((xx.block t yC).trans HT.o);have KK:fu w3 bt t:=(zF.block bt (wW Bt xx.size) Cm).trans ((xx.block bt Bt).trans Pu.o);have k0:w3.cell? ⟨bt,0,none⟩=some (.pointer (some ⟨t,0,none⟩)):=aa KK 0;have hz:w.heap.size<=w3.heap.size:=xn xx.size zF.size;obtain⟨Pk,Pe⟩:=zh2 Ek Uf;clear Ek Uf KK;go_wp2_with fail;refine(ib t c a root f k 0 w3 S _ Pk.o Pe.o (wW yC hz) hf WJ hk o_).mono ?_;rintro e w4⟨rfl,OU,zl⟩;go_wp2_with fail;go_ret;exact⟨rfl,OU,(Mod.of xx).trans (Out.refl _ _) (zF.trans (Out.refl _ _) zl)⟩
end
section
open Go.RowKit Go.Sort
theorem ux {p:Pool}{x g:Nat}(h:2<=p.cnt g\/(g≠x/\1<=p.cnt g)):1<=(p.down x).cnt g:=by
 rcases h with h|⟨h2,h3⟩
 ·by_cases e:g=x
  ·subst e;simp only[Pool.down,af];omega
  ·simp only[Pool.down,ah _ _ e];omega
 ·simp only[Pool.down,ah _ _ h2];omega
def rT (LV:Nat)(D:Int):Prop:= ∀(t c a root f pg bt:Nat) (rest:Nat->Nat) (pg0:Nat) (was:Leaf) (w:World) (S:Nat->Prop) (p:Pool) (T:Tab),am w S a p->al w t c a root->t<w.heap.size->Way p T pg-> ¬S t->fu w bt t-> ¬S bt->T.Good p rest pg0 4->T.lf pg=some was->T.nd LV (part pg LV)=some f->
 Calls prog 126 #[.pointer (some ⟨t,0,none⟩),.int .i64 (f:Int),wayA pg,.int .i64 D,.func (.func 109) #[] #[.pointer (some ⟨bt,0,none⟩)]] w fun e w'=>e= .returned (.tuple #[.bool true,.bool true])/\ ∃p' T',am w' S a p'/\Mod S w w'/\Gone p T rest pg LV p' T'
theorem desc_un1:rT 1 3:=by
 intro t c a root f pg bt rest pg0 was w S p T h ht yC hw Cc AP Cm xP ye hf;obtain⟨f1,f2,f3⟩:=hw.node 1 f o_ o_ hf;obtain⟨w0,xv,yT,EG,AH,Ej,Az,DN⟩:=dy pg h ht yC;obtain⟨c0,c1,c2,c3⟩:=Ej.cells;have hn:=ce pg 1;have Bt:bt<w.heap.size:=(wO AP).1;obtain⟨x,hx⟩:=e_ was.pack;have E0:=wP (show word (p.dat f) (num pg 1)=was.pack by rw[f3,Tab.on_one,ye]);obtain⟨p7,pf,pc⟩:=xP.leafOf ye;have xD:=hw.few;have Bz:x<18446744073709551616:=(by rw[hx];have:=eR was p7 o_;omega);have II:=fO Bz (by rw[hx];exact fZ was);have WJ:=ux (xP.safe ye hf);obtain⟨xU,HF,HL,YI,Pu,HX⟩:=zh6 xv hf ye xP AP hx;clear f3 hf xv h ht ye xP AP hx;unfold wayA;go_enter func126,ntmps126;go_upto_region 1 with(fail);rw[<-xU.o];go_wp2_with fail;refine(bR t c a root f _ w0 S p EG AH f1 f2 (ce pg _)).mono ?_;rintro e w1⟨rfl,xu⟩;rw[E0.o,<-HX.o];have xQ:=xu.size;have DK:Below w.heap.size w w1:=yT.trans (xu.mono (Nat.le_of_lt Az));obtain⟨Ti,TA,BX⟩:=zh3 (EG.below xu) (show fu w1 bt t from(DK.block bt Bt).trans Pu.o) (show al w1 t c a root from(xu.block t DN).trans AH);clear EG AH;go_wp2_with fail;refine(unmap_cl t c a root f (num pg 1) bt was w1 S p Ti.o BX.o Cc (wW DN xQ) TA.o Cm f1 f2 hn E0.o p7 pf pc xD WJ).mono ?_;rintro e w2⟨rfl,Dp,xS⟩;go_wp2_with fail;go_ret2;exact⟨rfl,_,_,Dp,(Mod.of DK).trans (Out.refl _ _) xS,Gone.start YI.o HL.o HF.o⟩
theorem nh {LV LW:Nat}{D E:Int}(hc:fg LV LW D E)(ih:rT LW E):rT LV D:=by
 intro t c a root f pg bt rest pg0 was w S p T h ht yC hw Cc AP Cm xP ye hf;obtain⟨f1,f2,f3⟩:=hw.node LV f (by have:=hc.nums;omega) (by have:=hc.nums;omega) hf;obtain⟨w0,xv,yT,EG,AH,Ej,Az,DN⟩:=dy pg h ht yC;obtain⟨c0,c1,c2,c3⟩:=Ej.cells;have Bt:bt<w.heap.size:=(wO AP).1;obtain⟨g,hg⟩: ∃g,T.nd LW (part pg LW)=some g:=bC (xP.ok.leafUp ye LW (by have:=hc.nums;omega) (by have:=hc.nums;omega));obtain⟨g1,g2,_⟩:=hw.node LW g (by have:=hc.nums;omega) (by have:=hc.nums;omega) hg;have xD:=hw.few;obtain⟨x,hx⟩:=e_ (g*4096+1);have e0:=pU hc f3 hg;rw[<-hx]at e0;have E0:=wP e0;have Bz:x<18446744073709551616:=o_;have II:=fO Bz o_;obtain⟨Ht,HG,xU,HF,HL,YI,Pu,IH⟩:=zh8 (show((x:Int)/4096)=(g:Int) by omega) hg xv hf ye xP AP ih;clear f3 hf xv h ht hg ih e0 hx ye xP AP;unfold wayA;rcases hc with⟨rfl,rfl,rfl,rfl⟩|⟨rfl,rfl,rfl,rfl⟩|⟨rfl,rfl,rfl,rfl⟩<;>(
  go_enter func126,ntmps126;go_upto_region 1 with(fail);rw[<-xU.o];go_wp2_with fail;refine(bR t c a root f _ w0 S p EG AH f1 f2 (ce pg _)).mono ?_;rintro e w1⟨rfl,xu⟩;rw[E0.o];have xQ:=xu.size;obtain⟨d0,d1,d2,d3⟩:=mi.cells ((xu.block _ Az).trans Ej);have DK:Below w.heap.size w w1:=yT.trans (xu.mono (Nat.le_of_lt Az));have UU:t<w1.heap.size:=wW DN xQ;obtain⟨BX,Ti,TA⟩:=zh3 (show al w1 t c a root from(xu.block t DN).trans AH) (EG.below xu) (show fu w1 bt t from(DK.block bt Bt).trans Pu.o);clear c0 c1 c2 c3 EG AH Ej;go_wp2_with fail;rw[Ht.o];refine(IH.o t c a root g pg bt rest pg0 was w1 S p T Ti.o BX.o UU hw Cc TA.o Cm YI.o HL.o HG.o).mono ?_;rintro e w2⟨rfl,p2,T2,Dp,xS,Qt⟩;have xX:=xS.size;have ZG:al w2 t c a root:=(xS.block t UU Cc).trans BX.o;have Dt:=(Qt.top _ _ (wS _)).trans HG.o;have LA:=(Qt.top _ _ o_).trans HF.o;obtain⟨n1,n2⟩:=Qt.good.node Dt;obtain⟨m1,m2⟩:=Qt.good.node LA;obtain⟨Nw,Ya,XZ,QE,Uq⟩:=zh5 Qt Dt LA Dp ZG;have htw2:t<w2.heap.size:=o_;clear Qt Dt LA Dp ZG d0 d1 d2 d3;go_wp2_with fail;refine(sf t c a root g w2 S p2 QE.o Uq.o n1 n2).mono ?_;rintro e w3⟨rfl,xE⟩;have zy:=xE.size;have UT:t<w3.heap.size:=o_;obtain⟨Pe,Pk⟩:=zh2 (show al w3 t c a root from(xE.block t htw2).trans Uq.o) (QE.o.below xE);have GQ:Mod S w w3:=(Mod.of DK).trans (Out.refl _ _) (xS.trans (Out.refl _ _) (Mod.of xE));by_cases TW: ∀i,i<4096->p2.dat g i=0
  ·have hzz:qD (p2.dat g) 4096=true:=xh TW;have HEZ:=wP TW;clear TW;go_wp2_with fail;refine(ib t c a root f _ 0 w3 S p2 Pk.o Pe.o UT m1 m2 (ce pg _) o_).mono ?_;rintro e w4⟨rfl,OU,zl⟩;have CU:=zl.size;have Ho:al w4 t c a root:=(zl.block t UT Cc).trans Pe.o;have d4:w4.cell? ⟨t,1,none⟩=some (.pointer (some ⟨a,0,none⟩)):=aa Ho 1;have Pj:=wP OU;clear OU Ho;go_wp2_with fail;refine(du a g _ S _ Pj.o n1 n2).mono ?_;rintro e w5⟨rfl,Lh,yK⟩;go_wp2_with fail;go_ret2;exact⟨rfl,_,_,Lh,GQ.trans (Out.refl _ _) (zl.trans (Out.refl _ _) yK),Nw.o.prune o_ o_ Ya.o XZ.o HEZ.o⟩
  ·have hzz:qD (p2.dat g) 4096=false:=xg TW;have HEZ:=wP TW;clear TW;go_wp2_with fail;go_ret2;exact⟨rfl,_,_,Pk.o,GQ,Nw.o.keep Ya.o HEZ.o _ o_⟩)
theorem qq:rT 4 0:=nh (.inr (.inr ⟨rfl,rfl,rfl,rfl⟩)) (nh (.inr (.inl ⟨rfl,rfl,rfl,rfl⟩)) (nh (.inl ⟨rfl,rfl,rfl,rfl⟩) desc_un1))
end
section
open Go.RowKit Go.Sort
def UnRes (p:Pool)(T:Tab)(rest:Nat->Nat)(A:Int)(r:Int)(p':Pool)(T':Tab):Prop:=
 (r≠0/\p'=p/\T'=T/\(r=1/\140737488355328<=A\/r=6/\A<140737488355328/\T.lf (A.toNat/4096)=none))\/
 (r=0/\A<140737488355328/\(T.lf (A.toNat/4096)).isSome=true/\Gone p T rest (A.toNat/4096) 4 p' T')
def UnPost (w:World)(S:Nat->Prop)(a:Nat)(p:Pool)(T:Tab)(rest:Nat->Nat)(A:Int)(e:Ending)(w':World):Prop:=
 ∃r p' T',e= .returned (.int .i64 r)/\am w' S a p'/\Mod S w w'/\UnRes p T rest A r p' T'
theorem tat_un (t c a root bt:Nat)(A:Int)(w:World)(S:Nat->Prop)(p:Pool)(T:Tab)(rest:Nat->Nat)(pg0:Nat)(was:Leaf)(h:am w S a p)(ht:al w t c a root)(Cc: ¬S t)(AP:fu w bt t)(Cm: ¬S bt)(xP:T.Good p rest pg0 4)
  (ye:T.lf (A.toNat/4096)=some was)(hr:T.nd 4 (part (A.toNat/4096) 4)=some root)(AQ:0<=A)(hA:A<140737488355328):
  Calls prog 108 #[.pointer (some ⟨t,0,none⟩),.int .u64 A,.func (.func 109) #[] #[.pointer (some ⟨bt,0,none⟩)]] w
   fun e w'=>e= .returned (.int .i64 0)/\ ∃p' T',am w' S a p'/\Mod S w w'/\Gone p T rest (A.toNat/4096) 4 p' T':=by
 have yC:t<w.heap.size:=(wO ht).1;have Bt:bt<w.heap.size:=(wO AP).1;have c2:w.cell? ⟨t,2,none⟩=some (.int .i64 (root:Int)):=aa ht 2;have hw:=xP.way (A.toNat/4096);obtain⟨HT,HP,HL,HR,HW,YI,Pu⟩:=zh7 ht h ye hr hw xP AP;have Qx:A<18446744073709551616:=o_;have Zk:=wP Qx;clear ht h ye hr Qx hw xP AP;go_enter func108,ntmps108;go_wp2_with fail;refine(de t c a root _ HT.o).mono ?_;rintro e w1⟨rfl,rfl⟩;go_wp2_with fail;go_region_with
  ((
   first
   |(go_at_call 125;refine(mm A _ AQ Zk.o).mono ?_;rintro e w1⟨rfl,xu⟩;have zO:Below w.heap.size w w1:=((xp w.heap.size w).drew).trans xu;have c2':w1.cell? ⟨t,2,none⟩=some (.int .i64 (root:Int)):=aa ((zO.block t yC).trans HT.o) 2)
   |(go_at_call 126;refine(qq t c a root root (A.toNat/4096) bt rest pg0 was _ S p T (HP.o.below zO) ((zO.block t yC).trans HT.o) (wW yC zO.size) HW.o Cc ((zO.block bt Bt).trans Pu.o) Cm YI.o HL.o HR.o).mono ?_;rintro e w2⟨rfl,p2,T2,Dp,xS,Qt⟩)))
 all_goals
  go_wp2_with fail;go_ret;exact⟨rfl,p2,T2,Dp,(Mod.of zO).trans (Out.refl _ _) xS,Qt⟩
theorem uh (t c a root bt:Nat)(A:Int)(w:World)(S:Nat->Prop)(p:Pool)(T:Tab)(rest:Nat->Nat)(pg0:Nat)(h:am w S a p)(ht:al w t c a root)(Cc: ¬S t)(AP:fu w bt t)(Cm: ¬S bt)(xP:T.Good p rest pg0 4)
  (hr:T.nd 4 0=some root)(AQ:0<=A):
  Calls prog 108 #[.pointer (some ⟨t,0,none⟩),.int .u64 A,.func (.func 109) #[] #[.pointer (some ⟨bt,0,none⟩)]] w (UnPost w S a p T rest A):=by
 have yC:t<w.heap.size:=(wO ht).1;have hw:=xP.tree hr;by_cases Ag:140737488355328<=A
 ·exact(pD t c a root A _ w ht Ag).mono fun e w' ⟨he,yX⟩=>by
   subst yX;exact⟨1,p,T,he,h,Mod.refl _ _,.inl ⟨d_,rfl,rfl,.inl ⟨rfl,Ag⟩⟩⟩
 ·have xw:A<140737488355328:=o_;have Dt:=hw.top AQ xw;have Gi:=hw.way (A.toNat/4096);cases Ea:T.lf (A.toNat/4096)with
  |none=>exact(ms t c a root A _ w S p T h ht yC Gi Ea Dt AQ xw).mono fun e w' ⟨he,hb⟩=>⟨6,p,T,he,h.below hb,Mod.of hb,.inl ⟨d_,rfl,rfl,.inr ⟨rfl,xw,Ea⟩⟩⟩
  |some was=>exact(tat_un t c a root bt A w S p T rest pg0 was h ht Cc AP Cm xP Ea Dt AQ xw).mono fun e w' ⟨he,p',T',h1,h2,h3⟩=>⟨0,p',T',he,h1,h2,.inr ⟨rfl,xw,by rw[Ea];rfl,h3⟩⟩
theorem lH (t c a root:Nat)(A:Int)(w:World)(S:Nat->Prop)(p:Pool)(T:Tab)(rest:Nat->Nat)(pg0:Nat)(h:am w S a p)(ht:al w t c a root)(Cc: ¬S t)(xP:T.Good p rest pg0 4)(hr:T.nd 4 0=some root)(AQ:0<=A):
  Calls prog 66 #[.pointer (some ⟨t,0,none⟩),.int .u64 A] w (UnPost w S a p T rest A):=by
 have yC:t<w.heap.size:=(wO ht).1;obtain⟨w0,xv⟩:=e_ (w.alloc (.cells #[.pointer (some ⟨t,0,none⟩)] 77));have yT:Below w.heap.size w w0:=(by rw[xv];exact wR);have Ui:fu w0 w.heap.size t:=(by rw[xv];exact ab w _);have OO: ¬S w.heap.size:=fun e=>by have:=h.low _ e;omega
 have xJ:=uh t c a root w.heap.size A w0 S p T rest pg0 (h.below yT) ((yT.block t yC).trans ht) Cc Ui OO xP hr AQ;have d0:w0.cell? ⟨w.heap.size,0,none⟩=some (.pointer (some ⟨t,0,none⟩)):=aa Ui 0;obtain⟨yc,xU⟩:=zh2 xJ xv;clear xJ xv Ui h ht xP hr;go_enter func66,ntmps66;go_upto_region 1 with(fail);rw[<-xU.o];go_wp2_with fail;refine(yc.o).mono ?_;rintro e w2⟨r,p',T',rfl,h1,h2,h3⟩;go_wp2_with fail;go_ret;exact⟨r,p',T',rfl,h1,(Mod.of yT).trans (Out.refl _ _) h2,h3⟩
end
section
open Go.RowKit Go.Sort
def nX (p:Pool)(T:Tab)(A fr q:Int)(cp:Bool):Int×Pool×Tab:=
 if 7<q\/bD p fr=0 then(1,p,T)
 else if 140737488355328<=A then(1,p,T)
 else match T.lf (A.toNat/4096),T.nd 1 (part (A.toNat/4096) 1)with
  |some was,some g=>(0,((p.up fr.toNat).down was.frame).store g (aG (p.dat g) (num (A.toNat/4096) 1) (Leaf.pack ⟨fr.toNat,q.toNat,cp⟩)),T.lay (A.toNat/4096) (some ⟨fr.toNat,q.toNat,cp⟩))
  |_,_ =>(6,p,T)
def wB (w:World)(S:Nat->Prop)(a:Nat)(r:Int×Pool×Tab)(e:Ending)(w':World):Prop:=e= .returned (.int .i64 r.1)/\am w' S a r.2.1/\Mod S w w'
theorem safe_set {p:Pool}{f x g:Nat}(h:2<=p.cnt g\/(g≠x/\1<=p.cnt g)):1<=((p.up f).down x).cnt g:=by
 have h1:p.cnt g<=(p.up f).cnt g:=by
  by_cases e:g=f
  ·subst e;simp only[Pool.up,af];omega
  ·simp only[Pool.up,ah _ _ e];omega
 rcases h with h|⟨h2,h3⟩
 ·by_cases e:g=x
  ·subst e;simp only[Pool.down,af];omega
  ·simp only[Pool.down,ah _ _ e];omega
 ·simp only[Pool.down,ah _ _ h2];omega
theorem sg (t c a root bt bl pg0:Nat)(A:Int)(l:Leaf)(w:World)(S:Nat->Prop)(p:Pool)(T:Tab)(rest:Nat->Nat)(h:am w S a p)(ht:al w t c a root)(Cc: ¬S t)(hg:T.Good p rest pg0 4)(hr:T.nd 4 0=some root)(AQ:0<=A)
  (AP:fu w bt t)(Cm: ¬S bt)(Cz:cP w bl l)(OM: ¬S bl)(h7:l.prot<=7)(ye:l.frame<p.n)(DF:1<=p.cnt l.frame)(yA:p.cnt l.frame+1<1000000000000):
  Calls prog 108 #[.pointer (some ⟨t,0,none⟩),.int .u64 A,.func (.func 116) #[] #[.pointer (some ⟨bt,0,none⟩),.pointer (some ⟨bl,0,none⟩)]] w (wB w S a (nX p T A (l.frame:Int) (l.prot:Int) l.copy)):=by
 have yC:t<w.heap.size:=(wO ht).1;have Bt:bt<w.heap.size:=(wO AP).1;have KE:bl<w.heap.size:=(wO Cz).1;have hw:=hg.tree hr;have xP: ¬(7<(l.prot:Int)\/bD p (l.frame:Int)=0):=by
  rw[aO ye];omega
 unfold nX;rw[if_neg xP];by_cases Ag:140737488355328<=A
 ·rw[if_pos Ag];exact(pD t c a root A _ w ht Ag).mono fun e w' ⟨he,yX⟩=>by
   subst yX;exact⟨he,h,Mod.refl _ _⟩
 ·rw[if_neg Ag];have xw:A<140737488355328:=o_;have Dt:=hw.top AQ xw;have Gi:=hw.way (A.toNat/4096);cases Ea:T.lf (A.toNat/4096)with
  |none=>
   have e:(match(none:Option Leaf),T.nd 1 (part (A.toNat/4096) 1)with
    |some was,some g=>((0:Int),((p.up (l.frame:Int).toNat).down was.frame).store g (aG (p.dat g) (num (A.toNat/4096) 1) (Leaf.pack ⟨(l.frame:Int).toNat,(l.prot:Int).toNat,l.copy⟩)),T.lay (A.toNat/4096) (some ⟨(l.frame:Int).toNat,(l.prot:Int).toNat,l.copy⟩))
    |_,_ =>(6,p,T))=(6,p,T):=rfl
   rw[e];exact(ms t c a root A _ w S p T h ht yC Gi Ea Dt AQ xw).mono fun e w' ⟨he,hb⟩=>⟨he,h.below hb,Mod.of hb⟩
  |some was=>
   have AE:=hw.ups _ was Ea;obtain⟨q1,KX⟩:=bC (AE 1 o_ o_);obtain⟨n1,n2,n3⟩:=Gi.node 1 q1 o_ o_ KX;obtain⟨p7,pf,pc⟩:=hg.leafOf Ea;rw[KX];simp only[Int.toNat_natCast];have xD:=Gi.few;refine(ug (bt:=bt) (bl:=bl) (.inr (.inr ⟨rfl,rfl⟩)) t c a root A (fun w1 w2=>am w2 S a (((p.up l.frame).down was.frame).store q1 (aG (p.dat q1) (num (A.toNat/4096) 1) l.pack))/\Mod S w1 w2) w S p T h ht yC Gi AE was q1 Ea KX (fun w1 hb=>?_) Dt AQ xw).mono fun e w' ⟨he,w1,hb,hp,hm⟩=>⟨he,hp,(Mod.of hb).trans (Out.refl _ _) hm⟩;exact set_cl t c a root q1 (num (A.toNat/4096) 1) bt bl l was w1 S p (h.below hb) ((hb.block t yC).trans ht) Cc (wW yC hb.size) ((hb.block bt Bt).trans AP) Cm ((hb.block bl KE).trans Cz) OM n1 n2 (ce _ _) (by rw[n3,Tab.on_one,Ea]) p7 pf pc h7 ye DF yA xD (safe_set (hg.safe Ea KX))
theorem ia (t c a root pg0:Nat)(A:Int)(l:Leaf)(w:World)(S:Nat->Prop)(p:Pool)(T:Tab)(rest:Nat->Nat)(h:am w S a p)(ht:al w t c a root)(Cc: ¬S t)(hg:T.Good p rest pg0 4)(hr:T.nd 4 0=some root)(AQ:0<=A)
  (h7:l.prot<=7)(ye:l.frame<p.n)(DF:1<=p.cnt l.frame)(yA:p.cnt l.frame+1<1000000000000)
  (fr q:Int)(zM:fr=(l.frame:Int))(VB:q=(l.prot:Int)):
  Calls prog 69 #[.pointer (some ⟨t,0,none⟩),.int .u64 A,.agg #[.int .i64 fr,.int .u8 q,.bool l.copy]] w (wB w S a (nX p T A fr q l.copy)):=by
 have yC:t<w.heap.size:=(wO ht).1;obtain⟨w0,xv⟩:=e_ ((w.alloc (.cells #[.pointer (some ⟨t,0,none⟩)] 77)).alloc (.cells #[.int .i64 fr,.int .u8 q,.bool l.copy] 83));have yT:Below w.heap.size w w0:=(by rw[xv];exact wR.alloc s_ _);have CK:w0.heap.size=w.heap.size+1+1:=(by rw[xv];simp);have EG:fu w0 w.heap.size t:=(by rw[xv];exact(wT _ _ _ s_).trans (ab w _));have Cp:cP w0 (w.heap.size+1) l:=by
  rw[xv];have e:(w.alloc (.cells #[.pointer (some ⟨t,0,none⟩)] 77)).heap.size=w.heap.size+1:=s_;unfold cP;rw[<-e,<-zM,<-VB];exact ab _ _
 have AH:al w0 t c a root:=(yT.block t yC).trans ht;have d0: ∀d os,(grow (redrawn w0 d) os).cell? ⟨w.heap.size,0,none⟩=some (.pointer (some ⟨t,0,none⟩)):=fun d os=>cell_regrown (aa EG 0) d os;have d1: ∀d os,(grow (redrawn w0 d) os).cell? ⟨w.heap.size+1,0,none⟩=some (.int .i64 fr):=fun d os=>by rw[zM];exact cell_regrown (aa Cp 0) d os
 have d2: ∀d os,(grow (redrawn w0 d) os).cell? ⟨w.heap.size+1,1,none⟩=some (.int .u8 q):=fun d os=>by rw[VB];exact cell_regrown (aa Cp 1) d os
 have d3: ∀d os,(grow (redrawn w0 d) os).cell? ⟨t,1,none⟩=some (.pointer (some ⟨a,0,none⟩)):=fun d os=>cell_regrown (aa AH 1) d os;have hG:=fun d os=>Calls.regrown_of ((de t c a root (grow (redrawn w0 d) os) (((below_regrown w0 d os).block t (wW yC yT.size)).trans AH)).mono fun _ _ ⟨h1,h2⟩=>⟨h1,h2▸xp _ _⟩);have hC:=fun d os=>Calls.regrown_of ((iG a fr (grow (redrawn w0 d) os) S p ((h.below yT).below (below_regrown w0 d os))).mono fun _ _ ⟨h1,h2⟩=>⟨h1,h2▸xp _ _⟩);have NT:(((bD p fr:Nat):Int)==0)=false:=(by rw[zM,aO ye,xf];omega);have hq':decide (7<q)=false:=(by rw[VB];exact xg o_);obtain⟨HG,FE,HQ,HC,xU,HP,ZQ,HPt⟩:=zh8 hG zM VB hC xv (h.below yT) AH EG;obtain⟨HL,YE,HR⟩:=zh3 Cp hg hr;have b1: ¬S w.heap.size:=fun e=>by have:=h.low _ e;omega
 have b2: ¬S (w.heap.size+1):=fun e=>by have:=h.low _ e;omega
 have hwq:w.heap.size+1<w0.heap.size:=o_;clear xv h ht EG Cp AH hG hC hg hr CK zM VB;go_enter func69,ntmps69;go_upto_region 1 with(fail);rw[<-xU.o];refine wp_region_quiet_below k_ k_ ?_;(repeat(go_big_quiet_step ((first|exact HG.o _ _ |exact HC.o _ _))));refine wpQuiet_nil ?_;intro _ yX;obtain⟨⟨dq,osq⟩,hw''⟩:=yX;subst hw'';have xR:=below_regrown (w0) dq osq;generalize grow (redrawn (w0) dq) osq=wq at xR⊢;clear d0 d1 d2 d3;have Ib:=xR.size;have hPq:fu wq w.heap.size t:=(xR.block _ o_).trans HPt.o;have d0:wq.cell? ⟨w.heap.size,0,none⟩=some (.pointer (some ⟨t,0,none⟩)):=aa hPq 0;have HPq:=wP hPq;clear hPq;go_wp2_with fail;refine(sg t c a root w.heap.size (w.heap.size+1) pg0 A l wq S p T rest (HP.o.below xR) ((xR.block t o_).trans ZQ.o) Cc YE.o HR.o AQ HPq.o b1 ((xR.block _ hwq).trans HL.o) b2 h7 ye DF yA).mono ?_;rintro e w2⟨rfl,hp2,xS⟩;go_wp2_with fail;go_ret;rw[FE.o,HQ.o];exact⟨rfl,hp2,(Mod.of (yT.trans (xR.mono yT.size))).trans (Out.refl _ _) xS⟩
end
section
open Go.RowKit Go.Sort
theorem leafBox {w:World}{fr q:Int}{cp:Bool} :(w.alloc (.cells #[.int .i64 fr,.int .u8 q,.bool cp] 83)).heap[w.heap.size]? =some (.cells #[.int .i64 fr,.int .u8 q,.bool cp] 83 (0,0)):=ab w _
end
section
open Go.RowKit Go.Sort
theorem map1_any (f k:Int)(w:World):Calls prog 127 #[.int .i64 f,.int .i64 k] w fun e w'=>e= .returned (.bool false)/\w'=w:=by
 go_enter func127,ntmps127;go_wp2_with fail;go_ret;exact⟨rfl,rfl⟩
theorem nc (t c a root pg:Nat)(w:World)(S:Nat->Prop)(p:Pool)(T:Tab)(h:am w S a p)(ht:al w t c a root)(hw:Tree p T root)(zq:pg<bN):
  Calls prog 126 #[.pointer (some ⟨t,0,none⟩),.int .i64 (root:Int),wayA pg,.int .i64 0,.func (.func 127) #[] #[]] w
   fun e w'=>e= .returned (.tuple #[.bool (T.lf pg).isSome,.bool false])/\Below w.heap.size w w':=by
 have yC:t<w.heap.size:=(wO ht).1;have hr:T.nd 4 (part pg 4)=some root:=(by rw[iu pg zq];exact hw.root);cases hl:T.lf pg with
 |none=>exact(iE t c a root root pg _ w S p T h ht yC (hw.way pg) hl hr).mono fun e w' ⟨he,hb⟩=>⟨he,hb⟩
 |some l=>
  obtain⟨q1,KX⟩:=bC (hw.ups pg l hl 1 o_ o_);exact(lc (bt:=0) (bl:=0) (.inl ⟨rfl,rfl⟩) t c a root root pg (fun w1 w2=>w2=w1) w S p T h ht yC (hw.way pg) (hw.ups pg l hl) l q1 hl KX (fun w1 _ =>map1_any _ _ w1) hr).mono fun e w' ⟨he,w1,hb,hR⟩=>⟨he,by rw[hR];exact hb⟩
end
section
open Go.RowKit Go.Sort
def iJ (p:Pool)(T:Tab)(L:List Slot)(hold:Nat->Nat)(pg:Nat)(l:Leaf)(r:Int)(p':Pool)(T':Tab)(L':List Slot):Prop:=
 T'.Good p' (held L' hold) pg 4/\p'.n=p.n/\Sole L'/\L'.Sublist L/\
 ((r=4/\T'=T/\p.left<=2/\ ∀s∈L,s∉L'->Loose T L hold s)\/(r=0/\T'.lf=upd T.lf pg (some l)/\(∀lv q f,T.nd lv q=some f->T'.nd lv q=some f)/\(an T' l.frame->an T l.frame)))
def ly (p:Pool)(T:Tab)(L:List Slot)(hold:Nat->Nat)(l:Leaf)(r:Int)(p':Pool)(T':Tab)(L':List Slot):Prop:=
 (∀x,¬an T x->(x=l.frame\/0<hold x+ai T x+ax L' x)->p'.dat x=p.dat x)/\
 ((r=4/\ ∃gs:List Nat,gs.length<=2/\ ∀f,f<p.n->ax L f<=1->0<ai T f+ay T f+hold f\/f=l.frame\/f∈gs)\/(r=0/\(∀x,an T' x->an T x\/p'.cnt x=1)/\p.left<=p'.left+3))
def MapPost2 (w:World)(S:Nat->Prop)(c a fs m:Nat)(clock:Int)(p:Pool)(T:Tab)(L:List Slot)(hold:Nat->Nat)(pg:Nat)(l:Leaf)(e:Ending)(w':World):Prop:=
 ∃r p' T' L' S',e= .returned (.int .i64 r)/\au w' S' c a fs m clock p' L'/\Mod (Both S m) w w'/\Out S S' w/\iJ p T L hold pg l r p' T' L'/\ly p T L hold l r p' T' L'
variable {f:Nat}
theorem aw.two {p p':Pool}{L L':List Slot}{r:Int}(h:aw p L r f p' L'):r=0\/(r=4/\f=0/\p'=p/\L'=L):=by
 cases h
 ·exact .inl rfl
 ·exact .inl rfl
 ·exact .inr ⟨rfl,rfl,rfl,rfl⟩
theorem row_not {B:Option Addr}{gs:List Nat}{cap base n g' z:Nat}{S3:Nat->Prop}(hf:(B=none/\gs=[]/\cap=0)\/ ∃g,B=some ⟨g,0,none⟩/\base<=g/\g<n/\gs.length<=cap)(hr: ∀b,B=some ⟨b,0,none⟩-> ¬S3 b)(yr:B.map (·.block)=some g'\/g'=z)(hl: ∀b,S3 b->b<z):
  ∀b,some (⟨g',0,none⟩:Addr)=some ⟨b,0,none⟩-> ¬S3 b:=fun b hb=>by
 injection hb with hb;injection hb with hb;subst hb;rcases yr with h|h
 ·rcases hf with⟨h1,_⟩|⟨g,h1,_⟩
  ·rw[h1]at h;cases h
  ·rw[h1]at h;simp only[Option.map_some,Option.some.injEq]at h;subst h;exact hr _ h1
 ·exact fun e=>by have:=hl _ e;omega
theorem vg (h:f<1024):bits .or .u64 ((f:Int)*4096) 1=((f*4096+1:Nat):Int):=by
 have e:((f:Int)*4096)=((f*4096:Nat):Int):=o_;have e3:(1:Int)=((1:Nat):Int):=rfl;rw[e,e3,bits_or_u64_nat _ _ o_ o_];have:=Nat.two_pow_add_eq_or_of_lt (i:=12) (b:=1) d_ f;rw[Nat.mul_comm f 4096];exact congrArg _ this.symm
theorem kF {w:World}{b:Nat}{pg k:Nat}{T:TypeId}{fr:Nat×Nat}(h:w.heap[b]? =some (.cells #[.int .i64 ((num pg 4:Nat):Int), .int .i64 ((num pg 3:Nat):Int), .int .i64 ((num pg 2:Nat):Int), .int .i64 ((num pg 1:Nat):Int)] T fr))(hk:k<4):
  w.cell? ⟨b,k,none⟩=some (.int .i64 ((num pg (4-k):Nat):Int)):=by
 rw[aa h k];rcases(show k=0\/k=1\/k=2\/k=3 by omega)with rfl|rfl|rfl|rfl<;>rfl
theorem Tab.on_k (t:Tab)(pg k:Nat)(h:k<3):t.on pg (4-k)=match t.nd (3-k) (part pg (3-k))with|some f=>f*4096+1|none=>0:=by
 rw[Tab.on_more _ _ _ o_,show 4-k-1=3-k from by omega];cases t.nd (3-k) (part pg (3-k))<;>rfl
theorem mq (t c a root fs m:Nat)(clock:Int)(A fr q:Int)(cp:Bool)(w:World)(S:Nat->Prop)(p:Pool)(T:Tab)(L:List Slot)(hold:Nat->Nat)(pg0:Nat)(l:Leaf)
  (h:au w S c a fs m clock p L)(ht:al w t c a root)(Cc: ¬S t)(htm:t≠m)(hg:T.Good p (held L hold) pg0 4)(hr:T.nd 4 0=some root)(AQ:0<=A)(hA:A<140737488355328)(Hr:A % 4096=0)(h7: ¬7<q)(IX:bD p fr≠0)
  (ye:(T.lf (A.toNat/4096)).isSome=false)(zM:fr=(l.frame:Int))(hq:q=(l.prot:Int))(zm:cp=l.copy)(An:l.frame<p.n)(yN:1<=p.cnt l.frame)(yA:p.cnt l.frame+1<1000000000000):
  Calls prog 72 #[.pointer (some ⟨t,0,none⟩),.int .u64 A,.agg #[.int .i64 fr,.int .u8 q,.bool cp]] w (MapPost2 w S c a fs m clock p T L hold (A.toNat/4096) l):=by
 obtain⟨FE,HQ,Oe⟩:=zh3 zM hq zm;clear zM hq zm;have yC:t<w.heap.size:=(wO ht).1;have UW:=hg.tree hr;have zq:A.toNat/4096<bN:=(by unfold bN;omega);obtain⟨w0,xv⟩:=e_ (w.alloc (.cells #[.int .i64 fr,.int .u8 q,.bool cp] 83));have yT:Below w.heap.size w w0:=(by rw[xv];exact wR);have CK:w0.heap.size=w.heap.size+1:=(by rw[xv];simp);have Cp:w0.heap[w.heap.size]? =some (.cells #[.int .i64 fr,.int .u8 q,.bool cp] 83 (0,0)):=(by rw[xv];exact leafBox);have AH:al w0 t c a root:=(yT.block t yC).trans ht;have d1: ∀d os,(grow (redrawn w0 d) os).cell? ⟨w.heap.size,0,none⟩=some (.int .i64 fr):=fun d os=>cell_regrown (aa Cp 0) d os;have d2: ∀d os,(grow (redrawn w0 d) os).cell? ⟨w.heap.size,1,none⟩=some (.int .u8 q):=fun d os=>cell_regrown (aa Cp 1) d os;have d3: ∀d os,(grow (redrawn w0 d) os).cell? ⟨t,1,none⟩=some (.pointer (some ⟨a,0,none⟩)):=fun d os=>cell_regrown (aa AH 1) d os;have hC:=fun d os=>Calls.regrown_of ((iG a fr (grow (redrawn w0 d) os) S p ((h.pool.below yT).below (below_regrown w0 d os))).mono fun _ _ ⟨h1,h2⟩=>⟨h1,h2▸xp _ _⟩);obtain⟨HC,xU,ZQ,Jr,H,HG,HR,Lo⟩:=zh8 hC xv AH Cp h hg hr ye;obtain⟨Bp,HA0,HA⟩:=zh3 CK AQ hA;have g1:decide (140737488355328<=A)=false:=xg o_;have g2:(A.tmod 4096 != 0)=false:=(by rw[Int.tmod_eq_emod_of_nonneg AQ,Hr];rfl);have g3:decide (7<q)=false:=xg h7;have g4:(((bD p fr:Nat):Int)==0)=false:=(by rw[xf];omega);clear xv h ht Cp hC AH hg hr ye CK hA AQ Hr h7;go_enter func72,ntmps72;go_upto_region 1 with(fail);rw[<-xU.o];go_wp2_with fail;refine(de t c a root _ ZQ.o).mono ?_;rintro e w1⟨rfl,rfl⟩;go_upto_region 3 with(fail);refine wp_region_quiet_below k_ k_ ?_;(repeat(go_big_quiet_step ((exact HC.o _ _))));refine wpQuiet_nil ?_;intro _ yX;obtain⟨⟨dq,osq⟩,hw''⟩:=yX;subst hw'';have xx:=below_regrown (w0) dq osq;generalize grow (redrawn (w0) dq) osq=w2 at xx⊢;clear d1 d2 d3;go_wp2_with fail;refine(mm A w2 HA0.o (by have:=HA.o;omega)).mono ?_;rintro e w3⟨rfl,xE⟩;unfold wayA;go_upto_region 6 with(fail);obtain⟨w4,zV⟩:=e_ (w3.alloc (.cells #[.int .i64 ((num (A.toNat/4096) 4:Nat):Int),.int .i64 ((num (A.toNat/4096) 3:Nat):Int),.int .i64 ((num (A.toNat/4096) 2:Nat):Int),.int .i64 ((num (A.toNat/4096) 1:Nat):Int)] 212));rw[<-zV];have yw:Below w.heap.size w w2:=yT.trans (xx.mono yT.size);have EX:Below w.heap.size w w3:=yw.trans (xE.mono yw.size);have Eo:Below w.heap.size w w4:=(by rw[zV];exact EX.alloc EX.size _);have IF:w4.heap[w3.heap.size]? =some (.cells #[.int .i64 ((num (A.toNat/4096) 4:Nat):Int),.int .i64 ((num (A.toNat/4096) 3:Nat):Int),.int .i64 ((num (A.toNat/4096) 2:Nat):Int),.int .i64 ((num (A.toNat/4096) 1:Nat):Int)] 212 (0,0)):=(by rw[zV];exact ab _ _);have Mt:w4.heap[w.heap.size]? =some (.cells #[.int .i64 fr,.int .u8 q,.bool cp] 83 (0,0)):=by
  have h0:=Bp.o;have h2:=xx.size;have h3:=xE.size;have e4:w4.heap[w.heap.size]? =w3.heap[w.heap.size]? :=(by rw[zV];exact wT _ _ _ o_);exact e4.trans ((xE.block _ o_).trans ((xx.block _ o_).trans Jr.o))
 have hs4:w3.heap.size<w4.heap.size:=(by rw[zV];simp);have Ho:al w4 t c a root:=(Eo.block t yC).trans ((yT.block t yC).symm.trans ZQ.o);have d0: ∀d os,(grow (redrawn w4 d) os).cell? ⟨w3.heap.size,0,none⟩=some (.int .i64 ((num (A.toNat/4096) 4:Nat):Int)):=fun d os=>cell_regrown (aa IF 0) d os;have d1: ∀d os,(grow (redrawn w4 d) os).cell? ⟨w3.heap.size,1,none⟩=some (.int .i64 ((num (A.toNat/4096) 3:Nat):Int)):=fun d os=>cell_regrown (aa IF 1) d os;have d2: ∀d os,(grow (redrawn w4 d) os).cell? ⟨w3.heap.size,2,none⟩=some (.int .i64 ((num (A.toNat/4096) 2:Nat):Int)):=fun d os=>cell_regrown (aa IF 2) d os;have d3: ∀d os,(grow (redrawn w4 d) os).cell? ⟨w3.heap.size,3,none⟩=some (.int .i64 ((num (A.toNat/4096) 1:Nat):Int)):=fun d os=>cell_regrown (aa IF 3) d os;have d4: ∀d os,(grow (redrawn w4 d) os).cell? ⟨t,2,none⟩=some (.int .i64 (root:Int)):=fun d os=>cell_regrown (aa Ho 2) d os;have hD:=fun d os=>Calls.regrown_of ((nc t c a root (A.toNat/4096) (grow (redrawn w4 d) os) S p T ((H.o.pool.below Eo).below (below_regrown w4 d os)) (((below_regrown w4 d os).block t (wW yC Eo.size)).trans Ho) UW zq).mono fun _ _ ⟨h1,h2⟩=>⟨h1,h2⟩);unfold wayA at hD;obtain⟨HD,Pj,Pp,NZ,Ax⟩:=zh5 hD IF Mt Ho Eo;have zy:=EX.size;have KW:w.heap.size<w3.heap.size:=(by have:=Bp.o;have:=xx.size;have:=xE.size;omega);clear hD IF Mt Ho zV yT yw EX Eo xx xE;refine wp_region_quiet_below k_ k_ ?_;(repeat(go_big_quiet_step ((exact HD.o _ _))));refine wpQuiet_nil ?_;intro _ yX;obtain⟨⟨dq,osq⟩,hw''⟩:=yX;subst hw'';have Bv:=below_regrown (w4) dq osq;generalize grow (redrawn (w4) dq) osq=w6 at Bv⊢;clear d0 d1 d2 d3 d4;have NI:=Bv.size;have hB6:Below w.heap.size w w6:=Ax.o.trans (Bv.mono o_);rw[Lo.o];go_upto_region 9 with(fail);have hC6:=H.o.below hB6;have SB:al w6 t c a root:=(Bv.block t o_).trans NZ.o;have hp6:=(Bv.block w3.heap.size o_).trans Pj.o;have zG:=(Bv.block w.heap.size o_).trans Pp.o;have d0:w6.cell? ⟨t,1,none⟩=some (.pointer (some ⟨a,0,none⟩)):=aa SB 1;have d1:w6.cell? ⟨w.heap.size,0,none⟩=some (.int .i64 fr):=aa zG 0;have Lg: ¬S w3.heap.size:=fun e=>by have:=H.o.pool.low _ e;omega
 have BH: ¬S w.heap.size:=fun e=>by have:=H.o.pool.low _ e;omega
 have AE:=up_yes a l.frame w6.drew S p (hC6.pool.drew) (by rw[bn];exact xh ⟨An,yN⟩) yA;rw[<-FE.o]at AE;obtain⟨Pc,YV,HT6,Jj,UB⟩:=zh5 AE hC6 SB hp6 zG;clear AE hC6 SB hp6 zG
 go_still_tail 6,k_
 go_wp2_with fail;refine(Pc.o).mono ?_;rintro e w7⟨rfl,ZI,VX⟩;have yY:=VX.undrew;have TJ:=yY.size;have hC7:=YV.o.turn yY ZI (Out.refl _ _);have SA:al w7 t c a root:=(yY.block t o_ Cc).trans HT6.o;have Ov:=(yY.block w3.heap.size o_ Lg).trans Jj.o;have KZ:=(yY.block w.heap.size o_ BH).trans UB.o;have SM:=HG.o.up l.frame;rw[held_upd]at SM;generalize hp1:p.up l.frame=p1 at *
 generalize hh1:upd hold l.frame (hold l.frame+1)=Ce at *
 have e2:w7.cell? ⟨t,2,none⟩=some (.int .i64 (root:Int)):=aa SA 2;obtain⟨YU,HT7,Cs,QM,YK,Gg,Nu⟩:=zh7 hC7 SA Ov KZ SM hp1 hh1;have Gi:=SM.way (A.toNat/4096);clear ZI VX hC7 SA Ov KZ SM d0 d1 hp1 hh1
 go_upto_block 1 with(fail)
 go_cut [10,11] (fun n d wx=> ∃k g:Nat,n= .int .i64 (g:Int)/\d= .int .i64 (k:Int)/\k<=3/\T.nd (4-k) (part (A.toNat/4096) (4-k))=some g/\(k=3\/T.nd (3-k) (part (A.toNat/4096) (3-k))=none)/\Below w7.heap.size w7 wx)
 case first=>
  go_wp2_with fail;go_loopw [10,11] (fun n d wr=> ∃k g:Nat,n= .int .i64 (g:Int)/\d= .int .i64 (k:Int)/\k<=3/\T.nd (4-k) (part (A.toNat/4096) (4-k))=some g/\Below w7.heap.size w7 wr) (fun _ d _ =>3-(intOf d).toNat)
  case atStart=>exact⟨0,root,rfl,rfl,o_,by rw[show 4-0=4 from rfl,iu _ zq];exact HR.o,xp _ _⟩
  case round=>
   obtain⟨k,g,rfl,rfl,hk,Ii,hb⟩:=hrel;obtain⟨n1,n2,n3⟩:=Gi.node (4-k) g o_ o_ Ii;obtain⟨Hv,Ln⟩:=zh2 Ii n3;clear Ii n3;by_cases xw:k<3
   ·have Gk:wr.cell? ⟨w3.heap.size,k,none⟩=some (.int .i64 ((num (A.toNat/4096) (4-k):Nat):Int)):=kF ((hb.block _ o_).trans Cs.o) o_;obtain⟨nm,Kp⟩:=e_ (num (A.toNat/4096) (4-k));rw[<-Kp]at Gk;have RF:nm<512:=(by rw[Kp];exact ce _ _);have ZU:=wP Kp;clear Kp;go_wp2_with fail;refine(bR t c a root g nm wr S p1 (YU.o.pool.below hb) ((hb.block t o_).trans HT7.o) n1 n2 RF).mono ?_;rintro e w8⟨rfl,Qo⟩;have Hk:Below w7.heap.size w7 w8:=hb.trans (Qo.mono hb.size);cases BV:T.nd (3-k) (part (A.toNat/4096) (3-k))with
    |none=>
     have e0:word (p1.dat g) nm=0:=(by rw[ZU.o,Ln.o,Tab.on_k _ _ _ xw,BV]);have YT:=wP BV;clear BV;rw[e0];have hz:=iI;go_wp2_with fail
     go_meet
     exact⟨k,g,rfl,rfl,hk,Hv.o,.inr YT.o,Hk⟩
    |some g'=>
     have e0:word (p1.dat g) nm=g'*4096+1:=(by rw[ZU.o,Ln.o,Tab.on_k _ _ _ xw,BV]);obtain⟨m1,m2,_⟩:=Gi.node (3-k) g' o_ o_ BV;have xD:=Gi.few;obtain⟨x,hx⟩:=e_ (g'*4096+1);rw[e0,<-hx];have Bz:x<18446744073709551616:=o_;have II:=fO Bz o_;have EK:((x:Int)/4096)=(g':Int):=o_;obtain⟨Ht,YT⟩:=zh2 EK BV;clear BV hx e0 EK;go_wp2_with fail;go_roundw
     case rel=>exact⟨k+1,g',by first|rw[Ht.o]|rfl,by go_num,o_,by rw[show 4-(k+1)=3-k from by omega];exact YT.o,Hk⟩
     case measure=>simp[intOf];omega
   ·obtain rfl:k=3:=o_;go_wp2_with fail
    go_meet
    exact⟨3,g,rfl,rfl,o_,Hv.o,.inl rfl,hb⟩
 case rest=>
  obtain⟨k,g,rfl,rfl,hk,Ii,Hf,hb⟩:=hcut;have VU:=YU.o.lts.2.1;have hzc:=hb.size;obtain⟨Hv,HEND,HB⟩:=zh3 Ii Hf hb;have AH:=Took.nil YK.o YU.o.slots.sole (A.toNat/4096);have Qz:=wP AH;have h3:w3.heap.size≠m:=(by have:=H.o.lts.2.1;omega);have h0:w.heap.size≠m:=(by have:=H.o.lts.2.1;omega);have ht7:t<w7.heap.size:=o_;have h37:w3.heap.size<w7.heap.size:=o_;have h07:w.heap.size<w7.heap.size:=o_;have GY: ∀w' S',Mod (Both S m) w7 w'->Out S S' w7->al w' t c a root/\w'.heap[w3.heap.size]? =w7.heap[w3.heap.size]? /\w'.heap[w.heap.size]? =w7.heap[w.heap.size]? /\ ¬S' t/\ ¬S' w3.heap.size/\ ¬S' w.heap.size/\w7.heap.size<=w'.heap.size:=fun w' S' hm ho=>
   ⟨(hm.block t ht7 (fun e=>e.elim Cc htm)).trans HT7.o,hm.block _ h37 (fun e=>e.elim Lg h3),hm.block _ h07 (fun e=>e.elim BH h0),fun e=>(ho _ e).elim Cc o_,fun e=>(ho _ e).elim Lg o_,fun e=>(ho _ e).elim BH o_,hm.size⟩
  have Kd:=wP GY;clear Ii Hf AH GY hb e2;obtain⟨pgA,CL⟩:=e_ (A.toNat/4096);rw[<-CL]at Qz;have Nk:=wP CL;clear CL;go_wp2_with fail;go_loopw [13,88] (fun v i wr=> ∃(gs:List Nat) (A:Option Addr) (cap:Nat) (p2:Pool) (L2:List Slot) (S2:Nat->Prop),v= .slice A gs.length cap/\i= .int .i64 (gs.length:Int)/\gs.length<=3-k/\OwnN wr w7.heap.size A cap gs/\(∀b,A=some ⟨b,0,none⟩-> ¬S2 b)/\au wr S2 c a fs m clock p2 L2/\Mod (Both S m) w7 wr/\Out S S2 w7/\Took T p1.n p1.left p1.dat L Ce pgA gs p2 L2)
   (fun _ i _ =>3-(intOf i).toNat)
  case atStart=>exact⟨[],none,0,p1,L,S,rfl,rfl,xm _,OwnN.nil _ _,(fun b e=>by cases e),YU.o.below HB.o,Mod.of HB.o,Out.refl _ _,Qz.o⟩
  case round=>
   obtain⟨gs,B,cap,p2,L2,S2,rfl,rfl,hle,xC,xG,Ft,xS,zD,PD⟩:=hrel;obtain⟨k1,k2,k3,k4,k5,k6,k7⟩:=Kd.o _ _ xS zD;by_cases xw:gs.length<3-k
   ·have e0:wr.cell? ⟨t,0,none⟩=some (.pointer (some ⟨c,0,none⟩)):=aa k1 0;obtain⟨zU,Ll,K1,K2,K3,AS,zR⟩:=zh7 Ft PD k1 k2 k3 xC xG;clear k1 k2 k3 Ft PD xC xG;go_wp2_with fail;refine(fL c a fs m clock wr S2 p2 L2 zU.o).mono ?_;rintro e w8⟨r,f,p3,L3,S3,rfl,DJ,zF,Am,xJ⟩;have zy:=zF.size;have VY:Mod (Both S m) w7 w8:=xS.trans (fun b e=>by
     rcases e with h|h
     ·exact(zD b h).imp .inl (fun h=>xn (wS _) h)
     ·exact .inl (.inr h)) zF
    have VG:Out S S3 w7:=zD.trans Am k7;have PN:OwnN w8 w7.heap.size B cap gs:=AS.o.same fun b hb=>zF.block b (by
     rcases AS.o.form with⟨h,_⟩|⟨g1,h,_,h5,_⟩
     ·rw[h]at hb;cases hb
     ·rw[h]at hb;injection hb with hb;injection hb with hb;omega) (fun e=>e.elim (zR.o b hb) (fun e2=>by
     rcases AS.o.form with⟨h,_⟩|⟨g1,h,h4,h5,_⟩
     ·rw[h]at hb;cases hb
     ·rw[h]at hb;injection hb with hb;injection hb with hb;omega))
    have GH: ∀b,B=some ⟨b,0,none⟩-> ¬S3 b:=fun b hb e=>by
     rcases Am b e with h|h
     ·exact zR.o b hb h
     ·rcases AS.o.form with⟨h4,_⟩|⟨g1,h4,_,h5,_⟩
      ·rw[h4]at hb;cases hb
      ·rw[h4]at hb;injection hb with hb;injection hb with hb;omega
    obtain⟨Jv,FA,Ng,Ew,Jk⟩:=zh5 DJ PN GH VY VG;clear DJ PN GH VY VG;rcases xJ.two with rfl|⟨rfl,rfl,rfl,rfl⟩
    ·have yc:=wP xJ;have Wb: ∀b,S3 b->b<w8.heap.size:=Jv.o.pool.low;have BP:=Jv.o.lts;have Qa: ∀w9 w10,Below w8.heap.size w8 w9->w9.grownBy w10 (B.map (·.block))->au w10 S3 c a fs m clock p3 L3/\Mod (Both S m) w7 w10:=fun w9 w10 h9 MY=>by
      have GG: ∀b,B.map (·.block)=some b->w7.heap.size<=b/\ ¬S3 b:=fun b hb=>by
       rcases AS.o.form with⟨h,_⟩|⟨g1,h,h4,h5,_⟩
       ·rw[h]at hb;cases hb
       ·rw[h]at hb;simp only[Option.map_some,Option.some.injEq]at hb;subst hb;exact⟨h4,Ng.o _ h⟩
      have zL:Mod (fun b=>B.map (·.block)=some b) w9 w10:=⟨MY.os,MY.tape,MY.output,MY.size,fun b hb hn=>MY.block b hb (fun e=>hn e.symm)⟩;refine⟨(Jv.o.below h9).mod zL (fun b hb e=>(GG b e).2 hb) (fun e=>by have:=(GG 0 e).1;omega) (fun e=>by have:=(GG c e).1;have:=YU.o.lts.1;omega) (fun e=>by have:=(GG m e).1;omega),?_⟩;have SV:Mod (fun b=>Both S m b\/w7.heap.size<=b) w7 w10:=(Ew.o.sub fun b hb=> .inl hb).trans (Out.refl _ _) ((Mod.of h9).trans (Out.refl _ _) (zL.sub fun b hb=> .inr (GG b hb).1));exact⟨SV.os,SV.tape,SV.output,SV.size,fun b hb hn=>SV.block b hb (fun e=>e.elim hn (fun e=>o_))⟩
     have YF:=wP Qa;clear xJ Qa;go_wp2_with (first
      |(at_builtin;refine qz rfl (.tmp 121) (.tmp 123) rfl w7.heap.size B cap gs rfl (FA.o.alloc _) f w8.heap.size 1 rfl (ab _ _) o_ t_ ?_;intro g' xq w10 Ox WD Qp hlt10;have JK:=YF.o _ _ ((xp w8.heap.size w8).alloc (wS _) _) WD;have hrw: ∀b,some (⟨g',0,none⟩:Addr)=some ⟨b,0,none⟩-> ¬S3 b:=row_not AS.o.form Ng.o Qp (fun b hb=>by have:=Wb b hb;simp;omega);obtain⟨HGR,HRW,HO10⟩:=zh3 JK hrw Ox;clear JK hrw Ox WD Qp)
      |fail)
     go_roundw
     case rel=>exact⟨gs++[f],some ⟨g',0,none⟩,xq,p3,L3,S3,by rw[wU];rfl,by rw[wU];go_num,by rw[wU];simp;omega,HO10.o,HRW.o,HGR.o.1,HGR.o.2,Jk.o,Ll.o.step yc.o⟩
     case measure=>simp[intOf];omega
    ·have XF:=FA.o.form;have Xj:al w8 t c a root:=(Kd.o _ _ Ew.o Jk.o).1;have KY:=((Kd.o _ _ Ew.o Jk.o).2.2.1).trans QM.o;obtain⟨s1,s2,s3,s4⟩:=(Kd.o _ _ Ew.o Jk.o).2.2.2;obtain⟨HT8,HL8,HBF⟩:=zh3 Xj KY XF;have ht8:t<w8.heap.size:=o_;have h08:w.heap.size<w8.heap.size:=o_;have Of:w7.heap.size<=w8.heap.size:=s4;have NP:gs.length<=3:=o_;have Mm: ∀s∈L,s∉L3->Loose T L hold s:=fun s CY Cx=>by
      obtain⟨l1,l2,l3,l4⟩:=Ll.o.drop s CY Cx;refine⟨l1,l2,l3,?_⟩;rw[<-Nu.o]at l4;by_cases e:s.frame=l.frame
      ·rw[e,af]at l4;omega
      ·rwa [ah _ _ e]at l4
     have Tp:=wP Mm;clear Mm;have Hd: ∃gs:List Nat,gs.length<=2/\ ∀f,f<p.n->ax L f<=1->0<ai T f+ay T f+hold f\/f=l.frame\/f∈gs:=by
      refine⟨gs,o_,fun f hf hs=>?_⟩;rcases Ll.o.full xJ (f:=f) (by rw[<-Gg.o];exact hf) hs with h9|h9
      ·by_cases e:f=l.frame
       ·exact .inr (.inl e)
       ·left;rw[<-Nu.o,ah _ _ e]at h9;exact h9
      ·exact .inr (.inr h9)
     have Nx:=wP Hd;clear Hd;have Ry:p.left<=2:=by
      have h1:=Ll.o.room;have h2:=xJ.full;have h3:p1.left=p.left:=(by rw[<-Gg.o];exact vh yN);omega
     clear Xj KY XF xJ;go_wp2_with fail;go_loopw [102] (fun i wx=> ∃(j:Nat) (p4:Pool),i= .int .i64 (j:Int)/\j<=gs.length/\au wx S3 c a fs m clock p4 L3/\Mod S3 w8 wx/\Undo T p1.n p1.dat L3 Ce pgA (gs.drop j) p4) (fun i _ =>3-(intOf i).toNat)
     case atStart=>exact⟨0,_,rfl,xm _,Jv.o,Mod.refl _ _,Ll.o.undo⟩
     case round=>
      obtain⟨j,p4,rfl,hj,Fs,zl,Lz⟩:=hrel;obtain⟨Ey,Tc,Hw⟩:=zh3 Fs Lz zl;clear Fs Lz;by_cases Cj:j<gs.length
      ·obtain⟨f1,DH⟩: ∃f1,gs[j]? =some f1:=⟨gs[j],wV Cj⟩;have zb:gs.drop j=f1::gs.drop (j+1):=by
        rw[List.drop_eq_getElem_cons Cj];congr 1;have:=wV Cj;rw[DH]at this;injection this with this;exact this.symm
       rcases HBF.o with⟨h,h2,_⟩|⟨g1,Cq,Ck,yE,Im⟩
       ·rw[h2]at Cj;cases Cj
       ·have Oj:=Tc.o;rw[zb]at Oj;obtain⟨v1,v2⟩:=Oj.live;have HUN1:=wP Oj.step;have AV:OwnN wr w7.heap.size B cap gs:=FA.o.same fun b hb=>zl.block b (by rw[Cq]at hb;injection hb with hb;injection hb with hb;omega) (Ng.o b hb);have e1:wr.cell? ⟨t,1,none⟩=some (.pointer (some ⟨a,0,none⟩)):=aa ((zl.block t ht8 s1).trans HT8.o) 1;subst Cq;have e5:wr.cell? ⟨g1,j,none⟩=some (.int .i64 (f1:Int)):=AV.elem DH;clear DH zb Oj AV Tc;go_wp2_with fail;refine(du a f1 wr S3 p4 Ey.o.pool v1 v2).mono ?_;rintro e w9⟨rfl,MQ,Ba⟩;go_wp2_with fail;go_roundw
        case rel=>exact⟨j+1,_,by go_num,o_,Ey.o.turn Ba MQ (Out.refl _ _),Hw.o.trans (Out.refl _ _) Ba,HUN1.o⟩
        case measure=>simp[intOf];omega
      ·obtain rfl:j=gs.length:=o_;have Ly:=Tc.o;rw[List.drop_length]at Ly;have yE:=Ly.good;rw[mH]at yE;have hh:0<Ce l.frame:=(by rw[<-Nu.o,af];omega);have GP:p4.n=p1.n:=Ly.n;have EB:p1.n=p.n:=(by rw[<-Gg.o];rfl);have Ee:=yE.cnt l.frame o_;have Im:=yE.down (f:=l.frame) (by unfold held;omega);rw[fH _ _ _ hh]at Im;have BG:upd Ce l.frame (Ce l.frame-1)=hold:=by
        rw[<-Nu.o,af];funext x;by_cases e:x=l.frame
        ·subst e;rw[af];omega
        ·rw[ah _ _ e,ah _ _ e]
       rw[BG]at Im;have PY: ∀x,¬an T x->(x=l.frame\/0<hold x+ai T x+ax L3 x)->p4.dat x=p.dat x:=fun x _ hx=>by
        have h9:=Ly.dat x (by rw[<-Nu.o];by_cases e:x=l.frame;(· subst e;rw[af];omega);(· rw[ah _ _ e];exact hx.resolve_left e));rw[h9,<-Gg.o];rfl
       have YB:=wP PY;clear PY;have LH:=Ll.o.sole;have FI:=Ll.o.sub;have hTx:al wr t c a root:=(zl.block t ht8 s1).trans HT8.o;have Mh:=(zl.block _ h08 s3).trans HL8.o;have d0:wr.cell? ⟨t,1,none⟩=some (.pointer (some ⟨a,0,none⟩)):=aa hTx 1;have d1:wr.cell? ⟨w.heap.size,0,none⟩=some (.int .i64 fr):=aa Mh 0;have OG:=du a l.frame wr.drew S3 p4 Ey.o.pool.drew o_ (by unfold held at Ee;omega);rw[<-FE.o]at OG;obtain⟨YQ,HG3⟩:=zh2 OG Im;clear Ly yE Ee Im hTx Mh OG BG;go_upto_region 27 with(fail)
       go_still_tail 6,k_
       go_wp2_with fail;refine(YQ.o).mono ?_;rintro e w9⟨rfl,MQ,OB⟩;have Ba:=OB.undrew;go_wp2_with fail;go_ret;have RI:Mod (Both S m) w w7:=(Mod.of hB6).trans (Out.refl _ _) (yY.sub fun b hb=> .inl hb);have hz7w:w.heap.size<=w7.heap.size:=o_;exact⟨4,_,T,_,S3,rfl,Ey.o.turn Ba MQ (Out.refl _ _),(RI.trans (Out.refl _ _) Ew.o).trans (fun b hb=>(Jk.o b hb).imp .inl (fun h=>o_)) (Hw.o.trans (Out.refl _ _) Ba),fun b hb=>(Jk.o b hb).imp id (fun h=>o_),⟨by rw[Nk.o]at HG3;exact HG3.o,by show p4.n=p.n;omega,LH,FI,.inl ⟨rfl,rfl,Ry,Tp.o⟩⟩,YB.o,.inl ⟨rfl,Nx.o⟩⟩
   ·have heq:gs.length=3-k:=Nat.le_antisymm hle (Nat.le_of_not_lt xw);have Nb:=wP PD;have XF:=xC.form;have Bd:=eI.start PD (d:=k) (g:=g) (by rw[heq];exact Nat.add_sub_cancel' hk) (by rw[Nk.o];exact Hv.o) (by rw[Nk.o];exact HEND.o);have xW:=k3.trans QM.o;have hp2:=k2.trans Cs.o;obtain⟨wl,UL⟩:=e_ wr;subst UL;obtain⟨zU,HLK,Jq,QE,Uq,HBF,AS,zR⟩:=zh8 Ft Bd xW hp2 k1 XF xC xG;have htl:t<wl.heap.size:=o_;have h3l:w3.heap.size<wl.heap.size:=o_;have h0l:w.heap.size<wl.heap.size:=o_;clear Ft Bd xW hp2 k1 k2 k3 XF xC xG PD;go_wp2_with fail;go_loopw [10,11,128] (fun nn dd i wx=> ∃(j d g4:Nat) (p4:Pool) (T4:Tab),nn= .int .i64 (g4:Int)/\dd= .int .i64 (d:Int)/\i= .int .i64 (j:Int)/\d=k+j/\j<=gs.length/\au wx S2 c a fs m clock p4 L2/\Mod S2 wl wx/\eI T p1.n p1.left p1.dat L2 Ce pgA d g4 (gs.drop j) p4 T4) (fun _ _ i _ =>3-(intOf i).toNat)
    case atStart=>exact⟨0,k,g,p2,T,rfl,rfl,rfl,rfl,xm _,zU.o,Mod.refl _ _,HLK.o⟩
    case round=>
     obtain⟨j,d,g4,p4,T4,rfl,rfl,rfl,WM,hj,Fs,zl,RL⟩:=hrel;obtain⟨Ey,Gh,Hw,NZ⟩:=zh4 Fs RL zl ((zl.block t htl k4).trans Uq.o);have Zr:=(zl.block _ h3l k5).trans QE.o;have Mh:=(zl.block _ h0l k6).trans Jq.o;obtain⟨v1,v2⟩:=RL.live;clear Fs RL;by_cases Cj:j<gs.length
     ·obtain⟨f1,DH⟩: ∃f1,gs[j]? =some f1:=⟨gs[j],wV Cj⟩;have zb:gs.drop j=f1::gs.drop (j+1):=by
       rw[List.drop_eq_getElem_cons Cj];congr 1;have:=wV Cj;rw[DH]at this;injection this with this;exact this.symm
      rcases HBF.o with⟨h,h2,_⟩|⟨g1,Cq,Ck,yE,Im⟩
      ·rw[h2]at Cj;cases Cj
      ·have Mp:=Gh.o;rw[zb]at Mp;have FP:=(Mp.each f1 (xl ..)).1;have GP:p4.n=p1.n:=Mp.n;have xD:=Gi.few;have hf1k:f1<1024:=o_;have hd3:d<3:=o_;have HLN1:=wP Mp.step;have AV:OwnN wr w7.heap.size B cap gs:=AS.o.same fun b hb=>zl.block b (by rw[Cq]at hb;injection hb with hb;injection hb with hb;omega) (zR.o b hb);subst Cq;have e5:wr.cell? ⟨g1,j,none⟩=some (.int .i64 (f1:Int)):=AV.elem DH;have Gk:wr.cell? ⟨w3.heap.size,d,none⟩=some (.int .i64 ((num (A.toNat/4096) (4-d):Nat):Int)):=kF Zr o_;obtain⟨nm,Kp⟩:=e_ (num (A.toNat/4096) (4-d));rw[<-Kp]at Gk;have RF:nm<512:=(by rw[Kp];exact ce _ _);have Fh:=vg hf1k;obtain⟨ZU,SY,HDK,HEQ⟩:=zh4 Kp Fh WM heq;clear DH zb Mp AV Gh Kp Fh Zr Mh WM heq GP;go_wp2_with fail;rw[SY.o];refine(ib t c a root g4 nm (f1*4096+1) wr S2 p4 Ey.o.pool NZ.o (by have:=zl.size;omega) v1 v2 RF o_).mono ?_;rintro e w9⟨rfl,MQ,Ba⟩;go_wp2_with fail;go_roundw
       case rel=>exact⟨j+1,d+1,f1,_,_,rfl,by go_num,by go_num,by have:=HDK.o;omega,o_,Ey.o.turn Ba MQ (Out.refl _ _),Hw.o.trans (Out.refl _ _) Ba,by rw[ZU.o,<-Nk.o];exact HLN1.o⟩
       case measure=>simp[intOf];omega
     ·obtain rfl:j=gs.length:=o_;obtain rfl:d=3:=o_;have Mo:=Gh.o;rw[List.drop_length]at Mo;have EB:p1.n=p.n:=(by rw[<-Gg.o];rfl);have hh:0<Ce l.frame:=(by rw[<-Nu.o,af];omega);have Ov:l.prot<=7:=by
       have h9:=of_decide_eq_false g3;rw[HQ.o]at h9;omega
      have xL:T.lf pgA=none:=by
       have h9:=Lo.o;rw[Nk.o];cases hc:T.lf (A.toNat/4096)with
       |none=>rfl
       |some y=>rw[hc]at h9;cases h9
      have xB:=Mo.fin (by rw[Nk.o];exact zq) xL Ov (by rw[EB];exact An) hh;have BG:upd Ce l.frame (Ce l.frame-1)=hold:=by
       rw[<-Nu.o,af];funext x;by_cases e:x=l.frame
       ·subst e;rw[af];omega
       ·rw[ah _ _ e,ah _ _ e]
      rw[BG]at xB;have GP:p4.n=p1.n:=Mo.n;have xD:=Gi.few;have Ou:=fun W=>nN l W Ov o_;have PX:l.pack<18446744073709551616:=(by have:=eR l Ov o_;omega);simp only[<-FE.o,<-HQ.o,<-Oe.o]at Ou;have Gk:wr.cell? ⟨w3.heap.size,3,none⟩=some (.int .i64 ((num (A.toNat/4096) 1:Nat):Int)):=kF Zr o_;rw[<-Nk.o]at Gk;have x0:wr.cell? ⟨w.heap.size,0,none⟩=some (.int .i64 fr):=aa Mh 0;have x1:wr.cell? ⟨w.heap.size,1,none⟩=some (.int .u8 q):=aa Mh 1;have x2:wr.cell? ⟨w.heap.size,2,none⟩=some (.bool cp):=aa Mh 2;have h3r:w3.heap.size<wr.heap.size:=(by have:=zl.size;omega);have Om:t<wr.heap.size:=(by have:=zl.size;omega);have hzl:w7.heap.size<=wl.heap.size:=k7;have VR:p4.n=p.n:=o_;have LH:=Nb.o.sole;have FI:=Nb.o.sub;obtain⟨nm,Kp⟩:=e_ (num pgA 1);rw[<-Kp]at Gk xB;have RF:nm<512:=(by rw[Kp];exact ce _ _);have Cu:=wP xB;have Br:(∀x,¬an T x->(x=l.frame\/0<hold x+ai T x+ax L2 x)->(p4.store g4 (aG (p4.dat g4) nm l.pack)).dat x=p.dat x)/\(∀x,an (T4.lay pgA (some l)) x->an T x\/(p4.store g4 (aG (p4.dat g4) nm l.pack)).cnt x=1)/\p.left<=(p4.store g4 (aG (p4.dat g4) nm l.pack)).left+3:=by
       obtain⟨f1,f2,f3⟩:=Mo.fin2 (some l) (aG (p4.dat g4) nm l.pack);refine⟨fun x hn hx=>?_,f2,?_⟩
       ·rw[f1 x hn (by rw[<-Nu.o];by_cases e:x=l.frame;(· subst e;rw[af];omega);(· rw[ah _ _ e];exact hx.resolve_left e)),<-Gg.o];rfl
       ·have h3:p1.left=p.left:=(by rw[<-Gg.o];exact vh yN);omega
      have Tx:=wP Br;clear Br;obtain⟨ZS,HEQ,HN⟩:=zh3 Ou heq VR;clear Mo EB xL xB BG GP Ou Zr Mh Kp Gh heq VR WM;go_wp2_with fail;go_region_with
       ((
        first
        |(go_at_call 118;refine(ZS.o _).mono ?_;rintro e w9⟨rfl,hb9'⟩;have Gq:Below wr.heap.size wr w9:=bw hb9';have hpc':w9.cell? ⟨w3.heap.size,3,none⟩=some (.int .i64 (nm:Int)):=(Gq.cell (p:=⟨w3.heap.size,3,none⟩) h3r).trans Gk)
        |(go_at_call 112;refine(ib t c a root g4 nm l.pack _ S2 _ (Ey.o.pool.below Gq) ((Gq.block t Om).trans NZ.o) (by have:=Gq.size;omega) v1 v2 RF PX).mono ?_;rintro e w10⟨rfl,hP10,zL⟩)))
      all_goals
       go_wp2_with fail;go_ret;have RI:Mod (Both S m) w w7:=(Mod.of hB6).trans (Out.refl _ _) (yY.sub fun b hb=> .inl hb);exact⟨0,_,_,_,S2,rfl,(Ey.o.below Gq).turn zL hP10 (Out.refl _ _),(RI.trans (Out.refl _ _) xS).trans (fun b hb=>(zD b hb).imp .inl (fun h=>o_)) (Hw.o.trans (Out.refl _ _) ((Mod.of Gq).trans (Out.refl _ _) zL)),fun b hb=>(zD b hb).imp id (fun h=>o_),⟨by rw[<-Nk.o];exact Cu.o.1,HN.o,LH,FI,.inr ⟨rfl,by rw[<-Nk.o];exact Cu.o.2.1,Cu.o.2.2.1,Cu.o.2.2.2⟩⟩,Tx.o.1,.inr ⟨rfl,Tx.o.2.1,Tx.o.2.2⟩⟩
end
section
open Go.RowKit Go.Sort
open Go.MapKept (Stamped)
theorem oZ (c a fs m:Nat)(clock:Int)(w:World)(h:aN w c a fs m clock):Calls prog 61 #[.pointer (some ⟨c,0,none⟩)] w fun e w'=>e= .returned (.pointer (some ⟨a,0,none⟩))/\w=w':=by
 have c0:w.cell? ⟨c,0,none⟩=some (.pointer (some ⟨a,0,none⟩)):=aa h 0;clear h;go_enter func61,ntmps61;go_wp2_with fail;go_ret;exact⟨rfl,rfl⟩
theorem rH (a fs:Nat)(w:World)(S:Nat->Prop)(p:Pool)(h:am w S a p):Calls prog 39 #[.pointer (some ⟨a,0,none⟩),.pointer (some ⟨fs,0,none⟩)] w
  fun e w'=> ∃c m,e= .returned (.tuple #[.pointer (some ⟨c,0,none⟩),.int .i64 0])/\au w' S c a fs m 0 p []/\Below w.heap.size w w'/\w.heap.size<=c/\w.heap.size<=m:=by
 have HP:=wP h;clear h;have EC:= @run_makeMap prog;go_enter func39,ntmps39;go_wp2_with fail;go_ret2;have xu:Below w.heap.size w (w.alloc (.map #[] 0)):=wR;have hb:Below w.heap.size w ((w.alloc (.map #[] 0)).alloc (.cells #[.pointer (some ⟨a,0,none⟩),.pointer (some ⟨fs,0,none⟩),.map (some w.heap.size),.int .i64 0] 125)):=xu.alloc s_ _;have hl:=HP.o.low;refine⟨w.heap.size+1,w.heap.size,s_,⟨HP.o.below hb,?_,?_,fun e=>by have:=hl _ e;omega,fun e=>by have:=hl _ e;omega⟩,hb,o_,wS _⟩
 ·have:=ab (w.alloc (.map #[] 0)) (.cells #[.pointer (some ⟨a,0,none⟩),.pointer (some ⟨fs,0,none⟩),.map (some w.heap.size),.int .i64 0] 125);simpa [aN]using this
 ·refine⟨#[],0,⟨?_,?_,rfl,fun s hs=>by cases hs⟩⟩
  ·exact(wT _ _ _ s_).trans (ab w _)
  ·exact Go.MapKept.stamped_empty 0
theorem aw.first {p p':Pool}{L L':List Slot}{r:Int}{f g:Nat}(h:aw p L r f p' L')(hl:p.lowest=some g):r=0/\f=g/\p'=p.takeAt g/\L'=L:=by
 cases h with
 |free f h1=>rw[hl]at h1;injection h1 with h1;subst h1;exact⟨rfl,rfl,rfl,rfl⟩
 |loose s h1=>rw[hl]at h1;cases h1
 |none h1=>rw[hl]at h1;cases h1
end
section
open Go.RowKit
def nA (R:World->List Ev->(Nat->Prop)->Prop):Prop:= ∀w w' l X,R w l X->Below w.heap.size w w'->R w' l X
structure fc (R:World->List Ev->(Nat->Prop)->Prop)(S:Nat->Prop)(t:Nat)(w:World)(l:List Ev)(X:Nat->Prop):Prop where
 rel:R w l X
 low: ∀b,X b->b<w.heap.size
 apart: ∀b,S b-> ¬X b
 noT: ¬X t
 no0: ¬X 0
theorem fc.below {R:World->List Ev->(Nat->Prop)->Prop}{S:Nat->Prop}{t:Nat}{w w':World}{l:List Ev}{X:Nat->Prop}(h:fc R S t w l X)(hR:nA R)(hb:Below w.heap.size w w'):fc R S t w' l X:=
 ⟨hR w w' l X h.rel hb,fun b hx=>wW (h.low b hx) hb.size,h.apart,h.noT,h.no0⟩
def dN (w:World)(X:Nat->Prop)(R:World->List Ev->(Nat->Prop)->Prop)(S:Nat->Prop)(t:Nat)(l:List Ev)(e:Ending)(w':World):Prop:=
 e= .returned (.tuple #[])/\ ∃X',fc R S t w' l X'/\Mod X w w'/\Out X X' w
variable {i:Nat}
theorem or_at {a b:Nat}(hb:b<2^i)(h:a*2^i+b<18446744073709551616):bits .or .u64 ((a*2^i:Nat):Int) (b:Int)=((a*2^i+b:Nat):Int):=by
 rw[bits_or_u64_nat _ _ o_ o_];have:=Nat.two_pow_add_eq_or_of_lt hb a;rw[Nat.mul_comm a (2^i)];exact congrArg _ this.symm
def qE (bo:Nat)(f1:FuncId)(C1:Array Value)(f2:FuncId)(C2:Array Value):Prop:=
 (f1=131/\C1= #[.pointer (some ⟨bo,0,none⟩)]/\f2=132/\C2= #[])\/(f1=75/\C1= #[]/\f2=76/\C2= #[.pointer (some ⟨bo,0,none⟩)])\/(f1=94/\C1= #[.pointer (some ⟨bo,0,none⟩)]/\f2=95/\C2= #[.pointer (some ⟨bo,0,none⟩)])
def rN (f1:FuncId)(C1:Array Value)(f2:FuncId)(C2:Array Value)(LV:Nat)(D:Int):Prop:=
 ∀(t c a root g q:Nat) (R:World->List Ev->(Nat->Prop)->Prop) (w:World) (S:Nat->Prop) (p:Pool) (T:Tab) (rest:Nat->Nat) (pg0:Nat) (X:Nat->Prop) (l:List Ev),am w S a p->al w t c a root->T.Good p rest pg0 4->T.nd LV q=some g->q<512^(4-LV)->
  fc R S t w l X->l.length+(T.evs LV q).length<1000000->nA R->
  (∀(w:World) (l:List Ev) (X:Nat->Prop) (f:Nat),fc R S t w l X->l.length<1000000->Calls prog f1 (#[.int .i64 (f:Int)]++C1) w (dN w X R S t (l++[.node f])))->
  (∀(w:World) (l:List Ev) (X:Nat->Prop) (pg:Nat) (y:Leaf),fc R S t w l X->l.length<1000000->Calls prog f2 (#[.int .u64 ((pg*4096:Nat):Int),.agg #[.int .i64 (y.frame:Int),.int .u8 (y.prot:Int),.bool y.copy]]++C2) w (dN w X R S t (l++[.leaf pg y])))->
  ∀fr:Int,fr=((q*512^LV*4096:Nat):Int)->
  Calls prog 74 #[.pointer (some ⟨t,0,none⟩),.int .i64 (g:Int),.int .i64 D,.int .u64 fr,.func (.func f1) #[] C1,.func (.func f2) #[] C2] w (dN w X R S t (l++T.evs LV q))
variable {LW:Nat}
theorem uY {q k c:Nat}(hi:i=12+9*(LW+1))(hc:c=512^LW*4096)(hL:LW<4)(hq:q<512^(4-(LW+1)))(hk:k<512):bits .or .u64 ((q*512^(LW+1)*4096:Nat):Int) ((k:Int)*(c:Int))=(((q*512+k)*512^LW*4096:Nat):Int):=by
 have hL':LW=0\/LW=1\/LW=2\/LW=3:=o_;have key:q*512^(LW+1)*4096=q*2^i/\(q*512+k)*512^LW*4096=q*2^i+k*c/\k*c<2^i/\q*2^i+k*c<18446744073709551616:=by
  subst hi hc;rcases hL' with rfl|rfl|rfl|rfl<;>(simp only[Nat.reducePow,Nat.reduceSub,Nat.reduceAdd,Nat.reduceMul]at hq⊢;omega)
 obtain⟨e2,e3,b1,b2⟩:=key;rw[show((k:Int)*(c:Int))=((k*c:Nat):Int)from(Int.natCast_mul k c).symm,e2,e3];exact or_at b1 b2
variable {bo:Nat}{f1 f2:FuncId}{C1 C2:Array Value}
theorem vis_leaf (hk:qE bo f1 C1 f2 C2):rN f1 C1 f2 C2 1 3:=by
 intro t c a root g q R w S p T rest pg0 X l h ht xP hq PL hv hlen hR hn hl fr zM;have Sd:=Tab.evs_node hq;obtain⟨g1,g2⟩:=xP.node hq;have DM:=(xP.but.words _ q g hq).2;have xD:=xP.but.few;have yC:t<w.heap.size:=(wO ht).1;rw[Sd]at hlen⊢;simp only[xd]at hlen;have Dg: ∀k,k<512->l.length+(T.upto 0 q k).length+(T.evs 0 (q*512+k)).length+1<1000000:=fun k hk=>by
  have h1:=T.upto_le 0 q (show k+1<=512 by omega);rw[Tab.upto_succ,wU]at h1;omega
 obtain⟨wd,Fh⟩:=e_ (T.word 1 q);obtain⟨up,AE⟩:=e_ (T.upto 0 q);have Lv: ∀k,k<512->dJ (fun i=>p.dat g (0+i)) (8*k) 8=wd k:=fun k hk=>by
  rw[Fh,<-DM k hk];unfold word;refine gP fun i _ =>?_;rw[Nat.zero_add]
 have xO: ∀k,k<512->(wd k=0/\up (k+1)=up k)\/ ∃(y:Leaf) (x:Nat),wd k=x/\x<18446744073709551616/\(bits .and .u64 (x:Int) 1==0)=false/\gB x=y/\ ∀(w4:World) (X':Nat->Prop),fc R S t w4 (l++ .node g::up k) X'->Calls prog f2 (#[.int .u64 (bits .or .u64 fr ((k:Int)*4096)),.agg #[.int .i64 (y.frame:Int),.int .u8 (y.prot:Int),.bool y.copy]]++C2) w4 (dN w4 X' R S t (l++ .node g::up (k+1))):=fun k hk=>by
  have hs:=T.upto_succ 0 q k;cases BV:T.lf (q*512+k)with
  |none=>exact .inl ⟨by rw[Fh];unfold Tab.word;rw[if_pos rfl,BV],by rw[AE,hs,Tab.evs_noleaf BV,List.append_nil]⟩
  |some y=>
   obtain⟨p7,pf⟩:=(xP.but.leaf _ y BV).2;have Bz:y.pack<18446744073709551616:=(by have:=eR y p7 o_;omega);refine .inr ⟨y,y.pack,by rw[Fh];unfold Tab.word;rw[if_pos rfl,BV],Bz,fO Bz (fZ y),eM y p7,fun w4 X' hv4=>?_⟩;have ho:bits .or .u64 ((q*512^1*4096:Nat):Int) ((k:Int)*4096)=(((q*512+k)*4096:Nat):Int):=(uY (LW:=0) (i:=21) (c:=4096) rfl rfl o_ PL hk).trans (by rw[Nat.pow_zero,Nat.mul_one]);have h1:=Dg k hk;rw[zM,ho,AE,hs,Tab.evs_leaf BV];have h9:=hl w4 (l++ .node g::up k) X' (q*512+k) y hv4 (by rw[AE,wU,xd];omega);rw[AE]at h9;simpa using h9
 have Tb:=wP (show up 0=[] by rw[AE];rfl);rw[<-AE];obtain⟨HN,HV,HP,HT,SY,Bo⟩:=zh6 (hn w l X g hv o_) hv h ht Lv xO;clear Sd hq hv h ht hn hl xP DM zM hlen Dg Fh AE Lv xO PL;rcases hk with⟨rfl,rfl,rfl,rfl⟩|⟨rfl,rfl,rfl,rfl⟩|⟨rfl,rfl,rfl,rfl⟩<;>(
  go_enter func74,ntmps74;go_wp2_with fail;refine(HN.o).mono ?_;rintro e w1⟨rfl,X1,GB,zn,yJ⟩;have Dm:al w1 t c a root:=(zn.block t yC HV.o.noT).trans HT.o;have EF:am w1 S a p:=HP.o.mod zn HV.o.apart HV.o.no0;have c1:w1.cell? ⟨t,1,none⟩=some (.pointer (some ⟨a,0,none⟩)):=aa Dm 1;obtain⟨BX,Gg,MZ⟩:=zh3 Dm EF GB;clear Dm EF GB;go_wp2_with fail;refine(gl a g 0 4096 w1 S p Gg.o g1 g2 o_ o_).mono ?_;rintro e w2⟨rfl,yw,xX,xx⟩;have AK: ∀i,p.dat g i<256:=by
   obtain⟨⟨C,B,F,wd,pt,hi,hS⟩,_,_,_⟩:=Gg.o;exact fun i=>hi.small g i
  have hX1: ¬X1 w1.heap.size:=fun e=>by have:=MZ.o.low _ e;omega
  have XX:=wP (MZ.o.below hR xx);have xQ:=zn.size;have yW:=wP yw;clear yw c1;go_wp2_with fail;go_loopw [30] (fun i wr=> ∃(k:Nat) (X':Nat->Prop),i= .int .i64 (k:Int)/\k<=512/\fc R S t wr (l++ .node g::up k) X'/\Mod X1 w2 wr/\Out X1 X' w2) (fun i _ =>512-(intOf i).toNat)
  case atStart=>exact⟨0,X1,rfl,o_,by rw[Tb.o];exact XX.o,Mod.refl _ _,Out.refl _ _⟩
  case round=>
   obtain⟨k,X',rfl,hk,UP,Dw,zg⟩:=hrel;have XY:=wP UP;have QZ:=Dw.size;clear UP;by_cases xw:k<512
   ·have XQ:aT wr w1.heap.size 4096 (fun i=>p.dat g (0+i)):=(Dw.block _ xX hX1).trans yW.o;obtain⟨HT',HP'⟩:=zh2 (show al wr t c a root from(Dw.block t o_ MZ.o.noT).trans ((xx.block t o_).trans BX.o)) ((Gg.o.below xx).mod Dw MZ.o.apart MZ.o.no0);go_wp2_with fail;refine(get_8 (8*k) 4096 4096 w1.heap.size (fun i=>p.dat g (0+i)) wr o_ o_ XQ (fun i=>AK _) o_).mono ?_;rintro e w3⟨rfl,xE⟩;rw[SY.o k xw];have zF:Mod X1 w2 w3:=Dw.trans zg (Mod.of xE);obtain⟨XW,Pk,Pe⟩:=zh3 (XY.o.below hR xE) (HP'.o.below xE) ((xE.block t o_).trans HT'.o);have zy:=xE.size;clear XQ;rcases Bo.o k xw with⟨e0,es⟩|⟨y,x,e0,Bz,II,AE,BE⟩
    ·have ES:=wP es;rw[e0];have hz:=iI;clear es e0;go_wp2_with fail;go_roundw
     case rel=>exact⟨k+1,X',by go_num,o_,by rw[ES.o];exact XW.o,zF,zg⟩
     case measure=>(simp[intOf];omega)
    ·rw[e0];obtain⟨Pc,NB⟩:=zh2 AE BE;clear AE BE e0;go_wp2_with fail;refine(eN x w3 Bz).mono ?_;rintro e w4⟨rfl,yG⟩;rw[Pc.o];go_wp2_with fail;refine(NB.o w4 X' (XW.o.below hR yG)).mono ?_;rintro e w5⟨rfl,X5,UO,yK,zE⟩;have zl:Mod X1 w2 w4:=zF.trans (fun b hb=>(zg b hb).imp id (fun h=>h)) (Mod.of yG);have RE:Out X1 X5 w2:=zg.trans zE zl.size;have GR:=zl.trans zg yK;have HV5:=wP UO;clear UO;go_wp2_with fail;go_roundw
     case rel=>exact⟨k+1,X5,by go_num,o_,HV5.o,GR,RE⟩
     case measure=>(simp[intOf];omega)
   ·obtain rfl:k=512:=o_;go_wp2_with fail;go_end0;exact⟨rfl,X',XY.o,zn.trans yJ ((Mod.of xx).trans (Out.refl _ _) Dw),yJ.trans (fun b hb=>(zg b hb).imp id (fun h=>xn xx.size h)) xQ⟩)
theorem kh (hk:qE bo f1 C1 f2 C2){cc:Nat}{D E:Int}(hc:(LW=1/\D=2/\E=3/\cc=2097152)\/(LW=2/\D=1/\E=2/\cc=1073741824)\/(LW=3/\D=0/\E=1/\cc=549755813888))(ih:rN f1 C1 f2 C2 LW E):rN f1 C1 f2 C2 (LW+1) D:=by
 intro t c a root g q R w S p T rest pg0 X l h ht xP hq PL hv hlen hR hn hl fr zM;have Sd:=Tab.evs_node hq;obtain⟨g1,g2⟩:=xP.node hq;have DM:=(xP.but.words _ q g hq).2;have xD:=xP.but.few;have yC:t<w.heap.size:=(wO ht).1;rw[Sd]at hlen⊢;simp only[xd]at hlen;have Dg: ∀k,k<512->l.length+(T.upto LW q k).length+(T.evs LW (q*512+k)).length+1<1000000:=fun k hk=>by
  have h1:=T.upto_le LW q (show k+1<=512 by omega);rw[Tab.upto_succ,wU]at h1;omega
 obtain⟨wd,Fh⟩:=e_ (T.word (LW+1) q);obtain⟨up,AE⟩:=e_ (T.upto LW q);have Lv: ∀k,k<512->dJ (fun i=>p.dat g (0+i)) (8*k) 8=wd k:=fun k hk=>by
  rw[Fh,<-DM k hk];unfold word;refine gP fun i _ =>?_;rw[Nat.zero_add]
 have h1L:1<=LW/\LW<4/\cc=512^LW*4096:=by rcases hc with⟨rfl,_,_,rfl⟩|⟨rfl,_,_,rfl⟩|⟨rfl,_,_,rfl⟩<;>decide
 obtain⟨h1L,h4L,hcc⟩:=h1L;have xO: ∀k,k<512->(wd k=0/\up (k+1)=up k)\/ ∃(f x:Nat),wd k=x/\x<18446744073709551616/\(bits .and .u64 (x:Int) 1==0)=false/\((x:Int)/4096)=(f:Int)/\ ∀(w3:World) (X':Nat->Prop),am w3 S a p->al w3 t c a root->fc R S t w3 (l++ .node g::up k) X'->Calls prog 74 #[.pointer (some ⟨t,0,none⟩),.int .i64 (f:Int),.int .i64 E,.int .u64 (bits .or .u64 fr ((k:Int)*(cc:Int))),.func (.func f1) #[] C1,.func (.func f2) #[] C2] w3 (dN w3 X' R S t (l++ .node g::up (k+1))):=fun k hk=>by
  have hs:=T.upto_succ LW q k;have xv:wd k=match T.nd LW (q*512+k)with|some f=>f*4096+1|none=>0:=by
   rw[Fh];unfold Tab.word;rw[if_neg o_];rfl
  cases BV:T.nd LW (q*512+k)with
  |none=>
   obtain⟨m,rfl⟩: ∃m,LW=m+1:=⟨LW-1,o_⟩;exact .inl ⟨by rw[xv,BV],by rw[AE,hs,Tab.evs_none BV,List.append_nil]⟩
  |some f=>
   obtain⟨n1,n2⟩:=xP.node BV;have Bz:f*4096+1<18446744073709551616:=o_;refine .inr ⟨f,f*4096+1,by rw[xv,BV],Bz,fO Bz o_,o_,fun w3 X' hP hT hv3=>?_⟩;have h1:=Dg k hk;have hqk:q*512+k<512^(4-LW):=by
    have e9:512^(4-LW)=512^(4-(LW+1))*512:=(by rw[<-Nat.pow_succ];congr 1;omega);rw[e9];omega
   have h9:=ih t c a root f (q*512+k) R w3 S p T rest pg0 X' (l++ .node g::up k) hP hT xP BV hqk hv3 (by rw[AE,wU,xd];omega) hR hn hl (bits .or .u64 fr ((k:Int)*(cc:Int))) (by rw[zM];exact uY rfl hcc h4L PL hk);have e8:(l++ .node g::up k)++T.evs LW (q*512+k)=l++ .node g::up (k+1):=(by rw[AE,hs];simp);rw[e8]at h9;exact h9
 have Tb:=wP (show up 0=[] by rw[AE];rfl);rw[<-AE];obtain⟨HN,HV,HP,HT,SY,Bo⟩:=zh6 (hn w l X g hv o_) hv h ht Lv xO;clear Sd hq hv h ht hn hl xP DM zM hlen Dg Fh AE Lv xO PL ih hcc h1L h4L;rcases hk with⟨rfl,rfl,rfl,rfl⟩|⟨rfl,rfl,rfl,rfl⟩|⟨rfl,rfl,rfl,rfl⟩<;>rcases hc with⟨rfl,rfl,rfl,rfl⟩|⟨rfl,rfl,rfl,rfl⟩|⟨rfl,rfl,rfl,rfl⟩<;>(
  go_enter func74,ntmps74;go_wp2_with fail;refine(HN.o).mono ?_;rintro e w1⟨rfl,X1,GB,zn,yJ⟩;have Dm:al w1 t c a root:=(zn.block t yC HV.o.noT).trans HT.o;have EF:am w1 S a p:=HP.o.mod zn HV.o.apart HV.o.no0;have c1:w1.cell? ⟨t,1,none⟩=some (.pointer (some ⟨a,0,none⟩)):=aa Dm 1;obtain⟨BX,Gg,MZ⟩:=zh3 Dm EF GB;clear Dm EF GB;go_wp2_with fail;refine(gl a g 0 4096 w1 S p Gg.o g1 g2 o_ o_).mono ?_;rintro e w2⟨rfl,yw,xX,xx⟩;have AK: ∀i,p.dat g i<256:=by
   obtain⟨⟨C,B,F,wd,pt,hi,hS⟩,_,_,_⟩:=Gg.o;exact fun i=>hi.small g i
  have hX1: ¬X1 w1.heap.size:=fun e=>by have:=MZ.o.low _ e;omega
  have XX:=wP (MZ.o.below hR xx);have xQ:=zn.size;have yW:=wP yw;clear yw c1;go_wp2_with fail;go_loopw [30] (fun i wr=> ∃(k:Nat) (X':Nat->Prop),i= .int .i64 (k:Int)/\k<=512/\fc R S t wr (l++ .node g::up k) X'/\Mod X1 w2 wr/\Out X1 X' w2) (fun i _ =>512-(intOf i).toNat)
  case atStart=>exact⟨0,X1,rfl,o_,by rw[Tb.o];exact XX.o,Mod.refl _ _,Out.refl _ _⟩
  case round=>
   obtain⟨k,X',rfl,hk,UP,Dw,zg⟩:=hrel;have XY:=wP UP;have QZ:=Dw.size;clear UP;by_cases xw:k<512
   ·have XQ:aT wr w1.heap.size 4096 (fun i=>p.dat g (0+i)):=(Dw.block _ xX hX1).trans yW.o;obtain⟨HT',HP'⟩:=zh2 (show al wr t c a root from(Dw.block t o_ MZ.o.noT).trans ((xx.block t o_).trans BX.o)) ((Gg.o.below xx).mod Dw MZ.o.apart MZ.o.no0);go_wp2_with fail;refine(get_8 (8*k) 4096 4096 w1.heap.size (fun i=>p.dat g (0+i)) wr o_ o_ XQ (fun i=>AK _) o_).mono ?_;rintro e w3⟨rfl,xE⟩;rw[SY.o k xw];have zF:Mod X1 w2 w3:=Dw.trans zg (Mod.of xE);obtain⟨XW,Pk,Pe⟩:=zh3 (XY.o.below hR xE) (HP'.o.below xE) ((xE.block t o_).trans HT'.o);have zy:=xE.size;clear XQ;rcases Bo.o k xw with⟨e0,es⟩|⟨f,x,e0,Bz,II,EK,BE⟩
    ·have ES:=wP es;rw[e0];have hz:=iI;clear es e0;go_wp2_with fail;go_roundw
     case rel=>exact⟨k+1,X',by go_num,o_,by rw[ES.o];exact XW.o,zF,zg⟩
     case measure=>(simp[intOf];omega)
    ·rw[e0];obtain⟨Ht,NB⟩:=zh2 EK BE;clear EK BE e0;go_wp2_with fail;rw[Ht.o];refine(NB.o w3 X' Pk.o Pe.o XW.o).mono ?_;rintro e w5⟨rfl,X5,UO,yK,zE⟩;have RE:Out X1 X5 w2:=zg.trans zE zF.size;have GR:=zF.trans zg yK;have HV5:=wP UO;clear UO;go_wp2_with fail;go_roundw
     case rel=>exact⟨k+1,X5,by go_num,o_,HV5.o,GR,RE⟩
     case measure=>(simp[intOf];omega)
   ·obtain rfl:k=512:=o_;go_wp2_with fail;go_end0;exact⟨rfl,X',XY.o,zn.trans yJ ((Mod.of xx).trans (Out.refl _ _) Dw),yJ.trans (fun b hb=>(zg b hb).imp id (fun h=>xn xx.size h)) xQ⟩)
theorem tS (hk:qE bo f1 C1 f2 C2):rN f1 C1 f2 C2 4 0:=
 kh hk (.inr (.inr ⟨rfl,rfl,rfl,rfl⟩)) (kh hk (.inr (.inl ⟨rfl,rfl,rfl,rfl⟩)) (kh hk (.inl ⟨rfl,rfl,rfl,rfl⟩) (vis_leaf hk)))
end
section
open Go.RowKit
def pc (x:Nat×Leaf):List Value:=[.int .u64 ((x.1*4096:Nat):Int),.int .i64 (x.2.frame:Int),.int .u8 (x.2.prot:Int),.bool x.2.copy]
def OwnP (w:World)(base:Nat)(A:Option Addr)(cap:Nat)(l:List (Nat×Leaf)):Prop:=w.ownsRow base 85 4 (.slice A l.length cap) l.length (l.flatMap pc)
theorem put_info:(prog.info? 85).map (fun i=>(i.zero,i.size,i.bytes))=some (some (.agg #[.int .u64 0,.int .i64 0,.int .u8 0,.bool false]),4,24):=k_
structure nB {α:Type}(Own:World->Nat->Option Addr->Nat->List α->Prop):Prop where
 same: ∀ {w w':World} {base:Nat} {A:Option Addr} {cap:Nat} {l:List α},Own w base A cap l->(∀g,A=some ⟨g,0,none⟩->w'.heap[g]? =w.heap[g]?)->Own w' base A cap l
 form: ∀ {w:World} {base:Nat} {A:Option Addr} {cap:Nat} {l:List α},Own w base A cap l->(A=none/\l=[]/\cap=0)\/ ∃g,A=some ⟨g,0,none⟩/\base<=g/\g<w.heap.size/\l.length<=cap
theorem il:nB OwnN:=⟨fun h hb=>h.same hb,fun h=>h.form⟩
theorem dY:nB OwnP:=by
 constructor
 ·intro w w' base A cap l h hb;refine⟨h.1,?_⟩;rcases h.2 with h2|⟨g,xq,cur,h1,h2,h3,h4⟩
  ·exact .inl h2
  ·injection h1 with e1 e2 e3;exact .inr ⟨g,xq,cur,by rw[e1,e2,e3],h2,(hb g e1).trans h3,h4⟩
 ·intro w base A cap l h;rcases h.2 with⟨h2,h3⟩|⟨g,xq,cur,h1,h2,h3,h4,_⟩
  ·injection h2 with h4 h5 h6;exact .inl ⟨h4,List.eq_nil_of_length_eq_zero h3,h6⟩
  ·injection h1 with e1 e2 e3;subst e3;exact .inr ⟨g,e1,h2,(wO h3).1,h4⟩
def Pick {α:Type}(Own:World->Nat->Option Addr->Nat->List α->Prop)(ty:TypeId)(F:Ev->List α)(base bo:Nat):World->List Ev->(Nat->Prop)->Prop:=fun w l X=>
 ∃A cap,Own w base A cap (l.flatMap F)/\w.heap[bo]? =some (.cells #[.slice A (l.flatMap F).length cap] ty (0,0))/\(∀g,A=some ⟨g,0,none⟩->g≠bo)/\ ∀b,X b↔b=bo\/A=some ⟨b,0,none⟩
variable {ty:TypeId}{base bo:Nat}
theorem Pick.stays {α:Type}{Own:World->Nat->Option Addr->Nat->List α->Prop}(hO:nB Own){F:Ev->List α} :nA (Pick Own ty F base bo):=by
 rintro w w' l X⟨A,cap,h1,h2,h3,h4⟩ hb;refine⟨A,cap,hO.same h1 fun g hg=>?_,(hb.block bo (wO h2).1).trans h2,h3,h4⟩;rcases hO.form h1 with⟨e,_⟩|⟨g',e,_,xw,_⟩
 ·rw[e]at hg;cases hg
 ·rw[e]at hg;injection hg with hg;injection hg with hg;subst hg;exact hb.block _ xw
variable {w:World}{l:List Ev}{X S:Nat->Prop}{e:Ev}{t:Nat}
theorem Pick.pass {α:Type}{Own:World->Nat->Option Addr->Nat->List α->Prop}{F:Ev->List α}(h:fc (Pick Own ty F base bo) S t w l X)(he:F e=[]):
  dN w X (Pick Own ty F base bo) S t (l++[e]) (.returned (.tuple #[])) w:=by
 refine⟨rfl,X,⟨?_,h.low,h.apart,h.noT,h.no0⟩,Mod.refl _ _,Out.refl _ _⟩;obtain⟨A,cap,h1,h2,h3,h4⟩:=h.rel;have e1:(l++[e]).flatMap F=l.flatMap F:=(by simp[he]);exact⟨A,cap,by rw[e1];exact h1,by rw[e1];exact h2,h3,h4⟩
theorem Pick.more {α:Type}{Own:World->Nat->Option Addr->Nat->List α->Prop}(hO:nB Own){F:Ev->List α}{w0 w1 w2:World}{x:α}(h:fc (Pick Own ty F base bo) S t w l X)(he:F e=[x])
  {A:Option Addr}{cap g xq:Nat}(hX: ∀b,X b↔b=bo\/A=some ⟨b,0,none⟩)(hA:Own w base A cap (l.flatMap F))(xz:Below w.heap.size w w0)(hg:w0.grownBy w1 (A.map (·.block)))(yr:A.map (·.block)=some g\/g=w0.heap.size)(xw:g<w1.heap.size)
  (xC:Own w1 base (some ⟨g,0,none⟩) xq (l.flatMap F++[x]))(Gw: ∀g,A=some ⟨g,0,none⟩->g≠bo)(hbo:bo<w.heap.size)(hSb: ∀b,S b->b<base)(PE:t<base)(xu:0<base)
  (h2:w2.heap[bo]? =some (.cells #[.slice (some ⟨g,0,none⟩) (l.flatMap F++[x]).length xq] ty (0,0)))(xS:Mod (fun b=>b=bo) w1 w2)(xX:w2.heap.size=w1.heap.size):
  dN w X (Pick Own ty F base bo) S t (l++[e]) (.returned (.tuple #[])) w2:=by
 have yF:=hO.form hA;have xT:=xz.size;have xQ:=hg.size;have hgbo:g≠bo:=by
  rcases yr with e|e
  ·rcases yF with⟨e',_⟩|⟨g',e',_,_,_⟩
   ·rw[e']at e;cases e
   ·rw[e']at e;injection e with e;exact e▸Gw g' e'
  ·omega
 have Fm:base<=g:=by
  rcases hO.form xC with⟨e',_⟩|⟨g',e',h9,_,_⟩
  ·cases e'
  ·injection e' with e';injection e' with e';omega
 have hXA: ∀b,A.map (·.block)=some b->X b:=by
  intro b hb;rcases yF with⟨e',_⟩|⟨g',e',_,_,_⟩
  ·rw[e']at hb;cases hb
  ·rw[e']at hb;injection hb with hb;exact(hX b).2 (.inr (hb▸e'))
 have zn:Mod X w0 w1:=⟨hg.os,hg.tape,hg.output,hg.size,fun b hb hn=>hg.block b hb fun e=>hn (hXA b e.symm)⟩;have MO:X bo:=(hX bo).2 (.inl rfl);have hmod:Mod X w w2:=((Mod.of xz).trans (Out.refl _ _) zn).trans (Out.refl _ _) (xS.sub fun b hb=>hb▸MO);refine⟨rfl,fun b=>b=bo\/b=g,⟨⟨some ⟨g,0,none⟩,xq,?_,?_,fun g' e'=>?_,fun b=>?_⟩,?_,?_,?_,?_⟩,hmod,?_⟩
 ·rw[show(l++[e]).flatMap F=l.flatMap F++[x]from by simp[he]];refine hO.same xC fun g' e'=>?_;injection e' with e';injection e' with e';subst e';exact xS.block g xw hgbo
 ·rw[show(l++[e]).flatMap F=l.flatMap F++[x]from by simp[he]];exact h2
 ·injection e' with e';injection e' with e';omega
 ·constructor
  ·rintro(rfl|rfl)
   ·exact .inl rfl
   ·exact .inr rfl
  ·rintro(rfl|e')
   ·exact .inl rfl
   ·injection e' with e';injection e' with e';exact .inr e'.symm
 ·rintro b (rfl|rfl)
  ·omega
  ·omega
 ·intro b hb;have h9:=hSb b hb;rintro(rfl|rfl)
  ·exact h.apart _ hb MO
  ·omega
 ·rintro(rfl|rfl)
  ·exact h.noT MO
  ·omega
 ·rintro(e'|e')
  ·exact h.no0 (e'▸MO)
  ·omega
 ·rintro b (rfl|rfl)
  ·exact .inl MO
  ·rcases yr with e'|e'
   ·exact .inl (hXA _ e')
   ·exact .inr o_
theorem Pick.start {α:Type}{Own:World->Nat->Option Addr->Nat->List α->Prop}{F:Ev->List α}(hO:Own w base none 0 [])(hb:w.heap[bo]? =some (.cells #[.slice none 0 0] ty (0,0)))(hSb: ∀b,S b->b≠bo)(ht:t≠bo)(h0:bo≠0):
  fc (Pick Own ty F base bo) S t w [] (fun b=>b=bo):=
 ⟨⟨none,0,hO,hb,fun g e=>(by cases e),fun b=>⟨.inl,fun h=>h.elim id (fun e=>by cases e)⟩⟩,fun b e=>e▸(wO hb).1,fun b hs e=>hSb b hs e,fun e=>ht e,fun e=>h0 e.symm⟩
end
section
open Go.RowKit
end
section
open Go.RowKit
end
section
open Go.RowKit
theorem cW {α:Type}{F:Ev->List α}(hF: ∀e,(F e).length<=1)(l:List Ev):(l.flatMap F).length<=l.length:=by
 induction l with
 |nil=>simp
 |cons e l ih=>rw[xo,wU,xd];have:=hF e;omega
variable {w:World}
theorem app_put {ops:Array Oper}{rest:List Oper}{o:Oper}{a:Act}{Q:Exit->Act->World->Prop}(zH:o.guard=none)(s x:Operand)
  (ho:o.op= .call { callee:= .builtin .append,args:= #[s,x],argTypes:= #[80,80]})
  (base:Nat)(A:Option Addr)(cap:Nat)(l:List (Nat×Leaf))(hs:a.eval s= .slice A l.length cap)(xC:OwnP w base A cap l)
  (r:Nat×Leaf)(b c:Nat)(hx:a.eval x= .slice (some ⟨b,0,none⟩) 1 c)(hb:w.heap[b]? =some (.cells #[.int .u64 ((r.1*4096:Nat):Int), .int .i64 (r.2.frame:Int), .int .u8 (r.2.prot:Int), .bool r.2.copy] 85 (0,0)))
  (xD:l.length<1000000)(xH:base<=w.heap.size)
  (h: ∀g xq w',OwnP w' base (some ⟨g,0,none⟩) xq (l++[r])->w.grownBy w' (A.map (·.block))->(A.map (·.block)=some g\/g=w.heap.size)->g<w'.heap.size->wpList prog ops Q rest (a.put o.dst (.slice (some ⟨g,0,none⟩) (l.length+1) xq)) w'):
  wpList prog ops Q (o::rest) a w:=by
 obtain⟨i0,zx,xT,xQ,xX⟩:=info_parts put_info;refine wpList_append_lies w zH s x 80 ho base 85 i0 _ 4 24 underlying80 zx xT xQ xX rfl o_ _ l.length (l.flatMap pc) hs xC ⟨b,0,none⟩ 1 c (pc r) hx rfl (World.news_of_block (cs:= #[.int .u64 ((r.1*4096:Nat):Int),.int .i64 (r.2.frame:Int),.int .u8 (r.2.prot:Int),.bool r.2.copy]) hb)
  (by simp[pc,Value.oneCell']) o_ (by unfold maxLen;omega) o_ xH w.heap.size rfl ?_
 intro g xq w' zg hg yr xw;refine h g xq w' ?_ ?_ ?_ xw
 ·unfold OwnP;rw[List.flatMap_append,wU];simpa [pc]using zg
 ·cases A<;>simpa [Value.ownBlock]using hg
 ·cases A<;>simpa [Value.ownBlock]using yr
theorem Pick.cell {α:Type}{l:List α}{w0 w1:World}{base bo n cap:Nat}{A:Option Addr}{ty:TypeId}(hF:(A=none/\l=[]/\cap=0)\/ ∃g,A=some ⟨g,0,none⟩/\base<=g/\g<w.heap.size/\l.length<=cap)(hAB: ∀g,A=some ⟨g,0,none⟩->g≠bo)
  (hB:w.heap[bo]? =some (.cells #[.slice A n cap] ty (0,0)))(hb:Below w.heap.size w w0)(hg:w0.grownBy w1 (A.map (·.block))):w1.heap[bo]? =some (.cells #[.slice A n cap] ty (0,0)):=by
 have AO:=(wO hB).1;refine(hg.block bo (wW AO hb.size) fun e=>?_).trans ((hb.block bo AO).trans hB);rcases hF with⟨e',_⟩|⟨g',e',_,_,_⟩
 ·rw[e']at e;cases e
 ·rw[e']at e;exact hAB g' e' (by simpa using e.symm)
theorem be {b:Nat}{x y:Value}{t:TypeId}(h:w.heap[b]? =some (.cells #[x] t (0,0))):(w.setCell ⟨b,0,none⟩ y).heap[b]? =some (.cells #[y] t (0,0)):=by
 have h1:=Joins.block_setCell (i:=0) h y;simpa using h1
structure pk (S:Nat->Prop)(t base bo:Nat):Prop where
 low: ∀b,S b->b<base
 tab:t<base
 pos:0<base
 box:base<=bo
theorem all1_any (ty:TypeId)(base bo t:Nat)(S:Nat->Prop)(w:World)(l:List Ev)(X:Nat->Prop)(f:Nat)(hv:fc (Pick OwnP ty Ev.ls base bo) S t w l X):
  Calls prog 75 (#[.int .i64 (f:Int)]++ #[]) w (dN w X (Pick OwnP ty Ev.ls base bo) S t (l++[.node f])):=by
 have hp:=Pick.pass hv (e:= .node f) rfl;have HP:=wP hp;clear hv hp;go_enter func75,ntmps75;go_wp2_with fail;go_end0;exact HP.o
theorem vu (base bo t:Nat)(S:Nat->Prop)(hp:pk S t base bo)(w:World)(l:List Ev)(X:Nat->Prop)(f:Nat)
  (hv:fc (Pick OwnN 131 Ev.fs base bo) S t w l X)(xD:l.length<1000000):
  Calls prog 94 (#[.int .i64 (f:Int)]++ #[.pointer (some ⟨bo,0,none⟩)]) w (dN w X (Pick OwnN 131 Ev.fs base bo) S t (l++[.node f])):=by
 obtain⟨A,cap,hO,hB,Gw,hX⟩:=hv.rel;have hlen:=cW (F:=Ev.fs) (fun e=>by cases e<;>simp[Ev.fs]) l;have yF:=il.form hO;have AO:bo<w.heap.size:=(wO hB).1;have c0:w.cell? ⟨bo,0,none⟩=some (.slice A (l.flatMap Ev.fs).length cap):=aa hB 0;have f0:w.frozen? ⟨bo,0,none⟩=false:=ae hB 0;obtain⟨L,hL⟩:=e_ (l.flatMap Ev.fs);rw[<-hL]at hlen c0;obtain⟨HV,HO,HB,HX,JA,HF,HL⟩:=zh7 hv hO hB hX Gw yF hL;clear hv hO hB hX Gw yF hL;have As:=hp.box;have zI:=wP ((xp w.heap.size w).alloc (wS _) (.cells #[.int .i64 (f:Int)] 3));go_enter func94,ntmps94;go_wp2_with (first
  |(at_builtin;refine qz rfl (.tmp 3) (.tmp 5) rfl base A cap L rfl ((HL.o▸HO.o:OwnN w base A cap L).alloc _) f w.heap.size 1 rfl (ab _ _) o_ t_ ?_;intro g xq w1 ho hg yr xw;have yw:=Pick.cell HF.o JA.o HB.o zI.o hg;rw[<-HL.o]at yw;have c1:w1.cell? ⟨bo,0,none⟩=some (.slice A L.length cap):=aa yw 0;have f1:w1.frozen? ⟨bo,0,none⟩=false:=ae yw 0;obtain⟨yB,HG,Iv,yW⟩:=zh4 ho hg yr yw;clear ho hg yr yw)
  |fail)
 go_end0;exact Pick.more il HV.o (x:=f) rfl HX.o HO.o zI.o HG.o Iv.o xw (HL.o▸yB.o) JA.o AO hp.low hp.tab hp.pos (by rw[wU,<-HL.o];exact be yW.o) (aj (S:=fun b=>b=bo) (b:=bo) rfl 0 _) s_
theorem vt (base bo t:Nat)(S:Nat->Prop)(hp:pk S t base bo)(w:World)(l:List Ev)(X:Nat->Prop)(pg:Nat)(y:Leaf)
  (hv:fc (Pick OwnN 131 Ev.fs base bo) S t w l X)(xD:l.length<1000000):
  Calls prog 95 (#[.int .u64 ((pg*4096:Nat):Int),.agg #[.int .i64 (y.frame:Int),.int .u8 (y.prot:Int),.bool y.copy]]++ #[.pointer (some ⟨bo,0,none⟩)]) w (dN w X (Pick OwnN 131 Ev.fs base bo) S t (l++[.leaf pg y])):=by
 obtain⟨A,cap,hO,hB,Gw,hX⟩:=hv.rel;have hlen:=cW (F:=Ev.fs) (fun e=>by cases e<;>simp[Ev.fs]) l;have yF:=il.form hO;have AO:bo<w.heap.size:=(wO hB).1;have c0:w.cell? ⟨bo,0,none⟩=some (.slice A (l.flatMap Ev.fs).length cap):=aa hB 0;have f0:w.frozen? ⟨bo,0,none⟩=false:=ae hB 0;obtain⟨L,hL⟩:=e_ (l.flatMap Ev.fs);rw[<-hL]at hlen c0;obtain⟨HV,HO,HB,HX,JA,HF,HL⟩:=zh7 hv hO hB hX Gw yF hL;clear hv hO hB hX Gw yF hL;have As:=hp.box;obtain⟨w0,xv⟩:=e_ (w.alloc (.cells #[.int .i64 (y.frame:Int),.int .u8 (y.prot:Int),.bool y.copy] 83));have xz:Below w.heap.size w w0:=(by rw[xv];exact wR);have Cp:w0.heap[w.heap.size]? =some (.cells #[.int .i64 (y.frame:Int),.int .u8 (y.prot:Int),.bool y.copy] 83 (0,0)):=(by rw[xv];exact ab _ _);have d0:w0.cell? ⟨w.heap.size,0,none⟩=some (.int .i64 (y.frame:Int)):=aa Cp 0;have c0':w0.cell? ⟨bo,0,none⟩=some (.slice A L.length cap):=(xz.cell AO).trans c0;have f0':w0.frozen? ⟨bo,0,none⟩=false:=(xz.frozen AO).trans f0;have xT:=xz.size;have zI:=wP (xz.alloc xz.size (.cells #[.int .i64 (y.frame:Int)] 3));have CB:OwnN w0 base A cap L:=(HL.o▸HO.o:OwnN w base A cap L).below xz (wS _);obtain⟨Kc,xU⟩:=zh2 CB xv;clear xv CB c0 f0 Cp xz;go_enter func95,ntmps95;go_upto_region 1 with(fail);rw[<-xU.o];go_wp2_with (first
  |(at_builtin;refine qz rfl (.tmp 5) (.tmp 8) rfl base A cap L rfl (Kc.o.alloc _) y.frame w0.heap.size 1 rfl (ab _ _) o_ t_ ?_;intro g xq w1 ho hg yr xw;have yw:=Pick.cell HF.o JA.o HB.o zI.o hg;rw[<-HL.o]at yw;have c1:w1.cell? ⟨bo,0,none⟩=some (.slice A L.length cap):=aa yw 0;have f1:w1.frozen? ⟨bo,0,none⟩=false:=ae yw 0;obtain⟨yB,HG,Iv,yW⟩:=zh4 ho hg yr yw;clear ho hg yr yw)
  |fail)
 go_end0;exact Pick.more il HV.o (x:=y.frame) rfl HX.o HO.o zI.o HG.o Iv.o xw (HL.o▸yB.o) JA.o AO hp.low hp.tab hp.pos (by rw[wU,<-HL.o];exact be yW.o) (aj (S:=fun b=>b=bo) (b:=bo) rfl 0 _) s_
theorem all2_any (base bo t:Nat)(S:Nat->Prop)(hp:pk S t base bo)(w:World)(l:List Ev)(X:Nat->Prop)(pg:Nat)(y:Leaf)
  (hv:fc (Pick OwnP 80 Ev.ls base bo) S t w l X)(xD:l.length<1000000):
  Calls prog 76 (#[.int .u64 ((pg*4096:Nat):Int),.agg #[.int .i64 (y.frame:Int),.int .u8 (y.prot:Int),.bool y.copy]]++ #[.pointer (some ⟨bo,0,none⟩)]) w (dN w X (Pick OwnP 80 Ev.ls base bo) S t (l++[.leaf pg y])):=by
 obtain⟨A,cap,hO,hB,Gw,hX⟩:=hv.rel;have hlen:=cW (F:=Ev.ls) (fun e=>by cases e<;>simp[Ev.ls]) l;have yF:=dY.form hO;have AO:bo<w.heap.size:=(wO hB).1;have c0:w.cell? ⟨bo,0,none⟩=some (.slice A (l.flatMap Ev.ls).length cap):=aa hB 0;have f0:w.frozen? ⟨bo,0,none⟩=false:=ae hB 0;obtain⟨L,hL⟩:=e_ (l.flatMap Ev.ls);rw[<-hL]at hlen c0;obtain⟨HV,HO,HB,HX,JA,HF,HL⟩:=zh7 hv hO hB hX Gw yF hL;clear hv hO hB hX Gw yF hL;have As:=hp.box;obtain⟨w0,xv⟩:=e_ (w.alloc (.cells #[.int .i64 (y.frame:Int),.int .u8 (y.prot:Int),.bool y.copy] 83));have xz:Below w.heap.size w w0:=(by rw[xv];exact wR);have Cp:w0.heap[w.heap.size]? =some (.cells #[.int .i64 (y.frame:Int),.int .u8 (y.prot:Int),.bool y.copy] 83 (0,0)):=(by rw[xv];exact ab _ _);have d0:w0.cell? ⟨w.heap.size,0,none⟩=some (.int .i64 (y.frame:Int)):=aa Cp 0;have d1:w0.cell? ⟨w.heap.size,1,none⟩=some (.int .u8 (y.prot:Int)):=aa Cp 1;have d2:w0.cell? ⟨w.heap.size,2,none⟩=some (.bool y.copy):=aa Cp 2;have c0':w0.cell? ⟨bo,0,none⟩=some (.slice A L.length cap):=(xz.cell AO).trans c0;have f0':w0.frozen? ⟨bo,0,none⟩=false:=(xz.frozen AO).trans f0;have xT:=xz.size;have zI:=wP (xz.alloc xz.size (.cells #[.int .u64 ((pg*4096:Nat):Int),.int .i64 (y.frame:Int),.int .u8 (y.prot:Int),.bool y.copy] 85));have CB:OwnP w0 base A cap L:=dY.same (HL.o▸HO.o:OwnP w base A cap L) (fun g hg=>xz.block g (by
  rcases HF.o with⟨e,_⟩|⟨g',e,_,xw,_⟩
  ·rw[e]at hg;cases hg
  ·rw[e]at hg;injection hg with hg;injection hg with hg;omega))
 obtain⟨Kc,xU⟩:=zh2 CB xv;clear xv CB c0 f0 Cp xz;go_enter func76,ntmps76;go_upto_region 1 with(fail);rw[<-xU.o];go_wp2_with (first
  |(at_builtin;refine app_put rfl (.tmp 5) (.tmp 9) rfl base A cap L rfl (dY.same Kc.o (fun g hg=>wT _ _ _ (by
    rcases dY.form Kc.o with⟨e,_⟩|⟨g',e,_,xw,_⟩
    ·rw[e]at hg;cases hg
    ·rw[e]at hg;injection hg with hg;injection hg with hg;omega))) (pg,y) w0.heap.size 1 rfl (ab _ _) o_ t_ ?_;intro g xq w1 ho hg yr xw;have yw:=Pick.cell HF.o JA.o HB.o zI.o hg;rw[<-HL.o]at yw;have c1:w1.cell? ⟨bo,0,none⟩=some (.slice A L.length cap):=aa yw 0;have f1:w1.frozen? ⟨bo,0,none⟩=false:=ae yw 0;obtain⟨yB,HG,Iv,yW⟩:=zh4 ho hg yr yw;clear ho hg yr yw)
  |fail)
 go_end0;exact Pick.more dY HV.o (x:=(pg,y)) rfl HX.o HO.o zI.o HG.o Iv.o xw (HL.o▸yB.o) JA.o AO hp.low hp.tab hp.pos (by rw[wU,<-HL.o];exact be yW.o) (aj (S:=fun b=>b=bo) (b:=bo) rfl 0 _) s_
end
section
open Go.RowKit Go.Sort
def wD {α:Type}(Own:World->Nat->Option Addr->Nat->List α->Prop)(w:World)(l:List α)(e:Ending)(w':World):Prop:= ∃A cap,e= .returned (.slice A l.length cap)/\Own w' w.heap.size A cap l/\Below w.heap.size w w'
theorem Pick.end {α:Type}{Own:World->Nat->Option Addr->Nat->List α->Prop}{ty:TypeId}{F:Ev->List α}{w w0 w1:World}{S X0:Nat->Prop}{t:Nat}{l:List Ev}{bo:Nat}(hbo:bo=w.heap.size)(xz:Below w.heap.size w w0)(hX: ∀b,X0 b->b=bo){X1:Nat->Prop}(hv:fc (Pick Own ty F w.heap.size bo) S t w1 l X1)(hm:Mod X0 w0 w1):
  ∃A cap,w1.cell? ⟨bo,0,none⟩=some (.slice A (l.flatMap F).length cap)/\Own w1 w.heap.size A cap (l.flatMap F)/\Below w.heap.size w w1:=by
 obtain⟨A,cap,h1,h2,h3,h4⟩:=hv.rel;refine⟨A,cap,aa h2 0,h1,?_⟩;exact((Mod.of xz).trans (Out.refl _ _) (hm.sub fun b hb=>by have:=hX b hb;omega)).below (S:=fun b=>b=bo) (fun b hb=>o_) (wS _)
theorem qS (t c a root:Nat)(w:World)(S:Nat->Prop)(p:Pool)(T:Tab)(rest:Nat->Nat)(pg0:Nat)(h:am w S a p)(ht:al w t c a root)(hg:T.Good p rest pg0 4)(hr:T.nd 4 0=some root):
  Calls prog 34 #[.pointer (some ⟨t,0,none⟩)] w (wD OwnP w ((T.evs 4 0).flatMap Ev.ls)):=by
 have yC:t<w.heap.size:=(wO ht).1;have xZ:=h.pos;have xY:=h.low;have Af:=hg.ok.short;obtain⟨w0,xv⟩:=e_ (w.alloc (.cells #[.slice none 0 0] 80));have xz:Below w.heap.size w w0:=(by rw[xv];exact wR);have yT:w0.heap[w.heap.size]? =some (.cells #[.slice none 0 0] 80 (0,0)):=(by rw[xv];exact ab _ _);have AH:al w0 t c a root:=(xz.block t yC).trans ht;have c2:w0.cell? ⟨t,2,none⟩=some (.int .i64 (root:Int)):=aa AH 2;have hp:pk S t w.heap.size w.heap.size:=⟨xY,yC,xZ,wS _⟩;have Kh:=tS (bo:=w.heap.size) (.inr (.inl ⟨rfl,rfl,rfl,rfl⟩)) t c a root root 0 (Pick OwnP 80 Ev.ls w.heap.size w.heap.size) w0 S p T rest pg0 (fun b=>b=w.heap.size) [] (h.below xz) AH hg hr d_ (Pick.start (World.ownsRow_nil _ _ _ 4) yT (fun b hb=>by have:=xY b hb;omega) o_ o_) t_ (Pick.stays dY)
  (fun w l X f hv hl=>all1_any _ _ _ _ S w l X f hv) (fun w l X pg y hv hl=>all2_any _ _ _ S hp w l X pg y hv hl) 0 s_
 obtain⟨HT,HV,xU,HB⟩:=zh4 ht Kh xv xz;clear ht h hg hr Kh xv xz AH yT hp xY;go_enter func34,ntmps34;go_wp2_with fail;refine(de t c a root _ HT.o).mono ?_;rintro e w1⟨rfl,rfl⟩;go_upto_region 4 with(fail);rw[<-xU.o];go_wp2_with fail;refine HV.o.mono ?_;rintro e w1⟨rfl,X1,GB,zn,yJ⟩;obtain⟨A,cap,d1,zB,Cq⟩:=Pick.end rfl HB.o (fun b hb=>hb) GB zn;rw[List.nil_append]at d1 zB;have yB:=wP zB;obtain⟨n,hn⟩:=e_ (((T.evs 4 0).flatMap Ev.ls).length);rw[<-hn]at d1;have HN:=wP hn;clear GB zn yJ zB hn;go_wp2_with fail;go_ret;exact⟨A,cap,(by rw[<-HN.o];rfl),yB.o,Cq⟩
end
section
open Go.RowKit Go.Sort
def cD (p:Pool)(L:List Nat):Pool:=L.foldl Pool.down p
theorem kZ (p:Pool)(L:List Nat):(cD p L).n=p.n:=by
 induction L generalizing p with
 |nil=>rfl
 |cons f L ih=>exact ih (p.down f)
theorem eF (p:Pool)(L:List Nat):(cD p L).dat=p.dat:=by
 induction L generalizing p with
 |nil=>rfl
 |cons f L ih=>exact ih (p.down f)
theorem oX (p:Pool)(L:List Nat)(f:Nat):(cD p L).cnt f=p.cnt f-L.count f:=by
 induction L generalizing p with
 |nil=>rfl
 |cons g L ih=>
  show(cD (p.down g) L).cnt f=_;rw[ih,List.count_cons];show upd p.cnt g (p.cnt g-1) f-_ =_;by_cases c:f=g
  ·subst c;rw[af];simp;omega
  ·rw[ah _ _ c];have:(g==f)=false:=(by simpa using fun e=>c e.symm);simp[this]
theorem tw (p:Pool)(L:List Nat)(f:Nat):cD p (L++[f])=(cD p L).down f:=by
 unfold cD;rw[List.foldl_append];rfl
variable {k:Nat}
theorem ic {α:Type}{L:List α}{x:α}(h:L[k]? =some x):L.take (k+1)=L.take k++[x]:=by
 rw[List.take_add_one,h];rfl
theorem nk {L:List Nat}{f:Nat}(h:L[k]? =some f):(L.take k).count f+1<=L.count f:=by
 have h1:(L.take (k+1)).count f<=L.count f:=(List.take_sublist _ _).count_le f;rw[ic h,List.count_append]at h1;simpa using h1
def FreePost (w:World)(S:Nat->Prop)(t a:Nat)(p:Pool)(L:List Nat)(e:Ending)(w':World):Prop:=
 e= .returned (.tuple #[])/\am w' S a (cD p L)/\Mod (fun b=>S b\/b=t) w w'/\w'.cell? ⟨t,1,none⟩=some (.pointer none)
theorem nO (t c a root:Nat)(w:World)(S:Nat->Prop)(p:Pool)(T:Tab)(rest:Nat->Nat)(pg0:Nat)(h:am w S a p)(ht:al w t c a root)(Cc: ¬S t)(TO:t≠0)(hg:T.Good p rest pg0 4)(hr:T.nd 4 0=some root):
  Calls prog 58 #[.pointer (some ⟨t,0,none⟩)] w (FreePost w S t a p ((T.evs 4 0).flatMap Ev.fs)):=by
 have yC:t<w.heap.size:=(wO ht).1;have xZ:=h.pos;have xY:=h.low;have Af:=hg.ok.short;have IX: ∀f,f<p.n->((T.evs 4 0).flatMap Ev.fs).count f<=p.cnt f:=fun f hf=>by rw[hg.ok.frames_cnt,hg.cnt f hf];omega
 have ym: ∀f,f∈(T.evs 4 0).flatMap Ev.fs->f<p.n:=by
  intro f hf;have h1:=List.count_pos_iff.2 hf;rw[hg.ok.frames_cnt]at h1;by_cases c:an T f
  ·obtain⟨l,q,hl⟩:=c;exact(hg.node hl).1
  ·rw[aF c]at h1;have h2:0<ai T f:=o_;by_cases c9: ∃i,i<bN/\cQ T f i=true
   ·obtain⟨i,_,hi⟩:=c9;unfold cQ at hi;cases hl:T.lf i with
    |none=>rw[hl]at hi;cases hi
    |some l=>
     rw[hl]at hi;have e:l.frame=f:=(by simpa using hi);rw[<-e];exact(hg.but.leaf _ l hl).2.2
   ·have:ai T f=0:=eG.2 fun i hi=>by
     by_cases c8:cQ T f i=true
     ·exact absurd ⟨i,hi,c8⟩ c9
     ·simpa using c8
    omega
 obtain⟨w0,xv⟩:=e_ (w.alloc (.cells #[.slice none 0 0] 131));have xz:Below w.heap.size w w0:=(by rw[xv];exact wR);have yT:w0.heap[w.heap.size]? =some (.cells #[.slice none 0 0] 131 (0,0)):=(by rw[xv];exact ab _ _);have AH:al w0 t c a root:=(xz.block t yC).trans ht;have c2:w0.cell? ⟨t,2,none⟩=some (.int .i64 (root:Int)):=aa AH 2;have hp:pk S t w.heap.size w.heap.size:=⟨xY,yC,xZ,wS _⟩;have Kh:=tS (bo:=w.heap.size) (.inr (.inr ⟨rfl,rfl,rfl,rfl⟩)) t c a root root 0 (Pick OwnN 131 Ev.fs w.heap.size w.heap.size) w0 S p T rest pg0 (fun b=>b=w.heap.size) [] (h.below xz) AH hg hr d_ (Pick.start (OwnN.nil _ _) yT (fun b hb=>by have:=xY b hb;omega) o_ o_) t_ (Pick.stays il)
  (fun w l X f hv hl=>vu _ _ _ S hp w l X f hv hl) (fun w l X pg y hv hl=>vt _ _ _ S hp w l X pg y hv hl) 0 s_
 rw[List.nil_append]at Kh;have hlen:=cW (F:=Ev.fs) (fun e=>by cases e<;>simp[Ev.fs]) (T.evs 4 0);obtain⟨L,hL⟩:=e_ ((T.evs 4 0).flatMap Ev.fs);obtain⟨n,hn⟩:=e_ L.length;rw[<-hL]at IX ym hlen⊢;obtain⟨HT,HV,xU,HB,HP,HL,HN,HCNT⟩:=zh8 ht Kh xv xz h hL hn IX;have yQ:=wP ym;rw[<-hn]at hlen;clear ht h hg hr Kh xv xz AH yT hp hL hn IX ym;go_enter func58,ntmps58;go_wp2_with fail;refine(de t c a root _ HT.o).mono ?_;rintro e w1⟨rfl,rfl⟩;go_upto_region 2 with(fail);rw[<-xU.o];go_wp2_with fail;refine HV.o.mono ?_;rintro e w1⟨rfl,X1,GB,zn,yJ⟩;obtain⟨A,cap,d1,zB,Cq⟩:=Pick.end rfl HB.o (fun b hb=>hb) GB zn;rw[<-HL.o]at d1 zB;rw[<-HN.o]at d1;obtain⟨yB,xI⟩:=zh2 zB Cq;have xQ:=Cq.size;clear GB zn yJ zB;go_wp2_with fail;go_loopw [17] (fun i wr=> ∃(k:Nat),i= .int .i64 (k:Int)/\k<=n/\am wr S a (cD p (L.take k))/\Mod S w1 wr) (fun i _ =>n-(intOf i).toNat)
 case atStart=>exact⟨0,rfl,o_,HP.o.below xI.o,Mod.refl _ _⟩
 case round=>
  obtain⟨k,rfl,hk,Ou,IN⟩:=hrel;obtain⟨ZS,HMK⟩:=zh2 Ou IN;have hzk:=IN.size;have ZF:al wr t c a root:=(IN.block t o_ Cc).trans ((xI.o.block t yC).trans HT.o);have d2:wr.cell? ⟨t,1,none⟩=some (.pointer (some ⟨a,0,none⟩)):=aa ZF 1;have d3:wr.frozen? ⟨t,1,none⟩=false:=ae ZF 1;have Ll:=wP ZF;clear Ou IN ZF d1;by_cases xw:k<n
  ·obtain⟨f,hf⟩: ∃f,L[k]? =some f:=⟨L[k]'(by rw[<-HN.o];exact xw),wV _⟩;have RY:f∈L:=xb hf;have FP:=yQ.o f RY;have zT:=HCNT.o f FP;have Ar:=nk hf;have hc3:=oX p (L.take k) f;have Ee:1<=(cD p (L.take k)).cnt f:=o_;have GP:f<(cD p (L.take k)).n:=(by rw[kZ];exact FP);rcases OwnN.form yB.o with⟨_,e,_⟩|⟨g,e,hbg,JJ,_⟩
   ·rw[e]at hf;cases hf
   have hgS: ¬S g:=fun e'=>by have:=xY g e';omega
   have hOk:OwnN wr w.heap.size A cap L:=yB.o.same fun g' e'=>by
    rw[e]at e';injection e' with e';injection e' with e';subst e';exact HMK.o.block g JJ hgS
   rw[e]at hOk;have d4:=hOk.elem hf;subst e;obtain⟨HF,Ey,HN4⟩:=zh3 hf Ee GP;clear hf RY FP zT Ar hc3 Ee GP hOk;go_wp2_with fail;refine(du a f _ S _ ZS.o HN4.o Ey.o).mono ?_;rintro e w2⟨rfl,hp2,xS⟩;obtain⟨QE,Ex⟩:=zh2 hp2 xS;clear hp2 xS;go_wp2_with fail;go_roundw
   case rel=>exact⟨k+1,by go_num,o_,by rw[ic HF.o,tw];exact QE.o,HMK.o.trans (Out.refl _ _) Ex.o⟩
   case measure=>(simp[intOf];omega)
  ·obtain rfl:k=n:=o_;go_wp2_with fail;go_end0;have yb:L.take k=L:=List.take_of_length_le (by rw[<-HN.o];exact wS _);have Ou:=ZS.o;rw[yb]at Ou;refine⟨rfl,Ou.mod (aj (S:=fun b=>b=t) rfl 1 _) (fun b hb e=>Cc (e▸hb)) (fun e=>TO e.symm),?_,?_⟩
   ·exact((Mod.of xI.o).trans (Out.refl _ _) (HMK.o.sub fun b hb=> .inl hb)).trans (Out.refl _ _) (aj (S:=fun b=>S b\/b=t) (.inr rfl) 1 _)
   ·exact aa (Joins.block_setCell (i:=1) Ll.o (.pointer none)) 1
end
