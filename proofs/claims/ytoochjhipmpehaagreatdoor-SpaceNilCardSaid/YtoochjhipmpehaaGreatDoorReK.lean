/- Regions: Put of the program and of the references. Regions: what comes in: a slice of regions, a region; Regions: Protect, of the program and of the references. Regions: append of a whole list; -/
import Derived.Test.YtoochjhipmpehaaGreatDoorAbK
import Derived.Test.YtoochjhipmpehaaGreatDoorRaK
import Derived.Test.YtoochjhipmpehaaGreatDoorRcK
import Derived.Test.YtoochjhipmpehaaGreatDoorRdK
import Derived.ChangeOld
import Derived.ChangeSame
import Derived.Deep.Fields
import Derived.Deep.Slices
import Derived.Deep.Upon
import Derived.Lib.SmallJoins
import Derived.OpenShut
import Derived.ProofKit
set_option linter.unusedVariables false
set_option linter.unusedSimpArgs false
set_option maxRecDepth 100000
set_option maxHeartbeats 4000000
namespace Go.Proofs.YtoochjhipmpehaaGreatDoor
section
open Go.RowKit Go.Sort
def Rg.put (l:List Reg) (r:Reg):List Reg×Int:=if Rg.right l=true∧Rg.one r=true then Rg.few (Rg.joined (Rg.ins (Rg.without l r.fr r.to) r))else([],1)
theorem insert_any (A:Option Addr) (cap:Nat) (l:List Reg) (r:Reg) (i bv c base:Nat) (w:World) (ho:OwnR w base A cap l) (hbase:base≤w.heap.size) (hf:l.length≤100000) (hi:i≤l.length)
  (hv:w.heap[bv]? =some (.cells #[.int .u64 r.fr, .int .u64 r.to, .int .u8 r.prot, .int .i64 r.ino, .int .u64 r.off] 45 (0,0))) (hne: ∀g,A.map (·.block)=some g→bv≠g):
  Calls Tryz.prog 105 #[.slice A l.length cap, .int .i64 i, .slice (some ⟨bv,0,none⟩) 1 c] w
   fun e w'=> ∃A' cap',e= .returned (.slice A' (l.length+1) cap')∧OwnR w' base A' cap' (Rg.insAt l i r)∧Below base w w':=by
 by_cases he:i=l.length
 ·subst he
  refine(insert_end A cap l r bv c base w ho hbase hf hv).mono ?_
  rintro e w' ⟨A',cap',h1,h2,h3⟩
  refine⟨A',cap',h1,?_,h3⟩
  simpa [Rg.insAt]using h2
 ·have hlt:i<l.length:=by omega
  rcases ho.form with⟨_,h2,_⟩|⟨g,rfl,h2,h3,h4⟩
  ·rw[h2]at hlt;simp at hlt
  ·by_cases hr:l.length+1≤cap
   ·exact insert_room g cap l r i bv c base w ho hbase hf hlt hr hv (hne g rfl)
   ·exact insert_grow g cap l r i bv c base w ho hbase hf hlt (by omega) hv
theorem srch_of {w:World} {gr cap base:Nat} {A:Option Addr} {out:List Reg} {r:Reg} (ho:OwnR w base A cap out) (hgr:gr<w.heap.size) (hb:w.heap[gr]? =some (.cells #[.int .u64 r.fr, .int .u64 r.to, .int .u8 r.prot, .int .i64 r.ino, .int .u64 r.off] 45 (0,0))):
  Srch (w.alloc (.cells #[.slice A out.length cap] 59)) w.heap.size gr A cap out r (w.alloc (.cells #[.slice A out.length cap] 59)).heap.size:=by
 refine⟨by simp,by simp,?_,by simp;omega,fun k x hx=>?_⟩
 ·exact(box_facts ((Below.heap_alloc w _ gr hgr).trans hb)).c0
 ·rcases ho.form with⟨_,h,_⟩|⟨g,rfl,h2,h3,h4⟩
  ·rw[h]at hx;simp at hx
  ·exact⟨g,rfl,by simp;omega,((ho.elem hx).alloc _).c0⟩
theorem put_any (r:Reg) (A:Option Addr) (n cap:Nat) (w:World) (l:List Reg) (hl:RSl w w.heap.size A n cap l) (hok:AllOk l) (hr:r.Ok):
  Calls Tryz.prog 62 #[.slice A n cap, .agg #[.int .u64 (r).fr, .int .u64 (r).to, .int .u8 (r).prot, .int .i64 (r).ino, .int .u64 (r).off]] w
   fun e w'=> ∃A' cap',e= .returned (.tuple #[.slice A' (Rg.put l r).1.length cap', .int .i64 (Rg.put l r).2])∧OwnR w' w.heap.size A' cap' (Rg.put l r).1∧Below w.heap.size w w':=by
 have hln:=ae hl.len
 have hB0:Below w.heap.size w (w.alloc (.cells #[.int .u64 r.fr, .int .u64 r.to, .int .u8 r.prot, .int .i64 r.ino, .int .u64 r.off] 45)):=by((repeat' (with_reducible(first|assumption|(refine Below.alloc ?_ ?_ _)|(refine Below.setCell ?_ ?_ _)|(refine Below.drew ?_)|(refine below_drewN ?_ _)|exact Below.refl _ _ |(refine Below.trans ?_ (Below.mono (by assumption) ?_)))))<;>(try simp)<;>(try omega))
 have hl0:=(hl.below hB0 (Nat.le_refl _)).more (B':=(w.alloc (.cells #[.int .u64 r.fr, .int .u64 r.to, .int .u8 r.prot, .int .i64 r.ino, .int .u64 r.off] 45)).heap.size) (by simp)
 have hRt:=right_any A n cap _ l hl0 hok
 cases hrl:Rg.right l with
 |false=>
  have HP:Hid (Rg.put l r=([],1)):=ae (by simp[Rg.put,hrl])
  rw[hrl]at hRt
  have HR:=ae hRt
  clear hRt hrl hl hl0 hB0
  go_enter Tryz.func62,Tryz.ntmps62
  go_wp2_with (go_at_call 98;refine(HR.out).mono ?_;rintro e w1 ⟨rfl,hb1⟩)
  go_ret2
  refine⟨none,0,?_,?_,?_⟩
  ·rw[HP.out];rfl
  ·rw[HP.out];exact OwnR.nil _ _
  ·have:=hb1.size
   simp at this
   ((repeat' (with_reducible(first|assumption|(refine Below.alloc ?_ ?_ _)|(refine Below.setCell ?_ ?_ _)|(refine Below.drew ?_)|(refine below_drewN ?_ _)|exact Below.refl _ _ |(refine Below.trans ?_ (Below.mono (by assumption) ?_)))))<;>(try simp)<;>(try omega))
 |true=>
  rw[hrl]at hRt
  have HR:=ae hRt
  have h64:=(right_all hrl).2
  have HRL:=ae hrl
  clear hRt hrl
  cases hon:Rg.one r with
  |false=>
   have HP:Hid (Rg.put l r=([],1)):=ae (by simp[Rg.put,hon])
   have hM:=fun W=>may_any r W hr
   rw[hon]at hM
   have HM:=ae hM
   clear hM hon hl hl0 hB0
   go_enter Tryz.func62,Tryz.ntmps62
   go_wp2_with (first
    |(go_at_call 98;refine(HR.out).mono ?_;rintro e w1 ⟨rfl,hb1⟩;obtain⟨hc,hfz⟩:=bcell hb1;have hz:=hb1.size;simp at hz;have hz0:w.heap.size<w1.heap.size:=(by omega))
    |(go_at_call 99;refine(HM.out _).mono ?_;rintro e w2 ⟨rfl,hb2⟩;have hz2:=hb2.size))
   go_ret2
   refine⟨none,0,?_,?_,?_⟩
   ·rw[HP.out];rfl
   ·rw[HP.out];exact OwnR.nil _ _
   ·((repeat' (with_reducible(first|assumption|(refine Below.alloc ?_ ?_ _)|(refine Below.setCell ?_ ?_ _)|(refine Below.drew ?_)|(refine below_drewN ?_ _)|exact Below.refl _ _ |(refine Below.trans ?_ (Below.mono (by assumption) ?_)))))<;>(try simp)<;>(try omega))
  |true=>
   have HP:Hid (Rg.put l r=Rg.few (Rg.joined (Rg.ins (Rg.without l r.fr r.to) r))):=ae (by simp[Rg.put,HRL.out,hon])
   have hM:=fun W=>may_any r W hr
   rw[hon]at hM
   have HM:=ae hM
   have hft:=(one_spec hon).1
   have hrg:=run_gone (l:=l) (f:=r.fr) (t:=r.to) (right_one HRL.out) hok hft
   have hap:=(without_apart (right_apart HRL.out) hft).sorted
   have hwl:=without_len l r.fr r.to
   have HG:=ae hrg
   have HS:=ae hap
   clear hM hon hrg hap
   go_enter Tryz.func62,Tryz.ntmps62
   go_wp2_with fail
   refine(HR.out).mono ?_
   rintro e w1 ⟨rfl,hb1⟩
   have hz1:=hb1.size
   simp at hz1
   have hx1:=(hb1.block _ (by simp)).trans (heap_alloc_new w (.cells #[.int .u64 r.fr, .int .u64 r.to, .int .u8 r.prot, .int .i64 r.ino, .int .u64 r.off] 45))
   have hl1:=(hl0.below hb1 (Nat.le_refl _)).more hb1.size
   obtain⟨a0,a1,a2,a3,a4⟩:=box_facts hx1
   clear hl0
   go_wp2_with fail
   refine(HM.out _).mono ?_
   rintro e w2 ⟨rfl,hb2⟩
   have hz2:=hb2.size
   have hx2:=(hb2.block _ (by omega)).trans hx1
   have hl2:=(hl1.below hb2 (Nat.le_refl _)).more hb2.size
   clear a0 a1 a2 a3 a4 hl1 hx1
   obtain⟨a0,a1,a2,a3,a4⟩:=box_facts hx2
   go_wp2_with fail
   refine(run_gone_any r.fr r.to A n cap w2 l hl2 (by have:=hln.out;omega)).mono ?_
   rintro e w3 ⟨A1,c1,rfl,ho3,hb3⟩
   rw[HG.out]at ho3⊢
   have hz3:=hb3.size
   have hx3:=(hb3.block _ (by omega)).trans hx2
   clear a0 a1 a2 a3 a4 hl2 hx2
   obtain⟨a0,a1,a2,a3,a4⟩:=box_facts hx3
   generalize hout:Rg.without l r.fr r.to=out at *
   have hof:out.length≤200:=by omega
   go_wp2_with fail
   have hsr:=srch_of (r:=r) ho3 (by omega) hx3
   have hsc:=search_any w3.heap.size w.heap.size A1 c1 out r _ hsr (by omega) HS.out
   have ho4:=ho3.alloc (.cells #[.slice A1 out.length c1] 59)
   have hx4:=(Below.heap_alloc w3 (.cells #[.slice A1 out.length c1] 59) _ (by omega)).trans hx3
   have hrow:=ho3.row
   have hcl:=hsr.cell
   refine hsc.mono ?_
   rintro e w5 ⟨⟨i,hi,rfl,hspl⟩,hb5⟩
   have hz5:=hb5.size
   simp at hz5
   have ho5:=ho4.below hb5 (Nat.le_refl _)
   have hx5:=(hb5.block _ (by simp;omega)).trans hx4
   have hcl5:=(hb5.cell (p:=⟨w3.heap.size,0,none⟩) (by simp)).trans hcl
   have SPL:=ae hspl
   clear a0 a1 a2 a3 a4 hsr hsc hx3 hx4 ho4 hcl hspl
   obtain⟨a0,a1,a2,a3,a4⟩:=box_facts hx5
   go_wp2_with fail
   refine(insert_any A1 c1 out r i w5.heap.size 1 w2.heap.size _ (ho5.alloc _) (by simp;omega) (by omega) hi (heap_alloc_new w5 _) (fun g hg=>by have:=hrow g hg;omega)).mono ?_
   rintro e w6 ⟨A6,c6,rfl,ho6,hb6⟩
   rw[insAt_ins hi SPL.out]at ho6
   have hln6:(Rg.ins out r).length=out.length+1:=ins_len out r
   have hrs6:=ho6.rsl (by omega)
   rw[hln6]at hrs6
   have hz6:=hb6.size
   simp at hz6
   clear a0 a1 a2 a3 a4 hcl5 ho5 hx5
   go_wp2_with fail
   refine(done_any A6 _ c6 w6 _ hrs6 (by omega)).mono ?_
   rintro e w7 ⟨A7,c7,rfl,ho7,hb7⟩
   have hz7:=hb7.size
   go_wp2_with fail
   go_ret2
   have hput:=HP.out
   refine⟨A7,c7,?_,?_,?_⟩
   ·rw[hput];rfl
   ·rw[hput];exact ho7.lower (by omega)
   ·have q1:Below w.heap.size w w2:=by((repeat' (with_reducible(first|assumption|(refine Below.alloc ?_ ?_ _)|(refine Below.setCell ?_ ?_ _)|(refine Below.drew ?_)|(refine below_drewN ?_ _)|exact Below.refl _ _ |(refine Below.trans ?_ (Below.mono (by assumption) ?_)))))<;>(try simp)<;>(try omega))
    have q2:Below w.heap.size w w3:=q1.trans (hb3.mono (by omega))
    have q3:Below w.heap.size w w5:=(q2.alloc (by omega) _).trans (hb5.mono (by simp;omega))
    have q4:Below w.heap.size w w6:=(q3.alloc (by omega) _).trans (hb6.mono (by omega))
    exact q4.trans (hb7.mono (by omega))
end
section
open Go.ChangeShapes Go.WideShapes Go.ChangeAt Go.RowKit Go.Deep Go.Joins
section
variable {H:Type} {enc:TypeId×Value→H} {P:Program} {w:World} {base:Nat} {spare:Nat→Bool} {held:Bool}
end
section
variable {H:Type} {enc:TypeId×Value→H} {P:Program} {w:World} {base:Nat} {spare:Nat→Bool} {held:Bool}
end
theorem reg_ok {a b c d e:Int} (h0:(Lit.int .u64 a).wf=true) (h1:(Lit.int .u64 b).wf=true) (h2:(Lit.int .u8 c).wf=true) (h3:(Lit.int .i64 d).wf=true) (h4:(Lit.int .u64 e).wf=true):Reg.Ok ⟨a,b,c,d,e⟩:=
 ⟨(bounds_u64 h0).1,(bounds_u64 h0).2,(bounds_u64 h1).1,(bounds_u64 h1).2,(bounds_u8 h2).1,(bounds_u8 h2).2,(bounds_i64 h3).1,(bounds_i64 h3).2,(bounds_u64 h4).1,(bounds_u64 h4).2⟩
section
variable {H:Type} {enc:TypeId×Value→H} {w:World} {base:Nat} {spare:Nat→Bool} {held:Bool}
end
end
section
open Go.RowKit Go.Sort
theorem find_cases (l:List Reg) (a:Int):(l.find? (Rg.holds · a)=none∧Rg.find l a=(zeroReg,false))∨ ∃r,l.find? (Rg.holds · a)=some r∧Rg.find l a=(r,true)∧r∈l∧r.fr≤a∧a<r.to:=by
 cases h:l.find? (Rg.holds · a)with
 |none=>exact .inl ⟨rfl,by simp[Rg.find,h]⟩
 |some r=>
  have h1:=List.find?_some h
  simp[Rg.holds]at h1
  exact .inr ⟨r,rfl,by simp[Rg.find,h],List.mem_of_find?_eq_some h,h1.1,h1.2⟩
end
section
open Go.RowKit Go.Sort
theorem app_many {w:World} {ops:Array Oper} {rest:List Oper} {o:Oper} {a:Act} {Q:Exit→Act→World→Prop} (hgd:o.guard=none) (s x:Operand)
  (ho:o.op= .call { callee:= .builtin .append,args:= #[s,x],argTypes:= #[59,59]})
  (base:Nat) (A:Option Addr) (cap:Nat) (l:List Reg) (hs:a.eval s= .slice A l.length cap) (hown:OwnR w base A cap l)
  (X:Option Addr) (m c:Nat) (k:List Reg) (hx:a.eval x= .slice X m c) (hk:RSl w w.heap.size X m c k)
  (hfew:l.length+m<1000000) (hbase:base≤w.heap.size)
  (h: ∀A' cap' w',OwnR w' base A' cap' (l++k)→w.grownBy w' (A.map (·.block))→wpList Tryz.prog ops Q rest (a.put o.dst (.slice A' (l.length+m) cap')) w'):
  wpList Tryz.prog ops Q (o::rest) a w:=by
 obtain⟨i0,hi0,hz0,hz1,hz2⟩:=info_parts reg_info
 have hkl:=hk.len
 rcases Nat.eq_zero_or_pos m with rfl|hm
 ·obtain rfl:k=[]:=List.eq_nil_of_length_eq_zero hkl
  have hsrc:Src Tryz.prog i0.size 59 (.slice X 0 c) 0 [] w:=by
   cases X with
   |none=>exact Src.ofNil w Tryz.underlying59 c
   |some ad=>exact Src.ofSlice w Tryz.underlying59 ad 0 c [] (by simp) (by simp) (by simp)
  have hle:l.length≤cap:=by
   rcases hown.form with⟨_,h2,h3⟩|⟨g,_,_,_,h4⟩
   ·rw[h2];simp
   ·exact h4
  have hrun:=run_append_nothing (P:=Tryz.prog) w 59 59 o.type 45 i0 Tryz.underlying59 hi0 A l.length cap hle (.slice X 0 c) hsrc
  have h':=h A cap w (by simpa using hown) ⟨rfl,rfl,rfl,Nat.le_refl _,fun _ _ _ =>rfl⟩
  refine wpList_plain hgd fun K hK=>?_
  unfold Oper.wp
  simp[execOp,ho,resolve,invoke,builtin,hs,hx,hrun,Result.andThen]
  exact hK _ _ h'
 ·obtain⟨b,off,rfl,_⟩: ∃b off,X=some ⟨b,off,none⟩∧True:=by
   obtain⟨b,off,e,_⟩:=hk.at_ 0 (k[0]'(by omega)) (List.getElem?_eq_getElem (by omega))
   exact⟨b,off,e,trivial⟩
  refine wpList_append_lies w hgd s x 59 ho base 45 i0 _ 5 40 Tryz.underlying59 hi0 hz0 hz1 hz2 rfl (by omega) _ l.length (rcs l) hs hown ⟨b,off,none⟩ m c (rcs k) hx (by rw[rcs_length,hkl]) hk.cells
   (rcs_one_cell k) hm (by unfold maxLen;omega) (by omega) hbase w.heap.size rfl ?_
  intro g cap' w' ho' hg hat hlt
  refine h (some ⟨g,0,none⟩) cap' w' ?_ ?_
  ·unfold OwnR
   rw[rcs_append,List.length_append,hkl]
   exact ho'
  ·cases A<;>simpa [Value.ownBlock]using hg
theorem rclone_any (A:Option Addr) (n cap:Nat) (l:List Reg) (w:World) (h:RSl w w.heap.size A n cap l) (hf:n<900000):
  Calls Tryz.prog 57 #[.slice A n cap] w fun e w'=> ∃A' cap',e= .returned (.slice A' n cap')∧OwnR w' w.heap.size A' cap' l∧Below w.heap.size w w':=by
 have hlen:=h.len
 cases A with
 |none=>
  have h0:l=[]:=by
   cases l with
   |nil=>rfl
   |cons r l=>obtain⟨b,off,e,_⟩:=h.at_ 0 r rfl;cases e
  subst h0
  obtain rfl:n=0:=hlen.symm
  have hnil:=fun(W:World)=>Lib.run_eql_slice_nil (P:=Tryz.prog) (w:=W) 59 45 none 0 cap 0 0 Tryz.underlying59
  go_enter Tryz.func57,Tryz.ntmps57
  go_wp2_with fail
  go_ret
  exact⟨none,0,rfl,OwnR.nil w _,Below.refl _ _⟩
 |some ad=>
  have hnil:=fun(W:World)=>Lib.run_eql_slice_nil (P:=Tryz.prog) (w:=W) 59 45 (some ad) n cap 0 0 Tryz.underlying59
  have h1:=h.below (w':=w.alloc (.cells #[] 45)) ((Below.refl _ _).alloc (Nat.le_refl _) _) (Nat.le_refl _)
  have H1:=ae (h1.more (B':=(w.alloc (.cells #[] 45)).heap.size) (by simp))
  clear h h1
  go_enter Tryz.func57,Tryz.ntmps57
  go_upto_region 3 with(fail)
  have hmade:OwnR (w.alloc (.cells #[] 45)) w.heap.size (some ⟨w.heap.size,0,none⟩) 0 []:=⟨rfl, .inr ⟨w.heap.size,0, #[],rfl,Nat.le_refl _,heap_alloc_new w _,Nat.le_refl _,by decide,rfl,rfl⟩⟩
  go_wp2_with (at_builtin;refine app_many rfl (.tmp 5) (.tmp 6) rfl w.heap.size (some ⟨w.heap.size,0,none⟩) 0 [] rfl hmade (some ad) n cap l rfl H1.out (by simp;omega) (by simp) ?_;intro A' cap' w2 ho hg)
  have hb:Below w.heap.size w w2:=((Below.refl _ _).alloc (Nat.le_refl _) _).grown hg (by simp) (fun k hk=>by simp at hk;omega)
  have HO:=ae ho
  clear ho hg
  go_ret
  exact⟨A',cap',by simp,by simpa using HO.out,hb⟩
end
end Go.Proofs.YtoochjhipmpehaaGreatDoor
