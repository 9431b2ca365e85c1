/- Regions: the closure that puts a part (run$1), and run itself, with what goes (gone) and with what is protected. Regions: run, at what goes and at what is protected. -/
import Derived.Test.YtoochjhipmpehaaGreatDoorAbK
import Derived.Test.YtoochjhipmpehaaGreatDoorRaK
import Derived.Deep.RegionLaw
import Derived.Lib.MinMax
set_option linter.unusedVariables false
set_option linter.unusedSimpArgs false
set_option maxRecDepth 100000
set_option maxHeartbeats 2000000
namespace Go.Proofs.YtoochjhipmpehaaGreatDoor
section
open Go.RowKit Go.Sort
theorem step_app_reg {w:World} {ops:Array Oper} {o:Oper} {a:Act} {K:Act→World→Prop} {Q:Exit→Act→World→Prop} {E:Prop} (hgd:o.guard=none) (s x:Operand)
  (ho:o.op= .call { callee:= .builtin .append,args:= #[s,x],argTypes:= #[59,59]})
  (base:Nat) (A:Option Addr) (cap:Nat) (l:List Reg) (hs:a.eval s= .slice A l.length cap) (hown:OwnR w base A cap l)
  (r:Reg) (b c:Nat) (hx:a.eval x= .slice (some ⟨b,0,none⟩) 1 c) (hb:w.heap[b]? =some (.cells #[.int .u64 r.fr, .int .u64 r.to, .int .u8 r.prot, .int .i64 r.ino, .int .u64 r.off] 45 (0,0)))
  (hfew:l.length<1000000) (hbase:base≤w.heap.size)
  (h: ∀g cap' w',OwnR w' base (some ⟨g,0,none⟩) cap' (l++[r])→w.grownBy w' (A.map (·.block))→(A.map (·.block)=some g∨g=w.heap.size)→g<w'.heap.size→K (a.put o.dst (.slice (some ⟨g,0,none⟩) (l.length+1) cap')) w'):
  if Region.wanted o (yielded ops a.tmps)=true then Oper.wp Tryz.prog o a w K Q else E:=by
 obtain⟨i0,hi0,hz0,hz1,hz2⟩:=info_parts reg_info
 refine step_append_lies w hgd s x 59 ho base 45 i0 _ 5 40 Tryz.underlying59 hi0 hz0 hz1 hz2 rfl (by omega) _ l.length (rcs l) hs hown ⟨b,0,none⟩ 1 c (rc r) hx rfl (World.news_of_block (cs:= #[.int .u64 r.fr, .int .u64 r.to, .int .u8 r.prot, .int .i64 r.ino, .int .u64 r.off]) hb)
  (by rw[←rcs_one];exact rcs_one_cell _) (by omega) (by unfold maxLen;omega) (by omega) hbase w.heap.size rfl ?_
 intro g cap' w' ho' hg hat hlt
 refine h g cap' w' ?_ ?_ ?_ hlt
 ·unfold OwnR
  rw[rcs_append,rcs_one,List.length_append]
  exact ho'
 ·cases A<;>simpa [Value.ownBlock]using hg
 ·cases A<;>simpa [Value.ownBlock]using hat
structure But2 (w w':World) (g:Nat) (row:Option Nat):Prop where
 os:w'.os=w.os
 tape:w'.tape=w.tape
 output:w'.output=w.output
 size:w.heap.size≤w'.heap.size
 block: ∀k,k<w.heap.size→k≠g→some k≠row→w'.heap[k]? =w.heap[k]?
theorem putc_close {w w1 w2:World} {g base g' cap cap':Nat} {A:Option Addr} {l l':List Reg} {box ob2:Obj} {u:Value} (hcell:w.heap[g]? =some (.cells #[u] 59 (0,0))) (hown:OwnR w base A cap l) (hgb:g<base) (hbw:base≤w.heap.size)
  (hb1:Below (w.alloc box).drew.heap.size (w.alloc box).drew w1) (ho2:OwnR w2 base (some ⟨g',0,none⟩) cap' l') (hg2:(w1.alloc ob2).grownBy w2 (A.map (·.block))) (hat2:A.map (·.block)=some g'∨g'=(w1.alloc ob2).heap.size) (v:Value):
  (w2.setCell ⟨g,0,none⟩ v).heap[g]? =some (.cells #[v] 59 (0,0))∧OwnR (w2.setCell ⟨g,0,none⟩ v) base (some ⟨g',0,none⟩) cap' l'∧But2 w (w2.setCell ⟨g,0,none⟩ v) g (A.map (·.block))∧(A.map (·.block)=some g'∨w.heap.size≤g'):=by
 have hrow: ∀b,A.map (·.block)=some b→base≤b∧b<w.heap.size:=fun b hb=>by
  rcases hown.form with⟨h1,_,_⟩|⟨g1,h1,h2,h3,h4⟩
  ·rw[h1]at hb;simp at hb
  ·rw[h1]at hb;simp at hb;subst hb;exact⟨h2,h3⟩
 have hz1:=hb1.size
 simp at hz1
 have hold: ∀k,k<w.heap.size→some k≠A.map (·.block)→w2.heap[k]? =w.heap[k]? :=fun k hk hne=>by
  rw[hg2.block k (by simp;omega) hne,Below.heap_alloc _ _ _ (by omega),hb1.block k (by simp;omega)]
  exact Below.heap_alloc w box k hk
 have hgne:some g≠A.map (·.block):=fun e=>by have:=hrow g e.symm;omega
 have hg2':=(hold g (by omega) hgne).trans hcell
 obtain⟨g2,he,hg3,hg4,_⟩:=(ho2.form).resolve_left (by simp)
 obtain rfl:g'=g2:=by simpa using he
 refine⟨?_,?_,?_,?_⟩
 ·simp[World.setCell,Array.getElem?_modify,hg2']
 ·refine ho2.kept (row:=some g) ⟨rfl,rfl,rfl,by simp[World.setCell],fun k _ hk=>Below.heap_setCell _ _ _ _ (fun e=>hk (by rw[e]))⟩ (.inr ?_)
  simp
  omega
 ·have hs2:=hg2.size
  simp at hs2
  refine⟨?_,?_,?_,?_,fun k hk h1 h2=>?_⟩
  ·exact hg2.os.trans hb1.os
  ·exact hg2.tape.trans hb1.tape
  ·exact hg2.output.trans hb1.output
  ·simp[World.setCell];omega
  ·rw[Below.heap_setCell _ _ _ _ (by simpa using h1)]
   exact hold k hk h2
 ·rcases hat2 with h|h
  ·exact .inl h
  ·right;simp at h;omega
theorem putc_yes (r:Reg) (f t:Int) (g base:Nat) (A:Option Addr) (cap:Nat) (l:List Reg) (w:World)
  (hcell:w.heap[g]? =some (.cells #[.slice A l.length cap] 59 (0,0))) (hown:OwnR w base A cap l) (hgb:g<base) (hbw:base≤w.heap.size) (hfew:l.length<1000000) (hft:f<t):
  Calls Tryz.prog 150 #[.agg #[.int .u64 (r).fr, .int .u64 (r).to, .int .u8 (r).prot, .int .i64 (r).ino, .int .u64 (r).off], .int .u64 f, .int .u64 t, .bool true, .pointer (some ⟨g,0,none⟩)] w
   fun e w'=>e= .returned (.tuple #[])∧ ∃g' cap',w'.heap[g]? =some (.cells #[.slice (some ⟨g',0,none⟩) (l.length+1) cap'] 59 (0,0))∧OwnR w' base (some ⟨g',0,none⟩) cap' (l++[Rg.part r f t])∧
    But2 w w' g (A.map (·.block))∧(A.map (·.block)=some g'∨w.heap.size≤g'):=by
 have hc0:=cell_of_one hcell
 have hf0:=free_of_one hcell
 have hgw:g<w.heap.size:=by omega
 have hlen:=ae (rfl:l.length=l.length)
 have hrow: ∀b,A.map (·.block)=some b→base≤b∧b<w.heap.size:=fun b hb=>by
  rcases hown.form with⟨h1,_,_⟩|⟨g1,h1,h2,h3,h4⟩
  ·rw[h1]at hb;simp at hb
  ·rw[h1]at hb;simp at hb;subst hb;exact⟨h2,h3⟩
 have NG:Hid (some g≠A.map (·.block)):=ae fun e=>by have:=hrow g e.symm;omega
 have NW:Hid (some w.heap.size≠A.map (·.block)):=ae fun e=>by have:=hrow _ e.symm;omega
 have HROW:=ae hrow
 clear hrow
 have HO:=ae hown
 clear hown
 go_enter Tryz.func150,Tryz.ntmps150
 go_wp2
 go_region_law (first
   |((refine step_app_reg (by rfl) (.tmp 15) (.tmp 20) (by rfl) base A cap l (by rfl) ((((HO.out.alloc _).drew).below hb1 (by simp)).alloc _) (Rg.part r f t) w1.heap.size 1 (by rfl) (heap_alloc_new _ _) hfew (by simp;omega) ?_;intro g' cap' w2 ho2 hg2 hat2 hlt2;have x2:=hg2.cell_far ⟨g,0,none⟩ (by simp;omega) NG.out;have y2:=hg2.frozen_far ⟨g,0,none⟩ (by simp;omega) NG.out))
   |(go_simp;go_at_call 151;refine(part_any r f t _).mono ?_;rintro e w1 ⟨rfl,hb1⟩;(have hz1:=hb1.size;simp at hz1);have x0:=hb1.cell (p:=⟨g,0,none⟩) (by simp;omega);have y0:=hb1.frozen (p:=⟨g,0,none⟩) (by simp;omega);have lt1:g<w1.heap.size:=(by omega)))
 all_goals
  go_wp2
  go_end0
  have hfin:=putc_close hcell HO.out hgb hbw hb1 ho2 hg2 hat2 (.slice (some ⟨g',0,none⟩) (l.length+1) cap')
  exact⟨rfl,g',cap',hfin⟩
theorem putc_no (r:Reg) (f t:Int) (ok:Bool) (g:Nat) (w:World) (hft:ok=false∨t≤f):
  Calls Tryz.prog 150 #[.agg #[.int .u64 (r).fr, .int .u64 (r).to, .int .u8 (r).prot, .int .i64 (r).ino, .int .u64 (r).off], .int .u64 f, .int .u64 t, .bool ok, .pointer (some ⟨g,0,none⟩)] w
   fun e w'=>e= .returned (.tuple #[])∧Below w.heap.size w w':=by
 cases ok with
 |false=>
  go_enter Tryz.func150,Tryz.ntmps150
  go_wp2
  go_end0
  exact⟨rfl,by((repeat' (with_reducible(first|assumption|(refine Below.alloc ?_ ?_ _)|(refine Below.setCell ?_ ?_ _)|(refine Below.drew ?_)|(refine below_drewN ?_ _)|exact Below.refl _ _ |(refine Below.trans ?_ (Below.mono (by assumption) ?_)))))<;>(try simp)<;>(try omega))⟩
 |true=>
  have hft':t≤f:=by simpa using hft
  clear hft
  go_enter Tryz.func150,Tryz.ntmps150
  go_wp2
  go_end0
  exact⟨rfl,by((repeat' (with_reducible(first|assumption|(refine Below.alloc ?_ ?_ _)|(refine Below.setCell ?_ ?_ _)|(refine Below.drew ?_)|(refine below_drewN ?_ _)|exact Below.refl _ _ |(refine Below.trans ?_ (Below.mono (by assumption) ?_)))))<;>(try simp)<;>(try omega))⟩
theorem rgone_any (r:Reg) (w:World):Calls Tryz.prog 100 #[.agg #[.int .u64 (r).fr, .int .u64 (r).to, .int .u8 (r).prot, .int .i64 (r).ino, .int .u64 (r).off]] w
  fun e w'=>e= .returned (.tuple #[.agg #[.int .u64 (zeroReg).fr, .int .u64 (zeroReg).to, .int .u8 (zeroReg).prot, .int .i64 (zeroReg).ino, .int .u64 (zeroReg).off], .bool false])∧Below w.heap.size w w':=by
 go_enter Tryz.func100,Tryz.ntmps100
 go_wp2
 refine bodyPost_ret (v:= .tuple #[.agg #[.int .u64 (zeroReg).fr, .int .u64 (zeroReg).to, .int .u8 (zeroReg).prot, .int .i64 (zeroReg).ino, .int .u64 (zeroReg).off], .bool false]) (by simp[results,Tryz.results100,go_sem,zeroReg]) rfl ⟨rfl,by((repeat' (with_reducible(first|assumption|(refine Below.alloc ?_ ?_ _)|(refine Below.setCell ?_ ?_ _)|(refine Below.drew ?_)|(refine below_drewN ?_ _)|exact Below.refl _ _ |(refine Below.trans ?_ (Below.mono (by assumption) ?_)))))<;>(try simp)<;>(try omega))⟩
end
section
open Go.RowKit Go.Sort
def Rg.pc (r:Reg) (f t:Int) (ok:Bool):List Reg:=if ok=true∧f<t then [Rg.part r f t]else []
theorem But2.of_below {w w':World} (h:Below w.heap.size w w') (g:Nat) (row:Option Nat):But2 w w' g row:=⟨h.os,h.tape,h.output,h.size,fun k hk _ _ =>h.block k hk⟩
theorem But2.blk {w w':World} {g:Nat} {row:Option Nat} (h:But2 w w' g row) {b:Nat} {o:Obj} (hb:w.heap[b]? =some o) (h1:b≠g) (h2:some b≠row):w'.heap[b]? =some o:=
 (h.block b (ac hb).1 h1 h2).trans hb
theorem OwnR.row {w:World} {base:Nat} {A:Option Addr} {cap:Nat} {l:List Reg} (h:OwnR w base A cap l): ∀b,A.map (·.block)=some b→base≤b∧b<w.heap.size:=fun b hb=>by
 rcases h.form with⟨h1,_,_⟩|⟨g1,h1,h2,h3,h4⟩
 ·rw[h1]at hb;simp at hb
 ·rw[h1]at hb;simp at hb;subst hb;exact⟨h2,h3⟩
def PutPost (r:Reg) (f t:Int) (ok:Bool) (g base:Nat) (A:Option Addr) (l:List Reg) (w:World) (e:Ending) (w':World):Prop:=
 e= .returned (.tuple #[])∧ ∃A' cap',w'.heap[g]? =some (.cells #[.slice A' (l++Rg.pc r f t ok).length cap'] 59 (0,0))∧OwnR w' base A' cap' (l++Rg.pc r f t ok)∧But2 w w' g (A.map (·.block))∧(∀b,A'.map (·.block)=some b→A.map (·.block)=some b∨w.heap.size≤b)
theorem putc_any (r:Reg) (f t:Int) (ok:Bool) (g base:Nat) (A:Option Addr) (cap:Nat) (l:List Reg) (w:World)
  (hcell:w.heap[g]? =some (.cells #[.slice A l.length cap] 59 (0,0))) (hown:OwnR w base A cap l) (hgb:g<base) (hbw:base≤w.heap.size) (hfew:l.length<1000000):
  Calls Tryz.prog 150 #[.agg #[.int .u64 (r).fr, .int .u64 (r).to, .int .u8 (r).prot, .int .i64 (r).ino, .int .u64 (r).off], .int .u64 f, .int .u64 t, .bool ok, .pointer (some ⟨g,0,none⟩)] w (PutPost r f t ok g base A l w):=by
 by_cases h:ok=true∧f<t
 ·obtain⟨rfl,hft⟩:=h
  refine(putc_yes r f t g base A cap l w hcell hown hgb hbw hfew hft).mono ?_
  rintro e w' ⟨rfl,g',cap',h1,h2,h3,h4⟩
  refine⟨rfl,some ⟨g',0,none⟩,cap',?_,?_,h3,fun b hb=>by simp at hb;subst hb;exact h4⟩
  ·simpa [Rg.pc,hft]using h1
  ·simpa [Rg.pc,hft]using h2
 ·refine(putc_no r f t ok g w (by cases ok<;>simp_all)).mono ?_
  rintro e w' ⟨rfl,hb⟩
  have hp:Rg.pc r f t ok=[]:=by simp only[Rg.pc,if_neg h]
  refine⟨rfl,A,cap,?_,?_,But2.of_below hb _ _,fun b hb=> .inl hb⟩
  ·rw[hp,List.append_nil,hb.block g (by omega)]
   exact hcell
  ·rw[hp,List.append_nil]
   exact hown.below hb (Nat.le_refl _)
structure RunInv (w:World) (W0 wr:World) (A:Option Addr) (cap:Nat) (l:List Reg):Prop where
 below:Below (w.heap.size+1) W0 wr
 cell:wr.heap[w.heap.size+1]? =some (.cells #[.slice A l.length cap] 59 (0,0))
 own:OwnR wr (w.heap.size+2) A cap l
 size:w.heap.size+2≤wr.heap.size
theorem RunInv.alloc {w W0 wr:World} {A:Option Addr} {cap:Nat} {l:List Reg} (h:RunInv w W0 wr A cap l) (o:Obj):RunInv w W0 (wr.alloc o) A cap l:=
 ⟨h.below.alloc (by have:=h.size;omega) o,(Below.heap_alloc _ _ _ (by have:=h.size;omega)).trans h.cell,h.own.alloc o,by have:=h.size;simp;omega⟩
theorem RunInv.next {w W0 wr w':World} {A:Option Addr} {cap:Nat} {l:List Reg} (h:RunInv w W0 wr A cap l) (hb:Below wr.heap.size wr w'):RunInv w W0 w' A cap l:=
 ⟨h.below.trans (hb.mono (by have:=h.size;omega)),(hb.block _ (by have:=h.size;omega)).trans h.cell,h.own.below hb (Nat.le_refl _),by have:=h.size;have:=hb.size;omega⟩
theorem RunInv.put {w W0 wr w':World} {A:Option Addr} {cap:Nat} {l:List Reg} (h:RunInv w W0 wr A cap l) {r:Reg} {f t:Int} {ok:Bool} {e:Ending}
  (hp:PutPost r f t ok (w.heap.size+1) (w.heap.size+2) A l wr e w'):e= .returned (.tuple #[])∧ ∃A' cap',RunInv w W0 w' A' cap' (l++Rg.pc r f t ok)∧wr.heap.size≤w'.heap.size∧(∀b,A'.map (·.block)=some b→A.map (·.block)=some b∨wr.heap.size≤b)∧
   (∀b o,wr.heap[b]? =some o→b≠w.heap.size+1→some b≠A.map (·.block)→w'.heap[b]? =some o):=by
 obtain⟨he,A',cap',h1,h2,h3,h9⟩:=hp
 refine⟨he,A',cap',⟨h.below.trans ⟨h3.os,h3.tape,h3.output,h3.size,fun k hk=>h3.block k (by have:=h.size;omega) (by omega) (fun e=>?_)⟩,h1,h2,by have:=h.size;have:=h3.size;omega⟩,h3.size,h9,fun b o hb h4 h5=>h3.blk hb h4 h5⟩
 have:=h.own.row k e.symm
 omega
def Rg.run1 (f t:Int) (h:Reg→Reg×Bool) (r:Reg):List Reg:=Rg.pc r r.fr (min r.to f) true++(Rg.pc (h r).1 (max r.fr f) (min r.to t) (h r).2++Rg.pc r (max r.fr t) r.to true)
def Rg.run (f t:Int) (h:Reg→Reg×Bool) (l:List Reg):List Reg:=l.flatMap (Rg.run1 f t h)
theorem run_take {f t:Int} {h:Reg→Reg×Bool} {l:List Reg} {k:Nat} {r:Reg} (hr:l[k]? =some r):Rg.run f t h (l.take (k+1))=Rg.run f t h (l.take k)++Rg.run1 f t h r:=by
 rw[List.take_add_one,hr]
 simp[Rg.run]
theorem pc_len (r:Reg) (f t:Int) (ok:Bool):(Rg.pc r f t ok).length≤1:=by unfold Rg.pc;split<;>simp
theorem run_len (f t:Int) (h:Reg→Reg×Bool) (l:List Reg):(Rg.run f t h l).length≤3*l.length:=by
 induction l with
 |nil=>simp[Rg.run]
 |cons r l ih=>
  have h1:=pc_len r r.fr (min r.to f) true
  have h2:=pc_len (h r).1 (max r.fr f) (min r.to t) (h r).2
  have h3:=pc_len r (max r.fr t) r.to true
  simp only[Rg.run,List.flatMap_cons,List.length_append,Rg.run1,List.length_cons]at *
  omega
def hGone (r:Reg):Reg×Bool:=(zeroReg,false)
theorem one_blockR {w:World} {b:Nat} {cs:Array Value} {t:TypeId} (h:w.heap[b]? =some (.cells cs t (0,0))) (j:Nat):w.cell? ⟨b,j,none⟩=cs[j]? :=cell_of_row w b j cs t (0,0) h
theorem run_gone_any (f t:Int) (A:Option Addr) (n cap:Nat) (w:World) (l:List Reg) (hl:RSl w w.heap.size A n cap l) (hf:n≤300):
  Calls Tryz.prog 101 #[.agg #[.int .u64 f, .int .u64 t, .func (.func 100) #[] #[]], .slice A n cap] w
   fun e w'=> ∃A' cap',e= .returned (.slice A' (Rg.run f t hGone l).length cap')∧OwnR w' w.heap.size A' cap' (Rg.run f t hGone l)∧Below w.heap.size w w':=by
 have hln:=ae hl.len
 go_enter Tryz.func101,Tryz.ntmps101
 go_wp2
 generalize hW0:(w.alloc (.cells #[.int .u64 f, .int .u64 t, .func (.func 100) #[] #[]] 184)).alloc (.cells #[.slice none 0 0] 59)=W0
 have HW:=ae hW0
 have hstart:RunInv w W0 W0 none 0 (Rg.run f t hGone (l.take 0)):=by
  subst hW0
  exact⟨Below.refl _ _,by have:=heap_alloc_new (w.alloc (.cells #[.int .u64 f, .int .u64 t, .func (.func 100) #[] #[]] 184)) (.cells #[.slice none 0 0] 59);simpa [Rg.run]using this,by simpa [Rg.run]using OwnR.nil _ _,by simp⟩
 have hstep:W0.heap[w.heap.size]? =some (.cells #[.int .u64 f, .int .u64 t, .func (.func 100) #[] #[]] 184 (0,0)):=by
  subst hW0
  rw[Below.heap_alloc _ _ _ (by simp)]
  exact heap_alloc_new w _
 have hb0:Below w.heap.size w W0:=by
  subst hW0
  ((repeat' (with_reducible(first|assumption|(refine Below.alloc ?_ ?_ _)|(refine Below.setCell ?_ ?_ _)|(refine Below.drew ?_)|(refine below_drewN ?_ _)|exact Below.refl _ _ |(refine Below.trans ?_ (Below.mono (by assumption) ?_)))))<;>(try simp)<;>(try omega))
 clear hW0
 go_loopw [13] (fun i wr=> ∃k:Nat,k≤n∧i= .int .i64 k∧ ∃A cap,RunInv w W0 wr A cap (Rg.run f t hGone (l.take k))) (fun i _ =>n-(intOf i).toNat)
 case atStart=>exact⟨0,Nat.zero_le _,rfl,none,0,hstart⟩
 case round=>
  obtain⟨k,hk,rfl,A1,c1,hI⟩:=hrel
  have hB:=hb0.trans (hI.below.mono (by omega))
  have hs0:=hI.size
  have hz0:w.heap.size<wr.heap.size:=by omega
  have hz1:w.heap.size+1<wr.heap.size:=by omega
  have hsr:=(hI.below.block _ (by omega)).trans hstep
  have s0:wr.cell? ⟨w.heap.size,0,none⟩=some (.int .u64 f):=one_blockR hsr 0
  have s1:wr.cell? ⟨w.heap.size,1,none⟩=some (.int .u64 t):=one_blockR hsr 1
  have s2:wr.cell? ⟨w.heap.size,2,none⟩=some (.func (.func 100) #[] #[]):=one_blockR hsr 2
  by_cases hlt:k<n
  ·obtain⟨r,hr⟩: ∃r,l[k]? =some r:=⟨_,List.getElem?_eq_getElem (by have:=hln.out;omega)⟩
   obtain⟨b,off,rfl,hb,hra⟩:=hl.at_ k r hr
   obtain⟨h0,h1,h2,h3,h4⟩:=hra.below hB hb
   have HR:=ae hr
   have hlen:=run_len f t hGone (l.take k)
   have hlk:(l.take k).length≤300:=by rw[List.length_take];omega
   generalize hL:Rg.run f t hGone (l.take k)=L at *
   have HL:=ae hL
   clear hr hra hL
   go_wp2_with fail
   have hI1:=hI.alloc (.cells #[.int .u64 r.fr, .int .u64 r.to, .int .u8 r.prot, .int .i64 r.ino, .int .u64 r.off] 45)
   have hrow1:=hI.own.row
   have hbx1:=heap_alloc_new wr (.cells #[.int .u64 r.fr, .int .u64 r.to, .int .u8 r.prot, .int .i64 r.ino, .int .u64 r.off] 45)
   have hst1:=(Below.heap_alloc wr (.cells #[.int .u64 r.fr, .int .u64 r.to, .int .u8 r.prot, .int .i64 r.ino, .int .u64 r.off] 45) _ hz0).trans hsr
   refine(putc_any r _ _ true (w.heap.size+1) (w.heap.size+2) A1 c1 L _ hI1.cell hI1.own (by omega) hI1.size (by omega)).mono ?_
   intro e w1 hp1
   obtain⟨rfl,A2,c2,hI2,hsz1,hat1,hkeep1⟩:=hI1.put hp1
   have hbx2:=hkeep1 _ _ hbx1 (by omega) (fun e=>by have:=hrow1 _ e.symm;omega)
   have hst2:=hkeep1 _ _ hst1 (by omega) (fun e=>by have:=hrow1 _ e.symm;omega)
   have hL1:=pc_len r r.fr (min r.to f) true
   have hrb1:some wr.heap.size≠A2.map (·.block):=fun e=>by
    rcases hat1 _ e.symm with h|h
    ·have:=hrow1 _ h;omega
    ·simp at h;omega
   have hsz1':wr.heap.size<w1.heap.size:=by simp at hsz1;omega
   clear hat1 hI1 hp1 hkeep1 hbx1 hst1 s0 s1 s2 h0 h1 h2 h3 h4 hsr
   have s0:w1.cell? ⟨w.heap.size,0,none⟩=some (.int .u64 f):=one_blockR hst2 0
   have s1:w1.cell? ⟨w.heap.size,1,none⟩=some (.int .u64 t):=one_blockR hst2 1
   have s2:w1.cell? ⟨w.heap.size,2,none⟩=some (.func (.func 100) #[] #[]):=one_blockR hst2 2
   have b0:w1.cell? ⟨wr.heap.size,0,none⟩=some (.int .u64 r.fr):=one_blockR hbx2 0
   have b1:w1.cell? ⟨wr.heap.size,1,none⟩=some (.int .u64 r.to):=one_blockR hbx2 1
   have b2:w1.cell? ⟨wr.heap.size,2,none⟩=some (.int .u8 r.prot):=one_blockR hbx2 2
   have b3:w1.cell? ⟨wr.heap.size,3,none⟩=some (.int .i64 r.ino):=one_blockR hbx2 3
   have b4:w1.cell? ⟨wr.heap.size,4,none⟩=some (.int .u64 r.off):=one_blockR hbx2 4
   go_wp2_with fail
   refine(rgone_any r w1).mono ?_
   rintro e w2 ⟨rfl,hb2⟩
   have hI3:=hI2.next hb2
   have hbx3:=(hb2.block _ hsz1').trans hbx2
   have hst3:=(hb2.block _ (by omega)).trans hst2
   have hsz2:=hb2.size
   clear s0 s1 s2 b0 b1 b2 b3 b4 hbx2 hst2
   have s0:w2.cell? ⟨w.heap.size,0,none⟩=some (.int .u64 f):=one_blockR hst3 0
   have s1:w2.cell? ⟨w.heap.size,1,none⟩=some (.int .u64 t):=one_blockR hst3 1
   have b0:w2.cell? ⟨wr.heap.size,0,none⟩=some (.int .u64 r.fr):=one_blockR hbx3 0
   have b1:w2.cell? ⟨wr.heap.size,1,none⟩=some (.int .u64 r.to):=one_blockR hbx3 1
   have hz2:w.heap.size<w2.heap.size:=by omega
   have hz3:wr.heap.size<w2.heap.size:=by omega
   go_wp2_with fail
   have hI4:=hI3.alloc (.cells #[.int .u64 (hGone r).1.fr, .int .u64 (hGone r).1.to, .int .u8 (hGone r).1.prot, .int .i64 (hGone r).1.ino, .int .u64 (hGone r).1.off] 45)
   have hrow2:=hI3.own.row
   have hbx4:=(Below.heap_alloc w2 (.cells #[.int .u64 (hGone r).1.fr, .int .u64 (hGone r).1.to, .int .u8 (hGone r).1.prot, .int .i64 (hGone r).1.ino, .int .u64 (hGone r).1.off] 45) _ hz3).trans hbx3
   have hst4:=(Below.heap_alloc w2 (.cells #[.int .u64 (hGone r).1.fr, .int .u64 (hGone r).1.to, .int .u8 (hGone r).1.prot, .int .i64 (hGone r).1.ino, .int .u64 (hGone r).1.off] 45) _ hz2).trans hst3
   have hnr:some wr.heap.size≠A2.map (·.block):=hrb1
   refine(putc_any (hGone r).1 _ _ (hGone r).2 (w.heap.size+1) (w.heap.size+2) A2 c2 _ _ hI4.cell hI4.own (by omega) hI4.size (by simp;omega)).mono ?_
   intro e w3 hp2
   obtain⟨rfl,A3,c3,hI5,hsz3,hat3,hkeep2⟩:=hI4.put hp2
   have hbx5:=hkeep2 _ _ hbx4 (by omega) hnr
   have hst5:=hkeep2 _ _ hst4 (by omega) (fun e=>by have:=hrow2 _ e.symm;omega)
   have hL2:=pc_len (hGone r).1 (max r.fr f) (min r.to t) (hGone r).2
   have hsz3':wr.heap.size<w3.heap.size:=by simp at hsz3;omega
   clear hat3 hI4 hp2 hkeep2 hbx4 hst4 s0 s1 b0 b1
   have s1:w3.cell? ⟨w.heap.size,1,none⟩=some (.int .u64 t):=one_blockR hst5 1
   have b0:w3.cell? ⟨wr.heap.size,0,none⟩=some (.int .u64 r.fr):=one_blockR hbx5 0
   have b1:w3.cell? ⟨wr.heap.size,1,none⟩=some (.int .u64 r.to):=one_blockR hbx5 1
   have b2:w3.cell? ⟨wr.heap.size,2,none⟩=some (.int .u8 r.prot):=one_blockR hbx5 2
   have b3:w3.cell? ⟨wr.heap.size,3,none⟩=some (.int .i64 r.ino):=one_blockR hbx5 3
   have b4:w3.cell? ⟨wr.heap.size,4,none⟩=some (.int .u64 r.off):=one_blockR hbx5 4
   go_wp2_with fail
   refine(putc_any r _ _ true (w.heap.size+1) (w.heap.size+2) A3 c3 _ _ hI5.cell hI5.own (by omega) hI5.size (by simp;omega)).mono ?_
   intro e w4 hp3
   obtain⟨rfl,A4,c4,hI6,hsz4,_,_⟩:=hI5.put hp3
   have hfin:RunInv w W0 w4 A4 c4 (Rg.run f t hGone (l.take (k+1))):=by
    rw[run_take HR.out,HL.out]
    simpa [Rg.run1,List.append_assoc]using hI6
   clear hI6 hp3 s1 b0 b1 b2 b3 b4
   go_wp2_with fail
   go_roundw
   case rel=>exact⟨k+1,by omega,by go_num,A4,c4,hfin⟩
   case measure=>simp[intOf];omega
  ·have hcell:=one_blockR hI.cell 0
   have hfr:wr.frozen? ⟨w.heap.size+1,0,none⟩=false:=by simp[World.frozen?,hI.cell]
   have ht:l.take k=l:=List.take_of_length_le (by have:=hln.out;omega)
   have HI:=ae hI
   have HT:=ae ht
   clear hI ht
   have hc0:wr.cell? ⟨w.heap.size+1,0,none⟩=some (.slice A1 (Rg.run f t hGone (l.take k)).length c1):=hcell
   clear hcell
   generalize hL:(Rg.run f t hGone (l.take k))=L at *
   have HL:=ae hL
   clear hL
   go_wp2
   refine bodyPost_ret (v:= .slice A1 L.length c1) (by simp[results,Tryz.results101,go_sem,hc0,hfr,hz1]) rfl ?_
   have hI:=HI.out
   have hL:=HL.out
   rw[HT.out]at hL
   subst hL
   refine⟨A1,c1,rfl,?_,?_⟩
   ·refine OwnR.lower (OwnR.kept hI.own (row:=some (w.heap.size+1)) ⟨rfl,rfl,rfl,by simp[World.setCell],fun k _ hk=>Below.heap_setCell _ _ _ _ (fun e=>hk (by rw[e]))⟩ (.inr fun e=>?_)) (by omega)
    have:=hI.own.row _ e
    omega
   ·((repeat' (with_reducible(first|assumption|(refine Below.alloc ?_ ?_ _)|(refine Below.setCell ?_ ?_ _)|(refine Below.drew ?_)|(refine below_drewN ?_ _)|exact Below.refl _ _ |(refine Below.trans ?_ (Below.mono (by assumption) ?_)))))<;>(try simp)<;>(try omega))
end
end Go.Proofs.YtoochjhipmpehaaGreatDoor
