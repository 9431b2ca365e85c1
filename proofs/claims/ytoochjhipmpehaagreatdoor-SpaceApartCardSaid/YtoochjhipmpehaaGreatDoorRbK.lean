/- Regions: the closure that puts a part (run$1), and run itself, with what goes (gone) and with what is protected. Regions: run, at what goes and at what is protected. -/
import Derived.Test.YtoochjhipmpehaaGreatDoorRaK
import Derived.Deep.RegionLaw
import Derived.Lib.MinMax
set_option linter.unusedVariables false
set_option linter.unusedSimpArgs false
set_option maxRecDepth 100000
set_option maxHeartbeats 2000000
namespace Go.Proofs.YtoochjhipmpehaaGreatDoor
section
open Go.RowKit Go.Sort
variable {w:World}
theorem mP {ops:Array Oper} {o:Oper} {a:Act} {K:Act->World->Prop} {Q:Exit->Act->World->Prop} {E:Prop} (yv:o.guard=none) (s x:Operand)
  (ho:o.op= .call { callee:= .builtin .append,args:= #[s,x],argTypes:= #[59,59]})
  (base:Nat) (A:Option Addr) (cap:Nat) (l:List Reg) (hs:a.eval s= .slice A l.length cap) (vR:OwnR w base A cap l)
  (r:Reg) (b c:Nat) (hx:a.eval x= .slice (some ⟨b,0,none⟩) 1 c) (hb:w.heap[b]? =some (.cells #[.int .u64 r.fr, .int .u64 r.to, .int .u8 r.prot, .int .i64 r.ino, .int .u64 r.off] 45 (0,0)))
  (wb:l.length<1000000) (vQ:base<=w.heap.size)
  (h: ∀g vA w',OwnR w' base (some ⟨g,0,none⟩) vA (l++[r])->w.grownBy w' (A.map (·.block))->(A.map (·.block)=some g\/g=w.heap.size)->g<w'.heap.size->K (a.put o.dst (.slice (some ⟨g,0,none⟩) (l.length+1) vA)) w'):
  if Region.wanted o (yielded ops a.tmps)=true then Oper.wp Tryz.prog o a w K Q else E:=by
 obtain⟨i0,yb,wz,wg,wm⟩:=info_parts jg;refine step_append_lies w yv s x 59 ho base 45 i0 _ 5 40 Tryz.underlying59 yb wz wg wm rfl (by omega) _ l.length (rcs l) hs vR ⟨b,0,none⟩ 1 c (rc r) hx rfl (World.news_of_block (cs:= #[.int .u64 r.fr, .int .u64 r.to, .int .u8 r.prot, .int .i64 r.ino, .int .u64 r.off]) hb)
  (by rw[<-iw];exact bN _) (by omega) (by unfold maxLen;omega) (by omega) vQ w.heap.size rfl ?_
 intro g vA w' xG hg wK vH;refine h g vA w' ?_ ?_ ?_ vH
 ·unfold OwnR;rw[dZ,iw,vf];exact xG
 ·cases A<;>simpa [Value.ownBlock]using hg
 ·cases A<;>simpa [Value.ownBlock]using wK
structure But2 (w w':World) (g:Nat) (row:Option Nat):Prop where
 os:w'.os=w.os
 tape:w'.tape=w.tape
 output:w'.output=w.output
 size:w.heap.size<=w'.heap.size
 block: ∀k,k<w.heap.size->k≠g->some k≠row->w'.heap[k]? =w.heap[k]?
theorem qV {w1 w2:World} {g base g' cap vA:Nat} {A:Option Addr} {l l':List Reg} {box ob2:Obj} {u:Value} (vU:w.heap[g]? =some (.cells #[u] 59 (0,0))) (vR:OwnR w base A cap l) (FZ:g<base) (za:base<=w.heap.size)
  (vD:Below (w.alloc box).drew.heap.size (w.alloc box).drew w1) (BD:OwnR w2 base (some ⟨g',0,none⟩) vA l') (xT:(w1.alloc ob2).grownBy w2 (A.map (·.block))) (xA:A.map (·.block)=some g'\/g'=(w1.alloc ob2).heap.size) (v:Value):
  (w2.setCell ⟨g,0,none⟩ v).heap[g]? =some (.cells #[v] 59 (0,0))/\OwnR (w2.setCell ⟨g,0,none⟩ v) base (some ⟨g',0,none⟩) vA l'/\But2 w (w2.setCell ⟨g,0,none⟩ v) g (A.map (·.block))/\(A.map (·.block)=some g'\/w.heap.size<=g'):=by
 have wj: ∀b,A.map (·.block)=some b->base<=b/\b<w.heap.size:=fun b hb=>by
  rcases vR.form with⟨h1,_,_⟩|⟨g1,h1,h2,h3,h4⟩
  ·rw[h1]at hb;simp at hb
  ·rw[h1]at hb;simp at hb;subst hb;exact⟨h2,h3⟩
 have wg:=vD.size;simp at wg;have hold: ∀k,k<w.heap.size->some k≠A.map (·.block)->w2.heap[k]? =w.heap[k]? :=fun k hk vK=>by
  rw[xT.block k (by simp;omega) vK,ve _ _ _ (by omega),vD.block k (by simp;omega)];exact ve w box k hk
 have YY:some g≠A.map (·.block):=fun e=>by have:=wj g e.symm;omega
 have Zj:=(hold g (by omega) YY).trans vU;obtain⟨g2,he,Cz,DL,_⟩:=(BD.form).resolve_left (by simp);obtain rfl:g'=g2:=(by simpa using he);refine⟨?_,?_,?_,?_⟩
 ·simp[World.setCell,Array.getElem?_modify,Zj]
 ·refine BD.kept (row:=some g) ⟨rfl,rfl,rfl,by simp[World.setCell],fun k _ hk=>vi _ _ _ _ (fun e=>hk (by rw[e]))⟩ (.inr ?_);simp;omega
 ·have Ef:=xT.size;simp at Ef;refine⟨?_,?_,?_,?_,fun k hk h1 h2=>?_⟩
  ·exact xT.os.trans vD.os
  ·exact xT.tape.trans vD.tape
  ·exact xT.output.trans vD.output
  ·simp[World.setCell];omega
  ·rw[vi _ _ _ _ (by simpa using h1)];exact hold k hk h2
 ·rcases xA with h|h
  ·exact .inl h
  ·right;simp at h;omega
theorem putc_yes (r:Reg) (f t:Int) (g base:Nat) (A:Option Addr) (cap:Nat) (l:List Reg) (w:World)
  (vU:w.heap[g]? =some (.cells #[.slice A l.length cap] 59 (0,0))) (vR:OwnR w base A cap l) (FZ:g<base) (za:base<=w.heap.size) (wb:l.length<1000000) (xu:f<t):
  Calls Tryz.prog 150 #[.agg #[.int .u64 (r).fr, .int .u64 (r).to, .int .u8 (r).prot, .int .i64 (r).ino, .int .u64 (r).off], .int .u64 f, .int .u64 t, .bool true, .pointer (some ⟨g,0,none⟩)] w
   fun e w'=>e= .returned (.tuple #[])/\ ∃g' vA,w'.heap[g]? =some (.cells #[.slice (some ⟨g',0,none⟩) (l.length+1) vA] 59 (0,0))/\OwnR w' base (some ⟨g',0,none⟩) vA (l++[Rg.part r f t])/\
    But2 w w' g (A.map (·.block))/\(A.map (·.block)=some g'\/w.heap.size<=g'):=by
 have NU:=cell_of_one vU;have PJ:=free_of_one vU;have GP:g<w.heap.size:=(by omega);have hlen:=va (rfl:l.length=l.length);have wj: ∀b,A.map (·.block)=some b->base<=b/\b<w.heap.size:=fun b hb=>by
  rcases vR.form with⟨h1,_,_⟩|⟨g1,h1,h2,h3,h4⟩
  ·rw[h1]at hb;simp at hb
  ·rw[h1]at hb;simp at hb;subst hb;exact⟨h2,h3⟩
 have NG:Hid (some g≠A.map (·.block)):=va fun e=>by have:=wj g e.symm;omega
 have NW:Hid (some w.heap.size≠A.map (·.block)):=va fun e=>by have:=wj _ e.symm;omega
 have By:=va wj;clear wj;have HO:=va vR;clear vR;go_enter Tryz.func150,Tryz.ntmps150;go_wp2;go_region_law (first
   |((refine mP (by rfl) (.tmp 15) (.tmp 20) (by rfl) base A cap l (by rfl) ((((HO.out.alloc _).drew).below vD (by simp)).alloc _) (Rg.part r f t) w1.heap.size 1 (by rfl) (heap_alloc_new _ _) wb (by simp;omega) ?_;intro g' vA w2 BD xT xA JQ;have x2:=xT.cell_far ⟨g,0,none⟩ (by simp;omega) NG.out;have y2:=xT.frozen_far ⟨g,0,none⟩ (by simp;omega) NG.out))
   |(go_simp;go_at_call 151;refine(qb r f t _).mono ?_;rintro e w1 ⟨rfl,vD⟩;(have wg:=vD.size;simp at wg);have x0:=vD.cell (p:=⟨g,0,none⟩) (by simp;omega);have y0:=vD.frozen (p:=⟨g,0,none⟩) (by simp;omega);have lt1:g<w1.heap.size:=(by omega)))
 all_goals
  go_wp2;go_end0;have wU:=qV vU HO.out FZ za vD BD xT xA (.slice (some ⟨g',0,none⟩) (l.length+1) vA);exact⟨rfl,g',vA,wU⟩
theorem putc_no (r:Reg) (f t:Int) (ok:Bool) (g:Nat) (w:World) (xu:ok=false\/t<=f):
  Calls Tryz.prog 150 #[.agg #[.int .u64 (r).fr, .int .u64 (r).to, .int .u8 (r).prot, .int .i64 (r).ino, .int .u64 (r).off], .int .u64 f, .int .u64 t, .bool ok, .pointer (some ⟨g,0,none⟩)] w
   fun e w'=>e= .returned (.tuple #[])/\Below w.heap.size w w':=by
 cases ok with
 |false=>
  go_enter Tryz.func150,Tryz.ntmps150;go_wp2;go_end0;exact⟨rfl,by exact vb⟩
 |true=>
  have hft':t<=f:=(by simpa using xu);clear xu;go_enter Tryz.func150,Tryz.ntmps150;go_wp2;go_end0;exact⟨rfl,by exact vb⟩
theorem sM (r:Reg) (w:World):Calls Tryz.prog 100 #[.agg #[.int .u64 (r).fr, .int .u64 (r).to, .int .u8 (r).prot, .int .i64 (r).ino, .int .u64 (r).off]] w
  fun e w'=>e= .returned (.tuple #[.agg #[.int .u64 (bc).fr, .int .u64 (bc).to, .int .u8 (bc).prot, .int .i64 (bc).ino, .int .u64 (bc).off], .bool false])/\Below w.heap.size w w':=by
 go_enter Tryz.func100,Tryz.ntmps100;go_wp2;refine bodyPost_ret (v:= .tuple #[.agg #[.int .u64 (bc).fr, .int .u64 (bc).to, .int .u8 (bc).prot, .int .i64 (bc).ino, .int .u64 (bc).off], .bool false]) (by simp[results,Tryz.results100,go_sem,bc]) rfl ⟨rfl,by exact vb⟩
theorem prot_any (r:Reg) (p:Int) (g:Nat) (w:World) (hp:w.cell? ⟨g,0,none⟩=some (.int .u8 p)) (hg:g<w.heap.size):
  Calls Tryz.prog 115 #[.agg #[.int .u64 (r).fr, .int .u64 (r).to, .int .u8 (r).prot, .int .i64 (r).ino, .int .u64 (r).off], .pointer (some ⟨g,0,none⟩)] w
  fun e w'=>e= .returned (.tuple #[.agg #[.int .u64 ((⟨r.fr,r.to,p,r.ino,r.off⟩:Reg)).fr, .int .u64 ((⟨r.fr,r.to,p,r.ino,r.off⟩:Reg)).to, .int .u8 ((⟨r.fr,r.to,p,r.ino,r.off⟩:Reg)).prot, .int .i64 ((⟨r.fr,r.to,p,r.ino,r.off⟩:Reg)).ino, .int .u64 ((⟨r.fr,r.to,p,r.ino,r.off⟩:Reg)).off], .bool true])/\Below w.heap.size w w':=by
 go_enter Tryz.func115,Tryz.ntmps115;go_wp2;refine bodyPost_ret (v:= .tuple #[.agg #[.int .u64 ((⟨r.fr,r.to,p,r.ino,r.off⟩:Reg)).fr, .int .u64 ((⟨r.fr,r.to,p,r.ino,r.off⟩:Reg)).to, .int .u8 ((⟨r.fr,r.to,p,r.ino,r.off⟩:Reg)).prot, .int .i64 ((⟨r.fr,r.to,p,r.ino,r.off⟩:Reg)).ino, .int .u64 ((⟨r.fr,r.to,p,r.ino,r.off⟩:Reg)).off], .bool true]) (by simp[results,Tryz.results115,go_sem]) rfl ⟨rfl,by exact vb⟩
end
section
open Go.RowKit Go.Sort
def Rg.pc (r:Reg) (f t:Int) (ok:Bool):List Reg:=if ok=true/\f<t then [Rg.part r f t]else []
variable {w w':World}
theorem But2.of_below (h:Below w.heap.size w w') (g:Nat) (row:Option Nat):But2 w w' g row:=⟨h.os,h.tape,h.output,h.size,fun k hk _ _ =>h.block k hk⟩
variable {b:Nat}
theorem But2.blk {g:Nat} {row:Option Nat} (h:But2 w w' g row) {o:Obj} (hb:w.heap[b]? =some o) (h1:b≠g) (h2:some b≠row):w'.heap[b]? =some o:=
 (h.block b (uZ hb).1 h1 h2).trans hb
variable {A:Option Addr} {cap:Nat} {l:List Reg}
theorem OwnR.row {base:Nat} (h:OwnR w base A cap l): ∀b,A.map (·.block)=some b->base<=b/\b<w.heap.size:=fun b hb=>by
 rcases h.form with⟨h1,_,_⟩|⟨g1,h1,h2,h3,h4⟩
 ·rw[h1]at hb;simp at hb
 ·rw[h1]at hb;simp at hb;subst hb;exact⟨h2,h3⟩
def uP (r:Reg) (f t:Int) (ok:Bool) (g base:Nat) (A:Option Addr) (l:List Reg) (w:World) (e:Ending) (w':World):Prop:=
 e= .returned (.tuple #[])/\ ∃A' vA,w'.heap[g]? =some (.cells #[.slice A' (l++Rg.pc r f t ok).length vA] 59 (0,0))/\OwnR w' base A' vA (l++Rg.pc r f t ok)/\But2 w w' g (A.map (·.block))/\(∀b,A'.map (·.block)=some b->A.map (·.block)=some b\/w.heap.size<=b)
theorem fA (r:Reg) (f t:Int) (ok:Bool) (g base:Nat) (A:Option Addr) (cap:Nat) (l:List Reg) (w:World)
  (vU:w.heap[g]? =some (.cells #[.slice A l.length cap] 59 (0,0))) (vR:OwnR w base A cap l) (FZ:g<base) (za:base<=w.heap.size) (wb:l.length<1000000):
  Calls Tryz.prog 150 #[.agg #[.int .u64 (r).fr, .int .u64 (r).to, .int .u8 (r).prot, .int .i64 (r).ino, .int .u64 (r).off], .int .u64 f, .int .u64 t, .bool ok, .pointer (some ⟨g,0,none⟩)] w (uP r f t ok g base A l w):=by
 by_cases h:ok=true/\f<t
 ·obtain⟨rfl,xu⟩:=h;refine(putc_yes r f t g base A cap l w vU vR FZ za wb xu).mono ?_;rintro e w' ⟨rfl,g',vA,h1,h2,h3,h4⟩;refine⟨rfl,some ⟨g',0,none⟩,vA,?_,?_,h3,fun b hb=>by simp at hb;subst hb;exact h4⟩
  ·simpa [Rg.pc,xu]using h1
  ·simpa [Rg.pc,xu]using h2
 ·refine(putc_no r f t ok g w (by cases ok<;>simp_all)).mono ?_;rintro e w' ⟨rfl,hb⟩;have hp:Rg.pc r f t ok=[]:=(by simp only[Rg.pc,if_neg h]);refine⟨rfl,A,cap,?_,?_,But2.of_below hb _ _,fun b hb=> .inl hb⟩
  ·rw[hp,List.append_nil,hb.block g (by omega)];exact vU
  ·rw[hp,List.append_nil];exact vR.below hb (vd _)
structure dB (w:World) (W0 wr:World) (A:Option Addr) (cap:Nat) (l:List Reg):Prop where
 below:Below (w.heap.size+1) W0 wr
 cell:wr.heap[w.heap.size+1]? =some (.cells #[.slice A l.length cap] 59 (0,0))
 own:OwnR wr (w.heap.size+2) A cap l
 size:w.heap.size+2<=wr.heap.size
variable {W0 wr:World}
theorem dB.alloc (h:dB w W0 wr A cap l) (o:Obj):dB w W0 (wr.alloc o) A cap l:=
 ⟨h.below.alloc (by have:=h.size;omega) o,(ve _ _ _ (by have:=h.size;omega)).trans h.cell,h.own.alloc o,by have:=h.size;simp;omega⟩
theorem dB.next (h:dB w W0 wr A cap l) (hb:Below wr.heap.size wr w'):dB w W0 w' A cap l:=
 ⟨h.below.trans (hb.mono (by have:=h.size;omega)),(hb.block _ (by have:=h.size;omega)).trans h.cell,h.own.below hb (vd _),by have:=h.size;have:=hb.size;omega⟩
variable {r:Reg} {f t:Int}
theorem dB.put (h:dB w W0 wr A cap l) {ok:Bool} {e:Ending}
  (hp:uP r f t ok (w.heap.size+1) (w.heap.size+2) A l wr e w'):e= .returned (.tuple #[])/\ ∃A' vA,dB w W0 w' A' vA (l++Rg.pc r f t ok)/\wr.heap.size<=w'.heap.size/\(∀b,A'.map (·.block)=some b->A.map (·.block)=some b\/wr.heap.size<=b)/\
   (∀b o,wr.heap[b]? =some o->b≠w.heap.size+1->some b≠A.map (·.block)->w'.heap[b]? =some o):=by
 obtain⟨he,A',vA,h1,h2,h3,h9⟩:=hp;refine⟨he,A',vA,⟨h.below.trans ⟨h3.os,h3.tape,h3.output,h3.size,fun k hk=>h3.block k (by have:=h.size;omega) (by omega) (fun e=>?_)⟩,h1,h2,by have:=h.size;have:=h3.size;omega⟩,h3.size,h9,fun b o hb h4 h5=>h3.blk hb h4 h5⟩;have:=h.own.row k e.symm;omega
def Rg.run1 (f t:Int) (h:Reg->Reg×Bool) (r:Reg):List Reg:=Rg.pc r r.fr (min r.to f) true++(Rg.pc (h r).1 (max r.fr f) (min r.to t) (h r).2++Rg.pc r (max r.fr t) r.to true)
def Rg.run (f t:Int) (h:Reg->Reg×Bool) (l:List Reg):List Reg:=l.flatMap (Rg.run1 f t h)
theorem pR {h:Reg->Reg×Bool} {k:Nat} (hr:l[k]? =some r):Rg.run f t h (l.take (k+1))=Rg.run f t h (l.take k)++Rg.run1 f t h r:=by
 rw[List.take_add_one,hr];simp[Rg.run]
theorem jQ (r:Reg) (f t:Int) (ok:Bool):(Rg.pc r f t ok).length<=1:=by unfold Rg.pc;split<;>simp
theorem lE (f t:Int) (h:Reg->Reg×Bool) (l:List Reg):(Rg.run f t h l).length<=3*l.length:=by
 induction l with
 |nil=>simp[Rg.run]
 |cons r l ih=>
  have h1:=jQ r r.fr (min r.to f) true;have h2:=jQ (h r).1 (max r.fr f) (min r.to t) (h r).2;have h3:=jQ r (max r.fr t) r.to true;simp only[Rg.run,vy,vf,Rg.run1,vn]at *
  omega
def bP (r:Reg):Reg×Bool:=(bc,false)
def aJ (p:Int) (r:Reg):Reg×Bool:=(⟨r.fr,r.to,p,r.ino,r.off⟩,true)
theorem ai {cs:Array Value} {t:TypeId} (h:w.heap[b]? =some (.cells cs t (0,0))) (j:Nat):w.cell? ⟨b,j,none⟩=cs[j]? :=cell_of_row w b j cs t (0,0) h
theorem iO (f t:Int) (A:Option Addr) (n cap:Nat) (w:World) (l:List Reg) (hl:RSl w w.heap.size A n cap l) (hf:n<=300):
  Calls Tryz.prog 101 #[.agg #[.int .u64 f, .int .u64 t, .func (.func 100) #[] #[]], .slice A n cap] w
   fun e w'=> ∃A' vA,e= .returned (.slice A' (Rg.run f t bP l).length vA)/\OwnR w' w.heap.size A' vA (Rg.run f t bP l)/\Below w.heap.size w w':=by
 have DI:=va hl.len;go_enter Tryz.func101,Tryz.ntmps101;go_wp2;generalize GZ:(w.alloc (.cells #[.int .u64 f, .int .u64 t, .func (.func 100) #[] #[]] 184)).alloc (.cells #[.slice none 0 0] 59)=W0;have HW:=va GZ;have FI:dB w W0 W0 none 0 (Rg.run f t bP (l.take 0)):=by
  subst GZ;exact⟨vz _ _,by have:=heap_alloc_new (w.alloc (.cells #[.int .u64 f, .int .u64 t, .func (.func 100) #[] #[]] 184)) (.cells #[.slice none 0 0] 59);simpa [Rg.run]using this,by simpa [Rg.run]using OwnR.nil _ _,by simp⟩
 have wh:W0.heap[w.heap.size]? =some (.cells #[.int .u64 f, .int .u64 t, .func (.func 100) #[] #[]] 184 (0,0)):=by
  subst GZ;rw[ve _ _ _ (by simp)];exact heap_alloc_new w _
 have vF:Below w.heap.size w W0:=by
  subst GZ
  exact vb
 clear GZ;go_loopw [13] (fun i wr=> ∃k:Nat,k<=n/\i= .int .i64 k/\ ∃A cap,dB w W0 wr A cap (Rg.run f t bP (l.take k))) (fun i _ =>n-(intOf i).toNat)
 case atStart=>exact⟨0,vw _,rfl,none,0,FI⟩
 case round=>
  obtain⟨k,hk,rfl,A1,c1,hI⟩:=hrel;have hB:=vF.trans (hI.below.mono (by omega));have BB:=hI.size;have wz:w.heap.size<wr.heap.size:=(by omega);have wg:w.heap.size+1<wr.heap.size:=(by omega);have FJ:=(hI.below.block _ (by omega)).trans wh;have s0:wr.cell? ⟨w.heap.size,0,none⟩=some (.int .u64 f):=ai FJ 0;have s1:wr.cell? ⟨w.heap.size,1,none⟩=some (.int .u64 t):=ai FJ 1;have s2:wr.cell? ⟨w.heap.size,2,none⟩=some (.func (.func 100) #[] #[]):=ai FJ 2;by_cases vH:k<n
  ·obtain⟨r,hr⟩: ∃r,l[k]? =some r:=⟨_,vg (by have:=DI.out;omega)⟩;obtain⟨b,off,rfl,hb,yT⟩:=hl.at_ k r hr;obtain⟨h0,h1,h2,h3,h4⟩:=yT.below hB hb;have HR:=va hr;have hlen:=lE f t bP (l.take k);have zJ:(l.take k).length<=300:=(by rw[List.length_take];omega);generalize hL:Rg.run f t bP (l.take k)=L at *
   have HL:=va hL;clear hr yT hL;go_wp2_with fail;have KC:=hI.alloc (.cells #[.int .u64 r.fr, .int .u64 r.to, .int .u8 r.prot, .int .i64 r.ino, .int .u64 r.off] 45);have ze:=hI.own.row;have Kp:=heap_alloc_new wr (.cells #[.int .u64 r.fr, .int .u64 r.to, .int .u8 r.prot, .int .i64 r.ino, .int .u64 r.off] 45);have Jp:=(ve wr (.cells #[.int .u64 r.fr, .int .u64 r.to, .int .u8 r.prot, .int .i64 r.ino, .int .u64 r.off] 45) _ wz).trans FJ;refine(fA r _ _ true (w.heap.size+1) (w.heap.size+2) A1 c1 L _ KC.cell KC.own (by omega) KC.size (by omega)).mono ?_;intro e w1 hp1;obtain⟨rfl,A2,c2,Xv,OR,xe,zV⟩:=KC.put hp1;have zY:=zV _ _ Kp (by omega) (fun e=>by have:=ze _ e.symm;omega);have yx:=zV _ _ Jp (by omega) (fun e=>by have:=ze _ e.symm;omega);have DQ:=jQ r r.fr (min r.to f) true;have Pd:some wr.heap.size≠A2.map (·.block):=fun e=>by
    rcases xe _ e.symm with h|h
    ·have:=ze _ h;omega
    ·simp at h;omega
   have Jn:wr.heap.size<w1.heap.size:=(by simp at OR;omega);clear xe KC hp1 zV Kp Jp s0 s1 s2 h0 h1 h2 h3 h4 FJ;have s0:w1.cell? ⟨w.heap.size,0,none⟩=some (.int .u64 f):=ai yx 0;have s1:w1.cell? ⟨w.heap.size,1,none⟩=some (.int .u64 t):=ai yx 1;have s2:w1.cell? ⟨w.heap.size,2,none⟩=some (.func (.func 100) #[] #[]):=ai yx 2;have b0:w1.cell? ⟨wr.heap.size,0,none⟩=some (.int .u64 r.fr):=ai zY 0;have b1:w1.cell? ⟨wr.heap.size,1,none⟩=some (.int .u64 r.to):=ai zY 1;have b2:w1.cell? ⟨wr.heap.size,2,none⟩=some (.int .u8 r.prot):=ai zY 2;have b3:w1.cell? ⟨wr.heap.size,3,none⟩=some (.int .i64 r.ino):=ai zY 3;have b4:w1.cell? ⟨wr.heap.size,4,none⟩=some (.int .u64 r.off):=ai zY 4;go_wp2_with fail;refine(sM r w1).mono ?_;rintro e w2 ⟨rfl,vM⟩;have US:=Xv.next vM;have Gc:=(vM.block _ Jn).trans zY;have AL:=(vM.block _ (by omega)).trans yx;have Ym:=vM.size;clear s0 s1 s2 b0 b1 b2 b3 b4 zY yx;have s0:w2.cell? ⟨w.heap.size,0,none⟩=some (.int .u64 f):=ai AL 0;have s1:w2.cell? ⟨w.heap.size,1,none⟩=some (.int .u64 t):=ai AL 1;have b0:w2.cell? ⟨wr.heap.size,0,none⟩=some (.int .u64 r.fr):=ai Gc 0;have b1:w2.cell? ⟨wr.heap.size,1,none⟩=some (.int .u64 r.to):=ai Gc 1;have wm:w.heap.size<w2.heap.size:=(by omega);have xR:wr.heap.size<w2.heap.size:=(by omega);go_wp2_with fail;have KB:=US.alloc (.cells #[.int .u64 (bP r).1.fr, .int .u64 (bP r).1.to, .int .u8 (bP r).1.prot, .int .i64 (bP r).1.ino, .int .u64 (bP r).1.off] 45);have xg:=US.own.row;have Ko:=(ve w2 (.cells #[.int .u64 (bP r).1.fr, .int .u64 (bP r).1.to, .int .u8 (bP r).1.prot, .int .i64 (bP r).1.ino, .int .u64 (bP r).1.off] 45) _ xR).trans Gc;have Jo:=(ve w2 (.cells #[.int .u64 (bP r).1.fr, .int .u64 (bP r).1.to, .int .u8 (bP r).1.prot, .int .i64 (bP r).1.ino, .int .u64 (bP r).1.off] 45) _ wm).trans AL;have YA:some wr.heap.size≠A2.map (·.block):=Pd;refine(fA (bP r).1 _ _ (bP r).2 (w.heap.size+1) (w.heap.size+2) A2 c2 _ _ KB.cell KB.own (by omega) KB.size (by simp;omega)).mono ?_;intro e w3 hp2;obtain⟨rfl,A3,c3,Mt,OQ,PY,zU⟩:=KB.put hp2;have Ce:=zU _ _ Ko (by omega) YA;have OS:=zU _ _ Jo (by omega) (fun e=>by have:=xg _ e.symm;omega);have IS:=jQ (bP r).1 (max r.fr f) (min r.to t) (bP r).2;have Sv:wr.heap.size<w3.heap.size:=(by simp at OQ;omega);clear PY KB hp2 zU Ko Jo s0 s1 b0 b1;have s1:w3.cell? ⟨w.heap.size,1,none⟩=some (.int .u64 t):=ai OS 1;have b0:w3.cell? ⟨wr.heap.size,0,none⟩=some (.int .u64 r.fr):=ai Ce 0;have b1:w3.cell? ⟨wr.heap.size,1,none⟩=some (.int .u64 r.to):=ai Ce 1;have b2:w3.cell? ⟨wr.heap.size,2,none⟩=some (.int .u8 r.prot):=ai Ce 2;have b3:w3.cell? ⟨wr.heap.size,3,none⟩=some (.int .i64 r.ino):=ai Ce 3;have b4:w3.cell? ⟨wr.heap.size,4,none⟩=some (.int .u64 r.off):=ai Ce 4;go_wp2_with fail;refine(fA r _ _ true (w.heap.size+1) (w.heap.size+2) A3 c3 _ _ Mt.cell Mt.own (by omega) Mt.size (by simp;omega)).mono ?_;intro e w4 hp3;obtain⟨rfl,A4,c4,UR,Yl,_,_⟩:=Mt.put hp3;have wU:dB w W0 w4 A4 c4 (Rg.run f t bP (l.take (k+1))):=by
    rw[pR HR.out,HL.out];simpa [Rg.run1,List.append_assoc]using UR
   clear UR hp3 s1 b0 b1 b2 b3 b4;go_wp2_with fail;go_roundw
   case rel=>exact⟨k+1,by omega,by go_num,A4,c4,wU⟩
   case measure=>simp[intOf];omega
  ·have vU:=ai hI.cell 0;have yw:wr.frozen? ⟨w.heap.size+1,0,none⟩=false:=(by simp[World.frozen?,hI.cell]);have ht:l.take k=l:=List.take_of_length_le (by have:=DI.out;omega);have HI:=va hI;have HT:=va ht;clear hI ht;have NU:wr.cell? ⟨w.heap.size+1,0,none⟩=some (.slice A1 (Rg.run f t bP (l.take k)).length c1):=vU;clear vU;generalize hL:(Rg.run f t bP (l.take k))=L at *
   have HL:=va hL;clear hL;go_wp2;refine bodyPost_ret (v:= .slice A1 L.length c1) (by simp[results,Tryz.results101,go_sem,NU,yw,wg]) rfl ?_;have hI:=HI.out;have hL:=HL.out;rw[HT.out]at hL;subst hL;refine⟨A1,c1,rfl,?_,?_⟩
   ·refine OwnR.lower (OwnR.kept hI.own (row:=some (w.heap.size+1)) ⟨rfl,rfl,rfl,by simp[World.setCell],fun k _ hk=>vi _ _ _ _ (fun e=>hk (by rw[e]))⟩ (.inr fun e=>?_)) (by omega);have:=hI.own.row _ e;omega
   ·exact vb
theorem mW (p:Int) (gp:Nat)(f t:Int) (A:Option Addr) (n cap:Nat) (w:World) (l:List Reg) (hl:RSl w w.heap.size A n cap l) (hf:n<=300)(hp:w.cell? ⟨gp,0,none⟩=some (.int .u8 p)) (PD:gp<w.heap.size):
  Calls Tryz.prog 101 #[.agg #[.int .u64 f, .int .u64 t, .func (.func 115) #[] #[.pointer (some ⟨gp,0,none⟩)]], .slice A n cap] w
   fun e w'=> ∃A' vA,e= .returned (.slice A' (Rg.run f t (aJ p) l).length vA)/\OwnR w' w.heap.size A' vA (Rg.run f t (aJ p) l)/\Below w.heap.size w w':=by
 have DI:=va hl.len;go_enter Tryz.func101,Tryz.ntmps101;go_wp2;generalize GZ:(w.alloc (.cells #[.int .u64 f, .int .u64 t, .func (.func 115) #[] #[.pointer (some ⟨gp,0,none⟩)]] 184)).alloc (.cells #[.slice none 0 0] 59)=W0;have HW:=va GZ;have FI:dB w W0 W0 none 0 (Rg.run f t (aJ p) (l.take 0)):=by
  subst GZ;exact⟨vz _ _,by have:=heap_alloc_new (w.alloc (.cells #[.int .u64 f, .int .u64 t, .func (.func 115) #[] #[.pointer (some ⟨gp,0,none⟩)]] 184)) (.cells #[.slice none 0 0] 59);simpa [Rg.run]using this,by simpa [Rg.run]using OwnR.nil _ _,by simp⟩
 have wh:W0.heap[w.heap.size]? =some (.cells #[.int .u64 f, .int .u64 t, .func (.func 115) #[] #[.pointer (some ⟨gp,0,none⟩)]] 184 (0,0)):=by
  subst GZ;rw[ve _ _ _ (by simp)];exact heap_alloc_new w _
 have vF:Below w.heap.size w W0:=by
  subst GZ
  exact vb
 clear GZ;go_loopw [13] (fun i wr=> ∃k:Nat,k<=n/\i= .int .i64 k/\ ∃A cap,dB w W0 wr A cap (Rg.run f t (aJ p) (l.take k))) (fun i _ =>n-(intOf i).toNat)
 case atStart=>exact⟨0,vw _,rfl,none,0,FI⟩
 case round=>
  obtain⟨k,hk,rfl,A1,c1,hI⟩:=hrel;have hB:=vF.trans (hI.below.mono (by omega));have BB:=hI.size;have wz:w.heap.size<wr.heap.size:=(by omega);have wg:w.heap.size+1<wr.heap.size:=(by omega);have FJ:=(hI.below.block _ (by omega)).trans wh;have s0:wr.cell? ⟨w.heap.size,0,none⟩=some (.int .u64 f):=ai FJ 0;have s1:wr.cell? ⟨w.heap.size,1,none⟩=some (.int .u64 t):=ai FJ 1;have s2:wr.cell? ⟨w.heap.size,2,none⟩=some (.func (.func 115) #[] #[.pointer (some ⟨gp,0,none⟩)]):=ai FJ 2;by_cases vH:k<n
  ·obtain⟨r,hr⟩: ∃r,l[k]? =some r:=⟨_,vg (by have:=DI.out;omega)⟩;obtain⟨b,off,rfl,hb,yT⟩:=hl.at_ k r hr;obtain⟨h0,h1,h2,h3,h4⟩:=yT.below hB hb;have HR:=va hr;have hlen:=lE f t (aJ p) (l.take k);have zJ:(l.take k).length<=300:=(by rw[List.length_take];omega);generalize hL:Rg.run f t (aJ p) (l.take k)=L at *
   have HL:=va hL;clear hr yT hL;go_wp2_with fail;have KC:=hI.alloc (.cells #[.int .u64 r.fr, .int .u64 r.to, .int .u8 r.prot, .int .i64 r.ino, .int .u64 r.off] 45);have ze:=hI.own.row;have Kp:=heap_alloc_new wr (.cells #[.int .u64 r.fr, .int .u64 r.to, .int .u8 r.prot, .int .i64 r.ino, .int .u64 r.off] 45);have Jp:=(ve wr (.cells #[.int .u64 r.fr, .int .u64 r.to, .int .u8 r.prot, .int .i64 r.ino, .int .u64 r.off] 45) _ wz).trans FJ;refine(fA r _ _ true (w.heap.size+1) (w.heap.size+2) A1 c1 L _ KC.cell KC.own (by omega) KC.size (by omega)).mono ?_;intro e w1 hp1;obtain⟨rfl,A2,c2,Xv,OR,xe,zV⟩:=KC.put hp1;have zY:=zV _ _ Kp (by omega) (fun e=>by have:=ze _ e.symm;omega);have yx:=zV _ _ Jp (by omega) (fun e=>by have:=ze _ e.symm;omega);have DQ:=jQ r r.fr (min r.to f) true;have Pd:some wr.heap.size≠A2.map (·.block):=fun e=>by
    rcases xe _ e.symm with h|h
    ·have:=ze _ h;omega
    ·simp at h;omega
   have Jn:wr.heap.size<w1.heap.size:=(by simp at OR;omega);clear xe KC hp1 zV Kp Jp s0 s1 s2 h0 h1 h2 h3 h4 FJ;have s0:w1.cell? ⟨w.heap.size,0,none⟩=some (.int .u64 f):=ai yx 0;have s1:w1.cell? ⟨w.heap.size,1,none⟩=some (.int .u64 t):=ai yx 1;have s2:w1.cell? ⟨w.heap.size,2,none⟩=some (.func (.func 115) #[] #[.pointer (some ⟨gp,0,none⟩)]):=ai yx 2;have b0:w1.cell? ⟨wr.heap.size,0,none⟩=some (.int .u64 r.fr):=ai zY 0;have b1:w1.cell? ⟨wr.heap.size,1,none⟩=some (.int .u64 r.to):=ai zY 1;have b2:w1.cell? ⟨wr.heap.size,2,none⟩=some (.int .u8 r.prot):=ai zY 2;have b3:w1.cell? ⟨wr.heap.size,3,none⟩=some (.int .i64 r.ino):=ai zY 3;have b4:w1.cell? ⟨wr.heap.size,4,none⟩=some (.int .u64 r.off):=ai zY 4;go_wp2_with fail;refine(prot_any r p gp w1 (((vF.trans (Xv.below.mono (by omega))).cell (p:=⟨gp,0,none⟩) PD).trans hp) (by omega)).mono ?_;rintro e w2 ⟨rfl,vM⟩;have US:=Xv.next vM;have Gc:=(vM.block _ Jn).trans zY;have AL:=(vM.block _ (by omega)).trans yx;have Ym:=vM.size;clear s0 s1 s2 b0 b1 b2 b3 b4 zY yx;have s0:w2.cell? ⟨w.heap.size,0,none⟩=some (.int .u64 f):=ai AL 0;have s1:w2.cell? ⟨w.heap.size,1,none⟩=some (.int .u64 t):=ai AL 1;have b0:w2.cell? ⟨wr.heap.size,0,none⟩=some (.int .u64 r.fr):=ai Gc 0;have b1:w2.cell? ⟨wr.heap.size,1,none⟩=some (.int .u64 r.to):=ai Gc 1;have wm:w.heap.size<w2.heap.size:=(by omega);have xR:wr.heap.size<w2.heap.size:=(by omega);go_wp2_with fail;have KB:=US.alloc (.cells #[.int .u64 ((aJ p) r).1.fr, .int .u64 ((aJ p) r).1.to, .int .u8 ((aJ p) r).1.prot, .int .i64 ((aJ p) r).1.ino, .int .u64 ((aJ p) r).1.off] 45);have xg:=US.own.row;have Ko:=(ve w2 (.cells #[.int .u64 ((aJ p) r).1.fr, .int .u64 ((aJ p) r).1.to, .int .u8 ((aJ p) r).1.prot, .int .i64 ((aJ p) r).1.ino, .int .u64 ((aJ p) r).1.off] 45) _ xR).trans Gc;have Jo:=(ve w2 (.cells #[.int .u64 ((aJ p) r).1.fr, .int .u64 ((aJ p) r).1.to, .int .u8 ((aJ p) r).1.prot, .int .i64 ((aJ p) r).1.ino, .int .u64 ((aJ p) r).1.off] 45) _ wm).trans AL;have YA:some wr.heap.size≠A2.map (·.block):=Pd;refine(fA ((aJ p) r).1 _ _ ((aJ p) r).2 (w.heap.size+1) (w.heap.size+2) A2 c2 _ _ KB.cell KB.own (by omega) KB.size (by simp;omega)).mono ?_;intro e w3 hp2;obtain⟨rfl,A3,c3,Mt,OQ,PY,zU⟩:=KB.put hp2;have Ce:=zU _ _ Ko (by omega) YA;have OS:=zU _ _ Jo (by omega) (fun e=>by have:=xg _ e.symm;omega);have IS:=jQ ((aJ p) r).1 (max r.fr f) (min r.to t) ((aJ p) r).2;have Sv:wr.heap.size<w3.heap.size:=(by simp at OQ;omega);clear PY KB hp2 zU Ko Jo s0 s1 b0 b1;have s1:w3.cell? ⟨w.heap.size,1,none⟩=some (.int .u64 t):=ai OS 1;have b0:w3.cell? ⟨wr.heap.size,0,none⟩=some (.int .u64 r.fr):=ai Ce 0;have b1:w3.cell? ⟨wr.heap.size,1,none⟩=some (.int .u64 r.to):=ai Ce 1;have b2:w3.cell? ⟨wr.heap.size,2,none⟩=some (.int .u8 r.prot):=ai Ce 2;have b3:w3.cell? ⟨wr.heap.size,3,none⟩=some (.int .i64 r.ino):=ai Ce 3;have b4:w3.cell? ⟨wr.heap.size,4,none⟩=some (.int .u64 r.off):=ai Ce 4;go_wp2_with fail;refine(fA r _ _ true (w.heap.size+1) (w.heap.size+2) A3 c3 _ _ Mt.cell Mt.own (by omega) Mt.size (by simp;omega)).mono ?_;intro e w4 hp3;obtain⟨rfl,A4,c4,UR,Yl,_,_⟩:=Mt.put hp3;have wU:dB w W0 w4 A4 c4 (Rg.run f t (aJ p) (l.take (k+1))):=by
    rw[pR HR.out,HL.out];simpa [Rg.run1,List.append_assoc]using UR
   clear UR hp3 s1 b0 b1 b2 b3 b4;go_wp2_with fail;go_roundw
   case rel=>exact⟨k+1,by omega,by go_num,A4,c4,wU⟩
   case measure=>simp[intOf];omega
  ·have vU:=ai hI.cell 0;have yw:wr.frozen? ⟨w.heap.size+1,0,none⟩=false:=(by simp[World.frozen?,hI.cell]);have ht:l.take k=l:=List.take_of_length_le (by have:=DI.out;omega);have HI:=va hI;have HT:=va ht;clear hI ht;have NU:wr.cell? ⟨w.heap.size+1,0,none⟩=some (.slice A1 (Rg.run f t (aJ p) (l.take k)).length c1):=vU;clear vU;generalize hL:(Rg.run f t (aJ p) (l.take k))=L at *
   have HL:=va hL;clear hL;go_wp2;refine bodyPost_ret (v:= .slice A1 L.length c1) (by simp[results,Tryz.results101,go_sem,NU,yw,wg]) rfl ?_;have hI:=HI.out;have hL:=HL.out;rw[HT.out]at hL;subst hL;refine⟨A1,c1,rfl,?_,?_⟩
   ·refine OwnR.lower (OwnR.kept hI.own (row:=some (w.heap.size+1)) ⟨rfl,rfl,rfl,by simp[World.setCell],fun k _ hk=>vi _ _ _ _ (fun e=>hk (by rw[e]))⟩ (.inr fun e=>?_)) (by omega);have:=hI.own.row _ e;omega
   ·exact vb
end
