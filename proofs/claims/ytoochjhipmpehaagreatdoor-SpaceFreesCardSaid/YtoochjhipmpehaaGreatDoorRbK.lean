/- Regions: the closure that puts a part (run$1), and run itself, with what goes (gone) and with what is protected. Regions: run, at what goes and at what is protected. -/
import Derived.Test.YtoochjhipmpehaaGreatDoorRaK
import Derived.Deep.RegionLaw
import Derived.Lib.MinMax
set_option linter.unusedVariables false
set_option linter.unusedSimpArgs false
set_option maxRecDepth 100000
set_option maxHeartbeats 2000000
namespace Go.Proofs.YtoochjhipmpehaaGreatDoor
section
open Go.RowKit Go.Sort
variable {w:World}
theorem mB {ops:Array Oper} {o:Oper} {a:Act} {K:Act->World->Prop} {Q:Exit->Act->World->Prop} {E:Prop} (yH:o.guard=none) (s x:Operand)
  (ho:o.op= .call { callee:= .builtin .append,args:= #[s,x],argTypes:= #[59,59]})
  (base:Nat) (A:Option Addr) (cap:Nat) (l:List Reg) (hs:a.eval s= .slice A l.length cap) (vH:OwnR w base A cap l)
  (r:Reg) (b c:Nat) (hx:a.eval x= .slice (some ⟨b,0,none⟩) 1 c) (hb:w.heap[b]? =some (.cells #[.int .u64 r.fr, .int .u64 r.to, .int .u8 r.prot, .int .i64 r.ino, .int .u64 r.off] 45 (0,0)))
  (vA:l.length<1000000) (vK:base<=w.heap.size)
  (h: ∀g vk w',OwnR w' base (some ⟨g,0,none⟩) vk (l++[r])->w.grownBy w' (A.map (·.block))->(A.map (·.block)=some g\/g=w.heap.size)->g<w'.heap.size->K (a.put o.dst (.slice (some ⟨g,0,none⟩) (l.length+1) vk)) w'):
  if Region.wanted o (yielded ops a.tmps)=true then Oper.wp Tryz.prog o a w K Q else E:=by
 obtain⟨i0,yn,wb,vz,vS⟩:=info_parts iX;refine step_append_lies w yH s x 59 ho base 45 i0 _ 5 40 Tryz.underlying59 yn wb vz vS rfl (by omega) _ l.length (rcs l) hs vH ⟨b,0,none⟩ 1 c (rc r) hx rfl (World.news_of_block (cs:= #[.int .u64 r.fr, .int .u64 r.to, .int .u8 r.prot, .int .i64 r.ino, .int .u64 r.off]) hb)
  (by rw[<-il];exact bR _) (by omega) (by unfold maxLen;omega) (by omega) vK w.heap.size rfl ?_
 intro g vk w' wv hg wU vq;refine h g vk w' ?_ ?_ ?_ vq
 ·unfold OwnR;rw[el,il,uP];exact wv
 ·cases A<;>simpa [Value.ownBlock]using hg
 ·cases A<;>simpa [Value.ownBlock]using wU
structure But2 (w w':World) (g:Nat) (row:Option Nat):Prop where
 os:w'.os=w.os
 tape:w'.tape=w.tape
 output:w'.output=w.output
 size:w.heap.size<=w'.heap.size
 block: ∀k,k<w.heap.size->k≠g->some k≠row->w'.heap[k]? =w.heap[k]?
theorem qJ {w1 w2:World} {g base g' cap vk:Nat} {A:Option Addr} {l l':List Reg} {box ob2:Obj} {u:Value} (vG:w.heap[g]? =some (.cells #[u] 59 (0,0))) (vH:OwnR w base A cap l) (Gp:g<base) (zm:base<=w.heap.size)
  (vl:Below (w.alloc box).drew.heap.size (w.alloc box).drew w1) (BH:OwnR w2 base (some ⟨g',0,none⟩) vk l') (yc:(w1.alloc ob2).grownBy w2 (A.map (·.block))) (xE:A.map (·.block)=some g'\/g'=(w1.alloc ob2).heap.size) (v:Value):
  (w2.setCell ⟨g,0,none⟩ v).heap[g]? =some (.cells #[v] 59 (0,0))/\OwnR (w2.setCell ⟨g,0,none⟩ v) base (some ⟨g',0,none⟩) vk l'/\But2 w (w2.setCell ⟨g,0,none⟩ v) g (A.map (·.block))/\(A.map (·.block)=some g'\/w.heap.size<=g'):=by
 have vV: ∀b,A.map (·.block)=some b->base<=b/\b<w.heap.size:=fun b hb=>by
  rcases vH.form with⟨h1,_,_⟩|⟨g1,h1,h2,h3,h4⟩
  ·rw[h1]at hb;simp at hb
  ·rw[h1]at hb;simp at hb;subst hb;exact⟨h2,h3⟩
 have vz:=vl.size;simp at vz;have hold: ∀k,k<w.heap.size->some k≠A.map (·.block)->w2.heap[k]? =w.heap[k]? :=fun k hk vB=>by
  rw[yc.block k (by simp;omega) vB,uO _ _ _ (by omega),vl.block k (by simp;omega)];exact uO w box k hk
 have Yl:some g≠A.map (·.block):=fun e=>by have:=vV g e.symm;omega
 have Yw:=(hold g (by omega) Yl).trans vG;obtain⟨g2,he,CO,DZ,_⟩:=(BH.form).resolve_left (by simp);obtain rfl:g'=g2:=(by simpa using he);refine⟨?_,?_,?_,?_⟩
 ·simp[World.setCell,Array.getElem?_modify,Yw]
 ·refine BH.kept (row:=some g) ⟨rfl,rfl,rfl,by simp[World.setCell],fun k _ hk=>uS _ _ _ _ (fun e=>hk (by rw[e]))⟩ (.inr ?_);simp;omega
 ·have Es:=yc.size;simp at Es;refine⟨?_,?_,?_,?_,fun k hk h1 h2=>?_⟩
  ·exact yc.os.trans vl.os
  ·exact yc.tape.trans vl.tape
  ·exact yc.output.trans vl.output
  ·simp[World.setCell];omega
  ·rw[uS _ _ _ _ (by simpa using h1)];exact hold k hk h2
 ·rcases xE with h|h
  ·exact .inl h
  ·right;simp at h;omega
theorem putc_yes (r:Reg) (f t:Int) (g base:Nat) (A:Option Addr) (cap:Nat) (l:List Reg) (w:World)
  (vG:w.heap[g]? =some (.cells #[.slice A l.length cap] 59 (0,0))) (vH:OwnR w base A cap l) (Gp:g<base) (zm:base<=w.heap.size) (vA:l.length<1000000) (xD:f<t):
  Calls Tryz.prog 150 #[.agg #[.int .u64 (r).fr, .int .u64 (r).to, .int .u8 (r).prot, .int .i64 (r).ino, .int .u64 (r).off], .int .u64 f, .int .u64 t, .bool true, .pointer (some ⟨g,0,none⟩)] w
   fun e w'=>e= .returned (.tuple #[])/\ ∃g' vk,w'.heap[g]? =some (.cells #[.slice (some ⟨g',0,none⟩) (l.length+1) vk] 59 (0,0))/\OwnR w' base (some ⟨g',0,none⟩) vk (l++[Rg.part r f t])/\
    But2 w w' g (A.map (·.block))/\(A.map (·.block)=some g'\/w.heap.size<=g'):=by
 have PU:=cell_of_one vG;have PL:=free_of_one vG;have Ho:g<w.heap.size:=(by omega);have hlen:=uK (rfl:l.length=l.length);have vV: ∀b,A.map (·.block)=some b->base<=b/\b<w.heap.size:=fun b hb=>by
  rcases vH.form with⟨h1,_,_⟩|⟨g1,h1,h2,h3,h4⟩
  ·rw[h1]at hb;simp at hb
  ·rw[h1]at hb;simp at hb;subst hb;exact⟨h2,h3⟩
 have NG:Hid (some g≠A.map (·.block)):=uK fun e=>by have:=vV g e.symm;omega
 have NW:Hid (some w.heap.size≠A.map (·.block)):=uK fun e=>by have:=vV _ e.symm;omega
 have BF:=uK vV;clear vV;have HO:=uK vH;clear vH;go_enter Tryz.func150,Tryz.ntmps150;go_wp2;go_region_law (first
   |((refine mB (by rfl) (.tmp 15) (.tmp 20) (by rfl) base A cap l (by rfl) ((((HO.out.alloc _).drew).below vl (by simp)).alloc _) (Rg.part r f t) w1.heap.size 1 (by rfl) (heap_alloc_new _ _) vA (by simp;omega) ?_;intro g' vk w2 BH yc xE Ke;have x2:=yc.cell_far ⟨g,0,none⟩ (by simp;omega) NG.out;have y2:=yc.frozen_far ⟨g,0,none⟩ (by simp;omega) NG.out))
   |(go_simp;go_at_call 151;refine(pS r f t _).mono ?_;rintro e w1 ⟨rfl,vl⟩;(have vz:=vl.size;simp at vz);have x0:=vl.cell (p:=⟨g,0,none⟩) (by simp;omega);have y0:=vl.frozen (p:=⟨g,0,none⟩) (by simp;omega);have lt1:g<w1.heap.size:=(by omega)))
 all_goals
  go_wp2;go_end0;have wR:=qJ vG HO.out Gp zm vl BH yc xE (.slice (some ⟨g',0,none⟩) (l.length+1) vk);exact⟨rfl,g',vk,wR⟩
theorem putc_no (r:Reg) (f t:Int) (ok:Bool) (g:Nat) (w:World) (xD:ok=false\/t<=f):
  Calls Tryz.prog 150 #[.agg #[.int .u64 (r).fr, .int .u64 (r).to, .int .u8 (r).prot, .int .i64 (r).ino, .int .u64 (r).off], .int .u64 f, .int .u64 t, .bool ok, .pointer (some ⟨g,0,none⟩)] w
   fun e w'=>e= .returned (.tuple #[])/\Below w.heap.size w w':=by
 cases ok with
 |false=>
  go_enter Tryz.func150,Tryz.ntmps150;go_wp2;go_end0;exact⟨rfl,by exact uL⟩
 |true=>
  have hft':t<=f:=(by simpa using xD);clear xD;go_enter Tryz.func150,Tryz.ntmps150;go_wp2;go_end0;exact⟨rfl,by exact uL⟩
theorem sC (r:Reg) (w:World):Calls Tryz.prog 100 #[.agg #[.int .u64 (r).fr, .int .u64 (r).to, .int .u8 (r).prot, .int .i64 (r).ino, .int .u64 (r).off]] w
  fun e w'=>e= .returned (.tuple #[.agg #[.int .u64 (be).fr, .int .u64 (be).to, .int .u8 (be).prot, .int .i64 (be).ino, .int .u64 (be).off], .bool false])/\Below w.heap.size w w':=by
 go_enter Tryz.func100,Tryz.ntmps100;go_wp2;refine bodyPost_ret (v:= .tuple #[.agg #[.int .u64 (be).fr, .int .u64 (be).to, .int .u8 (be).prot, .int .i64 (be).ino, .int .u64 (be).off], .bool false]) (by simp[results,Tryz.results100,go_sem,be]) rfl ⟨rfl,by exact uL⟩
theorem prot_any (r:Reg) (p:Int) (g:Nat) (w:World) (hp:w.cell? ⟨g,0,none⟩=some (.int .u8 p)) (hg:g<w.heap.size):
  Calls Tryz.prog 115 #[.agg #[.int .u64 (r).fr, .int .u64 (r).to, .int .u8 (r).prot, .int .i64 (r).ino, .int .u64 (r).off], .pointer (some ⟨g,0,none⟩)] w
  fun e w'=>e= .returned (.tuple #[.agg #[.int .u64 ((⟨r.fr,r.to,p,r.ino,r.off⟩:Reg)).fr, .int .u64 ((⟨r.fr,r.to,p,r.ino,r.off⟩:Reg)).to, .int .u8 ((⟨r.fr,r.to,p,r.ino,r.off⟩:Reg)).prot, .int .i64 ((⟨r.fr,r.to,p,r.ino,r.off⟩:Reg)).ino, .int .u64 ((⟨r.fr,r.to,p,r.ino,r.off⟩:Reg)).off], .bool true])/\Below w.heap.size w w':=by
 go_enter Tryz.func115,Tryz.ntmps115;go_wp2;refine bodyPost_ret (v:= .tuple #[.agg #[.int .u64 ((⟨r.fr,r.to,p,r.ino,r.off⟩:Reg)).fr, .int .u64 ((⟨r.fr,r.to,p,r.ino,r.off⟩:Reg)).to, .int .u8 ((⟨r.fr,r.to,p,r.ino,r.off⟩:Reg)).prot, .int .i64 ((⟨r.fr,r.to,p,r.ino,r.off⟩:Reg)).ino, .int .u64 ((⟨r.fr,r.to,p,r.ino,r.off⟩:Reg)).off], .bool true]) (by simp[results,Tryz.results115,go_sem]) rfl ⟨rfl,by exact uL⟩
end
section
open Go.RowKit Go.Sort
def Rg.pc (r:Reg) (f t:Int) (ok:Bool):List Reg:=if ok=true/\f<t then [Rg.part r f t]else []
variable {w w':World}
theorem But2.of_below (h:Below w.heap.size w w') (g:Nat) (row:Option Nat):But2 w w' g row:=⟨h.os,h.tape,h.output,h.size,fun k hk _ _ =>h.block k hk⟩
variable {b:Nat}
theorem But2.blk {g:Nat} {row:Option Nat} (h:But2 w w' g row) {o:Obj} (hb:w.heap[b]? =some o) (h1:b≠g) (h2:some b≠row):w'.heap[b]? =some o:=
 (h.block b (uJ hb).1 h1 h2).trans hb
variable {A:Option Addr} {cap:Nat} {l:List Reg}
theorem OwnR.row {base:Nat} (h:OwnR w base A cap l): ∀b,A.map (·.block)=some b->base<=b/\b<w.heap.size:=fun b hb=>by
 rcases h.form with⟨h1,_,_⟩|⟨g1,h1,h2,h3,h4⟩
 ·rw[h1]at hb;simp at hb
 ·rw[h1]at hb;simp at hb;subst hb;exact⟨h2,h3⟩
def ux (r:Reg) (f t:Int) (ok:Bool) (g base:Nat) (A:Option Addr) (l:List Reg) (w:World) (e:Ending) (w':World):Prop:=
 e= .returned (.tuple #[])/\ ∃A' vk,w'.heap[g]? =some (.cells #[.slice A' (l++Rg.pc r f t ok).length vk] 59 (0,0))/\OwnR w' base A' vk (l++Rg.pc r f t ok)/\But2 w w' g (A.map (·.block))/\(∀b,A'.map (·.block)=some b->A.map (·.block)=some b\/w.heap.size<=b)
theorem fD (r:Reg) (f t:Int) (ok:Bool) (g base:Nat) (A:Option Addr) (cap:Nat) (l:List Reg) (w:World)
  (vG:w.heap[g]? =some (.cells #[.slice A l.length cap] 59 (0,0))) (vH:OwnR w base A cap l) (Gp:g<base) (zm:base<=w.heap.size) (vA:l.length<1000000):
  Calls Tryz.prog 150 #[.agg #[.int .u64 (r).fr, .int .u64 (r).to, .int .u8 (r).prot, .int .i64 (r).ino, .int .u64 (r).off], .int .u64 f, .int .u64 t, .bool ok, .pointer (some ⟨g,0,none⟩)] w (ux r f t ok g base A l w):=by
 by_cases h:ok=true/\f<t
 ·obtain⟨rfl,xD⟩:=h;refine(putc_yes r f t g base A cap l w vG vH Gp zm vA xD).mono ?_;rintro e w' ⟨rfl,g',vk,h1,h2,h3,h4⟩;refine⟨rfl,some ⟨g',0,none⟩,vk,?_,?_,h3,fun b hb=>by simp at hb;subst hb;exact h4⟩
  ·simpa [Rg.pc,xD]using h1
  ·simpa [Rg.pc,xD]using h2
 ·refine(putc_no r f t ok g w (by cases ok<;>simp_all)).mono ?_;rintro e w' ⟨rfl,hb⟩;have hp:Rg.pc r f t ok=[]:=(by simp only[Rg.pc,if_neg h]);refine⟨rfl,A,cap,?_,?_,But2.of_below hb _ _,fun b hb=> .inl hb⟩
  ·rw[hp,List.append_nil,hb.block g (by omega)];exact vG
  ·rw[hp,List.append_nil];exact vH.below hb (uN _)
structure dD (w:World) (W0 wr:World) (A:Option Addr) (cap:Nat) (l:List Reg):Prop where
 below:Below (w.heap.size+1) W0 wr
 cell:wr.heap[w.heap.size+1]? =some (.cells #[.slice A l.length cap] 59 (0,0))
 own:OwnR wr (w.heap.size+2) A cap l
 size:w.heap.size+2<=wr.heap.size
variable {W0 wr:World}
theorem dD.alloc (h:dD w W0 wr A cap l) (o:Obj):dD w W0 (wr.alloc o) A cap l:=
 ⟨h.below.alloc (by have:=h.size;omega) o,(uO _ _ _ (by have:=h.size;omega)).trans h.cell,h.own.alloc o,by have:=h.size;simp;omega⟩
theorem dD.next (h:dD w W0 wr A cap l) (hb:Below wr.heap.size wr w'):dD w W0 w' A cap l:=
 ⟨h.below.trans (hb.mono (by have:=h.size;omega)),(hb.block _ (by have:=h.size;omega)).trans h.cell,h.own.below hb (uN _),by have:=h.size;have:=hb.size;omega⟩
variable {r:Reg} {f t:Int}
theorem dD.put (h:dD w W0 wr A cap l) {ok:Bool} {e:Ending}
  (hp:ux r f t ok (w.heap.size+1) (w.heap.size+2) A l wr e w'):e= .returned (.tuple #[])/\ ∃A' vk,dD w W0 w' A' vk (l++Rg.pc r f t ok)/\wr.heap.size<=w'.heap.size/\(∀b,A'.map (·.block)=some b->A.map (·.block)=some b\/wr.heap.size<=b)/\
   (∀b o,wr.heap[b]? =some o->b≠w.heap.size+1->some b≠A.map (·.block)->w'.heap[b]? =some o):=by
 obtain⟨he,A',vk,h1,h2,h3,h9⟩:=hp;refine⟨he,A',vk,⟨h.below.trans ⟨h3.os,h3.tape,h3.output,h3.size,fun k hk=>h3.block k (by have:=h.size;omega) (by omega) (fun e=>?_)⟩,h1,h2,by have:=h.size;have:=h3.size;omega⟩,h3.size,h9,fun b o hb h4 h5=>h3.blk hb h4 h5⟩;have:=h.own.row k e.symm;omega
def Rg.run1 (f t:Int) (h:Reg->Reg×Bool) (r:Reg):List Reg:=Rg.pc r r.fr (min r.to f) true++(Rg.pc (h r).1 (max r.fr f) (min r.to t) (h r).2++Rg.pc r (max r.fr t) r.to true)
def Rg.run (f t:Int) (h:Reg->Reg×Bool) (l:List Reg):List Reg:=l.flatMap (Rg.run1 f t h)
theorem pJ {h:Reg->Reg×Bool} {k:Nat} (hr:l[k]? =some r):Rg.run f t h (l.take (k+1))=Rg.run f t h (l.take k)++Rg.run1 f t h r:=by
 rw[List.take_add_one,hr];simp[Rg.run]
theorem jF (r:Reg) (f t:Int) (ok:Bool):(Rg.pc r f t ok).length<=1:=by unfold Rg.pc;split<;>simp
theorem lh (f t:Int) (h:Reg->Reg×Bool) (l:List Reg):(Rg.run f t h l).length<=3*l.length:=by
 induction l with
 |nil=>simp[Rg.run]
 |cons r l ih=>
  have h1:=jF r r.fr (min r.to f) true;have h2:=jF (h r).1 (max r.fr f) (min r.to t) (h r).2;have h3:=jF r (max r.fr t) r.to true;simp only[Rg.run,vi,uP,Rg.run1,uX]at *
  omega
def bS (r:Reg):Reg×Bool:=(be,false)
def aO (p:Int) (r:Reg):Reg×Bool:=(⟨r.fr,r.to,p,r.ino,r.off⟩,true)
theorem ak {cs:Array Value} {t:TypeId} (h:w.heap[b]? =some (.cells cs t (0,0))) (j:Nat):w.cell? ⟨b,j,none⟩=cs[j]? :=cell_of_row w b j cs t (0,0) h
theorem iG (f t:Int) (A:Option Addr) (n cap:Nat) (w:World) (l:List Reg) (hl:RSl w w.heap.size A n cap l) (hf:n<=300):
  Calls Tryz.prog 101 #[.agg #[.int .u64 f, .int .u64 t, .func (.func 100) #[] #[]], .slice A n cap] w
   fun e w'=> ∃A' vk,e= .returned (.slice A' (Rg.run f t bS l).length vk)/\OwnR w' w.heap.size A' vk (Rg.run f t bS l)/\Below w.heap.size w w':=by
 have DV:=uK hl.len;go_enter Tryz.func101,Tryz.ntmps101;go_wp2;generalize Hy:(w.alloc (.cells #[.int .u64 f, .int .u64 t, .func (.func 100) #[] #[]] 184)).alloc (.cells #[.slice none 0 0] 59)=W0;have HW:=uK Hy;have FZ:dD w W0 W0 none 0 (Rg.run f t bS (l.take 0)):=by
  subst Hy;exact⟨vj _ _,by have:=heap_alloc_new (w.alloc (.cells #[.int .u64 f, .int .u64 t, .func (.func 100) #[] #[]] 184)) (.cells #[.slice none 0 0] 59);simpa [Rg.run]using this,by simpa [Rg.run]using OwnR.nil _ _,by simp⟩
 have wg:W0.heap[w.heap.size]? =some (.cells #[.int .u64 f, .int .u64 t, .func (.func 100) #[] #[]] 184 (0,0)):=by
  subst Hy;rw[uO _ _ _ (by simp)];exact heap_alloc_new w _
 have vp:Below w.heap.size w W0:=by
  subst Hy
  exact uL
 clear Hy;go_loopw [13] (fun i wr=> ∃k:Nat,k<=n/\i= .int .i64 k/\ ∃A cap,dD w W0 wr A cap (Rg.run f t bS (l.take k))) (fun i _ =>n-(intOf i).toNat)
 case atStart=>exact⟨0,vg _,rfl,none,0,FZ⟩
 case round=>
  obtain⟨k,hk,rfl,A1,c1,hI⟩:=hrel;have hB:=vp.trans (hI.below.mono (by omega));have xv:=hI.size;have wb:w.heap.size<wr.heap.size:=(by omega);have vz:w.heap.size+1<wr.heap.size:=(by omega);have Ga:=(hI.below.block _ (by omega)).trans wg;have s0:wr.cell? ⟨w.heap.size,0,none⟩=some (.int .u64 f):=ak Ga 0;have s1:wr.cell? ⟨w.heap.size,1,none⟩=some (.int .u64 t):=ak Ga 1;have s2:wr.cell? ⟨w.heap.size,2,none⟩=some (.func (.func 100) #[] #[]):=ak Ga 2;by_cases vq:k<n
  ·obtain⟨r,hr⟩: ∃r,l[k]? =some r:=⟨_,uQ (by have:=DV.out;omega)⟩;obtain⟨b,off,rfl,hb,Af⟩:=hl.at_ k r hr;obtain⟨h0,h1,h2,h3,h4⟩:=Af.below hB hb;have HR:=uK hr;have hlen:=lh f t bS (l.take k);have zW:(l.take k).length<=300:=(by rw[List.length_take];omega);generalize hL:Rg.run f t bS (l.take k)=L at *
   have HL:=uK hL;clear hr Af hL;go_wp2_with fail;have KT:=hI.alloc (.cells #[.int .u64 r.fr, .int .u64 r.to, .int .u8 r.prot, .int .i64 r.ino, .int .u64 r.off] 45);have zu:=hI.own.row;have KE:=heap_alloc_new wr (.cells #[.int .u64 r.fr, .int .u64 r.to, .int .u8 r.prot, .int .i64 r.ino, .int .u64 r.off] 45);have JG:=(uO wr (.cells #[.int .u64 r.fr, .int .u64 r.to, .int .u8 r.prot, .int .i64 r.ino, .int .u64 r.off] 45) _ wb).trans Ga;refine(fD r _ _ true (w.heap.size+1) (w.heap.size+2) A1 c1 L _ KT.cell KT.own (by omega) KT.size (by omega)).mono ?_;intro e w1 hp1;obtain⟨rfl,A2,c2,WL,OX,xf,Ak⟩:=KT.put hp1;have An:=Ak _ _ KE (by omega) (fun e=>by have:=zu _ e.symm;omega);have BV:=Ak _ _ JG (by omega) (fun e=>by have:=zu _ e.symm;omega);have Ee:=jF r r.fr (min r.to f) true;have Pj:some wr.heap.size≠A2.map (·.block):=fun e=>by
    rcases xf _ e.symm with h|h
    ·have:=zu _ h;omega
    ·simp at h;omega
   have JE:wr.heap.size<w1.heap.size:=(by simp at OX;omega);clear xf KT hp1 Ak KE JG s0 s1 s2 h0 h1 h2 h3 h4 Ga;have s0:w1.cell? ⟨w.heap.size,0,none⟩=some (.int .u64 f):=ak BV 0;have s1:w1.cell? ⟨w.heap.size,1,none⟩=some (.int .u64 t):=ak BV 1;have s2:w1.cell? ⟨w.heap.size,2,none⟩=some (.func (.func 100) #[] #[]):=ak BV 2;have b0:w1.cell? ⟨wr.heap.size,0,none⟩=some (.int .u64 r.fr):=ak An 0;have b1:w1.cell? ⟨wr.heap.size,1,none⟩=some (.int .u64 r.to):=ak An 1;have b2:w1.cell? ⟨wr.heap.size,2,none⟩=some (.int .u8 r.prot):=ak An 2;have b3:w1.cell? ⟨wr.heap.size,3,none⟩=some (.int .i64 r.ino):=ak An 3;have b4:w1.cell? ⟨wr.heap.size,4,none⟩=some (.int .u64 r.off):=ak An 4;go_wp2_with fail;refine(sC r w1).mono ?_;rintro e w2 ⟨rfl,vs⟩;have Uy:=WL.next vs;have Gs:=(vs.block _ JE).trans An;have AV:=(vs.block _ (by omega)).trans BV;have XD:=vs.size;clear s0 s1 s2 b0 b1 b2 b3 b4 An BV;have s0:w2.cell? ⟨w.heap.size,0,none⟩=some (.int .u64 f):=ak AV 0;have s1:w2.cell? ⟨w.heap.size,1,none⟩=some (.int .u64 t):=ak AV 1;have b0:w2.cell? ⟨wr.heap.size,0,none⟩=some (.int .u64 r.fr):=ak Gs 0;have b1:w2.cell? ⟨wr.heap.size,1,none⟩=some (.int .u64 r.to):=ak Gs 1;have vS:w.heap.size<w2.heap.size:=(by omega);have xI:wr.heap.size<w2.heap.size:=(by omega);go_wp2_with fail;have KS:=Uy.alloc (.cells #[.int .u64 (bS r).1.fr, .int .u64 (bS r).1.to, .int .u8 (bS r).1.prot, .int .i64 (bS r).1.ino, .int .u64 (bS r).1.off] 45);have xF:=Uy.own.row;have KD:=(uO w2 (.cells #[.int .u64 (bS r).1.fr, .int .u64 (bS r).1.to, .int .u8 (bS r).1.prot, .int .i64 (bS r).1.ino, .int .u64 (bS r).1.off] 45) _ xI).trans Gs;have JF:=(uO w2 (.cells #[.int .u64 (bS r).1.fr, .int .u64 (bS r).1.to, .int .u8 (bS r).1.prot, .int .i64 (bS r).1.ino, .int .u64 (bS r).1.off] 45) _ vS).trans AV;have XO:some wr.heap.size≠A2.map (·.block):=Pj;refine(fD (bS r).1 _ _ (bS r).2 (w.heap.size+1) (w.heap.size+2) A2 c2 _ _ KS.cell KS.own (by omega) KS.size (by simp;omega)).mono ?_;intro e w3 hp2;obtain⟨rfl,A3,c3,MC,OW,Qb,Aj⟩:=KS.put hp2;have Ch:=Aj _ _ KD (by omega) XO;have OY:=Aj _ _ JF (by omega) (fun e=>by have:=xF _ e.symm;omega);have Jl:=jF (bS r).1 (max r.fr f) (min r.to t) (bS r).2;have Sg:wr.heap.size<w3.heap.size:=(by simp at OW;omega);clear Qb KS hp2 Aj KD JF s0 s1 b0 b1;have s1:w3.cell? ⟨w.heap.size,1,none⟩=some (.int .u64 t):=ak OY 1;have b0:w3.cell? ⟨wr.heap.size,0,none⟩=some (.int .u64 r.fr):=ak Ch 0;have b1:w3.cell? ⟨wr.heap.size,1,none⟩=some (.int .u64 r.to):=ak Ch 1;have b2:w3.cell? ⟨wr.heap.size,2,none⟩=some (.int .u8 r.prot):=ak Ch 2;have b3:w3.cell? ⟨wr.heap.size,3,none⟩=some (.int .i64 r.ino):=ak Ch 3;have b4:w3.cell? ⟨wr.heap.size,4,none⟩=some (.int .u64 r.off):=ak Ch 4;go_wp2_with fail;refine(fD r _ _ true (w.heap.size+1) (w.heap.size+2) A3 c3 _ _ MC.cell MC.own (by omega) MC.size (by simp;omega)).mono ?_;intro e w4 hp3;obtain⟨rfl,A4,c4,Ux,XC,_,_⟩:=MC.put hp3;have wR:dD w W0 w4 A4 c4 (Rg.run f t bS (l.take (k+1))):=by
    rw[pJ HR.out,HL.out];simpa [Rg.run1,List.append_assoc]using Ux
   clear Ux hp3 s1 b0 b1 b2 b3 b4;go_wp2_with fail;go_roundw
   case rel=>exact⟨k+1,by omega,by go_num,A4,c4,wR⟩
   case measure=>simp[intOf];omega
  ·have vG:=ak hI.cell 0;have xw:wr.frozen? ⟨w.heap.size+1,0,none⟩=false:=(by simp[World.frozen?,hI.cell]);have ht:l.take k=l:=List.take_of_length_le (by have:=DV.out;omega);have HI:=uK hI;have HT:=uK ht;clear hI ht;have PU:wr.cell? ⟨w.heap.size+1,0,none⟩=some (.slice A1 (Rg.run f t bS (l.take k)).length c1):=vG;clear vG;generalize hL:(Rg.run f t bS (l.take k))=L at *
   have HL:=uK hL;clear hL;go_wp2;refine bodyPost_ret (v:= .slice A1 L.length c1) (by simp[results,Tryz.results101,go_sem,PU,xw,vz]) rfl ?_;have hI:=HI.out;have hL:=HL.out;rw[HT.out]at hL;subst hL;refine⟨A1,c1,rfl,?_,?_⟩
   ·refine OwnR.lower (OwnR.kept hI.own (row:=some (w.heap.size+1)) ⟨rfl,rfl,rfl,by simp[World.setCell],fun k _ hk=>uS _ _ _ _ (fun e=>hk (by rw[e]))⟩ (.inr fun e=>?_)) (by omega);have:=hI.own.row _ e;omega
   ·exact uL
theorem mJ (p:Int) (gp:Nat)(f t:Int) (A:Option Addr) (n cap:Nat) (w:World) (l:List Reg) (hl:RSl w w.heap.size A n cap l) (hf:n<=300)(hp:w.cell? ⟨gp,0,none⟩=some (.int .u8 p)) (PF:gp<w.heap.size):
  Calls Tryz.prog 101 #[.agg #[.int .u64 f, .int .u64 t, .func (.func 115) #[] #[.pointer (some ⟨gp,0,none⟩)]], .slice A n cap] w
   fun e w'=> ∃A' vk,e= .returned (.slice A' (Rg.run f t (aO p) l).length vk)/\OwnR w' w.heap.size A' vk (Rg.run f t (aO p) l)/\Below w.heap.size w w':=by
 have DV:=uK hl.len;go_enter Tryz.func101,Tryz.ntmps101;go_wp2;generalize Hy:(w.alloc (.cells #[.int .u64 f, .int .u64 t, .func (.func 115) #[] #[.pointer (some ⟨gp,0,none⟩)]] 184)).alloc (.cells #[.slice none 0 0] 59)=W0;have HW:=uK Hy;have FZ:dD w W0 W0 none 0 (Rg.run f t (aO p) (l.take 0)):=by
  subst Hy;exact⟨vj _ _,by have:=heap_alloc_new (w.alloc (.cells #[.int .u64 f, .int .u64 t, .func (.func 115) #[] #[.pointer (some ⟨gp,0,none⟩)]] 184)) (.cells #[.slice none 0 0] 59);simpa [Rg.run]using this,by simpa [Rg.run]using OwnR.nil _ _,by simp⟩
 have wg:W0.heap[w.heap.size]? =some (.cells #[.int .u64 f, .int .u64 t, .func (.func 115) #[] #[.pointer (some ⟨gp,0,none⟩)]] 184 (0,0)):=by
  subst Hy;rw[uO _ _ _ (by simp)];exact heap_alloc_new w _
 have vp:Below w.heap.size w W0:=by
  subst Hy
  exact uL
 clear Hy;go_loopw [13] (fun i wr=> ∃k:Nat,k<=n/\i= .int .i64 k/\ ∃A cap,dD w W0 wr A cap (Rg.run f t (aO p) (l.take k))) (fun i _ =>n-(intOf i).toNat)
 case atStart=>exact⟨0,vg _,rfl,none,0,FZ⟩
 case round=>
  obtain⟨k,hk,rfl,A1,c1,hI⟩:=hrel;have hB:=vp.trans (hI.below.mono (by omega));have xv:=hI.size;have wb:w.heap.size<wr.heap.size:=(by omega);have vz:w.heap.size+1<wr.heap.size:=(by omega);have Ga:=(hI.below.block _ (by omega)).trans wg;have s0:wr.cell? ⟨w.heap.size,0,none⟩=some (.int .u64 f):=ak Ga 0;have s1:wr.cell? ⟨w.heap.size,1,none⟩=some (.int .u64 t):=ak Ga 1;have s2:wr.cell? ⟨w.heap.size,2,none⟩=some (.func (.func 115) #[] #[.pointer (some ⟨gp,0,none⟩)]):=ak Ga 2;by_cases vq:k<n
  ·obtain⟨r,hr⟩: ∃r,l[k]? =some r:=⟨_,uQ (by have:=DV.out;omega)⟩;obtain⟨b,off,rfl,hb,Af⟩:=hl.at_ k r hr;obtain⟨h0,h1,h2,h3,h4⟩:=Af.below hB hb;have HR:=uK hr;have hlen:=lh f t (aO p) (l.take k);have zW:(l.take k).length<=300:=(by rw[List.length_take];omega);generalize hL:Rg.run f t (aO p) (l.take k)=L at *
   have HL:=uK hL;clear hr Af hL;go_wp2_with fail;have KT:=hI.alloc (.cells #[.int .u64 r.fr, .int .u64 r.to, .int .u8 r.prot, .int .i64 r.ino, .int .u64 r.off] 45);have zu:=hI.own.row;have KE:=heap_alloc_new wr (.cells #[.int .u64 r.fr, .int .u64 r.to, .int .u8 r.prot, .int .i64 r.ino, .int .u64 r.off] 45);have JG:=(uO wr (.cells #[.int .u64 r.fr, .int .u64 r.to, .int .u8 r.prot, .int .i64 r.ino, .int .u64 r.off] 45) _ wb).trans Ga;refine(fD r _ _ true (w.heap.size+1) (w.heap.size+2) A1 c1 L _ KT.cell KT.own (by omega) KT.size (by omega)).mono ?_;intro e w1 hp1;obtain⟨rfl,A2,c2,WL,OX,xf,Ak⟩:=KT.put hp1;have An:=Ak _ _ KE (by omega) (fun e=>by have:=zu _ e.symm;omega);have BV:=Ak _ _ JG (by omega) (fun e=>by have:=zu _ e.symm;omega);have Ee:=jF r r.fr (min r.to f) true;have Pj:some wr.heap.size≠A2.map (·.block):=fun e=>by
    rcases xf _ e.symm with h|h
    ·have:=zu _ h;omega
    ·simp at h;omega
   have JE:wr.heap.size<w1.heap.size:=(by simp at OX;omega);clear xf KT hp1 Ak KE JG s0 s1 s2 h0 h1 h2 h3 h4 Ga;have s0:w1.cell? ⟨w.heap.size,0,none⟩=some (.int .u64 f):=ak BV 0;have s1:w1.cell? ⟨w.heap.size,1,none⟩=some (.int .u64 t):=ak BV 1;have s2:w1.cell? ⟨w.heap.size,2,none⟩=some (.func (.func 115) #[] #[.pointer (some ⟨gp,0,none⟩)]):=ak BV 2;have b0:w1.cell? ⟨wr.heap.size,0,none⟩=some (.int .u64 r.fr):=ak An 0;have b1:w1.cell? ⟨wr.heap.size,1,none⟩=some (.int .u64 r.to):=ak An 1;have b2:w1.cell? ⟨wr.heap.size,2,none⟩=some (.int .u8 r.prot):=ak An 2;have b3:w1.cell? ⟨wr.heap.size,3,none⟩=some (.int .i64 r.ino):=ak An 3;have b4:w1.cell? ⟨wr.heap.size,4,none⟩=some (.int .u64 r.off):=ak An 4;go_wp2_with fail;refine(prot_any r p gp w1 (((vp.trans (WL.below.mono (by omega))).cell (p:=⟨gp,0,none⟩) PF).trans hp) (by omega)).mono ?_;rintro e w2 ⟨rfl,vs⟩;have Uy:=WL.next vs;have Gs:=(vs.block _ JE).trans An;have AV:=(vs.block _ (by omega)).trans BV;have XD:=vs.size;clear s0 s1 s2 b0 b1 b2 b3 b4 An BV;have s0:w2.cell? ⟨w.heap.size,0,none⟩=some (.int .u64 f):=ak AV 0;have s1:w2.cell? ⟨w.heap.size,1,none⟩=some (.int .u64 t):=ak AV 1;have b0:w2.cell? ⟨wr.heap.size,0,none⟩=some (.int .u64 r.fr):=ak Gs 0;have b1:w2.cell? ⟨wr.heap.size,1,none⟩=some (.int .u64 r.to):=ak Gs 1;have vS:w.heap.size<w2.heap.size:=(by omega);have xI:wr.heap.size<w2.heap.size:=(by omega);go_wp2_with fail;have KS:=Uy.alloc (.cells #[.int .u64 ((aO p) r).1.fr, .int .u64 ((aO p) r).1.to, .int .u8 ((aO p) r).1.prot, .int .i64 ((aO p) r).1.ino, .int .u64 ((aO p) r).1.off] 45);have xF:=Uy.own.row;have KD:=(uO w2 (.cells #[.int .u64 ((aO p) r).1.fr, .int .u64 ((aO p) r).1.to, .int .u8 ((aO p) r).1.prot, .int .i64 ((aO p) r).1.ino, .int .u64 ((aO p) r).1.off] 45) _ xI).trans Gs;have JF:=(uO w2 (.cells #[.int .u64 ((aO p) r).1.fr, .int .u64 ((aO p) r).1.to, .int .u8 ((aO p) r).1.prot, .int .i64 ((aO p) r).1.ino, .int .u64 ((aO p) r).1.off] 45) _ vS).trans AV;have XO:some wr.heap.size≠A2.map (·.block):=Pj;refine(fD ((aO p) r).1 _ _ ((aO p) r).2 (w.heap.size+1) (w.heap.size+2) A2 c2 _ _ KS.cell KS.own (by omega) KS.size (by simp;omega)).mono ?_;intro e w3 hp2;obtain⟨rfl,A3,c3,MC,OW,Qb,Aj⟩:=KS.put hp2;have Ch:=Aj _ _ KD (by omega) XO;have OY:=Aj _ _ JF (by omega) (fun e=>by have:=xF _ e.symm;omega);have Jl:=jF ((aO p) r).1 (max r.fr f) (min r.to t) ((aO p) r).2;have Sg:wr.heap.size<w3.heap.size:=(by simp at OW;omega);clear Qb KS hp2 Aj KD JF s0 s1 b0 b1;have s1:w3.cell? ⟨w.heap.size,1,none⟩=some (.int .u64 t):=ak OY 1;have b0:w3.cell? ⟨wr.heap.size,0,none⟩=some (.int .u64 r.fr):=ak Ch 0;have b1:w3.cell? ⟨wr.heap.size,1,none⟩=some (.int .u64 r.to):=ak Ch 1;have b2:w3.cell? ⟨wr.heap.size,2,none⟩=some (.int .u8 r.prot):=ak Ch 2;have b3:w3.cell? ⟨wr.heap.size,3,none⟩=some (.int .i64 r.ino):=ak Ch 3;have b4:w3.cell? ⟨wr.heap.size,4,none⟩=some (.int .u64 r.off):=ak Ch 4;go_wp2_with fail;refine(fD r _ _ true (w.heap.size+1) (w.heap.size+2) A3 c3 _ _ MC.cell MC.own (by omega) MC.size (by simp;omega)).mono ?_;intro e w4 hp3;obtain⟨rfl,A4,c4,Ux,XC,_,_⟩:=MC.put hp3;have wR:dD w W0 w4 A4 c4 (Rg.run f t (aO p) (l.take (k+1))):=by
    rw[pJ HR.out,HL.out];simpa [Rg.run1,List.append_assoc]using Ux
   clear Ux hp3 s1 b0 b1 b2 b3 b4;go_wp2_with fail;go_roundw
   case rel=>exact⟨k+1,by omega,by go_num,A4,c4,wR⟩
   case measure=>simp[intOf];omega
  ·have vG:=ak hI.cell 0;have xw:wr.frozen? ⟨w.heap.size+1,0,none⟩=false:=(by simp[World.frozen?,hI.cell]);have ht:l.take k=l:=List.take_of_length_le (by have:=DV.out;omega);have HI:=uK hI;have HT:=uK ht;clear hI ht;have PU:wr.cell? ⟨w.heap.size+1,0,none⟩=some (.slice A1 (Rg.run f t (aO p) (l.take k)).length c1):=vG;clear vG;generalize hL:(Rg.run f t (aO p) (l.take k))=L at *
   have HL:=uK hL;clear hL;go_wp2;refine bodyPost_ret (v:= .slice A1 L.length c1) (by simp[results,Tryz.results101,go_sem,PU,xw,vz]) rfl ?_;have hI:=HI.out;have hL:=HL.out;rw[HT.out]at hL;subst hL;refine⟨A1,c1,rfl,?_,?_⟩
   ·refine OwnR.lower (OwnR.kept hI.own (row:=some (w.heap.size+1)) ⟨rfl,rfl,rfl,by simp[World.setCell],fun k _ hk=>uS _ _ _ _ (fun e=>hk (by rw[e]))⟩ (.inr fun e=>?_)) (by omega);have:=hI.own.row _ e;omega
   ·exact uL
end
