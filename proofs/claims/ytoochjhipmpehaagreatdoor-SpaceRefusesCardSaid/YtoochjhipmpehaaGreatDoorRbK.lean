/- Regions: the closure that puts a part (run$1), and run itself, with what goes (gone) and with what is protected. Regions: run, at what goes and at what is protected. -/
import Derived.Test.YtoochjhipmpehaaGreatDoorRaK
import Derived.Deep.RegionLaw
import Derived.Lib.MinMax
set_option linter.unusedVariables false
set_option linter.unusedSimpArgs false
set_option maxRecDepth 100000
set_option maxHeartbeats 2000000
namespace Go.Proofs.YtoochjhipmpehaaGreatDoor
section
open Go.RowKit Go.Sort
variable {w:World}
theorem mF {ops:Array Oper} {o:Oper} {a:Act} {K:Act->World->Prop} {Q:Exit->Act->World->Prop} {E:Prop} (xT:o.guard=none) (s x:Operand)
  (ho:o.op= .call { callee:= .builtin .append,args:= #[s,x],argTypes:= #[59,59]})
  (base:Nat) (A:Option Addr) (cap:Nat) (l:List Reg) (hs:a.eval s= .slice A l.length cap) (vA:OwnR w base A cap l)
  (r:Reg) (b c:Nat) (hx:a.eval x= .slice (some ⟨b,0,none⟩) 1 c) (hb:w.heap[b]? =some (.cells #[.int .u64 r.fr, .int .u64 r.to, .int .u8 r.prot, .int .i64 r.ino, .int .u64 r.off] 45 (0,0)))
  (vH:l.length<1000000) (vC:base<=w.heap.size)
  (h: ∀g vh w',OwnR w' base (some ⟨g,0,none⟩) vh (l++[r])->w.grownBy w' (A.map (·.block))->(A.map (·.block)=some g\/g=w.heap.size)->g<w'.heap.size->K (a.put o.dst (.slice (some ⟨g,0,none⟩) (l.length+1) vh)) w'):
  if Region.wanted o (yielded ops a.tmps)=true then Oper.wp Tryz.prog o a w K Q else E:=by
 obtain⟨i0,xD,vQ,vI,vO⟩:=info_parts iW;refine step_append_lies w xT s x 59 ho base 45 i0 _ 5 40 Tryz.underlying59 xD vQ vI vO rfl (by omega) _ l.length (rcs l) hs vA ⟨b,0,none⟩ 1 c (rc r) hx rfl (World.news_of_block (cs:= #[.int .u64 r.fr, .int .u64 r.to, .int .u8 r.prot, .int .i64 r.ino, .int .u64 r.off]) hb)
  (by rw[<-ik];exact bL _) (by omega) (by unfold maxLen;omega) (by omega) vC w.heap.size rfl ?_
 intro g vh w' xg hg wC vo;refine h g vh w' ?_ ?_ ?_ vo
 ·unfold OwnR;rw[dR,ik,uM];exact xg
 ·cases A<;>simpa [Value.ownBlock]using hg
 ·cases A<;>simpa [Value.ownBlock]using wC
structure But2 (w w':World) (g:Nat) (row:Option Nat):Prop where
 os:w'.os=w.os
 tape:w'.tape=w.tape
 output:w'.output=w.output
 size:w.heap.size<=w'.heap.size
 block: ∀k,k<w.heap.size->k≠g->some k≠row->w'.heap[k]? =w.heap[k]?
theorem qI {w1 w2:World} {g base g' cap vh:Nat} {A:Option Addr} {l l':List Reg} {box ob2:Obj} {u:Value} (vz:w.heap[g]? =some (.cells #[u] 59 (0,0))) (vA:OwnR w base A cap l) (Fu:g<base) (yA:base<=w.heap.size)
  (vk:Below (w.alloc box).drew.heap.size (w.alloc box).drew w1) (Ba:OwnR w2 base (some ⟨g',0,none⟩) vh l') (xu:(w1.alloc ob2).grownBy w2 (A.map (·.block))) (wZ:A.map (·.block)=some g'\/g'=(w1.alloc ob2).heap.size) (v:Value):
  (w2.setCell ⟨g,0,none⟩ v).heap[g]? =some (.cells #[v] 59 (0,0))/\OwnR (w2.setCell ⟨g,0,none⟩ v) base (some ⟨g',0,none⟩) vh l'/\But2 w (w2.setCell ⟨g,0,none⟩ v) g (A.map (·.block))/\(A.map (·.block)=some g'\/w.heap.size<=g'):=by
 have vM: ∀b,A.map (·.block)=some b->base<=b/\b<w.heap.size:=fun b hb=>by
  rcases vA.form with⟨h1,_,_⟩|⟨g1,h1,h2,h3,h4⟩
  ·rw[h1]at hb;simp at hb
  ·rw[h1]at hb;simp at hb;subst hb;exact⟨h2,h3⟩
 have vI:=vk.size;simp at vI;have hold: ∀k,k<w.heap.size->some k≠A.map (·.block)->w2.heap[k]? =w.heap[k]? :=fun k hk vu=>by
  rw[xu.block k (by simp;omega) vu,uL _ _ _ (by omega),vk.block k (by simp;omega)];exact uL w box k hk
 have XT:some g≠A.map (·.block):=fun e=>by have:=vM g e.symm;omega
 have Ye:=(hold g (by omega) XT).trans vz;obtain⟨g2,he,Cd,Dl,_⟩:=(Ba.form).resolve_left (by simp);obtain rfl:g'=g2:=(by simpa using he);refine⟨?_,?_,?_,?_⟩
 ·simp[World.setCell,Array.getElem?_modify,Ye]
 ·refine Ba.kept (row:=some g) ⟨rfl,rfl,rfl,by simp[World.setCell],fun k _ hk=>uP _ _ _ _ (fun e=>hk (by rw[e]))⟩ (.inr ?_);simp;omega
 ·have DH:=xu.size;simp at DH;refine⟨?_,?_,?_,?_,fun k hk h1 h2=>?_⟩
  ·exact xu.os.trans vk.os
  ·exact xu.tape.trans vk.tape
  ·exact xu.output.trans vk.output
  ·simp[World.setCell];omega
  ·rw[uP _ _ _ _ (by simpa using h1)];exact hold k hk h2
 ·rcases wZ with h|h
  ·exact .inl h
  ·right;simp at h;omega
theorem putc_yes (r:Reg) (f t:Int) (g base:Nat) (A:Option Addr) (cap:Nat) (l:List Reg) (w:World)
  (vz:w.heap[g]? =some (.cells #[.slice A l.length cap] 59 (0,0))) (vA:OwnR w base A cap l) (Fu:g<base) (yA:base<=w.heap.size) (vH:l.length<1000000) (wY:f<t):
  Calls Tryz.prog 150 #[.agg #[.int .u64 (r).fr, .int .u64 (r).to, .int .u8 (r).prot, .int .i64 (r).ino, .int .u64 (r).off], .int .u64 f, .int .u64 t, .bool true, .pointer (some ⟨g,0,none⟩)] w
   fun e w'=>e= .returned (.tuple #[])/\ ∃g' vh,w'.heap[g]? =some (.cells #[.slice (some ⟨g',0,none⟩) (l.length+1) vh] 59 (0,0))/\OwnR w' base (some ⟨g',0,none⟩) vh (l++[Rg.part r f t])/\
    But2 w w' g (A.map (·.block))/\(A.map (·.block)=some g'\/w.heap.size<=g'):=by
 have Nk:=cell_of_one vz;have Ph:=free_of_one vz;have Gl:g<w.heap.size:=(by omega);have hlen:=uH (rfl:l.length=l.length);have vM: ∀b,A.map (·.block)=some b->base<=b/\b<w.heap.size:=fun b hb=>by
  rcases vA.form with⟨h1,_,_⟩|⟨g1,h1,h2,h3,h4⟩
  ·rw[h1]at hb;simp at hb
  ·rw[h1]at hb;simp at hb;subst hb;exact⟨h2,h3⟩
 have NG:Hid (some g≠A.map (·.block)):=uH fun e=>by have:=vM g e.symm;omega
 have NW:Hid (some w.heap.size≠A.map (·.block)):=uH fun e=>by have:=vM _ e.symm;omega
 have AW:=uH vM;clear vM;have HO:=uH vA;clear vA;go_enter Tryz.func150,Tryz.ntmps150;go_wp2;go_region_law (first
   |((refine mF (by rfl) (.tmp 15) (.tmp 20) (by rfl) base A cap l (by rfl) ((((HO.out.alloc _).drew).below vk (by simp)).alloc _) (Rg.part r f t) w1.heap.size 1 (by rfl) (heap_alloc_new _ _) vH (by simp;omega) ?_;intro g' vh w2 Ba xu wZ Jk;have x2:=xu.cell_far ⟨g,0,none⟩ (by simp;omega) NG.out;have y2:=xu.frozen_far ⟨g,0,none⟩ (by simp;omega) NG.out))
   |(go_simp;go_at_call 151;refine(pM r f t _).mono ?_;rintro e w1 ⟨rfl,vk⟩;(have vI:=vk.size;simp at vI);have x0:=vk.cell (p:=⟨g,0,none⟩) (by simp;omega);have y0:=vk.frozen (p:=⟨g,0,none⟩) (by simp;omega);have lt1:g<w1.heap.size:=(by omega)))
 all_goals
  go_wp2;go_end0;have wy:=qI vz HO.out Fu yA vk Ba xu wZ (.slice (some ⟨g',0,none⟩) (l.length+1) vh);exact⟨rfl,g',vh,wy⟩
theorem putc_no (r:Reg) (f t:Int) (ok:Bool) (g:Nat) (w:World) (wY:ok=false\/t<=f):
  Calls Tryz.prog 150 #[.agg #[.int .u64 (r).fr, .int .u64 (r).to, .int .u8 (r).prot, .int .i64 (r).ino, .int .u64 (r).off], .int .u64 f, .int .u64 t, .bool ok, .pointer (some ⟨g,0,none⟩)] w
   fun e w'=>e= .returned (.tuple #[])/\Below w.heap.size w w':=by
 cases ok with
 |false=>
  go_enter Tryz.func150,Tryz.ntmps150;go_wp2;go_end0;exact⟨rfl,by exact uI⟩
 |true=>
  have hft':t<=f:=(by simpa using wY);clear wY;go_enter Tryz.func150,Tryz.ntmps150;go_wp2;go_end0;exact⟨rfl,by exact uI⟩
theorem sA (r:Reg) (w:World):Calls Tryz.prog 100 #[.agg #[.int .u64 (r).fr, .int .u64 (r).to, .int .u8 (r).prot, .int .i64 (r).ino, .int .u64 (r).off]] w
  fun e w'=>e= .returned (.tuple #[.agg #[.int .u64 (aX).fr, .int .u64 (aX).to, .int .u8 (aX).prot, .int .i64 (aX).ino, .int .u64 (aX).off], .bool false])/\Below w.heap.size w w':=by
 go_enter Tryz.func100,Tryz.ntmps100;go_wp2;refine bodyPost_ret (v:= .tuple #[.agg #[.int .u64 (aX).fr, .int .u64 (aX).to, .int .u8 (aX).prot, .int .i64 (aX).ino, .int .u64 (aX).off], .bool false]) (by simp[results,Tryz.results100,go_sem,aX]) rfl ⟨rfl,by exact uI⟩
theorem prot_any (r:Reg) (p:Int) (g:Nat) (w:World) (hp:w.cell? ⟨g,0,none⟩=some (.int .u8 p)) (hg:g<w.heap.size):
  Calls Tryz.prog 115 #[.agg #[.int .u64 (r).fr, .int .u64 (r).to, .int .u8 (r).prot, .int .i64 (r).ino, .int .u64 (r).off], .pointer (some ⟨g,0,none⟩)] w
  fun e w'=>e= .returned (.tuple #[.agg #[.int .u64 ((⟨r.fr,r.to,p,r.ino,r.off⟩:Reg)).fr, .int .u64 ((⟨r.fr,r.to,p,r.ino,r.off⟩:Reg)).to, .int .u8 ((⟨r.fr,r.to,p,r.ino,r.off⟩:Reg)).prot, .int .i64 ((⟨r.fr,r.to,p,r.ino,r.off⟩:Reg)).ino, .int .u64 ((⟨r.fr,r.to,p,r.ino,r.off⟩:Reg)).off], .bool true])/\Below w.heap.size w w':=by
 go_enter Tryz.func115,Tryz.ntmps115;go_wp2;refine bodyPost_ret (v:= .tuple #[.agg #[.int .u64 ((⟨r.fr,r.to,p,r.ino,r.off⟩:Reg)).fr, .int .u64 ((⟨r.fr,r.to,p,r.ino,r.off⟩:Reg)).to, .int .u8 ((⟨r.fr,r.to,p,r.ino,r.off⟩:Reg)).prot, .int .i64 ((⟨r.fr,r.to,p,r.ino,r.off⟩:Reg)).ino, .int .u64 ((⟨r.fr,r.to,p,r.ino,r.off⟩:Reg)).off], .bool true]) (by simp[results,Tryz.results115,go_sem]) rfl ⟨rfl,by exact uI⟩
end
section
open Go.RowKit Go.Sort
def Rg.pc (r:Reg) (f t:Int) (ok:Bool):List Reg:=if ok=true/\f<t then [Rg.part r f t]else []
variable {w w':World}
theorem But2.of_below (h:Below w.heap.size w w') (g:Nat) (row:Option Nat):But2 w w' g row:=⟨h.os,h.tape,h.output,h.size,fun k hk _ _ =>h.block k hk⟩
variable {b:Nat}
theorem But2.blk {g:Nat} {row:Option Nat} (h:But2 w w' g row) {o:Obj} (hb:w.heap[b]? =some o) (h1:b≠g) (h2:some b≠row):w'.heap[b]? =some o:=
 (h.block b (uG hb).1 h1 h2).trans hb
variable {A:Option Addr} {cap:Nat} {l:List Reg}
theorem OwnR.row {base:Nat} (h:OwnR w base A cap l): ∀b,A.map (·.block)=some b->base<=b/\b<w.heap.size:=fun b hb=>by
 rcases h.form with⟨h1,_,_⟩|⟨g1,h1,h2,h3,h4⟩
 ·rw[h1]at hb;simp at hb
 ·rw[h1]at hb;simp at hb;subst hb;exact⟨h2,h3⟩
def uw (r:Reg) (f t:Int) (ok:Bool) (g base:Nat) (A:Option Addr) (l:List Reg) (w:World) (e:Ending) (w':World):Prop:=
 e= .returned (.tuple #[])/\ ∃A' vh,w'.heap[g]? =some (.cells #[.slice A' (l++Rg.pc r f t ok).length vh] 59 (0,0))/\OwnR w' base A' vh (l++Rg.pc r f t ok)/\But2 w w' g (A.map (·.block))/\(∀b,A'.map (·.block)=some b->A.map (·.block)=some b\/w.heap.size<=b)
theorem fu (r:Reg) (f t:Int) (ok:Bool) (g base:Nat) (A:Option Addr) (cap:Nat) (l:List Reg) (w:World)
  (vz:w.heap[g]? =some (.cells #[.slice A l.length cap] 59 (0,0))) (vA:OwnR w base A cap l) (Fu:g<base) (yA:base<=w.heap.size) (vH:l.length<1000000):
  Calls Tryz.prog 150 #[.agg #[.int .u64 (r).fr, .int .u64 (r).to, .int .u8 (r).prot, .int .i64 (r).ino, .int .u64 (r).off], .int .u64 f, .int .u64 t, .bool ok, .pointer (some ⟨g,0,none⟩)] w (uw r f t ok g base A l w):=by
 by_cases h:ok=true/\f<t
 ·obtain⟨rfl,wY⟩:=h;refine(putc_yes r f t g base A cap l w vz vA Fu yA vH wY).mono ?_;rintro e w' ⟨rfl,g',vh,h1,h2,h3,h4⟩;refine⟨rfl,some ⟨g',0,none⟩,vh,?_,?_,h3,fun b hb=>by simp at hb;subst hb;exact h4⟩
  ·simpa [Rg.pc,wY]using h1
  ·simpa [Rg.pc,wY]using h2
 ·refine(putc_no r f t ok g w (by cases ok<;>simp_all)).mono ?_;rintro e w' ⟨rfl,hb⟩;have hp:Rg.pc r f t ok=[]:=(by simp only[Rg.pc,if_neg h]);refine⟨rfl,A,cap,?_,?_,But2.of_below hb _ _,fun b hb=> .inl hb⟩
  ·rw[hp,List.append_nil,hb.block g (by omega)];exact vz
  ·rw[hp,List.append_nil];exact vA.below hb (uK _)
structure dw (w:World) (W0 wr:World) (A:Option Addr) (cap:Nat) (l:List Reg):Prop where
 below:Below (w.heap.size+1) W0 wr
 cell:wr.heap[w.heap.size+1]? =some (.cells #[.slice A l.length cap] 59 (0,0))
 own:OwnR wr (w.heap.size+2) A cap l
 size:w.heap.size+2<=wr.heap.size
variable {W0 wr:World}
theorem dw.alloc (h:dw w W0 wr A cap l) (o:Obj):dw w W0 (wr.alloc o) A cap l:=
 ⟨h.below.alloc (by have:=h.size;omega) o,(uL _ _ _ (by have:=h.size;omega)).trans h.cell,h.own.alloc o,by have:=h.size;simp;omega⟩
theorem dw.next (h:dw w W0 wr A cap l) (hb:Below wr.heap.size wr w'):dw w W0 w' A cap l:=
 ⟨h.below.trans (hb.mono (by have:=h.size;omega)),(hb.block _ (by have:=h.size;omega)).trans h.cell,h.own.below hb (uK _),by have:=h.size;have:=hb.size;omega⟩
variable {r:Reg} {f t:Int}
theorem dw.put (h:dw w W0 wr A cap l) {ok:Bool} {e:Ending}
  (hp:uw r f t ok (w.heap.size+1) (w.heap.size+2) A l wr e w'):e= .returned (.tuple #[])/\ ∃A' vh,dw w W0 w' A' vh (l++Rg.pc r f t ok)/\wr.heap.size<=w'.heap.size/\(∀b,A'.map (·.block)=some b->A.map (·.block)=some b\/wr.heap.size<=b)/\
   (∀b o,wr.heap[b]? =some o->b≠w.heap.size+1->some b≠A.map (·.block)->w'.heap[b]? =some o):=by
 obtain⟨he,A',vh,h1,h2,h3,h9⟩:=hp;refine⟨he,A',vh,⟨h.below.trans ⟨h3.os,h3.tape,h3.output,h3.size,fun k hk=>h3.block k (by have:=h.size;omega) (by omega) (fun e=>?_)⟩,h1,h2,by have:=h.size;have:=h3.size;omega⟩,h3.size,h9,fun b o hb h4 h5=>h3.blk hb h4 h5⟩;have:=h.own.row k e.symm;omega
def Rg.run1 (f t:Int) (h:Reg->Reg×Bool) (r:Reg):List Reg:=Rg.pc r r.fr (min r.to f) true++(Rg.pc (h r).1 (max r.fr f) (min r.to t) (h r).2++Rg.pc r (max r.fr t) r.to true)
def Rg.run (f t:Int) (h:Reg->Reg×Bool) (l:List Reg):List Reg:=l.flatMap (Rg.run1 f t h)
theorem pD {h:Reg->Reg×Bool} {k:Nat} (hr:l[k]? =some r):Rg.run f t h (l.take (k+1))=Rg.run f t h (l.take k)++Rg.run1 f t h r:=by
 rw[List.take_add_one,hr];simp[Rg.run]
theorem jF (r:Reg) (f t:Int) (ok:Bool):(Rg.pc r f t ok).length<=1:=by unfold Rg.pc;split<;>simp
theorem lp (f t:Int) (h:Reg->Reg×Bool) (l:List Reg):(Rg.run f t h l).length<=3*l.length:=by
 induction l with
 |nil=>simp[Rg.run]
 |cons r l ih=>
  have h1:=jF r r.fr (min r.to f) true;have h2:=jF (h r).1 (max r.fr f) (min r.to t) (h r).2;have h3:=jF r (max r.fr t) r.to true;simp only[Rg.run,vf,uM,Rg.run1,uU]at *
  omega
def bM (r:Reg):Reg×Bool:=(aX,false)
def aI (p:Int) (r:Reg):Reg×Bool:=(⟨r.fr,r.to,p,r.ino,r.off⟩,true)
theorem ai {cs:Array Value} {t:TypeId} (h:w.heap[b]? =some (.cells cs t (0,0))) (j:Nat):w.cell? ⟨b,j,none⟩=cs[j]? :=cell_of_row w b j cs t (0,0) h
theorem iE (f t:Int) (A:Option Addr) (n cap:Nat) (w:World) (l:List Reg) (hl:RSl w w.heap.size A n cap l) (hf:n<=300):
  Calls Tryz.prog 101 #[.agg #[.int .u64 f, .int .u64 t, .func (.func 100) #[] #[]], .slice A n cap] w
   fun e w'=> ∃A' vh,e= .returned (.slice A' (Rg.run f t bM l).length vh)/\OwnR w' w.heap.size A' vh (Rg.run f t bM l)/\Below w.heap.size w w':=by
 have Dh:=uH hl.len;go_enter Tryz.func101,Tryz.ntmps101;go_wp2;generalize Gv:(w.alloc (.cells #[.int .u64 f, .int .u64 t, .func (.func 100) #[] #[]] 184)).alloc (.cells #[.slice none 0 0] 59)=W0;have HW:=uH Gv;have Fe:dw w W0 W0 none 0 (Rg.run f t bM (l.take 0)):=by
  subst Gv;exact⟨vg _ _,by have:=heap_alloc_new (w.alloc (.cells #[.int .u64 f, .int .u64 t, .func (.func 100) #[] #[]] 184)) (.cells #[.slice none 0 0] 59);simpa [Rg.run]using this,by simpa [Rg.run]using OwnR.nil _ _,by simp⟩
 have vJ:W0.heap[w.heap.size]? =some (.cells #[.int .u64 f, .int .u64 t, .func (.func 100) #[] #[]] 184 (0,0)):=by
  subst Gv;rw[uL _ _ _ (by simp)];exact heap_alloc_new w _
 have vm:Below w.heap.size w W0:=by
  subst Gv
  exact uI
 clear Gv;go_loopw [13] (fun i wr=> ∃k:Nat,k<=n/\i= .int .i64 k/\ ∃A cap,dw w W0 wr A cap (Rg.run f t bM (l.take k))) (fun i _ =>n-(intOf i).toNat)
 case atStart=>exact⟨0,vd _,rfl,none,0,Fe⟩
 case round=>
  obtain⟨k,hk,rfl,A1,c1,hI⟩:=hrel;have hB:=vm.trans (hI.below.mono (by omega));have AX:=hI.size;have vQ:w.heap.size<wr.heap.size:=(by omega);have vI:w.heap.size+1<wr.heap.size:=(by omega);have Ff:=(hI.below.block _ (by omega)).trans vJ;have s0:wr.cell? ⟨w.heap.size,0,none⟩=some (.int .u64 f):=ai Ff 0;have s1:wr.cell? ⟨w.heap.size,1,none⟩=some (.int .u64 t):=ai Ff 1;have s2:wr.cell? ⟨w.heap.size,2,none⟩=some (.func (.func 100) #[] #[]):=ai Ff 2;by_cases vo:k<n
  ·obtain⟨r,hr⟩: ∃r,l[k]? =some r:=⟨_,uN (by have:=Dh.out;omega)⟩;obtain⟨b,off,rfl,hb,yV⟩:=hl.at_ k r hr;obtain⟨h0,h1,h2,h3,h4⟩:=yV.below hB hb;have HR:=uH hr;have hlen:=lp f t bM (l.take k);have zi:(l.take k).length<=300:=(by rw[List.length_take];omega);generalize hL:Rg.run f t bM (l.take k)=L at *
   have HL:=uH hL;clear hr yV hL;go_wp2_with fail;have Kb:=hI.alloc (.cells #[.int .u64 r.fr, .int .u64 r.to, .int .u8 r.prot, .int .i64 r.ino, .int .u64 r.off] 45);have yF:=hI.own.row;have JM:=heap_alloc_new wr (.cells #[.int .u64 r.fr, .int .u64 r.to, .int .u8 r.prot, .int .i64 r.ino, .int .u64 r.off] 45);have II:=(uL wr (.cells #[.int .u64 r.fr, .int .u64 r.to, .int .u8 r.prot, .int .i64 r.ino, .int .u64 r.off] 45) _ vQ).trans Ff;refine(fu r _ _ true (w.heap.size+1) (w.heap.size+2) A1 c1 L _ Kb.cell Kb.own (by omega) Kb.size (by omega)).mono ?_;intro e w1 hp1;obtain⟨rfl,A2,c2,Wu,Oq,wG,zx⟩:=Kb.put hp1;have zA:=zx _ _ JM (by omega) (fun e=>by have:=yF _ e.symm;omega);have Bn:=zx _ _ II (by omega) (fun e=>by have:=yF _ e.symm;omega);have Dq:=jF r r.fr (min r.to f) true;have OB:some wr.heap.size≠A2.map (·.block):=fun e=>by
    rcases wG _ e.symm with h|h
    ·have:=yF _ h;omega
    ·simp at h;omega
   have IE:wr.heap.size<w1.heap.size:=(by simp at Oq;omega);clear wG Kb hp1 zx JM II s0 s1 s2 h0 h1 h2 h3 h4 Ff;have s0:w1.cell? ⟨w.heap.size,0,none⟩=some (.int .u64 f):=ai Bn 0;have s1:w1.cell? ⟨w.heap.size,1,none⟩=some (.int .u64 t):=ai Bn 1;have s2:w1.cell? ⟨w.heap.size,2,none⟩=some (.func (.func 100) #[] #[]):=ai Bn 2;have b0:w1.cell? ⟨wr.heap.size,0,none⟩=some (.int .u64 r.fr):=ai zA 0;have b1:w1.cell? ⟨wr.heap.size,1,none⟩=some (.int .u64 r.to):=ai zA 1;have b2:w1.cell? ⟨wr.heap.size,2,none⟩=some (.int .u8 r.prot):=ai zA 2;have b3:w1.cell? ⟨wr.heap.size,3,none⟩=some (.int .i64 r.ino):=ai zA 3;have b4:w1.cell? ⟨wr.heap.size,4,none⟩=some (.int .u64 r.off):=ai zA 4;go_wp2_with fail;refine(sA r w1).mono ?_;rintro e w2 ⟨rfl,vs⟩;have Uc:=Wu.next vs;have Fw:=(vs.block _ IE).trans zA;have Ag:=(vs.block _ (by omega)).trans Bn;have Xm:=vs.size;clear s0 s1 s2 b0 b1 b2 b3 b4 zA Bn;have s0:w2.cell? ⟨w.heap.size,0,none⟩=some (.int .u64 f):=ai Ag 0;have s1:w2.cell? ⟨w.heap.size,1,none⟩=some (.int .u64 t):=ai Ag 1;have b0:w2.cell? ⟨wr.heap.size,0,none⟩=some (.int .u64 r.fr):=ai Fw 0;have b1:w2.cell? ⟨wr.heap.size,1,none⟩=some (.int .u64 r.to):=ai Fw 1;have vO:w.heap.size<w2.heap.size:=(by omega);have xq:wr.heap.size<w2.heap.size:=(by omega);go_wp2_with fail;have Ka:=Uc.alloc (.cells #[.int .u64 (bM r).1.fr, .int .u64 (bM r).1.to, .int .u8 (bM r).1.prot, .int .i64 (bM r).1.ino, .int .u64 (bM r).1.off] 45);have xb:=Uc.own.row;have JK:=(uL w2 (.cells #[.int .u64 (bM r).1.fr, .int .u64 (bM r).1.to, .int .u8 (bM r).1.prot, .int .i64 (bM r).1.ino, .int .u64 (bM r).1.off] 45) _ xq).trans Fw;have IG:=(uL w2 (.cells #[.int .u64 (bM r).1.fr, .int .u64 (bM r).1.to, .int .u8 (bM r).1.prot, .int .i64 (bM r).1.ino, .int .u64 (bM r).1.off] 45) _ vO).trans Ag;have Xv:some wr.heap.size≠A2.map (·.block):=OB;refine(fu (bM r).1 _ _ (bM r).2 (w.heap.size+1) (w.heap.size+2) A2 c2 _ _ Ka.cell Ka.own (by omega) Ka.size (by simp;omega)).mono ?_;intro e w3 hp2;obtain⟨rfl,A3,c3,LO,Oo,Pz,zw⟩:=Ka.put hp2;have BC:=zw _ _ JK (by omega) Xv;have Ot:=zw _ _ IG (by omega) (fun e=>by have:=xb _ e.symm;omega);have Il:=jF (bM r).1 (max r.fr f) (min r.to t) (bM r).2;have RO:wr.heap.size<w3.heap.size:=(by simp at Oo;omega);clear Pz Ka hp2 zw JK IG s0 s1 b0 b1;have s1:w3.cell? ⟨w.heap.size,1,none⟩=some (.int .u64 t):=ai Ot 1;have b0:w3.cell? ⟨wr.heap.size,0,none⟩=some (.int .u64 r.fr):=ai BC 0;have b1:w3.cell? ⟨wr.heap.size,1,none⟩=some (.int .u64 r.to):=ai BC 1;have b2:w3.cell? ⟨wr.heap.size,2,none⟩=some (.int .u8 r.prot):=ai BC 2;have b3:w3.cell? ⟨wr.heap.size,3,none⟩=some (.int .i64 r.ino):=ai BC 3;have b4:w3.cell? ⟨wr.heap.size,4,none⟩=some (.int .u64 r.off):=ai BC 4;go_wp2_with fail;refine(fu r _ _ true (w.heap.size+1) (w.heap.size+2) A3 c3 _ _ LO.cell LO.own (by omega) LO.size (by simp;omega)).mono ?_;intro e w4 hp3;obtain⟨rfl,A4,c4,Ub,Xl,_,_⟩:=LO.put hp3;have wy:dw w W0 w4 A4 c4 (Rg.run f t bM (l.take (k+1))):=by
    rw[pD HR.out,HL.out];simpa [Rg.run1,List.append_assoc]using Ub
   clear Ub hp3 s1 b0 b1 b2 b3 b4;go_wp2_with fail;go_roundw
   case rel=>exact⟨k+1,by omega,by go_num,A4,c4,wy⟩
   case measure=>simp[intOf];omega
  ·have vz:=ai hI.cell 0;have xU:wr.frozen? ⟨w.heap.size+1,0,none⟩=false:=(by simp[World.frozen?,hI.cell]);have ht:l.take k=l:=List.take_of_length_le (by have:=Dh.out;omega);have HI:=uH hI;have HT:=uH ht;clear hI ht;have Nk:wr.cell? ⟨w.heap.size+1,0,none⟩=some (.slice A1 (Rg.run f t bM (l.take k)).length c1):=vz;clear vz;generalize hL:(Rg.run f t bM (l.take k))=L at *
   have HL:=uH hL;clear hL;go_wp2;refine bodyPost_ret (v:= .slice A1 L.length c1) (by simp[results,Tryz.results101,go_sem,Nk,xU,vI]) rfl ?_;have hI:=HI.out;have hL:=HL.out;rw[HT.out]at hL;subst hL;refine⟨A1,c1,rfl,?_,?_⟩
   ·refine OwnR.lower (OwnR.kept hI.own (row:=some (w.heap.size+1)) ⟨rfl,rfl,rfl,by simp[World.setCell],fun k _ hk=>uP _ _ _ _ (fun e=>hk (by rw[e]))⟩ (.inr fun e=>?_)) (by omega);have:=hI.own.row _ e;omega
   ·exact uI
theorem mM (p:Int) (gp:Nat)(f t:Int) (A:Option Addr) (n cap:Nat) (w:World) (l:List Reg) (hl:RSl w w.heap.size A n cap l) (hf:n<=300)(hp:w.cell? ⟨gp,0,none⟩=some (.int .u8 p)) (Pb:gp<w.heap.size):
  Calls Tryz.prog 101 #[.agg #[.int .u64 f, .int .u64 t, .func (.func 115) #[] #[.pointer (some ⟨gp,0,none⟩)]], .slice A n cap] w
   fun e w'=> ∃A' vh,e= .returned (.slice A' (Rg.run f t (aI p) l).length vh)/\OwnR w' w.heap.size A' vh (Rg.run f t (aI p) l)/\Below w.heap.size w w':=by
 have Dh:=uH hl.len;go_enter Tryz.func101,Tryz.ntmps101;go_wp2;generalize Gv:(w.alloc (.cells #[.int .u64 f, .int .u64 t, .func (.func 115) #[] #[.pointer (some ⟨gp,0,none⟩)]] 184)).alloc (.cells #[.slice none 0 0] 59)=W0;have HW:=uH Gv;have Fe:dw w W0 W0 none 0 (Rg.run f t (aI p) (l.take 0)):=by
  subst Gv;exact⟨vg _ _,by have:=heap_alloc_new (w.alloc (.cells #[.int .u64 f, .int .u64 t, .func (.func 115) #[] #[.pointer (some ⟨gp,0,none⟩)]] 184)) (.cells #[.slice none 0 0] 59);simpa [Rg.run]using this,by simpa [Rg.run]using OwnR.nil _ _,by simp⟩
 have vJ:W0.heap[w.heap.size]? =some (.cells #[.int .u64 f, .int .u64 t, .func (.func 115) #[] #[.pointer (some ⟨gp,0,none⟩)]] 184 (0,0)):=by
  subst Gv;rw[uL _ _ _ (by simp)];exact heap_alloc_new w _
 have vm:Below w.heap.size w W0:=by
  subst Gv
  exact uI
 clear Gv;go_loopw [13] (fun i wr=> ∃k:Nat,k<=n/\i= .int .i64 k/\ ∃A cap,dw w W0 wr A cap (Rg.run f t (aI p) (l.take k))) (fun i _ =>n-(intOf i).toNat)
 case atStart=>exact⟨0,vd _,rfl,none,0,Fe⟩
 case round=>
  obtain⟨k,hk,rfl,A1,c1,hI⟩:=hrel;have hB:=vm.trans (hI.below.mono (by omega));have AX:=hI.size;have vQ:w.heap.size<wr.heap.size:=(by omega);have vI:w.heap.size+1<wr.heap.size:=(by omega);have Ff:=(hI.below.block _ (by omega)).trans vJ;have s0:wr.cell? ⟨w.heap.size,0,none⟩=some (.int .u64 f):=ai Ff 0;have s1:wr.cell? ⟨w.heap.size,1,none⟩=some (.int .u64 t):=ai Ff 1;have s2:wr.cell? ⟨w.heap.size,2,none⟩=some (.func (.func 115) #[] #[.pointer (some ⟨gp,0,none⟩)]):=ai Ff 2;by_cases vo:k<n
  ·obtain⟨r,hr⟩: ∃r,l[k]? =some r:=⟨_,uN (by have:=Dh.out;omega)⟩;obtain⟨b,off,rfl,hb,yV⟩:=hl.at_ k r hr;obtain⟨h0,h1,h2,h3,h4⟩:=yV.below hB hb;have HR:=uH hr;have hlen:=lp f t (aI p) (l.take k);have zi:(l.take k).length<=300:=(by rw[List.length_take];omega);generalize hL:Rg.run f t (aI p) (l.take k)=L at *
   have HL:=uH hL;clear hr yV hL;go_wp2_with fail;have Kb:=hI.alloc (.cells #[.int .u64 r.fr, .int .u64 r.to, .int .u8 r.prot, .int .i64 r.ino, .int .u64 r.off] 45);have yF:=hI.own.row;have JM:=heap_alloc_new wr (.cells #[.int .u64 r.fr, .int .u64 r.to, .int .u8 r.prot, .int .i64 r.ino, .int .u64 r.off] 45);have II:=(uL wr (.cells #[.int .u64 r.fr, .int .u64 r.to, .int .u8 r.prot, .int .i64 r.ino, .int .u64 r.off] 45) _ vQ).trans Ff;refine(fu r _ _ true (w.heap.size+1) (w.heap.size+2) A1 c1 L _ Kb.cell Kb.own (by omega) Kb.size (by omega)).mono ?_;intro e w1 hp1;obtain⟨rfl,A2,c2,Wu,Oq,wG,zx⟩:=Kb.put hp1;have zA:=zx _ _ JM (by omega) (fun e=>by have:=yF _ e.symm;omega);have Bn:=zx _ _ II (by omega) (fun e=>by have:=yF _ e.symm;omega);have Dq:=jF r r.fr (min r.to f) true;have OB:some wr.heap.size≠A2.map (·.block):=fun e=>by
    rcases wG _ e.symm with h|h
    ·have:=yF _ h;omega
    ·simp at h;omega
   have IE:wr.heap.size<w1.heap.size:=(by simp at Oq;omega);clear wG Kb hp1 zx JM II s0 s1 s2 h0 h1 h2 h3 h4 Ff;have s0:w1.cell? ⟨w.heap.size,0,none⟩=some (.int .u64 f):=ai Bn 0;have s1:w1.cell? ⟨w.heap.size,1,none⟩=some (.int .u64 t):=ai Bn 1;have s2:w1.cell? ⟨w.heap.size,2,none⟩=some (.func (.func 115) #[] #[.pointer (some ⟨gp,0,none⟩)]):=ai Bn 2;have b0:w1.cell? ⟨wr.heap.size,0,none⟩=some (.int .u64 r.fr):=ai zA 0;have b1:w1.cell? ⟨wr.heap.size,1,none⟩=some (.int .u64 r.to):=ai zA 1;have b2:w1.cell? ⟨wr.heap.size,2,none⟩=some (.int .u8 r.prot):=ai zA 2;have b3:w1.cell? ⟨wr.heap.size,3,none⟩=some (.int .i64 r.ino):=ai zA 3;have b4:w1.cell? ⟨wr.heap.size,4,none⟩=some (.int .u64 r.off):=ai zA 4;go_wp2_with fail;refine(prot_any r p gp w1 (((vm.trans (Wu.below.mono (by omega))).cell (p:=⟨gp,0,none⟩) Pb).trans hp) (by omega)).mono ?_;rintro e w2 ⟨rfl,vs⟩;have Uc:=Wu.next vs;have Fw:=(vs.block _ IE).trans zA;have Ag:=(vs.block _ (by omega)).trans Bn;have Xm:=vs.size;clear s0 s1 s2 b0 b1 b2 b3 b4 zA Bn;have s0:w2.cell? ⟨w.heap.size,0,none⟩=some (.int .u64 f):=ai Ag 0;have s1:w2.cell? ⟨w.heap.size,1,none⟩=some (.int .u64 t):=ai Ag 1;have b0:w2.cell? ⟨wr.heap.size,0,none⟩=some (.int .u64 r.fr):=ai Fw 0;have b1:w2.cell? ⟨wr.heap.size,1,none⟩=some (.int .u64 r.to):=ai Fw 1;have vO:w.heap.size<w2.heap.size:=(by omega);have xq:wr.heap.size<w2.heap.size:=(by omega);go_wp2_with fail;have Ka:=Uc.alloc (.cells #[.int .u64 ((aI p) r).1.fr, .int .u64 ((aI p) r).1.to, .int .u8 ((aI p) r).1.prot, .int .i64 ((aI p) r).1.ino, .int .u64 ((aI p) r).1.off] 45);have xb:=Uc.own.row;have JK:=(uL w2 (.cells #[.int .u64 ((aI p) r).1.fr, .int .u64 ((aI p) r).1.to, .int .u8 ((aI p) r).1.prot, .int .i64 ((aI p) r).1.ino, .int .u64 ((aI p) r).1.off] 45) _ xq).trans Fw;have IG:=(uL w2 (.cells #[.int .u64 ((aI p) r).1.fr, .int .u64 ((aI p) r).1.to, .int .u8 ((aI p) r).1.prot, .int .i64 ((aI p) r).1.ino, .int .u64 ((aI p) r).1.off] 45) _ vO).trans Ag;have Xv:some wr.heap.size≠A2.map (·.block):=OB;refine(fu ((aI p) r).1 _ _ ((aI p) r).2 (w.heap.size+1) (w.heap.size+2) A2 c2 _ _ Ka.cell Ka.own (by omega) Ka.size (by simp;omega)).mono ?_;intro e w3 hp2;obtain⟨rfl,A3,c3,LO,Oo,Pz,zw⟩:=Ka.put hp2;have BC:=zw _ _ JK (by omega) Xv;have Ot:=zw _ _ IG (by omega) (fun e=>by have:=xb _ e.symm;omega);have Il:=jF ((aI p) r).1 (max r.fr f) (min r.to t) ((aI p) r).2;have RO:wr.heap.size<w3.heap.size:=(by simp at Oo;omega);clear Pz Ka hp2 zw JK IG s0 s1 b0 b1;have s1:w3.cell? ⟨w.heap.size,1,none⟩=some (.int .u64 t):=ai Ot 1;have b0:w3.cell? ⟨wr.heap.size,0,none⟩=some (.int .u64 r.fr):=ai BC 0;have b1:w3.cell? ⟨wr.heap.size,1,none⟩=some (.int .u64 r.to):=ai BC 1;have b2:w3.cell? ⟨wr.heap.size,2,none⟩=some (.int .u8 r.prot):=ai BC 2;have b3:w3.cell? ⟨wr.heap.size,3,none⟩=some (.int .i64 r.ino):=ai BC 3;have b4:w3.cell? ⟨wr.heap.size,4,none⟩=some (.int .u64 r.off):=ai BC 4;go_wp2_with fail;refine(fu r _ _ true (w.heap.size+1) (w.heap.size+2) A3 c3 _ _ LO.cell LO.own (by omega) LO.size (by simp;omega)).mono ?_;intro e w4 hp3;obtain⟨rfl,A4,c4,Ub,Xl,_,_⟩:=LO.put hp3;have wy:dw w W0 w4 A4 c4 (Rg.run f t (aI p) (l.take (k+1))):=by
    rw[pD HR.out,HL.out];simpa [Rg.run1,List.append_assoc]using Ub
   clear Ub hp3 s1 b0 b1 b2 b3 b4;go_wp2_with fail;go_roundw
   case rel=>exact⟨k+1,by omega,by go_num,A4,c4,wy⟩
   case measure=>simp[intOf];omega
  ·have vz:=ai hI.cell 0;have xU:wr.frozen? ⟨w.heap.size+1,0,none⟩=false:=(by simp[World.frozen?,hI.cell]);have ht:l.take k=l:=List.take_of_length_le (by have:=Dh.out;omega);have HI:=uH hI;have HT:=uH ht;clear hI ht;have Nk:wr.cell? ⟨w.heap.size+1,0,none⟩=some (.slice A1 (Rg.run f t (aI p) (l.take k)).length c1):=vz;clear vz;generalize hL:(Rg.run f t (aI p) (l.take k))=L at *
   have HL:=uH hL;clear hL;go_wp2;refine bodyPost_ret (v:= .slice A1 L.length c1) (by simp[results,Tryz.results101,go_sem,Nk,xU,vI]) rfl ?_;have hI:=HI.out;have hL:=HL.out;rw[HT.out]at hL;subst hL;refine⟨A1,c1,rfl,?_,?_⟩
   ·refine OwnR.lower (OwnR.kept hI.own (row:=some (w.heap.size+1)) ⟨rfl,rfl,rfl,by simp[World.setCell],fun k _ hk=>uP _ _ _ _ (fun e=>hk (by rw[e]))⟩ (.inr fun e=>?_)) (by omega);have:=hI.own.row _ e;omega
   ·exact uI
end
