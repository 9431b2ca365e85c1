/- Regions: the closure that puts a part (run$1), and run itself, with what goes (gone) and with what is protected. Regions: run, at what goes and at what is protected. -/
import Derived.Test.YtoochjhipmpehaaGreatDoorRaK
import Derived.Deep.RegionLaw
import Derived.Lib.MinMax
set_option linter.unusedVariables false
set_option linter.unusedSimpArgs false
set_option maxRecDepth 100000
set_option maxHeartbeats 2000000
namespace Go.Proofs.YtoochjhipmpehaaGreatDoor
section
open Go.RowKit Go.Sort
variable {w:World}
theorem mL {ops:Array Oper} {o:Oper} {a:Act} {K:Act->World->Prop} {Q:Exit->Act->World->Prop} {E:Prop} (yB:o.guard=none) (s x:Operand)
  (ho:o.op= .call { callee:= .builtin .append,args:= #[s,x],argTypes:= #[59,59]})
  (base:Nat) (A:Option Addr) (cap:Nat) (l:List Reg) (hs:a.eval s= .slice A l.length cap) (wh:OwnR w base A cap l)
  (r:Reg) (b c:Nat) (hx:a.eval x= .slice (some ⟨b,0,none⟩) 1 c) (hb:w.heap[b]? =some (.cells #[.int .u64 r.fr, .int .u64 r.to, .int .u8 r.prot, .int .i64 r.ino, .int .u64 r.off] 45 (0,0)))
  (wC:l.length<1000000) (wv:base<=w.heap.size)
  (h: ∀g vP w',OwnR w' base (some ⟨g,0,none⟩) vP (l++[r])->w.grownBy w' (A.map (·.block))->(A.map (·.block)=some g\/g=w.heap.size)->g<w'.heap.size->K (a.put o.dst (.slice (some ⟨g,0,none⟩) (l.length+1) vP)) w'):
  if Region.wanted o (yielded ops a.tmps)=true then Oper.wp Tryz.prog o a w K Q else E:=by
 obtain⟨i0,yj,wM,wF,wL⟩:=info_parts ja;refine step_append_lies w yB s x 59 ho base 45 i0 _ 5 40 Tryz.underlying59 yj wM wF wL rfl (by omega) _ l.length (rcs l) hs wh ⟨b,0,none⟩ 1 c (rc r) hx rfl (World.news_of_block (cs:= #[.int .u64 r.fr, .int .u64 r.to, .int .u8 r.prot, .int .i64 r.ino, .int .u64 r.off]) hb)
  (by rw[<-io];exact bL _) (by omega) (by unfold maxLen;omega) (by omega) wv w.heap.size rfl ?_
 intro g vP w' xU hg xi vW;refine h g vP w' ?_ ?_ ?_ vW
 ·unfold OwnR;rw[dY,io,vu];exact xU
 ·cases A<;>simpa [Value.ownBlock]using hg
 ·cases A<;>simpa [Value.ownBlock]using xi
structure But2 (w w':World) (g:Nat) (row:Option Nat):Prop where
 os:w'.os=w.os
 tape:w'.tape=w.tape
 output:w'.output=w.output
 size:w.heap.size<=w'.heap.size
 block: ∀k,k<w.heap.size->k≠g->some k≠row->w'.heap[k]? =w.heap[k]?
theorem qX {w1 w2:World} {g base g' cap vP:Nat} {A:Option Addr} {l l':List Reg} {box ob2:Obj} {u:Value} (wo:w.heap[g]? =some (.cells #[u] 59 (0,0))) (wh:OwnR w base A cap l) (Gt:g<base) (zd:base<=w.heap.size)
  (vS:Below (w.alloc box).drew.heap.size (w.alloc box).drew w1) (BR:OwnR w2 base (some ⟨g',0,none⟩) vP l') (yi:(w1.alloc ob2).grownBy w2 (A.map (·.block))) (xR:A.map (·.block)=some g'\/g'=(w1.alloc ob2).heap.size) (v:Value):
  (w2.setCell ⟨g,0,none⟩ v).heap[g]? =some (.cells #[v] 59 (0,0))/\OwnR (w2.setCell ⟨g,0,none⟩ v) base (some ⟨g',0,none⟩) vP l'/\But2 w (w2.setCell ⟨g,0,none⟩ v) g (A.map (·.block))/\(A.map (·.block)=some g'\/w.heap.size<=g'):=by
 have wz: ∀b,A.map (·.block)=some b->base<=b/\b<w.heap.size:=fun b hb=>by
  rcases wh.form with⟨h1,_,_⟩|⟨g1,h1,h2,h3,h4⟩
  ·rw[h1]at hb;simp at hb
  ·rw[h1]at hb;simp at hb;subst hb;exact⟨h2,h3⟩
 have wF:=vS.size;simp at wF;have hold: ∀k,k<w.heap.size->some k≠A.map (·.block)->w2.heap[k]? =w.heap[k]? :=fun k hk wg=>by
  rw[yi.block k (by simp;omega) wg,vt _ _ _ (by omega),vS.block k (by simp;omega)];exact vt w box k hk
 have Zc:some g≠A.map (·.block):=fun e=>by have:=wz g e.symm;omega
 have Zn:=(hold g (by omega) Zc).trans wo;obtain⟨g2,he,AV,Aq,_⟩:=(BR.form).resolve_left (by simp);obtain rfl:g'=g2:=(by simpa using he);refine⟨?_,?_,?_,?_⟩
 ·simp[World.setCell,Array.getElem?_modify,Zn]
 ·refine BR.kept (row:=some g) ⟨rfl,rfl,rfl,by simp[World.setCell],fun k _ hk=>vx _ _ _ _ (fun e=>hk (by rw[e]))⟩ (.inr ?_);simp;omega
 ·have Ch:=yi.size;simp at Ch;refine⟨?_,?_,?_,?_,fun k hk h1 h2=>?_⟩
  ·exact yi.os.trans vS.os
  ·exact yi.tape.trans vS.tape
  ·exact yi.output.trans vS.output
  ·simp[World.setCell];omega
  ·rw[vx _ _ _ _ (by simpa using h1)];exact hold k hk h2
 ·rcases xR with h|h
  ·exact .inl h
  ·right;simp at h;omega
theorem putc_yes (r:Reg) (f t:Int) (g base:Nat) (A:Option Addr) (cap:Nat) (l:List Reg) (w:World)
  (wo:w.heap[g]? =some (.cells #[.slice A l.length cap] 59 (0,0))) (wh:OwnR w base A cap l) (Gt:g<base) (zd:base<=w.heap.size) (wC:l.length<1000000) (xQ:f<t):
  Calls Tryz.prog 150 #[.agg #[.int .u64 (r).fr, .int .u64 (r).to, .int .u8 (r).prot, .int .i64 (r).ino, .int .u64 (r).off], .int .u64 f, .int .u64 t, .bool true, .pointer (some ⟨g,0,none⟩)] w
   fun e w'=>e= .returned (.tuple #[])/\ ∃g' vP,w'.heap[g]? =some (.cells #[.slice (some ⟨g',0,none⟩) (l.length+1) vP] 59 (0,0))/\OwnR w' base (some ⟨g',0,none⟩) vP (l++[Rg.part r f t])/\
    But2 w w' g (A.map (·.block))/\(A.map (·.block)=some g'\/w.heap.size<=g'):=by
 have RP:=cell_of_one wo;have PU:=free_of_one wo;have FQ:g<w.heap.size:=(by omega);have hlen:=vp (rfl:l.length=l.length);have wz: ∀b,A.map (·.block)=some b->base<=b/\b<w.heap.size:=fun b hb=>by
  rcases wh.form with⟨h1,_,_⟩|⟨g1,h1,h2,h3,h4⟩
  ·rw[h1]at hb;simp at hb
  ·rw[h1]at hb;simp at hb;subst hb;exact⟨h2,h3⟩
 have NG:Hid (some g≠A.map (·.block)):=vp fun e=>by have:=wz g e.symm;omega
 have NW:Hid (some w.heap.size≠A.map (·.block)):=vp fun e=>by have:=wz _ e.symm;omega
 have xz:=vp wz;clear wz;have HO:=vp wh;clear wh;go_enter Tryz.func150,Tryz.ntmps150;go_wp2;go_region_law (first
   |((refine mL (by rfl) (.tmp 15) (.tmp 20) (by rfl) base A cap l (by rfl) ((((HO.out.alloc _).drew).below vS (by simp)).alloc _) (Rg.part r f t) w1.heap.size 1 (by rfl) (heap_alloc_new _ _) wC (by simp;omega) ?_;intro g' vP w2 BR yi xR Ka;have x2:=yi.cell_far ⟨g,0,none⟩ (by simp;omega) NG.out;have y2:=yi.frozen_far ⟨g,0,none⟩ (by simp;omega) NG.out))
   |(go_simp;go_at_call 151;refine(pS r f t _).mono ?_;rintro e w1 ⟨rfl,vS⟩;(have wF:=vS.size;simp at wF);have x0:=vS.cell (p:=⟨g,0,none⟩) (by simp;omega);have y0:=vS.frozen (p:=⟨g,0,none⟩) (by simp;omega);have lt1:g<w1.heap.size:=(by omega)))
 all_goals
  go_wp2;go_end0;have xl:=qX wo HO.out Gt zd vS BR yi xR (.slice (some ⟨g',0,none⟩) (l.length+1) vP);exact⟨rfl,g',vP,xl⟩
theorem putc_no (r:Reg) (f t:Int) (ok:Bool) (g:Nat) (w:World) (xQ:ok=false\/t<=f):
  Calls Tryz.prog 150 #[.agg #[.int .u64 (r).fr, .int .u64 (r).to, .int .u8 (r).prot, .int .i64 (r).ino, .int .u64 (r).off], .int .u64 f, .int .u64 t, .bool ok, .pointer (some ⟨g,0,none⟩)] w
   fun e w'=>e= .returned (.tuple #[])/\Below w.heap.size w w':=by
 cases ok with
 |false=>
  go_enter Tryz.func150,Tryz.ntmps150;go_wp2;go_end0;exact⟨rfl,by exact vq⟩
 |true=>
  have hft':t<=f:=(by simpa using xQ);clear xQ;go_enter Tryz.func150,Tryz.ntmps150;go_wp2;go_end0;exact⟨rfl,by exact vq⟩
theorem tf (r:Reg) (w:World):Calls Tryz.prog 100 #[.agg #[.int .u64 (r).fr, .int .u64 (r).to, .int .u8 (r).prot, .int .i64 (r).ino, .int .u64 (r).off]] w
  fun e w'=>e= .returned (.tuple #[.agg #[.int .u64 (aY).fr, .int .u64 (aY).to, .int .u8 (aY).prot, .int .i64 (aY).ino, .int .u64 (aY).off], .bool false])/\Below w.heap.size w w':=by
 go_enter Tryz.func100,Tryz.ntmps100;go_wp2;refine bodyPost_ret (v:= .tuple #[.agg #[.int .u64 (aY).fr, .int .u64 (aY).to, .int .u8 (aY).prot, .int .i64 (aY).ino, .int .u64 (aY).off], .bool false]) (by simp[results,Tryz.results100,go_sem,aY]) rfl ⟨rfl,by exact vq⟩
theorem prot_any (r:Reg) (p:Int) (g:Nat) (w:World) (hp:w.cell? ⟨g,0,none⟩=some (.int .u8 p)) (hg:g<w.heap.size):
  Calls Tryz.prog 115 #[.agg #[.int .u64 (r).fr, .int .u64 (r).to, .int .u8 (r).prot, .int .i64 (r).ino, .int .u64 (r).off], .pointer (some ⟨g,0,none⟩)] w
  fun e w'=>e= .returned (.tuple #[.agg #[.int .u64 ((⟨r.fr,r.to,p,r.ino,r.off⟩:Reg)).fr, .int .u64 ((⟨r.fr,r.to,p,r.ino,r.off⟩:Reg)).to, .int .u8 ((⟨r.fr,r.to,p,r.ino,r.off⟩:Reg)).prot, .int .i64 ((⟨r.fr,r.to,p,r.ino,r.off⟩:Reg)).ino, .int .u64 ((⟨r.fr,r.to,p,r.ino,r.off⟩:Reg)).off], .bool true])/\Below w.heap.size w w':=by
 go_enter Tryz.func115,Tryz.ntmps115;go_wp2;refine bodyPost_ret (v:= .tuple #[.agg #[.int .u64 ((⟨r.fr,r.to,p,r.ino,r.off⟩:Reg)).fr, .int .u64 ((⟨r.fr,r.to,p,r.ino,r.off⟩:Reg)).to, .int .u8 ((⟨r.fr,r.to,p,r.ino,r.off⟩:Reg)).prot, .int .i64 ((⟨r.fr,r.to,p,r.ino,r.off⟩:Reg)).ino, .int .u64 ((⟨r.fr,r.to,p,r.ino,r.off⟩:Reg)).off], .bool true]) (by simp[results,Tryz.results115,go_sem]) rfl ⟨rfl,by exact vq⟩
end
section
open Go.RowKit Go.Sort
def Rg.pc (r:Reg) (f t:Int) (ok:Bool):List Reg:=if ok=true/\f<t then [Rg.part r f t]else []
variable {w w':World}
theorem But2.of_below (h:Below w.heap.size w w') (g:Nat) (row:Option Nat):But2 w w' g row:=⟨h.os,h.tape,h.output,h.size,fun k hk _ _ =>h.block k hk⟩
variable {b:Nat}
theorem But2.blk {g:Nat} {row:Option Nat} (h:But2 w w' g row) {o:Obj} (hb:w.heap[b]? =some o) (h1:b≠g) (h2:some b≠row):w'.heap[b]? =some o:=
 (h.block b (vo hb).1 h1 h2).trans hb
variable {A:Option Addr} {cap:Nat} {l:List Reg}
theorem OwnR.row {base:Nat} (h:OwnR w base A cap l): ∀b,A.map (·.block)=some b->base<=b/\b<w.heap.size:=fun b hb=>by
 rcases h.form with⟨h1,_,_⟩|⟨g1,h1,h2,h3,h4⟩
 ·rw[h1]at hb;simp at hb
 ·rw[h1]at hb;simp at hb;subst hb;exact⟨h2,h3⟩
def vd (r:Reg) (f t:Int) (ok:Bool) (g base:Nat) (A:Option Addr) (l:List Reg) (w:World) (e:Ending) (w':World):Prop:=
 e= .returned (.tuple #[])/\ ∃A' vP,w'.heap[g]? =some (.cells #[.slice A' (l++Rg.pc r f t ok).length vP] 59 (0,0))/\OwnR w' base A' vP (l++Rg.pc r f t ok)/\But2 w w' g (A.map (·.block))/\(∀b,A'.map (·.block)=some b->A.map (·.block)=some b\/w.heap.size<=b)
theorem fB (r:Reg) (f t:Int) (ok:Bool) (g base:Nat) (A:Option Addr) (cap:Nat) (l:List Reg) (w:World)
  (wo:w.heap[g]? =some (.cells #[.slice A l.length cap] 59 (0,0))) (wh:OwnR w base A cap l) (Gt:g<base) (zd:base<=w.heap.size) (wC:l.length<1000000):
  Calls Tryz.prog 150 #[.agg #[.int .u64 (r).fr, .int .u64 (r).to, .int .u8 (r).prot, .int .i64 (r).ino, .int .u64 (r).off], .int .u64 f, .int .u64 t, .bool ok, .pointer (some ⟨g,0,none⟩)] w (vd r f t ok g base A l w):=by
 by_cases h:ok=true/\f<t
 ·obtain⟨rfl,xQ⟩:=h;refine(putc_yes r f t g base A cap l w wo wh Gt zd wC xQ).mono ?_;rintro e w' ⟨rfl,g',vP,h1,h2,h3,h4⟩;refine⟨rfl,some ⟨g',0,none⟩,vP,?_,?_,h3,fun b hb=>by simp at hb;subst hb;exact h4⟩
  ·simpa [Rg.pc,xQ]using h1
  ·simpa [Rg.pc,xQ]using h2
 ·refine(putc_no r f t ok g w (by cases ok<;>simp_all)).mono ?_;rintro e w' ⟨rfl,hb⟩;have hp:Rg.pc r f t ok=[]:=(by simp only[Rg.pc,if_neg h]);refine⟨rfl,A,cap,?_,?_,But2.of_below hb _ _,fun b hb=> .inl hb⟩
  ·rw[hp,List.append_nil,hb.block g (by omega)];exact wo
  ·rw[hp,List.append_nil];exact wh.below hb (vs _)
structure dy (w:World) (W0 wr:World) (A:Option Addr) (cap:Nat) (l:List Reg):Prop where
 below:Below (w.heap.size+1) W0 wr
 cell:wr.heap[w.heap.size+1]? =some (.cells #[.slice A l.length cap] 59 (0,0))
 own:OwnR wr (w.heap.size+2) A cap l
 size:w.heap.size+2<=wr.heap.size
variable {W0 wr:World}
theorem dy.alloc (h:dy w W0 wr A cap l) (o:Obj):dy w W0 (wr.alloc o) A cap l:=
 ⟨h.below.alloc (by have:=h.size;omega) o,(vt _ _ _ (by have:=h.size;omega)).trans h.cell,h.own.alloc o,by have:=h.size;simp;omega⟩
theorem dy.next (h:dy w W0 wr A cap l) (hb:Below wr.heap.size wr w'):dy w W0 w' A cap l:=
 ⟨h.below.trans (hb.mono (by have:=h.size;omega)),(hb.block _ (by have:=h.size;omega)).trans h.cell,h.own.below hb (vs _),by have:=h.size;have:=hb.size;omega⟩
variable {r:Reg} {f t:Int}
theorem dy.put (h:dy w W0 wr A cap l) {ok:Bool} {e:Ending}
  (hp:vd r f t ok (w.heap.size+1) (w.heap.size+2) A l wr e w'):e= .returned (.tuple #[])/\ ∃A' vP,dy w W0 w' A' vP (l++Rg.pc r f t ok)/\wr.heap.size<=w'.heap.size/\(∀b,A'.map (·.block)=some b->A.map (·.block)=some b\/wr.heap.size<=b)/\
   (∀b o,wr.heap[b]? =some o->b≠w.heap.size+1->some b≠A.map (·.block)->w'.heap[b]? =some o):=by
 obtain⟨he,A',vP,h1,h2,h3,h9⟩:=hp;refine⟨he,A',vP,⟨h.below.trans ⟨h3.os,h3.tape,h3.output,h3.size,fun k hk=>h3.block k (by have:=h.size;omega) (by omega) (fun e=>?_)⟩,h1,h2,by have:=h.size;have:=h3.size;omega⟩,h3.size,h9,fun b o hb h4 h5=>h3.blk hb h4 h5⟩;have:=h.own.row k e.symm;omega
def Rg.run1 (f t:Int) (h:Reg->Reg×Bool) (r:Reg):List Reg:=Rg.pc r r.fr (min r.to f) true++(Rg.pc (h r).1 (max r.fr f) (min r.to t) (h r).2++Rg.pc r (max r.fr t) r.to true)
def Rg.run (f t:Int) (h:Reg->Reg×Bool) (l:List Reg):List Reg:=l.flatMap (Rg.run1 f t h)
theorem pJ {h:Reg->Reg×Bool} {k:Nat} (hr:l[k]? =some r):Rg.run f t h (l.take (k+1))=Rg.run f t h (l.take k)++Rg.run1 f t h r:=by
 rw[List.take_add_one,hr];simp[Rg.run]
theorem jJ (r:Reg) (f t:Int) (ok:Bool):(Rg.pc r f t ok).length<=1:=by unfold Rg.pc;split<;>simp
theorem ly (f t:Int) (h:Reg->Reg×Bool) (l:List Reg):(Rg.run f t h l).length<=3*l.length:=by
 induction l with
 |nil=>simp[Rg.run]
 |cons r l ih=>
  have h1:=jJ r r.fr (min r.to f) true;have h2:=jJ (h r).1 (max r.fr f) (min r.to t) (h r).2;have h3:=jJ r (max r.fr t) r.to true;simp only[Rg.run,vN,vu,Rg.run1,vC]at *
  omega
def bM (r:Reg):Reg×Bool:=(aY,false)
def aK (p:Int) (r:Reg):Reg×Bool:=(⟨r.fr,r.to,p,r.ino,r.off⟩,true)
theorem ai {cs:Array Value} {t:TypeId} (h:w.heap[b]? =some (.cells cs t (0,0))) (j:Nat):w.cell? ⟨b,j,none⟩=cs[j]? :=cell_of_row w b j cs t (0,0) h
theorem iI (f t:Int) (A:Option Addr) (n cap:Nat) (w:World) (l:List Reg) (hl:RSl w w.heap.size A n cap l) (hf:n<=300):
  Calls Tryz.prog 101 #[.agg #[.int .u64 f, .int .u64 t, .func (.func 100) #[] #[]], .slice A n cap] w
   fun e w'=> ∃A' vP,e= .returned (.slice A' (Rg.run f t bM l).length vP)/\OwnR w' w.heap.size A' vP (Rg.run f t bM l)/\Below w.heap.size w w':=by
 have Eg:=vp hl.len;go_enter Tryz.func101,Tryz.ntmps101;go_wp2;generalize Ho:(w.alloc (.cells #[.int .u64 f, .int .u64 t, .func (.func 100) #[] #[]] 184)).alloc (.cells #[.slice none 0 0] 59)=W0;have HW:=vp Ho;have Gd:dy w W0 W0 none 0 (Rg.run f t bM (l.take 0)):=by
  subst Ho;exact⟨vO _ _,by have:=heap_alloc_new (w.alloc (.cells #[.int .u64 f, .int .u64 t, .func (.func 100) #[] #[]] 184)) (.cells #[.slice none 0 0] 59);simpa [Rg.run]using this,by simpa [Rg.run]using OwnR.nil _ _,by simp⟩
 have wH:W0.heap[w.heap.size]? =some (.cells #[.int .u64 f, .int .u64 t, .func (.func 100) #[] #[]] 184 (0,0)):=by
  subst Ho;rw[vt _ _ _ (by simp)];exact heap_alloc_new w _
 have vU:Below w.heap.size w W0:=by
  subst Ho
  exact vq
 clear Ho;go_loopw [13] (fun i wr=> ∃k:Nat,k<=n/\i= .int .i64 k/\ ∃A cap,dy w W0 wr A cap (Rg.run f t bM (l.take k))) (fun i _ =>n-(intOf i).toNat)
 case atStart=>exact⟨0,vL _,rfl,none,0,Gd⟩
 case round=>
  obtain⟨k,hk,rfl,A1,c1,hI⟩:=hrel;have hB:=vU.trans (hI.below.mono (by omega));have BP:=hI.size;have wM:w.heap.size<wr.heap.size:=(by omega);have wF:w.heap.size+1<wr.heap.size:=(by omega);have Ge:=(hI.below.block _ (by omega)).trans wH;have s0:wr.cell? ⟨w.heap.size,0,none⟩=some (.int .u64 f):=ai Ge 0;have s1:wr.cell? ⟨w.heap.size,1,none⟩=some (.int .u64 t):=ai Ge 1;have s2:wr.cell? ⟨w.heap.size,2,none⟩=some (.func (.func 100) #[] #[]):=ai Ge 2;by_cases vW:k<n
  ·obtain⟨r,hr⟩: ∃r,l[k]? =some r:=⟨_,vv (by have:=Eg.out;omega)⟩;obtain⟨b,off,rfl,hb,Aj⟩:=hl.at_ k r hr;obtain⟨h0,h1,h2,h3,h4⟩:=Aj.below hB hb;have HR:=vp hr;have hlen:=ly f t bM (l.take k);have zY:(l.take k).length<=300:=(by rw[List.length_take];omega);generalize hL:Rg.run f t bM (l.take k)=L at *
   have HL:=vp hL;clear hr Aj hL;go_wp2_with fail;have KL:=hI.alloc (.cells #[.int .u64 r.fr, .int .u64 r.to, .int .u8 r.prot, .int .i64 r.ino, .int .u64 r.off] 45);have zv:=hI.own.row;have Kz:=heap_alloc_new wr (.cells #[.int .u64 r.fr, .int .u64 r.to, .int .u8 r.prot, .int .i64 r.ino, .int .u64 r.off] 45);have JA:=(vt wr (.cells #[.int .u64 r.fr, .int .u64 r.to, .int .u8 r.prot, .int .i64 r.ino, .int .u64 r.off] 45) _ wM).trans Ge;refine(fB r _ _ true (w.heap.size+1) (w.heap.size+2) A1 c1 L _ KL.cell KL.own (by omega) KL.size (by omega)).mono ?_;intro e w1 hp1;obtain⟨rfl,A2,c2,XB,Pd,xt,An⟩:=KL.put hp1;have Av:=An _ _ Kz (by omega) (fun e=>by have:=zv _ e.symm;omega);have Cg:=An _ _ JA (by omega) (fun e=>by have:=zv _ e.symm;omega);have En:=jJ r r.fr (min r.to f) true;have Po:some wr.heap.size≠A2.map (·.block):=fun e=>by
    rcases xt _ e.symm with h|h
    ·have:=zv _ h;omega
    ·simp at h;omega
   have Jy:wr.heap.size<w1.heap.size:=(by simp at Pd;omega);clear xt KL hp1 An Kz JA s0 s1 s2 h0 h1 h2 h3 h4 Ge;have s0:w1.cell? ⟨w.heap.size,0,none⟩=some (.int .u64 f):=ai Cg 0;have s1:w1.cell? ⟨w.heap.size,1,none⟩=some (.int .u64 t):=ai Cg 1;have s2:w1.cell? ⟨w.heap.size,2,none⟩=some (.func (.func 100) #[] #[]):=ai Cg 2;have b0:w1.cell? ⟨wr.heap.size,0,none⟩=some (.int .u64 r.fr):=ai Av 0;have b1:w1.cell? ⟨wr.heap.size,1,none⟩=some (.int .u64 r.to):=ai Av 1;have b2:w1.cell? ⟨wr.heap.size,2,none⟩=some (.int .u8 r.prot):=ai Av 2;have b3:w1.cell? ⟨wr.heap.size,3,none⟩=some (.int .i64 r.ino):=ai Av 3;have b4:w1.cell? ⟨wr.heap.size,4,none⟩=some (.int .u64 r.off):=ai Av 4;go_wp2_with fail;refine(tf r w1).mono ?_;rintro e w2 ⟨rfl,wb⟩;have Vc:=XB.next wb;have Gu:=(wb.block _ Jy).trans Av;have Ba:=(wb.block _ (by omega)).trans Cg;have Yw:=wb.size;clear s0 s1 s2 b0 b1 b2 b3 b4 Av Cg;have s0:w2.cell? ⟨w.heap.size,0,none⟩=some (.int .u64 f):=ai Ba 0;have s1:w2.cell? ⟨w.heap.size,1,none⟩=some (.int .u64 t):=ai Ba 1;have b0:w2.cell? ⟨wr.heap.size,0,none⟩=some (.int .u64 r.fr):=ai Gu 0;have b1:w2.cell? ⟨wr.heap.size,1,none⟩=some (.int .u64 r.to):=ai Gu 1;have wL:w.heap.size<w2.heap.size:=(by omega);have yk:wr.heap.size<w2.heap.size:=(by omega);go_wp2_with fail;have KK:=Vc.alloc (.cells #[.int .u64 (bM r).1.fr, .int .u64 (bM r).1.to, .int .u8 (bM r).1.prot, .int .i64 (bM r).1.ino, .int .u64 (bM r).1.off] 45);have xS:=Vc.own.row;have Ky:=(vt w2 (.cells #[.int .u64 (bM r).1.fr, .int .u64 (bM r).1.to, .int .u8 (bM r).1.prot, .int .i64 (bM r).1.ino, .int .u64 (bM r).1.off] 45) _ yk).trans Gu;have Jz:=(vt w2 (.cells #[.int .u64 (bM r).1.fr, .int .u64 (bM r).1.to, .int .u8 (bM r).1.prot, .int .i64 (bM r).1.ino, .int .u64 (bM r).1.off] 45) _ wL).trans Ba;have YF:some wr.heap.size≠A2.map (·.block):=Po;refine(fB (bM r).1 _ _ (bM r).2 (w.heap.size+1) (w.heap.size+2) A2 c2 _ _ KK.cell KK.own (by omega) KK.size (by simp;omega)).mono ?_;intro e w3 hp2;obtain⟨rfl,A3,c3,My,Pc,Qm,Am⟩:=KK.put hp2;have Cv:=Am _ _ Ky (by omega) YF;have Pe:=Am _ _ Jz (by omega) (fun e=>by have:=xS _ e.symm;omega);have Jc:=jJ (bM r).1 (max r.fr f) (min r.to t) (bM r).2;have SH:wr.heap.size<w3.heap.size:=(by simp at Pc;omega);clear Qm KK hp2 Am Ky Jz s0 s1 b0 b1;have s1:w3.cell? ⟨w.heap.size,1,none⟩=some (.int .u64 t):=ai Pe 1;have b0:w3.cell? ⟨wr.heap.size,0,none⟩=some (.int .u64 r.fr):=ai Cv 0;have b1:w3.cell? ⟨wr.heap.size,1,none⟩=some (.int .u64 r.to):=ai Cv 1;have b2:w3.cell? ⟨wr.heap.size,2,none⟩=some (.int .u8 r.prot):=ai Cv 2;have b3:w3.cell? ⟨wr.heap.size,3,none⟩=some (.int .i64 r.ino):=ai Cv 3;have b4:w3.cell? ⟨wr.heap.size,4,none⟩=some (.int .u64 r.off):=ai Cv 4;go_wp2_with fail;refine(fB r _ _ true (w.heap.size+1) (w.heap.size+2) A3 c3 _ _ My.cell My.own (by omega) My.size (by simp;omega)).mono ?_;intro e w4 hp3;obtain⟨rfl,A4,c4,Vb,Yv,_,_⟩:=My.put hp3;have xl:dy w W0 w4 A4 c4 (Rg.run f t bM (l.take (k+1))):=by
    rw[pJ HR.out,HL.out];simpa [Rg.run1,List.append_assoc]using Vb
   clear Vb hp3 s1 b0 b1 b2 b3 b4;go_wp2_with fail;go_roundw
   case rel=>exact⟨k+1,by omega,by go_num,A4,c4,xl⟩
   case measure=>simp[intOf];omega
  ·have wo:=ai hI.cell 0;have yJ:wr.frozen? ⟨w.heap.size+1,0,none⟩=false:=(by simp[World.frozen?,hI.cell]);have ht:l.take k=l:=List.take_of_length_le (by have:=Eg.out;omega);have HI:=vp hI;have HT:=vp ht;clear hI ht;have RP:wr.cell? ⟨w.heap.size+1,0,none⟩=some (.slice A1 (Rg.run f t bM (l.take k)).length c1):=wo;clear wo;generalize hL:(Rg.run f t bM (l.take k))=L at *
   have HL:=vp hL;clear hL;go_wp2;refine bodyPost_ret (v:= .slice A1 L.length c1) (by simp[results,Tryz.results101,go_sem,RP,yJ,wF]) rfl ?_;have hI:=HI.out;have hL:=HL.out;rw[HT.out]at hL;subst hL;refine⟨A1,c1,rfl,?_,?_⟩
   ·refine OwnR.lower (OwnR.kept hI.own (row:=some (w.heap.size+1)) ⟨rfl,rfl,rfl,by simp[World.setCell],fun k _ hk=>vx _ _ _ _ (fun e=>hk (by rw[e]))⟩ (.inr fun e=>?_)) (by omega);have:=hI.own.row _ e;omega
   ·exact vq
theorem mT (p:Int) (gp:Nat)(f t:Int) (A:Option Addr) (n cap:Nat) (w:World) (l:List Reg) (hl:RSl w w.heap.size A n cap l) (hf:n<=300)(hp:w.cell? ⟨gp,0,none⟩=some (.int .u8 p)) (PN:gp<w.heap.size):
  Calls Tryz.prog 101 #[.agg #[.int .u64 f, .int .u64 t, .func (.func 115) #[] #[.pointer (some ⟨gp,0,none⟩)]], .slice A n cap] w
   fun e w'=> ∃A' vP,e= .returned (.slice A' (Rg.run f t (aK p) l).length vP)/\OwnR w' w.heap.size A' vP (Rg.run f t (aK p) l)/\Below w.heap.size w w':=by
 have Eg:=vp hl.len;go_enter Tryz.func101,Tryz.ntmps101;go_wp2;generalize Ho:(w.alloc (.cells #[.int .u64 f, .int .u64 t, .func (.func 115) #[] #[.pointer (some ⟨gp,0,none⟩)]] 184)).alloc (.cells #[.slice none 0 0] 59)=W0;have HW:=vp Ho;have Gd:dy w W0 W0 none 0 (Rg.run f t (aK p) (l.take 0)):=by
  subst Ho;exact⟨vO _ _,by have:=heap_alloc_new (w.alloc (.cells #[.int .u64 f, .int .u64 t, .func (.func 115) #[] #[.pointer (some ⟨gp,0,none⟩)]] 184)) (.cells #[.slice none 0 0] 59);simpa [Rg.run]using this,by simpa [Rg.run]using OwnR.nil _ _,by simp⟩
 have wH:W0.heap[w.heap.size]? =some (.cells #[.int .u64 f, .int .u64 t, .func (.func 115) #[] #[.pointer (some ⟨gp,0,none⟩)]] 184 (0,0)):=by
  subst Ho;rw[vt _ _ _ (by simp)];exact heap_alloc_new w _
 have vU:Below w.heap.size w W0:=by
  subst Ho
  exact vq
 clear Ho;go_loopw [13] (fun i wr=> ∃k:Nat,k<=n/\i= .int .i64 k/\ ∃A cap,dy w W0 wr A cap (Rg.run f t (aK p) (l.take k))) (fun i _ =>n-(intOf i).toNat)
 case atStart=>exact⟨0,vL _,rfl,none,0,Gd⟩
 case round=>
  obtain⟨k,hk,rfl,A1,c1,hI⟩:=hrel;have hB:=vU.trans (hI.below.mono (by omega));have BP:=hI.size;have wM:w.heap.size<wr.heap.size:=(by omega);have wF:w.heap.size+1<wr.heap.size:=(by omega);have Ge:=(hI.below.block _ (by omega)).trans wH;have s0:wr.cell? ⟨w.heap.size,0,none⟩=some (.int .u64 f):=ai Ge 0;have s1:wr.cell? ⟨w.heap.size,1,none⟩=some (.int .u64 t):=ai Ge 1;have s2:wr.cell? ⟨w.heap.size,2,none⟩=some (.func (.func 115) #[] #[.pointer (some ⟨gp,0,none⟩)]):=ai Ge 2;by_cases vW:k<n
  ·obtain⟨r,hr⟩: ∃r,l[k]? =some r:=⟨_,vv (by have:=Eg.out;omega)⟩;obtain⟨b,off,rfl,hb,Aj⟩:=hl.at_ k r hr;obtain⟨h0,h1,h2,h3,h4⟩:=Aj.below hB hb;have HR:=vp hr;have hlen:=ly f t (aK p) (l.take k);have zY:(l.take k).length<=300:=(by rw[List.length_take];omega);generalize hL:Rg.run f t (aK p) (l.take k)=L at *
   have HL:=vp hL;clear hr Aj hL;go_wp2_with fail;have KL:=hI.alloc (.cells #[.int .u64 r.fr, .int .u64 r.to, .int .u8 r.prot, .int .i64 r.ino, .int .u64 r.off] 45);have zv:=hI.own.row;have Kz:=heap_alloc_new wr (.cells #[.int .u64 r.fr, .int .u64 r.to, .int .u8 r.prot, .int .i64 r.ino, .int .u64 r.off] 45);have JA:=(vt wr (.cells #[.int .u64 r.fr, .int .u64 r.to, .int .u8 r.prot, .int .i64 r.ino, .int .u64 r.off] 45) _ wM).trans Ge;refine(fB r _ _ true (w.heap.size+1) (w.heap.size+2) A1 c1 L _ KL.cell KL.own (by omega) KL.size (by omega)).mono ?_;intro e w1 hp1;obtain⟨rfl,A2,c2,XB,Pd,xt,An⟩:=KL.put hp1;have Av:=An _ _ Kz (by omega) (fun e=>by have:=zv _ e.symm;omega);have Cg:=An _ _ JA (by omega) (fun e=>by have:=zv _ e.symm;omega);have En:=jJ r r.fr (min r.to f) true;have Po:some wr.heap.size≠A2.map (·.block):=fun e=>by
    rcases xt _ e.symm with h|h
    ·have:=zv _ h;omega
    ·simp at h;omega
   have Jy:wr.heap.size<w1.heap.size:=(by simp at Pd;omega);clear xt KL hp1 An Kz JA s0 s1 s2 h0 h1 h2 h3 h4 Ge;have s0:w1.cell? ⟨w.heap.size,0,none⟩=some (.int .u64 f):=ai Cg 0;have s1:w1.cell? ⟨w.heap.size,1,none⟩=some (.int .u64 t):=ai Cg 1;have s2:w1.cell? ⟨w.heap.size,2,none⟩=some (.func (.func 115) #[] #[.pointer (some ⟨gp,0,none⟩)]):=ai Cg 2;have b0:w1.cell? ⟨wr.heap.size,0,none⟩=some (.int .u64 r.fr):=ai Av 0;have b1:w1.cell? ⟨wr.heap.size,1,none⟩=some (.int .u64 r.to):=ai Av 1;have b2:w1.cell? ⟨wr.heap.size,2,none⟩=some (.int .u8 r.prot):=ai Av 2;have b3:w1.cell? ⟨wr.heap.size,3,none⟩=some (.int .i64 r.ino):=ai Av 3;have b4:w1.cell? ⟨wr.heap.size,4,none⟩=some (.int .u64 r.off):=ai Av 4;go_wp2_with fail;refine(prot_any r p gp w1 (((vU.trans (XB.below.mono (by omega))).cell (p:=⟨gp,0,none⟩) PN).trans hp) (by omega)).mono ?_;rintro e w2 ⟨rfl,wb⟩;have Vc:=XB.next wb;have Gu:=(wb.block _ Jy).trans Av;have Ba:=(wb.block _ (by omega)).trans Cg;have Yw:=wb.size;clear s0 s1 s2 b0 b1 b2 b3 b4 Av Cg;have s0:w2.cell? ⟨w.heap.size,0,none⟩=some (.int .u64 f):=ai Ba 0;have s1:w2.cell? ⟨w.heap.size,1,none⟩=some (.int .u64 t):=ai Ba 1;have b0:w2.cell? ⟨wr.heap.size,0,none⟩=some (.int .u64 r.fr):=ai Gu 0;have b1:w2.cell? ⟨wr.heap.size,1,none⟩=some (.int .u64 r.to):=ai Gu 1;have wL:w.heap.size<w2.heap.size:=(by omega);have yk:wr.heap.size<w2.heap.size:=(by omega);go_wp2_with fail;have KK:=Vc.alloc (.cells #[.int .u64 ((aK p) r).1.fr, .int .u64 ((aK p) r).1.to, .int .u8 ((aK p) r).1.prot, .int .i64 ((aK p) r).1.ino, .int .u64 ((aK p) r).1.off] 45);have xS:=Vc.own.row;have Ky:=(vt w2 (.cells #[.int .u64 ((aK p) r).1.fr, .int .u64 ((aK p) r).1.to, .int .u8 ((aK p) r).1.prot, .int .i64 ((aK p) r).1.ino, .int .u64 ((aK p) r).1.off] 45) _ yk).trans Gu;have Jz:=(vt w2 (.cells #[.int .u64 ((aK p) r).1.fr, .int .u64 ((aK p) r).1.to, .int .u8 ((aK p) r).1.prot, .int .i64 ((aK p) r).1.ino, .int .u64 ((aK p) r).1.off] 45) _ wL).trans Ba;have YF:some wr.heap.size≠A2.map (·.block):=Po;refine(fB ((aK p) r).1 _ _ ((aK p) r).2 (w.heap.size+1) (w.heap.size+2) A2 c2 _ _ KK.cell KK.own (by omega) KK.size (by simp;omega)).mono ?_;intro e w3 hp2;obtain⟨rfl,A3,c3,My,Pc,Qm,Am⟩:=KK.put hp2;have Cv:=Am _ _ Ky (by omega) YF;have Pe:=Am _ _ Jz (by omega) (fun e=>by have:=xS _ e.symm;omega);have Jc:=jJ ((aK p) r).1 (max r.fr f) (min r.to t) ((aK p) r).2;have SH:wr.heap.size<w3.heap.size:=(by simp at Pc;omega);clear Qm KK hp2 Am Ky Jz s0 s1 b0 b1;have s1:w3.cell? ⟨w.heap.size,1,none⟩=some (.int .u64 t):=ai Pe 1;have b0:w3.cell? ⟨wr.heap.size,0,none⟩=some (.int .u64 r.fr):=ai Cv 0;have b1:w3.cell? ⟨wr.heap.size,1,none⟩=some (.int .u64 r.to):=ai Cv 1;have b2:w3.cell? ⟨wr.heap.size,2,none⟩=some (.int .u8 r.prot):=ai Cv 2;have b3:w3.cell? ⟨wr.heap.size,3,none⟩=some (.int .i64 r.ino):=ai Cv 3;have b4:w3.cell? ⟨wr.heap.size,4,none⟩=some (.int .u64 r.off):=ai Cv 4;go_wp2_with fail;refine(fB r _ _ true (w.heap.size+1) (w.heap.size+2) A3 c3 _ _ My.cell My.own (by omega) My.size (by simp;omega)).mono ?_;intro e w4 hp3;obtain⟨rfl,A4,c4,Vb,Yv,_,_⟩:=My.put hp3;have xl:dy w W0 w4 A4 c4 (Rg.run f t (aK p) (l.take (k+1))):=by
    rw[pJ HR.out,HL.out];simpa [Rg.run1,List.append_assoc]using Vb
   clear Vb hp3 s1 b0 b1 b2 b3 b4;go_wp2_with fail;go_roundw
   case rel=>exact⟨k+1,by omega,by go_num,A4,c4,xl⟩
   case measure=>simp[intOf];omega
  ·have wo:=ai hI.cell 0;have yJ:wr.frozen? ⟨w.heap.size+1,0,none⟩=false:=(by simp[World.frozen?,hI.cell]);have ht:l.take k=l:=List.take_of_length_le (by have:=Eg.out;omega);have HI:=vp hI;have HT:=vp ht;clear hI ht;have RP:wr.cell? ⟨w.heap.size+1,0,none⟩=some (.slice A1 (Rg.run f t (aK p) (l.take k)).length c1):=wo;clear wo;generalize hL:(Rg.run f t (aK p) (l.take k))=L at *
   have HL:=vp hL;clear hL;go_wp2;refine bodyPost_ret (v:= .slice A1 L.length c1) (by simp[results,Tryz.results101,go_sem,RP,yJ,wF]) rfl ?_;have hI:=HI.out;have hL:=HL.out;rw[HT.out]at hL;subst hL;refine⟨A1,c1,rfl,?_,?_⟩
   ·refine OwnR.lower (OwnR.kept hI.own (row:=some (w.heap.size+1)) ⟨rfl,rfl,rfl,by simp[World.setCell],fun k _ hk=>vx _ _ _ _ (fun e=>hk (by rw[e]))⟩ (.inr fun e=>?_)) (by omega);have:=hI.own.row _ e;omega
   ·exact vq
end
