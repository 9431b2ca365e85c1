/- Regions: a region's plain form; Regions: a list of regions in memory; Regions: Find and Eq of the references; Regions: rows of the call's own that hold regions; -/
import Derived.Test.YtoochjhipmpehaaGreatDoorAbK
import Derived.BigQuiet
import Derived.Deep.AppendLies
import Derived.Deep.Light
import Derived.Deep.RegionHeld3
import Derived.Lib.QuietBelow
import Derived.Maps.AppendAt
import Derived.Test.YtoochjhipmpehaaGreatDoorRows
import Derived.WalkKit
import Derived.WalkLawsBesides
import Derived.WalkSmall
import Derived.WalkSpells
set_option linter.unusedVariables false
set_option linter.unusedSimpArgs false
set_option maxRecDepth 100000
set_option maxHeartbeats 1000000
namespace Go.Proofs.YtoochjhipmpehaaGreatDoor
section
open Go.RowKit
structure Reg where
 fr:Int
 to:Int
 prot:Int
 ino:Int
 off:Int
deriving DecidableEq
def w64 (x:Int):Int:=IntKind.u64.wrap x
def Rg.part (r:Reg) (f t:Int):Reg:=⟨f,t,r.prot,r.ino,if r.ino= -1 then 0 else w64 (r.off+w64 (f-r.fr))⟩
def Rg.rpart (r:Reg) (f t:Int):Reg:=⟨f,t,r.prot,r.ino,if r.ino= -1 then r.off else w64 (r.off+w64 (f-r.fr))⟩
def Rg.joins (a b:Reg):Bool:=decide (a.to=b.fr/\a.prot=b.prot/\a.ino=b.ino/\(a.ino= -1\/b.off=w64 (a.off+w64 (a.to-a.fr))))
theorem qb (r:Reg) (f g:Int) (w:World):
  Calls Tryz.prog 151 #[.agg #[.int .u64 r.fr, .int .u64 r.to, .int .u8 r.prot, .int .i64 r.ino, .int .u64 r.off], .int .u64 f, .int .u64 g] w
   fun e w'=>e= .returned (.agg #[.int .u64 (Rg.part r f g).fr, .int .u64 (Rg.part r f g).to, .int .u8 (Rg.part r f g).prot, .int .i64 (Rg.part r f g).ino, .int .u64 (Rg.part r f g).off])/\Below w.heap.size w w':=by
 go_enter Tryz.func151,Tryz.ntmps151;go_wp2
 ·rename_i h;have h':r.ino≠ -1:=(by simpa using h);refine bodyPost_ret (v:= .agg #[.int .u64 f, .int .u64 g, .int .u8 r.prot, .int .i64 r.ino, .int .u64 (w64 (r.off+w64 (f-r.fr)))]) (by simp[results,Tryz.results151,go_sem];rfl) rfl ⟨by simp[Rg.part,h'],?_⟩;exact vc.alloc (by simp) _
 ·rename_i h;have h':r.ino= -1:=(by simpa using h);refine bodyPost_ret (v:= .agg #[.int .u64 f, .int .u64 g, .int .u8 r.prot, .int .i64 r.ino, .int .u64 0]) (by simp[results,Tryz.results151,go_sem]) rfl ⟨by simp[Rg.part,h'],?_⟩;exact vc.alloc (by simp) _
def ni (r s:Reg):Bool:=decide (r=s)
theorem oE (a b c d e a' b' c' d' e':Int) (w:World):(binOp .eql 45 (.agg #[.int .u64 a, .int .u64 b, .int .u8 c, .int .i64 d, .int .u64 e]) (.agg #[.int .u64 a', .int .u64 b', .int .u8 c', .int .i64 d', .int .u64 e'])).run Tryz.prog w= .ok (.bool (ni ⟨a,b,c,d,e⟩ ⟨a',b',c',d',e'⟩)) w:=by
 have h:ni ⟨a,b,c,d,e⟩ ⟨a',b',c',d',e'⟩=(a==a'&&(b==b'&&(c==c'&&(d==d'&&e==e')))):=by
  unfold ni;rw[Bool.eq_iff_iff];simp
 rw[h]
 go_simp
 by_cases h1:a=a'<;>by_cases h2:b=b'<;>by_cases h3:c=c'<;>by_cases h4:d=d'<;>by_cases h5:e=e'<;>simp[h1,h2,h3,h4,h5]
theorem bcell {W w1:World} (hb:Below W.heap.size W w1):(∀b o,b<W.heap.size->w1.cell? ⟨b,o,none⟩=W.cell? ⟨b,o,none⟩)/\(∀b o,b<W.heap.size->w1.frozen? ⟨b,o,none⟩=W.frozen? ⟨b,o,none⟩):=
 ⟨fun b o h=>hb.cell (p:=⟨b,o,none⟩) h,fun b o h=>hb.frozen (p:=⟨b,o,none⟩) h⟩
theorem rq (a b:Reg) (h: ¬a.ino= -1):decide (Rg.part a a.to b.to=b)=Rg.joins a b:=by
 obtain⟨a1,a2,a3,a4,a5⟩:=a;obtain⟨b1,b2,b3,b4,b5⟩:=b;simp[Rg.part,Rg.joins]at *
 rw[Bool.eq_iff_iff];simp[h];intros;exact eq_comm
theorem rr (a b:Reg) (h:a.ino= -1):decide (({ Rg.part a a.to b.to with off:=b.off} :Reg)=b)=Rg.joins a b:=by
 obtain⟨a1,a2,a3,a4,a5⟩:=a;obtain⟨b1,b2,b3,b4,b5⟩:=b;simp[Rg.part,Rg.joins]at *
 rw[Bool.eq_iff_iff];simp[h]
theorem tI (r s:Reg) (w:World):
  Calls Tryz.prog 149 #[.agg #[.int .u64 (r).fr, .int .u64 (r).to, .int .u8 (r).prot, .int .i64 (r).ino, .int .u64 (r).off], .agg #[.int .u64 (s).fr, .int .u64 (s).to, .int .u8 (s).prot, .int .i64 (s).ino, .int .u64 (s).off]] w
   fun e w'=>e= .returned (.bool (Rg.joins r s))/\Below w.heap.size w w':=by
 have he:=oE;have e1:=rq r s;have e2:=rr r s;have E1:=va e1;have E2:=va e2;clear e1 e2;go_enter Tryz.func149,Tryz.ntmps149;go_wp2_with (go_at_call 151;refine(qb _ _ _ _).mono ?_;rintro e w1 ⟨rfl,hb⟩;obtain⟨hc,hf⟩:=bcell hb;have hz:=hb.size;simp at hz;have wz:w.heap.size<w1.heap.size:=(by omega);have wg:w.heap.size+1<w1.heap.size:=(by omega))
 ·rename_i h;go_ret;refine⟨?_,?_⟩
  ·rw[<-E2.out (by simpa using h)];rfl
  ·exact vb
 ·rename_i h;go_ret;refine⟨?_,?_⟩
  ·rw[<-E1.out (by simpa using h)];rfl
  ·exact vb
theorem dl {a b:Bool} (h:a=b):Ending.returned (.bool a)= .returned (.bool b):=by rw[h]
def Rg.one (r:Reg):Bool:=decide (r.fr<r.to/\r.to<=140737488355328/\r.fr % 4096=0/\r.to % 4096=0/\r.prot<=7/\
 ((r.ino= -1/\r.off=0)\/(0<=r.ino/\r.off % 4096=0/\r.off+(r.to-r.fr)<=281474976710656)))
structure Reg.Ok (r:Reg):Prop where
 fr0:0<=r.fr
 fr1:r.fr<=18446744073709551615
 to0:0<=r.to
 to1:r.to<=18446744073709551615
 prot0:0<=r.prot
 prot1:r.prot<=255
 ino0: -9223372036854775808<=r.ino
 ino1:r.ino<=9223372036854775807
 off0:0<=r.off
 off1:r.off<=18446744073709551615
theorem lS (r:Reg) (w:World) (hr:r.Ok):
  Calls Tryz.prog 99 #[.agg #[.int .u64 (r).fr, .int .u64 (r).to, .int .u8 (r).prot, .int .i64 (r).ino, .int .u64 (r).off]] w
   fun e w'=>e= .returned (.bool (Rg.one r))/\Below w.heap.size w w':=by
 have h1:=hr.fr0;have h2:=hr.to0;have h3:=hr.off0;have h4:=hr.prot0;rcases Decidable.em (r.ino= -1)with hi|hi
 all_goals
  have PA:=hi;rw[<-beq_iff_eq]at hi
  try rw[Bool.not_eq_true]at hi
  have HI:=va PA;clear PA;go_enter Tryz.func99,Tryz.ntmps99;go_wp2_with fail
  all_goals
   go_ret;refine⟨dl ?_,?_⟩
   ·have Ca:=HI.out;clear HI;rw[Bool.eq_iff_iff];simp[Rg.one,w64,Ca, *]
    try omega
    done
   ·exact vb
end
section
open Go.RowKit
def bc:Reg:=⟨0,0,0,0,0⟩
structure kG (w:World) (b o:Nat) (r:Reg):Prop where
 c0:w.cell? ⟨b,o,none⟩=some (.int .u64 r.fr)
 c1:w.cell? ⟨b,o+1,none⟩=some (.int .u64 r.to)
 c2:w.cell? ⟨b,o+2,none⟩=some (.int .u8 r.prot)
 c3:w.cell? ⟨b,o+3,none⟩=some (.int .i64 r.ino)
 c4:w.cell? ⟨b,o+4,none⟩=some (.int .u64 r.off)
variable {w w':World} {B:Nat} {r:Reg}
theorem kG.below {b o:Nat} (h:kG w b o r) (hb:Below B w w') (hB:b<B):kG w' b o r:=
 ⟨(hb.cell (p:=⟨b,_,none⟩) hB).trans h.c0,(hb.cell (p:=⟨b,_,none⟩) hB).trans h.c1,(hb.cell (p:=⟨b,_,none⟩) hB).trans h.c2,(hb.cell (p:=⟨b,_,none⟩) hB).trans h.c3,(hb.cell (p:=⟨b,_,none⟩) hB).trans h.c4⟩
structure RSl (w:World) (B:Nat) (A:Option Addr) (n cap:Nat) (l:List Reg):Prop where
 len:l.length=n
 cap:n<=cap
 few:n<=1000000
 at_: ∀k r,l[k]? =some r-> ∃b off,A=some ⟨b,off,none⟩/\b<B/\kG w b (off+k*5) r
variable {l:List Reg}
theorem RSl.below {B':Nat} {A:Option Addr} {n cap:Nat} (h:RSl w B A n cap l) (hb:Below B' w w') (hB:B<=B'):RSl w' B A n cap l:=
 ⟨h.len,h.cap,h.few,fun k r hr=>by
  obtain⟨b,off,e,vH,yT⟩:=h.at_ k r hr;exact⟨b,off,e,vH,yT.below hb (by omega)⟩⟩
def Rg.holds (r:Reg) (a:Int):Bool:=decide (r.fr<=a/\a<r.to)
def Rg.find (l:List Reg) (a:Int):Reg×Bool:=match l.find? (Rg.holds · a)with
 |some r=>(r,true)
 |none=>(bc,false)
def cn (l:List Reg) (a:Int) (k:Nat):Prop:=(l.take k).find? (Rg.holds · a)=none
theorem cn.zero (l:List Reg) (a:Int):cn l a 0:=by simp[cn]
variable {a:Int} {k:Nat}
theorem cn.succ (h:cn l a k) (hr:l[k]? =some r) (hn:Rg.holds r a=false):cn l a (k+1):=by
 unfold cn at *
 rw[List.take_add_one,hr];rw[List.find?_append,h];simp[hn]
theorem cn.found (h:cn l a k) (hr:l[k]? =some r) (hn:Rg.holds r a=true):Rg.find l a=(r,true):=by
 unfold cn at h;have hl:l=l.take k++l.drop k:=(List.take_append_drop k l).symm;have hd:l.drop k=r::l.drop (k+1):=by
  obtain⟨hk,e⟩:=List.getElem?_eq_some_iff.1 hr;rw[List.drop_eq_getElem_cons hk,e]
 have:l.find? (Rg.holds · a)=some r:=by
  rw[hl,List.find?_append,h,hd];simp[hn]
 simp[Rg.find,this]
theorem cn.all (h:cn l a k) (hk:l.length<=k):Rg.find l a=(bc,false):=by
 unfold cn at h;rw[List.take_of_length_le hk]at h;simp[Rg.find,h]
theorem lZ (A:Option Addr) (n cap:Nat) (a:Int) (w:World) (l:List Reg) (hl:RSl w w.heap.size A n cap l):
  Calls Tryz.prog 114 #[.slice A n cap, .int .u64 a] w
   fun e w'=>e= .returned (.tuple #[.agg #[.int .u64 ((Rg.find l a).1).fr, .int .u64 ((Rg.find l a).1).to, .int .u8 ((Rg.find l a).1).prot, .int .i64 ((Rg.find l a).1).ino, .int .u64 ((Rg.find l a).1).off], .bool (Rg.find l a).2])/\Below w.heap.size w w':=by
 have hn:=hl.few;go_enter Tryz.func114,Tryz.ntmps114;go_wp2;go_loopw [10] (fun i wr=> ∃k:Nat,k<=n/\i= .int .i64 k/\Below (w.heap.size+1) (w.alloc (.cells #[.int .u64 0, .int .u64 0, .int .u8 0, .int .i64 0, .int .u64 0] 45)) wr/\cn l a k) (fun i _ =>n-(intOf i).toNat)
 case atStart=>exact⟨0,vw _,rfl,vz _ _,cn.zero l a⟩
 case round=>
  obtain⟨k,hk,rfl,hB,vW⟩:=hrel;have RO:=hB.size;simp at RO;have wz:w.heap.size<wr.heap.size:=(by omega);have PM: ∀o,wr.cell? ⟨w.heap.size,o,none⟩=(#[.int .u64 0, .int .u64 0, .int .u8 0, .int .i64 0, .int .u64 0]:Array Value)[o]? :=fun o=>by
   rw[hB.cell (p:=⟨w.heap.size,o,none⟩) (Nat.lt_succ_self _)];simp
  have Xi: ∀o,wr.frozen? ⟨w.heap.size,o,none⟩=false:=fun o=>by
   rw[hB.frozen (p:=⟨w.heap.size,o,none⟩) (Nat.lt_succ_self _)];simp
  have Aa:Below w.heap.size w wr:=((vz w.heap.size w).alloc (vd _) _).trans (hB.mono (by omega));by_cases vH:k<n
  ·obtain⟨r,hr⟩: ∃r,l[k]? =some r:=⟨_,vg (by have:=hl.len;omega)⟩;obtain⟨b,off,rfl,hb,yT⟩:=hl.at_ k r hr;obtain⟨h0,h1,h2,h3,h4⟩:=yT.below Aa hb;have HR:=va hr;clear hr yT;by_cases hh:r.fr<=a/\a<r.to
   ·have HH:=va (vW.found HR.out (by simp[Rg.holds,hh]));obtain⟨g1,g2⟩:=hh;go_wp2;refine bodyPost_ret (v:= .tuple #[.agg #[.int .u64 (r).fr, .int .u64 (r).to, .int .u8 (r).prot, .int .i64 (r).ino, .int .u64 (r).off], .bool true]) (by simp[results,Tryz.results114,go_sem,wz,PM,Xi]) rfl ⟨?_,?_⟩
    ·rw[HH.out]
    ·exact vb
   ·have HH:=va (vW.succ HR.out (by simp[Rg.holds];omega));by_cases g1:r.fr<=a
    ·have g2: ¬a<r.to:=fun h=>hh ⟨g1,h⟩;clear hh;go_wp2;go_roundw
     case rel=>exact⟨k+1,by omega,by go_num,by exact vb,HH.out⟩
     case measure=>simp[intOf];omega
    ·clear hh;go_wp2;go_roundw
     case rel=>exact⟨k+1,by omega,by go_num,by exact vb,HH.out⟩
     case measure=>simp[intOf];omega
  ·have HH:=va (vW.all (by have:=hl.len;omega));go_wp2;refine bodyPost_ret (v:= .tuple #[.agg #[.int .u64 (bc).fr, .int .u64 (bc).to, .int .u8 (bc).prot, .int .i64 (bc).ino, .int .u64 (bc).off], .bool false]) (by simp[results,Tryz.results114,go_sem,wz,PM,Xi,bc]) rfl ⟨?_,?_⟩
   ·rw[HH.out]
   ·exact vb
end
section
open Go.RowKit Go.Sort
def Rg.okAt (l:List Reg) (k:Nat):Bool:=match l[k]? with
 |none=>true
 |some r=>Rg.one r&&(match k with
  |0=>true
  |j+1=>match l[j]? with
   |none=>true
   |some p=>decide (p.to<=r.fr)&& !Rg.joins p r)
def Rg.right (l:List Reg):Bool:=(List.range l.length).all (Rg.okAt l)&&decide (l.length<=64)
def dD (l:List Reg):Prop:= ∀r∈l,r.Ok
variable {l:List Reg} {k:Nat} {r:Reg}
theorem dD.at_ (h:dD l) (hr:l[k]? =some r):r.Ok:=h r (vl hr)
def OkTo (l:List Reg) (k:Nat):Prop:= ∀j,j<k->Rg.okAt l j=true
theorem OkTo.zero (l:List Reg):OkTo l 0:=fun j h=>by omega
theorem OkTo.succ (h:OkTo l k) (h1:Rg.okAt l k=true):OkTo l (k+1):=fun j hj=>by
 by_cases e:j=k
 ·subst e;exact h1
 ·exact h j (by omega)
theorem OkTo.all (h:OkTo l k) (hk:l.length<=k):Rg.right l=decide (l.length<=64):=by
 unfold Rg.right;have:(List.range l.length).all (Rg.okAt l)=true:=by
  rw[List.all_eq_true];intro x hx;exact h x (by have:=List.mem_range.1 hx;omega)
 rw[this];simp
theorem jM (hk:k<l.length) (h1:Rg.okAt l k=false):Rg.right l=false:=by
 unfold Rg.right;have:(List.range l.length).all (Rg.okAt l)=false:=by
  rw[List.all_eq_false];exact⟨k,List.mem_range.2 hk,by simp[h1]⟩
 rw[this];rfl
theorem tm (h:l[0]? =some r):Rg.okAt l 0=Rg.one r:=by simp[Rg.okAt,h]
variable {j:Nat}
theorem fa {p:Reg} (h:l[j+1]? =some r) (hp:l[j]? =some p):Rg.okAt l (j+1)=(Rg.one r&&(decide (p.to<=r.fr)&& !Rg.joins p r)):=by simp[Rg.okAt,h,hp]
theorem okAt_not (h:l[j]? =some r) (hr:Rg.one r=false):Rg.okAt l j=false:=by simp[Rg.okAt,h,hr]
variable {W:World}
theorem may_q (hr:r.Ok) (d:Nat) (os:Array Obj):Calls Tryz.prog 99 #[.agg #[.int .u64 (r).fr, .int .u64 (r).to, .int .u8 (r).prot, .int .i64 (r).ino, .int .u64 (r).off]] (grow (redrawn W d) os)
  fun e w''=>e= .returned (.bool (Rg.one r))/\ ∃p:Regrown,w''=grow (redrawn W p.d) p.os:=Calls.regrown_of (lS r _ hr)
theorem tH (r s:Reg) (d:Nat) (os:Array Obj):Calls Tryz.prog 149 #[.agg #[.int .u64 (r).fr, .int .u64 (r).to, .int .u8 (r).prot, .int .i64 (r).ino, .int .u64 (r).off], .agg #[.int .u64 (s).fr, .int .u64 (s).to, .int .u8 (s).prot, .int .i64 (s).ino, .int .u64 (s).off]] (grow (redrawn W d) os)
  fun e w''=>e= .returned (.bool (Rg.joins r s))/\ ∃p:Regrown,w''=grow (redrawn W p.d) p.os:=Calls.regrown_of (tI r s _)
variable {b o:Nat}
theorem kG.re (h:kG W b o r) (d:Nat) (os:Array Obj):kG (grow (redrawn W d) os) b o r:=
 ⟨cell_regrown h.c0 d os,cell_regrown h.c1 d os,cell_regrown h.c2 d os,cell_regrown h.c3 d os,cell_regrown h.c4 d os⟩
structure oa (w:World) (b:Nat) (r:Reg):Prop where
 c0:w.cell? ⟨b,0,none⟩=some (.int .u64 r.fr)
 c1:w.cell? ⟨b,1,none⟩=some (.int .u64 r.to)
 c2:w.cell? ⟨b,2,none⟩=some (.int .u8 r.prot)
 c3:w.cell? ⟨b,3,none⟩=some (.int .i64 r.ino)
 c4:w.cell? ⟨b,4,none⟩=some (.int .u64 r.off)
theorem oa.new (W:World) (r:Reg):oa (W.alloc (.cells #[.int .u64 r.fr, .int .u64 r.to, .int .u8 r.prot, .int .i64 r.ino, .int .u64 r.off] 45)) W.heap.size r:=
 ⟨by simp,by simp,by simp,by simp,by simp⟩
theorem oa.re (h:oa W b r) (d:Nat) (os:Array Obj):oa (grow (redrawn W d) os) b r:=
 ⟨cell_regrown h.c0 d os,cell_regrown h.c1 d os,cell_regrown h.c2 d os,cell_regrown h.c3 d os,cell_regrown h.c4 d os⟩
theorem kG.alloc (h:kG W b o r) (ob:Obj):kG (W.alloc ob) b o r:=
 h.below ((vz W.heap.size W).alloc (vd _) ob) (World.block_lt_of_cell? W _ h.c0)
theorem nc (A:Option Addr) (n cap:Nat) (w:World) (l:List Reg) (hl:RSl w w.heap.size A n cap l) (wW:dD l):
  Calls Tryz.prog 98 #[.slice A n cap] w
   fun e w'=>e= .returned (.bool (Rg.right l))/\Below w.heap.size w w':=by
 have hn:=hl.few;go_enter Tryz.func98,Tryz.ntmps98;go_wp2;go_loopw [7] (fun i wr=> ∃k:Nat,k<=n/\i= .int .i64 k/\Below w.heap.size w wr/\OkTo l k) (fun i _ =>n-(intOf i).toNat)
 case atStart=>exact⟨0,vw _,rfl,vz _ _,OkTo.zero l⟩
 case round=>
  obtain⟨k,hk,rfl,hB,vW⟩:=hrel;have RO:=hB.size;by_cases vH:k<n
  ·obtain⟨r,hr⟩: ∃r,l[k]? =some r:=⟨_,vg (by have:=hl.len;omega)⟩;obtain⟨b,off,rfl,hb,yT⟩:=hl.at_ k r hr;have ED:=wW.at_ hr;have yT:=yT.below hB hb;have HR:=va hr;clear hr;have yB:=oa.new wr r;have za: ∀o,(wr.alloc o).heap.size=wr.heap.size+1:=fun o=>by simp
   have cMay:=fun d os=>may_q (W:=wr.alloc (.cells #[.int .u64 r.fr, .int .u64 r.to, .int .u8 r.prot, .int .i64 r.ino, .int .u64 r.off] 45)) ED d os;have b0:=fun d os=>(yB.re d os).c0;have b1:=fun d os=>(yB.re d os).c1;have b2:=fun d os=>(yB.re d os).c2;have b3:=fun d os=>(yB.re d os).c3;have b4:=fun d os=>(yB.re d os).c4;obtain⟨h0,h1,h2,h3,h4⟩:=yT;cases xj:Rg.one r with
   |false=>
    rw[xj]at cMay;have HH:=va (jM (by have:=hl.len;omega) (okAt_not HR.out xj));have CM:=va cMay;clear cMay xj yB;go_wp2;refine wp_region_quiet_below (by kernel_rfl) (by kernel_rfl) ?_;(repeat(go_big_quiet_step (exact CM.out _ _)));refine wpQuiet_nil ?_;intro _ xI;obtain⟨⟨dq,osq⟩,hw''⟩:=xI;subst hw'';have wM:=below_regrown (wr.alloc (.cells #[.int .u64 r.fr, .int .u64 r.to, .int .u8 r.prot, .int .i64 r.ino, .int .u64 r.off] 45)) dq osq;generalize grow (redrawn (wr.alloc (.cells #[.int .u64 r.fr, .int .u64 r.to, .int .u8 r.prot, .int .i64 r.ino, .int .u64 r.off] 45)) dq) osq=wq at wM⊢;go_wp2;go_ret;refine⟨dl ?_,?_⟩
    ·rw[HH.out]
    ·exact vb
   |true=>
    rw[xj]at cMay;have HO:=va xj;have CM:=va cMay;clear cMay xj yB;rcases Nat.eq_zero_or_pos k with e0|yJ
    ·have HH:=va (vW.succ (by have hr:=HR.out;subst e0;rw[tm hr,HO.out]));have yJ:k<=0:=(by omega);have If:decide (0<k)=false:=(by simp;omega);clear e0;go_wp2;refine wp_region_quiet_below (by kernel_rfl) (by kernel_rfl) ?_;(repeat(go_big_quiet_step (exact CM.out _ _)));refine wpQuiet_nil ?_;intro _ xI;obtain⟨⟨dq,osq⟩,hw''⟩:=xI;subst hw'';have wM:=below_regrown (wr.alloc (.cells #[.int .u64 r.fr, .int .u64 r.to, .int .u8 r.prot, .int .i64 r.ino, .int .u64 r.off] 45)) dq osq;generalize grow (redrawn (wr.alloc (.cells #[.int .u64 r.fr, .int .u64 r.to, .int .u8 r.prot, .int .i64 r.ino, .int .u64 r.off] 45)) dq) osq=wq at wM⊢;go_wp2;go_roundw
     case rel=>exact⟨k+1,by omega,by go_num,by exact vb,HH.out⟩
     case measure=>simp[intOf];omega
    ·obtain⟨j,rfl⟩: ∃j,k=j+1:=⟨k-1,by omega⟩;obtain⟨p,hp⟩: ∃p,l[j]? =some p:=⟨_,vg (by have:=hl.len;omega)⟩;obtain⟨b',off',hA,Ip,yZ⟩:=hl.at_ j p hp;obtain⟨rfl,rfl⟩:b'=b/\off'=off:=(by simpa [eq_comm]using hA);have yZ:=(yZ.below hB hb).alloc (.cells #[.int .u64 r.fr, .int .u64 r.to, .int .u8 r.prot, .int .i64 r.ino, .int .u64 r.off] 45);have p0:=fun d os=>(yZ.re d os).c0;have p1:=fun d os=>(yZ.re d os).c1;have p2:=fun d os=>(yZ.re d os).c2;have p3:=fun d os=>(yZ.re d os).c3;have p4:=fun d os=>(yZ.re d os).c4;have HP:=va hp;clear hp yZ hA;have cJ:=fun d os=>tH (W:=wr.alloc (.cells #[.int .u64 r.fr, .int .u64 r.to, .int .u8 r.prot, .int .i64 r.ino, .int .u64 r.off] 45)) p r d os;by_cases Mc:r.fr<p.to
     ·have TF:decide (r.fr<p.to)=true:=(by simpa using Mc);have HH:=va (jM (l:=l) (k:=j+1) (by have:=hl.len;omega) (by rw[fa HR.out HP.out,HO.out];simp;omega));have CJ:=va cJ;clear cJ;go_wp2;refine wp_region_quiet_below (by kernel_rfl) (by kernel_rfl) ?_;(repeat(go_big_quiet_step (first|exact CM.out _ _ |exact CJ.out _ _)));refine wpQuiet_nil ?_;intro _ xI;obtain⟨⟨dq,osq⟩,hw''⟩:=xI;subst hw'';have wM:=below_regrown (wr.alloc (.cells #[.int .u64 r.fr, .int .u64 r.to, .int .u8 r.prot, .int .i64 r.ino, .int .u64 r.off] 45)) dq osq;generalize grow (redrawn (wr.alloc (.cells #[.int .u64 r.fr, .int .u64 r.to, .int .u8 r.prot, .int .i64 r.ino, .int .u64 r.off] 45)) dq) osq=wq at wM⊢;go_wp2;go_ret;refine⟨dl ?_,?_⟩
      ·rw[HH.out]
      ·exact vb
     ·have TF:decide (r.fr<p.to)=false:=(by simpa using Mc);cases hj:Rg.joins p r with
      |true=>
       rw[hj]at cJ;have CJ:=va cJ;clear cJ;have HH:=va (jM (l:=l) (k:=j+1) (by have:=hl.len;omega) (by rw[fa HR.out HP.out,HO.out,hj];simp));clear hj;go_wp2;refine wp_region_quiet_below (by kernel_rfl) (by kernel_rfl) ?_;(repeat(go_big_quiet_step (first|exact CM.out _ _ |exact CJ.out _ _)));refine wpQuiet_nil ?_;intro _ xI;obtain⟨⟨dq,osq⟩,hw''⟩:=xI;subst hw'';have wM:=below_regrown (wr.alloc (.cells #[.int .u64 r.fr, .int .u64 r.to, .int .u8 r.prot, .int .i64 r.ino, .int .u64 r.off] 45)) dq osq;generalize grow (redrawn (wr.alloc (.cells #[.int .u64 r.fr, .int .u64 r.to, .int .u8 r.prot, .int .i64 r.ino, .int .u64 r.off] 45)) dq) osq=wq at wM⊢;go_wp2;go_ret;refine⟨dl ?_,?_⟩
       ·rw[HH.out]
       ·exact vb
      |false=>
       rw[hj]at cJ;have CJ:=va cJ;clear cJ;have HH:=va (vW.succ (by rw[fa HR.out HP.out,HO.out,hj];simp;omega));clear hj;go_wp2;refine wp_region_quiet_below (by kernel_rfl) (by kernel_rfl) ?_;(repeat(go_big_quiet_step (first|exact CM.out _ _ |exact CJ.out _ _)));refine wpQuiet_nil ?_;intro _ xI;obtain⟨⟨dq,osq⟩,hw''⟩:=xI;subst hw'';have wM:=below_regrown (wr.alloc (.cells #[.int .u64 r.fr, .int .u64 r.to, .int .u8 r.prot, .int .i64 r.ino, .int .u64 r.off] 45)) dq osq;generalize grow (redrawn (wr.alloc (.cells #[.int .u64 r.fr, .int .u64 r.to, .int .u8 r.prot, .int .i64 r.ino, .int .u64 r.off] 45)) dq) osq=wq at wM⊢;go_wp2;go_roundw
       case rel=>exact⟨j+1+1,by omega,by go_num,by exact vb,HH.out⟩
       case measure=>simp[intOf];omega
  ·have HH:=va (vW.all (by have:=hl.len;omega));have hlen:=hl.len;go_wp2;go_ret;refine⟨dl ?_,?_⟩
   ·rw[HH.out,hlen];simp;omega
   ·exact vb
end
section
open Go.RowKit Go.Sort
def rc (r:Reg):List Value:=[.int .u64 r.fr, .int .u64 r.to, .int .u8 r.prot, .int .i64 r.ino, .int .u64 r.off]
def rcs:List Reg->List Value
 | []=>[]
 |r::l=>rc r++rcs l
theorem dZ (a b:List Reg):rcs (a++b)=rcs a++rcs b:=by
 induction a with
 |nil=>rfl
 |cons r a ih=>simp[rcs,ih]
theorem iw (r:Reg):rcs [r]=rc r:=by simp[rcs]
theorem aY (l:List Reg):(rcs l).length=l.length*5:=by
 induction l with
 |nil=>rfl
 |cons r l ih=>simp[rcs,rc,ih];omega
variable {l:List Reg}
theorem oH {k:Nat} {r:Reg} (h:l[k]? =some r) (j:Nat) (hj:j<5):(rcs l)[k*5+j]? =(rc r)[j]? :=by
 induction l generalizing k with
 |nil=>simp at h
 |cons x l ih=>
  cases k with
  |zero=>
   simp at h;subst h;have:(rc x).length=5:=rfl;simp[rcs,List.getElem?_append,this,hj]
  |succ k=>
   simp at h;have e:=ih h;have:(rc x).length=5:=rfl;rw[rcs,vj (by omega),this,<-e];congr 1;omega
theorem bN (l:List Reg): ∀u∈rcs l,u.oneCell'=true:=by
 induction l with
 |nil=>simp[rcs]
 |cons r l ih=>
  intro u hu;simp only[rcs,List.mem_append]at hu;rcases hu with hu|hu
  ·simp[rc]at hu;rcases hu with rfl|rfl|rfl|rfl|rfl<;>rfl
  ·exact ih u hu
def OwnR (w:World) (base:Nat) (A:Option Addr) (cap:Nat) (l:List Reg):Prop:=w.ownsRow base 45 5 (.slice A l.length cap) l.length (rcs l)
theorem jg:(Tryz.prog.info? 45).map (fun i=>(i.zero,i.size,i.bytes))=some (some (.agg #[.int .u64 0, .int .u64 0, .int .u8 0, .int .i64 0, .int .u64 0]),5,40):=by kernel_rfl
theorem OwnR.nil (w:World) (base:Nat):OwnR w base none 0 []:=World.ownsRow_nil w base _ 5
variable {w w':World} {base cap:Nat} {A:Option Addr}
theorem OwnR.kept {row:Option Nat} (h:OwnR w base A cap l) (hg:w.grownBy w' row) (vK:A.map (·.block)=none\/A.map (·.block)≠row):OwnR w' base A cap l:=
 World.ownsRow.kept h hg (by cases A<;>simp_all [Value.ownBlock])
theorem OwnR.alloc (h:OwnR w base A cap l) (o:Obj):OwnR (w.alloc o) base A cap l:=World.ownsRow.alloc h o
theorem OwnR.drew (h:OwnR w base A cap l):OwnR w.drew base A cap l:=h
variable {B:Nat}
theorem OwnR.below (h:OwnR w base A cap l) (hb:Below B w w') (hB:w.heap.size<=B):OwnR w' base A cap l:=
 h.kept (row:=none) ⟨hb.os,hb.tape,hb.output,hb.size,fun k hk _ =>hb.block k (by omega)⟩ (by cases A<;>simp)
theorem OwnR.lower {Bn:Nat} (h:OwnR w base A cap l) (hb:Bn<=base):OwnR w Bn A cap l:=by
 refine⟨h.1,?_⟩;rcases h.2 with h2|⟨g,cap,cur,h1,h2,h3⟩
 ·exact .inl h2
 ·exact .inr ⟨g,cap,cur,h1,by omega,h3⟩
theorem OwnR.form (h:OwnR w base A cap l):(A=none/\l=[]/\cap=0)\/ ∃g,A=some ⟨g,0,none⟩/\base<=g/\g<w.heap.size/\l.length<=cap:=by
 rcases h.2 with⟨h2,h3⟩|⟨g,vA,cur,h1,h2,h3,h4,_⟩
 ·injection h2 with h4 h5 h6;exact .inl ⟨h4,List.eq_nil_of_length_eq_zero h3,h6⟩
 ·injection h1 with e1 e2 e3;subst e3;exact .inr ⟨g,e1,h2,(uZ h3).1,h4⟩
theorem OwnR.rsl (h:OwnR w base A cap l) (hf:l.length<=1000000):RSl w w.heap.size A l.length cap l:=by
 rcases h.form with⟨rfl,rfl,rfl⟩|⟨g,rfl,hb,hg,hc⟩
 ·exact⟨rfl,by simp,hf,fun k r hr=>by simp at hr⟩
 ·refine⟨rfl,hc,hf,fun k r hr=>⟨g,0,rfl,hg,?_⟩⟩;have hk:k<l.length:=by
   have:=(List.getElem?_eq_some_iff.1 hr).1;exact this
  have e: ∀j,j<5->w.cell? ⟨g,k*5+j,none⟩=(rc r)[j]? :=fun j hj=>by
   rw[World.ownsRow.cellAt h (k*5+j) (by omega),oH hr j hj]
  simp only[Nat.zero_add];exact⟨e 0 (by omega),e 1 (by omega),e 2 (by omega),e 3 (by omega),e 4 (by omega)⟩
theorem pp {ops:Array Oper} {rest:List Oper} {o:Oper} {a:Act} {Q:Exit->Act->World->Prop} (yv:o.guard=none) (s x:Operand)
  (ho:o.op= .call { callee:= .builtin .append,args:= #[s,x],argTypes:= #[59,59]})
  (base:Nat) (A:Option Addr) (cap:Nat) (l:List Reg) (hs:a.eval s= .slice A l.length cap) (vR:OwnR w base A cap l)
  (r:Reg) (b c:Nat) (hx:a.eval x= .slice (some ⟨b,0,none⟩) 1 c) (hb:w.heap[b]? =some (.cells #[.int .u64 r.fr, .int .u64 r.to, .int .u8 r.prot, .int .i64 r.ino, .int .u64 r.off] 45 (0,0)))
  (wb:l.length<1000000) (vQ:base<=w.heap.size)
  (h: ∀g vA w',OwnR w' base (some ⟨g,0,none⟩) vA (l++[r])->w.grownBy w' (A.map (·.block))->(A.map (·.block)=some g\/g=w.heap.size)->g<w'.heap.size->wpList Tryz.prog ops Q rest (a.put o.dst (.slice (some ⟨g,0,none⟩) (l.length+1) vA)) w'):
  wpList Tryz.prog ops Q (o::rest) a w:=by
 obtain⟨i0,yb,wz,wg,wm⟩:=info_parts jg;refine wpList_append_lies w yv s x 59 ho base 45 i0 _ 5 40 Tryz.underlying59 yb wz wg wm rfl (by omega) _ l.length (rcs l) hs vR ⟨b,0,none⟩ 1 c (rc r) hx rfl (World.news_of_block (cs:= #[.int .u64 r.fr, .int .u64 r.to, .int .u8 r.prot, .int .i64 r.ino, .int .u64 r.off]) hb)
  (by rw[<-iw];exact bN _) (by omega) (by unfold maxLen;omega) (by omega) vQ w.heap.size rfl ?_
 intro g vA w' xG hg wK vH;refine h g vA w' ?_ ?_ ?_ vH
 ·unfold OwnR;rw[dZ,iw,vf];exact xG
 ·cases A<;>simpa [Value.ownBlock]using hg
 ·cases A<;>simpa [Value.ownBlock]using wK
theorem oD (a b c d e a' b' c' d' e':Int) (w:World):(binOp .neq 45 (.agg #[.int .u64 a, .int .u64 b, .int .u8 c, .int .i64 d, .int .u64 e]) (.agg #[.int .u64 a', .int .u64 b', .int .u8 c', .int .i64 d', .int .u64 e'])).run Tryz.prog w= .ok (.bool (!ni ⟨a,b,c,d,e⟩ ⟨a',b',c',d',e'⟩)) w:=by
 have h:ni ⟨a,b,c,d,e⟩ ⟨a',b',c',d',e'⟩=(a==a'&&(b==b'&&(c==c'&&(d==d'&&e==e')))):=by
  unfold ni;rw[Bool.eq_iff_iff];simp
 rw[h]
 go_simp
 by_cases h1:a=a'<;>by_cases h2:b=b'<;>by_cases h3:c=c'<;>by_cases h4:d=d'<;>by_cases h5:e=e'<;>simp[h1,h2,h3,h4,h5]
theorem RSl.cells {b off n:Nat} (h:RSl w B (some ⟨b,off,none⟩) n cap l): ∀j u,(rcs l)[j]? =some u->w.cell? ((⟨b,off,none⟩:Addr).add j)=some u:=by
 intro j u hu;have hj:j<l.length*5:=by
  rw[<-aY];exact(List.getElem?_eq_some_iff.1 hu).1
 obtain⟨r,hr⟩: ∃r,l[j/5]? =some r:=⟨_,vg (by omega)⟩;obtain⟨b',off',he,hb,c0,c1,c2,c3,c4⟩:=h.at_ _ r hr;obtain⟨rfl,rfl⟩:b'=b/\off'=off:=(by simpa [eq_comm]using he);have hm:j=j/5*5+j % 5:=(by omega);have h5:j % 5<5:=Nat.mod_lt _ (by omega);rw[hm,oH hr _ h5]at hu;have yi:(⟨b',off',none⟩:Addr).add j=⟨b',off'+j/5*5+j % 5,none⟩:=by
  unfold Addr.add;split
  ·have e1:j/5*5=0:=(by omega);have e2:j % 5=0:=(by omega);rw[e1,e2];rfl
  ·have e1:off'+j=off'+j/5*5+j % 5:=(by omega);show(⟨b',off'+j,none⟩:Addr)=_;rw[e1]
 rw[yi];generalize j/5*5=q at *
 generalize j % 5=m at *
 match m,h5 with
 |0,_ =>simp[rc]at hu;subst hu;exact c0
 |1,_ =>simp[rc]at hu;subst hu;exact c1
 |2,_ =>simp[rc]at hu;subst hu;exact c2
 |3,_ =>simp[rc]at hu;subst hu;exact c3
 |4,_ =>simp[rc]at hu;subst hu;exact c4
end
