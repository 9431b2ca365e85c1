/- Regions: a region's plain form. -/
import Derived.Test.YtoochjhipmpehaaGreatDoorAbK
import Derived.BigQuiet
import Derived.ChangeOld
import Derived.ChangeSame
import Derived.Deep.AppendLies
import Derived.Deep.Fields
import Derived.Deep.Light
import Derived.Deep.RegionHeld3
import Derived.Deep.RegionLaw
import Derived.Deep.Slices
import Derived.Deep.Upon
import Derived.Laws.CopyOwn
import Derived.Laws.Externs
import Derived.Lib.AppendZerosOnto
import Derived.Lib.MinMax
import Derived.Lib.Overlaps
import Derived.Lib.QuietBelow
import Derived.Lib.SmallJoins
import Derived.Maps.AppendAt
import Derived.OpenShut
import Derived.ProofKit
import Derived.Test.YtoochjhipmpehaaGreatDoorRows
import Derived.WalkKit
import Derived.WalkLawsBesides
import Derived.WalkSmall
import Derived.WalkSpells
set_option linter.unusedVariables false
set_option linter.unusedSimpArgs false
set_option maxRecDepth 100000
set_option maxHeartbeats 40000000
namespace Go.Proofs.YtoochjhipmpehaaGreatDoor
open Go.Proofs.Tryz
section
open Go.RowKit
structure Reg where
 fr:Int
 to:Int
 prot:Int
 ino:Int
 off:Int
deriving DecidableEq
def w64 (x:Int):Int:=IntKind.u64.wrap x
def Rg.part (r:Reg)(f t:Int):Reg:=⟨f,t,r.prot,r.ino,if r.ino= -1 then 0 else w64 (r.off+w64 (f-r.fr))⟩
def Rg.rpart (r:Reg)(f t:Int):Reg:=⟨f,t,r.prot,r.ino,if r.ino= -1 then r.off else w64 (r.off+w64 (f-r.fr))⟩
def Rg.joins (a b:Reg):Bool:=decide (a.to=b.fr/\a.prot=b.prot/\a.ino=b.ino/\(a.ino= -1\/b.off=w64 (a.off+w64 (a.to-a.fr))))
theorem rj (r:Reg)(f g:Int)(w:World):
  Calls prog 151 #[.agg #[.int .u64 r.fr,.int .u64 r.to,.int .u8 r.prot,.int .i64 r.ino,.int .u64 r.off],.int .u64 f,.int .u64 g] w
   fun e w'=>e= .returned (.agg #[.int .u64 (Rg.part r f g).fr,.int .u64 (Rg.part r f g).to,.int .u8 (Rg.part r f g).prot,.int .i64 (Rg.part r f g).ino,.int .u64 (Rg.part r f g).off])/\Below w.heap.size w w':=by
 go_enter func151,ntmps151;go_wp2
 ·rename_i h;have h':r.ino≠ -1:=(by simpa using h);refine bodyPost_ret (v:= .agg #[.int .u64 f,.int .u64 g,.int .u8 r.prot,.int .i64 r.ino,.int .u64 (w64 (r.off+w64 (f-r.fr)))]) (by simp[results,results151,go_sem];rfl) rfl ⟨by simp[Rg.part,h'],?_⟩;exact wR.alloc s_ _
 ·rename_i h;have h':r.ino= -1:=(by simpa using h);refine bodyPost_ret (v:= .agg #[.int .u64 f,.int .u64 g,.int .u8 r.prot,.int .i64 r.ino,.int .u64 0]) (by simp[results,results151,go_sem]) rfl ⟨by simp[Rg.part,h'],?_⟩;exact wR.alloc s_ _
theorem ij (r:Reg)(f g:Int)(w:World):
  Calls prog 144 #[.agg #[.int .u64 r.fr,.int .u64 r.to,.int .u8 r.prot,.int .i64 r.ino,.int .u64 r.off],.int .u64 f,.int .u64 g] w
   fun e w'=>e= .returned (.agg #[.int .u64 (Rg.rpart r f g).fr,.int .u64 (Rg.rpart r f g).to,.int .u8 (Rg.rpart r f g).prot,.int .i64 (Rg.rpart r f g).ino,.int .u64 (Rg.rpart r f g).off])/\Below w.heap.size w w':=by
 go_enter func144,ntmps144;go_wp2
 ·rename_i h;have h':r.ino≠ -1:=(by simpa using h);refine bodyPost_ret (v:= .agg #[.int .u64 f,.int .u64 g,.int .u8 r.prot,.int .i64 r.ino,.int .u64 (w64 (r.off+w64 (f-r.fr)))]) (by simp[results,results144,go_sem];rfl) rfl ⟨by simp[Rg.rpart,h'],?_⟩;exact wR.alloc s_ _
 ·rename_i h;have h':r.ino= -1:=(by simpa using h);refine bodyPost_ret (v:= .agg #[.int .u64 f,.int .u64 g,.int .u8 r.prot,.int .i64 r.ino,.int .u64 r.off]) (by simp[results,results144,go_sem]) rfl ⟨by simp[Rg.rpart,h'],?_⟩;exact wR.alloc s_ _
def regEq (r s:Reg):Bool:=decide (r=s)
theorem pK (a b c d e a' b' c' d' e':Int)(w:World):(binOp .eql 45 (.agg #[.int .u64 a,.int .u64 b,.int .u8 c,.int .i64 d,.int .u64 e]) (.agg #[.int .u64 a',.int .u64 b',.int .u8 c',.int .i64 d',.int .u64 e'])).run prog w= .ok (.bool (regEq ⟨a,b,c,d,e⟩ ⟨a',b',c',d',e'⟩)) w:=by
 have h:regEq ⟨a,b,c,d,e⟩ ⟨a',b',c',d',e'⟩=(a==a'&&(b==b'&&(c==c'&&(d==d'&&e==e')))):=by
  unfold regEq;rw[Bool.eq_iff_iff];simp
 rw[h]
 go_simp
 by_cases h1:a=a'<;>by_cases h2:b=b'<;>by_cases h3:c=c'<;>by_cases h4:d=d'<;>by_cases h5:e=e'<;>simp[h1,h2,h3,h4,h5]
theorem bcell {W w1:World}(hb:Below W.heap.size W w1):(∀b o,b<W.heap.size->w1.cell? ⟨b,o,none⟩=W.cell? ⟨b,o,none⟩)/\(∀b o,b<W.heap.size->w1.frozen? ⟨b,o,none⟩=W.frozen? ⟨b,o,none⟩):=
 ⟨fun b o h=>hb.cell (p:=⟨b,o,none⟩) h,fun b o h=>hb.frozen (p:=⟨b,o,none⟩) h⟩
theorem sZ (a b:Reg)(h: ¬a.ino= -1):decide (Rg.part a a.to b.to=b)=Rg.joins a b:=by
 obtain⟨a1,a2,a3,a4,a5⟩:=a;obtain⟨b1,b2,b3,b4,b5⟩:=b;simp[Rg.part,Rg.joins]at *
 rw[Bool.eq_iff_iff];simp[h];intros;exact eq_comm
theorem ta (a b:Reg)(h:a.ino= -1):decide (({ Rg.part a a.to b.to with off:=b.off} :Reg)=b)=Rg.joins a b:=by
 obtain⟨a1,a2,a3,a4,a5⟩:=a;obtain⟨b1,b2,b3,b4,b5⟩:=b;simp[Rg.part,Rg.joins]at *
 rw[Bool.eq_iff_iff];simp[h]
theorem vp (r s:Reg)(w:World):
  Calls prog 149 #[.agg #[.int .u64 (r).fr,.int .u64 (r).to,.int .u8 (r).prot,.int .i64 (r).ino,.int .u64 (r).off],.agg #[.int .u64 (s).fr,.int .u64 (s).to,.int .u8 (s).prot,.int .i64 (s).ino,.int .u64 (s).off]] w
   fun e w'=>e= .returned (.bool (Rg.joins r s))/\Below w.heap.size w w':=by
 have he:=pK;have e1:=sZ r s;have e2:=ta r s;obtain⟨E1,E2⟩:=zh2 e1 e2;clear e1 e2;go_enter func149,ntmps149;go_wp2_with (go_at_call 151;refine(rj _ _ _ _).mono ?_;rintro e w1⟨rfl,hb⟩;obtain⟨hc,hf⟩:=bcell hb;have hz:=hb.size;simp at hz;have xT:w.heap.size<w1.heap.size:=o_;have xQ:w.heap.size+1<w1.heap.size:=o_)
 ·rename_i h;go_ret;refine⟨?_,?_⟩
  ·rw[<-E2.o (by simpa using h)];rfl
  ·exact wQ
 ·rename_i h;go_ret;refine⟨?_,?_⟩
  ·rw[<-E1.o (by simpa using h)];rfl
  ·exact wQ
theorem aK {a b:Bool}(h:a=b):Ending.returned (.bool a)= .returned (.bool b):=by rw[h]
theorem sx (r s:Reg)(w:World):
  Calls prog 165 #[.agg #[.int .u64 (r).fr,.int .u64 (r).to,.int .u8 (r).prot,.int .i64 (r).ino,.int .u64 (r).off],.agg #[.int .u64 (s).fr,.int .u64 (s).to,.int .u8 (s).prot,.int .i64 (s).ino,.int .u64 (s).off]] w
   fun e w'=>e= .returned (.bool (Rg.joins r s))/\Below w.heap.size w w':=by
 go_enter func165,ntmps165;go_wp2_with fail
 all_goals
  go_ret;refine⟨aK ?_,?_⟩
  ·rw[Bool.eq_iff_iff];simp[Rg.joins,w64, *]
  ·exact wQ
def Rg.one (r:Reg):Bool:=decide (r.fr<r.to/\r.to<=140737488355328/\r.fr % 4096=0/\r.to % 4096=0/\r.prot<=7/\
 ((r.ino= -1/\r.off=0)\/(0<=r.ino/\r.off % 4096=0/\r.off+(r.to-r.fr)<=281474976710656)))
structure Reg.Ok (r:Reg):Prop where
 fr0:0<=r.fr
 fr1:r.fr<=18446744073709551615
 to0:0<=r.to
 to1:r.to<=18446744073709551615
 prot0:0<=r.prot
 prot1:r.prot<=255
 ino0: -9223372036854775808<=r.ino
 ino1:r.ino<=9223372036854775807
 off0:0<=r.off
 off1:r.off<=18446744073709551615
theorem mN (r:Reg)(w:World)(hr:r.Ok):
  Calls prog 99 #[.agg #[.int .u64 (r).fr,.int .u64 (r).to,.int .u8 (r).prot,.int .i64 (r).ino,.int .u64 (r).off]] w
   fun e w'=>e= .returned (.bool (Rg.one r))/\Below w.heap.size w w':=by
 have h1:=hr.fr0;have h2:=hr.to0;have h3:=hr.off0;have h4:=hr.prot0;rcases Decidable.em (r.ino= -1)with hi|hi
 all_goals
  have Lb:=hi;rw[<-beq_iff_eq]at hi
  try rw[Bool.not_eq_true]at hi
  have HI:=wP Lb;clear Lb;go_enter func99,ntmps99;go_wp2_with fail
  all_goals
   go_ret;refine⟨aK ?_,?_⟩
   ·have Bn:=HI.o;clear HI;rw[Bool.eq_iff_iff];simp[Rg.one,w64,Bn, *]
    try omega
    done
   ·exact wQ
theorem pT (r:Reg)(w:World)(hr:r.Ok):
  Calls prog 137 #[.agg #[.int .u64 (r).fr,.int .u64 (r).to,.int .u8 (r).prot,.int .i64 (r).ino,.int .u64 (r).off]] w
   fun e w'=>e= .returned (.bool (Rg.one r))/\Below w.heap.size w w':=by
 have h1:=hr.fr0;have h2:=hr.to0;have h3:=hr.off0;have h4:=hr.prot0;rcases Decidable.em (r.ino= -1)with hi|hi
 all_goals
  have Lb:=hi;rw[<-beq_iff_eq]at hi
  try rw[Bool.not_eq_true]at hi
  have HI:=wP Lb;clear Lb;go_enter func137,ntmps137;go_wp2_with fail
  all_goals
   go_ret;refine⟨aK ?_,?_⟩
   ·have Bn:=HI.o;clear HI;rw[Bool.eq_iff_iff];simp[Rg.one,w64,Bn, *]
    try omega
    done
   ·exact wQ
end
section
open Go.RowKit
def aL:Reg:=⟨0,0,0,0,0⟩
structure lu (w:World)(b o:Nat)(r:Reg):Prop where
 c0:w.cell? ⟨b,o,none⟩=some (.int .u64 r.fr)
 c1:w.cell? ⟨b,o+1,none⟩=some (.int .u64 r.to)
 c2:w.cell? ⟨b,o+2,none⟩=some (.int .u8 r.prot)
 c3:w.cell? ⟨b,o+3,none⟩=some (.int .i64 r.ino)
 c4:w.cell? ⟨b,o+4,none⟩=some (.int .u64 r.off)
variable {w w':World}{B:Nat}{r:Reg}
theorem lu.below {b o:Nat}(h:lu w b o r)(hb:Below B w w')(hB:b<B):lu w' b o r:=
 ⟨(hb.cell (p:=⟨b,_,none⟩) hB).trans h.c0,(hb.cell (p:=⟨b,_,none⟩) hB).trans h.c1,(hb.cell (p:=⟨b,_,none⟩) hB).trans h.c2,(hb.cell (p:=⟨b,_,none⟩) hB).trans h.c3,(hb.cell (p:=⟨b,_,none⟩) hB).trans h.c4⟩
structure RSl (w:World)(B:Nat)(A:Option Addr)(n cap:Nat)(l:List Reg):Prop where
 len:l.length=n
 cap:n<=cap
 few:n<=1000000
 at_: ∀k r,l[k]? =some r-> ∃b off,A=some ⟨b,off,none⟩/\b<B/\lu w b (off+k*5) r
variable {l:List Reg}
theorem RSl.below {B':Nat}{A:Option Addr}{n cap:Nat}(h:RSl w B A n cap l)(hb:Below B' w w')(hB:B<=B'):RSl w' B A n cap l:=
 ⟨h.len,h.cap,h.few,fun k r hr=>by
  obtain⟨b,off,e,xw,yI⟩:=h.at_ k r hr;exact⟨b,off,e,xw,yI.below hb o_⟩⟩
def Rg.holds (r:Reg)(a:Int):Bool:=decide (r.fr<=a/\a<r.to)
def Rg.find (l:List Reg)(a:Int):Reg×Bool:=match l.find? (Rg.holds · a)with
 |some r=>(r,true)
 |none=>(aL,false)
def bY (l:List Reg)(a:Int)(k:Nat):Prop:=(l.take k).find? (Rg.holds · a)=none
theorem bY.zero (l:List Reg)(a:Int):bY l a 0:=by simp[bY]
variable {a:Int}{k:Nat}
theorem bY.succ (h:bY l a k)(hr:l[k]? =some r)(hn:Rg.holds r a=false):bY l a (k+1):=by
 unfold bY at *
 rw[List.take_add_one,hr];rw[List.find?_append,h];simp[hn]
theorem bY.found (h:bY l a k)(hr:l[k]? =some r)(hn:Rg.holds r a=true):Rg.find l a=(r,true):=by
 unfold bY at h;have hl:l=l.take k++l.drop k:=(List.take_append_drop k l).symm;have hd:l.drop k=r::l.drop (k+1):=by
  obtain⟨hk,e⟩:=List.getElem?_eq_some_iff.1 hr;rw[List.drop_eq_getElem_cons hk,e]
 have:l.find? (Rg.holds · a)=some r:=by
  rw[hl,List.find?_append,h,hd];simp[hn]
 simp[Rg.find,this]
theorem bY.all (h:bY l a k)(hk:l.length<=k):Rg.find l a=(aL,false):=by
 unfold bY at h;rw[List.take_of_length_le hk]at h;simp[Rg.find,h]
theorem mW (A:Option Addr)(n cap:Nat)(a:Int)(w:World)(l:List Reg)(hl:RSl w w.heap.size A n cap l):
  Calls prog 114 #[.slice A n cap,.int .u64 a] w
   fun e w'=>e= .returned (.tuple #[.agg #[.int .u64 ((Rg.find l a).1).fr,.int .u64 ((Rg.find l a).1).to,.int .u8 ((Rg.find l a).1).prot,.int .i64 ((Rg.find l a).1).ino,.int .u64 ((Rg.find l a).1).off],.bool (Rg.find l a).2])/\Below w.heap.size w w':=by
 have hn:=hl.few;go_enter func114,ntmps114;go_wp2;go_loopw [10] (fun i wr=> ∃k:Nat,k<=n/\i= .int .i64 k/\Below (w.heap.size+1) (w.alloc (.cells #[.int .u64 0,.int .u64 0,.int .u8 0,.int .i64 0,.int .u64 0] 45)) wr/\bY l a k) (fun i _ =>n-(intOf i).toNat)
 case atStart=>exact⟨0,xm _,rfl,xp _ _,bY.zero l a⟩
 case round=>
  obtain⟨k,hk,rfl,hB,xL⟩:=hrel;have JX:=hB.size;simp at JX;have xT:w.heap.size<wr.heap.size:=o_;have NT: ∀o,wr.cell? ⟨w.heap.size,o,none⟩=(#[.int .u64 0,.int .u64 0,.int .u8 0,.int .i64 0,.int .u64 0]:Array Value)[o]? :=fun o=>by
   rw[hB.cell (p:=⟨w.heap.size,o,none⟩) (Nat.lt_succ_self _)];simp
  have Qc: ∀o,wr.frozen? ⟨w.heap.size,o,none⟩=false:=fun o=>by
   rw[hB.frozen (p:=⟨w.heap.size,o,none⟩) (Nat.lt_succ_self _)];simp
  have DK:Below w.heap.size w wr:=((xp w.heap.size w).alloc (wS _) _).trans (hB.mono o_);by_cases xw:k<n
  ·obtain⟨r,hr⟩: ∃r,l[k]? =some r:=⟨_,wV (by have:=hl.len;omega)⟩;obtain⟨b,off,rfl,hb,yI⟩:=hl.at_ k r hr;obtain⟨h0,h1,h2,h3,h4⟩:=yI.below DK hb;have HR:=wP hr;clear hr yI;by_cases hh:r.fr<=a/\a<r.to
   ·have HH:=wP (xL.found HR.o (by simp[Rg.holds,hh]));obtain⟨g1,g2⟩:=hh;go_wp2;refine bodyPost_ret (v:= .tuple #[.agg #[.int .u64 (r).fr,.int .u64 (r).to,.int .u8 (r).prot,.int .i64 (r).ino,.int .u64 (r).off],.bool true]) (by simp[results,results114,go_sem,xT,NT,Qc]) rfl ⟨?_,?_⟩
    ·rw[HH.o]
    ·exact wQ
   ·have HH:=wP (xL.succ HR.o (by simp[Rg.holds];omega));by_cases g1:r.fr<=a
    ·have g2: ¬a<r.to:=fun h=>hh ⟨g1,h⟩;clear hh;go_wp2;go_roundw
     case rel=>exact⟨k+1,o_,by go_num,by exact wQ,HH.o⟩
     case measure=>simp[intOf];omega
    ·clear hh;go_wp2;go_roundw
     case rel=>exact⟨k+1,o_,by go_num,by exact wQ,HH.o⟩
     case measure=>simp[intOf];omega
  ·have HH:=wP (xL.all (by have:=hl.len;omega));go_wp2;refine bodyPost_ret (v:= .tuple #[.agg #[.int .u64 (aL).fr,.int .u64 (aL).to,.int .u8 (aL).prot,.int .i64 (aL).ino,.int .u64 (aL).off],.bool false]) (by simp[results,results114,go_sem,xT,NT,Qc,aL]) rfl ⟨?_,?_⟩
   ·rw[HH.o]
   ·exact wQ
end
section
open Go.RowKit Go.Sort
def Rg.okAt (l:List Reg)(k:Nat):Bool:=match l[k]? with
 |none=>true
 |some r=>Rg.one r&&(match k with
  |0=>true
  |j+1=>match l[j]? with
   |none=>true
   |some p=>decide (p.to<=r.fr)&& !Rg.joins p r)
def Rg.right (l:List Reg):Bool:=(List.range l.length).all (Rg.okAt l)&&decide (l.length<=64)
def bG (l:List Reg):Prop:= ∀r∈l,r.Ok
variable {l:List Reg}{k:Nat}{r:Reg}
theorem bG.at_ (h:bG l)(hr:l[k]? =some r):r.Ok:=h r (xb hr)
def OkTo (l:List Reg)(k:Nat):Prop:= ∀j,j<k->Rg.okAt l j=true
theorem OkTo.zero (l:List Reg):OkTo l 0:=fun j h=>by omega
theorem OkTo.succ (h:OkTo l k)(h1:Rg.okAt l k=true):OkTo l (k+1):=fun j hj=>by
 by_cases e:j=k
 ·subst e;exact h1
 ·exact h j o_
theorem OkTo.all (h:OkTo l k)(hk:l.length<=k):Rg.right l=decide (l.length<=64):=by
 unfold Rg.right;have:(List.range l.length).all (Rg.okAt l)=true:=by
  rw[List.all_eq_true];intro x hx;exact h x (by have:=List.mem_range.1 hx;omega)
 rw[this];simp
theorem ey (hk:k<l.length)(h1:Rg.okAt l k=false):Rg.right l=false:=by
 unfold Rg.right;have:(List.range l.length).all (Rg.okAt l)=false:=by
  rw[List.all_eq_false];exact⟨k,List.mem_range.2 hk,by simp[h1]⟩
 rw[this];rfl
theorem oz (h:l[0]? =some r):Rg.okAt l 0=Rg.one r:=by simp[Rg.okAt,h]
variable {j:Nat}
theorem dg {p:Reg}(h:l[j+1]? =some r)(hp:l[j]? =some p):Rg.okAt l (j+1)=(Rg.one r&&(decide (p.to<=r.fr)&& !Rg.joins p r)):=by simp[Rg.okAt,h,hp]
theorem ro (h:l[j]? =some r)(hr:Rg.one r=false):Rg.okAt l j=false:=by simp[Rg.okAt,h,hr]
variable {W:World}
theorem may_q (hr:r.Ok)(d:Nat)(os:Array Obj):Calls prog 99 #[.agg #[.int .u64 (r).fr,.int .u64 (r).to,.int .u8 (r).prot,.int .i64 (r).ino,.int .u64 (r).off]] (grow (redrawn W d) os)
  fun e w''=>e= .returned (.bool (Rg.one r))/\ ∃p:Regrown,w''=grow (redrawn W p.d) p.os:=Calls.regrown_of (mN r _ hr)
theorem vo (r s:Reg)(d:Nat)(os:Array Obj):Calls prog 149 #[.agg #[.int .u64 (r).fr,.int .u64 (r).to,.int .u8 (r).prot,.int .i64 (r).ino,.int .u64 (r).off],.agg #[.int .u64 (s).fr,.int .u64 (s).to,.int .u8 (s).prot,.int .i64 (s).ino,.int .u64 (s).off]] (grow (redrawn W d) os)
  fun e w''=>e= .returned (.bool (Rg.joins r s))/\ ∃p:Regrown,w''=grow (redrawn W p.d) p.os:=Calls.regrown_of (vp r s _)
variable {b o:Nat}
theorem lu.re (h:lu W b o r)(d:Nat)(os:Array Obj):lu (grow (redrawn W d) os) b o r:=
 ⟨cell_regrown h.c0 d os,cell_regrown h.c1 d os,cell_regrown h.c2 d os,cell_regrown h.c3 d os,cell_regrown h.c4 d os⟩
structure pp (w:World)(b:Nat)(r:Reg):Prop where
 c0:w.cell? ⟨b,0,none⟩=some (.int .u64 r.fr)
 c1:w.cell? ⟨b,1,none⟩=some (.int .u64 r.to)
 c2:w.cell? ⟨b,2,none⟩=some (.int .u8 r.prot)
 c3:w.cell? ⟨b,3,none⟩=some (.int .i64 r.ino)
 c4:w.cell? ⟨b,4,none⟩=some (.int .u64 r.off)
theorem pp.new (W:World)(r:Reg):pp (W.alloc (.cells #[.int .u64 r.fr,.int .u64 r.to,.int .u8 r.prot,.int .i64 r.ino,.int .u64 r.off] 45)) W.heap.size r:=
 ⟨s_,s_,s_,s_,s_⟩
theorem pp.re (h:pp W b r)(d:Nat)(os:Array Obj):pp (grow (redrawn W d) os) b r:=
 ⟨cell_regrown h.c0 d os,cell_regrown h.c1 d os,cell_regrown h.c2 d os,cell_regrown h.c3 d os,cell_regrown h.c4 d os⟩
theorem lu.alloc (h:lu W b o r)(ob:Obj):lu (W.alloc ob) b o r:=
 h.below ((xp W.heap.size W).alloc (wS _) ob) (World.block_lt_of_cell? W _ h.c0)
theorem ol (A:Option Addr)(n cap:Nat)(w:World)(l:List Reg)(hl:RSl w w.heap.size A n cap l)(ya:bG l):
  Calls prog 98 #[.slice A n cap] w
   fun e w'=>e= .returned (.bool (Rg.right l))/\Below w.heap.size w w':=by
 have hn:=hl.few;go_enter func98,ntmps98;go_wp2;go_loopw [7] (fun i wr=> ∃k:Nat,k<=n/\i= .int .i64 k/\Below w.heap.size w wr/\OkTo l k) (fun i _ =>n-(intOf i).toNat)
 case atStart=>exact⟨0,xm _,rfl,xp _ _,OkTo.zero l⟩
 case round=>
  obtain⟨k,hk,rfl,hB,xL⟩:=hrel;have JX:=hB.size;by_cases xw:k<n
  ·obtain⟨r,hr⟩: ∃r,l[k]? =some r:=⟨_,wV (by have:=hl.len;omega)⟩;obtain⟨b,off,rfl,hb,yI⟩:=hl.at_ k r hr;have EL:=ya.at_ hr;have yI:=yI.below hB hb;have HR:=wP hr;clear hr;have As:=pp.new wr r;have AO: ∀o,(wr.alloc o).heap.size=wr.heap.size+1:=fun o=>by simp
   have cMay:=fun d os=>may_q (W:=wr.alloc (.cells #[.int .u64 r.fr,.int .u64 r.to,.int .u8 r.prot,.int .i64 r.ino,.int .u64 r.off] 45)) EL d os;have b0:=fun d os=>(As.re d os).c0;have b1:=fun d os=>(As.re d os).c1;have b2:=fun d os=>(As.re d os).c2;have b3:=fun d os=>(As.re d os).c3;have b4:=fun d os=>(As.re d os).c4;obtain⟨h0,h1,h2,h3,h4⟩:=yI;cases yv:Rg.one r with
   |false=>
    rw[yv]at cMay;obtain⟨HH,CM⟩:=zh2 (ey (by have:=hl.len;omega) (ro HR.o yv)) cMay;clear cMay yv As;go_wp2;refine wp_region_quiet_below k_ k_ ?_;(repeat(go_big_quiet_step (exact CM.o _ _)));refine wpQuiet_nil ?_;intro _ yX;obtain⟨⟨dq,osq⟩,hw''⟩:=yX;subst hw'';have xR:=below_regrown (wr.alloc (.cells #[.int .u64 r.fr,.int .u64 r.to,.int .u8 r.prot,.int .i64 r.ino,.int .u64 r.off] 45)) dq osq;generalize grow (redrawn (wr.alloc (.cells #[.int .u64 r.fr,.int .u64 r.to,.int .u8 r.prot,.int .i64 r.ino,.int .u64 r.off] 45)) dq) osq=wq at xR⊢;go_wp2;go_ret;refine⟨aK ?_,?_⟩
    ·rw[HH.o]
    ·exact wQ
   |true=>
    rw[yv]at cMay;obtain⟨HO,CM⟩:=zh2 yv cMay;clear cMay yv As;rcases Nat.eq_zero_or_pos k with e0|zh
    ·have HH:=wP (xL.succ (by have hr:=HR.o;subst e0;rw[oz hr,HO.o]));have zh:k<=0:=o_;have Ha:decide (0<k)=false:=t_;clear e0;go_wp2;refine wp_region_quiet_below k_ k_ ?_;(repeat(go_big_quiet_step (exact CM.o _ _)));refine wpQuiet_nil ?_;intro _ yX;obtain⟨⟨dq,osq⟩,hw''⟩:=yX;subst hw'';have xR:=below_regrown (wr.alloc (.cells #[.int .u64 r.fr,.int .u64 r.to,.int .u8 r.prot,.int .i64 r.ino,.int .u64 r.off] 45)) dq osq;generalize grow (redrawn (wr.alloc (.cells #[.int .u64 r.fr,.int .u64 r.to,.int .u8 r.prot,.int .i64 r.ino,.int .u64 r.off] 45)) dq) osq=wq at xR⊢;go_wp2;go_roundw
     case rel=>exact⟨k+1,o_,by go_num,by exact wQ,HH.o⟩
     case measure=>simp[intOf];omega
    ·obtain⟨j,rfl⟩: ∃j,k=j+1:=⟨k-1,o_⟩;obtain⟨p,hp⟩: ∃p,l[j]? =some p:=⟨_,wV (by have:=hl.len;omega)⟩;obtain⟨b',off',hA,Le,zw⟩:=hl.at_ j p hp;obtain⟨rfl,rfl⟩:b'=b/\off'=off:=(by simpa [eq_comm]using hA);have zw:=(zw.below hB hb).alloc (.cells #[.int .u64 r.fr,.int .u64 r.to,.int .u8 r.prot,.int .i64 r.ino,.int .u64 r.off] 45);have p0:=fun d os=>(zw.re d os).c0;have p1:=fun d os=>(zw.re d os).c1;have p2:=fun d os=>(zw.re d os).c2;have p3:=fun d os=>(zw.re d os).c3;have p4:=fun d os=>(zw.re d os).c4;have HP:=wP hp;clear hp zw hA;have cJ:=fun d os=>vo (W:=wr.alloc (.cells #[.int .u64 r.fr,.int .u64 r.to,.int .u8 r.prot,.int .i64 r.ino,.int .u64 r.off] 45)) p r d os;by_cases IU:r.fr<p.to
     ·have RN:decide (r.fr<p.to)=true:=(by simpa using IU);obtain⟨HH,CJ⟩:=zh2 (ey (l:=l) (k:=j+1) (by have:=hl.len;omega) (by rw[dg HR.o HP.o,HO.o];simp;omega)) cJ;clear cJ;go_wp2;refine wp_region_quiet_below k_ k_ ?_;(repeat(go_big_quiet_step (first|exact CM.o _ _ |exact CJ.o _ _)));refine wpQuiet_nil ?_;intro _ yX;obtain⟨⟨dq,osq⟩,hw''⟩:=yX;subst hw'';have xR:=below_regrown (wr.alloc (.cells #[.int .u64 r.fr,.int .u64 r.to,.int .u8 r.prot,.int .i64 r.ino,.int .u64 r.off] 45)) dq osq;generalize grow (redrawn (wr.alloc (.cells #[.int .u64 r.fr,.int .u64 r.to,.int .u8 r.prot,.int .i64 r.ino,.int .u64 r.off] 45)) dq) osq=wq at xR⊢;go_wp2;go_ret;refine⟨aK ?_,?_⟩
      ·rw[HH.o]
      ·exact wQ
     ·have RN:decide (r.fr<p.to)=false:=(by simpa using IU);cases hj:Rg.joins p r with
      |true=>
       rw[hj]at cJ;have CJ:=wP cJ;clear cJ;have HH:=wP (ey (l:=l) (k:=j+1) (by have:=hl.len;omega) (by rw[dg HR.o HP.o,HO.o,hj];simp));clear hj;go_wp2;refine wp_region_quiet_below k_ k_ ?_;(repeat(go_big_quiet_step (first|exact CM.o _ _ |exact CJ.o _ _)));refine wpQuiet_nil ?_;intro _ yX;obtain⟨⟨dq,osq⟩,hw''⟩:=yX;subst hw'';have xR:=below_regrown (wr.alloc (.cells #[.int .u64 r.fr,.int .u64 r.to,.int .u8 r.prot,.int .i64 r.ino,.int .u64 r.off] 45)) dq osq;generalize grow (redrawn (wr.alloc (.cells #[.int .u64 r.fr,.int .u64 r.to,.int .u8 r.prot,.int .i64 r.ino,.int .u64 r.off] 45)) dq) osq=wq at xR⊢;go_wp2;go_ret;refine⟨aK ?_,?_⟩
       ·rw[HH.o]
       ·exact wQ
      |false=>
       rw[hj]at cJ;have CJ:=wP cJ;clear cJ;have HH:=wP (xL.succ (by rw[dg HR.o HP.o,HO.o,hj];simp;omega));clear hj;go_wp2;refine wp_region_quiet_below k_ k_ ?_;(repeat(go_big_quiet_step (first|exact CM.o _ _ |exact CJ.o _ _)));refine wpQuiet_nil ?_;intro _ yX;obtain⟨⟨dq,osq⟩,hw''⟩:=yX;subst hw'';have xR:=below_regrown (wr.alloc (.cells #[.int .u64 r.fr,.int .u64 r.to,.int .u8 r.prot,.int .i64 r.ino,.int .u64 r.off] 45)) dq osq;generalize grow (redrawn (wr.alloc (.cells #[.int .u64 r.fr,.int .u64 r.to,.int .u8 r.prot,.int .i64 r.ino,.int .u64 r.off] 45)) dq) osq=wq at xR⊢;go_wp2;go_roundw
       case rel=>exact⟨j+1+1,o_,by go_num,by exact wQ,HH.o⟩
       case measure=>simp[intOf];omega
  ·have HH:=wP (xL.all (by have:=hl.len;omega));have hlen:=hl.len;go_wp2;go_ret;refine⟨aK ?_,?_⟩
   ·rw[HH.o,hlen];simp;omega
   ·exact wQ
theorem one_q (hr:r.Ok)(d:Nat)(os:Array Obj):Calls prog 137 #[.agg #[.int .u64 (r).fr,.int .u64 (r).to,.int .u8 (r).prot,.int .i64 (r).ino,.int .u64 (r).off]] (grow (redrawn W d) os)
  fun e w''=>e= .returned (.bool (Rg.one r))/\ ∃p:Regrown,w''=grow (redrawn W p.d) p.os:=Calls.regrown_of (pT r _ hr)
theorem qX (r s:Reg)(d:Nat)(os:Array Obj):Calls prog 165 #[.agg #[.int .u64 (r).fr,.int .u64 (r).to,.int .u8 (r).prot,.int .i64 (r).ino,.int .u64 (r).off],.agg #[.int .u64 (s).fr,.int .u64 (s).to,.int .u8 (s).prot,.int .i64 (s).ino,.int .u64 (s).off]] (grow (redrawn W d) os)
  fun e w''=>e= .returned (.bool (Rg.joins r s))/\ ∃p:Regrown,w''=grow (redrawn W p.d) p.os:=Calls.regrown_of (sx r s _)
theorem sy (h:64<l.length):Rg.right l=false:=by
 unfold Rg.right;have:decide (l.length<=64)=false:=t_;rw[this,Bool.and_false]
theorem lK (A:Option Addr)(n cap:Nat)(w:World)(l:List Reg)(hl:RSl w w.heap.size A n cap l)(ya:bG l):
  Calls prog 136 #[.slice A n cap] w
   fun e w'=>e= .returned (.bool (Rg.right l))/\Below w.heap.size w w':=by
 have hn:=hl.few;by_cases CD:64<n
 ·have HH:=wP (sy (l:=l) (by have:=hl.len;omega));go_enter func136,ntmps136;go_wp2;go_ret;refine⟨aK ?_,?_⟩
  ·rw[HH.o]
  ·exact wQ
 have h64':n<=64:=o_;clear CD;go_enter func136,ntmps136;go_wp2;go_loopw [3] (fun i wr=> ∃k:Nat,k<=n/\i= .int .i64 k/\Below w.heap.size w wr/\OkTo l k) (fun i _ =>n-(intOf i).toNat)
 case atStart=>exact⟨0,xm _,rfl,xp _ _,OkTo.zero l⟩
 case round=>
  obtain⟨k,hk,rfl,hB,xL⟩:=hrel;have JX:=hB.size;by_cases xw:k<n
  ·obtain⟨r,hr⟩: ∃r,l[k]? =some r:=⟨_,wV (by have:=hl.len;omega)⟩;obtain⟨b,off,rfl,hb,yI⟩:=hl.at_ k r hr;have EL:=ya.at_ hr;have yI:=yI.below hB hb;have HR:=wP hr;clear hr;have cMay:=fun d os=>one_q (W:=wr) EL d os;have b0:=fun d os=>(yI.re d os).c0;have b1:=fun d os=>(yI.re d os).c1;have b2:=fun d os=>(yI.re d os).c2;have b3:=fun d os=>(yI.re d os).c3;have b4:=fun d os=>(yI.re d os).c4;cases yv:Rg.one r with
   |false=>
    rw[yv]at cMay;obtain⟨HH,CM⟩:=zh2 (ey (by have:=hl.len;omega) (ro HR.o yv)) cMay;clear cMay yv yI;go_wp2;refine wp_region_quiet_below k_ k_ ?_;(repeat(go_big_quiet_step (exact CM.o _ _)));refine wpQuiet_nil ?_;intro _ yX;obtain⟨⟨dq,osq⟩,hw''⟩:=yX;subst hw'';have xR:=below_regrown (wr) dq osq;generalize grow (redrawn (wr) dq) osq=wq at xR⊢;go_wp2;go_ret;refine⟨aK ?_,?_⟩
    ·rw[HH.o]
    ·exact wQ
   |true=>
    rw[yv]at cMay;obtain⟨HO,CM⟩:=zh2 yv cMay;clear cMay yv yI;rcases Nat.eq_zero_or_pos k with e0|zh
    ·have HH:=wP (xL.succ (by have hr:=HR.o;subst e0;rw[oz hr,HO.o]));have zh:k<=0:=o_;have Ha:decide (0<k)=false:=t_;clear e0;go_wp2;refine wp_region_quiet_below k_ k_ ?_;(repeat(go_big_quiet_step (exact CM.o _ _)));refine wpQuiet_nil ?_;intro _ yX;obtain⟨⟨dq,osq⟩,hw''⟩:=yX;subst hw'';have xR:=below_regrown (wr) dq osq;generalize grow (redrawn (wr) dq) osq=wq at xR⊢;go_wp2;go_roundw
     case rel=>exact⟨k+1,o_,by go_num,by exact wQ,HH.o⟩
     case measure=>simp[intOf];omega
    ·obtain⟨j,rfl⟩: ∃j,k=j+1:=⟨k-1,o_⟩;obtain⟨p,hp⟩: ∃p,l[j]? =some p:=⟨_,wV (by have:=hl.len;omega)⟩;obtain⟨b',off',hA,Le,zw⟩:=hl.at_ j p hp;obtain⟨rfl,rfl⟩:b'=b/\off'=off:=(by simpa [eq_comm]using hA);have zw:=zw.below hB hb;have p0:=fun d os=>(zw.re d os).c0;have p1:=fun d os=>(zw.re d os).c1;have p2:=fun d os=>(zw.re d os).c2;have p3:=fun d os=>(zw.re d os).c3;have p4:=fun d os=>(zw.re d os).c4;have HP:=wP hp;clear hp zw hA;have cJ:=fun d os=>qX (W:=wr) p r d os;by_cases IU:r.fr<p.to
     ·have RN:decide (r.fr<p.to)=true:=(by simpa using IU);obtain⟨HH,CJ⟩:=zh2 (ey (l:=l) (k:=j+1) (by have:=hl.len;omega) (by rw[dg HR.o HP.o,HO.o];simp;omega)) cJ;clear cJ;go_wp2;refine wp_region_quiet_below k_ k_ ?_;(repeat(go_big_quiet_step (first|exact CM.o _ _ |exact CJ.o _ _)));refine wpQuiet_nil ?_;intro _ yX;obtain⟨⟨dq,osq⟩,hw''⟩:=yX;subst hw'';have xR:=below_regrown (wr) dq osq;generalize grow (redrawn (wr) dq) osq=wq at xR⊢;go_wp2;go_ret;refine⟨aK ?_,?_⟩
      ·rw[HH.o]
      ·exact wQ
     ·have RN:decide (r.fr<p.to)=false:=(by simpa using IU);cases hj:Rg.joins p r with
      |true=>
       rw[hj]at cJ;have CJ:=wP cJ;clear cJ;have HH:=wP (ey (l:=l) (k:=j+1) (by have:=hl.len;omega) (by rw[dg HR.o HP.o,HO.o,hj];simp));clear hj;go_wp2;refine wp_region_quiet_below k_ k_ ?_;(repeat(go_big_quiet_step (first|exact CM.o _ _ |exact CJ.o _ _)));refine wpQuiet_nil ?_;intro _ yX;obtain⟨⟨dq,osq⟩,hw''⟩:=yX;subst hw'';have xR:=below_regrown (wr) dq osq;generalize grow (redrawn (wr) dq) osq=wq at xR⊢;go_wp2;go_ret;refine⟨aK ?_,?_⟩
       ·rw[HH.o]
       ·exact wQ
      |false=>
       rw[hj]at cJ;have CJ:=wP cJ;clear cJ;have HH:=wP (xL.succ (by rw[dg HR.o HP.o,HO.o,hj];simp;omega));clear hj;go_wp2;refine wp_region_quiet_below k_ k_ ?_;(repeat(go_big_quiet_step (first|exact CM.o _ _ |exact CJ.o _ _)));refine wpQuiet_nil ?_;intro _ yX;obtain⟨⟨dq,osq⟩,hw''⟩:=yX;subst hw'';have xR:=below_regrown (wr) dq osq;generalize grow (redrawn (wr) dq) osq=wq at xR⊢;go_wp2;go_roundw
       case rel=>exact⟨j+1+1,o_,by go_num,by exact wQ,HH.o⟩
       case measure=>simp[intOf];omega
  ·have HH:=wP (xL.all (by have:=hl.len;omega));have hlen:=hl.len;go_wp2;go_ret;refine⟨aK ?_,?_⟩
   ·rw[HH.o,hlen];simp;omega
   ·exact wQ
theorem om (A:Option Addr)(n cap:Nat)(a:Int)(w:World)(l:List Reg)(hl:RSl w w.heap.size A n cap l):
  Calls prog 166 #[.slice A n cap,.int .u64 a] w
   fun e w'=>e= .returned (.tuple #[.agg #[.int .u64 ((Rg.find l a).1).fr,.int .u64 ((Rg.find l a).1).to,.int .u8 ((Rg.find l a).1).prot,.int .i64 ((Rg.find l a).1).ino,.int .u64 ((Rg.find l a).1).off],.bool (Rg.find l a).2])/\Below w.heap.size w w':=by
 have hn:=hl.few;go_enter func166,ntmps166;go_wp2;go_loopw [6] (fun i wr=> ∃k:Nat,k<=n/\i= .int .i64 k/\Below (w.heap.size+1) (w.alloc (.cells #[.int .u64 0,.int .u64 0,.int .u8 0,.int .i64 0,.int .u64 0] 45)) wr/\bY l a k) (fun i _ =>n-(intOf i).toNat)
 case atStart=>exact⟨0,xm _,rfl,xp _ _,bY.zero l a⟩
 case round=>
  obtain⟨k,hk,rfl,hB,xL⟩:=hrel;have JX:=hB.size;simp at JX;have xT:w.heap.size<wr.heap.size:=o_;have NT: ∀o,wr.cell? ⟨w.heap.size,o,none⟩=(#[.int .u64 0,.int .u64 0,.int .u8 0,.int .i64 0,.int .u64 0]:Array Value)[o]? :=fun o=>by
   rw[hB.cell (p:=⟨w.heap.size,o,none⟩) (Nat.lt_succ_self _)];simp
  have Qc: ∀o,wr.frozen? ⟨w.heap.size,o,none⟩=false:=fun o=>by
   rw[hB.frozen (p:=⟨w.heap.size,o,none⟩) (Nat.lt_succ_self _)];simp
  have DK:Below w.heap.size w wr:=((xp w.heap.size w).alloc (wS _) _).trans (hB.mono o_);by_cases xw:k<n
  ·obtain⟨r,hr⟩: ∃r,l[k]? =some r:=⟨_,wV (by have:=hl.len;omega)⟩;obtain⟨b,off,rfl,hb,yI⟩:=hl.at_ k r hr;obtain⟨h0,h1,h2,h3,h4⟩:=yI.below DK hb;have HR:=wP hr;clear hr yI;by_cases hh:r.fr<=a/\a<r.to
   ·have HH:=wP (xL.found HR.o (by simp[Rg.holds,hh]));obtain⟨g1,g2⟩:=hh;go_wp2;refine bodyPost_ret (v:= .tuple #[.agg #[.int .u64 (r).fr,.int .u64 (r).to,.int .u8 (r).prot,.int .i64 (r).ino,.int .u64 (r).off],.bool true]) (by simp[results,results166,go_sem,xT,NT,Qc]) rfl ⟨?_,?_⟩
    ·rw[HH.o]
    ·exact wQ
   ·have HH:=wP (xL.succ HR.o (by simp[Rg.holds];omega));by_cases g1:r.fr<=a
    ·have g2: ¬a<r.to:=fun h=>hh ⟨g1,h⟩;clear hh;go_wp2;go_roundw
     case rel=>exact⟨k+1,o_,by go_num,by exact wQ,HH.o⟩
     case measure=>simp[intOf];omega
    ·clear hh;go_wp2;go_roundw
     case rel=>exact⟨k+1,o_,by go_num,by exact wQ,HH.o⟩
     case measure=>simp[intOf];omega
  ·have HH:=wP (xL.all (by have:=hl.len;omega));go_wp2;refine bodyPost_ret (v:= .tuple #[.agg #[.int .u64 (aL).fr,.int .u64 (aL).to,.int .u8 (aL).prot,.int .i64 (aL).ino,.int .u64 (aL).off],.bool false]) (by simp[results,results166,go_sem,xT,NT,Qc,aL]) rfl ⟨?_,?_⟩
   ·rw[HH.o]
   ·exact wQ
end
section
open Go.RowKit Go.Sort
def rc (r:Reg):List Value:=[.int .u64 r.fr,.int .u64 r.to,.int .u8 r.prot,.int .i64 r.ino,.int .u64 r.off]
def rcs:List Reg->List Value
 | []=>[]
 |r::l=>rc r++rcs l
theorem ez (a b:List Reg):rcs (a++b)=rcs a++rcs b:=by
 induction a with
 |nil=>rfl
 |cons r a ih=>simp[rcs,ih]
theorem iZ (r:Reg):rcs [r]=rc r:=by simp[rcs]
theorem aY (l:List Reg):(rcs l).length=l.length*5:=by
 induction l with
 |nil=>rfl
 |cons r l ih=>simp[rcs,rc,ih];omega
variable {l:List Reg}
theorem pN {k:Nat}{r:Reg}(h:l[k]? =some r)(j:Nat)(hj:j<5):(rcs l)[k*5+j]? =(rc r)[j]? :=by
 induction l generalizing k with
 |nil=>simp at h
 |cons x l ih=>
  cases k with
  |zero=>
   simp at h;subst h;have:(rc x).length=5:=rfl;simp[rcs,List.getElem?_append,this,hj]
  |succ k=>
   simp at h;have e:=ih h;have:(rc x).length=5:=rfl;rw[rcs,wY o_,this,<-e];congr 1;omega
theorem bU (l:List Reg): ∀u∈rcs l,u.oneCell'=true:=by
 induction l with
 |nil=>simp[rcs]
 |cons r l ih=>
  intro u hu;simp only[rcs,List.mem_append]at hu;rcases hu with hu|hu
  ·simp[rc]at hu;rcases hu with rfl|rfl|rfl|rfl|rfl<;>rfl
  ·exact ih u hu
def OwnR (w:World)(base:Nat)(A:Option Addr)(cap:Nat)(l:List Reg):Prop:=w.ownsRow base 45 5 (.slice A l.length cap) l.length (rcs l)
theorem jN:(prog.info? 45).map (fun i=>(i.zero,i.size,i.bytes))=some (some (.agg #[.int .u64 0,.int .u64 0,.int .u8 0,.int .i64 0,.int .u64 0]),5,40):=k_
theorem OwnR.nil (w:World)(base:Nat):OwnR w base none 0 []:=World.ownsRow_nil w base _ 5
variable {w w':World}{base cap:Nat}{A:Option Addr}
theorem OwnR.kept {row:Option Nat}(h:OwnR w base A cap l)(hg:w.grownBy w' row)(xA:A.map (·.block)=none\/A.map (·.block)≠row):OwnR w' base A cap l:=
 World.ownsRow.kept h hg (by cases A<;>simp_all [Value.ownBlock])
theorem OwnR.alloc (h:OwnR w base A cap l)(o:Obj):OwnR (w.alloc o) base A cap l:=World.ownsRow.alloc h o
theorem OwnR.drew (h:OwnR w base A cap l):OwnR w.drew base A cap l:=h
variable {B:Nat}
theorem OwnR.below (h:OwnR w base A cap l)(hb:Below B w w')(hB:w.heap.size<=B):OwnR w' base A cap l:=
 h.kept (row:=none) ⟨hb.os,hb.tape,hb.output,hb.size,fun k hk _ =>hb.block k o_⟩ (by cases A<;>simp)
theorem OwnR.lower {Bk:Nat}(h:OwnR w base A cap l)(hb:Bk<=base):OwnR w Bk A cap l:=by
 refine⟨h.1,?_⟩;rcases h.2 with h2|⟨g,cap,cur,h1,h2,h3⟩
 ·exact .inl h2
 ·exact .inr ⟨g,cap,cur,h1,o_,h3⟩
theorem OwnR.form (h:OwnR w base A cap l):(A=none/\l=[]/\cap=0)\/ ∃g,A=some ⟨g,0,none⟩/\base<=g/\g<w.heap.size/\l.length<=cap:=by
 rcases h.2 with⟨h2,h3⟩|⟨g,xq,cur,h1,h2,h3,h4,_⟩
 ·injection h2 with h4 h5 h6;exact .inl ⟨h4,List.eq_nil_of_length_eq_zero h3,h6⟩
 ·injection h1 with e1 e2 e3;subst e3;exact .inr ⟨g,e1,h2,(wO h3).1,h4⟩
theorem OwnR.rsl (h:OwnR w base A cap l)(hf:l.length<=1000000):RSl w w.heap.size A l.length cap l:=by
 rcases h.form with⟨rfl,rfl,rfl⟩|⟨g,rfl,hb,hg,hc⟩
 ·exact⟨rfl,s_,hf,fun k r hr=>by simp at hr⟩
 ·refine⟨rfl,hc,hf,fun k r hr=>⟨g,0,rfl,hg,?_⟩⟩;have hk:k<l.length:=by
   have:=(List.getElem?_eq_some_iff.1 hr).1;exact this
  have e: ∀j,j<5->w.cell? ⟨g,k*5+j,none⟩=(rc r)[j]? :=fun j hj=>by
   rw[World.ownsRow.cellAt h (k*5+j) o_,pN hr j hj]
  simp only[Nat.zero_add];exact⟨e 0 o_,e 1 o_,e 2 o_,e 3 o_,e 4 o_⟩
theorem ci {ops:Array Oper}{rest:List Oper}{o:Oper}{a:Act}{Q:Exit->Act->World->Prop}(zH:o.guard=none)(s x:Operand)
  (ho:o.op= .call { callee:= .builtin .append,args:= #[s,x],argTypes:= #[59,59]})
  (base:Nat)(A:Option Addr)(cap:Nat)(l:List Reg)(hs:a.eval s= .slice A l.length cap)(xC:OwnR w base A cap l)
  (r:Reg)(b c:Nat)(hx:a.eval x= .slice (some ⟨b,0,none⟩) 1 c)(hb:w.heap[b]? =some (.cells #[.int .u64 r.fr, .int .u64 r.to, .int .u8 r.prot, .int .i64 r.ino, .int .u64 r.off] 45 (0,0)))
  (xD:l.length<1000000)(xH:base<=w.heap.size)
  (h: ∀g xq w',OwnR w' base (some ⟨g,0,none⟩) xq (l++[r])->w.grownBy w' (A.map (·.block))->(A.map (·.block)=some g\/g=w.heap.size)->g<w'.heap.size->wpList prog ops Q rest (a.put o.dst (.slice (some ⟨g,0,none⟩) (l.length+1) xq)) w'):
  wpList prog ops Q (o::rest) a w:=by
 obtain⟨i0,zx,xT,xQ,xX⟩:=info_parts jN;refine wpList_append_lies w zH s x 59 ho base 45 i0 _ 5 40 underlying59 zx xT xQ xX rfl o_ _ l.length (rcs l) hs xC ⟨b,0,none⟩ 1 c (rc r) hx rfl (World.news_of_block (cs:= #[.int .u64 r.fr,.int .u64 r.to,.int .u8 r.prot,.int .i64 r.ino,.int .u64 r.off]) hb)
  (by rw[<-iZ];exact bU _) o_ (by unfold maxLen;omega) o_ xH w.heap.size rfl ?_
 intro g xq w' zg hg yr xw;refine h g xq w' ?_ ?_ ?_ xw
 ·unfold OwnR;rw[ez,iZ,wU];exact zg
 ·cases A<;>simpa [Value.ownBlock]using hg
 ·cases A<;>simpa [Value.ownBlock]using yr
theorem RSl.cells {b off n:Nat}(h:RSl w B (some ⟨b,off,none⟩) n cap l): ∀j u,(rcs l)[j]? =some u->w.cell? ((⟨b,off,none⟩:Addr).add j)=some u:=by
 intro j u hu;have hj:j<l.length*5:=by
  rw[<-aY];exact(List.getElem?_eq_some_iff.1 hu).1
 obtain⟨r,hr⟩: ∃r,l[j/5]? =some r:=⟨_,wV o_⟩;obtain⟨b',off',he,hb,c0,c1,c2,c3,c4⟩:=h.at_ _ r hr;obtain⟨rfl,rfl⟩:b'=b/\off'=off:=(by simpa [eq_comm]using he);have hm:j=j/5*5+j % 5:=o_;have h5:j % 5<5:=Nat.mod_lt _ o_;rw[hm,pN hr _ h5]at hu;have zA:(⟨b',off',none⟩:Addr).add j=⟨b',off'+j/5*5+j % 5,none⟩:=by
  unfold Addr.add;split
  ·have e1:j/5*5=0:=o_;have e2:j % 5=0:=o_;rw[e1,e2];rfl
  ·have e1:off'+j=off'+j/5*5+j % 5:=o_;show(⟨b',off'+j,none⟩:Addr)=_;rw[e1]
 rw[zA];generalize j/5*5=q at *
 generalize j % 5=m at *
 match m,h5 with
 |0,_ =>simp[rc]at hu;subst hu;exact c0
 |1,_ =>simp[rc]at hu;subst hu;exact c1
 |2,_ =>simp[rc]at hu;subst hu;exact c2
 |3,_ =>simp[rc]at hu;subst hu;exact c3
 |4,_ =>simp[rc]at hu;subst hu;exact c4
end
section
open Go.RowKit Go.Sort
variable {w:World}
theorem nT {ops:Array Oper}{o:Oper}{a:Act}{K:Act->World->Prop}{Q:Exit->Act->World->Prop}{E:Prop}(zH:o.guard=none)(s x:Operand)
  (ho:o.op= .call { callee:= .builtin .append,args:= #[s,x],argTypes:= #[59,59]})
  (base:Nat)(A:Option Addr)(cap:Nat)(l:List Reg)(hs:a.eval s= .slice A l.length cap)(xC:OwnR w base A cap l)
  (r:Reg)(b c:Nat)(hx:a.eval x= .slice (some ⟨b,0,none⟩) 1 c)(hb:w.heap[b]? =some (.cells #[.int .u64 r.fr, .int .u64 r.to, .int .u8 r.prot, .int .i64 r.ino, .int .u64 r.off] 45 (0,0)))
  (xD:l.length<1000000)(xH:base<=w.heap.size)
  (h: ∀g xq w',OwnR w' base (some ⟨g,0,none⟩) xq (l++[r])->w.grownBy w' (A.map (·.block))->(A.map (·.block)=some g\/g=w.heap.size)->g<w'.heap.size->K (a.put o.dst (.slice (some ⟨g,0,none⟩) (l.length+1) xq)) w'):
  if Region.wanted o (yielded ops a.tmps)=true then Oper.wp prog o a w K Q else E:=by
 obtain⟨i0,zx,xT,xQ,xX⟩:=info_parts jN;refine step_append_lies w zH s x 59 ho base 45 i0 _ 5 40 underlying59 zx xT xQ xX rfl o_ _ l.length (rcs l) hs xC ⟨b,0,none⟩ 1 c (rc r) hx rfl (World.news_of_block (cs:= #[.int .u64 r.fr,.int .u64 r.to,.int .u8 r.prot,.int .i64 r.ino,.int .u64 r.off]) hb)
  (by rw[<-iZ];exact bU _) o_ (by unfold maxLen;omega) o_ xH w.heap.size rfl ?_
 intro g xq w' zg hg yr xw;refine h g xq w' ?_ ?_ ?_ xw
 ·unfold OwnR;rw[ez,iZ,wU];exact zg
 ·cases A<;>simpa [Value.ownBlock]using hg
 ·cases A<;>simpa [Value.ownBlock]using yr
structure But2 (w w':World)(g:Nat)(row:Option Nat):Prop where
 os:w'.os=w.os
 tape:w'.tape=w.tape
 output:w'.output=w.output
 size:w.heap.size<=w'.heap.size
 block: ∀k,k<w.heap.size->k≠g->some k≠row->w'.heap[k]? =w.heap[k]?
theorem sD {w1 w2:World}{g base g' cap xq:Nat}{A:Option Addr}{l l':List Reg}{box ob2:Obj}{u:Value}(xV:w.heap[g]? =some (.cells #[u] 59 (0,0)))(xC:OwnR w base A cap l)(Fm:g<base)(AO:base<=w.heap.size)
  (xu:Below (w.alloc box).drew.heap.size (w.alloc box).drew w1)(zD:OwnR w2 base (some ⟨g',0,none⟩) xq l')(yE:(w1.alloc ob2).grownBy w2 (A.map (·.block)))(yn:A.map (·.block)=some g'\/g'=(w1.alloc ob2).heap.size)(v:Value):
  (w2.setCell ⟨g,0,none⟩ v).heap[g]? =some (.cells #[v] 59 (0,0))/\OwnR (w2.setCell ⟨g,0,none⟩ v) base (some ⟨g',0,none⟩) xq l'/\But2 w (w2.setCell ⟨g,0,none⟩ v) g (A.map (·.block))/\(A.map (·.block)=some g'\/w.heap.size<=g'):=by
 have xG: ∀b,A.map (·.block)=some b->base<=b/\b<w.heap.size:=fun b hb=>by
  rcases xC.form with⟨h1,_,_⟩|⟨g1,h1,h2,h3,h4⟩
  ·rw[h1]at hb;simp at hb
  ·rw[h1]at hb;simp at hb;subst hb;exact⟨h2,h3⟩
 have xQ:=xu.size;simp at xQ;have hold: ∀k,k<w.heap.size->some k≠A.map (·.block)->w2.heap[k]? =w.heap[k]? :=fun k hk xA=>by
  rw[yE.block k t_ xA,wT _ _ _ o_,xu.block k t_];exact wT w box k hk
 have hgne:some g≠A.map (·.block):=fun e=>by have:=xG g e.symm;omega
 have hg2':=(hold g o_ hgne).trans xV;obtain⟨g2,he,Im,DG,_⟩:=(zD.form).resolve_left s_;obtain rfl:g'=g2:=(by simpa using he);refine⟨?_,?_,?_,?_⟩
 ·simp[World.setCell,Array.getElem?_modify,hg2']
 ·refine zD.kept (row:=some g) ⟨rfl,rfl,rfl,by simp[World.setCell],fun k _ hk=>wX _ _ _ _ (fun e=>hk (by rw[e]))⟩ (.inr ?_);simp;omega
 ·have Cx:=yE.size;simp at Cx;refine⟨?_,?_,?_,?_,fun k hk h1 h2=>?_⟩
  ·exact yE.os.trans xu.os
  ·exact yE.tape.trans xu.tape
  ·exact yE.output.trans xu.output
  ·simp[World.setCell];omega
  ·rw[wX _ _ _ _ (by simpa using h1)];exact hold k hk h2
 ·rcases yn with h|h
  ·exact .inl h
  ·right;simp at h;omega
theorem putc_yes (r:Reg)(f t:Int)(g base:Nat)(A:Option Addr)(cap:Nat)(l:List Reg)(w:World)
  (xV:w.heap[g]? =some (.cells #[.slice A l.length cap] 59 (0,0)))(xC:OwnR w base A cap l)(Fm:g<base)(AO:base<=w.heap.size)(xD:l.length<1000000)(yS:f<t):
  Calls prog 150 #[.agg #[.int .u64 (r).fr,.int .u64 (r).to,.int .u8 (r).prot,.int .i64 (r).ino,.int .u64 (r).off],.int .u64 f,.int .u64 t,.bool true,.pointer (some ⟨g,0,none⟩)] w
   fun e w'=>e= .returned (.tuple #[])/\ ∃g' xq,w'.heap[g]? =some (.cells #[.slice (some ⟨g',0,none⟩) (l.length+1) xq] 59 (0,0))/\OwnR w' base (some ⟨g',0,none⟩) xq (l++[Rg.part r f t])/\
    But2 w w' g (A.map (·.block))/\(A.map (·.block)=some g'\/w.heap.size<=g'):=by
 have OK:=cell_of_one xV;have Sc:=free_of_one xV;have JJ:g<w.heap.size:=o_;have hlen:=wP (rfl:l.length=l.length);have xG: ∀b,A.map (·.block)=some b->base<=b/\b<w.heap.size:=fun b hb=>by
  rcases xC.form with⟨h1,_,_⟩|⟨g1,h1,h2,h3,h4⟩
  ·rw[h1]at hb;simp at hb
  ·rw[h1]at hb;simp at hb;subst hb;exact⟨h2,h3⟩
 have NG:Hid (some g≠A.map (·.block)):=wP fun e=>by have:=xG g e.symm;omega
 have NW:Hid (some w.heap.size≠A.map (·.block)):=wP fun e=>by have:=xG _ e.symm;omega
 have zR:=wP xG;clear xG;have HO:=wP xC;clear xC;go_enter func150,ntmps150;go_wp2;go_region_law (first
   |((refine nT (by rfl) (.tmp 15) (.tmp 20) (by rfl) base A cap l (by rfl) ((((HO.o.alloc _).drew).below xu s_).alloc _) (Rg.part r f t) w1.heap.size 1 (by rfl) (heap_alloc_new _ _) xD t_ ?_;intro g' xq w2 zD yE yn AL;have x2:=yE.cell_far ⟨g,0,none⟩ t_ NG.o;have y2:=yE.frozen_far ⟨g,0,none⟩ t_ NG.o))
   |(go_simp;go_at_call 151;refine(rj r f t _).mono ?_;rintro e w1⟨rfl,xu⟩;(have xQ:=xu.size;simp at xQ);have x0:=xu.cell (p:=⟨g,0,none⟩) t_;have y0:=xu.frozen (p:=⟨g,0,none⟩) t_;have lt1:g<w1.heap.size:=o_))
 all_goals
  go_wp2;go_end0;have xB:=sD xV HO.o Fm AO xu zD yE yn (.slice (some ⟨g',0,none⟩) (l.length+1) xq);exact⟨rfl,g',xq,xB⟩
theorem putc_no (r:Reg)(f t:Int)(ok:Bool)(g:Nat)(w:World)(yS:ok=false\/t<=f):
  Calls prog 150 #[.agg #[.int .u64 (r).fr,.int .u64 (r).to,.int .u8 (r).prot,.int .i64 (r).ino,.int .u64 (r).off],.int .u64 f,.int .u64 t,.bool ok,.pointer (some ⟨g,0,none⟩)] w
   fun e w'=>e= .returned (.tuple #[])/\Below w.heap.size w w':=by
 cases ok with
 |false=>
  go_enter func150,ntmps150;go_wp2;go_end0;exact⟨rfl,by exact wQ⟩
 |true=>
  have hft':t<=f:=(by simpa using yS);clear yS;go_enter func150,ntmps150;go_wp2;go_end0;exact⟨rfl,by exact wQ⟩
theorem uC (r:Reg)(w:World):Calls prog 100 #[.agg #[.int .u64 (r).fr,.int .u64 (r).to,.int .u8 (r).prot,.int .i64 (r).ino,.int .u64 (r).off]] w
  fun e w'=>e= .returned (.tuple #[.agg #[.int .u64 (aL).fr,.int .u64 (aL).to,.int .u8 (aL).prot,.int .i64 (aL).ino,.int .u64 (aL).off],.bool false])/\Below w.heap.size w w':=by
 go_enter func100,ntmps100;go_wp2;refine bodyPost_ret (v:= .tuple #[.agg #[.int .u64 (aL).fr,.int .u64 (aL).to,.int .u8 (aL).prot,.int .i64 (aL).ino,.int .u64 (aL).off],.bool false]) (by simp[results,results100,go_sem,aL]) rfl ⟨rfl,by exact wQ⟩
theorem prot_any (r:Reg)(p:Int)(g:Nat)(w:World)(hp:w.cell? ⟨g,0,none⟩=some (.int .u8 p))(hg:g<w.heap.size):
  Calls prog 115 #[.agg #[.int .u64 (r).fr,.int .u64 (r).to,.int .u8 (r).prot,.int .i64 (r).ino,.int .u64 (r).off],.pointer (some ⟨g,0,none⟩)] w
  fun e w'=>e= .returned (.tuple #[.agg #[.int .u64 ((⟨r.fr,r.to,p,r.ino,r.off⟩:Reg)).fr,.int .u64 ((⟨r.fr,r.to,p,r.ino,r.off⟩:Reg)).to,.int .u8 ((⟨r.fr,r.to,p,r.ino,r.off⟩:Reg)).prot,.int .i64 ((⟨r.fr,r.to,p,r.ino,r.off⟩:Reg)).ino,.int .u64 ((⟨r.fr,r.to,p,r.ino,r.off⟩:Reg)).off],.bool true])/\Below w.heap.size w w':=by
 go_enter func115,ntmps115;go_wp2;refine bodyPost_ret (v:= .tuple #[.agg #[.int .u64 ((⟨r.fr,r.to,p,r.ino,r.off⟩:Reg)).fr,.int .u64 ((⟨r.fr,r.to,p,r.ino,r.off⟩:Reg)).to,.int .u8 ((⟨r.fr,r.to,p,r.ino,r.off⟩:Reg)).prot,.int .i64 ((⟨r.fr,r.to,p,r.ino,r.off⟩:Reg)).ino,.int .u64 ((⟨r.fr,r.to,p,r.ino,r.off⟩:Reg)).off],.bool true]) (by simp[results,results115,go_sem]) rfl ⟨rfl,by exact wQ⟩
end
section
open Go.RowKit Go.Sort
def Rg.pc (r:Reg)(f t:Int)(ok:Bool):List Reg:=if ok=true/\f<t then [Rg.part r f t]else []
variable {w w':World}
theorem But2.of_below (h:Below w.heap.size w w')(g:Nat)(row:Option Nat):But2 w w' g row:=⟨h.os,h.tape,h.output,h.size,fun k hk _ _ =>h.block k hk⟩
variable {b:Nat}
theorem But2.blk {g:Nat}{row:Option Nat}(h:But2 w w' g row){o:Obj}(hb:w.heap[b]? =some o)(h1:b≠g)(h2:some b≠row):w'.heap[b]? =some o:=
 (h.block b (wO hb).1 h1 h2).trans hb
variable {A:Option Addr}{cap:Nat}{l:List Reg}
theorem OwnR.row {base:Nat}(h:OwnR w base A cap l): ∀b,A.map (·.block)=some b->base<=b/\b<w.heap.size:=fun b hb=>by
 rcases h.form with⟨h1,_,_⟩|⟨g1,h1,h2,h3,h4⟩
 ·rw[h1]at hb;simp at hb
 ·rw[h1]at hb;simp at hb;subst hb;exact⟨h2,h3⟩
def wE (r:Reg)(f t:Int)(ok:Bool)(g base:Nat)(A:Option Addr)(l:List Reg)(w:World)(e:Ending)(w':World):Prop:=
 e= .returned (.tuple #[])/\ ∃A' xq,w'.heap[g]? =some (.cells #[.slice A' (l++Rg.pc r f t ok).length xq] 59 (0,0))/\OwnR w' base A' xq (l++Rg.pc r f t ok)/\But2 w w' g (A.map (·.block))/\(∀b,A'.map (·.block)=some b->A.map (·.block)=some b\/w.heap.size<=b)
theorem fX (r:Reg)(f t:Int)(ok:Bool)(g base:Nat)(A:Option Addr)(cap:Nat)(l:List Reg)(w:World)
  (xV:w.heap[g]? =some (.cells #[.slice A l.length cap] 59 (0,0)))(xC:OwnR w base A cap l)(Fm:g<base)(AO:base<=w.heap.size)(xD:l.length<1000000):
  Calls prog 150 #[.agg #[.int .u64 (r).fr,.int .u64 (r).to,.int .u8 (r).prot,.int .i64 (r).ino,.int .u64 (r).off],.int .u64 f,.int .u64 t,.bool ok,.pointer (some ⟨g,0,none⟩)] w (wE r f t ok g base A l w):=by
 by_cases h:ok=true/\f<t
 ·obtain⟨rfl,yS⟩:=h;refine(putc_yes r f t g base A cap l w xV xC Fm AO xD yS).mono ?_;rintro e w'⟨rfl,g',xq,h1,h2,h3,h4⟩;refine⟨rfl,some ⟨g',0,none⟩,xq,?_,?_,h3,fun b hb=>by simp at hb;subst hb;exact h4⟩
  ·simpa [Rg.pc,yS]using h1
  ·simpa [Rg.pc,yS]using h2
 ·refine(putc_no r f t ok g w (by cases ok<;>simp_all)).mono ?_;rintro e w'⟨rfl,hb⟩;have hp:Rg.pc r f t ok=[]:=(by simp only[Rg.pc,if_neg h]);refine⟨rfl,A,cap,?_,?_,But2.of_below hb _ _,fun b hb=> .inl hb⟩
  ·rw[hp,List.append_nil,hb.block g o_];exact xV
  ·rw[hp,List.append_nil];exact xC.below hb (wS _)
structure dQ (w:World)(W0 wr:World)(A:Option Addr)(cap:Nat)(l:List Reg):Prop where
 below:Below (w.heap.size+1) W0 wr
 cell:wr.heap[w.heap.size+1]? =some (.cells #[.slice A l.length cap] 59 (0,0))
 own:OwnR wr (w.heap.size+2) A cap l
 size:w.heap.size+2<=wr.heap.size
variable {W0 wr:World}
theorem dQ.alloc (h:dQ w W0 wr A cap l)(o:Obj):dQ w W0 (wr.alloc o) A cap l:=
 ⟨h.below.alloc (by have:=h.size;omega) o,(wT _ _ _ (by have:=h.size;omega)).trans h.cell,h.own.alloc o,by have:=h.size;simp;omega⟩
theorem dQ.next (h:dQ w W0 wr A cap l)(hb:Below wr.heap.size wr w'):dQ w W0 w' A cap l:=
 ⟨h.below.trans (hb.mono (by have:=h.size;omega)),(hb.block _ (by have:=h.size;omega)).trans h.cell,h.own.below hb (wS _),by have:=h.size;have:=hb.size;omega⟩
variable {r:Reg}{f t:Int}
theorem dQ.put (h:dQ w W0 wr A cap l){ok:Bool}{e:Ending}
  (hp:wE r f t ok (w.heap.size+1) (w.heap.size+2) A l wr e w'):e= .returned (.tuple #[])/\ ∃A' xq,dQ w W0 w' A' xq (l++Rg.pc r f t ok)/\wr.heap.size<=w'.heap.size/\(∀b,A'.map (·.block)=some b->A.map (·.block)=some b\/wr.heap.size<=b)/\
   (∀b o,wr.heap[b]? =some o->b≠w.heap.size+1->some b≠A.map (·.block)->w'.heap[b]? =some o):=by
 obtain⟨he,A',xq,h1,h2,h3,h9⟩:=hp;refine⟨he,A',xq,⟨h.below.trans ⟨h3.os,h3.tape,h3.output,h3.size,fun k hk=>h3.block k (by have:=h.size;omega) o_ (fun e=>?_)⟩,h1,h2,by have:=h.size;have:=h3.size;omega⟩,h3.size,h9,fun b o hb h4 h5=>h3.blk hb h4 h5⟩;have:=h.own.row k e.symm;omega
def Rg.run1 (f t:Int)(h:Reg->Reg×Bool)(r:Reg):List Reg:=Rg.pc r r.fr (min r.to f) true++(Rg.pc (h r).1 (max r.fr f) (min r.to t) (h r).2++Rg.pc r (max r.fr t) r.to true)
def Rg.run (f t:Int)(h:Reg->Reg×Bool)(l:List Reg):List Reg:=l.flatMap (Rg.run1 f t h)
theorem qU {h:Reg->Reg×Bool}{k:Nat}(hr:l[k]? =some r):Rg.run f t h (l.take (k+1))=Rg.run f t h (l.take k)++Rg.run1 f t h r:=by
 rw[List.take_add_one,hr];simp[Rg.run]
theorem kE (r:Reg)(f t:Int)(ok:Bool):(Rg.pc r f t ok).length<=1:=by unfold Rg.pc;split<;>simp
theorem mw (f t:Int)(h:Reg->Reg×Bool)(l:List Reg):(Rg.run f t h l).length<=3*l.length:=by
 induction l with
 |nil=>simp[Rg.run]
 |cons r l ih=>
  have h1:=kE r r.fr (min r.to f) true;have h2:=kE (h r).1 (max r.fr f) (min r.to t) (h r).2;have h3:=kE r (max r.fr t) r.to true;simp only[Rg.run,xo,wU,Rg.run1,xd]at *
  omega
def bW (r:Reg):Reg×Bool:=(aL,false)
def aJ (p:Int)(r:Reg):Reg×Bool:=(⟨r.fr,r.to,p,r.ino,r.off⟩,true)
theorem ag {cs:Array Value}{t:TypeId}(h:w.heap[b]? =some (.cells cs t (0,0)))(j:Nat):w.cell? ⟨b,j,none⟩=cs[j]? :=cell_of_row w b j cs t (0,0) h
theorem jr (f t:Int)(A:Option Addr)(n cap:Nat)(w:World)(l:List Reg)(hl:RSl w w.heap.size A n cap l)(hf:n<=300):
  Calls prog 101 #[.agg #[.int .u64 f,.int .u64 t,.func (.func 100) #[] #[]],.slice A n cap] w
   fun e w'=> ∃A' xq,e= .returned (.slice A' (Rg.run f t bW l).length xq)/\OwnR w' w.heap.size A' xq (Rg.run f t bW l)/\Below w.heap.size w w':=by
 have An:=wP hl.len;go_enter func101,ntmps101;go_wp2;generalize FV:(w.alloc (.cells #[.int .u64 f,.int .u64 t,.func (.func 100) #[] #[]] 184)).alloc (.cells #[.slice none 0 0] 59)=W0;have HW:=wP FV;have Iy:dQ w W0 W0 none 0 (Rg.run f t bW (l.take 0)):=by
  subst FV;exact⟨xp _ _,by have:=heap_alloc_new (w.alloc (.cells #[.int .u64 f,.int .u64 t,.func (.func 100) #[] #[]] 184)) (.cells #[.slice none 0 0] 59);simpa [Rg.run]using this,by simpa [Rg.run]using OwnR.nil _ _,s_⟩
 have xO:W0.heap[w.heap.size]? =some (.cells #[.int .u64 f,.int .u64 t,.func (.func 100) #[] #[]] 184 (0,0)):=by
  subst FV;rw[wT _ _ _ s_];exact heap_alloc_new w _
 have xz:Below w.heap.size w W0:=by
  subst FV
  exact wQ
 clear FV;go_loopw [13] (fun i wr=> ∃k:Nat,k<=n/\i= .int .i64 k/\ ∃A cap,dQ w W0 wr A cap (Rg.run f t bW (l.take k))) (fun i _ =>n-(intOf i).toNat)
 case atStart=>exact⟨0,xm _,rfl,none,0,Iy⟩
 case round=>
  obtain⟨k,hk,rfl,A1,c1,hI⟩:=hrel;have hB:=xz.trans (hI.below.mono o_);have CK:=hI.size;have xT:w.heap.size<wr.heap.size:=o_;have xQ:w.heap.size+1<wr.heap.size:=o_;have Iz:=(hI.below.block _ o_).trans xO;have s0:wr.cell? ⟨w.heap.size,0,none⟩=some (.int .u64 f):=ag Iz 0;have s1:wr.cell? ⟨w.heap.size,1,none⟩=some (.int .u64 t):=ag Iz 1;have s2:wr.cell? ⟨w.heap.size,2,none⟩=some (.func (.func 100) #[] #[]):=ag Iz 2;by_cases xw:k<n
  ·obtain⟨r,hr⟩: ∃r,l[k]? =some r:=⟨_,wV (by have:=An.o;omega)⟩;obtain⟨b,off,rfl,hb,yI⟩:=hl.at_ k r hr;obtain⟨h0,h1,h2,h3,h4⟩:=yI.below hB hb;have HR:=wP hr;have hlen:=mw f t bW (l.take k);have Bd:(l.take k).length<=300:=(by rw[List.length_take];omega);generalize hL:Rg.run f t bW (l.take k)=L at *
   have HL:=wP hL;clear hr yI hL;go_wp2_with fail;have MT:=hI.alloc (.cells #[.int .u64 r.fr,.int .u64 r.to,.int .u8 r.prot,.int .i64 r.ino,.int .u64 r.off] 45);have AW:=hI.own.row;have MJ:=heap_alloc_new wr (.cells #[.int .u64 r.fr,.int .u64 r.to,.int .u8 r.prot,.int .i64 r.ino,.int .u64 r.off] 45);have LF:=(wT wr (.cells #[.int .u64 r.fr,.int .u64 r.to,.int .u8 r.prot,.int .i64 r.ino,.int .u64 r.off] 45) _ xT).trans Iz;refine(fX r _ _ true (w.heap.size+1) (w.heap.size+2) A1 c1 L _ MT.cell MT.own o_ MT.size o_).mono ?_;intro e w1 hp1;obtain⟨rfl,A2,c2,ZK,Rr,yH,BR⟩:=MT.put hp1;have BW:=BR _ _ MJ o_ (fun e=>by have:=AW _ e.symm;omega);have DQ:=BR _ _ LF o_ (fun e=>by have:=AW _ e.symm;omega);have FY:=kE r r.fr (min r.to f) true;have RA:some wr.heap.size≠A2.map (·.block):=fun e=>by
    rcases yH _ e.symm with h|h
    ·have:=AW _ h;omega
    ·simp at h;omega
   have LB:wr.heap.size<w1.heap.size:=(by simp at Rr;omega);clear yH MT hp1 BR MJ LF s0 s1 s2 h0 h1 h2 h3 h4 Iz;have s0:w1.cell? ⟨w.heap.size,0,none⟩=some (.int .u64 f):=ag DQ 0;have s1:w1.cell? ⟨w.heap.size,1,none⟩=some (.int .u64 t):=ag DQ 1;have s2:w1.cell? ⟨w.heap.size,2,none⟩=some (.func (.func 100) #[] #[]):=ag DQ 2;have b0:w1.cell? ⟨wr.heap.size,0,none⟩=some (.int .u64 r.fr):=ag BW 0;have b1:w1.cell? ⟨wr.heap.size,1,none⟩=some (.int .u64 r.to):=ag BW 1;have b2:w1.cell? ⟨wr.heap.size,2,none⟩=some (.int .u8 r.prot):=ag BW 2;have b3:w1.cell? ⟨wr.heap.size,3,none⟩=some (.int .i64 r.ino):=ag BW 3;have b4:w1.cell? ⟨wr.heap.size,4,none⟩=some (.int .u64 r.off):=ag BW 4;go_wp2_with fail;refine(uC r w1).mono ?_;rintro e w2⟨rfl,xx⟩;have Xt:=ZK.next xx;have IY:=(xx.block _ LB).trans BW;have CI:=(xx.block _ o_).trans DQ;have hsz2:=xx.size;clear s0 s1 s2 b0 b1 b2 b3 b4 BW DQ;have s0:w2.cell? ⟨w.heap.size,0,none⟩=some (.int .u64 f):=ag CI 0;have s1:w2.cell? ⟨w.heap.size,1,none⟩=some (.int .u64 t):=ag CI 1;have b0:w2.cell? ⟨wr.heap.size,0,none⟩=some (.int .u64 r.fr):=ag IY 0;have b1:w2.cell? ⟨wr.heap.size,1,none⟩=some (.int .u64 r.to):=ag IY 1;have xX:w.heap.size<w2.heap.size:=o_;have zy:wr.heap.size<w2.heap.size:=o_;go_wp2_with fail;have MS:=Xt.alloc (.cells #[.int .u64 (bW r).1.fr,.int .u64 (bW r).1.to,.int .u8 (bW r).1.prot,.int .i64 (bW r).1.ino,.int .u64 (bW r).1.off] 45);have zk:=Xt.own.row;have MI:=(wT w2 (.cells #[.int .u64 (bW r).1.fr,.int .u64 (bW r).1.to,.int .u8 (bW r).1.prot,.int .i64 (bW r).1.ino,.int .u64 (bW r).1.off] 45) _ zy).trans IY;have LD:=(wT w2 (.cells #[.int .u64 (bW r).1.fr,.int .u64 (bW r).1.to,.int .u8 (bW r).1.prot,.int .i64 (bW r).1.ino,.int .u64 (bW r).1.off] 45) _ xX).trans CI;have hnr:some wr.heap.size≠A2.map (·.block):=RA;refine(fX (bW r).1 _ _ (bW r).2 (w.heap.size+1) (w.heap.size+2) A2 c2 _ _ MS.cell MS.own o_ MS.size t_).mono ?_;intro e w3 hp2;obtain⟨rfl,A3,c3,OV,Rq,OR,BQ⟩:=MS.put hp2;have Ef:=BQ _ _ MI o_ hnr;have Rs:=BQ _ _ LD o_ (fun e=>by have:=zk _ e.symm;omega);have Lk:=kE (bW r).1 (max r.fr f) (min r.to t) (bW r).2;have Va:wr.heap.size<w3.heap.size:=(by simp at Rq;omega);clear OR MS hp2 BQ MI LD s0 s1 b0 b1;have s1:w3.cell? ⟨w.heap.size,1,none⟩=some (.int .u64 t):=ag Rs 1;have b0:w3.cell? ⟨wr.heap.size,0,none⟩=some (.int .u64 r.fr):=ag Ef 0;have b1:w3.cell? ⟨wr.heap.size,1,none⟩=some (.int .u64 r.to):=ag Ef 1;have b2:w3.cell? ⟨wr.heap.size,2,none⟩=some (.int .u8 r.prot):=ag Ef 2;have b3:w3.cell? ⟨wr.heap.size,3,none⟩=some (.int .i64 r.ino):=ag Ef 3;have b4:w3.cell? ⟨wr.heap.size,4,none⟩=some (.int .u64 r.off):=ag Ef 4;go_wp2_with fail;refine(fX r _ _ true (w.heap.size+1) (w.heap.size+2) A3 c3 _ _ OV.cell OV.own o_ OV.size t_).mono ?_;intro e w4 hp3;obtain⟨rfl,A4,c4,Xs,hsz4,_,_⟩:=OV.put hp3;have xB:dQ w W0 w4 A4 c4 (Rg.run f t bW (l.take (k+1))):=by
    rw[qU HR.o,HL.o];simpa [Rg.run1,List.append_assoc]using Xs
   clear Xs hp3 s1 b0 b1 b2 b3 b4;go_wp2_with fail;go_roundw
   case rel=>exact⟨k+1,o_,by go_num,A4,c4,xB⟩
   case measure=>simp[intOf];omega
  ·have xV:=ag hI.cell 0;have zM:wr.frozen? ⟨w.heap.size+1,0,none⟩=false:=(by simp[World.frozen?,hI.cell]);have ht:l.take k=l:=List.take_of_length_le (by have:=An.o;omega);obtain⟨HI,HT⟩:=zh2 hI ht;clear hI ht;have OK:wr.cell? ⟨w.heap.size+1,0,none⟩=some (.slice A1 (Rg.run f t bW (l.take k)).length c1):=xV;clear xV;generalize hL:(Rg.run f t bW (l.take k))=L at *
   have HL:=wP hL;clear hL;go_wp2;refine bodyPost_ret (v:= .slice A1 L.length c1) (by simp[results,results101,go_sem,OK,zM,xQ]) rfl ?_;have hI:=HI.o;have hL:=HL.o;rw[HT.o]at hL;subst hL;refine⟨A1,c1,rfl,?_,?_⟩
   ·refine OwnR.lower (OwnR.kept hI.own (row:=some (w.heap.size+1)) ⟨rfl,rfl,rfl,by simp[World.setCell],fun k _ hk=>wX _ _ _ _ (fun e=>hk (by rw[e]))⟩ (.inr fun e=>?_)) o_;have:=hI.own.row _ e;omega
   ·exact wQ
theorem oa (p:Int)(gp:Nat)(f t:Int)(A:Option Addr)(n cap:Nat)(w:World)(l:List Reg)(hl:RSl w w.heap.size A n cap l)(hf:n<=300)(hp:w.cell? ⟨gp,0,none⟩=some (.int .u8 p))(RV:gp<w.heap.size):
  Calls prog 101 #[.agg #[.int .u64 f,.int .u64 t,.func (.func 115) #[] #[.pointer (some ⟨gp,0,none⟩)]],.slice A n cap] w
   fun e w'=> ∃A' xq,e= .returned (.slice A' (Rg.run f t (aJ p) l).length xq)/\OwnR w' w.heap.size A' xq (Rg.run f t (aJ p) l)/\Below w.heap.size w w':=by
 have An:=wP hl.len;go_enter func101,ntmps101;go_wp2;generalize FV:(w.alloc (.cells #[.int .u64 f,.int .u64 t,.func (.func 115) #[] #[.pointer (some ⟨gp,0,none⟩)]] 184)).alloc (.cells #[.slice none 0 0] 59)=W0;have HW:=wP FV;have Iy:dQ w W0 W0 none 0 (Rg.run f t (aJ p) (l.take 0)):=by
  subst FV;exact⟨xp _ _,by have:=heap_alloc_new (w.alloc (.cells #[.int .u64 f,.int .u64 t,.func (.func 115) #[] #[.pointer (some ⟨gp,0,none⟩)]] 184)) (.cells #[.slice none 0 0] 59);simpa [Rg.run]using this,by simpa [Rg.run]using OwnR.nil _ _,s_⟩
 have xO:W0.heap[w.heap.size]? =some (.cells #[.int .u64 f,.int .u64 t,.func (.func 115) #[] #[.pointer (some ⟨gp,0,none⟩)]] 184 (0,0)):=by
  subst FV;rw[wT _ _ _ s_];exact heap_alloc_new w _
 have xz:Below w.heap.size w W0:=by
  subst FV
  exact wQ
 clear FV;go_loopw [13] (fun i wr=> ∃k:Nat,k<=n/\i= .int .i64 k/\ ∃A cap,dQ w W0 wr A cap (Rg.run f t (aJ p) (l.take k))) (fun i _ =>n-(intOf i).toNat)
 case atStart=>exact⟨0,xm _,rfl,none,0,Iy⟩
 case round=>
  obtain⟨k,hk,rfl,A1,c1,hI⟩:=hrel;have hB:=xz.trans (hI.below.mono o_);have CK:=hI.size;have xT:w.heap.size<wr.heap.size:=o_;have xQ:w.heap.size+1<wr.heap.size:=o_;have Iz:=(hI.below.block _ o_).trans xO;have s0:wr.cell? ⟨w.heap.size,0,none⟩=some (.int .u64 f):=ag Iz 0;have s1:wr.cell? ⟨w.heap.size,1,none⟩=some (.int .u64 t):=ag Iz 1;have s2:wr.cell? ⟨w.heap.size,2,none⟩=some (.func (.func 115) #[] #[.pointer (some ⟨gp,0,none⟩)]):=ag Iz 2;by_cases xw:k<n
  ·obtain⟨r,hr⟩: ∃r,l[k]? =some r:=⟨_,wV (by have:=An.o;omega)⟩;obtain⟨b,off,rfl,hb,yI⟩:=hl.at_ k r hr;obtain⟨h0,h1,h2,h3,h4⟩:=yI.below hB hb;have HR:=wP hr;have hlen:=mw f t (aJ p) (l.take k);have Bd:(l.take k).length<=300:=(by rw[List.length_take];omega);generalize hL:Rg.run f t (aJ p) (l.take k)=L at *
   have HL:=wP hL;clear hr yI hL;go_wp2_with fail;have MT:=hI.alloc (.cells #[.int .u64 r.fr,.int .u64 r.to,.int .u8 r.prot,.int .i64 r.ino,.int .u64 r.off] 45);have AW:=hI.own.row;have MJ:=heap_alloc_new wr (.cells #[.int .u64 r.fr,.int .u64 r.to,.int .u8 r.prot,.int .i64 r.ino,.int .u64 r.off] 45);have LF:=(wT wr (.cells #[.int .u64 r.fr,.int .u64 r.to,.int .u8 r.prot,.int .i64 r.ino,.int .u64 r.off] 45) _ xT).trans Iz;refine(fX r _ _ true (w.heap.size+1) (w.heap.size+2) A1 c1 L _ MT.cell MT.own o_ MT.size o_).mono ?_;intro e w1 hp1;obtain⟨rfl,A2,c2,ZK,Rr,yH,BR⟩:=MT.put hp1;have BW:=BR _ _ MJ o_ (fun e=>by have:=AW _ e.symm;omega);have DQ:=BR _ _ LF o_ (fun e=>by have:=AW _ e.symm;omega);have FY:=kE r r.fr (min r.to f) true;have RA:some wr.heap.size≠A2.map (·.block):=fun e=>by
    rcases yH _ e.symm with h|h
    ·have:=AW _ h;omega
    ·simp at h;omega
   have LB:wr.heap.size<w1.heap.size:=(by simp at Rr;omega);clear yH MT hp1 BR MJ LF s0 s1 s2 h0 h1 h2 h3 h4 Iz;have s0:w1.cell? ⟨w.heap.size,0,none⟩=some (.int .u64 f):=ag DQ 0;have s1:w1.cell? ⟨w.heap.size,1,none⟩=some (.int .u64 t):=ag DQ 1;have s2:w1.cell? ⟨w.heap.size,2,none⟩=some (.func (.func 115) #[] #[.pointer (some ⟨gp,0,none⟩)]):=ag DQ 2;have b0:w1.cell? ⟨wr.heap.size,0,none⟩=some (.int .u64 r.fr):=ag BW 0;have b1:w1.cell? ⟨wr.heap.size,1,none⟩=some (.int .u64 r.to):=ag BW 1;have b2:w1.cell? ⟨wr.heap.size,2,none⟩=some (.int .u8 r.prot):=ag BW 2;have b3:w1.cell? ⟨wr.heap.size,3,none⟩=some (.int .i64 r.ino):=ag BW 3;have b4:w1.cell? ⟨wr.heap.size,4,none⟩=some (.int .u64 r.off):=ag BW 4;go_wp2_with fail;refine(prot_any r p gp w1 (((xz.trans (ZK.below.mono o_)).cell (p:=⟨gp,0,none⟩) RV).trans hp) o_).mono ?_;rintro e w2⟨rfl,xx⟩;have Xt:=ZK.next xx;have IY:=(xx.block _ LB).trans BW;have CI:=(xx.block _ o_).trans DQ;have hsz2:=xx.size;clear s0 s1 s2 b0 b1 b2 b3 b4 BW DQ;have s0:w2.cell? ⟨w.heap.size,0,none⟩=some (.int .u64 f):=ag CI 0;have s1:w2.cell? ⟨w.heap.size,1,none⟩=some (.int .u64 t):=ag CI 1;have b0:w2.cell? ⟨wr.heap.size,0,none⟩=some (.int .u64 r.fr):=ag IY 0;have b1:w2.cell? ⟨wr.heap.size,1,none⟩=some (.int .u64 r.to):=ag IY 1;have xX:w.heap.size<w2.heap.size:=o_;have zy:wr.heap.size<w2.heap.size:=o_;go_wp2_with fail;have MS:=Xt.alloc (.cells #[.int .u64 ((aJ p) r).1.fr,.int .u64 ((aJ p) r).1.to,.int .u8 ((aJ p) r).1.prot,.int .i64 ((aJ p) r).1.ino,.int .u64 ((aJ p) r).1.off] 45);have zk:=Xt.own.row;have MI:=(wT w2 (.cells #[.int .u64 ((aJ p) r).1.fr,.int .u64 ((aJ p) r).1.to,.int .u8 ((aJ p) r).1.prot,.int .i64 ((aJ p) r).1.ino,.int .u64 ((aJ p) r).1.off] 45) _ zy).trans IY;have LD:=(wT w2 (.cells #[.int .u64 ((aJ p) r).1.fr,.int .u64 ((aJ p) r).1.to,.int .u8 ((aJ p) r).1.prot,.int .i64 ((aJ p) r).1.ino,.int .u64 ((aJ p) r).1.off] 45) _ xX).trans CI;have hnr:some wr.heap.size≠A2.map (·.block):=RA;refine(fX ((aJ p) r).1 _ _ ((aJ p) r).2 (w.heap.size+1) (w.heap.size+2) A2 c2 _ _ MS.cell MS.own o_ MS.size t_).mono ?_;intro e w3 hp2;obtain⟨rfl,A3,c3,OV,Rq,OR,BQ⟩:=MS.put hp2;have Ef:=BQ _ _ MI o_ hnr;have Rs:=BQ _ _ LD o_ (fun e=>by have:=zk _ e.symm;omega);have Lk:=kE ((aJ p) r).1 (max r.fr f) (min r.to t) ((aJ p) r).2;have Va:wr.heap.size<w3.heap.size:=(by simp at Rq;omega);clear OR MS hp2 BQ MI LD s0 s1 b0 b1;have s1:w3.cell? ⟨w.heap.size,1,none⟩=some (.int .u64 t):=ag Rs 1;have b0:w3.cell? ⟨wr.heap.size,0,none⟩=some (.int .u64 r.fr):=ag Ef 0;have b1:w3.cell? ⟨wr.heap.size,1,none⟩=some (.int .u64 r.to):=ag Ef 1;have b2:w3.cell? ⟨wr.heap.size,2,none⟩=some (.int .u8 r.prot):=ag Ef 2;have b3:w3.cell? ⟨wr.heap.size,3,none⟩=some (.int .i64 r.ino):=ag Ef 3;have b4:w3.cell? ⟨wr.heap.size,4,none⟩=some (.int .u64 r.off):=ag Ef 4;go_wp2_with fail;refine(fX r _ _ true (w.heap.size+1) (w.heap.size+2) A3 c3 _ _ OV.cell OV.own o_ OV.size t_).mono ?_;intro e w4 hp3;obtain⟨rfl,A4,c4,Xs,hsz4,_,_⟩:=OV.put hp3;have xB:dQ w W0 w4 A4 c4 (Rg.run f t (aJ p) (l.take (k+1))):=by
    rw[qU HR.o,HL.o];simpa [Rg.run1,List.append_assoc]using Xs
   clear Xs hp3 s1 b0 b1 b2 b3 b4;go_wp2_with fail;go_roundw
   case rel=>exact⟨k+1,o_,by go_num,A4,c4,xB⟩
   case measure=>simp[intOf];omega
  ·have xV:=ag hI.cell 0;have zM:wr.frozen? ⟨w.heap.size+1,0,none⟩=false:=(by simp[World.frozen?,hI.cell]);have ht:l.take k=l:=List.take_of_length_le (by have:=An.o;omega);obtain⟨HI,HT⟩:=zh2 hI ht;clear hI ht;have OK:wr.cell? ⟨w.heap.size+1,0,none⟩=some (.slice A1 (Rg.run f t (aJ p) (l.take k)).length c1):=xV;clear xV;generalize hL:(Rg.run f t (aJ p) (l.take k))=L at *
   have HL:=wP hL;clear hL;go_wp2;refine bodyPost_ret (v:= .slice A1 L.length c1) (by simp[results,results101,go_sem,OK,zM,xQ]) rfl ?_;have hI:=HI.o;have hL:=HL.o;rw[HT.o]at hL;subst hL;refine⟨A1,c1,rfl,?_,?_⟩
   ·refine OwnR.lower (OwnR.kept hI.own (row:=some (w.heap.size+1)) ⟨rfl,rfl,rfl,by simp[World.setCell],fun k _ hk=>wX _ _ _ _ (fun e=>hk (by rw[e]))⟩ (.inr fun e=>?_)) o_;have:=hI.own.row _ e;omega
   ·exact wQ
end
section
open Go.RowKit Go.Sort
def Rg.push (acc:List Reg)(r:Reg):List Reg:=match acc.getLast? with
 |none=>acc++[r]
 |some p=>if Rg.joins p r=true then acc.set (acc.length-1) ⟨p.fr,r.to,p.prot,p.ino,p.off⟩else acc++[r]
def Rg.joined (l:List Reg):List Reg:=l.foldl Rg.push []
def Rg.few (l:List Reg):List Reg×Int:=if 64<l.length then([],15)else(l,0)
variable {l:List Reg}{r:Reg}
theorem kQ {k:Nat}(hr:l[k]? =some r):Rg.joined (l.take (k+1))=Rg.push (Rg.joined (l.take k)) r:=by
 rw[List.take_add_one,hr];simp[Rg.joined,List.foldl_append]
theorem push_len (acc:List Reg)(r:Reg):(Rg.push acc r).length<=acc.length+1:=by
 unfold Rg.push;split
 ·simp
 ·split<;>simp
theorem gn (l:List Reg):(Rg.joined l).length<=l.length:=by
 have h: ∀(l acc:List Reg),(l.foldl Rg.push acc).length<=acc.length+l.length:=by
  intro l
  induction l with
  |nil=>intro acc;simp
  |cons r l ih=>
   intro acc;have h1:=ih (Rg.push acc r);have h2:=push_len acc r;simp only[List.foldl_cons,xd];omega
 have:=h l [];simpa [Rg.joined]using this
theorem push_nil (r:Reg):Rg.push [] r=[r]:=rfl
variable {acc:List Reg}{j:Nat}{p:Reg}
theorem rg (hm:acc.length=j+1)(hp:acc[j]? =some p)(hj:Rg.joins p r=true):Rg.push acc r=acc.set j ⟨p.fr,r.to,p.prot,p.ino,p.off⟩:=by
 unfold Rg.push;have:acc.getLast? =some p:=(by rw[List.getLast?_eq_getElem?,hm];exact hp);rw[this];simp[hj,hm]
theorem uL (hm:acc.length=j+1)(hp:acc[j]? =some p)(hj:Rg.joins p r=false):Rg.push acc r=acc++[r]:=by
 unfold Rg.push;have:acc.getLast? =some p:=(by rw[List.getLast?_eq_getElem?,hm];exact hp);rw[this];simp[hj]
theorem sA (hp:l[j]? =some p)(t:Int):(rcs l).set (j*5+1) (.int .u64 t)=rcs (l.set j ⟨p.fr,t,p.prot,p.ino,p.off⟩):=by
 induction l generalizing j with
 |nil=>simp at hp
 |cons x l ih=>
  cases j with
  |zero=>
   simp at hp;subst hp;simp[rcs,rc]
  |succ j=>
   simp at hp;have e:=ih hp;have e0:(j+1)*5=j*5+1+1+1+1+1:=o_;simp only[rcs,rc,List.cons_append,List.nil_append,List.set_cons_succ]at e⊢;rw[e0];simp only[List.set_cons_succ];rw[<-e]
variable {w:World}{base g cap:Nat}
theorem OwnR.setTo (h:OwnR w base (some ⟨g,0,none⟩) cap l)(hp:l[j]? =some p)(t:Int):
  OwnR (w.setCell ⟨g,j*5+1,none⟩ (.int .u64 t)) base (some ⟨g,0,none⟩) cap (l.set j ⟨p.fr,t,p.prot,p.ino,p.off⟩):=by
 unfold OwnR at *
 rw[List.length_set,<-sA hp t];exact(h.stored (j*5+1) _).1
theorem OwnR.elem (h:OwnR w base (some ⟨g,0,none⟩) cap l)(hp:l[j]? =some p):lu w g (j*5) p:=by
 have hk:j<l.length:=(List.getElem?_eq_some_iff.1 hp).1;have e: ∀i,i<5->w.cell? ⟨g,j*5+i,none⟩=(rc p)[i]? :=fun i hi=>by
  rw[World.ownsRow.cellAt h (j*5+i) o_,pN hp i hi]
 exact⟨e 0 o_,e 1 o_,e 2 o_,e 3 o_,e 4 o_⟩
theorem aQ {X w2:World}{A:Option Addr}(hb:Below base w X)(xC:OwnR X base A cap l)(hg:X.grownBy w2 (A.map (·.block)))(xH:base<=X.heap.size):Below base w w2:=
 hb.grown hg xH fun k hk=>(xC.row k hk).1
theorem mZ (A:Option Addr)(n cap:Nat)(w:World)(l:List Reg)(hl:RSl w w.heap.size A n cap l)(hf:n<=1000):
  Calls prog 104 #[.slice A n cap] w
   fun e w'=> ∃A' xq,e= .returned (.tuple #[.slice A' (Rg.few (Rg.joined l)).1.length xq,.int .i64 (Rg.few (Rg.joined l)).2])/\OwnR w' w.heap.size A' xq (Rg.few (Rg.joined l)).1/\Below w.heap.size w w':=by
 have An:=wP hl.len;go_enter func104,ntmps104;go_wp2;go_loopw [4,10] (fun v i wr=> ∃k:Nat,k<=n/\i= .int .i64 k/\Below w.heap.size w wr/\ ∃A cap,v= .slice A (Rg.joined (l.take k)).length cap/\OwnR wr w.heap.size A cap (Rg.joined (l.take k))) (fun _ i _ =>n-(intOf i).toNat)
 case atStart=>exact⟨0,xm _,rfl,xp _ _,none,0,rfl,OwnR.nil _ _⟩
 case round=>
  obtain⟨k,hk,rfl,hB,A1,c1,rfl,ho⟩:=hrel;have JX:=hB.size;have Cj:=gn (l.take k);have Bd:(l.take k).length<=1000:=(by rw[List.length_take];omega);by_cases xw:k<n
  ·obtain⟨r,hr⟩: ∃r,l[k]? =some r:=⟨_,wV (by have:=An.o;omega)⟩;obtain⟨b,off,rfl,hb,yI⟩:=hl.at_ k r hr;obtain⟨h0,h1,h2,h3,h4⟩:=yI.below hB hb;have HR:=wP hr;have As:=pp.new wr r;have b0:=fun d os=>(As.re d os).c0;have b1:=fun d os=>(As.re d os).c1;have b2:=fun d os=>(As.re d os).c2;have b3:=fun d os=>(As.re d os).c3;have b4:=fun d os=>(As.re d os).c4;have HT:=wP (kQ hr);generalize zP:Rg.joined (l.take k)=acc at *
   have xD:acc.length<1000000:=o_;generalize hm:acc.length=m at *
   obtain⟨HM,HO⟩:=zh2 hm ho;clear hr yI As ho zP hm;rcases Nat.eq_zero_or_pos m with rfl|GS
   ·have Du:acc=[]:=List.eq_nil_of_length_eq_zero HM.o;have HN:=wP Du;clear Du;go_wp2;refine wp_region_quiet_below k_ k_ ?_;(repeat(go_big_quiet_step (fail)));refine wpQuiet_nil ?_;intro _ yX;obtain⟨⟨dq,osq⟩,hw''⟩:=yX;subst hw'';have xR:=below_regrown (wr.alloc (.cells #[.int .u64 r.fr,.int .u64 r.to,.int .u8 r.prot,.int .i64 r.ino,.int .u64 r.off] 45)) dq osq;generalize grow (redrawn (wr.alloc (.cells #[.int .u64 r.fr,.int .u64 r.to,.int .u8 r.prot,.int .i64 r.ino,.int .u64 r.off] 45)) dq) osq=wq at xR⊢;have Ki:=xR.size;simp at Ki;have q0:wq.cell? ⟨wr.heap.size,0,none⟩=some (.int .u64 r.fr):=(xR.cell (p:=⟨wr.heap.size,0,none⟩) s_).trans s_;have q1:wq.cell? ⟨wr.heap.size,1,none⟩=some (.int .u64 r.to):=(xR.cell (p:=⟨wr.heap.size,1,none⟩) s_).trans s_;have q2:wq.cell? ⟨wr.heap.size,2,none⟩=some (.int .u8 r.prot):=(xR.cell (p:=⟨wr.heap.size,2,none⟩) s_).trans s_;have q3:wq.cell? ⟨wr.heap.size,3,none⟩=some (.int .i64 r.ino):=(xR.cell (p:=⟨wr.heap.size,3,none⟩) s_).trans s_;have q4:wq.cell? ⟨wr.heap.size,4,none⟩=some (.int .u64 r.off):=(xR.cell (p:=⟨wr.heap.size,4,none⟩) s_).trans s_;clear b0 b1 b2 b3 b4;go_wp2_with (at_builtin;refine ci rfl (.tmp 33) (.tmp 35) rfl (w.heap.size) A1 c1 acc (by rw[HM.o];rfl) ((((HO.o).alloc _).below xR s_).alloc _) r (wq.heap.size) 1 rfl (heap_alloc_new wq _) (by rw[HM.o];omega) t_ ?_;rw[HM.o];intro g' xq w2 zD yE yn AL;have yw:=aQ (w:=w) (by exact wQ) ((((HO.o).alloc _).below xR s_).alloc _) yE t_);have xB:Rg.joined (l.take (k+1))=acc++[r]:=(by rw[HT.o,HN.o];rfl);go_roundw
    case rel=>exact⟨k+1,o_,by go_num,yw,some ⟨g',0,none⟩,xq,by rw[xB];simp[HN.o],by rw[xB];exact zD⟩
    case measure=>simp[intOf];omega
   ·obtain⟨j,rfl⟩: ∃j,m=j+1:=⟨m-1,o_⟩;obtain⟨g,rfl,Ck,yE,Wt⟩:=(HO.o.form).resolve_left (by rintro⟨_,h,_⟩;have:=HM.o;rw[h]at this;simp at this);rw[HM.o]at Wt;obtain⟨p,hp⟩: ∃p,acc[j]? =some p:=⟨_,wV (by have:=HM.o;omega)⟩;have zw:=(HO.o.elem hp).alloc (.cells #[.int .u64 r.fr,.int .u64 r.to,.int .u8 r.prot,.int .i64 r.ino,.int .u64 r.off] 45);have p0:=fun d os=>(zw.re d os).c0;have p1:=fun d os=>(zw.re d os).c1;have p2:=fun d os=>(zw.re d os).c2;have p3:=fun d os=>(zw.re d os).c3;have p4:=fun d os=>(zw.re d os).c4;have HP:=wP hp;clear hp zw;have cJ:=fun d os=>vo (W:=wr.alloc (.cells #[.int .u64 r.fr,.int .u64 r.to,.int .u8 r.prot,.int .i64 r.ino,.int .u64 r.off] 45)) p r d os;cases hj:Rg.joins p r with
    |true=>
     rw[hj]at cJ;obtain⟨CJ,xB⟩:=zh2 cJ (HT.o.trans (rg HM.o HP.o hj));clear cJ hj;go_wp2;refine wp_region_quiet_below k_ k_ ?_;(repeat(go_big_quiet_step (exact CJ.o _ _)));refine wpQuiet_nil ?_;intro _ yX;obtain⟨⟨dq,osq⟩,hw''⟩:=yX;subst hw'';have xR:=below_regrown (wr.alloc (.cells #[.int .u64 r.fr,.int .u64 r.to,.int .u8 r.prot,.int .i64 r.ino,.int .u64 r.off] 45)) dq osq;generalize grow (redrawn (wr.alloc (.cells #[.int .u64 r.fr,.int .u64 r.to,.int .u8 r.prot,.int .i64 r.ino,.int .u64 r.off] 45)) dq) osq=wq at xR⊢;have Ki:=xR.size;simp at Ki;have q1:wq.cell? ⟨wr.heap.size,1,none⟩=some (.int .u64 r.to):=(xR.cell (p:=⟨wr.heap.size,1,none⟩) s_).trans s_;have Ow:=((HO.o).alloc (.cells #[.int .u64 r.fr,.int .u64 r.to,.int .u8 r.prot,.int .i64 r.ino,.int .u64 r.off] 45)).below xR s_;have qa:=(Ow.elem HP.o).c1;have qf:=World.ownsRow.frozenAt Ow (j*5+1);have yq:=wP (Ow.setTo HP.o r.to);clear b0 b1 b2 b3 b4 p0 p1 p2 p3 p4 Ow;go_wp2;have xW:(acc.set j ⟨p.fr,r.to,p.prot,p.ino,p.off⟩).length=j+1:=(by rw[List.length_set,HM.o]);have AF:=yq.o;go_roundw
     case rel=>exact⟨k+1,o_,by go_num,by exact wQ,some ⟨g,0,none⟩,c1,by rw[xB.o,xW],by rw[xB.o];exact AF⟩
     case measure=>simp[intOf];omega
    |false=>
     rw[hj]at cJ;obtain⟨CJ,xB⟩:=zh2 cJ (HT.o.trans (uL HM.o HP.o hj));clear cJ hj;go_wp2;refine wp_region_quiet_below k_ k_ ?_;(repeat(go_big_quiet_step (exact CJ.o _ _)));refine wpQuiet_nil ?_;intro _ yX;obtain⟨⟨dq,osq⟩,hw''⟩:=yX;subst hw'';have xR:=below_regrown (wr.alloc (.cells #[.int .u64 r.fr,.int .u64 r.to,.int .u8 r.prot,.int .i64 r.ino,.int .u64 r.off] 45)) dq osq;generalize grow (redrawn (wr.alloc (.cells #[.int .u64 r.fr,.int .u64 r.to,.int .u8 r.prot,.int .i64 r.ino,.int .u64 r.off] 45)) dq) osq=wq at xR⊢;have Ki:=xR.size;simp at Ki;have q0:wq.cell? ⟨wr.heap.size,0,none⟩=some (.int .u64 r.fr):=(xR.cell (p:=⟨wr.heap.size,0,none⟩) s_).trans s_;have q1:wq.cell? ⟨wr.heap.size,1,none⟩=some (.int .u64 r.to):=(xR.cell (p:=⟨wr.heap.size,1,none⟩) s_).trans s_;have q2:wq.cell? ⟨wr.heap.size,2,none⟩=some (.int .u8 r.prot):=(xR.cell (p:=⟨wr.heap.size,2,none⟩) s_).trans s_;have q3:wq.cell? ⟨wr.heap.size,3,none⟩=some (.int .i64 r.ino):=(xR.cell (p:=⟨wr.heap.size,3,none⟩) s_).trans s_;have q4:wq.cell? ⟨wr.heap.size,4,none⟩=some (.int .u64 r.off):=(xR.cell (p:=⟨wr.heap.size,4,none⟩) s_).trans s_;clear b0 b1 b2 b3 b4 p0 p1 p2 p3 p4;go_wp2_with (at_builtin;refine ci rfl (.tmp 33) (.tmp 35) rfl (w.heap.size) (some ⟨g,0,none⟩) c1 acc (by rw[HM.o];rfl) ((((HO.o).alloc _).below xR s_).alloc _) r (wq.heap.size) 1 rfl (heap_alloc_new wq _) (by rw[HM.o];omega) t_ ?_;rw[HM.o];intro g' xq w2 zD yE yn AL;have yw:=aQ (w:=w) (by exact wQ) ((((HO.o).alloc _).below xR s_).alloc _) yE t_);have xW:(acc++[r]).length=j+1+1:=(by rw[wU,HM.o];rfl);go_roundw
     case rel=>exact⟨k+1,o_,by go_num,yw,some ⟨g',0,none⟩,xq,by rw[xB.o,xW],by rw[xB.o];exact zD⟩
     case measure=>simp[intOf];omega
  ·have ht:l.take k=l:=List.take_of_length_le (by have:=An.o;omega);have HT:=wP ht;generalize zP:Rg.joined (l.take k)=acc at *
   obtain⟨HA,HO⟩:=zh2 zP ho;clear ht zP ho;by_cases CD:64<acc.length
   ·have Hc:Rg.few (Rg.joined l)=([],15):=(by rw[<-HT.o,HA.o];simp[Rg.few,CD]);have HF:=wP Hc;clear Hc;go_wp2;go_ret2;refine⟨none,0,?_,?_,hB⟩
    ·rw[HF.o];rfl
    ·rw[HF.o];exact OwnR.nil _ _
   ·have Hc:Rg.few (Rg.joined l)=(acc,0):=(by rw[<-HT.o,HA.o];simp[Rg.few,CD]);have HF:=wP Hc;clear Hc;go_wp2;go_ret2;refine⟨A1,c1,?_,?_,hB⟩
    ·rw[HF.o];rfl
    ·rw[HF.o];exact HO.o
end
section
open Go.RowKit Go.Sort
theorem kB (A:Option Addr)(n cap:Nat)(w:World)(l:List Reg)(hl:RSl w w.heap.size A n cap l)(hf:n<=1000):
  Calls prog 139 #[.slice A n cap] w
   fun e w'=> ∃A' xq,e= .returned (.slice A' (Rg.joined l).length xq)/\OwnR w' w.heap.size A' xq (Rg.joined l)/\Below w.heap.size w w':=by
 have An:=wP hl.len;go_enter func139,ntmps139;go_wp2;go_loopw [3,4] (fun v i wr=> ∃k:Nat,k<=n/\i= .int .i64 k/\Below w.heap.size w wr/\ ∃A cap,v= .slice A (Rg.joined (l.take k)).length cap/\OwnR wr w.heap.size A cap (Rg.joined (l.take k))) (fun _ i _ =>n-(intOf i).toNat)
 case atStart=>exact⟨0,xm _,rfl,xp _ _,none,0,rfl,OwnR.nil _ _⟩
 case round=>
  obtain⟨k,hk,rfl,hB,A1,c1,rfl,ho⟩:=hrel;have JX:=hB.size;have Cj:=gn (l.take k);have Bd:(l.take k).length<=1000:=(by rw[List.length_take];omega);by_cases xw:k<n
  ·obtain⟨r,hr⟩: ∃r,l[k]? =some r:=⟨_,wV (by have:=An.o;omega)⟩;obtain⟨b,off,rfl,hb,yI⟩:=hl.at_ k r hr;have yI:=yI.below hB hb;have HR:=wP hr;have b0:=fun d os=>(yI.re d os).c0;have b1:=fun d os=>(yI.re d os).c1;have b2:=fun d os=>(yI.re d os).c2;have b3:=fun d os=>(yI.re d os).c3;have b4:=fun d os=>(yI.re d os).c4;have JI:(k:Int)<(n:Int):=o_;have zh:(0:Int)<=(k:Int):=o_;have HT:=wP (kQ hr);generalize zP:Rg.joined (l.take k)=acc at *
   have xD:acc.length<1000000:=o_;generalize hm:acc.length=m at *
   obtain⟨HM,HO⟩:=zh2 hm ho;clear hr ho zP hm;rcases Nat.eq_zero_or_pos m with rfl|GS
   ·have Du:acc=[]:=List.eq_nil_of_length_eq_zero HM.o;have HN:=wP Du;clear Du;go_wp2;refine wp_region_quiet_below k_ k_ ?_;(repeat(go_big_quiet_step (fail)));refine wpQuiet_nil ?_;intro _ yX;obtain⟨⟨dq,osq⟩,hw''⟩:=yX;subst hw'';have xR:=below_regrown (wr) dq osq;generalize grow (redrawn (wr) dq) osq=wq at xR⊢;have Ki:=xR.size;obtain⟨q0,q1,q2,q3,q4⟩:=yI.below xR o_;clear b0 b1 b2 b3 b4;go_wp2_with (at_builtin;refine ci rfl (.tmp 38) (.tmp 43) rfl (w.heap.size) A1 c1 acc (by rw[HM.o];rfl) (((HO.o).below xR (wS _)).alloc _) r (wq.heap.size) 1 rfl (heap_alloc_new wq _) (by rw[HM.o];omega) t_ ?_;rw[HM.o];intro g' xq w2 zD yE yn AL;have yw:=aQ (w:=w) (by exact wQ) (((HO.o).below xR (wS _)).alloc _) yE t_);have xB:Rg.joined (l.take (k+1))=acc++[r]:=(by rw[HT.o,HN.o];rfl);go_roundw
    case rel=>exact⟨k+1,o_,by go_num,yw,some ⟨g',0,none⟩,xq,by rw[xB];simp[HN.o],by rw[xB];exact zD⟩
    case measure=>simp[intOf];omega
   ·obtain⟨j,rfl⟩: ∃j,m=j+1:=⟨m-1,o_⟩;obtain⟨g,rfl,Ck,yE,Wt⟩:=(HO.o.form).resolve_left (by rintro⟨_,h,_⟩;have:=HM.o;rw[h]at this;simp at this);rw[HM.o]at Wt;obtain⟨p,hp⟩: ∃p,acc[j]? =some p:=⟨_,wV (by have:=HM.o;omega)⟩;have zw:=HO.o.elem hp;have p0:=fun d os=>(zw.re d os).c0;have p1:=fun d os=>(zw.re d os).c1;have p2:=fun d os=>(zw.re d os).c2;have p3:=fun d os=>(zw.re d os).c3;have p4:=fun d os=>(zw.re d os).c4;have HP:=wP hp;clear hp zw;have cJ:=fun d os=>qX (W:=wr) p r d os;cases hj:Rg.joins p r with
    |true=>
     rw[hj]at cJ;obtain⟨CJ,xB⟩:=zh2 cJ (HT.o.trans (rg HM.o HP.o hj));clear cJ hj;go_wp2;refine wp_region_quiet_below k_ k_ ?_;(repeat(go_big_quiet_step (exact CJ.o _ _)));refine wpQuiet_nil ?_;intro _ yX;obtain⟨⟨dq,osq⟩,hw''⟩:=yX;subst hw'';have xR:=below_regrown (wr) dq osq;generalize grow (redrawn (wr) dq) osq=wq at xR⊢;have Ki:=xR.size;have q1:=(yI.below xR o_).c1;have Ow:=(HO.o).below xR (wS _);have qa:=(Ow.elem HP.o).c1;have qf:=World.ownsRow.frozenAt Ow (j*5+1);have yq:=wP (Ow.setTo HP.o r.to);clear b0 b1 b2 b3 b4 p0 p1 p2 p3 p4 Ow yI;go_wp2;have xW:(acc.set j ⟨p.fr,r.to,p.prot,p.ino,p.off⟩).length=j+1:=(by rw[List.length_set,HM.o]);have AF:=yq.o;go_roundw
     case rel=>exact⟨k+1,o_,by go_num,by exact wQ,some ⟨g,0,none⟩,c1,by rw[xB.o,xW],by rw[xB.o];exact AF⟩
     case measure=>simp[intOf];omega
    |false=>
     rw[hj]at cJ;obtain⟨CJ,xB⟩:=zh2 cJ (HT.o.trans (uL HM.o HP.o hj));clear cJ hj;go_wp2;refine wp_region_quiet_below k_ k_ ?_;(repeat(go_big_quiet_step (exact CJ.o _ _)));refine wpQuiet_nil ?_;intro _ yX;obtain⟨⟨dq,osq⟩,hw''⟩:=yX;subst hw'';have xR:=below_regrown (wr) dq osq;generalize grow (redrawn (wr) dq) osq=wq at xR⊢;have Ki:=xR.size;obtain⟨q0,q1,q2,q3,q4⟩:=yI.below xR o_;clear b0 b1 b2 b3 b4 p0 p1 p2 p3 p4;go_wp2_with (at_builtin;refine ci rfl (.tmp 38) (.tmp 43) rfl (w.heap.size) (some ⟨g,0,none⟩) c1 acc (by rw[HM.o];rfl) (((HO.o).below xR (wS _)).alloc _) r (wq.heap.size) 1 rfl (heap_alloc_new wq _) (by rw[HM.o];omega) t_ ?_;rw[HM.o];intro g' xq w2 zD yE yn AL;have yw:=aQ (w:=w) (by exact wQ) (((HO.o).below xR (wS _)).alloc _) yE t_);have xW:(acc++[r]).length=j+1+1:=(by rw[wU,HM.o];rfl);go_roundw
     case rel=>exact⟨k+1,o_,by go_num,yw,some ⟨g',0,none⟩,xq,by rw[xB.o,xW],by rw[xB.o];exact zD⟩
     case measure=>simp[intOf];omega
  ·have ht:l.take k=l:=List.take_of_length_le (by have:=An.o;omega);rw[ht]at ho;rw[ht];have HO:=wP ho;clear ho Cj;generalize zP:Rg.joined l=acc at *
   have HA:=wP zP;clear zP;go_wp2;go_ret;refine⟨A1,c1,?_,?_,hB⟩
   ·rw[HA.o];rfl
   ·rw[HA.o];exact HO.o
theorem qn (A:Option Addr)(cap:Nat)(w:World)(base:Nat)(l:List Reg)(hl:OwnR w base A cap l)(hf:l.length<=1000000):
  Calls prog 138 #[.slice A l.length cap] w
   fun e w'=> ∃A' xq,e= .returned (.tuple #[.slice A' (Rg.few l).1.length xq,.int .i64 (Rg.few l).2])/\OwnR w' base A' xq (Rg.few l).1/\w'=w:=by
 by_cases CD:64<l.length
 ·have Hc:Rg.few l=([],15):=(by simp[Rg.few,CD]);have HF:=wP Hc;clear Hc;go_enter func138,ntmps138;go_wp2;go_ret2;refine⟨none,0,?_,?_,rfl⟩
  ·rw[HF.o];rfl
  ·rw[HF.o];exact OwnR.nil _ _
 ·have Hc:Rg.few l=(l,0):=(by simp[Rg.few,CD]);have HF:=wP Hc;clear Hc;go_enter func138,ntmps138;go_wp2;go_ret2;refine⟨A,cap,?_,?_,rfl⟩
  ·rw[HF.o];rfl
  ·rw[HF.o];exact hl
def Rg.ins:List Reg->Reg->List Reg
 | [],r=>[r]
 |x::l,r=>if r.fr<x.fr then r::x::l else x::Rg.ins l r
def fQ (l:List Reg)(r:Reg)(k:Nat)(acc:List Reg)(laid:Bool):Prop:=
 (laid=true->acc++l.drop k=Rg.ins l r)/\(laid=false->acc++Rg.ins (l.drop k) r=Rg.ins l r)/\acc.length<=k+1
variable {l:List Reg}{k:Nat}{x:Reg}
theorem iC (h:l[k]? =some x):l.drop k=x::l.drop (k+1):=by
 obtain⟨hk,e⟩:=List.getElem?_eq_some_iff.1 h;rw[List.drop_eq_getElem_cons hk,e]
theorem fQ.zero (l:List Reg)(r:Reg):fQ l r 0 [] false:=⟨s_,s_,s_⟩
variable {r:Reg}{acc:List Reg}
theorem fQ.laid (h:fQ l r k acc true)(hx:l[k]? =some x):fQ l r (k+1) (acc++[x]) true:=by
 refine⟨fun _ =>?_,fun h=>by simp at h,by have:=h.2.2;simp;omega⟩;rw[<-h.1 rfl,iC hx];simp
theorem fQ.here (h:fQ l r k acc false)(hx:l[k]? =some x)(xw:r.fr<x.fr)(ha:acc.length<=k):fQ l r (k+1) (acc++[r]++[x]) true:=by
 refine⟨fun _ =>?_,fun h=>by simp at h,t_⟩;rw[<-h.2.1 rfl,iC hx];simp[Rg.ins,xw]
theorem fQ.on (h:fQ l r k acc false)(hx:l[k]? =some x)(xw: ¬r.fr<x.fr):fQ l r (k+1) (acc++[x]) false:=by
 refine⟨fun h=>by simp at h,fun _ =>?_,by have:=h.2.2;simp;omega⟩;rw[<-h.2.1 rfl,iC hx];simp[Rg.ins,xw]
theorem fQ.end1 (h:fQ l r k acc true)(hk:l.length<=k):acc=Rg.ins l r:=by
 have:=h.1 rfl;rw[List.drop_of_length_le hk]at this;simpa using this
theorem fQ.end0 (h:fQ l r k acc false)(hk:l.length<=k):acc++[r]=Rg.ins l r:=by
 have:=h.2.1 rfl;rw[List.drop_of_length_le hk]at this;simpa [Rg.ins]using this
theorem qe (l:List Reg)(r:Reg):(Rg.ins l r).length=l.length+1:=by
 induction l with
 |nil=>rfl
 |cons x l ih=>simp only[Rg.ins];split<;>simp[ih]
theorem iT (r:Reg)(A:Option Addr)(n cap:Nat)(w:World)(l:List Reg)(hl:RSl w w.heap.size A n cap l)(hf:n<=1000):
  Calls prog 140 #[.slice A n cap,.agg #[.int .u64 (r).fr,.int .u64 (r).to,.int .u8 (r).prot,.int .i64 (r).ino,.int .u64 (r).off]] w
   fun e w'=> ∃A' xq,e= .returned (.slice A' (Rg.ins l r).length xq)/\OwnR w' w.heap.size A' xq (Rg.ins l r)/\Below w.heap.size w w':=by
 have An:=wP hl.len;go_enter func140,ntmps140;go_wp2;generalize FV:w.alloc (.cells #[.int .u64 r.fr,.int .u64 r.to,.int .u8 r.prot,.int .i64 r.ino,.int .u64 r.off] 45)=W0;have ZB:W0.heap[w.heap.size]? =some (.cells #[.int .u64 r.fr,.int .u64 r.to,.int .u8 r.prot,.int .i64 r.ino,.int .u64 r.off] 45 (0,0)):=by
  subst FV;exact heap_alloc_new w _
 have xz:Below w.heap.size w W0:=by
  subst FV
  exact wQ
 have CK:W0.heap.size=w.heap.size+1:=(by subst FV;simp);have Bp:=wP CK;clear FV CK;go_loopw [5,6,7] (fun v q i wr=> ∃k:Nat,k<=n/\i= .int .i64 k/\Below (w.heap.size+1) W0 wr/\ ∃A cap acc laid,v= .slice A (List.length acc) cap/\q= .bool laid/\OwnR wr (w.heap.size+1) A cap acc/\fQ l r k acc laid/\(laid=false->acc.length<=k)) (fun _ _ i _ =>n-(intOf i).toNat)
 case atStart=>exact⟨0,xm _,rfl,xp _ _,none,0,[],false,rfl,rfl,OwnR.nil _ _,fQ.zero l r,fun _ =>wS _⟩
 case round=>
  obtain⟨k,hk,rfl,Cq,A1,c1,acc,laid,rfl,rfl,ho,Kw,Dz⟩:=hrel;have JX:=Cq.size;have hB:=xz.trans (Cq.mono o_);have xT:w.heap.size<wr.heap.size:=(by have:=Bp.o;omega);have BF:=(Cq.block _ o_).trans ZB;have d0:wr.cell? ⟨w.heap.size,0,none⟩=some (.int .u64 r.fr):=ag BF 0;have d1:wr.cell? ⟨w.heap.size,1,none⟩=some (.int .u64 r.to):=ag BF 1;have d2:wr.cell? ⟨w.heap.size,2,none⟩=some (.int .u8 r.prot):=ag BF 2;have d3:wr.cell? ⟨w.heap.size,3,none⟩=some (.int .i64 r.ino):=ag BF 3;have d4:wr.cell? ⟨w.heap.size,4,none⟩=some (.int .u64 r.off):=ag BF 4;have hal2:=Kw.2.2;have xD:acc.length<10000:=o_;generalize hm:acc.length=m at *
  obtain⟨HM,HO,HR,HI,HA⟩:=zh5 hm ho BF Kw Dz;clear hm ho BF Kw Dz;by_cases xw:k<n
  ·obtain⟨x,hx⟩: ∃x,l[k]? =some x:=⟨_,wV (by have:=An.o;omega)⟩;obtain⟨b,off,rfl,hb,yI⟩:=hl.at_ k x hx;have HW:=wP yI;have yI:=yI.below hB hb;obtain⟨h0,h1,h2,h3,h4⟩:=yI;have JI:(k:Int)<(n:Int):=o_;have zh:(0:Int)<=(k:Int):=o_;have HX:=wP hx;clear hx hl;cases laid with
   |true=>
    have xB:=wP (HI.o.laid HX.o);go_wp2;go_quiet (fail);go_wp2_with (at_builtin;refine ci rfl (.tmp 30) (.tmp 35) rfl ((w.heap.size+1)) A1 c1 acc (by rw[HM.o];rfl) ((show OwnR (wr.drewN nq) (w.heap.size+1) A1 c1 acc from HO.o).alloc _) x (wr.heap.size) 1 rfl (heap_alloc_new _ _) (by rw[HM.o];omega) t_ ?_;rw[HM.o];intro g' xq w2 zD yE yn AL;have yw:=aQ (w:=W0) (by exact wQ) ((show OwnR (wr.drewN nq) (w.heap.size+1) A1 c1 acc from HO.o).alloc _) yE t_);have xW:(acc++[x]).length=m+1:=(by rw[wU,HM.o];rfl);go_roundw
    case rel=>exact⟨k+1,o_,by go_num,yw,some ⟨g',0,none⟩,xq,acc++[x],true,by rw[xW],rfl,zD,xB.o,fun h=>by cases h⟩
    case measure=>simp[intOf];omega
   |false=>
    by_cases Vo:r.fr<x.fr
    ·have BD:decide (r.fr<x.fr)=true:=(by simpa using Vo);have xB:=wP (HI.o.here HX.o Vo (by rw[HM.o];exact HA.o rfl));go_wp2;go_quiet (fail);go_wp2_with (first
      |(at_builtin;refine ci rfl (.tmp 26) (.tmp 28) rfl ((w.heap.size+1)) A1 c1 acc (by rw[HM.o];rfl) ((show OwnR (wr.drewN nq) (w.heap.size+1) A1 c1 acc from HO.o).alloc _) r (wr.heap.size) 1 rfl (heap_alloc_new _ _) (by rw[HM.o];omega) t_ ?_;rw[HM.o];intro g' xq w2 zD yE yn AL;(have yw:=aQ (w:=W0) (by exact wQ) ((show OwnR (wr.drewN nq) (w.heap.size+1) A1 c1 acc from HO.o).alloc _) yE t_;have Cx:w.heap.size+1<=w2.heap.size:=(by have:=Bp.o;have:=yw.size;omega);have PV:(acc++[r]).length=m+1:=(by rw[wU,HM.o];rfl);have Ex:=wP PV;clear PV;obtain⟨i0,i1,i2,i3,i4⟩:=HW.o.below (xz.trans (yw.mono o_)) hb;have OD:r.fr<x.fr:=Vo))
      |(at_builtin;refine ci rfl (.tmp 30) (.tmp 35) rfl (w.heap.size+1) (some ⟨g',0,none⟩) xq (acc++[r]) (by rw[Ex.o];rfl) (zD.alloc _) x w2.heap.size 1 rfl (heap_alloc_new _ _) (by rw[Ex.o];omega) t_ ?_;rw[Ex.o];intro g3 zQ w3 Am Im OR hlt3;have EX:=aQ (w:=W0) (by exact wQ) (zD.alloc _) Im t_))
     have xW:(acc++[r]++[x]).length=m+1+1:=(by rw[wU,Ex.o];rfl);go_roundw
     case rel=>exact⟨k+1,o_,by go_num,EX,some ⟨g3,0,none⟩,zQ,acc++[r]++[x],true,by rw[xW],rfl,Am,xB.o,fun h=>by cases h⟩
     case measure=>simp[intOf];omega
    ·have BD:decide (r.fr<x.fr)=false:=(by simpa using Vo);have xB:=wP (HI.o.on HX.o Vo);have hal3:=HA.o rfl;go_wp2;go_quiet (fail);go_wp2_with (at_builtin;refine ci rfl (.tmp 30) (.tmp 35) rfl ((w.heap.size+1)) A1 c1 acc (by rw[HM.o];rfl) ((show OwnR (wr.drewN nq) (w.heap.size+1) A1 c1 acc from HO.o).alloc _) x (wr.heap.size) 1 rfl (heap_alloc_new _ _) (by rw[HM.o];omega) t_ ?_;rw[HM.o];intro g' xq w2 zD yE yn AL;have yw:=aQ (w:=W0) (by exact wQ) ((show OwnR (wr.drewN nq) (w.heap.size+1) A1 c1 acc from HO.o).alloc _) yE t_);have xW:(acc++[x]).length=m+1:=(by rw[wU,HM.o];rfl);go_roundw
     case rel=>exact⟨k+1,o_,by go_num,yw,some ⟨g',0,none⟩,xq,acc++[x],false,by rw[xW],rfl,zD,xB.o,fun _ =>by rw[xW];omega⟩
     case measure=>simp[intOf];omega
  ·have zz:l.length<=k:=(by have:=An.o;omega);cases laid with
   |true=>
    have xB:=wP (HI.o.end1 zz);go_wp2;go_ret;refine⟨A1,c1,?_,?_,hB⟩
    ·rw[<-xB.o,HM.o];rfl
    ·rw[<-xB.o];exact HO.o.lower o_
   |false=>
    have xB:=wP (HI.o.end0 zz);go_wp2_with (at_builtin;refine ci rfl (.tmp 39) (.tmp 41) rfl ((w.heap.size+1)) A1 c1 acc (by rw[HM.o];rfl) (HO.o.alloc _) r (wr.heap.size) 1 rfl (heap_alloc_new _ _) (by rw[HM.o];omega) t_ ?_;rw[HM.o];intro g' xq w2 zD yE yn AL;have yw:=aQ (w:=W0) (by exact wQ) (HO.o.alloc _) yE t_);have xW:(acc++[r]).length=m+1:=(by rw[wU,HM.o];rfl);go_ret;refine⟨some ⟨g',0,none⟩,xq,?_,?_,xz.trans (yw.mono o_)⟩
    ·rw[<-xB.o,xW];rfl
    ·rw[<-xB.o];exact zD.lower o_
end
section
open Go.RowKit Go.Sort
theorem RSl.more {w:World}{B B':Nat}{A:Option Addr}{n cap:Nat}{l:List Reg}(h:RSl w B A n cap l)(hB:B<=B'):RSl w B' A n cap l:=
 ⟨h.len,h.cap,h.few,fun k r hr=>by
  obtain⟨b,off,e,hb,yI⟩:=h.at_ k r hr;exact⟨b,off,e,o_,yI⟩⟩
def r5:Reg:=⟨5,0,0,0,0⟩
end
section
open Go.RowKit Go.Sort
def Rg.wo1 (f t:Int)(r:Reg):List Reg:=if r.to<=f\/t<=r.fr then [r]else(if r.fr<f then [Rg.rpart r r.fr f]else [])++(if t<r.to then [Rg.rpart r t r.to]else [])
def Rg.without (l:List Reg)(f t:Int):List Reg:=l.flatMap (Rg.wo1 f t)
variable {r:Reg}
theorem nK {f t:Int}{l:List Reg}{k:Nat}(hr:l[k]? =some r):Rg.without (l.take (k+1)) f t=Rg.without (l.take k) f t++Rg.wo1 f t r:=by
 rw[List.take_add_one,hr];simp[Rg.without]
theorem wo1_len (f t:Int)(r:Reg):(Rg.wo1 f t r).length<=2:=by
 unfold Rg.wo1;split
 ·simp
 ·rw[wU];split<;>split<;>simp
theorem cR (l:List Reg)(f t:Int):(Rg.without l f t).length<=2*l.length:=by
 induction l with
 |nil=>simp[Rg.without]
 |cons r l ih=>
  have h1:=wo1_len f t r;simp only[Rg.without,xo,wU,xd]at *
  omega
variable {b:Nat}
theorem rK {X w2:World}{row:Option Nat}{o:Obj}(hg:X.grownBy w2 row)(hb:X.heap[b]? =some o)(xA:some b≠row):w2.heap[b]? =some o:=
 (hg.block b (wO hb).1 xA).trans hb
theorem bE {w:World}(h:w.heap[b]? =some (.cells #[.int .u64 r.fr, .int .u64 r.to, .int .u8 r.prot, .int .i64 r.ino, .int .u64 r.off] 45 (0,0))):pp w b r:=
 ⟨ag h 0,ag h 1,ag h 2,ag h 3,ag h 4⟩
theorem gK (f t:Int)(A:Option Addr)(n cap:Nat)(w:World)(l:List Reg)(hl:RSl w w.heap.size A n cap l)(hf:n<=1000):
  Calls prog 141 #[.slice A n cap,.int .u64 f,.int .u64 t] w
   fun e w'=> ∃A' xq,e= .returned (.slice A' (Rg.without l f t).length xq)/\OwnR w' w.heap.size A' xq (Rg.without l f t)/\Below w.heap.size w w':=by
 have An:=wP hl.len;go_enter func141,ntmps141;go_wp2;go_loopw [7,8] (fun v i wr=> ∃k:Nat,k<=n/\i= .int .i64 k/\Below w.heap.size w wr/\ ∃A cap,v= .slice A (Rg.without (l.take k) f t).length cap/\OwnR wr w.heap.size A cap (Rg.without (l.take k) f t)) (fun _ i _ =>n-(intOf i).toNat)
 case atStart=>exact⟨0,xm _,rfl,xp _ _,none,0,rfl,OwnR.nil _ _⟩
 case round=>
  obtain⟨k,hk,rfl,hB,A1,ca,rfl,ho⟩:=hrel;have JX:=hB.size;have Cj:=cR (l.take k) f t;have Bd:(l.take k).length<=1000:=(by rw[List.length_take];omega);by_cases xw:k<n
  ·obtain⟨r,hr⟩: ∃r,l[k]? =some r:=⟨_,wV (by have:=An.o;omega)⟩;obtain⟨b,off,rfl,hb,yI⟩:=hl.at_ k r hr;obtain⟨h0,h1,h2,h3,h4⟩:=yI.below hB hb;have JI:(k:Int)<(n:Int):=o_;have zh:(0:Int)<=(k:Int):=o_;have HT:=wP (nK (f:=f) (t:=t) hr);generalize zP:Rg.without (l.take k) f t=acc at *
   have xD:acc.length<1000000:=o_;generalize hm:acc.length=m at *
   obtain⟨HM,HO⟩:=zh2 hm ho;have xG:=ho.row;have TS:Hid (some wr.heap.size≠A1.map (·.block)):=wP fun e=>by have:=xG _ e.symm;omega
   have NC:=wP (heap_alloc_new wr (.cells #[.int .u64 r.fr,.int .u64 r.to,.int .u8 r.prot,.int .i64 r.ino,.int .u64 r.off] 45));clear hr ho zP hm xG hl;have HMm:m<=2000:=o_;clear Cj Bd;by_cases hc:r.to<=f\/t<=r.fr
   ·have xB:=wP (HT.o.trans (by rw[Rg.wo1,if_pos hc]));have key: ∀w2 g' xq,Below w.heap.size w w2->OwnR w2 w.heap.size (some ⟨g',0,none⟩) xq (acc++[r])-> ∃A cap,Value.slice (some ⟨g',0,none⟩) (m+1) xq= .slice A (Rg.without (l.take (k+1)) f t).length cap/\OwnR w2 w.heap.size A cap (Rg.without (l.take (k+1)) f t):=fun w2 g' xq h1 h2=>by
     refine⟨some ⟨g',0,none⟩,xq,?_,?_⟩
     ·rw[xB.o,wU,HM.o];rfl
     ·rw[xB.o];exact h2
    have KEY:=wP key;clear key;by_cases c1:r.to<=f
    ·clear hc;go_wp2_with (at_builtin;refine ci rfl (.tmp 30) (.tmp 32) rfl (w.heap.size) A1 ca acc (by rw[HM.o];rfl) ((HO.o.alloc _).alloc _) r ((wr.heap.size+1)) 1 rfl (by have:=heap_alloc_new (wr.alloc (.cells #[.int .u64 r.fr,.int .u64 r.to,.int .u8 r.prot,.int .i64 r.ino,.int .u64 r.off] 45)) (.cells #[.int .u64 r.fr,.int .u64 r.to,.int .u8 r.prot,.int .i64 r.ino,.int .u64 r.off] 45);simpa using this) (by rw[HM.o];omega) t_ ?_;rw[HM.o];intro g' xq w2 zD yE yn AL;have yw:=aQ (w:=w) (by exact wQ) ((HO.o.alloc _).alloc _) yE t_);go_roundw
     case rel=>exact⟨k+1,o_,by go_num,yw,KEY.o _ _ _ yw zD⟩
     case measure=>simp[intOf];omega
    ·have c2:t<=r.fr:=o_;clear hc;go_wp2_with (at_builtin;refine ci rfl (.tmp 30) (.tmp 32) rfl (w.heap.size) A1 ca acc (by rw[HM.o];rfl) ((HO.o.alloc _).alloc _) r ((wr.heap.size+1)) 1 rfl (by have:=heap_alloc_new (wr.alloc (.cells #[.int .u64 r.fr,.int .u64 r.to,.int .u8 r.prot,.int .i64 r.ino,.int .u64 r.off] 45)) (.cells #[.int .u64 r.fr,.int .u64 r.to,.int .u8 r.prot,.int .i64 r.ino,.int .u64 r.off] 45);simpa using this) (by rw[HM.o];omega) t_ ?_;rw[HM.o];intro g' xq w2 zD yE yn AL;have yw:=aQ (w:=w) (by exact wQ) ((HO.o.alloc _).alloc _) yE t_);go_roundw
     case rel=>exact⟨k+1,o_,by go_num,yw,KEY.o _ _ _ yw zD⟩
     case measure=>simp[intOf];omega
   ·have c1: ¬r.to<=f:=o_;have c2: ¬t<=r.fr:=o_;have zN:=HT.o;rw[Rg.wo1,if_neg hc]at zN;clear hc;by_cases d1:r.fr<f
    ·rw[if_pos d1]at zN;go_wp2_with fail;refine(ij r _ _ _).mono ?_;rintro e w1⟨rfl,xu⟩;have CY:=xu.size;simp at CY;have zY:=(xu.block _ s_).trans NC.o;obtain⟨yJ,DC⟩:=zh2 ((HO.o.alloc (.cells #[.int .u64 r.fr,.int .u64 r.to,.int .u8 r.prot,.int .i64 r.ino,.int .u64 r.off] 45)).below xu (wS _)) zY;clear zY h0 h1 h2 h3 h4;by_cases d2:t<r.to
     ·rw[if_pos d2]at zN;have xB:=wP zN;clear zN;go_wp2_with (at_builtin;refine ci rfl (.tmp 38) (.tmp 44) rfl (w.heap.size) A1 ca acc (by rw[HM.o];rfl) (yJ.o.alloc _) (Rg.rpart r r.fr f) (w1.heap.size) 1 rfl (heap_alloc_new w1 _) (by rw[HM.o];omega) t_ ?_;rw[HM.o];intro g' xq w2 zD yE yn AL;(have yw:=aQ (w:=w) (by exact wQ) (yJ.o.alloc _) yE t_;have Ak:=rK yE ((wT w1 _ _ o_).trans DC.o) TS.o;obtain⟨k0,k1,k2,k3,k4⟩:=bE Ak;have Fu:=wP Ak;clear Ak));have Ex:Hid ((acc++[Rg.rpart r r.fr f]).length=m+1):=wP (by rw[wU,HM.o];rfl);have Cx:=yw.size;refine(ij r _ _ _).mono ?_;rintro e w3⟨rfl,xE⟩;have KW:=xE.size;have Am:=wP (zD.below xE (wS _));clear k0 k1 k2 k3 k4;go_wp2_with (at_builtin;refine ci rfl (.tmp 50) (.tmp 56) rfl w.heap.size (some ⟨g',0,none⟩) xq (acc++[Rg.rpart r r.fr f]) (by rw[Ex.o];rfl) (Am.o.alloc _) (Rg.rpart r t r.to) w3.heap.size 1 rfl (heap_alloc_new w3 _) (by rw[Ex.o];omega) t_ ?_;rw[Ex.o];intro g4 cap4 w4 AY DG KH RK;have Eo:=aQ (w:=w) (by exact wQ) (Am.o.alloc _) DG t_);have Mt:(acc++[Rg.rpart r r.fr f]++[Rg.rpart r t r.to]).length=m+1+1:=(by rw[wU,Ex.o];rfl);have hf4:=xB.o;rw[<-List.append_assoc]at hf4;go_roundw
      case rel=>exact⟨k+1,o_,by go_num,Eo,some ⟨g4,0,none⟩,cap4,by rw[hf4,Mt],by rw[hf4];exact AY⟩
      case measure=>simp[intOf];omega
     ·rw[if_neg d2,List.append_nil]at zN;have xB:=wP zN;clear zN;go_wp2_with (at_builtin;refine ci rfl (.tmp 38) (.tmp 44) rfl (w.heap.size) A1 ca acc (by rw[HM.o];rfl) (yJ.o.alloc _) (Rg.rpart r r.fr f) (w1.heap.size) 1 rfl (heap_alloc_new w1 _) (by rw[HM.o];omega) t_ ?_;rw[HM.o];intro g' xq w2 zD yE yn AL;(have yw:=aQ (w:=w) (by exact wQ) (yJ.o.alloc _) yE t_;have Ak:=rK yE ((wT w1 _ _ o_).trans DC.o) TS.o;obtain⟨k0,k1,k2,k3,k4⟩:=bE Ak;have Fu:=wP Ak;clear Ak));have xW:(acc++[Rg.rpart r r.fr f]).length=m+1:=(by rw[wU,HM.o];rfl);go_roundw
      case rel=>exact⟨k+1,o_,by go_num,yw,some ⟨g',0,none⟩,xq,by rw[xB.o,xW],by rw[xB.o];exact zD⟩
      case measure=>simp[intOf];omega
    ·rw[if_neg d1,List.nil_append]at zN;by_cases d2:t<r.to
     ·rw[if_pos d2]at zN;have xB:=wP zN;clear zN;go_wp2_with fail;refine(ij r _ _ _).mono ?_;rintro e w1⟨rfl,xu⟩;have CY:=xu.size;simp at CY;have yJ:=wP ((HO.o.alloc (.cells #[.int .u64 r.fr,.int .u64 r.to,.int .u8 r.prot,.int .i64 r.ino,.int .u64 r.off] 45)).below xu (wS _));clear h0 h1 h2 h3 h4;go_wp2_with (at_builtin;refine ci rfl (.tmp 50) (.tmp 56) rfl (w.heap.size) A1 ca acc (by rw[HM.o];rfl) (yJ.o.alloc _) (Rg.rpart r t r.to) (w1.heap.size) 1 rfl (heap_alloc_new w1 _) (by rw[HM.o];omega) t_ ?_;rw[HM.o];intro g' xq w2 zD yE yn AL;(have yw:=aQ (w:=w) (by exact wQ) (yJ.o.alloc _) yE t_));have xW:(acc++[Rg.rpart r t r.to]).length=m+1:=(by rw[wU,HM.o];rfl);go_roundw
      case rel=>exact⟨k+1,o_,by go_num,yw,some ⟨g',0,none⟩,xq,by rw[xB.o,xW],by rw[xB.o];exact zD⟩
      case measure=>simp[intOf];omega
     ·rw[if_neg d2,List.append_nil]at zN;have xB:=wP zN;clear zN;go_wp2;go_roundw
      case rel=>exact⟨k+1,o_,by go_num,by exact wQ,A1,ca,by rw[xB.o,HM.o],by rw[xB.o];exact HO.o.alloc _⟩
      case measure=>simp[intOf];omega
  ·have ht:l.take k=l:=List.take_of_length_le (by have:=An.o;omega);rw[ht]at ho;rw[ht];have HO:=wP ho;clear ho Cj;generalize zP:Rg.without l f t=acc at *
   have HA:=wP zP;clear zP;go_wp2;go_ret;refine⟨A1,ca,?_,?_,hB⟩
   ·rw[HA.o];rfl
   ·rw[HA.o];exact HO.o
end
section
open Go.RowKit Go.Sort
structure Srch (w:World)(go gr:Nat)(A:Option Addr)(cap:Nat)(out:List Reg)(r:Reg)(B:Nat):Prop where
 cell:w.cell? ⟨go,0,none⟩=some (.slice A out.length cap)
 goB:go<B
 box:w.cell? ⟨gr,0,none⟩=some (.int .u64 r.fr)
 grB:gr<B
 rows: ∀k x,out[k]? =some x-> ∃g,A=some ⟨g,0,none⟩/\g<B/\w.cell? ⟨g,k*5,none⟩=some (.int .u64 x.fr)
variable {r:Reg}
theorem Srch.below {w w':World}{go gr:Nat}{A:Option Addr}{cap:Nat}{out:List Reg}{B:Nat}(h:Srch w go gr A cap out r B)(hb:Below B w w'):Srch w' go gr A cap out r B:=
 ⟨(
  hb.cell (p:=⟨go,0,none⟩) h.goB).trans h.cell,h.goB,(hb.cell (p:=⟨gr,0,none⟩) h.grB).trans h.box,h.grB,fun k x hx=>by
  obtain⟨g,e,hg,hc⟩:=h.rows k x hx;exact⟨g,e,hg,(hb.cell (p:=⟨g,k*5,none⟩) hg).trans hc⟩⟩
theorem putf_any (go gr:Nat)(A:Option Addr)(cap:Nat)(out:List Reg)(r x:Reg)(B k:Nat)(w:World)(h:Srch w go gr A cap out r B)(hx:out[k]? =some x)(hf:out.length<=100000):
  Calls prog 103 #[.int .i64 k,.pointer (some ⟨go,0,none⟩),.pointer (some ⟨gr,0,none⟩)] w fun e w'=>e= .returned (.bool (decide (r.fr<x.fr)))/\Below w.heap.size w w':=by
 obtain⟨g,rfl,hg,hc⟩:=h.rows k x hx;have h0:=h.cell;have h1:=h.box;have hk:k<out.length:=(List.getElem?_eq_some_iff.1 hx).1;clear h hx;generalize out.length=n at *
 have zh:(0:Int)<=(k:Int):=o_;have Ha:(k:Int)<(n:Int):=o_;go_enter func103,ntmps103;go_wp2;go_quiet (fail);go_wp2;go_ret;exact⟨rfl,by exact wQ⟩
def jX (l:List Reg):Prop:= ∀(i j:Nat) (a b:Reg),i<j->l[i]? =some a->l[j]? =some b->a.fr<=b.fr
def cZ (l:List Reg)(r:Reg)(i j:Nat):Prop:=(∀(k:Nat) (a:Reg),k<i->l[k]? =some a->a.fr<=r.fr)/\(∀(k:Nat) (a:Reg),j<=k->l[k]? =some a->r.fr<a.fr)
theorem cZ.start (l:List Reg)(r:Reg):cZ l r 0 l.length:=⟨fun k a h=>o_,fun k a h e=>by
 have:=(List.getElem?_eq_some_iff.1 e).1;omega⟩
variable {l:List Reg}{x:Reg}{i j h:Nat}
theorem cZ.up (hs:jX l)(H:cZ l r i j)(hx:l[h]? =some x)(xw: ¬r.fr<x.fr):cZ l r (h+1) j:=
 ⟨fun k a hk e=>by
  by_cases c:k=h
  ·subst c;rw[hx]at e;injection e with e;subst e;omega
  ·have:=hs k h a x o_ e hx;omega,H.2⟩
theorem cZ.down (hs:jX l)(H:cZ l r i j)(hx:l[h]? =some x)(xw:r.fr<x.fr):cZ l r i h:=
 ⟨H.1,fun k a hk e=>by
  by_cases c:k=h
  ·subst c;rw[hx]at e;injection e with e;subst e;omega
  ·have:=hs h k x a o_ hx e;omega⟩
theorem sn (go gr:Nat)(A:Option Addr)(cap:Nat)(out:List Reg)(r:Reg)(w:World)(h:Srch w go gr A cap out r w.heap.size)(hf:out.length<=100000)(hs:jX out):
  Calls prog 102 #[.int .i64 out.length,.func (.func 103) #[] #[.pointer (some ⟨go,0,none⟩),.pointer (some ⟨gr,0,none⟩)]] w
   fun e w'=>(∃i:Nat,i<=out.length/\e= .returned (.int .i64 i)/\cZ out r i i)/\Below w.heap.size w w':=by
 obtain⟨H,HS,yi⟩:=zh3 h hs (cZ.start out r);have hn:Hid (out.length=out.length):=wP rfl;clear h hs;go_enter func102,ntmps102;go_wp2;go_loopw [5,6] (fun i j wr=> ∃a b:Nat,a<=b/\b<=out.length/\i= .int .i64 a/\j= .int .i64 b/\Below w.heap.size w wr/\cZ out r a b) (fun i j _ =>(intOf j).toNat-(intOf i).toNat)
 case atStart=>exact⟨0,out.length,o_,wS _,rfl,rfl,xp _ _,yi.o⟩
 case round=>
  obtain⟨a,b,Ua,hbn,rfl,rfl,hB,zZ⟩:=hrel;have SP:=wP zZ;clear zZ;by_cases xw:a<b
  ·obtain⟨m,hm⟩:=e_ ((a+b)/2);obtain⟨x,hx⟩: ∃x,out[m]? =some x:=⟨_,wV o_⟩;have GS:m<b:=o_;have zn:a<=m:=o_;have he:Hid (((a:Int)+(b:Int))/2=(m:Int)):=wP o_;have xS:(m:Int)<100000:=o_;have HX:=wP hx;have yw:=hB.size;have hP:=putf_any go gr A cap out r x w.heap.size m wr (H.o.below hB) hx hf;clear hx hm;cases hd:decide (r.fr<x.fr)with
   |true=>
    rw[hd]at hP;obtain⟨HP,xB⟩:=zh2 hP (SP.o.down HS.o HX.o (by simpa using hd));clear hP hd;go_wp2_with fail;rw[he.o];refine(HP.o).mono ?_;rintro e w1⟨rfl,xu⟩;go_wp2_with fail;go_roundw
    case rel=>exact⟨a,m,o_,o_,rfl,rfl,by exact wQ,xB.o⟩
    case measure=>simp[intOf];omega
   |false=>
    rw[hd]at hP;obtain⟨HP,xB⟩:=zh2 hP (SP.o.up HS.o HX.o (by simpa using hd));clear hP hd;go_wp2_with fail;rw[he.o];refine(HP.o).mono ?_;rintro e w1⟨rfl,xu⟩;go_wp2_with fail;go_roundw
    case rel=>exact⟨m+1,b,o_,o_,by go_num,rfl,by exact wQ,xB.o⟩
    case measure=>simp[intOf];omega
  ·have Xg:b=a:=o_;have xB:Hid (cZ out r a a):=wP (by have:=SP.o;rw[Xg]at this;exact this);clear Xg;go_wp2;go_ret;exact⟨⟨a,o_,rfl,xB.o⟩,hB⟩
end
section
open Go.RowKit Go.Sort
section
variable {P:Program}
theorem dt (w:World)(dT sT ty elem:TypeId)(size:Nat)(g o dLen dCap:Nat)(a:Addr)(sLen sCap:Nat)(cur:Array Value)(t:TypeId)(cs:List Value)
  (hu:P.underlying dT=some (.slice elem))(hs:(P.info? elem).map (·.size)=some size)
  (hg:w.heap[g]? =some (.cells cur t (0,0)))(k:Nat)(hk:k=Nat.min sLen dLen)(hn:cs.length=k*size)
  (Ae: ∀j v,cs[j]? =some v->w.cell? (a.add j)=some v)(FQ:o+cs.length<=cur.size)(h1: ∀v∈cs,v.oneCell'=true):
  (Builtin.copy_ #[dT,sT] ty #[.slice (some ⟨g,o,none⟩) dLen dCap,.slice (some a) sLen sCap]).run P w=
   .ok (goInt k) (w.setRow g (cur.toList.take o++cs++cur.toList.drop (o+cs.length)).toArray):=by
 have hl:=run_loadCells_list (P:=P) w a cs Ae;have yi:=run_storeCells_at P g o t cs 0 cur w hg (by simpa using FQ) h1;cases hq:P.info? elem with
 |none=>simp[hq]at hs
 |some i=>
  have hi:i.size=size:=(by simpa [hq]using hs);rw[hn]at hl;simp[Builtin.copy_,run_underlying hu,Builtin.lenOf,Builtin.firstCells,sizeOf,typeInfo,hq,hi,<-hk,hl,yi]
variable {o:Oper}{a:Act}{K:Act->World->Prop}{Q:Exit->Act->World->Prop}{v':Value}{w':World}
theorem jm (w:World)(d s:Operand)(t t':TypeId)
  (ho:o.op= .call { callee:= .builtin .copy,args:= #[d,s],argTypes:= #[t,t']})(v u:Value)(hd:a.eval d=v)(hs:a.eval s=u)
  (hr:(Builtin.copy_ #[t,t'] o.type #[v,u]).run P w= .ok v' w')(h:K (a.put o.dst v') w'):o.wp P a w K Q:=by
 unfold Oper.wp execOp;simp only[ho,resolve,invoke,builtin,Sem.run_bind,Sem.run_pure,Result.andThen_ok,List.map_toArray,List.map_cons,List.map_nil,hd,hs,hr];exact h
variable {ops:Array Oper}
theorem fh (w:World){rest:List Oper}(zH:o.guard=none)(d s:Operand)(t t':TypeId)
  (ho:o.op= .call { callee:= .builtin .copy,args:= #[d,s],argTypes:= #[t,t']})(v u:Value)(hd:a.eval d=v)(hs:a.eval s=u)
  (hr:(Builtin.copy_ #[t,t'] o.type #[v,u]).run P w= .ok v' w')(h:wpList P ops Q rest (a.put o.dst v') w'):wpList P ops Q (o::rest) a w:=
 wpList_plain zH fun _ hK=>jm w d s t t' ho v u hd hs hr (hK _ _ h)
theorem gC {w:World}{E:Prop}
  (hg:o.guard=none)(d x:Operand)(dT sT:TypeId)(Ig:o.op=Op.call { callee:=Callee.builtin Builtin.copy,args:= #[d,x],argTypes:= #[dT,sT]})
  (v u:Value)(hd:a.eval d=v)(hx:a.eval x=u)(hr:(Builtin.copy_ #[dT,sT] o.type #[v,u]).run P w= .ok v' w')(hK:K (a.put o.dst v') w'):
  if Region.wanted o (yielded ops a.tmps)=true then Oper.wp P o a w K Q else E:=by
 have hw:Region.wanted o (yielded ops a.tmps)=true:=(by simp[Region.wanted,hg]);rw[if_pos hw];exact jm w d x dT sT Ig v u hd hx hr hK
end
def Rg.insAt (l:List Reg)(i:Nat)(r:Reg):List Reg:=l.take i++r::l.drop i
theorem qY (l:List Reg)(i:Nat):(rcs l).take (i*5)=rcs (l.take i):=by
 induction l generalizing i with
 |nil=>simp[rcs]
 |cons x l ih=>
  cases i with
  |zero=>simp[rcs]
  |succ i=>
   have e0:(i+1)*5=i*5+1+1+1+1+1:=o_;rw[e0];simp only[rcs,rc,List.cons_append,List.nil_append,List.take_succ_cons,ih]
theorem ra (l:List Reg)(i:Nat):(rcs l).drop (i*5)=rcs (l.drop i):=by
 induction l generalizing i with
 |nil=>simp[rcs]
 |cons x l ih=>
  cases i with
  |zero=>simp[rcs]
  |succ i=>
   have e0:(i+1)*5=i*5+1+1+1+1+1:=o_;rw[e0];simp only[rcs,rc,List.cons_append,List.nil_append,List.drop_succ_cons,ih]
theorem tc (A:Option Addr)(cap:Nat)(l:List Reg)(r:Reg)(bv c base:Nat)(w:World)(ho:OwnR w base A cap l)(xH:base<=w.heap.size)(hf:l.length<=100000)
  (hv:w.heap[bv]? =some (.cells #[.int .u64 r.fr, .int .u64 r.to, .int .u8 r.prot, .int .i64 r.ino, .int .u64 r.off] 45 (0,0))):
  Calls prog 105 #[.slice A l.length cap,.int .i64 l.length,.slice (some ⟨bv,0,none⟩) 1 c] w
   fun e w'=> ∃A' xq,e= .returned (.slice A' (l.length+1) xq)/\OwnR w' base A' xq (l++[r])/\Below base w w':=by
 have RY:=ho.form;have hc:l.length<=cap:=by rcases RY with⟨_,h,_⟩|⟨g,_,_,_,h⟩<;>simp_all
 generalize hm:l.length=m at *
 obtain⟨HM,HO⟩:=zh2 hm ho;clear hm ho RY;go_enter func105,ntmps105;go_wp2_with (at_builtin;refine ci rfl (.tmp 23) (.tmp 24) rfl base A cap l (by rw[HM.o];rfl) HO.o r bv c rfl hv (by rw[HM.o];omega) xH ?_;rw[HM.o];intro g' xq w2 zD yE yn AL)
 all_goals
  go_ret;refine⟨some ⟨g',0,none⟩,xq,rfl,zD,?_⟩;exact aQ (xp _ _) HO.o yE xH
theorem jM:(prog.info? 45).map (·.size)=some 5:=k_
variable {cur:List Value}{l:List Reg}{i:Nat}
theorem row_room {cap:Nat}(r:Reg)(hs:cur.length=cap*5)(ht:cur.take (l.length*5)=rcs l)(hi:i<l.length)(hc:l.length+1<=cap):
  let row1:=cur.take ((i+1)*5)++rcs (l.drop i)++cur.drop ((i+1)*5+(rcs (l.drop i)).length);let row2:=row1.take (i*5)++rc r++row1.drop (i*5+(rc r).length)
  row1.length=cap*5/\row2.length=cap*5/\row2.take ((l.length+1)*5)=rcs (Rg.insAt l i r):=by
 intro row1 row2;have hd:(rcs (l.drop i)).length=(l.length-i)*5:=(by rw[aY,List.length_drop]);have hr:(rc r).length=5:=rfl;have h1:row1.length=cap*5:=by
  simp only[row1,wU,List.length_take,List.length_drop,hd,hs];omega
 have h2:row2.length=cap*5:=by
  simp only[row2,wU,List.length_take,List.length_drop,hr,h1];omega
 refine⟨h1,h2,?_⟩;have ea:row1.take (i*5)=rcs (l.take i):=by
  simp only[row1];rw[List.append_assoc,List.take_append_of_le_length (by rw[List.length_take];omega),List.take_take,Nat.min_eq_left o_,<-qY,<-ht,List.take_take,Nat.min_eq_left o_]
 have eb:row1.drop (i*5+5)=rcs (l.drop i)++cur.drop ((i+1)*5+(rcs (l.drop i)).length):=by
  simp only[row1];rw[List.append_assoc,List.drop_append_of_le_length (by rw[List.length_take];omega),List.drop_of_length_le (by rw[List.length_take];omega),List.nil_append]
 simp only[row2];rw[ea,hr,eb];have hl:(l.length+1)*5=(rcs (l.take i)++rc r++rcs (l.drop i)).length:=by
  rw[wU,wU,hr,hd,aY,List.length_take];omega
 rw[<-List.append_assoc,hl,List.take_left];simp[Rg.insAt,ez,rcs]
theorem qb (g cap:Nat)(l:List Reg)(r:Reg)(i bv c base:Nat)(w:World)(ho:OwnR w base (some ⟨g,0,none⟩) cap l)(xH:base<=w.heap.size)(hf:l.length<=100000)(hi:i<l.length)(hc:l.length+1<=cap)
  (hv:w.heap[bv]? =some (.cells #[.int .u64 r.fr, .int .u64 r.to, .int .u8 r.prot, .int .i64 r.ino, .int .u64 r.off] 45 (0,0)))(xA:bv≠g):
  Calls prog 105 #[.slice (some ⟨g,0,none⟩) l.length cap,.int .i64 i,.slice (some ⟨bv,0,none⟩) 1 c] w
   fun e w'=> ∃A' xq,e= .returned (.slice A' (l.length+1) xq)/\OwnR w' base A' xq (Rg.insAt l i r)/\Below base w w':=by
 rcases ho.2 with⟨h,_⟩|⟨g',xq,cur,he,Fm,hg,VN,Sh,Aq,DO⟩
 ·simp at h
 obtain⟨rfl,rfl⟩:g=g'/\cap=xq:=(by simpa using he);have xG:=row_room (cur:=cur.toList) (l:=l) (i:=i) (cap:=cap) r (by simpa using Aq) DO hi hc;simp only at xG;generalize EM:cur.toList.take ((i+1)*5)++rcs (l.drop i)++cur.toList.drop ((i+1)*5+(rcs (l.drop i)).length)=row1 at xG;generalize LR:row1.take (i*5)++rc r++row1.drop (i*5+(rc r).length)=row2 at xG;obtain⟨yN,xW,xB⟩:=xG;have hd:(rcs (l.drop i)).length=(l.length-i)*5:=(by rw[aY,List.length_drop]);have hlen:(rcs l).length=l.length*5:=aY l;have Vc: ∀j v,(rcs (l.drop i))[j]? =some v->w.drew.cell? ((⟨g,i*5,none⟩:Addr).add j)=some v:=fun j v hj=>by
  have RP:j<(l.length-i)*5:=(by rw[<-hd];exact(List.getElem?_eq_some_iff.1 hj).1);have zA:(⟨g,i*5,none⟩:Addr).add j=⟨g,i*5+j,none⟩:=by unfold Addr.add;split<;>simp_all
  rw[zA];show w.cell? _ =_;rw[cell_of_row w g (i*5+j) cur _ _ hg];rw[<-ra,List.getElem?_drop,<-DO,List.getElem?_take,if_pos o_]at hj;simpa using hj
 have ME: ∀ty dc sc,(Builtin.copy_ #[59,59] ty #[.slice (some ⟨g,(i+1)*5,none⟩) (l.length-i) dc,.slice (some ⟨g,i*5,none⟩) (l.length+1-i) sc]).run prog w.drew= .ok (goInt ((l.length-i:Nat):Int)) (w.drew.setRow g row1.toArray):=fun ty dc sc=>by
  rw[dt (P:=prog) w.drew 59 59 ty 45 5 g ((i+1)*5) (l.length-i) dc ⟨g,i*5,none⟩ (l.length+1-i) sc cur 45 (rcs (l.drop i)) underlying59 jM hg (l.length-i)
   (by simp only[Nat.min_def];split<;>omega) (by rw[hd]) Vc (by rw[hd,Aq];omega) (bU _),EM]
 have DA:(w.drew.setRow g row1.toArray).heap[g]? =some (.cells row1.toArray 45 (0,0)):=setRow_heap w.drew g cur _ _ _ hg;have Lx:(w.drew.setRow g row1.toArray).heap[bv]? =some (.cells #[.int .u64 r.fr,.int .u64 r.to,.int .u8 r.prot,.int .i64 r.ino,.int .u64 r.off] 45 (0,0)):=(setRow_other w.drew g bv _ xA).trans hv;generalize Ad:w.drew.setRow g row1.toArray=W1 at *
 have MD: ∀ty dc sc,(Builtin.copy_ #[59,59] ty #[.slice (some ⟨g,i*5,none⟩) (l.length+1-i) dc,.slice (some ⟨bv,0,none⟩) 1 sc]).run prog W1= .ok (goInt ((1:Nat):Int)) (W1.setRow g row2.toArray):=fun ty dc sc=>by
  rw[dt (P:=prog) W1 59 59 ty 45 5 g (i*5) (l.length+1-i) dc ⟨bv,0,none⟩ 1 sc row1.toArray 45 (rc r) underlying59 jM DA 1
   (by simp only[Nat.min_def];split<;>omega) rfl (World.news_of_block (cs:= #[.int .u64 r.fr,.int .u64 r.to,.int .u8 r.prot,.int .i64 r.ino,.int .u64 r.off]) Lx) (by simp[yN,rc];omega) (by rw[<-iZ];exact bU _)]
  simp only[<-LR]
 have yo:OwnR (W1.setRow g row2.toArray) base (some ⟨g,0,none⟩) cap (Rg.insAt l i r):=by
  have Df:(Rg.insAt l i r).length=l.length+1:=(by simp[Rg.insAt];omega);refine⟨aY _,.inr ⟨g,cap,row2.toArray,rfl,Fm,setRow_heap W1 g _ _ _ _ DA,by rw[Df];exact hc,Sh,by simpa using xW,?_⟩⟩;rw[Df];simpa using xB
 have yw:Below base w (W1.setRow g row2.toArray):=by
  subst Ad;exact below_setRow (below_setRow ((xp base w).drew) Fm _) Fm _
 have hov: ∀lb cb,(callFunc 152 #[.slice (some ⟨bv,0,none⟩) 1 c,.slice (some ⟨g,(i+1)*5,none⟩) lb cb]).run prog w= .ok (.value (.bool false)) w:=fun lb cb=>by
  rw[run_callFunc_extern func152 k_ k_ k_ (e:=Extern.SlicesOverlaps.overlaps #[59,59] #[4]) k_,
   Lib.run_overlaps_apart w 59 4 45 underlying59 5 (fun w=>k_) ⟨bv,0,none⟩ ⟨g,(i+1)*5,none⟩ 1 c lb cb xA 45 45 5 (cap*5) (by simp[World.shape?,hv]) (by simp[World.shape?,hg,Aq]) o_ (by simp[World.frozen?,hv]) (by simp[World.frozen?,hv])]
  rfl
 obtain⟨Fe,zU,Gc,yW,HL⟩:=zh5 ME MD yo yw (rfl:l.length=l.length);clear ME MD yo yw xB yN xW EM LR DA Lx Ad DO Aq hd hlen ho he hg hv;generalize l.length=n at *
 have ym: ¬((i:Int)=(n:Int)):=o_;have hin2:((i:Int)==(n:Int))=false:=t_;go_enter func105,ntmps105;go_wp2_with (simp only[hov]);have Ad:IntKind.i64.wrap ((i:Int)+1)=(i:Int)+1:=IntWalk.i64_in _ o_;have xu:(0:Int)<=(i:Int)+1:=o_;have htn:((i:Int)+1).toNat=i+1:=o_;have xx: ¬(cap=i+1):=o_;have xE:(i:Int)<=(n:Int)+1:=o_;have zJ:(i:Int)<=(n:Int):=o_;have yG: ¬(cap=i):=o_;go_region_law (refine gC rfl (.tmp 73) (.tmp 76) 59 59 rfl _ _ (by simp[Act.eval,Act.put];rfl) (by simp[Act.eval,Act.put];rfl) (Fe.o _ _ _) ?_);go_wp2_with (refine fh _ rfl (.tmp 80) (.tmp 81) 59 59 rfl _ _ rfl rfl (zU.o _ _ _) ?_);go_ret;exact⟨some ⟨g,0,none⟩,cap,rfl,Gc.o,yW.o⟩
theorem row_grow {gc:Nat}(r:Reg)(hs:cur.length=gc*5)(ht:cur.take (i*5)=rcs (l.take i))(hi:i<l.length)(hc:l.length+1<=gc):
  let row1:=cur.take (i*5)++rc r++cur.drop (i*5+(rc r).length);let row2:=row1.take ((i+1)*5)++rcs (l.drop i)++row1.drop ((i+1)*5+(rcs (l.drop i)).length)
  row1.length=gc*5/\row2.length=gc*5/\row2.take ((l.length+1)*5)=rcs (Rg.insAt l i r):=by
 intro row1 row2;have hd:(rcs (l.drop i)).length=(l.length-i)*5:=(by rw[aY,List.length_drop]);have hr:(rc r).length=5:=rfl;have h1:row1.length=gc*5:=by
  simp only[row1,wU,List.length_take,List.length_drop,hr,hs];omega
 have h2:row2.length=gc*5:=by
  simp only[row2,wU,List.length_take,List.length_drop,hd,h1];omega
 refine⟨h1,h2,?_⟩;have ht5:(rcs (l.take i)).length=i*5:=(by rw[aY,List.length_take,Nat.min_eq_left o_]);have ea:row1.take ((i+1)*5)=rcs (l.take i)++rc r:=by
  simp only[row1];rw[ht,List.take_append_of_le_length (by rw[wU,ht5,hr];omega),List.take_of_length_le (by rw[wU,ht5,hr];omega)]
 simp only[row2];rw[ea];have hl:(l.length+1)*5=(rcs (l.take i)++rc r++rcs (l.drop i)).length:=by
  rw[wU,wU,hr,hd,ht5];omega
 rw[hl,List.take_left];simp[Rg.insAt,ez,rcs]
theorem zero_len (k:Nat):(Builtin.zeroCells (Value.agg #[.int .u64 0,.int .u64 0,.int .u8 0,.int .i64 0,.int .u64 0]).cells k).size=k*5:=by
 rw[size_zeroCells];rfl
theorem qc (g cap:Nat)(l:List Reg)(r:Reg)(i bv c base:Nat)(w:World)(ho:OwnR w base (some ⟨g,0,none⟩) cap l)(xH:base<=w.heap.size)(hf:l.length<=100000)(hi:i<l.length)(hc:cap<l.length+1)
  (hv:w.heap[bv]? =some (.cells #[.int .u64 r.fr, .int .u64 r.to, .int .u8 r.prot, .int .i64 r.ino, .int .u64 r.off] 45 (0,0))):
  Calls prog 105 #[.slice (some ⟨g,0,none⟩) l.length cap,.int .i64 i,.slice (some ⟨bv,0,none⟩) 1 c] w
   fun e w'=> ∃A' xq,e= .returned (.slice A' (l.length+1) xq)/\OwnR w' base A' xq (Rg.insAt l i r)/\Below base w w':=by
 obtain⟨i0,zx,xT,xQ,xX⟩:=info_parts jN;rcases ho.2 with⟨h,_⟩|⟨g',xq,cur,he,Fm,hg,VN,Sh,Aq,DO⟩
 ·simp at h
 obtain⟨rfl,rfl⟩:g=g'/\cap=xq:=(by simpa using he);have KD:=(wO hv).1;have NP:=(wO hg).1;have hd:(rcs (l.drop i)).length=(l.length-i)*5:=(by rw[aY,List.length_drop]);have xw:(rcs (l.take i)).length=i*5:=(by rw[aY,List.length_take,Nat.min_eq_left o_]);have Zy:=grownCap_ge w (l.length+1) cap 45;have hgm:=grownCap_le_maxLen w (l.length+1) cap 45 (by unfold maxLen;omega);have xV: ∀j v,(rcs l)[j]? =some v->w.cell? ((⟨g,0,none⟩:Addr).add j)=some v:=fun j v hj=>by
  have zA:(⟨g,0,none⟩:Addr).add j=⟨g,j,none⟩:=by unfold Addr.add;split<;>simp_all
  rw[zA,cell_of_row w g j cur _ _ hg];rw[<-DO,List.getElem?_take]at hj;split at hj
  ·simpa using hj
  ·cases hj
 have AU: ∀ty,(Builtin.append_ #[59,3] ty #[.slice (some ⟨g,0,none⟩) i cap,.int .i64 ((l.length:Int)+1-(i:Int))]).run prog w=
   .ok (.slice (some ⟨w.heap.size,0,none⟩) (l.length+1) (grownCap w (l.length+1) cap 45)) (w.drew.alloc (.cells ((rcs (l.take i)).toArray++Builtin.zeroCells (Value.agg #[.int .u64 0,.int .u64 0,.int .u8 0,.int .i64 0,.int .u64 0]).cells (l.length+1-i)++Builtin.zeroCells (Value.agg #[.int .u64 0,.int .u64 0,.int .u8 0,.int .i64 0,.int .u64 0]).cells (grownCap w (l.length+1) cap 45-(l.length+1))) 45)):=fun ty=>by
  have hk:((l.length:Int)+1-(i:Int))=((l.length+1-i:Nat):Int):=o_;have ze:i+(l.length+1-i)=l.length+1:=o_;have yL:=Lib.run_append_grow_zeros (P:=prog) w 59 3 ty 45 i0 _ .i64 .i64 underlying59 underlying3 zx xT (some ⟨g,0,none⟩) i cap (rcs (l.take i))
   (run_firstCells_some (P:=prog) w.drew i0.size i ⟨g,0,none⟩ i cap (rcs (l.take i)) (by rw[xQ,xw]) (fun j v hj=>xV j v (by
    rw[<-qY,List.getElem?_take]at hj;split at hj
    ·exact hj
    ·cases hj))) (l.length+1-i) o_ (by rw[xQ];omega) o_ o_ (by rw[xX];omega) (by rw[xX,ze];exact growslice_fits o_ o_)
  rw[ze]at yL;rw[hk];exact yL
 generalize Wt:grownCap w (l.length+1) cap 45=gc at *
 generalize Sf:(rcs (l.take i)).toArray++Builtin.zeroCells (Value.agg #[.int .u64 0,.int .u64 0,.int .u8 0,.int .i64 0,.int .u64 0]).cells (l.length+1-i)++Builtin.zeroCells (Value.agg #[.int .u64 0,.int .u64 0,.int .u8 0,.int .i64 0,.int .u64 0]).cells (gc-(l.length+1))=cur0 at *
 have Sg:cur0.toList.length=gc*5:=by
  rw[<-Sf];simp only[Array.length_toList,Array.size_append,zero_len,List.size_toArray,xw];omega
 have TO:cur0.toList.take (i*5)=rcs (l.take i):=by
  rw[<-Sf];simp only[Array.toList_append,List.append_assoc];rw[<-xw];exact List.take_left
 have xG:=row_grow (cur:=cur0.toList) (l:=l) (i:=i) (gc:=gc) r Sg TO hi Zy;simp only at xG;generalize EM:cur0.toList.take (i*5)++rc r++cur0.toList.drop (i*5+(rc r).length)=row1 at xG;generalize LR:row1.take ((i+1)*5)++rcs (l.drop i)++row1.drop ((i+1)*5+(rcs (l.drop i)).length)=row2 at xG;obtain⟨yN,xW,xB⟩:=xG;have DA:(w.drew.alloc (.cells cur0 45)).heap[w.heap.size]? =some (.cells cur0 45 (0,0)):=heap_alloc_new w.drew _;have Lx:=(wT w.drew (.cells cur0 45) bv KD).trans hv;have Ww:=(wT w.drew (.cells cur0 45) g NP).trans hg;have XH:Below base w (w.drew.alloc (.cells cur0 45)):=((xp base w).drew).alloc xH _;generalize Ad:w.drew.alloc (.cells cur0 45)=W1 at *
 have ME: ∀ty dc sc,(Builtin.copy_ #[59,59] ty #[.slice (some ⟨w.heap.size,i*5,none⟩) (l.length+1-i) dc,.slice (some ⟨bv,0,none⟩) 1 sc]).run prog W1= .ok (goInt ((1:Nat):Int)) (W1.setRow w.heap.size row1.toArray):=fun ty dc sc=>by
  rw[dt (P:=prog) W1 59 59 ty 45 5 w.heap.size (i*5) (l.length+1-i) dc ⟨bv,0,none⟩ 1 sc cur0 45 (rc r) underlying59 jM DA 1
   (by simp only[Nat.min_def];split<;>omega) rfl (World.news_of_block (cs:= #[.int .u64 r.fr,.int .u64 r.to,.int .u8 r.prot,.int .i64 r.ino,.int .u64 r.off]) Lx) (by rw[<-Array.length_toList,Sg];simp[rc];omega) (by rw[<-iZ];exact bU _),EM]
 have yo:=setRow_heap W1 w.heap.size cur0 row1.toArray _ _ DA;have Wv:=(setRow_other W1 w.heap.size g row1.toArray o_).trans Ww;have XG:=below_setRow XH xH row1.toArray;generalize yl:W1.setRow w.heap.size row1.toArray=W2 at *
 have MD: ∀ty dc sc,(Builtin.copy_ #[59,59] ty #[.slice (some ⟨w.heap.size,(i+1)*5,none⟩) (l.length-i) dc,.slice (some ⟨g,i*5,none⟩) (l.length-i) sc]).run prog W2.drew= .ok (goInt ((l.length-i:Nat):Int)) (W2.drew.setRow w.heap.size row2.toArray):=fun ty dc sc=>by
  rw[dt (P:=prog) W2.drew 59 59 ty 45 5 w.heap.size ((i+1)*5) (l.length-i) dc ⟨g,i*5,none⟩ (l.length-i) sc row1.toArray 45 (rcs (l.drop i)) underlying59 jM yo (l.length-i)
   (by simp only[Nat.min_def];split<;>omega) (by rw[hd]) (fun j v hj=>by
    have RP:j<(l.length-i)*5:=(by rw[<-hd];exact(List.getElem?_eq_some_iff.1 hj).1);have zA:(⟨g,i*5,none⟩:Addr).add j=⟨g,i*5+j,none⟩:=by unfold Addr.add;split<;>simp_all
    rw[zA];show W2.cell? _ =_;rw[cell_of_row W2 g (i*5+j) cur _ _ Wv];rw[<-ra,List.getElem?_drop,<-DO,List.getElem?_take,if_pos o_]at hj;simpa using hj) (by simp[yN,hd];omega) (bU _)]
  simp only[<-LR]
 have CT:OwnR (W2.drew.setRow w.heap.size row2.toArray) base (some ⟨w.heap.size,0,none⟩) gc (Rg.insAt l i r):=by
  have Df:(Rg.insAt l i r).length=l.length+1:=(by simp[Rg.insAt];omega);refine⟨aY _,.inr ⟨w.heap.size,gc,row2.toArray,rfl,xH,setRow_heap W2.drew w.heap.size _ _ _ _ yo,by rw[Df];exact Zy,hgm,by simpa using xW,?_⟩⟩;rw[Df];simpa using xB
 have EX:Below base w (W2.drew.setRow w.heap.size row2.toArray):=below_setRow XG.drew xH _;obtain⟨HA,Fe,zU,Fw,yZ⟩:=zh5 AU ME MD CT EX;clear AU ME MD CT EX xB yN xW EM LR DA Lx Ww XH yo Wv XG Ad yl DO Aq hd xw ho he hg hv xV Wt Sf Sg TO zx xT xQ xX hgm;generalize l.length=n at *
 have ym: ¬((i:Int)=(n:Int)):=o_;have hin2:((i:Int)==(n:Int))=false:=t_;have Ad:IntKind.i64.wrap ((i:Int)+1)=(i:Int)+1:=IntWalk.i64_in _ o_;have xu:(0:Int)<=(i:Int)+1:=o_;have htn:((i:Int)+1).toNat=i+1:=o_;have xE:(i:Int)<=(n:Int)+1:=o_;have zJ:(i:Int)<=(n:Int):=o_;have Bv: ¬(cap=i):=o_;have Bu: ¬(gc=i):=o_;have Qo: ¬(gc=i+1):=o_;go_enter func105,ntmps105;go_wp2_with (first
  |(at_builtin;refine Lib.wpList_append_run _ rfl (.tmp 34) (.tmp 39) 59 3 rfl _ _ rfl rfl _ _ (HA.o _) ?_)
  |(refine fh _ rfl (.tmp 43) (.tmp 44) 59 59 rfl _ _ rfl rfl (Fe.o _ _ _) ?_))
 go_region_law (refine gC rfl (.tmp 50) (.tmp 53) 59 59 rfl _ _ (by simp[Act.eval,Act.put];rfl) (by simp[Act.eval,Act.put];rfl) (zU.o _ _ _) ?_);go_wp2;go_ret;exact⟨some ⟨w.heap.size,0,none⟩,gc,rfl,Fw.o,yZ.o⟩
end
section
open Go.RowKit Go.Sort
theorem jn {x:Int}(h0:0<=x)(h1:x<=18446744073709551615):w64 x=x:=by
 unfold w64;rw[IntKind.wrap_u64];omega
theorem ke (x:Int):w64 x=x % 18446744073709551616:=by
 unfold w64;exact IntKind.wrap_u64 x
variable {r:Reg}
theorem aE (h:Rg.one r=true):r.fr<r.to/\r.to<=140737488355328/\r.fr % 4096=0/\r.to % 4096=0/\r.prot<=7/\((r.ino= -1/\r.off=0)\/(0<=r.ino/\r.off % 4096=0/\r.off+(r.to-r.fr)<=281474976710656)):=by
 simpa [Rg.one]using h
variable {x:Reg}
theorem iq (h:Rg.one x=true)(ya:x.Ok):Rg.part x x.fr x.to=x:=by
 obtain⟨h1,h2,h3,h4,h5,h6⟩:=aE h;unfold Rg.part;have e:w64 (x.off+w64 (x.fr-x.fr))=x.off:=by
  rw[Int.sub_self,jn (x:=0) o_ o_,Int.add_zero,jn ya.off0 ya.off1]
 rcases h6 with⟨hi,ho⟩|⟨hi,_⟩
 ·rw[if_pos hi];obtain⟨a,b,c,d,e⟩:=x
  simp_all
 ·rw[if_neg o_,e]
theorem eA (h:Rg.one x=true)(a b:Int):Rg.part x a b=Rg.rpart x a b:=by
 obtain⟨h1,h2,h3,h4,h5,h6⟩:=aE h;unfold Rg.part Rg.rpart;rcases h6 with⟨hi,ho⟩|⟨hi,_⟩
 ·rw[if_pos hi,if_pos hi,ho]
 ·rw[if_neg o_,if_neg o_]
variable {a b:Int}
theorem ip (h:a<b):Rg.pc x a b true=[Rg.part x a b]:=by simp[Rg.pc,h]
theorem lB (h: ¬a<b):Rg.pc x a b true=[]:=by simp[Rg.pc];omega
theorem pc_false :Rg.pc x a b false=[]:=by simp[Rg.pc]
variable {f t:Int}
theorem uz (h:Rg.one x=true)(ya:x.Ok)(yS:f<t):Rg.run1 f t bW x=Rg.wo1 f t x:=by
 have xw:=(aE h).1;unfold Rg.run1 bW Rg.wo1;simp only[pc_false,List.nil_append];by_cases c1:x.to<=f
 ·rw[if_pos (.inl c1),Int.min_eq_left c1,ip xw,Int.max_eq_right o_,lB o_,iq h ya];rfl
 ·by_cases c2:t<=x.fr
  ·rw[if_pos (.inr c2),Int.min_eq_right o_,lB o_,Int.max_eq_left o_,ip xw,iq h ya];rfl
  ·rw[if_neg o_,Int.min_eq_right o_,Int.max_eq_right o_];congr 1
   ·split
    ·rename_i d;rw[ip d,eA h]
    ·rename_i d;rw[lB d]
   ·split
    ·rename_i d;rw[ip d,eA h]
    ·rename_i d;rw[lB d]
variable {l:List Reg}
theorem qV (h: ∀x∈l,Rg.one x=true)(ya:bG l)(yS:f<t):Rg.run f t bW l=Rg.without l f t:=by
 unfold Rg.run Rg.without
 induction l with
 |nil=>rfl
 |cons x l ih=>
  rw[xo,xo,uz (h x s_) (ya x s_) yS,ih (fun y hy=>h y (by simp[hy])) (fun y hy=>ya y (by simp[hy]))]
def fS (l:List Reg):Prop:=l.Pairwise (fun a b=>a.to<=b.fr)/\ ∀x∈l,x.fr<x.to
theorem ck (h:Rg.right l=true):(∀k,k<l.length->Rg.okAt l k=true)/\l.length<=64:=by
 unfold Rg.right at h;rw[Bool.and_eq_true,List.all_eq_true]at h;exact⟨fun k hk=>h.1 k (List.mem_range.2 hk),by simpa using h.2⟩
theorem dE (h:Rg.right l=true): ∀x∈l,Rg.one x=true:=fun x hx=>by
 obtain⟨k,hk,e⟩:=List.mem_iff_getElem.1 hx;have h1:=(ck h).1 k hk;have h2:l[k]? =some x:=(by rw[wV hk,e]);unfold Rg.okAt at h1;rw[h2]at h1;simp only[Bool.and_eq_true]at h1;exact h1.1
theorem iW (h:Rg.right l=true){j:Nat}{p:Reg}(hp:l[j]? =some p)(hr:l[j+1]? =some r):p.to<=r.fr/\Rg.joins p r=false:=by
 have hk:j+1<l.length:=(List.getElem?_eq_some_iff.1 hr).1;have h1:=(ck h).1 (j+1) hk;rw[dg hr hp,Bool.and_eq_true]at h1;simpa using h1.2
theorem cS (h:Rg.right l=true):fS l:=by
 have h1: ∀x∈l,x.fr<x.to:=fun x hx=>(aE (dE h x hx)).1;refine⟨?_,h1⟩;rw[List.pairwise_iff_getElem];have key: ∀d i (hi:i<l.length) (hj:i+d+1<l.length),l[i].to<=(l[i+d+1]'hj).fr:=by
  intro d
  induction d with
  |zero=>
   intro i hi hj;exact(iW h (wV hi) (wV hj)).1
  |succ d ih=>
   intro i hi hj;have h2:=ih i hi o_;have h3:=(iW h (j:=i+d+1) (wV o_) (wV hj)).1;have h4:=h1 (l[i+d+1]' o_) (List.getElem_mem _);exact Int.le_trans h2 (Int.le_trans (Int.le_of_lt h4) h3)
 intro i j hi hj ER;have e:j=i+(j-i-1)+1:=o_;have:=key (j-i-1) i hi o_;simp only[<-e]at this;exact this
theorem lF {y:Reg}(yS:f<t)(hx:x.fr<x.to)(h:y∈Rg.wo1 f t x):x.fr<=y.fr/\y.fr<y.to/\y.to<=x.to:=by
 unfold Rg.wo1 at h;split at h
 ·simp at h;subst h;omega
 ·rw[List.mem_append]at h;rcases h with h|h<;>split at h
  ·simp at h;subst h;simp[Rg.rpart];omega
  ·simp at h
  ·simp at h;subst h;simp[Rg.rpart];omega
  ·simp at h
theorem tQ (yS:f<t)(hx:x.fr<x.to):(Rg.wo1 f t x).Pairwise (fun a b=>a.to<=b.fr):=by
 unfold Rg.wo1;split
 ·simp
 ·split<;>split<;>simp[Rg.rpart]
  omega
theorem gZ (h:fS l)(yS:f<t):fS (Rg.without l f t):=by
 refine⟨?_,fun y hy=>?_⟩
 ·unfold Rg.without;rw[List.pairwise_flatMap];refine⟨fun x hx=>tQ yS (h.2 x hx),?_⟩;refine List.Pairwise.imp_of_mem (fun {a b} ha hb Ua x hx y hy=>?_) h.1;have h1:=lF yS (h.2 a ha) hx;have h2:=lF yS (h.2 b hb) hy;omega
 ·obtain⟨x,hx,hy⟩:=List.mem_flatMap.1 hy;exact(lF yS (h.2 x hx) hy).2.1
theorem fS.sorted (h:fS l):jX l:=fun i j a b ER ha hb=>by
 obtain⟨hi,e1⟩:=List.getElem?_eq_some_iff.1 ha;obtain⟨hj,e2⟩:=List.getElem?_eq_some_iff.1 hb;have h1:=List.pairwise_iff_getElem.1 h.1 i j hi hj ER;rw[e1,e2]at h1;have h2:=h.2 a (xb ha);omega
theorem vq {i:Nat}(hi:i<=l.length)(h:cZ l r i i):Rg.insAt l i r=Rg.ins l r:=by
 induction l generalizing i with
 |nil=>
  have:i=0:=(by simpa using hi);subst this;rfl
 |cons x l ih=>
  cases i with
  |zero=>
   have:=h.2 0 x o_ rfl;simp[Rg.insAt,Rg.ins,this]
  |succ i=>
   have h1:=h.1 0 x o_ rfl;have h2:=ih (i:=i) (by simpa using hi) ⟨fun k a hk e=>h.1 (k+1) a o_ (by simpa using e),fun k a hk e=>h.2 (k+1) a o_ (by simpa using e)⟩;simp only[Rg.insAt,Rg.ins,if_neg (show¬r.fr<x.fr by omega)]at h2⊢;rw[<-h2];rfl
end
section
open Go.RowKit Go.Sort
def Rg.put (l:List Reg)(r:Reg):List Reg×Int:=if Rg.right l=true/\Rg.one r=true then Rg.few (Rg.joined (Rg.ins (Rg.without l r.fr r.to) r))else([],1)
theorem td (A:Option Addr)(cap:Nat)(l:List Reg)(r:Reg)(i bv c base:Nat)(w:World)(ho:OwnR w base A cap l)(xH:base<=w.heap.size)(hf:l.length<=100000)(hi:i<=l.length)
  (hv:w.heap[bv]? =some (.cells #[.int .u64 r.fr, .int .u64 r.to, .int .u8 r.prot, .int .i64 r.ino, .int .u64 r.off] 45 (0,0)))(xA: ∀g,A.map (·.block)=some g->bv≠g):
  Calls prog 105 #[.slice A l.length cap,.int .i64 i,.slice (some ⟨bv,0,none⟩) 1 c] w
   fun e w'=> ∃A' xq,e= .returned (.slice A' (l.length+1) xq)/\OwnR w' base A' xq (Rg.insAt l i r)/\Below base w w':=by
 by_cases he:i=l.length
 ·subst he;refine(tc A cap l r bv c base w ho xH hf hv).mono ?_;rintro e w'⟨A',xq,h1,h2,h3⟩;refine⟨A',xq,h1,?_,h3⟩;simpa [Rg.insAt]using h2
 ·have xw:i<l.length:=o_;rcases ho.form with⟨_,h2,_⟩|⟨g,rfl,h2,h3,h4⟩
  ·rw[h2]at xw;simp at xw
  ·by_cases hr:l.length+1<=cap
   ·exact qb g cap l r i bv c base w ho xH hf xw hr hv (xA g rfl)
   ·exact qc g cap l r i bv c base w ho xH hf xw o_ hv
theorem srch_of {w:World}{gr cap base:Nat}{A:Option Addr}{out:List Reg}{r:Reg}(ho:OwnR w base A cap out)(JK:gr<w.heap.size)(hb:w.heap[gr]? =some (.cells #[.int .u64 r.fr, .int .u64 r.to, .int .u8 r.prot, .int .i64 r.ino, .int .u64 r.off] 45 (0,0))):
  Srch (w.alloc (.cells #[.slice A out.length cap] 59)) w.heap.size gr A cap out r (w.alloc (.cells #[.slice A out.length cap] 59)).heap.size:=by
 refine⟨s_,s_,?_,t_,fun k x hx=>?_⟩
 ·exact(bE ((wT w _ gr JK).trans hb)).c0
 ·rcases ho.form with⟨_,h,_⟩|⟨g,rfl,h2,h3,h4⟩
  ·rw[h]at hx;simp at hx
  ·exact⟨g,rfl,t_,((ho.elem hx).alloc _).c0⟩
theorem put_any (r:Reg)(A:Option Addr)(n cap:Nat)(w:World)(l:List Reg)(hl:RSl w w.heap.size A n cap l)(ya:bG l)(hr:r.Ok):
  Calls prog 62 #[.slice A n cap,.agg #[.int .u64 (r).fr,.int .u64 (r).to,.int .u8 (r).prot,.int .i64 (r).ino,.int .u64 (r).off]] w
   fun e w'=> ∃A' xq,e= .returned (.tuple #[.slice A' (Rg.put l r).1.length xq,.int .i64 (Rg.put l r).2])/\OwnR w' w.heap.size A' xq (Rg.put l r).1/\Below w.heap.size w w':=by
 have An:=wP hl.len;have yT:Below w.heap.size w (w.alloc (.cells #[.int .u64 r.fr,.int .u64 r.to,.int .u8 r.prot,.int .i64 r.ino,.int .u64 r.off] 45)):=by exact wQ
 have AM:=(hl.below yT (wS _)).more (B':=(w.alloc (.cells #[.int .u64 r.fr,.int .u64 r.to,.int .u8 r.prot,.int .i64 r.ino,.int .u64 r.off] 45)).heap.size) s_;have KJ:=ol A n cap _ l AM ya;cases yM:Rg.right l with
 |false=>
  have HP:Hid (Rg.put l r=([],1)):=wP (by simp[Rg.put,yM]);rw[yM]at KJ;have HR:=wP KJ;clear KJ yM hl AM yT;go_enter func62,ntmps62;go_wp2_with (go_at_call 98;refine(HR.o).mono ?_;rintro e w1⟨rfl,xu⟩);go_ret2;refine⟨none,0,?_,?_,?_⟩
  ·rw[HP.o];rfl
  ·rw[HP.o];exact OwnR.nil _ _
  ·have:=xu.size;simp at this
   exact wQ
 |true=>
  rw[yM]at KJ;have HR:=wP KJ;have CD:=(ck yM).2;have Yj:=wP yM;clear KJ yM;cases FL:Rg.one r with
  |false=>
   have HP:Hid (Rg.put l r=([],1)):=wP (by simp[Rg.put,FL]);have hM:=fun W=>mN r W hr;rw[FL]at hM;have HM:=wP hM;clear hM FL hl AM yT;go_enter func62,ntmps62;go_wp2_with (first
    |(go_at_call 98;refine(HR.o).mono ?_;rintro e w1⟨rfl,xu⟩;obtain⟨hc,Qc⟩:=bcell xu;have hz:=xu.size;simp at hz;have xT:w.heap.size<w1.heap.size:=o_)
    |(go_at_call 99;refine(HM.o _).mono ?_;rintro e w2⟨rfl,xx⟩;have xX:=xx.size))
   go_ret2;refine⟨none,0,?_,?_,?_⟩
   ·rw[HP.o];rfl
   ·rw[HP.o];exact OwnR.nil _ _
   ·exact wQ
  |true=>
   have HP:Hid (Rg.put l r=Rg.few (Rg.joined (Rg.ins (Rg.without l r.fr r.to) r))):=wP (by simp[Rg.put,Yj.o,FL]);have hM:=fun W=>mN r W hr;rw[FL]at hM;have HM:=wP hM;have yS:=(aE FL).1;have GI:=qV (l:=l) (f:=r.fr) (t:=r.to) (dE Yj.o) ya yS;have AU:=(gZ (cS Yj.o) yS).sorted;have UL:=cR l r.fr r.to;obtain⟨HG,HS⟩:=zh2 GI AU;clear hM FL GI AU;go_enter func62,ntmps62;go_wp2_with fail;refine(HR.o).mono ?_;rintro e w1⟨rfl,xu⟩;have xQ:=xu.size;simp at xQ;have zY:=(xu.block _ s_).trans (heap_alloc_new w (.cells #[.int .u64 r.fr,.int .u64 r.to,.int .u8 r.prot,.int .i64 r.ino,.int .u64 r.off] 45));have yN:=(AM.below xu (wS _)).more xu.size;obtain⟨a0,a1,a2,a3,a4⟩:=bE zY;clear AM;go_wp2_with fail;refine(HM.o _).mono ?_;rintro e w2⟨rfl,xx⟩;have xX:=xx.size;have Ak:=(xx.block _ o_).trans zY;have xW:=(yN.below xx (wS _)).more xx.size;clear a0 a1 a2 a3 a4 yN zY;obtain⟨a0,a1,a2,a3,a4⟩:=bE Ak;go_wp2_with fail;refine(jr r.fr r.to A n cap w2 l xW (by have:=An.o;omega)).mono ?_;rintro e w3⟨A1,c1,rfl,Am,xE⟩;rw[HG.o]at Am⊢;have zy:=xE.size;have EJ:=(xE.block _ o_).trans Ak;clear a0 a1 a2 a3 a4 xW Ak;obtain⟨a0,a1,a2,a3,a4⟩:=bE EJ;generalize Mb:Rg.without l r.fr r.to=out at *
   have hof:out.length<=200:=o_;go_wp2_with fail;have Iz:=srch_of (r:=r) Am o_ EJ;have hsc:=sn w3.heap.size w.heap.size A1 c1 out r _ Iz o_ HS.o;have AY:=Am.alloc (.cells #[.slice A1 out.length c1] 59);have Bm:=(wT w3 (.cells #[.slice A1 out.length c1] 59) _ o_).trans EJ;have xG:=Am.row;have BE:=Iz.cell;refine hsc.mono ?_;rintro e w5⟨⟨i,hi,rfl,Vd⟩,zJ⟩;have Iw:=zJ.size;simp at Iw;have zE:=AY.below zJ (wS _);have BA:=(zJ.block _ t_).trans Bm;have hcl5:=(zJ.cell (p:=⟨w3.heap.size,0,none⟩) s_).trans BE;have SPL:=wP Vd;clear a0 a1 a2 a3 a4 Iz hsc EJ Bm AY BE Vd;obtain⟨a0,a1,a2,a3,a4⟩:=bE BA;go_wp2_with fail;refine(td A1 c1 out r i w5.heap.size 1 w2.heap.size _ (zE.alloc _) t_ o_ hi (heap_alloc_new w5 _) (fun g hg=>by have:=xG g hg;omega)).mono ?_;rintro e w6⟨A6,c6,rfl,Bq,Bv⟩;rw[vq hi SPL.o]at Bq;have Mn:(Rg.ins out r).length=out.length+1:=qe out r;have Vq:=Bq.rsl o_;rw[Mn]at Vq;have NI:=Bv.size;simp at NI;clear a0 a1 a2 a3 a4 hcl5 zE BA;go_wp2_with fail;refine(mZ A6 _ c6 w6 _ Vq o_).mono ?_;rintro e w7⟨A7,c7,rfl,Ko,Bu⟩;have TJ:=Bu.size;go_wp2_with fail;go_ret2;have BL:=HP.o;refine⟨A7,c7,?_,?_,?_⟩
   ·rw[BL];rfl
   ·rw[BL];exact Ko.lower o_
   ·have q1:Below w.heap.size w w2:=by exact wQ
    have q2:Below w.heap.size w w3:=q1.trans (xE.mono o_);have q3:Below w.heap.size w w5:=(q2.alloc o_ _).trans (zJ.mono t_);have q4:Below w.heap.size w w6:=(q3.alloc o_ _).trans (Bv.mono o_);exact q4.trans (Bu.mono o_)
theorem rput_any (r:Reg)(A:Option Addr)(n cap:Nat)(w:World)(l:List Reg)(hl:RSl w w.heap.size A n cap l)(ya:bG l)(hr:r.Ok):
  Calls prog 87 #[.slice A n cap,.agg #[.int .u64 (r).fr,.int .u64 (r).to,.int .u8 (r).prot,.int .i64 (r).ino,.int .u64 (r).off]] w
   fun e w'=> ∃A' xq,e= .returned (.tuple #[.slice A' (Rg.put l r).1.length xq,.int .i64 (Rg.put l r).2])/\OwnR w' w.heap.size A' xq (Rg.put l r).1/\Below w.heap.size w w':=by
 have An:=wP hl.len;have yT:Below w.heap.size w (w.alloc (.cells #[.int .u64 r.fr,.int .u64 r.to,.int .u8 r.prot,.int .i64 r.ino,.int .u64 r.off] 45)):=by exact wQ
 have AM:=(hl.below yT (wS _)).more (B':=(w.alloc (.cells #[.int .u64 r.fr,.int .u64 r.to,.int .u8 r.prot,.int .i64 r.ino,.int .u64 r.off] 45)).heap.size) s_;have KJ:=lK A n cap _ l AM ya;cases yM:Rg.right l with
 |false=>
  have HP:Hid (Rg.put l r=([],1)):=wP (by simp[Rg.put,yM]);rw[yM]at KJ;have HR:=wP KJ;clear KJ yM hl AM yT;go_enter func87,ntmps87;go_wp2_with (go_at_call 136;refine(HR.o).mono ?_;rintro e w1⟨rfl,xu⟩);go_ret2;refine⟨none,0,?_,?_,?_⟩
  ·rw[HP.o];rfl
  ·rw[HP.o];exact OwnR.nil _ _
  ·have:=xu.size;simp at this
   exact wQ
 |true=>
  rw[yM]at KJ;have HR:=wP KJ;have CD:=(ck yM).2;have Yj:=wP yM;clear KJ yM;cases FL:Rg.one r with
  |false=>
   have HP:Hid (Rg.put l r=([],1)):=wP (by simp[Rg.put,FL]);have hM:=fun W=>pT r W hr;rw[FL]at hM;have HM:=wP hM;clear hM FL hl AM yT;go_enter func87,ntmps87;go_wp2_with (first
    |(go_at_call 136;refine(HR.o).mono ?_;rintro e w1⟨rfl,xu⟩;obtain⟨hc,Qc⟩:=bcell xu;have hz:=xu.size;simp at hz;have xT:w.heap.size<w1.heap.size:=o_)
    |(go_at_call 137;refine(HM.o _).mono ?_;rintro e w2⟨rfl,xx⟩;have xX:=xx.size))
   go_ret2;refine⟨none,0,?_,?_,?_⟩
   ·rw[HP.o];rfl
   ·rw[HP.o];exact OwnR.nil _ _
   ·exact wQ
  |true=>
   have HP:Hid (Rg.put l r=Rg.few (Rg.joined (Rg.ins (Rg.without l r.fr r.to) r))):=wP (by simp[Rg.put,Yj.o,FL]);have hM:=fun W=>pT r W hr;rw[FL]at hM;have HM:=wP hM;have UL:=cR l r.fr r.to;have Hb:=qe (Rg.without l r.fr r.to) r;have hil2:(Rg.ins (Rg.without l r.fr r.to) r).length<=300:=o_;clear Hb;have Cj:=gn (Rg.ins (Rg.without l r.fr r.to) r);clear hM FL;go_enter func87,ntmps87;go_wp2_with fail;refine(HR.o).mono ?_;rintro e w1⟨rfl,xu⟩;have xQ:=xu.size;simp at xQ;have zY:=(xu.block _ s_).trans (heap_alloc_new w (.cells #[.int .u64 r.fr,.int .u64 r.to,.int .u8 r.prot,.int .i64 r.ino,.int .u64 r.off] 45));have yN:=(AM.below xu (wS _)).more xu.size;obtain⟨a0,a1,a2,a3,a4⟩:=bE zY;clear AM;go_wp2_with fail;refine(HM.o _).mono ?_;rintro e w2⟨rfl,xx⟩;have xX:=xx.size;have Ak:=(xx.block _ o_).trans zY;have xW:=(yN.below xx (wS _)).more xx.size;clear a0 a1 a2 a3 a4 yN zY;obtain⟨a0,a1,a2,a3,a4⟩:=bE Ak;have hlD:RSl w2.drew w2.drew.heap.size A n cap l:=xW.below ((xp w2.heap.size w2).drew) (wS _);have hxD:w2.drew.heap[w.heap.size]? =_ :=Ak;generalize Mb:Rg.without l r.fr r.to=out at *
   generalize Kw:Rg.ins out r=outi at *
   generalize hjn:Rg.joined outi=outj at *
   obtain⟨HO,HI,HJ⟩:=zh3 Mb Kw hjn;have AL:w.heap.size<w2.heap.size:=o_;have hn300:n<=64:=(by have:=An.o;omega);clear Mb Kw hjn;go_wp2_with fail;go_region_held3 (fun w'=>w'.cell? ⟨w.heap.size,0,none⟩=some (.int .u64 r.fr)/\w'.cell? ⟨w.heap.size,1,none⟩=some (.int .u64 r.to)/\w'.cell? ⟨w.heap.size,2,none⟩=some (.int .u8 r.prot)/\w'.cell? ⟨w.heap.size,3,none⟩=some (.int .i64 r.ino)/\w'.cell? ⟨w.heap.size,4,none⟩=some (.int .u64 r.off))
    (go_keep)
    (first
     |(go_at_call 141;refine(gK r.fr r.to A n cap _ l hlD o_).mono ?_;rintro e w3⟨A3,c3,rfl,Am,xE⟩;rw[HO.o]at Am⊢;have zy:=xE.size;have hz3':w2.heap.size<=w3.heap.size:=zy;have EJ:=(xE.block w.heap.size AL).trans hxD;have hrs3:=Am.rsl o_;obtain⟨b0,b1,b2,b3,b4⟩:=bE EJ)
     |(go_at_call 140;refine(iT r A3 _ c3 w3 out hrs3 o_).mono ?_;rintro e w4⟨A4,c4,rfl,AY,yG⟩;rw[HI.o]at AY⊢;have CU:=yG.size;have Bm:=(yG.block w.heap.size o_).trans EJ;have hrs4:=AY.rsl o_;obtain⟨d0,d1,d2,d3,d4⟩:=bE Bm)
     |(go_at_call 139;refine(kB A4 _ c4 w4 outi hrs4 o_).mono ?_;rintro e w5⟨A5,c5,rfl,zE,zJ⟩;rw[HJ.o]at zE⊢;have Iw:=zJ.size;have BA:=(zJ.block w.heap.size o_).trans Bm;obtain⟨e0,e1,e2,e3,e4⟩:=bE BA)
     |(go_at_call 138;refine(qn A5 c5 w5 _ outj zE o_).mono ?_;rintro e w6⟨A6,c6,rfl,Bq,rfl⟩))
   go_wp2;go_ret2;have BL:=HP.o;refine⟨A6,c6,?_,?_,?_⟩
   ·rw[BL];rfl
   ·rw[BL];exact Bq.lower o_
   ·have q1:Below w.heap.size w w2.drew:=by exact wQ
    have q2:Below w.heap.size w w3:=q1.trans (xE.mono (by show w.heap.size<=w2.heap.size;omega));exact(q2.trans (yG.mono o_)).trans (zJ.mono o_)
end
section
open Go.ChangeShapes Go.WideShapes Go.ChangeAt Go.RowKit Go.Deep Go.Joins
section
variable {H:Type}{enc:TypeId×Value->H}{P:Program}{w:World}{base:Nat}{spare:Nat->Bool}{held:Bool}
theorem eB {t e:TypeId}{fs:Array Field}{fuel:Nat}{cs:List Value}{x:DataW H×List MemPlace}(ht:P.underlying t=some (.slice e))(he:P.underlying e=some (.struct fs))
  (yv:oneCellFields P fs=true)(hC:P.cellsOf e=fs.size)(h:DataW.trod enc P w base spare held fuel t cs=some x):
  (cs=[.slice none 0 0]/\x=(.nil,[]))\/
  ∃(a:Addr) (len cap m:Nat) (D:Nat->DataW H) (Pl:Nat->List MemPlace),cs=[.slice (some a) len cap]/\base<=a.block/\len<=cap/\cap<=maxLen/\m=(if spare a.block then cap else len)/\
   x=(.slice ((List.range len).map D) ((List.range (m-len)).map fun j=>D (len+j)),MemPlace.row a (m*fs.size)++(List.range m).flatMap Pl)/\
   ∀i,i<m-> ∃(ys:List (DataW H×List MemPlace)) (n:Nat),D i= .agg (ys.map (·.1))/\Pl i=ys.flatMap (·.2)/\ys.length=fs.size/\
    ∀(j:Nat) (f:Field),fs[j]? =some f-> ∃(v:Value) (y:DataW H×List MemPlace),w.cell? (a.add (i*fs.size+j))=some v/\ys[j]? =some y/\DataW.trod enc P w base spare held n f.type [v]=some y:=by
 rcases open_slice ht h with h0|⟨a,len,cap,m,n,D,Pl,Aq,hb,hl,hm,EC,hx,hi⟩
 ·exact .inl h0
 ·refine .inr ⟨a,len,cap,m,D,Pl,Aq,hb,hl,hm,EC,by rw[hC]at hx;exact hx,fun i him=>?_⟩;obtain⟨cs',hc,ht'⟩:=hi i him;rw[hC]at hc;obtain⟨ys,n',VS,hy,hlen,TL,hf⟩:=DataW.trod_struct he ht';obtain⟨_,BE,yr⟩:=World.cells?_some hc;simp only[Prod.mk.injEq]at hy;refine⟨ys,n',hy.1,hy.2,TL,fun j f hj=>?_⟩;obtain⟨ho,hk⟩:=hone_of yv j f hj;have Cj:j<fs.size:=(wO hj).1;have xV:=yr j Cj;have hv:cs'[j]? =some (cs'[j]' o_):=wV o_;have h1:=hf j f hj;rw[ho,hk]at h1;have VE:(cs'.drop j).take 1=[cs'[j]' o_]:=by
   rw[List.drop_eq_getElem_cons o_];rfl
  rw[VE]at h1;have hys:ys[j]? =some (ys[j]' o_):=wV o_;refine⟨_,_,?_,hys,h1.trans hys⟩;rw[<-Go.Deep.add_add,xV,hv]
end
section
variable {H:Type}{enc:TypeId×Value->H}{P:Program}{w:World}{base:Nat}{spare:Nat->Bool}{held:Bool}
end
theorem reg_ok {a b c d e:Int}(h0:(Lit.int .u64 a).wf=true)(h1:(Lit.int .u64 b).wf=true)(h2:(Lit.int .u8 c).wf=true)(h3:(Lit.int .i64 d).wf=true)(h4:(Lit.int .u64 e).wf=true):Reg.Ok ⟨a,b,c,d,e⟩:=
 ⟨(bounds_u64 h0).1,(bounds_u64 h0).2,(bounds_u64 h1).1,(bounds_u64 h1).2,(bounds_u8 h2).1,(bounds_u8 h2).2,(bounds_i64 h3).1,(bounds_i64 h3).2,(bounds_u64 h4).1,(bounds_u64 h4).2⟩
section
variable {H:Type}{enc:TypeId×Value->H}{w:World}{base:Nat}{spare:Nat->Bool}{held:Bool}
end
end
section
open Go.RowKit Go.Sort
def Rg.stretch (l:List Reg)(f t:Int):Bool:=Rg.right l&&Rg.one ⟨f,t,0, -1,0⟩
def Rg.cut (l:List Reg)(f t:Int):List Reg×Int:=if Rg.stretch l f t=true then Rg.few (Rg.without l f t)else([],1)
variable {l:List Reg}{f t:Int}
theorem bu (h:Rg.stretch l f t=true):Rg.right l=true/\f<t/\t<=140737488355328:=by
 unfold Rg.stretch at h;rw[Bool.and_eq_true]at h;have:=aE h.2;exact⟨h.1,this.1,this.2.1⟩
def dl (l:List Reg):Prop:=l.Pairwise (fun a b=>Rg.joins a b=false)
theorem pM (h:Rg.right l=true):dl l:=by
 have AU:=cS h;unfold dl;rw[List.pairwise_iff_getElem];intro i j hi hj ER;by_cases e:j=i+1
 ·subst e;exact(iW h (wV hi) (wV hj)).2
 ·have h1:=List.pairwise_iff_getElem.1 AU.1 i (i+1) hi o_ o_;have h2:=List.pairwise_iff_getElem.1 AU.1 (i+1) j o_ hj o_;have h3:=AU.2 (l[i+1]' o_) (List.getElem_mem _);unfold Rg.joins;simp;omega
variable {x r:Reg}
theorem kP {y p:Reg}(yS:f<t)(hx:x.Ok)(hy:y.Ok)(Rc:x.fr<x.to)(TL:y.fr<y.to)(hxy:x.to<=y.fr)(hp:p∈Rg.wo1 f t x)(hr:r∈Rg.wo1 f t y)(hj:Rg.joins p r=true):Rg.joins x y=true:=by
 have hp1:=lF yS Rc hp;have EM:=lF yS TL hr;have hj':p.to=r.fr/\p.prot=r.prot/\p.ino=r.ino/\(p.ino= -1\/r.off=w64 (p.off+w64 (p.to-p.fr))):=(by simpa [Rg.joins]using hj);have kp:p.prot=x.prot/\p.ino=x.ino/\(p.ino= -1\/p.off=w64 (x.off+w64 (p.fr-x.fr))):=by
  unfold Rg.wo1 at hp;split at hp
  ·simp at hp;subst hp;refine⟨rfl,rfl,.inr ?_⟩;rw[Int.sub_self,jn (x:=0) o_ o_,Int.add_zero,jn hx.off0 hx.off1]
  ·rw[List.mem_append]at hp;rcases hp with hp|hp<;>split at hp
   ·simp at hp;subst hp;refine⟨rfl,rfl,?_⟩;simp only[Rg.rpart];by_cases c:x.ino= -1
    ·exact .inl c
    ·rw[if_neg c];exact .inr rfl
   ·simp at hp
   ·simp at hp;subst hp;refine⟨rfl,rfl,?_⟩;simp only[Rg.rpart];by_cases c:x.ino= -1
    ·exact .inl c
    ·rw[if_neg c];exact .inr rfl
   ·simp at hp
 have kr:r.prot=y.prot/\r.ino=y.ino/\(r.ino= -1\/r.off=w64 (y.off+w64 (r.fr-y.fr))):=by
  unfold Rg.wo1 at hr;split at hr
  ·simp at hr;subst hr;refine⟨rfl,rfl,.inr ?_⟩;rw[Int.sub_self,jn (x:=0) o_ o_,Int.add_zero,jn hy.off0 hy.off1]
  ·rw[List.mem_append]at hr;rcases hr with hr|hr<;>split at hr
   ·simp at hr;subst hr;refine⟨rfl,rfl,?_⟩;simp only[Rg.rpart];by_cases c:y.ino= -1
    ·exact .inl c
    ·rw[if_neg c];exact .inr rfl
   ·simp at hr
   ·simp at hr;subst hr;refine⟨rfl,rfl,?_⟩;simp only[Rg.rpart];by_cases c:y.ino= -1
    ·exact .inl c
    ·rw[if_neg c];exact .inr rfl
   ·simp at hr
 obtain⟨j1,j2,j3,j4⟩:=hj';obtain⟨a1,a2,a3⟩:=kp;obtain⟨b1,b2,b3⟩:=kr;have e1:p.to=x.to:=o_;have e2:y.fr=r.fr:=o_;have hoy:=hy.off0;have hoy1:=hy.off1;simp only[Rg.joins,decide_eq_true_eq];refine⟨o_,o_,o_,?_⟩;by_cases c:x.ino= -1
 ·exact .inl c
 ·right;have j5:=j4.resolve_left o_;have a5:=a3.resolve_left o_;have b5:=b3.resolve_left o_;rw[<-e2,Int.sub_self,jn (x:=0) o_ o_,Int.add_zero,jn hoy hoy1]at b5;rw[<-b5,j5,a5,e1];simp only[ke];omega
theorem tP (yS:f<t):(Rg.wo1 f t x).Pairwise (fun a b=>Rg.joins a b=false):=by
 unfold Rg.wo1;split
 ·simp
 ·split<;>split<;>simp[Rg.rpart,Rg.joins]
  omega
theorem gY (h:Rg.right l=true)(ya:bG l)(yS:f<t):dl (Rg.without l f t):=by
 have AU:=cS h;have NM:=pM h;unfold dl Rg.without;rw[List.pairwise_flatMap];refine⟨fun x hx=>tP yS,?_⟩;have WV:l.Pairwise (fun a b=>a.to<=b.fr/\Rg.joins a b=false):=by
  rw[List.pairwise_and_iff];exact⟨AU.1,NM⟩
 refine List.Pairwise.imp_of_mem (fun {a b} ha hb Ua p hp r hr=>?_) WV;cases hj:Rg.joins p r with
 |false=>rfl
 |true=>
  have:=kP yS (ya a ha) (ya b hb) (AU.2 a ha) (AU.2 b hb) Ua.1 hp hr hj;rw[Ua.2]at this;cases this
theorem sE {acc:List Reg}(h: ∀p∈acc,Rg.joins p r=false):Rg.push acc r=acc++[r]:=by
 unfold Rg.push;split
 ·rfl
 ·rename_i p hp;rw[if_neg (by rw[h p (List.mem_of_getLast? hp)];simp)]
theorem oK (h:dl l):Rg.joined l=l:=by
 have key: ∀(l acc:List Reg),dl (acc++l)->l.foldl Rg.push acc=acc++l:=by
  intro l
  induction l with
  |nil=>intro acc _;simp
  |cons r l ih=>
   intro acc ha;have h1: ∀p∈acc,Rg.joins p r=false:=fun p hp=>by
    have:=(List.pairwise_append.1 ha).2.2 p hp r s_;exact this
   rw[List.foldl_cons,sE h1,ih (acc++[r]) (by simpa using ha)];simp
 simpa [Rg.joined]using key l [] (by simpa using h)
theorem cut_law (h:Rg.right l=true)(ya:bG l)(yS:f<t):Rg.joined (Rg.run f t bW l)=Rg.without l f t:=by
 rw[qV (dE h) ya yS,oK (gY h ya yS)]
def Rg.mid (f t p:Int)(x:Reg):Reg:=⟨max x.fr f,min x.to t,p,x.ino,(Rg.rpart x (max x.fr f) (min x.to t)).off⟩
def Rg.mid1 (f t p:Int)(x:Reg):List Reg:=if x.to<=f\/t<=x.fr then []else [Rg.mid f t p x]
def Rg.mids (f t p:Int)(l:List Reg):List Reg:=l.flatMap (Rg.mid1 f t p)
def Rg.prot (l:List Reg)(f t p:Int):List Reg:=(Rg.mids f t p l).foldl Rg.ins (Rg.without l f t)
variable {p:Int}
theorem oD {k:Nat}(hr:l[k]? =some r):Rg.mids f t p (l.take (k+1))=Rg.mids f t p (l.take k)++Rg.mid1 f t p r:=by
 rw[List.take_add_one,hr];simp[Rg.mids]
variable {A B:List Reg}{m:Reg}
theorem lS (h: ∀x∈A,¬m.fr<x.fr):Rg.ins (A++B) m=A++Rg.ins B m:=by
 induction A with
 |nil=>rfl
 |cons x A ih=>
  simp only[List.cons_append,Rg.ins,if_neg (h x s_),ih (fun y hy=>h y (by simp[hy]))]
theorem ins_head (h: ∀x∈B,m.fr<x.fr):Rg.ins B m=m::B:=by
 cases B with
 |nil=>rfl
 |cons x B=>simp[Rg.ins,h x s_]
theorem fm {M:List Reg}(h: ∀m∈M,∀x∈A,¬m.fr<x.fr):M.foldl Rg.ins (A++B)=A++M.foldl Rg.ins B:=by
 induction M generalizing B with
 |nil=>rfl
 |cons m M ih=>
  rw[List.foldl_cons,List.foldl_cons,lS (h m s_),ih (fun m' Dw=>h m' (by simp[Dw]))]
theorem mid_pc (h:Rg.one x=true)(xw:max x.fr f<min x.to t):Rg.pc (aJ p x).1 (max x.fr f) (min x.to t) (aJ p x).2=[Rg.mid f t p x]:=by
 have:=eA h (max x.fr f) (min x.to t);simp only[aJ,ip xw,Rg.mid,<-this];rfl
theorem ii (h:Rg.one x=true)(ya:x.Ok)(yS:f<t):
  Rg.run1 f t (aJ p) x=(if x.to<=f\/t<=x.fr then [x]else(if x.fr<f then [Rg.rpart x x.fr f]else [])++(Rg.mid f t p x::(if t<x.to then [Rg.rpart x t x.to]else []))):=by
 have xw:=(aE h).1;unfold Rg.run1;by_cases c1:x.to<=f
 ·have e1:Rg.pc (aJ p x).1 (max x.fr f) (min x.to t) (aJ p x).2=[]:=lB o_;rw[if_pos (.inl c1),e1,Int.min_eq_left c1,ip xw,Int.max_eq_right o_,lB o_,iq h ya];rfl
 ·by_cases c2:t<=x.fr
  ·have e1:Rg.pc (aJ p x).1 (max x.fr f) (min x.to t) (aJ p x).2=[]:=lB o_;rw[if_pos (.inr c2),e1,Int.min_eq_right o_,lB o_,Int.max_eq_left o_,ip xw,iq h ya];rfl
  ·rw[if_neg o_,mid_pc h o_,Int.min_eq_right (a:=x.to) (b:=f) o_,Int.max_eq_right (a:=x.fr) (b:=t) o_];congr 1
   ·split
    ·rename_i d;rw[ip d,eA h]
    ·rename_i d;rw[lB d]
   ·rw[List.cons_append,List.nil_append];congr 1;split
    ·rename_i d;rw[ip d,eA h]
    ·rename_i d;rw[lB d]
theorem mids_in (hm:m∈Rg.mids f t p l): ∃x∈l,x.fr<=m.fr:=by
 obtain⟨x,hx,hm⟩:=List.mem_flatMap.1 hm;refine⟨x,hx,?_⟩;unfold Rg.mid1 at hm;split at hm
 ·simp at hm
 ·simp at hm;subst hm;simp only[Rg.mid];omega
theorem prot_law (h1: ∀x∈l,Rg.one x=true)(ya:bG l)(AU:fS l)(yS:f<t):Rg.prot l f t p=Rg.run f t (aJ p) l:=by
 unfold Rg.prot
 induction l with
 |nil=>rfl
 |cons x l ih=>
  have hx:=h1 x s_;have Rc:=AU.2 x s_;have hhd:=(List.pairwise_cons.1 AU.1).1;have Hn:fS l:=⟨(List.pairwise_cons.1 AU.1).2,fun y hy=>AU.2 y (by simp[hy])⟩;have ih':=ih (fun y hy=>h1 y (by simp[hy])) (fun y hy=>ya y (by simp[hy])) Hn;have hW: ∀y∈Rg.without l f t,x.to<=y.fr:=fun y hy=>by
   obtain⟨z,hz,hy⟩:=List.mem_flatMap.1 hy;have:=lF yS (Hn.2 z hz) hy;have:=hhd z hz;omega
  have hM: ∀m∈Rg.mids f t p l,x.to<=m.fr:=fun m hm=>by
   obtain⟨z,hz,h2⟩:=mids_in hm;have:=hhd z hz;omega
  have e1:Rg.without (x::l) f t=Rg.wo1 f t x++Rg.without l f t:=(by simp[Rg.without]);have e2:Rg.mids f t p (x::l)=Rg.mid1 f t p x++Rg.mids f t p l:=(by simp[Rg.mids]);have e3:Rg.run f t (aJ p) (x::l)=Rg.run1 f t (aJ p) x++Rg.run f t (aJ p) l:=(by simp[Rg.run]);rw[e1,e2,e3,List.foldl_append,<-ih',ii hx (ya x s_) yS];unfold Rg.mid1 Rg.wo1;by_cases c:x.to<=f\/t<=x.fr
  ·rw[if_pos c,if_pos c,if_pos c];simp only[List.foldl_nil];exact fm (fun m hm y hy=>by simp at hy;subst hy;have:=hM m hm;omega)
  ·rw[if_neg c,if_neg c,if_neg c];simp only[List.foldl_cons,List.foldl_nil];have PR:(Rg.mid f t p x).fr=max x.fr f:=rfl;have step:Rg.ins ((if x.fr<f then [Rg.rpart x x.fr f]else [])++(if t<x.to then [Rg.rpart x t x.to]else [])++Rg.without l f t) (Rg.mid f t p x)=
     ((if x.fr<f then [Rg.rpart x x.fr f]else [])++(Rg.mid f t p x::(if t<x.to then [Rg.rpart x t x.to]else [])))++Rg.without l f t:=by
    rw[List.append_assoc,lS,ins_head]
    ·simp
    ·intro y hy;rw[List.mem_append]at hy;rcases hy with hy|hy
     ·split at hy
      ·simp at hy;subst hy;rw[PR];simp only[Rg.rpart];omega
      ·simp at hy
     ·have:=hW y hy;rw[PR];omega
    ·intro y hy;split at hy
     ·simp at hy;subst hy;rw[PR];simp only[Rg.rpart];omega
     ·simp at hy
   rw[step];refine fm (fun m hm y hy=>?_);have h2:=hM m hm;rw[List.mem_append]at hy;rcases hy with hy|hy
   ·split at hy
    ·simp at hy;subst hy;simp only[Rg.rpart];omega
    ·simp at hy
   ·rw[List.mem_cons]at hy;rcases hy with rfl|hy
    ·rw[PR];omega
    ·split at hy
     ·simp at hy;subst hy;simp only[Rg.rpart];omega
     ·simp at hy
def Rg.cov:List Reg->Int->Int->Bool
 | [],a,t=>decide (t<=a)
 |r::l,a,t=>if a<t then(if r.fr<=a/\a<r.to then Rg.cov l r.to t else Rg.cov l a t)else true
variable {a:Int}
theorem jV (h:t<=a):Rg.cov l a t=true:=by
 cases l with
 |nil=>simp[Rg.cov,h]
 |cons r l=>simp only[Rg.cov,if_neg (show¬a<t by omega)]
theorem cov_none (h:a<t)(hn:l.find? (Rg.holds · a)=none):Rg.cov l a t=false:=by
 induction l with
 |nil=>simp[Rg.cov];omega
 |cons r l ih=>
  rw[List.find?_cons]at hn;split at hn
  ·cases hn
  ·rename_i hr;have: ¬(r.fr<=a/\a<r.to):=(by simpa [Rg.holds]using hr);rw[Rg.cov,if_pos h,if_neg this];exact ih hn
theorem cov_step (AU:fS l)(h:a<t)(hf:l.find? (Rg.holds · a)=some r):Rg.cov l a t=Rg.cov l r.to t:=by
 induction l with
 |nil=>simp at hf
 |cons x l ih=>
  have Hn:fS l:=⟨(List.pairwise_cons.1 AU.1).2,fun y hy=>AU.2 y (by simp[hy])⟩;rw[List.find?_cons]at hf;split at hf
  ·rename_i hx;injection hf with hf;subst hf;have Lt:x.fr<=a/\a<x.to:=(by simpa [Rg.holds]using hx);rw[Rg.cov,if_pos h,if_pos Lt,Rg.cov];by_cases c:x.to<t
   ·rw[if_pos c,if_neg o_]
   ·rw[if_neg c];exact jV o_
  ·rename_i hx;have Lt: ¬(x.fr<=a/\a<x.to):=(by simpa [Rg.holds]using hx);have hr:=List.mem_of_find?_eq_some hf;have h1:=(List.pairwise_cons.1 AU.1).1 r hr;have h2:=Hn.2 r hr;rw[Rg.cov,if_pos h,if_neg Lt,ih Hn hf,Rg.cov];by_cases c:r.to<t
   ·rw[if_pos c,if_neg o_]
   ·rw[if_neg c];exact jV o_
def Rg.protect (l:List Reg)(f t p:Int):List Reg×Int:=if Rg.stretch l f t=true/\p<=7 then(if Rg.cov l f t=true then Rg.few (Rg.joined (Rg.run f t (aJ p) l))else([],6))else([],1)
end
section
open Go.RowKit Go.Sort
variable {f t:Int}
theorem str_ok (h0:0<=f)(h1:f<=18446744073709551615)(h2:0<=t)(h3:t<=18446744073709551615):Reg.Ok ⟨f,t,0, -1,0⟩:=
 ⟨h0,h1,h2,h3,s_,s_,s_,s_,s_,s_⟩
theorem km (A:Option Addr)(n cap:Nat)(f t:Int)(w:World)(l:List Reg)(hl:RSl w w.heap.size A n cap l)(ya:bG l)(h0:0<=f)(h1:f<=18446744073709551615)(h2:0<=t)(h3:t<=18446744073709551615):
  Calls prog 113 #[.slice A n cap,.int .u64 f,.int .u64 t] w fun e w'=>e= .returned (.bool (Rg.stretch l f t))/\Below w.heap.size w w':=by
 have hR:=ol A n cap w l hl ya;cases yM:Rg.right l with
 |false=>
  have HH:Hid (Rg.stretch l f t=false):=wP (by simp[Rg.stretch,yM]);rw[yM]at hR;have HR:=wP hR;clear hR yM;go_enter func113,ntmps113;go_wp2_with (go_at_call 98;refine(HR.o).mono ?_;rintro e w1⟨rfl,xu⟩);go_ret;exact⟨aK (by rw[HH.o]),xu⟩
 |true=>
  have hM:=fun W=>mN ⟨f,t,0, -1,0⟩ W (str_ok h0 h1 h2 h3);have HH:Hid (Rg.stretch l f t=Rg.one ⟨f,t,0, -1,0⟩):=wP (by simp[Rg.stretch,yM]);rw[yM]at hR;obtain⟨HR,HM⟩:=zh2 hR hM;clear hR yM hM;generalize Rg.one ⟨f,t,0, -1,0⟩=b at *
  go_enter func113,ntmps113;go_wp2_with (first
   |(go_at_call 98;refine(HR.o).mono ?_;rintro e w1⟨rfl,xu⟩;have xQ:=xu.size)
   |(go_at_call 99;refine(HM.o _).mono ?_;rintro e w2⟨rfl,xx⟩))
  go_ret;exact⟨aK (by rw[HH.o]),by exact wQ⟩
theorem js (A:Option Addr)(n cap:Nat)(f t:Int)(w:World)(l:List Reg)(hl:RSl w w.heap.size A n cap l)(ya:bG l)(h0:0<=f)(h1:f<=18446744073709551615)(h2:0<=t)(h3:t<=18446744073709551615):
  Calls prog 142 #[.slice A n cap,.int .u64 f,.int .u64 t] w fun e w'=>e= .returned (.bool (Rg.stretch l f t))/\Below w.heap.size w w':=by
 have hR:=lK A n cap w l hl ya;cases yM:Rg.right l with
 |false=>
  have HH:Hid (Rg.stretch l f t=false):=wP (by simp[Rg.stretch,yM]);rw[yM]at hR;have HR:=wP hR;clear hR yM;go_enter func142,ntmps142;go_wp2_with (go_at_call 136;refine(HR.o).mono ?_;rintro e w1⟨rfl,xu⟩);go_ret;exact⟨aK (by rw[HH.o]),xu⟩
 |true=>
  have HH:Hid (Rg.stretch l f t=decide (f<t/\t<=140737488355328/\f % 4096=0/\t % 4096=0)):=wP (by simp[Rg.stretch,yM,Rg.one]);rw[yM]at hR;have HR:=wP hR;clear hR yM;go_enter func142,ntmps142;go_wp2_with (go_at_call 136;refine(HR.o).mono ?_;rintro e w1⟨rfl,xu⟩)
  all_goals
   go_ret;refine⟨aK ?_,by exact wQ⟩;rw[HH.o,Bool.eq_iff_iff];simp[*]
   try omega
   done
def gw (w:World)(p:List Reg×Int)(e:Ending)(w':World):Prop:=
 ∃A' xq,e= .returned (.tuple #[.slice A' p.1.length xq,.int .i64 p.2])/\OwnR w' w.heap.size A' xq p.1/\Below w.heap.size w w'
theorem cut_any (A:Option Addr)(n cap:Nat)(f t:Int)(w:World)(l:List Reg)(hl:RSl w w.heap.size A n cap l)(ya:bG l)(h0:0<=f)(h1:f<=18446744073709551615)(h2:0<=t)(h3:t<=18446744073709551615):
  Calls prog 67 #[.slice A n cap,.int .u64 f,.int .u64 t] w (gw w (Rg.cut l f t)):=by
 have hS:=km A n cap f t w l hl ya h0 h1 h2 h3;have An:=wP hl.len;cases yi:Rg.stretch l f t with
 |false=>
  have HP:Hid (Rg.cut l f t=([],1)):=wP (by simp[Rg.cut,yi]);rw[yi]at hS;have HS:=wP hS;clear hS yi;go_enter func67,ntmps67;go_wp2_with (go_at_call 113;refine(HS.o).mono ?_;rintro e w1⟨rfl,xu⟩);go_ret2;rw[HP.o];exact⟨none,0,rfl,OwnR.nil _ _,xu⟩
 |true=>
  obtain⟨hr,yS,_⟩:=bu yi;have CD:=(ck hr).2;have HP:Hid (Rg.cut l f t=Rg.few (Rg.joined (Rg.run f t bW l))):=wP (by simp[Rg.cut,yi,cut_law hr ya yS]);have yM:=mw f t bW l;rw[yi]at hS;have HS:=wP hS;clear hS yi hr;generalize LM:Rg.run f t bW l=rn at *
  have Uu:=wP LM;clear LM;go_enter func67,ntmps67;go_wp2_with fail;refine(HS.o).mono ?_;rintro e w1⟨rfl,xu⟩;have xQ:=xu.size;have yN:=(hl.below xu (wS _)).more xu.size;go_wp2_with fail;refine(jr f t A n cap w1 l yN (by have:=An.o;omega)).mono ?_;rintro e w2⟨A2,c2,rfl,zD,xx⟩;rw[Uu.o]at zD⊢;have xX:=xx.size;have Rx:=zD.rsl o_;go_wp2_with fail;refine(mZ A2 _ c2 w2 _ Rx o_).mono ?_;rintro e w3⟨A3,c3,rfl,Am,xE⟩;go_wp2_with fail;go_ret2;rw[HP.o];refine⟨A3,c3,rfl,Am.lower o_,?_⟩;exact(xu.trans (xx.mono o_)).trans (xE.mono o_)
theorem rcut_any (A:Option Addr)(n cap:Nat)(f t:Int)(w:World)(l:List Reg)(hl:RSl w w.heap.size A n cap l)(ya:bG l)(h0:0<=f)(h1:f<=18446744073709551615)(h2:0<=t)(h3:t<=18446744073709551615):
  Calls prog 90 #[.slice A n cap,.int .u64 f,.int .u64 t] w (gw w (Rg.cut l f t)):=by
 have hS:=js A n cap f t w l hl ya h0 h1 h2 h3;have An:=wP hl.len;cases yi:Rg.stretch l f t with
 |false=>
  have HP:Hid (Rg.cut l f t=([],1)):=wP (by simp[Rg.cut,yi]);rw[yi]at hS;have HS:=wP hS;clear hS yi;go_enter func90,ntmps90;go_wp2_with (go_at_call 142;refine(HS.o).mono ?_;rintro e w1⟨rfl,xu⟩);go_ret2;rw[HP.o];exact⟨none,0,rfl,OwnR.nil _ _,xu⟩
 |true=>
  obtain⟨hr,yS,_⟩:=bu yi;have CD:=(ck hr).2;have HP:Hid (Rg.cut l f t=Rg.few (Rg.without l f t)):=wP (by simp[Rg.cut,yi]);have yM:=cR l f t;rw[yi]at hS;have HS:=wP hS;clear hS yi hr;generalize LM:Rg.without l f t=rn at *
  have Uu:=wP LM;clear LM;go_enter func90,ntmps90;go_wp2_with fail;refine(HS.o).mono ?_;rintro e w1⟨rfl,xu⟩;have xQ:=xu.size;have yN:=(hl.below xu (wS _)).more xu.size;go_wp2_with fail;refine(gK f t A n cap w1 l yN (by have:=An.o;omega)).mono ?_;rintro e w2⟨A2,c2,rfl,zD,xx⟩;rw[Uu.o]at zD⊢;have xX:=xx.size;go_wp2_with fail;refine(qn A2 c2 w2 _ _ zD o_).mono ?_;rintro e w3⟨A3,c3,rfl,Am,rfl⟩;go_wp2_with fail;go_ret2;rw[HP.o];exact⟨A3,c3,rfl,Am.lower o_,xu.trans (xx.mono o_)⟩
def gV (l:List Reg)(f t:Int)(k:Nat)(a:Int):Prop:=Rg.cov (l.drop k) a t=Rg.cov l f t
variable {l:List Reg}{a:Int}{k:Nat}{r:Reg}
theorem gV.hit (h:gV l f t k a)(hr:l[k]? =some r)(h1:a<t)(h2:r.fr<=a)(h3:a<r.to):gV l f t (k+1) r.to:=by
 unfold gV at *
 rw[<-h,iC hr,Rg.cov,if_pos h1,if_pos ⟨h2,h3⟩]
theorem gV.miss (h:gV l f t k a)(hr:l[k]? =some r)(h1:a<t)(h2: ¬(r.fr<=a/\a<r.to)):gV l f t (k+1) a:=by
 unfold gV at *
 rw[<-h,iC hr,Rg.cov,if_pos h1,if_neg h2]
theorem gV.full (h:gV l f t k a)(h1: ¬a<t):Rg.cov l f t=decide (t<=a):=by
 unfold gV at h;rw[<-h,jV o_];simp;omega
theorem gV.last (h:gV l f t k a)(h1:l.length<=k):Rg.cov l f t=decide (t<=a):=by
 unfold gV at h;rw[<-h,List.drop_of_length_le h1];rfl
theorem qt (A:Option Addr)(n cap:Nat)(f t:Int)(w:World)(l:List Reg)(hl:RSl w w.heap.size A n cap l):
  Calls prog 143 #[.slice A n cap,.int .u64 f,.int .u64 t] w fun e w'=>e= .returned (.bool (Rg.cov l f t))/\Below w.heap.size w w':=by
 have An:=wP hl.len;have xD:=hl.few;go_enter func143,ntmps143;go_wp2;go_loopw [7,8] (fun v i wr=> ∃(k:Nat) (a:Int),k<=n/\i= .int .i64 k/\v= .int .u64 a/\Below w.heap.size w wr/\gV l f t k a) (fun _ i _ =>n-(intOf i).toNat)
 case atStart=>exact⟨0,f,xm _,rfl,rfl,xp _ _,rfl⟩
 case round=>
  obtain⟨k,a,hk,rfl,rfl,hB,AT⟩:=hrel;have CV:=wP AT;clear AT;by_cases xw:k<n
  ·by_cases yr:a<t
   ·obtain⟨r,hr⟩: ∃r,l[k]? =some r:=⟨_,wV (by have:=An.o;omega)⟩;obtain⟨b,off,rfl,hb,yI⟩:=hl.at_ k r hr;obtain⟨g0,g1,g2,g3,g4⟩:=yI.below hB hb;have HR:=wP hr;clear hr yI;by_cases c1:r.fr<=a
    ·by_cases c2:a<r.to
     ·have xB:=wP (CV.o.hit HR.o yr c1 c2);go_wp2;go_roundw
      case rel=>exact⟨k+1,r.to,o_,by go_num,rfl,by exact wQ,xB.o⟩
      case measure=>simp[intOf];omega
     ·have xB:=wP (CV.o.miss HR.o yr (fun h=>c2 h.2));go_wp2;go_roundw
      case rel=>exact⟨k+1,a,o_,by go_num,rfl,by exact wQ,xB.o⟩
      case measure=>simp[intOf];omega
    ·have xB:=wP (CV.o.miss HR.o yr (fun h=>c1 h.1));go_wp2;go_roundw
     case rel=>exact⟨k+1,a,o_,by go_num,rfl,by exact wQ,xB.o⟩
     case measure=>simp[intOf];omega
   ·have xB:=wP (CV.o.full yr);go_wp2;go_ret;exact⟨aK (by rw[xB.o];simp;omega),hB⟩
  ·have xB:=wP (CV.o.last (by have:=An.o;omega));go_wp2
   all_goals
    go_ret;exact⟨aK (by first|(rw[xB.o];done)|(rw[xB.o];simp;done)|(rw[xB.o];simp;omega)),hB⟩
end
section
open Go.RowKit Go.Sort
theorem lZ (l:List Reg)(a:Int):(l.find? (Rg.holds · a)=none/\Rg.find l a=(aL,false))\/ ∃r,l.find? (Rg.holds · a)=some r/\Rg.find l a=(r,true)/\r∈l/\r.fr<=a/\a<r.to:=by
 cases h:l.find? (Rg.holds · a)with
 |none=>exact .inl ⟨rfl,by simp[Rg.find,h]⟩
 |some r=>
  have h1:=List.find?_some h;simp[Rg.holds]at h1;exact .inr ⟨r,rfl,by simp[Rg.find,h],List.mem_of_find?_eq_some h,h1.1,h1.2⟩
theorem pP (A:Option Addr)(n cap:Nat)(f t p:Int)(w:World)(l:List Reg)(hl:RSl w w.heap.size A n cap l)(ya:bG l)(h0:0<=f)(h1:f<=18446744073709551615)(h2:0<=t)(h3:t<=18446744073709551615):
  Calls prog 68 #[.slice A n cap,.int .u64 f,.int .u64 t,.int .u8 p] w (gw w (Rg.protect l f t p)):=by
 have An:=wP hl.len;have yT:Below w.heap.size w (w.alloc (.cells #[.int .u8 p] 5)):=by exact wQ
 have AM:=(hl.below yT (wS _)).more (B':=(w.alloc (.cells #[.int .u8 p] 5)).heap.size) s_;have hS:=km A n cap f t _ l AM ya h0 h1 h2 h3;cases yi:Rg.stretch l f t with
 |false=>
  have HP:Hid (Rg.protect l f t p=([],1)):=wP (by simp[Rg.protect,yi]);rw[yi]at hS;have HS:=wP hS;clear hS yi hl AM yT;go_enter func68,ntmps68;go_wp2_with (go_at_call 113;refine(HS.o).mono ?_;rintro e w1⟨rfl,xu⟩);have hz:=xu.size;simp at hz;go_ret2;rw[HP.o];exact⟨none,0,rfl,OwnR.nil _ _,by exact wQ⟩
 |true=>
  obtain⟨hr,yS,_⟩:=bu yi;have CD:=(ck hr).2;have AU:=cS hr;rw[yi]at hS;have HS:=wP hS;by_cases hp:p<=7
  ·have HP:Hid (Rg.protect l f t p=if Rg.cov l f t=true then Rg.few (Rg.joined (Rg.run f t (aJ p) l))else([],6)):=wP (by simp[Rg.protect,yi,hp]);have yM:=mw f t (aJ p) l;have HAP:=wP AU;clear hS yi hr AU hl yT;go_enter func68,ntmps68;go_wp2_with (go_at_call 113;refine(HS.o).mono ?_;rintro e w1⟨rfl,xu⟩;have xQ:=xu.size;simp at xQ;have q0:w1.cell? ⟨w.heap.size,0,none⟩=some (.int .u8 p):=((xu.cell (p:=⟨w.heap.size,0,none⟩) s_).trans s_));have yN:=(AM.below xu (wS _)).more (B':=w1.heap.size) xu.size;have OW:Below w.heap.size w w1:=by exact wQ
   have Q0:=wP q0;clear q0 AM;go_loopw [10] (fun v wr=> ∃a:Int,v= .int .u64 a/\f<=a/\Below w1.heap.size w1 wr/\Rg.cov l a t=Rg.cov l f t) (fun v _ =>(t-intOf v).toNat)
   case atStart=>exact⟨f,rfl,o_,xp _ _,rfl⟩
   case round=>
    obtain⟨a,rfl,Zz,hB,AT⟩:=hrel;have JX:=hB.size;have CV:=wP AT;have PV:=(yN.below hB (wS _)).more (B':=wr.heap.size) JX;have SN:=mW A n cap a wr l PV;have OC:w.heap.size<w1.heap.size:=o_;have q0:=(hB.cell (p:=⟨w.heap.size,0,none⟩) OC).trans Q0.o;have hlwr:w.heap.size<wr.heap.size:=o_;clear AT;by_cases yr:a<t
    ·rcases lZ l a with⟨e1,e2⟩|⟨r,e1,e2,hrm,EM,LR⟩
     ·rw[e2]at SN;have HF:=wP SN;have xB:Hid (Rg.protect l f t p=([],6)):=wP (by rw[HP.o,<-CV.o,cov_none yr e1];simp);clear SN e1 e2 PV;go_wp2_with (go_at_call 114;refine(HF.o).mono ?_;rintro e w2⟨rfl,xx⟩);go_ret2;rw[xB.o];have xX:=xx.size;have q2:Below w.heap.size w w2:=(OW.trans (hB.mono o_)).trans (xx.mono o_);exact⟨none,0,rfl,OwnR.nil _ _,by exact wQ⟩
     ·rw[e2]at SN;obtain⟨HF,xO⟩:=zh2 SN ((cov_step HAP.o yr e1).symm.trans CV.o);clear SN e1 e2 PV hrm;go_wp2_with (go_at_call 114;refine(HF.o).mono ?_;rintro e w2⟨rfl,xx⟩;have xX:=xx.size);go_roundw
      case rel=>exact⟨r.to,rfl,o_,(hB.trans (xx.mono o_)).alloc o_ _,xO.o⟩
      case measure=>simp[intOf];omega
    ·have Hh:Rg.cov l f t=true:=(by rw[<-CV.o];exact jV o_);have BL:Hid (Rg.protect l f t p=Rg.few (Rg.joined (Rg.run f t (aJ p) l))):=wP (by rw[HP.o,if_pos Hh]);have hRn:=oa p w.heap.size f t A n cap wr l PV (by have:=An.o;omega) q0 hlwr;have HRn:=wP hRn;generalize LM:Rg.run f t (aJ p) l=rn at *
     have Uu:=wP LM;clear LM hRn Hh SN PV;go_wp2_with fail;refine(HRn.o).mono ?_;rintro e w2⟨A2,c2,rfl,zD,xx⟩;have xX:=xx.size;have Rx:=zD.rsl o_;go_wp2_with fail;refine(mZ A2 _ c2 w2 _ Rx o_).mono ?_;rintro e w3⟨A3,c3,rfl,Am,xE⟩;go_wp2_with fail;go_ret2;rw[BL.o];refine⟨A3,c3,rfl,Am.lower o_,?_⟩;exact((OW.trans (hB.mono o_)).trans (xx.mono o_)).trans (xE.mono o_)
  ·have HP:Hid (Rg.protect l f t p=([],1)):=wP (by simp[Rg.protect,hp]);clear hS yi hr AU hl AM yT;go_enter func68,ntmps68;go_wp2_with (go_at_call 113;refine(HS.o).mono ?_;rintro e w1⟨rfl,xu⟩;have xQ:=xu.size;simp at xQ;have q0:w1.cell? ⟨w.heap.size,0,none⟩=some (.int .u8 p):=((xu.cell (p:=⟨w.heap.size,0,none⟩) s_).trans s_));go_ret2;rw[HP.o];exact⟨none,0,rfl,OwnR.nil _ _,by exact wQ⟩
end
section
open Go.RowKit Go.Sort
def Rg.protTo (l:List Reg)(f t p:Int)(k:Nat):List Reg:=(Rg.mids f t p (l.take k)).foldl Rg.ins (Rg.without l f t)
variable {l:List Reg}{f t p:Int}{k:Nat}{x:Reg}
theorem pQ (hx:l[k]? =some x)(h:x.to<=f\/t<=x.fr):Rg.protTo l f t p (k+1)=Rg.protTo l f t p k:=by
 unfold Rg.protTo;rw[oD hx,Rg.mid1,if_pos h,List.append_nil]
theorem uO (hx:l[k]? =some x)(h: ¬(x.to<=f\/t<=x.fr)):Rg.protTo l f t p (k+1)=Rg.ins (Rg.protTo l f t p k) (Rg.mid f t p x):=by
 unfold Rg.protTo;rw[oD hx,Rg.mid1,if_neg h,List.foldl_append];rfl
theorem sG (hk:l.length<=k):Rg.protTo l f t p k=Rg.prot l f t p:=by
 unfold Rg.protTo Rg.prot;rw[List.take_of_length_le hk]
theorem vb (w:World)(o:Obj):(w.alloc o).drew.heap[w.heap.size]? =some o:=by
 show(w.heap.push o)[w.heap.size]? =some o;simp
theorem newbox2 (w:World)(o:Obj):(w.drew.alloc o).heap[w.heap.size]? =some o:=by
 show(w.heap.push o)[w.heap.size]? =some o;simp
variable {w:World}{b:Nat}{v0 v1 v2 v3 v4:Value}
theorem nu (h:w.heap[b]? =some (.cells #[v0,v1,v2,v3,v4] 45 (0,0))):(w.cell? ⟨b,0,none⟩=some v0/\w.cell? ⟨b,1,none⟩=some v1/\w.cell? ⟨b,2,none⟩=some v2/\w.cell? ⟨b,3,none⟩=some v3/\w.cell? ⟨b,4,none⟩=some v4)/\w.frozen? ⟨b,0,none⟩=false/\w.frozen? ⟨b,1,none⟩=false/\w.frozen? ⟨b,2,none⟩=false/\w.frozen? ⟨b,3,none⟩=false/\w.frozen? ⟨b,4,none⟩=false:=
 ⟨⟨ag h 0,ag h 1,ag h 2,ag h 3,ag h 4⟩,by simp[World.frozen?,h]⟩
variable {T:TypeId}
theorem rI (h:w.heap[b]? =some (.cells #[v0,v1,v2,v3,v4] T (0,0)))(u:Value):(w.setCell ⟨b,2,none⟩ u).heap[b]? =some (.cells #[v0,v1,u,v3,v4] T (0,0)):=by
 have:=Joins.block_setCell (i:=2) h u;simpa using this
theorem box5 (h:w.heap[b]? =some (.cells #[v0,v1,v2,v3,v4] T (0,0)))(u0 u1 u2 u3 u4:Value):(((((w.setCell ⟨b,0,none⟩ u0).setCell ⟨b,1,none⟩ u1).setCell ⟨b,2,none⟩ u2).setCell ⟨b,3,none⟩ u3).setCell ⟨b,4,none⟩ u4).heap[b]? =some (.cells #[u0,u1,u2,u3,u4] T (0,0)):=by
 have:=Joins.block_setCell (i:=4) (Joins.block_setCell (i:=3) (Joins.block_setCell (i:=2) (Joins.block_setCell (i:=1) (Joins.block_setCell (i:=0) h u0) u1) u2) u3) u4;simpa using this
theorem newbox0 (w:World)(o:Obj):(w.alloc o).heap[w.heap.size]? =some o:=vb w o
theorem exit_gen {K:Act->World->Prop}{R:Exit->Act->World->Prop}{e:Exit}{a:Act}{W:World}(h: ∀W',W'=W->Exit.then K R e a W'):Exit.then K R e a W:=h W rfl
theorem zero_box (h:w.heap[b]? =some (.cells #[.int .u64 0, .int .u64 0, .int .u8 0, .int .i64 0, .int .u64 0] 45 (0,0))):(w.cell? ⟨b,0,none⟩=some (.int .u64 0)/\w.cell? ⟨b,1,none⟩=some (.int .u64 0)/\w.cell? ⟨b,2,none⟩=some (.int .u8 0)/\w.cell? ⟨b,3,none⟩=some (.int .i64 0)/\w.cell? ⟨b,4,none⟩=some (.int .u64 0))/\w.frozen? ⟨b,0,none⟩=false/\w.frozen? ⟨b,1,none⟩=false/\w.frozen? ⟨b,2,none⟩=false/\w.frozen? ⟨b,3,none⟩=false/\w.frozen? ⟨b,4,none⟩=false:=
 ⟨⟨ag h 0,ag h 1,ag h 2,ag h 3,ag h 4⟩,by simp[World.frozen?,h]⟩
theorem mU (M B:List Reg):(M.foldl Rg.ins B).length=B.length+M.length:=by
 induction M generalizing B with
 |nil=>rfl
 |cons m M ih=>rw[List.foldl_cons,ih,qe,xd];omega
theorem mids_len (f t p:Int)(l:List Reg):(Rg.mids f t p l).length<=l.length:=by
 induction l with
 |nil=>simp[Rg.mids]
 |cons x l ih=>
  have h1:(Rg.mid1 f t p x).length<=1:=by unfold Rg.mid1;split<;>simp
  simp only[Rg.mids,xo,wU,xd]at *
  omega
theorem sF (l:List Reg)(f t p:Int)(k:Nat):(Rg.protTo l f t p k).length<=3*l.length:=by
 unfold Rg.protTo;rw[mU];have h1:=cR l f t;have h2:=mids_len f t p (l.take k);have h3:(l.take k).length<=l.length:=(by rw[List.length_take];omega);omega
theorem oc (A:Option Addr)(n cap:Nat)(f t p:Int)(w:World)(l:List Reg)(hl:RSl w w.heap.size A n cap l)(ya:bG l)(h0:0<=f)(h1:f<=18446744073709551615)(h2:0<=t)(h3:t<=18446744073709551615):
  Calls prog 91 #[.slice A n cap,.int .u64 f,.int .u64 t,.int .u8 p] w (gw w (Rg.protect l f t p)):=by
 have An:=wP hl.len;have hS:=js A n cap f t _ l hl ya h0 h1 h2 h3;cases yi:Rg.stretch l f t with
 |false=>
  have HP:Hid (Rg.protect l f t p=([],1)):=wP (by simp[Rg.protect,yi]);rw[yi]at hS;have HS:=wP hS;clear hS yi hl;go_enter func91,ntmps91;go_wp2_with (go_at_call 142;refine(HS.o).mono ?_;rintro e w1⟨rfl,xu⟩);go_ret2;rw[HP.o];exact⟨none,0,rfl,OwnR.nil _ _,by exact wQ⟩
 |true=>
  obtain⟨hr,yS,_⟩:=bu yi;have CD:=(ck hr).2;have AU:=cS hr;rw[yi]at hS;have HS:=wP hS;by_cases hp:p<=7
  ·have HP:Hid (Rg.protect l f t p=if Rg.cov l f t=true then Rg.few (Rg.joined (Rg.prot l f t p))else([],6)):=wP (by simp[Rg.protect,yi,hp,prot_law (dE hr) ya AU yS]);have hC:=fun W (h:RSl W W.heap.size A n cap l)=>qt A n cap f t W l h;cases AT:Rg.cov l f t with
   |false=>
    rw[AT]at hC;have HC:=wP hC;have HQ:Hid (Rg.protect l f t p=([],6)):=wP (by rw[HP.o,AT];simp);clear hC AT hr AU yi hS HP;go_enter func91,ntmps91;go_wp2_with fail;refine(HS.o).mono ?_;rintro e w1⟨rfl,xu⟩;have xQ:=xu.size;have yN:=(hl.below xu (wS _)).more xu.size;go_wp2_with fail;refine(HC.o _ yN).mono ?_;rintro e w2⟨rfl,xx⟩;go_wp2_with fail;go_ret2;rw[HQ.o];exact⟨none,0,rfl,OwnR.nil _ _,by exact wQ⟩
   |true=>
    rw[AT]at hC;have HC:=wP hC;have HQ:Hid (Rg.protect l f t p=Rg.few (Rg.joined (Rg.prot l f t p))):=wP (by rw[HP.o,if_pos AT]);clear hC AT hr AU yi hS HP;have UL:=cR l f t;go_enter func91,ntmps91;go_wp2_with fail;refine(HS.o).mono ?_;rintro e w1⟨rfl,xu⟩;have xQ:=xu.size;have yN:=(hl.below xu (wS _)).more xu.size;go_wp2_with fail;refine(HC.o _ yN).mono ?_;rintro e w2⟨rfl,xx⟩;have xX:=xx.size;have xW:=(yN.below xx (wS _)).more xx.size;go_wp2_with fail;refine(gK f t A n cap w2 l xW (by have:=An.o;omega)).mono ?_;rintro e w3⟨A3,c3,rfl,Am,xE⟩;have zy:=xE.size;have hq3:Below w.heap.size w w3:=(xu.trans (xx.mono o_)).trans (xE.mono o_);have Jk:=wP Am;clear Am yN xW;go_wp2_with fail;go_loopw [10,11] (fun v i wr=> ∃k:Nat,k<=n/\i= .int .i64 k/\Below w.heap.size w wr/\ ∃A cap,v= .slice A (Rg.protTo l f t p k).length cap/\OwnR wr w.heap.size A cap (Rg.protTo l f t p k)) (fun _ i _ =>n-(intOf i).toNat)
    case atStart=>exact⟨0,xm _,rfl,hq3,A3,c3,rfl,Jk.o.lower o_⟩
    case round=>
     obtain⟨k,hk,rfl,hB,A4,c4,rfl,ho⟩:=hrel;have JX:=hB.size;have Kk:=sF l f t p k;by_cases xw:k<n
     ·obtain⟨x,hx⟩: ∃x,l[k]? =some x:=⟨_,wV (by have:=An.o;omega)⟩;obtain⟨b,off,rfl,hb,yI⟩:=hl.at_ k x hx;obtain⟨g0,g1,g2,g3,g4⟩:=yI.below hB hb;have JI:(k:Int)<(n:Int):=o_;have hn64:n<=64:=(by have:=An.o;omega);have hk64:(k:Int)<64:=o_;have Lb:IntKind.i64.wrap ((k:Int)+1)=(k:Int)+1:=IntWalk.i64_in _ o_;have zh:(0:Int)<=(k:Int):=o_;have AO:b<wr.heap.size:=o_;have hbne: ¬b=wr.heap.size:=o_;have hbne': ¬wr.heap.size=b:=o_;by_cases hc:x.to<=f\/t<=x.fr
      ·have Zp:=wP (pQ (p:=p) hx hc);generalize zP:Rg.protTo l f t p k=acc at *
       generalize hm:acc.length=m at *
       obtain⟨HM,HO⟩:=zh2 hm ho;clear hx yI ho zP hm Kk;by_cases c1:x.to<=f
       ·clear hc;go_wp2;go_roundw
        case rel=>exact⟨k+1,o_,by go_num,hB,A4,c4,by rw[Zp.o,HM.o],by rw[Zp.o];exact HO.o⟩
        case measure=>simp[intOf];omega
       ·have c2:t<=x.fr:=o_;clear hc;go_wp2;go_roundw
        case rel=>exact⟨k+1,o_,by go_num,hB,A4,c4,by rw[Zp.o,HM.o],by rw[Zp.o];exact HO.o⟩
        case measure=>simp[intOf];omega
      ·have FL:=wP (uO (p:=p) hx hc);have Vr:=ho.rsl o_;generalize zP:Rg.protTo l f t p k=acc at *
       have hml:acc.length<=192:=o_;obtain⟨ZR,HO⟩:=zh2 Vr ho;have c1: ¬x.to<=f:=o_;have c2: ¬t<=x.fr:=o_;clear hx yI ho zP hc Kk Vr;go_wp2_with fail;go_region_held3 (fun w'=>w'.cell? ⟨b,off+k*5,none⟩=some (.int .u64 x.fr)/\w'.cell? ⟨b,off+k*5+1,none⟩=some (.int .u64 x.to)/\w'.cell? ⟨b,off+k*5+2,none⟩=some (.int .u8 x.prot)/\w'.cell? ⟨b,off+k*5+3,none⟩=some (.int .i64 x.ino)/\w'.cell? ⟨b,off+k*5+4,none⟩=some (.int .u64 x.off)/\b<w'.heap.size)
        (simp[*,World.cell?_alloc_some,World.cell?_setCell_far]<;>omega)
        ((go_at_call 144;refine(ij x _ _ _).mono ?_;rintro e w5⟨rfl,zJ⟩;have Iw:=zJ.size;have hz5w:wr.heap.size<=w5.heap.size:=xn s_ Iw;have Mj:b<w5.heap.size:=wW (by simp<;>omega) Iw;have x0:=zJ.cell (p:=⟨b,off+k*5,none⟩) (by simp<;>omega);have x1:=zJ.cell (p:=⟨b,off+k*5+1,none⟩) (by simp<;>omega);have x2:=zJ.cell (p:=⟨b,off+k*5+2,none⟩) (by simp<;>omega);have x3:=zJ.cell (p:=⟨b,off+k*5+3,none⟩) (by simp<;>omega);have x4:=zJ.cell (p:=⟨b,off+k*5+4,none⟩) (by simp<;>omega);have hne5: ¬b=w5.heap.size:=o_;have hne5': ¬w5.heap.size=b:=o_;(first|(have BA:w5.heap[wr.heap.size]? =some (.cells #[.int .u64 0,.int .u64 0,.int .u8 0,.int .i64 0,.int .u64 0] 45 (0,0)):=(zJ.block wr.heap.size (by solve|simp)).trans (by first|exact vb _ _ |exact newbox2 _ _);obtain⟨⟨y0,y1,y2,y3,y4⟩,z0,z1,z2,z3,z4⟩:=zero_box BA)|skip)))
       all_goals
        refine exit_gen ?_;intro W6 Ud
        first
        |(
          have EI:=BA
          (
         have EI:W6.heap[wr.heap.size]? =some (.cells #[.int .u64 (Rg.mid f t p x).fr,.int .u64 (Rg.mid f t p x).to,.int .u8 x.prot,.int .i64 (Rg.mid f t p x).ino,.int .u64 (Rg.mid f t p x).off] 45 (0,0)):=(by rw[Ud];exact box5 EI _ _ _ _ _);have Bv:Below wr.heap.size wr W6:=(by rw[Ud];exact wQ);have Bc:wr.heap.size<W6.heap.size:=(by rcases Nat.lt_or_ge (wr.heap.size) W6.heap.size with h|h;exact h;rw[Array.getElem?_eq_none h]at EI;cases EI);have NI:=Bv.size;have RX:wr.heap.size<=wr.heap.size:=o_;have Bu:Below wr.heap.size wr (W6.setCell ⟨wr.heap.size,2,none⟩ (.int .u8 p)):=Below.setCell Bv (p:=⟨wr.heap.size,2,none⟩) RX (.int .u8 p);have Ix:=rI EI (.int .u8 p);have LL:=(ZR.o.below Bu (wS _)).more (B':=(W6.setCell ⟨wr.heap.size,2,none⟩ (.int .u8 p)).heap.size) (by simpa using NI);have PH:(W6.setCell ⟨wr.heap.size,2,none⟩ (.int .u8 p)).heap.size=W6.heap.size:=s_;generalize FU:W6.setCell ⟨wr.heap.size,2,none⟩ (.int .u8 p)=W7 at Bu Ix LL PH;obtain⟨⟨y0,y1,y2,y3,y4⟩,z0,z1,z2,z3,z4⟩:=nu EI;obtain⟨⟨q0,q1,q2,q3,q4⟩,_⟩:=nu Ix;clear EI Ix Ud;go_wp2_with fail;refine(iT (Rg.mid f t p x) A4 _ c4 W7 acc LL o_).mono ?_;rintro e w8⟨A8,c8,rfl,EN,Qo⟩;have Of:=Qo.size;have Gq:Below w.heap.size w w8:=(hB.trans (Bu.mono JX)).trans (Qo.mono o_);go_wp2;go_roundw
         case rel=>exact⟨k+1,o_,by go_num,Gq,A8,c8,by rw[FL.o],by rw[FL.o];exact EN.lower o_⟩
         case measure=>simp[intOf];omega))
        |((
         have EI:W6.heap[w5.heap.size]? =some (.cells #[.int .u64 (Rg.mid f t p x).fr,.int .u64 (Rg.mid f t p x).to,.int .u8 x.prot,.int .i64 (Rg.mid f t p x).ino,.int .u64 (Rg.mid f t p x).off] 45 (0,0)):=(by rw[Ud];exact newbox0 _ _);have Bv:Below wr.heap.size wr W6:=(by rw[Ud];exact wQ);have Bc:w5.heap.size<W6.heap.size:=(by rcases Nat.lt_or_ge (w5.heap.size) W6.heap.size with h|h;exact h;rw[Array.getElem?_eq_none h]at EI;cases EI);have NI:=Bv.size;have RX:wr.heap.size<=w5.heap.size:=o_;have Bu:Below wr.heap.size wr (W6.setCell ⟨w5.heap.size,2,none⟩ (.int .u8 p)):=Below.setCell Bv (p:=⟨w5.heap.size,2,none⟩) RX (.int .u8 p);have Ix:=rI EI (.int .u8 p);have LL:=(ZR.o.below Bu (wS _)).more (B':=(W6.setCell ⟨w5.heap.size,2,none⟩ (.int .u8 p)).heap.size) (by simpa using NI);have PH:(W6.setCell ⟨w5.heap.size,2,none⟩ (.int .u8 p)).heap.size=W6.heap.size:=s_;generalize FU:W6.setCell ⟨w5.heap.size,2,none⟩ (.int .u8 p)=W7 at Bu Ix LL PH;obtain⟨⟨y0,y1,y2,y3,y4⟩,z0,z1,z2,z3,z4⟩:=nu EI;obtain⟨⟨q0,q1,q2,q3,q4⟩,_⟩:=nu Ix;clear EI Ix Ud;go_wp2_with fail;refine(iT (Rg.mid f t p x) A4 _ c4 W7 acc LL o_).mono ?_;rintro e w8⟨A8,c8,rfl,EN,Qo⟩;have Of:=Qo.size;have Gq:Below w.heap.size w w8:=(hB.trans (Bu.mono JX)).trans (Qo.mono o_);go_wp2;go_roundw
         case rel=>exact⟨k+1,o_,by go_num,Gq,A8,c8,by rw[FL.o],by rw[FL.o];exact EN.lower o_⟩
         case measure=>simp[intOf];omega))
     ·have hke:k=n:=o_;have yb:=wP (sG (f:=f) (t:=t) (p:=p) (l:=l) (k:=k) (by have:=An.o;omega));have Vr:=ho.rsl o_;generalize zP:Rg.protTo l f t p k=acc at *
      have hml:acc.length<=192:=o_;obtain⟨ZR,HO⟩:=zh2 Vr ho;have Cj:=gn acc;clear zP ho Vr hke Kk;have hkf:decide ((k:Int)<(n:Int))=false:=t_;go_wp2_with fail;refine(kB A4 _ c4 _ acc ZR.o o_).mono ?_;rintro e w5⟨A5,c5,rfl,zE,zJ⟩;have Iw:=zJ.size;go_wp2_with fail;refine(qn A5 c5 w5 _ _ zE o_).mono ?_;rintro e w6⟨A6,c6,rfl,Bq,rfl⟩;go_wp2;go_ret2;refine⟨A6,c6,?_,?_,?_⟩
      ·rw[HQ.o,<-yb.o];rfl
      ·rw[HQ.o,<-yb.o];exact Bq.lower o_
      ·exact hB.trans (zJ.mono o_)
  ·have HP:Hid (Rg.protect l f t p=([],1)):=wP (by simp[Rg.protect,hp]);clear hS yi hr AU hl;go_enter func91,ntmps91;go_wp2_with (go_at_call 142;refine(HS.o).mono ?_;rintro e w1⟨rfl,xu⟩);go_ret2;rw[HP.o];exact⟨none,0,rfl,OwnR.nil _ _,by exact wQ⟩
end
section
open Go.RowKit Go.Sort
theorem app_many {w:World}{ops:Array Oper}{rest:List Oper}{o:Oper}{a:Act}{Q:Exit->Act->World->Prop}(zH:o.guard=none)(s x:Operand)
  (ho:o.op= .call { callee:= .builtin .append,args:= #[s,x],argTypes:= #[59,59]})
  (base:Nat)(A:Option Addr)(cap:Nat)(l:List Reg)(hs:a.eval s= .slice A l.length cap)(xC:OwnR w base A cap l)
  (X:Option Addr)(m c:Nat)(k:List Reg)(hx:a.eval x= .slice X m c)(hk:RSl w w.heap.size X m c k)
  (xD:l.length+m<1000000)(xH:base<=w.heap.size)
  (h: ∀A' xq w',OwnR w' base A' xq (l++k)->w.grownBy w' (A.map (·.block))->wpList prog ops Q rest (a.put o.dst (.slice A' (l.length+m) xq)) w'):
  wpList prog ops Q (o::rest) a w:=by
 obtain⟨i0,zx,xT,xQ,xX⟩:=info_parts jN;have zz:=hk.len;rcases Nat.eq_zero_or_pos m with rfl|hm
 ·obtain rfl:k=[]:=List.eq_nil_of_length_eq_zero zz;have Ae:Src prog i0.size 59 (.slice X 0 c) 0 [] w:=by
   cases X with
   |none=>exact Src.ofNil w underlying59 c
   |some ad=>exact Src.ofSlice w underlying59 ad 0 c [] s_ s_ s_
  have hle:l.length<=cap:=by
   rcases xC.form with⟨_,h2,h3⟩|⟨g,_,_,_,h4⟩
   ·rw[h2];simp
   ·exact h4
  have yL:=run_append_nothing (P:=prog) w 59 59 o.type 45 i0 underlying59 zx A l.length cap hle (.slice X 0 c) Ae;have h':=h A cap w (by simpa using xC) ⟨rfl,rfl,rfl,wS _,fun _ _ _ =>rfl⟩;refine wpList_plain zH fun K hK=>?_;unfold Oper.wp;simp[execOp,ho,resolve,invoke,builtin,hs,hx,yL,Result.andThen];exact hK _ _ h'
 ·obtain⟨b,off,rfl,_⟩: ∃b off,X=some ⟨b,off,none⟩/\True:=by
   obtain⟨b,off,e,_⟩:=hk.at_ 0 (k[0]' o_) (wV o_);exact⟨b,off,e,trivial⟩
  refine wpList_append_lies w zH s x 59 ho base 45 i0 _ 5 40 underlying59 zx xT xQ xX rfl o_ _ l.length (rcs l) hs xC ⟨b,off,none⟩ m c (rcs k) hx (by rw[aY,zz]) hk.cells
   (bU k) hm (by unfold maxLen;omega) o_ xH w.heap.size rfl ?_
  intro g xq w' zg hg yr xw;refine h (some ⟨g,0,none⟩) xq w' ?_ ?_
  ·unfold OwnR;rw[ez,wU,zz];exact zg
  ·cases A<;>simpa [Value.ownBlock]using hg
theorem sB (A:Option Addr)(n cap:Nat)(l:List Reg)(w:World)(h:RSl w w.heap.size A n cap l)(hf:n<900000):
  Calls prog 57 #[.slice A n cap] w fun e w'=> ∃A' xq,e= .returned (.slice A' n xq)/\OwnR w' w.heap.size A' xq l/\Below w.heap.size w w':=by
 have hlen:=h.len;cases A with
 |none=>
  have h0:l=[]:=by
   cases l with
   |nil=>rfl
   |cons r l=>obtain⟨b,off,e,_⟩:=h.at_ 0 r rfl;cases e
  subst h0;obtain rfl:n=0:=hlen.symm;have Du:=fun(W:World)=>Lib.run_eql_slice_nil (P:=prog) (w:=W) 59 45 none 0 cap 0 0 underlying59;go_enter func57,ntmps57;go_wp2_with fail;go_ret;exact⟨none,0,rfl,OwnR.nil w _,xp _ _⟩
 |some ad=>
  have Du:=fun(W:World)=>Lib.run_eql_slice_nil (P:=prog) (w:=W) 59 45 (some ad) n cap 0 0 underlying59;have h1:=h.below (w':=w.alloc (.cells #[] 45)) wR (wS _);have H1:=wP (h1.more (B':=(w.alloc (.cells #[] 45)).heap.size) s_);clear h h1;go_enter func57,ntmps57;go_upto_region 3 with(fail);have VV:OwnR (w.alloc (.cells #[] 45)) w.heap.size (some ⟨w.heap.size,0,none⟩) 0 []:=⟨rfl,.inr ⟨w.heap.size,0, #[],rfl,wS _,heap_alloc_new w _,wS _,d_,rfl,rfl⟩⟩;go_wp2_with (at_builtin;refine app_many rfl (.tmp 5) (.tmp 6) rfl w.heap.size (some ⟨w.heap.size,0,none⟩) 0 [] rfl VV (some ad) n cap l rfl H1.o t_ s_ ?_;intro A' xq w2 ho hg);have hb:Below w.heap.size w w2:=wR.grown hg s_ (fun k hk=>by simp at hk;omega);have HO:=wP ho;clear ho hg;go_ret;exact⟨A',xq,s_,by simpa using HO.o,hb⟩
end
section
def Rg.hit (a:Int)(r:Reg):Reg:=⟨0,0,r.prot,r.ino,if r.ino= -1 then r.off else w64 (r.off+w64 (a-r.fr))⟩
def Rg.ats (l:List Reg)(a:Int):List Reg:=(l.filter (Rg.holds · a)).map (Rg.hit a)
theorem aM (l k:List Reg)(a:Int):Rg.ats (l++k) a=Rg.ats l a++Rg.ats k a:=by simp[Rg.ats]
theorem qw (a:Int):Rg.ats [] a=[]:=rfl
theorem aA (x:Reg)(l:List Reg)(a:Int):Rg.ats (x::l) a=(if x.fr<=a/\a<x.to then [Rg.hit a x]else [])++Rg.ats l a:=by
 unfold Rg.ats;by_cases h:x.fr<=a/\a<x.to
 ·simp[List.filter_cons,Rg.holds,h]
 ·have h':decide (x.fr<=a/\a<x.to)=false:=(by simpa using h);simp only[List.filter_cons,Rg.holds,h',if_neg h];simp
variable {x:Reg}{f a:Int}
theorem kS {g:Int}(hf:x.fr<=f)(ha:f<=a):Rg.hit a (Rg.rpart x f g)=Rg.hit a x:=by
 unfold Rg.hit Rg.rpart;simp only[Reg.mk.injEq,true_and];by_cases h:x.ino= -1
 ·simp[h]
 ·simp only[if_neg h,ke];omega
variable {t:Int}
theorem vX (yS:f<t)(hx:x.fr<x.to):Rg.ats (Rg.wo1 f t x) a=if f<=a/\a<t then []else Rg.ats [x] a:=by
 unfold Rg.wo1;by_cases h:x.to<=f\/t<=x.fr
 ·rw[if_pos h];by_cases ym:f<=a/\a<t
  ·rw[if_pos ym,aA,if_neg o_];rfl
  ·rw[if_neg ym]
 ·rw[if_neg h,aM];by_cases ym:f<=a/\a<t
  ·rw[if_pos ym];have e1:Rg.ats (if x.fr<f then [Rg.rpart x x.fr f]else []) a=[]:=by
    split
    ·rw[aA,if_neg (by simp only[Rg.rpart];omega)];rfl
    ·rfl
   have e2:Rg.ats (if t<x.to then [Rg.rpart x t x.to]else []) a=[]:=by
    split
    ·rw[aA,if_neg (by simp only[Rg.rpart];omega)];rfl
    ·rfl
   rw[e1,e2];rfl
  ·rw[if_neg ym];by_cases hl:a<f
   ·have e2:Rg.ats (if t<x.to then [Rg.rpart x t x.to]else []) a=[]:=by
     split
     ·rw[aA,if_neg (by simp only[Rg.rpart];omega)];rfl
     ·rfl
    rw[e2,List.append_nil];split
    ·rw[aA,aA];by_cases hh:x.fr<=a
     ·rw[if_pos (by simp only[Rg.rpart];omega),if_pos o_,kS (Int.le_refl _) hh]
     ·rw[if_neg (by simp only[Rg.rpart];omega),if_neg o_]
    ·rw[aA,if_neg o_];rfl
   ·have e1:Rg.ats (if x.fr<f then [Rg.rpart x x.fr f]else []) a=[]:=by
     split
     ·rw[aA,if_neg (by simp only[Rg.rpart];omega)];rfl
     ·rfl
    rw[e1,List.nil_append];split
    ·rw[aA,aA];by_cases hh:a<x.to
     ·rw[if_pos (by simp only[Rg.rpart];omega),if_pos o_,kS o_ o_]
     ·rw[if_neg (by simp only[Rg.rpart];omega),if_neg o_]
    ·rw[aA,if_neg o_];rfl
variable {l:List Reg}
theorem lp (yS:f<t)(hl: ∀x∈l,x.fr<x.to):Rg.ats (Rg.without l f t) a=if f<=a/\a<t then []else Rg.ats l a:=by
 induction l with
 |nil=>simp[Rg.without,Rg.ats]
 |cons x l ih=>
  have e:Rg.without (x::l) f t=Rg.wo1 f t x++Rg.without l f t:=(by simp[Rg.without]);rw[e,aM,vX yS (hl x s_),ih (fun y hy=>hl y (by simp[hy]))];by_cases ym:f<=a/\a<t
  ·simp[if_pos ym]
  ·simp only[if_neg ym];rw[aA x l,aA x [],qw,List.append_nil]
structure fP (l:List Reg):Prop where
 apart:fS l
 one: ∀x∈l,Rg.one x=true
 ok:bG l
theorem uK (A:List Reg)(p r:Reg):Rg.push (A++[p]) r=if Rg.joins p r=true then A++[⟨p.fr,r.to,p.prot,p.ino,p.off⟩]else A++[p]++[r]:=by
 unfold Rg.push;simp only[List.getLast?_append,List.getLast?_singleton,Option.some_or];split
 ·simp
 ·rfl
theorem lQ {a b:Reg}(h:Rg.joins a b=true):a.to=b.fr/\a.prot=b.prot/\a.ino=b.ino/\(a.ino= -1\/b.off=w64 (a.off+w64 (a.to-a.fr))):=by
 simpa [Rg.joins]using h
variable {A:List Reg}{r:Reg}
theorem jk :fS (A++[r])↔fS A/\(∀x∈A,x.to<=r.fr)/\r.fr<r.to:=by
 unfold fS;rw[List.pairwise_append];constructor
 ·rintro⟨⟨h1,_,h2⟩,h3⟩;exact⟨⟨h1,fun x hx=>h3 x (by simp[hx])⟩,fun x hx=>h2 x hx r s_,h3 r s_⟩
 ·rintro⟨⟨h1,h3⟩,h2,h4⟩;refine⟨⟨h1,s_,fun x hx y hy=>by simp at hy;subst hy;exact h2 x hx⟩,fun x hx=>?_⟩;simp at hx;rcases hx with hx|rfl
  ·exact h3 x hx
  ·exact h4
theorem jd :dl (A++[r])↔dl A/\ ∀x∈A,Rg.joins x r=false:=by
 unfold dl;rw[List.pairwise_append];constructor
 ·rintro⟨h1,_,h2⟩;exact⟨h1,fun x hx=>h2 x hx r s_⟩
 ·rintro⟨h1,h2⟩;exact⟨h1,s_,fun x hx y hy=>by simp at hy;subst hy;exact h2 x hx⟩
variable {p:Reg}
theorem sS (hp:Rg.one p=true)(hr:Rg.one r=true)(If:p.Ok)(BZ:r.Ok)(hj:Rg.joins p r=true):Rg.one ⟨p.fr,r.to,p.prot,p.ino,p.off⟩=true/\Reg.Ok ⟨p.fr,r.to,p.prot,p.ino,p.off⟩:=by
 obtain⟨h1,h2,h3,h4⟩:=lQ hj;have a:=aE hp;have b:=aE hr;obtain⟨f0,f1,t0,t1,p0,p1,i0,i1,o0,o1⟩:=If;obtain⟨f0',f1',t0',t1',p0',p1',i0',i1',o0',o1'⟩:=BZ;rw[ke,ke]at h4;refine⟨?_,⟨f0,f1,t0',t1',p0,p1,i0,i1,o0,o1⟩⟩;unfold Rg.one;simp only[decide_eq_true_eq];refine⟨o_,o_,o_,o_,o_,?_⟩;rcases a.2.2.2.2.2 with h|h
 ·exact .inl h
 ·refine .inr ⟨h.1,h.2.1,?_⟩;rcases b.2.2.2.2.2 with h'|h'
  ·omega
  ·omega
theorem sU (hp:Rg.one p=true)(hr:Rg.one r=true)(hj:Rg.joins p r=true)(a:Int):Rg.ats [⟨p.fr,r.to,p.prot,p.ino,p.off⟩] a=Rg.ats ([p]++[r]) a:=by
 obtain⟨h1,h2,h3,h4⟩:=lQ hj;have x:=aE hp;have y:=aE hr;rw[aM,aA,aA,aA,qw];simp only[List.append_nil];by_cases c1:p.fr<=a/\a<p.to
 ·rw[if_pos o_,if_pos c1,if_neg o_,List.append_nil];simp only[Rg.hit]
 ·by_cases c2:r.fr<=a/\a<r.to
  ·rw[if_pos o_,if_neg c1,if_pos c2,List.nil_append];simp only[Rg.hit,h2,h3];by_cases hi:r.ino= -1
   ·have e1:p.off=0:=by rcases x.2.2.2.2.2 with h|h<;>omega
    have e2:r.off=0:=by rcases y.2.2.2.2.2 with h|h<;>omega
    simp[hi,e1,e2]
   ·rcases h4 with h4|h4
    ·omega
    ·simp only[if_neg hi,h4,ke];have:(p.off+(a-p.fr) % 18446744073709551616) % 18446744073709551616=((p.off+(p.to-p.fr) % 18446744073709551616) % 18446744073709551616+(a-r.fr) % 18446744073709551616) % 18446744073709551616:=o_;rw[this]
  ·rw[if_neg o_,if_neg c1,if_neg c2];rfl
theorem push_law (hs:fP A)(hl:dl A)(hr:Rg.one r=true)(BZ:r.Ok)(xw: ∀x∈A,x.to<=r.fr):
  fP (Rg.push A r)/\dl (Rg.push A r)/\(∀x∈Rg.push A r,x.to<=r.to)/\ ∀a,Rg.ats (Rg.push A r) a=Rg.ats (A++[r]) a:=by
 have hrr:=aE hr;rcases List.eq_nil_or_concat A with rfl|⟨B,p,rfl⟩
 ·rw[push_nil];exact⟨⟨⟨s_,t_⟩,by simp[hr],by intro x hx;simp at hx;subst hx;exact BZ⟩,by simp[dl],s_,fun a=>rfl⟩
 ·rw[List.concat_eq_append]at *
  have hp:=hs.one p s_;have If:=hs.ok p s_;have hpp:=aE hp;obtain⟨ha,hb,hc⟩:=jk.1 hs.apart;obtain⟨la,lb⟩:=jd.1 hl;have hpr:=xw p s_;rw[uK];by_cases hj:Rg.joins p r=true
  ·rw[if_pos hj];obtain⟨m1,m2⟩:=sS hp hr If BZ hj;refine⟨⟨jk.2 ⟨ha,hb,by show p.fr<r.to;omega⟩,?_,?_⟩,jd.2 ⟨la,fun x hx=>?_⟩,?_,fun a=>?_⟩
   ·intro x hx;simp at hx;rcases hx with hx|rfl
    ·exact hs.one x (by simp[hx])
    ·exact m1
   ·intro x hx;simp at hx;rcases hx with hx|rfl
    ·exact hs.ok x (by simp[hx])
    ·exact m2
   ·have:=lb x hx;simpa [Rg.joins]using this
   ·intro x hx;simp at hx;rcases hx with hx|rfl
    ·have:=hb x hx;omega
    ·exact Int.le_refl _
   ·rw[aM,sU hp hr hj,aM,aM,aM,List.append_assoc]
  ·rw[if_neg hj];refine⟨⟨jk.2 ⟨hs.apart,xw,hrr.1⟩,?_,?_⟩,jd.2 ⟨hl,fun x hx=>?_⟩,?_,fun a=>rfl⟩
   ·intro x hx;rw[List.mem_append]at hx;rcases hx with hx|hx
    ·exact hs.one x hx
    ·simp at hx;subst hx;exact hr
   ·intro x hx;rw[List.mem_append]at hx;rcases hx with hx|hx
    ·exact hs.ok x hx
    ·simp at hx;subst hx;exact BZ
   ·rw[List.mem_append]at hx;rcases hx with hx|hx
    ·have h1:=hb x hx;unfold Rg.joins;simp;omega
    ·simp at hx;subst hx;simpa using hj
   ·intro x hx;rw[List.mem_append]at hx;rcases hx with hx|hx
    ·have:=xw x hx;omega
    ·simp at hx;subst hx;exact Int.le_refl _
theorem lR (hs:fP l):fP (Rg.joined l)/\dl (Rg.joined l)/\ ∀a,Rg.ats (Rg.joined l) a=Rg.ats l a:=by
 have key: ∀(l A:List Reg),fP A->dl A->fP l->(∀x∈A,∀y∈l,x.to<=y.fr)->fP (l.foldl Rg.push A)/\dl (l.foldl Rg.push A)/\ ∀a,Rg.ats (l.foldl Rg.push A) a=Rg.ats (A++l) a:=by
  intro l
  induction l with
  |nil=>intro A h1 h2 _ _;exact⟨h1,h2,fun a=>s_⟩
  |cons r l ih=>
   intro A h1 h2 h3 h4;obtain⟨q1,q2,q3,q4⟩:=push_law h1 h2 (h3.one r s_) (h3.ok r s_) (fun x hx=>h4 x hx r s_);have hc:=List.pairwise_cons.1 h3.apart.1;obtain⟨z1,z2,z3⟩:=ih (Rg.push A r) q1 q2 ⟨⟨hc.2,fun x hx=>h3.apart.2 x (by simp[hx])⟩,fun x hx=>h3.one x (by simp[hx]),fun x hx=>h3.ok x (by simp[hx])⟩ (fun x hx y hy=>by have:=q3 x hx;have:=hc.1 y hy;omega);refine⟨z1,z2,fun a=>?_⟩;rw[List.foldl_cons,z3 a,aM,q4 a,aM,aM,List.append_assoc,<-aM];rfl
 have:=key l [] ⟨⟨s_,s_⟩,s_,by intro x hx;simp at hx⟩ (by simp[dl]) hs s_;simpa [Rg.joined]using this
theorem my (hs:fP l)(hl:dl l)(hn:l.length<=64):Rg.right l=true:=by
 unfold Rg.right;rw[Bool.and_eq_true,List.all_eq_true];refine⟨fun k hk=>?_,by simpa using hn⟩;have FN:k<l.length:=List.mem_range.1 hk;have e:=wV FN;cases k with
 |zero=>
  unfold Rg.okAt;rw[e];simp[hs.one _ (List.getElem_mem FN)]
 |succ j=>
  have e2:=wV (show j<l.length by omega);rw[dg e e2,hs.one _ (List.getElem_mem FN)];have h1:=List.pairwise_iff_getElem.1 hs.apart.1 j (j+1) o_ FN o_;have h2:=List.pairwise_iff_getElem.1 hl j (j+1) o_ FN o_;simp[h1,h2]
end
section
variable {B:List Reg}{r x:Reg}
theorem mM :x∈Rg.ins B r↔x=r\/x∈B:=by
 induction B with
 |nil=>simp[Rg.ins]
 |cons y B ih=>
  unfold Rg.ins;split
  ·simp
  ·simp only[List.mem_cons,ih];constructor
   ·rintro(h|h|h)<;>simp[h]
   ·rintro(h|h|h)<;>simp[h]
theorem wn (hB:fS B)(hr:r.fr<r.to)(h: ∀x∈B,x.to<=r.fr\/r.to<=x.fr):fS (Rg.ins B r):=by
 refine⟨?_,fun x hx=>by rcases mM.1 hx with rfl|hx;exact hr;exact hB.2 x hx⟩
 induction B with
 |nil=>simp[Rg.ins]
 |cons y B ih=>
  have hc:=List.pairwise_cons.1 hB.1;have hy:=h y s_;have TL:=hB.2 y s_;unfold Rg.ins;split
  ·refine List.pairwise_cons.2 ⟨fun x hx=>?_,hB.1⟩;simp at hx;rcases hx with rfl|hx
   ·omega
   ·have:=hc.1 x hx;omega
  ·refine List.pairwise_cons.2 ⟨fun x hx=>?_,ih ⟨hc.2,fun x hx=>hB.2 x (by simp[hx])⟩ (fun x hx=>h x (by simp[hx]))⟩;rcases mM.1 hx with rfl|hx
   ·omega
   ·exact hc.1 x hx
variable {a:Int}
theorem qx (h: ¬(r.fr<=a/\a<r.to)):Rg.ats (Rg.ins B r) a=Rg.ats B a:=by
 induction B with
 |nil=>simp only[Rg.ins];rw[aA,if_neg h];rfl
 |cons y B ih=>
  unfold Rg.ins;split
  ·rw[aA r,if_neg h];rfl
  ·rw[aA y,aA y,ih]
theorem tI (h:r.fr<=a/\a<r.to)(hB:Rg.ats B a=[]):Rg.ats (Rg.ins B r) a=Rg.ats [r] a:=by
 induction B with
 |nil=>rfl
 |cons y B ih=>
  rw[aA,List.append_eq_nil_iff]at hB;unfold Rg.ins;split
  ·rw[aA r,aA r,aA y,hB.1,hB.2];rfl
  ·rw[aA y,hB.1,ih hB.2];rfl
variable {f t:Int}{y:Reg}
theorem wo1_out (yS:f<t)(h:y∈Rg.wo1 f t x):y.to<=f\/t<=y.fr:=by
 unfold Rg.wo1 at h;split at h
 ·simp at h;subst h;assumption
 ·rw[List.mem_append]at h;rcases h with h|h
  ·split at h
   ·simp at h;subst h;exact .inl (Int.le_refl _)
   ·simp at h
  ·split at h
   ·simp at h;subst h;exact .inr (Int.le_refl _)
   ·simp at h
theorem dC {g:Int}(h:Rg.one x=true)(ya:x.Ok)(h1:x.fr<=f)(h2:f<g)(h3:g<=x.to)(h4:f % 4096=0)(h5:g % 4096=0):Rg.one (Rg.rpart x f g)=true/\(Rg.rpart x f g).Ok:=by
 have a:=aE h;obtain⟨f0,f1,t0,t1,p0,p1,i0,i1,o0,o1⟩:=ya;by_cases hi:x.ino= -1
 ·have e:x.off=0:=by rcases a.2.2.2.2.2 with h|h<;>omega
  have er:Rg.rpart x f g=⟨f,g,x.prot, -1,0⟩:=(by unfold Rg.rpart;simp[hi,e]);rw[er];refine⟨?_,?_⟩
  ·unfold Rg.one;simp only[decide_eq_true_eq];exact⟨h2,o_,h4,h5,o_,.inl ⟨trivial,trivial⟩⟩
  ·constructor<;>(simp only;omega)
 ·have b:0<=x.ino/\x.off % 4096=0/\x.off+(x.to-x.fr)<=281474976710656:=(by rcases a.2.2.2.2.2 with h|h;omega;exact h);have e:w64 (x.off+w64 (f-x.fr))=x.off+(f-x.fr):=(by rw[ke,ke];omega);refine⟨?_,?_⟩
  ·unfold Rg.one Rg.rpart;simp only[if_neg hi,decide_eq_true_eq,e];omega
  ·unfold Rg.rpart;simp only[if_neg hi,e];constructor<;>(simp only;omega)
theorem nJ (h:Rg.one x=true)(ya:x.Ok)(hf:f % 4096=0)(ht:t % 4096=0)(hy:y∈Rg.wo1 f t x):Rg.one y=true/\y.Ok:=by
 have a:=aE h;unfold Rg.wo1 at hy;split at hy
 ·simp at hy;subst hy;exact⟨h,ya⟩
 ·rw[List.mem_append]at hy;rcases hy with hy|hy
  ·split at hy
   ·simp at hy;subst hy;exact dC h ya (Int.le_refl _) (by assumption) o_ o_ hf
   ·simp at hy
  ·split at hy
   ·simp at hy;subst hy;exact dC h ya o_ (by assumption) (Int.le_refl _) ht o_
   ·simp at hy
variable {l:List Reg}
theorem gX (hs:fP l)(yS:f<t)(hf:f % 4096=0)(ht:t % 4096=0):fP (Rg.without l f t):=by
 refine⟨gZ hs.apart yS,fun y hy=>?_,fun y hy=>?_⟩
 ·obtain⟨x,hx,hy⟩:=List.mem_flatMap.1 hy;exact(nJ (hs.one x hx) (hs.ok x hx) hf ht hy).1
 ·obtain⟨x,hx,hy⟩:=List.mem_flatMap.1 hy;exact(nJ (hs.one x hx) (hs.ok x hx) hf ht hy).2
theorem gM (h:Rg.right l=true)(ya:bG l):fP l:=⟨cS h,dE h,ya⟩
variable {out:List Reg}
theorem mY (h:Rg.few l=(out,0)):out=l/\l.length<=64:=by
 unfold Rg.few at h;split at h
 ·simp at h
 ·simp at h;exact⟨h.symm,o_⟩
theorem rf (ya:bG l)(BZ:r.Ok)(h:Rg.put l r=(out,0)):
  Rg.right out=true/\bG out/\ ∀a,Rg.ats out a=if r.fr<=a/\a<r.to then Rg.ats [r] a else Rg.ats l a:=by
 unfold Rg.put at h;split at h
 ·rename_i hc;obtain⟨hr,h1⟩:=hc;obtain⟨rfl,hn⟩:=mY h;have a:=aE h1;have hs:=gM hr ya;have hw:=gX hs a.1 a.2.2.1 a.2.2.2.1;have Mb: ∀x∈Rg.without l r.fr r.to,x.to<=r.fr\/r.to<=x.fr:=fun y hy=>by
   obtain⟨x,hx,hy⟩:=List.mem_flatMap.1 hy;exact wo1_out a.1 hy
  have hi:fP (Rg.ins (Rg.without l r.fr r.to) r):=⟨wn hw.apart a.1 Mb,fun x hx=>by rcases mM.1 hx with rfl|hx;exact h1;exact hw.one x hx,fun x hx=>by rcases mM.1 hx with rfl|hx;exact BZ;exact hw.ok x hx⟩;obtain⟨j1,j2,j3⟩:=lR hi;refine⟨my j1 j2 hn,j1.ok,fun b=>?_⟩;rw[j3 b];have yl:=lp (a:=b) a.1 hs.apart.2;by_cases hb:r.fr<=b/\b<r.to
  ·rw[if_pos hb]at yl⊢;exact tI hb yl
  ·rw[if_neg hb]at yl⊢;rw[qx hb,yl]
 ·simp at h
theorem jp (h:Rg.stretch l f t=true):f % 4096=0/\t % 4096=0:=by
 unfold Rg.stretch at h;rw[Bool.and_eq_true]at h;have:=aE h.2;exact⟨this.2.2.1,this.2.2.2.1⟩
theorem rG (ya:bG l)(h:Rg.cut l f t=(out,0)):
  Rg.right out=true/\bG out/\ ∀a,Rg.ats out a=if f<=a/\a<t then []else Rg.ats l a:=by
 unfold Rg.cut at h;split at h
 ·rename_i hc;obtain⟨rfl,hn⟩:=mY h;obtain⟨hr,yS,_⟩:=bu hc;obtain⟨m1,m2⟩:=jp hc;have hs:=gM hr ya;have hw:=gX hs yS m1 m2;exact⟨my hw (gY hr ya yS) hn,hw.ok,fun a=>lp yS hs.apart.2⟩
 ·simp at h
def Reg.withProt (p:Int)(x:Reg):Reg:=⟨x.fr,x.to,p,x.ino,x.off⟩
variable {p:Int}
theorem pL (h:Rg.one x=true)(ya:x.Ok)(yS:f<t)(hf:f % 4096=0)(ht:t % 4096=0)(hp0:0<=p)(hp:p<=7)(hy:y∈Rg.run1 f t (aJ p) x):
  x.fr<=y.fr/\y.fr<y.to/\y.to<=x.to/\Rg.one y=true/\y.Ok:=by
 have a:=aE h;rw[ii h ya yS]at hy;split at hy
 ·simp at hy;subst hy;exact⟨Int.le_refl _,a.1,Int.le_refl _,h,ya⟩
 ·rename_i hc;rw[List.mem_append,List.mem_cons]at hy;rcases hy with hy|hy|hy
  ·split at hy
   ·rename_i d;simp at hy;subst hy;have q:=dC h ya (Int.le_refl _) d o_ a.2.2.1 hf;exact⟨Int.le_refl _,d,by simp only[Rg.rpart];omega,q⟩
   ·simp at hy
  ·subst hy;have q:=dC (f:=max x.fr f) (g:=min x.to t) h ya o_ o_ o_ o_ o_;have b:=aE q.1;obtain⟨f0,f1,t0,t1,p0,p1,i0,i1,o0,o1⟩:=q.2;refine⟨by simp only[Rg.mid];omega,by simp only[Rg.mid];omega,by simp only[Rg.mid];omega,?_,?_⟩
   ·unfold Rg.one Rg.mid;simp only[decide_eq_true_eq];simp only[Rg.rpart]at b;simp only[Rg.rpart];refine⟨b.1,b.2.1,b.2.2.1,b.2.2.2.1,hp,b.2.2.2.2.2⟩
   ·exact⟨f0,f1,t0,t1,hp0,by simp only[Rg.mid];omega,i0,i1,o0,o1⟩
  ·split at hy
   ·rename_i d;simp at hy;subst hy;have q:=dC h ya o_ d (Int.le_refl _) ht a.2.2.2.1;exact⟨by simp only[Rg.rpart];omega,d,Int.le_refl _,q⟩
   ·simp at hy
theorem sr (h:Rg.one x=true)(ya:x.Ok)(yS:f<t):(Rg.run1 f t (aJ p) x).Pairwise (fun a b=>a.to<=b.fr):=by
 rw[ii h ya yS];have a:=aE h;split
 ·simp
 ·split<;>split<;>simp[Rg.rpart,Rg.mid]<;>omega
theorem uy (hs:fP l)(yS:f<t)(hf:f % 4096=0)(ht:t % 4096=0)(hp0:0<=p)(hp:p<=7):fP (Rg.run f t (aJ p) l):=by
 have key: ∀y∈Rg.run f t (aJ p) l,∃x∈l,x.fr<=y.fr/\y.fr<y.to/\y.to<=x.to/\Rg.one y=true/\y.Ok:=fun y hy=>by
  obtain⟨x,hx,hy⟩:=List.mem_flatMap.1 hy;exact⟨x,hx,pL (hs.one x hx) (hs.ok x hx) yS hf ht hp0 hp hy⟩
 refine⟨⟨?_,fun y hy=>?_⟩,fun y hy=>?_,fun y hy=>?_⟩
 ·clear key
  induction l with
  |nil=>simp[Rg.run]
  |cons x l ih=>
   have hc:=List.pairwise_cons.1 hs.apart.1;have Gj:fP l:=⟨⟨hc.2,fun y hy=>hs.apart.2 y (by simp[hy])⟩,fun y hy=>hs.one y (by simp[hy]),fun y hy=>hs.ok y (by simp[hy])⟩;have e:Rg.run f t (aJ p) (x::l)=Rg.run1 f t (aJ p) x++Rg.run f t (aJ p) l:=(by simp[Rg.run]);rw[e,List.pairwise_append];refine⟨sr (hs.one x s_) (hs.ok x s_) yS,ih Gj,fun u hu v hv=>?_⟩;obtain⟨z,hz,hv⟩:=List.mem_flatMap.1 hv;have h1:=pL (hs.one x s_) (hs.ok x s_) yS hf ht hp0 hp hu;have h2:=pL (hs.one z (by simp[hz])) (hs.ok z (by simp[hz])) yS hf ht hp0 hp hv;have h3:=hc.1 z hz;omega
 ·obtain⟨x,_,_,h,_⟩:=key y hy;exact h
 ·obtain⟨x,_,_,_,_,h,_⟩:=key y hy;exact h
 ·obtain⟨x,_,_,_,_,_,h⟩:=key y hy;exact h
theorem hit_mid (h1:max x.fr f<=a):Rg.hit a (Rg.mid f t p x)=(Rg.hit a x).withProt p:=by
 have e:=kS (x:=x) (f:=max x.fr f) (g:=min x.to t) (a:=a) o_ h1;have e2:(Rg.hit a (Rg.mid f t p x)).off=(Rg.hit a (Rg.rpart x (max x.fr f) (min x.to t))).off:=rfl;rw[e]at e2;have e3:Rg.hit a (Rg.mid f t p x)=⟨0,0,p,x.ino,(Rg.hit a (Rg.mid f t p x)).off⟩:=(by simp only[Rg.hit,Rg.mid]);rw[e3,e2];simp only[Reg.withProt,Rg.hit]
theorem ats_run1 (h:Rg.one x=true)(ya:x.Ok)(yS:f<t):Rg.ats (Rg.run1 f t (aJ p) x) a=if f<=a/\a<t then(Rg.ats [x] a).map (Reg.withProt p)else Rg.ats [x] a:=by
 have b:=aE h;have hw:=vX (a:=a) yS b.1;rw[ii h ya yS];unfold Rg.wo1 at hw;by_cases hc:x.to<=f\/t<=x.fr
 ·rw[if_pos hc]at hw⊢;by_cases ym:f<=a/\a<t
  ·rw[if_pos ym]at hw⊢;rw[hw];rfl
  ·rw[if_neg ym]
 ·rw[if_neg hc]at hw⊢;rw[aM]at hw;generalize(if t<x.to then [Rg.rpart x t x.to]else [])=R at hw⊢;generalize(if x.fr<f then [Rg.rpart x x.fr f]else [])=L at hw⊢;rw[aM,aA];by_cases ym:f<=a/\a<t
  ·rw[if_pos ym]at hw⊢;rw[List.append_eq_nil_iff]at hw;rw[hw.1,hw.2,aA,qw];by_cases hh:x.fr<=a/\a<x.to
   ·rw[if_pos hh,if_pos (by simp only[Rg.mid];omega),hit_mid o_];rfl
   ·rw[if_neg hh,if_neg (by simp only[Rg.mid];omega)];rfl
  ·rw[if_neg ym]at hw⊢;rw[if_neg (by simp only[Rg.mid];omega),List.nil_append];exact hw
theorem ats_run (hs:fP l)(yS:f<t):Rg.ats (Rg.run f t (aJ p) l) a=if f<=a/\a<t then(Rg.ats l a).map (Reg.withProt p)else Rg.ats l a:=by
 induction l with
 |nil=>simp[Rg.run,Rg.ats]
 |cons x l ih=>
  have hc:=List.pairwise_cons.1 hs.apart.1;have Gj:fP l:=⟨⟨hc.2,fun y hy=>hs.apart.2 y (by simp[hy])⟩,fun y hy=>hs.one y (by simp[hy]),fun y hy=>hs.ok y (by simp[hy])⟩;have e:Rg.run f t (aJ p) (x::l)=Rg.run1 f t (aJ p) x++Rg.run f t (aJ p) l:=(by simp[Rg.run]);have e2:Rg.ats (x::l) a=Rg.ats [x] a++Rg.ats l a:=aM [x] l a;rw[e,aM,ats_run1 (hs.one x s_) (hs.ok x s_) yS,ih Gj,e2];split<;>simp
theorem cov_at (AU:fS l)(h:Rg.cov l f t=true)(h1:f<=a)(h2:a<t):Rg.ats l a≠[]:=by
 induction l generalizing f with
 |nil=>simp[Rg.cov]at h;omega
 |cons x l ih=>
  have Hn:fS l:=⟨(List.pairwise_cons.1 AU.1).2,fun y hy=>AU.2 y (by simp[hy])⟩;rw[aA];rw[Rg.cov,if_pos o_]at h;by_cases hh:x.fr<=a/\a<x.to
  ·rw[if_pos hh];simp
  ·rw[if_neg hh,List.nil_append];split at h
   ·exact ih Hn h o_
   ·exact ih Hn h h1
theorem jt (ya:bG l)(hp0:0<=p)(h:Rg.protect l f t p=(out,0)):
  Rg.right out=true/\bG out/\(∀a,Rg.ats out a=if f<=a/\a<t then(Rg.ats l a).map (Reg.withProt p)else Rg.ats l a)/\ ∀a,f<=a->a<t->Rg.ats l a≠[]:=by
 unfold Rg.protect at h;split at h
 ·rename_i hc;obtain⟨yi,hp⟩:=hc;split at h
  ·rename_i AT;obtain⟨rfl,hn⟩:=mY h;obtain⟨hr,yS,_⟩:=bu yi;obtain⟨m1,m2⟩:=jp yi;have hs:=gM hr ya;have hw:=uy hs yS m1 m2 hp0 hp;obtain⟨j1,j2,j3⟩:=lR hw;exact⟨my j1 j2 hn,j1.ok,fun a=>by rw[j3 a];exact ats_run hs yS,fun a h1 h2=>cov_at hs.apart AT h1 h2⟩
  ·simp at h
 ·simp at h
end
