/- Rows of puts: an element's cells, and what keeps them. Files: what vfs.New makes of entries. -/
import Derived.Test.YtoochjhipmpehaaGreatDoorEqK
import Derived.Test.YtoochjhipmpehaaGreatDoorTvAK
set_option linter.unusedVariables false
set_option linter.unusedSimpArgs false
set_option maxRecDepth 100000
namespace Go.Proofs.YtoochjhipmpehaaGreatDoor
section
open Go.RowKit Go.Sort
variable {l:List (Nat×Leaf)}
theorem pcs_get {k:Nat} {r:Nat×Leaf} (h:l[k]? =some r) (j:Nat) (hj:j<4):(l.flatMap pc)[k*4+j]? =(pc r)[j]? :=by
 induction l generalizing k with
 |nil=>simp at h
 |cons x l ih=>
  cases k with
  |zero=>
   simp at h;subst h;have:(pc x).length=4:=rfl;simp[vN,List.getElem?_append,this,hj]
  |succ k=>
   simp at h;have e:=ih h;have:(pc x).length=4:=rfl;rw[vN,vy (by omega),this,<-e];congr 1;omega
variable {w:World} {base cap:Nat}
theorem OwnP.elem {g:Nat} (h:OwnP w base (some ⟨g,0,none⟩) cap l) {j:Nat} {x:Nat×Leaf} (hp:l[j]? =some x):
  w.cell? ⟨g,j*4,none⟩=some (.int .u64 ((x.1*4096:Nat):Int))/\w.cell? ⟨g,j*4+1,none⟩=some (.int .i64 (x.2.frame:Int))/\w.cell? ⟨g,j*4+2,none⟩=some (.int .u8 (x.2.prot:Int))/\w.cell? ⟨g,j*4+3,none⟩=some (.bool x.2.copy):=by
 have hk:j<l.length:=(List.getElem?_eq_some_iff.1 hp).1;have hc: ∀i,i<4->w.cell? ⟨g,j*4+i,none⟩=(pc x)[i]? :=fun i hi=>by
  rw[World.ownsRow.cellAt h (j*4+i) (by omega),pcs_get hp i hi]
 exact⟨hc 0 (by omega),hc 1 (by omega),hc 2 (by omega),hc 3 (by omega)⟩
variable {A:Option Addr}
theorem OwnP.form (h:OwnP w base A cap l):(A=none/\l=[]/\cap=0)\/ ∃g,A=some ⟨g,0,none⟩/\base<=g/\g<w.heap.size/\l.length<=cap:=dF.form h
variable {w':World}
theorem OwnP.same (h:OwnP w base A cap l) (hb: ∀g,A=some ⟨g,0,none⟩->w'.heap[g]? =w.heap[g]?):OwnP w' base A cap l:=dF.same h hb
theorem OwnP.kept (h:OwnP w base A cap l) (hb:Below w.heap.size w w'):OwnP w' base A cap l:=h.same fun g hg=>by
 rcases h.form with⟨e,_⟩|⟨g',e,_,vW,_⟩
 ·rw[e]at hg;cases hg
 ·rw[e]at hg;injection hg with hg;injection hg with hg;subst hg;exact hb.block _ vW
end
section
open Go.RowKit Go.Sort
theorem sa {F:List Nd} {e:Ent} (hF:hU F) (hd: ∀i,e.dat i<256):hU (addM F e).2:=by
 unfold addM;split
 ·exact hF
 ·split
  ·exact hF
  ·split
   ·exact hF
   ·split
    ·exact hF
    ·intro i y hy;simp only at hy;by_cases hi:i<F.length
     ·rw[vz hi]at hy;exact hF i y hy
     ·rw[vy (by omega)]at hy;have:=vA hy;rw[List.mem_singleton]at this;subst this;exact hd
theorem kR: ∀ {l:List Ent} {F:List Nd} {i:Nat},hU F->(∀x∈l,∀i,x.dat i<256)->hU (newM F i l).2.2
 | [],F,i,hF,_ =>hF
 |e::l,F,i,hF,hd=>by
  unfold newM;split
  ·exact hF
  ·exact kR (sa hF (hd e (vK ..))) (fun x hx=>hd x (vJ _ hx))
theorem qS:hU [aB]:=fun i y hy=>by
 have:=vA hy;rw[List.mem_singleton]at this;subst this;exact fun j=>by show 0<256;omega
theorem pU: ∀ {l:List Ent} {F:List Nd} {i:Nat},(newM F i l).2.2.length<=F.length+l.length
 | [],F,i=>vs _
 |e::l,F,i=>by
  unfold newM;split
  ·show F.length<=F.length+(l.length+1);omega
  ·have h1:= @pU l (addM F e).2 (i+1);have h2:(addM F e).2.length<=F.length+1:=by
    unfold addM
    repeat' split
    all_goals(simp)
   show _ <=F.length+(l.length+1);omega
def cI (l:List Ent):List Nd:=(newM [aB] 0 l).2.2
variable {l:List Ent}
theorem gP (h: ∀x∈l,∀i,x.dat i<256):hU (cI l):=kR qS h
theorem oS (h:l.length<=64):(cI l).length<=1000:=by
 have:= @pU l [aB] 0;unfold cI;simp at this;omega
theorem jr (P:Option Addr) (cap:Nat) (l:List Ent) (w:World) (hl:fW w P l) (xn:l.length<=cap) (DP:l.length<=64) (hr:(newM [aB] 0 l).1=0):
  Calls Tryz.prog 37 #[.slice P l.length cap] w fun e w'=> ∃fs,e= .returned (.tuple #[.pointer (some ⟨fs,0,none⟩), .int .i64 0, .int .i64 0])/\(∃nb c2 ad mp,FsIs w' w.heap.size fs nb c2 ad mp (cI l))/\Below w.heap.size w w':=by
 refine(py P l.length cap l w hl rfl xn (by omega)).mono fun e w' h=>?_;unfold dx at h;rw[if_neg (by omega),if_neg (by omega)]at h;obtain⟨fs,nb,c2,ad,mp,h1,h2,h3⟩:=h;exact⟨fs,h1,⟨nb,c2,ad,mp,h2⟩,h3⟩
theorem uf (n:Int) (w:World) (h:n<1):Calls Tryz.prog 38 #[.int .i64 n] w fun e w'=>e= .returned (.tuple #[.pointer none, .int .i64 1])/\w=w':=by
 go_enter Tryz.func38,Tryz.ntmps38;go_wp2_with fail;go_ret2;exact⟨rfl,rfl⟩
def entA:Ent:=⟨⟨#[47,97]⟩,1,420,0,0,1,fun _ =>7,⟨#[]⟩⟩
theorem entA_ok:(newM [aB] 0 [entA]).1=0:=by kernel_rfl
theorem um: ∃y,(cI [entA])[1]? =some y/\y.kind=1/\y.n=1/\ ∀i,y.dat i=7:=⟨bB entA 0 ⟨#[97]⟩,by kernel_rfl,by kernel_rfl,by kernel_rfl,fun i=>rfl⟩
end
