/- Rows of puts: an element's cells, and what keeps them. Files: what vfs.New makes of entries. -/
import Derived.Test.YtoochjhipmpehaaGreatDoorEqK
import Derived.Test.YtoochjhipmpehaaGreatDoorTvAK
set_option linter.unusedVariables false
set_option linter.unusedSimpArgs false
set_option maxRecDepth 100000
namespace Go.Proofs.YtoochjhipmpehaaGreatDoor
section
open Go.RowKit Go.Sort
variable {l:List (Nat×Leaf)}
theorem pcs_get {k:Nat} {r:Nat×Leaf} (h:l[k]? =some r) (j:Nat) (hj:j<4):(l.flatMap pc)[k*4+j]? =(pc r)[j]? :=by
 induction l generalizing k with
 |nil=>simp at h
 |cons x l ih=>
  cases k with
  |zero=>
   simp at h;subst h;have:(pc x).length=4:=rfl;simp[vy,List.getElem?_append,this,hj]
  |succ k=>
   simp at h;have e:=ih h;have:(pc x).length=4:=rfl;rw[vy,vj (by omega),this,<-e];congr 1;omega
variable {w:World} {base cap:Nat}
theorem OwnP.elem {g:Nat} (h:OwnP w base (some ⟨g,0,none⟩) cap l) {j:Nat} {x:Nat×Leaf} (hp:l[j]? =some x):
  w.cell? ⟨g,j*4,none⟩=some (.int .u64 ((x.1*4096:Nat):Int))/\w.cell? ⟨g,j*4+1,none⟩=some (.int .i64 (x.2.frame:Int))/\w.cell? ⟨g,j*4+2,none⟩=some (.int .u8 (x.2.prot:Int))/\w.cell? ⟨g,j*4+3,none⟩=some (.bool x.2.copy):=by
 have hk:j<l.length:=(List.getElem?_eq_some_iff.1 hp).1;have hc: ∀i,i<4->w.cell? ⟨g,j*4+i,none⟩=(pc x)[i]? :=fun i hi=>by
  rw[World.ownsRow.cellAt h (j*4+i) (by omega),pcs_get hp i hi]
 exact⟨hc 0 (by omega),hc 1 (by omega),hc 2 (by omega),hc 3 (by omega)⟩
variable {A:Option Addr}
theorem OwnP.form (h:OwnP w base A cap l):(A=none/\l=[]/\cap=0)\/ ∃g,A=some ⟨g,0,none⟩/\base<=g/\g<w.heap.size/\l.length<=cap:=dJ.form h
variable {w':World}
theorem OwnP.same (h:OwnP w base A cap l) (hb: ∀g,A=some ⟨g,0,none⟩->w'.heap[g]? =w.heap[g]?):OwnP w' base A cap l:=dJ.same h hb
theorem OwnP.kept (h:OwnP w base A cap l) (hb:Below w.heap.size w w'):OwnP w' base A cap l:=h.same fun g hg=>by
 rcases h.form with⟨e,_⟩|⟨g',e,_,vH,_⟩
 ·rw[e]at hg;cases hg
 ·rw[e]at hg;injection hg with hg;injection hg with hg;subst hg;exact hb.block _ vH
end
section
open Go.RowKit Go.Sort
theorem rT {F:List Nd} {e:Ent} (hF:ib F) (hd: ∀i,e.dat i<256):ib (addM F e).2:=by
 unfold addM;split
 ·exact hF
 ·split
  ·exact hF
  ·split
   ·exact hF
   ·split
    ·exact hF
    ·intro i y hy;simp only at hy;by_cases hi:i<F.length
     ·rw[vk hi]at hy;exact hF i y hy
     ·rw[vj (by omega)]at hy;have:=vl hy;rw[List.mem_singleton]at this;subst this;exact hd
theorem kW: ∀ {l:List Ent} {F:List Nd} {i:Nat},ib F->(∀x∈l,∀i,x.dat i<256)->ib (newM F i l).2.2
 | [],F,i,hF,_ =>hF
 |e::l,F,i,hF,hd=>by
  unfold newM;split
  ·exact hF
  ·exact kW (rT hF (hd e (vv ..))) (fun x hx=>hd x (vu _ hx))
theorem qR:ib [aC]:=fun i y hy=>by
 have:=vl hy;rw[List.mem_singleton]at this;subst this;exact fun j=>by show 0<256;omega
def cV (l:List Ent):List Nd:=(newM [aC] 0 l).2.2
theorem gQ {l:List Ent} (h: ∀x∈l,∀i,x.dat i<256):ib (cV l):=kW qR h
theorem jy (P:Option Addr) (cap:Nat) (l:List Ent) (w:World) (hl:fU w P l) (wY:l.length<=cap) (Dp:l.length<=64) (hr:(newM [aC] 0 l).1=0):
  Calls Tryz.prog 37 #[.slice P l.length cap] w fun e w'=> ∃fs,e= .returned (.tuple #[.pointer (some ⟨fs,0,none⟩), .int .i64 0, .int .i64 0])/\(∃nb c2 ad mp,FsIs w' w.heap.size fs nb c2 ad mp (cV l))/\Below w.heap.size w w':=by
 refine(pG P l.length cap l w hl rfl wY (by omega)).mono fun e w' h=>?_;unfold dA at h;rw[if_neg (by omega),if_neg (by omega)]at h;obtain⟨fs,nb,c2,ad,mp,h1,h2,h3⟩:=h;exact⟨fs,h1,⟨nb,c2,ad,mp,h2⟩,h3⟩
theorem tS (n:Int) (w:World) (h:n<1):Calls Tryz.prog 38 #[.int .i64 n] w fun e w'=>e= .returned (.tuple #[.pointer none, .int .i64 1])/\w=w':=by
 go_enter Tryz.func38,Tryz.ntmps38;go_wp2_with fail;go_ret2;exact⟨rfl,rfl⟩
def entA:Ent:=⟨⟨#[47,97]⟩,1,420,0,0,1,fun _ =>7,⟨#[]⟩⟩
theorem entA_ok:(newM [aC] 0 [entA]).1=0:=by kernel_rfl
theorem tY: ∃y,(cV [entA])[1]? =some y/\y.kind=1/\y.n=1/\ ∀i,y.dat i=7:=⟨bD entA 0 ⟨#[97]⟩,by kernel_rfl,by kernel_rfl,by kernel_rfl,fun i=>rfl⟩
end
