/- Rows of puts: an element's cells, and what keeps them. Files: what vfs.New makes of entries. -/
import Derived.Test.YtoochjhipmpehaaGreatDoorAbK
import Derived.Test.YtoochjhipmpehaaGreatDoorEqK
import Derived.Test.YtoochjhipmpehaaGreatDoorTfZK
import Derived.Test.YtoochjhipmpehaaGreatDoorTvAK
import Derived.Test.YtoochjhipmpehaaGreatDoorVpZK
set_option linter.unusedVariables false
set_option linter.unusedSimpArgs false
set_option maxRecDepth 100000
namespace Go.Proofs.YtoochjhipmpehaaGreatDoor
section
open Go.RowKit Go.Sort
theorem pcs_get {l:List (Nat×Leaf)} {k:Nat} {r:Nat×Leaf} (h:l[k]? =some r) (j:Nat) (hj:j<4):(l.flatMap pc)[k*4+j]? =(pc r)[j]? :=by
 induction l generalizing k with
 |nil=>simp at h
 |cons x l ih=>
  cases k with
  |zero=>
   simp at h
   subst h
   have:(pc x).length=4:=rfl
   simp[List.flatMap_cons,List.getElem?_append,this,hj]
  |succ k=>
   simp at h
   have e:=ih h
   have:(pc x).length=4:=rfl
   rw[List.flatMap_cons,List.getElem?_append_right (by omega),this,←e]
   congr 1
   omega
theorem OwnP.elem {w:World} {base g:Nat} {cap:Nat} {l:List (Nat×Leaf)} (h:OwnP w base (some ⟨g,0,none⟩) cap l) {j:Nat} {x:Nat×Leaf} (hp:l[j]? =some x):
  w.cell? ⟨g,j*4,none⟩=some (.int .u64 ((x.1*4096:Nat):Int))∧w.cell? ⟨g,j*4+1,none⟩=some (.int .i64 (x.2.frame:Int))∧w.cell? ⟨g,j*4+2,none⟩=some (.int .u8 (x.2.prot:Int))∧w.cell? ⟨g,j*4+3,none⟩=some (.bool x.2.copy):=by
 have hk:j<l.length:=(List.getElem?_eq_some_iff.1 hp).1
 have hc: ∀i,i<4→w.cell? ⟨g,j*4+i,none⟩=(pc x)[i]? :=fun i hi=>by
  rw[World.ownsRow.cellAt h (j*4+i) (by omega),pcs_get hp i hi]
 exact⟨hc 0 (by omega),hc 1 (by omega),hc 2 (by omega),hc 3 (by omega)⟩
theorem OwnP.form {w:World} {base:Nat} {A:Option Addr} {cap:Nat} {l:List (Nat×Leaf)} (h:OwnP w base A cap l):(A=none∧l=[]∧cap=0)∨ ∃g,A=some ⟨g,0,none⟩∧base≤g∧g<w.heap.size∧l.length≤cap:=rowLikeP.form h
theorem OwnP.same {w w':World} {base:Nat} {A:Option Addr} {cap:Nat} {l:List (Nat×Leaf)} (h:OwnP w base A cap l) (hb: ∀g,A=some ⟨g,0,none⟩→w'.heap[g]? =w.heap[g]?):OwnP w' base A cap l:=rowLikeP.same h hb
theorem OwnP.kept {w w':World} {base:Nat} {A:Option Addr} {cap:Nat} {l:List (Nat×Leaf)} (h:OwnP w base A cap l) (hb:Below w.heap.size w w'):OwnP w' base A cap l:=h.same fun g hg=>by
 rcases h.form with⟨e,_⟩|⟨g',e,_,hlt,_⟩
 ·rw[e]at hg;cases hg
 ·rw[e]at hg;injection hg with hg;injection hg with hg;subst hg;exact hb.block _ hlt
end
section
open Go.RowKit Go.Sort
theorem addM_bytes {F:List Nd} {e:Ent} (hF:BytesF F) (hd: ∀i,e.dat i<256):BytesF (addM F e).2:=by
 unfold addM
 split
 ·exact hF
 ·split
  ·exact hF
  ·split
   ·exact hF
   ·split
    ·exact hF
    ·intro i y hy
     simp only at hy
     by_cases hi:i<F.length
     ·rw[List.getElem?_append_left hi]at hy
      exact hF i y hy
     ·rw[List.getElem?_append_right (by omega)]at hy
      have:=List.mem_of_getElem? hy
      rw[List.mem_singleton]at this
      subst this
      exact hd
theorem newM_bytes: ∀ {l:List Ent} {F:List Nd} {i:Nat},BytesF F→(∀x∈l,∀i,x.dat i<256)→BytesF (newM F i l).2.2
 | [],F,i,hF,_ =>hF
 |e::l,F,i,hF,hd=>by
  unfold newM
  split
  ·exact hF
  ·exact newM_bytes (addM_bytes hF (hd e (List.mem_cons_self ..))) (fun x hx=>hd x (List.mem_cons_of_mem _ hx))
theorem root_bytes:BytesF [rootNd]:=fun i y hy=>by
 have:=List.mem_of_getElem? hy
 rw[List.mem_singleton]at this
 subst this
 exact fun j=>by show 0<256;omega
def filesOf (l:List Ent):List Nd:=(newM [rootNd] 0 l).2.2
theorem filesOf_bytes {l:List Ent} (h: ∀x∈l,∀i,x.dat i<256):BytesF (filesOf l):=newM_bytes root_bytes h
theorem vnew_good (P:Option Addr) (cap:Nat) (l:List Ent) (w:World) (hl:EntsAt w P l) (hcap:l.length≤cap) (h64:l.length≤64) (hr:(newM [rootNd] 0 l).1=0):
  Calls Tryz.prog 37 #[.slice P l.length cap] w fun e w'=> ∃fs,e= .returned (.tuple #[.pointer (some ⟨fs,0,none⟩), .int .i64 0, .int .i64 0])∧(∃nb c2 ad mp,FsIs w' w.heap.size fs nb c2 ad mp (filesOf l))∧Below w.heap.size w w':=by
 refine(vnew_any P l.length cap l w hl rfl hcap (by omega)).mono fun e w' h=>?_
 unfold VNewPostG at h
 rw[if_neg (by omega),if_neg (by omega)]at h
 obtain⟨fs,nb,c2,ad,mp,h1,h2,h3⟩:=h
 exact⟨fs,h1,⟨nb,c2,ad,mp,h2⟩,h3⟩
def entA:Ent:=⟨⟨#[47,97]⟩,1,420,0,0,1,fun _ =>7,⟨#[]⟩⟩
theorem entA_ok:(newM [rootNd] 0 [entA]).1=0:=by kernel_rfl
theorem entA_file: ∃y,(filesOf [entA])[1]? =some y∧y.kind=1∧y.n=1∧ ∀i,y.dat i=7:=⟨newNd entA 0 ⟨#[97]⟩,by kernel_rfl,by kernel_rfl,by kernel_rfl,fun i=>rfl⟩
end
end Go.Proofs.YtoochjhipmpehaaGreatDoor
