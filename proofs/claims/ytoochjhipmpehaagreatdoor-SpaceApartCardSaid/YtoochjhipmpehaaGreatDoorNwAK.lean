/- The cache's and the table's New, and the cache's Pool. -/
import Derived.Test.YtoochjhipmpehaaGreatDoorCaZK
import Derived.Carry
set_option linter.unusedVariables false
set_option linter.unusedSimpArgs false
set_option maxRecDepth 100000
namespace Go.Proofs.YtoochjhipmpehaaGreatDoor
section
open Go.RowKit Go.Sort
open Go.MapKept (Stamped)
theorem nQ (c a fs m:Nat) (clock:Int) (w:World) (h:aK w c a fs m clock):Calls Tryz.prog 61 #[.pointer (some ⟨c,0,none⟩)] w fun e w'=>e= .returned (.pointer (some ⟨a,0,none⟩))/\w=w':=by
 have c0:w.cell? ⟨c,0,none⟩=some (.pointer (some ⟨a,0,none⟩)):=aa h 0;clear h;go_enter Tryz.func61,Tryz.ntmps61;go_wp2_with fail;go_ret;exact⟨rfl,rfl⟩
theorem qo (a fs:Nat) (w:World) (S:Nat->Prop) (p:Pool) (h:am w S a p):Calls Tryz.prog 39 #[.pointer (some ⟨a,0,none⟩), .pointer (some ⟨fs,0,none⟩)] w
  fun e w'=> ∃c m,e= .returned (.tuple #[.pointer (some ⟨c,0,none⟩), .int .i64 0])/\ar w' S c a fs m 0 p []/\Below w.heap.size w w'/\w.heap.size<=c/\w.heap.size<=m:=by
 have HP:=va h;clear h;have Cx:= @run_makeMap Tryz.prog;go_enter Tryz.func39,Tryz.ntmps39;go_wp2_with fail;go_ret2;have vD:Below w.heap.size w (w.alloc (.map #[] 0)):=vc;have hb:Below w.heap.size w ((w.alloc (.map #[] 0)).alloc (.cells #[.pointer (some ⟨a,0,none⟩), .pointer (some ⟨fs,0,none⟩), .map (some w.heap.size), .int .i64 0] 125)):=vD.alloc (by simp) _;have hl:=HP.out.low;refine⟨w.heap.size+1,w.heap.size,by simp,⟨HP.out.below hb,?_,?_,fun e=>by have:=hl _ e;omega,fun e=>by have:=hl _ e;omega⟩,hb,by omega,vd _⟩
 ·have:=ab (w.alloc (.map #[] 0)) (.cells #[.pointer (some ⟨a,0,none⟩), .pointer (some ⟨fs,0,none⟩), .map (some w.heap.size), .int .i64 0] 125);simpa [aK]using this
 ·refine⟨#[],0,⟨?_,?_,rfl,fun s hs=>by cases hs⟩⟩
  ·exact(ve _ _ _ (by simp)).trans (ab w _)
  ·exact Go.MapKept.stamped_empty 0
theorem ax.first {p p':Pool} {L L':List Slot} {r:Int} {f g:Nat} (h:ax p L r f p' L') (hl:p.lowest=some g):r=0/\f=g/\p'=p.takeAt g/\L'=L:=by
 cases h with
 |free f h1=>rw[hl]at h1;injection h1 with h1;subst h1;exact⟨rfl,rfl,rfl,rfl⟩
 |loose s h1=>rw[hl]at h1;cases h1
 |none h1=>rw[hl]at h1;cases h1
end
