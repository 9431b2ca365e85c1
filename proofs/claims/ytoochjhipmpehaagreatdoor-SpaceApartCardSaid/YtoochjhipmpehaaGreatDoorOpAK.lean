/- What comes in at the spaces' laws: what is done with a space; -/
import Derived.Test.YtoochjhipmpehaaGreatDoorReK
import Derived.Test.YtoochjhipmpehaaGreatDoorTfZK
import Derived.LaidMore
import Derived.Lib.LaidTab
import Derived.Stop.Joined
set_option linter.unusedVariables false
set_option linter.unusedSimpArgs false
set_option maxRecDepth 100000
namespace Go.Proofs.YtoochjhipmpehaaGreatDoor
section
open Go.ChangeShapes Go.WideShapes Go.ChangeAt Go.RowKit Go.Deep Go.Joins
theorem own:ownKnob Tryz.prog.godebug=none:=by kernel_rfl
theorem oS:laidOutB Tryz.prog=true:=by kernel_rfl
theorem laid_is {H:Type} :(Rows.laid_math_bits_deBruijn64tab:DataW H)=Lib.tabData .u8 (Lib.deBruijn64tab.map Int.ofNat):=rfl
theorem gTab:Tryz.prog.globalNamed "math/bits.deBruijn64tab" =some 0:=by kernel_rfl
theorem tTab:(Tryz.prog.globals[0]?).map (·.type)=some 273:=by kernel_rfl
theorem rL {W:World} (h:laidMetH Tryz.prog [("math/bits.deBruijn64tab",Rows.laid_math_bits_deBruijn64tab)] W):DB W/\0<W.heap.size:=by
 rw[MakeChecks.laidMetH_plain _ _ _ (by kernel_rfl),laid_is]at h;have h1:=Lib.tabIs_of_head gTab tTab Tryz.underlying273 Tryz.underlying5 (by kernel_rfl) (by kernel_rfl) h;have h2:DB W:=fun j hj=>by
  have:=h1.cell gTab j (by simpa using hj);rw[this];simp[List.getD,hj]
 exact⟨h2,(World.block_lt_of_cell? _ _ (h2 0 (by decide)):0<W.heap.size)⟩
theorem door_met (os:Os) (args:Array Value):laidMetH Tryz.prog [("math/bits.deBruijn64tab",Rows.laid_math_bits_deBruijn64tab)] ((World.doorLaid Tryz.prog 14 os).forCall (fun _ _ =>0) ⟨#[],args,[]⟩).memory:=
 laidMetH_of_parts3 (fuel:=8) (laidMet_of_run' 8 (by kernel_rfl) (by kernel_rfl)) (by kernel_rfl) (by kernel_rfl)
section
variable {H:Type} {enc:TypeId×Value->H} {P:Program} {w:World} {base:Nat} {spare:Nat->Bool} {held:Bool}
theorem qF {t:TypeId} {f0 f1 f2 f3 f4:Field} {n:Nat} {c0 c1 c2 c3 c4:Value} {y:DataW H×List MemPlace} (hs:P.underlying t=some (.struct #[f0,f1,f2,f3,f4])) (xj:oneCellFields P #[f0,f1,f2,f3,f4]=true) (h:DataW.trod enc P w base spare held n t [c0,c1,c2,c3,c4]=some y):
  ∃(y0 y1 y2 y3 y4:DataW H×List MemPlace) (n:Nat),DataW.trod enc P w base spare held n f0.type [c0]=some y0/\DataW.trod enc P w base spare held n f1.type [c1]=some y1/\DataW.trod enc P w base spare held n f2.type [c2]=some y2/\DataW.trod enc P w base spare held n f3.type [c3]=some y3/\DataW.trod enc P w base spare held n f4.type [c4]=some y4:=by
 obtain⟨xs,n,_,hx,_,hlen,hg⟩:=DataW.trod_struct hs h;obtain⟨o0,k0⟩:=hone_of xj 0 f0 rfl;obtain⟨o1,k1⟩:=hone_of xj 1 f1 rfl;obtain⟨o2,k2⟩:=hone_of xj 2 f2 rfl;obtain⟨o3,k3⟩:=hone_of xj 3 f3 rfl;obtain⟨o4,k4⟩:=hone_of xj 4 f4 rfl
 match xs,hlen with
 | [y0,y1,y2,y3,y4],_ =>
  exact⟨y0,y1,y2,y3,y4,n,by simpa [o0,k0]using hg 0 f0 rfl,by simpa [o1,k1]using hg 1 f1 rfl,by simpa [o2,k2]using hg 2 f2 rfl,by simpa [o3,k3]using hg 3 f3 rfl,by simpa [o4,k4]using hg 4 f4 rfl⟩
end
section
variable {H:Type} {enc:TypeId×Value->H} {w:World} {base:Nat} {spare:Nat->Bool} {held:Bool}
theorem kU:Tryz.prog.cellsOf 47=10:=by kernel_rfl
end
end
