/- What comes in at the spaces' laws: what is done with a space; -/
import Derived.Test.YtoochjhipmpehaaGreatDoorAbK
import Derived.Test.YtoochjhipmpehaaGreatDoorReK
import Derived.Test.YtoochjhipmpehaaGreatDoorTfZK
import Derived.LaidMore
import Derived.Lib.LaidTab
import Derived.Lib.TrailingZeros
import Derived.Stop.Joined
set_option linter.unusedVariables false
set_option linter.unusedSimpArgs false
set_option maxRecDepth 100000
namespace Go.Proofs.YtoochjhipmpehaaGreatDoor
section
open Go.ChangeShapes Go.WideShapes Go.ChangeAt Go.RowKit Go.Deep Go.Joins
theorem own:ownKnob Tryz.prog.godebug=none:=by kernel_rfl
theorem laidOut:laidOutB Tryz.prog=true:=by kernel_rfl
theorem laid_is {H:Type} :(Rows.laid_math_bits_deBruijn64tab:DataW H)=Lib.tabData .u8 (Lib.deBruijn64tab.map Int.ofNat):=rfl
theorem gTab:Tryz.prog.globalNamed "math/bits.deBruijn64tab" =some 0:=by kernel_rfl
theorem tTab:(Tryz.prog.globals[0]?).map (·.type)=some 273:=by kernel_rfl
theorem db_of_laid {W:World} (h:laidMetH Tryz.prog [("math/bits.deBruijn64tab",Rows.laid_math_bits_deBruijn64tab)] W):DB W∧0<W.heap.size:=by
 rw[MakeChecks.laidMetH_plain _ _ _ (by kernel_rfl),laid_is]at h
 have h1:=Lib.tabIs_of_head gTab tTab Tryz.underlying273 Tryz.underlying5 (by kernel_rfl) (by kernel_rfl) h
 have h2:DB W:=fun j hj=>by
  have:=h1.cell gTab j (by simpa using hj)
  rw[this]
  simp[List.getD,hj]
 exact⟨h2,(World.block_lt_of_cell? _ _ (h2 0 (by decide)):0<W.heap.size)⟩
theorem door_met (os:Os) (args:Array Value):laidMetH Tryz.prog [("math/bits.deBruijn64tab",Rows.laid_math_bits_deBruijn64tab)] ((World.doorLaid Tryz.prog 14 os).forCall (fun _ _ =>0) ⟨#[],args,[]⟩).memory:=
 laidMetH_of_parts3 (fuel:=8) (laidMet_of_run' 8 (by kernel_rfl) (by kernel_rfl)) (by kernel_rfl) (by kernel_rfl)
section
variable {H:Type} {enc:TypeId×Value→H} {P:Program} {w:World} {base:Nat} {spare:Nat→Bool} {held:Bool}
theorem open_wide6 {r:Reach} {b0:Nat} {t:TypeId} {f0 f1 f2 f3 f4 f5:Field} {v:Value} {d:DataW H} {p:List MemPlace} (hs:P.underlying t=some (.struct #[f0,f1,f2,f3,f4,f5])) (ho:f0.offset=0∧f1.offset=1∧f2.offset=2∧f3.offset=7∧f4.offset=8∧f5.offset=9)
  (hk:P.cellsOf f0.type=1∧P.cellsOf f1.type=1∧P.cellsOf f2.type=5∧P.cellsOf f3.type=1∧P.cellsOf f4.type=1∧P.cellsOf f5.type=1) (hC:P.cellsOf t=10) (hv:Value.okWide P w r b0 t v) (h:DataW.Trod enc P w base spare held t v d p):
  ∃(c0 c1 c2 c3 c4 c5 c6 c7 c8 c9:Value) (y0 y1 y2 y3 y4 y5:DataW H×List MemPlace) (n:Nat),v= .agg #[c0,c1,c2,c3,c4,c5,c6,c7,c8,c9]∧
   DataW.trod enc P w base spare held n f0.type [c0]=some y0∧DataW.trod enc P w base spare held n f1.type [c1]=some y1∧DataW.trod enc P w base spare held n f2.type [c2,c3,c4,c5,c6]=some y2∧DataW.trod enc P w base spare held n f3.type [c7]=some y3∧DataW.trod enc P w base spare held n f4.type [c8]=some y4∧DataW.trod enc P w base spare held n f5.type [c9]=some y5:=by
 obtain⟨cs,rfl,hsz⟩:=okWide_struct hs hv
 obtain⟨l⟩:=cs
 match l,hsz.trans hC with
 | [c0,c1,c2,c3,c4,c5,c6,c7,c8,c9],_ =>
  obtain⟨fuel,hf⟩:=h
  obtain⟨xs,n,_,hx,_,hlen,hg⟩:=DataW.trod_struct hs hf
  obtain⟨o0,o1,o2,o3,o4,o5⟩:=ho
  obtain⟨k0,k1,k2,k3,k4,k5⟩:=hk
  match xs,hlen with
  | [y0,y1,y2,y3,y4,y5],_ =>
   exact⟨c0,c1,c2,c3,c4,c5,c6,c7,c8,c9,y0,y1,y2,y3,y4,y5,n,rfl,by simpa [Value.cells,o0,k0]using hg 0 f0 rfl,by simpa [Value.cells,o1,k1]using hg 1 f1 rfl,by simpa [Value.cells,o2,k2]using hg 2 f2 rfl,by simpa [Value.cells,o3,k3]using hg 3 f3 rfl,by simpa [Value.cells,o4,k4]using hg 4 f4 rfl,by simpa [Value.cells,o5,k5]using hg 5 f5 rfl⟩
theorem trod_wide5 {t:TypeId} {f0 f1 f2 f3 f4:Field} {n:Nat} {c0 c1 c2 c3 c4:Value} {y:DataW H×List MemPlace} (hs:P.underlying t=some (.struct #[f0,f1,f2,f3,f4])) (hone:oneCellFields P #[f0,f1,f2,f3,f4]=true) (h:DataW.trod enc P w base spare held n t [c0,c1,c2,c3,c4]=some y):
  ∃(y0 y1 y2 y3 y4:DataW H×List MemPlace) (n:Nat),DataW.trod enc P w base spare held n f0.type [c0]=some y0∧DataW.trod enc P w base spare held n f1.type [c1]=some y1∧DataW.trod enc P w base spare held n f2.type [c2]=some y2∧DataW.trod enc P w base spare held n f3.type [c3]=some y3∧DataW.trod enc P w base spare held n f4.type [c4]=some y4:=by
 obtain⟨xs,n,_,hx,_,hlen,hg⟩:=DataW.trod_struct hs h
 obtain⟨o0,k0⟩:=hone_of hone 0 f0 rfl
 obtain⟨o1,k1⟩:=hone_of hone 1 f1 rfl
 obtain⟨o2,k2⟩:=hone_of hone 2 f2 rfl
 obtain⟨o3,k3⟩:=hone_of hone 3 f3 rfl
 obtain⟨o4,k4⟩:=hone_of hone 4 f4 rfl
 match xs,hlen with
 | [y0,y1,y2,y3,y4],_ =>
  exact⟨y0,y1,y2,y3,y4,n,by simpa [o0,k0]using hg 0 f0 rfl,by simpa [o1,k1]using hg 1 f1 rfl,by simpa [o2,k2]using hg 2 f2 rfl,by simpa [o3,k3]using hg 3 f3 rfl,by simpa [o4,k4]using hg 4 f4 rfl⟩
end
section
variable {H:Type} {enc:TypeId×Value→H} {w:World} {base:Nat} {spare:Nat→Bool} {held:Bool}
theorem op11_cells:Tryz.prog.cellsOf 47=10:=by kernel_rfl
theorem open_op11 {b0:Nat} {v:Value} {d:DataW H} {p:List MemPlace} (hv:Value.okWide Tryz.prog w .any b0 47 v) (h:DataW.Trod enc Tryz.prog w base spare held 47 v d p):
  ∃(kd sI:Int) (r:Reg) (addr n:Int) (A:Option Addr) (q cq:Nat),r.Ok∧v= .agg #[.int .i64 kd, .int .i64 sI, .int .u64 r.fr, .int .u64 r.to, .int .u8 r.prot, .int .i64 r.ino, .int .u64 r.off, .int .u64 addr, .int .i64 n, .slice A q cq]:=by
 obtain⟨c0,c1,c2,c3,c4,c5,c6,c7,c8,c9,y0,y1,y2,y3,y4,y5,n,rfl,e0,e1,e2,e3,e4,e5⟩:=open_wide6 Tryz.underlying47 ⟨by kernel_rfl,by kernel_rfl,by kernel_rfl,by kernel_rfl,by kernel_rfl,by kernel_rfl⟩ ⟨by kernel_rfl,by kernel_rfl,by kernel_rfl,by kernel_rfl,by kernel_rfl,by kernel_rfl⟩ op11_cells hv h
 obtain⟨z0,z1,z2,z3,z4,n2,g0,g1,g2,g3,g4⟩:=trod_wide5 Tryz.underlying45 (by kernel_rfl) e2
 obtain⟨x0,h0,_,w0⟩:=DataW.trod_int Tryz.underlying3 e0
 obtain⟨x1,h1,_,w1⟩:=DataW.trod_int Tryz.underlying3 e1
 obtain⟨a0,j0,_,v0⟩:=DataW.trod_int Tryz.underlying43 g0
 obtain⟨a1,j1,_,v1⟩:=DataW.trod_int Tryz.underlying43 g1
 obtain⟨a2,j2,_,v2⟩:=DataW.trod_int Tryz.underlying5 g2
 obtain⟨a3,j3,_,v3⟩:=DataW.trod_int Tryz.underlying3 g3
 obtain⟨a4,j4,_,v4⟩:=DataW.trod_int Tryz.underlying43 g4
 obtain⟨x3,h3,_,w3⟩:=DataW.trod_int Tryz.underlying43 e3
 obtain⟨x4,h4,_,w4⟩:=DataW.trod_int Tryz.underlying3 e4
 have hsl: ∃(A:Option Addr) (q cq:Nat),c9= .slice A q cq:=by
  rcases DataW.trod_slice Tryz.underlying39 e5 with⟨hcs,_⟩|⟨a,len,cap,_,_,_,_,hcs,_⟩
  ·simp at hcs;exact⟨_,_,_,hcs⟩
  ·simp at hcs;exact⟨_,_,_,hcs⟩
 obtain⟨A,q,cq,rfl⟩:=hsl
 simp at h0 h1 h3 h4 j0 j1 j2 j3 j4
 subst h0 h1 h3 h4 j0 j1 j2 j3 j4
 exact⟨x0,x1,⟨a0,a1,a2,a3,a4⟩,x3,x4,A,q,cq,reg_ok v0 v1 v2 v3 v4,rfl⟩
end
end
end Go.Proofs.YtoochjhipmpehaaGreatDoor
