/-
  SpaceCounts holds: for all files, every number of frames and everything done with spaces, the law returns true, and the arguments read afterwards as before; the table of math/bits that start-up lays is tied to the program's text. No other condition.
-/
import Derived.Test.YtoochjhipmpehaaGreatDoorCcK
import Derived.Test.YtoochjhipmpehaaGreatDoorCards
import Derived.Test.YtoochjhipmpehaaGreatDoorTie
set_option linter.unusedVariables false
set_option linter.unusedSimpArgs false
set_option maxRecDepth 100000
namespace Go.Proofs.YtoochjhipmpehaaGreatDoor
namespace lawSpaceCounts
open Go.ChangeShapes Go.WideShapes Go.ChangeAt Go.RowKit Go.Joins
open Go.Proofs.YtoochjhipmpehaaGreatDoor
theorem walk (P Q:Option Addr) (n cap k zk:Nat) (N:Int) (w:World) (hF:iT w P n cap) (hO:kE w Q k zk) (Ay:DB w) (vT:0<w.heap.size):Calls Tryz.prog 8 #[.agg #[.slice P n cap, .int .i64 N], .slice Q k zk] w fun e w'=>e= .returned (.bool true)/\Below w.heap.size w w':=
 nI P Q n cap k zk N w hF hO Ay vT
theorem lifted (os:Os) (started:os.Started) (H:Type) (enc:TypeId×Value->H):
  ReturnsInHanded {} Tryz.checked os 8 .any (fun w args=>(Rows.spaceCountsSpec.pre enc Tryz.prog Tryz.f8 [] false w args/\laidMetH Tryz.prog [("math/bits.deBruijn64tab",Rows.laid_math_bits_deBruijn64tab)] w)/\sizedMet enc Tryz.prog Tryz.f8 (OpenSpec.ofChange Rows.spaceCountsSpec) false w args)
   (Rows.spaceCountsSpec.post enc Tryz.prog Tryz.f8 false true false false):=by
 refine returnsInHanded_of_change_and (C:=Tryz.checked) (X:=fun w _ =>laidMetH Tryz.prog [("math/bits.deBruijn64tab",Rows.laid_math_bits_deBruijn64tab)] w) (fun _ _ _ hh h=>h.of_heap hh) own started (by kernel_rfl) Tryz.func8
  (ChangeSpec.witness_shaped (enc:=enc) (C:=Tryz.checked) (os:=os) (X:=fun w _ =>laidMetH Tryz.prog [("math/bits.deBruijn64tab",Rows.laid_math_bits_deBruijn64tab)] w) false (World.doorLaid Tryz.prog 14 os) #[.agg #[.slice none 0 0, .int .i64 0], .slice none 0 0] 8 rfl (World.shaped_of_RefB (by kernel_rfl) (by kernel_rfl)) (by kernel_rfl) (by kernel_rfl) (by kernel_rfl) (door_met os _)) ?_
 intro W base args ds gs before Nj hW _ Ie hL _;have OY: ∀(j:Nat) t v,Tryz.f8.params[j]? =some t->args[j]? =some v->Value.okWide Tryz.prog W .any base t v:=Nj;have hW':=hW;obtain⟨p,q,zj,hV,rfl,Xq,FO⟩:=hW;obtain⟨Ay,vT⟩:=rS hL;have hA:DataW.TrodAll enc Tryz.prog W 0 (fun _ =>true) true Tryz.f8.params.toList args.toList ds p:=zj;rw[Tryz.params8]at hA OY;obtain⟨v0,vs0,d0,ds0,p0,q0,hargs,rfl,rfl,h0,r0⟩:=trodAll_cons hA;obtain⟨v1,vs1,d1,ds1,p1,q1,rfl,rfl,rfl,h1,r1⟩:=trodAll_cons r0;obtain⟨rfl,rfl,rfl⟩:=trodAll_nil r1;obtain rfl:args= #[v0,v1]:=(by cases args;simp_all);obtain⟨rfl,rfl⟩:=trodVars_none hV;have k0:=h0;have lt0: ∀x∈p0,x.block<W.heap.size:=(by obtain⟨m,hm⟩:=k0;exact DataW.trod_lt m _ _ _ hm);obtain⟨P0,n0,cap0,N0,rfl,w0⟩:=nh (OY 0 24 v0 rfl rfl) h0;obtain⟨a1,len1,vR,rfl⟩:=okWide_slice Tryz.underlying25 (OY 1 25 v1 rfl rfl);have k1:=h1;have lt1: ∀x∈p1,x.block<W.heap.size:=(by obtain⟨m,hm⟩:=k1;exact DataW.trod_lt m _ _ _ hm);have w1:=rg h1 (fun x hx=>by simpa using List.all_eq_true.1 Ie x (DataW.weights_mem_each (j:=1) (t:=25) (by kernel_rfl) rfl x hx));clear zj Nj;refine(walk P0 a1 n0 cap0 len1 vR N0 W w0 w1 Ay vT).mono fun e W' ⟨he,bel⟩=>?_;subst he;exact⟨_,rfl,_,_,_,[],_,[],hW',trodAll_mk1 (shut_bool Tryz.underlying4 _),(trodAll_cons_mk (Below.trod tR (by kernel_rfl) (vH (by kernel_rfl)) k0 bel lt0) (trodAll_cons_mk (Below.trod tR (by kernel_rfl) (vH (by kernel_rfl)) k1 bel lt1) trodAll_mk0)),rfl,bel.frame _,fun h=>by cases h⟩
theorem over:Rows.SpaceCountsSaid:=
 OpenClaim.holds_of_wide 8 Tryz.f8 rfl rfl rfl rfl rfl rfl rfl ⟨rfl,rfl,rfl,rfl,rfl⟩ rfl rfl rfl rfl rfl (by kernel_rfl) Tryz.func8 (by kernel_rfl)
  (vH (by kernel_rfl)) (by unfold Func.isWrapper;first|(rw[if_pos (by decide+kernel)];kernel_rfl)|(rw[if_neg (by decide+kernel)];exact⟨rfl,rfl⟩))
  (fun os started H enc _ =>lifted os started H enc)
theorem proved:Rows.SpaceCountsCardSaid:=
 Claim7.holds_tied_plain_at .later [] [.data] true Rows.spaceCountsCard.stood.harness Rows.spaceCountsCard.stood.looks
  over (fun _ h=>by cases h) (by kernel_rfl) (fun _ h=>by cases h) spaceCounts_row_tie rfl ⟨rfl,rfl⟩ (by kernel_rfl) rfl
  (fun f fn hf DK=>by
   obtain rfl:f=8:=Option.some.inj ((show Tryz.prog.funcNamed "hostel/hostellaw11.SpaceCounts" =some 8 by kernel_rfl).symm.trans hf) |>.symm;obtain rfl:fn=Tryz.f8:=(Option.some.inj (Tryz.func8.symm.trans DK)).symm;exact⟨by kernel_rfl,fun j t ht=>by
    rw[Tryz.params8]at ht;have hm:t∈[24,25]:=(by simpa using Array.mem_of_getElem? ht);have xI:([24,25].all fun u=> !Tryz.prog.wantsStandIn u)=true:=(by kernel_rfl);exact(show Tryz.prog.wantsStandIn t=false by simpa using List.all_eq_true.1 xI t hm)⟩)
  (by kernel_rfl)
#print axioms proved
end lawSpaceCounts
