/-
  SpaceEnough holds: for all files, every number of frames and everything done with spaces, the law returns true, and the arguments read afterwards as before; the table of math/bits that start-up lays is tied to the program's text. No other condition.
-/
import Derived.Test.YtoochjhipmpehaaGreatDoorKrK
import Derived.Test.YtoochjhipmpehaaGreatDoorCards
import Derived.Test.YtoochjhipmpehaaGreatDoorTie
set_option linter.unusedVariables false
set_option linter.unusedSimpArgs false
set_option maxRecDepth 100000
namespace Go.Proofs.YtoochjhipmpehaaGreatDoor
namespace lawSpaceEnough
open Go.ChangeShapes Go.WideShapes Go.ChangeAt Go.RowKit Go.Joins
open Go.Proofs.YtoochjhipmpehaaGreatDoor
theorem walk (P Q:Option Addr)(n cap k AR:Nat)(N:Int)(w:World)(hF:jG w P n cap)(hO:lA w Q k AR)(BD:DB w)(xv:0<w.heap.size):Calls Tryz.prog 3 #[.agg #[.slice P n cap,.int .i64 N],.slice Q k AR] w fun e w'=>e= .returned (.bool true)/\Below w.heap.size w w':=
 oW P Q n cap k AR N w hF hO BD xv
theorem lifted (os:Os)(started:os.Started)(H:Type)(enc:TypeId×Value->H):
  ReturnsInHanded {} Tryz.checked os 3 .any (fun w args=>(Rows.spaceEnoughSpec.pre enc Tryz.prog Tryz.f3 [] false w args/\laidMetH Tryz.prog [("math/bits.deBruijn64tab",Rows.laid_math_bits_deBruijn64tab)] w)/\sizedMet enc Tryz.prog Tryz.f3 (OpenSpec.ofChange Rows.spaceEnoughSpec) false w args)
   (Rows.spaceEnoughSpec.post enc Tryz.prog Tryz.f3 false true false false):=by
 refine returnsInHanded_of_change_and (C:=Tryz.checked) (X:=fun w _ =>laidMetH Tryz.prog [("math/bits.deBruijn64tab",Rows.laid_math_bits_deBruijn64tab)] w) (fun _ _ _ hh h=>h.of_heap hh) own started k_ Tryz.func3
  (ChangeSpec.witness_shaped (enc:=enc) (C:=Tryz.checked) (os:=os) (X:=fun w _ =>laidMetH Tryz.prog [("math/bits.deBruijn64tab",Rows.laid_math_bits_deBruijn64tab)] w) false (World.doorLaid Tryz.prog 14 os) #[.agg #[.slice none 0 0,.int .i64 0],.slice none 0 0] 8 rfl (World.shaped_of_RefB k_ k_) k_ k_ k_ (door_met os _)) ?_
 intro W base args ds gs before PB hW _ LC hL _;have Rm: ∀(j:Nat) t v,Tryz.f3.params[j]? =some t->args[j]? =some v->Value.okWide Tryz.prog W .any base t v:=PB;have hW':=hW;obtain⟨p,q,AQ,hV,rfl,Qc,Ii⟩:=hW;obtain⟨BD,xv⟩:=tB hL;have hA:DataW.TrodAll enc Tryz.prog W 0 (fun _ =>true) true Tryz.f3.params.toList args.toList ds p:=AQ;rw[Tryz.params3]at hA Rm;obtain⟨v0,vs0,d0,ds0,p0,q0,hargs,rfl,rfl,h0,r0⟩:=trodAll_cons hA;obtain⟨v1,vs1,d1,ds1,p1,q1,rfl,rfl,rfl,h1,r1⟩:=trodAll_cons r0;obtain⟨rfl,rfl,rfl⟩:=trodAll_nil r1;obtain rfl:args= #[v0,v1]:=(by cases args;simp_all);obtain⟨rfl,rfl⟩:=trodVars_none hV;have k0:=h0;have lt0: ∀x∈p0,x.block<W.heap.size:=(by obtain⟨m,hm⟩:=k0;exact DataW.trod_lt m _ _ _ hm);obtain⟨P0,n0,cap0,N0,rfl,w0⟩:=ow (Rm 0 24 v0 rfl rfl) h0;obtain⟨a1,len1,xt,rfl⟩:=okWide_slice Tryz.underlying25 (Rm 1 25 v1 rfl rfl);have k1:=h1;have lt1: ∀x∈p1,x.block<W.heap.size:=(by obtain⟨m,hm⟩:=k1;exact DataW.trod_lt m _ _ _ hm);have w1:=sM h1 (fun x hx=>by simpa using List.all_eq_true.1 LC x (DataW.weights_mem_each (j:=1) (t:=25) k_ rfl x hx));clear AQ PB;refine(walk P0 a1 n0 cap0 len1 xt N0 W w0 w1 BD xv).mono fun e W' ⟨he,bel⟩=>?_;subst he;exact⟨_,rfl,_,_,_,[],_,[],hW',trodAll_mk1 (shut_bool Tryz.underlying4 _),(trodAll_cons_mk (Below.trod vk k_ (xi k_) k0 bel lt0) (trodAll_cons_mk (Below.trod vk k_ (xi k_) k1 bel lt1) trodAll_mk0)),rfl,bel.frame _,fun h=>by cases h⟩
theorem over:Rows.SpaceEnoughSaid:=
 OpenClaim.holds_of_wide 3 Tryz.f3 rfl rfl rfl rfl rfl rfl rfl ⟨rfl,rfl,rfl,rfl,rfl⟩ rfl rfl rfl rfl rfl k_ Tryz.func3 k_
  (xi k_) (by unfold Func.isWrapper;first|(rw[if_pos (by decide+kernel)];kernel_rfl)|(rw[if_neg (by decide+kernel)];exact⟨rfl,rfl⟩))
  (fun os started H enc _ =>lifted os started H enc)
theorem proved:Rows.SpaceEnoughCardSaid:=
 Claim7.holds_tied_plain_at .later [] [.data] true Rows.spaceEnoughCard.stood.harness Rows.spaceEnoughCard.stood.looks
  over (fun _ h=>by cases h) k_ (fun _ h=>by cases h) spaceEnough_row_tie rfl ⟨rfl,rfl⟩ k_ rfl
  (fun f fn hf FP=>by
   obtain rfl:f=3:=Option.some.inj ((show Tryz.prog.funcNamed "hostel/hostellaw11.SpaceEnough" =some 3 by kernel_rfl).symm.trans hf) |>.symm;obtain rfl:fn=Tryz.f3:=(Option.some.inj (Tryz.func3.symm.trans FP)).symm;exact⟨k_,fun j t ht=>by
    rw[Tryz.params3]at ht;have hm:t∈[24,25]:=(by simpa using Array.mem_of_getElem? ht);have yb:([24,25].all fun u=> !Tryz.prog.wantsStandIn u)=true:=k_;exact(show Tryz.prog.wantsStandIn t=false by simpa using List.all_eq_true.1 yb t hm)⟩)
 k_
#print axioms proved
end lawSpaceEnough
