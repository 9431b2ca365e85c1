/-
  SpaceApart holds: for all files, every number of frames, everything done with spaces, everything done with other spaces behind it, and any choice of a space, the law returns true, and the arguments read afterwards as before; the table of math/bits that start-up lays is tied to the program's text. No other condition.
-/
import Derived.Test.YtoochjhipmpehaaGreatDoorAkK
import Derived.Test.YtoochjhipmpehaaGreatDoorCards
import Derived.Test.YtoochjhipmpehaaGreatDoorTie
set_option linter.unusedVariables false
set_option linter.unusedSimpArgs false
set_option maxRecDepth 100000
namespace Go.Proofs.YtoochjhipmpehaaGreatDoor
namespace lawSpaceApart
open Go.ChangeShapes Go.WideShapes Go.ChangeAt Go.RowKit Go.Joins
open Go.Proofs.YtoochjhipmpehaaGreatDoor
theorem walk (P Q Q2:Option Addr) (n cap k xS k2 wS:Nat) (N sI:Int) (w:World) (hF:iX w P n cap) (hO:ie w Q k xS) (yQ:ie w Q2 k2 wS) (Ah:DB w) (vE:0<w.heap.size):Calls Tryz.prog 4 #[.agg #[.slice P n cap, .int .i64 N], .slice Q k xS, .slice Q2 k2 wS, .int .i64 sI] w fun e w'=>e= .returned (.bool true)/\Below w.heap.size w w':=
 pv P Q Q2 n cap k xS k2 wS N sI w hF hO yQ Ah vE
theorem lifted (os:Os) (started:os.Started) (H:Type) (enc:TypeId×Value->H):
  ReturnsInHanded {} Tryz.checked os 4 .any (fun w args=>(Rows.spaceApartSpec.pre enc Tryz.prog Tryz.f4 [] false w args/\laidMetH Tryz.prog [("math/bits.deBruijn64tab",Rows.laid_math_bits_deBruijn64tab)] w)/\sizedMet enc Tryz.prog Tryz.f4 (OpenSpec.ofChange Rows.spaceApartSpec) false w args)
   (Rows.spaceApartSpec.post enc Tryz.prog Tryz.f4 false true false false):=by
 refine returnsInHanded_of_change_and (C:=Tryz.checked) (X:=fun w _ =>laidMetH Tryz.prog [("math/bits.deBruijn64tab",Rows.laid_math_bits_deBruijn64tab)] w) (fun _ _ _ hh h=>h.of_heap hh) own started (by kernel_rfl) Tryz.func4
  (ChangeSpec.witness_shaped (enc:=enc) (C:=Tryz.checked) (os:=os) (X:=fun w _ =>laidMetH Tryz.prog [("math/bits.deBruijn64tab",Rows.laid_math_bits_deBruijn64tab)] w) false (World.doorLaid Tryz.prog 14 os) #[.agg #[.slice none 0 0, .int .i64 0], .slice none 0 0, .slice none 0 0, .int .i64 0] 8 rfl (World.shaped_of_RefB (by kernel_rfl) (by kernel_rfl)) (by kernel_rfl) (by kernel_rfl) (by kernel_rfl) (door_met os _)) ?_
 intro W base args ds gs before Nc hW _ Lj hL _;have Ji: ∀(j:Nat) t v,Tryz.f4.params[j]? =some t->args[j]? =some v->Value.okWide Tryz.prog W .any base t v:=Nc;have hW':=hW;obtain⟨p,q,yW,hV,rfl,Xi,Fx⟩:=hW;obtain⟨Ah,vE⟩:=rL hL;have hA:DataW.TrodAll enc Tryz.prog W 0 (fun _ =>true) true Tryz.f4.params.toList args.toList ds p:=yW;rw[Tryz.params4]at hA Ji;obtain⟨v0,vs0,d0,ds0,p0,q0,hargs,rfl,rfl,h0,r0⟩:=trodAll_cons hA;obtain⟨v1,vs1,d1,ds1,p1,q1,rfl,rfl,rfl,h1,r1⟩:=trodAll_cons r0;obtain⟨v2,vs2,d2,ds2,p2,q2,rfl,rfl,rfl,h2,r2⟩:=trodAll_cons r1;obtain⟨v3,vs3,d3,ds3,p3,q3,rfl,rfl,rfl,h3,r3⟩:=trodAll_cons r2;obtain⟨rfl,rfl,rfl⟩:=trodAll_nil r3;obtain rfl:args= #[v0,v1,v2,v3]:=(by cases args;simp_all);obtain⟨rfl,rfl⟩:=trodVars_none hV;have k0:=h0;have lt0: ∀x∈p0,x.block<W.heap.size:=(by obtain⟨m,hm⟩:=k0;exact DataW.trod_lt m _ _ _ hm);obtain⟨P0,n0,cap0,N0,rfl,w0⟩:=nr (Ji 0 24 v0 rfl rfl) h0;obtain⟨a1,len1,vC,rfl⟩:=okWide_slice Tryz.underlying25 (Ji 1 25 v1 rfl rfl);have k1:=h1;have lt1: ∀x∈p1,x.block<W.heap.size:=(by obtain⟨m,hm⟩:=k1;exact DataW.trod_lt m _ _ _ hm);have w1:=kT h1 (fun x hx=>by simpa using List.all_eq_true.1 Lj x (DataW.weights_mem_each (j:=1) (t:=25) (by kernel_rfl) rfl x hx));obtain⟨a2,len2,xS,rfl⟩:=okWide_slice Tryz.underlying25 (Ji 2 25 v2 rfl rfl);have k2:=h2;have lt2: ∀x∈p2,x.block<W.heap.size:=(by obtain⟨m,hm⟩:=k2;exact DataW.trod_lt m _ _ _ hm);have w2:=kT h2 (fun x hx=>by simpa using List.all_eq_true.1 Lj x (DataW.weights_mem_each (j:=2) (t:=25) (by kernel_rfl) rfl x hx));obtain⟨a3,rfl,rfl,rfl,w3⟩:=open_int Tryz.underlying3 (Ji 3 3 v3 rfl rfl) h3;clear yW Nc;refine(walk P0 a1 a2 n0 cap0 len1 vC len2 xS N0 a3 W w0 w1 w2 Ah vE).mono fun e W' ⟨he,bel⟩=>?_;subst he;exact⟨_,rfl,_,_,_,[],_,[],hW',trodAll_mk1 (shut_bool Tryz.underlying4 _),(trodAll_cons_mk (Below.trod oS (by kernel_rfl) (vs (by kernel_rfl)) k0 bel lt0) (trodAll_cons_mk (Below.trod oS (by kernel_rfl) (vs (by kernel_rfl)) k1 bel lt1) (trodAll_cons_mk (Below.trod oS (by kernel_rfl) (vs (by kernel_rfl)) k2 bel lt2) (trodAll_cons_mk (shut_int Tryz.underlying3 w3) trodAll_mk0)))),rfl,bel.frame _,fun h=>by cases h⟩
theorem over:Rows.SpaceApartSaid:=
 OpenClaim.holds_of_wide 4 Tryz.f4 rfl rfl rfl rfl rfl rfl rfl ⟨rfl,rfl,rfl,rfl,rfl⟩ rfl rfl rfl rfl rfl (by kernel_rfl) Tryz.func4 (by kernel_rfl)
  (vs (by kernel_rfl)) (by unfold Func.isWrapper;first|(rw[if_pos (by decide+kernel)];kernel_rfl)|(rw[if_neg (by decide+kernel)];exact⟨rfl,rfl⟩))
  (fun os started H enc _ =>lifted os started H enc)
theorem proved:Rows.SpaceApartCardSaid:=
 Claim7.holds_tied_plain_at .later [] [.data] true Rows.spaceApartCard.stood.harness Rows.spaceApartCard.stood.looks
  over (fun _ h=>by cases h) (by kernel_rfl) (fun _ h=>by cases h) spaceApart_row_tie rfl ⟨rfl,rfl⟩ (by kernel_rfl) rfl
  (fun f fn hf Di=>by
   obtain rfl:f=4:=Option.some.inj ((show Tryz.prog.funcNamed "hostel/hostellaw11.SpaceApart" =some 4 by kernel_rfl).symm.trans hf) |>.symm;obtain rfl:fn=Tryz.f4:=(Option.some.inj (Tryz.func4.symm.trans Di)).symm;exact⟨by kernel_rfl,fun j t ht=>by
    rw[Tryz.params4]at ht;have hm:t∈[24,25,25,3]:=(by simpa using Array.mem_of_getElem? ht);have xk:([24,25,25,3].all fun u=> !Tryz.prog.wantsStandIn u)=true:=(by kernel_rfl);exact(show Tryz.prog.wantsStandIn t=false by simpa using List.all_eq_true.1 xk t hm)⟩)
  (by kernel_rfl)
#print axioms proved
end lawSpaceApart
