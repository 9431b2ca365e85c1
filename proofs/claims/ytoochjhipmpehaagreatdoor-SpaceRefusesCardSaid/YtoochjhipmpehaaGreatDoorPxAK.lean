/-
  SpaceRefuses holds: for all files, every number of frames, everything done with spaces and one thing more, the law returns true, and the arguments read afterwards as before; the table of math/bits that start-up lays is tied to the program's text. No other condition.
-/
import Derived.Test.YtoochjhipmpehaaGreatDoorFrK
import Derived.Test.YtoochjhipmpehaaGreatDoorCards
import Derived.Test.YtoochjhipmpehaaGreatDoorTie
set_option linter.unusedVariables false
set_option linter.unusedSimpArgs false
set_option maxRecDepth 100000
namespace Go.Proofs.YtoochjhipmpehaaGreatDoor
namespace lawSpaceRefuses
open Go.ChangeShapes Go.WideShapes Go.ChangeAt Go.RowKit Go.Joins
open Go.Proofs.YtoochjhipmpehaaGreatDoor
theorem walk (P Q A:Option Addr) (n cap k yw cq:Nat) (N kd sI nn:Int) (r:Reg) (addr q:Nat) (d:Nat->Nat) (w:World) (hF:iO w P n cap) (hO:kz w Q k yw) (vZ:OpIs w ⟨kd,sI,r,addr,nn,q,d⟩ A cq) (zE:DB w) (vl:0<w.heap.size):Calls Tryz.prog 7 #[.agg #[.slice P n cap, .int .i64 N], .slice Q k yw, .agg #[.int .i64 kd, .int .i64 sI, .int .u64 r.fr, .int .u64 r.to, .int .u8 r.prot, .int .i64 r.ino, .int .u64 r.off, .int .u64 (addr:Int), .int .i64 nn, .slice A q cq]] w fun e w'=>e= .returned (.bool true)/\Below w.heap.size w w':=
 lu P Q A n cap k yw cq N kd sI nn r addr q d w hF hO vZ.into zE vl
theorem lifted (os:Os) (started:os.Started) (H:Type) (enc:TypeId×Value->H):
  ReturnsInHanded {} Tryz.checked os 7 .any (fun w args=>(Rows.spaceRefusesSpec.pre enc Tryz.prog Tryz.f7 [] false w args/\laidMetH Tryz.prog [("math/bits.deBruijn64tab",Rows.laid_math_bits_deBruijn64tab)] w)/\sizedMet enc Tryz.prog Tryz.f7 (OpenSpec.ofChange Rows.spaceRefusesSpec) false w args)
   (Rows.spaceRefusesSpec.post enc Tryz.prog Tryz.f7 false true false false):=by
 refine returnsInHanded_of_change_and (C:=Tryz.checked) (X:=fun w _ =>laidMetH Tryz.prog [("math/bits.deBruijn64tab",Rows.laid_math_bits_deBruijn64tab)] w) (fun _ _ _ hh h=>h.of_heap hh) own started (by kernel_rfl) Tryz.func7
  (ChangeSpec.witness_shaped (enc:=enc) (C:=Tryz.checked) (os:=os) (X:=fun w _ =>laidMetH Tryz.prog [("math/bits.deBruijn64tab",Rows.laid_math_bits_deBruijn64tab)] w) false (World.doorLaid Tryz.prog 14 os) #[.agg #[.slice none 0 0, .int .i64 0], .slice none 0 0, .agg #[.int .i64 0, .int .i64 0, .int .u64 0, .int .u64 0, .int .u8 0, .int .i64 0, .int .u64 0, .int .u64 0, .int .i64 0, .slice none 0 0]] 8 rfl (World.shaped_of_RefB (by kernel_rfl) (by kernel_rfl)) (by kernel_rfl) (by kernel_rfl) (by kernel_rfl) (door_met os _)) ?_
 intro W base args ds gs before Mx hW _ IF hL _;have Lf: ∀(j:Nat) t v,Tryz.f7.params[j]? =some t->args[j]? =some v->Value.okWide Tryz.prog W .any base t v:=Mx;have hW':=hW;obtain⟨p,q,yv,hV,rfl,Wj,ER⟩:=hW;obtain⟨zE,vl⟩:=rx hL;have hA:DataW.TrodAll enc Tryz.prog W 0 (fun _ =>true) true Tryz.f7.params.toList args.toList ds p:=yv;rw[Tryz.params7]at hA Lf;obtain⟨v0,vs0,d0,ds0,p0,q0,hargs,rfl,rfl,h0,r0⟩:=trodAll_cons hA;obtain⟨v1,vs1,d1,ds1,p1,q1,rfl,rfl,rfl,h1,r1⟩:=trodAll_cons r0;obtain⟨v2,vs2,d2,ds2,p2,q2,rfl,rfl,rfl,h2,r2⟩:=trodAll_cons r1;obtain⟨rfl,rfl,rfl⟩:=trodAll_nil r2;obtain rfl:args= #[v0,v1,v2]:=(by cases args;simp_all);obtain⟨rfl,rfl⟩:=trodVars_none hV;have k0:=h0;have lt0: ∀x∈p0,x.block<W.heap.size:=(by obtain⟨m,hm⟩:=k0;exact DataW.trod_lt m _ _ _ hm);obtain⟨P0,n0,Zd,N0,rfl,w0⟩:=mV (Lf 0 24 v0 rfl rfl) h0;obtain⟨a1,len1,vj,rfl⟩:=okWide_slice Tryz.underlying25 (Lf 1 25 v1 rfl rfl);have k1:=h1;have lt1: ∀x∈p1,x.block<W.heap.size:=(by obtain⟨m,hm⟩:=k1;exact DataW.trod_lt m _ _ _ hm);have w1:=qO h1 (fun x hx=>by simpa using List.all_eq_true.1 IF x (DataW.weights_mem_each (j:=1) (t:=25) (by kernel_rfl) rfl x hx));have k2:=h2;have lt2: ∀x∈p2,x.block<W.heap.size:=(by obtain⟨m,hm⟩:=k2;exact DataW.trod_lt m _ _ _ hm);obtain⟨kd2,sI2,a2,Nw,n2,q2,dd2,A2,cq2,w2,rfl⟩:=qP (Lf 2 47 v2 rfl rfl) h2 (fun x hx=>by simpa using List.all_eq_true.1 IF x (DataW.weights_mem_each (j:=2) (t:=47) (by kernel_rfl) rfl x hx));clear yv Mx;refine(walk P0 a1 A2 n0 Zd len1 vj cq2 N0 kd2 sI2 n2 a2 Nw q2 dd2 W w0 w1 w2 zE vl).mono fun e W' ⟨he,bel⟩=>?_;subst he;exact⟨_,rfl,_,_,_,[],_,[],hW',trodAll_mk1 (shut_bool Tryz.underlying4 _),(trodAll_cons_mk (Below.trod oG (by kernel_rfl) (uZ (by kernel_rfl)) k0 bel lt0) (trodAll_cons_mk (Below.trod oG (by kernel_rfl) (uZ (by kernel_rfl)) k1 bel lt1) (trodAll_cons_mk (Below.trod oG (by kernel_rfl) (uZ (by kernel_rfl)) k2 bel lt2) trodAll_mk0))),rfl,bel.frame _,fun h=>by cases h⟩
theorem over:Rows.SpaceRefusesSaid:=
 OpenClaim.holds_of_wide 7 Tryz.f7 rfl rfl rfl rfl rfl rfl rfl ⟨rfl,rfl,rfl,rfl,rfl⟩ rfl rfl rfl rfl rfl (by kernel_rfl) Tryz.func7 (by kernel_rfl)
  (uZ (by kernel_rfl)) (by unfold Func.isWrapper;first|(rw[if_pos (by decide+kernel)];kernel_rfl)|(rw[if_neg (by decide+kernel)];exact⟨rfl,rfl⟩))
  (fun os started H enc _ =>lifted os started H enc)
theorem proved:Rows.SpaceRefusesCardSaid:=
 Claim7.holds_tied_plain_at .later [] [.data] true Rows.spaceRefusesCard.stood.harness Rows.spaceRefusesCard.stood.looks
  over (fun _ h=>by cases h) (by kernel_rfl) (fun _ h=>by cases h) spaceRefuses_row_tie rfl ⟨rfl,rfl⟩ (by kernel_rfl) rfl
  (fun f fn hf CI=>by
   obtain rfl:f=7:=Option.some.inj ((show Tryz.prog.funcNamed "hostel/hostellaw11.SpaceRefuses" =some 7 by kernel_rfl).symm.trans hf) |>.symm;obtain rfl:fn=Tryz.f7:=(Option.some.inj (Tryz.func7.symm.trans CI)).symm;exact⟨by kernel_rfl,fun j t ht=>by
    rw[Tryz.params7]at ht;have hm:t∈[24,25,47]:=(by simpa using Array.mem_of_getElem? ht);have wQ:([24,25,47].all fun u=> !Tryz.prog.wantsStandIn u)=true:=(by kernel_rfl);exact(show Tryz.prog.wantsStandIn t=false by simpa using List.all_eq_true.1 wQ t hm)⟩)
  (by kernel_rfl)
#print axioms proved
end lawSpaceRefuses
