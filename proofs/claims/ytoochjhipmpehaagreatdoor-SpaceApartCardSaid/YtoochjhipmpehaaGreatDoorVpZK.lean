/- Files: node, Meta and Read of the one file. -/
import Derived.Test.YtoochjhipmpehaaGreatDoorCaZK
import Derived.Test.YtoochjhipmpehaaGreatDoorVpYK
import Derived.Lib.MinMax
set_option linter.unusedVariables false
set_option linter.unusedSimpArgs false
set_option maxRecDepth 100000
set_option maxHeartbeats 4000000
namespace Go.Proofs.YtoochjhipmpehaaGreatDoor
section
open Go.RowKit Go.Sort
theorem uF (x:Nat) (w:World):Calls Tryz.prog 229 #[.pointer (some ⟨x,0,none⟩)] w fun e w'=>e= .returned (.pointer (some ⟨x,0,none⟩))/\w'=w:=by
 go_enter Tryz.func229,Tryz.ntmps229;go_wp2_with fail;go_ret;exact⟨rfl,rfl⟩
theorem pa (v:Value) (w:World):(callFunc 229 #[v]).run Tryz.prog w= .ok (.enter 229 #[v]) w:=by kernel_rfl
end
section
open Go.RowKit Go.Sort
variable {p p':Pool} {L L':List Slot} {f:Nat}
theorem ax.live (h:ax p L 0 f p' L'):f<p'.n/\p'.cnt f=1/\p'.dat f=fun _ =>0:=by
 cases h with
 |free f h1=>exact⟨(cG h1).1,af _ _ _,af _ _ _⟩
 |loose s h1 h2 h3=>exact⟨h3,af _ _ _,af _ _ _⟩
theorem ax.duo {r:Int} (h:ax p L r f p' L'):r=0\/(r=4/\f=0/\p'=p/\L'=L):=by
 cases h
 ·exact .inl rfl
 ·exact .inl rfl
 ·exact .inr ⟨rfl,rfl,rfl,rfl⟩
theorem iQ (w:World) (m:Nat) (o:Obj):Mod (fun b=>b=m) w (Go.ChangeMaps.setBlock w.drew m o):=by
 refine⟨rfl,rfl,rfl,?_,fun b hb vK=>?_⟩
 ·show w.heap.size<=(w.heap.setIfInBounds m o).size;simp
 ·show(w.heap.setIfInBounds m o)[b]? =_;exact Array.getElem?_setIfInBounds_ne (fun e=>vK e.symm)
variable {w:World} {c a fs m:Nat} {clock:Int}
theorem aK.tick {v:Int} (h:aK w c a fs m clock):aK (w.setCell ⟨c,3,none⟩ (.int .i64 v)) c a fs m v:=by
 have h1:=Joins.block_setCell (i:=3) h (.int .i64 v);simpa [aK]using h1
variable {S:Nat->Prop}
theorem ar.c0 (h:ar w S c a fs m clock p L):c≠0:=by
 intro e;subst e;have h1:=h.pool.tab 0 (by decide);have h2:w.cell? ⟨0,0,none⟩=some (.pointer (some ⟨a,0,none⟩)):=aa h.self 0;rw[h2]at h1;cases h1
variable {w':World} {n:Nat} {A:Option Addr} {d:Nat->Nat}
theorem au.kept (h:au w A n d) (hb:Below w.heap.size w w'):au w' A n d:=fun h0=>by
 obtain⟨ad,e,hc⟩:=h h0;refine⟨ad,e,fun j hj=>?_⟩;rw[<-hc j hj];exact hb.cell (World.block_lt_of_cell? _ _ (hc j hj))
theorem au.mod {X:Nat->Prop} (h:au w A n d) (hm:Mod X w w') (hA: ∀ad,A=some ad->0<n-> ¬X ad.block):au w' A n d:=fun h0=>by
 obtain⟨ad,e,hc⟩:=h h0;refine⟨ad,e,fun j hj=>?_⟩;rw[<-hc j hj];have hl:=World.block_lt_of_cell? _ _ (hc j hj);have FC:(ad.add j).block=ad.block:=by unfold Addr.add;split<;>rfl
 rw[FC]at hl;have hh:w'.heap[(ad.add j).block]? =w.heap[(ad.add j).block]? :=(by rw[FC];exact hm.block _ hl (hA ad e h0));exact World.cell?_of_block hh
def nW (w:World) (fs:Nat) (ino off r0:Int) (k:Nat) (d:Nat->Nat):Prop:=
 Calls Tryz.prog 233 #[.pointer (some ⟨fs,0,none⟩), .int .i64 ino, .int .i64 off, .int .i64 4096] w
  fun e w'=> ∃A cap,e= .returned (.tuple #[.slice A k cap, .int .i64 r0])/\au w' A k d/\(∀ad,A=some ad->0<k->w.heap.size<=ad.block)/\Below w.heap.size w w'
def dR (w:World) (S:Nat->Prop) (c a fs m:Nat) (ino page r0:Int) (k:Nat) (d:Nat->Nat) (clock:Int) (p:Pool) (L:List Slot) (e:Ending) (w':World):Prop:=
 ∃r f p' L' vB S',e= .returned (.tuple #[.int .i64 (f:Nat), .int .i64 r])/\ar w' S' c a fs m vB p' L'/\Mod (fun b=>S b\/b=m\/b=c) w w'/\Out S S' w/\dC ino page r0 k d p L clock r f p' L' vB
variable {w3:World} {bh:Nat}
theorem dR.mod (hb:Below w.heap.size w w3) (hm:Mod (fun b=>b=m\/b=c\/b=bh) w3 w') (hz:w.heap.size<=bh):Mod (fun b=>S b\/b=m\/b=c) w w':=by
 have h1:=(Mod.of (S:=fun b=>b=m\/b=c\/b=bh) hb).trans (Out.refl _ _) hm;exact⟨h1.os,h1.tape,h1.output,h1.size,fun b hb hn=>h1.block b hb (fun e=>hn (.inr (by omega)))⟩
theorem dR.mod2 {w4 w5 w6:World} {S1:Nat->Prop} (h3:Below w.heap.size w w3) (h4:Mod (Both S m) w3 w4) (ho:Out S S1 w3) (h5:Mod S1 w4 w5) (h6:Mod (fun b=>b=bh) w5 w6) (h7:Mod (fun b=>b=m\/b=c\/b=bh) w6 w') (hz:w.heap.size<=bh):Mod (fun b=>S b\/b=m\/b=c) w w':=by
 have xR:=h3.size;have h1:Mod (fun b=>S b\/b=m\/b=c\/w.heap.size<=b) w w':=(Mod.of h3).trans (Out.refl _ _) ((h4.sub fun b hb=>hb.elim .inl fun e=> .inr (.inl e)).trans (Out.refl _ _) ((h5.sub fun b hb=>(ho b hb).elim .inl fun e=> .inr (.inr (.inr (by omega)))).trans (Out.refl _ _) ((h6.sub fun b hb=> .inr (.inr (.inr (by omega)))).trans (Out.refl _ _) (h7.sub fun b hb=>by
  rcases hb with e|e|e
  ·exact .inr (.inl e)
  ·exact .inr (.inr (.inl e))
  ·exact .inr (.inr (.inr (by omega)))))))
 exact⟨h1.os,h1.tape,h1.output,h1.size,fun b hb hn=>h1.block b hb (fun e=>hn (by
  rcases e with e|e|e|e
  ·exact .inl e
  ·exact .inr (.inl e)
  ·exact .inr (.inr e)
  ·omega))⟩
theorem get_bad (c a fs m k:Nat) (ino page r0 clock:Int) (d:Nat->Nat) (w:World) (S:Nat->Prop) (p:Pool) (L:List Slot) (h:ar w S c a fs m clock p L) (yV:page<0\/16<=page):
  Calls Tryz.prog 232 #[.pointer (some ⟨c,0,none⟩), .int .i64 ino, .int .i64 page] w (dR w S c a fs m ino page r0 k d clock p L):=by
 have H:=va h;have HB:=va yV;clear h;by_cases h0:page<0
 ·clear yV;go_enter Tryz.func232,Tryz.ntmps232;go_wp2_with fail;go_ret2;exact⟨1,0,p,L,clock,S,rfl,H.out,Mod.refl _ _,Out.refl _ _, .bad HB.out⟩
 ·have h1:16<=page:=(by omega);clear yV;go_enter Tryz.func232,Tryz.ntmps232;go_wp2_with fail;go_ret2;exact⟨1,0,p,L,clock,S,rfl,H.out,Mod.refl _ _,Out.refl _ _, .bad HB.out⟩
theorem get_err (c a fs m k:Nat) (ino page r0 clock:Int) (d:Nat->Nat) (w:World) (S:Nat->Prop) (p:Pool) (L:List Slot) (h:ar w S c a fs m clock p L) (h0:0<=page) (RQ:page<16) (IF:nW w fs ino (page*4096) r0 k d) (hr:(r0 != 0)=true):
  Calls Tryz.prog 232 #[.pointer (some ⟨c,0,none⟩), .int .i64 ino, .int .i64 page] w (dR w S c a fs m ino page r0 k d clock p L):=by
 have hmul:IntKind.i64.wrap (page*4096)=page*4096:=(by rw[IntKind.wrap_i64];omega);have c1:w.cell? ⟨c,1,none⟩=some (.pointer (some ⟨fs,0,none⟩)):=aa h.self 1;have H:=va h;have IA:=va IF;have HR:=va hr;clear h IF;go_enter Tryz.func232,Tryz.ntmps232;go_wp2_with (first
  |(go_at_call 233;refine(IA.out).mono ?_;rintro e w1 ⟨A,cap,rfl,hA,hAn,vD⟩;have vJ:=va vD;clear hA vD)
  |fail)
 go_ret2;exact⟨r0,0,p,L,clock,S,rfl,H.out.below vJ.out,Mod.of vJ.out,Out.refl _ _, .err h0 RQ (by simpa using HR.out)⟩
theorem get_hit (c a fs m k:Nat) (ino page r0 clock:Int) (d:Nat->Nat) (w:World) (S:Nat->Prop) (p:Pool) (L:List Slot) (h:ar w S c a fs m clock p L) (h0:0<=page) (RQ:page<16) (Kd:(Lit.int .i64 ino).wf=true) (IF:nW w fs ino (page*4096) 0 k d) (yA:0<=clock/\clock<1000000)
  (s:Slot) (hs:L.find? (Slot.at ino page)=some s):
  Calls Tryz.prog 232 #[.pointer (some ⟨c,0,none⟩), .int .i64 ino, .int .i64 page] w (dR w S c a fs m ino page 0 k d clock p L):=by
 have JB:(Lit.int .i64 page).wf=true:=(by go_wf2);have hmul:IntKind.i64.wrap (page*4096)=page*4096:=(by rw[IntKind.wrap_i64];omega);have c1:w.cell? ⟨c,1,none⟩=some (.pointer (some ⟨fs,0,none⟩)):=aa h.self 1;have IA:=va IF;have H:=va h;have RV:=va hs;clear IF h hs;go_enter Tryz.func232,Tryz.ntmps232;go_upto_region 8 with(first
  |(go_at_call 233;refine(IA.out).mono ?_;rintro e w1 ⟨A,cap,rfl,hA,hAn,vD⟩;have H1:=va (H.out.below vD);clear hA)
  |fail)
 obtain⟨w2,wD⟩: ∃w2,w2=w1.alloc (.cells #[.int .i64 ino, .int .i64 page] 127):=⟨_,rfl⟩;have vM:Below w1.heap.size w1 w2:=(by rw[wD];exact vc);have Aj:w2.heap[w1.heap.size]? =some (.cells #[.int .i64 ino, .int .i64 page] 127 (0,0)):=(by rw[wD];exact ab _ _);have Dn:=H1.out.below vM;have k0:w2.cell? ⟨w1.heap.size,0,none⟩=some (.int .i64 ino):=aa Aj 0;have k1:w2.cell? ⟨w1.heap.size,1,none⟩=some (.int .i64 page):=aa Aj 1;have k2:w2.cell? ⟨c,2,none⟩=some (.map (some m)):=aa Dn.self 2;have zJ: ∀W,W.heap[m]? =w2.heap[m]? ->(Instr.lookup 123 (.map (some m)) (.agg #[.int .i64 ino, .int .i64 page]) true).run Tryz.prog W= .ok (.tuple #[.agg #[.int .i64 (s.frame:Int), .int .i64 s.asked], .bool true]) W:=by
  intro W hW;obtain⟨es0,clk0,Py⟩:=aM.same (w':=W) Dn.slots hW;have ER:=Py.look (i:=ino) (p:=page) Kd JB true;rw[RV.out]at ER;exact ER
 have xm:=zJ w2.drew rfl;have wE:=zJ (w2.alloc (.cells #[.int .i64 0, .int .i64 0] 129)).drew (ve _ _ _ Dn.lts.2.1);have ye:=va Dn;have FF:=va Aj;have CT:=va wD;clear zJ Dn Aj wD;go_upto_region 9 with(fail);rw[<-CT.out];go_region_held3 (fun w'=>w'.cell? ⟨c,2,none⟩=some (.map (some m))/\w'.cell? ⟨w1.heap.size,0,none⟩=some (.int .i64 ino)/\w'.cell? ⟨w1.heap.size,1,none⟩=some (.int .i64 page)) (go_keep) (fail)
 all_goals
  obtain⟨w3,xb⟩: ∃w3,w3=(w2.alloc (.cells #[.int .i64 (s.frame:Int), .int .i64 s.asked] 129)).drew:=⟨_,rfl⟩;rw[<-xb];have vX:Below w2.heap.size w2 w3:=(by rw[xb];exact vc.drew);have ZU:w3.heap[w2.heap.size]? =some (.cells #[.int .i64 (s.frame:Int), .int .i64 s.asked] 129 (0,0)):=(by rw[xb];exact ab w2 _);have YO:=ye.out.lts;have Pv:=(uZ FF.out).1;have wg:=vD.size;have wm:=vM.size;have Xs:=H1.out.pool.low;have YP:=H1.out.lts;obtain⟨bh,PW⟩: ∃bh,bh=w2.heap.size:=⟨_,rfl⟩;obtain⟨bk,FC⟩: ∃bk,bk=w1.heap.size:=⟨_,rfl⟩;have Hc:w3.heap[bk]? =some (.cells #[.int .i64 ino, .int .i64 page] 127 (0,0)):=(by(rw[FC];exact((vX).block _ Pv).trans FF.out));have Gm:=ZU;rw[<-PW]at Gm⊢;rw[<-FC];have PX:bh≠c:=(by omega);have Ge:bh≠m:=(by omega);have Mn:bk≠bh:=(by omega);have PV:bk≠c:=(by omega);have UC:bh≠0:=(by omega);have Mo: ¬S bh:=fun e=>by(have:=Xs _ e;omega)
  have BI:=ye.out.below vX;have GA:=va BI;have IX:=va Gm;have KX:=va Hc;have yH:=va (vD.trans ((vM.trans ((vX).mono wm)).mono wg));have Xx:w.heap.size<=bh:=(by omega);have HBH:=va PW;have HBK:=va FC;clear BI Gm Hc PW FC k0 k1 k2 xm wE;clear xb;go_upto_region 16 with(fail);have AJ:=GA.out;have FX:=AJ.lts;have kc:w3.cell? ⟨c,3,none⟩=some (.int .i64 clock):=aa AJ.self 3;have kf:w3.frozen? ⟨c,3,none⟩=false:=ae AJ.self 3;have vF:w3.cell? ⟨bh,0,none⟩=some (.int .i64 (s.frame:Int)):=aa IX.out 0;have vD:w3.cell? ⟨bh,1,none⟩=some (.int .i64 s.asked):=aa IX.out 1;have Uv:w3.frozen? ⟨bh,1,none⟩=false:=ae IX.out 1;have hwr:IntKind.i64.wrap (clock+1)=clock+1:=(by(rw[IntKind.wrap_i64];omega));obtain⟨w20,DA⟩: ∃w20,w20=w3.setCell ⟨c,3,none⟩ (.int .i64 (clock+1)):=⟨_,rfl⟩;have AQ:Mod (fun b=>b=c) w3 w20:=(by(rw[DA];exact aj (S:=fun b=>b=c) rfl 3 _));have DD:aK w20 c a fs m (clock+1):=(by(rw[DA];exact AJ.self.tick));have TF:=(uZ IX.out).1;have Cn:=(AQ.block bh TF PX).trans IX.out;have x0:w20.cell? ⟨bh,0,none⟩=some (.int .i64 (s.frame:Int)):=aa Cn 0;have x1:w20.cell? ⟨bh,1,none⟩=some (.int .i64 s.asked):=aa Cn 1;have x2:w20.frozen? ⟨bh,1,none⟩=false:=ae Cn 1;have x3:w20.cell? ⟨c,3,none⟩=some (.int .i64 (clock+1)):=aa DD 3;obtain⟨w21,Dz⟩: ∃w21,w21=w20.setCell ⟨bh,1,none⟩ (.int .i64 (clock+1)):=⟨_,rfl⟩;have AP:Mod (fun b=>b=bh) w20 w21:=(by(rw[Dz];exact aj (S:=fun b=>b=bh) rfl 1 _));have DR:w21.heap[bh]? =some (.cells #[.int .i64 (s.frame:Int), .int .i64 (clock+1)] 129 (0,0)):=(by(rw[Dz];simpa using Joins.block_setCell (i:=1) Cn (.int .i64 (clock+1))));have Ka:=(uZ DD).1;have FL:aK w21 c a fs m (clock+1):=(AP.block c Ka (fun e=>PX e.symm)).trans DD;have zJ:=(uZ KX.out).1;have XL:=AQ.size;have XK:=AP.size;have Gl:=(AP.block bk (by omega) Mn).trans ((AQ.block bk zJ PV).trans KX.out);have EA:aM w21 m L:=(AJ.slots.same ((AP.block m (by omega) (fun e=>Ge e.symm)).trans (AQ.block m FX.2.1 (fun e=>FX.2.2.1 e.symm))));obtain⟨es,clk,TL⟩:=aM.same (w':=w21.drew) EA rfl;obtain⟨es',DU,Fz,FY⟩:=TL.put (s:=⟨ino,page,s.frame,clock+1⟩) Kd JB;obtain⟨w22,Dy⟩: ∃w22,w22=Go.ChangeMaps.setBlock w21.drew m (.map es' DU):=⟨_,rfl⟩;rw[<-Dy]at Fz FY;have FV:(Instr.mapUpdate 123 (.map (some m)) (.agg #[.int .i64 ino, .int .i64 page]) (.agg #[.int .i64 (s.frame:Int), .int .i64 (clock+1)])).run Tryz.prog w21.drew= .ok () w22:=Fz;have y0:w21.cell? ⟨c,2,none⟩=some (.map (some m)):=aa FL 2;have y1:w21.cell? ⟨bk,0,none⟩=some (.int .i64 ino):=aa Gl 0;have y2:w21.cell? ⟨bk,1,none⟩=some (.int .i64 page):=aa Gl 1;have y3:w21.cell? ⟨bh,0,none⟩=some (.int .i64 (s.frame:Int)):=aa DR 0;have y4:w21.cell? ⟨bh,1,none⟩=some (.int .i64 (clock+1)):=aa DR 1;have DH:Mod (fun b=>b=m) w21 w22:=(by(rw[Dy];exact iQ _ _ _));have KD:=(DH.block bh (by omega) Ge).trans DR;have y5:w22.cell? ⟨bh,0,none⟩=some (.int .i64 (s.frame:Int)):=aa KD 0;have BW:Mod (fun b=>b=m\/b=c\/b=bh) w3 w22:=((AQ.sub fun b hb=> .inr (.inl hb)).trans (Out.refl _ _) ((AP.sub fun b hb=> .inr (.inr hb)).trans (Out.refl _ _) (DH.sub fun b hb=> .inl hb)));have Vc:ar w22 S c a fs m (clock+1) p (dO L ⟨ino,page,s.frame,clock+1⟩):=⟨AJ.pool.mod BW (fun b hb e=>by(rcases e with e|e|e;exact AJ.noM (e▸hb);exact AJ.noC (e▸hb);exact Mo (e▸hb))) (fun e=>by(have h9:=AJ.c0;rcases e with e|e|e<;>omega)),(DH.block c (by omega) FX.2.2.1).trans FL,⟨es',DU,FY⟩,AJ.noC,AJ.noM⟩;have HCE:=va Vc;have HMA:=va BW;have Qx:=va DA;have Qw:=va Dz;have HW22:=va Dy;clear AJ DD Cn DR FL Gl EA TL FY Fz AQ AP DH Vc BW DA Dz Dy KD;go_upto_region 17 with(fail);rw[<-Qx.out];go_upto_region 18 with(fail);rw[<-Qw.out];go_region;go_wp2_with fail
  all_goals
   go_ret2;exact⟨0,s.frame,p,_,clock+1,S,rfl,HCE.out,dR.mod yH.out HMA.out Xx,Out.refl _ _, .hit s h0 RQ rfl RV.out⟩
theorem get_new (c a fs m k:Nat) (ino page r0 clock:Int) (d:Nat->Nat) (w:World) (S:Nat->Prop) (p:Pool) (L:List Slot) (h:ar w S c a fs m clock p L) (h0:0<=page) (RQ:page<16) (Kd:(Lit.int .i64 ino).wf=true) (IF:nW w fs ino (page*4096) 0 k d) (hd: ∀i,d i<256) (hk:k<=4096) (yA:0<=clock/\clock<1000000)
  (hs:L.find? (Slot.at ino page)=none):
  Calls Tryz.prog 232 #[.pointer (some ⟨c,0,none⟩), .int .i64 ino, .int .i64 page] w (dR w S c a fs m ino page 0 k d clock p L):=by
 have JB:(Lit.int .i64 page).wf=true:=(by go_wf2);have hmul:IntKind.i64.wrap (page*4096)=page*4096:=(by rw[IntKind.wrap_i64];omega);have c1:w.cell? ⟨c,1,none⟩=some (.pointer (some ⟨fs,0,none⟩)):=aa h.self 1;have IA:=va IF;have H:=va h;have RV:=va hs;clear IF h hs;go_enter Tryz.func232,Tryz.ntmps232;go_upto_region 8 with(first
  |(go_at_call 233;refine(IA.out).mono ?_;rintro e w1 ⟨A,cap,rfl,hA,hAn,vD⟩;have HA:=va hA;have H1:=va (H.out.below vD);clear hA)
  |fail)
 obtain⟨w2,wD⟩: ∃w2,w2=w1.alloc (.cells #[.int .i64 ino, .int .i64 page] 127):=⟨_,rfl⟩;have vM:Below w1.heap.size w1 w2:=(by rw[wD];exact vc);have Aj:w2.heap[w1.heap.size]? =some (.cells #[.int .i64 ino, .int .i64 page] 127 (0,0)):=(by rw[wD];exact ab _ _);have Dn:=H1.out.below vM;have k0:w2.cell? ⟨w1.heap.size,0,none⟩=some (.int .i64 ino):=aa Aj 0;have k1:w2.cell? ⟨w1.heap.size,1,none⟩=some (.int .i64 page):=aa Aj 1;have k2:w2.cell? ⟨c,2,none⟩=some (.map (some m)):=aa Dn.self 2;have zJ: ∀W,W.heap[m]? =w2.heap[m]? ->(Instr.lookup 123 (.map (some m)) (.agg #[.int .i64 ino, .int .i64 page]) true).run Tryz.prog W= .ok (.tuple #[.agg #[.int .i64 0, .int .i64 0], .bool false]) W:=by
  intro W hW;obtain⟨es0,clk0,Py⟩:=aM.same (w':=W) Dn.slots hW;have ER:=Py.look (i:=ino) (p:=page) Kd JB true;rw[RV.out]at ER;exact ER
 have xm:=zJ w2.drew rfl;have wE:=zJ (w2.alloc (.cells #[.int .i64 0, .int .i64 0] 129)).drew (ve _ _ _ Dn.lts.2.1);have ye:=va Dn;have FF:=va Aj;have CT:=va wD;clear zJ Dn Aj wD;go_upto_region 9 with(fail);rw[<-CT.out];go_region_held3 (fun w'=>w'.cell? ⟨c,2,none⟩=some (.map (some m))/\w'.cell? ⟨w1.heap.size,0,none⟩=some (.int .i64 ino)/\w'.cell? ⟨w1.heap.size,1,none⟩=some (.int .i64 page)) (go_keep) (fail)
 all_goals
  obtain⟨w3,xb⟩: ∃w3,w3=(w2.alloc (.cells #[.int .i64 0, .int .i64 0] 129)).drew:=⟨_,rfl⟩;rw[<-xb];have vX:Below w2.heap.size w2 w3:=(by rw[xb];exact vc.drew);have ZU:w3.heap[w2.heap.size]? =some (.cells #[.int .i64 0, .int .i64 0] 129 (0,0)):=(by rw[xb];exact ab w2 _);have YO:=ye.out.lts;have Pv:=(uZ FF.out).1;have wg:=vD.size;have wm:=vM.size;have Xs:=H1.out.pool.low;have YP:=H1.out.lts;obtain⟨bh,PW⟩: ∃bh,bh=w2.heap.size:=⟨_,rfl⟩;obtain⟨bk,FC⟩: ∃bk,bk=w1.heap.size:=⟨_,rfl⟩;have Hc:w3.heap[bk]? =some (.cells #[.int .i64 ino, .int .i64 page] 127 (0,0)):=(by(rw[FC];exact((vX).block _ Pv).trans FF.out));have Gm:=ZU;rw[<-PW]at Gm⊢;rw[<-FC];have PX:bh≠c:=(by omega);have Ge:bh≠m:=(by omega);have Mn:bk≠bh:=(by omega);have PV:bk≠c:=(by omega);have UC:bh≠0:=(by omega);have Mo: ¬S bh:=fun e=>by(have:=Xs _ e;omega)
  have BI:=ye.out.below vX;have GA:=va BI;have IX:=va Gm;have KX:=va Hc;have yH:=va (vD.trans ((vM.trans ((vX).mono wm)).mono wg));have Xx:w.heap.size<=bh:=(by omega);have HBH:=va PW;have HBK:=va FC;clear BI Gm Hc PW FC k0 k1 k2 xm wE;have xR:=vX.size;have KG:au w3 A k d:=HA.out.kept (vM.trans (vX.mono wm));have Rf:=va KG;have ZA:bh<w3.heap.size:=(uZ IX.out).1;have Zx:bk<w3.heap.size:=(uZ KX.out).1;have Ut: ¬S bk:=fun e=>by have:=Xs _ e;have:=HBK.out;omega
  have Zy:bk≠m:=(by have:=HBK.out;omega);have hAk:0<k-> ∃ad,A=some ad/\ad.block<w1.heap.size:=fun h9=>by
   obtain⟨ad,e9,Ij⟩:=HA.out h9;exact⟨ad,e9,by have:=World.block_lt_of_cell? _ _ (Ij 0 h9);unfold Addr.add at this;split at this<;>exact this⟩
  clear xb KG;go_wp2_with fail;refine(fi c a fs m clock w3 S p L GA.out).mono ?_;rintro e w4 ⟨r,f,p1,L1,S1,rfl,Dm,xq,Ag,vO⟩;have AX:=xq.size;have Ct:=va Dm;have wC:=va vO;have CF:=va xq;have yd:=va Ag;clear Dm xq Ag;rcases vO.duo with rfl|⟨rfl,rfl,rfl,rfl⟩
  rotate_left
  ·clear vO;go_wp2_with fail;go_ret2;exact⟨4,0,_,_,clock,S1,rfl,Ct.out,dR.mod2 yH.out CF.out yd.out (Mod.refl _ _) (Mod.refl _ _) (Mod.refl _ _) Xx,fun b hb=>(yd.out b hb).imp id (fun h=>by have:=yH.out.size;omega), .full h0 RQ rfl RV.out wC.out⟩
  clear vO;obtain⟨f1,f2,f3⟩:=wC.out.live;have ZB: ¬Both S m bh:=fun e=>e.elim Mo Ge;have Zz: ¬Both S m bk:=fun e=>e.elim Ut Zy;have hH4:=(CF.out.block bh ZA ZB).trans IX.out;have hK4:=(CF.out.block bk Zx Zz).trans KX.out;have Bu: ¬S1 bh:=fun e=>(yd.out bh e).elim Mo (by omega);have ZI: ¬S1 bk:=fun e=>(yd.out bk e).elim Ut (by omega);have hA4:au w4 A k d:=Rf.out.mod CF.out (fun ad e h9=>by
   have h8:=hAn ad e h9;exact fun e=>e.elim (fun e=>by have:=H.out.pool.low _ e;omega) (fun e=>by have:=H.out.lts.2.1;omega))
  have HA4:=va hA4;have Sc:=va hH4;have HK4:=va hK4;clear hA4 hH4 hK4 f3 hAk;have e0:w4.cell? ⟨c,0,none⟩=some (.pointer (some ⟨a,0,none⟩)):=aa Ct.out.self 0;go_upto_region 16 with(first
   |(go_at_call 124;refine(gw a f 0 k cap A d w4 S1 p1 Ct.out.pool f1 (Nat.le_of_eq f2.symm) (by omega) (by omega) HA4.out hd).mono ?_;rintro e w5 ⟨rfl,IN,xf⟩;have Hm:=va (Ct.out.turn xf IN (Out.refl _ _));have Dw:=va xf;have RM:=(xf.block bh (by omega) Bu).trans Sc.out;have hK5:=(xf.block bk (by omega) ZI).trans HK4.out;have HH5:=va RM;have HK5:=va hK5;have g0:=aa RM 0;have g1:=ae RM 0;clear IN xf RM hK5)
   |fail)
  obtain⟨w6,ON⟩: ∃w6,w6=w5.setCell ⟨bh,0,none⟩ (.int .i64 (f:Int)):=⟨_,rfl⟩;rw[<-ON];have yU:Mod (fun b=>b=bh) w5 w6:=(by rw[ON];exact aj (S:=fun b=>b=bh) rfl 0 _);have UU:w6.heap[bh]? =some (.cells #[.int .i64 (f:Int), .int .i64 0] 129 (0,0)):=(by rw[ON];simpa using Joins.block_setCell (i:=0) HH5.out (.int .i64 (f:Int)));have Lh:=Dw.out.size;have hK6:=(yU.block bk (by omega) Mn).trans HK5.out;have NU:=Hm.out.c0;have WA:=va (Hm.out.mod yU (fun b hb e=>Bu (e▸hb)) (fun e=>UC e.symm) (fun e=>PX e.symm) (fun e=>Ge e.symm));have MN:=va UU;have HK6:=va hK6;have Hk:=va yU;clear ON yU UU hK6 g0 g1 e0 Mo;have Mo:=Bu;obtain⟨p2,hp2⟩: ∃p2,p2=p1.store f (laid (p1.dat f) d 0 k):=⟨_,rfl⟩;rw[<-hp2]at WA;have Ol:=va hp2;clear hp2;have AJ:=WA.out;have FX:=AJ.lts;have kc:w6.cell? ⟨c,3,none⟩=some (.int .i64 clock):=aa AJ.self 3;have kf:w6.frozen? ⟨c,3,none⟩=false:=ae AJ.self 3;have vF:w6.cell? ⟨bh,0,none⟩=some (.int .i64 (f:Int)):=aa MN.out 0;have vD:w6.cell? ⟨bh,1,none⟩=some (.int .i64 0):=aa MN.out 1;have Uv:w6.frozen? ⟨bh,1,none⟩=false:=ae MN.out 1;have hwr:IntKind.i64.wrap (clock+1)=clock+1:=(by(rw[IntKind.wrap_i64];omega));obtain⟨w20,DA⟩: ∃w20,w20=w6.setCell ⟨c,3,none⟩ (.int .i64 (clock+1)):=⟨_,rfl⟩;have AQ:Mod (fun b=>b=c) w6 w20:=(by(rw[DA];exact aj (S:=fun b=>b=c) rfl 3 _));have DD:aK w20 c a fs m (clock+1):=(by(rw[DA];exact AJ.self.tick));have TF:=(uZ MN.out).1;have Cn:=(AQ.block bh TF PX).trans MN.out;have x0:w20.cell? ⟨bh,0,none⟩=some (.int .i64 (f:Int)):=aa Cn 0;have x1:w20.cell? ⟨bh,1,none⟩=some (.int .i64 0):=aa Cn 1;have x2:w20.frozen? ⟨bh,1,none⟩=false:=ae Cn 1;have x3:w20.cell? ⟨c,3,none⟩=some (.int .i64 (clock+1)):=aa DD 3;obtain⟨w21,Dz⟩: ∃w21,w21=w20.setCell ⟨bh,1,none⟩ (.int .i64 (clock+1)):=⟨_,rfl⟩;have AP:Mod (fun b=>b=bh) w20 w21:=(by(rw[Dz];exact aj (S:=fun b=>b=bh) rfl 1 _));have DR:w21.heap[bh]? =some (.cells #[.int .i64 (f:Int), .int .i64 (clock+1)] 129 (0,0)):=(by(rw[Dz];simpa using Joins.block_setCell (i:=1) Cn (.int .i64 (clock+1))));have Ka:=(uZ DD).1;have FL:aK w21 c a fs m (clock+1):=(AP.block c Ka (fun e=>PX e.symm)).trans DD;have zJ:=(uZ HK6.out).1;have XL:=AQ.size;have XK:=AP.size;have Gl:=(AP.block bk (by omega) Mn).trans ((AQ.block bk zJ PV).trans HK6.out);have EA:aM w21 m L1:=(AJ.slots.same ((AP.block m (by omega) (fun e=>Ge e.symm)).trans (AQ.block m FX.2.1 (fun e=>FX.2.2.1 e.symm))));obtain⟨es,clk,TL⟩:=aM.same (w':=w21.drew) EA rfl;obtain⟨es',DU,Fz,FY⟩:=TL.put (s:=⟨ino,page,f,clock+1⟩) Kd JB;obtain⟨w22,Dy⟩: ∃w22,w22=Go.ChangeMaps.setBlock w21.drew m (.map es' DU):=⟨_,rfl⟩;rw[<-Dy]at Fz FY;have FV:(Instr.mapUpdate 123 (.map (some m)) (.agg #[.int .i64 ino, .int .i64 page]) (.agg #[.int .i64 (f:Int), .int .i64 (clock+1)])).run Tryz.prog w21.drew= .ok () w22:=Fz;have y0:w21.cell? ⟨c,2,none⟩=some (.map (some m)):=aa FL 2;have y1:w21.cell? ⟨bk,0,none⟩=some (.int .i64 ino):=aa Gl 0;have y2:w21.cell? ⟨bk,1,none⟩=some (.int .i64 page):=aa Gl 1;have y3:w21.cell? ⟨bh,0,none⟩=some (.int .i64 (f:Int)):=aa DR 0;have y4:w21.cell? ⟨bh,1,none⟩=some (.int .i64 (clock+1)):=aa DR 1;have DH:Mod (fun b=>b=m) w21 w22:=(by(rw[Dy];exact iQ _ _ _));have KD:=(DH.block bh (by omega) Ge).trans DR;have y5:w22.cell? ⟨bh,0,none⟩=some (.int .i64 (f:Int)):=aa KD 0;have BW:Mod (fun b=>b=m\/b=c\/b=bh) w6 w22:=((AQ.sub fun b hb=> .inr (.inl hb)).trans (Out.refl _ _) ((AP.sub fun b hb=> .inr (.inr hb)).trans (Out.refl _ _) (DH.sub fun b hb=> .inl hb)));have Vc:ar w22 S1 c a fs m (clock+1) p2 (dO L1 ⟨ino,page,f,clock+1⟩):=⟨AJ.pool.mod BW (fun b hb e=>by(rcases e with e|e|e;exact AJ.noM (e▸hb);exact AJ.noC (e▸hb);exact Mo (e▸hb))) (fun e=>by(have h9:=AJ.c0;rcases e with e|e|e<;>omega)),(DH.block c (by omega) FX.2.2.1).trans FL,⟨es',DU,FY⟩,AJ.noC,AJ.noM⟩;have HCE:=va Vc;have HMA:=va BW;have Qx:=va DA;have Qw:=va Dz;have HW22:=va Dy;clear AJ DD Cn DR FL Gl EA TL FY Fz AQ AP DH Vc BW DA Dz Dy KD;go_upto_region 17 with(fail);rw[<-Qx.out];go_upto_region 18 with(fail);rw[<-Qw.out];go_region;go_wp2_with fail
  all_goals
   go_ret2;exact⟨0,f,p2,_,clock+1,S1,rfl,HCE.out,dR.mod2 yH.out CF.out yd.out Dw.out Hk.out HMA.out Xx,fun b hb=>(yd.out b hb).imp id (fun h=>by have:=yH.out.size;omega),by rw[Ol.out];exact .miss f p1 L1 h0 RQ rfl RV.out wC.out⟩
end
section
open Go.RowKit Go.Sort
def bX (w:World) (A:Option Addr) (n cap:Nat) (d:Nat->Nat):Prop:=
 au w A n d/\(∀x,A=some x-> ∃(g:Nat) (cs:Array Value) (f:Nat×Nat),x=⟨g,0,none⟩/\w.heap[g]? =some (.cells cs 5 f))/\n<=cap/\eK A n cap
variable {w:World} {base cap n:Nat} {d:Nat->Nat}
theorem OwnB.byteRow {g:Nat} (h:OwnB w base (some ⟨g,0,none⟩) cap n d):bX w (some ⟨g,0,none⟩) n cap d:=by
 refine⟨h.v,fun x hx=>?_,?_,fun e=>by cases e⟩
 ·injection hx with hx;subst hx;rcases h.2 with⟨h2,_⟩|⟨g',vA,cur,h1,_,h3,_⟩
  ·injection h2 with h2;cases h2
  ·injection h1 with e1;injection e1 with e1;injection e1 with e1;subst e1;exact⟨_,_,_,rfl,h3⟩
 ·rcases h.2 with⟨h2,_⟩|⟨g',vA,cur,h1,_,_,h4,_⟩
  ·injection h2 with h2;cases h2
  ·injection h1 with _ _ e3;omega
variable {A:Option Addr}
theorem bX.below {w':World} (h:bX w A n cap d) (hb:Below w.heap.size w w'):bX w' A n cap d:=by
 obtain⟨h1,h2,h3⟩:=h;refine⟨h1.kept hb,fun x hx=>?_,h3⟩;obtain⟨g,cs,f,e,hg⟩:=h2 x hx;exact⟨g,cs,f,e,(hb.block g (uZ hg).1).trans hg⟩
theorem au.lt {ad:Addr} (h:au w (some ad) n d) (h0:0<n):ad.block<w.heap.size:=by
 obtain⟨x,e,hc⟩:=h h0;injection e with e;subst e;have hl:=World.block_lt_of_cell? _ _ (hc 0 h0);have FC:(ad.add 0).block=ad.block:=by unfold Addr.add;split<;>rfl
 rw[FC]at hl;exact hl
def uV (w:World) (n:Nat) (d:Nat->Nat) (e:Ending) (w':World):Prop:= ∃A cap,e= .returned (.slice A n cap)/\bX w' A n cap d/\Below w.heap.size w w'
theorem gV (w:World):Calls Tryz.prog 135 #[.slice none 0 0] w fun e w'=>e= .returned (.slice none 0 0)/\w'=w:=by
 have DG:=fun(W:World)=>Lib.run_eql_slice_nil (P:=Tryz.prog) (w:=W) 39 5 none 0 0 0 0 Tryz.underlying39;go_enter Tryz.func135,Tryz.ntmps135;go_wp2_with fail;go_ret;exact⟨rfl,rfl⟩
theorem kw (c:Nat) (ad:Addr) (w:World):Calls Tryz.prog 135 #[.slice (some ad) 0 c] w fun e w'=>e= .returned (.slice (some ⟨w.heap.size,0,none⟩) 0 0)/\w'=w.alloc (.cells #[] 5):=by
 have DG:=fun(W:World)=>Lib.run_eql_slice_nil (P:=Tryz.prog) (w:=W) 39 5 (some ad) 0 c 0 0 Tryz.underlying39;go_enter Tryz.func135,Tryz.ntmps135;go_wp2_with fail;go_ret;exact⟨rfl,rfl⟩
theorem uh (A:Option Addr) (n c:Nat) (d:Nat->Nat) (w:World) (wW:eK A n c) (Fy:n<=1000000) (hA:au w A n d):
  Calls Tryz.prog 135 #[.slice A n c] w (uV w n d):=by
 cases A with
 |none=>
  obtain⟨rfl,rfl⟩:=wW rfl;refine(gV w).mono ?_;rintro e w' ⟨rfl,rfl⟩;exact⟨none,0,rfl,⟨(fun h=>by omega),(fun x hx=>by cases hx),vd _,fun _ =>⟨rfl,rfl⟩⟩,vz _ _⟩
 |some ad=>
  by_cases h0:0<n
  ·refine(ky n c ad d w h0 Fy hA (hA.lt h0)).mono ?_;rintro e w' ⟨g,cap,rfl,ho,hb⟩;exact⟨_,_,rfl,ho.byteRow,hb⟩
  ·obtain rfl:n=0:=(by omega);refine(kw c ad w).mono ?_;rintro e w' ⟨rfl,rfl⟩;exact⟨_,_,rfl,⟨(fun h=>by omega),(fun x hx=>by injection hx with hx;subst hx;exact⟨_,_,_,rfl,ab w _⟩),vd _,fun e=>by cases e⟩,vc⟩
theorem jm (k a:Nat) (W:World):(binOp .neq 189 (aZ k a) .nilIface).run Tryz.prog W= .ok (.bool true) W:=by
 unfold aZ tyOf;split
 ·kernel_rfl
 ·split<;>kernel_rfl
theorem jn (k a:Nat) (W:World):(binOp .eql 189 (aZ k a) .nilIface).run Tryz.prog W= .ok (.bool false) W:=by
 unfold aZ tyOf;split
 ·kernel_rfl
 ·split<;>kernel_rfl
theorem gM (x y:Operand) (k a:Nat) (W:World):(eqGuard .neq 189 x y (aZ k a) .nilIface).run Tryz.prog W= .ok () W:=rfl
theorem fb (x y:Operand) (k a:Nat) (W:World):(eqGuard .eql 189 x y (aZ k a) .nilIface).run Tryz.prog W= .ok () W:=rfl
def ci (B fs:Nat) (F:List Nd) (x:Ent) (w:World) (e:Ending) (w':World):Prop:=
 e= .returned (.int .i64 (addM F x).1)/\(∃nb c2 ad mp,FsIs w' B fs nb c2 ad mp (addM F x).2)/\Below B w w'
variable {l:List ByteArray}
theorem OwnS.strs (h:OwnS w base A cap l):uJ w A l:=fun j x hx=>by
 rcases h.form with⟨_,e,_⟩|⟨g,e,_⟩
 ·rw[e]at hx;simp at hx
 ·subst e;exact⟨g,rfl,h.elem hx⟩
theorem uJ.front (h:uJ w A l):uJ w A l.dropLast:=fun j x hx=>by
 refine h j x ?_;have hl:=(List.getElem?_eq_some_iff.1 hx).1;rw[List.length_dropLast]at hl;rw[List.getElem?_dropLast,if_pos hl]at hx;exact hx
theorem vadd_bad (B fs nb c2 c:Nat) (ad mp:Nat->Nat) (F:List Nd) (x:Ent) (A:Option Addr) (w:World) (h:FsIs w B fs nb c2 ad mp F) (hp:x.path.size<=1000000000) (ht:x.to.size<=1000000000) (hn:x.n<=9223372036854775807) (hB:B<=w.heap.size) (hm:may x≠0):
  Calls Tryz.prog 82 #[.pointer (some ⟨fs,0,none⟩),x.val A c] w (ci B fs F x w):=by
 have yi:addM F x=(may x,F):=(by unfold addM;rw[if_pos hm]);unfold ci;rw[yi];obtain⟨r,hr⟩: ∃r,r=may x:=⟨_,rfl⟩;have vK:(r != 0)=true:=(by rw[bne_iff_ne,hr];exact hm);have yZ:=fun W=>dU x A c W hp ht hn;rw[<-hr]at yZ⊢;obtain⟨w0,vE⟩: ∃w0,w0=w.alloc (.cells #[.string x.path, .int .u8 (x.kind:Int), .int .u16 (x.mode:Int), .int .u32 (x.uid:Int), .int .u32 (x.gid:Int), .slice A x.n c, .string x.to] 93):=⟨_,rfl⟩;have vF:Below w.heap.size w w0:=(by rw[vE];exact vc);have hE:w0.heap[w.heap.size]? =some (.cells #[.string x.path, .int .u8 (x.kind:Int), .int .u16 (x.mode:Int), .int .u32 (x.uid:Int), .int .u32 (x.gid:Int), .slice A x.n c, .string x.to] 93 (0,0)):=(by rw[vE];exact ab w _);have d0:w0.cell? ⟨w.heap.size,0,none⟩=some (.string x.path):=aa hE 0;have d1:w0.cell? ⟨w.heap.size,1,none⟩=some (.int .u8 (x.kind:Int)):=aa hE 1;have d2:w0.cell? ⟨w.heap.size,2,none⟩=some (.int .u16 (x.mode:Int)):=aa hE 2;have d3:w0.cell? ⟨w.heap.size,3,none⟩=some (.int .u32 (x.uid:Int)):=aa hE 3;have d4:w0.cell? ⟨w.heap.size,4,none⟩=some (.int .u32 (x.gid:Int)):=aa hE 4;have d5:w0.cell? ⟨w.heap.size,5,none⟩=some (.slice A x.n c):=aa hE 5;have d6:w0.cell? ⟨w.heap.size,6,none⟩=some (.string x.to):=aa hE 6;unfold Ent.val at yZ⊢;have KP:=va yZ;have vY:=va vE;have HH:=va h;have HM:=va hm;have HR:=va hr;clear yZ vE h hm hr yi hE;go_enter Tryz.func82,Tryz.ntmps82;go_upto_region 1 with(fail);rw[<-vY.out];go_wp2_with (first
  |(go_at_call 133;refine(KP.out _).mono ?_;rintro e w1 ⟨A1,vC,l1,rfl,wi,vD,xm,wE⟩;have vJ:=va vD;clear wi vD xm wE)
  |fail)
 go_ret;have hb:=vF.trans (vJ.out.mono vF.size);exact⟨rfl,⟨nb,c2,ad,mp,HH.out.below hb⟩,hb.mono hB⟩
end
section
open Go.RowKit Go.Sort
variable {F:List Nd} {x:Ent}
theorem lj {j:Nat} (hm:may x=0) (h:atM F 0 (aq x.path)=some j):addM F x=(7,F):=by
 unfold addM;rw[if_neg (by omega),h];rfl
theorem ll (hm:may x=0) (h:atM F 0 (aq x.path)=none) (h2:atM F 0 (aq x.path).dropLast=none):addM F x=(3,F):=by
 unfold addM;rw[if_neg (by omega),h,h2];rfl
variable {up:Nat}
theorem kD (hm:may x=0) (h:atM F 0 (aq x.path)=none) (h2:atM F 0 (aq x.path).dropLast=some up) (hk:ak F up≠2):addM F x=(8,F):=by
 unfold addM;rw[if_neg (by omega),h,h2];show(if ak F up≠2 then((8:Int),F)else(0,F++[bD x up ((aq x.path).getLastD ⟨#[]⟩)]))=(8,F);rw[if_pos hk]
theorem kE (hm:may x=0) (h:atM F 0 (aq x.path)=none) (h2:atM F 0 (aq x.path).dropLast=some up) (hk:ak F up=2):addM F x=(0,F++[bD x up ((aq x.path).getLastD ⟨#[]⟩)]):=by
 unfold addM;rw[if_neg (by omega),h,h2];show(if ak F up≠2 then((8:Int),F)else(0,F++[bD x up ((aq x.path).getLastD ⟨#[]⟩)]))=_;rw[if_neg (by omega)]
theorem qA (B fs nb c2 c j:Nat) (ad mp:Nat->Nat) (F:List Nd) (x:Ent) (A:Option Addr) (w:World) (h:FsIs w B fs nb c2 ad mp F) (hp:x.path.size<=1000000000) (ht:x.to.size<=1000000000) (hn:x.n<=9223372036854775807) (hB:B<=w.heap.size) (hm:may x=0) (hF:F.length<=1000)
  (ha:atM F 0 (aq x.path)=some j):
  Calls Tryz.prog 82 #[.pointer (some ⟨fs,0,none⟩),x.val A c] w (ci B fs F x w):=by
 unfold ci;rw[lj hm ha];obtain⟨L,hL⟩: ∃L,L=aq x.path:=⟨_,rfl⟩;obtain⟨_,_,_,xK,_,Cl,_⟩:=eG hm;have Cm:L.length<=201:=(by rw[hL];have h1:=(da xK).2.1;have:=bj x.path;omega);obtain⟨m,AO⟩: ∃m,m+1=L.length:=⟨L.length-1,by
  have:0<L.length:=List.length_pos_iff.2 (by rw[hL];exact Cl);omega⟩
 have YI:m<=200:=(by omega);have yZ: ∀W,Calls Tryz.prog 133 #[x.val A c] W fun e w'=> ∃A1 vC,e= .returned (.tuple #[.slice A1 (m+1) vC, .int .i64 0])/\Hid (OwnS w' W.heap.size A1 vC L)/\Hid (Below W.heap.size W w')/\m+1<=vC:=fun W=>by
  refine(dU x A c W hp ht hn).mono ?_;rintro e w' ⟨A1,vC,l1,rfl,wi,vD,xm,wE⟩;have h9:=xm hm;rw[<-hL]at h9;subst h9;refine⟨A1,vC,by rw[hm,AO],va wi,va vD,?_⟩;rcases wi.form with⟨_,e,_⟩|⟨g,_,_,_,e⟩
  ·rw[e]at AO;cases AO
  ·omega
 obtain⟨w0,vE⟩: ∃w0,w0=w.alloc (.cells #[.string x.path, .int .u8 (x.kind:Int), .int .u16 (x.mode:Int), .int .u32 (x.uid:Int), .int .u32 (x.gid:Int), .slice A x.n c, .string x.to] 93):=⟨_,rfl⟩;have vF:Below w.heap.size w w0:=(by rw[vE];exact vc);have hE:w0.heap[w.heap.size]? =some (.cells #[.string x.path, .int .u8 (x.kind:Int), .int .u16 (x.mode:Int), .int .u32 (x.uid:Int), .int .u32 (x.gid:Int), .slice A x.n c, .string x.to] 93 (0,0)):=(by rw[vE];exact ab w _);have d0:w0.cell? ⟨w.heap.size,0,none⟩=some (.string x.path):=aa hE 0;have d1:w0.cell? ⟨w.heap.size,1,none⟩=some (.int .u8 (x.kind:Int)):=aa hE 1;have d2:w0.cell? ⟨w.heap.size,2,none⟩=some (.int .u16 (x.mode:Int)):=aa hE 2;have d3:w0.cell? ⟨w.heap.size,3,none⟩=some (.int .u32 (x.uid:Int)):=aa hE 3;have d4:w0.cell? ⟨w.heap.size,4,none⟩=some (.int .u32 (x.gid:Int)):=aa hE 4;have d5:w0.cell? ⟨w.heap.size,5,none⟩=some (.slice A x.n c):=aa hE 5;have d6:w0.cell? ⟨w.heap.size,6,none⟩=some (.string x.to):=aa hE 6;have xe: ∀W A1 vC base,Below w.heap.size w W->Hid (OwnS W base A1 vC L)->m+1<=vC->Calls Tryz.prog 134 #[.pointer (some ⟨fs,0,none⟩), .slice A1 (m+1) vC] W fun e w'=>e= .returned (atV F ad (atM F 0 L))/\w'=W:=fun W A1 vC base hb ho hc=>
  eX B fs nb c2 (m+1) vC ad mp F A1 L W (h.below hb) ho.out.strs AO hc (by omega) (by omega)
 have xA: ∀W A1 vC base,Below w.heap.size w W->Hid (OwnS W base A1 vC L)->m+1<=vC->Calls Tryz.prog 134 #[.pointer (some ⟨fs,0,none⟩), .slice A1 m vC] W fun e w'=>e= .returned (atV F ad (atM F 0 L.dropLast))/\w'=W:=fun W A1 vC base hb ho hc=>
  eX B fs nb c2 m vC ad mp F A1 L.dropLast W (h.below hb) ho.out.strs.front (by rw[List.length_dropLast];omega) (by omega) (by omega) (by omega)
 have JK:=fun k a W=>jm k a W;have Me:=fun k a W=>jn k a W;have GQ:=fun x y k a W=>gM x y k a W;have GR:=fun x y k a W=>fb x y k a W;have HE:=va hE;have VU:=va AO;have HL:=va hL
 (rw[<-hL]at ha;rw[ha]at xe;have xe: ∀W A1 vC base,Below w.heap.size w W->Hid (OwnS W base A1 vC L)->m+1<=vC->Calls Tryz.prog 134 #[.pointer (some ⟨fs,0,none⟩), .slice A1 (m+1) vC] W fun e w'=>e= .returned (aZ (ak F j) (ad j))/\w'=W:=xe;clear ha)
 have zS:=yZ;unfold Ent.val at zS⊢;have KP:=va zS;have Da:=va xe;have Cu:=va xA;have vY:=va vE;have HH:=va h;have HM:=va hm;clear yZ zS xe xA vE h hm hE AO hL xK Cl Cm;go_enter Tryz.func82,Tryz.ntmps82;go_upto_region 1 with(fail);rw[<-vY.out];go_wp2_with (first
  |(go_at_call 133;refine(KP.out _).mono ?_;rintro e w1 ⟨A1,vC,rfl,vS,vJ,xU⟩)
  |(go_at_call 134;refine(Da.out _ _ _ _ (vF.trans (vJ.out.mono vF.size)) vS xU).mono ?_;rintro e w2 ⟨rfl,rfl⟩)
  |fail)
 go_ret;have hb:=vF.trans (vJ.out.mono vF.size);exact⟨rfl,⟨nb,c2,ad,mp,HH.out.below hb⟩,hb.mono hB⟩
theorem qB (B fs nb c2 c:Nat) (ad mp:Nat->Nat) (F:List Nd) (x:Ent) (A:Option Addr) (w:World) (h:FsIs w B fs nb c2 ad mp F) (hp:x.path.size<=1000000000) (ht:x.to.size<=1000000000) (hn:x.n<=9223372036854775807) (hB:B<=w.heap.size) (hm:may x=0) (hF:F.length<=1000)
  (ha:atM F 0 (aq x.path)=none) (Ci:atM F 0 (aq x.path).dropLast=none):
  Calls Tryz.prog 82 #[.pointer (some ⟨fs,0,none⟩),x.val A c] w (ci B fs F x w):=by
 unfold ci;rw[ll hm ha Ci];obtain⟨L,hL⟩: ∃L,L=aq x.path:=⟨_,rfl⟩;obtain⟨_,_,_,xK,_,Cl,_⟩:=eG hm;have Cm:L.length<=201:=(by rw[hL];have h1:=(da xK).2.1;have:=bj x.path;omega);obtain⟨m,AO⟩: ∃m,m+1=L.length:=⟨L.length-1,by
  have:0<L.length:=List.length_pos_iff.2 (by rw[hL];exact Cl);omega⟩
 have YI:m<=200:=(by omega);have yZ: ∀W,Calls Tryz.prog 133 #[x.val A c] W fun e w'=> ∃A1 vC,e= .returned (.tuple #[.slice A1 (m+1) vC, .int .i64 0])/\Hid (OwnS w' W.heap.size A1 vC L)/\Hid (Below W.heap.size W w')/\m+1<=vC:=fun W=>by
  refine(dU x A c W hp ht hn).mono ?_;rintro e w' ⟨A1,vC,l1,rfl,wi,vD,xm,wE⟩;have h9:=xm hm;rw[<-hL]at h9;subst h9;refine⟨A1,vC,by rw[hm,AO],va wi,va vD,?_⟩;rcases wi.form with⟨_,e,_⟩|⟨g,_,_,_,e⟩
  ·rw[e]at AO;cases AO
  ·omega
 obtain⟨w0,vE⟩: ∃w0,w0=w.alloc (.cells #[.string x.path, .int .u8 (x.kind:Int), .int .u16 (x.mode:Int), .int .u32 (x.uid:Int), .int .u32 (x.gid:Int), .slice A x.n c, .string x.to] 93):=⟨_,rfl⟩;have vF:Below w.heap.size w w0:=(by rw[vE];exact vc);have hE:w0.heap[w.heap.size]? =some (.cells #[.string x.path, .int .u8 (x.kind:Int), .int .u16 (x.mode:Int), .int .u32 (x.uid:Int), .int .u32 (x.gid:Int), .slice A x.n c, .string x.to] 93 (0,0)):=(by rw[vE];exact ab w _);have d0:w0.cell? ⟨w.heap.size,0,none⟩=some (.string x.path):=aa hE 0;have d1:w0.cell? ⟨w.heap.size,1,none⟩=some (.int .u8 (x.kind:Int)):=aa hE 1;have d2:w0.cell? ⟨w.heap.size,2,none⟩=some (.int .u16 (x.mode:Int)):=aa hE 2;have d3:w0.cell? ⟨w.heap.size,3,none⟩=some (.int .u32 (x.uid:Int)):=aa hE 3;have d4:w0.cell? ⟨w.heap.size,4,none⟩=some (.int .u32 (x.gid:Int)):=aa hE 4;have d5:w0.cell? ⟨w.heap.size,5,none⟩=some (.slice A x.n c):=aa hE 5;have d6:w0.cell? ⟨w.heap.size,6,none⟩=some (.string x.to):=aa hE 6;have xe: ∀W A1 vC base,Below w.heap.size w W->Hid (OwnS W base A1 vC L)->m+1<=vC->Calls Tryz.prog 134 #[.pointer (some ⟨fs,0,none⟩), .slice A1 (m+1) vC] W fun e w'=>e= .returned (atV F ad (atM F 0 L))/\w'=W:=fun W A1 vC base hb ho hc=>
  eX B fs nb c2 (m+1) vC ad mp F A1 L W (h.below hb) ho.out.strs AO hc (by omega) (by omega)
 have xA: ∀W A1 vC base,Below w.heap.size w W->Hid (OwnS W base A1 vC L)->m+1<=vC->Calls Tryz.prog 134 #[.pointer (some ⟨fs,0,none⟩), .slice A1 m vC] W fun e w'=>e= .returned (atV F ad (atM F 0 L.dropLast))/\w'=W:=fun W A1 vC base hb ho hc=>
  eX B fs nb c2 m vC ad mp F A1 L.dropLast W (h.below hb) ho.out.strs.front (by rw[List.length_dropLast];omega) (by omega) (by omega) (by omega)
 have JK:=fun k a W=>jm k a W;have Me:=fun k a W=>jn k a W;have GQ:=fun x y k a W=>gM x y k a W;have GR:=fun x y k a W=>fb x y k a W;have HE:=va hE;have VU:=va AO;have HL:=va hL
 (rw[<-hL]at ha Ci;rw[ha]at xe;rw[Ci]at xA;have xe: ∀W A1 vC base,Below w.heap.size w W->Hid (OwnS W base A1 vC L)->m+1<=vC->Calls Tryz.prog 134 #[.pointer (some ⟨fs,0,none⟩), .slice A1 (m+1) vC] W fun e w'=>e= .returned .nilIface/\w'=W:=xe;have xA: ∀W A1 vC base,Below w.heap.size w W->Hid (OwnS W base A1 vC L)->m+1<=vC->Calls Tryz.prog 134 #[.pointer (some ⟨fs,0,none⟩), .slice A1 m vC] W fun e w'=>e= .returned .nilIface/\w'=W:=xA;clear ha Ci)
 have zS:=yZ;unfold Ent.val at zS⊢;have KP:=va zS;have Da:=va xe;have Cu:=va xA;have vY:=va vE;have HH:=va h;have HM:=va hm;clear yZ zS xe xA vE h hm hE AO hL xK Cl Cm;go_enter Tryz.func82,Tryz.ntmps82;go_upto_region 1 with(fail);rw[<-vY.out];go_upto_region 7 with(first
  |(go_at_call 133;refine(KP.out _).mono ?_;rintro e w1 ⟨A1,vC,rfl,vS,vJ,xU⟩)
  |(go_at_call 134;refine(Da.out _ _ _ _ (vF.trans (vJ.out.mono vF.size)) vS xU).mono ?_;rintro e w2 ⟨rfl,rfl⟩)
  |fail)
 go_wp2_with (first
  |(go_at_call 134;refine(Cu.out _ _ _ _ (vF.trans (vJ.out.mono vF.size)) vS xU).mono ?_;rintro e w3 ⟨rfl,rfl⟩)
  |fail)
 go_ret;have hb:=vF.trans (vJ.out.mono vF.size);exact⟨rfl,⟨nb,c2,ad,mp,HH.out.below hb⟩,hb.mono hB⟩
theorem oo (B fs nb c2 c up:Nat) (ad mp:Nat->Nat) (F:List Nd) (x:Ent) (A:Option Addr) (w:World) (h:FsIs w B fs nb c2 ad mp F) (hp:x.path.size<=1000000000) (ht:x.to.size<=1000000000) (hn:x.n<=9223372036854775807) (hB:B<=w.heap.size) (hm:may x=0) (hF:F.length<=1000)
  (ha:atM F 0 (aq x.path)=none) (Ci:atM F 0 (aq x.path).dropLast=some up) (hk:ak F up≠2):
  Calls Tryz.prog 82 #[.pointer (some ⟨fs,0,none⟩),x.val A c] w (ci B fs F x w):=by
 unfold ci;rw[kD hm ha Ci hk];have Mp:=fun W=>gk (ak F up) (ad up) W;rw[if_neg hk,vq hk]at Mp;clear hk;obtain⟨L,hL⟩: ∃L,L=aq x.path:=⟨_,rfl⟩;obtain⟨_,_,_,xK,_,Cl,_⟩:=eG hm;have Cm:L.length<=201:=(by rw[hL];have h1:=(da xK).2.1;have:=bj x.path;omega);obtain⟨m,AO⟩: ∃m,m+1=L.length:=⟨L.length-1,by
  have:0<L.length:=List.length_pos_iff.2 (by rw[hL];exact Cl);omega⟩
 have YI:m<=200:=(by omega);have yZ: ∀W,Calls Tryz.prog 133 #[x.val A c] W fun e w'=> ∃A1 vC,e= .returned (.tuple #[.slice A1 (m+1) vC, .int .i64 0])/\Hid (OwnS w' W.heap.size A1 vC L)/\Hid (Below W.heap.size W w')/\m+1<=vC:=fun W=>by
  refine(dU x A c W hp ht hn).mono ?_;rintro e w' ⟨A1,vC,l1,rfl,wi,vD,xm,wE⟩;have h9:=xm hm;rw[<-hL]at h9;subst h9;refine⟨A1,vC,by rw[hm,AO],va wi,va vD,?_⟩;rcases wi.form with⟨_,e,_⟩|⟨g,_,_,_,e⟩
  ·rw[e]at AO;cases AO
  ·omega
 obtain⟨w0,vE⟩: ∃w0,w0=w.alloc (.cells #[.string x.path, .int .u8 (x.kind:Int), .int .u16 (x.mode:Int), .int .u32 (x.uid:Int), .int .u32 (x.gid:Int), .slice A x.n c, .string x.to] 93):=⟨_,rfl⟩;have vF:Below w.heap.size w w0:=(by rw[vE];exact vc);have hE:w0.heap[w.heap.size]? =some (.cells #[.string x.path, .int .u8 (x.kind:Int), .int .u16 (x.mode:Int), .int .u32 (x.uid:Int), .int .u32 (x.gid:Int), .slice A x.n c, .string x.to] 93 (0,0)):=(by rw[vE];exact ab w _);have d0:w0.cell? ⟨w.heap.size,0,none⟩=some (.string x.path):=aa hE 0;have d1:w0.cell? ⟨w.heap.size,1,none⟩=some (.int .u8 (x.kind:Int)):=aa hE 1;have d2:w0.cell? ⟨w.heap.size,2,none⟩=some (.int .u16 (x.mode:Int)):=aa hE 2;have d3:w0.cell? ⟨w.heap.size,3,none⟩=some (.int .u32 (x.uid:Int)):=aa hE 3;have d4:w0.cell? ⟨w.heap.size,4,none⟩=some (.int .u32 (x.gid:Int)):=aa hE 4;have d5:w0.cell? ⟨w.heap.size,5,none⟩=some (.slice A x.n c):=aa hE 5;have d6:w0.cell? ⟨w.heap.size,6,none⟩=some (.string x.to):=aa hE 6;have xe: ∀W A1 vC base,Below w.heap.size w W->Hid (OwnS W base A1 vC L)->m+1<=vC->Calls Tryz.prog 134 #[.pointer (some ⟨fs,0,none⟩), .slice A1 (m+1) vC] W fun e w'=>e= .returned (atV F ad (atM F 0 L))/\w'=W:=fun W A1 vC base hb ho hc=>
  eX B fs nb c2 (m+1) vC ad mp F A1 L W (h.below hb) ho.out.strs AO hc (by omega) (by omega)
 have xA: ∀W A1 vC base,Below w.heap.size w W->Hid (OwnS W base A1 vC L)->m+1<=vC->Calls Tryz.prog 134 #[.pointer (some ⟨fs,0,none⟩), .slice A1 m vC] W fun e w'=>e= .returned (atV F ad (atM F 0 L.dropLast))/\w'=W:=fun W A1 vC base hb ho hc=>
  eX B fs nb c2 m vC ad mp F A1 L.dropLast W (h.below hb) ho.out.strs.front (by rw[List.length_dropLast];omega) (by omega) (by omega) (by omega)
 have JK:=fun k a W=>jm k a W;have Me:=fun k a W=>jn k a W;have GQ:=fun x y k a W=>gM x y k a W;have GR:=fun x y k a W=>fb x y k a W;have HE:=va hE;have VU:=va AO;have HL:=va hL
 (rw[<-hL]at ha Ci;rw[ha]at xe;rw[Ci]at xA;have xe: ∀W A1 vC base,Below w.heap.size w W->Hid (OwnS W base A1 vC L)->m+1<=vC->Calls Tryz.prog 134 #[.pointer (some ⟨fs,0,none⟩), .slice A1 (m+1) vC] W fun e w'=>e= .returned .nilIface/\w'=W:=xe;have xA: ∀W A1 vC base,Below w.heap.size w W->Hid (OwnS W base A1 vC L)->m+1<=vC->Calls Tryz.prog 134 #[.pointer (some ⟨fs,0,none⟩), .slice A1 m vC] W fun e w'=>e= .returned (aZ (ak F up) (ad up))/\w'=W:=xA;clear ha Ci)
 have zS:=yZ;unfold Ent.val at zS⊢;have KP:=va zS;have Da:=va xe;have Cu:=va xA;have vY:=va vE;have HH:=va h;have HM:=va hm;clear yZ zS xe xA vE h hm hE AO hL xK Cl Cm;go_enter Tryz.func82,Tryz.ntmps82;go_upto_region 1 with(fail);rw[<-vY.out];go_upto_region 7 with(first
  |(go_at_call 133;refine(KP.out _).mono ?_;rintro e w1 ⟨A1,vC,rfl,vS,vJ,xU⟩)
  |(go_at_call 134;refine(Da.out _ _ _ _ (vF.trans (vJ.out.mono vF.size)) vS xU).mono ?_;rintro e w2 ⟨rfl,rfl⟩)
  |fail)
 go_wp2_with (first
  |(go_at_call 134;refine(Cu.out _ _ _ _ (vF.trans (vJ.out.mono vF.size)) vS xU).mono ?_;rintro e w3 ⟨rfl,rfl⟩)
  |fail)
 go_ret;have hb:=vF.trans (vJ.out.mono vF.size);exact⟨rfl,⟨nb,c2,ad,mp,HH.out.below hb⟩,hb.mono hB⟩
end
section
open Go.RowKit Go.Sort
variable {L:List ByteArray}
theorem nE {m:Nat} (h:m+1=L.length): ∃s,L[m]? =some s/\L.getLastD ⟨#[]⟩=s/\L=L.dropLast++[s]:=by
 have vK:L≠[]:=fun e=>by rw[e]at h;cases h
 have h1:L=L.dropLast++[L.getLast vK]:=(List.dropLast_concat_getLast vK).symm;refine⟨L.getLast vK,?_,?_,h1⟩
 ·rw[List.getLast_eq_getElem];have:L.length-1=m:=(by omega);simp only[this];exact vg (by omega)
 ·cases L with
  |nil=>exact absurd rfl vK
  |cons a l=>rfl
theorem tN {F:List Nd} {s:ByteArray} {up:Nat} (hL:L=L.dropLast++[s]) (h1:atM F 0 L=none) (h2:atM F 0 L.dropLast=some up) (hk:ak F up=2): ∀y∈aH F up,y.1≠s:=by
 rw[hL,atM_snoc,h2]at h1;simp only at h1;refine rk ?_;cases hc:cU (aH F up) s with
 |none=>rfl
 |some j=>rw[atM_go hk hc]at h1;cases h1
theorem sd (B fs nb c2 c up:Nat) (ad mp:Nat->Nat) (F:List Nd) (x:Ent) (A:Option Addr) (w:World) (h:FsIs w B fs nb c2 ad mp F) (hp:x.path.size<=1000000000) (ht:x.to.size<=1000000000) (hn:x.n<=9223372036854775807) (hB:B<=w.heap.size) (hm:may x=0) (hF:F.length<=1000)
  (hA:au w A x.n x.dat) (KF:eK A x.n c)
  (ha:atM F 0 (aq x.path)=none) (Ci:atM F 0 (aq x.path).dropLast=some up) (hk:ak F up=2):
  Calls Tryz.prog 82 #[.pointer (some ⟨fs,0,none⟩),x.val A c] w (ci B fs F x w):=by
 have wW:=mv (F:=F) (e:=x) h.ok (by rw[kE hm ha Ci hk]);unfold ci;rw[kE hm ha Ci hk]at wW⊢;have yL:=uu _ h.ok.pos Ci;have Mp:=fun W=>gk (ak F up) (ad up) W;rw[if_pos hk,vr hk]at Mp;obtain⟨N,hN⟩: ∃N,N=F.length:=⟨_,rfl⟩;have hNf:N<=1000:=(by omega);obtain⟨V,hV⟩: ∃V,V=aZ (ak F up) (ad up):=⟨_,rfl⟩;have vN:=eG hm;obtain⟨L,hL⟩: ∃L,L=aq x.path:=⟨_,rfl⟩;obtain⟨_,_,_,xK,_,Cl,_⟩:=eG hm;have Cm:L.length<=201:=(by rw[hL];have h1:=(da xK).2.1;have:=bj x.path;omega);obtain⟨m,AO⟩: ∃m,m+1=L.length:=⟨L.length-1,by
  have:0<L.length:=List.length_pos_iff.2 (by rw[hL];exact Cl);omega⟩
 have YI:m<=200:=(by omega);have yZ: ∀W,Calls Tryz.prog 133 #[x.val A c] W fun e w'=> ∃A1 vC,e= .returned (.tuple #[.slice A1 (m+1) vC, .int .i64 0])/\Hid (OwnS w' W.heap.size A1 vC L)/\Hid (Below W.heap.size W w')/\m+1<=vC:=fun W=>by
  refine(dU x A c W hp ht hn).mono ?_;rintro e w' ⟨A1,vC,l1,rfl,wi,vD,xm,wE⟩;have h9:=xm hm;rw[<-hL]at h9;subst h9;refine⟨A1,vC,by rw[hm,AO],va wi,va vD,?_⟩;rcases wi.form with⟨_,e,_⟩|⟨g,_,_,_,e⟩
  ·rw[e]at AO;cases AO
  ·omega
 obtain⟨w0,vE⟩: ∃w0,w0=w.alloc (.cells #[.string x.path, .int .u8 (x.kind:Int), .int .u16 (x.mode:Int), .int .u32 (x.uid:Int), .int .u32 (x.gid:Int), .slice A x.n c, .string x.to] 93):=⟨_,rfl⟩;have vF:Below w.heap.size w w0:=(by rw[vE];exact vc);have hE:w0.heap[w.heap.size]? =some (.cells #[.string x.path, .int .u8 (x.kind:Int), .int .u16 (x.mode:Int), .int .u32 (x.uid:Int), .int .u32 (x.gid:Int), .slice A x.n c, .string x.to] 93 (0,0)):=(by rw[vE];exact ab w _);have d0:w0.cell? ⟨w.heap.size,0,none⟩=some (.string x.path):=aa hE 0;have d1:w0.cell? ⟨w.heap.size,1,none⟩=some (.int .u8 (x.kind:Int)):=aa hE 1;have d2:w0.cell? ⟨w.heap.size,2,none⟩=some (.int .u16 (x.mode:Int)):=aa hE 2;have d3:w0.cell? ⟨w.heap.size,3,none⟩=some (.int .u32 (x.uid:Int)):=aa hE 3;have d4:w0.cell? ⟨w.heap.size,4,none⟩=some (.int .u32 (x.gid:Int)):=aa hE 4;have d5:w0.cell? ⟨w.heap.size,5,none⟩=some (.slice A x.n c):=aa hE 5;have d6:w0.cell? ⟨w.heap.size,6,none⟩=some (.string x.to):=aa hE 6;have xe: ∀W A1 vC base,Below w.heap.size w W->Hid (OwnS W base A1 vC L)->m+1<=vC->Calls Tryz.prog 134 #[.pointer (some ⟨fs,0,none⟩), .slice A1 (m+1) vC] W fun e w'=>e= .returned (atV F ad (atM F 0 L))/\w'=W:=fun W A1 vC base hb ho hc=>
  eX B fs nb c2 (m+1) vC ad mp F A1 L W (h.below hb) ho.out.strs AO hc (by omega) (by omega)
 have xA: ∀W A1 vC base,Below w.heap.size w W->Hid (OwnS W base A1 vC L)->m+1<=vC->Calls Tryz.prog 134 #[.pointer (some ⟨fs,0,none⟩), .slice A1 m vC] W fun e w'=>e= .returned (atV F ad (atM F 0 L.dropLast))/\w'=W:=fun W A1 vC base hb ho hc=>
  eX B fs nb c2 m vC ad mp F A1 L.dropLast W (h.below hb) ho.out.strs.front (by rw[List.length_dropLast];omega) (by omega) (by omega) (by omega)
 have JK:=fun k a W=>jm k a W;have Me:=fun k a W=>jn k a W;have GQ:=fun x y k a W=>gM x y k a W;have GR:=fun x y k a W=>fb x y k a W;have HE:=va hE;have VU:=va AO;have HL:=va hL
 (rw[<-hL]at ha Ci;have Ku:=xe;rw[ha]at Ku;have Kt:=xA;rw[Ci]at Kt;clear xe xA;have xe: ∀W A1 vC base,Below w.heap.size w W->Hid (OwnS W base A1 vC L)->m+1<=vC->Calls Tryz.prog 134 #[.pointer (some ⟨fs,0,none⟩), .slice A1 (m+1) vC] W fun e w'=>e= .returned .nilIface/\w'=W:=Ku;have xA: ∀W A1 vC base,Below w.heap.size w W->Hid (OwnS W base A1 vC L)->m+1<=vC->Calls Tryz.prog 134 #[.pointer (some ⟨fs,0,none⟩), .slice A1 m vC] W fun e w'=>e= .returned (aZ (ak F up) (ad up))/\w'=W:=Kt;have HAA:=va ha;have HAA2:=va Ci;have FE:=va hk;have Ea:=va hN;have QG:=va wW;have KU:=va vN;have Ld:=va hA;have HSO:=va KF;have Zb:=fb;clear ha Ci Ku Kt hk hN wW hV vN hA KF)
 have zS:=yZ;unfold Ent.val at zS⊢;have KP:=va zS;have Da:=va xe;have Cu:=va xA;have vY:=va vE;have HH:=va h;have HM:=va hm;clear yZ zS xe xA vE h hm hE AO hL xK Cl Cm;go_enter Tryz.func82,Tryz.ntmps82;go_upto_region 1 with(fail);rw[<-vY.out];go_upto_region 7 with(first
  |(go_at_call 133;refine(KP.out _).mono ?_;rintro e w1 ⟨A1,vC,rfl,vS,vJ,xU⟩)
  |(go_at_call 134;refine(Da.out _ _ _ _ (vF.trans (vJ.out.mono vF.size)) vS xU).mono ?_;rintro e w2 ⟨rfl,rfl⟩)
  |fail)
 go_upto_region 13 with(first
  |(go_at_call 134;refine(Cu.out _ _ _ _ (vF.trans (vJ.out.mono vF.size)) vS xU).mono ?_;rintro e w3 ⟨rfl,rfl⟩)
  |fail)
 clear d0 d1 d2 d3 d4 d5 d6;have xd:w.heap.size<w0.heap.size:=(uZ HE.out).1;have za:Below w.heap.size w w3:=vF.trans (vJ.out.mono vF.size);have vG:=(vJ.out.block _ xd).trans HE.out;obtain⟨s,hs,hsL,hsD⟩:=nE VU.out;obtain⟨g,TT,ym,xT⟩: ∃g,A1=some ⟨g,0,none⟩/\w0.heap.size<=g/\g<w3.heap.size:=by
  rcases vS.out.form with⟨_,e,_⟩|⟨g,e1,e2,e3,_⟩
  ·exfalso;have:=VU.out;rw[e]at this;cases this
  ·exact⟨g,e1,e2,e3⟩
 subst TT;have Xw:=HH.out.below za;have cg:w3.cell? ⟨g,m,none⟩=some (.string s):=OwnS.elem vS.out hs;have e1:w3.cell? ⟨w.heap.size,1,none⟩=some (.int .u8 (x.kind:Int)):=aa vG 1;have e2:w3.cell? ⟨w.heap.size,2,none⟩=some (.int .u16 (x.mode:Int)):=aa vG 2;have e3:w3.cell? ⟨w.heap.size,3,none⟩=some (.int .u32 (x.uid:Int)):=aa vG 3;have e4:w3.cell? ⟨w.heap.size,4,none⟩=some (.int .u32 (x.gid:Int)):=aa vG 4;have e5:w3.cell? ⟨w.heap.size,5,none⟩=some (.slice A x.n c):=aa vG 5;have e8:w3.cell? ⟨fs,0,none⟩=some (.slice (some ⟨nb,0,none⟩) N c2):=(by rw[Ea.out];exact aa Xw.self 0);have l1:fs<w3.heap.size:=(uZ Xw.self).1;have l2:w.heap.size<w3.heap.size:=(uZ vG).1;have xF:=va vG;have LF:=va Xw;have RU:=va hsL;have Fs:=va (tN hsD HAA.out HAA2.out FE.out);have Ja:=va za;clear vG Xw hs hsL hsD za;have YH:(m:Int)<(m:Int)+1:=(by omega);go_region_held3 (fun w'=>w'.cell? ⟨w.heap.size,1,none⟩=some (.int .u8 (x.kind:Int))/\w'.cell? ⟨w.heap.size,2,none⟩=some (.int .u16 (x.mode:Int))/\w'.cell? ⟨w.heap.size,3,none⟩=some (.int .u32 (x.uid:Int))/\w'.cell? ⟨w.heap.size,4,none⟩=some (.int .u32 (x.gid:Int))/\w'.cell? ⟨w.heap.size,5,none⟩=some (.slice A x.n c)/\w'.cell? ⟨fs,0,none⟩=some (.slice (some ⟨nb,0,none⟩) N c2)/\w'.cell? ⟨g,m,none⟩=some (.string s))
  (go_keep)
  (fail)
 go_upto_region 14 with(fail);obtain⟨w4,yR⟩: ∃w4,w4=(w3.alloc (.cells #[.int .u8 (x.kind:Int), .int .u16 (x.mode:Int), .int .u32 (x.uid:Int), .int .u32 (x.gid:Int), .int .i64 (x.n:Int), .int .i64 (N:Int), .pointer (some ⟨ad up,0,none⟩), .string s] 165)).drew:=⟨_,rfl⟩;rw[<-yR];have CR:w4.heap[w3.heap.size]? =some (.cells #[.int .u8 (x.kind:Int), .int .u16 (x.mode:Int), .int .u32 (x.uid:Int), .int .u32 (x.gid:Int), .int .i64 (x.n:Int), .int .i64 (N:Int), .pointer (some ⟨ad up,0,none⟩), .string s] 165 (0,0)):=(by rw[yR];exact ab w3 _);have Il:Below w3.heap.size w3 w4:=(by rw[yR];exact vc.drew);have AX:=Il.size;have l3:w3.heap.size<w4.heap.size:=(uZ CR).1;clear e1 e2 e3 e4 e5 e8;have e1:w4.cell? ⟨w.heap.size,1,none⟩=some (.int .u8 (x.kind:Int)):=(Il.cell l2).trans (aa xF.out 1);have e5:w4.cell? ⟨w.heap.size,5,none⟩=some (.slice A x.n c):=(Il.cell l2).trans (aa xF.out 5);have e6:w4.cell? ⟨w.heap.size,6,none⟩=some (.string x.to):=(Il.cell l2).trans (aa xF.out 6);have x0:w4.cell? ⟨w3.heap.size,0,none⟩=some (.int .u8 (x.kind:Int)):=aa CR 0;have x1:w4.cell? ⟨w3.heap.size,1,none⟩=some (.int .u16 (x.mode:Int)):=aa CR 1;have x2:w4.cell? ⟨w3.heap.size,2,none⟩=some (.int .u32 (x.uid:Int)):=aa CR 2;have x3:w4.cell? ⟨w3.heap.size,3,none⟩=some (.int .u32 (x.gid:Int)):=aa CR 3;have x4:w4.cell? ⟨w3.heap.size,4,none⟩=some (.int .i64 (x.n:Int)):=aa CR 4;have x5:w4.cell? ⟨w3.heap.size,5,none⟩=some (.int .i64 (N:Int)):=aa CR 5;have x6:w4.cell? ⟨w3.heap.size,6,none⟩=some (.pointer (some ⟨ad up,0,none⟩)):=aa CR 6;have x7:w4.cell? ⟨w3.heap.size,7,none⟩=some (.string s):=aa CR 7;have wV:=va CR;have MS:=va Il;clear CR Il yR JK Me GQ GR Zb Mp;have TI:x.kind=1\/x.kind=2\/x.kind=3:=(by have:=KU.out;omega);have HXK:=va TI;clear TI;rcases HXK.out with Nb|Nb|Nb
 ·have xD:((x.kind:Nat):Int)=1:=(by omega);have t1:(((x.kind:Nat):Int)==2)=false:=(by rw[xD];decide);have t2:(((x.kind:Nat):Int)==1)=true:=(by rw[xD];decide);have zF:=va Nb;have hxn:x.n<=1000000:=(by have:=KU.out;omega);have Vi: ∀W,Below w4.heap.size w4 W->au W A x.n x.dat:=fun W hW=>Ld.out.kept (Ja.out.trans ((MS.out.trans (hW.mono AX)).mono (by have:=Ja.out.size;omega)));have HBV4:=va Vi;have OJ:w.heap.size<=w4.heap.size:=(by omega);clear Nb xD Vi;go_upto_region 20 with(fail);go_region_with
   ((
    first
    |(go_at_call 135;refine(uh A x.n c x.dat _ HSO.out hxn (HBV4.out _ ((vz _ _).drew))).mono ?_;rintro e w6 ⟨A6,cd,rfl,BU,Bt⟩;have Bs:Below w4.heap.size w4 w6:=((vz w4.heap.size w4).drew).trans Bt;have y0:=(Bs.cell (p:=⟨w3.heap.size,0,none⟩) l3).trans x0;have y1:=(Bs.cell (p:=⟨w3.heap.size,1,none⟩) l3).trans x1;have y2:=(Bs.cell (p:=⟨w3.heap.size,2,none⟩) l3).trans x2;have y3:=(Bs.cell (p:=⟨w3.heap.size,3,none⟩) l3).trans x3;have y4:=(Bs.cell (p:=⟨w3.heap.size,4,none⟩) l3).trans x4;have y5:=(Bs.cell (p:=⟨w3.heap.size,5,none⟩) l3).trans x5;have y6:=(Bs.cell (p:=⟨w3.heap.size,6,none⟩) l3).trans x6;have y7:=(Bs.cell (p:=⟨w3.heap.size,7,none⟩) l3).trans x7;have QH:=va BU;clear BU Bt)))
  all_goals
   (
  go_upto_region 21 with(fail);obtain⟨w7,yg⟩: ∃w7,w7=w6.alloc (.cells #[.int .u8 (x.kind:Int), .int .u16 (x.mode:Int), .int .u32 (x.uid:Int), .int .u32 (x.gid:Int), .int .i64 (x.n:Int), .int .i64 (N:Int), .pointer (some ⟨ad up,0,none⟩), .string s, .slice A6 x.n cd] 227):=⟨_,rfl⟩;rw[<-yg];have OF:=Bs.size;have CA:w7.heap[w6.heap.size]? =some (.cells #[.int .u8 (x.kind:Int), .int .u16 (x.mode:Int), .int .u32 (x.uid:Int), .int .u32 (x.gid:Int), .int .i64 (x.n:Int), .int .i64 (N:Int), .pointer (some ⟨ad up,0,none⟩), .string s, .slice A6 x.n cd] 227 (0,0)):=(by rw[yg];exact ab w6 _);have Fg:Below w4.heap.size w4 w7:=(by rw[yg];exact Bs.alloc OF _);have MI:=va (QH.out.below (w':=w7) (by rw[yg];exact vc));clear yg y0 y1 y2 y3 y4 y5 y6 y7;have Rj:=Fg.size;have Av:Below w3.heap.size w3 w7:=MS.out.trans (Fg.mono AX);have Fl:=LF.out.below Av;have IP:eS w7 (w6.heap.size) F.length (0) (ad up) (bD x up s):=⟨_,_,(by rw[<-Ea.out];exact CA),(fun e=>absurd (show x.kind=2 from e) (by rw[zF.out];decide)),(fun _ =>⟨rfl,A6,cd,rfl,MI.out.1,MI.out.2.1,MI.out.2.2⟩),(fun e=>absurd (show x.kind=3 from e) (by rw[zF.out];decide))⟩;have TZ:=(uZ LF.out.self).1;have Tn:=jK LF.out.row;have hV:(aZ (ak (F++[bD x up s]) F.length) (upd ad F.length (w6.heap.size) F.length))= .iface 225 (.pointer (some ⟨w6.heap.size,0,none⟩)):=(by
   rw[af];have e:ak (F++[bD x up s]) F.length=x.kind:=(by
    unfold ak;rw[vj (vd _)];simp[bD])
   rw[e,zF.out];rfl)
  have zh:bI w7.drew (mp up) (aH F up) (fun j=>aZ (ak (F++[bD x up s]) j) (upd ad F.length (w6.heap.size) j)):=((Fl.names up FE.out).congr (fun y hy=>(by
   have hl:=(bC hy).1;rw[cI _ hl,ag _ _ (by omega)]))).same rfl
  obtain⟨w8,Fz,LY,zj,LI⟩:=zh.put s F.length Fs.out;have yO:Mod (fun b=>b=mp up) w7 w8:=zj.undrew;have FV:(Instr.mapUpdate 166 (.map (some (mp up))) (.string s) (.iface 225 (.pointer (some ⟨w6.heap.size,0,none⟩)))).run Tryz.prog w7.drew= .ok () w8:=(by rw[<-hV];exact Fz);have z1:w7.cell? ⟨ad up,8,none⟩=some (.map (some (mp up))):=Fl.mapCell FE.out;have z2:w7.cell? ⟨g,m,none⟩=some (.string s):=(Av.cell (p:=⟨g,m,none⟩) xT).trans cg;have zQ:=va Fl;have VS:=va IP;have VR:=va LY;have Ep:=va yO;have Ft:=va Av;have VT:Hid ((bD x up s).kind=2->(∃clk,w7.heap[0]? =some (.map #[] clk))/\B<=0/\ ∀i,ak F i=2->0≠mp i):=va (fun e=>absurd (show x.kind=2 from e) (by rw[zF.out];decide));have Dx:Hid (w6.heap.size≠fs/\w6.heap.size≠nb/\B<=w6.heap.size):=va (by have:=Ja.out.size;exact⟨by omega,by omega,by omega⟩);clear Fl IP LY yO zj Av Fz hV zh LI;go_upto_region 21 with(fail);go_region
  all_goals
   have s8:=(Ep.out.block fs (by have:=Ft.out.size;omega) (fun e=>by
    obtain⟨es,clk,e1⟩:=zQ.out.mapBlock FE.out;have e2:=zQ.out.self;rw[e,e1]at e2;cases e2)).trans zQ.out.self
   have nm:nb≠mp up:=(fun e=>by
    obtain⟨es,clk,e1⟩:=zQ.out.mapBlock FE.out;obtain⟨cs,f,e2⟩:=zQ.out.rowBlock;rw[e,e1]at e2;cases e2)
   have nf:nb≠fs:=(fun e=>by
    obtain⟨cs,f,e2⟩:=zQ.out.rowBlock;have e3:=zQ.out.self;rw[e,e3]at e2;injection e2 with e2;injection e2 with _ e2 _;exact absurd e2 (by decide))
   have r8:=gB zQ.out.row (Ep.out.block nb (jK zQ.out.row) nm);have v1:w8.cell? ⟨fs,0,none⟩=some (.slice (some ⟨nb,0,none⟩) N c2):=(by rw[Ea.out];exact aa s8 0);have v2:=ae s8 0;have lfs8:=(uZ s8).1;have GW:N<=c2:=(by
    obtain⟨cur,_,e3,_⟩:=dY r8;rw[Ea.out];exact e3)
   have VC:=va s8;have DY:=va r8;clear s8 r8 FV z1 z2;go_wp2_with (first
    |(at_builtin;refine uz rfl (.tmp 102) (.tmp 104) rfl nb c2 N F ad Ea.out rfl (World.ownsRow.alloc DY.out _) (.iface 225 (.pointer (some ⟨w6.heap.size,0,none⟩))) rfl w8.heap.size 1 rfl (ab _ _) (by omega) ?_;intro g9 c9 w9 Hx Ei Fi Tz;have s9:=(Ei.block fs (by simp;omega) (by simpa using fun e=>nf (Eq.symm e))).trans ((ve _ _ _ (by omega)).trans VC.out);have v3:=aa s9 0;have v4:=ae s9 0;have HS9:=va s9;have QQ:=va Ei;have VP:=va Hx;have Lg:=va Fi;clear s9 Ei Hx Fi)
    |fail)
   go_ret;obtain⟨Bk,Bj⟩:=lX (y:=bD x up s) (up:=up) zQ.out rfl yL FE.out (by have h9:=QG.out.1;rw[<-HL.out,RU.out]at h9;exact h9) VS.out Dx.out.1 Dx.out.2.1 Dx.out.2.2 VT.out VR.out Ep.out QQ.out (by have h9:=VP.out;have e9:aZ (bD x up s).kind (w6.heap.size)= .iface 225 (.pointer (some ⟨w6.heap.size,0,none⟩)):=(by show aZ x.kind _ =_;rw[zF.out];rfl);rw[e9];exact h9) Lg.out;rw[<-Ea.out]at Bk Bj;have eL:(aq x.path).getLastD ⟨#[]⟩=s:=(by rw[<-HL.out];exact RU.out);refine⟨rfl,⟨g9,c9,upd ad N (w6.heap.size),upd mp N (0),(by rw[eL];exact Bk)⟩,?_⟩;exact(Ja.out.mono hB).trans ((Ft.out.mono (by have:=Ja.out.size;omega)).trans Bj))
 ·have xD:((x.kind:Nat):Int)=2:=(by omega);have t1:(((x.kind:Nat):Int)==2)=true:=(by rw[xD];decide);have zF:=va Nb;have Cx:= @run_makeMap Tryz.prog;clear Nb xD;go_upto_region 21 with(fail);obtain⟨w7,yg⟩: ∃w7,w7=(w4.alloc (.map #[] 0)).alloc (.cells #[.int .u8 (x.kind:Int), .int .u16 (x.mode:Int), .int .u32 (x.uid:Int), .int .u32 (x.gid:Int), .int .i64 (x.n:Int), .int .i64 (N:Int), .pointer (some ⟨ad up,0,none⟩), .string s, .map (some w4.heap.size)] 168):=⟨_,rfl⟩;rw[<-yg];have CA:w7.heap[w4.heap.size+1]? =some (.cells #[.int .u8 (x.kind:Int), .int .u16 (x.mode:Int), .int .u32 (x.uid:Int), .int .u32 (x.gid:Int), .int .i64 (x.n:Int), .int .i64 (N:Int), .pointer (some ⟨ad up,0,none⟩), .string s, .map (some w4.heap.size)] 168 (0,0)):=by
   rw[yg];have e:(w4.alloc (.map #[] 0)).heap.size=w4.heap.size+1:=(by simp);rw[<-e];exact ab _ _
  have Ob:w7.heap[w4.heap.size]? =some (.map #[] 0):=(by rw[yg];exact(ve _ _ _ (by simp)).trans (ab _ _));have Fg:Below w4.heap.size w4 w7:=(by rw[yg];exact vc.alloc (by simp) _);have Nz: ∀i,ak F i=2->mp i<w3.heap.size:=fun i hi=>by
   obtain⟨es,clk,e1⟩:=LF.out.mapBlock hi;exact(uZ e1).1
  have IB:=va Ob;have HMPL:=va Nz;clear yg Cx Ob Nz;have Rj:=Fg.size;have Av:Below w3.heap.size w3 w7:=MS.out.trans (Fg.mono AX);have Fl:=LF.out.below Av;have IP:eS w7 (w4.heap.size+1) F.length (w4.heap.size) (ad up) (bD x up s):=⟨_,_,(by rw[<-Ea.out];exact CA),(fun _ =>⟨rfl,rfl⟩),(fun e=>absurd (show x.kind=1 from e) (by rw[zF.out];decide)),(fun e=>absurd (show x.kind=3 from e) (by rw[zF.out];decide))⟩;have TZ:=(uZ LF.out.self).1;have Tn:=jK LF.out.row;have hV:(aZ (ak (F++[bD x up s]) F.length) (upd ad F.length (w4.heap.size+1) F.length))= .iface 163 (.pointer (some ⟨w4.heap.size+1,0,none⟩)):=(by
   rw[af];have e:ak (F++[bD x up s]) F.length=x.kind:=(by
    unfold ak;rw[vj (vd _)];simp[bD])
   rw[e,zF.out];rfl)
  have zh:bI w7.drew (mp up) (aH F up) (fun j=>aZ (ak (F++[bD x up s]) j) (upd ad F.length (w4.heap.size+1) j)):=((Fl.names up FE.out).congr (fun y hy=>(by
   have hl:=(bC hy).1;rw[cI _ hl,ag _ _ (by omega)]))).same rfl
  obtain⟨w8,Fz,LY,zj,LI⟩:=zh.put s F.length Fs.out;have yO:Mod (fun b=>b=mp up) w7 w8:=zj.undrew;have FV:(Instr.mapUpdate 166 (.map (some (mp up))) (.string s) (.iface 163 (.pointer (some ⟨w4.heap.size+1,0,none⟩)))).run Tryz.prog w7.drew= .ok () w8:=(by rw[<-hV];exact Fz);have z1:w7.cell? ⟨ad up,8,none⟩=some (.map (some (mp up))):=Fl.mapCell FE.out;have z2:w7.cell? ⟨g,m,none⟩=some (.string s):=(Av.cell (p:=⟨g,m,none⟩) xT).trans cg;have zQ:=va Fl;have VS:=va IP;have VR:=va LY;have Ep:=va yO;have Ft:=va Av;have VT:Hid ((bD x up s).kind=2->(∃clk,w7.heap[w4.heap.size]? =some (.map #[] clk))/\B<=w4.heap.size/\ ∀i,ak F i=2->w4.heap.size≠mp i):=va (fun _ =>⟨⟨0,IB.out⟩,(by have:=Ja.out.size;omega),(fun i hi=>by have:=HMPL.out i hi;omega)⟩);have Dx:Hid (w4.heap.size+1≠fs/\w4.heap.size+1≠nb/\B<=w4.heap.size+1):=va (by have:=Ja.out.size;exact⟨by omega,by omega,by omega⟩);clear Fl IP LY yO zj Av Fz hV zh LI;go_upto_region 21 with(fail);go_region
  all_goals
   have s8:=(Ep.out.block fs (by have:=Ft.out.size;omega) (fun e=>by
    obtain⟨es,clk,e1⟩:=zQ.out.mapBlock FE.out;have e2:=zQ.out.self;rw[e,e1]at e2;cases e2)).trans zQ.out.self
   have nm:nb≠mp up:=(fun e=>by
    obtain⟨es,clk,e1⟩:=zQ.out.mapBlock FE.out;obtain⟨cs,f,e2⟩:=zQ.out.rowBlock;rw[e,e1]at e2;cases e2)
   have nf:nb≠fs:=(fun e=>by
    obtain⟨cs,f,e2⟩:=zQ.out.rowBlock;have e3:=zQ.out.self;rw[e,e3]at e2;injection e2 with e2;injection e2 with _ e2 _;exact absurd e2 (by decide))
   have r8:=gB zQ.out.row (Ep.out.block nb (jK zQ.out.row) nm);have v1:w8.cell? ⟨fs,0,none⟩=some (.slice (some ⟨nb,0,none⟩) N c2):=(by rw[Ea.out];exact aa s8 0);have v2:=ae s8 0;have lfs8:=(uZ s8).1;have GW:N<=c2:=(by
    obtain⟨cur,_,e3,_⟩:=dY r8;rw[Ea.out];exact e3)
   have VC:=va s8;have DY:=va r8;clear s8 r8 FV z1 z2;go_wp2_with (first
    |(at_builtin;refine uz rfl (.tmp 102) (.tmp 104) rfl nb c2 N F ad Ea.out rfl (World.ownsRow.alloc DY.out _) (.iface 163 (.pointer (some ⟨w4.heap.size+1,0,none⟩))) rfl w8.heap.size 1 rfl (ab _ _) (by omega) ?_;intro g9 c9 w9 Hx Ei Fi Tz;have s9:=(Ei.block fs (by simp;omega) (by simpa using fun e=>nf (Eq.symm e))).trans ((ve _ _ _ (by omega)).trans VC.out);have v3:=aa s9 0;have v4:=ae s9 0;have HS9:=va s9;have QQ:=va Ei;have VP:=va Hx;have Lg:=va Fi;clear s9 Ei Hx Fi)
    |fail)
   go_ret;obtain⟨Bk,Bj⟩:=lX (y:=bD x up s) (up:=up) zQ.out rfl yL FE.out (by have h9:=QG.out.1;rw[<-HL.out,RU.out]at h9;exact h9) VS.out Dx.out.1 Dx.out.2.1 Dx.out.2.2 VT.out VR.out Ep.out QQ.out (by have h9:=VP.out;have e9:aZ (bD x up s).kind (w4.heap.size+1)= .iface 163 (.pointer (some ⟨w4.heap.size+1,0,none⟩)):=(by show aZ x.kind _ =_;rw[zF.out];rfl);rw[e9];exact h9) Lg.out;rw[<-Ea.out]at Bk Bj;have eL:(aq x.path).getLastD ⟨#[]⟩=s:=(by rw[<-HL.out];exact RU.out);refine⟨rfl,⟨g9,c9,upd ad N (w4.heap.size+1),upd mp N (w4.heap.size),(by rw[eL];exact Bk)⟩,?_⟩;exact(Ja.out.mono hB).trans ((Ft.out.mono (by have:=Ja.out.size;omega)).trans Bj)
 ·have xD:((x.kind:Nat):Int)=3:=(by omega);have t1:(((x.kind:Nat):Int)==2)=false:=(by rw[xD];decide);have t2:(((x.kind:Nat):Int)==1)=false:=(by rw[xD];decide);have zF:=va Nb;clear Nb xD;go_upto_region 21 with(fail);obtain⟨w7,yg⟩: ∃w7,w7=w4.alloc (.cells #[.int .u8 (x.kind:Int), .int .u16 (x.mode:Int), .int .u32 (x.uid:Int), .int .u32 (x.gid:Int), .int .i64 (x.n:Int), .int .i64 (N:Int), .pointer (some ⟨ad up,0,none⟩), .string s, .string x.to] 230):=⟨_,rfl⟩;rw[<-yg];have CA:w7.heap[w4.heap.size]? =some (.cells #[.int .u8 (x.kind:Int), .int .u16 (x.mode:Int), .int .u32 (x.uid:Int), .int .u32 (x.gid:Int), .int .i64 (x.n:Int), .int .i64 (N:Int), .pointer (some ⟨ad up,0,none⟩), .string s, .string x.to] 230 (0,0)):=(by rw[yg];exact ab w4 _);have Fg:Below w4.heap.size w4 w7:=(by rw[yg];exact vc);clear yg;have Rj:=Fg.size;have Av:Below w3.heap.size w3 w7:=MS.out.trans (Fg.mono AX);have Fl:=LF.out.below Av;have IP:eS w7 (w4.heap.size) F.length (0) (ad up) (bD x up s):=⟨_,_,(by rw[<-Ea.out];exact CA),(fun e=>absurd (show x.kind=2 from e) (by rw[zF.out];decide)),(fun e=>absurd (show x.kind=1 from e) (by rw[zF.out];decide)),(fun _ =>⟨rfl,rfl⟩)⟩;have TZ:=(uZ LF.out.self).1;have Tn:=jK LF.out.row;have hV:(aZ (ak (F++[bD x up s]) F.length) (upd ad F.length (w4.heap.size) F.length))= .iface 228 (.pointer (some ⟨w4.heap.size,0,none⟩)):=(by
   rw[af];have e:ak (F++[bD x up s]) F.length=x.kind:=(by
    unfold ak;rw[vj (vd _)];simp[bD])
   rw[e,zF.out];rfl)
  have zh:bI w7.drew (mp up) (aH F up) (fun j=>aZ (ak (F++[bD x up s]) j) (upd ad F.length (w4.heap.size) j)):=((Fl.names up FE.out).congr (fun y hy=>(by
   have hl:=(bC hy).1;rw[cI _ hl,ag _ _ (by omega)]))).same rfl
  obtain⟨w8,Fz,LY,zj,LI⟩:=zh.put s F.length Fs.out;have yO:Mod (fun b=>b=mp up) w7 w8:=zj.undrew;have FV:(Instr.mapUpdate 166 (.map (some (mp up))) (.string s) (.iface 228 (.pointer (some ⟨w4.heap.size,0,none⟩)))).run Tryz.prog w7.drew= .ok () w8:=(by rw[<-hV];exact Fz);have z1:w7.cell? ⟨ad up,8,none⟩=some (.map (some (mp up))):=Fl.mapCell FE.out;have z2:w7.cell? ⟨g,m,none⟩=some (.string s):=(Av.cell (p:=⟨g,m,none⟩) xT).trans cg;have zQ:=va Fl;have VS:=va IP;have VR:=va LY;have Ep:=va yO;have Ft:=va Av;have VT:Hid ((bD x up s).kind=2->(∃clk,w7.heap[0]? =some (.map #[] clk))/\B<=0/\ ∀i,ak F i=2->0≠mp i):=va (fun e=>absurd (show x.kind=2 from e) (by rw[zF.out];decide));have Dx:Hid (w4.heap.size≠fs/\w4.heap.size≠nb/\B<=w4.heap.size):=va (by have:=Ja.out.size;exact⟨by omega,by omega,by omega⟩);clear Fl IP LY yO zj Av Fz hV zh LI;go_upto_region 21 with(fail);go_region
  all_goals
   have s8:=(Ep.out.block fs (by have:=Ft.out.size;omega) (fun e=>by
    obtain⟨es,clk,e1⟩:=zQ.out.mapBlock FE.out;have e2:=zQ.out.self;rw[e,e1]at e2;cases e2)).trans zQ.out.self
   have nm:nb≠mp up:=(fun e=>by
    obtain⟨es,clk,e1⟩:=zQ.out.mapBlock FE.out;obtain⟨cs,f,e2⟩:=zQ.out.rowBlock;rw[e,e1]at e2;cases e2)
   have nf:nb≠fs:=(fun e=>by
    obtain⟨cs,f,e2⟩:=zQ.out.rowBlock;have e3:=zQ.out.self;rw[e,e3]at e2;injection e2 with e2;injection e2 with _ e2 _;exact absurd e2 (by decide))
   have r8:=gB zQ.out.row (Ep.out.block nb (jK zQ.out.row) nm);have v1:w8.cell? ⟨fs,0,none⟩=some (.slice (some ⟨nb,0,none⟩) N c2):=(by rw[Ea.out];exact aa s8 0);have v2:=ae s8 0;have lfs8:=(uZ s8).1;have GW:N<=c2:=(by
    obtain⟨cur,_,e3,_⟩:=dY r8;rw[Ea.out];exact e3)
   have VC:=va s8;have DY:=va r8;clear s8 r8 FV z1 z2;go_wp2_with (first
    |(at_builtin;refine uz rfl (.tmp 102) (.tmp 104) rfl nb c2 N F ad Ea.out rfl (World.ownsRow.alloc DY.out _) (.iface 228 (.pointer (some ⟨w4.heap.size,0,none⟩))) rfl w8.heap.size 1 rfl (ab _ _) (by omega) ?_;intro g9 c9 w9 Hx Ei Fi Tz;have s9:=(Ei.block fs (by simp;omega) (by simpa using fun e=>nf (Eq.symm e))).trans ((ve _ _ _ (by omega)).trans VC.out);have v3:=aa s9 0;have v4:=ae s9 0;have HS9:=va s9;have QQ:=va Ei;have VP:=va Hx;have Lg:=va Fi;clear s9 Ei Hx Fi)
    |fail)
   go_ret;obtain⟨Bk,Bj⟩:=lX (y:=bD x up s) (up:=up) zQ.out rfl yL FE.out (by have h9:=QG.out.1;rw[<-HL.out,RU.out]at h9;exact h9) VS.out Dx.out.1 Dx.out.2.1 Dx.out.2.2 VT.out VR.out Ep.out QQ.out (by have h9:=VP.out;have e9:aZ (bD x up s).kind (w4.heap.size)= .iface 228 (.pointer (some ⟨w4.heap.size,0,none⟩)):=(by show aZ x.kind _ =_;rw[zF.out];rfl);rw[e9];exact h9) Lg.out;rw[<-Ea.out]at Bk Bj;have eL:(aq x.path).getLastD ⟨#[]⟩=s:=(by rw[<-HL.out];exact RU.out);refine⟨rfl,⟨g9,c9,upd ad N (w4.heap.size),upd mp N (0),(by rw[eL];exact Bk)⟩,?_⟩;exact(Ja.out.mono hB).trans ((Ft.out.mono (by have:=Ja.out.size;omega)).trans Bj)
end
section
open Go.RowKit Go.Sort
structure uU (w:World) (x:Ent) (A:Option Addr) (c:Nat):Prop where
 path:x.path.size<=1000000000
 link:x.to.size<=1000000000
 n:x.n<=9223372036854775807
 data:au w A x.n x.dat
 ok:eK A x.n c
variable {w w':World} {x:Ent}
theorem uU.below {A:Option Addr} {c:Nat} (h:uU w x A c) (hb:Below w.heap.size w w'):uU w' x A c:=
 ⟨h.path,h.link,h.n,h.data.kept hb,h.ok⟩
theorem vadd_any (B fs nb c2 c:Nat) (ad mp:Nat->Nat) (F:List Nd) (x:Ent) (A:Option Addr) (w:World) (h:FsIs w B fs nb c2 ad mp F) (hx:uU w x A c) (hB:B<=w.heap.size) (hF:F.length<=1000):
  Calls Tryz.prog 82 #[.pointer (some ⟨fs,0,none⟩),x.val A c] w (ci B fs F x w):=by
 by_cases hm:may x=0
 ·cases ha:atM F 0 (aq x.path)with
  |some j=>exact qA B fs nb c2 c j ad mp F x A w h hx.path hx.link hx.n hB hm hF ha
  |none=>
   cases Ci:atM F 0 (aq x.path).dropLast with
   |none=>exact qB B fs nb c2 c ad mp F x A w h hx.path hx.link hx.n hB hm hF ha Ci
   |some up=>
    by_cases hk:ak F up=2
    ·exact sd B fs nb c2 c up ad mp F x A w h hx.path hx.link hx.n hB hm hF hx.data hx.ok ha Ci hk
    ·exact oo B fs nb c2 c up ad mp F x A w h hx.path hx.link hx.n hB hm hF ha Ci hk
 ·exact vadd_bad B fs nb c2 c ad mp F x A w h hx.path hx.link hx.n hB hm
def EntCells (w:World) (g j:Nat) (x:Ent) (A:Option Addr) (c:Nat):Prop:=
 w.cell? ⟨g,j*7,none⟩=some (.string x.path)/\w.cell? ⟨g,j*7+1,none⟩=some (.int .u8 (x.kind:Int))/\w.cell? ⟨g,j*7+2,none⟩=some (.int .u16 (x.mode:Int))/\w.cell? ⟨g,j*7+3,none⟩=some (.int .u32 (x.uid:Int))/\
 w.cell? ⟨g,j*7+4,none⟩=some (.int .u32 (x.gid:Int))/\w.cell? ⟨g,j*7+5,none⟩=some (.slice A x.n c)/\w.cell? ⟨g,j*7+6,none⟩=some (.string x.to)
def fU (w:World) (P:Option Addr) (l:List Ent):Prop:= ∀(j:Nat) (x:Ent),l[j]? =some x-> ∃g A c,P=some ⟨g,0,none⟩/\g<w.heap.size/\EntCells w g j x A c/\uU w x A c
variable {l:List Ent}
theorem fU.below {P:Option Addr} (h:fU w P l) (hb:Below w.heap.size w w'):fU w' P l:=fun j x hx=>by
 obtain⟨g,A,c,h1,h2,⟨c0,c1,c2,c3,c4,c5,c6⟩,h4⟩:=h j x hx;have hc: ∀i,w'.cell? ⟨g,i,none⟩=w.cell? ⟨g,i,none⟩:=fun i=>hb.cell (p:=⟨g,i,none⟩) h2;refine⟨g,A,c,h1,vh h2 hb.size,⟨?_,?_,?_,?_,?_,?_,?_⟩,h4.below hb⟩
 all_goals(rw[hc];assumption)
variable {F:List Nd} {i:Nat}
theorem nu (h:(addM F x).1=0):newM F i (x::l)=newM (addM F x).2 (i+1) l:=by
 rw[newM,if_neg (by omega)]
theorem fc (h:(addM F x).1≠0):newM F i (x::l)=((addM F x).1,(i:Int),F):=by
 rw[newM,if_pos h]
def dA (l:List Ent) (w:World) (e:Ending) (w':World):Prop:=
 if 64<l.length then e= .returned (.tuple #[.pointer none, .int .i64 15, .int .i64 (-1)])/\Below w.heap.size w w'
 else if(newM [aC] 0 l).1≠0 then e= .returned (.tuple #[.pointer none, .int .i64 (newM [aC] 0 l).1, .int .i64 (newM [aC] 0 l).2.1])/\Below w.heap.size w w'
 else∃fs nb c2 ad mp,e= .returned (.tuple #[.pointer (some ⟨fs,0,none⟩), .int .i64 0, .int .i64 0])/\FsIs w' w.heap.size fs nb c2 ad mp (newM [aC] 0 l).2.2/\Below w.heap.size w w'
theorem fs_root (w:World):FsIs ((((w.alloc (.map #[] 0)).alloc (.cells #[.int .u8 2, .int .u16 493, .int .u32 0, .int .u32 0, .int .i64 0, .int .i64 0, .pointer (some ⟨w.heap.size+1,0,none⟩), .string ⟨#[]⟩, .map (some w.heap.size)] 168)).alloc (.cells #[.iface 163 (.pointer (some ⟨w.heap.size+1,0,none⟩))] 189)).alloc (.cells #[.slice (some ⟨w.heap.size+1+1,0,none⟩) 1 1] 171))
  w.heap.size (w.heap.size+1+1+1) (w.heap.size+1+1) 1 (fun _ =>w.heap.size+1) (fun _ =>w.heap.size) [aC]:=by
 have k0:ak [aC] 0=2:=rfl;have ks: ∀i,ak [aC] i=2->i=0:=fun i h=>by have:=el h (by omega);simp at this;exact this
 obtain⟨w1,yS⟩: ∃w1,w1=w.alloc (.map #[] 0):=⟨_,rfl⟩;obtain⟨w2,wD⟩: ∃w2,w2=w1.alloc (.cells #[.int .u8 2, .int .u16 493, .int .u32 0, .int .u32 0, .int .i64 0, .int .i64 0, .pointer (some ⟨w.heap.size+1,0,none⟩), .string ⟨#[]⟩, .map (some w.heap.size)] 168):=⟨_,rfl⟩;obtain⟨w3,xb⟩: ∃w3,w3=w2.alloc (.cells #[.iface 163 (.pointer (some ⟨w.heap.size+1,0,none⟩))] 189):=⟨_,rfl⟩;rw[<-yS,<-wD,<-xb];have z1:w1.heap.size=w.heap.size+1:=(by rw[yS];simp);have z2:w2.heap.size=w.heap.size+1+1:=(by rw[wD];simp[z1]);have z3:w3.heap.size=w.heap.size+1+1+1:=(by rw[xb];simp[z2]);have p0:w3.heap[w.heap.size]? =some (.map #[] 0):=by
  rw[xb,wD,yS];exact(ve _ _ _ (by simp;omega)).trans ((ve _ _ _ (by simp)).trans (ab _ _))
 have p1:w3.heap[w.heap.size+1]? =some (.cells #[.int .u8 2, .int .u16 493, .int .u32 0, .int .u32 0, .int .i64 0, .int .i64 0, .pointer (some ⟨w.heap.size+1,0,none⟩), .string ⟨#[]⟩, .map (some w.heap.size)] 168 (0,0)):=by
  have h9:=ab w1 (.cells #[.int .u8 2, .int .u16 493, .int .u32 0, .int .u32 0, .int .i64 0, .int .i64 0, .pointer (some ⟨w.heap.size+1,0,none⟩), .string ⟨#[]⟩, .map (some w.heap.size)] 168);rw[z1,<-wD]at h9;rw[xb];exact(ve _ _ _ (by omega)).trans h9
 have p2:w3.heap[w.heap.size+1+1]? =some (.cells #[.iface 163 (.pointer (some ⟨w.heap.size+1,0,none⟩))] 189 (0,0)):=by
  have h9:=ab w2 (.cells #[.iface 163 (.pointer (some ⟨w.heap.size+1,0,none⟩))] 189);rw[z2,<-xb]at h9;exact h9
 have q: ∀b,b<w3.heap.size->(w3.alloc (.cells #[.slice (some ⟨w.heap.size+1+1,0,none⟩) 1 1] 171)).heap[b]? =w3.heap[b]? :=fun b hb=>ve _ _ _ hb;refine⟨FOk.start,?_,⟨rfl, .inr ⟨w.heap.size+1+1,1,_,rfl,vw _,(q _ (by omega)).trans p2,vd _,by decide,rfl,rfl⟩⟩,?_,?_,?_,by omega,by omega,fun _ _ =>by omega,fun _ _ =>by omega⟩
 ·rw[<-z3];exact ab _ _
 ·intro i y hy;cases i with
  |zero=>
   simp at hy;subst hy;exact⟨_,_,(q _ (by omega)).trans p1,(fun _ =>⟨rfl,rfl⟩),(fun e=>by cases e),(fun e=>by cases e)⟩
  |succ i=>simp at hy
 ·intro i hi;obtain rfl:=ks i hi;exact⟨#[],0,(q _ (by omega)).trans p0,⟨by simp,by simp,by simp⟩,rfl⟩
 ·intro i j hi hj _;rw[ks i hi,ks j hj]
theorem pG (P:Option Addr) (n cap:Nat) (l:List Ent) (w:World) (hl:fU w P l) (hn:n=l.length) (wY:n<=cap) (yC:n<=9223372036854775807):
  Calls Tryz.prog 37 #[.slice P n cap] w (dA l w):=by
 by_cases Dp:64<n
 ·have hv: ∀e w',(e= .returned (.tuple #[.pointer none, .int .i64 15, .int .i64 (-1)])/\Below w.heap.size w w')->dA l w e w':=fun e w' h=>by
   unfold dA;rw[if_pos (by omega)];exact h
  have HV:=va hv;clear hv hl hn;go_enter Tryz.func37,Tryz.ntmps37;go_wp2_with fail;go_ret3;exact HV.out _ _ ⟨rfl,vz _ _⟩
 have wJ:=fs_root w;obtain⟨w0,vE⟩: ∃w0,w0=((((w.alloc (.map #[] 0)).alloc (.cells #[.int .u8 2, .int .u16 493, .int .u32 0, .int .u32 0, .int .i64 0, .int .i64 0, .pointer (some ⟨w.heap.size+1,0,none⟩), .string ⟨#[]⟩, .map (some w.heap.size)] 168)).alloc (.cells #[.iface 163 (.pointer (some ⟨w.heap.size+1,0,none⟩))] 189)).alloc (.cells #[.slice (some ⟨w.heap.size+1+1,0,none⟩) 1 1] 171)):=⟨_,rfl⟩;rw[<-vE]at wJ;have vF:Below w.heap.size w w0:=by
  rw[vE];exact((vc.alloc (by simp) _).alloc (by simp;omega) _).alloc (by simp;omega) _
 have vY:=va vE;have wO:=va vF;have Dr:=va wJ;have Eb:=va hn;have Gx:=va hl;have Cx:= @run_makeMap Tryz.prog;clear vF vE wJ hn hl;go_enter Tryz.func37,Tryz.ntmps37;go_upto_region 6 with(fail);rw[<-vY.out];clear Cx;go_wp2_with fail;go_loopw [30] (fun i wr=> ∃k F nb c2 ad mp,k<=n/\i= .int .i64 ((k:Nat):Int)/\FsIs wr w.heap.size (w.heap.size+1+1+1) nb c2 ad mp F/\newM [aC] 0 l=newM F k (l.drop k)/\F.length=k+1/\Below w.heap.size w wr) (fun i _ =>n-(intOf i).toNat)
 case atStart=>exact⟨0,[aC],_,_,_,_,by omega,rfl,Dr.out,rfl,rfl,wO.out⟩
 case round=>
  obtain⟨k,F,nb,c2,ad,mp,hk,rfl,hF,hnew,hlen,xV⟩:=hrel;have HF:=va hF;have yu:=va hnew;have CW:=va hlen;have yp:=va xV;have OJ:=xV.size;clear hF hnew hlen xV;by_cases vH:k<n
  ·obtain⟨x,hx⟩: ∃x,l[k]? =some x:=⟨_,vg (by rw[<-Eb.out];exact vH)⟩;have xv:l.drop k=x::l.drop (k+1):=(List.drop_eq_getElem_cons (by rw[<-Eb.out];exact vH)).trans (by
    obtain⟨h1,h2⟩:=List.getElem?_eq_some_iff.1 hx;rw[h2])
   obtain⟨g,A,c,rfl,hg,⟨c0,c1,c2',c3,c4,c5,c6⟩,hE⟩:=(Gx.out.below yp.out) k x hx;have UZ:=HF.out.below ((vz wr.heap.size wr).alloc (vd _) (.cells #[.string x.path, .int .u8 (x.kind:Int), .int .u16 (x.mode:Int), .int .u32 (x.uid:Int), .int .u32 (x.gid:Int), .slice A x.n c, .string x.to] 93));have vG:=hE.below ((vz wr.heap.size wr).alloc (vd _) (.cells #[.string x.path, .int .u8 (x.kind:Int), .int .u16 (x.mode:Int), .int .u32 (x.uid:Int), .int .u32 (x.gid:Int), .slice A x.n c, .string x.to] 93));have yi:=vadd_any w.heap.size (w.heap.size+1+1+1) nb c2 c ad mp F x A _ UZ vG (by simp;omega) (by have:=CW.out;omega);unfold Ent.val ci at yi;obtain⟨r,hr⟩: ∃r,r=(addM F x).1:=⟨_,rfl⟩;rw[<-hr]at yi;have WS:=va yi;have Gz:=va xv;have yw:Below w.heap.size w (wr.alloc (.cells #[.string x.path, .int .u8 (x.kind:Int), .int .u16 (x.mode:Int), .int .u32 (x.uid:Int), .int .u32 (x.gid:Int), .slice A x.n c, .string x.to] 93)):=yp.out.alloc OJ _;have Dx:=va yw;by_cases BP:r=0
   ·have Rs:(addM F x).1=0:=(by rw[<-hr];exact BP);have Bd:=(mv HF.out.ok Rs).2.1;have yj:=va (show newM [aC] 0 l=newM (addM F x).2 (k+1) (l.drop (k+1)) by rw[yu.out,Gz.out,nu Rs]);have VX:=va (show(addM F x).2.length=k+1+1 by rw[Bd,CW.out]);subst BP;clear hr Rs yi xv hx hE UZ vG yw Bd;go_wp2_with (first
     |(go_at_call 82;refine(WS.out).mono ?_;rintro e w2 ⟨rfl,⟨nb2,c22,ad2,mp2,UY⟩,vM⟩;have HF2:=va UY;have xC:=va (Dx.out.trans vM);clear UY vM)
     |fail)
    go_roundw
    case rel=>exact⟨k+1,_,nb2,c22,ad2,mp2,by omega,by go_num,HF2.out,yj.out,VX.out,xC.out⟩
    case measure=>simp[intOf];omega
   ·have Rs:(addM F x).1≠0:=(by rw[<-hr];exact BP);have vK:(r != 0)=true:=(by rw[bne_iff_ne];exact BP);have yj:=va (show newM [aC] 0 l=(r,(k:Int),F) by rw[yu.out,Gz.out,fc Rs,hr]);have Ds:=va BP;clear hr Rs yi xv hx hE UZ vG yw BP;go_wp2_with (first
     |(go_at_call 82;refine(WS.out).mono ?_;rintro e w2 ⟨rfl,_,vM⟩;have xC:=va (Dx.out.trans vM);clear vM)
     |fail)
    go_ret3;unfold dA;rw[if_neg (by rw[<-Eb.out];exact Dp),yj.out,if_pos Ds.out];exact⟨rfl,xC.out⟩
  ·obtain rfl:k=n:=(by omega);have yj:=va (show newM [aC] 0 l=(0,0,F) by rw[yu.out,List.drop_of_length_le (by rw[Eb.out];exact vd _)];rfl);go_wp2_with fail;go_ret3;unfold dA;rw[if_neg (by rw[<-Eb.out];exact Dp),yj.out,if_neg (by simp)];exact⟨_,nb,c2,ad,mp,rfl,HF.out,yp.out⟩
end
section
open Go.RowKit Go.Sort
theorem fnode_no (B fs nb c2:Nat) (ad mp:Nat->Nat) (F:List Nd) (ino:Int) (w:World) (h:FsIs w B fs nb c2 ad mp F) (hi:ino<0\/(F.length:Int)<=ino):
  Calls Tryz.prog 106 #[.pointer (some ⟨fs,0,none⟩), .int .i64 ino] w fun e w'=>e= .returned .nilIface/\w'=w:=by
 have c0:w.cell? ⟨fs,0,none⟩=some (.slice (some ⟨nb,0,none⟩) F.length c2):=aa h.self 0;obtain⟨N,hN⟩: ∃N,N=F.length:=⟨_,rfl⟩;rw[<-hN]at c0 hi;clear h hN;rcases hi with hi|hi
 ·go_enter Tryz.func106,Tryz.ntmps106;go_wp2_with fail;go_ret;exact⟨rfl,rfl⟩
 ·have yb: ¬ino<0:=(by omega);go_enter Tryz.func106,Tryz.ntmps106;go_wp2_with fail;go_ret;exact⟨rfl,rfl⟩
theorem kl (B fs nb c2 i:Nat) (ad mp:Nat->Nat) (F:List Nd) (w:World) (h:FsIs w B fs nb c2 ad mp F) (hi:i<F.length):
  Calls Tryz.prog 106 #[.pointer (some ⟨fs,0,none⟩), .int .i64 (i:Int)] w fun e w'=>e= .returned (.iface (tyOf (ak F i)) (.pointer (some ⟨ad i,0,none⟩)))/\w'=w:=by
 have c0:w.cell? ⟨fs,0,none⟩=some (.slice (some ⟨nb,0,none⟩) F.length c2):=aa h.self 0;have c1:w.cell? ⟨nb,i,none⟩=some (.iface (tyOf (ak F i)) (.pointer (some ⟨ad i,0,none⟩))):=h.cell hi;obtain⟨v,hv⟩: ∃v,v=Value.iface (tyOf (ak F i)) (.pointer (some ⟨ad i,0,none⟩)):=⟨_,rfl⟩;rw[<-hv]at c1⊢;obtain⟨N,hN⟩: ∃N,N=F.length:=⟨_,rfl⟩;rw[<-hN]at c0 hi;have Ca:(i:Int)<(N:Int):=(by omega);clear h hN hv;go_enter Tryz.func106,Tryz.ntmps106;go_wp2_with fail;go_ret;exact⟨rfl,rfl⟩
theorem rU (k a:Nat) (w:World) (n:Nat) (hn:n=Tryz.prog.types.size+Made.depth):(method n (tyOf k) (.pointer (some ⟨a,0,none⟩)) "hostel/vfs.about").run Tryz.prog w= .ok (229, .pointer (some ⟨a,0,none⟩)) w:=by
 subst hn;unfold tyOf;split
 ·kernel_rfl
 ·split<;>kernel_rfl
def metaV (y:Nd):Value:= .agg #[.int .u8 (y.kind:Int), .int .u16 (y.mode:Int), .int .u32 (y.uid:Int), .int .u32 (y.gid:Int), .int .i64 (y.n:Int)]
theorem gO (B fs nb c2 i:Nat) (ad mp:Nat->Nat) (F:List Nd) (y:Nd) (w:World) (h:FsIs w B fs nb c2 ad mp F) (hy:F[i]? =some y):
  Calls Tryz.prog 64 #[.pointer (some ⟨fs,0,none⟩), .int .i64 (i:Int)] w fun e w'=>e= .returned (.tuple #[metaV y, .int .i64 0])/\Below w.heap.size w w':=by
 obtain⟨w0,vE⟩: ∃w0,w0=w.alloc (.cells #[.int .u8 0, .int .u16 0, .int .u32 0, .int .u32 0, .int .i64 0] 103):=⟨_,rfl⟩;have vF:Below w.heap.size w w0:=(by rw[vE];exact vc);have hM:w0.heap[w.heap.size]? =some (.cells #[.int .u8 0, .int .u16 0, .int .u32 0, .int .u32 0, .int .i64 0] 103 (0,0)):=(by rw[vE];exact ab w _);have hF:=h.below vF;have Ig:=(List.getElem?_eq_some_iff.1 hy).1;obtain⟨T,tail,hN,_⟩:=hF.node i y hy;obtain⟨a,ha⟩: ∃a,a=ad i:=⟨_,rfl⟩;rw[<-ha]at hN;have x0:w0.cell? ⟨a,0,none⟩=some (.int .u8 (y.kind:Int)):=aa hN 0;have x1:w0.cell? ⟨a,1,none⟩=some (.int .u16 (y.mode:Int)):=aa hN 1;have x2:w0.cell? ⟨a,2,none⟩=some (.int .u32 (y.uid:Int)):=aa hN 2;have x3:w0.cell? ⟨a,3,none⟩=some (.int .u32 (y.gid:Int)):=aa hN 3;have x4:w0.cell? ⟨a,4,none⟩=some (.int .i64 (y.n:Int)):=aa hN 4;have y0:w0.cell? ⟨w.heap.size,0,none⟩=some (.int .u8 0):=aa hM 0;have y1:w0.cell? ⟨w.heap.size,1,none⟩=some (.int .u16 0):=aa hM 1;have y2:w0.cell? ⟨w.heap.size,2,none⟩=some (.int .u32 0):=aa hM 2;have y3:w0.cell? ⟨w.heap.size,3,none⟩=some (.int .u32 0):=aa hM 3;have y4:w0.cell? ⟨w.heap.size,4,none⟩=some (.int .i64 0):=aa hM 4;have z0:=ae hM 0;have z1:=ae hM 1;have z2:=ae hM 2;have z3:=ae hM 3;have z4:=ae hM 4;have vH:=(uZ hM).1;have As: ∀W,W=w0->Calls Tryz.prog 106 #[.pointer (some ⟨fs,0,none⟩), .int .i64 (i:Int)] W fun e w'=>e= .returned (.iface (tyOf (ak F i)) (.pointer (some ⟨a,0,none⟩)))/\W=w':=fun W hW=>by
  subst hW;rw[ha];exact(kl B fs nb c2 i ad mp F _ hF Ig).mono fun e w' ⟨h1,h2⟩=>⟨h1,h2.symm⟩
 obtain⟨k,hk⟩: ∃k,k=ak F i:=⟨_,rfl⟩;rw[<-hk]at As;have Hi:=va As;have vY:=va vE;clear h hF vE hM hN As ha hk hy Ig;go_enter Tryz.func64,Tryz.ntmps64;go_upto_region 1 with(fail);rw[<-vY.out];go_wp2_with (first
  |(go_at_call 106;refine(Hi.out _ rfl).mono ?_;rintro e w1 ⟨rfl,rfl⟩)
  |fail)
 rw[rU _ _ _ _ (by kernel_rfl)];simp only[Result.andThen];rw[pa,Oper.upon_enter];refine(uF a _).mono ?_;rintro e w2 ⟨rfl,rfl⟩;go_wp2_with fail;have vD:w.heap.size<=w.heap.size:=vd _;exact bodyPost_ret (v:= .tuple #[.agg #[.int .u8 (y.kind:Int), .int .u16 (y.mode:Int), .int .u32 (y.uid:Int), .int .u32 (y.gid:Int), .int .i64 (y.n:Int)], .int .i64 0]) (by simp[results,Tryz.results64,go_sem,vH,y0,y1,y2,y3,y4,z0,z1,z2,z3,z4]) rfl ⟨rfl,((((vF.setCell vD _).setCell vD _).setCell vD _).setCell vD _).setCell vD _⟩
theorem qm (B fs nb c2:Nat) (ad mp:Nat->Nat) (F:List Nd) (ino:Int) (w:World) (h:FsIs w B fs nb c2 ad mp F) (hi:ino<0\/(F.length:Int)<=ino):
  Calls Tryz.prog 64 #[.pointer (some ⟨fs,0,none⟩), .int .i64 ino] w fun e w'=>e= .returned (.tuple #[.agg #[.int .u8 0, .int .u16 0, .int .u32 0, .int .u32 0, .int .i64 0], .int .i64 3])/\Below w.heap.size w w':=by
 obtain⟨w0,vE⟩: ∃w0,w0=w.alloc (.cells #[.int .u8 0, .int .u16 0, .int .u32 0, .int .u32 0, .int .i64 0] 103):=⟨_,rfl⟩;have vF:Below w.heap.size w w0:=(by rw[vE];exact vc);have hM:w0.heap[w.heap.size]? =some (.cells #[.int .u8 0, .int .u16 0, .int .u32 0, .int .u32 0, .int .i64 0] 103 (0,0)):=(by rw[vE];exact ab w _);have hF:=h.below vF;have y0:w0.cell? ⟨w.heap.size,0,none⟩=some (.int .u8 0):=aa hM 0;have y1:w0.cell? ⟨w.heap.size,1,none⟩=some (.int .u16 0):=aa hM 1;have y2:w0.cell? ⟨w.heap.size,2,none⟩=some (.int .u32 0):=aa hM 2;have y3:w0.cell? ⟨w.heap.size,3,none⟩=some (.int .u32 0):=aa hM 3;have y4:w0.cell? ⟨w.heap.size,4,none⟩=some (.int .i64 0):=aa hM 4;have z0:=ae hM 0;have z1:=ae hM 1;have z2:=ae hM 2;have z3:=ae hM 3;have z4:=ae hM 4;have vH:=(uZ hM).1;have As: ∀W,W=w0->Calls Tryz.prog 106 #[.pointer (some ⟨fs,0,none⟩), .int .i64 ino] W fun e w'=>e= .returned .nilIface/\W=w':=fun W hW=>by
  subst hW;exact(fnode_no B fs nb c2 ad mp F ino _ hF hi).mono fun e w' ⟨h1,h2⟩=>⟨h1,h2.symm⟩
 have Hi:=va As;have vY:=va vE;clear h hF vE hM As hi;go_enter Tryz.func64,Tryz.ntmps64;go_upto_region 1 with(fail);rw[<-vY.out];go_wp2_with (first
  |(go_at_call 106;refine(Hi.out _ rfl).mono ?_;rintro e w1 ⟨rfl,rfl⟩)
  |fail)
 have vD:w.heap.size<=w.heap.size:=vd _;exact bodyPost_ret (v:= .tuple #[.agg #[.int .u8 0, .int .u16 0, .int .u32 0, .int .u32 0, .int .i64 0], .int .i64 3]) (by simp[results,Tryz.results64,go_sem,vH,y0,y1,y2,y3,y4,z0,z1,z2,z3,z4]) rfl ⟨rfl,((((vF.setCell vD _).setCell vD _).setCell vD _).setCell vD _).setCell vD _⟩
end
section
open Go.RowKit Go.Sort
theorem uw (v:Value) (w:World):(Instr.typeAssert (.iface 163 v) 189 225 true).run Tryz.prog w= .ok (.tuple #[.pointer none, .bool false]) w:=by kernel_rfl
theorem uv (v:Value) (w:World):(Instr.typeAssert (.iface 228 v) 189 225 true).run Tryz.prog w= .ok (.tuple #[.pointer none, .bool false]) w:=by kernel_rfl
theorem iV (k a:Nat) (w:World):(Instr.typeAssert (.iface (tyOf k) (.pointer (some ⟨a,0,none⟩))) 189 225 true).run Tryz.prog w= .ok (.tuple #[if k=1 then .pointer (some ⟨a,0,none⟩)else .pointer none, .bool (decide (k=1))]) w:=by
 unfold tyOf;by_cases h2:k=2
 ·subst h2;exact uw _ w
 ·rw[if_neg h2];by_cases h1:k=1
  ·subst h1;exact po _ w
  ·rw[if_neg h1,if_neg h1,vq h1];exact uv _ w
def ja (F:List Nd) (ino:Int) (off:Nat):Int×Nat×(Nat->Nat):=
 if ino<0\/(F.length:Int)<=ino then(3,0,fun _ =>0)
 else match F[ino.toNat]? with
  |none=>(3,0,fun _ =>0)
  |some y=>if y.kind=2 then(9,0,fun _ =>0)else if y.kind=1 then(0,min 4096 (y.n-off),fun i=>y.dat (off+i))else(1,0,fun _ =>0)
def eM (w:World) (r:Int×Nat×(Nat->Nat)) (e:Ending) (w':World):Prop:=
 ∃A cap,e= .returned (.tuple #[.slice A r.2.1 cap, .int .i64 r.1])/\au w' A r.2.1 r.2.2/\(∀x,A=some x->0<r.2.1->w.heap.size<=x.block)/\Below w.heap.size w w'/\OwnB w' w.heap.size A cap r.2.1 r.2.2
theorem jk (w:World) (base:Nat) (d:Nat->Nat):OwnB w base none 0 0 d:=⟨rfl, .inl ⟨rfl,rfl⟩⟩
variable {w:World}
theorem th {base:Nat} (d:Nat->Nat) (h:base<=w.heap.size):OwnB (w.alloc (.cells #[] 5)) base (some ⟨w.heap.size,0,none⟩) 0 0 d:=((OwnB.none_made w).lower h).congr fun i hi=>absurd hi (by omega)
theorem fread_no (B fs nb c2 off:Nat) (ad mp:Nat->Nat) (F:List Nd) (ino:Int) (w:World) (h:FsIs w B fs nb c2 ad mp F) (hi:ino<0\/(F.length:Int)<=ino):
  Calls Tryz.prog 233 #[.pointer (some ⟨fs,0,none⟩), .int .i64 ino, .int .i64 (off:Int), .int .i64 4096] w (eM w (3,0,fun _ =>0)):=by
 have hm:=qm B fs nb c2 ad mp F ino w h hi;have HM:=va hm;clear hm h hi;go_enter Tryz.func233,Tryz.ntmps233;go_wp2_with fail;refine(HM.out).mono ?_;rintro e w1 ⟨rfl,vD⟩;go_wp2_with fail;go_ret2;exact⟨none,0,rfl,(fun h=>by cases h),(fun x hx=>by cases hx),vD.trans (vc.mono vD.size),jk _ _ _⟩
theorem tQ (B fs nb c2 off i:Nat) (ad mp:Nat->Nat) (F:List Nd) (y:Nd) (w:World) (h:FsIs w B fs nb c2 ad mp F) (hy:F[i]? =some y) (hk:y.kind=2):
  Calls Tryz.prog 233 #[.pointer (some ⟨fs,0,none⟩), .int .i64 (i:Int), .int .i64 (off:Int), .int .i64 4096] w (eM w (9,0,fun _ =>0)):=by
 have hm:=gO B fs nb c2 i ad mp F y w h hy;unfold metaV at hm;rw[hk]at hm;have HM:=va hm;clear hm h hy hk;go_enter Tryz.func233,Tryz.ntmps233;go_wp2_with fail;refine(HM.out).mono ?_;rintro e w1 ⟨rfl,vD⟩;go_wp2_with fail;go_ret2;exact⟨none,0,rfl,(fun h=>by cases h),(fun x hx=>by cases hx),vD.trans (vc.mono vD.size),jk _ _ _⟩
theorem rE (B fs nb c2 off i:Nat) (ad mp:Nat->Nat) (F:List Nd) (y:Nd) (w:World) (h:FsIs w B fs nb c2 ad mp F) (hy:F[i]? =some y) (hk:y.kind=3):
  Calls Tryz.prog 233 #[.pointer (some ⟨fs,0,none⟩), .int .i64 (i:Int), .int .i64 (off:Int), .int .i64 4096] w (eM w (1,0,fun _ =>0)):=by
 have Ig:=(List.getElem?_eq_some_iff.1 hy).1;have hm:=gO B fs nb c2 i ad mp F y w h hy;unfold metaV at hm;rw[hk]at hm;have IK:=ga hy;rw[hk]at IK;have Xj:=fun W=>iV 3 (ad i) W;have Fx: ∀W,Below w.heap.size w W->Calls Tryz.prog 106 #[.pointer (some ⟨fs,0,none⟩), .int .i64 (i:Int)] W fun e w'=>e= .returned (.iface (tyOf 3) (.pointer (some ⟨ad i,0,none⟩)))/\w'=W:=fun W hW=>by
  have h9:=kl B fs nb c2 i ad mp F W (h.below hW) Ig;rw[IK]at h9;exact h9
 have HM:=va hm;have Hi:=va Fx;rw[if_neg (by decide),vq (by decide)]at Xj;clear hm h hy hk Ig Fx IK;go_enter Tryz.func233,Tryz.ntmps233;go_wp2_with fail;refine(HM.out).mono ?_;rintro e w1 ⟨rfl,vD⟩;have Im:Below w.heap.size w (w1.alloc (.cells #[.int .u8 3, .int .u16 (y.mode:Int), .int .u32 (y.uid:Int), .int .u32 (y.gid:Int), .int .i64 (y.n:Int)] 103)):=vD.trans (vc.mono vD.size);have Et:=va Im;clear Im;go_wp2_with (first
  |(go_at_call 106;refine(Hi.out _ Et.out).mono ?_;rintro e w3 ⟨rfl,rfl⟩)
  |fail)
 go_ret2;exact⟨none,0,rfl,(fun h=>by cases h),(fun x hx=>by cases hx),Et.out,jk _ _ _⟩
theorem rF (B fs nb c2 off i:Nat) (ad mp:Nat->Nat) (F:List Nd) (y:Nd) (w:World) (h:FsIs w B fs nb c2 ad mp F) (hy:F[i]? =some y) (hk:y.kind=1) (hp:off<=65536):
  Calls Tryz.prog 233 #[.pointer (some ⟨fs,0,none⟩), .int .i64 (i:Int), .int .i64 (off:Int), .int .i64 4096] w (eM w (0,min 4096 (y.n-off),fun j=>y.dat (off+j))):=by
 have Ig:=(List.getElem?_eq_some_iff.1 hy).1;have hm:=gO B fs nb c2 i ad mp F y w h hy;unfold metaV at hm;rw[hk]at hm;have IK:=ga hy;rw[hk]at IK;obtain⟨a,ha⟩: ∃a,a=ad i:=⟨_,rfl⟩;have Xj:=fun W=>iV 1 a W;have Fx: ∀W,Below w.heap.size w W->Calls Tryz.prog 106 #[.pointer (some ⟨fs,0,none⟩), .int .i64 (i:Int)] W fun e w'=>e= .returned (.iface (tyOf 1) (.pointer (some ⟨a,0,none⟩)))/\w'=W:=fun W hW=>by
  have h9:=kl B fs nb c2 i ad mp F W (h.below hW) Ig;rw[IK,<-ha]at h9;exact h9
 have hn:=(h.ok.each i y hy).few;obtain⟨n,YC⟩: ∃n,n=y.n:=⟨_,rfl⟩;obtain⟨T,tail,hN,_,h1,_⟩:=h.node i y hy;obtain⟨_,A,cd,rfl,hA,hAg,Fa,OU⟩:=h1 hk;rw[<-ha,<-YC]at hN;rw[<-YC]at hm hA Fa OU hn⊢;rw[if_pos rfl,vr rfl]at Xj;have CO: ∀x,A=some x->x.block<w.heap.size:=fun x hx=>by
  obtain⟨g,cs,f,e,hg⟩:=hAg x hx;subst e;exact(uZ hg).1
 have hau:a<w.heap.size:=(uZ hN).1;have xn:A=none\/ ∃g,A=some ⟨g,0,none⟩:=by
  cases A with
  |none=>exact .inl rfl
  |some x=>obtain⟨g,cs,f,e,hg⟩:=hAg x rfl;exact .inr ⟨g,by rw[e]⟩
 have HM:=va hm;have Hi:=va Fx;have HN:=va hN;have HA:=va hA;have Re:=va CO;clear hm h hy hk Ig Fx IK hN hA CO h1 hAg ha YC;by_cases yC:n<=off
 ·have i2:min (off:Int) (n:Int)=(n:Int):=(by omega);have i3:min (4096:Int) 0=0:=(by omega);have yJ:min 4096 (n-off)=0:=(by omega);rw[yJ];unfold eM;clear yJ;go_enter Tryz.func233,Tryz.ntmps233;go_wp2_with fail;refine(HM.out).mono ?_;rintro e w1 ⟨rfl,vD⟩;obtain⟨w2,wD⟩: ∃w2,w2=w1.alloc (.cells #[.int .u8 1, .int .u16 (y.mode:Int), .int .u32 (y.uid:Int), .int .u32 (y.gid:Int), .int .i64 (n:Int)] 103):=⟨_,rfl⟩;have vM:Below w1.heap.size w1 w2:=(by rw[wD];exact vc);have hM:w2.heap[w1.heap.size]? =some (.cells #[.int .u8 1, .int .u16 (y.mode:Int), .int .u32 (y.uid:Int), .int .u32 (y.gid:Int), .int .i64 (n:Int)] 103 (0,0)):=(by rw[wD];exact ab _ _);have Im:Below w.heap.size w w2:=vD.trans (vM.mono vD.size);have x8:w2.cell? ⟨a,8,none⟩=some (.slice _ n cd):=(Im.cell (p:=⟨a,8,none⟩) hau).trans (aa HN.out 8);have m0:w2.cell? ⟨w1.heap.size,0,none⟩=some (.int .u8 1):=aa hM 0;have CT:=va wD;have Et:=va Im;clear wD hM vM Im;rcases xn with rfl|⟨g,rfl⟩
  ·have JM:=OU rfl;have x9:w2.cell? ⟨a,8,none⟩=some (.slice none 0 0):=(by rw[x8,JM.1,JM.2]);have i5:min (off:Int) 0=0:=(by omega);clear x8 JM i2;go_upto_region 2 with(fail);rw[<-CT.out];go_wp2_with (first
    |(go_at_call 106;refine(Hi.out _ Et.out).mono ?_;rintro e w3 ⟨rfl,rfl⟩)
    |fail)
   go_region_held3 (fun w'=>w'.cell? ⟨a,8,none⟩=some (.slice none 0 0)) (go_keep) (fail);go_wp2_with fail
   all_goals
    refine(gV _).mono ?_;rintro e w5 ⟨rfl,rfl⟩;go_wp2_with fail;go_ret2;exact⟨none,0,rfl,fun h=>absurd h (by omega),fun x hx=>(by cases hx),Et.out.trans (((vz _ _).drew).mono Et.out.size),jk _ _ _⟩
  ·go_upto_region 2 with(fail);rw[<-CT.out];go_wp2_with (first
    |(go_at_call 106;refine(Hi.out _ Et.out).mono ?_;rintro e w3 ⟨rfl,rfl⟩)
    |fail)
   go_region_held3 (fun w'=>w'.cell? ⟨a,8,none⟩=some (.slice (some ⟨g,0,none⟩) n cd)) (go_keep) (fail);go_wp2_with fail
   all_goals
    refine(kw _ _ _).mono ?_;rintro e w5 ⟨rfl,rfl⟩;go_wp2_with fail;go_ret2;exact⟨_,0,rfl,fun h=>absurd h (by omega),fun x hx h=>absurd h (by omega),Et.out.trans (((vz _ _).drew.trans vc).mono Et.out.size),th _ Et.out.size⟩
 ·obtain⟨k,hk⟩: ∃k:Nat,k=min 4096 (n-off):=⟨_,rfl⟩;obtain⟨g,rfl⟩: ∃g,A=some ⟨g,0,none⟩:=by
   rcases xn with rfl|h9
   ·have:=OU rfl;omega
   ·exact h9
  have yJ:0<k:=(by omega);have hkf:k<=4096:=(by omega);have i0:(off:Int)<=(n:Int):=(by omega);have i1:off<cd:=(by omega);have i2:min (off:Int) (n:Int)=(off:Int):=(by omega);have i3:min (4096:Int) ((n-off:Nat):Int)=(k:Int):=(by omega);have i4:(k:Int)<=((n-off:Nat):Int):=(by omega);unfold eM;rw[<-hk];go_enter Tryz.func233,Tryz.ntmps233;go_wp2_with fail;refine(HM.out).mono ?_;rintro e w1 ⟨rfl,vD⟩;obtain⟨w2,wD⟩: ∃w2,w2=w1.alloc (.cells #[.int .u8 1, .int .u16 (y.mode:Int), .int .u32 (y.uid:Int), .int .u32 (y.gid:Int), .int .i64 (n:Int)] 103):=⟨_,rfl⟩;have vM:Below w1.heap.size w1 w2:=(by rw[wD];exact vc);have hM:w2.heap[w1.heap.size]? =some (.cells #[.int .u8 1, .int .u16 (y.mode:Int), .int .u32 (y.uid:Int), .int .u32 (y.gid:Int), .int .i64 (n:Int)] 103 (0,0)):=(by rw[wD];exact ab _ _);have Im:Below w.heap.size w w2:=vD.trans (vM.mono vD.size);have x8:w2.cell? ⟨a,8,none⟩=some (.slice _ n cd):=(Im.cell (p:=⟨a,8,none⟩) hau).trans (aa HN.out 8);have m0:w2.cell? ⟨w1.heap.size,0,none⟩=some (.int .u8 1):=aa hM 0;have CT:=va wD;have Et:=va Im;clear wD hM vM Im;have GP:g<w.heap.size:=Re.out _ rfl;have TP:g<w2.heap.size:=vh GP Et.out.size;have Iu:au w2 (some ⟨g,off,none⟩) k (fun j=>y.dat (off+j)):=by
   intro _;refine⟨_,rfl,fun j hj=>?_⟩;obtain⟨x,h1,h2⟩:=(HA.out.below Et.out Re.out) (by omega);injection h1 with h1;subst h1;have h3:=h2 (off+j) (by omega);rw[Addr.add_mid]at h3⊢;rw[Nat.zero_add]at h3;exact h3
  have Rh:=va Iu;clear Iu hk xn;go_upto_region 2 with(fail);rw[<-CT.out];go_wp2_with (first
   |(go_at_call 106;refine(Hi.out _ Et.out).mono ?_;rintro e w3 ⟨rfl,rfl⟩)
   |fail)
  go_region_held3 (fun w'=>w'.cell? ⟨a,8,none⟩=some (.slice (some ⟨g,0,none⟩) n cd)) (go_keep) (fail);go_wp2_with fail;have NL:Below w3.heap.size w3 w3.drew:=(vz _ _).drew;refine(ky k (cd-off) ⟨g,off,none⟩ (fun j=>y.dat (off+j)) _ yJ (by omega) (Rh.out.below NL (fun x hx=>by injection hx with hx;subst hx;exact TP)) TP).mono ?_;rintro e w5 ⟨g5,zE,rfl,yG,zZ⟩;have Cb:=yG.form.1;have Zi:w.heap.size<=g5:=vx Et.out.size Cb;have CE:=va yG;clear yG Cb;go_wp2_with fail;go_ret2;exact⟨_,zE,rfl,CE.out.v,(fun x hx _ =>by injection hx with hx;subst hx;exact Zi),Et.out.trans ((NL.trans zZ).mono Et.out.size),CE.out.lower Et.out.size⟩
theorem tR (B fs nb c2 off:Nat) (ad mp:Nat->Nat) (F:List Nd) (ino:Int) (w:World) (h:FsIs w B fs nb c2 ad mp F) (hp:off<=65536):
  Calls Tryz.prog 233 #[.pointer (some ⟨fs,0,none⟩), .int .i64 ino, .int .i64 (off:Int), .int .i64 4096] w (eM w (ja F ino off)):=by
 unfold ja;by_cases hi:ino<0\/(F.length:Int)<=ino
 ·rw[if_pos hi];exact fread_no B fs nb c2 off ad mp F ino w h hi
 ·rw[if_neg hi];obtain⟨i,rfl⟩: ∃i:Nat,ino=(i:Int):=⟨ino.toNat,by omega⟩;have Ig:i<F.length:=(by omega);rw[Int.toNat_natCast];obtain⟨y,hy,_⟩:=kX Ig;rw[hy];have hk:=(h.ok.each i y hy).kind;simp only;rcases(by omega:y.kind=2\/y.kind=1\/y.kind=3)with e|e|e
  ·rw[if_pos e];exact tQ B fs nb c2 off i ad mp F y w h hy e
  ·rw[if_neg (by omega),if_pos e];exact rF B fs nb c2 off i ad mp F y w h hy e hp
  ·rw[if_neg (by omega),if_neg (by omega)];exact rE B fs nb c2 off i ad mp F y w h hy e
theorem read_is {B fs nb c2 off:Nat} {ad mp:Nat->Nat} {F:List Nd} {ino:Int} (h:FsIs w B fs nb c2 ad mp F) (hp:off<=65536):nW w fs ino (off:Int) (ja F ino off).1 (ja F ino off).2.1 (ja F ino off).2.2:=
 (tR B fs nb c2 off ad mp F ino w h hp).mono fun e w' ⟨A,cap,h1,h2,h3,h4,_⟩=>⟨A,cap,h1,h2,h3,h4⟩
end
