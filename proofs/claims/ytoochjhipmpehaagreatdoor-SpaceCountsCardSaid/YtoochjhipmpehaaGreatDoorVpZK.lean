/- Files: node, Meta and Read of the one file. -/
import Derived.Test.YtoochjhipmpehaaGreatDoorCaZK
import Derived.Test.YtoochjhipmpehaaGreatDoorVpYK
import Derived.Lib.MinMax
set_option linter.unusedVariables false
set_option linter.unusedSimpArgs false
set_option maxRecDepth 100000
set_option maxHeartbeats 4000000
namespace Go.Proofs.YtoochjhipmpehaaGreatDoor
section
open Go.RowKit Go.Sort
theorem uT (x:Nat) (w:World):Calls Tryz.prog 229 #[.pointer (some ⟨x,0,none⟩)] w fun e w'=>e= .returned (.pointer (some ⟨x,0,none⟩))/\w'=w:=by
 go_enter Tryz.func229,Tryz.ntmps229;go_wp2_with fail;go_ret;exact⟨rfl,rfl⟩
theorem oU (v:Value) (w:World):(callFunc 229 #[v]).run Tryz.prog w= .ok (.enter 229 #[v]) w:=by kernel_rfl
end
section
open Go.RowKit Go.Sort
variable {p p':Pool} {L L':List Slot} {f:Nat}
theorem ax.live (h:ax p L 0 f p' L'):f<p'.n/\p'.cnt f=1/\p'.dat f=fun _ =>0:=by
 cases h with
 |free f h1=>exact⟨(cC h1).1,af _ _ _,af _ _ _⟩
 |loose s h1 h2 h3=>exact⟨h3,af _ _ _,af _ _ _⟩
theorem ax.duo {r:Int} (h:ax p L r f p' L'):r=0\/(r=4/\f=0/\p'=p/\L'=L):=by
 cases h
 ·exact .inl rfl
 ·exact .inl rfl
 ·exact .inr ⟨rfl,rfl,rfl,rfl⟩
theorem iK (w:World) (m:Nat) (o:Obj):Mod (fun b=>b=m) w (Go.ChangeMaps.setBlock w.drew m o):=by
 refine⟨rfl,rfl,rfl,?_,fun b hb wg=>?_⟩
 ·show w.heap.size<=(w.heap.setIfInBounds m o).size;simp
 ·show(w.heap.setIfInBounds m o)[b]? =_;exact Array.getElem?_setIfInBounds_ne (fun e=>wg e.symm)
variable {w:World} {c a fs m:Nat} {clock:Int}
theorem aH.tick {v:Int} (h:aH w c a fs m clock):aH (w.setCell ⟨c,3,none⟩ (.int .i64 v)) c a fs m v:=by
 have h1:=Joins.block_setCell (i:=3) h (.int .i64 v);simpa [aH]using h1
variable {S:Nat->Prop}
theorem au.c0 (h:au w S c a fs m clock p L):c≠0:=by
 intro e;subst e;have h1:=h.pool.tab 0 (by decide);have h2:w.cell? ⟨0,0,none⟩=some (.pointer (some ⟨a,0,none⟩)):=aa h.self 0;rw[h2]at h1;cases h1
variable {w':World} {n:Nat} {A:Option Addr} {d:Nat->Nat}
theorem av.kept (h:av w A n d) (hb:Below w.heap.size w w'):av w' A n d:=fun h0=>by
 obtain⟨ad,e,hc⟩:=h h0;refine⟨ad,e,fun j hj=>?_⟩;rw[<-hc j hj];exact hb.cell (World.block_lt_of_cell? _ _ (hc j hj))
theorem av.mod {X:Nat->Prop} (h:av w A n d) (hm:Mod X w w') (hA: ∀ad,A=some ad->0<n-> ¬X ad.block):av w' A n d:=fun h0=>by
 obtain⟨ad,e,hc⟩:=h h0;refine⟨ad,e,fun j hj=>?_⟩;rw[<-hc j hj];have hl:=World.block_lt_of_cell? _ _ (hc j hj);have FR:(ad.add j).block=ad.block:=by unfold Addr.add;split<;>rfl
 rw[FR]at hl;have hh:w'.heap[(ad.add j).block]? =w.heap[(ad.add j).block]? :=(by rw[FR];exact hm.block _ hl (hA ad e h0));exact World.cell?_of_block hh
def nN (w:World) (fs:Nat) (ino off r0:Int) (k:Nat) (d:Nat->Nat):Prop:=
 Calls Tryz.prog 233 #[.pointer (some ⟨fs,0,none⟩), .int .i64 ino, .int .i64 off, .int .i64 4096] w
  fun e w'=> ∃A cap,e= .returned (.tuple #[.slice A k cap, .int .i64 r0])/\av w' A k d/\(∀ad,A=some ad->0<k->w.heap.size<=ad.block)/\Below w.heap.size w w'
def dN (w:World) (S:Nat->Prop) (c a fs m:Nat) (ino page r0:Int) (k:Nat) (d:Nat->Nat) (clock:Int) (p:Pool) (L:List Slot) (e:Ending) (w':World):Prop:=
 ∃r f p' L' vQ S',e= .returned (.tuple #[.int .i64 (f:Nat), .int .i64 r])/\au w' S' c a fs m vQ p' L'/\Mod (fun b=>S b\/b=m\/b=c) w w'/\Out S S' w/\dz ino page r0 k d p L clock r f p' L' vQ
variable {w3:World} {bh:Nat}
theorem dN.mod (hb:Below w.heap.size w w3) (hm:Mod (fun b=>b=m\/b=c\/b=bh) w3 w') (hz:w.heap.size<=bh):Mod (fun b=>S b\/b=m\/b=c) w w':=by
 have h1:=(Mod.of (S:=fun b=>b=m\/b=c\/b=bh) hb).trans (Out.refl _ _) hm;exact⟨h1.os,h1.tape,h1.output,h1.size,fun b hb hn=>h1.block b hb (fun e=>hn (.inr (by omega)))⟩
theorem dN.mod2 {w4 w5 w6:World} {S1:Nat->Prop} (h3:Below w.heap.size w w3) (h4:Mod (Both S m) w3 w4) (ho:Out S S1 w3) (h5:Mod S1 w4 w5) (h6:Mod (fun b=>b=bh) w5 w6) (h7:Mod (fun b=>b=m\/b=c\/b=bh) w6 w') (hz:w.heap.size<=bh):Mod (fun b=>S b\/b=m\/b=c) w w':=by
 have yk:=h3.size;have h1:Mod (fun b=>S b\/b=m\/b=c\/w.heap.size<=b) w w':=(Mod.of h3).trans (Out.refl _ _) ((h4.sub fun b hb=>hb.elim .inl fun e=> .inr (.inl e)).trans (Out.refl _ _) ((h5.sub fun b hb=>(ho b hb).elim .inl fun e=> .inr (.inr (.inr (by omega)))).trans (Out.refl _ _) ((h6.sub fun b hb=> .inr (.inr (.inr (by omega)))).trans (Out.refl _ _) (h7.sub fun b hb=>by
  rcases hb with e|e|e
  ·exact .inr (.inl e)
  ·exact .inr (.inr (.inl e))
  ·exact .inr (.inr (.inr (by omega)))))))
 exact⟨h1.os,h1.tape,h1.output,h1.size,fun b hb hn=>h1.block b hb (fun e=>hn (by
  rcases e with e|e|e|e
  ·exact .inl e
  ·exact .inr (.inl e)
  ·exact .inr (.inr e)
  ·omega))⟩
theorem get_bad (c a fs m k:Nat) (ino page r0 clock:Int) (d:Nat->Nat) (w:World) (S:Nat->Prop) (p:Pool) (L:List Slot) (h:au w S c a fs m clock p L) (zh:page<0\/16<=page):
  Calls Tryz.prog 232 #[.pointer (some ⟨c,0,none⟩), .int .i64 ino, .int .i64 page] w (dN w S c a fs m ino page r0 k d clock p L):=by
 have H:=vp h;have HB:=vp zh;clear h;by_cases h0:page<0
 ·clear zh;go_enter Tryz.func232,Tryz.ntmps232;go_wp2_with fail;go_ret2;exact⟨1,0,p,L,clock,S,rfl,H.out,Mod.refl _ _,Out.refl _ _, .bad HB.out⟩
 ·have h1:16<=page:=(by omega);clear zh;go_enter Tryz.func232,Tryz.ntmps232;go_wp2_with fail;go_ret2;exact⟨1,0,p,L,clock,S,rfl,H.out,Mod.refl _ _,Out.refl _ _, .bad HB.out⟩
theorem get_err (c a fs m k:Nat) (ino page r0 clock:Int) (d:Nat->Nat) (w:World) (S:Nat->Prop) (p:Pool) (L:List Slot) (h:au w S c a fs m clock p L) (h0:0<=page) (Se:page<16) (IQ:nN w fs ino (page*4096) r0 k d) (hr:(r0 != 0)=true):
  Calls Tryz.prog 232 #[.pointer (some ⟨c,0,none⟩), .int .i64 ino, .int .i64 page] w (dN w S c a fs m ino page r0 k d clock p L):=by
 have hmul:IntKind.i64.wrap (page*4096)=page*4096:=(by rw[IntKind.wrap_i64];omega);have c1:w.cell? ⟨c,1,none⟩=some (.pointer (some ⟨fs,0,none⟩)):=aa h.self 1;have H:=vp h;have IK:=vp IQ;have HR:=vp hr;clear h IQ;go_enter Tryz.func232,Tryz.ntmps232;go_wp2_with (first
  |(go_at_call 233;refine(IK.out).mono ?_;rintro e w1 ⟨A,cap,rfl,hA,hAn,vS⟩;have vY:=vp vS;clear hA vS)
  |fail)
 go_ret2;exact⟨r0,0,p,L,clock,S,rfl,H.out.below vY.out,Mod.of vY.out,Out.refl _ _, .err h0 Se (by simpa using HR.out)⟩
theorem get_hit (c a fs m k:Nat) (ino page r0 clock:Int) (d:Nat->Nat) (w:World) (S:Nat->Prop) (p:Pool) (L:List Slot) (h:au w S c a fs m clock p L) (h0:0<=page) (Se:page<16) (Kn:(Lit.int .i64 ino).wf=true) (IQ:nN w fs ino (page*4096) 0 k d) (Ar:0<=clock/\clock<1000000)
  (s:Slot) (hs:L.find? (Slot.at ino page)=some s):
  Calls Tryz.prog 232 #[.pointer (some ⟨c,0,none⟩), .int .i64 ino, .int .i64 page] w (dN w S c a fs m ino page 0 k d clock p L):=by
 have JN:(Lit.int .i64 page).wf=true:=(by go_wf2);have hmul:IntKind.i64.wrap (page*4096)=page*4096:=(by rw[IntKind.wrap_i64];omega);have c1:w.cell? ⟨c,1,none⟩=some (.pointer (some ⟨fs,0,none⟩)):=aa h.self 1;have IK:=vp IQ;have H:=vp h;have Sh:=vp hs;clear IQ h hs;go_enter Tryz.func232,Tryz.ntmps232;go_upto_region 8 with(first
  |(go_at_call 233;refine(IK.out).mono ?_;rintro e w1 ⟨A,cap,rfl,hA,hAn,vS⟩;have H1:=vp (H.out.below vS);clear hA)
  |fail)
 obtain⟨w2,wO⟩: ∃w2,w2=w1.alloc (.cells #[.int .i64 ino, .int .i64 page] 127):=⟨_,rfl⟩;have wb:Below w1.heap.size w1 w2:=(by rw[wO];exact vr);have AB:w2.heap[w1.heap.size]? =some (.cells #[.int .i64 ino, .int .i64 page] 127 (0,0)):=(by rw[wO];exact ab _ _);have DO:=H1.out.below wb;have k0:w2.cell? ⟨w1.heap.size,0,none⟩=some (.int .i64 ino):=aa AB 0;have k1:w2.cell? ⟨w1.heap.size,1,none⟩=some (.int .i64 page):=aa AB 1;have k2:w2.cell? ⟨c,2,none⟩=some (.map (some m)):=aa DO.self 2;have zY: ∀W,W.heap[m]? =w2.heap[m]? ->(Instr.lookup 123 (.map (some m)) (.agg #[.int .i64 ino, .int .i64 page]) true).run Tryz.prog W= .ok (.tuple #[.agg #[.int .i64 (s.frame:Int), .int .i64 s.asked], .bool true]) W:=by
  intro W hW;obtain⟨es0,clk0,PI⟩:=aN.same (w':=W) DO.slots hW;have Fj:=PI.look (i:=ino) (p:=page) Kn JN true;rw[Sh.out]at Fj;exact Fj
 have xB:=zY w2.drew rfl;have wS:=zY (w2.alloc (.cells #[.int .i64 0, .int .i64 0] 129)).drew (vt _ _ _ DO.lts.2.1);have yu:=vp DO;have FY:=vp AB;have Ds:=vp wO;clear zY DO AB wO;go_upto_region 9 with(fail);rw[<-Ds.out];go_region_held3 (fun w'=>w'.cell? ⟨c,2,none⟩=some (.map (some m))/\w'.cell? ⟨w1.heap.size,0,none⟩=some (.int .i64 ino)/\w'.cell? ⟨w1.heap.size,1,none⟩=some (.int .i64 page)) (go_keep) (fail)
 all_goals
  obtain⟨w3,xq⟩: ∃w3,w3=(w2.alloc (.cells #[.int .i64 (s.frame:Int), .int .i64 s.asked] 129)).drew:=⟨_,rfl⟩;rw[<-xq];have wG:Below w2.heap.size w2 w3:=(by rw[xq];exact vr.drew);have ZW:w3.heap[w2.heap.size]? =some (.cells #[.int .i64 (s.frame:Int), .int .i64 s.asked] 129 (0,0)):=(by rw[xq];exact ab w2 _);have YR:=yu.out.lts;have PG:=(vo FY.out).1;have wF:=vS.size;have wL:=wb.size;have Xy:=H1.out.pool.low;have YS:=H1.out.lts;obtain⟨bh,Qi⟩: ∃bh,bh=w2.heap.size:=⟨_,rfl⟩;obtain⟨bk,FR⟩: ∃bk,bk=w1.heap.size:=⟨_,rfl⟩;have Hq:w3.heap[bk]? =some (.cells #[.int .i64 ino, .int .i64 page] 127 (0,0)):=(by(rw[FR];exact((wG).block _ PG).trans FY.out));have GC:=ZW;rw[<-Qi]at GC⊢;rw[<-FR];have Qj:bh≠c:=(by omega);have Gw:bh≠m:=(by omega);have Ms:bk≠bh:=(by omega);have Qh:bk≠c:=(by omega);have UM:bh≠0:=(by omega);have Mt: ¬S bh:=fun e=>by(have:=Xy _ e;omega)
  have BY:=yu.out.below wG;have GR:=vp BY;have OF:=vp GC;have Lh:=vp Hq;have zm:=vp (vS.trans ((wb.trans ((wG).mono wL)).mono wF));have XE:w.heap.size<=bh:=(by omega);have HBH:=vp Qi;have HBK:=vp FR;clear BY GC Hq Qi FR k0 k1 k2 xB wS;clear xq;go_upto_region 16 with(fail);have AX:=GR.out;have Gr:=AX.lts;have kc:w3.cell? ⟨c,3,none⟩=some (.int .i64 clock):=aa AX.self 3;have kf:w3.frozen? ⟨c,3,none⟩=false:=ae AX.self 3;have vU:w3.cell? ⟨bh,0,none⟩=some (.int .i64 (s.frame:Int)):=aa OF.out 0;have vS:w3.cell? ⟨bh,1,none⟩=some (.int .i64 s.asked):=aa OF.out 1;have UH:w3.frozen? ⟨bh,1,none⟩=false:=ae OF.out 1;have hwr:IntKind.i64.wrap (clock+1)=clock+1:=(by(rw[IntKind.wrap_i64];omega));obtain⟨w20,DZ⟩: ∃w20,w20=w3.setCell ⟨c,3,none⟩ (.int .i64 (clock+1)):=⟨_,rfl⟩;have Be:Mod (fun b=>b=c) w3 w20:=(by(rw[DZ];exact aj (S:=fun b=>b=c) rfl 3 _));have Eb:aH w20 c a fs m (clock+1):=(by(rw[DZ];exact AX.self.tick));have TT:=(vo OF.out).1;have CF:=(Be.block bh TT Qj).trans OF.out;have x0:w20.cell? ⟨bh,0,none⟩=some (.int .i64 (s.frame:Int)):=aa CF 0;have x1:w20.cell? ⟨bh,1,none⟩=some (.int .i64 s.asked):=aa CF 1;have x2:w20.frozen? ⟨bh,1,none⟩=false:=ae CF 1;have x3:w20.cell? ⟨c,3,none⟩=some (.int .i64 (clock+1)):=aa Eb 3;obtain⟨w21,DY⟩: ∃w21,w21=w20.setCell ⟨bh,1,none⟩ (.int .i64 (clock+1)):=⟨_,rfl⟩;have Bd:Mod (fun b=>b=bh) w20 w21:=(by(rw[DY];exact aj (S:=fun b=>b=bh) rfl 1 _));have Eo:w21.heap[bh]? =some (.cells #[.int .i64 (s.frame:Int), .int .i64 (clock+1)] 129 (0,0)):=(by(rw[DY];simpa using Joins.block_setCell (i:=1) CF (.int .i64 (clock+1))));have Kk:=(vo Eb).1;have Gf:aH w21 c a fs m (clock+1):=(Bd.block c Kk (fun e=>Qj e.symm)).trans Eb;have zY:=(vo Lh.out).1;have XU:=Be.size;have XT:=Bd.size;have GB:=(Bd.block bk (by omega) Ms).trans ((Be.block bk zY Qh).trans Lh.out);have ER:aN w21 m L:=(AX.slots.same ((Bd.block m (by omega) (fun e=>Gw e.symm)).trans (Be.block m Gr.2.1 (fun e=>Gr.2.2.1 e.symm))));obtain⟨es,wW,TZ⟩:=aN.same (w':=w21.drew) ER rfl;obtain⟨es',Er,FP,Gs⟩:=TZ.put (s:=⟨ino,page,s.frame,clock+1⟩) Kn JN;obtain⟨w22,DX⟩: ∃w22,w22=Go.ChangeMaps.setBlock w21.drew m (.map es' Er):=⟨_,rfl⟩;rw[<-DX]at FP Gs;have Gp:(Instr.mapUpdate 123 (.map (some m)) (.agg #[.int .i64 ino, .int .i64 page]) (.agg #[.int .i64 (s.frame:Int), .int .i64 (clock+1)])).run Tryz.prog w21.drew= .ok () w22:=FP;have y0:w21.cell? ⟨c,2,none⟩=some (.map (some m)):=aa Gf 2;have y1:w21.cell? ⟨bk,0,none⟩=some (.int .i64 ino):=aa GB 0;have y2:w21.cell? ⟨bk,1,none⟩=some (.int .i64 page):=aa GB 1;have y3:w21.cell? ⟨bh,0,none⟩=some (.int .i64 (s.frame:Int)):=aa Eo 0;have y4:w21.cell? ⟨bh,1,none⟩=some (.int .i64 (clock+1)):=aa Eo 1;have Ef:Mod (fun b=>b=m) w21 w22:=(by(rw[DX];exact iK _ _ _));have KM:=(Ef.block bh (by omega) Gw).trans Eo;have y5:w22.cell? ⟨bh,0,none⟩=some (.int .i64 (s.frame:Int)):=aa KM 0;have Co:Mod (fun b=>b=m\/b=c\/b=bh) w3 w22:=((Be.sub fun b hb=> .inr (.inl hb)).trans (Out.refl _ _) ((Bd.sub fun b hb=> .inr (.inr hb)).trans (Out.refl _ _) (Ef.sub fun b hb=> .inl hb)));have Vl:au w22 S c a fs m (clock+1) p (dK L ⟨ino,page,s.frame,clock+1⟩):=⟨AX.pool.mod Co (fun b hb e=>by(rcases e with e|e|e;exact AX.noM (e▸hb);exact AX.noC (e▸hb);exact Mt (e▸hb))) (fun e=>by(have h9:=AX.c0;rcases e with e|e|e<;>omega)),(Ef.block c (by omega) Gr.2.2.1).trans Gf,⟨es',Er,Gs⟩,AX.noC,AX.noM⟩;have HCE:=vp Vl;have HMA:=vp Co;have QL:=vp DZ;have QK:=vp DY;have HW22:=vp DX;clear AX Eb CF Eo Gf GB ER TZ Gs FP Be Bd Ef Vl Co DZ DY DX KM;go_upto_region 17 with(fail);rw[<-QL.out];go_upto_region 18 with(fail);rw[<-QK.out];go_region;go_wp2_with fail
  all_goals
   go_ret2;exact⟨0,s.frame,p,_,clock+1,S,rfl,HCE.out,dN.mod zm.out HMA.out XE,Out.refl _ _, .hit s h0 Se rfl Sh.out⟩
theorem get_new (c a fs m k:Nat) (ino page r0 clock:Int) (d:Nat->Nat) (w:World) (S:Nat->Prop) (p:Pool) (L:List Slot) (h:au w S c a fs m clock p L) (h0:0<=page) (Se:page<16) (Kn:(Lit.int .i64 ino).wf=true) (IQ:nN w fs ino (page*4096) 0 k d) (hd: ∀i,d i<256) (hk:k<=4096) (Ar:0<=clock/\clock<1000000)
  (hs:L.find? (Slot.at ino page)=none):
  Calls Tryz.prog 232 #[.pointer (some ⟨c,0,none⟩), .int .i64 ino, .int .i64 page] w (dN w S c a fs m ino page 0 k d clock p L):=by
 have JN:(Lit.int .i64 page).wf=true:=(by go_wf2);have hmul:IntKind.i64.wrap (page*4096)=page*4096:=(by rw[IntKind.wrap_i64];omega);have c1:w.cell? ⟨c,1,none⟩=some (.pointer (some ⟨fs,0,none⟩)):=aa h.self 1;have IK:=vp IQ;have H:=vp h;have Sh:=vp hs;clear IQ h hs;go_enter Tryz.func232,Tryz.ntmps232;go_upto_region 8 with(first
  |(go_at_call 233;refine(IK.out).mono ?_;rintro e w1 ⟨A,cap,rfl,hA,hAn,vS⟩;have HA:=vp hA;have H1:=vp (H.out.below vS);clear hA)
  |fail)
 obtain⟨w2,wO⟩: ∃w2,w2=w1.alloc (.cells #[.int .i64 ino, .int .i64 page] 127):=⟨_,rfl⟩;have wb:Below w1.heap.size w1 w2:=(by rw[wO];exact vr);have AB:w2.heap[w1.heap.size]? =some (.cells #[.int .i64 ino, .int .i64 page] 127 (0,0)):=(by rw[wO];exact ab _ _);have DO:=H1.out.below wb;have k0:w2.cell? ⟨w1.heap.size,0,none⟩=some (.int .i64 ino):=aa AB 0;have k1:w2.cell? ⟨w1.heap.size,1,none⟩=some (.int .i64 page):=aa AB 1;have k2:w2.cell? ⟨c,2,none⟩=some (.map (some m)):=aa DO.self 2;have zY: ∀W,W.heap[m]? =w2.heap[m]? ->(Instr.lookup 123 (.map (some m)) (.agg #[.int .i64 ino, .int .i64 page]) true).run Tryz.prog W= .ok (.tuple #[.agg #[.int .i64 0, .int .i64 0], .bool false]) W:=by
  intro W hW;obtain⟨es0,clk0,PI⟩:=aN.same (w':=W) DO.slots hW;have Fj:=PI.look (i:=ino) (p:=page) Kn JN true;rw[Sh.out]at Fj;exact Fj
 have xB:=zY w2.drew rfl;have wS:=zY (w2.alloc (.cells #[.int .i64 0, .int .i64 0] 129)).drew (vt _ _ _ DO.lts.2.1);have yu:=vp DO;have FY:=vp AB;have Ds:=vp wO;clear zY DO AB wO;go_upto_region 9 with(fail);rw[<-Ds.out];go_region_held3 (fun w'=>w'.cell? ⟨c,2,none⟩=some (.map (some m))/\w'.cell? ⟨w1.heap.size,0,none⟩=some (.int .i64 ino)/\w'.cell? ⟨w1.heap.size,1,none⟩=some (.int .i64 page)) (go_keep) (fail)
 all_goals
  obtain⟨w3,xq⟩: ∃w3,w3=(w2.alloc (.cells #[.int .i64 0, .int .i64 0] 129)).drew:=⟨_,rfl⟩;rw[<-xq];have wG:Below w2.heap.size w2 w3:=(by rw[xq];exact vr.drew);have ZW:w3.heap[w2.heap.size]? =some (.cells #[.int .i64 0, .int .i64 0] 129 (0,0)):=(by rw[xq];exact ab w2 _);have YR:=yu.out.lts;have PG:=(vo FY.out).1;have wF:=vS.size;have wL:=wb.size;have Xy:=H1.out.pool.low;have YS:=H1.out.lts;obtain⟨bh,Qi⟩: ∃bh,bh=w2.heap.size:=⟨_,rfl⟩;obtain⟨bk,FR⟩: ∃bk,bk=w1.heap.size:=⟨_,rfl⟩;have Hq:w3.heap[bk]? =some (.cells #[.int .i64 ino, .int .i64 page] 127 (0,0)):=(by(rw[FR];exact((wG).block _ PG).trans FY.out));have GC:=ZW;rw[<-Qi]at GC⊢;rw[<-FR];have Qj:bh≠c:=(by omega);have Gw:bh≠m:=(by omega);have Ms:bk≠bh:=(by omega);have Qh:bk≠c:=(by omega);have UM:bh≠0:=(by omega);have Mt: ¬S bh:=fun e=>by(have:=Xy _ e;omega)
  have BY:=yu.out.below wG;have GR:=vp BY;have OF:=vp GC;have Lh:=vp Hq;have zm:=vp (vS.trans ((wb.trans ((wG).mono wL)).mono wF));have XE:w.heap.size<=bh:=(by omega);have HBH:=vp Qi;have HBK:=vp FR;clear BY GC Hq Qi FR k0 k1 k2 xB wS;have yk:=wG.size;have KP:av w3 A k d:=HA.out.kept (wb.trans (wG.mono wL));have Ru:=vp KP;have ZD:bh<w3.heap.size:=(vo OF.out).1;have ZA:bk<w3.heap.size:=(vo Lh.out).1;have UG: ¬S bk:=fun e=>by have:=Xy _ e;have:=HBK.out;omega
  have ZB:bk≠m:=(by have:=HBK.out;omega);have hAk:0<k-> ∃ad,A=some ad/\ad.block<w1.heap.size:=fun h9=>by
   obtain⟨ad,e9,UE⟩:=HA.out h9;exact⟨ad,e9,by have:=World.block_lt_of_cell? _ _ (UE 0 h9);unfold Addr.add at this;split at this<;>exact this⟩
  clear xq KP;go_wp2_with fail;refine(fj c a fs m clock w3 S p L GR.out).mono ?_;rintro e w4 ⟨r,f,p1,L1,S1,rfl,DN,xH,zN,wi⟩;have AZ:=xH.size;have BO:=vp DN;have wP:=vp wi;have FG:=vp xH;have yl:=vp zN;clear DN xH zN;rcases wi.duo with rfl|⟨rfl,rfl,rfl,rfl⟩
  rotate_left
  ·clear wi;go_wp2_with fail;go_ret2;exact⟨4,0,_,_,clock,S1,rfl,BO.out,dN.mod2 zm.out FG.out yl.out (Mod.refl _ _) (Mod.refl _ _) (Mod.refl _ _) XE,fun b hb=>(yl.out b hb).imp id (fun h=>by have:=zm.out.size;omega), .full h0 Se rfl Sh.out wP.out⟩
  clear wi;obtain⟨f1,f2,f3⟩:=wP.out.live;have ZE: ¬Both S m bh:=fun e=>e.elim Mt Gw;have ZC: ¬Both S m bk:=fun e=>e.elim UG ZB;have hH4:=(FG.out.block bh ZD ZE).trans OF.out;have hK4:=(FG.out.block bk ZA ZC).trans Lh.out;have BL: ¬S1 bh:=fun e=>(yl.out bh e).elim Mt (by omega);have ZK: ¬S1 bk:=fun e=>(yl.out bk e).elim UG (by omega);have hA4:av w4 A k d:=Ru.out.mod FG.out (fun ad e h9=>by
   have h8:=hAn ad e h9;exact fun e=>e.elim (fun e=>by have:=H.out.pool.low _ e;omega) (fun e=>by have:=H.out.lts.2.1;omega))
  have HA4:=vp hA4;have Li:=vp hH4;have HK4:=vp hK4;clear hA4 hH4 hK4 f3 hAk;have e0:w4.cell? ⟨c,0,none⟩=some (.pointer (some ⟨a,0,none⟩)):=aa BO.out.self 0;go_upto_region 16 with(first
   |(go_at_call 124;refine(gx a f 0 k cap A d w4 S1 p1 BO.out.pool f1 (Nat.le_of_eq f2.symm) (by omega) (by omega) HA4.out hd).mono ?_;rintro e w5 ⟨rfl,IZ,xu⟩;have Ga:=vp (BO.out.turn xu IZ (Out.refl _ _));have CO:=vp xu;have Sc:=(xu.block bh (by omega) BL).trans Li.out;have hK5:=(xu.block bk (by omega) ZK).trans HK4.out;have Ww:=vp Sc;have HK5:=vp hK5;have g0:=aa Sc 0;have g1:=ae Sc 0;clear IZ xu Sc hK5)
   |fail)
  obtain⟨w6,OX⟩: ∃w6,w6=w5.setCell ⟨bh,0,none⟩ (.int .i64 (f:Int)):=⟨_,rfl⟩;rw[<-OX];have zO:Mod (fun b=>b=bh) w5 w6:=(by rw[OX];exact aj (S:=fun b=>b=bh) rfl 0 _);have Ve:w6.heap[bh]? =some (.cells #[.int .i64 (f:Int), .int .i64 0] 129 (0,0)):=(by rw[OX];simpa using Joins.block_setCell (i:=0) Ww.out (.int .i64 (f:Int)));have Jm:=CO.out.size;have hK6:=(zO.block bk (by omega) Ms).trans HK5.out;have RP:=Ga.out.c0;have ON:=vp (Ga.out.mod zO (fun b hb e=>BL (e▸hb)) (fun e=>UM e.symm) (fun e=>Qj e.symm) (fun e=>Gw e.symm));have MT:=vp Ve;have HK6:=vp hK6;have Jg:=vp zO;clear OX zO Ve hK6 g0 g1 e0 Mt;have Mt:=BL;obtain⟨p2,hp2⟩: ∃p2,p2=p1.store f (laid (p1.dat f) d 0 k):=⟨_,rfl⟩;rw[<-hp2]at ON;have Ow:=vp hp2;clear hp2;have AX:=ON.out;have Gr:=AX.lts;have kc:w6.cell? ⟨c,3,none⟩=some (.int .i64 clock):=aa AX.self 3;have kf:w6.frozen? ⟨c,3,none⟩=false:=ae AX.self 3;have vU:w6.cell? ⟨bh,0,none⟩=some (.int .i64 (f:Int)):=aa MT.out 0;have vS:w6.cell? ⟨bh,1,none⟩=some (.int .i64 0):=aa MT.out 1;have UH:w6.frozen? ⟨bh,1,none⟩=false:=ae MT.out 1;have hwr:IntKind.i64.wrap (clock+1)=clock+1:=(by(rw[IntKind.wrap_i64];omega));obtain⟨w20,DZ⟩: ∃w20,w20=w6.setCell ⟨c,3,none⟩ (.int .i64 (clock+1)):=⟨_,rfl⟩;have Be:Mod (fun b=>b=c) w6 w20:=(by(rw[DZ];exact aj (S:=fun b=>b=c) rfl 3 _));have Eb:aH w20 c a fs m (clock+1):=(by(rw[DZ];exact AX.self.tick));have TT:=(vo MT.out).1;have CF:=(Be.block bh TT Qj).trans MT.out;have x0:w20.cell? ⟨bh,0,none⟩=some (.int .i64 (f:Int)):=aa CF 0;have x1:w20.cell? ⟨bh,1,none⟩=some (.int .i64 0):=aa CF 1;have x2:w20.frozen? ⟨bh,1,none⟩=false:=ae CF 1;have x3:w20.cell? ⟨c,3,none⟩=some (.int .i64 (clock+1)):=aa Eb 3;obtain⟨w21,DY⟩: ∃w21,w21=w20.setCell ⟨bh,1,none⟩ (.int .i64 (clock+1)):=⟨_,rfl⟩;have Bd:Mod (fun b=>b=bh) w20 w21:=(by(rw[DY];exact aj (S:=fun b=>b=bh) rfl 1 _));have Eo:w21.heap[bh]? =some (.cells #[.int .i64 (f:Int), .int .i64 (clock+1)] 129 (0,0)):=(by(rw[DY];simpa using Joins.block_setCell (i:=1) CF (.int .i64 (clock+1))));have Kk:=(vo Eb).1;have Gf:aH w21 c a fs m (clock+1):=(Bd.block c Kk (fun e=>Qj e.symm)).trans Eb;have zY:=(vo HK6.out).1;have XU:=Be.size;have XT:=Bd.size;have GB:=(Bd.block bk (by omega) Ms).trans ((Be.block bk zY Qh).trans HK6.out);have ER:aN w21 m L1:=(AX.slots.same ((Bd.block m (by omega) (fun e=>Gw e.symm)).trans (Be.block m Gr.2.1 (fun e=>Gr.2.2.1 e.symm))));obtain⟨es,wW,TZ⟩:=aN.same (w':=w21.drew) ER rfl;obtain⟨es',Er,FP,Gs⟩:=TZ.put (s:=⟨ino,page,f,clock+1⟩) Kn JN;obtain⟨w22,DX⟩: ∃w22,w22=Go.ChangeMaps.setBlock w21.drew m (.map es' Er):=⟨_,rfl⟩;rw[<-DX]at FP Gs;have Gp:(Instr.mapUpdate 123 (.map (some m)) (.agg #[.int .i64 ino, .int .i64 page]) (.agg #[.int .i64 (f:Int), .int .i64 (clock+1)])).run Tryz.prog w21.drew= .ok () w22:=FP;have y0:w21.cell? ⟨c,2,none⟩=some (.map (some m)):=aa Gf 2;have y1:w21.cell? ⟨bk,0,none⟩=some (.int .i64 ino):=aa GB 0;have y2:w21.cell? ⟨bk,1,none⟩=some (.int .i64 page):=aa GB 1;have y3:w21.cell? ⟨bh,0,none⟩=some (.int .i64 (f:Int)):=aa Eo 0;have y4:w21.cell? ⟨bh,1,none⟩=some (.int .i64 (clock+1)):=aa Eo 1;have Ef:Mod (fun b=>b=m) w21 w22:=(by(rw[DX];exact iK _ _ _));have KM:=(Ef.block bh (by omega) Gw).trans Eo;have y5:w22.cell? ⟨bh,0,none⟩=some (.int .i64 (f:Int)):=aa KM 0;have Co:Mod (fun b=>b=m\/b=c\/b=bh) w6 w22:=((Be.sub fun b hb=> .inr (.inl hb)).trans (Out.refl _ _) ((Bd.sub fun b hb=> .inr (.inr hb)).trans (Out.refl _ _) (Ef.sub fun b hb=> .inl hb)));have Vl:au w22 S1 c a fs m (clock+1) p2 (dK L1 ⟨ino,page,f,clock+1⟩):=⟨AX.pool.mod Co (fun b hb e=>by(rcases e with e|e|e;exact AX.noM (e▸hb);exact AX.noC (e▸hb);exact Mt (e▸hb))) (fun e=>by(have h9:=AX.c0;rcases e with e|e|e<;>omega)),(Ef.block c (by omega) Gr.2.2.1).trans Gf,⟨es',Er,Gs⟩,AX.noC,AX.noM⟩;have HCE:=vp Vl;have HMA:=vp Co;have QL:=vp DZ;have QK:=vp DY;have HW22:=vp DX;clear AX Eb CF Eo Gf GB ER TZ Gs FP Be Bd Ef Vl Co DZ DY DX KM;go_upto_region 17 with(fail);rw[<-QL.out];go_upto_region 18 with(fail);rw[<-QK.out];go_region;go_wp2_with fail
  all_goals
   go_ret2;exact⟨0,f,p2,_,clock+1,S1,rfl,HCE.out,dN.mod2 zm.out FG.out yl.out CO.out Jg.out HMA.out XE,fun b hb=>(yl.out b hb).imp id (fun h=>by have:=zm.out.size;omega),by rw[Ow.out];exact .miss f p1 L1 h0 Se rfl Sh.out wP.out⟩
end
section
open Go.RowKit Go.Sort
def bV (w:World) (A:Option Addr) (n cap:Nat) (d:Nat->Nat):Prop:=
 av w A n d/\(∀x,A=some x-> ∃(g:Nat) (cs:Array Value) (f:Nat×Nat),x=⟨g,0,none⟩/\w.heap[g]? =some (.cells cs 5 f))/\n<=cap/\eJ A n cap
variable {w:World} {base cap n:Nat} {d:Nat->Nat}
theorem OwnB.byteRow {g:Nat} (h:OwnB w base (some ⟨g,0,none⟩) cap n d):bV w (some ⟨g,0,none⟩) n cap d:=by
 refine⟨h.v,fun x hx=>?_,?_,fun e=>by cases e⟩
 ·injection hx with hx;subst hx;rcases h.2 with⟨h2,_⟩|⟨g',vP,cur,h1,_,h3,_⟩
  ·injection h2 with h2;cases h2
  ·injection h1 with e1;injection e1 with e1;injection e1 with e1;subst e1;exact⟨_,_,_,rfl,h3⟩
 ·rcases h.2 with⟨h2,_⟩|⟨g',vP,cur,h1,_,_,h4,_⟩
  ·injection h2 with h2;cases h2
  ·injection h1 with _ _ e3;omega
variable {A:Option Addr}
theorem bV.below {w':World} (h:bV w A n cap d) (hb:Below w.heap.size w w'):bV w' A n cap d:=by
 obtain⟨h1,h2,h3⟩:=h;refine⟨h1.kept hb,fun x hx=>?_,h3⟩;obtain⟨g,cs,f,e,hg⟩:=h2 x hx;exact⟨g,cs,f,e,(hb.block g (vo hg).1).trans hg⟩
theorem av.lt {ad:Addr} (h:av w (some ad) n d) (h0:0<n):ad.block<w.heap.size:=by
 obtain⟨x,e,hc⟩:=h h0;injection e with e;subst e;have hl:=World.block_lt_of_cell? _ _ (hc 0 h0);have FR:(ad.add 0).block=ad.block:=by unfold Addr.add;split<;>rfl
 rw[FR]at hl;exact hl
def vk (w:World) (n:Nat) (d:Nat->Nat) (e:Ending) (w':World):Prop:= ∃A cap,e= .returned (.slice A n cap)/\bV w' A n cap d/\Below w.heap.size w w'
theorem gT (w:World):Calls Tryz.prog 135 #[.slice none 0 0] w fun e w'=>e= .returned (.slice none 0 0)/\w'=w:=by
 have Ee:=fun(W:World)=>Lib.run_eql_slice_nil (P:=Tryz.prog) (w:=W) 39 5 none 0 0 0 0 Tryz.underlying39;go_enter Tryz.func135,Tryz.ntmps135;go_wp2_with fail;go_ret;exact⟨rfl,rfl⟩
theorem km (c:Nat) (ad:Addr) (w:World):Calls Tryz.prog 135 #[.slice (some ad) 0 c] w fun e w'=>e= .returned (.slice (some ⟨w.heap.size,0,none⟩) 0 0)/\w'=w.alloc (.cells #[] 5):=by
 have Ee:=fun(W:World)=>Lib.run_eql_slice_nil (P:=Tryz.prog) (w:=W) 39 5 (some ad) 0 c 0 0 Tryz.underlying39;go_enter Tryz.func135,Tryz.ntmps135;go_wp2_with fail;go_ret;exact⟨rfl,rfl⟩
theorem uy (A:Option Addr) (n c:Nat) (d:Nat->Nat) (w:World) (xk:eJ A n c) (Gn:n<=1000000) (hA:av w A n d):
  Calls Tryz.prog 135 #[.slice A n c] w (vk w n d):=by
 cases A with
 |none=>
  obtain⟨rfl,rfl⟩:=xk rfl;refine(gT w).mono ?_;rintro e w' ⟨rfl,rfl⟩;exact⟨none,0,rfl,⟨(fun h=>by omega),(fun x hx=>by cases hx),vs _,fun _ =>⟨rfl,rfl⟩⟩,vO _ _⟩
 |some ad=>
  by_cases h0:0<n
  ·refine(kn n c ad d w h0 Gn hA (hA.lt h0)).mono ?_;rintro e w' ⟨g,cap,rfl,ho,hb⟩;exact⟨_,_,rfl,ho.byteRow,hb⟩
  ·obtain rfl:n=0:=(by omega);refine(km c ad w).mono ?_;rintro e w' ⟨rfl,rfl⟩;exact⟨_,_,rfl,⟨(fun h=>by omega),(fun x hx=>by injection hx with hx;subst hx;exact⟨_,_,_,rfl,ab w _⟩),vs _,fun e=>by cases e⟩,vr⟩
theorem jf (k a:Nat) (W:World):(binOp .neq 189 (aX k a) .nilIface).run Tryz.prog W= .ok (.bool true) W:=by
 unfold aX tyOf;split
 ·kernel_rfl
 ·split<;>kernel_rfl
theorem jg (k a:Nat) (W:World):(binOp .eql 189 (aX k a) .nilIface).run Tryz.prog W= .ok (.bool false) W:=by
 unfold aX tyOf;split
 ·kernel_rfl
 ·split<;>kernel_rfl
theorem gL (x y:Operand) (k a:Nat) (W:World):(eqGuard .neq 189 x y (aX k a) .nilIface).run Tryz.prog W= .ok () W:=rfl
theorem fb (x y:Operand) (k a:Nat) (W:World):(eqGuard .eql 189 x y (aX k a) .nilIface).run Tryz.prog W= .ok () W:=rfl
def bY (B fs:Nat) (F:List Nd) (x:Ent) (w:World) (e:Ending) (w':World):Prop:=
 e= .returned (.int .i64 (addM F x).1)/\(∃nb c2 ad mp,FsIs w' B fs nb c2 ad mp (addM F x).2)/\Below B w w'
variable {l:List ByteArray}
theorem OwnS.strs (h:OwnS w base A cap l):uX w A l:=fun j x hx=>by
 rcases h.form with⟨_,e,_⟩|⟨g,e,_⟩
 ·rw[e]at hx;simp at hx
 ·subst e;exact⟨g,rfl,h.elem hx⟩
theorem uX.front (h:uX w A l):uX w A l.dropLast:=fun j x hx=>by
 refine h j x ?_;have hl:=(List.getElem?_eq_some_iff.1 hx).1;rw[List.length_dropLast]at hl;rw[List.getElem?_dropLast,if_pos hl]at hx;exact hx
theorem vadd_bad (B fs nb c2 c:Nat) (ad mp:Nat->Nat) (F:List Nd) (x:Ent) (A:Option Addr) (w:World) (h:FsIs w B fs nb c2 ad mp F) (hp:x.path.size<=1000000000) (ht:x.to.size<=1000000000) (hn:x.n<=9223372036854775807) (hB:B<=w.heap.size) (hm:may x≠0):
  Calls Tryz.prog 82 #[.pointer (some ⟨fs,0,none⟩),x.val A c] w (bY B fs F x w):=by
 have yx:addM F x=(may x,F):=(by unfold addM;rw[if_pos hm]);unfold bY;rw[yx];obtain⟨r,hr⟩: ∃r,r=may x:=⟨_,rfl⟩;have wg:(r != 0)=true:=(by rw[bne_iff_ne,hr];exact hm);have zo:=fun W=>dQ x A c W hp ht hn;rw[<-hr]at zo⊢;obtain⟨w0,vT⟩: ∃w0,w0=w.alloc (.cells #[.string x.path, .int .u8 (x.kind:Int), .int .u16 (x.mode:Int), .int .u32 (x.uid:Int), .int .u32 (x.gid:Int), .slice A x.n c, .string x.to] 93):=⟨_,rfl⟩;have vU:Below w.heap.size w w0:=(by rw[vT];exact vr);have hE:w0.heap[w.heap.size]? =some (.cells #[.string x.path, .int .u8 (x.kind:Int), .int .u16 (x.mode:Int), .int .u32 (x.uid:Int), .int .u32 (x.gid:Int), .slice A x.n c, .string x.to] 93 (0,0)):=(by rw[vT];exact ab w _);have d0:w0.cell? ⟨w.heap.size,0,none⟩=some (.string x.path):=aa hE 0;have d1:w0.cell? ⟨w.heap.size,1,none⟩=some (.int .u8 (x.kind:Int)):=aa hE 1;have d2:w0.cell? ⟨w.heap.size,2,none⟩=some (.int .u16 (x.mode:Int)):=aa hE 2;have d3:w0.cell? ⟨w.heap.size,3,none⟩=some (.int .u32 (x.uid:Int)):=aa hE 3;have d4:w0.cell? ⟨w.heap.size,4,none⟩=some (.int .u32 (x.gid:Int)):=aa hE 4;have d5:w0.cell? ⟨w.heap.size,5,none⟩=some (.slice A x.n c):=aa hE 5;have d6:w0.cell? ⟨w.heap.size,6,none⟩=some (.string x.to):=aa hE 6;unfold Ent.val at zo⊢;have KZ:=vp zo;have wD:=vp vT;have HH:=vp h;have HM:=vp hm;have HR:=vp hr;clear zo vT h hm hr yx hE;go_enter Tryz.func82,Tryz.ntmps82;go_upto_region 1 with(fail);rw[<-wD.out];go_wp2_with (first
  |(go_at_call 133;refine(KZ.out _).mono ?_;rintro e w1 ⟨A1,vR,l1,rfl,wK,vS,xB,wS⟩;have vY:=vp vS;clear wK vS xB wS)
  |fail)
 go_ret;have hb:=vU.trans (vY.out.mono vU.size);exact⟨rfl,⟨nb,c2,ad,mp,HH.out.below hb⟩,hb.mono hB⟩
end
section
open Go.RowKit Go.Sort
variable {F:List Nd} {x:Ent}
theorem lc {j:Nat} (hm:may x=0) (h:atM F 0 (ar x.path)=some j):addM F x=(7,F):=by
 unfold addM;rw[if_neg (by omega),h];rfl
theorem ld (hm:may x=0) (h:atM F 0 (ar x.path)=none) (h2:atM F 0 (ar x.path).dropLast=none):addM F x=(3,F):=by
 unfold addM;rw[if_neg (by omega),h,h2];rfl
variable {up:Nat}
theorem kw (hm:may x=0) (h:atM F 0 (ar x.path)=none) (h2:atM F 0 (ar x.path).dropLast=some up) (hk:ak F up≠2):addM F x=(8,F):=by
 unfold addM;rw[if_neg (by omega),h,h2];show(if ak F up≠2 then((8:Int),F)else(0,F++[bB x up ((ar x.path).getLastD ⟨#[]⟩)]))=(8,F);rw[if_pos hk]
theorem ky (hm:may x=0) (h:atM F 0 (ar x.path)=none) (h2:atM F 0 (ar x.path).dropLast=some up) (hk:ak F up=2):addM F x=(0,F++[bB x up ((ar x.path).getLastD ⟨#[]⟩)]):=by
 unfold addM;rw[if_neg (by omega),h,h2];show(if ak F up≠2 then((8:Int),F)else(0,F++[bB x up ((ar x.path).getLastD ⟨#[]⟩)]))=_;rw[if_neg (by omega)]
theorem qw (B fs nb c2 c j:Nat) (ad mp:Nat->Nat) (F:List Nd) (x:Ent) (A:Option Addr) (w:World) (h:FsIs w B fs nb c2 ad mp F) (hp:x.path.size<=1000000000) (ht:x.to.size<=1000000000) (hn:x.n<=9223372036854775807) (hB:B<=w.heap.size) (hm:may x=0) (hF:F.length<=1000)
  (ha:atM F 0 (ar x.path)=some j):
  Calls Tryz.prog 82 #[.pointer (some ⟨fs,0,none⟩),x.val A c] w (bY B fs F x w):=by
 unfold bY;rw[lc hm ha];obtain⟨L,hL⟩: ∃L,L=ar x.path:=⟨_,rfl⟩;obtain⟨_,_,_,xY,_,CD,_⟩:=eG hm;have CE:L.length<=201:=(by rw[hL];have h1:=(da xY).2.1;have:=bd x.path;omega);obtain⟨m,Bc⟩: ∃m,m+1=L.length:=⟨L.length-1,by
  have:0<L.length:=List.length_pos_iff.2 (by rw[hL];exact CD);omega⟩
 have YL:m<=200:=(by omega);have zo: ∀W,Calls Tryz.prog 133 #[x.val A c] W fun e w'=> ∃A1 vR,e= .returned (.tuple #[.slice A1 (m+1) vR, .int .i64 0])/\Hid (OwnS w' W.heap.size A1 vR L)/\Hid (Below W.heap.size W w')/\m+1<=vR:=fun W=>by
  refine(dQ x A c W hp ht hn).mono ?_;rintro e w' ⟨A1,vR,l1,rfl,wK,vS,xB,wS⟩;have h9:=xB hm;rw[<-hL]at h9;subst h9;refine⟨A1,vR,by rw[hm,Bc],vp wK,vp vS,?_⟩;rcases wK.form with⟨_,e,_⟩|⟨g,_,_,_,e⟩
  ·rw[e]at Bc;cases Bc
  ·omega
 obtain⟨w0,vT⟩: ∃w0,w0=w.alloc (.cells #[.string x.path, .int .u8 (x.kind:Int), .int .u16 (x.mode:Int), .int .u32 (x.uid:Int), .int .u32 (x.gid:Int), .slice A x.n c, .string x.to] 93):=⟨_,rfl⟩;have vU:Below w.heap.size w w0:=(by rw[vT];exact vr);have hE:w0.heap[w.heap.size]? =some (.cells #[.string x.path, .int .u8 (x.kind:Int), .int .u16 (x.mode:Int), .int .u32 (x.uid:Int), .int .u32 (x.gid:Int), .slice A x.n c, .string x.to] 93 (0,0)):=(by rw[vT];exact ab w _);have d0:w0.cell? ⟨w.heap.size,0,none⟩=some (.string x.path):=aa hE 0;have d1:w0.cell? ⟨w.heap.size,1,none⟩=some (.int .u8 (x.kind:Int)):=aa hE 1;have d2:w0.cell? ⟨w.heap.size,2,none⟩=some (.int .u16 (x.mode:Int)):=aa hE 2;have d3:w0.cell? ⟨w.heap.size,3,none⟩=some (.int .u32 (x.uid:Int)):=aa hE 3;have d4:w0.cell? ⟨w.heap.size,4,none⟩=some (.int .u32 (x.gid:Int)):=aa hE 4;have d5:w0.cell? ⟨w.heap.size,5,none⟩=some (.slice A x.n c):=aa hE 5;have d6:w0.cell? ⟨w.heap.size,6,none⟩=some (.string x.to):=aa hE 6;have xt: ∀W A1 vR base,Below w.heap.size w W->Hid (OwnS W base A1 vR L)->m+1<=vR->Calls Tryz.prog 134 #[.pointer (some ⟨fs,0,none⟩), .slice A1 (m+1) vR] W fun e w'=>e= .returned (atV F ad (atM F 0 L))/\w'=W:=fun W A1 vR base hb ho hc=>
  eW B fs nb c2 (m+1) vR ad mp F A1 L W (h.below hb) ho.out.strs Bc hc (by omega) (by omega)
 have xR: ∀W A1 vR base,Below w.heap.size w W->Hid (OwnS W base A1 vR L)->m+1<=vR->Calls Tryz.prog 134 #[.pointer (some ⟨fs,0,none⟩), .slice A1 m vR] W fun e w'=>e= .returned (atV F ad (atM F 0 L.dropLast))/\w'=W:=fun W A1 vR base hb ho hc=>
  eW B fs nb c2 m vR ad mp F A1 L.dropLast W (h.below hb) ho.out.strs.front (by rw[List.length_dropLast];omega) (by omega) (by omega) (by omega)
 have Mc:=fun k a W=>jf k a W;have Mk:=fun k a W=>jg k a W;have Hf:=fun x y k a W=>gL x y k a W;have Hg:=fun x y k a W=>fb x y k a W;have HE:=vp hE;have Wi:=vp Bc;have HL:=vp hL
 (rw[<-hL]at ha;rw[ha]at xt;have xt: ∀W A1 vR base,Below w.heap.size w W->Hid (OwnS W base A1 vR L)->m+1<=vR->Calls Tryz.prog 134 #[.pointer (some ⟨fs,0,none⟩), .slice A1 (m+1) vR] W fun e w'=>e= .returned (aX (ak F j) (ad j))/\w'=W:=xt;clear ha)
 have Ak:=zo;unfold Ent.val at Ak⊢;have KZ:=vp Ak;have Dy:=vp xt;have CQ:=vp xR;have wD:=vp vT;have HH:=vp h;have HM:=vp hm;clear zo Ak xt xR vT h hm hE Bc hL xY CD CE;go_enter Tryz.func82,Tryz.ntmps82;go_upto_region 1 with(fail);rw[<-wD.out];go_wp2_with (first
  |(go_at_call 133;refine(KZ.out _).mono ?_;rintro e w1 ⟨A1,vR,rfl,wu,vY,yr⟩)
  |(go_at_call 134;refine(Dy.out _ _ _ _ (vU.trans (vY.out.mono vU.size)) wu yr).mono ?_;rintro e w2 ⟨rfl,rfl⟩)
  |fail)
 go_ret;have hb:=vU.trans (vY.out.mono vU.size);exact⟨rfl,⟨nb,c2,ad,mp,HH.out.below hb⟩,hb.mono hB⟩
theorem qx (B fs nb c2 c:Nat) (ad mp:Nat->Nat) (F:List Nd) (x:Ent) (A:Option Addr) (w:World) (h:FsIs w B fs nb c2 ad mp F) (hp:x.path.size<=1000000000) (ht:x.to.size<=1000000000) (hn:x.n<=9223372036854775807) (hB:B<=w.heap.size) (hm:may x=0) (hF:F.length<=1000)
  (ha:atM F 0 (ar x.path)=none) (Cz:atM F 0 (ar x.path).dropLast=none):
  Calls Tryz.prog 82 #[.pointer (some ⟨fs,0,none⟩),x.val A c] w (bY B fs F x w):=by
 unfold bY;rw[ld hm ha Cz];obtain⟨L,hL⟩: ∃L,L=ar x.path:=⟨_,rfl⟩;obtain⟨_,_,_,xY,_,CD,_⟩:=eG hm;have CE:L.length<=201:=(by rw[hL];have h1:=(da xY).2.1;have:=bd x.path;omega);obtain⟨m,Bc⟩: ∃m,m+1=L.length:=⟨L.length-1,by
  have:0<L.length:=List.length_pos_iff.2 (by rw[hL];exact CD);omega⟩
 have YL:m<=200:=(by omega);have zo: ∀W,Calls Tryz.prog 133 #[x.val A c] W fun e w'=> ∃A1 vR,e= .returned (.tuple #[.slice A1 (m+1) vR, .int .i64 0])/\Hid (OwnS w' W.heap.size A1 vR L)/\Hid (Below W.heap.size W w')/\m+1<=vR:=fun W=>by
  refine(dQ x A c W hp ht hn).mono ?_;rintro e w' ⟨A1,vR,l1,rfl,wK,vS,xB,wS⟩;have h9:=xB hm;rw[<-hL]at h9;subst h9;refine⟨A1,vR,by rw[hm,Bc],vp wK,vp vS,?_⟩;rcases wK.form with⟨_,e,_⟩|⟨g,_,_,_,e⟩
  ·rw[e]at Bc;cases Bc
  ·omega
 obtain⟨w0,vT⟩: ∃w0,w0=w.alloc (.cells #[.string x.path, .int .u8 (x.kind:Int), .int .u16 (x.mode:Int), .int .u32 (x.uid:Int), .int .u32 (x.gid:Int), .slice A x.n c, .string x.to] 93):=⟨_,rfl⟩;have vU:Below w.heap.size w w0:=(by rw[vT];exact vr);have hE:w0.heap[w.heap.size]? =some (.cells #[.string x.path, .int .u8 (x.kind:Int), .int .u16 (x.mode:Int), .int .u32 (x.uid:Int), .int .u32 (x.gid:Int), .slice A x.n c, .string x.to] 93 (0,0)):=(by rw[vT];exact ab w _);have d0:w0.cell? ⟨w.heap.size,0,none⟩=some (.string x.path):=aa hE 0;have d1:w0.cell? ⟨w.heap.size,1,none⟩=some (.int .u8 (x.kind:Int)):=aa hE 1;have d2:w0.cell? ⟨w.heap.size,2,none⟩=some (.int .u16 (x.mode:Int)):=aa hE 2;have d3:w0.cell? ⟨w.heap.size,3,none⟩=some (.int .u32 (x.uid:Int)):=aa hE 3;have d4:w0.cell? ⟨w.heap.size,4,none⟩=some (.int .u32 (x.gid:Int)):=aa hE 4;have d5:w0.cell? ⟨w.heap.size,5,none⟩=some (.slice A x.n c):=aa hE 5;have d6:w0.cell? ⟨w.heap.size,6,none⟩=some (.string x.to):=aa hE 6;have xt: ∀W A1 vR base,Below w.heap.size w W->Hid (OwnS W base A1 vR L)->m+1<=vR->Calls Tryz.prog 134 #[.pointer (some ⟨fs,0,none⟩), .slice A1 (m+1) vR] W fun e w'=>e= .returned (atV F ad (atM F 0 L))/\w'=W:=fun W A1 vR base hb ho hc=>
  eW B fs nb c2 (m+1) vR ad mp F A1 L W (h.below hb) ho.out.strs Bc hc (by omega) (by omega)
 have xR: ∀W A1 vR base,Below w.heap.size w W->Hid (OwnS W base A1 vR L)->m+1<=vR->Calls Tryz.prog 134 #[.pointer (some ⟨fs,0,none⟩), .slice A1 m vR] W fun e w'=>e= .returned (atV F ad (atM F 0 L.dropLast))/\w'=W:=fun W A1 vR base hb ho hc=>
  eW B fs nb c2 m vR ad mp F A1 L.dropLast W (h.below hb) ho.out.strs.front (by rw[List.length_dropLast];omega) (by omega) (by omega) (by omega)
 have Mc:=fun k a W=>jf k a W;have Mk:=fun k a W=>jg k a W;have Hf:=fun x y k a W=>gL x y k a W;have Hg:=fun x y k a W=>fb x y k a W;have HE:=vp hE;have Wi:=vp Bc;have HL:=vp hL
 (rw[<-hL]at ha Cz;rw[ha]at xt;rw[Cz]at xR;have xt: ∀W A1 vR base,Below w.heap.size w W->Hid (OwnS W base A1 vR L)->m+1<=vR->Calls Tryz.prog 134 #[.pointer (some ⟨fs,0,none⟩), .slice A1 (m+1) vR] W fun e w'=>e= .returned .nilIface/\w'=W:=xt;have xR: ∀W A1 vR base,Below w.heap.size w W->Hid (OwnS W base A1 vR L)->m+1<=vR->Calls Tryz.prog 134 #[.pointer (some ⟨fs,0,none⟩), .slice A1 m vR] W fun e w'=>e= .returned .nilIface/\w'=W:=xR;clear ha Cz)
 have Ak:=zo;unfold Ent.val at Ak⊢;have KZ:=vp Ak;have Dy:=vp xt;have CQ:=vp xR;have wD:=vp vT;have HH:=vp h;have HM:=vp hm;clear zo Ak xt xR vT h hm hE Bc hL xY CD CE;go_enter Tryz.func82,Tryz.ntmps82;go_upto_region 1 with(fail);rw[<-wD.out];go_upto_region 7 with(first
  |(go_at_call 133;refine(KZ.out _).mono ?_;rintro e w1 ⟨A1,vR,rfl,wu,vY,yr⟩)
  |(go_at_call 134;refine(Dy.out _ _ _ _ (vU.trans (vY.out.mono vU.size)) wu yr).mono ?_;rintro e w2 ⟨rfl,rfl⟩)
  |fail)
 go_wp2_with (first
  |(go_at_call 134;refine(CQ.out _ _ _ _ (vU.trans (vY.out.mono vU.size)) wu yr).mono ?_;rintro e w3 ⟨rfl,rfl⟩)
  |fail)
 go_ret;have hb:=vU.trans (vY.out.mono vU.size);exact⟨rfl,⟨nb,c2,ad,mp,HH.out.below hb⟩,hb.mono hB⟩
theorem oa (B fs nb c2 c up:Nat) (ad mp:Nat->Nat) (F:List Nd) (x:Ent) (A:Option Addr) (w:World) (h:FsIs w B fs nb c2 ad mp F) (hp:x.path.size<=1000000000) (ht:x.to.size<=1000000000) (hn:x.n<=9223372036854775807) (hB:B<=w.heap.size) (hm:may x=0) (hF:F.length<=1000)
  (ha:atM F 0 (ar x.path)=none) (Cz:atM F 0 (ar x.path).dropLast=some up) (hk:ak F up≠2):
  Calls Tryz.prog 82 #[.pointer (some ⟨fs,0,none⟩),x.val A c] w (bY B fs F x w):=by
 unfold bY;rw[kw hm ha Cz hk];have Mu:=fun W=>gm (ak F up) (ad up) W;rw[if_neg hk,vF hk]at Mu;clear hk;obtain⟨L,hL⟩: ∃L,L=ar x.path:=⟨_,rfl⟩;obtain⟨_,_,_,xY,_,CD,_⟩:=eG hm;have CE:L.length<=201:=(by rw[hL];have h1:=(da xY).2.1;have:=bd x.path;omega);obtain⟨m,Bc⟩: ∃m,m+1=L.length:=⟨L.length-1,by
  have:0<L.length:=List.length_pos_iff.2 (by rw[hL];exact CD);omega⟩
 have YL:m<=200:=(by omega);have zo: ∀W,Calls Tryz.prog 133 #[x.val A c] W fun e w'=> ∃A1 vR,e= .returned (.tuple #[.slice A1 (m+1) vR, .int .i64 0])/\Hid (OwnS w' W.heap.size A1 vR L)/\Hid (Below W.heap.size W w')/\m+1<=vR:=fun W=>by
  refine(dQ x A c W hp ht hn).mono ?_;rintro e w' ⟨A1,vR,l1,rfl,wK,vS,xB,wS⟩;have h9:=xB hm;rw[<-hL]at h9;subst h9;refine⟨A1,vR,by rw[hm,Bc],vp wK,vp vS,?_⟩;rcases wK.form with⟨_,e,_⟩|⟨g,_,_,_,e⟩
  ·rw[e]at Bc;cases Bc
  ·omega
 obtain⟨w0,vT⟩: ∃w0,w0=w.alloc (.cells #[.string x.path, .int .u8 (x.kind:Int), .int .u16 (x.mode:Int), .int .u32 (x.uid:Int), .int .u32 (x.gid:Int), .slice A x.n c, .string x.to] 93):=⟨_,rfl⟩;have vU:Below w.heap.size w w0:=(by rw[vT];exact vr);have hE:w0.heap[w.heap.size]? =some (.cells #[.string x.path, .int .u8 (x.kind:Int), .int .u16 (x.mode:Int), .int .u32 (x.uid:Int), .int .u32 (x.gid:Int), .slice A x.n c, .string x.to] 93 (0,0)):=(by rw[vT];exact ab w _);have d0:w0.cell? ⟨w.heap.size,0,none⟩=some (.string x.path):=aa hE 0;have d1:w0.cell? ⟨w.heap.size,1,none⟩=some (.int .u8 (x.kind:Int)):=aa hE 1;have d2:w0.cell? ⟨w.heap.size,2,none⟩=some (.int .u16 (x.mode:Int)):=aa hE 2;have d3:w0.cell? ⟨w.heap.size,3,none⟩=some (.int .u32 (x.uid:Int)):=aa hE 3;have d4:w0.cell? ⟨w.heap.size,4,none⟩=some (.int .u32 (x.gid:Int)):=aa hE 4;have d5:w0.cell? ⟨w.heap.size,5,none⟩=some (.slice A x.n c):=aa hE 5;have d6:w0.cell? ⟨w.heap.size,6,none⟩=some (.string x.to):=aa hE 6;have xt: ∀W A1 vR base,Below w.heap.size w W->Hid (OwnS W base A1 vR L)->m+1<=vR->Calls Tryz.prog 134 #[.pointer (some ⟨fs,0,none⟩), .slice A1 (m+1) vR] W fun e w'=>e= .returned (atV F ad (atM F 0 L))/\w'=W:=fun W A1 vR base hb ho hc=>
  eW B fs nb c2 (m+1) vR ad mp F A1 L W (h.below hb) ho.out.strs Bc hc (by omega) (by omega)
 have xR: ∀W A1 vR base,Below w.heap.size w W->Hid (OwnS W base A1 vR L)->m+1<=vR->Calls Tryz.prog 134 #[.pointer (some ⟨fs,0,none⟩), .slice A1 m vR] W fun e w'=>e= .returned (atV F ad (atM F 0 L.dropLast))/\w'=W:=fun W A1 vR base hb ho hc=>
  eW B fs nb c2 m vR ad mp F A1 L.dropLast W (h.below hb) ho.out.strs.front (by rw[List.length_dropLast];omega) (by omega) (by omega) (by omega)
 have Mc:=fun k a W=>jf k a W;have Mk:=fun k a W=>jg k a W;have Hf:=fun x y k a W=>gL x y k a W;have Hg:=fun x y k a W=>fb x y k a W;have HE:=vp hE;have Wi:=vp Bc;have HL:=vp hL
 (rw[<-hL]at ha Cz;rw[ha]at xt;rw[Cz]at xR;have xt: ∀W A1 vR base,Below w.heap.size w W->Hid (OwnS W base A1 vR L)->m+1<=vR->Calls Tryz.prog 134 #[.pointer (some ⟨fs,0,none⟩), .slice A1 (m+1) vR] W fun e w'=>e= .returned .nilIface/\w'=W:=xt;have xR: ∀W A1 vR base,Below w.heap.size w W->Hid (OwnS W base A1 vR L)->m+1<=vR->Calls Tryz.prog 134 #[.pointer (some ⟨fs,0,none⟩), .slice A1 m vR] W fun e w'=>e= .returned (aX (ak F up) (ad up))/\w'=W:=xR;clear ha Cz)
 have Ak:=zo;unfold Ent.val at Ak⊢;have KZ:=vp Ak;have Dy:=vp xt;have CQ:=vp xR;have wD:=vp vT;have HH:=vp h;have HM:=vp hm;clear zo Ak xt xR vT h hm hE Bc hL xY CD CE;go_enter Tryz.func82,Tryz.ntmps82;go_upto_region 1 with(fail);rw[<-wD.out];go_upto_region 7 with(first
  |(go_at_call 133;refine(KZ.out _).mono ?_;rintro e w1 ⟨A1,vR,rfl,wu,vY,yr⟩)
  |(go_at_call 134;refine(Dy.out _ _ _ _ (vU.trans (vY.out.mono vU.size)) wu yr).mono ?_;rintro e w2 ⟨rfl,rfl⟩)
  |fail)
 go_wp2_with (first
  |(go_at_call 134;refine(CQ.out _ _ _ _ (vU.trans (vY.out.mono vU.size)) wu yr).mono ?_;rintro e w3 ⟨rfl,rfl⟩)
  |fail)
 go_ret;have hb:=vU.trans (vY.out.mono vU.size);exact⟨rfl,⟨nb,c2,ad,mp,HH.out.below hb⟩,hb.mono hB⟩
end
section
open Go.RowKit Go.Sort
variable {L:List ByteArray}
theorem nv {m:Nat} (h:m+1=L.length): ∃s,L[m]? =some s/\L.getLastD ⟨#[]⟩=s/\L=L.dropLast++[s]:=by
 have wg:L≠[]:=fun e=>by rw[e]at h;cases h
 have h1:L=L.dropLast++[L.getLast wg]:=(List.dropLast_concat_getLast wg).symm;refine⟨L.getLast wg,?_,?_,h1⟩
 ·rw[List.getLast_eq_getElem];have:L.length-1=m:=(by omega);simp only[this];exact vv (by omega)
 ·cases L with
  |nil=>exact absurd rfl wg
  |cons a l=>rfl
theorem ua {F:List Nd} {s:ByteArray} {up:Nat} (hL:L=L.dropLast++[s]) (h1:atM F 0 L=none) (h2:atM F 0 L.dropLast=some up) (hk:ak F up=2): ∀y∈aG F up,y.1≠s:=by
 rw[hL,atM_snoc,h2]at h1;simp only at h1;refine rt ?_;cases hc:cS (aG F up) s with
 |none=>rfl
 |some j=>rw[atM_go hk hc]at h1;cases h1
theorem sm (B fs nb c2 c up:Nat) (ad mp:Nat->Nat) (F:List Nd) (x:Ent) (A:Option Addr) (w:World) (h:FsIs w B fs nb c2 ad mp F) (hp:x.path.size<=1000000000) (ht:x.to.size<=1000000000) (hn:x.n<=9223372036854775807) (hB:B<=w.heap.size) (hm:may x=0) (hF:F.length<=1000)
  (hA:av w A x.n x.dat) (KO:eJ A x.n c)
  (ha:atM F 0 (ar x.path)=none) (Cz:atM F 0 (ar x.path).dropLast=some up) (hk:ak F up=2):
  Calls Tryz.prog 82 #[.pointer (some ⟨fs,0,none⟩),x.val A c] w (bY B fs F x w):=by
 have xk:=mo (F:=F) (e:=x) h.ok (by rw[ky hm ha Cz hk]);unfold bY;rw[ky hm ha Cz hk]at xk⊢;have yZ:=uI _ h.ok.pos Cz;have Mu:=fun W=>gm (ak F up) (ad up) W;rw[if_pos hk,vG hk]at Mu;obtain⟨N,hN⟩: ∃N,N=F.length:=⟨_,rfl⟩;have hNf:N<=1000:=(by omega);obtain⟨V,hV⟩: ∃V,V=aX (ak F up) (ad up):=⟨_,rfl⟩;have we:=eG hm;obtain⟨L,hL⟩: ∃L,L=ar x.path:=⟨_,rfl⟩;obtain⟨_,_,_,xY,_,CD,_⟩:=eG hm;have CE:L.length<=201:=(by rw[hL];have h1:=(da xY).2.1;have:=bd x.path;omega);obtain⟨m,Bc⟩: ∃m,m+1=L.length:=⟨L.length-1,by
  have:0<L.length:=List.length_pos_iff.2 (by rw[hL];exact CD);omega⟩
 have YL:m<=200:=(by omega);have zo: ∀W,Calls Tryz.prog 133 #[x.val A c] W fun e w'=> ∃A1 vR,e= .returned (.tuple #[.slice A1 (m+1) vR, .int .i64 0])/\Hid (OwnS w' W.heap.size A1 vR L)/\Hid (Below W.heap.size W w')/\m+1<=vR:=fun W=>by
  refine(dQ x A c W hp ht hn).mono ?_;rintro e w' ⟨A1,vR,l1,rfl,wK,vS,xB,wS⟩;have h9:=xB hm;rw[<-hL]at h9;subst h9;refine⟨A1,vR,by rw[hm,Bc],vp wK,vp vS,?_⟩;rcases wK.form with⟨_,e,_⟩|⟨g,_,_,_,e⟩
  ·rw[e]at Bc;cases Bc
  ·omega
 obtain⟨w0,vT⟩: ∃w0,w0=w.alloc (.cells #[.string x.path, .int .u8 (x.kind:Int), .int .u16 (x.mode:Int), .int .u32 (x.uid:Int), .int .u32 (x.gid:Int), .slice A x.n c, .string x.to] 93):=⟨_,rfl⟩;have vU:Below w.heap.size w w0:=(by rw[vT];exact vr);have hE:w0.heap[w.heap.size]? =some (.cells #[.string x.path, .int .u8 (x.kind:Int), .int .u16 (x.mode:Int), .int .u32 (x.uid:Int), .int .u32 (x.gid:Int), .slice A x.n c, .string x.to] 93 (0,0)):=(by rw[vT];exact ab w _);have d0:w0.cell? ⟨w.heap.size,0,none⟩=some (.string x.path):=aa hE 0;have d1:w0.cell? ⟨w.heap.size,1,none⟩=some (.int .u8 (x.kind:Int)):=aa hE 1;have d2:w0.cell? ⟨w.heap.size,2,none⟩=some (.int .u16 (x.mode:Int)):=aa hE 2;have d3:w0.cell? ⟨w.heap.size,3,none⟩=some (.int .u32 (x.uid:Int)):=aa hE 3;have d4:w0.cell? ⟨w.heap.size,4,none⟩=some (.int .u32 (x.gid:Int)):=aa hE 4;have d5:w0.cell? ⟨w.heap.size,5,none⟩=some (.slice A x.n c):=aa hE 5;have d6:w0.cell? ⟨w.heap.size,6,none⟩=some (.string x.to):=aa hE 6;have xt: ∀W A1 vR base,Below w.heap.size w W->Hid (OwnS W base A1 vR L)->m+1<=vR->Calls Tryz.prog 134 #[.pointer (some ⟨fs,0,none⟩), .slice A1 (m+1) vR] W fun e w'=>e= .returned (atV F ad (atM F 0 L))/\w'=W:=fun W A1 vR base hb ho hc=>
  eW B fs nb c2 (m+1) vR ad mp F A1 L W (h.below hb) ho.out.strs Bc hc (by omega) (by omega)
 have xR: ∀W A1 vR base,Below w.heap.size w W->Hid (OwnS W base A1 vR L)->m+1<=vR->Calls Tryz.prog 134 #[.pointer (some ⟨fs,0,none⟩), .slice A1 m vR] W fun e w'=>e= .returned (atV F ad (atM F 0 L.dropLast))/\w'=W:=fun W A1 vR base hb ho hc=>
  eW B fs nb c2 m vR ad mp F A1 L.dropLast W (h.below hb) ho.out.strs.front (by rw[List.length_dropLast];omega) (by omega) (by omega) (by omega)
 have Mc:=fun k a W=>jf k a W;have Mk:=fun k a W=>jg k a W;have Hf:=fun x y k a W=>gL x y k a W;have Hg:=fun x y k a W=>fb x y k a W;have HE:=vp hE;have Wi:=vp Bc;have HL:=vp hL
 (rw[<-hL]at ha Cz;have KC:=xt;rw[ha]at KC;have KB:=xR;rw[Cz]at KB;clear xt xR;have xt: ∀W A1 vR base,Below w.heap.size w W->Hid (OwnS W base A1 vR L)->m+1<=vR->Calls Tryz.prog 134 #[.pointer (some ⟨fs,0,none⟩), .slice A1 (m+1) vR] W fun e w'=>e= .returned .nilIface/\w'=W:=KC;have xR: ∀W A1 vR base,Below w.heap.size w W->Hid (OwnS W base A1 vR L)->m+1<=vR->Calls Tryz.prog 134 #[.pointer (some ⟨fs,0,none⟩), .slice A1 m vR] W fun e w'=>e= .returned (aX (ak F up) (ad up))/\w'=W:=KB;have HAA:=vp ha;have HAA2:=vp Cz;have FX:=vp hk;have Ey:=vp hN;have QX:=vp xk;have Le:=vp we;have XO:=vp hA;have XH:=vp KO;have Zf:=fb;clear ha Cz KC KB hk hN xk hV we hA KO)
 have Ak:=zo;unfold Ent.val at Ak⊢;have KZ:=vp Ak;have Dy:=vp xt;have CQ:=vp xR;have wD:=vp vT;have HH:=vp h;have HM:=vp hm;clear zo Ak xt xR vT h hm hE Bc hL xY CD CE;go_enter Tryz.func82,Tryz.ntmps82;go_upto_region 1 with(fail);rw[<-wD.out];go_upto_region 7 with(first
  |(go_at_call 133;refine(KZ.out _).mono ?_;rintro e w1 ⟨A1,vR,rfl,wu,vY,yr⟩)
  |(go_at_call 134;refine(Dy.out _ _ _ _ (vU.trans (vY.out.mono vU.size)) wu yr).mono ?_;rintro e w2 ⟨rfl,rfl⟩)
  |fail)
 go_upto_region 13 with(first
  |(go_at_call 134;refine(CQ.out _ _ _ _ (vU.trans (vY.out.mono vU.size)) wu yr).mono ?_;rintro e w3 ⟨rfl,rfl⟩)
  |fail)
 clear d0 d1 d2 d3 d4 d5 d6;have xr:w.heap.size<w0.heap.size:=(vo HE.out).1;have zd:Below w.heap.size w w3:=vU.trans (vY.out.mono vU.size);have vV:=(vY.out.block _ xr).trans HE.out;obtain⟨s,hs,hsL,hsD⟩:=nv Wi.out;obtain⟨g,Uj,yc,yi⟩: ∃g,A1=some ⟨g,0,none⟩/\w0.heap.size<=g/\g<w3.heap.size:=by
  rcases wu.out.form with⟨_,e,_⟩|⟨g,e1,e2,e3,_⟩
  ·exfalso;have:=Wi.out;rw[e]at this;cases this
  ·exact⟨g,e1,e2,e3⟩
 subst Uj;have XC:=HH.out.below zd;have cg:w3.cell? ⟨g,m,none⟩=some (.string s):=OwnS.elem wu.out hs;have e1:w3.cell? ⟨w.heap.size,1,none⟩=some (.int .u8 (x.kind:Int)):=aa vV 1;have e2:w3.cell? ⟨w.heap.size,2,none⟩=some (.int .u16 (x.mode:Int)):=aa vV 2;have e3:w3.cell? ⟨w.heap.size,3,none⟩=some (.int .u32 (x.uid:Int)):=aa vV 3;have e4:w3.cell? ⟨w.heap.size,4,none⟩=some (.int .u32 (x.gid:Int)):=aa vV 4;have e5:w3.cell? ⟨w.heap.size,5,none⟩=some (.slice A x.n c):=aa vV 5;have e8:w3.cell? ⟨fs,0,none⟩=some (.slice (some ⟨nb,0,none⟩) N c2):=(by rw[Ey.out];exact aa XC.self 0);have l1:fs<w3.heap.size:=(vo XC.self).1;have l2:w.heap.size<w3.heap.size:=(vo vV).1;have xV:=vp vV;have LK:=vp XC;have KV:=vp hsL;have FI:=vp (ua hsD HAA.out HAA2.out FX.out);have Jk:=vp zd;clear vV XC hs hsL hsD zd;have YK:(m:Int)<(m:Int)+1:=(by omega);go_region_held3 (fun w'=>w'.cell? ⟨w.heap.size,1,none⟩=some (.int .u8 (x.kind:Int))/\w'.cell? ⟨w.heap.size,2,none⟩=some (.int .u16 (x.mode:Int))/\w'.cell? ⟨w.heap.size,3,none⟩=some (.int .u32 (x.uid:Int))/\w'.cell? ⟨w.heap.size,4,none⟩=some (.int .u32 (x.gid:Int))/\w'.cell? ⟨w.heap.size,5,none⟩=some (.slice A x.n c)/\w'.cell? ⟨fs,0,none⟩=some (.slice (some ⟨nb,0,none⟩) N c2)/\w'.cell? ⟨g,m,none⟩=some (.string s))
  (go_keep)
  (fail)
 go_upto_region 14 with(fail);obtain⟨w4,yE⟩: ∃w4,w4=(w3.alloc (.cells #[.int .u8 (x.kind:Int), .int .u16 (x.mode:Int), .int .u32 (x.uid:Int), .int .u32 (x.gid:Int), .int .i64 (x.n:Int), .int .i64 (N:Int), .pointer (some ⟨ad up,0,none⟩), .string s] 165)).drew:=⟨_,rfl⟩;rw[<-yE];have BZ:w4.heap[w3.heap.size]? =some (.cells #[.int .u8 (x.kind:Int), .int .u16 (x.mode:Int), .int .u32 (x.uid:Int), .int .u32 (x.gid:Int), .int .i64 (x.n:Int), .int .i64 (N:Int), .pointer (some ⟨ad up,0,none⟩), .string s] 165 (0,0)):=(by rw[yE];exact ab w3 _);have Iy:Below w3.heap.size w3 w4:=(by rw[yE];exact vr.drew);have AZ:=Iy.size;have l3:w3.heap.size<w4.heap.size:=(vo BZ).1;clear e1 e2 e3 e4 e5 e8;have e1:w4.cell? ⟨w.heap.size,1,none⟩=some (.int .u8 (x.kind:Int)):=(Iy.cell l2).trans (aa xV.out 1);have e5:w4.cell? ⟨w.heap.size,5,none⟩=some (.slice A x.n c):=(Iy.cell l2).trans (aa xV.out 5);have e6:w4.cell? ⟨w.heap.size,6,none⟩=some (.string x.to):=(Iy.cell l2).trans (aa xV.out 6);have x0:w4.cell? ⟨w3.heap.size,0,none⟩=some (.int .u8 (x.kind:Int)):=aa BZ 0;have x1:w4.cell? ⟨w3.heap.size,1,none⟩=some (.int .u16 (x.mode:Int)):=aa BZ 1;have x2:w4.cell? ⟨w3.heap.size,2,none⟩=some (.int .u32 (x.uid:Int)):=aa BZ 2;have x3:w4.cell? ⟨w3.heap.size,3,none⟩=some (.int .u32 (x.gid:Int)):=aa BZ 3;have x4:w4.cell? ⟨w3.heap.size,4,none⟩=some (.int .i64 (x.n:Int)):=aa BZ 4;have x5:w4.cell? ⟨w3.heap.size,5,none⟩=some (.int .i64 (N:Int)):=aa BZ 5;have x6:w4.cell? ⟨w3.heap.size,6,none⟩=some (.pointer (some ⟨ad up,0,none⟩)):=aa BZ 6;have x7:w4.cell? ⟨w3.heap.size,7,none⟩=some (.string s):=aa BZ 7;have xj:=vp BZ;have MY:=vp Iy;clear BZ Iy yE Mc Mk Hf Hg Zf Mu;have TW:x.kind=1\/x.kind=2\/x.kind=3:=(by have:=Le.out;omega);have HXK:=vp TW;clear TW;rcases HXK.out with Ni|Ni|Ni
 ·have ya:((x.kind:Nat):Int)=1:=(by omega);have t1:(((x.kind:Nat):Int)==2)=false:=(by rw[ya];decide);have t2:(((x.kind:Nat):Int)==1)=true:=(by rw[ya];decide);have zU:=vp Ni;have hxn:x.n<=1000000:=(by have:=Le.out;omega);have Vs: ∀W,Below w4.heap.size w4 W->av W A x.n x.dat:=fun W hW=>XO.out.kept (Jk.out.trans ((MY.out.trans (hW.mono AZ)).mono (by have:=Jk.out.size;omega)));have HBV4:=vp Vs;have OT:w.heap.size<=w4.heap.size:=(by omega);clear Ni ya Vs;go_upto_region 20 with(fail);go_region_with
   ((
    first
    |(go_at_call 135;refine(uy A x.n c x.dat _ XH.out hxn (HBV4.out _ ((vO _ _).drew))).mono ?_;rintro e w6 ⟨A6,cd,rfl,Cm,Az⟩;have BK:Below w4.heap.size w4 w6:=((vO w4.heap.size w4).drew).trans Az;have y0:=(BK.cell (p:=⟨w3.heap.size,0,none⟩) l3).trans x0;have y1:=(BK.cell (p:=⟨w3.heap.size,1,none⟩) l3).trans x1;have y2:=(BK.cell (p:=⟨w3.heap.size,2,none⟩) l3).trans x2;have y3:=(BK.cell (p:=⟨w3.heap.size,3,none⟩) l3).trans x3;have y4:=(BK.cell (p:=⟨w3.heap.size,4,none⟩) l3).trans x4;have y5:=(BK.cell (p:=⟨w3.heap.size,5,none⟩) l3).trans x5;have y6:=(BK.cell (p:=⟨w3.heap.size,6,none⟩) l3).trans x6;have y7:=(BK.cell (p:=⟨w3.heap.size,7,none⟩) l3).trans x7;have Lb:=vp Cm;clear Cm Az)))
  all_goals
   (
  go_upto_region 21 with(fail);obtain⟨w7,yv⟩: ∃w7,w7=w6.alloc (.cells #[.int .u8 (x.kind:Int), .int .u16 (x.mode:Int), .int .u32 (x.uid:Int), .int .u32 (x.gid:Int), .int .i64 (x.n:Int), .int .i64 (N:Int), .pointer (some ⟨ad up,0,none⟩), .string s, .slice A6 x.n cd] 227):=⟨_,rfl⟩;rw[<-yv];have OP:=BK.size;have CU:w7.heap[w6.heap.size]? =some (.cells #[.int .u8 (x.kind:Int), .int .u16 (x.mode:Int), .int .u32 (x.uid:Int), .int .u32 (x.gid:Int), .int .i64 (x.n:Int), .int .i64 (N:Int), .pointer (some ⟨ad up,0,none⟩), .string s, .slice A6 x.n cd] 227 (0,0)):=(by rw[yv];exact ab w6 _);have Fx:Below w4.heap.size w4 w7:=(by rw[yv];exact BK.alloc OP _);have MN:=vp (Lb.out.below (w':=w7) (by rw[yv];exact vr));clear yv y0 y1 y2 y3 y4 y5 y6 y7;have Rw:=Fx.size;have AM:Below w3.heap.size w3 w7:=MY.out.trans (Fx.mono AZ);have FD:=LK.out.below AM;have Ja:eR w7 (w6.heap.size) F.length (0) (ad up) (bB x up s):=⟨_,_,(by rw[<-Ey.out];exact CU),(fun e=>absurd (show x.kind=2 from e) (by rw[zU.out];decide)),(fun _ =>⟨rfl,A6,cd,rfl,MN.out.1,MN.out.2.1,MN.out.2.2⟩),(fun e=>absurd (show x.kind=3 from e) (by rw[zU.out];decide))⟩;have Up:=(vo LK.out.self).1;have TD:=jE LK.out.row;have hV:(aX (ak (F++[bB x up s]) F.length) (upd ad F.length (w6.heap.size) F.length))= .iface 225 (.pointer (some ⟨w6.heap.size,0,none⟩)):=(by
   rw[af];have e:ak (F++[bB x up s]) F.length=x.kind:=(by
    unfold ak;rw[vy (vs _)];simp[bB])
   rw[e,zU.out];rfl)
  have zx:bF w7.drew (mp up) (aG F up) (fun j=>aX (ak (F++[bB x up s]) j) (upd ad F.length (w6.heap.size) j)):=((FD.names up FX.out).congr (fun y hy=>(by
   have hl:=(bA hy).1;rw[cE _ hl,ag _ _ (by omega)]))).same rfl
  obtain⟨w8,FP,Me,zz,Nf⟩:=zx.put s F.length FI.out;have zb:Mod (fun b=>b=mp up) w7 w8:=zz.undrew;have Gp:(Instr.mapUpdate 166 (.map (some (mp up))) (.string s) (.iface 225 (.pointer (some ⟨w6.heap.size,0,none⟩)))).run Tryz.prog w7.drew= .ok () w8:=(by rw[<-hV];exact FP);have z1:w7.cell? ⟨ad up,8,none⟩=some (.map (some (mp up))):=FD.mapCell FX.out;have z2:w7.cell? ⟨g,m,none⟩=some (.string s):=(AM.cell (p:=⟨g,m,none⟩) yi).trans cg;have Ah:=vp FD;have Wg:=vp Ja;have Wf:=vp Me;have FF:=vp zb;have FK:=vp AM;have Wh:Hid ((bB x up s).kind=2->(∃wW,w7.heap[0]? =some (.map #[] wW))/\B<=0/\ ∀i,ak F i=2->0≠mp i):=vp (fun e=>absurd (show x.kind=2 from e) (by rw[zU.out];decide));have DW:Hid (w6.heap.size≠fs/\w6.heap.size≠nb/\B<=w6.heap.size):=vp (by have:=Jk.out.size;exact⟨by omega,by omega,by omega⟩);clear FD Ja Me zb zz AM FP hV zx Nf;go_upto_region 21 with(fail);go_region
  all_goals
   have s8:=(FF.out.block fs (by have:=FK.out.size;omega) (fun e=>by
    obtain⟨es,wW,e1⟩:=Ah.out.mapBlock FX.out;have e2:=Ah.out.self;rw[e,e1]at e2;cases e2)).trans Ah.out.self
   have nm:nb≠mp up:=(fun e=>by
    obtain⟨es,wW,e1⟩:=Ah.out.mapBlock FX.out;obtain⟨cs,f,e2⟩:=Ah.out.rowBlock;rw[e,e1]at e2;cases e2)
   have nf:nb≠fs:=(fun e=>by
    obtain⟨cs,f,e2⟩:=Ah.out.rowBlock;have e3:=Ah.out.self;rw[e,e3]at e2;injection e2 with e2;injection e2 with _ e2 _;exact absurd e2 (by decide))
   have r8:=gz Ah.out.row (FF.out.block nb (jE Ah.out.row) nm);have v1:w8.cell? ⟨fs,0,none⟩=some (.slice (some ⟨nb,0,none⟩) N c2):=(by rw[Ey.out];exact aa s8 0);have v2:=ae s8 0;have lfs8:=(vo s8).1;have NZ:N<=c2:=(by
    obtain⟨cur,_,e3,_⟩:=dV r8;rw[Ey.out];exact e3)
   have VM:=vp s8;have FV:=vp r8;clear s8 r8 Gp z1 z2;go_wp2_with (first
    |(at_builtin;refine uN rfl (.tmp 102) (.tmp 104) rfl nb c2 N F ad Ey.out rfl (World.ownsRow.alloc FV.out _) (.iface 225 (.pointer (some ⟨w6.heap.size,0,none⟩))) rfl w8.heap.size 1 rfl (ab _ _) (by omega) ?_;intro g9 c9 w9 Ij EG Fz TN;have s9:=(EG.block fs (by simp;omega) (by simpa using fun e=>nf (Eq.symm e))).trans ((vt _ _ _ (by omega)).trans VM.out);have v3:=aa s9 0;have v4:=ae s9 0;have HS9:=vp s9;have WC:=vp EG;have Wd:=vp Ij;have Lr:=vp Fz;clear s9 EG Ij Fz)
    |fail)
   go_ret;obtain⟨BC,BB⟩:=lS (y:=bB x up s) (up:=up) Ah.out rfl yZ FX.out (by have h9:=QX.out.1;rw[<-HL.out,KV.out]at h9;exact h9) Wg.out DW.out.1 DW.out.2.1 DW.out.2.2 Wh.out Wf.out FF.out WC.out (by have h9:=Wd.out;have e9:aX (bB x up s).kind (w6.heap.size)= .iface 225 (.pointer (some ⟨w6.heap.size,0,none⟩)):=(by show aX x.kind _ =_;rw[zU.out];rfl);rw[e9];exact h9) Lr.out;rw[<-Ey.out]at BC BB;have eL:(ar x.path).getLastD ⟨#[]⟩=s:=(by rw[<-HL.out];exact KV.out);refine⟨rfl,⟨g9,c9,upd ad N (w6.heap.size),upd mp N (0),(by rw[eL];exact BC)⟩,?_⟩;exact(Jk.out.mono hB).trans ((FK.out.mono (by have:=Jk.out.size;omega)).trans BB))
 ·have ya:((x.kind:Nat):Int)=2:=(by omega);have t1:(((x.kind:Nat):Int)==2)=true:=(by rw[ya];decide);have zU:=vp Ni;have CT:= @run_makeMap Tryz.prog;clear Ni ya;go_upto_region 21 with(fail);obtain⟨w7,yv⟩: ∃w7,w7=(w4.alloc (.map #[] 0)).alloc (.cells #[.int .u8 (x.kind:Int), .int .u16 (x.mode:Int), .int .u32 (x.uid:Int), .int .u32 (x.gid:Int), .int .i64 (x.n:Int), .int .i64 (N:Int), .pointer (some ⟨ad up,0,none⟩), .string s, .map (some w4.heap.size)] 168):=⟨_,rfl⟩;rw[<-yv];have CU:w7.heap[w4.heap.size+1]? =some (.cells #[.int .u8 (x.kind:Int), .int .u16 (x.mode:Int), .int .u32 (x.uid:Int), .int .u32 (x.gid:Int), .int .i64 (x.n:Int), .int .i64 (N:Int), .pointer (some ⟨ad up,0,none⟩), .string s, .map (some w4.heap.size)] 168 (0,0)):=by
   rw[yv];have e:(w4.alloc (.map #[] 0)).heap.size=w4.heap.size+1:=(by simp);rw[<-e];exact ab _ _
  have Og:w7.heap[w4.heap.size]? =some (.map #[] 0):=(by rw[yv];exact(vt _ _ _ (by simp)).trans (ab _ _));have Fx:Below w4.heap.size w4 w7:=(by rw[yv];exact vr.alloc (by simp) _);have NC: ∀i,ak F i=2->mp i<w3.heap.size:=fun i hi=>by
   obtain⟨es,wW,e1⟩:=LK.out.mapBlock hi;exact(vo e1).1
  have IL:=vp Og;have HMPL:=vp NC;clear yv CT Og NC;have Rw:=Fx.size;have AM:Below w3.heap.size w3 w7:=MY.out.trans (Fx.mono AZ);have FD:=LK.out.below AM;have Ja:eR w7 (w4.heap.size+1) F.length (w4.heap.size) (ad up) (bB x up s):=⟨_,_,(by rw[<-Ey.out];exact CU),(fun _ =>⟨rfl,rfl⟩),(fun e=>absurd (show x.kind=1 from e) (by rw[zU.out];decide)),(fun e=>absurd (show x.kind=3 from e) (by rw[zU.out];decide))⟩;have Up:=(vo LK.out.self).1;have TD:=jE LK.out.row;have hV:(aX (ak (F++[bB x up s]) F.length) (upd ad F.length (w4.heap.size+1) F.length))= .iface 163 (.pointer (some ⟨w4.heap.size+1,0,none⟩)):=(by
   rw[af];have e:ak (F++[bB x up s]) F.length=x.kind:=(by
    unfold ak;rw[vy (vs _)];simp[bB])
   rw[e,zU.out];rfl)
  have zx:bF w7.drew (mp up) (aG F up) (fun j=>aX (ak (F++[bB x up s]) j) (upd ad F.length (w4.heap.size+1) j)):=((FD.names up FX.out).congr (fun y hy=>(by
   have hl:=(bA hy).1;rw[cE _ hl,ag _ _ (by omega)]))).same rfl
  obtain⟨w8,FP,Me,zz,Nf⟩:=zx.put s F.length FI.out;have zb:Mod (fun b=>b=mp up) w7 w8:=zz.undrew;have Gp:(Instr.mapUpdate 166 (.map (some (mp up))) (.string s) (.iface 163 (.pointer (some ⟨w4.heap.size+1,0,none⟩)))).run Tryz.prog w7.drew= .ok () w8:=(by rw[<-hV];exact FP);have z1:w7.cell? ⟨ad up,8,none⟩=some (.map (some (mp up))):=FD.mapCell FX.out;have z2:w7.cell? ⟨g,m,none⟩=some (.string s):=(AM.cell (p:=⟨g,m,none⟩) yi).trans cg;have Ah:=vp FD;have Wg:=vp Ja;have Wf:=vp Me;have FF:=vp zb;have FK:=vp AM;have Wh:Hid ((bB x up s).kind=2->(∃wW,w7.heap[w4.heap.size]? =some (.map #[] wW))/\B<=w4.heap.size/\ ∀i,ak F i=2->w4.heap.size≠mp i):=vp (fun _ =>⟨⟨0,IL.out⟩,(by have:=Jk.out.size;omega),(fun i hi=>by have:=HMPL.out i hi;omega)⟩);have DW:Hid (w4.heap.size+1≠fs/\w4.heap.size+1≠nb/\B<=w4.heap.size+1):=vp (by have:=Jk.out.size;exact⟨by omega,by omega,by omega⟩);clear FD Ja Me zb zz AM FP hV zx Nf;go_upto_region 21 with(fail);go_region
  all_goals
   have s8:=(FF.out.block fs (by have:=FK.out.size;omega) (fun e=>by
    obtain⟨es,wW,e1⟩:=Ah.out.mapBlock FX.out;have e2:=Ah.out.self;rw[e,e1]at e2;cases e2)).trans Ah.out.self
   have nm:nb≠mp up:=(fun e=>by
    obtain⟨es,wW,e1⟩:=Ah.out.mapBlock FX.out;obtain⟨cs,f,e2⟩:=Ah.out.rowBlock;rw[e,e1]at e2;cases e2)
   have nf:nb≠fs:=(fun e=>by
    obtain⟨cs,f,e2⟩:=Ah.out.rowBlock;have e3:=Ah.out.self;rw[e,e3]at e2;injection e2 with e2;injection e2 with _ e2 _;exact absurd e2 (by decide))
   have r8:=gz Ah.out.row (FF.out.block nb (jE Ah.out.row) nm);have v1:w8.cell? ⟨fs,0,none⟩=some (.slice (some ⟨nb,0,none⟩) N c2):=(by rw[Ey.out];exact aa s8 0);have v2:=ae s8 0;have lfs8:=(vo s8).1;have NZ:N<=c2:=(by
    obtain⟨cur,_,e3,_⟩:=dV r8;rw[Ey.out];exact e3)
   have VM:=vp s8;have FV:=vp r8;clear s8 r8 Gp z1 z2;go_wp2_with (first
    |(at_builtin;refine uN rfl (.tmp 102) (.tmp 104) rfl nb c2 N F ad Ey.out rfl (World.ownsRow.alloc FV.out _) (.iface 163 (.pointer (some ⟨w4.heap.size+1,0,none⟩))) rfl w8.heap.size 1 rfl (ab _ _) (by omega) ?_;intro g9 c9 w9 Ij EG Fz TN;have s9:=(EG.block fs (by simp;omega) (by simpa using fun e=>nf (Eq.symm e))).trans ((vt _ _ _ (by omega)).trans VM.out);have v3:=aa s9 0;have v4:=ae s9 0;have HS9:=vp s9;have WC:=vp EG;have Wd:=vp Ij;have Lr:=vp Fz;clear s9 EG Ij Fz)
    |fail)
   go_ret;obtain⟨BC,BB⟩:=lS (y:=bB x up s) (up:=up) Ah.out rfl yZ FX.out (by have h9:=QX.out.1;rw[<-HL.out,KV.out]at h9;exact h9) Wg.out DW.out.1 DW.out.2.1 DW.out.2.2 Wh.out Wf.out FF.out WC.out (by have h9:=Wd.out;have e9:aX (bB x up s).kind (w4.heap.size+1)= .iface 163 (.pointer (some ⟨w4.heap.size+1,0,none⟩)):=(by show aX x.kind _ =_;rw[zU.out];rfl);rw[e9];exact h9) Lr.out;rw[<-Ey.out]at BC BB;have eL:(ar x.path).getLastD ⟨#[]⟩=s:=(by rw[<-HL.out];exact KV.out);refine⟨rfl,⟨g9,c9,upd ad N (w4.heap.size+1),upd mp N (w4.heap.size),(by rw[eL];exact BC)⟩,?_⟩;exact(Jk.out.mono hB).trans ((FK.out.mono (by have:=Jk.out.size;omega)).trans BB)
 ·have ya:((x.kind:Nat):Int)=3:=(by omega);have t1:(((x.kind:Nat):Int)==2)=false:=(by rw[ya];decide);have t2:(((x.kind:Nat):Int)==1)=false:=(by rw[ya];decide);have zU:=vp Ni;clear Ni ya;go_upto_region 21 with(fail);obtain⟨w7,yv⟩: ∃w7,w7=w4.alloc (.cells #[.int .u8 (x.kind:Int), .int .u16 (x.mode:Int), .int .u32 (x.uid:Int), .int .u32 (x.gid:Int), .int .i64 (x.n:Int), .int .i64 (N:Int), .pointer (some ⟨ad up,0,none⟩), .string s, .string x.to] 230):=⟨_,rfl⟩;rw[<-yv];have CU:w7.heap[w4.heap.size]? =some (.cells #[.int .u8 (x.kind:Int), .int .u16 (x.mode:Int), .int .u32 (x.uid:Int), .int .u32 (x.gid:Int), .int .i64 (x.n:Int), .int .i64 (N:Int), .pointer (some ⟨ad up,0,none⟩), .string s, .string x.to] 230 (0,0)):=(by rw[yv];exact ab w4 _);have Fx:Below w4.heap.size w4 w7:=(by rw[yv];exact vr);clear yv;have Rw:=Fx.size;have AM:Below w3.heap.size w3 w7:=MY.out.trans (Fx.mono AZ);have FD:=LK.out.below AM;have Ja:eR w7 (w4.heap.size) F.length (0) (ad up) (bB x up s):=⟨_,_,(by rw[<-Ey.out];exact CU),(fun e=>absurd (show x.kind=2 from e) (by rw[zU.out];decide)),(fun e=>absurd (show x.kind=1 from e) (by rw[zU.out];decide)),(fun _ =>⟨rfl,rfl⟩)⟩;have Up:=(vo LK.out.self).1;have TD:=jE LK.out.row;have hV:(aX (ak (F++[bB x up s]) F.length) (upd ad F.length (w4.heap.size) F.length))= .iface 228 (.pointer (some ⟨w4.heap.size,0,none⟩)):=(by
   rw[af];have e:ak (F++[bB x up s]) F.length=x.kind:=(by
    unfold ak;rw[vy (vs _)];simp[bB])
   rw[e,zU.out];rfl)
  have zx:bF w7.drew (mp up) (aG F up) (fun j=>aX (ak (F++[bB x up s]) j) (upd ad F.length (w4.heap.size) j)):=((FD.names up FX.out).congr (fun y hy=>(by
   have hl:=(bA hy).1;rw[cE _ hl,ag _ _ (by omega)]))).same rfl
  obtain⟨w8,FP,Me,zz,Nf⟩:=zx.put s F.length FI.out;have zb:Mod (fun b=>b=mp up) w7 w8:=zz.undrew;have Gp:(Instr.mapUpdate 166 (.map (some (mp up))) (.string s) (.iface 228 (.pointer (some ⟨w4.heap.size,0,none⟩)))).run Tryz.prog w7.drew= .ok () w8:=(by rw[<-hV];exact FP);have z1:w7.cell? ⟨ad up,8,none⟩=some (.map (some (mp up))):=FD.mapCell FX.out;have z2:w7.cell? ⟨g,m,none⟩=some (.string s):=(AM.cell (p:=⟨g,m,none⟩) yi).trans cg;have Ah:=vp FD;have Wg:=vp Ja;have Wf:=vp Me;have FF:=vp zb;have FK:=vp AM;have Wh:Hid ((bB x up s).kind=2->(∃wW,w7.heap[0]? =some (.map #[] wW))/\B<=0/\ ∀i,ak F i=2->0≠mp i):=vp (fun e=>absurd (show x.kind=2 from e) (by rw[zU.out];decide));have DW:Hid (w4.heap.size≠fs/\w4.heap.size≠nb/\B<=w4.heap.size):=vp (by have:=Jk.out.size;exact⟨by omega,by omega,by omega⟩);clear FD Ja Me zb zz AM FP hV zx Nf;go_upto_region 21 with(fail);go_region
  all_goals
   have s8:=(FF.out.block fs (by have:=FK.out.size;omega) (fun e=>by
    obtain⟨es,wW,e1⟩:=Ah.out.mapBlock FX.out;have e2:=Ah.out.self;rw[e,e1]at e2;cases e2)).trans Ah.out.self
   have nm:nb≠mp up:=(fun e=>by
    obtain⟨es,wW,e1⟩:=Ah.out.mapBlock FX.out;obtain⟨cs,f,e2⟩:=Ah.out.rowBlock;rw[e,e1]at e2;cases e2)
   have nf:nb≠fs:=(fun e=>by
    obtain⟨cs,f,e2⟩:=Ah.out.rowBlock;have e3:=Ah.out.self;rw[e,e3]at e2;injection e2 with e2;injection e2 with _ e2 _;exact absurd e2 (by decide))
   have r8:=gz Ah.out.row (FF.out.block nb (jE Ah.out.row) nm);have v1:w8.cell? ⟨fs,0,none⟩=some (.slice (some ⟨nb,0,none⟩) N c2):=(by rw[Ey.out];exact aa s8 0);have v2:=ae s8 0;have lfs8:=(vo s8).1;have NZ:N<=c2:=(by
    obtain⟨cur,_,e3,_⟩:=dV r8;rw[Ey.out];exact e3)
   have VM:=vp s8;have FV:=vp r8;clear s8 r8 Gp z1 z2;go_wp2_with (first
    |(at_builtin;refine uN rfl (.tmp 102) (.tmp 104) rfl nb c2 N F ad Ey.out rfl (World.ownsRow.alloc FV.out _) (.iface 228 (.pointer (some ⟨w4.heap.size,0,none⟩))) rfl w8.heap.size 1 rfl (ab _ _) (by omega) ?_;intro g9 c9 w9 Ij EG Fz TN;have s9:=(EG.block fs (by simp;omega) (by simpa using fun e=>nf (Eq.symm e))).trans ((vt _ _ _ (by omega)).trans VM.out);have v3:=aa s9 0;have v4:=ae s9 0;have HS9:=vp s9;have WC:=vp EG;have Wd:=vp Ij;have Lr:=vp Fz;clear s9 EG Ij Fz)
    |fail)
   go_ret;obtain⟨BC,BB⟩:=lS (y:=bB x up s) (up:=up) Ah.out rfl yZ FX.out (by have h9:=QX.out.1;rw[<-HL.out,KV.out]at h9;exact h9) Wg.out DW.out.1 DW.out.2.1 DW.out.2.2 Wh.out Wf.out FF.out WC.out (by have h9:=Wd.out;have e9:aX (bB x up s).kind (w4.heap.size)= .iface 228 (.pointer (some ⟨w4.heap.size,0,none⟩)):=(by show aX x.kind _ =_;rw[zU.out];rfl);rw[e9];exact h9) Lr.out;rw[<-Ey.out]at BC BB;have eL:(ar x.path).getLastD ⟨#[]⟩=s:=(by rw[<-HL.out];exact KV.out);refine⟨rfl,⟨g9,c9,upd ad N (w4.heap.size),upd mp N (0),(by rw[eL];exact BC)⟩,?_⟩;exact(Jk.out.mono hB).trans ((FK.out.mono (by have:=Jk.out.size;omega)).trans BB)
end
section
open Go.RowKit Go.Sort
structure vj (w:World) (x:Ent) (A:Option Addr) (c:Nat):Prop where
 path:x.path.size<=1000000000
 link:x.to.size<=1000000000
 n:x.n<=9223372036854775807
 data:av w A x.n x.dat
 ok:eJ A x.n c
variable {w w':World} {x:Ent}
theorem vj.below {A:Option Addr} {c:Nat} (h:vj w x A c) (hb:Below w.heap.size w w'):vj w' x A c:=
 ⟨h.path,h.link,h.n,h.data.kept hb,h.ok⟩
theorem vadd_any (B fs nb c2 c:Nat) (ad mp:Nat->Nat) (F:List Nd) (x:Ent) (A:Option Addr) (w:World) (h:FsIs w B fs nb c2 ad mp F) (hx:vj w x A c) (hB:B<=w.heap.size) (hF:F.length<=1000):
  Calls Tryz.prog 82 #[.pointer (some ⟨fs,0,none⟩),x.val A c] w (bY B fs F x w):=by
 by_cases hm:may x=0
 ·cases ha:atM F 0 (ar x.path)with
  |some j=>exact qw B fs nb c2 c j ad mp F x A w h hx.path hx.link hx.n hB hm hF ha
  |none=>
   cases Cz:atM F 0 (ar x.path).dropLast with
   |none=>exact qx B fs nb c2 c ad mp F x A w h hx.path hx.link hx.n hB hm hF ha Cz
   |some up=>
    by_cases hk:ak F up=2
    ·exact sm B fs nb c2 c up ad mp F x A w h hx.path hx.link hx.n hB hm hF hx.data hx.ok ha Cz hk
    ·exact oa B fs nb c2 c up ad mp F x A w h hx.path hx.link hx.n hB hm hF ha Cz hk
 ·exact vadd_bad B fs nb c2 c ad mp F x A w h hx.path hx.link hx.n hB hm
def EntCells (w:World) (g j:Nat) (x:Ent) (A:Option Addr) (c:Nat):Prop:=
 w.cell? ⟨g,j*7,none⟩=some (.string x.path)/\w.cell? ⟨g,j*7+1,none⟩=some (.int .u8 (x.kind:Int))/\w.cell? ⟨g,j*7+2,none⟩=some (.int .u16 (x.mode:Int))/\w.cell? ⟨g,j*7+3,none⟩=some (.int .u32 (x.uid:Int))/\
 w.cell? ⟨g,j*7+4,none⟩=some (.int .u32 (x.gid:Int))/\w.cell? ⟨g,j*7+5,none⟩=some (.slice A x.n c)/\w.cell? ⟨g,j*7+6,none⟩=some (.string x.to)
def fW (w:World) (P:Option Addr) (l:List Ent):Prop:= ∀(j:Nat) (x:Ent),l[j]? =some x-> ∃g A c,P=some ⟨g,0,none⟩/\g<w.heap.size/\EntCells w g j x A c/\vj w x A c
variable {l:List Ent}
theorem fW.below {P:Option Addr} (h:fW w P l) (hb:Below w.heap.size w w'):fW w' P l:=fun j x hx=>by
 obtain⟨g,A,c,h1,h2,⟨c0,c1,c2,c3,c4,c5,c6⟩,h4⟩:=h j x hx;have hc: ∀i,w'.cell? ⟨g,i,none⟩=w.cell? ⟨g,i,none⟩:=fun i=>hb.cell (p:=⟨g,i,none⟩) h2;refine⟨g,A,c,h1,vw h2 hb.size,⟨?_,?_,?_,?_,?_,?_,?_⟩,h4.below hb⟩
 all_goals(rw[hc];assumption)
variable {F:List Nd} {i:Nat}
theorem nj (h:(addM F x).1=0):newM F i (x::l)=newM (addM F x).2 (i+1) l:=by
 rw[newM,if_neg (by omega)]
theorem fc (h:(addM F x).1≠0):newM F i (x::l)=((addM F x).1,(i:Int),F):=by
 rw[newM,if_pos h]
def dx (l:List Ent) (w:World) (e:Ending) (w':World):Prop:=
 if 64<l.length then e= .returned (.tuple #[.pointer none, .int .i64 15, .int .i64 (-1)])/\Below w.heap.size w w'
 else if(newM [aB] 0 l).1≠0 then e= .returned (.tuple #[.pointer none, .int .i64 (newM [aB] 0 l).1, .int .i64 (newM [aB] 0 l).2.1])/\Below w.heap.size w w'
 else∃fs nb c2 ad mp,e= .returned (.tuple #[.pointer (some ⟨fs,0,none⟩), .int .i64 0, .int .i64 0])/\FsIs w' w.heap.size fs nb c2 ad mp (newM [aB] 0 l).2.2/\Below w.heap.size w w'
theorem fs_root (w:World):FsIs ((((w.alloc (.map #[] 0)).alloc (.cells #[.int .u8 2, .int .u16 493, .int .u32 0, .int .u32 0, .int .i64 0, .int .i64 0, .pointer (some ⟨w.heap.size+1,0,none⟩), .string ⟨#[]⟩, .map (some w.heap.size)] 168)).alloc (.cells #[.iface 163 (.pointer (some ⟨w.heap.size+1,0,none⟩))] 189)).alloc (.cells #[.slice (some ⟨w.heap.size+1+1,0,none⟩) 1 1] 171))
  w.heap.size (w.heap.size+1+1+1) (w.heap.size+1+1) 1 (fun _ =>w.heap.size+1) (fun _ =>w.heap.size) [aB]:=by
 have k0:ak [aB] 0=2:=rfl;have ks: ∀i,ak [aB] i=2->i=0:=fun i h=>by have:=ei h (by omega);simp at this;exact this
 obtain⟨w1,yV⟩: ∃w1,w1=w.alloc (.map #[] 0):=⟨_,rfl⟩;obtain⟨w2,wO⟩: ∃w2,w2=w1.alloc (.cells #[.int .u8 2, .int .u16 493, .int .u32 0, .int .u32 0, .int .i64 0, .int .i64 0, .pointer (some ⟨w.heap.size+1,0,none⟩), .string ⟨#[]⟩, .map (some w.heap.size)] 168):=⟨_,rfl⟩;obtain⟨w3,xq⟩: ∃w3,w3=w2.alloc (.cells #[.iface 163 (.pointer (some ⟨w.heap.size+1,0,none⟩))] 189):=⟨_,rfl⟩;rw[<-yV,<-wO,<-xq];have z1:w1.heap.size=w.heap.size+1:=(by rw[yV];simp);have z2:w2.heap.size=w.heap.size+1+1:=(by rw[wO];simp[z1]);have z3:w3.heap.size=w.heap.size+1+1+1:=(by rw[xq];simp[z2]);have p0:w3.heap[w.heap.size]? =some (.map #[] 0):=by
  rw[xq,wO,yV];exact(vt _ _ _ (by simp;omega)).trans ((vt _ _ _ (by simp)).trans (ab _ _))
 have p1:w3.heap[w.heap.size+1]? =some (.cells #[.int .u8 2, .int .u16 493, .int .u32 0, .int .u32 0, .int .i64 0, .int .i64 0, .pointer (some ⟨w.heap.size+1,0,none⟩), .string ⟨#[]⟩, .map (some w.heap.size)] 168 (0,0)):=by
  have h9:=ab w1 (.cells #[.int .u8 2, .int .u16 493, .int .u32 0, .int .u32 0, .int .i64 0, .int .i64 0, .pointer (some ⟨w.heap.size+1,0,none⟩), .string ⟨#[]⟩, .map (some w.heap.size)] 168);rw[z1,<-wO]at h9;rw[xq];exact(vt _ _ _ (by omega)).trans h9
 have p2:w3.heap[w.heap.size+1+1]? =some (.cells #[.iface 163 (.pointer (some ⟨w.heap.size+1,0,none⟩))] 189 (0,0)):=by
  have h9:=ab w2 (.cells #[.iface 163 (.pointer (some ⟨w.heap.size+1,0,none⟩))] 189);rw[z2,<-xq]at h9;exact h9
 have q: ∀b,b<w3.heap.size->(w3.alloc (.cells #[.slice (some ⟨w.heap.size+1+1,0,none⟩) 1 1] 171)).heap[b]? =w3.heap[b]? :=fun b hb=>vt _ _ _ hb;refine⟨FOk.start,?_,⟨rfl, .inr ⟨w.heap.size+1+1,1,_,rfl,vL _,(q _ (by omega)).trans p2,vs _,by decide,rfl,rfl⟩⟩,?_,?_,?_,by omega,by omega,fun _ _ =>by omega,fun _ _ =>by omega⟩
 ·rw[<-z3];exact ab _ _
 ·intro i y hy;cases i with
  |zero=>
   simp at hy;subst hy;exact⟨_,_,(q _ (by omega)).trans p1,(fun _ =>⟨rfl,rfl⟩),(fun e=>by cases e),(fun e=>by cases e)⟩
  |succ i=>simp at hy
 ·intro i hi;obtain rfl:=ks i hi;exact⟨#[],0,(q _ (by omega)).trans p0,⟨by simp,by simp,by simp⟩,rfl⟩
 ·intro i j hi hj _;rw[ks i hi,ks j hj]
theorem py (P:Option Addr) (n cap:Nat) (l:List Ent) (w:World) (hl:fW w P l) (hn:n=l.length) (xn:n<=cap) (yN:n<=9223372036854775807):
  Calls Tryz.prog 37 #[.slice P n cap] w (dx l w):=by
 by_cases DP:64<n
 ·have hv: ∀e w',(e= .returned (.tuple #[.pointer none, .int .i64 15, .int .i64 (-1)])/\Below w.heap.size w w')->dx l w e w':=fun e w' h=>by
   unfold dx;rw[if_pos (by omega)];exact h
  have HV:=vp hv;clear hv hl hn;go_enter Tryz.func37,Tryz.ntmps37;go_wp2_with fail;go_ret3;exact HV.out _ _ ⟨rfl,vO _ _⟩
 have wY:=fs_root w;obtain⟨w0,vT⟩: ∃w0,w0=((((w.alloc (.map #[] 0)).alloc (.cells #[.int .u8 2, .int .u16 493, .int .u32 0, .int .u32 0, .int .i64 0, .int .i64 0, .pointer (some ⟨w.heap.size+1,0,none⟩), .string ⟨#[]⟩, .map (some w.heap.size)] 168)).alloc (.cells #[.iface 163 (.pointer (some ⟨w.heap.size+1,0,none⟩))] 189)).alloc (.cells #[.slice (some ⟨w.heap.size+1+1,0,none⟩) 1 1] 171)):=⟨_,rfl⟩;rw[<-vT]at wY;have vU:Below w.heap.size w w0:=by
  rw[vT];exact((vr.alloc (by simp) _).alloc (by simp;omega) _).alloc (by simp;omega) _
 have wD:=vp vT;have xe:=vp vU;have DR:=vp wY;have Ez:=vp hn;have GO:=vp hl;have CT:= @run_makeMap Tryz.prog;clear vU vT wY hn hl;go_enter Tryz.func37,Tryz.ntmps37;go_upto_region 6 with(fail);rw[<-wD.out];clear CT;go_wp2_with fail;go_loopw [30] (fun i wr=> ∃k F nb c2 ad mp,k<=n/\i= .int .i64 ((k:Nat):Int)/\FsIs wr w.heap.size (w.heap.size+1+1+1) nb c2 ad mp F/\newM [aB] 0 l=newM F k (l.drop k)/\F.length=k+1/\Below w.heap.size w wr) (fun i _ =>n-(intOf i).toNat)
 case atStart=>exact⟨0,[aB],_,_,_,_,by omega,rfl,DR.out,rfl,rfl,xe.out⟩
 case round=>
  obtain⟨k,F,nb,c2,ad,mp,hk,rfl,hF,hnew,hlen,yd⟩:=hrel;have HF:=vp hF;have yI:=vp hnew;have Dt:=vp hlen;have yD:=vp yd;have OT:=yd.size;clear hF hnew hlen yd;by_cases vW:k<n
  ·obtain⟨x,hx⟩: ∃x,l[k]? =some x:=⟨_,vv (by rw[<-Ez.out];exact vW)⟩;have xM:l.drop k=x::l.drop (k+1):=(List.drop_eq_getElem_cons (by rw[<-Ez.out];exact vW)).trans (by
    obtain⟨h1,h2⟩:=List.getElem?_eq_some_iff.1 hx;rw[h2])
   obtain⟨g,A,c,rfl,hg,⟨c0,c1,c2',c3,c4,c5,c6⟩,hE⟩:=(GO.out.below yD.out) k x hx;have Vi:=HF.out.below ((vO wr.heap.size wr).alloc (vs _) (.cells #[.string x.path, .int .u8 (x.kind:Int), .int .u16 (x.mode:Int), .int .u32 (x.uid:Int), .int .u32 (x.gid:Int), .slice A x.n c, .string x.to] 93));have vV:=hE.below ((vO wr.heap.size wr).alloc (vs _) (.cells #[.string x.path, .int .u8 (x.kind:Int), .int .u16 (x.mode:Int), .int .u32 (x.uid:Int), .int .u32 (x.gid:Int), .slice A x.n c, .string x.to] 93));have yx:=vadd_any w.heap.size (w.heap.size+1+1+1) nb c2 c ad mp F x A _ Vi vV (by simp;omega) (by have:=Dt.out;omega);unfold Ent.val bY at yx;obtain⟨r,hr⟩: ∃r,r=(addM F x).1:=⟨_,rfl⟩;rw[<-hr]at yx;have Xc:=vp yx;have GQ:=vp xM;have yJ:Below w.heap.size w (wr.alloc (.cells #[.string x.path, .int .u8 (x.kind:Int), .int .u16 (x.mode:Int), .int .u32 (x.uid:Int), .int .u32 (x.gid:Int), .slice A x.n c, .string x.to] 93)):=yD.out.alloc OT _;have DW:=vp yJ;by_cases Ci:r=0
   ·have RE:(addM F x).1=0:=(by rw[<-hr];exact Ci);have Bv:=(mo HF.out.ok RE).2.1;have yy:=vp (show newM [aB] 0 l=newM (addM F x).2 (k+1) (l.drop (k+1)) by rw[yI.out,GQ.out,nj RE]);have Wl:=vp (show(addM F x).2.length=k+1+1 by rw[Bv,Dt.out]);subst Ci;clear hr RE yx xM hx hE Vi vV yJ Bv;go_wp2_with (first
     |(go_at_call 82;refine(Xc.out).mono ?_;rintro e w2 ⟨rfl,⟨nb2,c22,ad2,mp2,Vh⟩,wb⟩;have HF2:=vp Vh;have xF:=vp (DW.out.trans wb);clear Vh wb)
     |fail)
    go_roundw
    case rel=>exact⟨k+1,_,nb2,c22,ad2,mp2,by omega,by go_num,HF2.out,yy.out,Wl.out,xF.out⟩
    case measure=>simp[intOf];omega
   ·have RE:(addM F x).1≠0:=(by rw[<-hr];exact Ci);have wg:(r != 0)=true:=(by rw[bne_iff_ne];exact Ci);have yy:=vp (show newM [aB] 0 l=(r,(k:Int),F) by rw[yI.out,GQ.out,fc RE,hr]);have DS:=vp Ci;clear hr RE yx xM hx hE Vi vV yJ Ci;go_wp2_with (first
     |(go_at_call 82;refine(Xc.out).mono ?_;rintro e w2 ⟨rfl,_,wb⟩;have xF:=vp (DW.out.trans wb);clear wb)
     |fail)
    go_ret3;unfold dx;rw[if_neg (by rw[<-Ez.out];exact DP),yy.out,if_pos DS.out];exact⟨rfl,xF.out⟩
  ·obtain rfl:k=n:=(by omega);have yy:=vp (show newM [aB] 0 l=(0,0,F) by rw[yI.out,List.drop_of_length_le (by rw[Ez.out];exact vs _)];rfl);go_wp2_with fail;go_ret3;unfold dx;rw[if_neg (by rw[<-Ez.out];exact DP),yy.out,if_neg (by simp)];exact⟨_,nb,c2,ad,mp,rfl,HF.out,yD.out⟩
end
section
open Go.RowKit Go.Sort
theorem fnode_no (B fs nb c2:Nat) (ad mp:Nat->Nat) (F:List Nd) (ino:Int) (w:World) (h:FsIs w B fs nb c2 ad mp F) (hi:ino<0\/(F.length:Int)<=ino):
  Calls Tryz.prog 106 #[.pointer (some ⟨fs,0,none⟩), .int .i64 ino] w fun e w'=>e= .returned .nilIface/\w'=w:=by
 have c0:w.cell? ⟨fs,0,none⟩=some (.slice (some ⟨nb,0,none⟩) F.length c2):=aa h.self 0;obtain⟨N,hN⟩: ∃N,N=F.length:=⟨_,rfl⟩;rw[<-hN]at c0 hi;clear h hN;rcases hi with hi|hi
 ·go_enter Tryz.func106,Tryz.ntmps106;go_wp2_with fail;go_ret;exact⟨rfl,rfl⟩
 ·have yj: ¬ino<0:=(by omega);go_enter Tryz.func106,Tryz.ntmps106;go_wp2_with fail;go_ret;exact⟨rfl,rfl⟩
theorem ke (B fs nb c2 i:Nat) (ad mp:Nat->Nat) (F:List Nd) (w:World) (h:FsIs w B fs nb c2 ad mp F) (hi:i<F.length):
  Calls Tryz.prog 106 #[.pointer (some ⟨fs,0,none⟩), .int .i64 (i:Int)] w fun e w'=>e= .returned (.iface (tyOf (ak F i)) (.pointer (some ⟨ad i,0,none⟩)))/\w'=w:=by
 have c0:w.cell? ⟨fs,0,none⟩=some (.slice (some ⟨nb,0,none⟩) F.length c2):=aa h.self 0;have c1:w.cell? ⟨nb,i,none⟩=some (.iface (tyOf (ak F i)) (.pointer (some ⟨ad i,0,none⟩))):=h.cell hi;obtain⟨v,hv⟩: ∃v,v=Value.iface (tyOf (ak F i)) (.pointer (some ⟨ad i,0,none⟩)):=⟨_,rfl⟩;rw[<-hv]at c1⊢;obtain⟨N,hN⟩: ∃N,N=F.length:=⟨_,rfl⟩;rw[<-hN]at c0 hi;have Cs:(i:Int)<(N:Int):=(by omega);clear h hN hv;go_enter Tryz.func106,Tryz.ntmps106;go_wp2_with fail;go_ret;exact⟨rfl,rfl⟩
theorem sb (k a:Nat) (w:World) (n:Nat) (hn:n=Tryz.prog.types.size+Made.depth):(method n (tyOf k) (.pointer (some ⟨a,0,none⟩)) "hostel/vfs.about").run Tryz.prog w= .ok (229, .pointer (some ⟨a,0,none⟩)) w:=by
 subst hn;unfold tyOf;split
 ·kernel_rfl
 ·split<;>kernel_rfl
def metaV (y:Nd):Value:= .agg #[.int .u8 (y.kind:Int), .int .u16 (y.mode:Int), .int .u32 (y.uid:Int), .int .u32 (y.gid:Int), .int .i64 (y.n:Int)]
theorem gN (B fs nb c2 i:Nat) (ad mp:Nat->Nat) (F:List Nd) (y:Nd) (w:World) (h:FsIs w B fs nb c2 ad mp F) (hy:F[i]? =some y):
  Calls Tryz.prog 64 #[.pointer (some ⟨fs,0,none⟩), .int .i64 (i:Int)] w fun e w'=>e= .returned (.tuple #[metaV y, .int .i64 0])/\Below w.heap.size w w':=by
 obtain⟨w0,vT⟩: ∃w0,w0=w.alloc (.cells #[.int .u8 0, .int .u16 0, .int .u32 0, .int .u32 0, .int .i64 0] 103):=⟨_,rfl⟩;have vU:Below w.heap.size w w0:=(by rw[vT];exact vr);have hM:w0.heap[w.heap.size]? =some (.cells #[.int .u8 0, .int .u16 0, .int .u32 0, .int .u32 0, .int .i64 0] 103 (0,0)):=(by rw[vT];exact ab w _);have hF:=h.below vU;have Is:=(List.getElem?_eq_some_iff.1 hy).1;obtain⟨T,tail,hN,_⟩:=hF.node i y hy;obtain⟨a,ha⟩: ∃a,a=ad i:=⟨_,rfl⟩;rw[<-ha]at hN;have x0:w0.cell? ⟨a,0,none⟩=some (.int .u8 (y.kind:Int)):=aa hN 0;have x1:w0.cell? ⟨a,1,none⟩=some (.int .u16 (y.mode:Int)):=aa hN 1;have x2:w0.cell? ⟨a,2,none⟩=some (.int .u32 (y.uid:Int)):=aa hN 2;have x3:w0.cell? ⟨a,3,none⟩=some (.int .u32 (y.gid:Int)):=aa hN 3;have x4:w0.cell? ⟨a,4,none⟩=some (.int .i64 (y.n:Int)):=aa hN 4;have y0:w0.cell? ⟨w.heap.size,0,none⟩=some (.int .u8 0):=aa hM 0;have y1:w0.cell? ⟨w.heap.size,1,none⟩=some (.int .u16 0):=aa hM 1;have y2:w0.cell? ⟨w.heap.size,2,none⟩=some (.int .u32 0):=aa hM 2;have y3:w0.cell? ⟨w.heap.size,3,none⟩=some (.int .u32 0):=aa hM 3;have y4:w0.cell? ⟨w.heap.size,4,none⟩=some (.int .i64 0):=aa hM 4;have z0:=ae hM 0;have z1:=ae hM 1;have z2:=ae hM 2;have z3:=ae hM 3;have z4:=ae hM 4;have vW:=(vo hM).1;have AJ: ∀W,W=w0->Calls Tryz.prog 106 #[.pointer (some ⟨fs,0,none⟩), .int .i64 (i:Int)] W fun e w'=>e= .returned (.iface (tyOf (ak F i)) (.pointer (some ⟨a,0,none⟩)))/\W=w':=fun W hW=>by
  subst hW;rw[ha];exact(ke B fs nb c2 i ad mp F _ hF Is).mono fun e w' ⟨h1,h2⟩=>⟨h1,h2.symm⟩
 obtain⟨k,hk⟩: ∃k,k=ak F i:=⟨_,rfl⟩;rw[<-hk]at AJ;have Hx:=vp AJ;have wD:=vp vT;clear h hF vT hM hN AJ ha hk hy Is;go_enter Tryz.func64,Tryz.ntmps64;go_upto_region 1 with(fail);rw[<-wD.out];go_wp2_with (first
  |(go_at_call 106;refine(Hx.out _ rfl).mono ?_;rintro e w1 ⟨rfl,rfl⟩)
  |fail)
 rw[sb _ _ _ _ (by kernel_rfl)];simp only[Result.andThen];rw[oU,Oper.upon_enter];refine(uT a _).mono ?_;rintro e w2 ⟨rfl,rfl⟩;go_wp2_with fail;have vS:w.heap.size<=w.heap.size:=vs _;exact bodyPost_ret (v:= .tuple #[.agg #[.int .u8 (y.kind:Int), .int .u16 (y.mode:Int), .int .u32 (y.uid:Int), .int .u32 (y.gid:Int), .int .i64 (y.n:Int)], .int .i64 0]) (by simp[results,Tryz.results64,go_sem,vW,y0,y1,y2,y3,y4,z0,z1,z2,z3,z4]) rfl ⟨rfl,((((vU.setCell vS _).setCell vS _).setCell vS _).setCell vS _).setCell vS _⟩
theorem qe (B fs nb c2:Nat) (ad mp:Nat->Nat) (F:List Nd) (ino:Int) (w:World) (h:FsIs w B fs nb c2 ad mp F) (hi:ino<0\/(F.length:Int)<=ino):
  Calls Tryz.prog 64 #[.pointer (some ⟨fs,0,none⟩), .int .i64 ino] w fun e w'=>e= .returned (.tuple #[.agg #[.int .u8 0, .int .u16 0, .int .u32 0, .int .u32 0, .int .i64 0], .int .i64 3])/\Below w.heap.size w w':=by
 obtain⟨w0,vT⟩: ∃w0,w0=w.alloc (.cells #[.int .u8 0, .int .u16 0, .int .u32 0, .int .u32 0, .int .i64 0] 103):=⟨_,rfl⟩;have vU:Below w.heap.size w w0:=(by rw[vT];exact vr);have hM:w0.heap[w.heap.size]? =some (.cells #[.int .u8 0, .int .u16 0, .int .u32 0, .int .u32 0, .int .i64 0] 103 (0,0)):=(by rw[vT];exact ab w _);have hF:=h.below vU;have y0:w0.cell? ⟨w.heap.size,0,none⟩=some (.int .u8 0):=aa hM 0;have y1:w0.cell? ⟨w.heap.size,1,none⟩=some (.int .u16 0):=aa hM 1;have y2:w0.cell? ⟨w.heap.size,2,none⟩=some (.int .u32 0):=aa hM 2;have y3:w0.cell? ⟨w.heap.size,3,none⟩=some (.int .u32 0):=aa hM 3;have y4:w0.cell? ⟨w.heap.size,4,none⟩=some (.int .i64 0):=aa hM 4;have z0:=ae hM 0;have z1:=ae hM 1;have z2:=ae hM 2;have z3:=ae hM 3;have z4:=ae hM 4;have vW:=(vo hM).1;have AJ: ∀W,W=w0->Calls Tryz.prog 106 #[.pointer (some ⟨fs,0,none⟩), .int .i64 ino] W fun e w'=>e= .returned .nilIface/\W=w':=fun W hW=>by
  subst hW;exact(fnode_no B fs nb c2 ad mp F ino _ hF hi).mono fun e w' ⟨h1,h2⟩=>⟨h1,h2.symm⟩
 have Hx:=vp AJ;have wD:=vp vT;clear h hF vT hM AJ hi;go_enter Tryz.func64,Tryz.ntmps64;go_upto_region 1 with(fail);rw[<-wD.out];go_wp2_with (first
  |(go_at_call 106;refine(Hx.out _ rfl).mono ?_;rintro e w1 ⟨rfl,rfl⟩)
  |fail)
 have vS:w.heap.size<=w.heap.size:=vs _;exact bodyPost_ret (v:= .tuple #[.agg #[.int .u8 0, .int .u16 0, .int .u32 0, .int .u32 0, .int .i64 0], .int .i64 3]) (by simp[results,Tryz.results64,go_sem,vW,y0,y1,y2,y3,y4,z0,z1,z2,z3,z4]) rfl ⟨rfl,((((vU.setCell vS _).setCell vS _).setCell vS _).setCell vS _).setCell vS _⟩
end
section
open Go.RowKit Go.Sort
theorem uK (v:Value) (w:World):(Instr.typeAssert (.iface 163 v) 189 225 true).run Tryz.prog w= .ok (.tuple #[.pointer none, .bool false]) w:=by kernel_rfl
theorem uJ (v:Value) (w:World):(Instr.typeAssert (.iface 228 v) 189 225 true).run Tryz.prog w= .ok (.tuple #[.pointer none, .bool false]) w:=by kernel_rfl
theorem iQ (k a:Nat) (w:World):(Instr.typeAssert (.iface (tyOf k) (.pointer (some ⟨a,0,none⟩))) 189 225 true).run Tryz.prog w= .ok (.tuple #[if k=1 then .pointer (some ⟨a,0,none⟩)else .pointer none, .bool (decide (k=1))]) w:=by
 unfold tyOf;by_cases h2:k=2
 ·subst h2;exact uK _ w
 ·rw[if_neg h2];by_cases h1:k=1
  ·subst h1;exact ph _ w
  ·rw[if_neg h1,if_neg h1,vF h1];exact uJ _ w
def im (F:List Nd) (ino:Int) (off:Nat):Int×Nat×(Nat->Nat):=
 if ino<0\/(F.length:Int)<=ino then(3,0,fun _ =>0)
 else match F[ino.toNat]? with
  |none=>(3,0,fun _ =>0)
  |some y=>if y.kind=2 then(9,0,fun _ =>0)else if y.kind=1 then(0,min 4096 (y.n-off),fun i=>y.dat (off+i))else(1,0,fun _ =>0)
def eK (w:World) (r:Int×Nat×(Nat->Nat)) (e:Ending) (w':World):Prop:=
 ∃A cap,e= .returned (.tuple #[.slice A r.2.1 cap, .int .i64 r.1])/\av w' A r.2.1 r.2.2/\(∀x,A=some x->0<r.2.1->w.heap.size<=x.block)/\Below w.heap.size w w'/\OwnB w' w.heap.size A cap r.2.1 r.2.2
theorem je (w:World) (base:Nat) (d:Nat->Nat):OwnB w base none 0 0 d:=⟨rfl, .inl ⟨rfl,rfl⟩⟩
variable {w:World}
theorem tE {base:Nat} (d:Nat->Nat) (h:base<=w.heap.size):OwnB (w.alloc (.cells #[] 5)) base (some ⟨w.heap.size,0,none⟩) 0 0 d:=((OwnB.none_made w).lower h).congr fun i hi=>absurd hi (by omega)
theorem fread_no (B fs nb c2 off:Nat) (ad mp:Nat->Nat) (F:List Nd) (ino:Int) (w:World) (h:FsIs w B fs nb c2 ad mp F) (hi:ino<0\/(F.length:Int)<=ino):
  Calls Tryz.prog 233 #[.pointer (some ⟨fs,0,none⟩), .int .i64 ino, .int .i64 (off:Int), .int .i64 4096] w (eK w (3,0,fun _ =>0)):=by
 have hm:=qe B fs nb c2 ad mp F ino w h hi;have HM:=vp hm;clear hm h hi;go_enter Tryz.func233,Tryz.ntmps233;go_wp2_with fail;refine(HM.out).mono ?_;rintro e w1 ⟨rfl,vS⟩;go_wp2_with fail;go_ret2;exact⟨none,0,rfl,(fun h=>by cases h),(fun x hx=>by cases hx),vS.trans (vr.mono vS.size),je _ _ _⟩
theorem ud (B fs nb c2 off i:Nat) (ad mp:Nat->Nat) (F:List Nd) (y:Nd) (w:World) (h:FsIs w B fs nb c2 ad mp F) (hy:F[i]? =some y) (hk:y.kind=2):
  Calls Tryz.prog 233 #[.pointer (some ⟨fs,0,none⟩), .int .i64 (i:Int), .int .i64 (off:Int), .int .i64 4096] w (eK w (9,0,fun _ =>0)):=by
 have hm:=gN B fs nb c2 i ad mp F y w h hy;unfold metaV at hm;rw[hk]at hm;have HM:=vp hm;clear hm h hy hk;go_enter Tryz.func233,Tryz.ntmps233;go_wp2_with fail;refine(HM.out).mono ?_;rintro e w1 ⟨rfl,vS⟩;go_wp2_with fail;go_ret2;exact⟨none,0,rfl,(fun h=>by cases h),(fun x hx=>by cases hx),vS.trans (vr.mono vS.size),je _ _ _⟩
theorem rK (B fs nb c2 off i:Nat) (ad mp:Nat->Nat) (F:List Nd) (y:Nd) (w:World) (h:FsIs w B fs nb c2 ad mp F) (hy:F[i]? =some y) (hk:y.kind=3):
  Calls Tryz.prog 233 #[.pointer (some ⟨fs,0,none⟩), .int .i64 (i:Int), .int .i64 (off:Int), .int .i64 4096] w (eK w (1,0,fun _ =>0)):=by
 have Is:=(List.getElem?_eq_some_iff.1 hy).1;have hm:=gN B fs nb c2 i ad mp F y w h hy;unfold metaV at hm;rw[hk]at hm;have IU:=gj hy;rw[hk]at IU;have Xr:=fun W=>iQ 3 (ad i) W;have FO: ∀W,Below w.heap.size w W->Calls Tryz.prog 106 #[.pointer (some ⟨fs,0,none⟩), .int .i64 (i:Int)] W fun e w'=>e= .returned (.iface (tyOf 3) (.pointer (some ⟨ad i,0,none⟩)))/\w'=W:=fun W hW=>by
  have h9:=ke B fs nb c2 i ad mp F W (h.below hW) Is;rw[IU]at h9;exact h9
 have HM:=vp hm;have Hx:=vp FO;rw[if_neg (by decide),vF (by decide)]at Xr;clear hm h hy hk Is FO IU;go_enter Tryz.func233,Tryz.ntmps233;go_wp2_with fail;refine(HM.out).mono ?_;rintro e w1 ⟨rfl,vS⟩;have Iz:Below w.heap.size w (w1.alloc (.cells #[.int .u8 3, .int .u16 (y.mode:Int), .int .u32 (y.uid:Int), .int .u32 (y.gid:Int), .int .i64 (y.n:Int)] 103)):=vS.trans (vr.mono vS.size);have EL:=vp Iz;clear Iz;go_wp2_with (first
  |(go_at_call 106;refine(Hx.out _ EL.out).mono ?_;rintro e w3 ⟨rfl,rfl⟩)
  |fail)
 go_ret2;exact⟨none,0,rfl,(fun h=>by cases h),(fun x hx=>by cases hx),EL.out,je _ _ _⟩
theorem rL (B fs nb c2 off i:Nat) (ad mp:Nat->Nat) (F:List Nd) (y:Nd) (w:World) (h:FsIs w B fs nb c2 ad mp F) (hy:F[i]? =some y) (hk:y.kind=1) (hp:off<=65536):
  Calls Tryz.prog 233 #[.pointer (some ⟨fs,0,none⟩), .int .i64 (i:Int), .int .i64 (off:Int), .int .i64 4096] w (eK w (0,min 4096 (y.n-off),fun j=>y.dat (off+j))):=by
 have Is:=(List.getElem?_eq_some_iff.1 hy).1;have hm:=gN B fs nb c2 i ad mp F y w h hy;unfold metaV at hm;rw[hk]at hm;have IU:=gj hy;rw[hk]at IU;obtain⟨a,ha⟩: ∃a,a=ad i:=⟨_,rfl⟩;have Xr:=fun W=>iQ 1 a W;have FO: ∀W,Below w.heap.size w W->Calls Tryz.prog 106 #[.pointer (some ⟨fs,0,none⟩), .int .i64 (i:Int)] W fun e w'=>e= .returned (.iface (tyOf 1) (.pointer (some ⟨a,0,none⟩)))/\w'=W:=fun W hW=>by
  have h9:=ke B fs nb c2 i ad mp F W (h.below hW) Is;rw[IU,<-ha]at h9;exact h9
 have hn:=(h.ok.each i y hy).few;obtain⟨n,Pv⟩: ∃n,n=y.n:=⟨_,rfl⟩;obtain⟨T,tail,hN,_,h1,_⟩:=h.node i y hy;obtain⟨_,A,cd,rfl,hA,hAg,Ft,Pg⟩:=h1 hk;rw[<-ha,<-Pv]at hN;rw[<-Pv]at hm hA Ft Pg hn⊢;rw[if_pos rfl,vG rfl]at Xr;have Dk: ∀x,A=some x->x.block<w.heap.size:=fun x hx=>by
  obtain⟨g,cs,f,e,hg⟩:=hAg x hx;subst e;exact(vo hg).1
 have hau:a<w.heap.size:=(vo hN).1;have xo:A=none\/ ∃g,A=some ⟨g,0,none⟩:=by
  cases A with
  |none=>exact .inl rfl
  |some x=>obtain⟨g,cs,f,e,hg⟩:=hAg x rfl;exact .inr ⟨g,by rw[e]⟩
 have HM:=vp hm;have Hx:=vp FO;have HN:=vp hN;have HA:=vp hA;have Rt:=vp Dk;clear hm h hy hk Is FO IU hN hA Dk h1 hAg ha Pv;by_cases yN:n<=off
 ·have i2:min (off:Int) (n:Int)=(n:Int):=(by omega);have i3:min (4096:Int) 0=0:=(by omega);have zc:min 4096 (n-off)=0:=(by omega);rw[zc];unfold eK;clear zc;go_enter Tryz.func233,Tryz.ntmps233;go_wp2_with fail;refine(HM.out).mono ?_;rintro e w1 ⟨rfl,vS⟩;obtain⟨w2,wO⟩: ∃w2,w2=w1.alloc (.cells #[.int .u8 1, .int .u16 (y.mode:Int), .int .u32 (y.uid:Int), .int .u32 (y.gid:Int), .int .i64 (n:Int)] 103):=⟨_,rfl⟩;have wb:Below w1.heap.size w1 w2:=(by rw[wO];exact vr);have hM:w2.heap[w1.heap.size]? =some (.cells #[.int .u8 1, .int .u16 (y.mode:Int), .int .u32 (y.uid:Int), .int .u32 (y.gid:Int), .int .i64 (n:Int)] 103 (0,0)):=(by rw[wO];exact ab _ _);have Iz:Below w.heap.size w w2:=vS.trans (wb.mono vS.size);have x8:w2.cell? ⟨a,8,none⟩=some (.slice _ n cd):=(Iz.cell (p:=⟨a,8,none⟩) hau).trans (aa HN.out 8);have m0:w2.cell? ⟨w1.heap.size,0,none⟩=some (.int .u8 1):=aa hM 0;have Ds:=vp wO;have EL:=vp Iz;clear wO hM wb Iz;rcases xo with rfl|⟨g,rfl⟩
  ·have JW:=Pg rfl;have x9:w2.cell? ⟨a,8,none⟩=some (.slice none 0 0):=(by rw[x8,JW.1,JW.2]);have i5:min (off:Int) 0=0:=(by omega);clear x8 JW i2;go_upto_region 2 with(fail);rw[<-Ds.out];go_wp2_with (first
    |(go_at_call 106;refine(Hx.out _ EL.out).mono ?_;rintro e w3 ⟨rfl,rfl⟩)
    |fail)
   go_region_held3 (fun w'=>w'.cell? ⟨a,8,none⟩=some (.slice none 0 0)) (go_keep) (fail);go_wp2_with fail
   all_goals
    refine(gT _).mono ?_;rintro e w5 ⟨rfl,rfl⟩;go_wp2_with fail;go_ret2;exact⟨none,0,rfl,fun h=>absurd h (by omega),fun x hx=>(by cases hx),EL.out.trans (((vO _ _).drew).mono EL.out.size),je _ _ _⟩
  ·go_upto_region 2 with(fail);rw[<-Ds.out];go_wp2_with (first
    |(go_at_call 106;refine(Hx.out _ EL.out).mono ?_;rintro e w3 ⟨rfl,rfl⟩)
    |fail)
   go_region_held3 (fun w'=>w'.cell? ⟨a,8,none⟩=some (.slice (some ⟨g,0,none⟩) n cd)) (go_keep) (fail);go_wp2_with fail
   all_goals
    refine(km _ _ _).mono ?_;rintro e w5 ⟨rfl,rfl⟩;go_wp2_with fail;go_ret2;exact⟨_,0,rfl,fun h=>absurd h (by omega),fun x hx h=>absurd h (by omega),EL.out.trans (((vO _ _).drew.trans vr).mono EL.out.size),tE _ EL.out.size⟩
 ·obtain⟨k,hk⟩: ∃k:Nat,k=min 4096 (n-off):=⟨_,rfl⟩;obtain⟨g,rfl⟩: ∃g,A=some ⟨g,0,none⟩:=by
   rcases xo with rfl|h9
   ·have:=Pg rfl;omega
   ·exact h9
  have zc:0<k:=(by omega);have hkf:k<=4096:=(by omega);have i0:(off:Int)<=(n:Int):=(by omega);have i1:off<cd:=(by omega);have i2:min (off:Int) (n:Int)=(off:Int):=(by omega);have i3:min (4096:Int) ((n-off:Nat):Int)=(k:Int):=(by omega);have i4:(k:Int)<=((n-off:Nat):Int):=(by omega);unfold eK;rw[<-hk];go_enter Tryz.func233,Tryz.ntmps233;go_wp2_with fail;refine(HM.out).mono ?_;rintro e w1 ⟨rfl,vS⟩;obtain⟨w2,wO⟩: ∃w2,w2=w1.alloc (.cells #[.int .u8 1, .int .u16 (y.mode:Int), .int .u32 (y.uid:Int), .int .u32 (y.gid:Int), .int .i64 (n:Int)] 103):=⟨_,rfl⟩;have wb:Below w1.heap.size w1 w2:=(by rw[wO];exact vr);have hM:w2.heap[w1.heap.size]? =some (.cells #[.int .u8 1, .int .u16 (y.mode:Int), .int .u32 (y.uid:Int), .int .u32 (y.gid:Int), .int .i64 (n:Int)] 103 (0,0)):=(by rw[wO];exact ab _ _);have Iz:Below w.heap.size w w2:=vS.trans (wb.mono vS.size);have x8:w2.cell? ⟨a,8,none⟩=some (.slice _ n cd):=(Iz.cell (p:=⟨a,8,none⟩) hau).trans (aa HN.out 8);have m0:w2.cell? ⟨w1.heap.size,0,none⟩=some (.int .u8 1):=aa hM 0;have Ds:=vp wO;have EL:=vp Iz;clear wO hM wb Iz;have FQ:g<w.heap.size:=Rt.out _ rfl;have Ue:g<w2.heap.size:=vw FQ EL.out.size;have IE:av w2 (some ⟨g,off,none⟩) k (fun j=>y.dat (off+j)):=by
   intro _;refine⟨_,rfl,fun j hj=>?_⟩;obtain⟨x,h1,h2⟩:=(HA.out.below EL.out Rt.out) (by omega);injection h1 with h1;subst h1;have h3:=h2 (off+j) (by omega);rw[Addr.add_mid]at h3⊢;rw[Nat.zero_add]at h3;exact h3
  have Rv:=vp IE;clear IE hk xo;go_upto_region 2 with(fail);rw[<-Ds.out];go_wp2_with (first
   |(go_at_call 106;refine(Hx.out _ EL.out).mono ?_;rintro e w3 ⟨rfl,rfl⟩)
   |fail)
  go_region_held3 (fun w'=>w'.cell? ⟨a,8,none⟩=some (.slice (some ⟨g,0,none⟩) n cd)) (go_keep) (fail);go_wp2_with fail;have NP:Below w3.heap.size w3 w3.drew:=(vO _ _).drew;refine(kn k (cd-off) ⟨g,off,none⟩ (fun j=>y.dat (off+j)) _ zc (by omega) (Rv.out.below NP (fun x hx=>by injection hx with hx;subst hx;exact Ue)) Ue).mono ?_;rintro e w5 ⟨g5,AR,rfl,yX,zi⟩;have Df:=yX.form.1;have Zm:w.heap.size<=g5:=vM EL.out.size Df;have BM:=vp yX;clear yX Df;go_wp2_with fail;go_ret2;exact⟨_,AR,rfl,BM.out.v,(fun x hx _ =>by injection hx with hx;subst hx;exact Zm),EL.out.trans ((NP.trans zi).mono EL.out.size),BM.out.lower EL.out.size⟩
theorem ue (B fs nb c2 off:Nat) (ad mp:Nat->Nat) (F:List Nd) (ino:Int) (w:World) (h:FsIs w B fs nb c2 ad mp F) (hp:off<=65536):
  Calls Tryz.prog 233 #[.pointer (some ⟨fs,0,none⟩), .int .i64 ino, .int .i64 (off:Int), .int .i64 4096] w (eK w (im F ino off)):=by
 unfold im;by_cases hi:ino<0\/(F.length:Int)<=ino
 ·rw[if_pos hi];exact fread_no B fs nb c2 off ad mp F ino w h hi
 ·rw[if_neg hi];obtain⟨i,rfl⟩: ∃i:Nat,ino=(i:Int):=⟨ino.toNat,by omega⟩;have Is:i<F.length:=(by omega);rw[Int.toNat_natCast];obtain⟨y,hy,_⟩:=kS Is;rw[hy];have hk:=(h.ok.each i y hy).kind;simp only;rcases(by omega:y.kind=2\/y.kind=1\/y.kind=3)with e|e|e
  ·rw[if_pos e];exact ud B fs nb c2 off i ad mp F y w h hy e
  ·rw[if_neg (by omega),if_pos e];exact rL B fs nb c2 off i ad mp F y w h hy e hp
  ·rw[if_neg (by omega),if_neg (by omega)];exact rK B fs nb c2 off i ad mp F y w h hy e
theorem read_is {B fs nb c2 off:Nat} {ad mp:Nat->Nat} {F:List Nd} {ino:Int} (h:FsIs w B fs nb c2 ad mp F) (hp:off<=65536):nN w fs ino (off:Int) (im F ino off).1 (im F ino off).2.1 (im F ino off).2.2:=
 (ue B fs nb c2 off ad mp F ino w h hp).mono fun e w' ⟨A,cap,h1,h2,h3,h4,_⟩=>⟨A,cap,h1,h2,h3,h4⟩
end
