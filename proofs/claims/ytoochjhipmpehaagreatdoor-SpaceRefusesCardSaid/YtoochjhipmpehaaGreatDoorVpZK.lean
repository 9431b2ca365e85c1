/- Files: node, Meta and Read of the one file. -/
import Derived.Test.YtoochjhipmpehaaGreatDoorCaZK
import Derived.Test.YtoochjhipmpehaaGreatDoorVpYK
import Derived.Lib.MinMax
set_option linter.unusedVariables false
set_option linter.unusedSimpArgs false
set_option maxRecDepth 100000
set_option maxHeartbeats 4000000
namespace Go.Proofs.YtoochjhipmpehaaGreatDoor
section
open Go.RowKit Go.Sort
theorem ul (x:Nat) (w:World):Calls Tryz.prog 229 #[.pointer (some ⟨x,0,none⟩)] w fun e w'=>e= .returned (.pointer (some ⟨x,0,none⟩))/\w'=w:=by
 go_enter Tryz.func229,Tryz.ntmps229;go_wp2_with fail;go_ret;exact⟨rfl,rfl⟩
theorem oO (v:Value) (w:World):(callFunc 229 #[v]).run Tryz.prog w= .ok (.enter 229 #[v]) w:=by kernel_rfl
end
section
open Go.RowKit Go.Sort
variable {p p':Pool} {L L':List Slot} {f:Nat}
theorem aw.live (h:aw p L 0 f p' L'):f<p'.n/\p'.cnt f=1/\p'.dat f=fun _ =>0:=by
 cases h with
 |free f h1=>exact⟨(cB h1).1,af _ _ _,af _ _ _⟩
 |loose s h1 h2 h3=>exact⟨h3,af _ _ _,af _ _ _⟩
theorem aw.duo {r:Int} (h:aw p L r f p' L'):r=0\/(r=4/\f=0/\p'=p/\L'=L):=by
 cases h
 ·exact .inl rfl
 ·exact .inl rfl
 ·exact .inr ⟨rfl,rfl,rfl,rfl⟩
theorem iH (w:World) (m:Nat) (o:Obj):Mod (fun b=>b=m) w (Go.ChangeMaps.setBlock w.drew m o):=by
 refine⟨rfl,rfl,rfl,?_,fun b hb vu=>?_⟩
 ·show w.heap.size<=(w.heap.setIfInBounds m o).size;simp
 ·show(w.heap.setIfInBounds m o)[b]? =_;exact Array.getElem?_setIfInBounds_ne (fun e=>vu e.symm)
variable {w:World} {c a fs m:Nat} {clock:Int}
theorem aJ.tick {v:Int} (h:aJ w c a fs m clock):aJ (w.setCell ⟨c,3,none⟩ (.int .i64 v)) c a fs m v:=by
 have h1:=Joins.block_setCell (i:=3) h (.int .i64 v);simpa [aJ]using h1
variable {S:Nat->Prop}
theorem ar.c0 (h:ar w S c a fs m clock p L):c≠0:=by
 intro e;subst e;have h1:=h.pool.tab 0 (by decide);have h2:w.cell? ⟨0,0,none⟩=some (.pointer (some ⟨a,0,none⟩)):=aa h.self 0;rw[h2]at h1;cases h1
variable {w':World} {n:Nat} {A:Option Addr} {d:Nat->Nat}
theorem au.kept (h:au w A n d) (hb:Below w.heap.size w w'):au w' A n d:=fun h0=>by
 obtain⟨ad,e,hc⟩:=h h0;refine⟨ad,e,fun j hj=>?_⟩;rw[<-hc j hj];exact hb.cell (World.block_lt_of_cell? _ _ (hc j hj))
theorem au.mod {X:Nat->Prop} (h:au w A n d) (hm:Mod X w w') (hA: ∀ad,A=some ad->0<n-> ¬X ad.block):au w' A n d:=fun h0=>by
 obtain⟨ad,e,hc⟩:=h h0;refine⟨ad,e,fun j hj=>?_⟩;rw[<-hc j hj];have hl:=World.block_lt_of_cell? _ _ (hc j hj);have EU:(ad.add j).block=ad.block:=by unfold Addr.add;split<;>rfl
 rw[EU]at hl;have hh:w'.heap[(ad.add j).block]? =w.heap[(ad.add j).block]? :=(by rw[EU];exact hm.block _ hl (hA ad e h0));exact World.cell?_of_block hh
def nH (w:World) (fs:Nat) (ino off r0:Int) (k:Nat) (d:Nat->Nat):Prop:=
 Calls Tryz.prog 233 #[.pointer (some ⟨fs,0,none⟩), .int .i64 ino, .int .i64 off, .int .i64 4096] w
  fun e w'=> ∃A cap,e= .returned (.tuple #[.slice A k cap, .int .i64 r0])/\au w' A k d/\(∀ad,A=some ad->0<k->w.heap.size<=ad.block)/\Below w.heap.size w w'
def dK (w:World) (S:Nat->Prop) (c a fs m:Nat) (ino page r0:Int) (k:Nat) (d:Nat->Nat) (clock:Int) (p:Pool) (L:List Slot) (e:Ending) (w':World):Prop:=
 ∃r f p' L' vi S',e= .returned (.tuple #[.int .i64 (f:Nat), .int .i64 r])/\ar w' S' c a fs m vi p' L'/\Mod (fun b=>S b\/b=m\/b=c) w w'/\Out S S' w/\dx ino page r0 k d p L clock r f p' L' vi
variable {w3:World} {bh:Nat}
theorem dK.mod (hb:Below w.heap.size w w3) (hm:Mod (fun b=>b=m\/b=c\/b=bh) w3 w') (hz:w.heap.size<=bh):Mod (fun b=>S b\/b=m\/b=c) w w':=by
 have h1:=(Mod.of (S:=fun b=>b=m\/b=c\/b=bh) hb).trans (Out.refl _ _) hm;exact⟨h1.os,h1.tape,h1.output,h1.size,fun b hb hn=>h1.block b hb (fun e=>hn (.inr (by omega)))⟩
theorem dK.mod2 {w4 w5 w6:World} {S1:Nat->Prop} (h3:Below w.heap.size w w3) (h4:Mod (Both S m) w3 w4) (ho:Out S S1 w3) (h5:Mod S1 w4 w5) (h6:Mod (fun b=>b=bh) w5 w6) (h7:Mod (fun b=>b=m\/b=c\/b=bh) w6 w') (hz:w.heap.size<=bh):Mod (fun b=>S b\/b=m\/b=c) w w':=by
 have xq:=h3.size;have h1:Mod (fun b=>S b\/b=m\/b=c\/w.heap.size<=b) w w':=(Mod.of h3).trans (Out.refl _ _) ((h4.sub fun b hb=>hb.elim .inl fun e=> .inr (.inl e)).trans (Out.refl _ _) ((h5.sub fun b hb=>(ho b hb).elim .inl fun e=> .inr (.inr (.inr (by omega)))).trans (Out.refl _ _) ((h6.sub fun b hb=> .inr (.inr (.inr (by omega)))).trans (Out.refl _ _) (h7.sub fun b hb=>by
  rcases hb with e|e|e
  ·exact .inr (.inl e)
  ·exact .inr (.inr (.inl e))
  ·exact .inr (.inr (.inr (by omega)))))))
 exact⟨h1.os,h1.tape,h1.output,h1.size,fun b hb hn=>h1.block b hb (fun e=>hn (by
  rcases e with e|e|e|e
  ·exact .inl e
  ·exact .inr (.inl e)
  ·exact .inr (.inr e)
  ·omega))⟩
theorem get_bad (c a fs m k:Nat) (ino page r0 clock:Int) (d:Nat->Nat) (w:World) (S:Nat->Prop) (p:Pool) (L:List Slot) (h:ar w S c a fs m clock p L) (yu:page<0\/16<=page):
  Calls Tryz.prog 232 #[.pointer (some ⟨c,0,none⟩), .int .i64 ino, .int .i64 page] w (dK w S c a fs m ino page r0 k d clock p L):=by
 have H:=uH h;have HB:=uH yu;clear h;by_cases h0:page<0
 ·clear yu;go_enter Tryz.func232,Tryz.ntmps232;go_wp2_with fail;go_ret2;exact⟨1,0,p,L,clock,S,rfl,H.out,Mod.refl _ _,Out.refl _ _, .bad HB.out⟩
 ·have h1:16<=page:=(by omega);clear yu;go_enter Tryz.func232,Tryz.ntmps232;go_wp2_with fail;go_ret2;exact⟨1,0,p,L,clock,S,rfl,H.out,Mod.refl _ _,Out.refl _ _, .bad HB.out⟩
theorem get_err (c a fs m k:Nat) (ino page r0 clock:Int) (d:Nat->Nat) (w:World) (S:Nat->Prop) (p:Pool) (L:List Slot) (h:ar w S c a fs m clock p L) (h0:0<=page) (Rn:page<16) (Ib:nH w fs ino (page*4096) r0 k d) (hr:(r0 != 0)=true):
  Calls Tryz.prog 232 #[.pointer (some ⟨c,0,none⟩), .int .i64 ino, .int .i64 page] w (dK w S c a fs m ino page r0 k d clock p L):=by
 have hmul:IntKind.i64.wrap (page*4096)=page*4096:=(by rw[IntKind.wrap_i64];omega);have c1:w.cell? ⟨c,1,none⟩=some (.pointer (some ⟨fs,0,none⟩)):=aa h.self 1;have H:=uH h;have Hr:=uH Ib;have HR:=uH hr;clear h Ib;go_enter Tryz.func232,Tryz.ntmps232;go_wp2_with (first
  |(go_at_call 233;refine(Hr.out).mono ?_;rintro e w1 ⟨A,cap,rfl,hA,YV,vk⟩;have vq:=uH vk;clear hA vk)
  |fail)
 go_ret2;exact⟨r0,0,p,L,clock,S,rfl,H.out.below vq.out,Mod.of vq.out,Out.refl _ _, .err h0 Rn (by simpa using HR.out)⟩
theorem get_hit (c a fs m k:Nat) (ino page r0 clock:Int) (d:Nat->Nat) (w:World) (S:Nat->Prop) (p:Pool) (L:List Slot) (h:ar w S c a fs m clock p L) (h0:0<=page) (Rn:page<16) (Jy:(Lit.int .i64 ino).wf=true) (Ib:nH w fs ino (page*4096) 0 k d) (zy:0<=clock/\clock<1000000)
  (s:Slot) (hs:L.find? (Slot.at ino page)=some s):
  Calls Tryz.prog 232 #[.pointer (some ⟨c,0,none⟩), .int .i64 ino, .int .i64 page] w (dK w S c a fs m ino page 0 k d clock p L):=by
 have IV:(Lit.int .i64 page).wf=true:=(by go_wf2);have hmul:IntKind.i64.wrap (page*4096)=page*4096:=(by rw[IntKind.wrap_i64];omega);have c1:w.cell? ⟨c,1,none⟩=some (.pointer (some ⟨fs,0,none⟩)):=aa h.self 1;have Hr:=uH Ib;have H:=uH h;have Rr:=uH hs;clear Ib h hs;go_enter Tryz.func232,Tryz.ntmps232;go_upto_region 8 with(first
  |(go_at_call 233;refine(Hr.out).mono ?_;rintro e w1 ⟨A,cap,rfl,hA,YV,vk⟩;have H1:=uH (H.out.below vk);clear hA)
  |fail)
 obtain⟨w2,vU⟩: ∃w2,w2=w1.alloc (.cells #[.int .i64 ino, .int .i64 page] 127):=⟨_,rfl⟩;have vs:Below w1.heap.size w1 w2:=(by rw[vU];exact uJ);have zG:w2.heap[w1.heap.size]? =some (.cells #[.int .i64 ino, .int .i64 page] 127 (0,0)):=(by rw[vU];exact ab _ _);have CO:=H1.out.below vs;have k0:w2.cell? ⟨w1.heap.size,0,none⟩=some (.int .i64 ino):=aa zG 0;have k1:w2.cell? ⟨w1.heap.size,1,none⟩=some (.int .i64 page):=aa zG 1;have k2:w2.cell? ⟨c,2,none⟩=some (.map (some m)):=aa CO.self 2;have zi: ∀W,W.heap[m]? =w2.heap[m]? ->(Instr.lookup 123 (.map (some m)) (.agg #[.int .i64 ino, .int .i64 page]) true).run Tryz.prog W= .ok (.tuple #[.agg #[.int .i64 (s.frame:Int), .int .i64 s.asked], .bool true]) W:=by
  intro W hW;obtain⟨es0,Zc,OV⟩:=aL.same (w':=W) CO.slots hW;have Ep:=OV.look (i:=ino) (p:=page) Jy IV true;rw[Rr.out]at Ep;exact Ep
 have wM:=zi w2.drew rfl;have vV:=zi (w2.alloc (.cells #[.int .i64 0, .int .i64 0] 129)).drew (uL _ _ _ CO.lts.2.1);have xF:=uH CO;have EZ:=uH zG;have Cv:=uH vU;clear zi CO zG vU;go_upto_region 9 with(fail);rw[<-Cv.out];go_region_held3 (fun w'=>w'.cell? ⟨c,2,none⟩=some (.map (some m))/\w'.cell? ⟨w1.heap.size,0,none⟩=some (.int .i64 ino)/\w'.cell? ⟨w1.heap.size,1,none⟩=some (.int .i64 page)) (go_keep) (fail)
 all_goals
  obtain⟨w3,wE⟩: ∃w3,w3=(w2.alloc (.cells #[.int .i64 (s.frame:Int), .int .i64 s.asked] 129)).drew:=⟨_,rfl⟩;rw[<-wE];have vG:Below w2.heap.size w2 w3:=(by rw[wE];exact uJ.drew);have YO:w3.heap[w2.heap.size]? =some (.cells #[.int .i64 (s.frame:Int), .int .i64 s.asked] 129 (0,0)):=(by rw[wE];exact ab w2 _);have XJ:=xF.out.lts;have OS:=(uG EZ.out).1;have vI:=vk.size;have vO:=vs.size;have Ws:=H1.out.pool.low;have XK:=H1.out.lts;obtain⟨bh,Pw⟩: ∃bh,bh=w2.heap.size:=⟨_,rfl⟩;obtain⟨bk,EU⟩: ∃bk,bk=w1.heap.size:=⟨_,rfl⟩;have Gy:w3.heap[bk]? =some (.cells #[.int .i64 ino, .int .i64 page] 127 (0,0)):=(by(rw[EU];exact((vG).block _ OS).trans EZ.out));have FF:=YO;rw[<-Pw]at FF⊢;rw[<-EU];have Px:bh≠c:=(by omega);have Fy:bh≠m:=(by omega);have LI:bk≠bh:=(by omega);have Pv:bk≠c:=(by omega);have TM:bh≠0:=(by omega);have LJ: ¬S bh:=fun e=>by(have:=Ws _ e;omega)
  have Bf:=xF.out.below vG;have FW:=uH Bf;have GH:=uH FF;have Ky:=uH Gy;have yh:=uH (vk.trans ((vs.trans ((vG).mono vO)).mono vI));have Ww:w.heap.size<=bh:=(by omega);have HBH:=uH Pw;have HBK:=uH EU;clear Bf FF Gy Pw EU k0 k1 k2 wM vV;clear wE;go_upto_region 16 with(fail);have Ad:=FW.out;have Fs:=Ad.lts;have kc:w3.cell? ⟨c,3,none⟩=some (.int .i64 clock):=aa Ad.self 3;have kf:w3.frozen? ⟨c,3,none⟩=false:=ae Ad.self 3;have vm:w3.cell? ⟨bh,0,none⟩=some (.int .i64 (s.frame:Int)):=aa GH.out 0;have vk:w3.cell? ⟨bh,1,none⟩=some (.int .i64 s.asked):=aa GH.out 1;have TJ:w3.frozen? ⟨bh,1,none⟩=false:=ae GH.out 1;have hwr:IntKind.i64.wrap (clock+1)=clock+1:=(by(rw[IntKind.wrap_i64];omega));obtain⟨w20,Da⟩: ∃w20,w20=w3.setCell ⟨c,3,none⟩ (.int .i64 (clock+1)):=⟨_,rfl⟩;have Ak:Mod (fun b=>b=c) w3 w20:=(by(rw[Da];exact aj (S:=fun b=>b=c) rfl 3 _));have Db:aJ w20 c a fs m (clock+1):=(by(rw[Da];exact Ad.self.tick));have SX:=(uG GH.out).1;have BM:=(Ak.block bh SX Px).trans GH.out;have x0:w20.cell? ⟨bh,0,none⟩=some (.int .i64 (s.frame:Int)):=aa BM 0;have x1:w20.cell? ⟨bh,1,none⟩=some (.int .i64 s.asked):=aa BM 1;have x2:w20.frozen? ⟨bh,1,none⟩=false:=ae BM 1;have x3:w20.cell? ⟨c,3,none⟩=some (.int .i64 (clock+1)):=aa Db 3;obtain⟨w21,CZ⟩: ∃w21,w21=w20.setCell ⟨bh,1,none⟩ (.int .i64 (clock+1)):=⟨_,rfl⟩;have Aj:Mod (fun b=>b=bh) w20 w21:=(by(rw[CZ];exact aj (S:=fun b=>b=bh) rfl 1 _));have Dr:w21.heap[bh]? =some (.cells #[.int .i64 (s.frame:Int), .int .i64 (clock+1)] 129 (0,0)):=(by(rw[CZ];simpa using Joins.block_setCell (i:=1) BM (.int .i64 (clock+1))));have Ju:=(uG Db).1;have Fg:aJ w21 c a fs m (clock+1):=(Aj.block c Ju (fun e=>Px e.symm)).trans Db;have zi:=(uG Ky.out).1;have WK:=Ak.size;have WJ:=Aj.size;have FE:=(Aj.block bk (by omega) LI).trans ((Ak.block bk zi Pv).trans Ky.out);have DY:aL w21 m L:=(Ad.slots.same ((Aj.block m (by omega) (fun e=>Fy e.symm)).trans (Ak.block m Fs.2.1 (fun e=>Fs.2.2.1 e.symm))));obtain⟨es,wb,Td⟩:=aL.same (w':=w21.drew) DY rfl;obtain⟨es',Dt,ET,Ft⟩:=Td.put (s:=⟨ino,page,s.frame,clock+1⟩) Jy IV;obtain⟨w22,CY⟩: ∃w22,w22=Go.ChangeMaps.setBlock w21.drew m (.map es' Dt):=⟨_,rfl⟩;rw[<-CY]at ET Ft;have Fp:(Instr.mapUpdate 123 (.map (some m)) (.agg #[.int .i64 ino, .int .i64 page]) (.agg #[.int .i64 (s.frame:Int), .int .i64 (clock+1)])).run Tryz.prog w21.drew= .ok () w22:=ET;have y0:w21.cell? ⟨c,2,none⟩=some (.map (some m)):=aa Fg 2;have y1:w21.cell? ⟨bk,0,none⟩=some (.int .i64 ino):=aa FE 0;have y2:w21.cell? ⟨bk,1,none⟩=some (.int .i64 page):=aa FE 1;have y3:w21.cell? ⟨bh,0,none⟩=some (.int .i64 (s.frame:Int)):=aa Dr 0;have y4:w21.cell? ⟨bh,1,none⟩=some (.int .i64 (clock+1)):=aa Dr 1;have Dg:Mod (fun b=>b=m) w21 w22:=(by(rw[CY];exact iH _ _ _));have Kc:=(Dg.block bh (by omega) Fy).trans Dr;have y5:w22.cell? ⟨bh,0,none⟩=some (.int .i64 (s.frame:Int)):=aa Kc 0;have Bu:Mod (fun b=>b=m\/b=c\/b=bh) w3 w22:=((Ak.sub fun b hb=> .inr (.inl hb)).trans (Out.refl _ _) ((Aj.sub fun b hb=> .inr (.inr hb)).trans (Out.refl _ _) (Dg.sub fun b hb=> .inl hb)));have Ul:ar w22 S c a fs m (clock+1) p (dH L ⟨ino,page,s.frame,clock+1⟩):=⟨Ad.pool.mod Bu (fun b hb e=>by(rcases e with e|e|e;exact Ad.noM (e▸hb);exact Ad.noC (e▸hb);exact LJ (e▸hb))) (fun e=>by(have h9:=Ad.c0;rcases e with e|e|e<;>omega)),(Dg.block c (by omega) Fs.2.2.1).trans Fg,⟨es',Dt,Ft⟩,Ad.noC,Ad.noM⟩;have ZZ:=uH Ul;have ZH:=uH Bu;have Qa:=uH Da;have PZ:=uH CZ;have Zh:=uH CY;clear Ad Db BM Dr Fg FE DY Td Ft ET Ak Aj Dg Ul Bu Da CZ CY Kc;go_upto_region 17 with(fail);rw[<-Qa.out];go_upto_region 18 with(fail);rw[<-PZ.out];go_region;go_wp2_with fail
  all_goals
   go_ret2;exact⟨0,s.frame,p,_,clock+1,S,rfl,ZZ.out,dK.mod yh.out ZH.out Ww,Out.refl _ _, .hit s h0 Rn rfl Rr.out⟩
theorem get_new (c a fs m k:Nat) (ino page r0 clock:Int) (d:Nat->Nat) (w:World) (S:Nat->Prop) (p:Pool) (L:List Slot) (h:ar w S c a fs m clock p L) (h0:0<=page) (Rn:page<16) (Jy:(Lit.int .i64 ino).wf=true) (Ib:nH w fs ino (page*4096) 0 k d) (hd: ∀i,d i<256) (hk:k<=4096) (zy:0<=clock/\clock<1000000)
  (hs:L.find? (Slot.at ino page)=none):
  Calls Tryz.prog 232 #[.pointer (some ⟨c,0,none⟩), .int .i64 ino, .int .i64 page] w (dK w S c a fs m ino page 0 k d clock p L):=by
 have IV:(Lit.int .i64 page).wf=true:=(by go_wf2);have hmul:IntKind.i64.wrap (page*4096)=page*4096:=(by rw[IntKind.wrap_i64];omega);have c1:w.cell? ⟨c,1,none⟩=some (.pointer (some ⟨fs,0,none⟩)):=aa h.self 1;have Hr:=uH Ib;have H:=uH h;have Rr:=uH hs;clear Ib h hs;go_enter Tryz.func232,Tryz.ntmps232;go_upto_region 8 with(first
  |(go_at_call 233;refine(Hr.out).mono ?_;rintro e w1 ⟨A,cap,rfl,hA,YV,vk⟩;have HA:=uH hA;have H1:=uH (H.out.below vk);clear hA)
  |fail)
 obtain⟨w2,vU⟩: ∃w2,w2=w1.alloc (.cells #[.int .i64 ino, .int .i64 page] 127):=⟨_,rfl⟩;have vs:Below w1.heap.size w1 w2:=(by rw[vU];exact uJ);have zG:w2.heap[w1.heap.size]? =some (.cells #[.int .i64 ino, .int .i64 page] 127 (0,0)):=(by rw[vU];exact ab _ _);have CO:=H1.out.below vs;have k0:w2.cell? ⟨w1.heap.size,0,none⟩=some (.int .i64 ino):=aa zG 0;have k1:w2.cell? ⟨w1.heap.size,1,none⟩=some (.int .i64 page):=aa zG 1;have k2:w2.cell? ⟨c,2,none⟩=some (.map (some m)):=aa CO.self 2;have zi: ∀W,W.heap[m]? =w2.heap[m]? ->(Instr.lookup 123 (.map (some m)) (.agg #[.int .i64 ino, .int .i64 page]) true).run Tryz.prog W= .ok (.tuple #[.agg #[.int .i64 0, .int .i64 0], .bool false]) W:=by
  intro W hW;obtain⟨es0,Zc,OV⟩:=aL.same (w':=W) CO.slots hW;have Ep:=OV.look (i:=ino) (p:=page) Jy IV true;rw[Rr.out]at Ep;exact Ep
 have wM:=zi w2.drew rfl;have vV:=zi (w2.alloc (.cells #[.int .i64 0, .int .i64 0] 129)).drew (uL _ _ _ CO.lts.2.1);have xF:=uH CO;have EZ:=uH zG;have Cv:=uH vU;clear zi CO zG vU;go_upto_region 9 with(fail);rw[<-Cv.out];go_region_held3 (fun w'=>w'.cell? ⟨c,2,none⟩=some (.map (some m))/\w'.cell? ⟨w1.heap.size,0,none⟩=some (.int .i64 ino)/\w'.cell? ⟨w1.heap.size,1,none⟩=some (.int .i64 page)) (go_keep) (fail)
 all_goals
  obtain⟨w3,wE⟩: ∃w3,w3=(w2.alloc (.cells #[.int .i64 0, .int .i64 0] 129)).drew:=⟨_,rfl⟩;rw[<-wE];have vG:Below w2.heap.size w2 w3:=(by rw[wE];exact uJ.drew);have YO:w3.heap[w2.heap.size]? =some (.cells #[.int .i64 0, .int .i64 0] 129 (0,0)):=(by rw[wE];exact ab w2 _);have XJ:=xF.out.lts;have OS:=(uG EZ.out).1;have vI:=vk.size;have vO:=vs.size;have Ws:=H1.out.pool.low;have XK:=H1.out.lts;obtain⟨bh,Pw⟩: ∃bh,bh=w2.heap.size:=⟨_,rfl⟩;obtain⟨bk,EU⟩: ∃bk,bk=w1.heap.size:=⟨_,rfl⟩;have Gy:w3.heap[bk]? =some (.cells #[.int .i64 ino, .int .i64 page] 127 (0,0)):=(by(rw[EU];exact((vG).block _ OS).trans EZ.out));have FF:=YO;rw[<-Pw]at FF⊢;rw[<-EU];have Px:bh≠c:=(by omega);have Fy:bh≠m:=(by omega);have LI:bk≠bh:=(by omega);have Pv:bk≠c:=(by omega);have TM:bh≠0:=(by omega);have LJ: ¬S bh:=fun e=>by(have:=Ws _ e;omega)
  have Bf:=xF.out.below vG;have FW:=uH Bf;have GH:=uH FF;have Ky:=uH Gy;have yh:=uH (vk.trans ((vs.trans ((vG).mono vO)).mono vI));have Ww:w.heap.size<=bh:=(by omega);have HBH:=uH Pw;have HBK:=uH EU;clear Bf FF Gy Pw EU k0 k1 k2 wM vV;have xq:=vG.size;have Kg:au w3 A k d:=HA.out.kept (vs.trans (vG.mono vO));have Ms:=uH Kg;have Yu:bh<w3.heap.size:=(uG GH.out).1;have Yr:bk<w3.heap.size:=(uG Ky.out).1;have TI: ¬S bk:=fun e=>by have:=Ws _ e;have:=HBK.out;omega
  have Ys:bk≠m:=(by have:=HBK.out;omega);have hAk:0<k-> ∃ad,A=some ad/\ad.block<w1.heap.size:=fun h9=>by
   obtain⟨ad,e9,JI⟩:=HA.out h9;exact⟨ad,e9,by have:=World.block_lt_of_cell? _ _ (JI 0 h9);unfold Addr.add at this;split at this<;>exact this⟩
  clear wE Kg;go_wp2_with fail;refine(fc c a fs m clock w3 S p L FW.out).mono ?_;rintro e w4 ⟨r,f,p1,L1,S1,rfl,CN,wP,yW,vw⟩;have AN:=wP.size;have BX:=uH CN;have vT:=uH vw;have EJ:=uH wP;have xv:=uH yW;clear CN wP yW;rcases vw.duo with rfl|⟨rfl,rfl,rfl,rfl⟩
  rotate_left
  ·clear vw;go_wp2_with fail;go_ret2;exact⟨4,0,_,_,clock,S1,rfl,BX.out,dK.mod2 yh.out EJ.out xv.out (Mod.refl _ _) (Mod.refl _ _) (Mod.refl _ _) Ww,fun b hb=>(xv.out b hb).imp id (fun h=>by have:=yh.out.size;omega), .full h0 Rn rfl Rr.out vT.out⟩
  clear vw;obtain⟨f1,f2,f3⟩:=vT.out.live;have Yv: ¬Both S m bh:=fun e=>e.elim LJ Fy;have Yt: ¬Both S m bk:=fun e=>e.elim TI Ys;have hH4:=(EJ.out.block bh Yu Yv).trans GH.out;have hK4:=(EJ.out.block bk Yr Yt).trans Ky.out;have AU: ¬S1 bh:=fun e=>(xv.out bh e).elim LJ (by omega);have YC: ¬S1 bk:=fun e=>(xv.out bk e).elim TI (by omega);have hA4:au w4 A k d:=Ms.out.mod EJ.out (fun ad e h9=>by
   have h8:=YV ad e h9;exact fun e=>e.elim (fun e=>by have:=H.out.pool.low _ e;omega) (fun e=>by have:=H.out.lts.2.1;omega))
  have HA4:=uH hA4;have Kz:=uH hH4;have HK4:=uH hK4;clear hA4 hH4 hK4 f3 hAk;have e0:w4.cell? ⟨c,0,none⟩=some (.pointer (some ⟨a,0,none⟩)):=aa BX.out.self 0;go_upto_region 16 with(first
   |(go_at_call 124;refine(gt a f 0 k cap A d w4 S1 p1 BX.out.pool f1 (Nat.le_of_eq f2.symm) (by omega) (by omega) HA4.out hd).mono ?_;rintro e w5 ⟨rfl,Ii,wH⟩;have GJ:=uH (BX.out.turn wH Ii (Out.refl _ _));have BV:=uH wH;have Rj:=(wH.block bh (by omega) AU).trans Kz.out;have hK5:=(wH.block bk (by omega) YC).trans HK4.out;have HH5:=uH Rj;have HK5:=uH hK5;have g0:=aa Rj 0;have g1:=ae Rj 0;clear Ii wH Rj hK5)
   |fail)
  obtain⟨w6,GM⟩: ∃w6,w6=w5.setCell ⟨bh,0,none⟩ (.int .i64 (f:Int)):=⟨_,rfl⟩;rw[<-GM];have yX:Mod (fun b=>b=bh) w5 w6:=(by rw[GM];exact aj (S:=fun b=>b=bh) rfl 0 _);have Ue:w6.heap[bh]? =some (.cells #[.int .i64 (f:Int), .int .i64 0] 129 (0,0)):=(by rw[GM];simpa using Joins.block_setCell (i:=0) HH5.out (.int .i64 (f:Int)));have It:=BV.out.size;have hK6:=(yX.block bk (by omega) LI).trans HK5.out;have Nk:=GJ.out.c0;have VD:=uH (GJ.out.mod yX (fun b hb e=>AU (e▸hb)) (fun e=>TM e.symm) (fun e=>Px e.symm) (fun e=>Fy e.symm));have Fa:=uH Ue;have HK6:=uH hK6;have KX:=uH yX;clear GM yX Ue hK6 g0 g1 e0 LJ;have LJ:=AU;obtain⟨p2,hp2⟩: ∃p2,p2=p1.store f (laid (p1.dat f) d 0 k):=⟨_,rfl⟩;rw[<-hp2]at VD;have NF:=uH hp2;clear hp2;have Ad:=VD.out;have Fs:=Ad.lts;have kc:w6.cell? ⟨c,3,none⟩=some (.int .i64 clock):=aa Ad.self 3;have kf:w6.frozen? ⟨c,3,none⟩=false:=ae Ad.self 3;have vm:w6.cell? ⟨bh,0,none⟩=some (.int .i64 (f:Int)):=aa Fa.out 0;have vk:w6.cell? ⟨bh,1,none⟩=some (.int .i64 0):=aa Fa.out 1;have TJ:w6.frozen? ⟨bh,1,none⟩=false:=ae Fa.out 1;have hwr:IntKind.i64.wrap (clock+1)=clock+1:=(by(rw[IntKind.wrap_i64];omega));obtain⟨w20,Da⟩: ∃w20,w20=w6.setCell ⟨c,3,none⟩ (.int .i64 (clock+1)):=⟨_,rfl⟩;have Ak:Mod (fun b=>b=c) w6 w20:=(by(rw[Da];exact aj (S:=fun b=>b=c) rfl 3 _));have Db:aJ w20 c a fs m (clock+1):=(by(rw[Da];exact Ad.self.tick));have SX:=(uG Fa.out).1;have BM:=(Ak.block bh SX Px).trans Fa.out;have x0:w20.cell? ⟨bh,0,none⟩=some (.int .i64 (f:Int)):=aa BM 0;have x1:w20.cell? ⟨bh,1,none⟩=some (.int .i64 0):=aa BM 1;have x2:w20.frozen? ⟨bh,1,none⟩=false:=ae BM 1;have x3:w20.cell? ⟨c,3,none⟩=some (.int .i64 (clock+1)):=aa Db 3;obtain⟨w21,CZ⟩: ∃w21,w21=w20.setCell ⟨bh,1,none⟩ (.int .i64 (clock+1)):=⟨_,rfl⟩;have Aj:Mod (fun b=>b=bh) w20 w21:=(by(rw[CZ];exact aj (S:=fun b=>b=bh) rfl 1 _));have Dr:w21.heap[bh]? =some (.cells #[.int .i64 (f:Int), .int .i64 (clock+1)] 129 (0,0)):=(by(rw[CZ];simpa using Joins.block_setCell (i:=1) BM (.int .i64 (clock+1))));have Ju:=(uG Db).1;have Fg:aJ w21 c a fs m (clock+1):=(Aj.block c Ju (fun e=>Px e.symm)).trans Db;have zi:=(uG HK6.out).1;have WK:=Ak.size;have WJ:=Aj.size;have FE:=(Aj.block bk (by omega) LI).trans ((Ak.block bk zi Pv).trans HK6.out);have DY:aL w21 m L1:=(Ad.slots.same ((Aj.block m (by omega) (fun e=>Fy e.symm)).trans (Ak.block m Fs.2.1 (fun e=>Fs.2.2.1 e.symm))));obtain⟨es,wb,Td⟩:=aL.same (w':=w21.drew) DY rfl;obtain⟨es',Dt,ET,Ft⟩:=Td.put (s:=⟨ino,page,f,clock+1⟩) Jy IV;obtain⟨w22,CY⟩: ∃w22,w22=Go.ChangeMaps.setBlock w21.drew m (.map es' Dt):=⟨_,rfl⟩;rw[<-CY]at ET Ft;have Fp:(Instr.mapUpdate 123 (.map (some m)) (.agg #[.int .i64 ino, .int .i64 page]) (.agg #[.int .i64 (f:Int), .int .i64 (clock+1)])).run Tryz.prog w21.drew= .ok () w22:=ET;have y0:w21.cell? ⟨c,2,none⟩=some (.map (some m)):=aa Fg 2;have y1:w21.cell? ⟨bk,0,none⟩=some (.int .i64 ino):=aa FE 0;have y2:w21.cell? ⟨bk,1,none⟩=some (.int .i64 page):=aa FE 1;have y3:w21.cell? ⟨bh,0,none⟩=some (.int .i64 (f:Int)):=aa Dr 0;have y4:w21.cell? ⟨bh,1,none⟩=some (.int .i64 (clock+1)):=aa Dr 1;have Dg:Mod (fun b=>b=m) w21 w22:=(by(rw[CY];exact iH _ _ _));have Kc:=(Dg.block bh (by omega) Fy).trans Dr;have y5:w22.cell? ⟨bh,0,none⟩=some (.int .i64 (f:Int)):=aa Kc 0;have Bu:Mod (fun b=>b=m\/b=c\/b=bh) w6 w22:=((Ak.sub fun b hb=> .inr (.inl hb)).trans (Out.refl _ _) ((Aj.sub fun b hb=> .inr (.inr hb)).trans (Out.refl _ _) (Dg.sub fun b hb=> .inl hb)));have Ul:ar w22 S1 c a fs m (clock+1) p2 (dH L1 ⟨ino,page,f,clock+1⟩):=⟨Ad.pool.mod Bu (fun b hb e=>by(rcases e with e|e|e;exact Ad.noM (e▸hb);exact Ad.noC (e▸hb);exact LJ (e▸hb))) (fun e=>by(have h9:=Ad.c0;rcases e with e|e|e<;>omega)),(Dg.block c (by omega) Fs.2.2.1).trans Fg,⟨es',Dt,Ft⟩,Ad.noC,Ad.noM⟩;have ZZ:=uH Ul;have ZH:=uH Bu;have Qa:=uH Da;have PZ:=uH CZ;have Zh:=uH CY;clear Ad Db BM Dr Fg FE DY Td Ft ET Ak Aj Dg Ul Bu Da CZ CY Kc;go_upto_region 17 with(fail);rw[<-Qa.out];go_upto_region 18 with(fail);rw[<-PZ.out];go_region;go_wp2_with fail
  all_goals
   go_ret2;exact⟨0,f,p2,_,clock+1,S1,rfl,ZZ.out,dK.mod2 yh.out EJ.out xv.out BV.out KX.out ZH.out Ww,fun b hb=>(xv.out b hb).imp id (fun h=>by have:=yh.out.size;omega),by rw[NF.out];exact .miss f p1 L1 h0 Rn rfl Rr.out vT.out⟩
end
section
open Go.RowKit Go.Sort
def bU (w:World) (A:Option Addr) (n cap:Nat) (d:Nat->Nat):Prop:=
 au w A n d/\(∀x,A=some x-> ∃(g:Nat) (cs:Array Value) (f:Nat×Nat),x=⟨g,0,none⟩/\w.heap[g]? =some (.cells cs 5 f))/\n<=cap/\eE A n cap
variable {w:World} {base cap n:Nat} {d:Nat->Nat}
theorem OwnB.byteRow {g:Nat} (h:OwnB w base (some ⟨g,0,none⟩) cap n d):bU w (some ⟨g,0,none⟩) n cap d:=by
 refine⟨h.v,fun x hx=>?_,?_,fun e=>by cases e⟩
 ·injection hx with hx;subst hx;rcases h.2 with⟨h2,_⟩|⟨g',vh,cur,h1,_,h3,_⟩
  ·injection h2 with h2;cases h2
  ·injection h1 with e1;injection e1 with e1;injection e1 with e1;subst e1;exact⟨_,_,_,rfl,h3⟩
 ·rcases h.2 with⟨h2,_⟩|⟨g',vh,cur,h1,_,_,h4,_⟩
  ·injection h2 with h2;cases h2
  ·injection h1 with _ _ e3;omega
variable {A:Option Addr}
theorem bU.below {w':World} (h:bU w A n cap d) (hb:Below w.heap.size w w'):bU w' A n cap d:=by
 obtain⟨h1,h2,h3⟩:=h;refine⟨h1.kept hb,fun x hx=>?_,h3⟩;obtain⟨g,cs,f,e,hg⟩:=h2 x hx;exact⟨g,cs,f,e,(hb.block g (uG hg).1).trans hg⟩
theorem au.lt {ad:Addr} (h:au w (some ad) n d) (h0:0<n):ad.block<w.heap.size:=by
 obtain⟨x,e,hc⟩:=h h0;injection e with e;subst e;have hl:=World.block_lt_of_cell? _ _ (hc 0 h0);have EU:(ad.add 0).block=ad.block:=by unfold Addr.add;split<;>rfl
 rw[EU]at hl;exact hl
def uC (w:World) (n:Nat) (d:Nat->Nat) (e:Ending) (w':World):Prop:= ∃A cap,e= .returned (.slice A n cap)/\bU w' A n cap d/\Below w.heap.size w w'
theorem gP (w:World):Calls Tryz.prog 135 #[.slice none 0 0] w fun e w'=>e= .returned (.slice none 0 0)/\w'=w:=by
 have De:=fun(W:World)=>Lib.run_eql_slice_nil (P:=Tryz.prog) (w:=W) 39 5 none 0 0 0 0 Tryz.underlying39;go_enter Tryz.func135,Tryz.ntmps135;go_wp2_with fail;go_ret;exact⟨rfl,rfl⟩
theorem kg (c:Nat) (ad:Addr) (w:World):Calls Tryz.prog 135 #[.slice (some ad) 0 c] w fun e w'=>e= .returned (.slice (some ⟨w.heap.size,0,none⟩) 0 0)/\w'=w.alloc (.cells #[] 5):=by
 have De:=fun(W:World)=>Lib.run_eql_slice_nil (P:=Tryz.prog) (w:=W) 39 5 (some ad) 0 c 0 0 Tryz.underlying39;go_enter Tryz.func135,Tryz.ntmps135;go_wp2_with fail;go_ret;exact⟨rfl,rfl⟩
theorem tP (A:Option Addr) (n c:Nat) (d:Nat->Nat) (w:World) (wz:eE A n c) (Df:n<=1000000) (hA:au w A n d):
  Calls Tryz.prog 135 #[.slice A n c] w (uC w n d):=by
 cases A with
 |none=>
  obtain⟨rfl,rfl⟩:=wz rfl;refine(gP w).mono ?_;rintro e w' ⟨rfl,rfl⟩;exact⟨none,0,rfl,⟨(fun h=>by omega),(fun x hx=>by cases hx),uK _,fun _ =>⟨rfl,rfl⟩⟩,vg _ _⟩
 |some ad=>
  by_cases h0:0<n
  ·refine(kh n c ad d w h0 Df hA (hA.lt h0)).mono ?_;rintro e w' ⟨g,cap,rfl,ho,hb⟩;exact⟨_,_,rfl,ho.byteRow,hb⟩
  ·obtain rfl:n=0:=(by omega);refine(kg c ad w).mono ?_;rintro e w' ⟨rfl,rfl⟩;exact⟨_,_,rfl,⟨(fun h=>by omega),(fun x hx=>by injection hx with hx;subst hx;exact⟨_,_,_,rfl,ab w _⟩),uK _,fun e=>by cases e⟩,uJ⟩
theorem jb (k a:Nat) (W:World):(binOp .neq 189 (aW k a) .nilIface).run Tryz.prog W= .ok (.bool true) W:=by
 unfold aW tyOf;split
 ·kernel_rfl
 ·split<;>kernel_rfl
theorem jc (k a:Nat) (W:World):(binOp .eql 189 (aW k a) .nilIface).run Tryz.prog W= .ok (.bool false) W:=by
 unfold aW tyOf;split
 ·kernel_rfl
 ·split<;>kernel_rfl
theorem gH (x y:Operand) (k a:Nat) (W:World):(eqGuard .neq 189 x y (aW k a) .nilIface).run Tryz.prog W= .ok () W:=rfl
theorem eU (x y:Operand) (k a:Nat) (W:World):(eqGuard .eql 189 x y (aW k a) .nilIface).run Tryz.prog W= .ok () W:=rfl
def bY (B fs:Nat) (F:List Nd) (x:Ent) (w:World) (e:Ending) (w':World):Prop:=
 e= .returned (.int .i64 (addM F x).1)/\(∃nb c2 ad mp,FsIs w' B fs nb c2 ad mp (addM F x).2)/\Below B w w'
variable {l:List ByteArray}
theorem OwnS.strs (h:OwnS w base A cap l):uq w A l:=fun j x hx=>by
 rcases h.form with⟨_,e,_⟩|⟨g,e,_⟩
 ·rw[e]at hx;simp at hx
 ·subst e;exact⟨g,rfl,h.elem hx⟩
theorem uq.front (h:uq w A l):uq w A l.dropLast:=fun j x hx=>by
 refine h j x ?_;have hl:=(List.getElem?_eq_some_iff.1 hx).1;rw[List.length_dropLast]at hl;rw[List.getElem?_dropLast,if_pos hl]at hx;exact hx
theorem vadd_bad (B fs nb c2 c:Nat) (ad mp:Nat->Nat) (F:List Nd) (x:Ent) (A:Option Addr) (w:World) (h:FsIs w B fs nb c2 ad mp F) (hp:x.path.size<=1000000000) (ht:x.to.size<=1000000000) (hn:x.n<=9223372036854775807) (hB:B<=w.heap.size) (hm:may x≠0):
  Calls Tryz.prog 82 #[.pointer (some ⟨fs,0,none⟩),x.val A c] w (bY B fs F x w):=by
 have xJ:addM F x=(may x,F):=(by unfold addM;rw[if_pos hm]);unfold bY;rw[xJ];obtain⟨r,hr⟩: ∃r,r=may x:=⟨_,rfl⟩;have vu:(r != 0)=true:=(by rw[bne_iff_ne,hr];exact hm);have yz:=fun W=>dM x A c W hp ht hn;rw[<-hr]at yz⊢;obtain⟨w0,vl⟩: ∃w0,w0=w.alloc (.cells #[.string x.path, .int .u8 (x.kind:Int), .int .u16 (x.mode:Int), .int .u32 (x.uid:Int), .int .u32 (x.gid:Int), .slice A x.n c, .string x.to] 93):=⟨_,rfl⟩;have vm:Below w.heap.size w w0:=(by rw[vl];exact uJ);have hE:w0.heap[w.heap.size]? =some (.cells #[.string x.path, .int .u8 (x.kind:Int), .int .u16 (x.mode:Int), .int .u32 (x.uid:Int), .int .u32 (x.gid:Int), .slice A x.n c, .string x.to] 93 (0,0)):=(by rw[vl];exact ab w _);have d0:w0.cell? ⟨w.heap.size,0,none⟩=some (.string x.path):=aa hE 0;have d1:w0.cell? ⟨w.heap.size,1,none⟩=some (.int .u8 (x.kind:Int)):=aa hE 1;have d2:w0.cell? ⟨w.heap.size,2,none⟩=some (.int .u16 (x.mode:Int)):=aa hE 2;have d3:w0.cell? ⟨w.heap.size,3,none⟩=some (.int .u32 (x.uid:Int)):=aa hE 3;have d4:w0.cell? ⟨w.heap.size,4,none⟩=some (.int .u32 (x.gid:Int)):=aa hE 4;have d5:w0.cell? ⟨w.heap.size,5,none⟩=some (.slice A x.n c):=aa hE 5;have d6:w0.cell? ⟨w.heap.size,6,none⟩=some (.string x.to):=aa hE 6;unfold Ent.val at yz⊢;have Kr:=uH yz;have vF:=uH vl;have HH:=uH h;have HM:=uH hm;have HR:=uH hr;clear yz vl h hm hr xJ hE;go_enter Tryz.func82,Tryz.ntmps82;go_upto_region 1 with(fail);rw[<-vF.out];go_wp2_with (first
  |(go_at_call 133;refine(Kr.out _).mono ?_;rintro e w1 ⟨A1,vj,l1,rfl,vL,vk,wM,vV⟩;have vq:=uH vk;clear vL vk wM vV)
  |fail)
 go_ret;have hb:=vm.trans (vq.out.mono vm.size);exact⟨rfl,⟨nb,c2,ad,mp,HH.out.below hb⟩,hb.mono hB⟩
end
section
open Go.RowKit Go.Sort
variable {F:List Nd} {x:Ent}
theorem kV {j:Nat} (hm:may x=0) (h:atM F 0 (aq x.path)=some j):addM F x=(7,F):=by
 unfold addM;rw[if_neg (by omega),h];rfl
theorem kW (hm:may x=0) (h:atM F 0 (aq x.path)=none) (h2:atM F 0 (aq x.path).dropLast=none):addM F x=(3,F):=by
 unfold addM;rw[if_neg (by omega),h,h2];rfl
variable {up:Nat}
theorem kn (hm:may x=0) (h:atM F 0 (aq x.path)=none) (h2:atM F 0 (aq x.path).dropLast=some up) (hk:ak F up≠2):addM F x=(8,F):=by
 unfold addM;rw[if_neg (by omega),h,h2];show(if ak F up≠2 then((8:Int),F)else(0,F++[bA x up ((aq x.path).getLastD ⟨#[]⟩)]))=(8,F);rw[if_pos hk]
theorem ko (hm:may x=0) (h:atM F 0 (aq x.path)=none) (h2:atM F 0 (aq x.path).dropLast=some up) (hk:ak F up=2):addM F x=(0,F++[bA x up ((aq x.path).getLastD ⟨#[]⟩)]):=by
 unfold addM;rw[if_neg (by omega),h,h2];show(if ak F up≠2 then((8:Int),F)else(0,F++[bA x up ((aq x.path).getLastD ⟨#[]⟩)]))=_;rw[if_neg (by omega)]
theorem qm (B fs nb c2 c j:Nat) (ad mp:Nat->Nat) (F:List Nd) (x:Ent) (A:Option Addr) (w:World) (h:FsIs w B fs nb c2 ad mp F) (hp:x.path.size<=1000000000) (ht:x.to.size<=1000000000) (hn:x.n<=9223372036854775807) (hB:B<=w.heap.size) (hm:may x=0) (hF:F.length<=1000)
  (ha:atM F 0 (aq x.path)=some j):
  Calls Tryz.prog 82 #[.pointer (some ⟨fs,0,none⟩),x.val A c] w (bY B fs F x w):=by
 unfold bY;rw[kV hm ha];obtain⟨L,hL⟩: ∃L,L=aq x.path:=⟨_,rfl⟩;obtain⟨_,_,_,xl,_,BK,_⟩:=eA hm;have BL:L.length<=201:=(by rw[hL];have h1:=(cW xl).2.1;have:=bc x.path;omega);obtain⟨m,Ai⟩: ∃m,m+1=L.length:=⟨L.length-1,by
  have:0<L.length:=List.length_pos_iff.2 (by rw[hL];exact BK);omega⟩
 have XD:m<=200:=(by omega);have yz: ∀W,Calls Tryz.prog 133 #[x.val A c] W fun e w'=> ∃A1 vj,e= .returned (.tuple #[.slice A1 (m+1) vj, .int .i64 0])/\Hid (OwnS w' W.heap.size A1 vj L)/\Hid (Below W.heap.size W w')/\m+1<=vj:=fun W=>by
  refine(dM x A c W hp ht hn).mono ?_;rintro e w' ⟨A1,vj,l1,rfl,vL,vk,wM,vV⟩;have h9:=wM hm;rw[<-hL]at h9;subst h9;refine⟨A1,vj,by rw[hm,Ai],uH vL,uH vk,?_⟩;rcases vL.form with⟨_,e,_⟩|⟨g,_,_,_,e⟩
  ·rw[e]at Ai;cases Ai
  ·omega
 obtain⟨w0,vl⟩: ∃w0,w0=w.alloc (.cells #[.string x.path, .int .u8 (x.kind:Int), .int .u16 (x.mode:Int), .int .u32 (x.uid:Int), .int .u32 (x.gid:Int), .slice A x.n c, .string x.to] 93):=⟨_,rfl⟩;have vm:Below w.heap.size w w0:=(by rw[vl];exact uJ);have hE:w0.heap[w.heap.size]? =some (.cells #[.string x.path, .int .u8 (x.kind:Int), .int .u16 (x.mode:Int), .int .u32 (x.uid:Int), .int .u32 (x.gid:Int), .slice A x.n c, .string x.to] 93 (0,0)):=(by rw[vl];exact ab w _);have d0:w0.cell? ⟨w.heap.size,0,none⟩=some (.string x.path):=aa hE 0;have d1:w0.cell? ⟨w.heap.size,1,none⟩=some (.int .u8 (x.kind:Int)):=aa hE 1;have d2:w0.cell? ⟨w.heap.size,2,none⟩=some (.int .u16 (x.mode:Int)):=aa hE 2;have d3:w0.cell? ⟨w.heap.size,3,none⟩=some (.int .u32 (x.uid:Int)):=aa hE 3;have d4:w0.cell? ⟨w.heap.size,4,none⟩=some (.int .u32 (x.gid:Int)):=aa hE 4;have d5:w0.cell? ⟨w.heap.size,5,none⟩=some (.slice A x.n c):=aa hE 5;have d6:w0.cell? ⟨w.heap.size,6,none⟩=some (.string x.to):=aa hE 6;have wG: ∀W A1 vj base,Below w.heap.size w W->Hid (OwnS W base A1 vj L)->m+1<=vj->Calls Tryz.prog 134 #[.pointer (some ⟨fs,0,none⟩), .slice A1 (m+1) vj] W fun e w'=>e= .returned (atV F ad (atM F 0 L))/\w'=W:=fun W A1 vj base hb ho hc=>
  eP B fs nb c2 (m+1) vj ad mp F A1 L W (h.below hb) ho.out.strs Ai hc (by omega) (by omega)
 have wZ: ∀W A1 vj base,Below w.heap.size w W->Hid (OwnS W base A1 vj L)->m+1<=vj->Calls Tryz.prog 134 #[.pointer (some ⟨fs,0,none⟩), .slice A1 m vj] W fun e w'=>e= .returned (atV F ad (atM F 0 L.dropLast))/\w'=W:=fun W A1 vj base hb ho hc=>
  eP B fs nb c2 m vj ad mp F A1 L.dropLast W (h.below hb) ho.out.strs.front (by rw[List.length_dropLast];omega) (by omega) (by omega) (by omega)
 have Je:=fun k a W=>jb k a W;have Lx:=fun k a W=>jc k a W;have Gm:=fun x y k a W=>gH x y k a W;have Gn:=fun x y k a W=>eU x y k a W;have HE:=uH hE;have Ve:=uH Ai;have HL:=uH hL
 (rw[<-hL]at ha;rw[ha]at wG;have wG: ∀W A1 vj base,Below w.heap.size w W->Hid (OwnS W base A1 vj L)->m+1<=vj->Calls Tryz.prog 134 #[.pointer (some ⟨fs,0,none⟩), .slice A1 (m+1) vj] W fun e w'=>e= .returned (aW (ak F j) (ad j))/\w'=W:=wG;clear ha)
 have zu:=yz;unfold Ent.val at zu⊢;have Kr:=uH zu;have CB:=uH wG;have BY:=uH wZ;have vF:=uH vl;have HH:=uH h;have HM:=uH hm;clear yz zu wG wZ vl h hm hE Ai hL xl BK BL;go_enter Tryz.func82,Tryz.ntmps82;go_upto_region 1 with(fail);rw[<-vF.out];go_wp2_with (first
  |(go_at_call 133;refine(Kr.out _).mono ?_;rintro e w1 ⟨A1,vj,rfl,vx,vq,xw⟩)
  |(go_at_call 134;refine(CB.out _ _ _ _ (vm.trans (vq.out.mono vm.size)) vx xw).mono ?_;rintro e w2 ⟨rfl,rfl⟩)
  |fail)
 go_ret;have hb:=vm.trans (vq.out.mono vm.size);exact⟨rfl,⟨nb,c2,ad,mp,HH.out.below hb⟩,hb.mono hB⟩
theorem qn (B fs nb c2 c:Nat) (ad mp:Nat->Nat) (F:List Nd) (x:Ent) (A:Option Addr) (w:World) (h:FsIs w B fs nb c2 ad mp F) (hp:x.path.size<=1000000000) (ht:x.to.size<=1000000000) (hn:x.n<=9223372036854775807) (hB:B<=w.heap.size) (hm:may x=0) (hF:F.length<=1000)
  (ha:atM F 0 (aq x.path)=none) (BH:atM F 0 (aq x.path).dropLast=none):
  Calls Tryz.prog 82 #[.pointer (some ⟨fs,0,none⟩),x.val A c] w (bY B fs F x w):=by
 unfold bY;rw[kW hm ha BH];obtain⟨L,hL⟩: ∃L,L=aq x.path:=⟨_,rfl⟩;obtain⟨_,_,_,xl,_,BK,_⟩:=eA hm;have BL:L.length<=201:=(by rw[hL];have h1:=(cW xl).2.1;have:=bc x.path;omega);obtain⟨m,Ai⟩: ∃m,m+1=L.length:=⟨L.length-1,by
  have:0<L.length:=List.length_pos_iff.2 (by rw[hL];exact BK);omega⟩
 have XD:m<=200:=(by omega);have yz: ∀W,Calls Tryz.prog 133 #[x.val A c] W fun e w'=> ∃A1 vj,e= .returned (.tuple #[.slice A1 (m+1) vj, .int .i64 0])/\Hid (OwnS w' W.heap.size A1 vj L)/\Hid (Below W.heap.size W w')/\m+1<=vj:=fun W=>by
  refine(dM x A c W hp ht hn).mono ?_;rintro e w' ⟨A1,vj,l1,rfl,vL,vk,wM,vV⟩;have h9:=wM hm;rw[<-hL]at h9;subst h9;refine⟨A1,vj,by rw[hm,Ai],uH vL,uH vk,?_⟩;rcases vL.form with⟨_,e,_⟩|⟨g,_,_,_,e⟩
  ·rw[e]at Ai;cases Ai
  ·omega
 obtain⟨w0,vl⟩: ∃w0,w0=w.alloc (.cells #[.string x.path, .int .u8 (x.kind:Int), .int .u16 (x.mode:Int), .int .u32 (x.uid:Int), .int .u32 (x.gid:Int), .slice A x.n c, .string x.to] 93):=⟨_,rfl⟩;have vm:Below w.heap.size w w0:=(by rw[vl];exact uJ);have hE:w0.heap[w.heap.size]? =some (.cells #[.string x.path, .int .u8 (x.kind:Int), .int .u16 (x.mode:Int), .int .u32 (x.uid:Int), .int .u32 (x.gid:Int), .slice A x.n c, .string x.to] 93 (0,0)):=(by rw[vl];exact ab w _);have d0:w0.cell? ⟨w.heap.size,0,none⟩=some (.string x.path):=aa hE 0;have d1:w0.cell? ⟨w.heap.size,1,none⟩=some (.int .u8 (x.kind:Int)):=aa hE 1;have d2:w0.cell? ⟨w.heap.size,2,none⟩=some (.int .u16 (x.mode:Int)):=aa hE 2;have d3:w0.cell? ⟨w.heap.size,3,none⟩=some (.int .u32 (x.uid:Int)):=aa hE 3;have d4:w0.cell? ⟨w.heap.size,4,none⟩=some (.int .u32 (x.gid:Int)):=aa hE 4;have d5:w0.cell? ⟨w.heap.size,5,none⟩=some (.slice A x.n c):=aa hE 5;have d6:w0.cell? ⟨w.heap.size,6,none⟩=some (.string x.to):=aa hE 6;have wG: ∀W A1 vj base,Below w.heap.size w W->Hid (OwnS W base A1 vj L)->m+1<=vj->Calls Tryz.prog 134 #[.pointer (some ⟨fs,0,none⟩), .slice A1 (m+1) vj] W fun e w'=>e= .returned (atV F ad (atM F 0 L))/\w'=W:=fun W A1 vj base hb ho hc=>
  eP B fs nb c2 (m+1) vj ad mp F A1 L W (h.below hb) ho.out.strs Ai hc (by omega) (by omega)
 have wZ: ∀W A1 vj base,Below w.heap.size w W->Hid (OwnS W base A1 vj L)->m+1<=vj->Calls Tryz.prog 134 #[.pointer (some ⟨fs,0,none⟩), .slice A1 m vj] W fun e w'=>e= .returned (atV F ad (atM F 0 L.dropLast))/\w'=W:=fun W A1 vj base hb ho hc=>
  eP B fs nb c2 m vj ad mp F A1 L.dropLast W (h.below hb) ho.out.strs.front (by rw[List.length_dropLast];omega) (by omega) (by omega) (by omega)
 have Je:=fun k a W=>jb k a W;have Lx:=fun k a W=>jc k a W;have Gm:=fun x y k a W=>gH x y k a W;have Gn:=fun x y k a W=>eU x y k a W;have HE:=uH hE;have Ve:=uH Ai;have HL:=uH hL
 (rw[<-hL]at ha BH;rw[ha]at wG;rw[BH]at wZ;have wG: ∀W A1 vj base,Below w.heap.size w W->Hid (OwnS W base A1 vj L)->m+1<=vj->Calls Tryz.prog 134 #[.pointer (some ⟨fs,0,none⟩), .slice A1 (m+1) vj] W fun e w'=>e= .returned .nilIface/\w'=W:=wG;have wZ: ∀W A1 vj base,Below w.heap.size w W->Hid (OwnS W base A1 vj L)->m+1<=vj->Calls Tryz.prog 134 #[.pointer (some ⟨fs,0,none⟩), .slice A1 m vj] W fun e w'=>e= .returned .nilIface/\w'=W:=wZ;clear ha BH)
 have zu:=yz;unfold Ent.val at zu⊢;have Kr:=uH zu;have CB:=uH wG;have BY:=uH wZ;have vF:=uH vl;have HH:=uH h;have HM:=uH hm;clear yz zu wG wZ vl h hm hE Ai hL xl BK BL;go_enter Tryz.func82,Tryz.ntmps82;go_upto_region 1 with(fail);rw[<-vF.out];go_upto_region 7 with(first
  |(go_at_call 133;refine(Kr.out _).mono ?_;rintro e w1 ⟨A1,vj,rfl,vx,vq,xw⟩)
  |(go_at_call 134;refine(CB.out _ _ _ _ (vm.trans (vq.out.mono vm.size)) vx xw).mono ?_;rintro e w2 ⟨rfl,rfl⟩)
  |fail)
 go_wp2_with (first
  |(go_at_call 134;refine(BY.out _ _ _ _ (vm.trans (vq.out.mono vm.size)) vx xw).mono ?_;rintro e w3 ⟨rfl,rfl⟩)
  |fail)
 go_ret;have hb:=vm.trans (vq.out.mono vm.size);exact⟨rfl,⟨nb,c2,ad,mp,HH.out.below hb⟩,hb.mono hB⟩
theorem nT (B fs nb c2 c up:Nat) (ad mp:Nat->Nat) (F:List Nd) (x:Ent) (A:Option Addr) (w:World) (h:FsIs w B fs nb c2 ad mp F) (hp:x.path.size<=1000000000) (ht:x.to.size<=1000000000) (hn:x.n<=9223372036854775807) (hB:B<=w.heap.size) (hm:may x=0) (hF:F.length<=1000)
  (ha:atM F 0 (aq x.path)=none) (BH:atM F 0 (aq x.path).dropLast=some up) (hk:ak F up≠2):
  Calls Tryz.prog 82 #[.pointer (some ⟨fs,0,none⟩),x.val A c] w (bY B fs F x w):=by
 unfold bY;rw[kn hm ha BH hk];have LK:=fun W=>fZ (ak F up) (ad up) W;rw[if_neg hk,uX hk]at LK;clear hk;obtain⟨L,hL⟩: ∃L,L=aq x.path:=⟨_,rfl⟩;obtain⟨_,_,_,xl,_,BK,_⟩:=eA hm;have BL:L.length<=201:=(by rw[hL];have h1:=(cW xl).2.1;have:=bc x.path;omega);obtain⟨m,Ai⟩: ∃m,m+1=L.length:=⟨L.length-1,by
  have:0<L.length:=List.length_pos_iff.2 (by rw[hL];exact BK);omega⟩
 have XD:m<=200:=(by omega);have yz: ∀W,Calls Tryz.prog 133 #[x.val A c] W fun e w'=> ∃A1 vj,e= .returned (.tuple #[.slice A1 (m+1) vj, .int .i64 0])/\Hid (OwnS w' W.heap.size A1 vj L)/\Hid (Below W.heap.size W w')/\m+1<=vj:=fun W=>by
  refine(dM x A c W hp ht hn).mono ?_;rintro e w' ⟨A1,vj,l1,rfl,vL,vk,wM,vV⟩;have h9:=wM hm;rw[<-hL]at h9;subst h9;refine⟨A1,vj,by rw[hm,Ai],uH vL,uH vk,?_⟩;rcases vL.form with⟨_,e,_⟩|⟨g,_,_,_,e⟩
  ·rw[e]at Ai;cases Ai
  ·omega
 obtain⟨w0,vl⟩: ∃w0,w0=w.alloc (.cells #[.string x.path, .int .u8 (x.kind:Int), .int .u16 (x.mode:Int), .int .u32 (x.uid:Int), .int .u32 (x.gid:Int), .slice A x.n c, .string x.to] 93):=⟨_,rfl⟩;have vm:Below w.heap.size w w0:=(by rw[vl];exact uJ);have hE:w0.heap[w.heap.size]? =some (.cells #[.string x.path, .int .u8 (x.kind:Int), .int .u16 (x.mode:Int), .int .u32 (x.uid:Int), .int .u32 (x.gid:Int), .slice A x.n c, .string x.to] 93 (0,0)):=(by rw[vl];exact ab w _);have d0:w0.cell? ⟨w.heap.size,0,none⟩=some (.string x.path):=aa hE 0;have d1:w0.cell? ⟨w.heap.size,1,none⟩=some (.int .u8 (x.kind:Int)):=aa hE 1;have d2:w0.cell? ⟨w.heap.size,2,none⟩=some (.int .u16 (x.mode:Int)):=aa hE 2;have d3:w0.cell? ⟨w.heap.size,3,none⟩=some (.int .u32 (x.uid:Int)):=aa hE 3;have d4:w0.cell? ⟨w.heap.size,4,none⟩=some (.int .u32 (x.gid:Int)):=aa hE 4;have d5:w0.cell? ⟨w.heap.size,5,none⟩=some (.slice A x.n c):=aa hE 5;have d6:w0.cell? ⟨w.heap.size,6,none⟩=some (.string x.to):=aa hE 6;have wG: ∀W A1 vj base,Below w.heap.size w W->Hid (OwnS W base A1 vj L)->m+1<=vj->Calls Tryz.prog 134 #[.pointer (some ⟨fs,0,none⟩), .slice A1 (m+1) vj] W fun e w'=>e= .returned (atV F ad (atM F 0 L))/\w'=W:=fun W A1 vj base hb ho hc=>
  eP B fs nb c2 (m+1) vj ad mp F A1 L W (h.below hb) ho.out.strs Ai hc (by omega) (by omega)
 have wZ: ∀W A1 vj base,Below w.heap.size w W->Hid (OwnS W base A1 vj L)->m+1<=vj->Calls Tryz.prog 134 #[.pointer (some ⟨fs,0,none⟩), .slice A1 m vj] W fun e w'=>e= .returned (atV F ad (atM F 0 L.dropLast))/\w'=W:=fun W A1 vj base hb ho hc=>
  eP B fs nb c2 m vj ad mp F A1 L.dropLast W (h.below hb) ho.out.strs.front (by rw[List.length_dropLast];omega) (by omega) (by omega) (by omega)
 have Je:=fun k a W=>jb k a W;have Lx:=fun k a W=>jc k a W;have Gm:=fun x y k a W=>gH x y k a W;have Gn:=fun x y k a W=>eU x y k a W;have HE:=uH hE;have Ve:=uH Ai;have HL:=uH hL
 (rw[<-hL]at ha BH;rw[ha]at wG;rw[BH]at wZ;have wG: ∀W A1 vj base,Below w.heap.size w W->Hid (OwnS W base A1 vj L)->m+1<=vj->Calls Tryz.prog 134 #[.pointer (some ⟨fs,0,none⟩), .slice A1 (m+1) vj] W fun e w'=>e= .returned .nilIface/\w'=W:=wG;have wZ: ∀W A1 vj base,Below w.heap.size w W->Hid (OwnS W base A1 vj L)->m+1<=vj->Calls Tryz.prog 134 #[.pointer (some ⟨fs,0,none⟩), .slice A1 m vj] W fun e w'=>e= .returned (aW (ak F up) (ad up))/\w'=W:=wZ;clear ha BH)
 have zu:=yz;unfold Ent.val at zu⊢;have Kr:=uH zu;have CB:=uH wG;have BY:=uH wZ;have vF:=uH vl;have HH:=uH h;have HM:=uH hm;clear yz zu wG wZ vl h hm hE Ai hL xl BK BL;go_enter Tryz.func82,Tryz.ntmps82;go_upto_region 1 with(fail);rw[<-vF.out];go_upto_region 7 with(first
  |(go_at_call 133;refine(Kr.out _).mono ?_;rintro e w1 ⟨A1,vj,rfl,vx,vq,xw⟩)
  |(go_at_call 134;refine(CB.out _ _ _ _ (vm.trans (vq.out.mono vm.size)) vx xw).mono ?_;rintro e w2 ⟨rfl,rfl⟩)
  |fail)
 go_wp2_with (first
  |(go_at_call 134;refine(BY.out _ _ _ _ (vm.trans (vq.out.mono vm.size)) vx xw).mono ?_;rintro e w3 ⟨rfl,rfl⟩)
  |fail)
 go_ret;have hb:=vm.trans (vq.out.mono vm.size);exact⟨rfl,⟨nb,c2,ad,mp,HH.out.below hb⟩,hb.mono hB⟩
end
section
open Go.RowKit Go.Sort
variable {L:List ByteArray}
theorem nk {m:Nat} (h:m+1=L.length): ∃s,L[m]? =some s/\L.getLastD ⟨#[]⟩=s/\L=L.dropLast++[s]:=by
 have vu:L≠[]:=fun e=>by rw[e]at h;cases h
 have h1:L=L.dropLast++[L.getLast vu]:=(List.dropLast_concat_getLast vu).symm;refine⟨L.getLast vu,?_,?_,h1⟩
 ·rw[List.getLast_eq_getElem];have:L.length-1=m:=(by omega);simp only[this];exact uN (by omega)
 ·cases L with
  |nil=>exact absurd rfl vu
  |cons a l=>rfl
theorem tv {F:List Nd} {s:ByteArray} {up:Nat} (hL:L=L.dropLast++[s]) (h1:atM F 0 L=none) (h2:atM F 0 L.dropLast=some up) (hk:ak F up=2): ∀y∈aG F up,y.1≠s:=by
 rw[hL,atM_snoc,h2]at h1;simp only at h1;refine qV ?_;cases hc:cP (aG F up) s with
 |none=>rfl
 |some j=>rw[atM_go hk hc]at h1;cases h1
theorem rR (B fs nb c2 c up:Nat) (ad mp:Nat->Nat) (F:List Nd) (x:Ent) (A:Option Addr) (w:World) (h:FsIs w B fs nb c2 ad mp F) (hp:x.path.size<=1000000000) (ht:x.to.size<=1000000000) (hn:x.n<=9223372036854775807) (hB:B<=w.heap.size) (hm:may x=0) (hF:F.length<=1000)
  (hA:au w A x.n x.dat) (Kf:eE A x.n c)
  (ha:atM F 0 (aq x.path)=none) (BH:atM F 0 (aq x.path).dropLast=some up) (hk:ak F up=2):
  Calls Tryz.prog 82 #[.pointer (some ⟨fs,0,none⟩),x.val A c] w (bY B fs F x w):=by
 have wz:=mi (F:=F) (e:=x) h.ok (by rw[ko hm ha BH hk]);unfold bY;rw[ko hm ha BH hk]at wz⊢;have yk:=tZ _ h.ok.pos BH;have LK:=fun W=>fZ (ak F up) (ad up) W;rw[if_pos hk,uY hk]at LK;obtain⟨N,hN⟩: ∃N,N=F.length:=⟨_,rfl⟩;have hNf:N<=1000:=(by omega);obtain⟨V,hV⟩: ∃V,V=aW (ak F up) (ad up):=⟨_,rfl⟩;have vt:=eA hm;obtain⟨L,hL⟩: ∃L,L=aq x.path:=⟨_,rfl⟩;obtain⟨_,_,_,xl,_,BK,_⟩:=eA hm;have BL:L.length<=201:=(by rw[hL];have h1:=(cW xl).2.1;have:=bc x.path;omega);obtain⟨m,Ai⟩: ∃m,m+1=L.length:=⟨L.length-1,by
  have:0<L.length:=List.length_pos_iff.2 (by rw[hL];exact BK);omega⟩
 have XD:m<=200:=(by omega);have yz: ∀W,Calls Tryz.prog 133 #[x.val A c] W fun e w'=> ∃A1 vj,e= .returned (.tuple #[.slice A1 (m+1) vj, .int .i64 0])/\Hid (OwnS w' W.heap.size A1 vj L)/\Hid (Below W.heap.size W w')/\m+1<=vj:=fun W=>by
  refine(dM x A c W hp ht hn).mono ?_;rintro e w' ⟨A1,vj,l1,rfl,vL,vk,wM,vV⟩;have h9:=wM hm;rw[<-hL]at h9;subst h9;refine⟨A1,vj,by rw[hm,Ai],uH vL,uH vk,?_⟩;rcases vL.form with⟨_,e,_⟩|⟨g,_,_,_,e⟩
  ·rw[e]at Ai;cases Ai
  ·omega
 obtain⟨w0,vl⟩: ∃w0,w0=w.alloc (.cells #[.string x.path, .int .u8 (x.kind:Int), .int .u16 (x.mode:Int), .int .u32 (x.uid:Int), .int .u32 (x.gid:Int), .slice A x.n c, .string x.to] 93):=⟨_,rfl⟩;have vm:Below w.heap.size w w0:=(by rw[vl];exact uJ);have hE:w0.heap[w.heap.size]? =some (.cells #[.string x.path, .int .u8 (x.kind:Int), .int .u16 (x.mode:Int), .int .u32 (x.uid:Int), .int .u32 (x.gid:Int), .slice A x.n c, .string x.to] 93 (0,0)):=(by rw[vl];exact ab w _);have d0:w0.cell? ⟨w.heap.size,0,none⟩=some (.string x.path):=aa hE 0;have d1:w0.cell? ⟨w.heap.size,1,none⟩=some (.int .u8 (x.kind:Int)):=aa hE 1;have d2:w0.cell? ⟨w.heap.size,2,none⟩=some (.int .u16 (x.mode:Int)):=aa hE 2;have d3:w0.cell? ⟨w.heap.size,3,none⟩=some (.int .u32 (x.uid:Int)):=aa hE 3;have d4:w0.cell? ⟨w.heap.size,4,none⟩=some (.int .u32 (x.gid:Int)):=aa hE 4;have d5:w0.cell? ⟨w.heap.size,5,none⟩=some (.slice A x.n c):=aa hE 5;have d6:w0.cell? ⟨w.heap.size,6,none⟩=some (.string x.to):=aa hE 6;have wG: ∀W A1 vj base,Below w.heap.size w W->Hid (OwnS W base A1 vj L)->m+1<=vj->Calls Tryz.prog 134 #[.pointer (some ⟨fs,0,none⟩), .slice A1 (m+1) vj] W fun e w'=>e= .returned (atV F ad (atM F 0 L))/\w'=W:=fun W A1 vj base hb ho hc=>
  eP B fs nb c2 (m+1) vj ad mp F A1 L W (h.below hb) ho.out.strs Ai hc (by omega) (by omega)
 have wZ: ∀W A1 vj base,Below w.heap.size w W->Hid (OwnS W base A1 vj L)->m+1<=vj->Calls Tryz.prog 134 #[.pointer (some ⟨fs,0,none⟩), .slice A1 m vj] W fun e w'=>e= .returned (atV F ad (atM F 0 L.dropLast))/\w'=W:=fun W A1 vj base hb ho hc=>
  eP B fs nb c2 m vj ad mp F A1 L.dropLast W (h.below hb) ho.out.strs.front (by rw[List.length_dropLast];omega) (by omega) (by omega) (by omega)
 have Je:=fun k a W=>jb k a W;have Lx:=fun k a W=>jc k a W;have Gm:=fun x y k a W=>gH x y k a W;have Gn:=fun x y k a W=>eU x y k a W;have HE:=uH hE;have Ve:=uH Ai;have HL:=uH hL
 (rw[<-hL]at ha BH;have JS:=wG;rw[ha]at JS;have JR:=wZ;rw[BH]at JR;clear wG wZ;have wG: ∀W A1 vj base,Below w.heap.size w W->Hid (OwnS W base A1 vj L)->m+1<=vj->Calls Tryz.prog 134 #[.pointer (some ⟨fs,0,none⟩), .slice A1 (m+1) vj] W fun e w'=>e= .returned .nilIface/\w'=W:=JS;have wZ: ∀W A1 vj base,Below w.heap.size w W->Hid (OwnS W base A1 vj L)->m+1<=vj->Calls Tryz.prog 134 #[.pointer (some ⟨fs,0,none⟩), .slice A1 m vj] W fun e w'=>e= .returned (aW (ak F up) (ad up))/\w'=W:=JR;have HAA:=uH ha;have HAA2:=uH BH;have EY:=uH hk;have Dz:=uH hN;have Qk:=uH wz;have Kv:=uH vt;have WE:=uH hA;have HSO:=uH Kf;have XW:=eU;clear ha BH JS JR hk hN wz hV vt hA Kf)
 have zu:=yz;unfold Ent.val at zu⊢;have Kr:=uH zu;have CB:=uH wG;have BY:=uH wZ;have vF:=uH vl;have HH:=uH h;have HM:=uH hm;clear yz zu wG wZ vl h hm hE Ai hL xl BK BL;go_enter Tryz.func82,Tryz.ntmps82;go_upto_region 1 with(fail);rw[<-vF.out];go_upto_region 7 with(first
  |(go_at_call 133;refine(Kr.out _).mono ?_;rintro e w1 ⟨A1,vj,rfl,vx,vq,xw⟩)
  |(go_at_call 134;refine(CB.out _ _ _ _ (vm.trans (vq.out.mono vm.size)) vx xw).mono ?_;rintro e w2 ⟨rfl,rfl⟩)
  |fail)
 go_upto_region 13 with(first
  |(go_at_call 134;refine(BY.out _ _ _ _ (vm.trans (vq.out.mono vm.size)) vx xw).mono ?_;rintro e w3 ⟨rfl,rfl⟩)
  |fail)
 clear d0 d1 d2 d3 d4 d5 d6;have wF:w.heap.size<w0.heap.size:=(uG HE.out).1;have yA:Below w.heap.size w w3:=vm.trans (vq.out.mono vm.size);have vn:=(vq.out.block _ wF).trans HE.out;obtain⟨s,hs,hsL,hsD⟩:=nk Ve.out;obtain⟨g,Tm,xH,xu⟩: ∃g,A1=some ⟨g,0,none⟩/\w0.heap.size<=g/\g<w3.heap.size:=by
  rcases vx.out.form with⟨_,e,_⟩|⟨g,e1,e2,e3,_⟩
  ·exfalso;have:=Ve.out;rw[e]at this;cases this
  ·exact⟨g,e1,e2,e3⟩
 subst Tm;have Wv:=HH.out.below yA;have cg:w3.cell? ⟨g,m,none⟩=some (.string s):=OwnS.elem vx.out hs;have e1:w3.cell? ⟨w.heap.size,1,none⟩=some (.int .u8 (x.kind:Int)):=aa vn 1;have e2:w3.cell? ⟨w.heap.size,2,none⟩=some (.int .u16 (x.mode:Int)):=aa vn 2;have e3:w3.cell? ⟨w.heap.size,3,none⟩=some (.int .u32 (x.uid:Int)):=aa vn 3;have e4:w3.cell? ⟨w.heap.size,4,none⟩=some (.int .u32 (x.gid:Int)):=aa vn 4;have e5:w3.cell? ⟨w.heap.size,5,none⟩=some (.slice A x.n c):=aa vn 5;have e8:w3.cell? ⟨fs,0,none⟩=some (.slice (some ⟨nb,0,none⟩) N c2):=(by rw[Dz.out];exact aa Wv.self 0);have l1:fs<w3.heap.size:=(uG Wv.self).1;have l2:w.heap.size<w3.heap.size:=(uG vn).1;have xf:=uH vn;have La:=uH Wv;have Rq:=uH hsL;have BW:=uH (tv hsD HAA.out HAA2.out EY.out);have Is:=uH yA;clear vn Wv hs hsL hsD yA;have XC:(m:Int)<(m:Int)+1:=(by omega);go_region_held3 (fun w'=>w'.cell? ⟨w.heap.size,1,none⟩=some (.int .u8 (x.kind:Int))/\w'.cell? ⟨w.heap.size,2,none⟩=some (.int .u16 (x.mode:Int))/\w'.cell? ⟨w.heap.size,3,none⟩=some (.int .u32 (x.uid:Int))/\w'.cell? ⟨w.heap.size,4,none⟩=some (.int .u32 (x.gid:Int))/\w'.cell? ⟨w.heap.size,5,none⟩=some (.slice A x.n c)/\w'.cell? ⟨fs,0,none⟩=some (.slice (some ⟨nb,0,none⟩) N c2)/\w'.cell? ⟨g,m,none⟩=some (.string s))
  (go_keep)
  (fail)
 go_upto_region 14 with(fail);obtain⟨w4,yq⟩: ∃w4,w4=(w3.alloc (.cells #[.int .u8 (x.kind:Int), .int .u16 (x.mode:Int), .int .u32 (x.uid:Int), .int .u32 (x.gid:Int), .int .i64 (x.n:Int), .int .i64 (N:Int), .pointer (some ⟨ad up,0,none⟩), .string s] 165)).drew:=⟨_,rfl⟩;rw[<-yq];have Ct:w4.heap[w3.heap.size]? =some (.cells #[.int .u8 (x.kind:Int), .int .u16 (x.mode:Int), .int .u32 (x.uid:Int), .int .u32 (x.gid:Int), .int .i64 (x.n:Int), .int .i64 (N:Int), .pointer (some ⟨ad up,0,none⟩), .string s] 165 (0,0)):=(by rw[yq];exact ab w3 _);have Hd:Below w3.heap.size w3 w4:=(by rw[yq];exact uJ.drew);have AN:=Hd.size;have l3:w3.heap.size<w4.heap.size:=(uG Ct).1;clear e1 e2 e3 e4 e5 e8;have e1:w4.cell? ⟨w.heap.size,1,none⟩=some (.int .u8 (x.kind:Int)):=(Hd.cell l2).trans (aa xf.out 1);have e5:w4.cell? ⟨w.heap.size,5,none⟩=some (.slice A x.n c):=(Hd.cell l2).trans (aa xf.out 5);have e6:w4.cell? ⟨w.heap.size,6,none⟩=some (.string x.to):=(Hd.cell l2).trans (aa xf.out 6);have x0:w4.cell? ⟨w3.heap.size,0,none⟩=some (.int .u8 (x.kind:Int)):=aa Ct 0;have x1:w4.cell? ⟨w3.heap.size,1,none⟩=some (.int .u16 (x.mode:Int)):=aa Ct 1;have x2:w4.cell? ⟨w3.heap.size,2,none⟩=some (.int .u32 (x.uid:Int)):=aa Ct 2;have x3:w4.cell? ⟨w3.heap.size,3,none⟩=some (.int .u32 (x.gid:Int)):=aa Ct 3;have x4:w4.cell? ⟨w3.heap.size,4,none⟩=some (.int .i64 (x.n:Int)):=aa Ct 4;have x5:w4.cell? ⟨w3.heap.size,5,none⟩=some (.int .i64 (N:Int)):=aa Ct 5;have x6:w4.cell? ⟨w3.heap.size,6,none⟩=some (.pointer (some ⟨ad up,0,none⟩)):=aa Ct 6;have x7:w4.cell? ⟨w3.heap.size,7,none⟩=some (.string s):=aa Ct 7;have wu:=uH Ct;have Mo:=uH Hd;clear Ct Hd yq Je Lx Gm Gn XW LK;have Ta:x.kind=1\/x.kind=2\/x.kind=3:=(by have:=Kv.out;omega);have HXK:=uH Ta;clear Ta;rcases HXK.out with Mw|Mw|Mw
 ·have xk:((x.kind:Nat):Int)=1:=(by omega);have t1:(((x.kind:Nat):Int)==2)=false:=(by rw[xk];decide);have t2:(((x.kind:Nat):Int)==1)=true:=(by rw[xk];decide);have zd:=uH Mw;have hxn:x.n<=1000000:=(by have:=Kv.out;omega);have Ur: ∀W,Below w4.heap.size w4 W->au W A x.n x.dat:=fun W hW=>WE.out.kept (Is.out.trans ((Mo.out.trans (hW.mono AN)).mono (by have:=Is.out.size;omega)));have aa2:=uH Ur;have Oh:w.heap.size<=w4.heap.size:=(by omega);clear Mw xk Ur;go_upto_region 20 with(fail);go_region_with
   ((
    first
    |(go_at_call 135;refine(tP A x.n c x.dat _ HSO.out hxn (aa2.out _ ((vg _ _).drew))).mono ?_;rintro e w6 ⟨A6,cd,rfl,Bs,AT⟩;have AS:Below w4.heap.size w4 w6:=((vg w4.heap.size w4).drew).trans AT;have y0:=(AS.cell (p:=⟨w3.heap.size,0,none⟩) l3).trans x0;have y1:=(AS.cell (p:=⟨w3.heap.size,1,none⟩) l3).trans x1;have y2:=(AS.cell (p:=⟨w3.heap.size,2,none⟩) l3).trans x2;have y3:=(AS.cell (p:=⟨w3.heap.size,3,none⟩) l3).trans x3;have y4:=(AS.cell (p:=⟨w3.heap.size,4,none⟩) l3).trans x4;have y5:=(AS.cell (p:=⟨w3.heap.size,5,none⟩) l3).trans x5;have y6:=(AS.cell (p:=⟨w3.heap.size,6,none⟩) l3).trans x6;have y7:=(AS.cell (p:=⟨w3.heap.size,7,none⟩) l3).trans x7;have Ql:=uH Bs;clear Bs AT)))
  all_goals
   (
  go_upto_region 21 with(fail);obtain⟨w7,xG⟩: ∃w7,w7=w6.alloc (.cells #[.int .u8 (x.kind:Int), .int .u16 (x.mode:Int), .int .u32 (x.uid:Int), .int .u32 (x.gid:Int), .int .i64 (x.n:Int), .int .i64 (N:Int), .pointer (some ⟨ad up,0,none⟩), .string s, .slice A6 x.n cd] 227):=⟨_,rfl⟩;rw[<-xG];have QG:=AS.size;have Ce:w7.heap[w6.heap.size]? =some (.cells #[.int .u8 (x.kind:Int), .int .u16 (x.mode:Int), .int .u32 (x.uid:Int), .int .u32 (x.gid:Int), .int .i64 (x.n:Int), .int .i64 (N:Int), .pointer (some ⟨ad up,0,none⟩), .string s, .slice A6 x.n cd] 227 (0,0)):=(by rw[xG];exact ab w6 _);have EC:Below w4.heap.size w4 w7:=(by rw[xG];exact AS.alloc QG _);have Kt:=uH (Ql.out.below (w':=w7) (by rw[xG];exact uJ));clear xG y0 y1 y2 y3 y4 y5 y6 y7;have Od:=EC.size;have zR:Below w3.heap.size w3 w7:=Mo.out.trans (EC.mono AN);have EH:=La.out.below zR;have Ij:eK w7 (w6.heap.size) F.length (0) (ad up) (bA x up s):=⟨_,_,(by rw[<-Dz.out];exact Ce),(fun e=>absurd (show x.kind=2 from e) (by rw[zd.out];decide)),(fun _ =>⟨rfl,A6,cd,rfl,Kt.out.1,Kt.out.2.1,Kt.out.2.2⟩),(fun e=>absurd (show x.kind=3 from e) (by rw[zd.out];decide))⟩;have Tt:=(uG La.out.self).1;have SD:=jA La.out.row;have hV:(aW (ak (F++[bA x up s]) F.length) (upd ad F.length (w6.heap.size) F.length))= .iface 225 (.pointer (some ⟨w6.heap.size,0,none⟩)):=(by
   rw[af];have e:ak (F++[bA x up s]) F.length=x.kind:=(by
    unfold ak;rw[uQ (uK _)];simp[bA])
   rw[e,zd.out];rfl)
  have yH:bF w7.drew (mp up) (aG F up) (fun j=>aW (ak (F++[bA x up s]) j) (upd ad F.length (w6.heap.size) j)):=((EH.names up EY.out).congr (fun y hy=>(by
   have hl:=(bz hy).1;rw[cD _ hl,ag _ _ (by omega)]))).same rfl
  obtain⟨w8,ET,Lq,yJ,Oc⟩:=yH.put s F.length BW.out;have ym:Mod (fun b=>b=mp up) w7 w8:=yJ.undrew;have Fp:(Instr.mapUpdate 166 (.map (some (mp up))) (.string s) (.iface 225 (.pointer (some ⟨w6.heap.size,0,none⟩)))).run Tryz.prog w7.drew= .ok () w8:=(by rw[<-hV];exact ET);have z1:w7.cell? ⟨ad up,8,none⟩=some (.map (some (mp up))):=EH.mapCell EY.out;have z2:w7.cell? ⟨g,m,none⟩=some (.string s):=(zR.cell (p:=⟨g,m,none⟩) xu).trans cg;have zq:=uH EH;have Vc:=uH Ij;have Vb:=uH Lq;have FO:=uH ym;have EM:=uH zR;have Vd:Hid ((bA x up s).kind=2->(∃wb,w7.heap[0]? =some (.map #[] wb))/\B<=0/\ ∀i,ak F i=2->0≠mp i):=uH (fun e=>absurd (show x.kind=2 from e) (by rw[zd.out];decide));have CX:Hid (w6.heap.size≠fs/\w6.heap.size≠nb/\B<=w6.heap.size):=uH (by have:=Is.out.size;exact⟨by omega,by omega,by omega⟩);clear EH Ij Lq ym yJ zR ET hV yH Oc;go_upto_region 21 with(fail);go_region
  all_goals
   have s8:=(FO.out.block fs (by have:=EM.out.size;omega) (fun e=>by
    obtain⟨es,wb,e1⟩:=zq.out.mapBlock EY.out;have e2:=zq.out.self;rw[e,e1]at e2;cases e2)).trans zq.out.self
   have nm:nb≠mp up:=(fun e=>by
    obtain⟨es,wb,e1⟩:=zq.out.mapBlock EY.out;obtain⟨cs,f,e2⟩:=zq.out.rowBlock;rw[e,e1]at e2;cases e2)
   have nf:nb≠fs:=(fun e=>by
    obtain⟨cs,f,e2⟩:=zq.out.rowBlock;have e3:=zq.out.self;rw[e,e3]at e2;injection e2 with e2;injection e2 with _ e2 _;exact absurd e2 (by decide))
   have r8:=gv zq.out.row (FO.out.block nb (jA zq.out.row) nm);have v1:w8.cell? ⟨fs,0,none⟩=some (.slice (some ⟨nb,0,none⟩) N c2):=(by rw[Dz.out];exact aa s8 0);have v2:=ae s8 0;have lfs8:=(uG s8).1;have Nj:N<=c2:=(by
    obtain⟨cur,_,e3,_⟩:=dP r8;rw[Dz.out];exact e3)
   have UM:=uH s8;have EV:=uH r8;clear s8 r8 Fp z1 z2;go_wp2_with (first
    |(at_builtin;refine ue rfl (.tmp 102) (.tmp 104) rfl nb c2 N F ad Dz.out rfl (World.ownsRow.alloc EV.out _) (.iface 225 (.pointer (some ⟨w6.heap.size,0,none⟩))) rfl w8.heap.size 1 rfl (ab _ _) (by omega) ?_;intro g9 c9 w9 GS DL EE SO;have s9:=(DL.block fs (by simp;omega) (by simpa using fun e=>nf (Eq.symm e))).trans ((uL _ _ _ (by omega)).trans UM.out);have v3:=aa s9 0;have v4:=ae s9 0;have HS9:=uH s9;have NS:=uH DL;have NJ:=uH GS;have KH:=uH EE;clear s9 DL GS EE)
    |fail)
   go_ret;obtain⟨AI,AH⟩:=lO (y:=bA x up s) (up:=up) zq.out rfl yk EY.out (by have h9:=Qk.out.1;rw[<-HL.out,Rq.out]at h9;exact h9) Vc.out CX.out.1 CX.out.2.1 CX.out.2.2 Vd.out Vb.out FO.out NS.out (by have h9:=NJ.out;have e9:aW (bA x up s).kind (w6.heap.size)= .iface 225 (.pointer (some ⟨w6.heap.size,0,none⟩)):=(by show aW x.kind _ =_;rw[zd.out];rfl);rw[e9];exact h9) KH.out;rw[<-Dz.out]at AI AH;have eL:(aq x.path).getLastD ⟨#[]⟩=s:=(by rw[<-HL.out];exact Rq.out);refine⟨rfl,⟨g9,c9,upd ad N (w6.heap.size),upd mp N (0),(by rw[eL];exact AI)⟩,?_⟩;exact(Is.out.mono hB).trans ((EM.out.mono (by have:=Is.out.size;omega)).trans AH))
 ·have xk:((x.kind:Nat):Int)=2:=(by omega);have t1:(((x.kind:Nat):Int)==2)=true:=(by rw[xk];decide);have zd:=uH Mw;have Cb:= @run_makeMap Tryz.prog;clear Mw xk;go_upto_region 21 with(fail);obtain⟨w7,xG⟩: ∃w7,w7=(w4.alloc (.map #[] 0)).alloc (.cells #[.int .u8 (x.kind:Int), .int .u16 (x.mode:Int), .int .u32 (x.uid:Int), .int .u32 (x.gid:Int), .int .i64 (x.n:Int), .int .i64 (N:Int), .pointer (some ⟨ad up,0,none⟩), .string s, .map (some w4.heap.size)] 168):=⟨_,rfl⟩;rw[<-xG];have Ce:w7.heap[w4.heap.size+1]? =some (.cells #[.int .u8 (x.kind:Int), .int .u16 (x.mode:Int), .int .u32 (x.uid:Int), .int .u32 (x.gid:Int), .int .i64 (x.n:Int), .int .i64 (N:Int), .pointer (some ⟨ad up,0,none⟩), .string s, .map (some w4.heap.size)] 168 (0,0)):=by
   rw[xG];have e:(w4.alloc (.map #[] 0)).heap.size=w4.heap.size+1:=(by simp);rw[<-e];exact ab _ _
  have Nr:w7.heap[w4.heap.size]? =some (.map #[] 0):=(by rw[xG];exact(uL _ _ _ (by simp)).trans (ab _ _));have EC:Below w4.heap.size w4 w7:=(by rw[xG];exact uJ.alloc (by simp) _);have MQ: ∀i,ak F i=2->mp i<w3.heap.size:=fun i hi=>by
   obtain⟨es,wb,e1⟩:=La.out.mapBlock hi;exact(uG e1).1
  have Ht:=uH Nr;have ZE:=uH MQ;clear xG Cb Nr MQ;have Od:=EC.size;have zR:Below w3.heap.size w3 w7:=Mo.out.trans (EC.mono AN);have EH:=La.out.below zR;have Ij:eK w7 (w4.heap.size+1) F.length (w4.heap.size) (ad up) (bA x up s):=⟨_,_,(by rw[<-Dz.out];exact Ce),(fun _ =>⟨rfl,rfl⟩),(fun e=>absurd (show x.kind=1 from e) (by rw[zd.out];decide)),(fun e=>absurd (show x.kind=3 from e) (by rw[zd.out];decide))⟩;have Tt:=(uG La.out.self).1;have SD:=jA La.out.row;have hV:(aW (ak (F++[bA x up s]) F.length) (upd ad F.length (w4.heap.size+1) F.length))= .iface 163 (.pointer (some ⟨w4.heap.size+1,0,none⟩)):=(by
   rw[af];have e:ak (F++[bA x up s]) F.length=x.kind:=(by
    unfold ak;rw[uQ (uK _)];simp[bA])
   rw[e,zd.out];rfl)
  have yH:bF w7.drew (mp up) (aG F up) (fun j=>aW (ak (F++[bA x up s]) j) (upd ad F.length (w4.heap.size+1) j)):=((EH.names up EY.out).congr (fun y hy=>(by
   have hl:=(bz hy).1;rw[cD _ hl,ag _ _ (by omega)]))).same rfl
  obtain⟨w8,ET,Lq,yJ,Oc⟩:=yH.put s F.length BW.out;have ym:Mod (fun b=>b=mp up) w7 w8:=yJ.undrew;have Fp:(Instr.mapUpdate 166 (.map (some (mp up))) (.string s) (.iface 163 (.pointer (some ⟨w4.heap.size+1,0,none⟩)))).run Tryz.prog w7.drew= .ok () w8:=(by rw[<-hV];exact ET);have z1:w7.cell? ⟨ad up,8,none⟩=some (.map (some (mp up))):=EH.mapCell EY.out;have z2:w7.cell? ⟨g,m,none⟩=some (.string s):=(zR.cell (p:=⟨g,m,none⟩) xu).trans cg;have zq:=uH EH;have Vc:=uH Ij;have Vb:=uH Lq;have FO:=uH ym;have EM:=uH zR;have Vd:Hid ((bA x up s).kind=2->(∃wb,w7.heap[w4.heap.size]? =some (.map #[] wb))/\B<=w4.heap.size/\ ∀i,ak F i=2->w4.heap.size≠mp i):=uH (fun _ =>⟨⟨0,Ht.out⟩,(by have:=Is.out.size;omega),(fun i hi=>by have:=ZE.out i hi;omega)⟩);have CX:Hid (w4.heap.size+1≠fs/\w4.heap.size+1≠nb/\B<=w4.heap.size+1):=uH (by have:=Is.out.size;exact⟨by omega,by omega,by omega⟩);clear EH Ij Lq ym yJ zR ET hV yH Oc;go_upto_region 21 with(fail);go_region
  all_goals
   have s8:=(FO.out.block fs (by have:=EM.out.size;omega) (fun e=>by
    obtain⟨es,wb,e1⟩:=zq.out.mapBlock EY.out;have e2:=zq.out.self;rw[e,e1]at e2;cases e2)).trans zq.out.self
   have nm:nb≠mp up:=(fun e=>by
    obtain⟨es,wb,e1⟩:=zq.out.mapBlock EY.out;obtain⟨cs,f,e2⟩:=zq.out.rowBlock;rw[e,e1]at e2;cases e2)
   have nf:nb≠fs:=(fun e=>by
    obtain⟨cs,f,e2⟩:=zq.out.rowBlock;have e3:=zq.out.self;rw[e,e3]at e2;injection e2 with e2;injection e2 with _ e2 _;exact absurd e2 (by decide))
   have r8:=gv zq.out.row (FO.out.block nb (jA zq.out.row) nm);have v1:w8.cell? ⟨fs,0,none⟩=some (.slice (some ⟨nb,0,none⟩) N c2):=(by rw[Dz.out];exact aa s8 0);have v2:=ae s8 0;have lfs8:=(uG s8).1;have Nj:N<=c2:=(by
    obtain⟨cur,_,e3,_⟩:=dP r8;rw[Dz.out];exact e3)
   have UM:=uH s8;have EV:=uH r8;clear s8 r8 Fp z1 z2;go_wp2_with (first
    |(at_builtin;refine ue rfl (.tmp 102) (.tmp 104) rfl nb c2 N F ad Dz.out rfl (World.ownsRow.alloc EV.out _) (.iface 163 (.pointer (some ⟨w4.heap.size+1,0,none⟩))) rfl w8.heap.size 1 rfl (ab _ _) (by omega) ?_;intro g9 c9 w9 GS DL EE SO;have s9:=(DL.block fs (by simp;omega) (by simpa using fun e=>nf (Eq.symm e))).trans ((uL _ _ _ (by omega)).trans UM.out);have v3:=aa s9 0;have v4:=ae s9 0;have HS9:=uH s9;have NS:=uH DL;have NJ:=uH GS;have KH:=uH EE;clear s9 DL GS EE)
    |fail)
   go_ret;obtain⟨AI,AH⟩:=lO (y:=bA x up s) (up:=up) zq.out rfl yk EY.out (by have h9:=Qk.out.1;rw[<-HL.out,Rq.out]at h9;exact h9) Vc.out CX.out.1 CX.out.2.1 CX.out.2.2 Vd.out Vb.out FO.out NS.out (by have h9:=NJ.out;have e9:aW (bA x up s).kind (w4.heap.size+1)= .iface 163 (.pointer (some ⟨w4.heap.size+1,0,none⟩)):=(by show aW x.kind _ =_;rw[zd.out];rfl);rw[e9];exact h9) KH.out;rw[<-Dz.out]at AI AH;have eL:(aq x.path).getLastD ⟨#[]⟩=s:=(by rw[<-HL.out];exact Rq.out);refine⟨rfl,⟨g9,c9,upd ad N (w4.heap.size+1),upd mp N (w4.heap.size),(by rw[eL];exact AI)⟩,?_⟩;exact(Is.out.mono hB).trans ((EM.out.mono (by have:=Is.out.size;omega)).trans AH)
 ·have xk:((x.kind:Nat):Int)=3:=(by omega);have t1:(((x.kind:Nat):Int)==2)=false:=(by rw[xk];decide);have t2:(((x.kind:Nat):Int)==1)=false:=(by rw[xk];decide);have zd:=uH Mw;clear Mw xk;go_upto_region 21 with(fail);obtain⟨w7,xG⟩: ∃w7,w7=w4.alloc (.cells #[.int .u8 (x.kind:Int), .int .u16 (x.mode:Int), .int .u32 (x.uid:Int), .int .u32 (x.gid:Int), .int .i64 (x.n:Int), .int .i64 (N:Int), .pointer (some ⟨ad up,0,none⟩), .string s, .string x.to] 230):=⟨_,rfl⟩;rw[<-xG];have Ce:w7.heap[w4.heap.size]? =some (.cells #[.int .u8 (x.kind:Int), .int .u16 (x.mode:Int), .int .u32 (x.uid:Int), .int .u32 (x.gid:Int), .int .i64 (x.n:Int), .int .i64 (N:Int), .pointer (some ⟨ad up,0,none⟩), .string s, .string x.to] 230 (0,0)):=(by rw[xG];exact ab w4 _);have EC:Below w4.heap.size w4 w7:=(by rw[xG];exact uJ);clear xG;have Od:=EC.size;have zR:Below w3.heap.size w3 w7:=Mo.out.trans (EC.mono AN);have EH:=La.out.below zR;have Ij:eK w7 (w4.heap.size) F.length (0) (ad up) (bA x up s):=⟨_,_,(by rw[<-Dz.out];exact Ce),(fun e=>absurd (show x.kind=2 from e) (by rw[zd.out];decide)),(fun e=>absurd (show x.kind=1 from e) (by rw[zd.out];decide)),(fun _ =>⟨rfl,rfl⟩)⟩;have Tt:=(uG La.out.self).1;have SD:=jA La.out.row;have hV:(aW (ak (F++[bA x up s]) F.length) (upd ad F.length (w4.heap.size) F.length))= .iface 228 (.pointer (some ⟨w4.heap.size,0,none⟩)):=(by
   rw[af];have e:ak (F++[bA x up s]) F.length=x.kind:=(by
    unfold ak;rw[uQ (uK _)];simp[bA])
   rw[e,zd.out];rfl)
  have yH:bF w7.drew (mp up) (aG F up) (fun j=>aW (ak (F++[bA x up s]) j) (upd ad F.length (w4.heap.size) j)):=((EH.names up EY.out).congr (fun y hy=>(by
   have hl:=(bz hy).1;rw[cD _ hl,ag _ _ (by omega)]))).same rfl
  obtain⟨w8,ET,Lq,yJ,Oc⟩:=yH.put s F.length BW.out;have ym:Mod (fun b=>b=mp up) w7 w8:=yJ.undrew;have Fp:(Instr.mapUpdate 166 (.map (some (mp up))) (.string s) (.iface 228 (.pointer (some ⟨w4.heap.size,0,none⟩)))).run Tryz.prog w7.drew= .ok () w8:=(by rw[<-hV];exact ET);have z1:w7.cell? ⟨ad up,8,none⟩=some (.map (some (mp up))):=EH.mapCell EY.out;have z2:w7.cell? ⟨g,m,none⟩=some (.string s):=(zR.cell (p:=⟨g,m,none⟩) xu).trans cg;have zq:=uH EH;have Vc:=uH Ij;have Vb:=uH Lq;have FO:=uH ym;have EM:=uH zR;have Vd:Hid ((bA x up s).kind=2->(∃wb,w7.heap[0]? =some (.map #[] wb))/\B<=0/\ ∀i,ak F i=2->0≠mp i):=uH (fun e=>absurd (show x.kind=2 from e) (by rw[zd.out];decide));have CX:Hid (w4.heap.size≠fs/\w4.heap.size≠nb/\B<=w4.heap.size):=uH (by have:=Is.out.size;exact⟨by omega,by omega,by omega⟩);clear EH Ij Lq ym yJ zR ET hV yH Oc;go_upto_region 21 with(fail);go_region
  all_goals
   have s8:=(FO.out.block fs (by have:=EM.out.size;omega) (fun e=>by
    obtain⟨es,wb,e1⟩:=zq.out.mapBlock EY.out;have e2:=zq.out.self;rw[e,e1]at e2;cases e2)).trans zq.out.self
   have nm:nb≠mp up:=(fun e=>by
    obtain⟨es,wb,e1⟩:=zq.out.mapBlock EY.out;obtain⟨cs,f,e2⟩:=zq.out.rowBlock;rw[e,e1]at e2;cases e2)
   have nf:nb≠fs:=(fun e=>by
    obtain⟨cs,f,e2⟩:=zq.out.rowBlock;have e3:=zq.out.self;rw[e,e3]at e2;injection e2 with e2;injection e2 with _ e2 _;exact absurd e2 (by decide))
   have r8:=gv zq.out.row (FO.out.block nb (jA zq.out.row) nm);have v1:w8.cell? ⟨fs,0,none⟩=some (.slice (some ⟨nb,0,none⟩) N c2):=(by rw[Dz.out];exact aa s8 0);have v2:=ae s8 0;have lfs8:=(uG s8).1;have Nj:N<=c2:=(by
    obtain⟨cur,_,e3,_⟩:=dP r8;rw[Dz.out];exact e3)
   have UM:=uH s8;have EV:=uH r8;clear s8 r8 Fp z1 z2;go_wp2_with (first
    |(at_builtin;refine ue rfl (.tmp 102) (.tmp 104) rfl nb c2 N F ad Dz.out rfl (World.ownsRow.alloc EV.out _) (.iface 228 (.pointer (some ⟨w4.heap.size,0,none⟩))) rfl w8.heap.size 1 rfl (ab _ _) (by omega) ?_;intro g9 c9 w9 GS DL EE SO;have s9:=(DL.block fs (by simp;omega) (by simpa using fun e=>nf (Eq.symm e))).trans ((uL _ _ _ (by omega)).trans UM.out);have v3:=aa s9 0;have v4:=ae s9 0;have HS9:=uH s9;have NS:=uH DL;have NJ:=uH GS;have KH:=uH EE;clear s9 DL GS EE)
    |fail)
   go_ret;obtain⟨AI,AH⟩:=lO (y:=bA x up s) (up:=up) zq.out rfl yk EY.out (by have h9:=Qk.out.1;rw[<-HL.out,Rq.out]at h9;exact h9) Vc.out CX.out.1 CX.out.2.1 CX.out.2.2 Vd.out Vb.out FO.out NS.out (by have h9:=NJ.out;have e9:aW (bA x up s).kind (w4.heap.size)= .iface 228 (.pointer (some ⟨w4.heap.size,0,none⟩)):=(by show aW x.kind _ =_;rw[zd.out];rfl);rw[e9];exact h9) KH.out;rw[<-Dz.out]at AI AH;have eL:(aq x.path).getLastD ⟨#[]⟩=s:=(by rw[<-HL.out];exact Rq.out);refine⟨rfl,⟨g9,c9,upd ad N (w4.heap.size),upd mp N (0),(by rw[eL];exact AI)⟩,?_⟩;exact(Is.out.mono hB).trans ((EM.out.mono (by have:=Is.out.size;omega)).trans AH)
end
section
open Go.RowKit Go.Sort
structure uB (w:World) (x:Ent) (A:Option Addr) (c:Nat):Prop where
 path:x.path.size<=1000000000
 link:x.to.size<=1000000000
 n:x.n<=9223372036854775807
 data:au w A x.n x.dat
 ok:eE A x.n c
variable {w w':World} {x:Ent}
theorem uB.below {A:Option Addr} {c:Nat} (h:uB w x A c) (hb:Below w.heap.size w w'):uB w' x A c:=
 ⟨h.path,h.link,h.n,h.data.kept hb,h.ok⟩
theorem vadd_any (B fs nb c2 c:Nat) (ad mp:Nat->Nat) (F:List Nd) (x:Ent) (A:Option Addr) (w:World) (h:FsIs w B fs nb c2 ad mp F) (hx:uB w x A c) (hB:B<=w.heap.size) (hF:F.length<=1000):
  Calls Tryz.prog 82 #[.pointer (some ⟨fs,0,none⟩),x.val A c] w (bY B fs F x w):=by
 by_cases hm:may x=0
 ·cases ha:atM F 0 (aq x.path)with
  |some j=>exact qm B fs nb c2 c j ad mp F x A w h hx.path hx.link hx.n hB hm hF ha
  |none=>
   cases BH:atM F 0 (aq x.path).dropLast with
   |none=>exact qn B fs nb c2 c ad mp F x A w h hx.path hx.link hx.n hB hm hF ha BH
   |some up=>
    by_cases hk:ak F up=2
    ·exact rR B fs nb c2 c up ad mp F x A w h hx.path hx.link hx.n hB hm hF hx.data hx.ok ha BH hk
    ·exact nT B fs nb c2 c up ad mp F x A w h hx.path hx.link hx.n hB hm hF ha BH hk
 ·exact vadd_bad B fs nb c2 c ad mp F x A w h hx.path hx.link hx.n hB hm
def EntCells (w:World) (g j:Nat) (x:Ent) (A:Option Addr) (c:Nat):Prop:=
 w.cell? ⟨g,j*7,none⟩=some (.string x.path)/\w.cell? ⟨g,j*7+1,none⟩=some (.int .u8 (x.kind:Int))/\w.cell? ⟨g,j*7+2,none⟩=some (.int .u16 (x.mode:Int))/\w.cell? ⟨g,j*7+3,none⟩=some (.int .u32 (x.uid:Int))/\
 w.cell? ⟨g,j*7+4,none⟩=some (.int .u32 (x.gid:Int))/\w.cell? ⟨g,j*7+5,none⟩=some (.slice A x.n c)/\w.cell? ⟨g,j*7+6,none⟩=some (.string x.to)
def fQ (w:World) (P:Option Addr) (l:List Ent):Prop:= ∀(j:Nat) (x:Ent),l[j]? =some x-> ∃g A c,P=some ⟨g,0,none⟩/\g<w.heap.size/\EntCells w g j x A c/\uB w x A c
variable {l:List Ent}
theorem fQ.below {P:Option Addr} (h:fQ w P l) (hb:Below w.heap.size w w'):fQ w' P l:=fun j x hx=>by
 obtain⟨g,A,c,h1,h2,⟨c0,c1,c2,c3,c4,c5,c6⟩,h4⟩:=h j x hx;have hc: ∀i,w'.cell? ⟨g,i,none⟩=w.cell? ⟨g,i,none⟩:=fun i=>hb.cell (p:=⟨g,i,none⟩) h2;refine⟨g,A,c,h1,uO h2 hb.size,⟨?_,?_,?_,?_,?_,?_,?_⟩,h4.below hb⟩
 all_goals(rw[hc];assumption)
variable {F:List Nd} {i:Nat}
theorem mW (h:(addM F x).1=0):newM F i (x::l)=newM (addM F x).2 (i+1) l:=by
 rw[newM,if_neg (by omega)]
theorem eV (h:(addM F x).1≠0):newM F i (x::l)=((addM F x).1,(i:Int),F):=by
 rw[newM,if_pos h]
def dv (l:List Ent) (w:World) (e:Ending) (w':World):Prop:=
 if 64<l.length then e= .returned (.tuple #[.pointer none, .int .i64 15, .int .i64 (-1)])/\Below w.heap.size w w'
 else if(newM [aB] 0 l).1≠0 then e= .returned (.tuple #[.pointer none, .int .i64 (newM [aB] 0 l).1, .int .i64 (newM [aB] 0 l).2.1])/\Below w.heap.size w w'
 else∃fs nb c2 ad mp,e= .returned (.tuple #[.pointer (some ⟨fs,0,none⟩), .int .i64 0, .int .i64 0])/\FsIs w' w.heap.size fs nb c2 ad mp (newM [aB] 0 l).2.2/\Below w.heap.size w w'
theorem fs_root (w:World):FsIs ((((w.alloc (.map #[] 0)).alloc (.cells #[.int .u8 2, .int .u16 493, .int .u32 0, .int .u32 0, .int .i64 0, .int .i64 0, .pointer (some ⟨w.heap.size+1,0,none⟩), .string ⟨#[]⟩, .map (some w.heap.size)] 168)).alloc (.cells #[.iface 163 (.pointer (some ⟨w.heap.size+1,0,none⟩))] 189)).alloc (.cells #[.slice (some ⟨w.heap.size+1+1,0,none⟩) 1 1] 171))
  w.heap.size (w.heap.size+1+1+1) (w.heap.size+1+1) 1 (fun _ =>w.heap.size+1) (fun _ =>w.heap.size) [aB]:=by
 have k0:ak [aB] 0=2:=rfl;have ks: ∀i,ak [aB] i=2->i=0:=fun i h=>by have:=dY h (by omega);simp at this;exact this
 obtain⟨w1,yr⟩: ∃w1,w1=w.alloc (.map #[] 0):=⟨_,rfl⟩;obtain⟨w2,vU⟩: ∃w2,w2=w1.alloc (.cells #[.int .u8 2, .int .u16 493, .int .u32 0, .int .u32 0, .int .i64 0, .int .i64 0, .pointer (some ⟨w.heap.size+1,0,none⟩), .string ⟨#[]⟩, .map (some w.heap.size)] 168):=⟨_,rfl⟩;obtain⟨w3,wE⟩: ∃w3,w3=w2.alloc (.cells #[.iface 163 (.pointer (some ⟨w.heap.size+1,0,none⟩))] 189):=⟨_,rfl⟩;rw[<-yr,<-vU,<-wE];have z1:w1.heap.size=w.heap.size+1:=(by rw[yr];simp);have z2:w2.heap.size=w.heap.size+1+1:=(by rw[vU];simp[z1]);have z3:w3.heap.size=w.heap.size+1+1+1:=(by rw[wE];simp[z2]);have p0:w3.heap[w.heap.size]? =some (.map #[] 0):=by
  rw[wE,vU,yr];exact(uL _ _ _ (by simp;omega)).trans ((uL _ _ _ (by simp)).trans (ab _ _))
 have p1:w3.heap[w.heap.size+1]? =some (.cells #[.int .u8 2, .int .u16 493, .int .u32 0, .int .u32 0, .int .i64 0, .int .i64 0, .pointer (some ⟨w.heap.size+1,0,none⟩), .string ⟨#[]⟩, .map (some w.heap.size)] 168 (0,0)):=by
  have h9:=ab w1 (.cells #[.int .u8 2, .int .u16 493, .int .u32 0, .int .u32 0, .int .i64 0, .int .i64 0, .pointer (some ⟨w.heap.size+1,0,none⟩), .string ⟨#[]⟩, .map (some w.heap.size)] 168);rw[z1,<-vU]at h9;rw[wE];exact(uL _ _ _ (by omega)).trans h9
 have p2:w3.heap[w.heap.size+1+1]? =some (.cells #[.iface 163 (.pointer (some ⟨w.heap.size+1,0,none⟩))] 189 (0,0)):=by
  have h9:=ab w2 (.cells #[.iface 163 (.pointer (some ⟨w.heap.size+1,0,none⟩))] 189);rw[z2,<-wE]at h9;exact h9
 have q: ∀b,b<w3.heap.size->(w3.alloc (.cells #[.slice (some ⟨w.heap.size+1+1,0,none⟩) 1 1] 171)).heap[b]? =w3.heap[b]? :=fun b hb=>uL _ _ _ hb;refine⟨FOk.start,?_,⟨rfl, .inr ⟨w.heap.size+1+1,1,_,rfl,vd _,(q _ (by omega)).trans p2,uK _,by decide,rfl,rfl⟩⟩,?_,?_,?_,by omega,by omega,fun _ _ =>by omega,fun _ _ =>by omega⟩
 ·rw[<-z3];exact ab _ _
 ·intro i y hy;cases i with
  |zero=>
   simp at hy;subst hy;exact⟨_,_,(q _ (by omega)).trans p1,(fun _ =>⟨rfl,rfl⟩),(fun e=>by cases e),(fun e=>by cases e)⟩
  |succ i=>simp at hy
 ·intro i hi;obtain rfl:=ks i hi;exact⟨#[],0,(q _ (by omega)).trans p0,⟨by simp,by simp,by simp⟩,rfl⟩
 ·intro i j hi hj _;rw[ks i hi,ks j hj]
theorem pq (P:Option Addr) (n cap:Nat) (l:List Ent) (w:World) (hl:fQ w P l) (hn:n=l.length) (wB:n<=cap) (ya:n<=9223372036854775807):
  Calls Tryz.prog 37 #[.slice P n cap] w (dv l w):=by
 by_cases CP:64<n
 ·have hv: ∀e w',(e= .returned (.tuple #[.pointer none, .int .i64 15, .int .i64 (-1)])/\Below w.heap.size w w')->dv l w e w':=fun e w' h=>by
   unfold dv;rw[if_pos (by omega)];exact h
  have HV:=uH hv;clear hv hl hn;go_enter Tryz.func37,Tryz.ntmps37;go_wp2_with fail;go_ret3;exact HV.out _ _ ⟨rfl,vg _ _⟩
 have wg:=fs_root w;obtain⟨w0,vl⟩: ∃w0,w0=((((w.alloc (.map #[] 0)).alloc (.cells #[.int .u8 2, .int .u16 493, .int .u32 0, .int .u32 0, .int .i64 0, .int .i64 0, .pointer (some ⟨w.heap.size+1,0,none⟩), .string ⟨#[]⟩, .map (some w.heap.size)] 168)).alloc (.cells #[.iface 163 (.pointer (some ⟨w.heap.size+1,0,none⟩))] 189)).alloc (.cells #[.slice (some ⟨w.heap.size+1+1,0,none⟩) 1 1] 171)):=⟨_,rfl⟩;rw[<-vl]at wg;have vm:Below w.heap.size w w0:=by
  rw[vl];exact((uJ.alloc (by simp) _).alloc (by simp;omega) _).alloc (by simp;omega) _
 have vF:=uH vl;have wj:=uH vm;have CR:=uH wg;have DA:=uH hn;have FT:=uH hl;have Cb:= @run_makeMap Tryz.prog;clear vm vl wg hn hl;go_enter Tryz.func37,Tryz.ntmps37;go_upto_region 6 with(fail);rw[<-vF.out];clear Cb;go_wp2_with fail;go_loopw [30] (fun i wr=> ∃k F nb c2 ad mp,k<=n/\i= .int .i64 ((k:Nat):Int)/\FsIs wr w.heap.size (w.heap.size+1+1+1) nb c2 ad mp F/\newM [aB] 0 l=newM F k (l.drop k)/\F.length=k+1/\Below w.heap.size w wr) (fun i _ =>n-(intOf i).toNat)
 case atStart=>exact⟨0,[aB],_,_,_,_,by omega,rfl,CR.out,rfl,rfl,wj.out⟩
 case round=>
  obtain⟨k,F,nb,c2,ad,mp,hk,rfl,hF,hnew,hlen,xx⟩:=hrel;have HF:=uH hF;have xS:=uH hnew;have Cx:=uH hlen;have xP:=uH xx;have Oh:=xx.size;clear hF hnew hlen xx;by_cases vo:k<n
  ·obtain⟨x,hx⟩: ∃x,l[k]? =some x:=⟨_,uN (by rw[<-DA.out];exact vo)⟩;have wU:l.drop k=x::l.drop (k+1):=(List.drop_eq_getElem_cons (by rw[<-DA.out];exact vo)).trans (by
    obtain⟨h1,h2⟩:=List.getElem?_eq_some_iff.1 hx;rw[h2])
   obtain⟨g,A,c,rfl,hg,⟨c0,c1,c2',c3,c4,c5,c6⟩,hE⟩:=(FT.out.below xP.out) k x hx;have Ui:=HF.out.below ((vg wr.heap.size wr).alloc (uK _) (.cells #[.string x.path, .int .u8 (x.kind:Int), .int .u16 (x.mode:Int), .int .u32 (x.uid:Int), .int .u32 (x.gid:Int), .slice A x.n c, .string x.to] 93));have vn:=hE.below ((vg wr.heap.size wr).alloc (uK _) (.cells #[.string x.path, .int .u8 (x.kind:Int), .int .u16 (x.mode:Int), .int .u32 (x.uid:Int), .int .u32 (x.gid:Int), .slice A x.n c, .string x.to] 93));have xJ:=vadd_any w.heap.size (w.heap.size+1+1+1) nb c2 c ad mp F x A _ Ui vn (by simp;omega) (by have:=Cx.out;omega);unfold Ent.val bY at xJ;obtain⟨r,hr⟩: ∃r,r=(addM F x).1:=⟨_,rfl⟩;rw[<-hr]at xJ;have VR:=uH xJ;have FV:=uH wU;have xU:Below w.heap.size w (wr.alloc (.cells #[.string x.path, .int .u8 (x.kind:Int), .int .u16 (x.mode:Int), .int .u32 (x.uid:Int), .int .u32 (x.gid:Int), .slice A x.n c, .string x.to] 93)):=xP.out.alloc Oh _;have CX:=uH xU;by_cases Bo:r=0
   ·have QO:(addM F x).1=0:=(by rw[<-hr];exact Bo);have Az:=(mi HF.out.ok QO).2.1;have xK:=uH (show newM [aB] 0 l=newM (addM F x).2 (k+1) (l.drop (k+1)) by rw[xS.out,FV.out,mW QO]);have Vh:=uH (show(addM F x).2.length=k+1+1 by rw[Az,Cx.out]);subst Bo;clear hr QO xJ wU hx hE Ui vn xU Az;go_wp2_with (first
     |(go_at_call 82;refine(VR.out).mono ?_;rintro e w2 ⟨rfl,⟨nb2,c22,ad2,mp2,Uh⟩,vs⟩;have ZS:=uH Uh;have xd:=uH (CX.out.trans vs);clear Uh vs)
     |fail)
    go_roundw
    case rel=>exact⟨k+1,_,nb2,c22,ad2,mp2,by omega,by go_num,ZS.out,xK.out,Vh.out,xd.out⟩
    case measure=>simp[intOf];omega
   ·have QO:(addM F x).1≠0:=(by rw[<-hr];exact Bo);have vu:(r != 0)=true:=(by rw[bne_iff_ne];exact Bo);have xK:=uH (show newM [aB] 0 l=(r,(k:Int),F) by rw[xS.out,FV.out,eV QO,hr]);have CS:=uH Bo;clear hr QO xJ wU hx hE Ui vn xU Bo;go_wp2_with (first
     |(go_at_call 82;refine(VR.out).mono ?_;rintro e w2 ⟨rfl,_,vs⟩;have xd:=uH (CX.out.trans vs);clear vs)
     |fail)
    go_ret3;unfold dv;rw[if_neg (by rw[<-DA.out];exact CP),xK.out,if_pos CS.out];exact⟨rfl,xd.out⟩
  ·obtain rfl:k=n:=(by omega);have xK:=uH (show newM [aB] 0 l=(0,0,F) by rw[xS.out,List.drop_of_length_le (by rw[DA.out];exact uK _)];rfl);go_wp2_with fail;go_ret3;unfold dv;rw[if_neg (by rw[<-DA.out];exact CP),xK.out,if_neg (by simp)];exact⟨_,nb,c2,ad,mp,rfl,HF.out,xP.out⟩
end
section
open Go.RowKit Go.Sort
theorem fnode_no (B fs nb c2:Nat) (ad mp:Nat->Nat) (F:List Nd) (ino:Int) (w:World) (h:FsIs w B fs nb c2 ad mp F) (hi:ino<0\/(F.length:Int)<=ino):
  Calls Tryz.prog 106 #[.pointer (some ⟨fs,0,none⟩), .int .i64 ino] w fun e w'=>e= .returned .nilIface/\w'=w:=by
 have c0:w.cell? ⟨fs,0,none⟩=some (.slice (some ⟨nb,0,none⟩) F.length c2):=aa h.self 0;obtain⟨N,hN⟩: ∃N,N=F.length:=⟨_,rfl⟩;rw[<-hN]at c0 hi;clear h hN;rcases hi with hi|hi
 ·go_enter Tryz.func106,Tryz.ntmps106;go_wp2_with fail;go_ret;exact⟨rfl,rfl⟩
 ·have xD: ¬ino<0:=(by omega);go_enter Tryz.func106,Tryz.ntmps106;go_wp2_with fail;go_ret;exact⟨rfl,rfl⟩
theorem jW (B fs nb c2 i:Nat) (ad mp:Nat->Nat) (F:List Nd) (w:World) (h:FsIs w B fs nb c2 ad mp F) (hi:i<F.length):
  Calls Tryz.prog 106 #[.pointer (some ⟨fs,0,none⟩), .int .i64 (i:Int)] w fun e w'=>e= .returned (.iface (tyOf (ak F i)) (.pointer (some ⟨ad i,0,none⟩)))/\w'=w:=by
 have c0:w.cell? ⟨fs,0,none⟩=some (.slice (some ⟨nb,0,none⟩) F.length c2):=aa h.self 0;have c1:w.cell? ⟨nb,i,none⟩=some (.iface (tyOf (ak F i)) (.pointer (some ⟨ad i,0,none⟩))):=h.cell hi;obtain⟨v,hv⟩: ∃v,v=Value.iface (tyOf (ak F i)) (.pointer (some ⟨ad i,0,none⟩)):=⟨_,rfl⟩;rw[<-hv]at c1⊢;obtain⟨N,hN⟩: ∃N,N=F.length:=⟨_,rfl⟩;rw[<-hN]at c0 hi;have Bz:(i:Int)<(N:Int):=(by omega);clear h hN hv;go_enter Tryz.func106,Tryz.ntmps106;go_wp2_with fail;go_ret;exact⟨rfl,rfl⟩
theorem rI (k a:Nat) (w:World) (n:Nat) (hn:n=Tryz.prog.types.size+Made.depth):(method n (tyOf k) (.pointer (some ⟨a,0,none⟩)) "hostel/vfs.about").run Tryz.prog w= .ok (229, .pointer (some ⟨a,0,none⟩)) w:=by
 subst hn;unfold tyOf;split
 ·kernel_rfl
 ·split<;>kernel_rfl
def metaV (y:Nd):Value:= .agg #[.int .u8 (y.kind:Int), .int .u16 (y.mode:Int), .int .u32 (y.uid:Int), .int .u32 (y.gid:Int), .int .i64 (y.n:Int)]
theorem gJ (B fs nb c2 i:Nat) (ad mp:Nat->Nat) (F:List Nd) (y:Nd) (w:World) (h:FsIs w B fs nb c2 ad mp F) (hy:F[i]? =some y):
  Calls Tryz.prog 64 #[.pointer (some ⟨fs,0,none⟩), .int .i64 (i:Int)] w fun e w'=>e= .returned (.tuple #[metaV y, .int .i64 0])/\Below w.heap.size w w':=by
 obtain⟨w0,vl⟩: ∃w0,w0=w.alloc (.cells #[.int .u8 0, .int .u16 0, .int .u32 0, .int .u32 0, .int .i64 0] 103):=⟨_,rfl⟩;have vm:Below w.heap.size w w0:=(by rw[vl];exact uJ);have hM:w0.heap[w.heap.size]? =some (.cells #[.int .u8 0, .int .u16 0, .int .u32 0, .int .u32 0, .int .i64 0] 103 (0,0)):=(by rw[vl];exact ab w _);have hF:=h.below vm;have GZ:=(List.getElem?_eq_some_iff.1 hy).1;obtain⟨T,tail,hN,_⟩:=hF.node i y hy;obtain⟨a,ha⟩: ∃a,a=ad i:=⟨_,rfl⟩;rw[<-ha]at hN;have x0:w0.cell? ⟨a,0,none⟩=some (.int .u8 (y.kind:Int)):=aa hN 0;have x1:w0.cell? ⟨a,1,none⟩=some (.int .u16 (y.mode:Int)):=aa hN 1;have x2:w0.cell? ⟨a,2,none⟩=some (.int .u32 (y.uid:Int)):=aa hN 2;have x3:w0.cell? ⟨a,3,none⟩=some (.int .u32 (y.gid:Int)):=aa hN 3;have x4:w0.cell? ⟨a,4,none⟩=some (.int .i64 (y.n:Int)):=aa hN 4;have y0:w0.cell? ⟨w.heap.size,0,none⟩=some (.int .u8 0):=aa hM 0;have y1:w0.cell? ⟨w.heap.size,1,none⟩=some (.int .u16 0):=aa hM 1;have y2:w0.cell? ⟨w.heap.size,2,none⟩=some (.int .u32 0):=aa hM 2;have y3:w0.cell? ⟨w.heap.size,3,none⟩=some (.int .u32 0):=aa hM 3;have y4:w0.cell? ⟨w.heap.size,4,none⟩=some (.int .i64 0):=aa hM 4;have z0:=ae hM 0;have z1:=ae hM 1;have z2:=ae hM 2;have z3:=ae hM 3;have z4:=ae hM 4;have vo:=(uG hM).1;have zN: ∀W,W=w0->Calls Tryz.prog 106 #[.pointer (some ⟨fs,0,none⟩), .int .i64 (i:Int)] W fun e w'=>e= .returned (.iface (tyOf (ak F i)) (.pointer (some ⟨a,0,none⟩)))/\W=w':=fun W hW=>by
  subst hW;rw[ha];exact(jW B fs nb c2 i ad mp F _ hF GZ).mono fun e w' ⟨h1,h2⟩=>⟨h1,h2.symm⟩
 obtain⟨k,hk⟩: ∃k,k=ak F i:=⟨_,rfl⟩;rw[<-hk]at zN;have GD:=uH zN;have vF:=uH vl;clear h hF vl hM hN zN ha hk hy GZ;go_enter Tryz.func64,Tryz.ntmps64;go_upto_region 1 with(fail);rw[<-vF.out];go_wp2_with (first
  |(go_at_call 106;refine(GD.out _ rfl).mono ?_;rintro e w1 ⟨rfl,rfl⟩)
  |fail)
 rw[rI _ _ _ _ (by kernel_rfl)];simp only[Result.andThen];rw[oO,Oper.upon_enter];refine(ul a _).mono ?_;rintro e w2 ⟨rfl,rfl⟩;go_wp2_with fail;have vk:w.heap.size<=w.heap.size:=uK _;exact bodyPost_ret (v:= .tuple #[.agg #[.int .u8 (y.kind:Int), .int .u16 (y.mode:Int), .int .u32 (y.uid:Int), .int .u32 (y.gid:Int), .int .i64 (y.n:Int)], .int .i64 0]) (by simp[results,Tryz.results64,go_sem,vo,y0,y1,y2,y3,y4,z0,z1,z2,z3,z4]) rfl ⟨rfl,((((vm.setCell vk _).setCell vk _).setCell vk _).setCell vk _).setCell vk _⟩
theorem pW (B fs nb c2:Nat) (ad mp:Nat->Nat) (F:List Nd) (ino:Int) (w:World) (h:FsIs w B fs nb c2 ad mp F) (hi:ino<0\/(F.length:Int)<=ino):
  Calls Tryz.prog 64 #[.pointer (some ⟨fs,0,none⟩), .int .i64 ino] w fun e w'=>e= .returned (.tuple #[.agg #[.int .u8 0, .int .u16 0, .int .u32 0, .int .u32 0, .int .i64 0], .int .i64 3])/\Below w.heap.size w w':=by
 obtain⟨w0,vl⟩: ∃w0,w0=w.alloc (.cells #[.int .u8 0, .int .u16 0, .int .u32 0, .int .u32 0, .int .i64 0] 103):=⟨_,rfl⟩;have vm:Below w.heap.size w w0:=(by rw[vl];exact uJ);have hM:w0.heap[w.heap.size]? =some (.cells #[.int .u8 0, .int .u16 0, .int .u32 0, .int .u32 0, .int .i64 0] 103 (0,0)):=(by rw[vl];exact ab w _);have hF:=h.below vm;have y0:w0.cell? ⟨w.heap.size,0,none⟩=some (.int .u8 0):=aa hM 0;have y1:w0.cell? ⟨w.heap.size,1,none⟩=some (.int .u16 0):=aa hM 1;have y2:w0.cell? ⟨w.heap.size,2,none⟩=some (.int .u32 0):=aa hM 2;have y3:w0.cell? ⟨w.heap.size,3,none⟩=some (.int .u32 0):=aa hM 3;have y4:w0.cell? ⟨w.heap.size,4,none⟩=some (.int .i64 0):=aa hM 4;have z0:=ae hM 0;have z1:=ae hM 1;have z2:=ae hM 2;have z3:=ae hM 3;have z4:=ae hM 4;have vo:=(uG hM).1;have zN: ∀W,W=w0->Calls Tryz.prog 106 #[.pointer (some ⟨fs,0,none⟩), .int .i64 ino] W fun e w'=>e= .returned .nilIface/\W=w':=fun W hW=>by
  subst hW;exact(fnode_no B fs nb c2 ad mp F ino _ hF hi).mono fun e w' ⟨h1,h2⟩=>⟨h1,h2.symm⟩
 have GD:=uH zN;have vF:=uH vl;clear h hF vl hM zN hi;go_enter Tryz.func64,Tryz.ntmps64;go_upto_region 1 with(fail);rw[<-vF.out];go_wp2_with (first
  |(go_at_call 106;refine(GD.out _ rfl).mono ?_;rintro e w1 ⟨rfl,rfl⟩)
  |fail)
 have vk:w.heap.size<=w.heap.size:=uK _;exact bodyPost_ret (v:= .tuple #[.agg #[.int .u8 0, .int .u16 0, .int .u32 0, .int .u32 0, .int .i64 0], .int .i64 3]) (by simp[results,Tryz.results64,go_sem,vo,y0,y1,y2,y3,y4,z0,z1,z2,z3,z4]) rfl ⟨rfl,((((vm.setCell vk _).setCell vk _).setCell vk _).setCell vk _).setCell vk _⟩
end
section
open Go.RowKit Go.Sort
theorem ub (v:Value) (w:World):(Instr.typeAssert (.iface 163 v) 189 225 true).run Tryz.prog w= .ok (.tuple #[.pointer none, .bool false]) w:=by kernel_rfl
theorem ua (v:Value) (w:World):(Instr.typeAssert (.iface 228 v) 189 225 true).run Tryz.prog w= .ok (.tuple #[.pointer none, .bool false]) w:=by kernel_rfl
theorem iM (k a:Nat) (w:World):(Instr.typeAssert (.iface (tyOf k) (.pointer (some ⟨a,0,none⟩))) 189 225 true).run Tryz.prog w= .ok (.tuple #[if k=1 then .pointer (some ⟨a,0,none⟩)else .pointer none, .bool (decide (k=1))]) w:=by
 unfold tyOf;by_cases h2:k=2
 ·subst h2;exact ub _ w
 ·rw[if_neg h2];by_cases h1:k=1
  ·subst h1;exact oV _ w
  ·rw[if_neg h1,if_neg h1,uX h1];exact ua _ w
def iR (F:List Nd) (ino:Int) (off:Nat):Int×Nat×(Nat->Nat):=
 if ino<0\/(F.length:Int)<=ino then(3,0,fun _ =>0)
 else match F[ino.toNat]? with
  |none=>(3,0,fun _ =>0)
  |some y=>if y.kind=2 then(9,0,fun _ =>0)else if y.kind=1 then(0,min 4096 (y.n-off),fun i=>y.dat (off+i))else(1,0,fun _ =>0)
def eF (w:World) (r:Int×Nat×(Nat->Nat)) (e:Ending) (w':World):Prop:=
 ∃A cap,e= .returned (.tuple #[.slice A r.2.1 cap, .int .i64 r.1])/\au w' A r.2.1 r.2.2/\(∀x,A=some x->0<r.2.1->w.heap.size<=x.block)/\Below w.heap.size w w'/\OwnB w' w.heap.size A cap r.2.1 r.2.2
theorem ja (w:World) (base:Nat) (d:Nat->Nat):OwnB w base none 0 0 d:=⟨rfl, .inl ⟨rfl,rfl⟩⟩
variable {w:World}
theorem sS {base:Nat} (d:Nat->Nat) (h:base<=w.heap.size):OwnB (w.alloc (.cells #[] 5)) base (some ⟨w.heap.size,0,none⟩) 0 0 d:=((OwnB.none_made w).lower h).congr fun i hi=>absurd hi (by omega)
theorem fread_no (B fs nb c2 off:Nat) (ad mp:Nat->Nat) (F:List Nd) (ino:Int) (w:World) (h:FsIs w B fs nb c2 ad mp F) (hi:ino<0\/(F.length:Int)<=ino):
  Calls Tryz.prog 233 #[.pointer (some ⟨fs,0,none⟩), .int .i64 ino, .int .i64 (off:Int), .int .i64 4096] w (eF w (3,0,fun _ =>0)):=by
 have hm:=pW B fs nb c2 ad mp F ino w h hi;have HM:=uH hm;clear hm h hi;go_enter Tryz.func233,Tryz.ntmps233;go_wp2_with fail;refine(HM.out).mono ?_;rintro e w1 ⟨rfl,vk⟩;go_wp2_with fail;go_ret2;exact⟨none,0,rfl,(fun h=>by cases h),(fun x hx=>by cases hx),vk.trans (uJ.mono vk.size),ja _ _ _⟩
theorem tz (B fs nb c2 off i:Nat) (ad mp:Nat->Nat) (F:List Nd) (y:Nd) (w:World) (h:FsIs w B fs nb c2 ad mp F) (hy:F[i]? =some y) (hk:y.kind=2):
  Calls Tryz.prog 233 #[.pointer (some ⟨fs,0,none⟩), .int .i64 (i:Int), .int .i64 (off:Int), .int .i64 4096] w (eF w (9,0,fun _ =>0)):=by
 have hm:=gJ B fs nb c2 i ad mp F y w h hy;unfold metaV at hm;rw[hk]at hm;have HM:=uH hm;clear hm h hy hk;go_enter Tryz.func233,Tryz.ntmps233;go_wp2_with fail;refine(HM.out).mono ?_;rintro e w1 ⟨rfl,vk⟩;go_wp2_with fail;go_ret2;exact⟨none,0,rfl,(fun h=>by cases h),(fun x hx=>by cases hx),vk.trans (uJ.mono vk.size),ja _ _ _⟩
theorem rm (B fs nb c2 off i:Nat) (ad mp:Nat->Nat) (F:List Nd) (y:Nd) (w:World) (h:FsIs w B fs nb c2 ad mp F) (hy:F[i]? =some y) (hk:y.kind=3):
  Calls Tryz.prog 233 #[.pointer (some ⟨fs,0,none⟩), .int .i64 (i:Int), .int .i64 (off:Int), .int .i64 4096] w (eF w (1,0,fun _ =>0)):=by
 have GZ:=(List.getElem?_eq_some_iff.1 hy).1;have hm:=gJ B fs nb c2 i ad mp F y w h hy;unfold metaV at hm;rw[hk]at hm;have If:=fW hy;rw[hk]at If;have Wk:=fun W=>iM 3 (ad i) W;have ER: ∀W,Below w.heap.size w W->Calls Tryz.prog 106 #[.pointer (some ⟨fs,0,none⟩), .int .i64 (i:Int)] W fun e w'=>e= .returned (.iface (tyOf 3) (.pointer (some ⟨ad i,0,none⟩)))/\w'=W:=fun W hW=>by
  have h9:=jW B fs nb c2 i ad mp F W (h.below hW) GZ;rw[If]at h9;exact h9
 have HM:=uH hm;have GD:=uH ER;rw[if_neg (by decide),uX (by decide)]at Wk;clear hm h hy hk GZ ER If;go_enter Tryz.func233,Tryz.ntmps233;go_wp2_with fail;refine(HM.out).mono ?_;rintro e w1 ⟨rfl,vk⟩;have He:Below w.heap.size w (w1.alloc (.cells #[.int .u8 3, .int .u16 (y.mode:Int), .int .u32 (y.uid:Int), .int .u32 (y.gid:Int), .int .i64 (y.n:Int)] 103)):=vk.trans (uJ.mono vk.size);have DS:=uH He;clear He;go_wp2_with (first
  |(go_at_call 106;refine(GD.out _ DS.out).mono ?_;rintro e w3 ⟨rfl,rfl⟩)
  |fail)
 go_ret2;exact⟨none,0,rfl,(fun h=>by cases h),(fun x hx=>by cases hx),DS.out,ja _ _ _⟩
theorem ro (B fs nb c2 off i:Nat) (ad mp:Nat->Nat) (F:List Nd) (y:Nd) (w:World) (h:FsIs w B fs nb c2 ad mp F) (hy:F[i]? =some y) (hk:y.kind=1) (hp:off<=65536):
  Calls Tryz.prog 233 #[.pointer (some ⟨fs,0,none⟩), .int .i64 (i:Int), .int .i64 (off:Int), .int .i64 4096] w (eF w (0,min 4096 (y.n-off),fun j=>y.dat (off+j))):=by
 have GZ:=(List.getElem?_eq_some_iff.1 hy).1;have hm:=gJ B fs nb c2 i ad mp F y w h hy;unfold metaV at hm;rw[hk]at hm;have If:=fW hy;rw[hk]at If;obtain⟨a,ha⟩: ∃a,a=ad i:=⟨_,rfl⟩;have Wk:=fun W=>iM 1 a W;have ER: ∀W,Below w.heap.size w W->Calls Tryz.prog 106 #[.pointer (some ⟨fs,0,none⟩), .int .i64 (i:Int)] W fun e w'=>e= .returned (.iface (tyOf 1) (.pointer (some ⟨a,0,none⟩)))/\w'=W:=fun W hW=>by
  have h9:=jW B fs nb c2 i ad mp F W (h.below hW) GZ;rw[If,<-ha]at h9;exact h9
 have hn:=(h.ok.each i y hy).few;obtain⟨n,Xx⟩: ∃n,n=y.n:=⟨_,rfl⟩;obtain⟨T,tail,hN,_,h1,_⟩:=h.node i y hy;obtain⟨_,A,cd,rfl,hA,YW,Ex,Ov⟩:=h1 hk;rw[<-ha,<-Xx]at hN;rw[<-Xx]at hm hA Ex Ov hn⊢;rw[if_pos rfl,uY rfl]at Wk;have Cq: ∀x,A=some x->x.block<w.heap.size:=fun x hx=>by
  obtain⟨g,cs,f,e,hg⟩:=YW x hx;subst e;exact(uG hg).1
 have hau:a<w.heap.size:=(uG hN).1;have wN:A=none\/ ∃g,A=some ⟨g,0,none⟩:=by
  cases A with
  |none=>exact .inl rfl
  |some x=>obtain⟨g,cs,f,e,hg⟩:=YW x rfl;exact .inr ⟨g,by rw[e]⟩
 have HM:=uH hm;have GD:=uH ER;have HN:=uH hN;have HA:=uH hA;have QE:=uH Cq;clear hm h hy hk GZ ER If hN hA Cq h1 YW ha Xx;by_cases ya:n<=off
 ·have i2:min (off:Int) (n:Int)=(n:Int):=(by omega);have i3:min (4096:Int) 0=0:=(by omega);have yn:min 4096 (n-off)=0:=(by omega);rw[yn];unfold eF;clear yn;go_enter Tryz.func233,Tryz.ntmps233;go_wp2_with fail;refine(HM.out).mono ?_;rintro e w1 ⟨rfl,vk⟩;obtain⟨w2,vU⟩: ∃w2,w2=w1.alloc (.cells #[.int .u8 1, .int .u16 (y.mode:Int), .int .u32 (y.uid:Int), .int .u32 (y.gid:Int), .int .i64 (n:Int)] 103):=⟨_,rfl⟩;have vs:Below w1.heap.size w1 w2:=(by rw[vU];exact uJ);have hM:w2.heap[w1.heap.size]? =some (.cells #[.int .u8 1, .int .u16 (y.mode:Int), .int .u32 (y.uid:Int), .int .u32 (y.gid:Int), .int .i64 (n:Int)] 103 (0,0)):=(by rw[vU];exact ab _ _);have He:Below w.heap.size w w2:=vk.trans (vs.mono vk.size);have x8:w2.cell? ⟨a,8,none⟩=some (.slice _ n cd):=(He.cell (p:=⟨a,8,none⟩) hau).trans (aa HN.out 8);have m0:w2.cell? ⟨w1.heap.size,0,none⟩=some (.int .u8 1):=aa hM 0;have Cv:=uH vU;have DS:=uH He;clear vU hM vs He;rcases wN with rfl|⟨g,rfl⟩
  ·have Jg:=Ov rfl;have x9:w2.cell? ⟨a,8,none⟩=some (.slice none 0 0):=(by rw[x8,Jg.1,Jg.2]);have i5:min (off:Int) 0=0:=(by omega);clear x8 Jg i2;go_upto_region 2 with(fail);rw[<-Cv.out];go_wp2_with (first
    |(go_at_call 106;refine(GD.out _ DS.out).mono ?_;rintro e w3 ⟨rfl,rfl⟩)
    |fail)
   go_region_held3 (fun w'=>w'.cell? ⟨a,8,none⟩=some (.slice none 0 0)) (go_keep) (fail);go_wp2_with fail
   all_goals
    refine(gP _).mono ?_;rintro e w5 ⟨rfl,rfl⟩;go_wp2_with fail;go_ret2;exact⟨none,0,rfl,fun h=>absurd h (by omega),fun x hx=>(by cases hx),DS.out.trans (((vg _ _).drew).mono DS.out.size),ja _ _ _⟩
  ·go_upto_region 2 with(fail);rw[<-Cv.out];go_wp2_with (first
    |(go_at_call 106;refine(GD.out _ DS.out).mono ?_;rintro e w3 ⟨rfl,rfl⟩)
    |fail)
   go_region_held3 (fun w'=>w'.cell? ⟨a,8,none⟩=some (.slice (some ⟨g,0,none⟩) n cd)) (go_keep) (fail);go_wp2_with fail
   all_goals
    refine(kg _ _ _).mono ?_;rintro e w5 ⟨rfl,rfl⟩;go_wp2_with fail;go_ret2;exact⟨_,0,rfl,fun h=>absurd h (by omega),fun x hx h=>absurd h (by omega),DS.out.trans (((vg _ _).drew.trans uJ).mono DS.out.size),sS _ DS.out.size⟩
 ·obtain⟨k,hk⟩: ∃k:Nat,k=min 4096 (n-off):=⟨_,rfl⟩;obtain⟨g,rfl⟩: ∃g,A=some ⟨g,0,none⟩:=by
   rcases wN with rfl|h9
   ·have:=Ov rfl;omega
   ·exact h9
  have yn:0<k:=(by omega);have hkf:k<=4096:=(by omega);have i0:(off:Int)<=(n:Int):=(by omega);have i1:off<cd:=(by omega);have i2:min (off:Int) (n:Int)=(off:Int):=(by omega);have i3:min (4096:Int) ((n-off:Nat):Int)=(k:Int):=(by omega);have i4:(k:Int)<=((n-off:Nat):Int):=(by omega);unfold eF;rw[<-hk];go_enter Tryz.func233,Tryz.ntmps233;go_wp2_with fail;refine(HM.out).mono ?_;rintro e w1 ⟨rfl,vk⟩;obtain⟨w2,vU⟩: ∃w2,w2=w1.alloc (.cells #[.int .u8 1, .int .u16 (y.mode:Int), .int .u32 (y.uid:Int), .int .u32 (y.gid:Int), .int .i64 (n:Int)] 103):=⟨_,rfl⟩;have vs:Below w1.heap.size w1 w2:=(by rw[vU];exact uJ);have hM:w2.heap[w1.heap.size]? =some (.cells #[.int .u8 1, .int .u16 (y.mode:Int), .int .u32 (y.uid:Int), .int .u32 (y.gid:Int), .int .i64 (n:Int)] 103 (0,0)):=(by rw[vU];exact ab _ _);have He:Below w.heap.size w w2:=vk.trans (vs.mono vk.size);have x8:w2.cell? ⟨a,8,none⟩=some (.slice _ n cd):=(He.cell (p:=⟨a,8,none⟩) hau).trans (aa HN.out 8);have m0:w2.cell? ⟨w1.heap.size,0,none⟩=some (.int .u8 1):=aa hM 0;have Cv:=uH vU;have DS:=uH He;clear vU hM vs He;have Gl:g<w.heap.size:=QE.out _ rfl;have Ti:g<w2.heap.size:=uO Gl DS.out.size;have Hl:au w2 (some ⟨g,off,none⟩) k (fun j=>y.dat (off+j)):=by
   intro _;refine⟨_,rfl,fun j hj=>?_⟩;obtain⟨x,h1,h2⟩:=(HA.out.below DS.out QE.out) (by omega);injection h1 with h1;subst h1;have h3:=h2 (off+j) (by omega);rw[Addr.add_mid]at h3⊢;rw[Nat.zero_add]at h3;exact h3
  have QF:=uH Hl;clear Hl hk wN;go_upto_region 2 with(fail);rw[<-Cv.out];go_wp2_with (first
   |(go_at_call 106;refine(GD.out _ DS.out).mono ?_;rintro e w3 ⟨rfl,rfl⟩)
   |fail)
  go_region_held3 (fun w'=>w'.cell? ⟨a,8,none⟩=some (.slice (some ⟨g,0,none⟩) n cd)) (go_keep) (fail);go_wp2_with fail;have Na:Below w3.heap.size w3 w3.drew:=(vg _ _).drew;refine(kh k (cd-off) ⟨g,off,none⟩ (fun j=>y.dat (off+j)) _ yn (by omega) (QF.out.below Na (fun x hx=>by injection hx with hx;subst hx;exact Ti)) Ti).mono ?_;rintro e w5 ⟨g5,zW,rfl,yt,zQ⟩;have CH:=yt.form.1;have Yd:w.heap.size<=g5:=ve DS.out.size CH;have Ch:=uH yt;clear yt CH;go_wp2_with fail;go_ret2;exact⟨_,zW,rfl,Ch.out.v,(fun x hx _ =>by injection hx with hx;subst hx;exact Yd),DS.out.trans ((Na.trans zQ).mono DS.out.size),Ch.out.lower DS.out.size⟩
theorem tA (B fs nb c2 off:Nat) (ad mp:Nat->Nat) (F:List Nd) (ino:Int) (w:World) (h:FsIs w B fs nb c2 ad mp F) (hp:off<=65536):
  Calls Tryz.prog 233 #[.pointer (some ⟨fs,0,none⟩), .int .i64 ino, .int .i64 (off:Int), .int .i64 4096] w (eF w (iR F ino off)):=by
 unfold iR;by_cases hi:ino<0\/(F.length:Int)<=ino
 ·rw[if_pos hi];exact fread_no B fs nb c2 off ad mp F ino w h hi
 ·rw[if_neg hi];obtain⟨i,rfl⟩: ∃i:Nat,ino=(i:Int):=⟨ino.toNat,by omega⟩;have GZ:i<F.length:=(by omega);rw[Int.toNat_natCast];obtain⟨y,hy,_⟩:=kN GZ;rw[hy];have hk:=(h.ok.each i y hy).kind;simp only;rcases(by omega:y.kind=2\/y.kind=1\/y.kind=3)with e|e|e
  ·rw[if_pos e];exact tz B fs nb c2 off i ad mp F y w h hy e
  ·rw[if_neg (by omega),if_pos e];exact ro B fs nb c2 off i ad mp F y w h hy e hp
  ·rw[if_neg (by omega),if_neg (by omega)];exact rm B fs nb c2 off i ad mp F y w h hy e
theorem read_is {B fs nb c2 off:Nat} {ad mp:Nat->Nat} {F:List Nd} {ino:Int} (h:FsIs w B fs nb c2 ad mp F) (hp:off<=65536):nH w fs ino (off:Int) (iR F ino off).1 (iR F ino off).2.1 (iR F ino off).2.2:=
 (tA B fs nb c2 off ad mp F ino w h hp).mono fun e w' ⟨A,cap,h1,h2,h3,h4,_⟩=>⟨A,cap,h1,h2,h3,h4⟩
end
