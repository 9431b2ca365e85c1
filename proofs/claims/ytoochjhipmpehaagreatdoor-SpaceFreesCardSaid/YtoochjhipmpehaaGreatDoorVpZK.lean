/- Files: node, Meta and Read of the one file. -/
import Derived.Test.YtoochjhipmpehaaGreatDoorCaZK
import Derived.Test.YtoochjhipmpehaaGreatDoorVpYK
import Derived.Lib.MinMax
set_option linter.unusedVariables false
set_option linter.unusedSimpArgs false
set_option maxRecDepth 100000
set_option maxHeartbeats 4000000
namespace Go.Proofs.YtoochjhipmpehaaGreatDoor
section
open Go.RowKit Go.Sort
theorem ul (x:Nat) (w:World):Calls Tryz.prog 229 #[.pointer (some ⟨x,0,none⟩)] w fun e w'=>e= .returned (.pointer (some ⟨x,0,none⟩))/\w'=w:=by
 go_enter Tryz.func229,Tryz.ntmps229;go_wp2_with fail;go_ret;exact⟨rfl,rfl⟩
theorem oS (v:Value) (w:World):(callFunc 229 #[v]).run Tryz.prog w= .ok (.enter 229 #[v]) w:=by kernel_rfl
end
section
open Go.RowKit Go.Sort
variable {p p':Pool} {L L':List Slot} {f:Nat}
theorem ax.live (h:ax p L 0 f p' L'):f<p'.n/\p'.cnt f=1/\p'.dat f=fun _ =>0:=by
 cases h with
 |free f h1=>exact⟨(cK h1).1,af _ _ _,af _ _ _⟩
 |loose s h1 h2 h3=>exact⟨h3,af _ _ _,af _ _ _⟩
theorem ax.duo {r:Int} (h:ax p L r f p' L'):r=0\/(r=4/\f=0/\p'=p/\L'=L):=by
 cases h
 ·exact .inl rfl
 ·exact .inl rfl
 ·exact .inr ⟨rfl,rfl,rfl,rfl⟩
theorem iI (w:World) (m:Nat) (o:Obj):Mod (fun b=>b=m) w (Go.ChangeMaps.setBlock w.drew m o):=by
 refine⟨rfl,rfl,rfl,?_,fun b hb vB=>?_⟩
 ·show w.heap.size<=(w.heap.setIfInBounds m o).size;simp
 ·show(w.heap.setIfInBounds m o)[b]? =_;exact Array.getElem?_setIfInBounds_ne (fun e=>vB e.symm)
variable {w:World} {c a fs m:Nat} {clock:Int}
theorem aQ.tick {v:Int} (h:aQ w c a fs m clock):aQ (w.setCell ⟨c,3,none⟩ (.int .i64 v)) c a fs m v:=by
 have h1:=Joins.block_setCell (i:=3) h (.int .i64 v);simpa [aQ]using h1
variable {S:Nat->Prop}
theorem ap.c0 (h:ap w S c a fs m clock p L):c≠0:=by
 intro e;subst e;have h1:=h.pool.tab 0 (by decide);have h2:w.cell? ⟨0,0,none⟩=some (.pointer (some ⟨a,0,none⟩)):=aa h.self 0;rw[h2]at h1;cases h1
variable {w':World} {n:Nat} {A:Option Addr} {d:Nat->Nat}
theorem aw.kept (h:aw w A n d) (hb:Below w.heap.size w w'):aw w' A n d:=fun h0=>by
 obtain⟨ad,e,hc⟩:=h h0;refine⟨ad,e,fun j hj=>?_⟩;rw[<-hc j hj];exact hb.cell (World.block_lt_of_cell? _ _ (hc j hj))
theorem aw.mod {X:Nat->Prop} (h:aw w A n d) (hm:Mod X w w') (hA: ∀ad,A=some ad->0<n-> ¬X ad.block):aw w' A n d:=fun h0=>by
 obtain⟨ad,e,hc⟩:=h h0;refine⟨ad,e,fun j hj=>?_⟩;rw[<-hc j hj];have hl:=World.block_lt_of_cell? _ _ (hc j hj);have FQ:(ad.add j).block=ad.block:=by unfold Addr.add;split<;>rfl
 rw[FQ]at hl;have hh:w'.heap[(ad.add j).block]? =w.heap[(ad.add j).block]? :=(by rw[FQ];exact hm.block _ hl (hA ad e h0));exact World.cell?_of_block hh
def nP (w:World) (fs:Nat) (ino off r0:Int) (k:Nat) (d:Nat->Nat):Prop:=
 Calls Tryz.prog 233 #[.pointer (some ⟨fs,0,none⟩), .int .i64 ino, .int .i64 off, .int .i64 4096] w
  fun e w'=> ∃A cap,e= .returned (.tuple #[.slice A k cap, .int .i64 r0])/\aw w' A k d/\(∀ad,A=some ad->0<k->w.heap.size<=ad.block)/\Below w.heap.size w w'
def dW (w:World) (S:Nat->Prop) (c a fs m:Nat) (ino page r0:Int) (k:Nat) (d:Nat->Nat) (clock:Int) (p:Pool) (L:List Slot) (e:Ending) (w':World):Prop:=
 ∃r f p' L' vm S',e= .returned (.tuple #[.int .i64 (f:Nat), .int .i64 r])/\ap w' S' c a fs m vm p' L'/\Mod (fun b=>S b\/b=m\/b=c) w w'/\Out S S' w/\dF ino page r0 k d p L clock r f p' L' vm
variable {w3:World} {bh:Nat}
theorem dW.mod (hb:Below w.heap.size w w3) (hm:Mod (fun b=>b=m\/b=c\/b=bh) w3 w') (hz:w.heap.size<=bh):Mod (fun b=>S b\/b=m\/b=c) w w':=by
 have h1:=(Mod.of (S:=fun b=>b=m\/b=c\/b=bh) hb).trans (Out.refl _ _) hm;exact⟨h1.os,h1.tape,h1.output,h1.size,fun b hb hn=>h1.block b hb (fun e=>hn (.inr (by omega)))⟩
theorem dW.mod2 {w4 w5 w6:World} {S1:Nat->Prop} (h3:Below w.heap.size w w3) (h4:Mod (Both S m) w3 w4) (ho:Out S S1 w3) (h5:Mod S1 w4 w5) (h6:Mod (fun b=>b=bh) w5 w6) (h7:Mod (fun b=>b=m\/b=c\/b=bh) w6 w') (hz:w.heap.size<=bh):Mod (fun b=>S b\/b=m\/b=c) w w':=by
 have xI:=h3.size;have h1:Mod (fun b=>S b\/b=m\/b=c\/w.heap.size<=b) w w':=(Mod.of h3).trans (Out.refl _ _) ((h4.sub fun b hb=>hb.elim .inl fun e=> .inr (.inl e)).trans (Out.refl _ _) ((h5.sub fun b hb=>(ho b hb).elim .inl fun e=> .inr (.inr (.inr (by omega)))).trans (Out.refl _ _) ((h6.sub fun b hb=> .inr (.inr (.inr (by omega)))).trans (Out.refl _ _) (h7.sub fun b hb=>by
  rcases hb with e|e|e
  ·exact .inr (.inl e)
  ·exact .inr (.inr (.inl e))
  ·exact .inr (.inr (.inr (by omega)))))))
 exact⟨h1.os,h1.tape,h1.output,h1.size,fun b hb hn=>h1.block b hb (fun e=>hn (by
  rcases e with e|e|e|e
  ·exact .inl e
  ·exact .inr (.inl e)
  ·exact .inr (.inr e)
  ·omega))⟩
theorem get_bad (c a fs m k:Nat) (ino page r0 clock:Int) (d:Nat->Nat) (w:World) (S:Nat->Prop) (p:Pool) (L:List Slot) (h:ap w S c a fs m clock p L) (zh:page<0\/16<=page):
  Calls Tryz.prog 232 #[.pointer (some ⟨c,0,none⟩), .int .i64 ino, .int .i64 page] w (dW w S c a fs m ino page r0 k d clock p L):=by
 have H:=uK h;have HB:=uK zh;clear h;by_cases h0:page<0
 ·clear zh;go_enter Tryz.func232,Tryz.ntmps232;go_wp2_with fail;go_ret2;exact⟨1,0,p,L,clock,S,rfl,H.out,Mod.refl _ _,Out.refl _ _, .bad HB.out⟩
 ·have h1:16<=page:=(by omega);clear zh;go_enter Tryz.func232,Tryz.ntmps232;go_wp2_with fail;go_ret2;exact⟨1,0,p,L,clock,S,rfl,H.out,Mod.refl _ _,Out.refl _ _, .bad HB.out⟩
theorem get_err (c a fs m k:Nat) (ino page r0 clock:Int) (d:Nat->Nat) (w:World) (S:Nat->Prop) (p:Pool) (L:List Slot) (h:ap w S c a fs m clock p L) (h0:0<=page) (RL:page<16) (Je:nP w fs ino (page*4096) r0 k d) (hr:(r0 != 0)=true):
  Calls Tryz.prog 232 #[.pointer (some ⟨c,0,none⟩), .int .i64 ino, .int .i64 page] w (dW w S c a fs m ino page r0 k d clock p L):=by
 have hmul:IntKind.i64.wrap (page*4096)=page*4096:=(by rw[IntKind.wrap_i64];omega);have c1:w.cell? ⟨c,1,none⟩=some (.pointer (some ⟨fs,0,none⟩)):=aa h.self 1;have H:=uK h;have IX:=uK Je;have HR:=uK hr;clear h Je;go_enter Tryz.func232,Tryz.ntmps232;go_wp2_with (first
  |(go_at_call 233;refine(IX.out).mono ?_;rintro e w1 ⟨A,cap,rfl,hA,Zj,vl⟩;have vu:=uK vl;clear hA vl)
  |fail)
 go_ret2;exact⟨r0,0,p,L,clock,S,rfl,H.out.below vu.out,Mod.of vu.out,Out.refl _ _, .err h0 RL (by simpa using HR.out)⟩
theorem get_hit (c a fs m k:Nat) (ino page r0 clock:Int) (d:Nat->Nat) (w:World) (S:Nat->Prop) (p:Pool) (L:List Slot) (h:ap w S c a fs m clock p L) (h0:0<=page) (RL:page<16) (Ks:(Lit.int .i64 ino).wf=true) (Je:nP w fs ino (page*4096) 0 k d) (Al:0<=clock/\clock<1000000)
  (s:Slot) (hs:L.find? (Slot.at ino page)=some s):
  Calls Tryz.prog 232 #[.pointer (some ⟨c,0,none⟩), .int .i64 ino, .int .i64 page] w (dW w S c a fs m ino page 0 k d clock p L):=by
 have JU:(Lit.int .i64 page).wf=true:=(by go_wf2);have hmul:IntKind.i64.wrap (page*4096)=page*4096:=(by rw[IntKind.wrap_i64];omega);have c1:w.cell? ⟨c,1,none⟩=some (.pointer (some ⟨fs,0,none⟩)):=aa h.self 1;have IX:=uK Je;have H:=uK h;have RN:=uK hs;clear Je h hs;go_enter Tryz.func232,Tryz.ntmps232;go_upto_region 8 with(first
  |(go_at_call 233;refine(IX.out).mono ?_;rintro e w1 ⟨A,cap,rfl,hA,Zj,vl⟩;have H1:=uK (H.out.below vl);clear hA)
  |fail)
 obtain⟨w2,we⟩: ∃w2,w2=w1.alloc (.cells #[.int .i64 ino, .int .i64 page] 127):=⟨_,rfl⟩;have vs:Below w1.heap.size w1 w2:=(by rw[we];exact uM);have Aw:w2.heap[w1.heap.size]? =some (.cells #[.int .i64 ino, .int .i64 page] 127 (0,0)):=(by rw[we];exact ab _ _);have BN:=H1.out.below vs;have k0:w2.cell? ⟨w1.heap.size,0,none⟩=some (.int .i64 ino):=aa Aw 0;have k1:w2.cell? ⟨w1.heap.size,1,none⟩=some (.int .i64 page):=aa Aw 1;have k2:w2.cell? ⟨c,2,none⟩=some (.map (some m)):=aa BN.self 2;have zW: ∀W,W.heap[m]? =w2.heap[m]? ->(Instr.lookup 123 (.map (some m)) (.agg #[.int .i64 ino, .int .i64 page]) true).run Tryz.prog W= .ok (.tuple #[.agg #[.int .i64 (s.frame:Int), .int .i64 s.asked], .bool true]) W:=by
  intro W hW;obtain⟨es0,Zp,PB⟩:=aP.same (w':=W) BN.slots hW;have Fa:=PB.look (i:=ino) (p:=page) Ks JU true;rw[RN.out]at Fa;exact Fa
 have xn:=zW w2.drew rfl;have wk:=zW (w2.alloc (.cells #[.int .i64 0, .int .i64 0] 129)).drew (uO _ _ _ BN.lts.2.1);have ya:=uK BN;have FW:=uK Aw;have Di:=uK we;clear zW BN Aw we;go_upto_region 9 with(fail);rw[<-Di.out];go_region_held3 (fun w'=>w'.cell? ⟨c,2,none⟩=some (.map (some m))/\w'.cell? ⟨w1.heap.size,0,none⟩=some (.int .i64 ino)/\w'.cell? ⟨w1.heap.size,1,none⟩=some (.int .i64 page)) (go_keep) (fail)
 all_goals
  obtain⟨w3,wX⟩: ∃w3,w3=(w2.alloc (.cells #[.int .i64 (s.frame:Int), .int .i64 s.asked] 129)).drew:=⟨_,rfl⟩;rw[<-wX];have vx:Below w2.heap.size w2 w3:=(by rw[wX];exact uM.drew);have Zd:w3.heap[w2.heap.size]? =some (.cells #[.int .i64 (s.frame:Int), .int .i64 s.asked] 129 (0,0)):=(by rw[wX];exact ab w2 _);have Yc:=ya.out.lts;have Py:=(uJ FW.out).1;have vz:=vl.size;have vS:=vs.size;have WI:=H1.out.pool.low;have Yd:=H1.out.lts;obtain⟨bh,PY⟩: ∃bh,bh=w2.heap.size:=⟨_,rfl⟩;obtain⟨bk,FQ⟩: ∃bk,bk=w1.heap.size:=⟨_,rfl⟩;have Ia:w3.heap[bk]? =some (.cells #[.int .i64 ino, .int .i64 page] 127 (0,0)):=(by(rw[FQ];exact((vx).block _ Py).trans FW.out));have GB:=Zd;rw[<-PY]at GB⊢;rw[<-FQ];have PZ:bh≠c:=(by omega);have Gu:bh≠m:=(by omega);have Mx:bk≠bh:=(by omega);have PX:bk≠c:=(by omega);have Ui:bh≠0:=(by omega);have My: ¬S bh:=fun e=>by(have:=WI _ e;omega)
  have BM:=ya.out.below vx;have GX:=uK BM;have OB:=uK GB;have Ln:=uK Ia;have yT:=uK (vl.trans ((vs.trans ((vx).mono vS)).mono vz));have WN:w.heap.size<=bh:=(by omega);have HBH:=uK PY;have HBK:=uK FQ;clear BM GB Ia PY FQ k0 k1 k2 xn wk;clear wX;go_upto_region 16 with(fail);have AQ:=GX.out;have Gm:=AQ.lts;have kc:w3.cell? ⟨c,3,none⟩=some (.int .i64 clock):=aa AQ.self 3;have kf:w3.frozen? ⟨c,3,none⟩=false:=ae AQ.self 3;have vp:w3.cell? ⟨bh,0,none⟩=some (.int .i64 (s.frame:Int)):=aa OB.out 0;have vl:w3.cell? ⟨bh,1,none⟩=some (.int .i64 s.asked):=aa OB.out 1;have Ud:w3.frozen? ⟨bh,1,none⟩=false:=ae OB.out 1;have hwr:IntKind.i64.wrap (clock+1)=clock+1:=(by(rw[IntKind.wrap_i64];omega));obtain⟨w20,DP⟩: ∃w20,w20=w3.setCell ⟨c,3,none⟩ (.int .i64 (clock+1)):=⟨_,rfl⟩;have AZ:Mod (fun b=>b=c) w3 w20:=(by(rw[DP];exact al (S:=fun b=>b=c) rfl 3 _));have DQ:aQ w20 c a fs m (clock+1):=(by(rw[DP];exact AQ.self.tick));have Tr:=(uJ OB.out).1;have Cs:=(AZ.block bh Tr PZ).trans OB.out;have x0:w20.cell? ⟨bh,0,none⟩=some (.int .i64 (s.frame:Int)):=aa Cs 0;have x1:w20.cell? ⟨bh,1,none⟩=some (.int .i64 s.asked):=aa Cs 1;have x2:w20.frozen? ⟨bh,1,none⟩=false:=ae Cs 1;have x3:w20.cell? ⟨c,3,none⟩=some (.int .i64 (clock+1)):=aa DQ 3;obtain⟨w21,DO⟩: ∃w21,w21=w20.setCell ⟨bh,1,none⟩ (.int .i64 (clock+1)):=⟨_,rfl⟩;have AY:Mod (fun b=>b=bh) w20 w21:=(by(rw[DO];exact al (S:=fun b=>b=bh) rfl 1 _));have Ef:w21.heap[bh]? =some (.cells #[.int .i64 (s.frame:Int), .int .i64 (clock+1)] 129 (0,0)):=(by(rw[DO];simpa using Joins.block_setCell (i:=1) Cs (.int .i64 (clock+1))));have Kp:=(uJ DQ).1;have Gb:aQ w21 c a fs m (clock+1):=(AY.block c Kp (fun e=>PZ e.symm)).trans DQ;have zW:=(uJ Ln.out).1;have Xb:=AZ.size;have Xa:=AY.size;have GA:=(AY.block bk (by omega) Mx).trans ((AZ.block bk zW PX).trans Ln.out);have EL:aP w21 m L:=(AQ.slots.same ((AY.block m (by omega) (fun e=>Gu e.symm)).trans (AZ.block m Gm.2.1 (fun e=>Gm.2.2.1 e.symm))));obtain⟨es,wm,Ty⟩:=aP.same (w':=w21.drew) EL rfl;obtain⟨es',Eh,FN,Gn⟩:=Ty.put (s:=⟨ino,page,s.frame,clock+1⟩) Ks JU;obtain⟨w22,DN⟩: ∃w22,w22=Go.ChangeMaps.setBlock w21.drew m (.map es' Eh):=⟨_,rfl⟩;rw[<-DN]at FN Gn;have Gk:(Instr.mapUpdate 123 (.map (some m)) (.agg #[.int .i64 ino, .int .i64 page]) (.agg #[.int .i64 (s.frame:Int), .int .i64 (clock+1)])).run Tryz.prog w21.drew= .ok () w22:=FN;have y0:w21.cell? ⟨c,2,none⟩=some (.map (some m)):=aa Gb 2;have y1:w21.cell? ⟨bk,0,none⟩=some (.int .i64 ino):=aa GA 0;have y2:w21.cell? ⟨bk,1,none⟩=some (.int .i64 page):=aa GA 1;have y3:w21.cell? ⟨bh,0,none⟩=some (.int .i64 (s.frame:Int)):=aa Ef 0;have y4:w21.cell? ⟨bh,1,none⟩=some (.int .i64 (clock+1)):=aa Ef 1;have DU:Mod (fun b=>b=m) w21 w22:=(by(rw[DN];exact iI _ _ _));have KU:=(DU.block bh (by omega) Gu).trans Ef;have y5:w22.cell? ⟨bh,0,none⟩=some (.int .i64 (s.frame:Int)):=aa KU 0;have Cb:Mod (fun b=>b=m\/b=c\/b=bh) w3 w22:=((AZ.sub fun b hb=> .inr (.inl hb)).trans (Out.refl _ _) ((AY.sub fun b hb=> .inr (.inr hb)).trans (Out.refl _ _) (DU.sub fun b hb=> .inl hb)));have UH:ap w22 S c a fs m (clock+1) p (dR L ⟨ino,page,s.frame,clock+1⟩):=⟨AQ.pool.mod Cb (fun b hb e=>by(rcases e with e|e|e;exact AQ.noM (e▸hb);exact AQ.noC (e▸hb);exact My (e▸hb))) (fun e=>by(have h9:=AQ.c0;rcases e with e|e|e<;>omega)),(DU.block c (by omega) Gm.2.2.1).trans Gb,⟨es',Eh,Gn⟩,AQ.noC,AQ.noM⟩;have HCE:=uK UH;have ZU:=uK Cb;have Qz:=uK DP;have Qy:=uK DO;have Zw:=uK DN;clear AQ DQ Cs Ef Gb GA EL Ty Gn FN AZ AY DU UH Cb DP DO DN KU;go_upto_region 17 with(fail);rw[<-Qz.out];go_upto_region 18 with(fail);rw[<-Qy.out];go_region;go_wp2_with fail
  all_goals
   go_ret2;exact⟨0,s.frame,p,_,clock+1,S,rfl,HCE.out,dW.mod yT.out ZU.out WN,Out.refl _ _, .hit s h0 RL rfl RN.out⟩
theorem get_new (c a fs m k:Nat) (ino page r0 clock:Int) (d:Nat->Nat) (w:World) (S:Nat->Prop) (p:Pool) (L:List Slot) (h:ap w S c a fs m clock p L) (h0:0<=page) (RL:page<16) (Ks:(Lit.int .i64 ino).wf=true) (Je:nP w fs ino (page*4096) 0 k d) (hd: ∀i,d i<256) (hk:k<=4096) (Al:0<=clock/\clock<1000000)
  (hs:L.find? (Slot.at ino page)=none):
  Calls Tryz.prog 232 #[.pointer (some ⟨c,0,none⟩), .int .i64 ino, .int .i64 page] w (dW w S c a fs m ino page 0 k d clock p L):=by
 have JU:(Lit.int .i64 page).wf=true:=(by go_wf2);have hmul:IntKind.i64.wrap (page*4096)=page*4096:=(by rw[IntKind.wrap_i64];omega);have c1:w.cell? ⟨c,1,none⟩=some (.pointer (some ⟨fs,0,none⟩)):=aa h.self 1;have IX:=uK Je;have H:=uK h;have RN:=uK hs;clear Je h hs;go_enter Tryz.func232,Tryz.ntmps232;go_upto_region 8 with(first
  |(go_at_call 233;refine(IX.out).mono ?_;rintro e w1 ⟨A,cap,rfl,hA,Zj,vl⟩;have HA:=uK hA;have H1:=uK (H.out.below vl);clear hA)
  |fail)
 obtain⟨w2,we⟩: ∃w2,w2=w1.alloc (.cells #[.int .i64 ino, .int .i64 page] 127):=⟨_,rfl⟩;have vs:Below w1.heap.size w1 w2:=(by rw[we];exact uM);have Aw:w2.heap[w1.heap.size]? =some (.cells #[.int .i64 ino, .int .i64 page] 127 (0,0)):=(by rw[we];exact ab _ _);have BN:=H1.out.below vs;have k0:w2.cell? ⟨w1.heap.size,0,none⟩=some (.int .i64 ino):=aa Aw 0;have k1:w2.cell? ⟨w1.heap.size,1,none⟩=some (.int .i64 page):=aa Aw 1;have k2:w2.cell? ⟨c,2,none⟩=some (.map (some m)):=aa BN.self 2;have zW: ∀W,W.heap[m]? =w2.heap[m]? ->(Instr.lookup 123 (.map (some m)) (.agg #[.int .i64 ino, .int .i64 page]) true).run Tryz.prog W= .ok (.tuple #[.agg #[.int .i64 0, .int .i64 0], .bool false]) W:=by
  intro W hW;obtain⟨es0,Zp,PB⟩:=aP.same (w':=W) BN.slots hW;have Fa:=PB.look (i:=ino) (p:=page) Ks JU true;rw[RN.out]at Fa;exact Fa
 have xn:=zW w2.drew rfl;have wk:=zW (w2.alloc (.cells #[.int .i64 0, .int .i64 0] 129)).drew (uO _ _ _ BN.lts.2.1);have ya:=uK BN;have FW:=uK Aw;have Di:=uK we;clear zW BN Aw we;go_upto_region 9 with(fail);rw[<-Di.out];go_region_held3 (fun w'=>w'.cell? ⟨c,2,none⟩=some (.map (some m))/\w'.cell? ⟨w1.heap.size,0,none⟩=some (.int .i64 ino)/\w'.cell? ⟨w1.heap.size,1,none⟩=some (.int .i64 page)) (go_keep) (fail)
 all_goals
  obtain⟨w3,wX⟩: ∃w3,w3=(w2.alloc (.cells #[.int .i64 0, .int .i64 0] 129)).drew:=⟨_,rfl⟩;rw[<-wX];have vx:Below w2.heap.size w2 w3:=(by rw[wX];exact uM.drew);have Zd:w3.heap[w2.heap.size]? =some (.cells #[.int .i64 0, .int .i64 0] 129 (0,0)):=(by rw[wX];exact ab w2 _);have Yc:=ya.out.lts;have Py:=(uJ FW.out).1;have vz:=vl.size;have vS:=vs.size;have WI:=H1.out.pool.low;have Yd:=H1.out.lts;obtain⟨bh,PY⟩: ∃bh,bh=w2.heap.size:=⟨_,rfl⟩;obtain⟨bk,FQ⟩: ∃bk,bk=w1.heap.size:=⟨_,rfl⟩;have Ia:w3.heap[bk]? =some (.cells #[.int .i64 ino, .int .i64 page] 127 (0,0)):=(by(rw[FQ];exact((vx).block _ Py).trans FW.out));have GB:=Zd;rw[<-PY]at GB⊢;rw[<-FQ];have PZ:bh≠c:=(by omega);have Gu:bh≠m:=(by omega);have Mx:bk≠bh:=(by omega);have PX:bk≠c:=(by omega);have Ui:bh≠0:=(by omega);have My: ¬S bh:=fun e=>by(have:=WI _ e;omega)
  have BM:=ya.out.below vx;have GX:=uK BM;have OB:=uK GB;have Ln:=uK Ia;have yT:=uK (vl.trans ((vs.trans ((vx).mono vS)).mono vz));have WN:w.heap.size<=bh:=(by omega);have HBH:=uK PY;have HBK:=uK FQ;clear BM GB Ia PY FQ k0 k1 k2 xn wk;have xI:=vx.size;have KX:aw w3 A k d:=HA.out.kept (vs.trans (vx.mono vS));have Ra:=uK KX;have YL:bh<w3.heap.size:=(uJ OB.out).1;have YI:bk<w3.heap.size:=(uJ Ln.out).1;have Uc: ¬S bk:=fun e=>by have:=WI _ e;have:=HBK.out;omega
  have YJ:bk≠m:=(by have:=HBK.out;omega);have hAk:0<k-> ∃ad,A=some ad/\ad.block<w1.heap.size:=fun h9=>by
   obtain⟨ad,e9,WC⟩:=HA.out h9;exact⟨ad,e9,by have:=World.block_lt_of_cell? _ _ (WC 0 h9);unfold Addr.add at this;split at this<;>exact this⟩
  clear wX KX;go_wp2_with fail;refine(fm c a fs m clock w3 S p L GX.out).mono ?_;rintro e w4 ⟨r,f,p1,L1,S1,rfl,Cu,wH,At,vD⟩;have AU:=wH.size;have BG:=uK Cu;have wi:=uK vD;have FB:=uK wH;have yp:=uK At;clear Cu wH At;rcases vD.duo with rfl|⟨rfl,rfl,rfl,rfl⟩
  rotate_left
  ·clear vD;go_wp2_with fail;go_ret2;exact⟨4,0,_,_,clock,S1,rfl,BG.out,dW.mod2 yT.out FB.out yp.out (Mod.refl _ _) (Mod.refl _ _) (Mod.refl _ _) WN,fun b hb=>(yp.out b hb).imp id (fun h=>by have:=yT.out.size;omega), .full h0 RL rfl RN.out wi.out⟩
  clear vD;obtain⟨f1,f2,f3⟩:=wi.out.live;have YM: ¬Both S m bh:=fun e=>e.elim My Gu;have YK: ¬Both S m bk:=fun e=>e.elim Uc YJ;have hH4:=(FB.out.block bh YL YM).trans OB.out;have hK4:=(FB.out.block bk YI YK).trans Ln.out;have BD: ¬S1 bh:=fun e=>(yp.out bh e).elim My (by omega);have YR: ¬S1 bk:=fun e=>(yp.out bk e).elim Uc (by omega);have hA4:aw w4 A k d:=Ra.out.mod FB.out (fun ad e h9=>by
   have h8:=Zj ad e h9;exact fun e=>e.elim (fun e=>by have:=H.out.pool.low _ e;omega) (fun e=>by have:=H.out.lts.2.1;omega))
  have HA4:=uK hA4;have OA:=uK hH4;have HK4:=uK hK4;clear hA4 hH4 hK4 f3 hAk;have e0:w4.cell? ⟨c,0,none⟩=some (.pointer (some ⟨a,0,none⟩)):=aa BG.out.self 0;go_upto_region 16 with(first
   |(go_at_call 124;refine(gx a f 0 k cap A d w4 S1 p1 BG.out.pool f1 (Nat.le_of_eq f2.symm) (by omega) (by omega) HA4.out hd).mono ?_;rintro e w5 ⟨rfl,FR,wy⟩;have Im:=uK (BG.out.turn wy FR (Out.refl _ _));have DM:=uK wy;have RI:=(wy.block bh (by omega) BD).trans OA.out;have hK5:=(wy.block bk (by omega) YR).trans HK4.out;have HH5:=uK RI;have HK5:=uK hK5;have g0:=aa RI 0;have g1:=ae RI 0;clear FR wy RI hK5)
   |fail)
  obtain⟨w6,OS⟩: ∃w6,w6=w5.setCell ⟨bh,0,none⟩ (.int .i64 (f:Int)):=⟨_,rfl⟩;rw[<-OS];have zN:Mod (fun b=>b=bh) w5 w6:=(by rw[OS];exact al (S:=fun b=>b=bh) rfl 0 _);have UA:w6.heap[bh]? =some (.cells #[.int .i64 (f:Int), .int .i64 0] 129 (0,0)):=(by rw[OS];simpa using Joins.block_setCell (i:=0) HH5.out (.int .i64 (f:Int)));have Lw:=DM.out.size;have hK6:=(zN.block bk (by omega) Mx).trans HK5.out;have PU:=Im.out.c0;have VX:=uK (Im.out.mod zN (fun b hb e=>BD (e▸hb)) (fun e=>Ui e.symm) (fun e=>PZ e.symm) (fun e=>Gu e.symm));have MV:=uK UA;have HK6:=uK hK6;have LN:=uK zN;clear OS zN UA hK6 g0 g1 e0 My;have My:=BD;obtain⟨p2,hp2⟩: ∃p2,p2=p1.store f (laid (p1.dat f) d 0 k):=⟨_,rfl⟩;rw[<-hp2]at VX;have Ig:=uK hp2;clear hp2;have AQ:=VX.out;have Gm:=AQ.lts;have kc:w6.cell? ⟨c,3,none⟩=some (.int .i64 clock):=aa AQ.self 3;have kf:w6.frozen? ⟨c,3,none⟩=false:=ae AQ.self 3;have vp:w6.cell? ⟨bh,0,none⟩=some (.int .i64 (f:Int)):=aa MV.out 0;have vl:w6.cell? ⟨bh,1,none⟩=some (.int .i64 0):=aa MV.out 1;have Ud:w6.frozen? ⟨bh,1,none⟩=false:=ae MV.out 1;have hwr:IntKind.i64.wrap (clock+1)=clock+1:=(by(rw[IntKind.wrap_i64];omega));obtain⟨w20,DP⟩: ∃w20,w20=w6.setCell ⟨c,3,none⟩ (.int .i64 (clock+1)):=⟨_,rfl⟩;have AZ:Mod (fun b=>b=c) w6 w20:=(by(rw[DP];exact al (S:=fun b=>b=c) rfl 3 _));have DQ:aQ w20 c a fs m (clock+1):=(by(rw[DP];exact AQ.self.tick));have Tr:=(uJ MV.out).1;have Cs:=(AZ.block bh Tr PZ).trans MV.out;have x0:w20.cell? ⟨bh,0,none⟩=some (.int .i64 (f:Int)):=aa Cs 0;have x1:w20.cell? ⟨bh,1,none⟩=some (.int .i64 0):=aa Cs 1;have x2:w20.frozen? ⟨bh,1,none⟩=false:=ae Cs 1;have x3:w20.cell? ⟨c,3,none⟩=some (.int .i64 (clock+1)):=aa DQ 3;obtain⟨w21,DO⟩: ∃w21,w21=w20.setCell ⟨bh,1,none⟩ (.int .i64 (clock+1)):=⟨_,rfl⟩;have AY:Mod (fun b=>b=bh) w20 w21:=(by(rw[DO];exact al (S:=fun b=>b=bh) rfl 1 _));have Ef:w21.heap[bh]? =some (.cells #[.int .i64 (f:Int), .int .i64 (clock+1)] 129 (0,0)):=(by(rw[DO];simpa using Joins.block_setCell (i:=1) Cs (.int .i64 (clock+1))));have Kp:=(uJ DQ).1;have Gb:aQ w21 c a fs m (clock+1):=(AY.block c Kp (fun e=>PZ e.symm)).trans DQ;have zW:=(uJ HK6.out).1;have Xb:=AZ.size;have Xa:=AY.size;have GA:=(AY.block bk (by omega) Mx).trans ((AZ.block bk zW PX).trans HK6.out);have EL:aP w21 m L1:=(AQ.slots.same ((AY.block m (by omega) (fun e=>Gu e.symm)).trans (AZ.block m Gm.2.1 (fun e=>Gm.2.2.1 e.symm))));obtain⟨es,wm,Ty⟩:=aP.same (w':=w21.drew) EL rfl;obtain⟨es',Eh,FN,Gn⟩:=Ty.put (s:=⟨ino,page,f,clock+1⟩) Ks JU;obtain⟨w22,DN⟩: ∃w22,w22=Go.ChangeMaps.setBlock w21.drew m (.map es' Eh):=⟨_,rfl⟩;rw[<-DN]at FN Gn;have Gk:(Instr.mapUpdate 123 (.map (some m)) (.agg #[.int .i64 ino, .int .i64 page]) (.agg #[.int .i64 (f:Int), .int .i64 (clock+1)])).run Tryz.prog w21.drew= .ok () w22:=FN;have y0:w21.cell? ⟨c,2,none⟩=some (.map (some m)):=aa Gb 2;have y1:w21.cell? ⟨bk,0,none⟩=some (.int .i64 ino):=aa GA 0;have y2:w21.cell? ⟨bk,1,none⟩=some (.int .i64 page):=aa GA 1;have y3:w21.cell? ⟨bh,0,none⟩=some (.int .i64 (f:Int)):=aa Ef 0;have y4:w21.cell? ⟨bh,1,none⟩=some (.int .i64 (clock+1)):=aa Ef 1;have DU:Mod (fun b=>b=m) w21 w22:=(by(rw[DN];exact iI _ _ _));have KU:=(DU.block bh (by omega) Gu).trans Ef;have y5:w22.cell? ⟨bh,0,none⟩=some (.int .i64 (f:Int)):=aa KU 0;have Cb:Mod (fun b=>b=m\/b=c\/b=bh) w6 w22:=((AZ.sub fun b hb=> .inr (.inl hb)).trans (Out.refl _ _) ((AY.sub fun b hb=> .inr (.inr hb)).trans (Out.refl _ _) (DU.sub fun b hb=> .inl hb)));have UH:ap w22 S1 c a fs m (clock+1) p2 (dR L1 ⟨ino,page,f,clock+1⟩):=⟨AQ.pool.mod Cb (fun b hb e=>by(rcases e with e|e|e;exact AQ.noM (e▸hb);exact AQ.noC (e▸hb);exact My (e▸hb))) (fun e=>by(have h9:=AQ.c0;rcases e with e|e|e<;>omega)),(DU.block c (by omega) Gm.2.2.1).trans Gb,⟨es',Eh,Gn⟩,AQ.noC,AQ.noM⟩;have HCE:=uK UH;have ZU:=uK Cb;have Qz:=uK DP;have Qy:=uK DO;have Zw:=uK DN;clear AQ DQ Cs Ef Gb GA EL Ty Gn FN AZ AY DU UH Cb DP DO DN KU;go_upto_region 17 with(fail);rw[<-Qz.out];go_upto_region 18 with(fail);rw[<-Qy.out];go_region;go_wp2_with fail
  all_goals
   go_ret2;exact⟨0,f,p2,_,clock+1,S1,rfl,HCE.out,dW.mod2 yT.out FB.out yp.out DM.out LN.out ZU.out WN,fun b hb=>(yp.out b hb).imp id (fun h=>by have:=yT.out.size;omega),by rw[Ig.out];exact .miss f p1 L1 h0 RL rfl RN.out wi.out⟩
end
section
open Go.RowKit Go.Sort
def ca (w:World) (A:Option Addr) (n cap:Nat) (d:Nat->Nat):Prop:=
 aw w A n d/\(∀x,A=some x-> ∃(g:Nat) (cs:Array Value) (f:Nat×Nat),x=⟨g,0,none⟩/\w.heap[g]? =some (.cells cs 5 f))/\n<=cap/\eR A n cap
variable {w:World} {base cap n:Nat} {d:Nat->Nat}
theorem OwnB.byteRow {g:Nat} (h:OwnB w base (some ⟨g,0,none⟩) cap n d):ca w (some ⟨g,0,none⟩) n cap d:=by
 refine⟨h.v,fun x hx=>?_,?_,fun e=>by cases e⟩
 ·injection hx with hx;subst hx;rcases h.2 with⟨h2,_⟩|⟨g',vk,cur,h1,_,h3,_⟩
  ·injection h2 with h2;cases h2
  ·injection h1 with e1;injection e1 with e1;injection e1 with e1;subst e1;exact⟨_,_,_,rfl,h3⟩
 ·rcases h.2 with⟨h2,_⟩|⟨g',vk,cur,h1,_,_,h4,_⟩
  ·injection h2 with h2;cases h2
  ·injection h1 with _ _ e3;omega
variable {A:Option Addr}
theorem ca.below {w':World} (h:ca w A n cap d) (hb:Below w.heap.size w w'):ca w' A n cap d:=by
 obtain⟨h1,h2,h3⟩:=h;refine⟨h1.kept hb,fun x hx=>?_,h3⟩;obtain⟨g,cs,f,e,hg⟩:=h2 x hx;exact⟨g,cs,f,e,(hb.block g (uJ hg).1).trans hg⟩
theorem aw.lt {ad:Addr} (h:aw w (some ad) n d) (h0:0<n):ad.block<w.heap.size:=by
 obtain⟨x,e,hc⟩:=h h0;injection e with e;subst e;have hl:=World.block_lt_of_cell? _ _ (hc 0 h0);have FQ:(ad.add 0).block=ad.block:=by unfold Addr.add;split<;>rfl
 rw[FQ]at hl;exact hl
def uF (w:World) (n:Nat) (d:Nat->Nat) (e:Ending) (w':World):Prop:= ∃A cap,e= .returned (.slice A n cap)/\ca w' A n cap d/\Below w.heap.size w w'
theorem gU (w:World):Calls Tryz.prog 135 #[.slice none 0 0] w fun e w'=>e= .returned (.slice none 0 0)/\w'=w:=by
 have DT:=fun(W:World)=>Lib.run_eql_slice_nil (P:=Tryz.prog) (w:=W) 39 5 none 0 0 0 0 Tryz.underlying39;go_enter Tryz.func135,Tryz.ntmps135;go_wp2_with fail;go_ret;exact⟨rfl,rfl⟩
theorem jZ (c:Nat) (ad:Addr) (w:World):Calls Tryz.prog 135 #[.slice (some ad) 0 c] w fun e w'=>e= .returned (.slice (some ⟨w.heap.size,0,none⟩) 0 0)/\w'=w.alloc (.cells #[] 5):=by
 have DT:=fun(W:World)=>Lib.run_eql_slice_nil (P:=Tryz.prog) (w:=W) 39 5 (some ad) 0 c 0 0 Tryz.underlying39;go_enter Tryz.func135,Tryz.ntmps135;go_wp2_with fail;go_ret;exact⟨rfl,rfl⟩
theorem tP (A:Option Addr) (n c:Nat) (d:Nat->Nat) (w:World) (wM:eR A n c) (Gj:n<=1000000) (hA:aw w A n d):
  Calls Tryz.prog 135 #[.slice A n c] w (uF w n d):=by
 cases A with
 |none=>
  obtain⟨rfl,rfl⟩:=wM rfl;refine(gU w).mono ?_;rintro e w' ⟨rfl,rfl⟩;exact⟨none,0,rfl,⟨(fun h=>by omega),(fun x hx=>by cases hx),uN _,fun _ =>⟨rfl,rfl⟩⟩,vj _ _⟩
 |some ad=>
  by_cases h0:0<n
  ·refine(ka n c ad d w h0 Gj hA (hA.lt h0)).mono ?_;rintro e w' ⟨g,cap,rfl,ho,hb⟩;exact⟨_,_,rfl,ho.byteRow,hb⟩
  ·obtain rfl:n=0:=(by omega);refine(jZ c ad w).mono ?_;rintro e w' ⟨rfl,rfl⟩;exact⟨_,_,rfl,⟨(fun h=>by omega),(fun x hx=>by injection hx with hx;subst hx;exact⟨_,_,_,rfl,ab w _⟩),uN _,fun e=>by cases e⟩,uM⟩
theorem jc (k a:Nat) (W:World):(binOp .neq 189 (bc k a) .nilIface).run Tryz.prog W= .ok (.bool true) W:=by
 unfold bc tyOf;split
 ·kernel_rfl
 ·split<;>kernel_rfl
theorem jd (k a:Nat) (W:World):(binOp .eql 189 (bc k a) .nilIface).run Tryz.prog W= .ok (.bool false) W:=by
 unfold bc tyOf;split
 ·kernel_rfl
 ·split<;>kernel_rfl
theorem gL (x y:Operand) (k a:Nat) (W:World):(eqGuard .neq 189 x y (bc k a) .nilIface).run Tryz.prog W= .ok () W:=rfl
theorem fe (x y:Operand) (k a:Nat) (W:World):(eqGuard .eql 189 x y (bc k a) .nilIface).run Tryz.prog W= .ok () W:=rfl
def ck (B fs:Nat) (F:List Nd) (x:Ent) (w:World) (e:Ending) (w':World):Prop:=
 e= .returned (.int .i64 (addM F x).1)/\(∃nb c2 ad mp,FsIs w' B fs nb c2 ad mp (addM F x).2)/\Below B w w'
variable {l:List ByteArray}
theorem OwnS.strs (h:OwnS w base A cap l):uq w A l:=fun j x hx=>by
 rcases h.form with⟨_,e,_⟩|⟨g,e,_⟩
 ·rw[e]at hx;simp at hx
 ·subst e;exact⟨g,rfl,h.elem hx⟩
theorem uq.front (h:uq w A l):uq w A l.dropLast:=fun j x hx=>by
 refine h j x ?_;have hl:=(List.getElem?_eq_some_iff.1 hx).1;rw[List.length_dropLast]at hl;rw[List.getElem?_dropLast,if_pos hl]at hx;exact hx
theorem vadd_bad (B fs nb c2 c:Nat) (ad mp:Nat->Nat) (F:List Nd) (x:Ent) (A:Option Addr) (w:World) (h:FsIs w B fs nb c2 ad mp F) (hp:x.path.size<=1000000000) (ht:x.to.size<=1000000000) (hn:x.n<=9223372036854775807) (hB:B<=w.heap.size) (hm:may x≠0):
  Calls Tryz.prog 82 #[.pointer (some ⟨fs,0,none⟩),x.val A c] w (ck B fs F x w):=by
 have yt:addM F x=(may x,F):=(by unfold addM;rw[if_pos hm]);unfold ck;rw[yt];obtain⟨r,hr⟩: ∃r,r=may x:=⟨_,rfl⟩;have vB:(r != 0)=true:=(by rw[bne_iff_ne,hr];exact hm);have zl:=fun W=>dZ x A c W hp ht hn;rw[<-hr]at zl⊢;obtain⟨w0,vo⟩: ∃w0,w0=w.alloc (.cells #[.string x.path, .int .u8 (x.kind:Int), .int .u16 (x.mode:Int), .int .u32 (x.uid:Int), .int .u32 (x.gid:Int), .slice A x.n c, .string x.to] 93):=⟨_,rfl⟩;have vp:Below w.heap.size w w0:=(by rw[vo];exact uM);have hE:w0.heap[w.heap.size]? =some (.cells #[.string x.path, .int .u8 (x.kind:Int), .int .u16 (x.mode:Int), .int .u32 (x.uid:Int), .int .u32 (x.gid:Int), .slice A x.n c, .string x.to] 93 (0,0)):=(by rw[vo];exact ab w _);have d0:w0.cell? ⟨w.heap.size,0,none⟩=some (.string x.path):=aa hE 0;have d1:w0.cell? ⟨w.heap.size,1,none⟩=some (.int .u8 (x.kind:Int)):=aa hE 1;have d2:w0.cell? ⟨w.heap.size,2,none⟩=some (.int .u16 (x.mode:Int)):=aa hE 2;have d3:w0.cell? ⟨w.heap.size,3,none⟩=some (.int .u32 (x.uid:Int)):=aa hE 3;have d4:w0.cell? ⟨w.heap.size,4,none⟩=some (.int .u32 (x.gid:Int)):=aa hE 4;have d5:w0.cell? ⟨w.heap.size,5,none⟩=some (.slice A x.n c):=aa hE 5;have d6:w0.cell? ⟨w.heap.size,6,none⟩=some (.string x.to):=aa hE 6;unfold Ent.val at zl⊢;have Lh:=uK zl;have vR:=uK vo;have HH:=uK h;have HM:=uK hm;have HR:=uK hr;clear zl vo h hm hr yt hE;go_enter Tryz.func82,Tryz.ntmps82;go_upto_region 1 with(fail);rw[<-vR.out];go_wp2_with (first
  |(go_at_call 133;refine(Lh.out _).mono ?_;rintro e w1 ⟨A1,vn,l1,rfl,vQ,vl,xn,wk⟩;have vu:=uK vl;clear vQ vl xn wk)
  |fail)
 go_ret;have hb:=vp.trans (vu.out.mono vp.size);exact⟨rfl,⟨nb,c2,ad,mp,HH.out.below hb⟩,hb.mono hB⟩
end
section
open Go.RowKit Go.Sort
variable {F:List Nd} {x:Ent}
theorem kR {j:Nat} (hm:may x=0) (h:atM F 0 (ar x.path)=some j):addM F x=(7,F):=by
 unfold addM;rw[if_neg (by omega),h];rfl
theorem kS (hm:may x=0) (h:atM F 0 (ar x.path)=none) (h2:atM F 0 (ar x.path).dropLast=none):addM F x=(3,F):=by
 unfold addM;rw[if_neg (by omega),h,h2];rfl
variable {up:Nat}
theorem kj (hm:may x=0) (h:atM F 0 (ar x.path)=none) (h2:atM F 0 (ar x.path).dropLast=some up) (hk:am F up≠2):addM F x=(8,F):=by
 unfold addM;rw[if_neg (by omega),h,h2];show(if am F up≠2 then((8:Int),F)else(0,F++[bG x up ((ar x.path).getLastD ⟨#[]⟩)]))=(8,F);rw[if_pos hk]
theorem kl (hm:may x=0) (h:atM F 0 (ar x.path)=none) (h2:atM F 0 (ar x.path).dropLast=some up) (hk:am F up=2):addM F x=(0,F++[bG x up ((ar x.path).getLastD ⟨#[]⟩)]):=by
 unfold addM;rw[if_neg (by omega),h,h2];show(if am F up≠2 then((8:Int),F)else(0,F++[bG x up ((ar x.path).getLastD ⟨#[]⟩)]))=_;rw[if_neg (by omega)]
theorem qp (B fs nb c2 c j:Nat) (ad mp:Nat->Nat) (F:List Nd) (x:Ent) (A:Option Addr) (w:World) (h:FsIs w B fs nb c2 ad mp F) (hp:x.path.size<=1000000000) (ht:x.to.size<=1000000000) (hn:x.n<=9223372036854775807) (hB:B<=w.heap.size) (hm:may x=0) (hF:F.length<=1000)
  (ha:atM F 0 (ar x.path)=some j):
  Calls Tryz.prog 82 #[.pointer (some ⟨fs,0,none⟩),x.val A c] w (ck B fs F x w):=by
 unfold ck;rw[kR hm ha];obtain⟨L,hL⟩: ∃L,L=ar x.path:=⟨_,rfl⟩;obtain⟨_,_,_,xN,_,Cq,_⟩:=eO hm;have Cr:L.length<=201:=(by rw[hL];have h1:=(dg xN).2.1;have:=bn x.path;omega);obtain⟨m,AX⟩: ∃m,m+1=L.length:=⟨L.length-1,by
  have:0<L.length:=List.length_pos_iff.2 (by rw[hL];exact Cq);omega⟩
 have XV:m<=200:=(by omega);have zl: ∀W,Calls Tryz.prog 133 #[x.val A c] W fun e w'=> ∃A1 vn,e= .returned (.tuple #[.slice A1 (m+1) vn, .int .i64 0])/\Hid (OwnS w' W.heap.size A1 vn L)/\Hid (Below W.heap.size W w')/\m+1<=vn:=fun W=>by
  refine(dZ x A c W hp ht hn).mono ?_;rintro e w' ⟨A1,vn,l1,rfl,vQ,vl,xn,wk⟩;have h9:=xn hm;rw[<-hL]at h9;subst h9;refine⟨A1,vn,by rw[hm,AX],uK vQ,uK vl,?_⟩;rcases vQ.form with⟨_,e,_⟩|⟨g,_,_,_,e⟩
  ·rw[e]at AX;cases AX
  ·omega
 obtain⟨w0,vo⟩: ∃w0,w0=w.alloc (.cells #[.string x.path, .int .u8 (x.kind:Int), .int .u16 (x.mode:Int), .int .u32 (x.uid:Int), .int .u32 (x.gid:Int), .slice A x.n c, .string x.to] 93):=⟨_,rfl⟩;have vp:Below w.heap.size w w0:=(by rw[vo];exact uM);have hE:w0.heap[w.heap.size]? =some (.cells #[.string x.path, .int .u8 (x.kind:Int), .int .u16 (x.mode:Int), .int .u32 (x.uid:Int), .int .u32 (x.gid:Int), .slice A x.n c, .string x.to] 93 (0,0)):=(by rw[vo];exact ab w _);have d0:w0.cell? ⟨w.heap.size,0,none⟩=some (.string x.path):=aa hE 0;have d1:w0.cell? ⟨w.heap.size,1,none⟩=some (.int .u8 (x.kind:Int)):=aa hE 1;have d2:w0.cell? ⟨w.heap.size,2,none⟩=some (.int .u16 (x.mode:Int)):=aa hE 2;have d3:w0.cell? ⟨w.heap.size,3,none⟩=some (.int .u32 (x.uid:Int)):=aa hE 3;have d4:w0.cell? ⟨w.heap.size,4,none⟩=some (.int .u32 (x.gid:Int)):=aa hE 4;have d5:w0.cell? ⟨w.heap.size,5,none⟩=some (.slice A x.n c):=aa hE 5;have d6:w0.cell? ⟨w.heap.size,6,none⟩=some (.string x.to):=aa hE 6;have xf: ∀W A1 vn base,Below w.heap.size w W->Hid (OwnS W base A1 vn L)->m+1<=vn->Calls Tryz.prog 134 #[.pointer (some ⟨fs,0,none⟩), .slice A1 (m+1) vn] W fun e w'=>e= .returned (atV F ad (atM F 0 L))/\w'=W:=fun W A1 vn base hb ho hc=>
  fa B fs nb c2 (m+1) vn ad mp F A1 L W (h.below hb) ho.out.strs AX hc (by omega) (by omega)
 have xE: ∀W A1 vn base,Below w.heap.size w W->Hid (OwnS W base A1 vn L)->m+1<=vn->Calls Tryz.prog 134 #[.pointer (some ⟨fs,0,none⟩), .slice A1 m vn] W fun e w'=>e= .returned (atV F ad (atM F 0 L.dropLast))/\w'=W:=fun W A1 vn base hb ho hc=>
  fa B fs nb c2 m vn ad mp F A1 L.dropLast W (h.below hb) ho.out.strs.front (by rw[List.length_dropLast];omega) (by omega) (by omega) (by omega)
 have Mf:=fun k a W=>jc k a W;have Mo:=fun k a W=>jd k a W;have Hp:=fun x y k a W=>gL x y k a W;have Hq:=fun x y k a W=>fe x y k a W;have HE:=uK hE;have Vy:=uK AX;have HL:=uK hL
 (rw[<-hL]at ha;rw[ha]at xf;have xf: ∀W A1 vn base,Below w.heap.size w W->Hid (OwnS W base A1 vn L)->m+1<=vn->Calls Tryz.prog 134 #[.pointer (some ⟨fs,0,none⟩), .slice A1 (m+1) vn] W fun e w'=>e= .returned (bc (am F j) (ad j))/\w'=W:=xf;clear ha)
 have Ag:=zl;unfold Ent.val at Ag⊢;have Lh:=uK Ag;have Dp:=uK xf;have CH:=uK xE;have vR:=uK vo;have HH:=uK h;have HM:=uK hm;clear zl Ag xf xE vo h hm hE AX hL xN Cq Cr;go_enter Tryz.func82,Tryz.ntmps82;go_upto_region 1 with(fail);rw[<-vR.out];go_wp2_with (first
  |(go_at_call 133;refine(Lh.out _).mono ?_;rintro e w1 ⟨A1,vn,rfl,vF,vu,xY⟩)
  |(go_at_call 134;refine(Dp.out _ _ _ _ (vp.trans (vu.out.mono vp.size)) vF xY).mono ?_;rintro e w2 ⟨rfl,rfl⟩)
  |fail)
 go_ret;have hb:=vp.trans (vu.out.mono vp.size);exact⟨rfl,⟨nb,c2,ad,mp,HH.out.below hb⟩,hb.mono hB⟩
theorem qq (B fs nb c2 c:Nat) (ad mp:Nat->Nat) (F:List Nd) (x:Ent) (A:Option Addr) (w:World) (h:FsIs w B fs nb c2 ad mp F) (hp:x.path.size<=1000000000) (ht:x.to.size<=1000000000) (hn:x.n<=9223372036854775807) (hB:B<=w.heap.size) (hm:may x=0) (hF:F.length<=1000)
  (ha:atM F 0 (ar x.path)=none) (Cl:atM F 0 (ar x.path).dropLast=none):
  Calls Tryz.prog 82 #[.pointer (some ⟨fs,0,none⟩),x.val A c] w (ck B fs F x w):=by
 unfold ck;rw[kS hm ha Cl];obtain⟨L,hL⟩: ∃L,L=ar x.path:=⟨_,rfl⟩;obtain⟨_,_,_,xN,_,Cq,_⟩:=eO hm;have Cr:L.length<=201:=(by rw[hL];have h1:=(dg xN).2.1;have:=bn x.path;omega);obtain⟨m,AX⟩: ∃m,m+1=L.length:=⟨L.length-1,by
  have:0<L.length:=List.length_pos_iff.2 (by rw[hL];exact Cq);omega⟩
 have XV:m<=200:=(by omega);have zl: ∀W,Calls Tryz.prog 133 #[x.val A c] W fun e w'=> ∃A1 vn,e= .returned (.tuple #[.slice A1 (m+1) vn, .int .i64 0])/\Hid (OwnS w' W.heap.size A1 vn L)/\Hid (Below W.heap.size W w')/\m+1<=vn:=fun W=>by
  refine(dZ x A c W hp ht hn).mono ?_;rintro e w' ⟨A1,vn,l1,rfl,vQ,vl,xn,wk⟩;have h9:=xn hm;rw[<-hL]at h9;subst h9;refine⟨A1,vn,by rw[hm,AX],uK vQ,uK vl,?_⟩;rcases vQ.form with⟨_,e,_⟩|⟨g,_,_,_,e⟩
  ·rw[e]at AX;cases AX
  ·omega
 obtain⟨w0,vo⟩: ∃w0,w0=w.alloc (.cells #[.string x.path, .int .u8 (x.kind:Int), .int .u16 (x.mode:Int), .int .u32 (x.uid:Int), .int .u32 (x.gid:Int), .slice A x.n c, .string x.to] 93):=⟨_,rfl⟩;have vp:Below w.heap.size w w0:=(by rw[vo];exact uM);have hE:w0.heap[w.heap.size]? =some (.cells #[.string x.path, .int .u8 (x.kind:Int), .int .u16 (x.mode:Int), .int .u32 (x.uid:Int), .int .u32 (x.gid:Int), .slice A x.n c, .string x.to] 93 (0,0)):=(by rw[vo];exact ab w _);have d0:w0.cell? ⟨w.heap.size,0,none⟩=some (.string x.path):=aa hE 0;have d1:w0.cell? ⟨w.heap.size,1,none⟩=some (.int .u8 (x.kind:Int)):=aa hE 1;have d2:w0.cell? ⟨w.heap.size,2,none⟩=some (.int .u16 (x.mode:Int)):=aa hE 2;have d3:w0.cell? ⟨w.heap.size,3,none⟩=some (.int .u32 (x.uid:Int)):=aa hE 3;have d4:w0.cell? ⟨w.heap.size,4,none⟩=some (.int .u32 (x.gid:Int)):=aa hE 4;have d5:w0.cell? ⟨w.heap.size,5,none⟩=some (.slice A x.n c):=aa hE 5;have d6:w0.cell? ⟨w.heap.size,6,none⟩=some (.string x.to):=aa hE 6;have xf: ∀W A1 vn base,Below w.heap.size w W->Hid (OwnS W base A1 vn L)->m+1<=vn->Calls Tryz.prog 134 #[.pointer (some ⟨fs,0,none⟩), .slice A1 (m+1) vn] W fun e w'=>e= .returned (atV F ad (atM F 0 L))/\w'=W:=fun W A1 vn base hb ho hc=>
  fa B fs nb c2 (m+1) vn ad mp F A1 L W (h.below hb) ho.out.strs AX hc (by omega) (by omega)
 have xE: ∀W A1 vn base,Below w.heap.size w W->Hid (OwnS W base A1 vn L)->m+1<=vn->Calls Tryz.prog 134 #[.pointer (some ⟨fs,0,none⟩), .slice A1 m vn] W fun e w'=>e= .returned (atV F ad (atM F 0 L.dropLast))/\w'=W:=fun W A1 vn base hb ho hc=>
  fa B fs nb c2 m vn ad mp F A1 L.dropLast W (h.below hb) ho.out.strs.front (by rw[List.length_dropLast];omega) (by omega) (by omega) (by omega)
 have Mf:=fun k a W=>jc k a W;have Mo:=fun k a W=>jd k a W;have Hp:=fun x y k a W=>gL x y k a W;have Hq:=fun x y k a W=>fe x y k a W;have HE:=uK hE;have Vy:=uK AX;have HL:=uK hL
 (rw[<-hL]at ha Cl;rw[ha]at xf;rw[Cl]at xE;have xf: ∀W A1 vn base,Below w.heap.size w W->Hid (OwnS W base A1 vn L)->m+1<=vn->Calls Tryz.prog 134 #[.pointer (some ⟨fs,0,none⟩), .slice A1 (m+1) vn] W fun e w'=>e= .returned .nilIface/\w'=W:=xf;have xE: ∀W A1 vn base,Below w.heap.size w W->Hid (OwnS W base A1 vn L)->m+1<=vn->Calls Tryz.prog 134 #[.pointer (some ⟨fs,0,none⟩), .slice A1 m vn] W fun e w'=>e= .returned .nilIface/\w'=W:=xE;clear ha Cl)
 have Ag:=zl;unfold Ent.val at Ag⊢;have Lh:=uK Ag;have Dp:=uK xf;have CH:=uK xE;have vR:=uK vo;have HH:=uK h;have HM:=uK hm;clear zl Ag xf xE vo h hm hE AX hL xN Cq Cr;go_enter Tryz.func82,Tryz.ntmps82;go_upto_region 1 with(fail);rw[<-vR.out];go_upto_region 7 with(first
  |(go_at_call 133;refine(Lh.out _).mono ?_;rintro e w1 ⟨A1,vn,rfl,vF,vu,xY⟩)
  |(go_at_call 134;refine(Dp.out _ _ _ _ (vp.trans (vu.out.mono vp.size)) vF xY).mono ?_;rintro e w2 ⟨rfl,rfl⟩)
  |fail)
 go_wp2_with (first
  |(go_at_call 134;refine(CH.out _ _ _ _ (vp.trans (vu.out.mono vp.size)) vF xY).mono ?_;rintro e w3 ⟨rfl,rfl⟩)
  |fail)
 go_ret;have hb:=vp.trans (vu.out.mono vp.size);exact⟨rfl,⟨nb,c2,ad,mp,HH.out.below hb⟩,hb.mono hB⟩
theorem od (B fs nb c2 c up:Nat) (ad mp:Nat->Nat) (F:List Nd) (x:Ent) (A:Option Addr) (w:World) (h:FsIs w B fs nb c2 ad mp F) (hp:x.path.size<=1000000000) (ht:x.to.size<=1000000000) (hn:x.n<=9223372036854775807) (hB:B<=w.heap.size) (hm:may x=0) (hF:F.length<=1000)
  (ha:atM F 0 (ar x.path)=none) (Cl:atM F 0 (ar x.path).dropLast=some up) (hk:am F up≠2):
  Calls Tryz.prog 82 #[.pointer (some ⟨fs,0,none⟩),x.val A c] w (ck B fs F x w):=by
 unfold ck;rw[kj hm ha Cl hk];have Mz:=fun W=>gk (am F up) (ad up) W;rw[if_neg hk,va hk]at Mz;clear hk;obtain⟨L,hL⟩: ∃L,L=ar x.path:=⟨_,rfl⟩;obtain⟨_,_,_,xN,_,Cq,_⟩:=eO hm;have Cr:L.length<=201:=(by rw[hL];have h1:=(dg xN).2.1;have:=bn x.path;omega);obtain⟨m,AX⟩: ∃m,m+1=L.length:=⟨L.length-1,by
  have:0<L.length:=List.length_pos_iff.2 (by rw[hL];exact Cq);omega⟩
 have XV:m<=200:=(by omega);have zl: ∀W,Calls Tryz.prog 133 #[x.val A c] W fun e w'=> ∃A1 vn,e= .returned (.tuple #[.slice A1 (m+1) vn, .int .i64 0])/\Hid (OwnS w' W.heap.size A1 vn L)/\Hid (Below W.heap.size W w')/\m+1<=vn:=fun W=>by
  refine(dZ x A c W hp ht hn).mono ?_;rintro e w' ⟨A1,vn,l1,rfl,vQ,vl,xn,wk⟩;have h9:=xn hm;rw[<-hL]at h9;subst h9;refine⟨A1,vn,by rw[hm,AX],uK vQ,uK vl,?_⟩;rcases vQ.form with⟨_,e,_⟩|⟨g,_,_,_,e⟩
  ·rw[e]at AX;cases AX
  ·omega
 obtain⟨w0,vo⟩: ∃w0,w0=w.alloc (.cells #[.string x.path, .int .u8 (x.kind:Int), .int .u16 (x.mode:Int), .int .u32 (x.uid:Int), .int .u32 (x.gid:Int), .slice A x.n c, .string x.to] 93):=⟨_,rfl⟩;have vp:Below w.heap.size w w0:=(by rw[vo];exact uM);have hE:w0.heap[w.heap.size]? =some (.cells #[.string x.path, .int .u8 (x.kind:Int), .int .u16 (x.mode:Int), .int .u32 (x.uid:Int), .int .u32 (x.gid:Int), .slice A x.n c, .string x.to] 93 (0,0)):=(by rw[vo];exact ab w _);have d0:w0.cell? ⟨w.heap.size,0,none⟩=some (.string x.path):=aa hE 0;have d1:w0.cell? ⟨w.heap.size,1,none⟩=some (.int .u8 (x.kind:Int)):=aa hE 1;have d2:w0.cell? ⟨w.heap.size,2,none⟩=some (.int .u16 (x.mode:Int)):=aa hE 2;have d3:w0.cell? ⟨w.heap.size,3,none⟩=some (.int .u32 (x.uid:Int)):=aa hE 3;have d4:w0.cell? ⟨w.heap.size,4,none⟩=some (.int .u32 (x.gid:Int)):=aa hE 4;have d5:w0.cell? ⟨w.heap.size,5,none⟩=some (.slice A x.n c):=aa hE 5;have d6:w0.cell? ⟨w.heap.size,6,none⟩=some (.string x.to):=aa hE 6;have xf: ∀W A1 vn base,Below w.heap.size w W->Hid (OwnS W base A1 vn L)->m+1<=vn->Calls Tryz.prog 134 #[.pointer (some ⟨fs,0,none⟩), .slice A1 (m+1) vn] W fun e w'=>e= .returned (atV F ad (atM F 0 L))/\w'=W:=fun W A1 vn base hb ho hc=>
  fa B fs nb c2 (m+1) vn ad mp F A1 L W (h.below hb) ho.out.strs AX hc (by omega) (by omega)
 have xE: ∀W A1 vn base,Below w.heap.size w W->Hid (OwnS W base A1 vn L)->m+1<=vn->Calls Tryz.prog 134 #[.pointer (some ⟨fs,0,none⟩), .slice A1 m vn] W fun e w'=>e= .returned (atV F ad (atM F 0 L.dropLast))/\w'=W:=fun W A1 vn base hb ho hc=>
  fa B fs nb c2 m vn ad mp F A1 L.dropLast W (h.below hb) ho.out.strs.front (by rw[List.length_dropLast];omega) (by omega) (by omega) (by omega)
 have Mf:=fun k a W=>jc k a W;have Mo:=fun k a W=>jd k a W;have Hp:=fun x y k a W=>gL x y k a W;have Hq:=fun x y k a W=>fe x y k a W;have HE:=uK hE;have Vy:=uK AX;have HL:=uK hL
 (rw[<-hL]at ha Cl;rw[ha]at xf;rw[Cl]at xE;have xf: ∀W A1 vn base,Below w.heap.size w W->Hid (OwnS W base A1 vn L)->m+1<=vn->Calls Tryz.prog 134 #[.pointer (some ⟨fs,0,none⟩), .slice A1 (m+1) vn] W fun e w'=>e= .returned .nilIface/\w'=W:=xf;have xE: ∀W A1 vn base,Below w.heap.size w W->Hid (OwnS W base A1 vn L)->m+1<=vn->Calls Tryz.prog 134 #[.pointer (some ⟨fs,0,none⟩), .slice A1 m vn] W fun e w'=>e= .returned (bc (am F up) (ad up))/\w'=W:=xE;clear ha Cl)
 have Ag:=zl;unfold Ent.val at Ag⊢;have Lh:=uK Ag;have Dp:=uK xf;have CH:=uK xE;have vR:=uK vo;have HH:=uK h;have HM:=uK hm;clear zl Ag xf xE vo h hm hE AX hL xN Cq Cr;go_enter Tryz.func82,Tryz.ntmps82;go_upto_region 1 with(fail);rw[<-vR.out];go_upto_region 7 with(first
  |(go_at_call 133;refine(Lh.out _).mono ?_;rintro e w1 ⟨A1,vn,rfl,vF,vu,xY⟩)
  |(go_at_call 134;refine(Dp.out _ _ _ _ (vp.trans (vu.out.mono vp.size)) vF xY).mono ?_;rintro e w2 ⟨rfl,rfl⟩)
  |fail)
 go_wp2_with (first
  |(go_at_call 134;refine(CH.out _ _ _ _ (vp.trans (vu.out.mono vp.size)) vF xY).mono ?_;rintro e w3 ⟨rfl,rfl⟩)
  |fail)
 go_ret;have hb:=vp.trans (vu.out.mono vp.size);exact⟨rfl,⟨nb,c2,ad,mp,HH.out.below hb⟩,hb.mono hB⟩
end
section
open Go.RowKit Go.Sort
variable {L:List ByteArray}
theorem ni {m:Nat} (h:m+1=L.length): ∃s,L[m]? =some s/\L.getLastD ⟨#[]⟩=s/\L=L.dropLast++[s]:=by
 have vB:L≠[]:=fun e=>by rw[e]at h;cases h
 have h1:L=L.dropLast++[L.getLast vB]:=(List.dropLast_concat_getLast vB).symm;refine⟨L.getLast vB,?_,?_,h1⟩
 ·rw[List.getLast_eq_getElem];have:L.length-1=m:=(by omega);simp only[this];exact uQ (by omega)
 ·cases L with
  |nil=>exact absurd rfl vB
  |cons a l=>rfl
theorem tw {F:List Nd} {s:ByteArray} {up:Nat} (hL:L=L.dropLast++[s]) (h1:atM F 0 L=none) (h2:atM F 0 L.dropLast=some up) (hk:am F up=2): ∀y∈aK F up,y.1≠s:=by
 rw[hL,atM_snoc,h2]at h1;simp only at h1;refine qW ?_;cases hc:cW (aK F up) s with
 |none=>rfl
 |some j=>rw[atM_go hk hc]at h1;cases h1
theorem rU (B fs nb c2 c up:Nat) (ad mp:Nat->Nat) (F:List Nd) (x:Ent) (A:Option Addr) (w:World) (h:FsIs w B fs nb c2 ad mp F) (hp:x.path.size<=1000000000) (ht:x.to.size<=1000000000) (hn:x.n<=9223372036854775807) (hB:B<=w.heap.size) (hm:may x=0) (hF:F.length<=1000)
  (hA:aw w A x.n x.dat) (KW:eR A x.n c)
  (ha:atM F 0 (ar x.path)=none) (Cl:atM F 0 (ar x.path).dropLast=some up) (hk:am F up=2):
  Calls Tryz.prog 82 #[.pointer (some ⟨fs,0,none⟩),x.val A c] w (ck B fs F x w):=by
 have wM:=mi (F:=F) (e:=x) h.ok (by rw[kl hm ha Cl hk]);unfold ck;rw[kl hm ha Cl hk]at wM⊢;have Bg:=tZ _ h.ok.pos Cl;have Mz:=fun W=>gk (am F up) (ad up) W;rw[if_pos hk,vb hk]at Mz;obtain⟨N,hN⟩: ∃N,N=F.length:=⟨_,rfl⟩;have hNf:N<=1000:=(by omega);obtain⟨V,hV⟩: ∃V,V=bc (am F up) (ad up):=⟨_,rfl⟩;have vy:=eO hm;obtain⟨L,hL⟩: ∃L,L=ar x.path:=⟨_,rfl⟩;obtain⟨_,_,_,xN,_,Cq,_⟩:=eO hm;have Cr:L.length<=201:=(by rw[hL];have h1:=(dg xN).2.1;have:=bn x.path;omega);obtain⟨m,AX⟩: ∃m,m+1=L.length:=⟨L.length-1,by
  have:0<L.length:=List.length_pos_iff.2 (by rw[hL];exact Cq);omega⟩
 have XV:m<=200:=(by omega);have zl: ∀W,Calls Tryz.prog 133 #[x.val A c] W fun e w'=> ∃A1 vn,e= .returned (.tuple #[.slice A1 (m+1) vn, .int .i64 0])/\Hid (OwnS w' W.heap.size A1 vn L)/\Hid (Below W.heap.size W w')/\m+1<=vn:=fun W=>by
  refine(dZ x A c W hp ht hn).mono ?_;rintro e w' ⟨A1,vn,l1,rfl,vQ,vl,xn,wk⟩;have h9:=xn hm;rw[<-hL]at h9;subst h9;refine⟨A1,vn,by rw[hm,AX],uK vQ,uK vl,?_⟩;rcases vQ.form with⟨_,e,_⟩|⟨g,_,_,_,e⟩
  ·rw[e]at AX;cases AX
  ·omega
 obtain⟨w0,vo⟩: ∃w0,w0=w.alloc (.cells #[.string x.path, .int .u8 (x.kind:Int), .int .u16 (x.mode:Int), .int .u32 (x.uid:Int), .int .u32 (x.gid:Int), .slice A x.n c, .string x.to] 93):=⟨_,rfl⟩;have vp:Below w.heap.size w w0:=(by rw[vo];exact uM);have hE:w0.heap[w.heap.size]? =some (.cells #[.string x.path, .int .u8 (x.kind:Int), .int .u16 (x.mode:Int), .int .u32 (x.uid:Int), .int .u32 (x.gid:Int), .slice A x.n c, .string x.to] 93 (0,0)):=(by rw[vo];exact ab w _);have d0:w0.cell? ⟨w.heap.size,0,none⟩=some (.string x.path):=aa hE 0;have d1:w0.cell? ⟨w.heap.size,1,none⟩=some (.int .u8 (x.kind:Int)):=aa hE 1;have d2:w0.cell? ⟨w.heap.size,2,none⟩=some (.int .u16 (x.mode:Int)):=aa hE 2;have d3:w0.cell? ⟨w.heap.size,3,none⟩=some (.int .u32 (x.uid:Int)):=aa hE 3;have d4:w0.cell? ⟨w.heap.size,4,none⟩=some (.int .u32 (x.gid:Int)):=aa hE 4;have d5:w0.cell? ⟨w.heap.size,5,none⟩=some (.slice A x.n c):=aa hE 5;have d6:w0.cell? ⟨w.heap.size,6,none⟩=some (.string x.to):=aa hE 6;have xf: ∀W A1 vn base,Below w.heap.size w W->Hid (OwnS W base A1 vn L)->m+1<=vn->Calls Tryz.prog 134 #[.pointer (some ⟨fs,0,none⟩), .slice A1 (m+1) vn] W fun e w'=>e= .returned (atV F ad (atM F 0 L))/\w'=W:=fun W A1 vn base hb ho hc=>
  fa B fs nb c2 (m+1) vn ad mp F A1 L W (h.below hb) ho.out.strs AX hc (by omega) (by omega)
 have xE: ∀W A1 vn base,Below w.heap.size w W->Hid (OwnS W base A1 vn L)->m+1<=vn->Calls Tryz.prog 134 #[.pointer (some ⟨fs,0,none⟩), .slice A1 m vn] W fun e w'=>e= .returned (atV F ad (atM F 0 L.dropLast))/\w'=W:=fun W A1 vn base hb ho hc=>
  fa B fs nb c2 m vn ad mp F A1 L.dropLast W (h.below hb) ho.out.strs.front (by rw[List.length_dropLast];omega) (by omega) (by omega) (by omega)
 have Mf:=fun k a W=>jc k a W;have Mo:=fun k a W=>jd k a W;have Hp:=fun x y k a W=>gL x y k a W;have Hq:=fun x y k a W=>fe x y k a W;have HE:=uK hE;have Vy:=uK AX;have HL:=uK hL
 (rw[<-hL]at ha Cl;have KK:=xf;rw[ha]at KK;have KJ:=xE;rw[Cl]at KJ;clear xf xE;have xf: ∀W A1 vn base,Below w.heap.size w W->Hid (OwnS W base A1 vn L)->m+1<=vn->Calls Tryz.prog 134 #[.pointer (some ⟨fs,0,none⟩), .slice A1 (m+1) vn] W fun e w'=>e= .returned .nilIface/\w'=W:=KK;have xE: ∀W A1 vn base,Below w.heap.size w W->Hid (OwnS W base A1 vn L)->m+1<=vn->Calls Tryz.prog 134 #[.pointer (some ⟨fs,0,none⟩), .slice A1 m vn] W fun e w'=>e= .returned (bc (am F up) (ad up))/\w'=W:=KJ;have HAA:=uK ha;have HAA2:=uK Cl;have FV:=uK hk;have El:=uK hN;have MO:=uK wM;have Lk:=uK vy;have WV:=uK hA;have HSO:=uK KW;have Yo:=fe;clear ha Cl KK KJ hk hN wM hV vy hA KW)
 have Ag:=zl;unfold Ent.val at Ag⊢;have Lh:=uK Ag;have Dp:=uK xf;have CH:=uK xE;have vR:=uK vo;have HH:=uK h;have HM:=uK hm;clear zl Ag xf xE vo h hm hE AX hL xN Cq Cr;go_enter Tryz.func82,Tryz.ntmps82;go_upto_region 1 with(fail);rw[<-vR.out];go_upto_region 7 with(first
  |(go_at_call 133;refine(Lh.out _).mono ?_;rintro e w1 ⟨A1,vn,rfl,vF,vu,xY⟩)
  |(go_at_call 134;refine(Dp.out _ _ _ _ (vp.trans (vu.out.mono vp.size)) vF xY).mono ?_;rintro e w2 ⟨rfl,rfl⟩)
  |fail)
 go_upto_region 13 with(first
  |(go_at_call 134;refine(CH.out _ _ _ _ (vp.trans (vu.out.mono vp.size)) vF xY).mono ?_;rintro e w3 ⟨rfl,rfl⟩)
  |fail)
 clear d0 d1 d2 d3 d4 d5 d6;have xd:w.heap.size<w0.heap.size:=(uJ HE.out).1;have zm:Below w.heap.size w w3:=vp.trans (vu.out.mono vp.size);have vr:=(vu.out.block _ xd).trans HE.out;obtain⟨s,hs,hsL,hsD⟩:=ni Vy.out;obtain⟨g,TG,yA,yc⟩: ∃g,A1=some ⟨g,0,none⟩/\w0.heap.size<=g/\g<w3.heap.size:=by
  rcases vF.out.form with⟨_,e,_⟩|⟨g,e1,e2,e3,_⟩
  ·exfalso;have:=Vy.out;rw[e]at this;cases this
  ·exact⟨g,e1,e2,e3⟩
 subst TG;have WM:=HH.out.below zm;have cg:w3.cell? ⟨g,m,none⟩=some (.string s):=OwnS.elem vF.out hs;have e1:w3.cell? ⟨w.heap.size,1,none⟩=some (.int .u8 (x.kind:Int)):=aa vr 1;have e2:w3.cell? ⟨w.heap.size,2,none⟩=some (.int .u16 (x.mode:Int)):=aa vr 2;have e3:w3.cell? ⟨w.heap.size,3,none⟩=some (.int .u32 (x.uid:Int)):=aa vr 3;have e4:w3.cell? ⟨w.heap.size,4,none⟩=some (.int .u32 (x.gid:Int)):=aa vr 4;have e5:w3.cell? ⟨w.heap.size,5,none⟩=some (.slice A x.n c):=aa vr 5;have e8:w3.cell? ⟨fs,0,none⟩=some (.slice (some ⟨nb,0,none⟩) N c2):=(by rw[El.out];exact aa WM.self 0);have l1:fs<w3.heap.size:=(uJ WM.self).1;have l2:w.heap.size<w3.heap.size:=(uJ vr).1;have xJ:=uK vr;have xS:=uK WM;have Om:=uK hsL;have FE:=uK (tw hsD HAA.out HAA2.out FV.out);have Jr:=uK zm;clear vr WM hs hsL hsD zm;have XU:(m:Int)<(m:Int)+1:=(by omega);go_region_held3 (fun w'=>w'.cell? ⟨w.heap.size,1,none⟩=some (.int .u8 (x.kind:Int))/\w'.cell? ⟨w.heap.size,2,none⟩=some (.int .u16 (x.mode:Int))/\w'.cell? ⟨w.heap.size,3,none⟩=some (.int .u32 (x.uid:Int))/\w'.cell? ⟨w.heap.size,4,none⟩=some (.int .u32 (x.gid:Int))/\w'.cell? ⟨w.heap.size,5,none⟩=some (.slice A x.n c)/\w'.cell? ⟨fs,0,none⟩=some (.slice (some ⟨nb,0,none⟩) N c2)/\w'.cell? ⟨g,m,none⟩=some (.string s))
  (go_keep)
  (fail)
 go_upto_region 14 with(fail);obtain⟨w4,zc⟩: ∃w4,w4=(w3.alloc (.cells #[.int .u8 (x.kind:Int), .int .u16 (x.mode:Int), .int .u32 (x.uid:Int), .int .u32 (x.gid:Int), .int .i64 (x.n:Int), .int .i64 (N:Int), .pointer (some ⟨ad up,0,none⟩), .string s] 165)).drew:=⟨_,rfl⟩;rw[<-zc];have Dg:w4.heap[w3.heap.size]? =some (.cells #[.int .u8 (x.kind:Int), .int .u16 (x.mode:Int), .int .u32 (x.uid:Int), .int .u32 (x.gid:Int), .int .i64 (x.n:Int), .int .i64 (N:Int), .pointer (some ⟨ad up,0,none⟩), .string s] 165 (0,0)):=(by rw[zc];exact ab w3 _);have IL:Below w3.heap.size w3 w4:=(by rw[zc];exact uM.drew);have AU:=IL.size;have l3:w3.heap.size<w4.heap.size:=(uJ Dg).1;clear e1 e2 e3 e4 e5 e8;have e1:w4.cell? ⟨w.heap.size,1,none⟩=some (.int .u8 (x.kind:Int)):=(IL.cell l2).trans (aa xJ.out 1);have e5:w4.cell? ⟨w.heap.size,5,none⟩=some (.slice A x.n c):=(IL.cell l2).trans (aa xJ.out 5);have e6:w4.cell? ⟨w.heap.size,6,none⟩=some (.string x.to):=(IL.cell l2).trans (aa xJ.out 6);have x0:w4.cell? ⟨w3.heap.size,0,none⟩=some (.int .u8 (x.kind:Int)):=aa Dg 0;have x1:w4.cell? ⟨w3.heap.size,1,none⟩=some (.int .u16 (x.mode:Int)):=aa Dg 1;have x2:w4.cell? ⟨w3.heap.size,2,none⟩=some (.int .u32 (x.uid:Int)):=aa Dg 2;have x3:w4.cell? ⟨w3.heap.size,3,none⟩=some (.int .u32 (x.gid:Int)):=aa Dg 3;have x4:w4.cell? ⟨w3.heap.size,4,none⟩=some (.int .i64 (x.n:Int)):=aa Dg 4;have x5:w4.cell? ⟨w3.heap.size,5,none⟩=some (.int .i64 (N:Int)):=aa Dg 5;have x6:w4.cell? ⟨w3.heap.size,6,none⟩=some (.pointer (some ⟨ad up,0,none⟩)):=aa Dg 6;have x7:w4.cell? ⟨w3.heap.size,7,none⟩=some (.string s):=aa Dg 7;have wQ:=uK Dg;have MZ:=uK IL;clear Dg IL zc Mf Mo Hp Hq Yo Mz;have Tv:x.kind=1\/x.kind=2\/x.kind=3:=(by have:=Lk.out;omega);have HXK:=uK Tv;clear Tv;rcases HXK.out with Nh|Nh|Nh
 ·have xP:((x.kind:Nat):Int)=1:=(by omega);have t1:(((x.kind:Nat):Int)==2)=false:=(by rw[xP];decide);have t2:(((x.kind:Nat):Int)==1)=true:=(by rw[xP];decide);have zT:=uK Nh;have hxn:x.n<=1000000:=(by have:=Lk.out;omega);have UO: ∀W,Below w4.heap.size w4 W->aw W A x.n x.dat:=fun W hW=>WV.out.kept (Jr.out.trans ((MZ.out.trans (hW.mono AU)).mono (by have:=Jr.out.size;omega)));have HBV4:=uK UO;have OO:w.heap.size<=w4.heap.size:=(by omega);clear Nh xP UO;go_upto_region 20 with(fail);go_region_with
   ((
    first
    |(go_at_call 135;refine(tP A x.n c x.dat _ HSO.out hxn (HBV4.out _ ((vj _ _).drew))).mono ?_;rintro e w6 ⟨A6,cd,rfl,BZ,BC⟩;have BB:Below w4.heap.size w4 w6:=((vj w4.heap.size w4).drew).trans BC;have y0:=(BB.cell (p:=⟨w3.heap.size,0,none⟩) l3).trans x0;have y1:=(BB.cell (p:=⟨w3.heap.size,1,none⟩) l3).trans x1;have y2:=(BB.cell (p:=⟨w3.heap.size,2,none⟩) l3).trans x2;have y3:=(BB.cell (p:=⟨w3.heap.size,3,none⟩) l3).trans x3;have y4:=(BB.cell (p:=⟨w3.heap.size,4,none⟩) l3).trans x4;have y5:=(BB.cell (p:=⟨w3.heap.size,5,none⟩) l3).trans x5;have y6:=(BB.cell (p:=⟨w3.heap.size,6,none⟩) l3).trans x6;have y7:=(BB.cell (p:=⟨w3.heap.size,7,none⟩) l3).trans x7;have QG:=uK BZ;clear BZ BC)))
  all_goals
   (
  go_upto_region 21 with(fail);obtain⟨w7,yq⟩: ∃w7,w7=w6.alloc (.cells #[.int .u8 (x.kind:Int), .int .u16 (x.mode:Int), .int .u32 (x.uid:Int), .int .u32 (x.gid:Int), .int .i64 (x.n:Int), .int .i64 (N:Int), .pointer (some ⟨ad up,0,none⟩), .string s, .slice A6 x.n cd] 227):=⟨_,rfl⟩;rw[<-yq];have Rf:=BB.size;have CP:w7.heap[w6.heap.size]? =some (.cells #[.int .u8 (x.kind:Int), .int .u16 (x.mode:Int), .int .u32 (x.uid:Int), .int .u32 (x.gid:Int), .int .i64 (x.n:Int), .int .i64 (N:Int), .pointer (some ⟨ad up,0,none⟩), .string s, .slice A6 x.n cd] 227 (0,0)):=(by rw[yq];exact ab w6 _);have Fo:Below w4.heap.size w4 w7:=(by rw[yq];exact BB.alloc Rf _);have MP:=uK (QG.out.below (w':=w7) (by rw[yq];exact uM));clear yq y0 y1 y2 y3 y4 y5 y6 y7;have Re:=Fo.size;have AH:Below w3.heap.size w3 w7:=MZ.out.trans (Fo.mono AU);have Fv:=xS.out.below AH;have Jj:eX w7 (w6.heap.size) F.length (0) (ad up) (bG x up s):=⟨_,_,(by rw[<-El.out];exact CP),(fun e=>absurd (show x.kind=2 from e) (by rw[zT.out];decide)),(fun _ =>⟨rfl,A6,cd,rfl,MP.out.1,MP.out.2.1,MP.out.2.2⟩),(fun e=>absurd (show x.kind=3 from e) (by rw[zT.out];decide))⟩;have TM:=(uJ xS.out.self).1;have SZ:=jA xS.out.row;have hV:(bc (am (F++[bG x up s]) F.length) (upd ad F.length (w6.heap.size) F.length))= .iface 225 (.pointer (some ⟨w6.heap.size,0,none⟩)):=(by
   rw[af];have e:am (F++[bG x up s]) F.length=x.kind:=(by
    unfold am;rw[uT (uN _)];simp[bG])
   rw[e,zT.out];rfl)
  have zw:bL w7.drew (mp up) (aK F up) (fun j=>bc (am (F++[bG x up s]) j) (upd ad F.length (w6.heap.size) j)):=((Fv.names up FV.out).congr (fun y hy=>(by
   have hl:=(bE hy).1;rw[cM _ hl,ah _ _ (by omega)]))).same rfl
  obtain⟨w8,FN,Mh,zz,OJ⟩:=zw.put s F.length FE.out;have za:Mod (fun b=>b=mp up) w7 w8:=zz.undrew;have Gk:(Instr.mapUpdate 166 (.map (some (mp up))) (.string s) (.iface 225 (.pointer (some ⟨w6.heap.size,0,none⟩)))).run Tryz.prog w7.drew= .ok () w8:=(by rw[<-hV];exact FN);have z1:w7.cell? ⟨ad up,8,none⟩=some (.map (some (mp up))):=Fv.mapCell FV.out;have z2:w7.cell? ⟨g,m,none⟩=some (.string s):=(AH.cell (p:=⟨g,m,none⟩) yc).trans cg;have Ad:=uK Fv;have Vw:=uK Jj;have Vv:=uK Mh;have GP:=uK za;have FH:=uK AH;have Vx:Hid ((bG x up s).kind=2->(∃wm,w7.heap[0]? =some (.map #[] wm))/\B<=0/\ ∀i,am F i=2->0≠mp i):=uK (fun e=>absurd (show x.kind=2 from e) (by rw[zT.out];decide));have yX:Hid (w6.heap.size≠fs/\w6.heap.size≠nb/\B<=w6.heap.size):=uK (by have:=Jr.out.size;exact⟨by omega,by omega,by omega⟩);clear Fv Jj Mh za zz AH FN hV zw OJ;go_upto_region 21 with(fail);go_region
  all_goals
   have s8:=(GP.out.block fs (by have:=FH.out.size;omega) (fun e=>by
    obtain⟨es,wm,e1⟩:=Ad.out.mapBlock FV.out;have e2:=Ad.out.self;rw[e,e1]at e2;cases e2)).trans Ad.out.self
   have nm:nb≠mp up:=(fun e=>by
    obtain⟨es,wm,e1⟩:=Ad.out.mapBlock FV.out;obtain⟨cs,f,e2⟩:=Ad.out.rowBlock;rw[e,e1]at e2;cases e2)
   have nf:nb≠fs:=(fun e=>by
    obtain⟨cs,f,e2⟩:=Ad.out.rowBlock;have e3:=Ad.out.self;rw[e,e3]at e2;injection e2 with e2;injection e2 with _ e2 _;exact absurd e2 (by decide))
   have r8:=gz Ad.out.row (GP.out.block nb (jA Ad.out.row) nm);have v1:w8.cell? ⟨fs,0,none⟩=some (.slice (some ⟨nb,0,none⟩) N c2):=(by rw[El.out];exact aa s8 0);have v2:=ae s8 0;have lfs8:=(uJ s8).1;have NY:N<=c2:=(by
    obtain⟨cur,_,e3,_⟩:=ee r8;rw[El.out];exact e3)
   have Vd:=uK s8;have FT:=uK r8;clear s8 r8 Gk z1 z2;go_wp2_with (first
    |(at_builtin;refine ue rfl (.tmp 102) (.tmp 104) rfl nb c2 N F ad El.out rfl (World.ownsRow.alloc FT.out _) (.iface 225 (.pointer (some ⟨w6.heap.size,0,none⟩))) rfl w8.heap.size 1 rfl (ab _ _) (by omega) ?_;intro g9 c9 w9 Ix Ex Fs Tk;have s9:=(Ex.block fs (by simp;omega) (by simpa using fun e=>nf (Eq.symm e))).trans ((uO _ _ _ (by omega)).trans Vd.out);have v3:=aa s9 0;have v4:=ae s9 0;have HS9:=uK s9;have VN:=uK Ex;have Vt:=uK Ix;have Lv:=uK Fs;clear s9 Ex Ix Fs)
    |fail)
   go_ret;obtain⟨Bt,Bs⟩:=lJ (y:=bG x up s) (up:=up) Ad.out rfl Bg FV.out (by have h9:=MO.out.1;rw[<-HL.out,Om.out]at h9;exact h9) Vw.out yX.out.1 yX.out.2.1 yX.out.2.2 Vx.out Vv.out GP.out VN.out (by have h9:=Vt.out;have e9:bc (bG x up s).kind (w6.heap.size)= .iface 225 (.pointer (some ⟨w6.heap.size,0,none⟩)):=(by show bc x.kind _ =_;rw[zT.out];rfl);rw[e9];exact h9) Lv.out;rw[<-El.out]at Bt Bs;have eL:(ar x.path).getLastD ⟨#[]⟩=s:=(by rw[<-HL.out];exact Om.out);refine⟨rfl,⟨g9,c9,upd ad N (w6.heap.size),upd mp N (0),(by rw[eL];exact Bt)⟩,?_⟩;exact(Jr.out.mono hB).trans ((FH.out.mono (by have:=Jr.out.size;omega)).trans Bs))
 ·have xP:((x.kind:Nat):Int)=2:=(by omega);have t1:(((x.kind:Nat):Int)==2)=true:=(by rw[xP];decide);have zT:=uK Nh;have CN:= @run_makeMap Tryz.prog;clear Nh xP;go_upto_region 21 with(fail);obtain⟨w7,yq⟩: ∃w7,w7=(w4.alloc (.map #[] 0)).alloc (.cells #[.int .u8 (x.kind:Int), .int .u16 (x.mode:Int), .int .u32 (x.uid:Int), .int .u32 (x.gid:Int), .int .i64 (x.n:Int), .int .i64 (N:Int), .pointer (some ⟨ad up,0,none⟩), .string s, .map (some w4.heap.size)] 168):=⟨_,rfl⟩;rw[<-yq];have CP:w7.heap[w4.heap.size+1]? =some (.cells #[.int .u8 (x.kind:Int), .int .u16 (x.mode:Int), .int .u32 (x.uid:Int), .int .u32 (x.gid:Int), .int .i64 (x.n:Int), .int .i64 (N:Int), .pointer (some ⟨ad up,0,none⟩), .string s, .map (some w4.heap.size)] 168 (0,0)):=by
   rw[yq];have e:(w4.alloc (.map #[] 0)).heap.size=w4.heap.size+1:=(by simp);rw[<-e];exact ab _ _
  have Oe:w7.heap[w4.heap.size]? =some (.map #[] 0):=(by rw[yq];exact(uO _ _ _ (by simp)).trans (ab _ _));have Fo:Below w4.heap.size w4 w7:=(by rw[yq];exact uM.alloc (by simp) _);have NB: ∀i,am F i=2->mp i<w3.heap.size:=fun i hi=>by
   obtain⟨es,wm,e1⟩:=xS.out.mapBlock hi;exact(uJ e1).1
  have IY:=uK Oe;have ZR:=uK NB;clear yq CN Oe NB;have Re:=Fo.size;have AH:Below w3.heap.size w3 w7:=MZ.out.trans (Fo.mono AU);have Fv:=xS.out.below AH;have Jj:eX w7 (w4.heap.size+1) F.length (w4.heap.size) (ad up) (bG x up s):=⟨_,_,(by rw[<-El.out];exact CP),(fun _ =>⟨rfl,rfl⟩),(fun e=>absurd (show x.kind=1 from e) (by rw[zT.out];decide)),(fun e=>absurd (show x.kind=3 from e) (by rw[zT.out];decide))⟩;have TM:=(uJ xS.out.self).1;have SZ:=jA xS.out.row;have hV:(bc (am (F++[bG x up s]) F.length) (upd ad F.length (w4.heap.size+1) F.length))= .iface 163 (.pointer (some ⟨w4.heap.size+1,0,none⟩)):=(by
   rw[af];have e:am (F++[bG x up s]) F.length=x.kind:=(by
    unfold am;rw[uT (uN _)];simp[bG])
   rw[e,zT.out];rfl)
  have zw:bL w7.drew (mp up) (aK F up) (fun j=>bc (am (F++[bG x up s]) j) (upd ad F.length (w4.heap.size+1) j)):=((Fv.names up FV.out).congr (fun y hy=>(by
   have hl:=(bE hy).1;rw[cM _ hl,ah _ _ (by omega)]))).same rfl
  obtain⟨w8,FN,Mh,zz,OJ⟩:=zw.put s F.length FE.out;have za:Mod (fun b=>b=mp up) w7 w8:=zz.undrew;have Gk:(Instr.mapUpdate 166 (.map (some (mp up))) (.string s) (.iface 163 (.pointer (some ⟨w4.heap.size+1,0,none⟩)))).run Tryz.prog w7.drew= .ok () w8:=(by rw[<-hV];exact FN);have z1:w7.cell? ⟨ad up,8,none⟩=some (.map (some (mp up))):=Fv.mapCell FV.out;have z2:w7.cell? ⟨g,m,none⟩=some (.string s):=(AH.cell (p:=⟨g,m,none⟩) yc).trans cg;have Ad:=uK Fv;have Vw:=uK Jj;have Vv:=uK Mh;have GP:=uK za;have FH:=uK AH;have Vx:Hid ((bG x up s).kind=2->(∃wm,w7.heap[w4.heap.size]? =some (.map #[] wm))/\B<=w4.heap.size/\ ∀i,am F i=2->w4.heap.size≠mp i):=uK (fun _ =>⟨⟨0,IY.out⟩,(by have:=Jr.out.size;omega),(fun i hi=>by have:=ZR.out i hi;omega)⟩);have yX:Hid (w4.heap.size+1≠fs/\w4.heap.size+1≠nb/\B<=w4.heap.size+1):=uK (by have:=Jr.out.size;exact⟨by omega,by omega,by omega⟩);clear Fv Jj Mh za zz AH FN hV zw OJ;go_upto_region 21 with(fail);go_region
  all_goals
   have s8:=(GP.out.block fs (by have:=FH.out.size;omega) (fun e=>by
    obtain⟨es,wm,e1⟩:=Ad.out.mapBlock FV.out;have e2:=Ad.out.self;rw[e,e1]at e2;cases e2)).trans Ad.out.self
   have nm:nb≠mp up:=(fun e=>by
    obtain⟨es,wm,e1⟩:=Ad.out.mapBlock FV.out;obtain⟨cs,f,e2⟩:=Ad.out.rowBlock;rw[e,e1]at e2;cases e2)
   have nf:nb≠fs:=(fun e=>by
    obtain⟨cs,f,e2⟩:=Ad.out.rowBlock;have e3:=Ad.out.self;rw[e,e3]at e2;injection e2 with e2;injection e2 with _ e2 _;exact absurd e2 (by decide))
   have r8:=gz Ad.out.row (GP.out.block nb (jA Ad.out.row) nm);have v1:w8.cell? ⟨fs,0,none⟩=some (.slice (some ⟨nb,0,none⟩) N c2):=(by rw[El.out];exact aa s8 0);have v2:=ae s8 0;have lfs8:=(uJ s8).1;have NY:N<=c2:=(by
    obtain⟨cur,_,e3,_⟩:=ee r8;rw[El.out];exact e3)
   have Vd:=uK s8;have FT:=uK r8;clear s8 r8 Gk z1 z2;go_wp2_with (first
    |(at_builtin;refine ue rfl (.tmp 102) (.tmp 104) rfl nb c2 N F ad El.out rfl (World.ownsRow.alloc FT.out _) (.iface 163 (.pointer (some ⟨w4.heap.size+1,0,none⟩))) rfl w8.heap.size 1 rfl (ab _ _) (by omega) ?_;intro g9 c9 w9 Ix Ex Fs Tk;have s9:=(Ex.block fs (by simp;omega) (by simpa using fun e=>nf (Eq.symm e))).trans ((uO _ _ _ (by omega)).trans Vd.out);have v3:=aa s9 0;have v4:=ae s9 0;have HS9:=uK s9;have VN:=uK Ex;have Vt:=uK Ix;have Lv:=uK Fs;clear s9 Ex Ix Fs)
    |fail)
   go_ret;obtain⟨Bt,Bs⟩:=lJ (y:=bG x up s) (up:=up) Ad.out rfl Bg FV.out (by have h9:=MO.out.1;rw[<-HL.out,Om.out]at h9;exact h9) Vw.out yX.out.1 yX.out.2.1 yX.out.2.2 Vx.out Vv.out GP.out VN.out (by have h9:=Vt.out;have e9:bc (bG x up s).kind (w4.heap.size+1)= .iface 163 (.pointer (some ⟨w4.heap.size+1,0,none⟩)):=(by show bc x.kind _ =_;rw[zT.out];rfl);rw[e9];exact h9) Lv.out;rw[<-El.out]at Bt Bs;have eL:(ar x.path).getLastD ⟨#[]⟩=s:=(by rw[<-HL.out];exact Om.out);refine⟨rfl,⟨g9,c9,upd ad N (w4.heap.size+1),upd mp N (w4.heap.size),(by rw[eL];exact Bt)⟩,?_⟩;exact(Jr.out.mono hB).trans ((FH.out.mono (by have:=Jr.out.size;omega)).trans Bs)
 ·have xP:((x.kind:Nat):Int)=3:=(by omega);have t1:(((x.kind:Nat):Int)==2)=false:=(by rw[xP];decide);have t2:(((x.kind:Nat):Int)==1)=false:=(by rw[xP];decide);have zT:=uK Nh;clear Nh xP;go_upto_region 21 with(fail);obtain⟨w7,yq⟩: ∃w7,w7=w4.alloc (.cells #[.int .u8 (x.kind:Int), .int .u16 (x.mode:Int), .int .u32 (x.uid:Int), .int .u32 (x.gid:Int), .int .i64 (x.n:Int), .int .i64 (N:Int), .pointer (some ⟨ad up,0,none⟩), .string s, .string x.to] 230):=⟨_,rfl⟩;rw[<-yq];have CP:w7.heap[w4.heap.size]? =some (.cells #[.int .u8 (x.kind:Int), .int .u16 (x.mode:Int), .int .u32 (x.uid:Int), .int .u32 (x.gid:Int), .int .i64 (x.n:Int), .int .i64 (N:Int), .pointer (some ⟨ad up,0,none⟩), .string s, .string x.to] 230 (0,0)):=(by rw[yq];exact ab w4 _);have Fo:Below w4.heap.size w4 w7:=(by rw[yq];exact uM);clear yq;have Re:=Fo.size;have AH:Below w3.heap.size w3 w7:=MZ.out.trans (Fo.mono AU);have Fv:=xS.out.below AH;have Jj:eX w7 (w4.heap.size) F.length (0) (ad up) (bG x up s):=⟨_,_,(by rw[<-El.out];exact CP),(fun e=>absurd (show x.kind=2 from e) (by rw[zT.out];decide)),(fun e=>absurd (show x.kind=1 from e) (by rw[zT.out];decide)),(fun _ =>⟨rfl,rfl⟩)⟩;have TM:=(uJ xS.out.self).1;have SZ:=jA xS.out.row;have hV:(bc (am (F++[bG x up s]) F.length) (upd ad F.length (w4.heap.size) F.length))= .iface 228 (.pointer (some ⟨w4.heap.size,0,none⟩)):=(by
   rw[af];have e:am (F++[bG x up s]) F.length=x.kind:=(by
    unfold am;rw[uT (uN _)];simp[bG])
   rw[e,zT.out];rfl)
  have zw:bL w7.drew (mp up) (aK F up) (fun j=>bc (am (F++[bG x up s]) j) (upd ad F.length (w4.heap.size) j)):=((Fv.names up FV.out).congr (fun y hy=>(by
   have hl:=(bE hy).1;rw[cM _ hl,ah _ _ (by omega)]))).same rfl
  obtain⟨w8,FN,Mh,zz,OJ⟩:=zw.put s F.length FE.out;have za:Mod (fun b=>b=mp up) w7 w8:=zz.undrew;have Gk:(Instr.mapUpdate 166 (.map (some (mp up))) (.string s) (.iface 228 (.pointer (some ⟨w4.heap.size,0,none⟩)))).run Tryz.prog w7.drew= .ok () w8:=(by rw[<-hV];exact FN);have z1:w7.cell? ⟨ad up,8,none⟩=some (.map (some (mp up))):=Fv.mapCell FV.out;have z2:w7.cell? ⟨g,m,none⟩=some (.string s):=(AH.cell (p:=⟨g,m,none⟩) yc).trans cg;have Ad:=uK Fv;have Vw:=uK Jj;have Vv:=uK Mh;have GP:=uK za;have FH:=uK AH;have Vx:Hid ((bG x up s).kind=2->(∃wm,w7.heap[0]? =some (.map #[] wm))/\B<=0/\ ∀i,am F i=2->0≠mp i):=uK (fun e=>absurd (show x.kind=2 from e) (by rw[zT.out];decide));have yX:Hid (w4.heap.size≠fs/\w4.heap.size≠nb/\B<=w4.heap.size):=uK (by have:=Jr.out.size;exact⟨by omega,by omega,by omega⟩);clear Fv Jj Mh za zz AH FN hV zw OJ;go_upto_region 21 with(fail);go_region
  all_goals
   have s8:=(GP.out.block fs (by have:=FH.out.size;omega) (fun e=>by
    obtain⟨es,wm,e1⟩:=Ad.out.mapBlock FV.out;have e2:=Ad.out.self;rw[e,e1]at e2;cases e2)).trans Ad.out.self
   have nm:nb≠mp up:=(fun e=>by
    obtain⟨es,wm,e1⟩:=Ad.out.mapBlock FV.out;obtain⟨cs,f,e2⟩:=Ad.out.rowBlock;rw[e,e1]at e2;cases e2)
   have nf:nb≠fs:=(fun e=>by
    obtain⟨cs,f,e2⟩:=Ad.out.rowBlock;have e3:=Ad.out.self;rw[e,e3]at e2;injection e2 with e2;injection e2 with _ e2 _;exact absurd e2 (by decide))
   have r8:=gz Ad.out.row (GP.out.block nb (jA Ad.out.row) nm);have v1:w8.cell? ⟨fs,0,none⟩=some (.slice (some ⟨nb,0,none⟩) N c2):=(by rw[El.out];exact aa s8 0);have v2:=ae s8 0;have lfs8:=(uJ s8).1;have NY:N<=c2:=(by
    obtain⟨cur,_,e3,_⟩:=ee r8;rw[El.out];exact e3)
   have Vd:=uK s8;have FT:=uK r8;clear s8 r8 Gk z1 z2;go_wp2_with (first
    |(at_builtin;refine ue rfl (.tmp 102) (.tmp 104) rfl nb c2 N F ad El.out rfl (World.ownsRow.alloc FT.out _) (.iface 228 (.pointer (some ⟨w4.heap.size,0,none⟩))) rfl w8.heap.size 1 rfl (ab _ _) (by omega) ?_;intro g9 c9 w9 Ix Ex Fs Tk;have s9:=(Ex.block fs (by simp;omega) (by simpa using fun e=>nf (Eq.symm e))).trans ((uO _ _ _ (by omega)).trans Vd.out);have v3:=aa s9 0;have v4:=ae s9 0;have HS9:=uK s9;have VN:=uK Ex;have Vt:=uK Ix;have Lv:=uK Fs;clear s9 Ex Ix Fs)
    |fail)
   go_ret;obtain⟨Bt,Bs⟩:=lJ (y:=bG x up s) (up:=up) Ad.out rfl Bg FV.out (by have h9:=MO.out.1;rw[<-HL.out,Om.out]at h9;exact h9) Vw.out yX.out.1 yX.out.2.1 yX.out.2.2 Vx.out Vv.out GP.out VN.out (by have h9:=Vt.out;have e9:bc (bG x up s).kind (w4.heap.size)= .iface 228 (.pointer (some ⟨w4.heap.size,0,none⟩)):=(by show bc x.kind _ =_;rw[zT.out];rfl);rw[e9];exact h9) Lv.out;rw[<-El.out]at Bt Bs;have eL:(ar x.path).getLastD ⟨#[]⟩=s:=(by rw[<-HL.out];exact Om.out);refine⟨rfl,⟨g9,c9,upd ad N (w4.heap.size),upd mp N (0),(by rw[eL];exact Bt)⟩,?_⟩;exact(Jr.out.mono hB).trans ((FH.out.mono (by have:=Jr.out.size;omega)).trans Bs)
end
section
open Go.RowKit Go.Sort
structure uD (w:World) (x:Ent) (A:Option Addr) (c:Nat):Prop where
 path:x.path.size<=1000000000
 link:x.to.size<=1000000000
 n:x.n<=9223372036854775807
 data:aw w A x.n x.dat
 ok:eR A x.n c
variable {w w':World} {x:Ent}
theorem uD.below {A:Option Addr} {c:Nat} (h:uD w x A c) (hb:Below w.heap.size w w'):uD w' x A c:=
 ⟨h.path,h.link,h.n,h.data.kept hb,h.ok⟩
theorem vadd_any (B fs nb c2 c:Nat) (ad mp:Nat->Nat) (F:List Nd) (x:Ent) (A:Option Addr) (w:World) (h:FsIs w B fs nb c2 ad mp F) (hx:uD w x A c) (hB:B<=w.heap.size) (hF:F.length<=1000):
  Calls Tryz.prog 82 #[.pointer (some ⟨fs,0,none⟩),x.val A c] w (ck B fs F x w):=by
 by_cases hm:may x=0
 ·cases ha:atM F 0 (ar x.path)with
  |some j=>exact qp B fs nb c2 c j ad mp F x A w h hx.path hx.link hx.n hB hm hF ha
  |none=>
   cases Cl:atM F 0 (ar x.path).dropLast with
   |none=>exact qq B fs nb c2 c ad mp F x A w h hx.path hx.link hx.n hB hm hF ha Cl
   |some up=>
    by_cases hk:am F up=2
    ·exact rU B fs nb c2 c up ad mp F x A w h hx.path hx.link hx.n hB hm hF hx.data hx.ok ha Cl hk
    ·exact od B fs nb c2 c up ad mp F x A w h hx.path hx.link hx.n hB hm hF ha Cl hk
 ·exact vadd_bad B fs nb c2 c ad mp F x A w h hx.path hx.link hx.n hB hm
def EntCells (w:World) (g j:Nat) (x:Ent) (A:Option Addr) (c:Nat):Prop:=
 w.cell? ⟨g,j*7,none⟩=some (.string x.path)/\w.cell? ⟨g,j*7+1,none⟩=some (.int .u8 (x.kind:Int))/\w.cell? ⟨g,j*7+2,none⟩=some (.int .u16 (x.mode:Int))/\w.cell? ⟨g,j*7+3,none⟩=some (.int .u32 (x.uid:Int))/\
 w.cell? ⟨g,j*7+4,none⟩=some (.int .u32 (x.gid:Int))/\w.cell? ⟨g,j*7+5,none⟩=some (.slice A x.n c)/\w.cell? ⟨g,j*7+6,none⟩=some (.string x.to)
def fV (w:World) (P:Option Addr) (l:List Ent):Prop:= ∀(j:Nat) (x:Ent),l[j]? =some x-> ∃g A c,P=some ⟨g,0,none⟩/\g<w.heap.size/\EntCells w g j x A c/\uD w x A c
variable {l:List Ent}
theorem fV.below {P:Option Addr} (h:fV w P l) (hb:Below w.heap.size w w'):fV w' P l:=fun j x hx=>by
 obtain⟨g,A,c,h1,h2,⟨c0,c1,c2,c3,c4,c5,c6⟩,h4⟩:=h j x hx;have hc: ∀i,w'.cell? ⟨g,i,none⟩=w.cell? ⟨g,i,none⟩:=fun i=>hb.cell (p:=⟨g,i,none⟩) h2;refine⟨g,A,c,h1,uR h2 hb.size,⟨?_,?_,?_,?_,?_,?_,?_⟩,h4.below hb⟩
 all_goals(rw[hc];assumption)
variable {F:List Nd} {i:Nat}
theorem mU (h:(addM F x).1=0):newM F i (x::l)=newM (addM F x).2 (i+1) l:=by
 rw[newM,if_neg (by omega)]
theorem ff (h:(addM F x).1≠0):newM F i (x::l)=((addM F x).1,(i:Int),F):=by
 rw[newM,if_pos h]
def dB (l:List Ent) (w:World) (e:Ending) (w':World):Prop:=
 if 64<l.length then e= .returned (.tuple #[.pointer none, .int .i64 15, .int .i64 (-1)])/\Below w.heap.size w w'
 else if(newM [aD] 0 l).1≠0 then e= .returned (.tuple #[.pointer none, .int .i64 (newM [aD] 0 l).1, .int .i64 (newM [aD] 0 l).2.1])/\Below w.heap.size w w'
 else∃fs nb c2 ad mp,e= .returned (.tuple #[.pointer (some ⟨fs,0,none⟩), .int .i64 0, .int .i64 0])/\FsIs w' w.heap.size fs nb c2 ad mp (newM [aD] 0 l).2.2/\Below w.heap.size w w'
theorem fs_root (w:World):FsIs ((((w.alloc (.map #[] 0)).alloc (.cells #[.int .u8 2, .int .u16 493, .int .u32 0, .int .u32 0, .int .i64 0, .int .i64 0, .pointer (some ⟨w.heap.size+1,0,none⟩), .string ⟨#[]⟩, .map (some w.heap.size)] 168)).alloc (.cells #[.iface 163 (.pointer (some ⟨w.heap.size+1,0,none⟩))] 189)).alloc (.cells #[.slice (some ⟨w.heap.size+1+1,0,none⟩) 1 1] 171))
  w.heap.size (w.heap.size+1+1+1) (w.heap.size+1+1) 1 (fun _ =>w.heap.size+1) (fun _ =>w.heap.size) [aD]:=by
 have k0:am [aD] 0=2:=rfl;have ks: ∀i,am [aD] i=2->i=0:=fun i h=>by have:=ew h (by omega);simp at this;exact this
 obtain⟨w1,zd⟩: ∃w1,w1=w.alloc (.map #[] 0):=⟨_,rfl⟩;obtain⟨w2,we⟩: ∃w2,w2=w1.alloc (.cells #[.int .u8 2, .int .u16 493, .int .u32 0, .int .u32 0, .int .i64 0, .int .i64 0, .pointer (some ⟨w.heap.size+1,0,none⟩), .string ⟨#[]⟩, .map (some w.heap.size)] 168):=⟨_,rfl⟩;obtain⟨w3,wX⟩: ∃w3,w3=w2.alloc (.cells #[.iface 163 (.pointer (some ⟨w.heap.size+1,0,none⟩))] 189):=⟨_,rfl⟩;rw[<-zd,<-we,<-wX];have z1:w1.heap.size=w.heap.size+1:=(by rw[zd];simp);have z2:w2.heap.size=w.heap.size+1+1:=(by rw[we];simp[z1]);have z3:w3.heap.size=w.heap.size+1+1+1:=(by rw[wX];simp[z2]);have p0:w3.heap[w.heap.size]? =some (.map #[] 0):=by
  rw[wX,we,zd];exact(uO _ _ _ (by simp;omega)).trans ((uO _ _ _ (by simp)).trans (ab _ _))
 have p1:w3.heap[w.heap.size+1]? =some (.cells #[.int .u8 2, .int .u16 493, .int .u32 0, .int .u32 0, .int .i64 0, .int .i64 0, .pointer (some ⟨w.heap.size+1,0,none⟩), .string ⟨#[]⟩, .map (some w.heap.size)] 168 (0,0)):=by
  have h9:=ab w1 (.cells #[.int .u8 2, .int .u16 493, .int .u32 0, .int .u32 0, .int .i64 0, .int .i64 0, .pointer (some ⟨w.heap.size+1,0,none⟩), .string ⟨#[]⟩, .map (some w.heap.size)] 168);rw[z1,<-we]at h9;rw[wX];exact(uO _ _ _ (by omega)).trans h9
 have p2:w3.heap[w.heap.size+1+1]? =some (.cells #[.iface 163 (.pointer (some ⟨w.heap.size+1,0,none⟩))] 189 (0,0)):=by
  have h9:=ab w2 (.cells #[.iface 163 (.pointer (some ⟨w.heap.size+1,0,none⟩))] 189);rw[z2,<-wX]at h9;exact h9
 have q: ∀b,b<w3.heap.size->(w3.alloc (.cells #[.slice (some ⟨w.heap.size+1+1,0,none⟩) 1 1] 171)).heap[b]? =w3.heap[b]? :=fun b hb=>uO _ _ _ hb;refine⟨FOk.start,?_,⟨rfl, .inr ⟨w.heap.size+1+1,1,_,rfl,vg _,(q _ (by omega)).trans p2,uN _,by decide,rfl,rfl⟩⟩,?_,?_,?_,by omega,by omega,fun _ _ =>by omega,fun _ _ =>by omega⟩
 ·rw[<-z3];exact ab _ _
 ·intro i y hy;cases i with
  |zero=>
   simp at hy;subst hy;exact⟨_,_,(q _ (by omega)).trans p1,(fun _ =>⟨rfl,rfl⟩),(fun e=>by cases e),(fun e=>by cases e)⟩
  |succ i=>simp at hy
 ·intro i hi;obtain rfl:=ks i hi;exact⟨#[],0,(q _ (by omega)).trans p0,⟨by simp,by simp,by simp⟩,rfl⟩
 ·intro i j hi hj _;rw[ks i hi,ks j hj]
theorem py (P:Option Addr) (n cap:Nat) (l:List Ent) (w:World) (hl:fV w P l) (hn:n=l.length) (wT:n<=cap) (yO:n<=9223372036854775807):
  Calls Tryz.prog 37 #[.slice P n cap] w (dB l w):=by
 by_cases DF:64<n
 ·have hv: ∀e w',(e= .returned (.tuple #[.pointer none, .int .i64 15, .int .i64 (-1)])/\Below w.heap.size w w')->dB l w e w':=fun e w' h=>by
   unfold dB;rw[if_pos (by omega)];exact h
  have HV:=uK hv;clear hv hl hn;go_enter Tryz.func37,Tryz.ntmps37;go_wp2_with fail;go_ret3;exact HV.out _ _ ⟨rfl,vj _ _⟩
 have wB:=fs_root w;obtain⟨w0,vo⟩: ∃w0,w0=((((w.alloc (.map #[] 0)).alloc (.cells #[.int .u8 2, .int .u16 493, .int .u32 0, .int .u32 0, .int .i64 0, .int .i64 0, .pointer (some ⟨w.heap.size+1,0,none⟩), .string ⟨#[]⟩, .map (some w.heap.size)] 168)).alloc (.cells #[.iface 163 (.pointer (some ⟨w.heap.size+1,0,none⟩))] 189)).alloc (.cells #[.slice (some ⟨w.heap.size+1+1,0,none⟩) 1 1] 171)):=⟨_,rfl⟩;rw[<-vo]at wB;have vp:Below w.heap.size w w0:=by
  rw[vo];exact((uM.alloc (by simp) _).alloc (by simp;omega) _).alloc (by simp;omega) _
 have vR:=uK vo;have wI:=uK vp;have DH:=uK wB;have Dk:=uK hn;have GS:=uK hl;have CN:= @run_makeMap Tryz.prog;clear vp vo wB hn hl;go_enter Tryz.func37,Tryz.ntmps37;go_upto_region 6 with(fail);rw[<-vR.out];clear CN;go_wp2_with fail;go_loopw [30] (fun i wr=> ∃k F nb c2 ad mp,k<=n/\i= .int .i64 ((k:Nat):Int)/\FsIs wr w.heap.size (w.heap.size+1+1+1) nb c2 ad mp F/\newM [aD] 0 l=newM F k (l.drop k)/\F.length=k+1/\Below w.heap.size w wr) (fun i _ =>n-(intOf i).toNat)
 case atStart=>exact⟨0,[aD],_,_,_,_,by omega,rfl,DH.out,rfl,rfl,wI.out⟩
 case round=>
  obtain⟨k,F,nb,c2,ad,mp,hk,rfl,hF,hnew,hlen,xZ⟩:=hrel;have HF:=uK hF;have yG:=uK hnew;have xh:=uK hlen;have yC:=uK xZ;have OO:=xZ.size;clear hF hnew hlen xZ;by_cases vq:k<n
  ·obtain⟨x,hx⟩: ∃x,l[k]? =some x:=⟨_,uQ (by rw[<-Dk.out];exact vq)⟩;have xA:l.drop k=x::l.drop (k+1):=(List.drop_eq_getElem_cons (by rw[<-Dk.out];exact vq)).trans (by
    obtain⟨h1,h2⟩:=List.getElem?_eq_some_iff.1 hx;rw[h2])
   obtain⟨g,A,c,rfl,hg,⟨c0,c1,c2',c3,c4,c5,c6⟩,hE⟩:=(GS.out.below yC.out) k x hx;have UE:=HF.out.below ((vj wr.heap.size wr).alloc (uN _) (.cells #[.string x.path, .int .u8 (x.kind:Int), .int .u16 (x.mode:Int), .int .u32 (x.uid:Int), .int .u32 (x.gid:Int), .slice A x.n c, .string x.to] 93));have vr:=hE.below ((vj wr.heap.size wr).alloc (uN _) (.cells #[.string x.path, .int .u8 (x.kind:Int), .int .u16 (x.mode:Int), .int .u32 (x.uid:Int), .int .u32 (x.gid:Int), .slice A x.n c, .string x.to] 93));have yt:=vadd_any w.heap.size (w.heap.size+1+1+1) nb c2 c ad mp F x A _ UE vr (by simp;omega) (by have:=xh.out;omega);unfold Ent.val ck at yt;obtain⟨r,hr⟩: ∃r,r=(addM F x).1:=⟨_,rfl⟩;rw[<-hr]at yt;have Wl:=uK yt;have FF:=uK xA;have xw:Below w.heap.size w (wr.alloc (.cells #[.string x.path, .int .u8 (x.kind:Int), .int .u16 (x.mode:Int), .int .u32 (x.uid:Int), .int .u32 (x.gid:Int), .slice A x.n c, .string x.to] 93)):=yC.out.alloc OO _;have yX:=uK xw;by_cases Bl:r=0
   ·have Ro:(addM F x).1=0:=(by rw[<-hr];exact Bl);have Bo:=(mi HF.out.ok Ro).2.1;have yu:=uK (show newM [aD] 0 l=newM (addM F x).2 (k+1) (l.drop (k+1)) by rw[yG.out,FF.out,mU Ro]);have VB:=uK (show(addM F x).2.length=k+1+1 by rw[Bo,xh.out]);subst Bl;clear hr Ro yt xA hx hE UE vr xw Bo;go_wp2_with (first
     |(go_at_call 82;refine(Wl.out).mono ?_;rintro e w2 ⟨rfl,⟨nb2,c22,ad2,mp2,UD⟩,vs⟩;have HF2:=uK UD;have xi:=uK (yX.out.trans vs);clear UD vs)
     |fail)
    go_roundw
    case rel=>exact⟨k+1,_,nb2,c22,ad2,mp2,by omega,by go_num,HF2.out,yu.out,VB.out,xi.out⟩
    case measure=>simp[intOf];omega
   ·have Ro:(addM F x).1≠0:=(by rw[<-hr];exact Bl);have vB:(r != 0)=true:=(by rw[bne_iff_ne];exact Bl);have yu:=uK (show newM [aD] 0 l=(r,(k:Int),F) by rw[yG.out,FF.out,ff Ro,hr]);have DI:=uK Bl;clear hr Ro yt xA hx hE UE vr xw Bl;go_wp2_with (first
     |(go_at_call 82;refine(Wl.out).mono ?_;rintro e w2 ⟨rfl,_,vs⟩;have xi:=uK (yX.out.trans vs);clear vs)
     |fail)
    go_ret3;unfold dB;rw[if_neg (by rw[<-Dk.out];exact DF),yu.out,if_pos DI.out];exact⟨rfl,xi.out⟩
  ·obtain rfl:k=n:=(by omega);have yu:=uK (show newM [aD] 0 l=(0,0,F) by rw[yG.out,List.drop_of_length_le (by rw[Dk.out];exact uN _)];rfl);go_wp2_with fail;go_ret3;unfold dB;rw[if_neg (by rw[<-Dk.out];exact DF),yu.out,if_neg (by simp)];exact⟨_,nb,c2,ad,mp,rfl,HF.out,yC.out⟩
end
section
open Go.RowKit Go.Sort
theorem fnode_no (B fs nb c2:Nat) (ad mp:Nat->Nat) (F:List Nd) (ino:Int) (w:World) (h:FsIs w B fs nb c2 ad mp F) (hi:ino<0\/(F.length:Int)<=ino):
  Calls Tryz.prog 106 #[.pointer (some ⟨fs,0,none⟩), .int .i64 ino] w fun e w'=>e= .returned .nilIface/\w'=w:=by
 have c0:w.cell? ⟨fs,0,none⟩=some (.slice (some ⟨nb,0,none⟩) F.length c2):=aa h.self 0;obtain⟨N,hN⟩: ∃N,N=F.length:=⟨_,rfl⟩;rw[<-hN]at c0 hi;clear h hN;rcases hi with hi|hi
 ·go_enter Tryz.func106,Tryz.ntmps106;go_wp2_with fail;go_ret;exact⟨rfl,rfl⟩
 ·have yn: ¬ino<0:=(by omega);go_enter Tryz.func106,Tryz.ntmps106;go_wp2_with fail;go_ret;exact⟨rfl,rfl⟩
theorem jW (B fs nb c2 i:Nat) (ad mp:Nat->Nat) (F:List Nd) (w:World) (h:FsIs w B fs nb c2 ad mp F) (hi:i<F.length):
  Calls Tryz.prog 106 #[.pointer (some ⟨fs,0,none⟩), .int .i64 (i:Int)] w fun e w'=>e= .returned (.iface (tyOf (am F i)) (.pointer (some ⟨ad i,0,none⟩)))/\w'=w:=by
 have c0:w.cell? ⟨fs,0,none⟩=some (.slice (some ⟨nb,0,none⟩) F.length c2):=aa h.self 0;have c1:w.cell? ⟨nb,i,none⟩=some (.iface (tyOf (am F i)) (.pointer (some ⟨ad i,0,none⟩))):=h.cell hi;obtain⟨v,hv⟩: ∃v,v=Value.iface (tyOf (am F i)) (.pointer (some ⟨ad i,0,none⟩)):=⟨_,rfl⟩;rw[<-hv]at c1⊢;obtain⟨N,hN⟩: ∃N,N=F.length:=⟨_,rfl⟩;rw[<-hN]at c0 hi;have Ce:(i:Int)<(N:Int):=(by omega);clear h hN hv;go_enter Tryz.func106,Tryz.ntmps106;go_wp2_with fail;go_ret;exact⟨rfl,rfl⟩
theorem rJ (k a:Nat) (w:World) (n:Nat) (hn:n=Tryz.prog.types.size+Made.depth):(method n (tyOf k) (.pointer (some ⟨a,0,none⟩)) "hostel/vfs.about").run Tryz.prog w= .ok (229, .pointer (some ⟨a,0,none⟩)) w:=by
 subst hn;unfold tyOf;split
 ·kernel_rfl
 ·split<;>kernel_rfl
def metaV (y:Nd):Value:= .agg #[.int .u8 (y.kind:Int), .int .u16 (y.mode:Int), .int .u32 (y.uid:Int), .int .u32 (y.gid:Int), .int .i64 (y.n:Int)]
theorem gN (B fs nb c2 i:Nat) (ad mp:Nat->Nat) (F:List Nd) (y:Nd) (w:World) (h:FsIs w B fs nb c2 ad mp F) (hy:F[i]? =some y):
  Calls Tryz.prog 64 #[.pointer (some ⟨fs,0,none⟩), .int .i64 (i:Int)] w fun e w'=>e= .returned (.tuple #[metaV y, .int .i64 0])/\Below w.heap.size w w':=by
 obtain⟨w0,vo⟩: ∃w0,w0=w.alloc (.cells #[.int .u8 0, .int .u16 0, .int .u32 0, .int .u32 0, .int .i64 0] 103):=⟨_,rfl⟩;have vp:Below w.heap.size w w0:=(by rw[vo];exact uM);have hM:w0.heap[w.heap.size]? =some (.cells #[.int .u8 0, .int .u16 0, .int .u32 0, .int .u32 0, .int .i64 0] 103 (0,0)):=(by rw[vo];exact ab w _);have hF:=h.below vp;have IG:=(List.getElem?_eq_some_iff.1 hy).1;obtain⟨T,tail,hN,_⟩:=hF.node i y hy;obtain⟨a,ha⟩: ∃a,a=ad i:=⟨_,rfl⟩;rw[<-ha]at hN;have x0:w0.cell? ⟨a,0,none⟩=some (.int .u8 (y.kind:Int)):=aa hN 0;have x1:w0.cell? ⟨a,1,none⟩=some (.int .u16 (y.mode:Int)):=aa hN 1;have x2:w0.cell? ⟨a,2,none⟩=some (.int .u32 (y.uid:Int)):=aa hN 2;have x3:w0.cell? ⟨a,3,none⟩=some (.int .u32 (y.gid:Int)):=aa hN 3;have x4:w0.cell? ⟨a,4,none⟩=some (.int .i64 (y.n:Int)):=aa hN 4;have y0:w0.cell? ⟨w.heap.size,0,none⟩=some (.int .u8 0):=aa hM 0;have y1:w0.cell? ⟨w.heap.size,1,none⟩=some (.int .u16 0):=aa hM 1;have y2:w0.cell? ⟨w.heap.size,2,none⟩=some (.int .u32 0):=aa hM 2;have y3:w0.cell? ⟨w.heap.size,3,none⟩=some (.int .u32 0):=aa hM 3;have y4:w0.cell? ⟨w.heap.size,4,none⟩=some (.int .i64 0):=aa hM 4;have z0:=ae hM 0;have z1:=ae hM 1;have z2:=ae hM 2;have z3:=ae hM 3;have z4:=ae hM 4;have vq:=(uJ hM).1;have AE: ∀W,W=w0->Calls Tryz.prog 106 #[.pointer (some ⟨fs,0,none⟩), .int .i64 (i:Int)] W fun e w'=>e= .returned (.iface (tyOf (am F i)) (.pointer (some ⟨a,0,none⟩)))/\W=w':=fun W hW=>by
  subst hW;rw[ha];exact(jW B fs nb c2 i ad mp F _ hF IG).mono fun e w' ⟨h1,h2⟩=>⟨h1,h2.symm⟩
 obtain⟨k,hk⟩: ∃k,k=am F i:=⟨_,rfl⟩;rw[<-hk]at AE;have Ih:=uK AE;have vR:=uK vo;clear h hF vo hM hN AE ha hk hy IG;go_enter Tryz.func64,Tryz.ntmps64;go_upto_region 1 with(fail);rw[<-vR.out];go_wp2_with (first
  |(go_at_call 106;refine(Ih.out _ rfl).mono ?_;rintro e w1 ⟨rfl,rfl⟩)
  |fail)
 rw[rJ _ _ _ _ (by kernel_rfl)];simp only[Result.andThen];rw[oS,Oper.upon_enter];refine(ul a _).mono ?_;rintro e w2 ⟨rfl,rfl⟩;go_wp2_with fail;have vl:w.heap.size<=w.heap.size:=uN _;exact bodyPost_ret (v:= .tuple #[.agg #[.int .u8 (y.kind:Int), .int .u16 (y.mode:Int), .int .u32 (y.uid:Int), .int .u32 (y.gid:Int), .int .i64 (y.n:Int)], .int .i64 0]) (by simp[results,Tryz.results64,go_sem,vq,y0,y1,y2,y3,y4,z0,z1,z2,z3,z4]) rfl ⟨rfl,((((vp.setCell vl _).setCell vl _).setCell vl _).setCell vl _).setCell vl _⟩
theorem qd (B fs nb c2:Nat) (ad mp:Nat->Nat) (F:List Nd) (ino:Int) (w:World) (h:FsIs w B fs nb c2 ad mp F) (hi:ino<0\/(F.length:Int)<=ino):
  Calls Tryz.prog 64 #[.pointer (some ⟨fs,0,none⟩), .int .i64 ino] w fun e w'=>e= .returned (.tuple #[.agg #[.int .u8 0, .int .u16 0, .int .u32 0, .int .u32 0, .int .i64 0], .int .i64 3])/\Below w.heap.size w w':=by
 obtain⟨w0,vo⟩: ∃w0,w0=w.alloc (.cells #[.int .u8 0, .int .u16 0, .int .u32 0, .int .u32 0, .int .i64 0] 103):=⟨_,rfl⟩;have vp:Below w.heap.size w w0:=(by rw[vo];exact uM);have hM:w0.heap[w.heap.size]? =some (.cells #[.int .u8 0, .int .u16 0, .int .u32 0, .int .u32 0, .int .i64 0] 103 (0,0)):=(by rw[vo];exact ab w _);have hF:=h.below vp;have y0:w0.cell? ⟨w.heap.size,0,none⟩=some (.int .u8 0):=aa hM 0;have y1:w0.cell? ⟨w.heap.size,1,none⟩=some (.int .u16 0):=aa hM 1;have y2:w0.cell? ⟨w.heap.size,2,none⟩=some (.int .u32 0):=aa hM 2;have y3:w0.cell? ⟨w.heap.size,3,none⟩=some (.int .u32 0):=aa hM 3;have y4:w0.cell? ⟨w.heap.size,4,none⟩=some (.int .i64 0):=aa hM 4;have z0:=ae hM 0;have z1:=ae hM 1;have z2:=ae hM 2;have z3:=ae hM 3;have z4:=ae hM 4;have vq:=(uJ hM).1;have AE: ∀W,W=w0->Calls Tryz.prog 106 #[.pointer (some ⟨fs,0,none⟩), .int .i64 ino] W fun e w'=>e= .returned .nilIface/\W=w':=fun W hW=>by
  subst hW;exact(fnode_no B fs nb c2 ad mp F ino _ hF hi).mono fun e w' ⟨h1,h2⟩=>⟨h1,h2.symm⟩
 have Ih:=uK AE;have vR:=uK vo;clear h hF vo hM AE hi;go_enter Tryz.func64,Tryz.ntmps64;go_upto_region 1 with(fail);rw[<-vR.out];go_wp2_with (first
  |(go_at_call 106;refine(Ih.out _ rfl).mono ?_;rintro e w1 ⟨rfl,rfl⟩)
  |fail)
 have vl:w.heap.size<=w.heap.size:=uN _;exact bodyPost_ret (v:= .tuple #[.agg #[.int .u8 0, .int .u16 0, .int .u32 0, .int .u32 0, .int .i64 0], .int .i64 3]) (by simp[results,Tryz.results64,go_sem,vq,y0,y1,y2,y3,y4,z0,z1,z2,z3,z4]) rfl ⟨rfl,((((vp.setCell vl _).setCell vl _).setCell vl _).setCell vl _).setCell vl _⟩
end
section
open Go.RowKit Go.Sort
theorem ub (v:Value) (w:World):(Instr.typeAssert (.iface 163 v) 189 225 true).run Tryz.prog w= .ok (.tuple #[.pointer none, .bool false]) w:=by kernel_rfl
theorem ua (v:Value) (w:World):(Instr.typeAssert (.iface 228 v) 189 225 true).run Tryz.prog w= .ok (.tuple #[.pointer none, .bool false]) w:=by kernel_rfl
theorem iN (k a:Nat) (w:World):(Instr.typeAssert (.iface (tyOf k) (.pointer (some ⟨a,0,none⟩))) 189 225 true).run Tryz.prog w= .ok (.tuple #[if k=1 then .pointer (some ⟨a,0,none⟩)else .pointer none, .bool (decide (k=1))]) w:=by
 unfold tyOf;by_cases h2:k=2
 ·subst h2;exact ub _ w
 ·rw[if_neg h2];by_cases h1:k=1
  ·subst h1;exact pi _ w
  ·rw[if_neg h1,if_neg h1,va h1];exact ua _ w
def iS (F:List Nd) (ino:Int) (off:Nat):Int×Nat×(Nat->Nat):=
 if ino<0\/(F.length:Int)<=ino then(3,0,fun _ =>0)
 else match F[ino.toNat]? with
  |none=>(3,0,fun _ =>0)
  |some y=>if y.kind=2 then(9,0,fun _ =>0)else if y.kind=1 then(0,min 4096 (y.n-off),fun i=>y.dat (off+i))else(1,0,fun _ =>0)
def eS (w:World) (r:Int×Nat×(Nat->Nat)) (e:Ending) (w':World):Prop:=
 ∃A cap,e= .returned (.tuple #[.slice A r.2.1 cap, .int .i64 r.1])/\aw w' A r.2.1 r.2.2/\(∀x,A=some x->0<r.2.1->w.heap.size<=x.block)/\Below w.heap.size w w'/\OwnB w' w.heap.size A cap r.2.1 r.2.2
theorem jb (w:World) (base:Nat) (d:Nat->Nat):OwnB w base none 0 0 d:=⟨rfl, .inl ⟨rfl,rfl⟩⟩
variable {w:World}
theorem sV {base:Nat} (d:Nat->Nat) (h:base<=w.heap.size):OwnB (w.alloc (.cells #[] 5)) base (some ⟨w.heap.size,0,none⟩) 0 0 d:=((OwnB.none_made w).lower h).congr fun i hi=>absurd hi (by omega)
theorem fread_no (B fs nb c2 off:Nat) (ad mp:Nat->Nat) (F:List Nd) (ino:Int) (w:World) (h:FsIs w B fs nb c2 ad mp F) (hi:ino<0\/(F.length:Int)<=ino):
  Calls Tryz.prog 233 #[.pointer (some ⟨fs,0,none⟩), .int .i64 ino, .int .i64 (off:Int), .int .i64 4096] w (eS w (3,0,fun _ =>0)):=by
 have hm:=qd B fs nb c2 ad mp F ino w h hi;have HM:=uK hm;clear hm h hi;go_enter Tryz.func233,Tryz.ntmps233;go_wp2_with fail;refine(HM.out).mono ?_;rintro e w1 ⟨rfl,vl⟩;go_wp2_with fail;go_ret2;exact⟨none,0,rfl,(fun h=>by cases h),(fun x hx=>by cases hx),vl.trans (uM.mono vl.size),jb _ _ _⟩
theorem tA (B fs nb c2 off i:Nat) (ad mp:Nat->Nat) (F:List Nd) (y:Nd) (w:World) (h:FsIs w B fs nb c2 ad mp F) (hy:F[i]? =some y) (hk:y.kind=2):
  Calls Tryz.prog 233 #[.pointer (some ⟨fs,0,none⟩), .int .i64 (i:Int), .int .i64 (off:Int), .int .i64 4096] w (eS w (9,0,fun _ =>0)):=by
 have hm:=gN B fs nb c2 i ad mp F y w h hy;unfold metaV at hm;rw[hk]at hm;have HM:=uK hm;clear hm h hy hk;go_enter Tryz.func233,Tryz.ntmps233;go_wp2_with fail;refine(HM.out).mono ?_;rintro e w1 ⟨rfl,vl⟩;go_wp2_with fail;go_ret2;exact⟨none,0,rfl,(fun h=>by cases h),(fun x hx=>by cases hx),vl.trans (uM.mono vl.size),jb _ _ _⟩
theorem rm (B fs nb c2 off i:Nat) (ad mp:Nat->Nat) (F:List Nd) (y:Nd) (w:World) (h:FsIs w B fs nb c2 ad mp F) (hy:F[i]? =some y) (hk:y.kind=3):
  Calls Tryz.prog 233 #[.pointer (some ⟨fs,0,none⟩), .int .i64 (i:Int), .int .i64 (off:Int), .int .i64 4096] w (eS w (1,0,fun _ =>0)):=by
 have IG:=(List.getElem?_eq_some_iff.1 hy).1;have hm:=gN B fs nb c2 i ad mp F y w h hy;unfold metaV at hm;rw[hk]at hm;have Jf:=ga hy;rw[hk]at Jf;have WA:=fun W=>iN 3 (ad i) W;have FM: ∀W,Below w.heap.size w W->Calls Tryz.prog 106 #[.pointer (some ⟨fs,0,none⟩), .int .i64 (i:Int)] W fun e w'=>e= .returned (.iface (tyOf 3) (.pointer (some ⟨ad i,0,none⟩)))/\w'=W:=fun W hW=>by
  have h9:=jW B fs nb c2 i ad mp F W (h.below hW) IG;rw[Jf]at h9;exact h9
 have HM:=uK hm;have Ih:=uK FM;rw[if_neg (by decide),va (by decide)]at WA;clear hm h hy hk IG FM Jf;go_enter Tryz.func233,Tryz.ntmps233;go_wp2_with fail;refine(HM.out).mono ?_;rintro e w1 ⟨rfl,vl⟩;have IM:Below w.heap.size w (w1.alloc (.cells #[.int .u8 3, .int .u16 (y.mode:Int), .int .u32 (y.uid:Int), .int .u32 (y.gid:Int), .int .i64 (y.n:Int)] 103)):=vl.trans (uM.mono vl.size);have EF:=uK IM;clear IM;go_wp2_with (first
  |(go_at_call 106;refine(Ih.out _ EF.out).mono ?_;rintro e w3 ⟨rfl,rfl⟩)
  |fail)
 go_ret2;exact⟨none,0,rfl,(fun h=>by cases h),(fun x hx=>by cases hx),EF.out,jb _ _ _⟩
theorem ro (B fs nb c2 off i:Nat) (ad mp:Nat->Nat) (F:List Nd) (y:Nd) (w:World) (h:FsIs w B fs nb c2 ad mp F) (hy:F[i]? =some y) (hk:y.kind=1) (hp:off<=65536):
  Calls Tryz.prog 233 #[.pointer (some ⟨fs,0,none⟩), .int .i64 (i:Int), .int .i64 (off:Int), .int .i64 4096] w (eS w (0,min 4096 (y.n-off),fun j=>y.dat (off+j))):=by
 have IG:=(List.getElem?_eq_some_iff.1 hy).1;have hm:=gN B fs nb c2 i ad mp F y w h hy;unfold metaV at hm;rw[hk]at hm;have Jf:=ga hy;rw[hk]at Jf;obtain⟨a,ha⟩: ∃a,a=ad i:=⟨_,rfl⟩;have WA:=fun W=>iN 1 a W;have FM: ∀W,Below w.heap.size w W->Calls Tryz.prog 106 #[.pointer (some ⟨fs,0,none⟩), .int .i64 (i:Int)] W fun e w'=>e= .returned (.iface (tyOf 1) (.pointer (some ⟨a,0,none⟩)))/\w'=W:=fun W hW=>by
  have h9:=jW B fs nb c2 i ad mp F W (h.below hW) IG;rw[Jf,<-ha]at h9;exact h9
 have hn:=(h.ok.each i y hy).few;obtain⟨n,XQ⟩: ∃n,n=y.n:=⟨_,rfl⟩;obtain⟨T,tail,hN,_,h1,_⟩:=h.node i y hy;obtain⟨_,A,cd,rfl,hA,Zk,Fi,Pb⟩:=h1 hk;rw[<-ha,<-XQ]at hN;rw[<-XQ]at hm hA Fi Pb hn⊢;rw[if_pos rfl,vb rfl]at WA;have De: ∀x,A=some x->x.block<w.heap.size:=fun x hx=>by
  obtain⟨g,cs,f,e,hg⟩:=Zk x hx;subst e;exact(uJ hg).1
 have hau:a<w.heap.size:=(uJ hN).1;have xt:A=none\/ ∃g,A=some ⟨g,0,none⟩:=by
  cases A with
  |none=>exact .inl rfl
  |some x=>obtain⟨g,cs,f,e,hg⟩:=Zk x rfl;exact .inr ⟨g,by rw[e]⟩
 have HM:=uK hm;have Ih:=uK FM;have HN:=uK hN;have HA:=uK hA;have QZ:=uK De;clear hm h hy hk IG FM Jf hN hA De h1 Zk ha XQ;by_cases yO:n<=off
 ·have i2:min (off:Int) (n:Int)=(n:Int):=(by omega);have i3:min (4096:Int) 0=0:=(by omega);have zb:min 4096 (n-off)=0:=(by omega);rw[zb];unfold eS;clear zb;go_enter Tryz.func233,Tryz.ntmps233;go_wp2_with fail;refine(HM.out).mono ?_;rintro e w1 ⟨rfl,vl⟩;obtain⟨w2,we⟩: ∃w2,w2=w1.alloc (.cells #[.int .u8 1, .int .u16 (y.mode:Int), .int .u32 (y.uid:Int), .int .u32 (y.gid:Int), .int .i64 (n:Int)] 103):=⟨_,rfl⟩;have vs:Below w1.heap.size w1 w2:=(by rw[we];exact uM);have hM:w2.heap[w1.heap.size]? =some (.cells #[.int .u8 1, .int .u16 (y.mode:Int), .int .u32 (y.uid:Int), .int .u32 (y.gid:Int), .int .i64 (n:Int)] 103 (0,0)):=(by rw[we];exact ab _ _);have IM:Below w.heap.size w w2:=vl.trans (vs.mono vl.size);have x8:w2.cell? ⟨a,8,none⟩=some (.slice _ n cd):=(IM.cell (p:=⟨a,8,none⟩) hau).trans (aa HN.out 8);have m0:w2.cell? ⟨w1.heap.size,0,none⟩=some (.int .u8 1):=aa hM 0;have Di:=uK we;have EF:=uK IM;clear we hM vs IM;rcases xt with rfl|⟨g,rfl⟩
  ·have Kc:=Pb rfl;have x9:w2.cell? ⟨a,8,none⟩=some (.slice none 0 0):=(by rw[x8,Kc.1,Kc.2]);have i5:min (off:Int) 0=0:=(by omega);clear x8 Kc i2;go_upto_region 2 with(fail);rw[<-Di.out];go_wp2_with (first
    |(go_at_call 106;refine(Ih.out _ EF.out).mono ?_;rintro e w3 ⟨rfl,rfl⟩)
    |fail)
   go_region_held3 (fun w'=>w'.cell? ⟨a,8,none⟩=some (.slice none 0 0)) (go_keep) (fail);go_wp2_with fail
   all_goals
    refine(gU _).mono ?_;rintro e w5 ⟨rfl,rfl⟩;go_wp2_with fail;go_ret2;exact⟨none,0,rfl,fun h=>absurd h (by omega),fun x hx=>(by cases hx),EF.out.trans (((vj _ _).drew).mono EF.out.size),jb _ _ _⟩
  ·go_upto_region 2 with(fail);rw[<-Di.out];go_wp2_with (first
    |(go_at_call 106;refine(Ih.out _ EF.out).mono ?_;rintro e w3 ⟨rfl,rfl⟩)
    |fail)
   go_region_held3 (fun w'=>w'.cell? ⟨a,8,none⟩=some (.slice (some ⟨g,0,none⟩) n cd)) (go_keep) (fail);go_wp2_with fail
   all_goals
    refine(jZ _ _ _).mono ?_;rintro e w5 ⟨rfl,rfl⟩;go_wp2_with fail;go_ret2;exact⟨_,0,rfl,fun h=>absurd h (by omega),fun x hx h=>absurd h (by omega),EF.out.trans (((vj _ _).drew.trans uM).mono EF.out.size),sV _ EF.out.size⟩
 ·obtain⟨k,hk⟩: ∃k:Nat,k=min 4096 (n-off):=⟨_,rfl⟩;obtain⟨g,rfl⟩: ∃g,A=some ⟨g,0,none⟩:=by
   rcases xt with rfl|h9
   ·have:=Pb rfl;omega
   ·exact h9
  have zb:0<k:=(by omega);have hkf:k<=4096:=(by omega);have i0:(off:Int)<=(n:Int):=(by omega);have i1:off<cd:=(by omega);have i2:min (off:Int) (n:Int)=(off:Int):=(by omega);have i3:min (4096:Int) ((n-off:Nat):Int)=(k:Int):=(by omega);have i4:(k:Int)<=((n-off:Nat):Int):=(by omega);unfold eS;rw[<-hk];go_enter Tryz.func233,Tryz.ntmps233;go_wp2_with fail;refine(HM.out).mono ?_;rintro e w1 ⟨rfl,vl⟩;obtain⟨w2,we⟩: ∃w2,w2=w1.alloc (.cells #[.int .u8 1, .int .u16 (y.mode:Int), .int .u32 (y.uid:Int), .int .u32 (y.gid:Int), .int .i64 (n:Int)] 103):=⟨_,rfl⟩;have vs:Below w1.heap.size w1 w2:=(by rw[we];exact uM);have hM:w2.heap[w1.heap.size]? =some (.cells #[.int .u8 1, .int .u16 (y.mode:Int), .int .u32 (y.uid:Int), .int .u32 (y.gid:Int), .int .i64 (n:Int)] 103 (0,0)):=(by rw[we];exact ab _ _);have IM:Below w.heap.size w w2:=vl.trans (vs.mono vl.size);have x8:w2.cell? ⟨a,8,none⟩=some (.slice _ n cd):=(IM.cell (p:=⟨a,8,none⟩) hau).trans (aa HN.out 8);have m0:w2.cell? ⟨w1.heap.size,0,none⟩=some (.int .u8 1):=aa hM 0;have Di:=uK we;have EF:=uK IM;clear we hM vs IM;have Ho:g<w.heap.size:=QZ.out _ rfl;have TC:g<w2.heap.size:=uR Ho EF.out.size;have IS:aw w2 (some ⟨g,off,none⟩) k (fun j=>y.dat (off+j)):=by
   intro _;refine⟨_,rfl,fun j hj=>?_⟩;obtain⟨x,h1,h2⟩:=(HA.out.below EF.out QZ.out) (by omega);injection h1 with h1;subst h1;have h3:=h2 (off+j) (by omega);rw[Addr.add_mid]at h3⊢;rw[Nat.zero_add]at h3;exact h3
  have Rc:=uK IS;clear IS hk xt;go_upto_region 2 with(fail);rw[<-Di.out];go_wp2_with (first
   |(go_at_call 106;refine(Ih.out _ EF.out).mono ?_;rintro e w3 ⟨rfl,rfl⟩)
   |fail)
  go_region_held3 (fun w'=>w'.cell? ⟨a,8,none⟩=some (.slice (some ⟨g,0,none⟩) n cd)) (go_keep) (fail);go_wp2_with fail;have NO:Below w3.heap.size w3 w3.drew:=(vj _ _).drew;refine(ka k (cd-off) ⟨g,off,none⟩ (fun j=>y.dat (off+j)) _ zb (by omega) (Rc.out.below NO (fun x hx=>by injection hx with hx;subst hx;exact TC)) TC).mono ?_;rintro e w5 ⟨g5,AK,rfl,xW,Ao⟩;have Dx:=xW.form.1;have Yv:w.heap.size<=g5:=vh EF.out.size Dx;have CS:=uK xW;clear xW Dx;go_wp2_with fail;go_ret2;exact⟨_,AK,rfl,CS.out.v,(fun x hx _ =>by injection hx with hx;subst hx;exact Yv),EF.out.trans ((NO.trans Ao).mono EF.out.size),CS.out.lower EF.out.size⟩
theorem tB (B fs nb c2 off:Nat) (ad mp:Nat->Nat) (F:List Nd) (ino:Int) (w:World) (h:FsIs w B fs nb c2 ad mp F) (hp:off<=65536):
  Calls Tryz.prog 233 #[.pointer (some ⟨fs,0,none⟩), .int .i64 ino, .int .i64 (off:Int), .int .i64 4096] w (eS w (iS F ino off)):=by
 unfold iS;by_cases hi:ino<0\/(F.length:Int)<=ino
 ·rw[if_pos hi];exact fread_no B fs nb c2 off ad mp F ino w h hi
 ·rw[if_neg hi];obtain⟨i,rfl⟩: ∃i:Nat,ino=(i:Int):=⟨ino.toNat,by omega⟩;have IG:i<F.length:=(by omega);rw[Int.toNat_natCast];obtain⟨y,hy,_⟩:=kJ IG;rw[hy];have hk:=(h.ok.each i y hy).kind;simp only;rcases(by omega:y.kind=2\/y.kind=1\/y.kind=3)with e|e|e
  ·rw[if_pos e];exact tA B fs nb c2 off i ad mp F y w h hy e
  ·rw[if_neg (by omega),if_pos e];exact ro B fs nb c2 off i ad mp F y w h hy e hp
  ·rw[if_neg (by omega),if_neg (by omega)];exact rm B fs nb c2 off i ad mp F y w h hy e
theorem read_is {B fs nb c2 off:Nat} {ad mp:Nat->Nat} {F:List Nd} {ino:Int} (h:FsIs w B fs nb c2 ad mp F) (hp:off<=65536):nP w fs ino (off:Int) (iS F ino off).1 (iS F ino off).2.1 (iS F ino off).2.2:=
 (tB B fs nb c2 off ad mp F ino w h hp).mono fun e w' ⟨A,cap,h1,h2,h3,h4,_⟩=>⟨A,cap,h1,h2,h3,h4⟩
end
