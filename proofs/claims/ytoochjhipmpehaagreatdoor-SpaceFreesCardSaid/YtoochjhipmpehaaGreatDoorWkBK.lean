/- The spaces' statements: works. -/
import Derived.Test.YtoochjhipmpehaaGreatDoorWkAK
set_option linter.unusedVariables false
set_option linter.unusedSimpArgs false
set_option maxRecDepth 100000
set_option maxHeartbeats 8000000
namespace Go.Proofs.YtoochjhipmpehaaGreatDoor
section
open Go.RowKit Go.Sort
variable {fs a c m:Nat} {S:Nat->Prop} {F:List Nd}
theorem np {w1 w3:World} {nb c2 n B1:Nat} {ad mp:Nat->Nat} (hF:FsIs w1 B1 fs nb c2 ad mp F) (hb:Below w1.heap.size w1 w3) (hC:ap w3 S c a fs m 0 (fresh n) []) (hBF:gY F) (hS: ∀b,S b->w1.heap.size<=b) (hc:w1.heap.size<=c) (hm:w1.heap.size<=m) (h0:0<w1.heap.size) (hn:n<=1024):Hse w3 w1.heap.size c a fs m S F 0 (fresh n) [] []:=by
 refine⟨⟨hC,⟨w1,B1,nb,c2,ad,mp,rfl,hF,hb⟩,hBF,hS,hc,hm,h0⟩,Hs.start F n hn,fun k x h=>?_,fun j k x y _ h=>?_,fun k x h=>?_⟩<;>(rw[List.getElem?_nil]at h;cases h)
variable {w:World} {B:Nat} {clock:Int} {p:Pool} {L:List Slot} {l:List SpM}
theorem Hse.footLow (h:Hse w B c a fs m S F clock p L l): ∀b,av S c m b->B<=b:=fun b e=>by
 rcases e with e|e|e
 ·exact h.home.low b e
 ·rw[e];exact h.home.lows.2.1
 ·rw[e];exact h.home.lows.1
variable {w':World}
theorem Hse.goes {w0:World} (h:Hse w B c a fs m S F clock p L l) (hB:w0.heap.size<=B) (hb:Below w0.heap.size w0 w) (hm:Mod (av S c m) w w'):Below w0.heap.size w0 w':=hb.trans (hm.below (fun b e=>vh hB (h.footLow b e)) hb.size)
variable {base cap k:Nat} {d:Nat->Nat}
theorem OwnB.foot {g:Nat} (h:OwnB w base (some ⟨g,0,none⟩) cap k d) (hS: ¬S g) (hc:c<base) (hm:m<base) (hM:Mod (av S c m) w w'):OwnB w' base (some ⟨g,0,none⟩) cap k d:=h.sameR fun g' e=>by
 injection e with e;injection e with e;subst e;have h1:=h.form;exact hM.block g h1.2 (fun e=>e.elim hS fun e=>e.elim (fun e=>by omega) (fun e=>by omega))
theorem OwnB.some_of {A:Option Addr} (h:OwnB w base A cap k d) (hk:0<k): ∃g,A=some ⟨g,0,none⟩:=by
 rcases h.2 with⟨h1,_⟩|⟨g,vk,cur,h1,_⟩
 ·exfalso;have h2:=h.1;injection h1 with e1 e2 e3;rw[e2]at hk;cases hk
 ·injection h1 with e1 e2 e3;exact⟨g,e1⟩
theorem entA_at {b e:Nat} (hE:w.heap[e]? =some (.cells #[.string ⟨#[47,97]⟩, .int .u8 1, .int .u16 420, .int .u32 0, .int .u32 0, .slice (some ⟨b,0,none⟩) 1 1, .string ⟨#[]⟩] 93 (0,0))) (hD:w.heap[b]? =some (.cells #[.int .u8 7] 5 (0,0))):fV w (some ⟨e,0,none⟩) [entA]:=by
 intro j x hj;cases j with
 |succ j=>rw[List.getElem?_cons_succ,List.getElem?_nil]at hj;cases hj
 |zero=>
  rw[List.getElem?_cons_zero]at hj;injection hj with hj;subst hj;refine⟨e,some ⟨b,0,none⟩,1,rfl,(uJ hE).1,⟨aa hE 0,aa hE 1,aa hE 2,aa hE 3,aa hE 4,aa hE 5,aa hE 6⟩,⟨by decide,by decide,by decide,?_,fun e=>by cases e⟩⟩;exact fun _ =>⟨_,rfl,fun j hj=>by
   have DX:j<1:=hj;obtain rfl:j=0:=(by omega);exact aa hD 0⟩
theorem nY (w:World) (Au:DB w) (vo:0<w.heap.size):Calls Tryz.prog 10 #[] w fun e w'=>e= .returned (.bool true)/\Below w.heap.size w w':=by
 obtain⟨w0,Ae⟩: ∃w0,w0=((w.alloc (.cells #[.int .u8 7] 5)).alloc (.cells #[.string ⟨#[47,97]⟩, .int .u8 1, .int .u16 420, .int .u32 0, .int .u32 0, .slice (some ⟨w.heap.size,0,none⟩) 1 1, .string ⟨#[]⟩] 93)):=⟨_,rfl⟩;have vp:Below w.heap.size w w0:=(by rw[Ae];exact uM.alloc (by simp) _);have hE:w0.heap[w.heap.size+1]? =some (.cells #[.string ⟨#[47,97]⟩, .int .u8 1, .int .u16 420, .int .u32 0, .int .u32 0, .slice (some ⟨w.heap.size,0,none⟩) 1 1, .string ⟨#[]⟩] 93 (0,0)):=by
  rw[Ae];have e:(w.alloc (.cells #[.int .u8 7] 5)).heap.size=w.heap.size+1:=(by simp);rw[<-e];exact ab _ _
 have hD:w0.heap[w.heap.size]? =some (.cells #[.int .u8 7] 5 (0,0)):=(by rw[Ae];exact(uO _ _ _ (by simp)).trans (ab w _));have hnew:=jo (some ⟨w.heap.size+1,0,none⟩) 1 [entA] w0 (entA_at hE hD) (by decide) (by decide) entA_ok;have yG:=uK hnew;have vR:=uK Ae;have wI:=uK vp;have EE:=uK Au;clear hnew Ae vp Au hE hD;go_enter Tryz.func10,Tryz.ntmps10;go_upto_region 8 with(first
  |(go_at_call 37;rw[<-vR.out];refine(yG.out).mono ?_;rintro e w1 ⟨fs,rfl,hF,vl⟩;have BE:=wI.out.trans (vl.mono wI.out.size);have HF:=uK hF;have vu:=uK BE;have HDB1:=uK (EE.out.same (BE.block 0 vo));have vz:=BE.size;clear hF vl BE)
  |(go_at_call 38;refine(lK 16 _ (by omega) (by omega) HDB1.out (by omega)).mono ?_;rintro e w2 ⟨a,S,rfl,hP,vs,Bu⟩;have HP:=uK hP;have xi:=uK vs;have IW:=uK Bu;have vS:=vs.size;clear hP vs Bu)
  |(go_at_call 39;refine(qg a fs _ S (fresh 16) HP.out).mono ?_;rintro e w3 ⟨c,m,rfl,hC,vx,YF,wP⟩;have HC:=uK hC;have yT:=uK vx;have xI:=vx.size;clear hC vx))
 obtain⟨nb,c2,adf,mpf,hF⟩:=HF.out;have AF:=tI;have h3:Hse w3 w1.heap.size c a fs m S (dz [entA]) 0 (fresh 16) [] []:=np hF (xi.out.trans (yT.out.mono vS)) HC.out (gP (fun x hx=>by rw[List.mem_singleton]at hx;subst hx;exact fun i=>by show 7<256;omega)) IW.out (by omega) (by omega) (by omega) (by omega);obtain⟨F,Og⟩: ∃F,F=dz [entA]:=⟨_,rfl⟩;rw[<-Og]at h3 AF;clear Og;have MX:=uK AF;have hn:=hnew h3;have HN:=uK hn;have H3:=uK h3;have AR:w.heap.size<=w1.heap.size:=(by have:=wI.out.size;omega);have hcB:w1.heap.size<=c/\w1.heap.size<=m/\c<w3.heap.size/\m<w3.heap.size:=⟨by omega,by omega,h3.home.lts.1,h3.home.lts.2.1⟩;have Qt:Below w.heap.size w w3:=vu.out.trans ((xi.out.trans (yT.out.mono vS)).mono (by omega));have Wi:=uK Qt;have wX:w.heap.size<=w3.heap.size:=Qt.size;clear hF AF h3 hn HF HP HC xi yT IW yG vR wI vu Qt YF wP;go_wp2_with fail;refine(HN.out).mono ?_;rintro e w4 (⟨s,t,f,p4,L4,S4,rfl,h4,wH,At,XG,Wp⟩|⟨f,p4,L4,S4,rfl,h4,wH,At,Wp,_⟩)
 rotate_left
 ·obtain⟨h,_⟩:=Wp.first (iK (by omega:1<=16));cases h
 obtain⟨_,PL,JY,hL4⟩:=Wp.first (iK (by omega:1<=16));have EX:p4.n=16:=(by rw[JY];rfl);obtain⟨x4,zK⟩: ∃x4:SpM,x4=⟨s,t,f,none,0,0,[],some (aJ f)⟩:=⟨_,rfl⟩;rw[<-zK]at h4;have Br:([]++[x4])[0]? =some x4:=rfl;have Cm:x4.T=some (aJ f):=(by rw[zK]);have Pe:x4.s=s:=(by rw[zK]);have Ph:x4.rl=[]:=(by rw[zK]);have SB:=wk_rgs MX.out;have BA:=hmap h4 Br Cm rA rA_ok (fun _ _ =>by rw[Ph,pP];exact SB);rw[Pe]at BA;have H4:=uK h4;have FB:=uK wH;have yp:=uK At;have HMP:=uK BA;have QY:=uK (H3.out.goes AR Wi.out wH);have AS:=uK (And.intro Cm (And.intro Pe Ph));clear BA h4 wH At Wp zK Br Cm Pe Ph JY hL4 HN SB FB yp H3 Wi;go_wp2_with fail;refine(HMP.out).mono ?_;rintro e w5 (⟨er,rfl,g1,g2,_,_⟩|⟨rfl,Lw,A5,AK,p5,T5,h5,wy,_,hwp⟩)
 ·rw[AS.out.2.2,rO MX.out]at g2;exact absurd g2 g1
 clear Lw;obtain⟨SU,Nw⟩:=wk_wiped (H4.out.sp (k:=0) rfl AS.out.1) hwp EX;obtain⟨x5,xk⟩: ∃x5,x5=x4.withR A5 AK (Rg.put x4.rl rA).1 T5:=⟨_,rfl⟩;rw[<-xk]at h5;change Hse w5 w1.heap.size c a fs m S4 F 0 p5 L4 [x5]at h5;have RD:x5.T=some T5:=(by rw[xk];rfl);have JJ:x5.s=s:=(by rw[xk];exact AS.out.2.1);have SA:x5.rl=[rA]:=(by rw[xk];show(Rg.put x4.rl rA).1=_;rw[AS.out.2.2,pP]);have To:x5.n=1:=(by rw[xk];show(Rg.put x4.rl rA).1.length=_;rw[AS.out.2.2,pP];rfl);have Ko:=jR h5 (k:=0) rfl RD (by simp) 4096 2 4 (by decide) ⟨by decide,by decide⟩;rw[JJ]at Ko;have US:Below w.heap.size w w5:=QY.out.trans (wy.below (fun b e=>vh AR (e.elim (H4.out.footLow b) (fun e=>by rw[AS.out.2.1]at e;omega))) QY.out.size);have H5:=uK h5;have Wh:=uK US;have Dh:=uK (And.intro RD (And.intro JJ (And.intro SA To)));have Vu:=uK SU;have VE:=uK Ko;clear h5 US RD JJ SA To SU xk wy hwp Ko HMP H4 AS QY EX;go_wp2_with fail;refine(iU _ _ _ _ _ ((VE.out).mono ?_));rintro e w6 ⟨er,R6,kk,cp6,d6,p6,L6,T6,UW,S6,rfl,h6,zN,BZ,q1,q2,BX,⟨Ta,_⟩,JR⟩;rw[Dh.out.2.2.1]at JR;obtain⟨rfl,rfl,YC,YB,hn6,RJ,y6,hy6,NX⟩:=wk_load1 MX.out JR (fun x=>pD x) Nw Vu.out;obtain⟨g6,rfl⟩:=BX.some_of (by decide);have UR:=H5.out.goes AR Wh.out zN;have TH:=Ta g6 rfl;obtain⟨x6,Rk⟩: ∃x6,x6=x5.withT T6:=⟨_,rfl⟩;rw[<-Rk]at h6;change Hse w6 w1.heap.size c a fs m S6 F UW p6 L6 [x6]at h6;have Qg:x6.T=some T6:=(by rw[Rk];rfl);have XF:x6.s=s:=(by rw[Rk];exact Dh.out.2.1);have Sz:x6.rl=[rA]:=(by rw[Rk];exact Dh.out.2.2.1);have Kk:x6.n=1:=(by rw[Rk];exact Dh.out.2.2.2);have PK:=hfork h6 (k:=0) rfl Qg (by simp) (by rw[Kk];decide);rw[XF]at PK;have hg6b:=BX.form;have Ms:c<w5.heap.size/\m<w5.heap.size:=⟨H5.out.home.lts.1,H5.out.home.lts.2.1⟩;refine⟨⟨_,_,rfl⟩,?_⟩;have H6:=uK h6;have Wg:=uK UR;have IU:=uK (And.intro Qg (And.intro XF (And.intro Sz Kk)));have VQ:=uK PK;have CD:=uK BX;have QN:=uK RJ;have WO:=uK hy6;have OG:=uK NX;clear h6 UR Qg XF Sz Kk PK BX RJ hy6 NX Rk zN BZ JR Ta VE H5 Dh Vu Wh Nw;go_wp2_with fail;refine(VQ.out).mono ?_;rintro e w7 (⟨p7,L7,S7,rfl,h7,xj,SQ,XP⟩|⟨s7,t7,f7,A7,La,p7,L7,T7,U7,S7,rfl,h7,xj,SQ,hs7,PM⟩)
 ·exact(wk_fork (H6.out.sp (k:=0) rfl IU.out.1) XP (fun x=>pD x) hn6 QN.out).elim
 have Qs:=H6.out.goes AR Wg.out xj;have Ka:=CD.out.foot TH Ms.1 Ms.2 xj;have Yt: ¬S7 g6:=fun e=>(SQ g6 e).elim TH (fun e=>by omega);have hn7:p7.n=16:=(by rw[(PM.far (fun _ =>False)).n,hn6]);have Qo: ∀g y,T7.lf g=some y->g=1:=fun g y hy=>by
  rw[PM.lf1 g]at hy;cases hl:T6.lf g with
  |none=>rw[hl]at hy;cases hy
  |some z=>exact QN.out g z hl
 have hGU: ∀g y,U7.lf g=some y->g=1:=fun g y hy=>by
  rw[PM.lf2 g]at hy;cases hl:T6.lf g with
  |none=>rw[hl]at hy;cases hy
  |some z=>exact QN.out g z hl
 have hyT:T7.lf 1=some (cpy y6):=(by rw[PM.lf1,WO.out];rfl);have hyU:U7.lf 1=some (cpy y6):=(by rw[PM.lf2,WO.out];rfl);have NV:p7.dat y6.frame 0=7:=(by rw[PM.dat y6.frame ((H6.out.sp (k:=0) rfl IU.out.1).leaf WO.out).2.2.2.2.1];exact OG.out);obtain⟨x7,OM⟩: ∃x7,x7=x6.withT T7:=⟨_,rfl⟩;obtain⟨u7,Sc⟩: ∃u7:SpM,u7=⟨s7,t7,f7,A7,x6.n,La,x6.rl,some U7⟩:=⟨_,rfl⟩;rw[<-OM,<-Sc]at h7;change Hse w7 w1.heap.size c a fs m S7 F UW p7 L7 [x7,u7]at h7;have Qf:x7.T=some T7:=(by rw[OM];rfl);have OL:x7.s=s:=(by rw[OM];exact IU.out.2.1);have Ng:x7.rl=[rA]:=(by rw[OM];exact IU.out.2.2.1);have hU7:u7.T=some U7:=(by rw[Sc]);have Sb:u7.s=s7:=(by rw[Sc]);have Nj:u7.rl=[rA]:=(by rw[Sc];exact IU.out.2.2.1);have Fq:Below w7.heap.size w7 (w7.alloc (.cells #[.int .u8 9] 5)):=uM;obtain⟨w8,Sa⟩: ∃w8,w8=w7.alloc (.cells #[.int .u8 9] 5):=⟨_,rfl⟩;rw[<-Sa]at Fq;have Zg:w8.heap[w7.heap.size]? =some (.cells #[.int .u8 9] 5 (0,0)):=(by rw[Sa];exact ab _ _);have h8:=h7.below Fq;have xL:=nl h8 (k:=0) rfl Qf (by simp) 4096 1 1 2 (some ⟨w7.heap.size,0,none⟩) (fun _ =>9) (by decide) ⟨by omega,by omega⟩ (by decide) (by decide) (fun _ =>⟨_,rfl,fun j hj=>by obtain rfl:j=0:=(by omega);exact aa Zg 0⟩) (fun _ =>by decide) (fun ad e=>by
  injection e with e;subst e;refine⟨(uJ Zg).1,fun e=>?_⟩;have FO:=h7.home.lts;rcases e with e|e|e
  ·have:=FO.2.2 _ e;dsimp only at this;omega
  ·dsimp only at e;omega
  ·dsimp only at e;omega)
 rw[OL]at xL;have H8:=uK h8;have GG:=uK xL;have HW8:=uK Sa;have Wf:=uK (Qs.trans (Fq.mono Qs.size));have Ib:=uK (And.intro Qf (And.intro OL Ng));have RM:=uK (And.intro hU7 (And.intro Sb Nj));have Ot:=uK (Ka.sameR (w':=w8) fun g e=>by injection e with e;injection e with e;subst e;exact Fq.block _ Ka.form.2);have VO:=uK (And.intro Qo hGU);have Zs:=uK (And.intro hyT hyU);have HD7:=uK NV;clear h7 h8 xL Sa Fq Zg Qs Ka PM xj SQ Qo hGU hyT hyU NV OM Sc Qf OL Ng hU7 Sb Nj VQ H6 IU CD QN WO OG Wg;go_upto_region 15 with(first
  |(go_at_call 30;rw[<-HW8.out];refine(mH _ _ _ _ _ ((GG.out).mono ?_));rintro e w9 ⟨er9,p9,L9,T9,Zo,S9,rfl,h9,zy,Ix,q3,q4,Hf⟩;refine⟨⟨_,rfl⟩,?_⟩)
  |fail)
 rw[Ib.out.2.2]at Hf;have OZ:=H8.out.sp (k:=0) rfl Ib.out.1;have JH:=H8.out.sp (k:=1) rfl RM.out.1;have Tq:=Hf.left OZ (H8.out.ownT (k:=0) rfl Ib.out.1);obtain⟨rfl,z9,WY,NU⟩:=wk_store (T2:=U7) OZ Hf rfl (fun x=>by show tnS [none,u7.T] x=_;rw[RM.out.1,tnS_two0]) JH.good.ok VO.out.2 hn7 VO.out.1 Zs.out.1;have NT:p9.dat (cpy y6).frame 0=7:=by
  have xZ:=H8.out.hs.beside (k:=0) (j:=1) (fR (k:=0) (l:=[x7,u7]) rfl Ib.out.1) (fR (k:=1) (l:=[x7,u7]) rfl RM.out.1) (by decide);have h1:=Sp.besideDat xZ (Tq.2.1 (fun _ =>False)) (x:=(cpy y6).frame) (jq (JH.leaf Zs.out.2).2.2.2.2.1);rw[h1];exact HD7.out
 have UQ:=H8.out.goes AR Wf.out zy;have BW:=Ot.out.foot Yt Ms.1 Ms.2 zy;obtain⟨x9,xg⟩: ∃x9,x9=x7.withT T9:=⟨_,rfl⟩;rw[<-xg]at h9;change Hse w9 w1.heap.size c a fs m S9 F Zo p9 L9 [x9,u7]at h9;have hT9:x9.T=some T9:=(by rw[xg];rfl);have RW:x9.s=s:=(by rw[xg];exact Ib.out.2.1);have Nf:x9.rl=[rA]:=(by rw[xg];exact Ib.out.2.2);have Ko:=jR h9 (k:=1) rfl RM.out.1 (by simp) 4096 1 4 (by decide) ⟨by omega,by omega⟩;rw[RM.out.2.1]at Ko;have m0:w9.cell? ⟨g6,0,none⟩=some (.int .u8 7):=(by have:=BW.cell (j:=0) (by decide);rw[YC]at this;exact this);have m1:w9.cell? ⟨g6,1,none⟩=some (.int .u8 0):=(by have:=BW.cell (j:=1) (by decide);rw[YB]at this;exact this);have H9:=uK h9;have VE:=uK Ko;have We:=uK UQ;have Qx:=uK (And.intro hT9 (And.intro RW Nf));have HZ9:=uK WY;have VV:=uK NU;have VU:=uK NT;have TW:c<w9.heap.size/\m<w9.heap.size:=⟨h9.home.lts.1,h9.home.lts.2.1⟩;clear h9 Ko UQ hT9 RW Nf WY NU NT OZ JH Tq Hf BW xg zy Ix H8 Ib VO HD7 Ot Wf GG HW8;go_upto_region 18 with(first
  |(go_at_call 28;refine(iU _ _ _ _ _ ((VE.out).mono ?_));rintro e w10 ⟨er10,R10,k10,cp10,d10,p10,L10,T10,UX,S10,rfl,KZ,yg,Mc,q5,q6,Ah,⟨Nv,_⟩,Gd⟩;refine⟨⟨_,_,rfl⟩,?_⟩)
  |fail)
 rw[RM.out.2.2]at Gd;obtain⟨rfl,rfl,TV,rfl,rfl,rfl⟩:=px Gd Zs.out.2;obtain⟨g10,rfl⟩:=Ah.some_of (by decide);have Oh:=H9.out.goes AR We.out yg;have TJ:=Nv g10 rfl;have hg10b:=Ah.form;obtain⟨u10,Sd⟩: ∃u10,u10=u7.withT T10:=⟨_,rfl⟩;rw[<-Sd]at KZ;change Hse w10 w1.heap.size c a fs m S10 F UX p10 L10 [x9,u10]at KZ;have Ko:=jR KZ (k:=0) rfl Qx.out.1 (by simp) 4096 1 4 (by decide) ⟨by omega,by omega⟩;rw[Qx.out.2.1]at Ko;rw[VU.out]at TV;have H10:=uK KZ;have VD:=uK Ko;have Wj:=uK Oh;have Li:=uK Ah;clear KZ Ko Oh Sd yg Mc Ah Nv Gd VE H9 We m0 m1;go_upto_region 19 with(first
  |(go_at_call 28;refine(iU _ _ _ _ _ ((VD.out).mono ?_));rintro e w11 ⟨er11,R11,k11,cp11,d11,p11,L11,T11,clk11,S11,rfl,Qw,Pv,XN,q7,q8,Gg,⟨Tb,_⟩,Gc⟩;refine⟨⟨_,_,rfl⟩,?_⟩)
  |fail)
 rw[Qx.out.2.2]at Gc;obtain⟨rfl,rfl,TU,rfl,rfl,rfl⟩:=px Gc HZ9.out;obtain⟨g11,rfl⟩:=Gg.some_of (by decide);have UT:=H10.out.goes AR Wj.out Pv;have Ah:=Li.out.foot TJ TW.1 TW.2 Pv;have m0:w11.cell? ⟨g10,0,none⟩=some (.int .u8 7):=(by have:=Ah.cell (j:=0) (by decide);rw[TV]at this;exact this);have m1:w11.cell? ⟨g11,0,none⟩=some (.int .u8 9):=(by have:=Gg.cell (j:=0) (by decide);rw[TU,VV.out]at this;exact this);clear Qw Pv XN Gg Tb Gc TU VD H10 Li Ah;go_wp2_with fail;go_ret;exact⟨rfl,UT⟩
end
