/- The spaces' statements: works. -/
import Derived.Test.YtoochjhipmpehaaGreatDoorWkAK
set_option linter.unusedVariables false
set_option linter.unusedSimpArgs false
set_option maxRecDepth 100000
set_option maxHeartbeats 8000000
namespace Go.Proofs.YtoochjhipmpehaaGreatDoor
section
open Go.RowKit Go.Sort
variable {fs a c m:Nat} {S:Nat->Prop} {F:List Nd}
theorem nt {w1 w3:World} {nb c2 n B1:Nat} {ad mp:Nat->Nat} (hF:FsIs w1 B1 fs nb c2 ad mp F) (hb:Below w1.heap.size w1 w3) (hC:ar w3 S c a fs m 0 (fresh n) []) (hBF:gW F) (hS: ∀b,S b->w1.heap.size<=b) (hc:w1.heap.size<=c) (hm:w1.heap.size<=m) (h0:0<w1.heap.size) (hn:n<=1024):Hse w3 w1.heap.size c a fs m S F 0 (fresh n) [] []:=by
 refine⟨⟨hC,⟨w1,B1,nb,c2,ad,mp,rfl,hF,hb⟩,hBF,hS,hc,hm,h0⟩,Hs.start F n hn,fun k x h=>?_,fun j k x y _ h=>?_,fun k x h=>?_⟩<;>(rw[List.getElem?_nil]at h;cases h)
variable {w:World} {B:Nat} {clock:Int} {p:Pool} {L:List Slot} {l:List SpM}
theorem Hse.footLow (h:Hse w B c a fs m S F clock p L l): ∀b,av S c m b->B<=b:=fun b e=>by
 rcases e with e|e|e
 ·exact h.home.low b e
 ·rw[e];exact h.home.lows.2.1
 ·rw[e];exact h.home.lows.1
variable {w':World}
theorem Hse.goes {w0:World} (h:Hse w B c a fs m S F clock p L l) (hB:w0.heap.size<=B) (hb:Below w0.heap.size w0 w) (hm:Mod (av S c m) w w'):Below w0.heap.size w0 w':=hb.trans (hm.below (fun b e=>ve hB (h.footLow b e)) hb.size)
variable {base cap k:Nat} {d:Nat->Nat}
theorem OwnB.foot {g:Nat} (h:OwnB w base (some ⟨g,0,none⟩) cap k d) (hS: ¬S g) (hc:c<base) (hm:m<base) (hM:Mod (av S c m) w w'):OwnB w' base (some ⟨g,0,none⟩) cap k d:=h.sameR fun g' e=>by
 injection e with e;injection e with e;subst e;have h1:=h.form;exact hM.block g h1.2 (fun e=>e.elim hS fun e=>e.elim (fun e=>by omega) (fun e=>by omega))
theorem OwnB.some_of {A:Option Addr} (h:OwnB w base A cap k d) (hk:0<k): ∃g,A=some ⟨g,0,none⟩:=by
 rcases h.2 with⟨h1,_⟩|⟨g,vh,cur,h1,_⟩
 ·exfalso;have h2:=h.1;injection h1 with e1 e2 e3;rw[e2]at hk;cases hk
 ·injection h1 with e1 e2 e3;exact⟨g,e1⟩
theorem entA_at {b e:Nat} (hE:w.heap[e]? =some (.cells #[.string ⟨#[47,97]⟩, .int .u8 1, .int .u16 420, .int .u32 0, .int .u32 0, .slice (some ⟨b,0,none⟩) 1 1, .string ⟨#[]⟩] 93 (0,0))) (hD:w.heap[b]? =some (.cells #[.int .u8 7] 5 (0,0))):fQ w (some ⟨e,0,none⟩) [entA]:=by
 intro j x hj;cases j with
 |succ j=>rw[List.getElem?_cons_succ,List.getElem?_nil]at hj;cases hj
 |zero=>
  rw[List.getElem?_cons_zero]at hj;injection hj with hj;subst hj;refine⟨e,some ⟨b,0,none⟩,1,rfl,(uG hE).1,⟨aa hE 0,aa hE 1,aa hE 2,aa hE 3,aa hE 4,aa hE 5,aa hE 6⟩,⟨by decide,by decide,by decide,?_,fun e=>by cases e⟩⟩;exact fun _ =>⟨_,rfl,fun j hj=>by
   have Dj:j<1:=hj;obtain rfl:j=0:=(by omega);exact aa hD 0⟩
theorem nP (w:World) (zE:DB w) (vl:0<w.heap.size):Calls Tryz.prog 10 #[] w fun e w'=>e= .returned (.bool true)/\Below w.heap.size w w':=by
 obtain⟨w0,zr⟩: ∃w0,w0=((w.alloc (.cells #[.int .u8 7] 5)).alloc (.cells #[.string ⟨#[47,97]⟩, .int .u8 1, .int .u16 420, .int .u32 0, .int .u32 0, .slice (some ⟨w.heap.size,0,none⟩) 1 1, .string ⟨#[]⟩] 93)):=⟨_,rfl⟩;have vm:Below w.heap.size w w0:=(by rw[zr];exact uJ.alloc (by simp) _);have hE:w0.heap[w.heap.size+1]? =some (.cells #[.string ⟨#[47,97]⟩, .int .u8 1, .int .u16 420, .int .u32 0, .int .u32 0, .slice (some ⟨w.heap.size,0,none⟩) 1 1, .string ⟨#[]⟩] 93 (0,0)):=by
  rw[zr];have e:(w.alloc (.cells #[.int .u8 7] 5)).heap.size=w.heap.size+1:=(by simp);rw[<-e];exact ab _ _
 have hD:w0.heap[w.heap.size]? =some (.cells #[.int .u8 7] 5 (0,0)):=(by rw[zr];exact(uL _ _ _ (by simp)).trans (ab w _));have hnew:=jn (some ⟨w.heap.size+1,0,none⟩) 1 [entA] w0 (entA_at hE hD) (by decide) (by decide) entA_ok;have xS:=uH hnew;have vF:=uH zr;have wj:=uH vm;have DR:=uH zE;clear hnew zr vm zE hE hD;go_enter Tryz.func10,Tryz.ntmps10;go_upto_region 8 with(first
  |(go_at_call 37;rw[<-vF.out];refine(xS.out).mono ?_;rintro e w1 ⟨fs,rfl,hF,vk⟩;have AV:=wj.out.trans (vk.mono wj.out.size);have HF:=uH hF;have vq:=uH AV;have ZW:=uH (DR.out.same (AV.block 0 vl));have vI:=AV.size;clear hF vk AV)
  |(go_at_call 38;refine(lP 16 _ (by omega) (by omega) ZW.out (by omega)).mono ?_;rintro e w2 ⟨a,S,rfl,hP,vs,AK⟩;have HP:=uH hP;have xd:=uH vs;have Hq:=uH AK;have vO:=vs.size;clear hP vs AK)
  |(go_at_call 39;refine(pY a fs _ S (fresh 16) HP.out).mono ?_;rintro e w3 ⟨c,m,rfl,hC,vG,Yn,xh⟩;have HC:=uH hC;have yh:=uH vG;have xq:=vG.size;clear hC vG))
 obtain⟨nb,c2,adf,mpf,hF⟩:=HF.out;have zO:=tH;have h3:Hse w3 w1.heap.size c a fs m S (dr [entA]) 0 (fresh 16) [] []:=nt hF (xd.out.trans (yh.out.mono vO)) HC.out (gL (fun x hx=>by rw[List.mem_singleton]at hx;subst hx;exact fun i=>by show 7<256;omega)) Hq.out (by omega) (by omega) (by omega) (by omega);obtain⟨F,Nt⟩: ∃F,F=dr [entA]:=⟨_,rfl⟩;rw[<-Nt]at h3 zO;clear Nt;have Ml:=uH zO;have hn:=hnew h3;have HN:=uH hn;have H3:=uH h3;have Bg:w.heap.size<=w1.heap.size:=(by have:=wj.out.size;omega);have hcB:w1.heap.size<=c/\w1.heap.size<=m/\c<w3.heap.size/\m<w3.heap.size:=⟨by omega,by omega,h3.home.lts.1,h3.home.lts.2.1⟩;have PS:Below w.heap.size w w3:=vq.out.trans ((xd.out.trans (yh.out.mono vO)).mono (by omega));have VO:=uH PS;have wE:w.heap.size<=w3.heap.size:=PS.size;clear hF zO h3 hn HF HP HC xd yh Hq xS vF wj vq PS Yn xh;go_wp2_with fail;refine(HN.out).mono ?_;rintro e w4 (⟨s,t,f,p4,L4,S4,rfl,h4,wP,yW,Xo,VY⟩|⟨f,p4,L4,S4,rfl,h4,wP,yW,VY,_⟩)
 rotate_left
 ·obtain⟨h,_⟩:=VY.first (iJ (by omega:1<=16));cases h
 obtain⟨_,Ph,IZ,hL4⟩:=VY.first (iJ (by omega:1<=16));have El:p4.n=16:=(by rw[IZ];rfl);obtain⟨x4,yU⟩: ∃x4:SpM,x4=⟨s,t,f,none,0,0,[],some (aF f)⟩:=⟨_,rfl⟩;rw[<-yU]at h4;have AG:([]++[x4])[0]? =some x4:=rfl;have EG:x4.T=some (aF f):=(by rw[yU]);have Ox:x4.s=s:=(by rw[yU]);have OA:x4.rl=[]:=(by rw[yU]);have Sj:=wk_rgs Ml.out;have AP:=hmap h4 AG EG rA rA_ok (fun _ _ =>by rw[OA,pJ];exact Sj);rw[Ox]at AP;have H4:=uH h4;have EJ:=uH wP;have xv:=uH yW;have HMP:=uH AP;have QD:=uH (H3.out.goes Bg VO.out wP);have Ae:=uH (And.intro EG (And.intro Ox OA));clear AP h4 wP yW VY yU AG EG Ox OA IZ hL4 HN Sj EJ xv H3 VO;go_wp2_with fail;refine(HMP.out).mono ?_;rintro e w5 (⟨er,rfl,g1,g2,_,_⟩|⟨rfl,It,A5,zW,p5,T5,h5,wH,_,hwp⟩)
 ·rw[Ae.out.2.2,rO Ml.out]at g2;exact absurd g2 g1
 clear It;obtain⟨Sy,ML⟩:=wk_wiped (H4.out.sp (k:=0) rfl Ae.out.1) hwp El;obtain⟨x5,wJ⟩: ∃x5,x5=x4.withR A5 zW (Rg.put x4.rl rA).1 T5:=⟨_,rfl⟩;rw[<-wJ]at h5;change Hse w5 w1.heap.size c a fs m S4 F 0 p5 L4 [x5]at h5;have Ra:x5.T=some T5:=(by rw[wJ];rfl);have KJ:x5.s=s:=(by rw[wJ];exact Ae.out.2.1);have Si:x5.rl=[rA]:=(by rw[wJ];show(Rg.put x4.rl rA).1=_;rw[Ae.out.2.2,pJ]);have SU:x5.n=1:=(by rw[wJ];show(Rg.put x4.rl rA).1.length=_;rw[Ae.out.2.2,pJ];rfl);have Jt:=jR h5 (k:=0) rfl Ra (by simp) 4096 2 4 (by decide) ⟨by decide,by decide⟩;rw[KJ]at Jt;have Uv:Below w.heap.size w w5:=QD.out.trans (wH.below (fun b e=>ve Bg (e.elim (H4.out.footLow b) (fun e=>by rw[Ae.out.2.1]at e;omega))) QD.out.size);have H5:=uH h5;have VN:=uH Uv;have Cu:=uH (And.intro Ra (And.intro KJ (And.intro Si SU)));have Va:=uH Sy;have Vk:=uH Jt;clear h5 Uv Ra KJ Si SU Sy wJ wH hwp Jt HMP H4 Ae QD El;go_wp2_with fail;refine(iT _ _ _ _ _ ((Vk.out).mono ?_));rintro e w6 ⟨er,R6,kk,cp6,d6,p6,L6,T6,UA,S6,rfl,h6,yX,Bs,q1,q2,Bq,⟨SE,_⟩,IS⟩;rw[Cu.out.2.2.1]at IS;obtain⟨rfl,rfl,Yj,Yi,hn6,Rk,y6,hy6,Nh⟩:=wk_load1 Ml.out IS (fun x=>pz x) ML Va.out;obtain⟨g6,rfl⟩:=Bq.some_of (by decide);have Uu:=H5.out.goes Bg VN.out yX;have Tn:=SE g6 rfl;obtain⟨x6,QK⟩: ∃x6,x6=x5.withT T6:=⟨_,rfl⟩;rw[<-QK]at h6;change Hse w6 w1.heap.size c a fs m S6 F UA p6 L6 [x6]at h6;have PE:x6.T=some T6:=(by rw[QK];rfl);have Xn:x6.s=s:=(by rw[QK];exact Cu.out.2.1);have Sh:x6.rl=[rA]:=(by rw[QK];exact Cu.out.2.2.1);have Jq:x6.n=1:=(by rw[QK];exact Cu.out.2.2.2);have Pg:=hfork h6 (k:=0) rfl PE (by simp) (by rw[Jq];decide);rw[Xn]at Pg;have hg6b:=Bq.form;have LB:c<w5.heap.size/\m<w5.heap.size:=⟨H5.out.home.lts.1,H5.out.home.lts.2.1⟩;refine⟨⟨_,_,rfl⟩,?_⟩;have H6:=uH h6;have VM:=uH Uu;have Hn:=uH (And.intro PE (And.intro Xn (And.intro Sh Jq)));have Vw:=uH Pg;have BR:=uH Bq;have Qt:=uH Rk;have Wy:=uH hy6;have NZ:=uH Nh;clear h6 Uu PE Xn Sh Jq Pg Bq Rk hy6 Nh QK yX Bs IS SE Vk H5 Cu Va VN ML;go_wp2_with fail;refine(Vw.out).mono ?_;rintro e w7 (⟨p7,L7,S7,rfl,h7,wI,MJ,Xw⟩|⟨s7,t7,f7,A7,Ki,p7,L7,T7,U7,S7,rfl,h7,wI,MJ,hs7,Pk⟩)
 ·exact(wk_fork (H6.out.sp (k:=0) rfl Hn.out.1) Xw (fun x=>pz x) hn6 Qt.out).elim
 have PR:=H6.out.goes Bg VM.out wI;have Jb:=BR.out.foot Tn LB.1 LB.2 wI;have Yb: ¬S7 g6:=fun e=>(MJ g6 e).elim Tn (fun e=>by omega);have hn7:p7.n=16:=(by rw[(Pk.far (fun _ =>False)).n,hn6]);have PN: ∀g y,T7.lf g=some y->g=1:=fun g y hy=>by
  rw[Pk.lf1 g]at hy;cases hl:T6.lf g with
  |none=>rw[hl]at hy;cases hy
  |some z=>exact Qt.out g z hl
 have hGU: ∀g y,U7.lf g=some y->g=1:=fun g y hy=>by
  rw[Pk.lf2 g]at hy;cases hl:T6.lf g with
  |none=>rw[hl]at hy;cases hy
  |some z=>exact Qt.out g z hl
 have hyT:T7.lf 1=some (cpy y6):=(by rw[Pk.lf1,Wy.out];rfl);have hyU:U7.lf 1=some (cpy y6):=(by rw[Pk.lf2,Wy.out];rfl);have Ng:p7.dat y6.frame 0=7:=(by rw[Pk.dat y6.frame ((H6.out.sp (k:=0) rfl Hn.out.1).leaf Wy.out).2.2.2.2.1];exact NZ.out);obtain⟨x7,Of⟩: ∃x7,x7=x6.withT T7:=⟨_,rfl⟩;obtain⟨u7,RI⟩: ∃u7:SpM,u7=⟨s7,t7,f7,A7,x6.n,Ki,x6.rl,some U7⟩:=⟨_,rfl⟩;rw[<-Of,<-RI]at h7;change Hse w7 w1.heap.size c a fs m S7 F UA p7 L7 [x7,u7]at h7;have PD:x7.T=some T7:=(by rw[Of];rfl);have Oe:x7.s=s:=(by rw[Of];exact Hn.out.2.1);have Mv:x7.rl=[rA]:=(by rw[Of];exact Hn.out.2.2.1);have hU7:u7.T=some U7:=(by rw[RI]);have RG:u7.s=s7:=(by rw[RI]);have My:u7.rl=[rA]:=(by rw[RI];exact Hn.out.2.2.1);have ED:Below w7.heap.size w7 (w7.alloc (.cells #[.int .u8 9] 5)):=uJ;obtain⟨w8,RD⟩: ∃w8,w8=w7.alloc (.cells #[.int .u8 9] 5):=⟨_,rfl⟩;rw[<-RD]at ED;have YR:w8.heap[w7.heap.size]? =some (.cells #[.int .u8 9] 5 (0,0)):=(by rw[RD];exact ab _ _);have h8:=h7.below ED;have xi:=nr h8 (k:=0) rfl PD (by simp) 4096 1 1 2 (some ⟨w7.heap.size,0,none⟩) (fun _ =>9) (by decide) ⟨by omega,by omega⟩ (by decide) (by decide) (fun _ =>⟨_,rfl,fun j hj=>by obtain rfl:j=0:=(by omega);exact aa YR 0⟩) (fun _ =>by decide) (fun ad e=>by
  injection e with e;subst e;refine⟨(uG YR).1,fun e=>?_⟩;have Ie:=h7.home.lts;rcases e with e|e|e
  ·have:=Ie.2.2 _ e;dsimp only at this;omega
  ·dsimp only at e;omega
  ·dsimp only at e;omega)
 rw[Oe]at xi;have H8:=uH h8;have Dw:=uH xi;have HW8:=uH RD;have VL:=uH (PR.trans (ED.mono PR.size));have GA:=uH (And.intro PD (And.intro Oe Mv));have Ro:=uH (And.intro hU7 (And.intro RG My));have NH:=uH (Jb.sameR (w':=w8) fun g e=>by injection e with e;injection e with e;subst e;exact ED.block _ Jb.form.2);have Vu:=uH (And.intro PN hGU);have Zf:=uH (And.intro hyT hyU);have HD7:=uH Ng;clear h7 h8 xi RD ED YR PR Jb Pk wI MJ PN hGU hyT hyU Ng Of RI PD Oe Mv hU7 RG My Vw H6 Hn BR Qt Wy NZ VM;go_upto_region 15 with(first
  |(go_at_call 30;rw[<-HW8.out];refine(mK _ _ _ _ _ ((Dw.out).mono ?_));rintro e w9 ⟨er9,p9,L9,T9,Zb,S9,rfl,h9,yI,GS,q3,q4,Gd⟩;refine⟨⟨_,rfl⟩,?_⟩)
  |fail)
 rw[GA.out.2.2]at Gd;have Ou:=H8.out.sp (k:=0) rfl GA.out.1;have IJ:=H8.out.sp (k:=1) rfl Ro.out.1;have SW:=Gd.left Ou (H8.out.ownT (k:=0) rfl GA.out.1);obtain⟨rfl,z9,VV,Nf⟩:=wk_store (T2:=U7) Ou Gd rfl (fun x=>by show tnS [none,u7.T] x=_;rw[Ro.out.1,tnS_two0]) IJ.good.ok Vu.out.2 hn7 Vu.out.1 Zf.out.1;have Nc:p9.dat (cpy y6).frame 0=7:=by
  have xx:=H8.out.hs.beside (k:=0) (j:=1) (fM (k:=0) (l:=[x7,u7]) rfl GA.out.1) (fM (k:=1) (l:=[x7,u7]) rfl Ro.out.1) (by decide);have h1:=Sp.besideDat xx (SW.2.1 (fun _ =>False)) (x:=(cpy y6).frame) (jq (IJ.leaf Zf.out.2).2.2.2.2.1);rw[h1];exact HD7.out
 have Ut:=H8.out.goes Bg VL.out yI;have Bp:=NH.out.foot Yb LB.1 LB.2 yI;obtain⟨x9,ze⟩: ∃x9,x9=x7.withT T9:=⟨_,rfl⟩;rw[<-ze]at h9;change Hse w9 w1.heap.size c a fs m S9 F Zb p9 L9 [x9,u7]at h9;have hT9:x9.T=some T9:=(by rw[ze];rfl);have Rz:x9.s=s:=(by rw[ze];exact GA.out.2.1);have Mu:x9.rl=[rA]:=(by rw[ze];exact GA.out.2.2);have Jt:=jR h9 (k:=1) rfl Ro.out.1 (by simp) 4096 1 4 (by decide) ⟨by omega,by omega⟩;rw[Ro.out.2.1]at Jt;have m0:w9.cell? ⟨g6,0,none⟩=some (.int .u8 7):=(by have:=Bp.cell (j:=0) (by decide);rw[Yj]at this;exact this);have m1:w9.cell? ⟨g6,1,none⟩=some (.int .u8 0):=(by have:=Bp.cell (j:=1) (by decide);rw[Yi]at this;exact this);have H9:=uH h9;have Vk:=uH Jt;have VK:=uH Ut;have PW:=uH (And.intro hT9 (And.intro Rz Mu));have HZ9:=uH VV;have VA:=uH Nf;have Vz:=uH Nc;have TD:c<w9.heap.size/\m<w9.heap.size:=⟨h9.home.lts.1,h9.home.lts.2.1⟩;clear h9 Jt Ut hT9 Rz Mu VV Nf Nc Ou IJ SW Gd Bp ze yI GS H8 GA Vu HD7 NH VL Dw HW8;go_upto_region 18 with(first
  |(go_at_call 28;refine(iT _ _ _ _ _ ((Vk.out).mono ?_));rintro e w10 ⟨er10,R10,k10,cp10,d10,p10,L10,T10,UB,S10,rfl,Kh,xA,Lm,q5,q6,zv,⟨MK,_⟩,Fi⟩;refine⟨⟨_,_,rfl⟩,?_⟩)
  |fail)
 rw[Ro.out.2.2]at Fi;obtain⟨rfl,rfl,TC,rfl,rfl,rfl⟩:=pp Fi Zf.out.2;obtain⟨g10,rfl⟩:=zv.some_of (by decide);have Nu:=H9.out.goes Bg VK.out xA;have Tp:=MK g10 rfl;have hg10b:=zv.form;obtain⟨u10,RJ⟩: ∃u10,u10=u7.withT T10:=⟨_,rfl⟩;rw[<-RJ]at Kh;change Hse w10 w1.heap.size c a fs m S10 F UB p10 L10 [x9,u10]at Kh;have Jt:=jR Kh (k:=0) rfl PW.out.1 (by simp) 4096 1 4 (by decide) ⟨by omega,by omega⟩;rw[PW.out.2.1]at Jt;rw[Vz.out]at TC;have H10:=uH Kh;have Vj:=uH Jt;have VP:=uH Nu;have Ks:=uH zv;clear Kh Jt Nu RJ xA Lm zv MK Fi Vk H9 VK m0 m1;go_upto_region 19 with(first
  |(go_at_call 28;refine(iT _ _ _ _ _ ((Vj.out).mono ?_));rintro e w11 ⟨er11,R11,k11,cp11,d11,p11,L11,T11,clk11,S11,rfl,PV,OP,Xu,q7,q8,Fk,⟨SF,_⟩,Fh⟩;refine⟨⟨_,_,rfl⟩,?_⟩)
  |fail)
 rw[PW.out.2.2]at Fh;obtain⟨rfl,rfl,TB,rfl,rfl,rfl⟩:=pp Fh HZ9.out;obtain⟨g11,rfl⟩:=Fk.some_of (by decide);have Uw:=H10.out.goes Bg VP.out OP;have zv:=Ks.out.foot Tp TD.1 TD.2 OP;have m0:w11.cell? ⟨g10,0,none⟩=some (.int .u8 7):=(by have:=zv.cell (j:=0) (by decide);rw[TC]at this;exact this);have m1:w11.cell? ⟨g11,0,none⟩=some (.int .u8 9):=(by have:=Fk.cell (j:=0) (by decide);rw[TB,VA.out]at this;exact this);clear PV OP Xu Fk SF Fh TB Vj H10 Ks zv;go_wp2_with fail;go_ret;exact⟨rfl,Uw⟩
end
