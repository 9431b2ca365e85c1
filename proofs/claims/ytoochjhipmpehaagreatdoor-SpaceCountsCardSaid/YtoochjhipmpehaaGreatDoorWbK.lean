/- Spaces, plain: the house of works. The spaces' statements: works. -/
import Derived.Test.YtoochjhipmpehaaGreatDoorSwK
set_option linter.unusedVariables false
set_option linter.unusedSimpArgs false
set_option maxRecDepth 100000
set_option maxHeartbeats 8000000
namespace Go.Proofs.YtoochjhipmpehaaGreatDoor
section
open Go.RowKit Go.Sort
def rA:Reg:=⟨4096,8192,6,1,0⟩
theorem rA_ok:rA.Ok:=by constructor<;>decide
theorem pP:Rg.put [] rA=([rA],0):=by decide+kernel
theorem rA_right:Rg.right [rA]=true:=by decide+kernel
theorem tp:Rg.find [rA] 4096=(rA,true):=by decide+kernel
variable {n:Nat}
theorem lD {a j:Nat} (h:a % 4096+n<=4096) (hj:0<(pst (a,n) j).2):j=0:=by
 rcases Nat.eq_zero_or_pos j with h0|h0
 ·exact h0
 ·have h1:(pst (a,n) 1).2=0:=by
   show n-pm (a,n)=0;unfold pm;dsimp only;omega
  have:=gD h1 (j-1);rw[show 1+(j-1)=j by omega]at this;omega
theorem nW (hn:n<=2) {want:Int} (hw:bits .and .u8 6 want=want):dZ [rA] (4096,n) want=true:=by
 refine mZ ⟨by dsimp only;omega,fun k hk=>?_⟩;have:=lD (by omega) hk;subst this;exact⟨rA,tp,hw⟩
variable {F:List Nd}
theorem nX (hF: ∃y,F[1]? =some y/\y.kind=1/\y.n=1/\ ∀i,y.dat i=7):dO F 1/\nc F 1 0 0=7/\nc F 1 0 1=0:=by
 obtain⟨y,h1,h2,h3,h4⟩:=hF;have hl:=(List.getElem?_eq_some_iff.1 h1).1;have hR:dm F 1 0=(0,min 4096 (y.n-0),fun i=>y.dat (0+i)):=by
  unfold dm im;rw[if_neg (by omega)];rw[show(1:Int).toNat=1 from rfl,h1];dsimp only;rw[if_neg (by omega),if_pos h2];rfl
 refine⟨⟨y,h1,h2⟩,?_,?_⟩
 ·unfold nc laid;rw[hR,h3];dsimp only;rw[if_pos (by omega),h4]
 ·unfold nc laid;rw[hR,h3];dsimp only;rw[if_neg (by omega)]
theorem wk_src (hF: ∃y,F[1]? =some y/\y.kind=1/\y.n=1/\ ∀i,y.dat i=7):ou F [rA] 1 0=7/\ou F [rA] 1 1=0:=by
 obtain⟨_,h1,h2⟩:=nX hF;have e:(Rg.find [rA] (((1:Nat):Int)*4096)).1=rA:=(by rw[show(((1:Nat):Int)*4096)=4096 from rfl,tp]);have hs:srcD F rA 1=nc F 1 0:=by
  unfold srcD;rw[if_pos (by decide+kernel)];rfl
 unfold ou;rw[e,hs];exact⟨h1,h2⟩
theorem wk_rgs (hF: ∃y,F[1]? =some y/\y.kind=1/\y.n=1/\ ∀i,y.dat i=7):Rgs F [rA]:=by
 obtain⟨⟨y,h1,h2⟩,_⟩:=nX hF;refine⟨rA_right,fun r hr=>?_,fun r hr _ =>?_⟩
 ·rw[List.mem_singleton]at hr;subst hr;exact rA_ok
 ·rw[List.mem_singleton]at hr;subst hr;exact⟨y,h1,h2⟩
variable {hold d:Nat->Nat} {p p':Pool} {L L':List Slot} {T T':Tab} {er:Int} {k:Nat}
theorem wk_load1 (hF: ∃y,F[1]? =some y/\y.kind=1/\y.n=1/\ ∀i,y.dat i=7) (h:eM F hold [rA] p L T 4096 2 4 er k d p' L' T') (h0: ∀x,hold x=0) (hn:p.n=16) (hT: ∀g,T.lf g=none):
  er=0/\k=2/\d 0=7/\d 1=0/\p'.n=16/\(∀g y,T'.lf g=some y->g=1)/\ ∃y,T'.lf 1=some y/\p'.dat y.frame 0=7:=by
 have wJ: ∀j,0<(pst (4096,(2:Int).toNat) j).2->(pst (4096,(2:Int).toNat) j).1/4096=1:=fun j hj=>by
  have:=lD (a:=4096) (n:=(2:Int).toNat) (by decide) hj;subst this;rfl
 rcases h with⟨h,_⟩|⟨_,_,h,_⟩|⟨_,_,_,_,h⟩|⟨_,_,_,he,hk,⟨j,hj,h⟩,hd⟩
 ·omega
 ·rw[nW (by decide) (by decide+kernel)]at h;cases h
 ·exfalso;have h1:=h.full.few h.seen.kept.sp.good.ok (G:=[1]) (us:=[]) (fun g y hy=>by
   refine List.mem_singleton.2 (vD fun wg=>?_);have:=h.only g (hT g) fun j hj e=>wg (e.trans (wJ j hj));rw[this]at hy;cases hy) (fun x hx=>by rw[h0]at hx;omega)
  rw[(h.seen.kept.far (fun _ =>False)).n,hn]at h1;simp at h1
 ·have Dd:k=2:=(by omega);have xm:0<j:=by
   rcases Nat.eq_zero_or_pos j with e|e
   ·subst e;exact absurd hj (by decide)
   ·exact e
  have RN:=hd 0 (by omega);have IW:=hd 1 (by omega);rw[show(4096+0)/4096=1 from rfl,bN (hT 1)]at RN;rw[show(4096+1)/4096=1 from rfl,bN (hT 1)]at IW;obtain⟨s0,s1⟩:=wk_src hF;obtain⟨y,Jo⟩:=h.there 0 xm;have hy:T'.lf 1=some y:=Jo;refine⟨he,Dd,by rw[RN];exact s0,by rw[IW];exact s1,by rw[(h.seen.kept.far (fun _ =>False)).n,hn],fun g y hy=>?_,y,hy,?_⟩
  ·refine vD fun wg=>?_;have:=h.only g (hT g) fun i hi e=>wg (e.trans (wJ i (h.pos i hi)));rw[this]at hy;cases hy
  ·have h9:=h.seen.cont 1 0 (by omega);rw[bn hy,bN (hT 1),s0]at h9;exact h9
theorem wk_fork (hs:Sp F hold p L T) (h:qr F hold p L T p' L') (h0: ∀x,hold x=0) (hn:p.n=16) (hT: ∀g y,T.lf g=some y->g=1):False:=by
 have hG: ∀g y,T.lf g=some y->g∈[1]:=fun g y hy=>List.mem_singleton.2 (hT g y hy);rcases h.full with h1|⟨k,p1,L1,T2,hf,h1⟩
 ·have h2:=h1.few hs.good.ok (us:=[]) hG (fun x hx=>by rw[h0]at hx;omega);rw[hn]at h2;simp at h2
 ·have h2:=h1.few hf.two.good.ok (G:=[1]) (us:=T.names [1]) (fun g y hy=>by
   rw[hf.lf g]at hy;split at hy
   ·cases hl:T.lf g with
    |none=>rw[hl]at hy;cases hy
    |some z=>exact hG g z hl
   ·cases hy) (fun x hx=>pC hs.good.ok hG (by rw[h0]at hx;omega))
  have h3:=T.names_len [1];rw[hf.far.n,hn]at h2;simp at h2 h3;omega
variable {y:Leaf}
theorem wk_store {T2:Tab} (hs:Sp F hold p L T) (h:dJ F hold [rA] p L T 4096 1 d 2 er p' L' T') (hd:d 0=9) (h0: ∀x,hold x=tn T2 x) (h2:T2.Ok p) (Xx: ∀g y,T2.lf g=some y->g=1) (hn:p.n=16) (hT: ∀g y,T.lf g=some y->g=1) (hy:T.lf 1=some y):
  er=0/\ ∃z,T'.lf 1=some z/\p'.dat z.frame 0=9:=by
 have wJ: ∀j,0<(pst (4096,1) j).2->(pst (4096,1) j).1/4096=1:=fun j hj=>by
  have:=lD (a:=4096) (n:=1) (by decide) hj;subst this;rfl
 rcases h with⟨h,_⟩|⟨_,h,_⟩|⟨_,_,_,h⟩|⟨_,_,he,j,all,p1,hj,h,hl⟩
 ·omega
 ·rw[nW (by decide) (by decide+kernel)]at h;cases h
 ·exfalso;have h1:=h.full.few h.seen.kept.sp.good.ok (G:=[1]) (us:=T2.names [1]) (fun g z hz=>by
   refine List.mem_singleton.2 (vD fun wg=>?_);have wE:T.lf g=none:=by
    cases hl:T.lf g with
    |none=>rfl
    |some u=>exact absurd (hT g u hl) wg
   have:=h.only g wE fun j hj e=>wg (e.trans (wJ j hj));rw[this]at hz;cases hz) (fun x hx=>pC h2 (fun g z hz=>List.mem_singleton.2 (Xx g z hz)) (by rw[h0]at hx;exact hx))
  have h3:=T2.names_len [1];rw[(h.seen.kept.far (fun _ =>False)).n,hn]at h1;simp at h1 h3;omega
 ·obtain⟨z,hz,_⟩:=h.seen.kept.keep 1 y hy;have h9:=hl.byte 1 0 (by omega);rw[bn hz,if_pos (by dsimp only;omega)]at h9;refine⟨he,z,hz,?_⟩;rw[h9];exact hd
theorem px (h:eM F hold [rA] p L T 4096 1 4 er k d p' L' T') (hy:T.lf 1=some y):er=0/\k=1/\d 0=p.dat y.frame 0/\p'=p/\T'=T/\L'=L:=by
 have wJ: ∀j,0<(pst (4096,(1:Int).toNat) j).2->(pst (4096,(1:Int).toNat) j).1/4096=1:=fun j hj=>by
  have:=lD (a:=4096) (n:=(1:Int).toNat) (by decide) hj;subst this;rfl
 rcases h with⟨h,_⟩|⟨_,_,h,_⟩|⟨_,_,_,_,h⟩|⟨_,_,_,he,hk,⟨j,hj,h⟩,hd⟩
 ·omega
 ·rw[nW (by decide) (by decide+kernel)]at h;cases h
 ·obtain⟨j,hj,e⟩:=h.gap;rw[wJ j hj,hy]at e;cases e
 ·obtain⟨a1,a2,a3⟩:=h.still fun i hi e=>by rw[wJ i (h.pos i hi),hy]at e;cases e
  refine⟨he,by omega,?_,a1,a3,a2⟩;rw[hd 0 (by omega),show(4096+0)/4096=1 from rfl,bn hy]
theorem sj (hF: ∃y,F[1]? =some y/\y.kind=1/\y.n=1/\ ∀i,y.dat i=7):ee F [] rA=0:=by
 obtain⟨h,_⟩:=nX hF;unfold ee;rw[if_neg (by rw[pP];exact fun e=>e rfl),if_neg (fun e=>e.2 h)]
theorem pD (x:Nat):tnS [none] x=0:=by rw[bP,eX];rfl
theorem tnS_two0 (T:Tab) (x:Nat):tnS [none,some T] x=tn T x:=by rw[bP,bP,eX];show 0+(tn T x+0)=_;omega
theorem wk_wiped {f:Nat} {fr t:Int} (h0:Sp F hold p L (aF f)) (h:cy F hold fr t p L (aF f) (aF f).puts.length p' T') (hn:p.n=16):(∀g,T'.lf g=none)/\p'.n=16:=by
 refine⟨fun g=>?_,by rw[(h.far (fun _ =>False)).n,hn]⟩;rw[h.done h0 (vs _) g];split<;>rfl
end
section
open Go.RowKit Go.Sort
variable {fs a c m:Nat} {S:Nat->Prop} {F:List Nd}
theorem nA {w1 w3:World} {nb c2 n B1:Nat} {ad mp:Nat->Nat} (hF:FsIs w1 B1 fs nb c2 ad mp F) (hb:Below w1.heap.size w1 w3) (hC:au w3 S c a fs m 0 (fresh n) []) (hBF:hU F) (hS: ∀b,S b->w1.heap.size<=b) (hc:w1.heap.size<=c) (hm:w1.heap.size<=m) (h0:0<w1.heap.size) (hn:n<=1024):Hse w3 w1.heap.size c a fs m S F 0 (fresh n) [] []:=by
 refine⟨⟨hC,⟨w1,B1,nb,c2,ad,mp,rfl,hF,hb⟩,hBF,hS,hc,hm,h0⟩,Hs.start F n hn,fun k x h=>?_,fun j k x y _ h=>?_,fun k x h=>?_⟩<;>(rw[List.getElem?_nil]at h;cases h)
variable {w:World} {B:Nat} {clock:Int} {p:Pool} {L:List Slot} {l:List SpM}
theorem Hse.footLow (h:Hse w B c a fs m S F clock p L l): ∀b,aw S c m b->B<=b:=fun b e=>by
 rcases e with e|e|e
 ·exact h.home.low b e
 ·rw[e];exact h.home.lows.2.1
 ·rw[e];exact h.home.lows.1
variable {w':World}
theorem Hse.goes {w0:World} (h:Hse w B c a fs m S F clock p L l) (hB:w0.heap.size<=B) (hb:Below w0.heap.size w0 w) (hm:Mod (aw S c m) w w'):Below w0.heap.size w0 w':=hb.trans (hm.below (fun b e=>vM hB (h.footLow b e)) hb.size)
variable {base cap k:Nat} {d:Nat->Nat}
theorem OwnB.foot {g:Nat} (h:OwnB w base (some ⟨g,0,none⟩) cap k d) (hS: ¬S g) (hc:c<base) (hm:m<base) (hM:Mod (aw S c m) w w'):OwnB w' base (some ⟨g,0,none⟩) cap k d:=h.sameR fun g' e=>by
 injection e with e;injection e with e;subst e;have h1:=h.form;exact hM.block g h1.2 (fun e=>e.elim hS fun e=>e.elim (fun e=>by omega) (fun e=>by omega))
theorem OwnB.some_of {A:Option Addr} (h:OwnB w base A cap k d) (hk:0<k): ∃g,A=some ⟨g,0,none⟩:=by
 rcases h.2 with⟨h1,_⟩|⟨g,vP,cur,h1,_⟩
 ·exfalso;have h2:=h.1;injection h1 with e1 e2 e3;rw[e2]at hk;cases hk
 ·injection h1 with e1 e2 e3;exact⟨g,e1⟩
theorem entA_at {b e:Nat} (hE:w.heap[e]? =some (.cells #[.string ⟨#[47,97]⟩, .int .u8 1, .int .u16 420, .int .u32 0, .int .u32 0, .slice (some ⟨b,0,none⟩) 1 1, .string ⟨#[]⟩] 93 (0,0))) (hD:w.heap[b]? =some (.cells #[.int .u8 7] 5 (0,0))):fW w (some ⟨e,0,none⟩) [entA]:=by
 intro j x hj;cases j with
 |succ j=>rw[List.getElem?_cons_succ,List.getElem?_nil]at hj;cases hj
 |zero=>
  rw[List.getElem?_cons_zero]at hj;injection hj with hj;subst hj;refine⟨e,some ⟨b,0,none⟩,1,rfl,(vo hE).1,⟨aa hE 0,aa hE 1,aa hE 2,aa hE 3,aa hE 4,aa hE 5,aa hE 6⟩,⟨by decide,by decide,by decide,?_,fun e=>by cases e⟩⟩;exact fun _ =>⟨_,rfl,fun j hj=>by
   have Ei:j<1:=hj;obtain rfl:j=0:=(by omega);exact aa hD 0⟩
theorem nU (w:World) (Ay:DB w) (vT:0<w.heap.size):Calls Tryz.prog 10 #[] w fun e w'=>e= .returned (.bool true)/\Below w.heap.size w w':=by
 obtain⟨w0,Ai⟩: ∃w0,w0=((w.alloc (.cells #[.int .u8 7] 5)).alloc (.cells #[.string ⟨#[47,97]⟩, .int .u8 1, .int .u16 420, .int .u32 0, .int .u32 0, .slice (some ⟨w.heap.size,0,none⟩) 1 1, .string ⟨#[]⟩] 93)):=⟨_,rfl⟩;have vU:Below w.heap.size w w0:=(by rw[Ai];exact vr.alloc (by simp) _);have hE:w0.heap[w.heap.size+1]? =some (.cells #[.string ⟨#[47,97]⟩, .int .u8 1, .int .u16 420, .int .u32 0, .int .u32 0, .slice (some ⟨w.heap.size,0,none⟩) 1 1, .string ⟨#[]⟩] 93 (0,0)):=by
  rw[Ai];have e:(w.alloc (.cells #[.int .u8 7] 5)).heap.size=w.heap.size+1:=(by simp);rw[<-e];exact ab _ _
 have hD:w0.heap[w.heap.size]? =some (.cells #[.int .u8 7] 5 (0,0)):=(by rw[Ai];exact(vt _ _ _ (by simp)).trans (ab w _));have hnew:=jr (some ⟨w.heap.size+1,0,none⟩) 1 [entA] w0 (entA_at hE hD) (by decide) (by decide) entA_ok;have yI:=vp hnew;have wD:=vp Ai;have xe:=vp vU;have EK:=vp Ay;clear hnew Ai vU Ay hE hD;go_enter Tryz.func10,Tryz.ntmps10;go_upto_region 8 with(first
  |(go_at_call 37;rw[<-wD.out];refine(yI.out).mono ?_;rintro e w1 ⟨fs,rfl,hF,vS⟩;have Bk:=xe.out.trans (vS.mono xe.out.size);have HF:=vp hF;have vY:=vp Bk;have HDB1:=vp (EK.out.same (Bk.block 0 vT));have wF:=Bk.size;clear hF vS Bk)
  |(go_at_call 38;refine(lT 16 _ (by omega) (by omega) HDB1.out (by omega)).mono ?_;rintro e w2 ⟨a,S,rfl,hP,wb,BE⟩;have HP:=vp hP;have xF:=vp wb;have FU:=vp BE;have wL:=wb.size;clear hP wb BE)
  |(go_at_call 39;refine(qj a fs _ S (fresh 16) HP.out).mono ?_;rintro e w3 ⟨c,m,rfl,hC,wG,Zx,xW⟩;have HC:=vp hC;have zm:=vp wG;have yk:=wG.size;clear hC wG))
 obtain⟨nb,c2,adf,mpf,hF⟩:=HF.out;have AK:=um;have h3:Hse w3 w1.heap.size c a fs m S (cI [entA]) 0 (fresh 16) [] []:=nA hF (xF.out.trans (zm.out.mono wL)) HC.out (gP (fun x hx=>by rw[List.mem_singleton]at hx;subst hx;exact fun i=>by show 7<256;omega)) FU.out (by omega) (by omega) (by omega) (by omega);obtain⟨F,Oi⟩: ∃F,F=cI [entA]:=⟨_,rfl⟩;rw[<-Oi]at h3 AK;clear Oi;have MV:=vp AK;have hn:=hnew h3;have HN:=vp hn;have H3:=vp h3;have Dp:w.heap.size<=w1.heap.size:=(by have:=xe.out.size;omega);have hcB:w1.heap.size<=c/\w1.heap.size<=m/\c<w3.heap.size/\m<w3.heap.size:=⟨by omega,by omega,h3.home.lts.1,h3.home.lts.2.1⟩;have QD:Below w.heap.size w w3:=vY.out.trans ((xF.out.trans (zm.out.mono wL)).mono (by omega));have WZ:=vp QD;have xq:w.heap.size<=w3.heap.size:=QD.size;clear hF AK h3 hn HF HP HC xF zm FU yI wD xe vY QD Zx xW;go_wp2_with fail;refine(HN.out).mono ?_;rintro e w4 (⟨s,t,f,p4,L4,S4,rfl,h4,xH,zN,Yy,Xh⟩|⟨f,p4,L4,S4,rfl,h4,xH,zN,Xh,_⟩)
 rotate_left
 ·obtain⟨h,_⟩:=Xh.first (iM (by omega:1<=16));cases h
 obtain⟨_,PU,JR,hL4⟩:=Xh.first (iM (by omega:1<=16));have Fe:p4.n=16:=(by rw[JR];rfl);obtain⟨x4,zL⟩: ∃x4:SpM,x4=⟨s,t,f,none,0,0,[],some (aF f)⟩:=⟨_,rfl⟩;rw[<-zL]at h4;have BA:([]++[x4])[0]? =some x4:=rfl;have FC:x4.T=some (aF f):=(by rw[zL]);have Pj:x4.s=s:=(by rw[zL]);have Pn:x4.rl=[]:=(by rw[zL]);have Th:=wk_rgs MV.out;have BI:=hmap h4 BA FC rA rA_ok (fun _ _ =>by rw[Pn,pP];exact Th);rw[Pj]at BI;have H4:=vp h4;have FG:=vp xH;have yl:=vp zN;have HMP:=vp BI;have Rs:=vp (H3.out.goes Dp WZ.out xH);have AY:=vp (And.intro FC (And.intro Pj Pn));clear BI h4 xH zN Xh zL BA FC Pj Pn JR hL4 HN Th FG yl H3 WZ;go_wp2_with fail;refine(HMP.out).mono ?_;rintro e w5 (⟨er,rfl,g1,g2,_,_⟩|⟨rfl,Jm,A5,AR,p5,T5,h5,xu,_,hwp⟩)
 ·rw[AY.out.2.2,sj MV.out]at g2;exact absurd g2 g1
 clear Jm;obtain⟨Ty,Nx⟩:=wk_wiped (H4.out.sp (k:=0) rfl AY.out.1) hwp Fe;obtain⟨x5,xx⟩: ∃x5,x5=x4.withR A5 AR (Rg.put x4.rl rA).1 T5:=⟨_,rfl⟩;rw[<-xx]at h5;change Hse w5 w1.heap.size c a fs m S4 F 0 p5 L4 [x5]at h5;have RV:x5.T=some T5:=(by rw[xx];rfl);have Lt:x5.s=s:=(by rw[xx];exact AY.out.2.1);have Tg:x5.rl=[rA]:=(by rw[xx];show(Rg.put x4.rl rA).1=_;rw[AY.out.2.2,pP]);have TQ:x5.n=1:=(by rw[xx];show(Rg.put x4.rl rA).1.length=_;rw[AY.out.2.2,pP];rfl);have Kj:=jW h5 (k:=0) rfl RV (by simp) 4096 2 4 (by decide) ⟨by decide,by decide⟩;rw[Lt]at Kj;have Vw:Below w.heap.size w w5:=Rs.out.trans (xu.below (fun b e=>vM Dp (e.elim (H4.out.footLow b) (fun e=>by rw[AY.out.2.1]at e;omega))) Rs.out.size);have H5:=vp h5;have WY:=vp Vw;have Dr:=vp (And.intro RV (And.intro Lt (And.intro Tg TQ)));have We:=vp Ty;have Wp:=vp Kj;clear h5 Vw RV Lt Tg TQ Ty xx xu hwp Kj HMP H4 AY Rs Fe;go_wp2_with fail;refine(iY _ _ _ _ _ ((Wp.out).mono ?_));rintro e w6 ⟨er,R6,kk,cp6,d6,p6,L6,T6,VA,S6,rfl,h6,zO,Cm,q1,q2,Ck,⟨TE,_⟩,JJ⟩;rw[Dr.out.2.2.1]at JJ;obtain⟨rfl,rfl,Zt,Zs,hn6,Sd,y6,hy6,NX⟩:=wk_load1 MV.out JJ (fun x=>pD x) Nx We.out;obtain⟨g6,rfl⟩:=Ck.some_of (by decide);have Vv:=H5.out.goes Dp WY.out zO;have Uk:=TE g6 rfl;obtain⟨x6,RA⟩: ∃x6,x6=x5.withT T6:=⟨_,rfl⟩;rw[<-RA]at h6;change Hse w6 w1.heap.size c a fs m S6 F VA p6 L6 [x6]at h6;have Qr:x6.T=some T6:=(by rw[RA];rfl);have Yx:x6.s=s:=(by rw[RA];exact Dr.out.2.1);have Tf:x6.rl=[rA]:=(by rw[RA];exact Dr.out.2.2.1);have Kg:x6.n=1:=(by rw[RA];exact Dr.out.2.2.2);have PT:=hfork h6 (k:=0) rfl Qr (by simp) (by rw[Kg];decide);rw[Yx]at PT;have hg6b:=Ck.form;have Mo:c<w5.heap.size/\m<w5.heap.size:=⟨H5.out.home.lts.1,H5.out.home.lts.2.1⟩;refine⟨⟨_,_,rfl⟩,?_⟩;have H6:=vp h6;have WX:=vp Vv;have IG:=vp (And.intro Qr (And.intro Yx (And.intro Tf Kg)));have WG:=vp PT;have CL:=vp Ck;have Ri:=vp Sd;have XF:=vp hy6;have OL:=vp NX;clear h6 Vv Qr Yx Tf Kg PT Ck Sd hy6 NX RA zO Cm JJ TE Wp H5 Dr We WY Nx;go_wp2_with fail;refine(WG.out).mono ?_;rintro e w7 (⟨p7,L7,S7,rfl,h7,xw,Tv,YG⟩|⟨s7,t7,f7,A7,KR,p7,L7,T7,U7,S7,rfl,h7,xw,Tv,hs7,PW⟩)
 ·exact(wk_fork (H6.out.sp (k:=0) rfl IG.out.1) YG (fun x=>pD x) hn6 Ri.out).elim
 have QC:=H6.out.goes Dp WX.out xw;have JT:=CL.out.foot Uk Mo.1 Mo.2 xw;have Zk: ¬S7 g6:=fun e=>(Tv g6 e).elim Uk (fun e=>by omega);have hn7:p7.n=16:=(by rw[(PW.far (fun _ =>False)).n,hn6]);have Qz: ∀g y,T7.lf g=some y->g=1:=fun g y hy=>by
  rw[PW.lf1 g]at hy;cases hl:T6.lf g with
  |none=>rw[hl]at hy;cases hy
  |some z=>exact Ri.out g z hl
 have hGU: ∀g y,U7.lf g=some y->g=1:=fun g y hy=>by
  rw[PW.lf2 g]at hy;cases hl:T6.lf g with
  |none=>rw[hl]at hy;cases hy
  |some z=>exact Ri.out g z hl
 have hyT:T7.lf 1=some (cpy y6):=(by rw[PW.lf1,XF.out];rfl);have hyU:U7.lf 1=some (cpy y6):=(by rw[PW.lf2,XF.out];rfl);have NV:p7.dat y6.frame 0=7:=(by rw[PW.dat y6.frame ((H6.out.sp (k:=0) rfl IG.out.1).leaf XF.out).2.2.2.2.1];exact OL.out);obtain⟨x7,OR⟩: ∃x7,x7=x6.withT T7:=⟨_,rfl⟩;obtain⟨u7,SB⟩: ∃u7:SpM,u7=⟨s7,t7,f7,A7,x6.n,KR,x6.rl,some U7⟩:=⟨_,rfl⟩;rw[<-OR,<-SB]at h7;change Hse w7 w1.heap.size c a fs m S7 F VA p7 L7 [x7,u7]at h7;have Qq:x7.T=some T7:=(by rw[OR];rfl);have OQ:x7.s=s:=(by rw[OR];exact IG.out.2.1);have Nh:x7.rl=[rA]:=(by rw[OR];exact IG.out.2.2.1);have hU7:u7.T=some U7:=(by rw[SB]);have SA:u7.s=s7:=(by rw[SB]);have Nk:u7.rl=[rA]:=(by rw[SB];exact IG.out.2.2.1);have Fy:Below w7.heap.size w7 (w7.alloc (.cells #[.int .u8 9] 5)):=vr;obtain⟨w8,Sx⟩: ∃w8,w8=w7.alloc (.cells #[.int .u8 9] 5):=⟨_,rfl⟩;rw[<-Sx]at Fy;have ZZ:w8.heap[w7.heap.size]? =some (.cells #[.int .u8 9] 5 (0,0)):=(by rw[Sx];exact ab _ _);have h8:=h7.below Fy;have xX:=nz h8 (k:=0) rfl Qq (by simp) 4096 1 1 2 (some ⟨w7.heap.size,0,none⟩) (fun _ =>9) (by decide) ⟨by omega,by omega⟩ (by decide) (by decide) (fun _ =>⟨_,rfl,fun j hj=>by obtain rfl:j=0:=(by omega);exact aa ZZ 0⟩) (fun _ =>by decide) (fun ad e=>by
  injection e with e;subst e;refine⟨(vo ZZ).1,fun e=>?_⟩;have IT:=h7.home.lts;rcases e with e|e|e
  ·have:=IT.2.2 _ e;dsimp only at this;omega
  ·dsimp only at e;omega
  ·dsimp only at e;omega)
 rw[OQ]at xX;have H8:=vp h8;have Eu:=vp xX;have HW8:=vp Sx;have WW:=vp (QC.trans (Fy.mono QC.size));have Ht:=vp (And.intro Qq (And.intro OQ Nh));have Sf:=vp (And.intro hU7 (And.intro SA Nk));have Ox:=vp (JT.sameR (w':=w8) fun g e=>by injection e with e;injection e with e;subst e;exact Fy.block _ JT.form.2);have WD:=vp (And.intro Qz hGU);have HY7:=vp (And.intro hyT hyU);have HD7:=vp NV;clear h7 h8 xX Sx Fy ZZ QC JT PW xw Tv Qz hGU hyT hyU NV OR SB Qq OQ Nh hU7 SA Nk WG H6 IG CL Ri XF OL WX;go_upto_region 15 with(first
  |(go_at_call 30;rw[<-HW8.out];refine(mR _ _ _ _ _ ((Eu.out).mono ?_));rintro e w9 ⟨er9,p9,L9,T9,clk9,S9,rfl,h9,zy,Ij,q3,q4,GY⟩;refine⟨⟨_,rfl⟩,?_⟩)
  |fail)
 rw[Ht.out.2.2]at GY;have Pf:=H8.out.sp (k:=0) rfl Ht.out.1;have JB:=H8.out.sp (k:=1) rfl Sf.out.1;have TS:=GY.left Pf (H8.out.ownT (k:=0) rfl Ht.out.1);obtain⟨rfl,z9,XR,NU⟩:=wk_store (T2:=U7) Pf GY rfl (fun x=>by show tnS [none,u7.T] x=_;rw[Sf.out.1,tnS_two0]) JB.good.ok WD.out.2 hn7 WD.out.1 HY7.out.1;have NT:p9.dat (cpy y6).frame 0=7:=by
  have yd:=H8.out.hs.beside (k:=0) (j:=1) (fS (k:=0) (l:=[x7,u7]) rfl Ht.out.1) (fS (k:=1) (l:=[x7,u7]) rfl Sf.out.1) (by decide);have h1:=Sp.besideDat yd (TS.2.1 (fun _ =>False)) (x:=(cpy y6).frame) (ju (JB.leaf HY7.out.2).2.2.2.2.1);rw[h1];exact HD7.out
 have Vu:=H8.out.goes Dp WW.out zy;have Cj:=Ox.out.foot Zk Mo.1 Mo.2 zy;obtain⟨x9,zV⟩: ∃x9,x9=x7.withT T9:=⟨_,rfl⟩;rw[<-zV]at h9;change Hse w9 w1.heap.size c a fs m S9 F clk9 p9 L9 [x9,u7]at h9;have hT9:x9.T=some T9:=(by rw[zV];rfl);have St:x9.s=s:=(by rw[zV];exact Ht.out.2.1);have Ng:x9.rl=[rA]:=(by rw[zV];exact Ht.out.2.2);have Kj:=jW h9 (k:=1) rfl Sf.out.1 (by simp) 4096 1 4 (by decide) ⟨by omega,by omega⟩;rw[Sf.out.2.1]at Kj;have m0:w9.cell? ⟨g6,0,none⟩=some (.int .u8 7):=(by have:=Cj.cell (j:=0) (by decide);rw[Zt]at this;exact this);have m1:w9.cell? ⟨g6,1,none⟩=some (.int .u8 0):=(by have:=Cj.cell (j:=1) (by decide);rw[Zs]at this;exact this);have H9:=vp h9;have Wp:=vp Kj;have WV:=vp Vu;have QI:=vp (And.intro hT9 (And.intro St Ng));have HZ9:=vp XR;have WL:=vp NU;have WK:=vp NT;have Uz:c<w9.heap.size/\m<w9.heap.size:=⟨h9.home.lts.1,h9.home.lts.2.1⟩;clear h9 Kj Vu hT9 St Ng XR NU NT Pf JB TS GY Cj zV zy Ij H8 Ht WD HD7 Ox WW Eu HW8;go_upto_region 18 with(first
  |(go_at_call 28;refine(iY _ _ _ _ _ ((Wp.out).mono ?_));rintro e w10 ⟨er10,R10,k10,cp10,d10,p10,L10,T10,VB,S10,rfl,KQ,yn,LZ,q5,q6,Al,⟨Nw,_⟩,Gh⟩;refine⟨⟨_,_,rfl⟩,?_⟩)
  |fail)
 rw[Sf.out.2.2]at Gh;obtain⟨rfl,rfl,Uy,rfl,rfl,rfl⟩:=px Gh HY7.out.2;obtain⟨g10,rfl⟩:=Al.some_of (by decide);have Oj:=H9.out.goes Dp WV.out yn;have Um:=Nw g10 rfl;have hg10b:=Al.form;obtain⟨u10,SC⟩: ∃u10,u10=u7.withT T10:=⟨_,rfl⟩;rw[<-SC]at KQ;change Hse w10 w1.heap.size c a fs m S10 F VB p10 L10 [x9,u10]at KQ;have Kj:=jW KQ (k:=0) rfl QI.out.1 (by simp) 4096 1 4 (by decide) ⟨by omega,by omega⟩;rw[QI.out.2.1]at Kj;rw[WK.out]at Uy;have H10:=vp KQ;have Wo:=vp Kj;have Xa:=vp Oj;have La:=vp Al;clear KQ Kj Oj SC yn LZ Al Nw Gh Wp H9 WV m0 m1;go_upto_region 19 with(first
  |(go_at_call 28;refine(iY _ _ _ _ _ ((Wo.out).mono ?_));rintro e w11 ⟨er11,R11,k11,cp11,d11,p11,L11,T11,clk11,S11,rfl,QH,PC,YE,q7,q8,Gj,⟨TF,_⟩,Gg⟩;refine⟨⟨_,_,rfl⟩,?_⟩)
  |fail)
 rw[QI.out.2.2]at Gg;obtain⟨rfl,rfl,Ux,rfl,rfl,rfl⟩:=px Gg HZ9.out;obtain⟨g11,rfl⟩:=Gj.some_of (by decide);have Vx:=H10.out.goes Dp Xa.out PC;have Al:=La.out.foot Um Uz.1 Uz.2 PC;have m0:w11.cell? ⟨g10,0,none⟩=some (.int .u8 7):=(by have:=Al.cell (j:=0) (by decide);rw[Uy]at this;exact this);have m1:w11.cell? ⟨g11,0,none⟩=some (.int .u8 9):=(by have:=Gj.cell (j:=0) (by decide);rw[Ux,WL.out]at this;exact this);clear QH PC YE Gj TF Gg Ux Wo H10 La Al;go_wp2_with fail;go_ret;exact⟨rfl,Vx⟩
end
