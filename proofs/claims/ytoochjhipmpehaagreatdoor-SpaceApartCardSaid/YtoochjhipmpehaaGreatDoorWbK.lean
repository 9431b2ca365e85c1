/- Spaces, plain: the house of works. The spaces' statements: works. -/
import Derived.Test.YtoochjhipmpehaaGreatDoorSwK
set_option linter.unusedVariables false
set_option linter.unusedSimpArgs false
set_option maxRecDepth 100000
set_option maxHeartbeats 8000000
namespace Go.Proofs.YtoochjhipmpehaaGreatDoor
section
open Go.RowKit Go.Sort
def rA:Reg:=⟨4096,8192,6,1,0⟩
theorem rA_ok:rA.Ok:=by constructor<;>decide
theorem pX:Rg.put [] rA=([rA],0):=by decide+kernel
theorem rA_right:Rg.right [rA]=true:=by decide+kernel
theorem sU:Rg.find [rA] 4096=(rA,true):=by decide+kernel
variable {n:Nat}
theorem lJ {a j:Nat} (h:a % 4096+n<=4096) (hj:0<(pst (a,n) j).2):j=0:=by
 rcases Nat.eq_zero_or_pos j with h0|h0
 ·exact h0
 ·have h1:(pst (a,n) 1).2=0:=by
   show n-pm (a,n)=0;unfold pm;dsimp only;omega
  have:=gE h1 (j-1);rw[show 1+(j-1)=j by omega]at this;omega
theorem oh (hn:n<=2) {want:Int} (hw:bits .and .u8 6 want=want):dE [rA] (4096,n) want=true:=by
 refine nl ⟨by dsimp only;omega,fun k hk=>?_⟩;have:=lJ (by omega) hk;subst this;exact⟨rA,sU,hw⟩
variable {F:List Nd}
theorem ol (hF: ∃y,F[1]? =some y/\y.kind=1/\y.n=1/\ ∀i,y.dat i=7):dS F 1/\np F 1 0 0=7/\np F 1 0 1=0:=by
 obtain⟨y,h1,h2,h3,h4⟩:=hF;have hl:=(List.getElem?_eq_some_iff.1 h1).1;have hR:dF F 1 0=(0,min 4096 (y.n-0),fun i=>y.dat (0+i)):=by
  unfold dF ja;rw[if_neg (by omega)];rw[show(1:Int).toNat=1 from rfl,h1];dsimp only;rw[if_neg (by omega),if_pos h2];rfl
 refine⟨⟨y,h1,h2⟩,?_,?_⟩
 ·unfold np laid;rw[hR,h3];dsimp only;rw[if_pos (by omega),h4]
 ·unfold np laid;rw[hR,h3];dsimp only;rw[if_neg (by omega)]
theorem wk_src (hF: ∃y,F[1]? =some y/\y.kind=1/\y.n=1/\ ∀i,y.dat i=7):oA F [rA] 1 0=7/\oA F [rA] 1 1=0:=by
 obtain⟨_,h1,h2⟩:=ol hF;have e:(Rg.find [rA] (((1:Nat):Int)*4096)).1=rA:=(by rw[show(((1:Nat):Int)*4096)=4096 from rfl,sU]);have hs:srcD F rA 1=np F 1 0:=by
  unfold srcD;rw[if_pos (by decide+kernel)];rfl
 unfold oA;rw[e,hs];exact⟨h1,h2⟩
theorem wk_rgs (hF: ∃y,F[1]? =some y/\y.kind=1/\y.n=1/\ ∀i,y.dat i=7):Rgs F [rA]:=by
 obtain⟨⟨y,h1,h2⟩,_⟩:=ol hF;refine⟨rA_right,fun r hr=>?_,fun r hr _ =>?_⟩
 ·rw[List.mem_singleton]at hr;subst hr;exact rA_ok
 ·rw[List.mem_singleton]at hr;subst hr;exact⟨y,h1,h2⟩
variable {hold d:Nat->Nat} {p p':Pool} {L L':List Slot} {T T':Tab} {er:Int} {k:Nat}
theorem wk_load1 (hF: ∃y,F[1]? =some y/\y.kind=1/\y.n=1/\ ∀i,y.dat i=7) (h:eN F hold [rA] p L T 4096 2 4 er k d p' L' T') (h0: ∀x,hold x=0) (hn:p.n=16) (hT: ∀g,T.lf g=none):
  er=0/\k=2/\d 0=7/\d 1=0/\p'.n=16/\(∀g y,T'.lf g=some y->g=1)/\ ∃y,T'.lf 1=some y/\p'.dat y.frame 0=7:=by
 have wo: ∀j,0<(pst (4096,(2:Int).toNat) j).2->(pst (4096,(2:Int).toNat) j).1/4096=1:=fun j hj=>by
  have:=lJ (a:=4096) (n:=(2:Int).toNat) (by decide) hj;subst this;rfl
 rcases h with⟨h,_⟩|⟨_,_,h,_⟩|⟨_,_,_,_,h⟩|⟨_,_,_,he,hk,⟨j,hj,h⟩,hd⟩
 ·omega
 ·rw[oh (by decide) (by decide+kernel)]at h;cases h
 ·exfalso;have h1:=h.full.few h.seen.kept.sp.good.ok (G:=[1]) (us:=[]) (fun g y hy=>by
   refine List.mem_singleton.2 (vo fun vK=>?_);have:=h.only g (hT g) fun j hj e=>vK (e.trans (wo j hj));rw[this]at hy;cases hy) (fun x hx=>by rw[h0]at hx;omega)
  rw[(h.seen.kept.far (fun _ =>False)).n,hn]at h1;simp at h1
 ·have FA:k=2:=(by omega);have wX:0<j:=by
   rcases Nat.eq_zero_or_pos j with e|e
   ·subst e;exact absurd hj (by decide)
   ·exact e
  have NT:=hd 0 (by omega);have IM:=hd 1 (by omega);rw[show(4096+0)/4096=1 from rfl,bQ (hT 1)]at NT;rw[show(4096+1)/4096=1 from rfl,bQ (hT 1)]at IM;obtain⟨s0,s1⟩:=wk_src hF;obtain⟨y,Jd⟩:=h.there 0 wX;have hy:T'.lf 1=some y:=Jd;refine⟨he,FA,by rw[NT];exact s0,by rw[IM];exact s1,by rw[(h.seen.kept.far (fun _ =>False)).n,hn],fun g y hy=>?_,y,hy,?_⟩
  ·refine vo fun vK=>?_;have:=h.only g (hT g) fun i hi e=>vK (e.trans (wo i (h.pos i hi)));rw[this]at hy;cases hy
  ·have h9:=h.seen.cont 1 0 (by omega);rw[aV hy,bQ (hT 1),s0]at h9;exact h9
theorem wk_fork (hs:Sp F hold p L T) (h:qv F hold p L T p' L') (h0: ∀x,hold x=0) (hn:p.n=16) (hT: ∀g y,T.lf g=some y->g=1):False:=by
 have hG: ∀g y,T.lf g=some y->g∈[1]:=fun g y hy=>List.mem_singleton.2 (hT g y hy);rcases h.full with h1|⟨k,p1,L1,T2,hf,h1⟩
 ·have h2:=h1.few hs.good.ok (us:=[]) hG (fun x hx=>by rw[h0]at hx;omega);rw[hn]at h2;simp at h2
 ·have h2:=h1.few hf.two.good.ok (G:=[1]) (us:=T.names [1]) (fun g y hy=>by
   rw[hf.lf g]at hy;split at hy
   ·cases hl:T.lf g with
    |none=>rw[hl]at hy;cases hy
    |some z=>exact hG g z hl
   ·cases hy) (fun x hx=>pK hs.good.ok hG (by rw[h0]at hx;omega))
  have h3:=T.names_len [1];rw[hf.far.n,hn]at h2;simp at h2 h3;omega
variable {y:Leaf}
theorem wk_store {T2:Tab} (hs:Sp F hold p L T) (h:dN F hold [rA] p L T 4096 1 d 2 er p' L' T') (hd:d 0=9) (h0: ∀x,hold x=tn T2 x) (h2:T2.Ok p) (Xr: ∀g y,T2.lf g=some y->g=1) (hn:p.n=16) (hT: ∀g y,T.lf g=some y->g=1) (hy:T.lf 1=some y):
  er=0/\ ∃z,T'.lf 1=some z/\p'.dat z.frame 0=9:=by
 have wo: ∀j,0<(pst (4096,1) j).2->(pst (4096,1) j).1/4096=1:=fun j hj=>by
  have:=lJ (a:=4096) (n:=1) (by decide) hj;subst this;rfl
 rcases h with⟨h,_⟩|⟨_,h,_⟩|⟨_,_,_,h⟩|⟨_,_,he,j,all,p1,hj,h,hl⟩
 ·omega
 ·rw[oh (by decide) (by decide+kernel)]at h;cases h
 ·exfalso;have h1:=h.full.few h.seen.kept.sp.good.ok (G:=[1]) (us:=T2.names [1]) (fun g z hz=>by
   refine List.mem_singleton.2 (vo fun vK=>?_);have vW:T.lf g=none:=by
    cases hl:T.lf g with
    |none=>rfl
    |some u=>exact absurd (hT g u hl) vK
   have:=h.only g vW fun j hj e=>vK (e.trans (wo j hj));rw[this]at hz;cases hz) (fun x hx=>pK h2 (fun g z hz=>List.mem_singleton.2 (Xr g z hz)) (by rw[h0]at hx;exact hx))
  have h3:=T2.names_len [1];rw[(h.seen.kept.far (fun _ =>False)).n,hn]at h1;simp at h1 h3;omega
 ·obtain⟨z,hz,_⟩:=h.seen.kept.keep 1 y hy;have h9:=hl.byte 1 0 (by omega);rw[aV hz,if_pos (by dsimp only;omega)]at h9;refine⟨he,z,hz,?_⟩;rw[h9];exact hd
theorem pF (h:eN F hold [rA] p L T 4096 1 4 er k d p' L' T') (hy:T.lf 1=some y):er=0/\k=1/\d 0=p.dat y.frame 0/\p'=p/\T'=T/\L'=L:=by
 have wo: ∀j,0<(pst (4096,(1:Int).toNat) j).2->(pst (4096,(1:Int).toNat) j).1/4096=1:=fun j hj=>by
  have:=lJ (a:=4096) (n:=(1:Int).toNat) (by decide) hj;subst this;rfl
 rcases h with⟨h,_⟩|⟨_,_,h,_⟩|⟨_,_,_,_,h⟩|⟨_,_,_,he,hk,⟨j,hj,h⟩,hd⟩
 ·omega
 ·rw[oh (by decide) (by decide+kernel)]at h;cases h
 ·obtain⟨j,hj,e⟩:=h.gap;rw[wo j hj,hy]at e;cases e
 ·obtain⟨a1,a2,a3⟩:=h.still fun i hi e=>by rw[wo i (h.pos i hi),hy]at e;cases e
  refine⟨he,by omega,?_,a1,a3,a2⟩;rw[hd 0 (by omega),show(4096+0)/4096=1 from rfl,aV hy]
theorem sa (hF: ∃y,F[1]? =some y/\y.kind=1/\y.n=1/\ ∀i,y.dat i=7):eh F [] rA=0:=by
 obtain⟨h,_⟩:=ol hF;unfold eh;rw[if_neg (by rw[pX];exact fun e=>e rfl),if_neg (fun e=>e.2 h)]
theorem pL (x:Nat):tnS [none] x=0:=by rw[ce,im];rfl
theorem tnS_two0 (T:Tab) (x:Nat):tnS [none,some T] x=tn T x:=by rw[ce,ce,im];show 0+(tn T x+0)=_;omega
theorem wk_wiped {f:Nat} {fr t:Int} (h0:Sp F hold p L (aG f)) (h:cC F hold fr t p L (aG f) (aG f).puts.length p' T') (hn:p.n=16):(∀g,T'.lf g=none)/\p'.n=16:=by
 refine⟨fun g=>?_,by rw[(h.far (fun _ =>False)).n,hn]⟩;rw[h.done h0 (vd _) g];split<;>rfl
end
section
open Go.RowKit Go.Sort
variable {fs a c m:Nat} {S:Nat->Prop} {F:List Nd}
theorem nI {w1 w3:World} {nb c2 n B1:Nat} {ad mp:Nat->Nat} (hF:FsIs w1 B1 fs nb c2 ad mp F) (hb:Below w1.heap.size w1 w3) (hC:ar w3 S c a fs m 0 (fresh n) []) (hBF:ib F) (hS: ∀b,S b->w1.heap.size<=b) (hc:w1.heap.size<=c) (hm:w1.heap.size<=m) (h0:0<w1.heap.size) (hn:n<=1024):Hse w3 w1.heap.size c a fs m S F 0 (fresh n) [] []:=by
 refine⟨⟨hC,⟨w1,B1,nb,c2,ad,mp,rfl,hF,hb⟩,hBF,hS,hc,hm,h0⟩,Hs.start F n hn,fun k x h=>?_,fun j k x y _ h=>?_,fun k x h=>?_⟩<;>(rw[List.getElem?_nil]at h;cases h)
variable {w:World} {B:Nat} {clock:Int} {p:Pool} {L:List Slot} {l:List SpM}
theorem Hse.footLow (h:Hse w B c a fs m S F clock p L l): ∀b,aw S c m b->B<=b:=fun b e=>by
 rcases e with e|e|e
 ·exact h.home.low b e
 ·rw[e];exact h.home.lows.2.1
 ·rw[e];exact h.home.lows.1
variable {w':World}
theorem Hse.goes {w0:World} (h:Hse w B c a fs m S F clock p L l) (hB:w0.heap.size<=B) (hb:Below w0.heap.size w0 w) (hm:Mod (aw S c m) w w'):Below w0.heap.size w0 w':=hb.trans (hm.below (fun b e=>vx hB (h.footLow b e)) hb.size)
variable {base cap k:Nat} {d:Nat->Nat}
theorem OwnB.foot {g:Nat} (h:OwnB w base (some ⟨g,0,none⟩) cap k d) (hS: ¬S g) (hc:c<base) (hm:m<base) (hM:Mod (aw S c m) w w'):OwnB w' base (some ⟨g,0,none⟩) cap k d:=h.sameR fun g' e=>by
 injection e with e;injection e with e;subst e;have h1:=h.form;exact hM.block g h1.2 (fun e=>e.elim hS fun e=>e.elim (fun e=>by omega) (fun e=>by omega))
theorem OwnB.some_of {A:Option Addr} (h:OwnB w base A cap k d) (hk:0<k): ∃g,A=some ⟨g,0,none⟩:=by
 rcases h.2 with⟨h1,_⟩|⟨g,vA,cur,h1,_⟩
 ·exfalso;have h2:=h.1;injection h1 with e1 e2 e3;rw[e2]at hk;cases hk
 ·injection h1 with e1 e2 e3;exact⟨g,e1⟩
theorem entA_at {b e:Nat} (hE:w.heap[e]? =some (.cells #[.string ⟨#[47,97]⟩, .int .u8 1, .int .u16 420, .int .u32 0, .int .u32 0, .slice (some ⟨b,0,none⟩) 1 1, .string ⟨#[]⟩] 93 (0,0))) (hD:w.heap[b]? =some (.cells #[.int .u8 7] 5 (0,0))):fU w (some ⟨e,0,none⟩) [entA]:=by
 intro j x hj;cases j with
 |succ j=>rw[List.getElem?_cons_succ,List.getElem?_nil]at hj;cases hj
 |zero=>
  rw[List.getElem?_cons_zero]at hj;injection hj with hj;subst hj;refine⟨e,some ⟨b,0,none⟩,1,rfl,(uZ hE).1,⟨aa hE 0,aa hE 1,aa hE 2,aa hE 3,aa hE 4,aa hE 5,aa hE 6⟩,⟨by decide,by decide,by decide,?_,fun e=>by cases e⟩⟩;exact fun _ =>⟨_,rfl,fun j hj=>by
   have Dh:j<1:=hj;obtain rfl:j=0:=(by omega);exact aa hD 0⟩
theorem og (w:World) (Ah:DB w) (vE:0<w.heap.size):Calls Tryz.prog 10 #[] w fun e w'=>e= .returned (.bool true)/\Below w.heap.size w w':=by
 obtain⟨w0,zR⟩: ∃w0,w0=((w.alloc (.cells #[.int .u8 7] 5)).alloc (.cells #[.string ⟨#[47,97]⟩, .int .u8 1, .int .u16 420, .int .u32 0, .int .u32 0, .slice (some ⟨w.heap.size,0,none⟩) 1 1, .string ⟨#[]⟩] 93)):=⟨_,rfl⟩;have vF:Below w.heap.size w w0:=(by rw[zR];exact vc.alloc (by simp) _);have hE:w0.heap[w.heap.size+1]? =some (.cells #[.string ⟨#[47,97]⟩, .int .u8 1, .int .u16 420, .int .u32 0, .int .u32 0, .slice (some ⟨w.heap.size,0,none⟩) 1 1, .string ⟨#[]⟩] 93 (0,0)):=by
  rw[zR];have e:(w.alloc (.cells #[.int .u8 7] 5)).heap.size=w.heap.size+1:=(by simp);rw[<-e];exact ab _ _
 have hD:w0.heap[w.heap.size]? =some (.cells #[.int .u8 7] 5 (0,0)):=(by rw[zR];exact(ve _ _ _ (by simp)).trans (ab w _));have hnew:=jy (some ⟨w.heap.size+1,0,none⟩) 1 [entA] w0 (entA_at hE hD) (by decide) (by decide) entA_ok;have yu:=va hnew;have vY:=va zR;have wO:=va vF;have Es:=va Ah;clear hnew zR vF Ah hE hD;go_enter Tryz.func10,Tryz.ntmps10;go_upto_region 8 with(first
  |(go_at_call 37;rw[<-vY.out];refine(yu.out).mono ?_;rintro e w1 ⟨fs,rfl,hF,vD⟩;have Bv:=wO.out.trans (vD.mono wO.out.size);have HF:=va hF;have vJ:=va Bv;have HDB1:=va (Es.out.same (Bv.block 0 vE));have wg:=Bv.size;clear hF vD Bv)
  |(go_at_call 38;refine(lY 16 _ (by omega) (by omega) HDB1.out (by omega)).mono ?_;rintro e w2 ⟨a,S,rfl,hP,vM,Bl⟩;have HP:=va hP;have xC:=va vM;have Iz:=va Bl;have wm:=vM.size;clear hP vM Bl)
  |(go_at_call 39;refine(qo a fs _ S (fresh 16) HP.out).mono ?_;rintro e w3 ⟨c,m,rfl,hC,vX,Xm,xH⟩;have HC:=va hC;have yH:=va vX;have xR:=vX.size;clear hC vX))
 obtain⟨nb,c2,adf,mpf,hF⟩:=HF.out;have At:=tY;have h3:Hse w3 w1.heap.size c a fs m S (cV [entA]) 0 (fresh 16) [] []:=nI hF (xC.out.trans (yH.out.mono wm)) HC.out (gQ (fun x hx=>by rw[List.mem_singleton]at hx;subst hx;exact fun i=>by show 7<256;omega)) Iz.out (by omega) (by omega) (by omega) (by omega);obtain⟨F,Od⟩: ∃F,F=cV [entA]:=⟨_,rfl⟩;rw[<-Od]at h3 At;clear Od;have MP:=va At;have hn:=hnew h3;have HN:=va hn;have H3:=va h3;have Aa:w.heap.size<=w1.heap.size:=(by have:=wO.out.size;omega);have hcB:w1.heap.size<=c/\w1.heap.size<=m/\c<w3.heap.size/\m<w3.heap.size:=⟨by omega,by omega,h3.home.lts.1,h3.home.lts.2.1⟩;have Qp:Below w.heap.size w w3:=vJ.out.trans ((xC.out.trans (yH.out.mono wm)).mono (by omega));have WM:=va Qp;have xb:w.heap.size<=w3.heap.size:=Qp.size;clear hF At h3 hn HF HP HC xC yH Iz yu vY wO vJ Qp Xm xH;go_wp2_with fail;refine(HN.out).mono ?_;rintro e w4 (⟨s,t,f,p4,L4,S4,rfl,h4,xq,Ag,Yp,WX⟩|⟨f,p4,L4,S4,rfl,h4,xq,Ag,WX,_⟩)
 rotate_left
 ·obtain⟨h,_⟩:=WX.first (iS (by omega:1<=16));cases h
 obtain⟨_,PJ,JF,hL4⟩:=WX.first (iS (by omega:1<=16));have EM:p4.n=16:=(by rw[JF];rfl);obtain⟨x4,zz⟩: ∃x4:SpM,x4=⟨s,t,f,none,0,0,[],some (aG f)⟩:=⟨_,rfl⟩;rw[<-zz]at h4;have Bi:([]++[x4])[0]? =some x4:=rfl;have Fk:x4.T=some (aG f):=(by rw[zz]);have OW:x4.s=s:=(by rw[zz]);have Pb:x4.rl=[]:=(by rw[zz]);have SR:=wk_rgs MP.out;have Bp:=hmap h4 Bi Fk rA rA_ok (fun _ _ =>by rw[Pb,pX];exact SR);rw[OW]at Bp;have H4:=va h4;have CF:=va xq;have yd:=va Ag;have HMP:=va Bp;have Rd:=va (H3.out.goes Aa WM.out xq);have AK:=va (And.intro Fk (And.intro OW Pb));clear Bp h4 xq Ag WX zz Bi Fk OW Pb JF hL4 HN SR CF yd H3 WM;go_wp2_with fail;refine(HMP.out).mono ?_;rintro e w5 (⟨er,rfl,g1,g2,_,_⟩|⟨rfl,Lh,A5,zE,p5,T5,h5,xf,_,hwp⟩)
 ·rw[AK.out.2.2,sa MP.out]at g2;exact absurd g2 g1
 clear Lh;obtain⟨Ti,Nu⟩:=wk_wiped (H4.out.sp (k:=0) rfl AK.out.1) hwp EM;obtain⟨x5,xi⟩: ∃x5,x5=x4.withR A5 zE (Rg.put x4.rl rA).1 T5:=⟨_,rfl⟩;rw[<-xi]at h5;change Hse w5 w1.heap.size c a fs m S4 F 0 p5 L4 [x5]at h5;have RF:x5.T=some T5:=(by rw[xi];rfl);have Lk:x5.s=s:=(by rw[xi];exact AK.out.2.1);have SQ:x5.rl=[rA]:=(by rw[xi];show(Rg.put x4.rl rA).1=_;rw[AK.out.2.2,pX]);have TC:x5.n=1:=(by rw[xi];show(Rg.put x4.rl rA).1.length=_;rw[AK.out.2.2,pX];rfl);have JZ:=jb h5 (k:=0) rfl RF (by simp) 4096 2 4 (by decide) ⟨by decide,by decide⟩;rw[Lk]at JZ;have Vm:Below w.heap.size w w5:=Rd.out.trans (xf.below (fun b e=>vx Aa (e.elim (H4.out.footLow b) (fun e=>by rw[AK.out.2.1]at e;omega))) Rd.out.size);have H5:=va h5;have WL:=va Vm;have CS:=va (And.intro RF (And.intro Lk (And.intro SQ TC)));have VQ:=va Ti;have Wa:=va JZ;clear h5 Vm RF Lk SQ TC Ti xi xf hwp JZ HMP H4 AK Rd EM;go_wp2_with fail;refine(jd _ _ _ _ _ ((Wa.out).mono ?_));rintro e w6 ⟨er,R6,kk,cp6,d6,p6,L6,T6,Qt,S6,rfl,h6,yU,BU,q1,q2,BR,⟨To,_⟩,Jy⟩;rw[CS.out.2.2.1]at Jy;obtain⟨rfl,rfl,Zo,Zn,hn6,RN,y6,hy6,NS⟩:=wk_load1 MP.out Jy (fun x=>pL x) Nu VQ.out;obtain⟨g6,rfl⟩:=BR.some_of (by decide);have Vl:=H5.out.goes Aa WL.out yU;have TU:=To g6 rfl;obtain⟨x6,Rn⟩: ∃x6,x6=x5.withT T6:=⟨_,rfl⟩;rw[<-Rn]at h6;change Hse w6 w1.heap.size c a fs m S6 F Qt p6 L6 [x6]at h6;have Qd:x6.T=some T6:=(by rw[Rn];rfl);have Yo:x6.s=s:=(by rw[Rn];exact CS.out.2.1);have SO:x6.rl=[rA]:=(by rw[Rn];exact CS.out.2.2.1);have JW:x6.n=1:=(by rw[Rn];exact CS.out.2.2.2);have PI:=hfork h6 (k:=0) rfl Qd (by simp) (by rw[JW];decide);rw[Yo]at PI;have hg6b:=BR.form;have Mi:c<w5.heap.size/\m<w5.heap.size:=⟨H5.out.home.lts.1,H5.out.home.lts.2.1⟩;refine⟨⟨_,_,rfl⟩,?_⟩;have H6:=va h6;have WK:=va Vl;have Iw:=va (And.intro Qd (And.intro Yo (And.intro SO JW)));have Wp:=va PI;have Cr:=va BR;have QR:=va RN;have Xy:=va hy6;have OC:=va NS;clear h6 Vl Qd Yo SO JW PI BR RN hy6 NS Rn yU BU Jy To Wa H5 CS VQ WL Nu;go_wp2_with fail;refine(Wp.out).mono ?_;rintro e w7 (⟨p7,L7,S7,rfl,h7,xh,Ns,YB⟩|⟨s7,t7,f7,A7,KI,p7,L7,T7,U7,S7,rfl,h7,xh,Ns,hs7,PL⟩)
 ·exact(wk_fork (H6.out.sp (k:=0) rfl Iw.out.1) YB (fun x=>pL x) hn6 QR.out).elim
 have Qo:=H6.out.goes Aa WK.out xh;have JH:=Cr.out.foot TU Mi.1 Mi.2 xh;have Zg: ¬S7 g6:=fun e=>(Ns g6 e).elim TU (fun e=>by omega);have hn7:p7.n=16:=(by rw[(PL.far (fun _ =>False)).n,hn6]);have Ql: ∀g y,T7.lf g=some y->g=1:=fun g y hy=>by
  rw[PL.lf1 g]at hy;cases hl:T6.lf g with
  |none=>rw[hl]at hy;cases hy
  |some z=>exact QR.out g z hl
 have hGU: ∀g y,U7.lf g=some y->g=1:=fun g y hy=>by
  rw[PL.lf2 g]at hy;cases hl:T6.lf g with
  |none=>rw[hl]at hy;cases hy
  |some z=>exact QR.out g z hl
 have hyT:T7.lf 1=some (cpy y6):=(by rw[PL.lf1,Xy.out];rfl);have hyU:U7.lf 1=some (cpy y6):=(by rw[PL.lf2,Xy.out];rfl);have NP:p7.dat y6.frame 0=7:=(by rw[PL.dat y6.frame ((H6.out.sp (k:=0) rfl Iw.out.1).leaf Xy.out).2.2.2.2.1];exact OC.out);obtain⟨x7,OH⟩: ∃x7,x7=x6.withT T7:=⟨_,rfl⟩;obtain⟨u7,Sn⟩: ∃u7:SpM,u7=⟨s7,t7,f7,A7,x6.n,KI,x6.rl,some U7⟩:=⟨_,rfl⟩;rw[<-OH,<-Sn]at h7;change Hse w7 w1.heap.size c a fs m S7 F Qt p7 L7 [x7,u7]at h7;have Qc:x7.T=some T7:=(by rw[OH];rfl);have OG:x7.s=s:=(by rw[OH];exact Iw.out.2.1);have Na:x7.rl=[rA]:=(by rw[OH];exact Iw.out.2.2.1);have hU7:u7.T=some U7:=(by rw[Sn]);have Sl:u7.s=s7:=(by rw[Sn]);have Nf:u7.rl=[rA]:=(by rw[Sn];exact Iw.out.2.2.1);have Fh:Below w7.heap.size w7 (w7.alloc (.cells #[.int .u8 9] 5)):=vc;obtain⟨w8,Si⟩: ∃w8,w8=w7.alloc (.cells #[.int .u8 9] 5):=⟨_,rfl⟩;rw[<-Si]at Fh;have ZY:w8.heap[w7.heap.size]? =some (.cells #[.int .u8 9] 5 (0,0)):=(by rw[Si];exact ab _ _);have h8:=h7.below Fh;have xo:=nH h8 (k:=0) rfl Qc (by simp) 4096 1 1 2 (some ⟨w7.heap.size,0,none⟩) (fun _ =>9) (by decide) ⟨by omega,by omega⟩ (by decide) (by decide) (fun _ =>⟨_,rfl,fun j hj=>by obtain rfl:j=0:=(by omega);exact aa ZY 0⟩) (fun _ =>by decide) (fun ad e=>by
  injection e with e;subst e;refine⟨(uZ ZY).1,fun e=>?_⟩;have IJ:=h7.home.lts;rcases e with e|e|e
  ·have:=IJ.2.2 _ e;dsimp only at this;omega
  ·dsimp only at e;omega
  ·dsimp only at e;omega)
 rw[OG]at xo;have H8:=va h8;have CD:=va xo;have Vu:=va Si;have WJ:=va (Qo.trans (Fh.mono Qo.size));have He:=va (And.intro Qc (And.intro OG Na));have RS:=va (And.intro hU7 (And.intro Sl Nf));have Om:=va (JH.sameR (w':=w8) fun g e=>by injection e with e;injection e with e;subst e;exact Fh.block _ JH.form.2);have Wm:=va (And.intro Ql hGU);have HY7:=va (And.intro hyT hyU);have HD7:=va NP;clear h7 h8 xo Si Fh ZY Qo JH PL xh Ns Ql hGU hyT hyU NP OH Sn Qc OG Na hU7 Sl Nf Wp H6 Iw Cr QR Xy OC WK;go_upto_region 15 with(first
  |(go_at_call 30;rw[<-Vu.out];refine(mU _ _ _ _ _ ((CD.out).mono ?_));rintro e w9 ⟨er9,p9,L9,T9,clk9,S9,rfl,h9,zi,Hx,q3,q4,GG⟩;refine⟨⟨_,rfl⟩,?_⟩)
  |fail)
 rw[He.out.2.2]at GG;have OT:=H8.out.sp (k:=0) rfl He.out.1;have Jq:=H8.out.sp (k:=1) rfl RS.out.1;have TE:=GG.left OT (H8.out.ownT (k:=0) rfl He.out.1);obtain⟨rfl,z9,XI,NO⟩:=wk_store (T2:=U7) OT GG rfl (fun x=>by show tnS [none,u7.T] x=_;rw[RS.out.1,tnS_two0]) Jq.good.ok Wm.out.2 hn7 Wm.out.1 HY7.out.1;have NN:p9.dat (cpy y6).frame 0=7:=by
  have xV:=H8.out.hs.beside (k:=0) (j:=1) (eQ (k:=0) (l:=[x7,u7]) rfl He.out.1) (eQ (k:=1) (l:=[x7,u7]) rfl RS.out.1) (by decide);have h1:=Sp.besideDat xV (TE.2.1 (fun _ =>False)) (x:=(cpy y6).frame) (il (Jq.leaf HY7.out.2).2.2.2.2.1);rw[h1];exact HD7.out
 have Vk:=H8.out.goes Aa WJ.out zi;have BQ:=Om.out.foot Zg Mi.1 Mi.2 zi;obtain⟨x9,zG⟩: ∃x9,x9=x7.withT T9:=⟨_,rfl⟩;rw[<-zG]at h9;change Hse w9 w1.heap.size c a fs m S9 F clk9 p9 L9 [x9,u7]at h9;have hT9:x9.T=some T9:=(by rw[zG];rfl);have Se:x9.s=s:=(by rw[zG];exact He.out.2.1);have MZ:x9.rl=[rA]:=(by rw[zG];exact He.out.2.2);have JZ:=jb h9 (k:=1) rfl RS.out.1 (by simp) 4096 1 4 (by decide) ⟨by omega,by omega⟩;rw[RS.out.2.1]at JZ;have m0:w9.cell? ⟨g6,0,none⟩=some (.int .u8 7):=(by have:=BQ.cell (j:=0) (by decide);rw[Zo]at this;exact this);have m1:w9.cell? ⟨g6,1,none⟩=some (.int .u8 0):=(by have:=BQ.cell (j:=1) (by decide);rw[Zn]at this;exact this);have H9:=va h9;have Wa:=va JZ;have WI:=va Vk;have Qu:=va (And.intro hT9 (And.intro Se MZ));have HZ9:=va XI;have Ww:=va NO;have Wv:=va NN;have Uk:c<w9.heap.size/\m<w9.heap.size:=⟨h9.home.lts.1,h9.home.lts.2.1⟩;clear h9 JZ Vk hT9 Se MZ XI NO NN OT Jq TE GG BQ zG zi Hx H8 He Wm HD7 Om WJ CD Vu;go_upto_region 18 with(first
  |(go_at_call 28;refine(jd _ _ _ _ _ ((Wa.out).mono ?_));rintro e w10 ⟨er10,R10,k10,cp10,d10,p10,L10,T10,Vr,S10,rfl,KH,xX,LR,q5,q6,zT,⟨Nt,_⟩,FN⟩;refine⟨⟨_,_,rfl⟩,?_⟩)
  |fail)
 rw[RS.out.2.2]at FN;obtain⟨rfl,rfl,Uj,rfl,rfl,rfl⟩:=pF FN HY7.out.2;obtain⟨g10,rfl⟩:=zT.some_of (by decide);have Oe:=H9.out.goes Aa WI.out xX;have TW:=Nt g10 rfl;have hg10b:=zT.form;obtain⟨u10,So⟩: ∃u10,u10=u7.withT T10:=⟨_,rfl⟩;rw[<-So]at KH;change Hse w10 w1.heap.size c a fs m S10 F Vr p10 L10 [x9,u10]at KH;have JZ:=jb KH (k:=0) rfl Qu.out.1 (by simp) 4096 1 4 (by decide) ⟨by omega,by omega⟩;rw[Qu.out.2.1]at JZ;rw[Wv.out]at Uj;have H10:=va KH;have VZ:=va JZ;have WN:=va Oe;have KR:=va zT;clear KH JZ Oe So xX LR zT Nt FN Wa H9 WI m0 m1;go_upto_region 19 with(first
  |(go_at_call 28;refine(jd _ _ _ _ _ ((VZ.out).mono ?_));rintro e w11 ⟨er11,R11,k11,cp11,d11,p11,L11,T11,clk11,S11,rfl,Qs,Pq,Yz,q7,q8,FQ,⟨Tp,_⟩,FM⟩;refine⟨⟨_,_,rfl⟩,?_⟩)
  |fail)
 rw[Qu.out.2.2]at FM;obtain⟨rfl,rfl,Ui,rfl,rfl,rfl⟩:=pF FM HZ9.out;obtain⟨g11,rfl⟩:=FQ.some_of (by decide);have Vn:=H10.out.goes Aa WN.out Pq;have zT:=KR.out.foot TW Uk.1 Uk.2 Pq;have m0:w11.cell? ⟨g10,0,none⟩=some (.int .u8 7):=(by have:=zT.cell (j:=0) (by decide);rw[Uj]at this;exact this);have m1:w11.cell? ⟨g11,0,none⟩=some (.int .u8 9):=(by have:=FQ.cell (j:=0) (by decide);rw[Ui,Ww.out]at this;exact this);clear Qs Pq Yz FQ Tp FM Ui VZ H10 KR zT;go_wp2_with fail;go_ret;exact⟨rfl,Vn⟩
end
