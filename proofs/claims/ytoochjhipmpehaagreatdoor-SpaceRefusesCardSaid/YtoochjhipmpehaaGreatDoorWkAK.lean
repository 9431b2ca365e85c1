/- Spaces, plain: the house of works. -/
import Derived.Test.YtoochjhipmpehaaGreatDoorSwK
set_option linter.unusedVariables false
set_option linter.unusedSimpArgs false
set_option maxRecDepth 100000
namespace Go.Proofs.YtoochjhipmpehaaGreatDoor
section
open Go.RowKit Go.Sort
def rA:Reg:=⟨4096,8192,6,1,0⟩
theorem rA_ok:rA.Ok:=by constructor<;>decide
theorem pJ:Rg.put [] rA=([rA],0):=by decide+kernel
theorem rA_right:Rg.right [rA]=true:=by decide+kernel
theorem sG:Rg.find [rA] 4096=(rA,true):=by decide+kernel
variable {n:Nat}
theorem lz {a j:Nat} (h:a % 4096+n<=4096) (hj:0<(pst (a,n) j).2):j=0:=by
 rcases Nat.eq_zero_or_pos j with h0|h0
 ·exact h0
 ·have h1:(pst (a,n) 1).2=0:=by
   show n-pm (a,n)=0;unfold pm;dsimp only;omega
  have:=gy h1 (j-1);rw[show 1+(j-1)=j by omega]at this;omega
theorem nQ (hn:n<=2) {want:Int} (hw:bits .and .u8 6 want=want):dS [rA] (4096,n) want=true:=by
 refine mT ⟨by dsimp only;omega,fun k hk=>?_⟩;have:=lz (by omega) hk;subst this;exact⟨rA,sG,hw⟩
variable {F:List Nd}
theorem nR (hF: ∃y,F[1]? =some y/\y.kind=1/\y.n=1/\ ∀i,y.dat i=7):dL F 1/\mU F 1 0 0=7/\mU F 1 0 1=0:=by
 obtain⟨y,h1,h2,h3,h4⟩:=hF;have hl:=(List.getElem?_eq_some_iff.1 h1).1;have hR:dz F 1 0=(0,min 4096 (y.n-0),fun i=>y.dat (0+i)):=by
  unfold dz iR;rw[if_neg (by omega)];rw[show(1:Int).toNat=1 from rfl,h1];dsimp only;rw[if_neg (by omega),if_pos h2];rfl
 refine⟨⟨y,h1,h2⟩,?_,?_⟩
 ·unfold mU laid;rw[hR,h3];dsimp only;rw[if_pos (by omega),h4]
 ·unfold mU laid;rw[hR,h3];dsimp only;rw[if_neg (by omega)]
theorem wk_src (hF: ∃y,F[1]? =some y/\y.kind=1/\y.n=1/\ ∀i,y.dat i=7):oe F [rA] 1 0=7/\oe F [rA] 1 1=0:=by
 obtain⟨_,h1,h2⟩:=nR hF;have e:(Rg.find [rA] (((1:Nat):Int)*4096)).1=rA:=(by rw[show(((1:Nat):Int)*4096)=4096 from rfl,sG]);have hs:srcD F rA 1=mU F 1 0:=by
  unfold srcD;rw[if_pos (by decide+kernel)];rfl
 unfold oe;rw[e,hs];exact⟨h1,h2⟩
theorem wk_rgs (hF: ∃y,F[1]? =some y/\y.kind=1/\y.n=1/\ ∀i,y.dat i=7):Rgs F [rA]:=by
 obtain⟨⟨y,h1,h2⟩,_⟩:=nR hF;refine⟨rA_right,fun r hr=>?_,fun r hr _ =>?_⟩
 ·rw[List.mem_singleton]at hr;subst hr;exact rA_ok
 ·rw[List.mem_singleton]at hr;subst hr;exact⟨y,h1,h2⟩
variable {hold d:Nat->Nat} {p p':Pool} {L L':List Slot} {T T':Tab} {er:Int} {k:Nat}
theorem wk_load1 (hF: ∃y,F[1]? =some y/\y.kind=1/\y.n=1/\ ∀i,y.dat i=7) (h:eG F hold [rA] p L T 4096 2 4 er k d p' L' T') (h0: ∀x,hold x=0) (hn:p.n=16) (hT: ∀g,T.lf g=none):
  er=0/\k=2/\d 0=7/\d 1=0/\p'.n=16/\(∀g y,T'.lf g=some y->g=1)/\ ∃y,T'.lf 1=some y/\p'.dat y.frame 0=7:=by
 have vN: ∀j,0<(pst (4096,(2:Int).toNat) j).2->(pst (4096,(2:Int).toNat) j).1/4096=1:=fun j hj=>by
  have:=lz (a:=4096) (n:=(2:Int).toNat) (by decide) hj;subst this;rfl
 rcases h with⟨h,_⟩|⟨_,_,h,_⟩|⟨_,_,_,_,h⟩|⟨_,_,_,he,hk,⟨j,hj,h⟩,hd⟩
 ·omega
 ·rw[nQ (by decide) (by decide+kernel)]at h;cases h
 ·exfalso;have h1:=h.full.few h.seen.kept.sp.good.ok (G:=[1]) (us:=[]) (fun g y hy=>by
   refine List.mem_singleton.2 (uV fun vu=>?_);have:=h.only g (hT g) fun j hj e=>vu (e.trans (vN j hj));rw[this]at hy;cases hy) (fun x hx=>by rw[h0]at hx;omega)
  rw[(h.seen.kept.far (fun _ =>False)).n,hn]at h1;simp at h1
 ·have Am:k=2:=(by omega);have wA:0<j:=by
   rcases Nat.eq_zero_or_pos j with e|e
   ·subst e;exact absurd hj (by decide)
   ·exact e
  have Ni:=hd 0 (by omega);have Ig:=hd 1 (by omega);rw[show(4096+0)/4096=1 from rfl,bN (hT 1)]at Ni;rw[show(4096+1)/4096=1 from rfl,bN (hT 1)]at Ig;obtain⟨s0,s1⟩:=wk_src hF;obtain⟨y,Iv⟩:=h.there 0 wA;have hy:T'.lf 1=some y:=Iv;refine⟨he,Am,by rw[Ni];exact s0,by rw[Ig];exact s1,by rw[(h.seen.kept.far (fun _ =>False)).n,hn],fun g y hy=>?_,y,hy,?_⟩
  ·refine uV fun vu=>?_;have:=h.only g (hT g) fun i hi e=>vu (e.trans (vN i (h.pos i hi)));rw[this]at hy;cases hy
  ·have h9:=h.seen.cont 1 0 (by omega);rw[bm hy,bN (hT 1),s0]at h9;exact h9
theorem wk_fork (hs:Sp F hold p L T) (h:qh F hold p L T p' L') (h0: ∀x,hold x=0) (hn:p.n=16) (hT: ∀g y,T.lf g=some y->g=1):False:=by
 have hG: ∀g y,T.lf g=some y->g∈[1]:=fun g y hy=>List.mem_singleton.2 (hT g y hy);rcases h.full with h1|⟨k,p1,L1,T2,hf,h1⟩
 ·have h2:=h1.few hs.good.ok (us:=[]) hG (fun x hx=>by rw[h0]at hx;omega);rw[hn]at h2;simp at h2
 ·have h2:=h1.few hf.two.good.ok (G:=[1]) (us:=T.names [1]) (fun g y hy=>by
   rw[hf.lf g]at hy;split at hy
   ·cases hl:T.lf g with
    |none=>rw[hl]at hy;cases hy
    |some z=>exact hG g z hl
   ·cases hy) (fun x hx=>py hs.good.ok hG (by rw[h0]at hx;omega))
  have h3:=T.names_len [1];rw[hf.far.n,hn]at h2;simp at h2 h3;omega
variable {y:Leaf}
theorem wk_store {T2:Tab} (hs:Sp F hold p L T) (h:dG F hold [rA] p L T 4096 1 d 2 er p' L' T') (hd:d 0=9) (h0: ∀x,hold x=tn T2 x) (h2:T2.Ok p) (Hg: ∀g y,T2.lf g=some y->g=1) (hn:p.n=16) (hT: ∀g y,T.lf g=some y->g=1) (hy:T.lf 1=some y):
  er=0/\ ∃z,T'.lf 1=some z/\p'.dat z.frame 0=9:=by
 have vN: ∀j,0<(pst (4096,1) j).2->(pst (4096,1) j).1/4096=1:=fun j hj=>by
  have:=lz (a:=4096) (n:=1) (by decide) hj;subst this;rfl
 rcases h with⟨h,_⟩|⟨_,h,_⟩|⟨_,_,_,h⟩|⟨_,_,he,j,all,p1,hj,h,hl⟩
 ·omega
 ·rw[nQ (by decide) (by decide+kernel)]at h;cases h
 ·exfalso;have h1:=h.full.few h.seen.kept.sp.good.ok (G:=[1]) (us:=T2.names [1]) (fun g z hz=>by
   refine List.mem_singleton.2 (uV fun vu=>?_);have vE:T.lf g=none:=by
    cases hl:T.lf g with
    |none=>rfl
    |some u=>exact absurd (hT g u hl) vu
   have:=h.only g vE fun j hj e=>vu (e.trans (vN j hj));rw[this]at hz;cases hz) (fun x hx=>py h2 (fun g z hz=>List.mem_singleton.2 (Hg g z hz)) (by rw[h0]at hx;exact hx))
  have h3:=T2.names_len [1];rw[(h.seen.kept.far (fun _ =>False)).n,hn]at h1;simp at h1 h3;omega
 ·obtain⟨z,hz,_⟩:=h.seen.kept.keep 1 y hy;have h9:=hl.byte 1 0 (by omega);rw[bm hz,if_pos (by dsimp only;omega)]at h9;refine⟨he,z,hz,?_⟩;rw[h9];exact hd
theorem pp (h:eG F hold [rA] p L T 4096 1 4 er k d p' L' T') (hy:T.lf 1=some y):er=0/\k=1/\d 0=p.dat y.frame 0/\p'=p/\T'=T/\L'=L:=by
 have vN: ∀j,0<(pst (4096,(1:Int).toNat) j).2->(pst (4096,(1:Int).toNat) j).1/4096=1:=fun j hj=>by
  have:=lz (a:=4096) (n:=(1:Int).toNat) (by decide) hj;subst this;rfl
 rcases h with⟨h,_⟩|⟨_,_,h,_⟩|⟨_,_,_,_,h⟩|⟨_,_,_,he,hk,⟨j,hj,h⟩,hd⟩
 ·omega
 ·rw[nQ (by decide) (by decide+kernel)]at h;cases h
 ·obtain⟨j,hj,e⟩:=h.gap;rw[vN j hj,hy]at e;cases e
 ·obtain⟨a1,a2,a3⟩:=h.still fun i hi e=>by rw[vN i (h.pos i hi),hy]at e;cases e
  refine⟨he,by omega,?_,a1,a3,a2⟩;rw[hd 0 (by omega),show(4096+0)/4096=1 from rfl,bm hy]
theorem rO (hF: ∃y,F[1]? =some y/\y.kind=1/\y.n=1/\ ∀i,y.dat i=7):dW F [] rA=0:=by
 obtain⟨h,_⟩:=nR hF;unfold dW;rw[if_neg (by rw[pJ];exact fun e=>e rfl),if_neg (fun e=>e.2 h)]
theorem pz (x:Nat):tnS [none] x=0:=by rw[bW,ib];rfl
theorem tnS_two0 (T:Tab) (x:Nat):tnS [none,some T] x=tn T x:=by rw[bW,bW,ib];show 0+(tn T x+0)=_;omega
theorem wk_wiped {f:Nat} {fr t:Int} (h0:Sp F hold p L (aF f)) (h:cx F hold fr t p L (aF f) (aF f).puts.length p' T') (hn:p.n=16):(∀g,T'.lf g=none)/\p'.n=16:=by
 refine⟨fun g=>?_,by rw[(h.far (fun _ =>False)).n,hn]⟩;rw[h.done h0 (uK _) g];split<;>rfl
end
