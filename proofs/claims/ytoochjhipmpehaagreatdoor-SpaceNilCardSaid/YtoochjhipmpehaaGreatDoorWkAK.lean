/- Spaces, plain: the house of works. -/
import Derived.Test.YtoochjhipmpehaaGreatDoorAbK
import Derived.Test.YtoochjhipmpehaaGreatDoorPcK
import Derived.Test.YtoochjhipmpehaaGreatDoorSwK
set_option linter.unusedVariables false
set_option linter.unusedSimpArgs false
set_option maxRecDepth 100000
namespace Go.Proofs.YtoochjhipmpehaaGreatDoor
section
open Go.RowKit Go.Sort
def rA:Reg:=⟨4096,8192,6,1,0⟩
theorem rA_ok:rA.Ok:=by constructor<;>decide
theorem rA_put:Rg.put [] rA=([rA],0):=by decide+kernel
theorem rA_right:Rg.right [rA]=true:=by decide+kernel
theorem rA_find:Rg.find [rA] 4096=(rA,true):=by decide+kernel
theorem pst_one {a n j:Nat} (h:a % 4096+n≤4096) (hj:0<(pst (a,n) j).2):j=0:=by
 rcases Nat.eq_zero_or_pos j with h0|h0
 ·exact h0
 ·have h1:(pst (a,n) 1).2=0:=by
   show n-pm (a,n)=0
   unfold pm
   dsimp only
   omega
  have:=pst_stop h1 (j-1)
  rw[show 1+(j-1)=j by omega]at this
  omega
theorem wk_perm {n:Nat} (hn:n≤2) {want:Int} (hw:bits .and .u8 6 want=want):permB [rA] (4096,n) want=true:=by
 refine permB_yes ⟨by dsimp only;omega,fun k hk=>?_⟩
 have:=pst_one (by omega) hk
 subst this
 exact⟨rA,rA_find,hw⟩
theorem wk_file {F:List Nd} (hF: ∃y,F[1]? =some y∧y.kind=1∧y.n=1∧ ∀i,y.dat i=7):FileAt2 F 1∧pageD F 1 0 0=7∧pageD F 1 0 1=0:=by
 obtain⟨y,h1,h2,h3,h4⟩:=hF
 have hl:=(List.getElem?_eq_some_iff.1 h1).1
 have hR:pageR F 1 0=(0,min 4096 (y.n-0),fun i=>y.dat (0+i)):=by
  unfold pageR readR
  rw[if_neg (by omega)]
  rw[show(1:Int).toNat=1 from rfl,h1]
  dsimp only
  rw[if_neg (by omega),if_pos h2]
  rfl
 refine⟨⟨y,h1,h2⟩,?_,?_⟩
 ·unfold pageD laid
  rw[hR,h3]
  dsimp only
  rw[if_pos (by omega),h4]
 ·unfold pageD laid
  rw[hR,h3]
  dsimp only
  rw[if_neg (by omega)]
theorem wk_src {F:List Nd} (hF: ∃y,F[1]? =some y∧y.kind=1∧y.n=1∧ ∀i,y.dat i=7):srcOf F [rA] 1 0=7∧srcOf F [rA] 1 1=0:=by
 obtain⟨_,h1,h2⟩:=wk_file hF
 have e:(Rg.find [rA] (((1:Nat):Int)*4096)).1=rA:=by rw[show(((1:Nat):Int)*4096)=4096 from rfl,rA_find]
 have hs:srcD F rA 1=pageD F 1 0:=by
  unfold srcD
  rw[if_pos (by decide+kernel)]
  rfl
 unfold srcOf
 rw[e,hs]
 exact⟨h1,h2⟩
theorem wk_rgs {F:List Nd} (hF: ∃y,F[1]? =some y∧y.kind=1∧y.n=1∧ ∀i,y.dat i=7):Rgs F [rA]:=by
 obtain⟨⟨y,h1,h2⟩,_⟩:=wk_file hF
 refine⟨rA_right,fun r hr=>?_,fun r hr _ =>?_⟩
 ·rw[List.mem_singleton]at hr;subst hr;exact rA_ok
 ·rw[List.mem_singleton]at hr;subst hr;exact⟨y,h1,h2⟩
theorem wk_load1 {F:List Nd} (hF: ∃y,F[1]? =some y∧y.kind=1∧y.n=1∧ ∀i,y.dat i=7) {hold:Nat→Nat} {p p':Pool} {L L':List Slot} {T T':Tab} {er:Int} {k:Nat} {d:Nat→Nat} (h:LoadRes F hold [rA] p L T 4096 2 4 er k d p' L' T') (h0: ∀x,hold x=0) (hn:p.n=16) (hT: ∀g,T.lf g=none):
  er=0∧k=2∧d 0=7∧d 1=0∧p'.n=16∧(∀g y,T'.lf g=some y→g=1)∧ ∃y,T'.lf 1=some y∧p'.dat y.frame 0=7:=by
 have hpos: ∀j,0<(pst (4096,(2:Int).toNat) j).2→(pst (4096,(2:Int).toNat) j).1/4096=1:=fun j hj=>by
  have:=pst_one (a:=4096) (n:=(2:Int).toNat) (by decide) hj
  subst this
  rfl
 rcases h with⟨h,_⟩|⟨_,_,h,_⟩|⟨_,_,_,_,h⟩|⟨_,_,_,he,hk,⟨j,hj,h⟩,hd⟩
 ·omega
 ·rw[wk_perm (by decide) (by decide+kernel)]at h;cases h
 ·exfalso
  have h1:=h.full.few h.seen.kept.sp.good.ok (G:=[1]) (us:=[]) (fun g y hy=>by
   refine List.mem_singleton.2 (Classical.byContradiction fun hne=>?_)
   have:=h.only g (hT g) fun j hj e=>hne (e.trans (hpos j hj))
   rw[this]at hy;cases hy) (fun x hx=>by rw[h0]at hx;omega)
  rw[(h.seen.kept.far (fun _ =>False)).n,hn]at h1
  simp at h1
 ·have hk2:k=2:=by omega
  have hj1:0<j:=by
   rcases Nat.eq_zero_or_pos j with e|e
   ·subst e;exact absurd hj (by decide)
   ·exact e
  have hd0:=hd 0 (by omega)
  have hd1:=hd 1 (by omega)
  rw[show(4096+0)/4096=1 from rfl,cont_none (hT 1)]at hd0
  rw[show(4096+1)/4096=1 from rfl,cont_none (hT 1)]at hd1
  obtain⟨s0,s1⟩:=wk_src hF
  obtain⟨y,hy'⟩:=h.there 0 hj1
  have hy:T'.lf 1=some y:=hy'
  refine⟨he,hk2,by rw[hd0];exact s0,by rw[hd1];exact s1,by rw[(h.seen.kept.far (fun _ =>False)).n,hn],fun g y hy=>?_,y,hy,?_⟩
  ·refine Classical.byContradiction fun hne=>?_
   have:=h.only g (hT g) fun i hi e=>hne (e.trans (hpos i (h.pos i hi)))
   rw[this]at hy;cases hy
  ·have h9:=h.seen.cont 1 0 (by omega)
   rw[cont_some hy,cont_none (hT 1),s0]at h9
   exact h9
theorem wk_fork {F:List Nd} {hold:Nat→Nat} {p p':Pool} {L L':List Slot} {T:Tab} (hs:Sp F hold p L T) (h:ForkNo F hold p L T p' L') (h0: ∀x,hold x=0) (hn:p.n=16) (hT: ∀g y,T.lf g=some y→g=1):False:=by
 have hG: ∀g y,T.lf g=some y→g∈[1]:=fun g y hy=>List.mem_singleton.2 (hT g y hy)
 rcases h.full with h1|⟨k,p1,L1,T2,hf,h1⟩
 ·have h2:=h1.few hs.good.ok (us:=[]) hG (fun x hx=>by rw[h0]at hx;omega)
  rw[hn]at h2
  simp at h2
 ·have h2:=h1.few hf.two.good.ok (G:=[1]) (us:=T.names [1]) (fun g y hy=>by
   rw[hf.lf g]at hy
   split at hy
   ·cases hl:T.lf g with
    |none=>rw[hl]at hy;cases hy
    |some z=>exact hG g z hl
   ·cases hy) (fun x hx=>tn_named hs.good.ok hG (by rw[h0]at hx;omega))
  have h3:=T.names_len [1]
  rw[hf.far.n,hn]at h2
  simp at h2 h3
  omega
theorem wk_store {F:List Nd} {hold:Nat→Nat} {p p':Pool} {L L':List Slot} {T T' T2:Tab} {er:Int} {d:Nat→Nat} (hs:Sp F hold p L T) (h:StoreRes F hold [rA] p L T 4096 1 d 2 er p' L' T') (hd:d 0=9) (h0: ∀x,hold x=tn T2 x) (h2:T2.Ok p) (hT2: ∀g y,T2.lf g=some y→g=1) (hn:p.n=16) (hT: ∀g y,T.lf g=some y→g=1) {y:Leaf} (hy:T.lf 1=some y):
  er=0∧ ∃z,T'.lf 1=some z∧p'.dat z.frame 0=9:=by
 have hpos: ∀j,0<(pst (4096,1) j).2→(pst (4096,1) j).1/4096=1:=fun j hj=>by
  have:=pst_one (a:=4096) (n:=1) (by decide) hj
  subst this
  rfl
 rcases h with⟨h,_⟩|⟨_,h,_⟩|⟨_,_,_,h⟩|⟨_,_,he,j,all,p1,hj,h,hl⟩
 ·omega
 ·rw[wk_perm (by decide) (by decide+kernel)]at h;cases h
 ·exfalso
  have h1:=h.full.few h.seen.kept.sp.good.ok (G:=[1]) (us:=T2.names [1]) (fun g z hz=>by
   refine List.mem_singleton.2 (Classical.byContradiction fun hne=>?_)
   have hno:T.lf g=none:=by
    cases hl:T.lf g with
    |none=>rfl
    |some u=>exact absurd (hT g u hl) hne
   have:=h.only g hno fun j hj e=>hne (e.trans (hpos j hj))
   rw[this]at hz;cases hz) (fun x hx=>tn_named h2 (fun g z hz=>List.mem_singleton.2 (hT2 g z hz)) (by rw[h0]at hx;exact hx))
  have h3:=T2.names_len [1]
  rw[(h.seen.kept.far (fun _ =>False)).n,hn]at h1
  simp at h1 h3
  omega
 ·obtain⟨z,hz,_⟩:=h.seen.kept.keep 1 y hy
  have h9:=hl.byte 1 0 (by omega)
  rw[cont_some hz,if_pos (by dsimp only;omega)]at h9
  refine⟨he,z,hz,?_⟩
  rw[h9]
  exact hd
theorem wk_load2 {F:List Nd} {hold:Nat→Nat} {p p':Pool} {L L':List Slot} {T T':Tab} {er:Int} {k:Nat} {d:Nat→Nat} (h:LoadRes F hold [rA] p L T 4096 1 4 er k d p' L' T') {y:Leaf} (hy:T.lf 1=some y):er=0∧k=1∧d 0=p.dat y.frame 0∧p'=p∧T'=T∧L'=L:=by
 have hpos: ∀j,0<(pst (4096,(1:Int).toNat) j).2→(pst (4096,(1:Int).toNat) j).1/4096=1:=fun j hj=>by
  have:=pst_one (a:=4096) (n:=(1:Int).toNat) (by decide) hj
  subst this
  rfl
 rcases h with⟨h,_⟩|⟨_,_,h,_⟩|⟨_,_,_,_,h⟩|⟨_,_,_,he,hk,⟨j,hj,h⟩,hd⟩
 ·omega
 ·rw[wk_perm (by decide) (by decide+kernel)]at h;cases h
 ·obtain⟨j,hj,e⟩:=h.gap
  rw[hpos j hj,hy]at e
  cases e
 ·obtain⟨a1,a2,a3⟩:=h.still fun i hi e=>by rw[hpos i (h.pos i hi),hy]at e;cases e
  refine⟨he,by omega,?_,a1,a3,a2⟩
  rw[hd 0 (by omega),show(4096+0)/4096=1 from rfl,cont_some hy]
theorem wk_mapErr {F:List Nd} (hF: ∃y,F[1]? =some y∧y.kind=1∧y.n=1∧ ∀i,y.dat i=7):mapErr F [] rA=0:=by
 obtain⟨h,_⟩:=wk_file hF
 unfold mapErr
 rw[if_neg (by rw[rA_put];exact fun e=>e rfl),if_neg (fun e=>e.2 h)]
theorem tnS_one0 (x:Nat):tnS [none] x=0:=by rw[tnS_cons,tnS_nil];rfl
theorem tnS_two0 (T:Tab) (x:Nat):tnS [none,some T] x=tn T x:=by rw[tnS_cons,tnS_cons,tnS_nil];show 0+(tn T x+0)=_;omega
theorem wk_wiped {F:List Nd} {hold:Nat→Nat} {p p':Pool} {L:List Slot} {f:Nat} {T':Tab} {fr t:Int} (h0:Sp F hold p L (rootTab f)) (h:Wiped F hold fr t p L (rootTab f) (rootTab f).puts.length p' T') (hn:p.n=16):(∀g,T'.lf g=none)∧p'.n=16:=by
 refine⟨fun g=>?_,by rw[(h.far (fun _ =>False)).n,hn]⟩
 rw[h.done h0 (Nat.le_refl _) g]
 split<;>rfl
end
end Go.Proofs.YtoochjhipmpehaaGreatDoor
