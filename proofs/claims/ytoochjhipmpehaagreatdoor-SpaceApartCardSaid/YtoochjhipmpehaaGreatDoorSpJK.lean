/- Spaces: store. -/
import Derived.Test.YtoochjhipmpehaaGreatDoorSpIK
set_option linter.unusedVariables false
set_option linter.unusedSimpArgs false
set_option maxRecDepth 100000
set_option maxHeartbeats 8000000
namespace Go.Proofs.YtoochjhipmpehaaGreatDoor
section
open Go.RowKit Go.Sort
attribute [local go_sem] Oper.semAt_some
def iB (l:Leaf):List Value:=[.int .i64 (l.frame:Int), .int .u8 (l.prot:Int), .bool l.copy]
theorem nB:Elem 209 83 3 16 (.agg #[.int .i64 0, .int .u8 0, .bool false]) iB:=
 ⟨Tryz.underlying209,by kernel_rfl,rfl,by decide,by decide,fun _ =>rfl,fun x v hv=>by simp[iB]at hv;rcases hv with rfl|rfl|rfl<;>rfl⟩
variable {k:Nat} {w:World}
theorem OwnG.blk {α:Type} {T:TypeId} {C:α->List Value} {base cap:Nat} {R:Option Addr} {L:List α} (h:OwnG T k C w base R cap L): ∀g,R.map (·.block)=some g->base<=g/\g<w.heap.size:=fun g e=>by
 rcases h.form with⟨h1,_⟩|⟨g',h1,h2,h3,_⟩
 ·rw[h1]at e;cases e
 ·rw[h1]at e;simp at e;subst e;exact⟨h2,h3⟩
theorem Addr.add_blk (ad:Addr) (j:Nat):(ad.add j).block=ad.block:=by unfold Addr.add;split<;>rfl
variable {W:World} {Z:Option Addr} {n:Nat} {d:Nat->Nat}
theorem au.run {G:Nat->Prop} (h:au w Z n d) (hm:Mod G w W) (hZ: ∀ad,Z=some ad->ad.block<w.heap.size/\ ¬G ad.block):au W Z n d:=fun h0=>by
 obtain⟨ad,e,hc⟩:=h h0;obtain⟨h1,h2⟩:=hZ ad e;exact⟨ad,e,fun j hj=>(World.cell?_of_block (by rw[Addr.add_blk];exact hm.block _ h1 h2)).trans (hc j hj)⟩
theorem au.cut (h:au w Z n d) (m:Nat):au w (Z.map (·.add m)) (n-m) (fun i=>d (m+i)):=fun h0=>by
 obtain⟨ad,e,hc⟩:=h (by omega);exact⟨ad.add m,by rw[e];rfl,fun j hj=>by rw[Addr.add_add];exact hc _ (by omega)⟩
variable {m:Nat}
theorem au.head (h:au w Z n d) (hm:m<=n):au w Z m d:=fun h0=>by
 obtain⟨ad,e,hc⟩:=h (by omega);exact⟨ad,e,fun j hj=>hc j (by omega)⟩
structure uL (F:List Nd) (hold:Nat->Nat) (rl:List Reg) (x:Nat×Nat) (p:Pool) (L:List Slot) (T:Tab) (p':Pool) (L':List Slot) (T':Tab):Prop where
 seen:Seen F hold rl p L T p' L' T'
 only: ∀g,T.lf g=none->(∀j,0<(pst x j).2->g≠(pst x j).1/4096)->T'.lf g=none
 full:Full hold p' T'
structure uK (w W:World) (s ob:Nat) (V:Value) (x:Nat×Nat) (k:Nat) (m:Nat) (A':Option Addr) (vA:Nat):Prop where
 pg:PgSt W (ob+2) (ob+1) (pst x k)
 mark:W.heap[ob+3]? =some (.deferred (some []))
 b0:W.heap[w.heap.size]? =some (.cells #[.pointer (some ⟨s,0,none⟩)] 60 (0,0))
 b1:W.heap[w.heap.size+1]? =some (.cells #[V] 39 (0,0))
 b2:W.heap[w.heap.size+1+1]? =some (.cells #[.int .i64 0] 32 (0,0))
 out:W.heap[ob]? =some (.cells #[.slice A' m vA] 209 (0,0))
variable {W':World} {s ob vA:Nat} {V:Value} {x:Nat×Nat} {A':Option Addr}
theorem uK.keep (h:uK w W s ob V x k m A' vA) (Lm:w.heap.size+3<=ob) (hk: ∀b,w.heap.size<=b->b<ob+4->W'.heap[b]? =W.heap[b]?):uK w W' s ob V x k m A' vA:=
 ⟨⟨(hk _ (by omega) (by omega)).trans h.pg.n,(hk _ (by omega) (by omega)).trans h.pg.a⟩,(hk _ (by omega) (by omega)).trans h.mark,(hk _ (by omega) (by omega)).trans h.b0,(hk _ (by omega) (by omega)).trans h.b1,(hk _ (by omega) (by omega)).trans h.b2,(hk _ (by omega) (by omega)).trans h.out⟩
def StJ (w:World) (B c a fs m s t root n cap:Nat) (A:Option Addr) (rl:List Reg) (S:Nat->Prop) (F:List Nd) (clock:Int) (p:Pool) (L:List Slot) (T:Tab) (hold:Nat->Nat) (V:Value) (x:Nat×Nat) (ob k:Nat) (W:World):Prop:=
 ∃p' L' T' vB S' A' vA all,Run w W (aw S c m) (LdK w ob A') B c a fs m s t root A n cap rl S S' F vB p' L'/\uK w W s ob V x k k A' vA/\OwnG 83 3 iB W (ob+5) A' vA all/\Owns F hold rl x k p L T all p' L' T'/\clock<=vB/\vB<=clock+k/\ ∀j,j<k->0<(pst x j).2
def StX (w:World) (B c a fs m s t root n cap:Nat) (A:Option Addr) (rl:List Reg) (S:Nat->Prop) (F:List Nd) (clock:Int) (p:Pool) (L:List Slot) (T:Tab) (hold:Nat->Nat) (x:Nat×Nat) (ob:Nat) (W:World):Prop:=
 ∃p' L' T' vB S',Run w W (aw S c m) (LdK w ob none) B c a fs m s t root A n cap rl S S' F vB p' L'/\clock<=vB/\vB<=clock+32/\uL F hold rl x p L T p' L' T'/\W.heap[ob+3]? =some (.deferred (some []))/\W.heap[w.heap.size+1+1]? =some (.cells #[.int .i64 4] 32 (0,0))
structure qs (w W:World) (s ob kb:Nat) (V:Value) (x:Nat×Nat) (j k1:Nat) (A':Option Addr) (vA:Nat):Prop where
 pg:PgSt W (kb+2) (kb+1) (pst x j)
 mark:W.heap[ob+3]? =some (.deferred (some []))
 mark2:W.heap[kb+3]? =some (.deferred (some []))
 b0:W.heap[w.heap.size]? =some (.cells #[.pointer (some ⟨s,0,none⟩)] 60 (0,0))
 b1:W.heap[w.heap.size+1]? =some (.cells #[V] 39 (0,0))
 b2:W.heap[w.heap.size+1+1]? =some (.cells #[.int .i64 0] 32 (0,0))
 out:W.heap[ob]? =some (.cells #[.slice A' k1 vA] 209 (0,0))
 num:W.heap[kb]? =some (.cells #[.int .i64 (j:Int)] 3 (0,0))
theorem qs.keep {kb j k1:Nat} (h:qs w W s ob kb V x j k1 A' vA) (Lm:w.heap.size+3<=ob) (hk: ∀b,(w.heap.size<=b/\b<ob+4)\/(kb<=b/\b<kb+4)->W'.heap[b]? =W.heap[b]?):qs w W' s ob kb V x j k1 A' vA:=
 ⟨⟨(hk _ (by omega)).trans h.pg.n,(hk _ (by omega)).trans h.pg.a⟩,(hk _ (by omega)).trans h.mark,(hk _ (by omega)).trans h.mark2,(hk _ (by omega)).trans h.b0,(hk _ (by omega)).trans h.b1,(hk _ (by omega)).trans h.b2,(hk _ (by omega)).trans h.out,(hk _ (by omega)).trans h.num⟩
def StK (w:World) (ob kb:Nat) (A':Option Addr):Nat->Prop:=fun b=>LdK w ob A' b\/(kb<=b/\b<kb+5)
def StJ2 (w:World) (B c a fs m s t root n cap:Nat) (A:Option Addr) (rl:List Reg) (S0 S:Nat->Prop) (F:List Nd) (clock:Int) (p:Pool) (L:List Slot) (T:Tab) (hold:Nat->Nat) (d:Nat->Nat) (x:Nat×Nat) (ob kb:Nat) (A':Option Addr) (vA:Nat) (all:List Leaf) (j:Nat) (W:World):Prop:=
 ∃p' Z cz,Run w W (aw S0 c m) (StK w ob kb A') B c a fs m s t root A n cap rl S0 S F clock p' L/\qs w W s ob kb (.slice Z (pst x j).2 cz) x j all.length A' vA/\OwnG 83 3 iB W (ob+5) A' vA all/\Lays F hold rl x d ((pst x j).1-x.1) p L T p'/\au w Z (pst x j).2 (fun i=>d ((pst x j).1-x.1+i))/\(∀ad,Z=some ad->ad.block<w.heap.size/\ ¬aw S0 c m ad.block)/\(pst x j).2<=cz
def dN (F:List Nd) (hold:Nat->Nat) (rl:List Reg) (p:Pool) (L:List Slot) (T:Tab) (addr q:Nat) (d:Nat->Nat) (want:Int) (er:Int) (p':Pool) (L':List Slot) (T':Tab):Prop:=
 (65536<q/\er=1/\p'=p/\L'=L/\T'=T)\/
 (q<=65536/\dE rl (addr,q) want=false/\er=6/\p'=p/\L'=L/\T'=T)\/
 (q<=65536/\dE rl (addr,q) want=true/\er=4/\uL F hold rl (addr,q) p L T p' L' T')\/
 (q<=65536/\dE rl (addr,q) want=true/\er=0/\ ∃j all p1,(pst (addr,q) j).2=0/\Owns F hold rl (addr,q) j p L T all p1 L' T'/\Lays F hold rl (addr,q) d q p1 L' T' p')
def nU (w:World) (S:Nat->Prop) (c a fs m:Nat) (F:List Nd) (rl:List Reg) (clock:Int) (p:Pool) (L:List Slot) (T:Tab) (hold:Nat->Nat) (addr q:Nat) (d:Nat->Nat) (want:Int) (e:Ending) (w':World):Prop:=
 ∃er p' L' T' vB S',e= .returned (.int .i64 er)/\ar w' S' c a fs m vB p' L'/\Mod (aw S c m) w w'/\Out S S' w/\clock<=vB/\vB<=clock+32/\dN F hold rl p L T addr q d want er p' L' T'
theorem qK (B c a fs m s t root n cap addr q cq:Nat) (want:Int) (A Ab:Option Addr) (d:Nat->Nat) (rl:List Reg) (clock:Int) (w:World) (S:Nat->Prop) (F:List Nd) (p:Pool) (L:List Slot) (T:Tab) (hold:Nat->Nat)
  (hH:Home w B c a fs m S F clock p L) (hO:One w B c a m S s t root A n cap rl) (ya:Sp F hold p L T) (ho:Own p T) (hr:T.nd 4 0=some root) (hR:Rgs F rl) (zq:addr<18446744073709551616) (wY: ∀f,hold f<=100000000000) (yA:0<=clock/\clock+32<1000000)
  (hq:q<9223372036854775808) (EH:q<=cq) (hb:au w Ab q d) (hd: ∀j,d j<256) (Eo: ∀ad,Ab=some ad->ad.block<w.heap.size/\ ¬aw S c m ad.block):
  Calls Tryz.prog 71 #[.pointer (some ⟨s,0,none⟩), .int .u64 (addr:Int), .slice Ab q cq, .int .u8 want] w (nU w S c a fs m F rl clock p L T hold addr q d want):=by
 refine(callsIn_wide (n:=9)).1 ?_;refine callsIn_of_wp_marks Tryz.func71 rfl trivial ?_;simp only[Tryz.ntmps71,List.size_toArray,vn,List.length_nil,Nat.reduceAdd,Nat.reduceSub,Array.replicate_succ,Array.replicate_zero,List.push_toArray,List.append_toArray,List.nil_append,List.cons_append];obtain⟨w0,vE⟩: ∃w0,w0=((w.alloc (.cells #[.pointer (some ⟨s,0,none⟩)] 60)).alloc (.cells #[.slice Ab q cq] 39)).alloc (.cells #[.int .i64 0] 32):=⟨_,rfl⟩;have wz:w0.heap.size=w.heap.size+1+1+1:=(by rw[vE];simp);have vF:Below w.heap.size w w0:=(by rw[vE];exact(vc.alloc (by simp) _).alloc (by simp;omega) _);have Fm:w0.heap[w.heap.size+1+1]? =some (.cells #[.int .i64 0] 32 (0,0)):=by
  rw[vE];have:=ab ((w.alloc (.cells #[.pointer (some ⟨s,0,none⟩)] 60)).alloc (.cells #[.slice Ab q cq] 39)) (.cells #[.int .i64 0] 32)
  rwa [World.size_alloc,World.size_alloc]at this
 have IQ:w0.heap[w.heap.size+1]? =some (.cells #[.slice Ab q cq] 39 (0,0)):=by
  rw[vE];have:=ab (w.alloc (.cells #[.pointer (some ⟨s,0,none⟩)] 60)) (.cells #[.slice Ab q cq] 39);rw[World.size_alloc]at this;exact(ve _ _ _ (by simp)).trans this
 have zP:w0.heap[w.heap.size]? =some (.cells #[.pointer (some ⟨s,0,none⟩)] 60 (0,0)):=by
  rw[vE];exact(ve _ _ _ (by simp;omega)).trans ((ve _ _ _ (by simp)).trans (ab w _))
 have yN:=(Run.start hH hO (fun _ e=>e)).below vF;have s0:w0.cell? ⟨w.heap.size,0,none⟩=some (.pointer (some ⟨s,0,none⟩)):=aa zP 0;have n0:w0.cell? ⟨w.heap.size+1,0,none⟩=some (.slice Ab q cq):=aa IQ 0;have e0:w0.cell? ⟨w.heap.size+1+1,0,none⟩=some (.int .i64 0):=aa Fm 0;have ef0:=ae Fm 0;have FT:w.heap.size+1<w0.heap.size:=(by omega);have Cc:w.heap.size+1+1<w0.heap.size:=(by omega);have vY:=va vE;have CC:=va wz;have Wr:=va Fm;have Oq:=va IQ;have zv:=va zP;have yE:=va yN;have yo:=va ya;have yX:=va ho;have HR:=va hr;have MC:=va hR;have wO:=va vF;have WC:=va hb;have HD:=va hd;have ID:=va Eo;have xM:=dH s c a t n cap A w0 yN.one.self;have wN:=va xM;clear xM vE wz vF Fm IQ zP yN hH hO ya ho hr hR hb hd Eo;have Tw:=fun(w0:World) (u:Value)=>aj (S:=fun b=>b=w.heap.size+1+1) (w:=w0) (b:=w.heap.size+1+1) rfl 0 u;have IV:=va Tw;clear Tw;by_cases yC:(65536:Int)<(q:Int)
 ·have key:nU w S c a fs m F rl clock p L T hold addr q d want (.returned (.int .i64 1)) (w0.setCell ⟨w.heap.size+1+1,0,none⟩ (.int .i64 1)):=by
   have vV:=yE.out.set (IV.out w0 (.int .i64 1)) (fun b e=> .inr (by have:=CC.out;omega));exact⟨1,p,L,T,clock,S,rfl,vV.home.cache,vV.mod,vV.out,Int.le_refl _,by omega, .inl ⟨by omega,rfl,rfl,rfl,rfl⟩⟩
  have KEY:=va key;clear key;gi_wp2_with (first
   |(refine⟨trivial,?_⟩;rw[<-vY.out];refine(callsIn_wide.2 wN.out).mono ?_;rintro e w1 ⟨rfl,rfl⟩)
   |fail)
  exact⟨.int .i64 1,by simp[results,Tryz.results71,go_sem,e0,ef0,Cc],KEY.out⟩
 have Ll:q<=65536:=(by omega);have yl:=jP s c a t n cap A rl addr q want w0 yE.out.one.self yE.out.one.row zq (by omega);cases hpb:dE rl (addr,q) want with
 |false=>
  rw[hpb]at yl;have Cq:=va yl;have ME:=va hpb;clear yl hpb;gi_wp2_with (first
   |(refine⟨trivial,?_⟩;rw[<-vY.out];refine(callsIn_wide.2 wN.out).mono ?_;rintro e w1 ⟨rfl,rfl⟩)
   |(refine⟨trivial,?_⟩;refine(callsIn_wide.2 Cq.out).mono ?_;rintro e w1 ⟨rfl,vD⟩;have vG:=(vD.block _ Cc).trans Wr.out;have e1:w1.cell? ⟨w.heap.size+1+1,0,none⟩=some (.int .i64 0):=aa vG 0;have ef1:=ae vG 0;have Kh:w.heap.size+1+1<w1.heap.size:=(uZ vG).1)
   |fail)
  refine⟨.int .i64 6,by simp[results,Tryz.results71,go_sem,e1,ef1,Kh],?_⟩;have vV:=(yE.out.below vD).set (IV.out w1 (.int .i64 6)) (fun b e=> .inl (.inr (by have:=CC.out;omega)));exact⟨6,p,L,T,clock,S,rfl,vV.home.cache,vV.mod,vV.out,Int.le_refl _,by omega, .inr (.inl ⟨Ll,ME.out,rfl,rfl,rfl,rfl⟩)⟩
 |true=>
  have Tb:Perm rl (addr,q) want:=by
   unfold dE at hpb;exact @vs _ (Classical.propDecidable _) hpb
  rw[hpb]at yl;have Cq:=va yl;have ME:=va hpb;have Oj:=va Tb;clear yl hpb Tb;gi_upto_region 8 with(first
   |(refine⟨trivial,?_⟩;rw[<-vY.out];refine(callsIn_wide.2 wN.out).mono ?_;rintro e w1 ⟨rfl,rfl⟩)
   |(refine⟨trivial,?_⟩;refine(callsIn_wide.2 Cq.out).mono ?_;rintro e w1 ⟨rfl,vD⟩;have Lv:=(vD.block _ FT).trans Oq.out;have n1: ∀o,(w1.alloc o).cell? ⟨w.heap.size+1,0,none⟩=some (.slice Ab q cq):=fun o=>aa ((ve _ _ _ (uZ Lv).1).trans Lv) 0)
   |fail)
  obtain⟨ob,Lm⟩: ∃ob,w1.heap.size=ob:=⟨_,rfl⟩;have EJ:w.heap.size+3<=ob:=(by have:=vD.size;have:=CC.out;omega);obtain⟨wa,IE⟩: ∃wa,wa=w1.alloc (.cells #[.slice none 0 0] 209):=⟨_,rfl⟩;have na:=n1 (.cells #[.slice none 0 0] 209);rw[<-IE]at na;rw[<-IE,Lm];have MY:wa.heap.size=ob+1:=(by rw[IE];simp[Lm]);have RA:Below w0.heap.size w0 wa:=(by rw[IE];exact vD.alloc vD.size _);have UM:wa.heap[ob]? =some (.cells #[.slice none 0 0] 209 (0,0)):=(by rw[IE,<-Lm];exact ab w1 _);have XB:=va UM;have MU:=va RA;clear IE RA UM vD n1 Lv;gi_wp2_with (first
   |(refine⟨trivial,?_⟩;refine(callsIn_wide.2 (gK (addr:Int) (q:Int) wa)).mono ?_;rintro e w2 ⟨rfl,wD⟩)
   |fail)
  have wm:w2.heap.size=ob+3:=(by rw[wD];simp[MY]);have vM:Below wa.heap.size wa w2:=(by rw[wD];exact vc.alloc (by simp) _);have Iu:w2.heap[ob+1]? =some (.cells #[.int .u64 (addr:Int)] 43 (0,0)):=(by rw[wD,<-MY];exact(ve _ _ _ (by simp)).trans (ab wa _));have UO:w2.heap[ob+2]? =some (.cells #[.int .i64 (q:Int)] 3 (0,0)):=by
   rw[wD];have:=ab (wa.alloc (.cells #[.int .u64 (addr:Int)] 43)) (.cells #[.int .i64 (q:Int)] 3);rw[World.size_alloc,MY]at this;exact this
  have xC:=va (MU.out.trans (vM.mono (by have:=MU.out.size;omega)));have Rh:=va Iu;have yj:=va UO;have Bz:=va ((vM.block _ (by omega)).trans XB.out);rw[<-wD];clear wD vM Iu UO na;refine bK rfl (by omega) (gf:=155) (lb:= #[.pointer (some ⟨ob+1+1,0,none⟩), .pointer (some ⟨ob+1,0,none⟩)]) rfl trivial (enters_of Tryz.func155 (by kernel_rfl) rfl) ?_;rw[wm];intro fn Di rec xp;refine(gL (9-1) (by omega) (ob+3+1) (ob+1+1) (ob+1) (by omega) (addr,q) (by have:=Oj.out.1;simp only at this⊢;omega) (fun k W=>StJ w B c a fs m s t root n cap A rl S F clock p L T hold (.slice Ab q cq) (addr,q) ob k W/\W.heap[ob+3+1]? =some (.loop (rec .ready none)))
   (fun W=>StX w B c a fs m s t root n cap A rl S F clock p L T hold (addr,q) ob W/\W.heap[ob+3+1]? =some (.loop (rec .done (some .ret)))) ?_ ?_ _ ?_).mono ?_
  ·rintro k W ⟨⟨p',L',T',vB,S',A',vA,d,h1,h2,h3⟩,_⟩;exact h2.pg
  ·rintro k W ⟨hJ,hl⟩ wo;refine bw trivial xp hl rfl ?_;obtain⟨p1,L1,T1,vI,S1,A1,vC,all1,vV,xw,xW,Ch,xU,zM,wX⟩:=hJ;obtain⟨x,hx⟩: ∃x,x=(pst (addr,q) k).1:=⟨_,rfl⟩;obtain⟨M,hM⟩: ∃M,M=pm (pst (addr,q) k):=⟨_,rfl⟩;rw[<-hx,<-hM];have wb:=jN (addr,q) k wo;dsimp only at wb;have YS:k<=17:=(by omega);have HX:=va hx;have HM:=va hM;have Dq:=va vV;have Le:=va xw;have Cs:=va xW;have yF:=va Ch;have Wf:=va wX;have zw:=va wo;have QB:=va xp;have HL:=va hl;clear hx hM vV xw xW Ch wX wo xp hl wb
   gi_wp2
   refine⟨HL.out,?_⟩;obtain⟨W2,wF⟩: ∃W2,W2=W.putObj (ob+3+1) (.loop (rec .busy none)):=⟨_,rfl⟩;rw[<-wF];have vT:Mod (fun b=>b=ob+3+1) W W2:=(by rw[wF];exact aA);have wE:W2.heap[ob+3+1]? =some (.loop (rec .busy none)):=(by rw[wF];exact World.putObj_heap_same (uZ HL.out).1);have vL:=Dq.out.set vT (fun b e=> .inl (by omega));have wZ:=Le.out.keep EJ (W':=W2) (fun b h1 h2=>by
    rcases Nat.lt_or_ge b W.heap.size with h3|h3
    ·exact vT.block b h3 (by omega)
    ·rw[Array.getElem?_eq_none h3,Array.getElem?_eq_none];rw[wF,World.putObj_size];exact h3)
   have zg:OwnG 83 3 iB W2 (ob+5) A1 vC all1:=
    Cs.out.same fun g hg=>vT.block g ((Cs.out.blk g (by rw[hg];rfl)).2) (fun e=>by have:=(Cs.out.blk g (by rw[hg];rfl)).1;omega)
   obtain⟨r,yw,_⟩:=Oj.out.2 k zw.out;have Gg:Ask F rl r (x/4096):=MC.out.ask (by rw[HX.out];exact yw);have GD:x+(pst (addr,q) k).2=addr+q:=(by rw[HX.out];exact dm (addr,q) k);have hxb:x<=140737488355328:=(by have:=Oj.out.1;simp only at this;omega);have yS:IntKind.u64.wrap ((x:Int)/4096*4096)=(x:Int)/4096*4096:=(by rw[IntKind.wrap_u64];omega);have Cf:=sown_any B c a fs m s t root n cap (x/4096) A rl r vI ((x:Int)/4096*4096) W2 S1 F p1 L1 T1 hold vL.home vL.one yF.out.seen.kept.sp yF.out.seen.kept.own (yF.out.seen.kept.root _ HR.out) Gg (by omega) wY (by omega);have yT:(Rg.find rl ((((pst (addr,q) k).1/4096:Nat):Int)*4096)).1=r:=(by rw[<-HX.out,Gg.find]);have c0:W2.cell? ⟨w.heap.size,0,none⟩=some (.pointer (some ⟨s,0,none⟩)):=aa wZ.b0 0;have Yy:ob+5<=W2.heap.size:=(by have:=(uZ wE).1;omega);have GC:=va Cf;have VK:=va yT;have wu:=va vL;have xN:=va wZ;have Dv:=va zg;have Er:=va wE;have HXS:=va GD;clear Cf yT vL wZ zg wE Gg yw GD vT wF;gi_upto_region 11 with(first
    |(refine⟨trivial,?_⟩;refine(CallsIn.inRound (ob+3+1) (callsIn_wide.2 GC.out)).mono ?_;rintro e W3 ⟨er,⟨fr,pr,cp⟩,p3,L3,T3,Co,S3,rfl,BI,xH,AF,AS,yh,Cg⟩;unfold ap)
    |fail)
   obtain⟨W4,El⟩: ∃W4,W4=W3.alloc (.cells #[.int .i64 (fr:Int), .int .u8 (pr:Int), .bool cp] 83):=⟨_,rfl⟩;rw[<-El];obtain⟨wP,GO⟩:=wu.out.call BI xH AF;have vZ:Below W3.heap.size W3 W4:=(by rw[El];exact vc);have AX:W4.heap.size=W3.heap.size+1:=(by rw[El];simp);have GX:W4.heap[W3.heap.size]? =some (.cells #[.int .i64 (fr:Int), .int .u8 (pr:Int), .bool cp] 83 (0,0)):=(by rw[El];exact ab W3 _);have xR:=xH.size;have wG:=(wP.below vZ).sub (K':=LdK w ob A1) (fun b e=> .inl e);have Bi: ∀b,LdK w ob A1 b->W4.heap[b]? =W2.heap[b]? :=fun b hb=>(vZ.block b ((wu.out.own b hb).2.2 |> fun h=>by omega)).trans (GO b hb);have yn:=xN.out.keep EJ (W':=W4) (fun b h1 h2=>Bi b (.inl (by omega)));have Md:=(Bi (ob+3+1) (.inl (by omega))).trans Er.out;have zI:OwnG 83 3 iB W4 (ob+5) A1 vC all1:=Dv.out.same fun g hg=>Bi g (.inr (by rw[hg];rfl));have xx:=va wG;have wL:=va yn;have Gw:=va Md;have zx:=va zI;have AK:=va GX;have CZ:=va Cg;have Sh:w.heap.size<W4.heap.size:=(by omega);have vQ:ob+5<=W4.heap.size:=(by omega);clear wP GO vZ GX wG Bi yn Md zI Cg BI xH AF El yS c0 AX xR;have e0:W4.cell? ⟨w.heap.size+1+1,0,none⟩=some (.int .i64 0):=aa wL.out.b2 0;have ef0:=ae wL.out.b2 0;by_cases zo:er=0
   rotate_left
   ·have vK:(er != 0)=true:=(by rw[bne_iff_ne];exact zo);obtain⟨Kg,SE,SD,SC⟩:=yF.out.fail zw.out VK.out (by rw[<-HX.out];exact CZ.out) zo;subst Kg;have Gq:=va (uL.mk SE SD SC);clear SE SD SC zo
    gi_wp2
    have Cw:=IV.out W4 (.int .i64 4);have vP:=xx.out.set Cw (fun b e=> .inl (by omega));have GM:=(Cw.block _ (uZ Gw.out).1 (by omega)).trans Gw.out;have xf:=(Cw.block _ (uZ wL.out.mark).1 (by omega)).trans wL.out.mark;have Mf:(W4.setCell ⟨w.heap.size+1+1,0,none⟩ (.int .i64 4)).heap[w.heap.size+1+1]? =some (.cells #[.int .i64 4] 32 (0,0)):=bm wL.out.b2;refine⟨GM, .inr ⟨rfl,?_,World.putObj_heap_same (uZ GM).1⟩⟩;have Bp:=aA (l:=ob+3+1) (o:= .loop (rec .done (some .ret))) (W:=W4.setCell ⟨w.heap.size+1+1,0,none⟩ (.int .i64 4));have xt:=vP.set Bp (fun b e=> .inl (by omega));have Bg: ∀ {b:Nat} {o:Obj},(W4.setCell ⟨w.heap.size+1+1,0,none⟩ (.int .i64 4)).heap[b]? =some o->b≠ob+3+1->((W4.setCell ⟨w.heap.size+1+1,0,none⟩ (.int .i64 4)).putObj (ob+3+1) (.loop (rec .done (some .ret)))).heap[b]? =some o:=fun h1 h2=>(Bp.block _ (uZ h1).1 h2).trans h1;exact⟨p3,L3,T3,Co,S3,xt.sub (fun b e=>e.elim .inl (fun e=>by cases e)),by omega,by omega,Gq.out,Bg xf (by omega),Bg Mf (by omega)⟩
   subst zo;have hOW:=CZ.out.got rfl;have Be:k=all1.length:=yF.out.len.symm;have VY:=va Be;have HOW:=va hOW;obtain⟨⟨x0,x1,x2⟩,_,_⟩:=box3 AK.out;have o4:W4.cell? ⟨ob,0,none⟩=some (.slice A1 k vC):=aa wL.out.out 0;have Pj:ob<W4.heap.size:=(by omega);clear hOW Be;gi_upto_region 13 with(fail);gi_wp2_with (gi_at_builtin;refine uA nB rfl (.tmp 48) (.tmp 50) rfl (ob+5) A1 vC k all1 VY.out rfl (zx.out.alloc _) ⟨fr,pr,cp⟩ W4.heap.size 1 rfl (ab W4 _) (by omega) (by simp;omega) ?_;intro g AU W6 BU Ej CN AR;have Em:=((bZ Ej).block ob (by simp;omega) (fun e=>by have:=(zx.out.blk ob e).1;omega)).trans ((ve _ _ _ Pj).trans wL.out.out);have o6:=aa Em 0;have of6:=ae Em 0);obtain⟨W7,Fj⟩: ∃W7,W7=W6.setCell ⟨ob,0,none⟩ (.slice (some ⟨g,0,none⟩) (k+1) AU):=⟨_,rfl⟩;rw[<-Fj];have xh:Mod (fun b=>b=ob) W6 W7:=(by rw[Fj];exact aj (S:=fun b=>b=ob) rfl 0 _);have Dl:W7.heap[ob]? =some (.cells #[.slice (some ⟨g,0,none⟩) (k+1) AU] 209 (0,0)):=(by rw[Fj];exact bm Em);obtain⟨W5,GY⟩: ∃W5,W5=W4.alloc (.cells #[.int .i64 (fr:Int), .int .u8 (pr:Int), .bool cp] 83):=⟨_,rfl⟩;rw[<-GY]at Ej;have Uz:Below W4.heap.size W4 W5:=(by rw[GY];exact vc);have Lh:W5.heap.size=W4.heap.size+1:=(by rw[GY];simp);have UE:A1.map (·.block)=some g\/g=W5.heap.size:=(by rw[GY];exact CN);have OF:=(bZ Ej).size;have BF: ∀b,w.heap.size<=b->b<ob+5->W6.heap[b]? =W4.heap[b]? :=fun b h1 h2=>((bZ Ej).block b (by omega) (fun e=>by have:=(zx.out.blk b e).1;omega)).trans (Uz.block b (by omega));have zm: ∀b,w.heap.size<=b->b<ob+5->b≠ob->W7.heap[b]? =W4.heap[b]? :=fun b h1 h2 h3=>(xh.block b (by omega) h3).trans (BF b h1 h2);have IJ:=(zm (ob+3+1) (by omega) (by omega) (by omega)).trans Gw.out;have Bp:=aA (l:=ob+3+1) (o:= .loop (rec .ready none)) (W:=W7);have zl: ∀ {b:Nat} {o:Obj},W7.heap[b]? =some o->b≠ob+3+1->(W7.putObj (ob+3+1) (.loop (rec .ready none))).heap[b]? =some o:=fun h1 h2=>(Bp.block _ (uZ h1).1 h2).trans h1;have JD:PgSt (W7.putObj (ob+3+1) (.loop (rec .ready none))) (ob+2) (ob+1) (pst (addr,q) k):=⟨zl ((zm _ (by omega) (by omega) (by omega)).trans wL.out.pg.n) (by omega),zl ((zm _ (by omega) (by omega) (by omega)).trans wL.out.pg.a) (by omega)⟩;obtain⟨DF,zi⟩:=gF JD (by omega) (pst (addr,q) (k+1));have Bh: ∀ {b:Nat} {o:Obj},W7.heap[b]? =some o->b≠ob+3+1->b≠ob+1->b≠ob+2->(cy (W7.putObj (ob+3+1) (.loop (rec .ready none))) (ob+2) (ob+1) (pst (addr,q) (k+1))).heap[b]? =some o:=fun h1 h2 h3 h4=>(zi.block _ (uZ (zl h1 h2)).1 (by omega)).trans (zl h1 h2);have Dd:=((((((xx.out.below Uz).grow (bZ Ej) (fun b e=> .inl (.inr e))).sub (K':=LdK w ob (some ⟨g,0,none⟩)) (fun b e=>by
    rcases e with e|e
    ·exact .inl (.inl (.inl e))
    ·have e2:b=g:=(by simpa using e.symm);subst e2;rcases UE with h9|h9
     ·exact .inl (.inl (.inr h9))
     ·exact .inr ⟨by omega,AR⟩)).set xh (fun b e=> .inl (by omega))).set Bp (fun b e=> .inl (by omega))).set zi (fun b e=> .inl (by omega)))
   have Eh:ob+5<=g:=(by rcases UE with h9|h9;exact(zx.out.blk g h9).1;omega);have BQ:OwnG 83 3 iB (cy (W7.putObj (ob+3+1) (.loop (rec .ready none))) (ob+2) (ob+1) (pst (addr,q) (k+1))) (ob+5) (some ⟨g,0,none⟩) AU (all1++[⟨fr,pr,cp⟩]):=by
    refine BU.same fun g' Ke=>?_;injection Ke with Ke;injection Ke with Ke;subst Ke;exact((zi.block g (by have h1:=Bp.size;have h2:=xh.size;exact vh AR (vx h2 h1)) (by omega)).trans (Bp.block g (by have h2:=xh.size;omega) (by omega))).trans (xh.block g AR (by omega))
   have Ml:=yF.out.step zw.out VK.out (by rw[<-HX.out];exact CZ.out);refine⟨IJ, .inl ⟨rfl,JD,⟨p3,L3,T3,Co,S3,some ⟨g,0,none⟩,AU,_,Dd,⟨DF,Bh ((zm _ (by omega) (by omega) (by omega)).trans wL.out.mark) (by omega) (by omega) (by omega),Bh ((zm _ (by omega) (by omega) (by omega)).trans wL.out.b0) (by omega) (by omega) (by omega),Bh ((zm _ (by omega) (by omega) (by omega)).trans wL.out.b1) (by omega) (by omega) (by omega),Bh ((zm _ (by omega) (by omega) (by omega)).trans wL.out.b2) (by omega) (by omega) (by omega),Bh Dl (by omega) (by omega) (by omega)⟩,BQ,Ml,by omega,by omega,fun j hj=>(by rcases Nat.lt_or_ge j k with h9|h9;exact Wf.out j h9;obtain rfl:j=k:=(by omega);exact zw.out)⟩,?_⟩⟩;have JP:=(uZ IJ).1;exact(zi.block _ (by rw[World.putObj_size];exact JP) (by omega)).trans (World.putObj_heap_same JP)
  ·have vZ:Below w2.heap.size w2 ((w2.alloc (.deferred (some []))).alloc (.loop (rec .ready none))):=vc.alloc (by simp) _;have xz:=((yE.out.below xC.out).below vZ).sub (K':=LdK w ob none) (fun b e=>by
    rcases e with e|e
    ·rcases Nat.lt_or_ge b w0.heap.size with h1|h1
     ·exact .inl (.inl (.inr ⟨e.1,h1⟩))
     ·rcases Nat.lt_or_ge b w2.heap.size with h2|h2
      ·exact .inl (.inr ⟨h1,h2⟩)
      ·exact .inr ⟨h2,by simp[wm];omega⟩
    ·cases e)
   have xP: ∀ {b:Nat} {o:Obj},w2.heap[b]? =some o->((w2.alloc (.deferred (some []))).alloc (.loop (rec .ready none))).heap[b]? =some o:=fun h1=>(cf (uZ h1).1).trans h1;have yJ: ∀ {b:Nat} {o:Obj},w0.heap[b]? =some o->((w2.alloc (.deferred (some []))).alloc (.loop (rec .ready none))).heap[b]? =some o:=fun h1=>xP ((xC.out.block _ (uZ h1).1).trans h1);refine⟨⟨p,L,T,clock,S,none,0,[],xz,⟨⟨xP yj.out,xP Rh.out⟩,?_,yJ zv.out,yJ Oq.out,yJ Wr.out,xP Bz.out⟩,OwnG.nil _ _,Owns.start yo.out yX.out,Int.le_refl _,by omega,fun j hj=>absurd hj (by omega)⟩,?_⟩
   ·have:=ab w2 (.deferred (some []));rw[wm]at this;exact(ve _ _ _ (by simp[wm])).trans this
   ·have:=ab (w2.alloc (.deferred (some []))) (.loop (rec .ready none))
    rwa [World.size_alloc,wm]at this
  ·rintro e W ⟨hv,⟨k,yJ,⟨p1,L1,T1,vI,S1,A1,vC,all1,vV,xw,xW,Ch,xU,zM,wX⟩,hl⟩|⟨⟨p1,L1,T1,vI,S1,vV,xU,zM,yr,GK,he⟩,hl⟩⟩
   rotate_left
   ·refine⟨hv, .inr ⟨_,hl,?_⟩⟩;obtain⟨W2,wF⟩: ∃W2,W2=W.putObj (ob+3+1) (.loop (rec .exhausted (some .ret))):=⟨_,rfl⟩;rw[<-wF];have vT:Mod (fun b=>b=ob+3+1) W W2:=(by rw[wF];exact aA);have vL:=vV.set vT (fun b e=> .inl (by omega));have xD: ∀ {b:Nat} {o:Obj},W.heap[b]? =some o->b≠ob+3+1->W2.heap[b]? =some o:=fun h1 h2=>(vT.block _ (uZ h1).1 h2).trans h1;have Lw:=xD he (by omega);have BH:=xD GK (by omega);have wu:=va vL;have OB:=va Lw;have BK:=va BH;have Ix:=va yr;clear wF vT vL xD Lw BH vV yr GK he hl hv;unfold dp
    gi_wp2
    refine⟨by simp, .inl ⟨_,_,rfl,run_takeDeferred BK.out,?_⟩⟩;have BV:=aA (l:=ob+3) (o:= .deferred none) (W:=W2);have vP:=wu.out.set BV (fun b e=> .inl (by omega));have Mf:=(BV.block _ (uZ OB.out).1 (by omega)).trans OB.out;have c2:=aa Mf 0;refine⟨.int .i64 4,by simp[results,Tryz.results71,go_sem,c2],?_⟩;exact⟨4,p1,L1,T1,vI,S1,rfl,vP.home.cache,vP.mod,vP.out,xU,zM, .inr (.inr (.inl ⟨Ll,ME.out,rfl,Ix.out⟩))⟩
   ·refine⟨hv, .inl ⟨hl,?_⟩⟩;obtain⟨W2,wF⟩: ∃W2,W2=W.putObj (ob+3+1) (.loop (rec .exhausted none)):=⟨_,rfl⟩;rw[<-wF];have YR:k<=32:=by
     rcases k with _ |k
     ·omega
     ·have:=jN (addr,q) k (wX k (by omega));dsimp only at this;omega
    have vT:Mod (fun b=>b=ob+3+1) W W2:=(by rw[wF];exact aA);have vL:=vV.set vT (fun b e=> .inl (by omega));have xD: ∀ {b:Nat} {o:Obj},W.heap[b]? =some o->b≠ob+3+1->W2.heap[b]? =some o:=fun h1 h2=>(vT.block _ (uZ h1).1 h2).trans h1;have wZ:uK w W2 s ob (.slice Ab q cq) (addr,q) k k A1 vC:=⟨⟨xD xw.pg.n (by omega),xD xw.pg.a (by omega)⟩,xD xw.mark (by omega),xD xw.b0 (by omega),xD xw.b1 (by omega),xD xw.b2 (by omega),xD xw.out (by omega)⟩;have zg:OwnG 83 3 iB W2 (ob+5) A1 vC all1:=xW.same fun g hg=>vT.block g ((xW.blk g (by rw[hg];rfl)).2) (fun e=>by have:=(xW.blk g (by rw[hg];rfl)).1;omega);have wu:=va vL;have xN:=va wZ;have Dv:=va zg;have yF:=va Ch;have Sb:=va yJ;have QB:=va xp;have HZW2:=va wm;have n2: ∀o,(W2.alloc o).cell? ⟨w.heap.size+1,0,none⟩=some (.slice Ab q cq):=fun o=>aa ((ve _ _ _ (uZ wZ.b1).1).trans wZ.b1) 0;clear wF vT vL xD wZ zg vV xw xW Ch wX hl hv yJ xp n0 s0 e0 ef0 wm;unfold dp;gi_upto_region 15 with(fail);obtain⟨kb,Ie⟩: ∃kb,W2.heap.size=kb:=⟨_,rfl⟩;obtain⟨V,hV⟩: ∃V,V=W2.alloc (.cells #[.int .i64 0] 3):=⟨_,rfl⟩;have nV:=n2 (.cells #[.int .i64 0] 3);rw[<-hV]at nV;rw[<-hV,Ie];have WU:V.heap.size=kb+1:=(by rw[hV];simp[Ie]);have hbV:Below W2.heap.size W2 V:=(by rw[hV];exact vc);have hKV:V.heap[kb]? =some (.cells #[.int .i64 0] 3 (0,0)):=(by rw[hV,<-Ie];exact ab W2 _);have hobk:ob+5<=kb:=(by rw[<-Ie];have:=(wu.out.own (ob+4) (.inl (by omega))).2.2;omega);have HKV:=va hKV;have Ld:=va hbV;have HKB:=va Ie;clear hV hKV hbV n2 Ie;gi_wp2_with (first
     |(refine⟨trivial,?_⟩;refine(callsIn_wide.2 (gK (addr:Int) (q:Int) V)).mono ?_;rintro e W3 ⟨rfl,AT⟩)
     |fail)
    have xR:W3.heap.size=kb+3:=(by rw[AT];simp[WU]);have vX:Below V.heap.size V W3:=(by rw[AT];exact vc.alloc (by simp) _);have KG:W3.heap[kb+1]? =some (.cells #[.int .u64 (addr:Int)] 43 (0,0)):=(by rw[AT,<-WU];exact(ve _ _ _ (by simp)).trans (ab V _));have hN3:W3.heap[kb+2]? =some (.cells #[.int .i64 (q:Int)] 3 (0,0)):=by
     rw[AT];have:=ab (V.alloc (.cells #[.int .u64 (addr:Int)] 43)) (.cells #[.int .i64 (q:Int)] 3);rw[World.size_alloc,WU]at this;exact this
    have yH:=va (Ld.out.trans (vX.mono (by have:=Ld.out.size;omega)));have Rf:=va KG;have LC:=va hN3;have KX:=va ((vX.block _ (by omega)).trans HKV.out);rw[<-AT];clear AT vX KG hN3 nV WU;refine bK rfl (by omega) (gf:=155) (lb:= #[.pointer (some ⟨kb+1+1,0,none⟩), .pointer (some ⟨kb+1,0,none⟩)]) rfl trivial (enters_of Tryz.func155 (by kernel_rfl) rfl) ?_;rw[xR];intro fn2 hfn2 rec2 Jz;refine(gL (9-1) (by omega) (kb+3+1) (kb+1+1) (kb+1) (by omega) (addr,q) (by have:=Oj.out.1;simp only at this⊢;omega) (fun j W=>StJ2 w B c a fs m s t root n cap A rl S S1 F vI p1 L1 T1 hold d (addr,q) ob kb A1 vC all1 j W/\W.heap[kb+3+1]? =some (.loop (rec2 .ready none)))
     (fun W=>False) ?_ ?_ _ ?_).mono ?_
    ·rintro j W ⟨⟨p',Z,cz,h1,h2,h3⟩,_⟩;exact h2.pg
    ·rintro j W ⟨hJ,hl⟩ wo;refine bw trivial Jz hl rfl ?_;obtain⟨p4,Z,cz,wG,yn,zI,Df,Kn,Xo,PM⟩:=hJ;obtain⟨x,hx⟩: ∃x,x=(pst (addr,q) j).1:=⟨_,rfl⟩;obtain⟨M,hM⟩: ∃M,M=pm (pst (addr,q) j):=⟨_,rfl⟩;obtain⟨R,hR⟩: ∃R,R=(pst (addr,q) j).2:=⟨_,rfl⟩;rw[<-hx,<-hM];rw[<-hR]at yn Kn PM;have zn:j<all1.length:=by
      rw[yF.out.len];rcases Nat.lt_or_ge j k with h9|h9
      ·exact h9
      ·have:=gE Sb.out (j-k);rw[show k+(j-k)=j by omega]at this;omega
     obtain⟨lf,wH⟩: ∃lf,all1[j]? =some lf:=⟨_,vg zn⟩;obtain⟨Ey,DC⟩:=yF.out.there j lf wH;rw[<-hx]at Ey;have hM0:0<M:=(by rw[hM];exact sY wo);have hMR:M<=R:=(by rw[hM,hR];exact pm_le _);have BH:M<=4096-x % 4096:=(by rw[hM,hx];exact Nat.min_le_right _ _);have HX:=va hx;have HM:=va hM;have HRR:=va hR;have xx:=va wG;have wL:=va yn;have zx:=va zI;have KW:=va Df;have QZ:=va Kn;have IT:=va Xo;have IW:=va wH;have zr:=va Ey;have RT:=va DC;have zw:=va wo;have HL:=va hl;clear hx hM hR wG yn zI Df Kn Xo wH Ey DC wo Jz hl
     gi_wp2
     refine⟨HL.out,?_⟩;obtain⟨W5,GY⟩: ∃W5,W5=W.putObj (kb+3+1) (.loop (rec2 .busy none)):=⟨_,rfl⟩;rw[<-GY];have xf:Mod (fun b=>b=kb+3+1) W W5:=(by rw[GY];exact aA);have GM:W5.heap[kb+3+1]? =some (.loop (rec2 .busy none)):=(by rw[GY];exact World.putObj_heap_same (uZ HL.out).1);have vP:=xx.out.set xf (fun b e=> .inr (by omega));have zp:=wL.out.keep EJ (W':=W5) (fun b h1=>by
      rcases Nat.lt_or_ge b W.heap.size with h3|h3
      ·exact xf.block b h3 (by omega)
      ·rw[Array.getElem?_eq_none h3,Array.getElem?_eq_none];rw[GY,World.putObj_size];exact h3)
     rcases zx.out.form with⟨_,h0,_⟩|⟨gA,TT,_⟩
     ·rw[h0]at zn;cases zn
     subst TT;obtain⟨fr,pr,cp⟩:=lf;have xK:cp=false:=RT.out;subst xK;have Bc:OwnG 83 3 iB W5 (ob+5) (some ⟨gA,0,none⟩) vC all1:=zx.out.same fun g hg=>xf.block g ((zx.out.blk g (by rw[hg];rfl)).2) (fun e=>(xx.out.own g (.inl (.inr (by rw[hg];rfl)))).2.2 |> fun _ =>by
      subst e;have h9:=HL.out;rcases zx.out.2 with⟨h8,_⟩|⟨g',vA,cur,h7,_,h6,_⟩
      ·cases h8
      ·injection h7 with h7;injection hg with hg;injection h7 with h7;injection h7 with h7;injection hg with hg;rw[<-h7,hg,h9]at h6;cases h6)
     have c0:W5.cell? ⟨w.heap.size,0,none⟩=some (.pointer (some ⟨s,0,none⟩)):=aa zp.b0 0;have s1:W5.cell? ⟨s,1,none⟩=some (.pointer (some ⟨a,0,none⟩)):=aa vP.one.self 1;have ox:W5.cell? ⟨ob,0,none⟩=some (.slice (some ⟨gA,0,none⟩) all1.length vC):=aa zp.out 0;have kx:W5.cell? ⟨kb,0,none⟩=some (.int .i64 (j:Int)):=aa zp.num 0;have bx:W5.cell? ⟨w.heap.size+1,0,none⟩=some (.slice Z R cz):=aa zp.b1 0;have lx:W5.cell? ⟨gA,j*3,none⟩=some (.int .i64 (fr:Int)):=Bc.cell nB IW.out 0 (by decide);have Dh:(0:Int)<=(j:Int):=(by omega);have wX:(j:Int)<(all1.length:Int):=(by omega);have hMz:M<=cz:=(by omega);have hMz2:(M:Int)<=(cz:Int):=(by omega);have hM0':(0:Int)<=(M:Int):=(by omega);obtain⟨u,hu⟩: ∃u:Int,(x:Int) % 4096=u:=⟨_,rfl⟩;have Ro:((x % 4096:Nat):Int)=u:=(by omega);have Yf:(x:Int).tmod 4096=u:=(by rw[Int.tmod_eq_emod_of_nonneg (by omega),hu]);have XV:IntKind.i64.wrap u=u:=(by rw[IntKind.wrap_i64];omega);have Tt:Tryz.prog.follows .mixedOrders=true:=(by kernel_rfl);have HU2:=va Ro;have AB:=va vP;have AE:=va zp;have Dt:=va Bc;have Wb:=va GM;clear vP zp Bc GM xf GY Ro;gi_upto_region 18 with(fail);refine bR (fun w'=>w'.cell? ⟨w.heap.size,0,none⟩=some (.pointer (some ⟨s,0,none⟩))/\w'.cell? ⟨s,1,none⟩=some (.pointer (some ⟨a,0,none⟩))/\w'.cell? ⟨ob,0,none⟩=some (.slice (some ⟨gA,0,none⟩) all1.length vC)/\w'.cell? ⟨kb,0,none⟩=some (.int .i64 (j:Int))/\w'.cell? ⟨w.heap.size+1,0,none⟩=some (.slice Z R cz)/\w'.cell? ⟨gA,j*3,none⟩=some (.int .i64 (fr:Int))) 15 (by kernel_rfl) (by kernel_rfl) (cW.of 14 (by kernel_rfl) (by kernel_rfl)) ⟨c0,s1,ox,kx,bx,lx⟩ ?_;intro QK BJ;refine zt 0 ?_;refine zt 1 ?_;refine zt 2 ?_;refine zt 3 ?_;refine zt 4 ?_;refine zt 5 ?_;refine zt 6 ?_;refine zt 7 ?_;refine zt 8 ?_;refine zt 9 ?_;refine zt 10 ?_;refine zt 11 ?_;refine zt 12 ?_;refine zt 13 ?_;refine zt 14 ?_;refine bd 15 (by kernel_rfl) rfl rfl (fun K' hK=>?_)
     go_simp
     obtain⟨v1,v2,v3,v4,v5,v6⟩:=KW.out.sp.leaf zr.out;dsimp only at v2 v3 v4 v5 v6;have xo:=gw a fr (x % 4096) M cz Z (fun i=>d (x-addr+i)) W5.drew S1 p4 AB.out.home.cache.pool.drew v3 v4 (by omega) BH (((by have h9:=QZ.out;rw[<-HX.out]at h9;exact h9:au w Z R (fun i=>d (x-addr+i))).head hMR).run (AB.out.mod.trans (Out.refl _ _) (Mod.of ((vz _ _).drew))) IT.out) (fun i=>HD.out _);rw[HU2.out]at xo;have CD:=va xo;clear xo v1 v2 v5 v6;refine(CD.out).mono ?_;rintro e W6 ⟨rfl,CP,EO⟩;have yU:=EO.undrew;obtain⟨xt,BF⟩:=AB.out.pool CP yU;go_wp2_with fail;refine hK.out _ _ ?_;clear hK K';refine be (by kernel_rfl) ?_ _;refine aQ ?_;have wB:=AE.out.keep EJ (W':=W6) (fun b h1=>BF b (h1.elim (fun h=> .inl (.inl (by omega))) (fun h=> .inr (by omega))));have xO:=(BF (kb+3+1) (.inr (by omega))).trans Wb.out;have BR:OwnG 83 3 iB W6 (ob+5) (some ⟨gA,0,none⟩) vC all1:=Dt.out.same fun g hg=>BF g (.inl (.inr (by rw[hg];rfl)));have bx6:W6.cell? ⟨w.heap.size+1,0,none⟩=some (.slice Z R cz):=aa wB.b1 0;have bf6:=ae wB.b1 0;have hbl6:w.heap.size+1<W6.heap.size:=(uZ wB.b1).1;have hne1:w.heap.size+1≠kb:=(by omega);obtain⟨Z2,hZ2⟩: ∃Z2,Z2=if cz=M then Z else Z.map (·.add M):=⟨_,rfl⟩
     have kx6:(W6.setCell ⟨w.heap.size+1,0,none⟩ (.slice Z2 (R-M) (cz-M))).cell? ⟨kb,0,none⟩=some (.int .i64 (j:Int)):=aa (((aj (S:=fun b=>b=w.heap.size+1) rfl 0 _).block _ (uZ wB.num).1 (by omega)).trans wB.num) 0;have kf6:=ae (((aj (S:=fun b=>b=w.heap.size+1) (w:=W6) rfl 0 (.slice Z2 (R-M) (cz-M))).block _ (uZ wB.num).1 (by omega)).trans wB.num) 0;have hwj:IntKind.i64.wrap ((j:Int)+1)=(j:Int)+1:=(by rw[IntKind.wrap_i64];have:=yF.out.len;omega);have Oi:=va xt;have wQ:=va wB;have Sa:=va xO;have Cr:=va BR;have HZ2:=va hZ2;clear xt wB xO BR BF yU EO CP c0 s1 ox kx bx lx hu Yf XV BJ hZ2;by_cases PT:cz=M
     ·have PZ:Z2=Z:=(by rw[HZ2.out,if_pos PT]);gi_upto_region 20 with(fail);rw[show Value.slice Z (R-M) 0= .slice Z2 (R-M) (cz-M) by rw[PZ,PT,Nat.sub_self]];have HC:=va PZ;have HCM:=va PT;clear PT PZ;obtain⟨W7,Fj⟩: ∃W7,W7=W6.setCell ⟨w.heap.size+1,0,none⟩ (.slice Z2 (R-M) (cz-M)):=⟨_,rfl⟩;rw[<-Fj]at kx6 kf6⊢;have xh:Mod (fun b=>b=w.heap.size+1) W6 W7:=(by rw[Fj];exact aj (S:=fun b=>b=w.heap.size+1) rfl 0 _);have Vj:W7.heap[w.heap.size+1]? =some (.cells #[.slice Z2 (R-M) (cz-M)] 39 (0,0)):=(by rw[Fj];exact bm wQ.out.b1);have IB:=va xh;have Jb:=va Vj;clear Fj xh Vj
      gi_wp2
      obtain⟨W8,Qb⟩: ∃W8,W8=W7.setCell ⟨kb,0,none⟩ (.int .i64 ((j:Int)+1)):=⟨_,rfl⟩;rw[<-Qb];have yO:Mod (fun b=>b=kb) W7 W8:=(by rw[Qb];exact aj (S:=fun b=>b=kb) rfl 0 _);have IP:W7.heap[kb]? =some (.cells #[.int .i64 (j:Int)] 3 (0,0)):=(IB.out.block _ (uZ wQ.out.num).1 (by omega)).trans wQ.out.num;have ZQ:W8.heap[kb]? =some (.cells #[.int .i64 ((j+1:Nat):Int)] 3 (0,0)):=(by rw[Qb];exact bm IP);have zm: ∀ {b:Nat} {o:Obj},W6.heap[b]? =some o->b≠w.heap.size+1->W7.heap[b]? =some o:=fun h1 h2=>(IB.out.block _ (uZ h1).1 h2).trans h1;have zl: ∀ {b:Nat} {o:Obj},W7.heap[b]? =some o->b≠kb->W8.heap[b]? =some o:=fun h1 h2=>(yO.block _ (uZ h1).1 h2).trans h1;have ND:=zl (zm Sa.out (by omega)) (by omega);have Bp:=aA (l:=kb+3+1) (o:= .loop (rec2 .ready none)) (W:=W8);have Bh: ∀ {b:Nat} {o:Obj},W8.heap[b]? =some o->b≠kb+3+1->(W8.putObj (kb+3+1) (.loop (rec2 .ready none))).heap[b]? =some o:=fun h1 h2=>(Bp.block _ (uZ h1).1 h2).trans h1;have DF:PgSt (W8.putObj (kb+3+1) (.loop (rec2 .ready none))) (kb+2) (kb+1) (pst (addr,q) j):=⟨Bh (zl (zm wQ.out.pg.n (by omega)) (by omega)) (by omega),Bh (zl (zm wQ.out.pg.a (by omega)) (by omega)) (by omega)⟩;obtain⟨JE,xX⟩:=gF DF (by omega) (pst (addr,q) (j+1));have EW: ∀ {b:Nat} {o:Obj},W8.heap[b]? =some o->b≠kb+3+1->b≠kb+1->b≠kb+2->(cy (W8.putObj (kb+3+1) (.loop (rec2 .ready none))) (kb+2) (kb+1) (pst (addr,q) (j+1))).heap[b]? =some o:=fun h1 h2 h3 h4=>(xX.block _ (uZ (Bh h1 h2)).1 (by omega)).trans (Bh h1 h2);have zA:(pst (addr,q) (j+1)).1=x+M:=(by rw[HX.out,HM.out];rfl);have AM:(pst (addr,q) (j+1)).2=R-M:=(by rw[HRR.out,HM.out];rfl);have hxa:addr<=x:=(by have:=pY (addr,q) j;have:=dm (addr,q) j;rw[HX.out];dsimp only at *;omega);have AY:=((((Oi.out.set IB.out (fun b e=> .inl (.inl (by omega)))).set yO (fun b e=> .inr (by omega))).set Bp (fun b e=> .inr (by omega))).set xX (fun b e=> .inr (by omega)));have JG:OwnG 83 3 iB (cy (W8.putObj (kb+3+1) (.loop (rec2 .ready none))) (kb+2) (kb+1) (pst (addr,q) (j+1))) (ob+5) (some ⟨gA,0,none⟩) vC all1:=Cr.out.same fun g hg=>by
       injection hg with hg;injection hg with hg;subst hg;rcases Cr.out.2 with⟨h8,_⟩|⟨g',vA,cur,h7,h70,h6,_⟩
       ·cases h8
       ·injection h7 with h7;injection h7 with h7;injection h7 with h7;subst h7;have Ia:gA≠kb:=fun e=>by rw[e,wQ.out.num]at h6;injection h6 with h6;injection h6 with _ h6;cases h6
        have Fy:gA≠kb+1:=fun e=>by rw[e,wQ.out.pg.a]at h6;injection h6 with h6;injection h6 with _ h6;cases h6
        have YE:gA≠kb+2:=fun e=>by rw[e,wQ.out.pg.n]at h6;injection h6 with h6;injection h6 with _ h6;cases h6
        have EM:gA≠kb+3+1:=fun e=>by rw[e,Sa.out]at h6;cases h6
        rw[h6];exact EW (zl (zm h6 (by omega)) Ia) EM Fy YE
      have EU:=KW.out.step zw.out (by rw[<-HX.out];exact zr.out) rfl (e:=fun i=>d (x-addr+i)) (fun i hi=>by rw[<-HX.out]);rw[<-HX.out,<-HM.out]at EU;refine⟨ND,rfl,DF,⟨_,Z2,cz-M,AY,⟨JE,EW (zl (zm wQ.out.mark (by omega)) (by omega)) (by omega) (by omega) (by omega),EW (zl (zm wQ.out.mark2 (by omega)) (by omega)) (by omega) (by omega) (by omega),EW (zl (zm wQ.out.b0 (by omega)) (by omega)) (by omega) (by omega) (by omega),?_,EW (zl (zm wQ.out.b2 (by omega)) (by omega)) (by omega) (by omega) (by omega),EW (zl (zm wQ.out.out (by omega)) (by omega)) (by omega) (by omega) (by omega),EW ZQ (by omega) (by omega) (by omega)⟩,JG,EU,?_,?_,?_⟩,?_⟩
      ·rw[AM];exact EW (zl Jb.out (by omega)) (by omega) (by omega) (by omega)
      ·rw[AM,zA,HC.out];intro h0
       first
       |(
         have h9:=(QZ.out.cut M) h0;obtain⟨ad,h1,h2⟩:=h9;exact⟨ad,h1,fun i hi=>(h2 i hi).trans (by show some (Value.int .u8 ((d ((pst (addr,q) j).1-(addr,q).1+(M+i)):Nat):Int))=_;rw[<-HX.out,show x-(addr,q).1+(M+i)=x+M-(addr,q).1+i by(dsimp only;omega)])⟩)
       |(exfalso;have:=HCM.out;omega)
      ·rw[HC.out];intro ad hA
       first
       |exact IT.out ad hA
       |(
         cases Z with
         |none=>cases hA
         |some z=>
          injection hA with hA;subst hA;rw[Addr.add_blk];exact IT.out z rfl)
      ·rw[AM];omega
      ·have Ic:=(uZ ND).1;exact(xX.block _ (by rw[World.putObj_size];exact Ic) (by omega)).trans (World.putObj_heap_same Ic)
     ·have PZ:Z2=Z.map (·.add M):=(by rw[HZ2.out,if_neg PT]);gi_upto_region 20 with(fail);rw[show Value.slice (Option.map (fun x=>x.add M) Z) (R-M) (cz-M)= .slice Z2 (R-M) (cz-M) by rw[PZ]];have HC:=va PZ;have HCM:=va PT;clear PT PZ;obtain⟨W7,Fj⟩: ∃W7,W7=W6.setCell ⟨w.heap.size+1,0,none⟩ (.slice Z2 (R-M) (cz-M)):=⟨_,rfl⟩;rw[<-Fj]at kx6 kf6⊢;have xh:Mod (fun b=>b=w.heap.size+1) W6 W7:=(by rw[Fj];exact aj (S:=fun b=>b=w.heap.size+1) rfl 0 _);have Vj:W7.heap[w.heap.size+1]? =some (.cells #[.slice Z2 (R-M) (cz-M)] 39 (0,0)):=(by rw[Fj];exact bm wQ.out.b1);have IB:=va xh;have Jb:=va Vj;clear Fj xh Vj
      gi_wp2
      obtain⟨W8,Qb⟩: ∃W8,W8=W7.setCell ⟨kb,0,none⟩ (.int .i64 ((j:Int)+1)):=⟨_,rfl⟩;rw[<-Qb];have yO:Mod (fun b=>b=kb) W7 W8:=(by rw[Qb];exact aj (S:=fun b=>b=kb) rfl 0 _);have IP:W7.heap[kb]? =some (.cells #[.int .i64 (j:Int)] 3 (0,0)):=(IB.out.block _ (uZ wQ.out.num).1 (by omega)).trans wQ.out.num;have ZQ:W8.heap[kb]? =some (.cells #[.int .i64 ((j+1:Nat):Int)] 3 (0,0)):=(by rw[Qb];exact bm IP);have zm: ∀ {b:Nat} {o:Obj},W6.heap[b]? =some o->b≠w.heap.size+1->W7.heap[b]? =some o:=fun h1 h2=>(IB.out.block _ (uZ h1).1 h2).trans h1;have zl: ∀ {b:Nat} {o:Obj},W7.heap[b]? =some o->b≠kb->W8.heap[b]? =some o:=fun h1 h2=>(yO.block _ (uZ h1).1 h2).trans h1;have ND:=zl (zm Sa.out (by omega)) (by omega);have Bp:=aA (l:=kb+3+1) (o:= .loop (rec2 .ready none)) (W:=W8);have Bh: ∀ {b:Nat} {o:Obj},W8.heap[b]? =some o->b≠kb+3+1->(W8.putObj (kb+3+1) (.loop (rec2 .ready none))).heap[b]? =some o:=fun h1 h2=>(Bp.block _ (uZ h1).1 h2).trans h1;have DF:PgSt (W8.putObj (kb+3+1) (.loop (rec2 .ready none))) (kb+2) (kb+1) (pst (addr,q) j):=⟨Bh (zl (zm wQ.out.pg.n (by omega)) (by omega)) (by omega),Bh (zl (zm wQ.out.pg.a (by omega)) (by omega)) (by omega)⟩;obtain⟨JE,xX⟩:=gF DF (by omega) (pst (addr,q) (j+1));have EW: ∀ {b:Nat} {o:Obj},W8.heap[b]? =some o->b≠kb+3+1->b≠kb+1->b≠kb+2->(cy (W8.putObj (kb+3+1) (.loop (rec2 .ready none))) (kb+2) (kb+1) (pst (addr,q) (j+1))).heap[b]? =some o:=fun h1 h2 h3 h4=>(xX.block _ (uZ (Bh h1 h2)).1 (by omega)).trans (Bh h1 h2);have zA:(pst (addr,q) (j+1)).1=x+M:=(by rw[HX.out,HM.out];rfl);have AM:(pst (addr,q) (j+1)).2=R-M:=(by rw[HRR.out,HM.out];rfl);have hxa:addr<=x:=(by have:=pY (addr,q) j;have:=dm (addr,q) j;rw[HX.out];dsimp only at *;omega);have AY:=((((Oi.out.set IB.out (fun b e=> .inl (.inl (by omega)))).set yO (fun b e=> .inr (by omega))).set Bp (fun b e=> .inr (by omega))).set xX (fun b e=> .inr (by omega)));have JG:OwnG 83 3 iB (cy (W8.putObj (kb+3+1) (.loop (rec2 .ready none))) (kb+2) (kb+1) (pst (addr,q) (j+1))) (ob+5) (some ⟨gA,0,none⟩) vC all1:=Cr.out.same fun g hg=>by
       injection hg with hg;injection hg with hg;subst hg;rcases Cr.out.2 with⟨h8,_⟩|⟨g',vA,cur,h7,h70,h6,_⟩
       ·cases h8
       ·injection h7 with h7;injection h7 with h7;injection h7 with h7;subst h7;have Ia:gA≠kb:=fun e=>by rw[e,wQ.out.num]at h6;injection h6 with h6;injection h6 with _ h6;cases h6
        have Fy:gA≠kb+1:=fun e=>by rw[e,wQ.out.pg.a]at h6;injection h6 with h6;injection h6 with _ h6;cases h6
        have YE:gA≠kb+2:=fun e=>by rw[e,wQ.out.pg.n]at h6;injection h6 with h6;injection h6 with _ h6;cases h6
        have EM:gA≠kb+3+1:=fun e=>by rw[e,Sa.out]at h6;cases h6
        rw[h6];exact EW (zl (zm h6 (by omega)) Ia) EM Fy YE
      have EU:=KW.out.step zw.out (by rw[<-HX.out];exact zr.out) rfl (e:=fun i=>d (x-addr+i)) (fun i hi=>by rw[<-HX.out]);rw[<-HX.out,<-HM.out]at EU;refine⟨ND,rfl,DF,⟨_,Z2,cz-M,AY,⟨JE,EW (zl (zm wQ.out.mark (by omega)) (by omega)) (by omega) (by omega) (by omega),EW (zl (zm wQ.out.mark2 (by omega)) (by omega)) (by omega) (by omega) (by omega),EW (zl (zm wQ.out.b0 (by omega)) (by omega)) (by omega) (by omega) (by omega),?_,EW (zl (zm wQ.out.b2 (by omega)) (by omega)) (by omega) (by omega) (by omega),EW (zl (zm wQ.out.out (by omega)) (by omega)) (by omega) (by omega) (by omega),EW ZQ (by omega) (by omega) (by omega)⟩,JG,EU,?_,?_,?_⟩,?_⟩
      ·rw[AM];exact EW (zl Jb.out (by omega)) (by omega) (by omega) (by omega)
      ·rw[AM,zA,HC.out];intro h0
       first
       |(
         have h9:=(QZ.out.cut M) h0;obtain⟨ad,h1,h2⟩:=h9;exact⟨ad,h1,fun i hi=>(h2 i hi).trans (by show some (Value.int .u8 ((d ((pst (addr,q) j).1-(addr,q).1+(M+i)):Nat):Int))=_;rw[<-HX.out,show x-(addr,q).1+(M+i)=x+M-(addr,q).1+i by(dsimp only;omega)])⟩)
       |(exfalso;have:=HCM.out;omega)
      ·rw[HC.out];intro ad hA
       first
       |exact IT.out ad hA
       |(
         cases Z with
         |none=>cases hA
         |some z=>
          injection hA with hA;subst hA;rw[Addr.add_blk];exact IT.out z rfl)
      ·rw[AM];omega
      ·have Ic:=(uZ ND).1;exact(xX.block _ (by rw[World.putObj_size];exact Ic) (by omega)).trans (World.putObj_heap_same Ic)
    ·have vZ:Below W3.heap.size W3 ((W3.alloc (.deferred (some []))).alloc (.loop (rec2 .ready none))):=vc.alloc (by simp) _;have xz:=((wu.out.below yH.out).below vZ).sub (K':=StK w ob kb A1) (fun b e=>by
      rcases e with e|e
      ·exact .inl (.inl e)
      ·rcases Nat.lt_or_ge b W3.heap.size with h1|h1
       ·exact .inl (.inr ⟨by have:=HKB.out;omega,h1⟩)
       ·exact .inr ⟨h1,by simp[xR];omega⟩)
     have xP: ∀ {b:Nat} {o:Obj},W3.heap[b]? =some o->((W3.alloc (.deferred (some []))).alloc (.loop (rec2 .ready none))).heap[b]? =some o:=fun h1=>(cf (uZ h1).1).trans h1;have yJ: ∀ {b:Nat} {o:Obj},W2.heap[b]? =some o->((W3.alloc (.deferred (some []))).alloc (.loop (rec2 .ready none))).heap[b]? =some o:=fun h1=>xP ((yH.out.block _ (uZ h1).1).trans h1);have vR:OwnG 83 3 iB ((W3.alloc (.deferred (some []))).alloc (.loop (rec2 .ready none))) (ob+5) A1 vC all1:=Dv.out.same fun g hg=>by
      have h9:=(Dv.out.blk g (by rw[hg];rfl)).2;exact(cf (by have:=yH.out.size;omega)).trans (yH.out.block g h9)
     have h00:(pst (addr,q) 0).1-(addr,q).1=0:=Nat.sub_self _;refine⟨⟨p1,Ab,cq,xz,⟨⟨xP LC.out,xP Rf.out⟩,yJ xN.out.mark,?_,yJ xN.out.b0,yJ xN.out.b1,yJ xN.out.b2,?_,xP KX.out⟩,vR,?_,?_,ID.out,EH⟩,?_⟩
     ·have:=ab W3 (.deferred (some []));rw[xR]at this;exact(ve _ _ _ (by simp[xR])).trans this
     ·rw[yF.out.len];exact yJ xN.out.out
     ·rw[h00];exact Lays.start yF.out.seen.kept.sp yF.out.seen.kept.own
     ·rw[h00];have h9:(fun i=>d (0+i))=d:=(by funext i;rw[Nat.zero_add]);rw[h9];exact WC.out
     ·have:=ab (W3.alloc (.deferred (some []))) (.loop (rec2 .ready none))
      rwa [World.size_alloc,xR]at this
    ·rintro e W ⟨hv,⟨j,Dh,⟨p4,Z,cz,wG,yn,zI,Df,Kn,Xo,PM⟩,hl⟩|hF⟩
     rotate_left
     ·exact hF.elim
     refine⟨hv, .inl ⟨hl,?_⟩⟩;obtain⟨W5,GY⟩: ∃W5,W5=W.putObj (kb+3+1) (.loop (rec2 .exhausted none)):=⟨_,rfl⟩;rw[<-GY];have xf:Mod (fun b=>b=kb+3+1) W W5:=(by rw[GY];exact aA);have vP:=wG.set xf (fun b e=> .inr (by omega));have xD: ∀ {b:Nat} {o:Obj},W.heap[b]? =some o->b≠kb+3+1->W5.heap[b]? =some o:=fun h1 h2=>(xf.block _ (uZ h1).1 h2).trans h1;have Va:=xD yn.b2 (by omega);have KA:=xD yn.mark (by omega);have hM6:=xD yn.mark2 (by omega);have yq:=dm (addr,q) j;rw[Dh,Nat.add_zero]at yq;rw[yq,show(addr,q).1+(addr,q).2-(addr,q).1=q by simp]at Df;have e0:W5.cell? ⟨w.heap.size+1+1,0,none⟩=some (.int .i64 0):=aa Va 0;have ef0:=ae Va 0;have helt5:w.heap.size+1+1<W5.heap.size:=(uZ Va).1;have AB:=va vP;have HE5:=va Va;have Dw:=va KA;have Hk:=va hM6;have HLAY:=va Df;clear GY xf vP xD Va KA hM6 yq Df wG yn zI Kn Xo PM hl hv Dh Jz;unfold dp
     gi_wp2
     have Cw:=IV.out W5 (.int .i64 0);have xt:=AB.out.set Cw (fun b e=> .inl (.inl (by omega)));have he6:(W5.setCell ⟨w.heap.size+1+1,0,none⟩ (.int .i64 0)).heap[w.heap.size+1+1]? =some (.cells #[.int .i64 0] 32 (0,0)):=bm HE5.out;have Aj:=(Cw.block _ (uZ Hk.out).1 (by omega)).trans Hk.out;have hK1:=(Cw.block _ (uZ Dw.out).1 (by omega)).trans Dw.out;refine⟨by simp, .inl ⟨_,_,rfl,run_takeDeferred Aj,?_⟩⟩;have BV:=aA (l:=kb+3) (o:= .deferred none) (W:=W5.setCell ⟨w.heap.size+1+1,0,none⟩ (.int .i64 0));have Ba:=xt.set BV (fun b e=> .inr (by omega));have he7:=(BV.block _ (uZ he6).1 (by omega)).trans he6;have Hc:=(BV.block _ (uZ hK1).1 (by omega)).trans hK1;refine⟨by simp, .inl ⟨_,_,rfl,run_takeDeferred Hc,?_⟩⟩;have Nx:=aA (l:=ob+3) (o:= .deferred none) (W:=(W5.setCell ⟨w.heap.size+1+1,0,none⟩ (.int .i64 0)).putObj (kb+3) (.deferred none));have AZ:=Ba.set Nx (fun b e=> .inl (.inl (by omega)));have he8:=(Nx.block _ (uZ he7).1 (by omega)).trans he7;have c2:=aa he8 0;refine⟨.int .i64 0,by simp[results,Tryz.results71,go_sem,c2],?_⟩;exact⟨0,p4,L1,T1,vI,S1,rfl,AZ.home.cache,AZ.mod,AZ.out,xU,by omega, .inr (.inr (.inr ⟨Ll,ME.out,rfl,k,all1,p1,Sb.out,yF.out,HLAY.out⟩))⟩
end
