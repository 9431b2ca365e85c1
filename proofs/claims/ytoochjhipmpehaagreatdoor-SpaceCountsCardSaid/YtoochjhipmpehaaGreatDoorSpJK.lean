/- Spaces: store. -/
import Derived.Test.YtoochjhipmpehaaGreatDoorSpIK
set_option linter.unusedVariables false
set_option linter.unusedSimpArgs false
set_option maxRecDepth 100000
set_option maxHeartbeats 8000000
namespace Go.Proofs.YtoochjhipmpehaaGreatDoor
section
open Go.RowKit Go.Sort
attribute [local go_sem] Oper.semAt_some
def iu (l:Leaf):List Value:=[.int .i64 (l.frame:Int), .int .u8 (l.prot:Int), .bool l.copy]
theorem nr:Elem 209 83 3 16 (.agg #[.int .i64 0, .int .u8 0, .bool false]) iu:=
 ⟨Tryz.underlying209,by kernel_rfl,rfl,by decide,by decide,fun _ =>rfl,fun x v hv=>by simp[iu]at hv;rcases hv with rfl|rfl|rfl<;>rfl⟩
variable {k:Nat} {w:World}
theorem OwnG.blk {α:Type} {T:TypeId} {C:α->List Value} {base cap:Nat} {R:Option Addr} {L:List α} (h:OwnG T k C w base R cap L): ∀g,R.map (·.block)=some g->base<=g/\g<w.heap.size:=fun g e=>by
 rcases h.form with⟨h1,_⟩|⟨g',h1,h2,h3,_⟩
 ·rw[h1]at e;cases e
 ·rw[h1]at e;simp at e;subst e;exact⟨h2,h3⟩
theorem Addr.add_blk (ad:Addr) (j:Nat):(ad.add j).block=ad.block:=by unfold Addr.add;split<;>rfl
variable {W:World} {Z:Option Addr} {n:Nat} {d:Nat->Nat}
theorem av.run {G:Nat->Prop} (h:av w Z n d) (hm:Mod G w W) (hZ: ∀ad,Z=some ad->ad.block<w.heap.size/\ ¬G ad.block):av W Z n d:=fun h0=>by
 obtain⟨ad,e,hc⟩:=h h0;obtain⟨h1,h2⟩:=hZ ad e;exact⟨ad,e,fun j hj=>(World.cell?_of_block (by rw[Addr.add_blk];exact hm.block _ h1 h2)).trans (hc j hj)⟩
theorem av.cut (h:av w Z n d) (m:Nat):av w (Z.map (·.add m)) (n-m) (fun i=>d (m+i)):=fun h0=>by
 obtain⟨ad,e,hc⟩:=h (by omega);exact⟨ad.add m,by rw[e];rfl,fun j hj=>by rw[Addr.add_add];exact hc _ (by omega)⟩
variable {m:Nat}
theorem av.head (h:av w Z n d) (hm:m<=n):av w Z m d:=fun h0=>by
 obtain⟨ad,e,hc⟩:=h (by omega);exact⟨ad,e,fun j hj=>hc j (by omega)⟩
structure va (F:List Nd) (hold:Nat->Nat) (rl:List Reg) (x:Nat×Nat) (p:Pool) (L:List Slot) (T:Tab) (p':Pool) (L':List Slot) (T':Tab):Prop where
 seen:Seen F hold rl p L T p' L' T'
 only: ∀g,T.lf g=none->(∀j,0<(pst x j).2->g≠(pst x j).1/4096)->T'.lf g=none
 full:Full hold p' T'
structure uY (w W:World) (s ob:Nat) (V:Value) (x:Nat×Nat) (k:Nat) (m:Nat) (A':Option Addr) (vP:Nat):Prop where
 pg:PgSt W (ob+2) (ob+1) (pst x k)
 mark:W.heap[ob+3]? =some (.deferred (some []))
 b0:W.heap[w.heap.size]? =some (.cells #[.pointer (some ⟨s,0,none⟩)] 60 (0,0))
 b1:W.heap[w.heap.size+1]? =some (.cells #[V] 39 (0,0))
 b2:W.heap[w.heap.size+1+1]? =some (.cells #[.int .i64 0] 32 (0,0))
 out:W.heap[ob]? =some (.cells #[.slice A' m vP] 209 (0,0))
variable {W':World} {s ob vP:Nat} {V:Value} {x:Nat×Nat} {A':Option Addr}
theorem uY.keep (h:uY w W s ob V x k m A' vP) (Lv:w.heap.size+3<=ob) (hk: ∀b,w.heap.size<=b->b<ob+4->W'.heap[b]? =W.heap[b]?):uY w W' s ob V x k m A' vP:=
 ⟨⟨(hk _ (by omega) (by omega)).trans h.pg.n,(hk _ (by omega) (by omega)).trans h.pg.a⟩,(hk _ (by omega) (by omega)).trans h.mark,(hk _ (by omega) (by omega)).trans h.b0,(hk _ (by omega) (by omega)).trans h.b1,(hk _ (by omega) (by omega)).trans h.b2,(hk _ (by omega) (by omega)).trans h.out⟩
def StJ (w:World) (B c a fs m s t root n cap:Nat) (A:Option Addr) (rl:List Reg) (S:Nat->Prop) (F:List Nd) (clock:Int) (p:Pool) (L:List Slot) (T:Tab) (hold:Nat->Nat) (V:Value) (x:Nat×Nat) (ob k:Nat) (W:World):Prop:=
 ∃p' L' T' vQ S' A' vP all,Run w W (aw S c m) (LdK w ob A') B c a fs m s t root A n cap rl S S' F vQ p' L'/\uY w W s ob V x k k A' vP/\OwnG 83 3 iu W (ob+5) A' vP all/\Owns F hold rl x k p L T all p' L' T'/\clock<=vQ/\vQ<=clock+k/\ ∀j,j<k->0<(pst x j).2
def StX (w:World) (B c a fs m s t root n cap:Nat) (A:Option Addr) (rl:List Reg) (S:Nat->Prop) (F:List Nd) (clock:Int) (p:Pool) (L:List Slot) (T:Tab) (hold:Nat->Nat) (x:Nat×Nat) (ob:Nat) (W:World):Prop:=
 ∃p' L' T' vQ S',Run w W (aw S c m) (LdK w ob none) B c a fs m s t root A n cap rl S S' F vQ p' L'/\clock<=vQ/\vQ<=clock+32/\va F hold rl x p L T p' L' T'/\W.heap[ob+3]? =some (.deferred (some []))/\W.heap[w.heap.size+1+1]? =some (.cells #[.int .i64 4] 32 (0,0))
structure qn (w W:World) (s ob kb:Nat) (V:Value) (x:Nat×Nat) (j k1:Nat) (A':Option Addr) (vP:Nat):Prop where
 pg:PgSt W (kb+2) (kb+1) (pst x j)
 mark:W.heap[ob+3]? =some (.deferred (some []))
 mark2:W.heap[kb+3]? =some (.deferred (some []))
 b0:W.heap[w.heap.size]? =some (.cells #[.pointer (some ⟨s,0,none⟩)] 60 (0,0))
 b1:W.heap[w.heap.size+1]? =some (.cells #[V] 39 (0,0))
 b2:W.heap[w.heap.size+1+1]? =some (.cells #[.int .i64 0] 32 (0,0))
 out:W.heap[ob]? =some (.cells #[.slice A' k1 vP] 209 (0,0))
 num:W.heap[kb]? =some (.cells #[.int .i64 (j:Int)] 3 (0,0))
theorem qn.keep {kb j k1:Nat} (h:qn w W s ob kb V x j k1 A' vP) (Lv:w.heap.size+3<=ob) (hk: ∀b,(w.heap.size<=b/\b<ob+4)\/(kb<=b/\b<kb+4)->W'.heap[b]? =W.heap[b]?):qn w W' s ob kb V x j k1 A' vP:=
 ⟨⟨(hk _ (by omega)).trans h.pg.n,(hk _ (by omega)).trans h.pg.a⟩,(hk _ (by omega)).trans h.mark,(hk _ (by omega)).trans h.mark2,(hk _ (by omega)).trans h.b0,(hk _ (by omega)).trans h.b1,(hk _ (by omega)).trans h.b2,(hk _ (by omega)).trans h.out,(hk _ (by omega)).trans h.num⟩
def StK (w:World) (ob kb:Nat) (A':Option Addr):Nat->Prop:=fun b=>LdK w ob A' b\/(kb<=b/\b<kb+5)
def StJ2 (w:World) (B c a fs m s t root n cap:Nat) (A:Option Addr) (rl:List Reg) (S0 S:Nat->Prop) (F:List Nd) (clock:Int) (p:Pool) (L:List Slot) (T:Tab) (hold:Nat->Nat) (d:Nat->Nat) (x:Nat×Nat) (ob kb:Nat) (A':Option Addr) (vP:Nat) (all:List Leaf) (j:Nat) (W:World):Prop:=
 ∃p' Z cz,Run w W (aw S0 c m) (StK w ob kb A') B c a fs m s t root A n cap rl S0 S F clock p' L/\qn w W s ob kb (.slice Z (pst x j).2 cz) x j all.length A' vP/\OwnG 83 3 iu W (ob+5) A' vP all/\Lays F hold rl x d ((pst x j).1-x.1) p L T p'/\av w Z (pst x j).2 (fun i=>d ((pst x j).1-x.1+i))/\(∀ad,Z=some ad->ad.block<w.heap.size/\ ¬aw S0 c m ad.block)/\(pst x j).2<=cz
def dJ (F:List Nd) (hold:Nat->Nat) (rl:List Reg) (p:Pool) (L:List Slot) (T:Tab) (addr q:Nat) (d:Nat->Nat) (want:Int) (er:Int) (p':Pool) (L':List Slot) (T':Tab):Prop:=
 (65536<q/\er=1/\p'=p/\L'=L/\T'=T)\/
 (q<=65536/\dZ rl (addr,q) want=false/\er=6/\p'=p/\L'=L/\T'=T)\/
 (q<=65536/\dZ rl (addr,q) want=true/\er=4/\va F hold rl (addr,q) p L T p' L' T')\/
 (q<=65536/\dZ rl (addr,q) want=true/\er=0/\ ∃j all p1,(pst (addr,q) j).2=0/\Owns F hold rl (addr,q) j p L T all p1 L' T'/\Lays F hold rl (addr,q) d q p1 L' T' p')
def nM (w:World) (S:Nat->Prop) (c a fs m:Nat) (F:List Nd) (rl:List Reg) (clock:Int) (p:Pool) (L:List Slot) (T:Tab) (hold:Nat->Nat) (addr q:Nat) (d:Nat->Nat) (want:Int) (e:Ending) (w':World):Prop:=
 ∃er p' L' T' vQ S',e= .returned (.int .i64 er)/\au w' S' c a fs m vQ p' L'/\Mod (aw S c m) w w'/\Out S S' w/\clock<=vQ/\vQ<=clock+32/\dJ F hold rl p L T addr q d want er p' L' T'
theorem qI (B c a fs m s t root n cap addr q cq:Nat) (want:Int) (A Ab:Option Addr) (d:Nat->Nat) (rl:List Reg) (clock:Int) (w:World) (S:Nat->Prop) (F:List Nd) (p:Pool) (L:List Slot) (T:Tab) (hold:Nat->Nat)
  (hH:Home w B c a fs m S F clock p L) (hO:One w B c a m S s t root A n cap rl) (yA:Sp F hold p L T) (ho:Own p T) (hr:T.nd 4 0=some root) (hR:Rgs F rl) (zE:addr<18446744073709551616) (xn: ∀f,hold f<=100000000000) (Ar:0<=clock/\clock+32<1000000)
  (hq:q<9223372036854775808) (DG:q<=cq) (hb:av w Ab q d) (hd: ∀j,d j<256) (Dq: ∀ad,Ab=some ad->ad.block<w.heap.size/\ ¬aw S c m ad.block):
  Calls Tryz.prog 71 #[.pointer (some ⟨s,0,none⟩), .int .u64 (addr:Int), .slice Ab q cq, .int .u8 want] w (nM w S c a fs m F rl clock p L T hold addr q d want):=by
 refine(callsIn_wide (n:=9)).1 ?_;refine callsIn_of_wp_marks Tryz.func71 rfl trivial ?_;simp only[Tryz.ntmps71,List.size_toArray,vC,List.length_nil,Nat.reduceAdd,Nat.reduceSub,Array.replicate_succ,Array.replicate_zero,List.push_toArray,List.append_toArray,List.nil_append,List.cons_append];obtain⟨w0,vT⟩: ∃w0,w0=((w.alloc (.cells #[.pointer (some ⟨s,0,none⟩)] 60)).alloc (.cells #[.slice Ab q cq] 39)).alloc (.cells #[.int .i64 0] 32):=⟨_,rfl⟩;have wM:w0.heap.size=w.heap.size+1+1+1:=(by rw[vT];simp);have vU:Below w.heap.size w w0:=(by rw[vT];exact(vr.alloc (by simp) _).alloc (by simp;omega) _);have FE:w0.heap[w.heap.size+1+1]? =some (.cells #[.int .i64 0] 32 (0,0)):=by
  rw[vT];have:=ab ((w.alloc (.cells #[.pointer (some ⟨s,0,none⟩)] 60)).alloc (.cells #[.slice Ab q cq] 39)) (.cells #[.int .i64 0] 32)
  rwa [World.size_alloc,World.size_alloc]at this
 have Jb:w0.heap[w.heap.size+1]? =some (.cells #[.slice Ab q cq] 39 (0,0)):=by
  rw[vT];have:=ab (w.alloc (.cells #[.pointer (some ⟨s,0,none⟩)] 60)) (.cells #[.slice Ab q cq] 39);rw[World.size_alloc]at this;exact(vt _ _ _ (by simp)).trans this
 have Ag:w0.heap[w.heap.size]? =some (.cells #[.pointer (some ⟨s,0,none⟩)] 60 (0,0)):=by
  rw[vT];exact(vt _ _ _ (by simp;omega)).trans ((vt _ _ _ (by simp)).trans (ab w _))
 have za:=(Run.start hH hO (fun _ e=>e)).below vU;have s0:w0.cell? ⟨w.heap.size,0,none⟩=some (.pointer (some ⟨s,0,none⟩)):=aa Ag 0;have n0:w0.cell? ⟨w.heap.size+1,0,none⟩=some (.slice Ab q cq):=aa Jb 0;have e0:w0.cell? ⟨w.heap.size+1+1,0,none⟩=some (.int .i64 0):=aa FE 0;have ef0:=ae FE 0;have Gl:w.heap.size+1<w0.heap.size:=(by omega);have Ct:w.heap.size+1+1<w0.heap.size:=(by omega);have wD:=vp vT;have CX:=vp wM;have WH:=vp FE;have OA:=vp Jb;have zI:=vp Ag;have yQ:=vp za;have yP:=vp yA;have zl:=vp ho;have HR:=vp hr;have VV:=vp hR;have xe:=vp vU;have WR:=vp hb;have HD:=vp hd;have Gb:=vp Dq;have yb:=dE s c a t n cap A w0 za.one.self;have xd:=vp yb;clear yb vT wM vU FE Jb Ag za hH hO yA ho hr hR hb hd Dq;have TK:=fun(w0:World) (u:Value)=>aj (S:=fun b=>b=w.heap.size+1+1) (w:=w0) (b:=w.heap.size+1+1) rfl 0 u;have Jf:=vp TK;clear TK;by_cases yN:(65536:Int)<(q:Int)
 ·have key:nM w S c a fs m F rl clock p L T hold addr q d want (.returned (.int .i64 1)) (w0.setCell ⟨w.heap.size+1+1,0,none⟩ (.int .i64 1)):=by
   have wB:=yQ.out.set (Jf.out w0 (.int .i64 1)) (fun b e=> .inr (by have:=CX.out;omega));exact⟨1,p,L,T,clock,S,rfl,wB.home.cache,wB.mod,wB.out,Int.le_refl _,by omega, .inl ⟨by omega,rfl,rfl,rfl,rfl⟩⟩
  have KEY:=vp key;clear key;gi_wp2_with (first
   |(refine⟨trivial,?_⟩;rw[<-wD.out];refine(callsIn_wide.2 xd.out).mono ?_;rintro e w1 ⟨rfl,rfl⟩)
   |fail)
  exact⟨.int .i64 1,by simp[results,Tryz.results71,go_sem,e0,ef0,Ct],KEY.out⟩
 have Lu:q<=65536:=(by omega);have xL:=jI s c a t n cap A rl addr q want w0 yQ.out.one.self yQ.out.one.row zE (by omega);cases hpb:dZ rl (addr,q) want with
 |false=>
  rw[hpb]at xL;have CK:=vp xL;have MI:=vp hpb;clear xL hpb;gi_wp2_with (first
   |(refine⟨trivial,?_⟩;rw[<-wD.out];refine(callsIn_wide.2 xd.out).mono ?_;rintro e w1 ⟨rfl,rfl⟩)
   |(refine⟨trivial,?_⟩;refine(callsIn_wide.2 CK.out).mono ?_;rintro e w1 ⟨rfl,vS⟩;have vV:=(vS.block _ Ct).trans WH.out;have e1:w1.cell? ⟨w.heap.size+1+1,0,none⟩=some (.int .i64 0):=aa vV 0;have ef1:=ae vV 0;have Kr:w.heap.size+1+1<w1.heap.size:=(vo vV).1)
   |fail)
  refine⟨.int .i64 6,by simp[results,Tryz.results71,go_sem,e1,ef1,Kr],?_⟩;have wB:=(yQ.out.below vS).set (Jf.out w1 (.int .i64 6)) (fun b e=> .inl (.inr (by have:=CX.out;omega)));exact⟨6,p,L,T,clock,S,rfl,wB.home.cache,wB.mod,wB.out,Int.le_refl _,by omega, .inr (.inl ⟨Lu,MI.out,rfl,rfl,rfl,rfl⟩)⟩
 |true=>
  have Tp:Perm rl (addr,q) want:=by
   unfold dZ at hpb;exact @vH _ (Classical.propDecidable _) hpb
  rw[hpb]at xL;have CK:=vp xL;have MI:=vp hpb;have Ov:=vp Tp;clear xL hpb Tp;gi_upto_region 8 with(first
   |(refine⟨trivial,?_⟩;rw[<-wD.out];refine(callsIn_wide.2 xd.out).mono ?_;rintro e w1 ⟨rfl,rfl⟩)
   |(refine⟨trivial,?_⟩;refine(callsIn_wide.2 CK.out).mono ?_;rintro e w1 ⟨rfl,vS⟩;have LC:=(vS.block _ Gl).trans OA.out;have n1: ∀o,(w1.alloc o).cell? ⟨w.heap.size+1,0,none⟩=some (.slice Ab q cq):=fun o=>aa ((vt _ _ _ (vo LC).1).trans LC) 0)
   |fail)
  obtain⟨ob,Lv⟩: ∃ob,w1.heap.size=ob:=⟨_,rfl⟩;have Fa:w.heap.size+3<=ob:=(by have:=vS.size;have:=CX.out;omega);obtain⟨wa,IM⟩: ∃wa,wa=w1.alloc (.cells #[.slice none 0 0] 209):=⟨_,rfl⟩;have na:=n1 (.cells #[.slice none 0 0] 209);rw[<-IM]at na;rw[<-IM,Lv];have Nc:wa.heap.size=ob+1:=(by rw[IM];simp[Lv]);have RR:Below w0.heap.size w0 wa:=(by rw[IM];exact vS.alloc vS.size _);have UX:wa.heap[ob]? =some (.cells #[.slice none 0 0] 209 (0,0)):=(by rw[IM,<-Lv];exact ab w1 _);have XJ:=vp UX;have Na:=vp RR;clear IM RR UX vS n1 LC;gi_wp2_with (first
   |(refine⟨trivial,?_⟩;refine(callsIn_wide.2 (gJ (addr:Int) (q:Int) wa)).mono ?_;rintro e w2 ⟨rfl,wO⟩)
   |fail)
  have wL:w2.heap.size=ob+3:=(by rw[wO];simp[Nc]);have wb:Below wa.heap.size wa w2:=(by rw[wO];exact vr.alloc (by simp) _);have IE:w2.heap[ob+1]? =some (.cells #[.int .u64 (addr:Int)] 43 (0,0)):=(by rw[wO,<-Nc];exact(vt _ _ _ (by simp)).trans (ab wa _));have UY:w2.heap[ob+2]? =some (.cells #[.int .i64 (q:Int)] 3 (0,0)):=by
   rw[wO];have:=ab (wa.alloc (.cells #[.int .u64 (addr:Int)] 43)) (.cells #[.int .i64 (q:Int)] 3);rw[World.size_alloc,Nc]at this;exact this
  have xF:=vp (Na.out.trans (wb.mono (by have:=Na.out.size;omega)));have Rv:=vp IE;have yy:=vp UY;have BN:=vp ((wb.block _ (by omega)).trans XJ.out);rw[<-wO];clear wO wb IE UY na;refine bI rfl (by omega) (gf:=155) (lb:= #[.pointer (some ⟨ob+1+1,0,none⟩), .pointer (some ⟨ob+1,0,none⟩)]) rfl trivial (enters_of Tryz.func155 (by kernel_rfl) rfl) ?_;rw[wL];intro fn DK rec xG;refine(gK (9-1) (by omega) (ob+3+1) (ob+1+1) (ob+1) (by omega) (addr,q) (by have:=Ov.out.1;simp only at this⊢;omega) (fun k W=>StJ w B c a fs m s t root n cap A rl S F clock p L T hold (.slice Ab q cq) (addr,q) ob k W/\W.heap[ob+3+1]? =some (.loop (rec .ready none)))
   (fun W=>StX w B c a fs m s t root n cap A rl S F clock p L T hold (addr,q) ob W/\W.heap[ob+3+1]? =some (.loop (rec .done (some .ret)))) ?_ ?_ _ ?_).mono ?_
  ·rintro k W ⟨⟨p',L',T',vQ,S',A',vP,d,h1,h2,h3⟩,_⟩;exact h2.pg
  ·rintro k W ⟨hJ,hl⟩ wJ;refine bu trivial xG hl rfl ?_;obtain⟨p1,L1,T1,vX,S1,A1,vR,all1,wB,xN,ym,Cy,yr,Au,xm⟩:=hJ;obtain⟨x,hx⟩: ∃x,x=(pst (addr,q) k).1:=⟨_,rfl⟩;obtain⟨M,hM⟩: ∃M,M=pm (pst (addr,q) k):=⟨_,rfl⟩;rw[<-hx,<-hM];have wC:=lF (addr,q) k wJ;dsimp only at wC;have YV:k<=17:=(by omega);have HX:=vp hx;have HM:=vp hM;have DQ:=vp wB;have Lp:=vp xN;have CN:=vp ym;have yR:=vp Cy;have Ws:=vp xm;have zJ:=vp wJ;have QT:=vp xG;have HL:=vp hl;clear hx hM wB xN ym Cy xm wJ xG hl wC
   gi_wp2
   refine⟨HL.out,?_⟩;obtain⟨W2,wT⟩: ∃W2,W2=W.putObj (ob+3+1) (.loop (rec .busy none)):=⟨_,rfl⟩;rw[<-wT];have wk:Mod (fun b=>b=ob+3+1) W W2:=(by rw[wT];exact az);have wS:W2.heap[ob+3+1]? =some (.loop (rec .busy none)):=(by rw[wT];exact World.putObj_heap_same (vo HL.out).1);have vZ:=DQ.out.set wk (fun b e=> .inl (by omega));have xp:=Lp.out.keep Fa (W':=W2) (fun b h1 h2=>by
    rcases Nat.lt_or_ge b W.heap.size with h3|h3
    ·exact wk.block b h3 (by omega)
    ·rw[Array.getElem?_eq_none h3,Array.getElem?_eq_none];rw[wT,World.putObj_size];exact h3)
   have zw:OwnG 83 3 iu W2 (ob+5) A1 vR all1:=
    CN.out.same fun g hg=>wk.block g ((CN.out.blk g (by rw[hg];rfl)).2) (fun e=>by have:=(CN.out.blk g (by rw[hg];rfl)).1;omega)
   obtain⟨r,yJ,_⟩:=Ov.out.2 k zJ.out;have Gx:Ask F rl r (x/4096):=VV.out.ask (by rw[HX.out];exact yJ);have GV:x+(pst (addr,q) k).2=addr+q:=(by rw[HX.out];exact dl (addr,q) k);have hxb:x<=140737488355328:=(by have:=Ov.out.1;simp only at this;omega);have yV:IntKind.u64.wrap ((x:Int)/4096*4096)=(x:Int)/4096*4096:=(by rw[IntKind.wrap_u64];omega);have Cw:=sown_any B c a fs m s t root n cap (x/4096) A rl r vX ((x:Int)/4096*4096) W2 S1 F p1 L1 T1 hold vZ.home vZ.one yR.out.seen.kept.sp yR.out.seen.kept.own (yR.out.seen.kept.root _ HR.out) Gx (by omega) xn (by omega);have Aj:(Rg.find rl ((((pst (addr,q) k).1/4096:Nat):Int)*4096)).1=r:=(by rw[<-HX.out,Gx.find]);have c0:W2.cell? ⟨w.heap.size,0,none⟩=some (.pointer (some ⟨s,0,none⟩)):=aa xp.b0 0;have YD:ob+5<=W2.heap.size:=(by have:=(vo wS).1;omega);have GU:=vp Cw;have VW:=vp Aj;have wN:=vp vZ;have ye:=vp xp;have DV:=vp zw;have GN:=vp wS;have HXS:=vp GV;clear Cw Aj vZ xp zw wS Gx yJ GV wk wT;gi_upto_region 11 with(first
    |(refine⟨trivial,?_⟩;refine(CallsIn.inRound (ob+3+1) (callsIn_wide.2 GU.out)).mono ?_;rintro e W3 ⟨er,⟨fr,pr,cp⟩,p3,L3,T3,CG,S3,rfl,BY,xW,Db,Bi,yw,Cx⟩;unfold ap)
    |fail)
   obtain⟨W4,EI⟩: ∃W4,W4=W3.alloc (.cells #[.int .i64 (fr:Int), .int .u8 (pr:Int), .bool cp] 83):=⟨_,rfl⟩;rw[<-EI];obtain⟨xg,He⟩:=wN.out.call BY xW Db;have wA:Below W3.heap.size W3 W4:=(by rw[EI];exact vr);have AZ:W4.heap.size=W3.heap.size+1:=(by rw[EI];simp);have Hm:W4.heap[W3.heap.size]? =some (.cells #[.int .i64 (fr:Int), .int .u8 (pr:Int), .bool cp] 83 (0,0)):=(by rw[EI];exact ab W3 _);have yk:=xW.size;have wU:=(xg.below wA).sub (K':=LdK w ob A1) (fun b e=> .inl e);have BA: ∀b,LdK w ob A1 b->W4.heap[b]? =W2.heap[b]? :=fun b hb=>(wA.block b ((wN.out.own b hb).2.2 |> fun h=>by omega)).trans (He b hb);have yC:=ye.out.keep Fa (W':=W4) (fun b h1 h2=>BA b (.inl (by omega)));have Lw:=(BA (ob+3+1) (.inl (by omega))).trans GN.out;have zX:OwnG 83 3 iu W4 (ob+5) A1 vR all1:=DV.out.same fun g hg=>BA g (.inr (by rw[hg];rfl));have xO:=vp wU;have xb:=vp yC;have MP:=vp Lw;have zK:=vp zX;have AY:=vp Hm;have Dx:=vp Cx;have Sw:w.heap.size<W4.heap.size:=(by omega);have wv:ob+5<=W4.heap.size:=(by omega);clear xg He wA Hm wU BA yC Lw zX Cx BY xW Db EI yV c0 AZ yk;have e0:W4.cell? ⟨w.heap.size+1+1,0,none⟩=some (.int .i64 0):=aa xb.out.b2 0;have ef0:=ae xb.out.b2 0;by_cases zR:er=0
   rotate_left
   ·have wg:(er != 0)=true:=(by rw[bne_iff_ne];exact zR);obtain⟨Kq,SU,SS,SR⟩:=yR.out.fail zJ.out VW.out (by rw[<-HX.out];exact Dx.out) zR;subst Kq;have GH:=vp (va.mk SU SS SR);clear SU SS SR zR
    gi_wp2
    have CS:=Jf.out W4 (.int .i64 4);have wj:=xO.out.set CS (fun b e=> .inl (by omega));have Fm:=(CS.block _ (vo MP.out).1 (by omega)).trans MP.out;have xu:=(CS.block _ (vo xb.out.mark).1 (by omega)).trans xb.out.mark;have Ml:(W4.setCell ⟨w.heap.size+1+1,0,none⟩ (.int .i64 4)).heap[w.heap.size+1+1]? =some (.cells #[.int .i64 4] 32 (0,0)):=aU xb.out.b2;refine⟨Fm, .inr ⟨rfl,?_,World.putObj_heap_same (vo Fm).1⟩⟩;have BI:=az (l:=ob+3+1) (o:= .loop (rec .done (some .ret))) (W:=W4.setCell ⟨w.heap.size+1+1,0,none⟩ (.int .i64 4));have xK:=wj.set BI (fun b e=> .inl (by omega));have By: ∀ {b:Nat} {o:Obj},(W4.setCell ⟨w.heap.size+1+1,0,none⟩ (.int .i64 4)).heap[b]? =some o->b≠ob+3+1->((W4.setCell ⟨w.heap.size+1+1,0,none⟩ (.int .i64 4)).putObj (ob+3+1) (.loop (rec .done (some .ret)))).heap[b]? =some o:=fun h1 h2=>(BI.block _ (vo h1).1 h2).trans h1;exact⟨p3,L3,T3,CG,S3,xK.sub (fun b e=>e.elim .inl (fun e=>by cases e)),by omega,by omega,GH.out,By xu (by omega),By Ml (by omega)⟩
   subst zR;have hOW:=Dx.out.got rfl;have Bw:k=all1.length:=yR.out.len.symm;have Wm:=vp Bw;have HOW:=vp hOW;obtain⟨⟨x0,x1,x2⟩,_,_⟩:=box3 AY.out;have o4:W4.cell? ⟨ob,0,none⟩=some (.slice A1 k vR):=aa xb.out.out 0;have Pt:ob<W4.heap.size:=(by omega);clear hOW Bw;gi_upto_region 13 with(fail);gi_wp2_with (gi_at_builtin;refine uO nr rfl (.tmp 48) (.tmp 50) rfl (ob+5) A1 vR k all1 Wm.out rfl (zK.out.alloc _) ⟨fr,pr,cp⟩ W4.heap.size 1 rfl (ab W4 _) (by omega) (by simp;omega) ?_;intro g Bl W6 Cm EH Dj Bf;have Dm:=((cw EH).block ob (by simp;omega) (fun e=>by have:=(zK.out.blk ob e).1;omega)).trans ((vt _ _ _ Pt).trans xb.out.out);have o6:=aa Dm 0;have of6:=ae Dm 0);obtain⟨W7,FB⟩: ∃W7,W7=W6.setCell ⟨ob,0,none⟩ (.slice (some ⟨g,0,none⟩) (k+1) Bl):=⟨_,rfl⟩;rw[<-FB];have xw:Mod (fun b=>b=ob) W6 W7:=(by rw[FB];exact aj (S:=fun b=>b=ob) rfl 0 _);have DM:W7.heap[ob]? =some (.cells #[.slice (some ⟨g,0,none⟩) (k+1) Bl] 209 (0,0)):=(by rw[FB];exact aU Dm);obtain⟨W5,Hn⟩: ∃W5,W5=W4.alloc (.cells #[.int .i64 (fr:Int), .int .u8 (pr:Int), .bool cp] 83):=⟨_,rfl⟩;rw[<-Hn]at EH;have UK:Below W4.heap.size W4 W5:=(by rw[Hn];exact vr);have Jm:W5.heap.size=W4.heap.size+1:=(by rw[Hn];simp);have UO:A1.map (·.block)=some g\/g=W5.heap.size:=(by rw[Hn];exact Dj);have OP:=(cw EH).size;have BU: ∀b,w.heap.size<=b->b<ob+5->W6.heap[b]? =W4.heap[b]? :=fun b h1 h2=>((cw EH).block b (by omega) (fun e=>by have:=(zK.out.blk b e).1;omega)).trans (UK.block b (by omega));have zC: ∀b,w.heap.size<=b->b<ob+5->b≠ob->W7.heap[b]? =W4.heap[b]? :=fun b h1 h2 h3=>(xw.block b (by omega) h3).trans (BU b h1 h2);have IT:=(zC (ob+3+1) (by omega) (by omega) (by omega)).trans MP.out;have BI:=az (l:=ob+3+1) (o:= .loop (rec .ready none)) (W:=W7);have zB: ∀ {b:Nat} {o:Obj},W7.heap[b]? =some o->b≠ob+3+1->(W7.putObj (ob+3+1) (.loop (rec .ready none))).heap[b]? =some o:=fun h1 h2=>(BI.block _ (vo h1).1 h2).trans h1;have JP:PgSt (W7.putObj (ob+3+1) (.loop (rec .ready none))) (ob+2) (ob+1) (pst (addr,q) k):=⟨zB ((zC _ (by omega) (by omega) (by omega)).trans xb.out.pg.n) (by omega),zB ((zC _ (by omega) (by omega) (by omega)).trans xb.out.pg.a) (by omega)⟩;obtain⟨Ed,zy⟩:=gE JP (by omega) (pst (addr,q) (k+1));have Bz: ∀ {b:Nat} {o:Obj},W7.heap[b]? =some o->b≠ob+3+1->b≠ob+1->b≠ob+2->(cv (W7.putObj (ob+3+1) (.loop (rec .ready none))) (ob+2) (ob+1) (pst (addr,q) (k+1))).heap[b]? =some o:=fun h1 h2 h3 h4=>(zy.block _ (vo (zB h1 h2)).1 (by omega)).trans (zB h1 h2);have DE:=((((((xO.out.below UK).grow (cw EH) (fun b e=> .inl (.inr e))).sub (K':=LdK w ob (some ⟨g,0,none⟩)) (fun b e=>by
    rcases e with e|e
    ·exact .inl (.inl (.inl e))
    ·have e2:b=g:=(by simpa using e.symm);subst e2;rcases UO with h9|h9
     ·exact .inl (.inl (.inr h9))
     ·exact .inr ⟨by omega,Bf⟩)).set xw (fun b e=> .inl (by omega))).set BI (fun b e=> .inl (by omega))).set zy (fun b e=> .inl (by omega)))
   have EF:ob+5<=g:=(by rcases UO with h9|h9;exact(zK.out.blk g h9).1;omega);have Cj:OwnG 83 3 iu (cv (W7.putObj (ob+3+1) (.loop (rec .ready none))) (ob+2) (ob+1) (pst (addr,q) (k+1))) (ob+5) (some ⟨g,0,none⟩) Bl (all1++[⟨fr,pr,cp⟩]):=by
    refine Cm.same fun g' Iu=>?_;injection Iu with Iu;injection Iu with Iu;subst Iu;exact((zy.block g (by have h1:=BI.size;have h2:=xw.size;exact vw Bf (vM h2 h1)) (by omega)).trans (BI.block g (by have h2:=xw.size;omega) (by omega))).trans (xw.block g Bf (by omega))
   have Mq:=yR.out.step zJ.out VW.out (by rw[<-HX.out];exact Dx.out);refine⟨IT, .inl ⟨rfl,JP,⟨p3,L3,T3,CG,S3,some ⟨g,0,none⟩,Bl,_,DE,⟨Ed,Bz ((zC _ (by omega) (by omega) (by omega)).trans xb.out.mark) (by omega) (by omega) (by omega),Bz ((zC _ (by omega) (by omega) (by omega)).trans xb.out.b0) (by omega) (by omega) (by omega),Bz ((zC _ (by omega) (by omega) (by omega)).trans xb.out.b1) (by omega) (by omega) (by omega),Bz ((zC _ (by omega) (by omega) (by omega)).trans xb.out.b2) (by omega) (by omega) (by omega),Bz DM (by omega) (by omega) (by omega)⟩,Cj,Mq,by omega,by omega,fun j hj=>(by rcases Nat.lt_or_ge j k with h9|h9;exact Ws.out j h9;obtain rfl:j=k:=(by omega);exact zJ.out)⟩,?_⟩⟩;have JZ:=(vo IT).1;exact(zy.block _ (by rw[World.putObj_size];exact JZ) (by omega)).trans (World.putObj_heap_same JZ)
  ·have wA:Below w2.heap.size w2 ((w2.alloc (.deferred (some []))).alloc (.loop (rec .ready none))):=vr.alloc (by simp) _;have xP:=((yQ.out.below xF.out).below wA).sub (K':=LdK w ob none) (fun b e=>by
    rcases e with e|e
    ·rcases Nat.lt_or_ge b w0.heap.size with h1|h1
     ·exact .inl (.inl (.inr ⟨e.1,h1⟩))
     ·rcases Nat.lt_or_ge b w2.heap.size with h2|h2
      ·exact .inl (.inr ⟨h1,h2⟩)
      ·exact .inr ⟨h2,by simp[wL];omega⟩
    ·cases e)
   have yG: ∀ {b:Nat} {o:Obj},w2.heap[b]? =some o->((w2.alloc (.deferred (some []))).alloc (.loop (rec .ready none))).heap[b]? =some o:=fun h1=>(bX (vo h1).1).trans h1;have zc: ∀ {b:Nat} {o:Obj},w0.heap[b]? =some o->((w2.alloc (.deferred (some []))).alloc (.loop (rec .ready none))).heap[b]? =some o:=fun h1=>yG ((xF.out.block _ (vo h1).1).trans h1);refine⟨⟨p,L,T,clock,S,none,0,[],xP,⟨⟨yG yy.out,yG Rv.out⟩,?_,zc zI.out,zc OA.out,zc WH.out,yG BN.out⟩,OwnG.nil _ _,Owns.start yP.out zl.out,Int.le_refl _,by omega,fun j hj=>absurd hj (by omega)⟩,?_⟩
   ·have:=ab w2 (.deferred (some []));rw[wL]at this;exact(vt _ _ _ (by simp[wL])).trans this
   ·have:=ab (w2.alloc (.deferred (some []))) (.loop (rec .ready none))
    rwa [World.size_alloc,wL]at this
  ·rintro e W ⟨hv,⟨k,zc,⟨p1,L1,T1,vX,S1,A1,vR,all1,wB,xN,ym,Cy,yr,Au,xm⟩,hl⟩|⟨⟨p1,L1,T1,vX,S1,wB,yr,Au,yg,Ff,he⟩,hl⟩⟩
   rotate_left
   ·refine⟨hv, .inr ⟨_,hl,?_⟩⟩;obtain⟨W2,wT⟩: ∃W2,W2=W.putObj (ob+3+1) (.loop (rec .exhausted (some .ret))):=⟨_,rfl⟩;rw[<-wT];have wk:Mod (fun b=>b=ob+3+1) W W2:=(by rw[wT];exact az);have vZ:=wB.set wk (fun b e=> .inl (by omega));have ya: ∀ {b:Nat} {o:Obj},W.heap[b]? =some o->b≠ob+3+1->W2.heap[b]? =some o:=fun h1 h2=>(wk.block _ (vo h1).1 h2).trans h1;have LD:=ya he (by omega);have BX:=ya Ff (by omega);have wN:=vp vZ;have OK:=vp LD;have Cb:=vp BX;have II:=vp yg;clear wT wk vZ ya LD BX wB yg Ff he hl hv;unfold dp
    gi_wp2
    refine⟨by simp, .inl ⟨_,_,rfl,run_takeDeferred Cb.out,?_⟩⟩;have Cn:=az (l:=ob+3) (o:= .deferred none) (W:=W2);have wj:=wN.out.set Cn (fun b e=> .inl (by omega));have Ml:=(Cn.block _ (vo OK.out).1 (by omega)).trans OK.out;have c2:=aa Ml 0;refine⟨.int .i64 4,by simp[results,Tryz.results71,go_sem,c2],?_⟩;exact⟨4,p1,L1,T1,vX,S1,rfl,wj.home.cache,wj.mod,wj.out,yr,Au, .inr (.inr (.inl ⟨Lu,MI.out,rfl,II.out⟩))⟩
   ·refine⟨hv, .inl ⟨hl,?_⟩⟩;obtain⟨W2,wT⟩: ∃W2,W2=W.putObj (ob+3+1) (.loop (rec .exhausted none)):=⟨_,rfl⟩;rw[<-wT];have YU:k<=32:=by
     rcases k with _ |k
     ·omega
     ·have:=lF (addr,q) k (xm k (by omega));dsimp only at this;omega
    have wk:Mod (fun b=>b=ob+3+1) W W2:=(by rw[wT];exact az);have vZ:=wB.set wk (fun b e=> .inl (by omega));have ya: ∀ {b:Nat} {o:Obj},W.heap[b]? =some o->b≠ob+3+1->W2.heap[b]? =some o:=fun h1 h2=>(wk.block _ (vo h1).1 h2).trans h1;have xp:uY w W2 s ob (.slice Ab q cq) (addr,q) k k A1 vR:=⟨⟨ya xN.pg.n (by omega),ya xN.pg.a (by omega)⟩,ya xN.mark (by omega),ya xN.b0 (by omega),ya xN.b1 (by omega),ya xN.b2 (by omega),ya xN.out (by omega)⟩;have zw:OwnG 83 3 iu W2 (ob+5) A1 vR all1:=ym.same fun g hg=>wk.block g ((ym.blk g (by rw[hg];rfl)).2) (fun e=>by have:=(ym.blk g (by rw[hg];rfl)).1;omega);have wN:=vp vZ;have ye:=vp xp;have DV:=vp zw;have yR:=vp Cy;have Sm:=vp zc;have QT:=vp xG;have HZW2:=vp wL;have n2: ∀o,(W2.alloc o).cell? ⟨w.heap.size+1,0,none⟩=some (.slice Ab q cq):=fun o=>aa ((vt _ _ _ (vo xp.b1).1).trans xp.b1) 0;clear wT wk vZ ya xp zw wB xN ym Cy xm hl hv zc xG n0 s0 e0 ef0 wL;unfold dp;gi_upto_region 15 with(fail);obtain⟨kb,Ir⟩: ∃kb,W2.heap.size=kb:=⟨_,rfl⟩;obtain⟨V,hV⟩: ∃V,V=W2.alloc (.cells #[.int .i64 0] 3):=⟨_,rfl⟩;have nV:=n2 (.cells #[.int .i64 0] 3);rw[<-hV]at nV;rw[<-hV,Ir];have Xf:V.heap.size=kb+1:=(by rw[hV];simp[Ir]);have hbV:Below W2.heap.size W2 V:=(by rw[hV];exact vr);have hKV:V.heap[kb]? =some (.cells #[.int .i64 0] 3 (0,0)):=(by rw[hV,<-Ir];exact ab W2 _);have hobk:ob+5<=kb:=(by rw[<-Ir];have:=(wN.out.own (ob+4) (.inl (by omega))).2.2;omega);have HKV:=vp hKV;have XO:=vp hbV;have HKB:=vp Ir;clear hV hKV hbV n2 Ir;gi_wp2_with (first
     |(refine⟨trivial,?_⟩;refine(callsIn_wide.2 (gJ (addr:Int) (q:Int) V)).mono ?_;rintro e W3 ⟨rfl,Bj⟩)
     |fail)
    have yk:W3.heap.size=kb+3:=(by rw[Bj];simp[Xf]);have wG:Below V.heap.size V W3:=(by rw[Bj];exact vr.alloc (by simp) _);have KP:W3.heap[kb+1]? =some (.cells #[.int .u64 (addr:Int)] 43 (0,0)):=(by rw[Bj,<-Xf];exact(vt _ _ _ (by simp)).trans (ab V _));have hN3:W3.heap[kb+2]? =some (.cells #[.int .i64 (q:Int)] 3 (0,0)):=by
     rw[Bj];have:=ab (V.alloc (.cells #[.int .u64 (addr:Int)] 43)) (.cells #[.int .i64 (q:Int)] 3);rw[World.size_alloc,Xf]at this;exact this
    have zm:=vp (XO.out.trans (wG.mono (by have:=XO.out.size;omega)));have Ru:=vp KP;have LI:=vp hN3;have Lh:=vp ((wG.block _ (by omega)).trans HKV.out);rw[<-Bj];clear Bj wG KP hN3 nV Xf;refine bI rfl (by omega) (gf:=155) (lb:= #[.pointer (some ⟨kb+1+1,0,none⟩), .pointer (some ⟨kb+1,0,none⟩)]) rfl trivial (enters_of Tryz.func155 (by kernel_rfl) rfl) ?_;rw[yk];intro fn2 hfn2 rec2 JK;refine(gK (9-1) (by omega) (kb+3+1) (kb+1+1) (kb+1) (by omega) (addr,q) (by have:=Ov.out.1;simp only at this⊢;omega) (fun j W=>StJ2 w B c a fs m s t root n cap A rl S S1 F vX p1 L1 T1 hold d (addr,q) ob kb A1 vR all1 j W/\W.heap[kb+3+1]? =some (.loop (rec2 .ready none)))
     (fun W=>False) ?_ ?_ _ ?_).mono ?_
    ·rintro j W ⟨⟨p',Z,cz,h1,h2,h3⟩,_⟩;exact h2.pg
    ·rintro j W ⟨hJ,hl⟩ wJ;refine bu trivial JK hl rfl ?_;obtain⟨p4,Z,cz,wU,yC,zX,DI,Kx,Xu,PY⟩:=hJ;obtain⟨x,hx⟩: ∃x,x=(pst (addr,q) j).1:=⟨_,rfl⟩;obtain⟨M,hM⟩: ∃M,M=pm (pst (addr,q) j):=⟨_,rfl⟩;obtain⟨R,hR⟩: ∃R,R=(pst (addr,q) j).2:=⟨_,rfl⟩;rw[<-hx,<-hM];rw[<-hR]at yC Kx PY;have zP:j<all1.length:=by
      rw[yR.out.len];rcases Nat.lt_or_ge j k with h9|h9
      ·exact h9
      ·have:=gD Sm.out (j-k);rw[show k+(j-k)=j by omega]at this;omega
     obtain⟨lf,wV⟩: ∃lf,all1[j]? =some lf:=⟨_,vv zP⟩;obtain⟨IN,EC⟩:=yR.out.there j lf wV;rw[<-hx]at IN;have hM0:0<M:=(by rw[hM];exact tx wJ);have hMR:M<=R:=(by rw[hM,hR];exact pm_le _);have BX:M<=4096-x % 4096:=(by rw[hM,hx];exact Nat.min_le_right _ _);have HX:=vp hx;have HM:=vp hM;have HRR:=vp hR;have xO:=vp wU;have xb:=vp yC;have zK:=vp zX;have Lg:=vp DI;have Rq:=vp Kx;have VD:=vp Xu;have Jh:=vp wV;have zG:=vp IN;have Sg:=vp EC;have zJ:=vp wJ;have HL:=vp hl;clear hx hM hR wU yC zX DI Kx Xu wV IN EC wJ JK hl
     gi_wp2
     refine⟨HL.out,?_⟩;obtain⟨W5,Hn⟩: ∃W5,W5=W.putObj (kb+3+1) (.loop (rec2 .busy none)):=⟨_,rfl⟩;rw[<-Hn];have xu:Mod (fun b=>b=kb+3+1) W W5:=(by rw[Hn];exact az);have Fm:W5.heap[kb+3+1]? =some (.loop (rec2 .busy none)):=(by rw[Hn];exact World.putObj_heap_same (vo HL.out).1);have wj:=xO.out.set xu (fun b e=> .inr (by omega));have zD:=xb.out.keep Fa (W':=W5) (fun b h1=>by
      rcases Nat.lt_or_ge b W.heap.size with h3|h3
      ·exact xu.block b h3 (by omega)
      ·rw[Array.getElem?_eq_none h3,Array.getElem?_eq_none];rw[Hn,World.putObj_size];exact h3)
     rcases zK.out.form with⟨_,h0,_⟩|⟨gA,Uj,_⟩
     ·rw[h0]at zP;cases zP
     subst Uj;obtain⟨fr,pr,cp⟩:=lf;have xY:cp=false:=Sg.out;subst xY;have Bu:OwnG 83 3 iu W5 (ob+5) (some ⟨gA,0,none⟩) vR all1:=zK.out.same fun g hg=>xu.block g ((zK.out.blk g (by rw[hg];rfl)).2) (fun e=>(xO.out.own g (.inl (.inr (by rw[hg];rfl)))).2.2 |> fun _ =>by
      subst e;have h9:=HL.out;rcases zK.out.2 with⟨h8,_⟩|⟨g',vP,cur,h7,_,h6,_⟩
      ·cases h8
      ·injection h7 with h7;injection hg with hg;injection h7 with h7;injection h7 with h7;injection hg with hg;rw[<-h7,hg,h9]at h6;cases h6)
     have c0:W5.cell? ⟨w.heap.size,0,none⟩=some (.pointer (some ⟨s,0,none⟩)):=aa zD.b0 0;have s1:W5.cell? ⟨s,1,none⟩=some (.pointer (some ⟨a,0,none⟩)):=aa wj.one.self 1;have ox:W5.cell? ⟨ob,0,none⟩=some (.slice (some ⟨gA,0,none⟩) all1.length vR):=aa zD.out 0;have kx:W5.cell? ⟨kb,0,none⟩=some (.int .i64 (j:Int)):=aa zD.num 0;have bx:W5.cell? ⟨w.heap.size+1,0,none⟩=some (.slice Z R cz):=aa zD.b1 0;have lx:W5.cell? ⟨gA,j*3,none⟩=some (.int .i64 (fr:Int)):=Bu.cell nr Jh.out 0 (by decide);have Ei:(0:Int)<=(j:Int):=(by omega);have xm:(j:Int)<(all1.length:Int):=(by omega);have hMz:M<=cz:=(by omega);have hMz2:(M:Int)<=(cz:Int):=(by omega);have hM0':(0:Int)<=(M:Int):=(by omega);obtain⟨u,hu⟩: ∃u:Int,(x:Int) % 4096=u:=⟨_,rfl⟩;have RB:((x % 4096:Nat):Int)=u:=(by omega);have Yo:(x:Int).tmod 4096=u:=(by rw[Int.tmod_eq_emod_of_nonneg (by omega),hu]);have Ye:IntKind.i64.wrap u=u:=(by rw[IntKind.wrap_i64];omega);have TI:Tryz.prog.follows .mixedOrders=true:=(by kernel_rfl);have HU2:=vp RB;have AT:=vp wj;have AU:=vp zD;have DT:=vp Bu;have HL5:=vp Fm;clear wj zD Bu Fm xu Hn RB;gi_upto_region 18 with(fail);refine bO (fun w'=>w'.cell? ⟨w.heap.size,0,none⟩=some (.pointer (some ⟨s,0,none⟩))/\w'.cell? ⟨s,1,none⟩=some (.pointer (some ⟨a,0,none⟩))/\w'.cell? ⟨ob,0,none⟩=some (.slice (some ⟨gA,0,none⟩) all1.length vR)/\w'.cell? ⟨kb,0,none⟩=some (.int .i64 (j:Int))/\w'.cell? ⟨w.heap.size+1,0,none⟩=some (.slice Z R cz)/\w'.cell? ⟨gA,j*3,none⟩=some (.int .i64 (fr:Int))) 15 (by kernel_rfl) (by kernel_rfl) (cU.of 14 (by kernel_rfl) (by kernel_rfl)) ⟨c0,s1,ox,kx,bx,lx⟩ ?_;intro QZ Ca;refine zt 0 ?_;refine zt 1 ?_;refine zt 2 ?_;refine zt 3 ?_;refine zt 4 ?_;refine zt 5 ?_;refine zt 6 ?_;refine zt 7 ?_;refine zt 8 ?_;refine zt 9 ?_;refine zt 10 ?_;refine zt 11 ?_;refine zt 12 ?_;refine zt 13 ?_;refine zt 14 ?_;refine aZ 15 (by kernel_rfl) rfl rfl (fun K' hK=>?_)
     go_simp
     obtain⟨v1,v2,v3,v4,v5,v6⟩:=Lg.out.sp.leaf zG.out;dsimp only at v2 v3 v4 v5 v6;have xX:=gx a fr (x % 4096) M cz Z (fun i=>d (x-addr+i)) W5.drew S1 p4 AT.out.home.cache.pool.drew v3 v4 (by omega) BX (((by have h9:=Rq.out;rw[<-HX.out]at h9;exact h9:av w Z R (fun i=>d (x-addr+i))).head hMR).run (AT.out.mod.trans (Out.refl _ _) (Mod.of ((vO _ _).drew))) VD.out) (fun i=>HD.out _);rw[HU2.out]at xX;have Eu:=vp xX;clear xX v1 v2 v5 v6;refine(Eu.out).mono ?_;rintro e W6 ⟨rfl,Dl,Fh⟩;have zO:=Fh.undrew;obtain⟨xK,BU⟩:=AT.out.pool Dl zO;go_wp2_with fail;refine hK.out _ _ ?_;clear hK K';refine ba (by kernel_rfl) ?_ _;refine aR ?_;have wR:=AU.out.keep Fa (W':=W6) (fun b h1=>BU b (h1.elim (fun h=> .inl (.inl (by omega))) (fun h=> .inr (by omega))));have yU:=(BU (kb+3+1) (.inr (by omega))).trans HL5.out;have Ck:OwnG 83 3 iu W6 (ob+5) (some ⟨gA,0,none⟩) vR all1:=DT.out.same fun g hg=>BU g (.inl (.inr (by rw[hg];rfl)));have bx6:W6.cell? ⟨w.heap.size+1,0,none⟩=some (.slice Z R cz):=aa wR.b1 0;have bf6:=ae wR.b1 0;have hbl6:w.heap.size+1<W6.heap.size:=(vo wR.b1).1;have hne1:w.heap.size+1≠kb:=(by omega);obtain⟨Z2,hZ2⟩: ∃Z2,Z2=if cz=M then Z else Z.map (·.add M):=⟨_,rfl⟩
     have kx6:(W6.setCell ⟨w.heap.size+1,0,none⟩ (.slice Z2 (R-M) (cz-M))).cell? ⟨kb,0,none⟩=some (.int .i64 (j:Int)):=aa (((aj (S:=fun b=>b=w.heap.size+1) rfl 0 _).block _ (vo wR.num).1 (by omega)).trans wR.num) 0;have kf6:=ae (((aj (S:=fun b=>b=w.heap.size+1) (w:=W6) rfl 0 (.slice Z2 (R-M) (cz-M))).block _ (vo wR.num).1 (by omega)).trans wR.num) 0;have hwj:IntKind.i64.wrap ((j:Int)+1)=(j:Int)+1:=(by rw[IntKind.wrap_i64];have:=yR.out.len;omega);have Oq:=vp xK;have xh:=vp wR;have Sl:=vp yU;have CL:=vp Ck;have HZ2:=vp hZ2;clear xK wR yU Ck BU zO Fh Dl c0 s1 ox kx bx lx hu Yo Ye Ca hZ2;by_cases Qe:cz=M
     ·have Qn:Z2=Z:=(by rw[HZ2.out,if_pos Qe]);gi_upto_region 20 with(fail);rw[show Value.slice Z (R-M) 0= .slice Z2 (R-M) (cz-M) by rw[Qn,Qe,Nat.sub_self]];have HC:=vp Qn;have HCM:=vp Qe;clear Qe Qn;obtain⟨W7,FB⟩: ∃W7,W7=W6.setCell ⟨w.heap.size+1,0,none⟩ (.slice Z2 (R-M) (cz-M)):=⟨_,rfl⟩;rw[<-FB]at kx6 kf6⊢;have xw:Mod (fun b=>b=w.heap.size+1) W6 W7:=(by rw[FB];exact aj (S:=fun b=>b=w.heap.size+1) rfl 0 _);have Vt:W7.heap[w.heap.size+1]? =some (.cells #[.slice Z2 (R-M) (cz-M)] 39 (0,0)):=(by rw[FB];exact aU xh.out.b1);have IL:=vp xw;have Jl:=vp Vt;clear FB xw Vt
      gi_wp2
      obtain⟨W8,Qp⟩: ∃W8,W8=W7.setCell ⟨kb,0,none⟩ (.int .i64 ((j:Int)+1)):=⟨_,rfl⟩;rw[<-Qp];have zb:Mod (fun b=>b=kb) W7 W8:=(by rw[Qp];exact aj (S:=fun b=>b=kb) rfl 0 _);have Ja:W7.heap[kb]? =some (.cells #[.int .i64 (j:Int)] 3 (0,0)):=(IL.out.block _ (vo xh.out.num).1 (by omega)).trans xh.out.num;have ZS:W8.heap[kb]? =some (.cells #[.int .i64 ((j+1:Nat):Int)] 3 (0,0)):=(by rw[Qp];exact aU Ja);have zC: ∀ {b:Nat} {o:Obj},W6.heap[b]? =some o->b≠w.heap.size+1->W7.heap[b]? =some o:=fun h1 h2=>(IL.out.block _ (vo h1).1 h2).trans h1;have zB: ∀ {b:Nat} {o:Obj},W7.heap[b]? =some o->b≠kb->W8.heap[b]? =some o:=fun h1 h2=>(zb.block _ (vo h1).1 h2).trans h1;have NI:=zB (zC Sl.out (by omega)) (by omega);have BI:=az (l:=kb+3+1) (o:= .loop (rec2 .ready none)) (W:=W8);have Bz: ∀ {b:Nat} {o:Obj},W8.heap[b]? =some o->b≠kb+3+1->(W8.putObj (kb+3+1) (.loop (rec2 .ready none))).heap[b]? =some o:=fun h1 h2=>(BI.block _ (vo h1).1 h2).trans h1;have Ed:PgSt (W8.putObj (kb+3+1) (.loop (rec2 .ready none))) (kb+2) (kb+1) (pst (addr,q) j):=⟨Bz (zB (zC xh.out.pg.n (by omega)) (by omega)) (by omega),Bz (zB (zC xh.out.pg.a (by omega)) (by omega)) (by omega)⟩;obtain⟨JQ,yn⟩:=gE Ed (by omega) (pst (addr,q) (j+1));have Fp: ∀ {b:Nat} {o:Obj},W8.heap[b]? =some o->b≠kb+3+1->b≠kb+1->b≠kb+2->(cv (W8.putObj (kb+3+1) (.loop (rec2 .ready none))) (kb+2) (kb+1) (pst (addr,q) (j+1))).heap[b]? =some o:=fun h1 h2 h3 h4=>(yn.block _ (vo (Bz h1 h2)).1 (by omega)).trans (Bz h1 h2);have zM:(pst (addr,q) (j+1)).1=x+M:=(by rw[HX.out,HM.out];rfl);have Ec:(pst (addr,q) (j+1)).2=R-M:=(by rw[HRR.out,HM.out];rfl);have hxa:addr<=x:=(by have:=pQ (addr,q) j;have:=dl (addr,q) j;rw[HX.out];dsimp only at *;omega);have Bq:=((((Oq.out.set IL.out (fun b e=> .inl (.inl (by omega)))).set zb (fun b e=> .inr (by omega))).set BI (fun b e=> .inr (by omega))).set yn (fun b e=> .inr (by omega)));have JS:OwnG 83 3 iu (cv (W8.putObj (kb+3+1) (.loop (rec2 .ready none))) (kb+2) (kb+1) (pst (addr,q) (j+1))) (ob+5) (some ⟨gA,0,none⟩) vR all1:=CL.out.same fun g hg=>by
       injection hg with hg;injection hg with hg;subst hg;rcases CL.out.2 with⟨h8,_⟩|⟨g',vP,cur,h7,h70,h6,_⟩
       ·cases h8
       ·injection h7 with h7;injection h7 with h7;injection h7 with h7;subst h7;have Im:gA≠kb:=fun e=>by rw[e,xh.out.num]at h6;injection h6 with h6;injection h6 with _ h6;cases h6
        have Gn:gA≠kb+1:=fun e=>by rw[e,xh.out.pg.a]at h6;injection h6 with h6;injection h6 with _ h6;cases h6
        have YI:gA≠kb+2:=fun e=>by rw[e,xh.out.pg.n]at h6;injection h6 with h6;injection h6 with _ h6;cases h6
        have Fe:gA≠kb+3+1:=fun e=>by rw[e,Sl.out]at h6;cases h6
        rw[h6];exact Fp (zB (zC h6 (by omega)) Im) Fe Gn YI
      have Fl:=Lg.out.step zJ.out (by rw[<-HX.out];exact zG.out) rfl (e:=fun i=>d (x-addr+i)) (fun i hi=>by rw[<-HX.out]);rw[<-HX.out,<-HM.out]at Fl;refine⟨NI,rfl,Ed,⟨_,Z2,cz-M,Bq,⟨JQ,Fp (zB (zC xh.out.mark (by omega)) (by omega)) (by omega) (by omega) (by omega),Fp (zB (zC xh.out.mark2 (by omega)) (by omega)) (by omega) (by omega) (by omega),Fp (zB (zC xh.out.b0 (by omega)) (by omega)) (by omega) (by omega) (by omega),?_,Fp (zB (zC xh.out.b2 (by omega)) (by omega)) (by omega) (by omega) (by omega),Fp (zB (zC xh.out.out (by omega)) (by omega)) (by omega) (by omega) (by omega),Fp ZS (by omega) (by omega) (by omega)⟩,JS,Fl,?_,?_,?_⟩,?_⟩
      ·rw[Ec];exact Fp (zB Jl.out (by omega)) (by omega) (by omega) (by omega)
      ·rw[Ec,zM,HC.out];intro h0
       first
       |(
         have h9:=(Rq.out.cut M) h0;obtain⟨ad,h1,h2⟩:=h9;exact⟨ad,h1,fun i hi=>(h2 i hi).trans (by show some (Value.int .u8 ((d ((pst (addr,q) j).1-(addr,q).1+(M+i)):Nat):Int))=_;rw[<-HX.out,show x-(addr,q).1+(M+i)=x+M-(addr,q).1+i by(dsimp only;omega)])⟩)
       |(exfalso;have:=HCM.out;omega)
      ·rw[HC.out];intro ad hA
       first
       |exact VD.out ad hA
       |(
         cases Z with
         |none=>cases hA
         |some z=>
          injection hA with hA;subst hA;rw[Addr.add_blk];exact VD.out z rfl)
      ·rw[Ec];omega
      ·have Iq:=(vo NI).1;exact(yn.block _ (by rw[World.putObj_size];exact Iq) (by omega)).trans (World.putObj_heap_same Iq)
     ·have Qn:Z2=Z.map (·.add M):=(by rw[HZ2.out,if_neg Qe]);gi_upto_region 20 with(fail);rw[show Value.slice (Option.map (fun x=>x.add M) Z) (R-M) (cz-M)= .slice Z2 (R-M) (cz-M) by rw[Qn]];have HC:=vp Qn;have HCM:=vp Qe;clear Qe Qn;obtain⟨W7,FB⟩: ∃W7,W7=W6.setCell ⟨w.heap.size+1,0,none⟩ (.slice Z2 (R-M) (cz-M)):=⟨_,rfl⟩;rw[<-FB]at kx6 kf6⊢;have xw:Mod (fun b=>b=w.heap.size+1) W6 W7:=(by rw[FB];exact aj (S:=fun b=>b=w.heap.size+1) rfl 0 _);have Vt:W7.heap[w.heap.size+1]? =some (.cells #[.slice Z2 (R-M) (cz-M)] 39 (0,0)):=(by rw[FB];exact aU xh.out.b1);have IL:=vp xw;have Jl:=vp Vt;clear FB xw Vt
      gi_wp2
      obtain⟨W8,Qp⟩: ∃W8,W8=W7.setCell ⟨kb,0,none⟩ (.int .i64 ((j:Int)+1)):=⟨_,rfl⟩;rw[<-Qp];have zb:Mod (fun b=>b=kb) W7 W8:=(by rw[Qp];exact aj (S:=fun b=>b=kb) rfl 0 _);have Ja:W7.heap[kb]? =some (.cells #[.int .i64 (j:Int)] 3 (0,0)):=(IL.out.block _ (vo xh.out.num).1 (by omega)).trans xh.out.num;have ZS:W8.heap[kb]? =some (.cells #[.int .i64 ((j+1:Nat):Int)] 3 (0,0)):=(by rw[Qp];exact aU Ja);have zC: ∀ {b:Nat} {o:Obj},W6.heap[b]? =some o->b≠w.heap.size+1->W7.heap[b]? =some o:=fun h1 h2=>(IL.out.block _ (vo h1).1 h2).trans h1;have zB: ∀ {b:Nat} {o:Obj},W7.heap[b]? =some o->b≠kb->W8.heap[b]? =some o:=fun h1 h2=>(zb.block _ (vo h1).1 h2).trans h1;have NI:=zB (zC Sl.out (by omega)) (by omega);have BI:=az (l:=kb+3+1) (o:= .loop (rec2 .ready none)) (W:=W8);have Bz: ∀ {b:Nat} {o:Obj},W8.heap[b]? =some o->b≠kb+3+1->(W8.putObj (kb+3+1) (.loop (rec2 .ready none))).heap[b]? =some o:=fun h1 h2=>(BI.block _ (vo h1).1 h2).trans h1;have Ed:PgSt (W8.putObj (kb+3+1) (.loop (rec2 .ready none))) (kb+2) (kb+1) (pst (addr,q) j):=⟨Bz (zB (zC xh.out.pg.n (by omega)) (by omega)) (by omega),Bz (zB (zC xh.out.pg.a (by omega)) (by omega)) (by omega)⟩;obtain⟨JQ,yn⟩:=gE Ed (by omega) (pst (addr,q) (j+1));have Fp: ∀ {b:Nat} {o:Obj},W8.heap[b]? =some o->b≠kb+3+1->b≠kb+1->b≠kb+2->(cv (W8.putObj (kb+3+1) (.loop (rec2 .ready none))) (kb+2) (kb+1) (pst (addr,q) (j+1))).heap[b]? =some o:=fun h1 h2 h3 h4=>(yn.block _ (vo (Bz h1 h2)).1 (by omega)).trans (Bz h1 h2);have zM:(pst (addr,q) (j+1)).1=x+M:=(by rw[HX.out,HM.out];rfl);have Ec:(pst (addr,q) (j+1)).2=R-M:=(by rw[HRR.out,HM.out];rfl);have hxa:addr<=x:=(by have:=pQ (addr,q) j;have:=dl (addr,q) j;rw[HX.out];dsimp only at *;omega);have Bq:=((((Oq.out.set IL.out (fun b e=> .inl (.inl (by omega)))).set zb (fun b e=> .inr (by omega))).set BI (fun b e=> .inr (by omega))).set yn (fun b e=> .inr (by omega)));have JS:OwnG 83 3 iu (cv (W8.putObj (kb+3+1) (.loop (rec2 .ready none))) (kb+2) (kb+1) (pst (addr,q) (j+1))) (ob+5) (some ⟨gA,0,none⟩) vR all1:=CL.out.same fun g hg=>by
       injection hg with hg;injection hg with hg;subst hg;rcases CL.out.2 with⟨h8,_⟩|⟨g',vP,cur,h7,h70,h6,_⟩
       ·cases h8
       ·injection h7 with h7;injection h7 with h7;injection h7 with h7;subst h7;have Im:gA≠kb:=fun e=>by rw[e,xh.out.num]at h6;injection h6 with h6;injection h6 with _ h6;cases h6
        have Gn:gA≠kb+1:=fun e=>by rw[e,xh.out.pg.a]at h6;injection h6 with h6;injection h6 with _ h6;cases h6
        have YI:gA≠kb+2:=fun e=>by rw[e,xh.out.pg.n]at h6;injection h6 with h6;injection h6 with _ h6;cases h6
        have Fe:gA≠kb+3+1:=fun e=>by rw[e,Sl.out]at h6;cases h6
        rw[h6];exact Fp (zB (zC h6 (by omega)) Im) Fe Gn YI
      have Fl:=Lg.out.step zJ.out (by rw[<-HX.out];exact zG.out) rfl (e:=fun i=>d (x-addr+i)) (fun i hi=>by rw[<-HX.out]);rw[<-HX.out,<-HM.out]at Fl;refine⟨NI,rfl,Ed,⟨_,Z2,cz-M,Bq,⟨JQ,Fp (zB (zC xh.out.mark (by omega)) (by omega)) (by omega) (by omega) (by omega),Fp (zB (zC xh.out.mark2 (by omega)) (by omega)) (by omega) (by omega) (by omega),Fp (zB (zC xh.out.b0 (by omega)) (by omega)) (by omega) (by omega) (by omega),?_,Fp (zB (zC xh.out.b2 (by omega)) (by omega)) (by omega) (by omega) (by omega),Fp (zB (zC xh.out.out (by omega)) (by omega)) (by omega) (by omega) (by omega),Fp ZS (by omega) (by omega) (by omega)⟩,JS,Fl,?_,?_,?_⟩,?_⟩
      ·rw[Ec];exact Fp (zB Jl.out (by omega)) (by omega) (by omega) (by omega)
      ·rw[Ec,zM,HC.out];intro h0
       first
       |(
         have h9:=(Rq.out.cut M) h0;obtain⟨ad,h1,h2⟩:=h9;exact⟨ad,h1,fun i hi=>(h2 i hi).trans (by show some (Value.int .u8 ((d ((pst (addr,q) j).1-(addr,q).1+(M+i)):Nat):Int))=_;rw[<-HX.out,show x-(addr,q).1+(M+i)=x+M-(addr,q).1+i by(dsimp only;omega)])⟩)
       |(exfalso;have:=HCM.out;omega)
      ·rw[HC.out];intro ad hA
       first
       |exact VD.out ad hA
       |(
         cases Z with
         |none=>cases hA
         |some z=>
          injection hA with hA;subst hA;rw[Addr.add_blk];exact VD.out z rfl)
      ·rw[Ec];omega
      ·have Iq:=(vo NI).1;exact(yn.block _ (by rw[World.putObj_size];exact Iq) (by omega)).trans (World.putObj_heap_same Iq)
    ·have wA:Below W3.heap.size W3 ((W3.alloc (.deferred (some []))).alloc (.loop (rec2 .ready none))):=vr.alloc (by simp) _;have xP:=((wN.out.below zm.out).below wA).sub (K':=StK w ob kb A1) (fun b e=>by
      rcases e with e|e
      ·exact .inl (.inl e)
      ·rcases Nat.lt_or_ge b W3.heap.size with h1|h1
       ·exact .inl (.inr ⟨by have:=HKB.out;omega,h1⟩)
       ·exact .inr ⟨h1,by simp[yk];omega⟩)
     have yG: ∀ {b:Nat} {o:Obj},W3.heap[b]? =some o->((W3.alloc (.deferred (some []))).alloc (.loop (rec2 .ready none))).heap[b]? =some o:=fun h1=>(bX (vo h1).1).trans h1;have zc: ∀ {b:Nat} {o:Obj},W2.heap[b]? =some o->((W3.alloc (.deferred (some []))).alloc (.loop (rec2 .ready none))).heap[b]? =some o:=fun h1=>yG ((zm.out.block _ (vo h1).1).trans h1);have wh:OwnG 83 3 iu ((W3.alloc (.deferred (some []))).alloc (.loop (rec2 .ready none))) (ob+5) A1 vR all1:=DV.out.same fun g hg=>by
      have h9:=(DV.out.blk g (by rw[hg];rfl)).2;exact(bX (by have:=zm.out.size;omega)).trans (zm.out.block g h9)
     have h00:(pst (addr,q) 0).1-(addr,q).1=0:=Nat.sub_self _;refine⟨⟨p1,Ab,cq,xP,⟨⟨yG LI.out,yG Ru.out⟩,zc ye.out.mark,?_,zc ye.out.b0,zc ye.out.b1,zc ye.out.b2,?_,yG Lh.out⟩,wh,?_,?_,Gb.out,DG⟩,?_⟩
     ·have:=ab W3 (.deferred (some []));rw[yk]at this;exact(vt _ _ _ (by simp[yk])).trans this
     ·rw[yR.out.len];exact zc ye.out.out
     ·rw[h00];exact Lays.start yR.out.seen.kept.sp yR.out.seen.kept.own
     ·rw[h00];have h9:(fun i=>d (0+i))=d:=(by funext i;rw[Nat.zero_add]);rw[h9];exact WR.out
     ·have:=ab (W3.alloc (.deferred (some []))) (.loop (rec2 .ready none))
      rwa [World.size_alloc,yk]at this
    ·rintro e W ⟨hv,⟨j,Ei,⟨p4,Z,cz,wU,yC,zX,DI,Kx,Xu,PY⟩,hl⟩|hF⟩
     rotate_left
     ·exact hF.elim
     refine⟨hv, .inl ⟨hl,?_⟩⟩;obtain⟨W5,Hn⟩: ∃W5,W5=W.putObj (kb+3+1) (.loop (rec2 .exhausted none)):=⟨_,rfl⟩;rw[<-Hn];have xu:Mod (fun b=>b=kb+3+1) W W5:=(by rw[Hn];exact az);have wj:=wU.set xu (fun b e=> .inr (by omega));have ya: ∀ {b:Nat} {o:Obj},W.heap[b]? =some o->b≠kb+3+1->W5.heap[b]? =some o:=fun h1 h2=>(xu.block _ (vo h1).1 h2).trans h1;have Vj:=ya yC.b2 (by omega);have KJ:=ya yC.mark (by omega);have hM6:=ya yC.mark2 (by omega);have yF:=dl (addr,q) j;rw[Ei,Nat.add_zero]at yF;rw[yF,show(addr,q).1+(addr,q).2-(addr,q).1=q by simp]at DI;have e0:W5.cell? ⟨w.heap.size+1+1,0,none⟩=some (.int .i64 0):=aa Vj 0;have ef0:=ae Vj 0;have helt5:w.heap.size+1+1<W5.heap.size:=(vo Vj).1;have AT:=vp wj;have HE5:=vp Vj;have CO:=vp KJ;have Jg:=vp hM6;have HLAY:=vp DI;clear Hn xu wj ya Vj KJ hM6 yF DI wU yC zX Kx Xu PY hl hv Ei JK;unfold dp
     gi_wp2
     have CS:=Jf.out W5 (.int .i64 0);have xK:=AT.out.set CS (fun b e=> .inl (.inl (by omega)));have he6:(W5.setCell ⟨w.heap.size+1+1,0,none⟩ (.int .i64 0)).heap[w.heap.size+1+1]? =some (.cells #[.int .i64 0] 32 (0,0)):=aU HE5.out;have AB:=(CS.block _ (vo Jg.out).1 (by omega)).trans Jg.out;have hK1:=(CS.block _ (vo CO.out).1 (by omega)).trans CO.out;refine⟨by simp, .inl ⟨_,_,rfl,run_takeDeferred AB,?_⟩⟩;have Cn:=az (l:=kb+3) (o:= .deferred none) (W:=W5.setCell ⟨w.heap.size+1+1,0,none⟩ (.int .i64 0));have Bs:=xK.set Cn (fun b e=> .inr (by omega));have he7:=(Cn.block _ (vo he6).1 (by omega)).trans he6;have Hq:=(Cn.block _ (vo hK1).1 (by omega)).trans hK1;refine⟨by simp, .inl ⟨_,_,rfl,run_takeDeferred Hq,?_⟩⟩;have NA:=az (l:=ob+3) (o:= .deferred none) (W:=(W5.setCell ⟨w.heap.size+1+1,0,none⟩ (.int .i64 0)).putObj (kb+3) (.deferred none));have Br:=Bs.set NA (fun b e=> .inl (.inl (by omega)));have he8:=(NA.block _ (vo he7).1 (by omega)).trans he7;have c2:=aa he8 0;refine⟨.int .i64 0,by simp[results,Tryz.results71,go_sem,c2],?_⟩;exact⟨0,p4,L1,T1,vX,S1,rfl,Br.home.cache,Br.mod,Br.out,yr,by omega, .inr (.inr (.inr ⟨Lu,MI.out,rfl,k,all1,p1,Sm.out,yR.out,HLAY.out⟩))⟩
end
