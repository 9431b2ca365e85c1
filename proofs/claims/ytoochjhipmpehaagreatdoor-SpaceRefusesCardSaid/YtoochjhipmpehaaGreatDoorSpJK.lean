/- Spaces: store. -/
import Derived.Test.YtoochjhipmpehaaGreatDoorSpIK
set_option linter.unusedVariables false
set_option linter.unusedSimpArgs false
set_option maxRecDepth 100000
set_option maxHeartbeats 8000000
namespace Go.Proofs.YtoochjhipmpehaaGreatDoor
section
open Go.RowKit Go.Sort
attribute [local go_sem] Oper.semAt_some
def ip (l:Leaf):List Value:=[.int .i64 (l.frame:Int), .int .u8 (l.prot:Int), .bool l.copy]
theorem nh:Elem 209 83 3 16 (.agg #[.int .i64 0, .int .u8 0, .bool false]) ip:=
 ⟨Tryz.underlying209,by kernel_rfl,rfl,by decide,by decide,fun _ =>rfl,fun x v hv=>by simp[ip]at hv;rcases hv with rfl|rfl|rfl<;>rfl⟩
variable {k:Nat} {w:World}
theorem OwnG.blk {α:Type} {T:TypeId} {C:α->List Value} {base cap:Nat} {R:Option Addr} {L:List α} (h:OwnG T k C w base R cap L): ∀g,R.map (·.block)=some g->base<=g/\g<w.heap.size:=fun g e=>by
 rcases h.form with⟨h1,_⟩|⟨g',h1,h2,h3,_⟩
 ·rw[h1]at e;cases e
 ·rw[h1]at e;simp at e;subst e;exact⟨h2,h3⟩
theorem Addr.add_blk (ad:Addr) (j:Nat):(ad.add j).block=ad.block:=by unfold Addr.add;split<;>rfl
variable {W:World} {Z:Option Addr} {n:Nat} {d:Nat->Nat}
theorem au.run {G:Nat->Prop} (h:au w Z n d) (hm:Mod G w W) (hZ: ∀ad,Z=some ad->ad.block<w.heap.size/\ ¬G ad.block):au W Z n d:=fun h0=>by
 obtain⟨ad,e,hc⟩:=h h0;obtain⟨h1,h2⟩:=hZ ad e;exact⟨ad,e,fun j hj=>(World.cell?_of_block (by rw[Addr.add_blk];exact hm.block _ h1 h2)).trans (hc j hj)⟩
theorem au.cut (h:au w Z n d) (m:Nat):au w (Z.map (·.add m)) (n-m) (fun i=>d (m+i)):=fun h0=>by
 obtain⟨ad,e,hc⟩:=h (by omega);exact⟨ad.add m,by rw[e];rfl,fun j hj=>by rw[Addr.add_add];exact hc _ (by omega)⟩
variable {m:Nat}
theorem au.head (h:au w Z n d) (hm:m<=n):au w Z m d:=fun h0=>by
 obtain⟨ad,e,hc⟩:=h (by omega);exact⟨ad,e,fun j hj=>hc j (by omega)⟩
structure ut (F:List Nd) (hold:Nat->Nat) (rl:List Reg) (x:Nat×Nat) (p:Pool) (L:List Slot) (T:Tab) (p':Pool) (L':List Slot) (T':Tab):Prop where
 seen:Seen F hold rl p L T p' L' T'
 only: ∀g,T.lf g=none->(∀j,0<(pst x j).2->g≠(pst x j).1/4096)->T'.lf g=none
 full:Full hold p' T'
structure ur (w W:World) (s ob:Nat) (V:Value) (x:Nat×Nat) (k:Nat) (m:Nat) (A':Option Addr) (vh:Nat):Prop where
 pg:PgSt W (ob+2) (ob+1) (pst x k)
 mark:W.heap[ob+3]? =some (.deferred (some []))
 b0:W.heap[w.heap.size]? =some (.cells #[.pointer (some ⟨s,0,none⟩)] 60 (0,0))
 b1:W.heap[w.heap.size+1]? =some (.cells #[V] 39 (0,0))
 b2:W.heap[w.heap.size+1+1]? =some (.cells #[.int .i64 0] 32 (0,0))
 out:W.heap[ob]? =some (.cells #[.slice A' m vh] 209 (0,0))
variable {W':World} {s ob vh:Nat} {V:Value} {x:Nat×Nat} {A':Option Addr}
theorem ur.keep (h:ur w W s ob V x k m A' vh) (KL:w.heap.size+3<=ob) (hk: ∀b,w.heap.size<=b->b<ob+4->W'.heap[b]? =W.heap[b]?):ur w W' s ob V x k m A' vh:=
 ⟨⟨(hk _ (by omega) (by omega)).trans h.pg.n,(hk _ (by omega) (by omega)).trans h.pg.a⟩,(hk _ (by omega) (by omega)).trans h.mark,(hk _ (by omega) (by omega)).trans h.b0,(hk _ (by omega) (by omega)).trans h.b1,(hk _ (by omega) (by omega)).trans h.b2,(hk _ (by omega) (by omega)).trans h.out⟩
def StJ (w:World) (B c a fs m s t root n cap:Nat) (A:Option Addr) (rl:List Reg) (S:Nat->Prop) (F:List Nd) (clock:Int) (p:Pool) (L:List Slot) (T:Tab) (hold:Nat->Nat) (V:Value) (x:Nat×Nat) (ob k:Nat) (W:World):Prop:=
 ∃p' L' T' vi S' A' vh all,Run w W (av S c m) (LdK w ob A') B c a fs m s t root A n cap rl S S' F vi p' L'/\ur w W s ob V x k k A' vh/\OwnG 83 3 ip W (ob+5) A' vh all/\Owns F hold rl x k p L T all p' L' T'/\clock<=vi/\vi<=clock+k/\ ∀j,j<k->0<(pst x j).2
def StX (w:World) (B c a fs m s t root n cap:Nat) (A:Option Addr) (rl:List Reg) (S:Nat->Prop) (F:List Nd) (clock:Int) (p:Pool) (L:List Slot) (T:Tab) (hold:Nat->Nat) (x:Nat×Nat) (ob:Nat) (W:World):Prop:=
 ∃p' L' T' vi S',Run w W (av S c m) (LdK w ob none) B c a fs m s t root A n cap rl S S' F vi p' L'/\clock<=vi/\vi<=clock+32/\ut F hold rl x p L T p' L' T'/\W.heap[ob+3]? =some (.deferred (some []))/\W.heap[w.heap.size+1+1]? =some (.cells #[.int .i64 4] 32 (0,0))
structure qd (w W:World) (s ob kb:Nat) (V:Value) (x:Nat×Nat) (j k1:Nat) (A':Option Addr) (vh:Nat):Prop where
 pg:PgSt W (kb+2) (kb+1) (pst x j)
 mark:W.heap[ob+3]? =some (.deferred (some []))
 mark2:W.heap[kb+3]? =some (.deferred (some []))
 b0:W.heap[w.heap.size]? =some (.cells #[.pointer (some ⟨s,0,none⟩)] 60 (0,0))
 b1:W.heap[w.heap.size+1]? =some (.cells #[V] 39 (0,0))
 b2:W.heap[w.heap.size+1+1]? =some (.cells #[.int .i64 0] 32 (0,0))
 out:W.heap[ob]? =some (.cells #[.slice A' k1 vh] 209 (0,0))
 num:W.heap[kb]? =some (.cells #[.int .i64 (j:Int)] 3 (0,0))
theorem qd.keep {kb j k1:Nat} (h:qd w W s ob kb V x j k1 A' vh) (KL:w.heap.size+3<=ob) (hk: ∀b,(w.heap.size<=b/\b<ob+4)\/(kb<=b/\b<kb+4)->W'.heap[b]? =W.heap[b]?):qd w W' s ob kb V x j k1 A' vh:=
 ⟨⟨(hk _ (by omega)).trans h.pg.n,(hk _ (by omega)).trans h.pg.a⟩,(hk _ (by omega)).trans h.mark,(hk _ (by omega)).trans h.mark2,(hk _ (by omega)).trans h.b0,(hk _ (by omega)).trans h.b1,(hk _ (by omega)).trans h.b2,(hk _ (by omega)).trans h.out,(hk _ (by omega)).trans h.num⟩
def StK (w:World) (ob kb:Nat) (A':Option Addr):Nat->Prop:=fun b=>LdK w ob A' b\/(kb<=b/\b<kb+5)
def StJ2 (w:World) (B c a fs m s t root n cap:Nat) (A:Option Addr) (rl:List Reg) (S0 S:Nat->Prop) (F:List Nd) (clock:Int) (p:Pool) (L:List Slot) (T:Tab) (hold:Nat->Nat) (d:Nat->Nat) (x:Nat×Nat) (ob kb:Nat) (A':Option Addr) (vh:Nat) (all:List Leaf) (j:Nat) (W:World):Prop:=
 ∃p' Z cz,Run w W (av S0 c m) (StK w ob kb A') B c a fs m s t root A n cap rl S0 S F clock p' L/\qd w W s ob kb (.slice Z (pst x j).2 cz) x j all.length A' vh/\OwnG 83 3 ip W (ob+5) A' vh all/\Lays F hold rl x d ((pst x j).1-x.1) p L T p'/\au w Z (pst x j).2 (fun i=>d ((pst x j).1-x.1+i))/\(∀ad,Z=some ad->ad.block<w.heap.size/\ ¬av S0 c m ad.block)/\(pst x j).2<=cz
def dG (F:List Nd) (hold:Nat->Nat) (rl:List Reg) (p:Pool) (L:List Slot) (T:Tab) (addr q:Nat) (d:Nat->Nat) (want:Int) (er:Int) (p':Pool) (L':List Slot) (T':Tab):Prop:=
 (65536<q/\er=1/\p'=p/\L'=L/\T'=T)\/
 (q<=65536/\dS rl (addr,q) want=false/\er=6/\p'=p/\L'=L/\T'=T)\/
 (q<=65536/\dS rl (addr,q) want=true/\er=4/\ut F hold rl (addr,q) p L T p' L' T')\/
 (q<=65536/\dS rl (addr,q) want=true/\er=0/\ ∃j all p1,(pst (addr,q) j).2=0/\Owns F hold rl (addr,q) j p L T all p1 L' T'/\Lays F hold rl (addr,q) d q p1 L' T' p')
def nG (w:World) (S:Nat->Prop) (c a fs m:Nat) (F:List Nd) (rl:List Reg) (clock:Int) (p:Pool) (L:List Slot) (T:Tab) (hold:Nat->Nat) (addr q:Nat) (d:Nat->Nat) (want:Int) (e:Ending) (w':World):Prop:=
 ∃er p' L' T' vi S',e= .returned (.int .i64 er)/\ar w' S' c a fs m vi p' L'/\Mod (av S c m) w w'/\Out S S' w/\clock<=vi/\vi<=clock+32/\dG F hold rl p L T addr q d want er p' L' T'
theorem qx (B c a fs m s t root n cap addr q cq:Nat) (want:Int) (A Ab:Option Addr) (d:Nat->Nat) (rl:List Reg) (clock:Int) (w:World) (S:Nat->Prop) (F:List Nd) (p:Pool) (L:List Slot) (T:Tab) (hold:Nat->Nat)
  (hH:Home w B c a fs m S F clock p L) (hO:One w B c a m S s t root A n cap rl) (xM:Sp F hold p L T) (ho:Own p T) (hr:T.nd 4 0=some root) (hR:Rgs F rl) (yO:addr<18446744073709551616) (wB: ∀f,hold f<=100000000000) (zy:0<=clock/\clock+32<1000000)
  (hq:q<9223372036854775808) (Ef:q<=cq) (hb:au w Ab q d) (hd: ∀j,d j<256) (DQ: ∀ad,Ab=some ad->ad.block<w.heap.size/\ ¬av S c m ad.block):
  Calls Tryz.prog 71 #[.pointer (some ⟨s,0,none⟩), .int .u64 (addr:Int), .slice Ab q cq, .int .u8 want] w (nG w S c a fs m F rl clock p L T hold addr q d want):=by
 refine(callsIn_wide (n:=9)).1 ?_;refine callsIn_of_wp_marks Tryz.func71 rfl trivial ?_;simp only[Tryz.ntmps71,List.size_toArray,uU,List.length_nil,Nat.reduceAdd,Nat.reduceSub,Array.replicate_succ,Array.replicate_zero,List.push_toArray,List.append_toArray,List.nil_append,List.cons_append];obtain⟨w0,vl⟩: ∃w0,w0=((w.alloc (.cells #[.pointer (some ⟨s,0,none⟩)] 60)).alloc (.cells #[.slice Ab q cq] 39)).alloc (.cells #[.int .i64 0] 32):=⟨_,rfl⟩;have vQ:w0.heap.size=w.heap.size+1+1+1:=(by rw[vl];simp);have vm:Below w.heap.size w w0:=(by rw[vl];exact(uJ.alloc (by simp) _).alloc (by simp;omega) _);have EI:w0.heap[w.heap.size+1+1]? =some (.cells #[.int .i64 0] 32 (0,0)):=by
  rw[vl];have:=ab ((w.alloc (.cells #[.pointer (some ⟨s,0,none⟩)] 60)).alloc (.cells #[.slice Ab q cq] 39)) (.cells #[.int .i64 0] 32)
  rwa [World.size_alloc,World.size_alloc]at this
 have Ik:w0.heap[w.heap.size+1]? =some (.cells #[.slice Ab q cq] 39 (0,0)):=by
  rw[vl];have:=ab (w.alloc (.cells #[.pointer (some ⟨s,0,none⟩)] 60)) (.cells #[.slice Ab q cq] 39);rw[World.size_alloc]at this;exact(uL _ _ _ (by simp)).trans this
 have zo:w0.heap[w.heap.size]? =some (.cells #[.pointer (some ⟨s,0,none⟩)] 60 (0,0)):=by
  rw[vl];exact(uL _ _ _ (by simp;omega)).trans ((uL _ _ _ (by simp)).trans (ab w _))
 have yl:=(Run.start hH hO (fun _ e=>e)).below vm;have s0:w0.cell? ⟨w.heap.size,0,none⟩=some (.pointer (some ⟨s,0,none⟩)):=aa zo 0;have n0:w0.cell? ⟨w.heap.size+1,0,none⟩=some (.slice Ab q cq):=aa Ik 0;have e0:w0.cell? ⟨w.heap.size+1+1,0,none⟩=some (.int .i64 0):=aa EI 0;have ef0:=ae EI 0;have Fm:w.heap.size+1<w0.heap.size:=(by omega);have BA:w.heap.size+1+1<w0.heap.size:=(by omega);have vF:=uH vl;have Cg:=uH vQ;have Vx:=uH EI;have NL:=uH Ik;have yQ:=uH zo;have yd:=uH yl;have yc:=uH xM;have yx:=uH ho;have HR:=uH hr;have UU:=uH hR;have wj:=uH vm;have VF:=uH hb;have HD:=uH hd;have Hw:=uH DQ;have xn:=cT s c a t n cap A w0 yl.one.self;have wi:=uH xn;clear xn vl vQ vm EI Ik zo yl hH hO xM ho hr hR hb hd DQ;have SL:=fun(w0:World) (u:Value)=>aj (S:=fun b=>b=w.heap.size+1+1) (w:=w0) (b:=w.heap.size+1+1) rfl 0 u;have Iq:=uH SL;clear SL;by_cases ya:(65536:Int)<(q:Int)
 ·have key:nG w S c a fs m F rl clock p L T hold addr q d want (.returned (.int .i64 1)) (w0.setCell ⟨w.heap.size+1+1,0,none⟩ (.int .i64 1)):=by
   have vB:=yd.out.set (Iq.out w0 (.int .i64 1)) (fun b e=> .inr (by have:=Cg.out;omega));exact⟨1,p,L,T,clock,S,rfl,vB.home.cache,vB.mod,vB.out,Int.le_refl _,by omega, .inl ⟨by omega,rfl,rfl,rfl,rfl⟩⟩
  have KEY:=uH key;clear key;gi_wp2_with (first
   |(refine⟨trivial,?_⟩;rw[<-vF.out];refine(callsIn_wide.2 wi.out).mono ?_;rintro e w1 ⟨rfl,rfl⟩)
   |fail)
  exact⟨.int .i64 1,by simp[results,Tryz.results71,go_sem,e0,ef0,BA],KEY.out⟩
 have KK:q<=65536:=(by omega);have xN:=jE s c a t n cap A rl addr q want w0 yd.out.one.self yd.out.one.row yO (by omega);cases hpb:dS rl (addr,q) want with
 |false=>
  rw[hpb]at xN;have BQ:=uH xN;have Ma:=uH hpb;clear xN hpb;gi_wp2_with (first
   |(refine⟨trivial,?_⟩;rw[<-vF.out];refine(callsIn_wide.2 wi.out).mono ?_;rintro e w1 ⟨rfl,rfl⟩)
   |(refine⟨trivial,?_⟩;refine(callsIn_wide.2 BQ.out).mono ?_;rintro e w1 ⟨rfl,vk⟩;have vn:=(vk.block _ BA).trans Vx.out;have e1:w1.cell? ⟨w.heap.size+1+1,0,none⟩=some (.int .i64 0):=aa vn 0;have ef1:=ae vn 0;have JC:w.heap.size+1+1<w1.heap.size:=(uG vn).1)
   |fail)
  refine⟨.int .i64 6,by simp[results,Tryz.results71,go_sem,e1,ef1,JC],?_⟩;have vB:=(yd.out.below vk).set (Iq.out w1 (.int .i64 6)) (fun b e=> .inl (.inr (by have:=Cg.out;omega)));exact⟨6,p,L,T,clock,S,rfl,vB.home.cache,vB.mod,vB.out,Int.le_refl _,by omega, .inr (.inl ⟨KK,Ma.out,rfl,rfl,rfl,rfl⟩)⟩
 |true=>
  have Ss:Perm rl (addr,q) want:=by
   unfold dS at hpb;exact @uZ _ (Classical.propDecidable _) hpb
  rw[hpb]at xN;have BQ:=uH xN;have Ma:=uH hpb;have ND:=uH Ss;clear xN hpb Ss;gi_upto_region 8 with(first
   |(refine⟨trivial,?_⟩;rw[<-vF.out];refine(callsIn_wide.2 wi.out).mono ?_;rintro e w1 ⟨rfl,rfl⟩)
   |(refine⟨trivial,?_⟩;refine(callsIn_wide.2 BQ.out).mono ?_;rintro e w1 ⟨rfl,vk⟩;have KS:=(vk.block _ Fm).trans NL.out;have n1: ∀o,(w1.alloc o).cell? ⟨w.heap.size+1,0,none⟩=some (.slice Ab q cq):=fun o=>aa ((uL _ _ _ (uG KS).1).trans KS) 0)
   |fail)
  obtain⟨ob,KL⟩: ∃ob,w1.heap.size=ob:=⟨_,rfl⟩;have Eh:w.heap.size+3<=ob:=(by have:=vk.size;have:=Cg.out;omega);obtain⟨wa,Hy⟩: ∃wa,wa=w1.alloc (.cells #[.slice none 0 0] 209):=⟨_,rfl⟩;have na:=n1 (.cells #[.slice none 0 0] 209);rw[<-Hy]at na;rw[<-Hy,KL];have Mt:wa.heap.size=ob+1:=(by rw[Hy];simp[KL]);have QV:Below w0.heap.size w0 wa:=(by rw[Hy];exact vk.alloc vk.size _);have TW:wa.heap[ob]? =some (.cells #[.slice none 0 0] 209 (0,0)):=(by rw[Hy,<-KL];exact ab w1 _);have WB:=uH TW;have Mq:=uH QV;clear Hy QV TW vk n1 KS;gi_wp2_with (first
   |(refine⟨trivial,?_⟩;refine(callsIn_wide.2 (gF (addr:Int) (q:Int) wa)).mono ?_;rintro e w2 ⟨rfl,vU⟩)
   |fail)
  have vO:w2.heap.size=ob+3:=(by rw[vU];simp[Mt]);have vs:Below wa.heap.size wa w2:=(by rw[vU];exact uJ.alloc (by simp) _);have Hl:w2.heap[ob+1]? =some (.cells #[.int .u64 (addr:Int)] 43 (0,0)):=(by rw[vU,<-Mt];exact(uL _ _ _ (by simp)).trans (ab wa _));have TY:w2.heap[ob+2]? =some (.cells #[.int .i64 (q:Int)] 3 (0,0)):=by
   rw[vU];have:=ab (wa.alloc (.cells #[.int .u64 (addr:Int)] 43)) (.cells #[.int .i64 (q:Int)] 3);rw[World.size_alloc,Mt]at this;exact this
  have xd:=uH (Mq.out.trans (vs.mono (by have:=Mq.out.size;omega)));have QF:=uH Hl;have xK:=uH TY;have BU:=uH ((vs.block _ (by omega)).trans WB.out);rw[<-vU];clear vU vs Hl TY na;refine bI rfl (by omega) (gf:=155) (lb:= #[.pointer (some ⟨ob+1+1,0,none⟩), .pointer (some ⟨ob+1,0,none⟩)]) rfl trivial (enters_of Tryz.func155 (by kernel_rfl) rfl) ?_;rw[vO];intro fn CI rec wO;refine(gG (9-1) (by omega) (ob+3+1) (ob+1+1) (ob+1) (by omega) (addr,q) (by have:=ND.out.1;simp only at this⊢;omega) (fun k W=>StJ w B c a fs m s t root n cap A rl S F clock p L T hold (.slice Ab q cq) (addr,q) ob k W/\W.heap[ob+3+1]? =some (.loop (rec .ready none)))
   (fun W=>StX w B c a fs m s t root n cap A rl S F clock p L T hold (addr,q) ob W/\W.heap[ob+3+1]? =some (.loop (rec .done (some .ret)))) ?_ ?_ _ ?_).mono ?_
  ·rintro k W ⟨⟨p',L',T',vi,S',A',vh,d,h1,h2,h3⟩,_⟩;exact h2.pg
  ·rintro k W ⟨hJ,hl⟩ vN;refine br trivial wO hl rfl ?_;obtain⟨p1,L1,T1,vp,S1,A1,vj,all1,vB,wV,xz,BF,xw,zl,wA⟩:=hJ;obtain⟨x,hx⟩: ∃x,x=(pst (addr,q) k).1:=⟨_,rfl⟩;obtain⟨M,hM⟩: ∃M,M=pm (pst (addr,q) k):=⟨_,rfl⟩;rw[<-hx,<-hM];have vH:=lB (addr,q) k vN;dsimp only at vH;have XN:k<=17:=(by omega);have HX:=uH hx;have HM:=uH hM;have CQ:=uH vB;have KG:=uH wV;have BS:=uH xz;have ye:=uH BF;have Vn:=uH wA;have yR:=uH vN;have Qe:=uH wO;have HL:=uH hl;clear hx hM vB wV xz BF wA vN wO hl vH
   gi_wp2
   refine⟨HL.out,?_⟩;obtain⟨W2,vW⟩: ∃W2,W2=W.putObj (ob+3+1) (.loop (rec .busy none)):=⟨_,rfl⟩;rw[<-vW];have vy:Mod (fun b=>b=ob+3+1) W W2:=(by rw[vW];exact az);have vV:W2.heap[ob+3+1]? =some (.loop (rec .busy none)):=(by rw[vW];exact World.putObj_heap_same (uG HL.out).1);have vr:=CQ.out.set vy (fun b e=> .inl (by omega));have wD:=KG.out.keep Eh (W':=W2) (fun b h1 h2=>by
    rcases Nat.lt_or_ge b W.heap.size with h3|h3
    ·exact vy.block b h3 (by omega)
    ·rw[Array.getElem?_eq_none h3,Array.getElem?_eq_none];rw[vW,World.putObj_size];exact h3)
   have yG:OwnG 83 3 ip W2 (ob+5) A1 vj all1:=
    BS.out.same fun g hg=>vy.block g ((BS.out.blk g (by rw[hg];rfl)).2) (fun e=>by have:=(BS.out.blk g (by rw[hg];rfl)).1;omega)
   obtain⟨r,xU,_⟩:=ND.out.2 k yR.out;have FA:Ask F rl r (x/4096):=UU.out.ask (by rw[HX.out];exact xU);have Gb:x+(pst (addr,q) k).2=addr+q:=(by rw[HX.out];exact dh (addr,q) k);have hxb:x<=140737488355328:=(by have:=ND.out.1;simp only at this;omega);have yr:IntKind.u64.wrap ((x:Int)/4096*4096)=(x:Int)/4096*4096:=(by rw[IntKind.wrap_u64];omega);have BD:=sown_any B c a fs m s t root n cap (x/4096) A rl r vp ((x:Int)/4096*4096) W2 S1 F p1 L1 T1 hold vr.home vr.one ye.out.seen.kept.sp ye.out.seen.kept.own (ye.out.seen.kept.root _ HR.out) FA (by omega) wB (by omega);have yV:(Rg.find rl ((((pst (addr,q) k).1/4096:Nat):Int)*4096)).1=r:=(by rw[<-HX.out,FA.find]);have c0:W2.cell? ⟨w.heap.size,0,none⟩=some (.pointer (some ⟨s,0,none⟩)):=aa wD.b0 0;have Xt:ob+5<=W2.heap.size:=(by have:=(uG vV).1;omega);have FY:=uH BD;have UW:=uH yV;have vP:=uH vr;have xo:=uH wD;have CW:=uH yG;have FR:=uH vV;have HXS:=uH Gb;clear BD yV vr wD yG vV FA xU Gb vy vW;gi_upto_region 11 with(first
    |(refine⟨trivial,?_⟩;refine(CallsIn.inRound (ob+3+1) (callsIn_wide.2 FY.out)).mono ?_;rintro e W3 ⟨er,⟨fr,pr,cp⟩,p3,L3,T3,BN,S3,rfl,Bf,xh,AZ,An,xI,BE⟩;unfold ap)
    |fail)
   obtain⟨W4,DN⟩: ∃W4,W4=W3.alloc (.cells #[.int .i64 (fr:Int), .int .u8 (pr:Int), .bool cp] 83):=⟨_,rfl⟩;rw[<-DN];obtain⟨wk,Gk⟩:=vP.out.call Bf xh AZ;have vD:Below W3.heap.size W3 W4:=(by rw[DN];exact uJ);have AN:W4.heap.size=W3.heap.size+1:=(by rw[DN];simp);have Gt:W4.heap[W3.heap.size]? =some (.cells #[.int .i64 (fr:Int), .int .u8 (pr:Int), .bool cp] 83 (0,0)):=(by rw[DN];exact ab W3 _);have xq:=xh.size;have vX:=(wk.below vD).sub (K':=LdK w ob A1) (fun b e=> .inl e);have AG: ∀b,LdK w ob A1 b->W4.heap[b]? =W2.heap[b]? :=fun b hb=>(vD.block b ((vP.out.own b hb).2.2 |> fun h=>by omega)).trans (Gk b hb);have xO:=xo.out.keep Eh (W':=W4) (fun b h1 h2=>AG b (.inl (by omega)));have Lv:=(AG (ob+3+1) (.inl (by omega))).trans FR.out;have zh:OwnG 83 3 ip W4 (ob+5) A1 vj all1:=CW.out.same fun g hg=>AG g (.inr (by rw[hg];rfl));have wW:=uH vX;have wh:=uH xO;have Mg:=uH Lv;have yS:=uH zh;have Ae:=uH Gt;have CA:=uH BE;have RC:w.heap.size<W4.heap.size:=(by omega);have vC:ob+5<=W4.heap.size:=(by omega);clear wk Gk vD Gt vX AG xO Lv zh BE Bf xh AZ DN yr c0 AN xq;have e0:W4.cell? ⟨w.heap.size+1+1,0,none⟩=some (.int .i64 0):=aa wh.out.b2 0;have ef0:=ae wh.out.b2 0;by_cases za:er=0
   rotate_left
   ·have vu:(er != 0)=true:=(by rw[bne_iff_ne];exact za);obtain⟨JB,RX,RW,RV⟩:=ye.out.fail yR.out UW.out (by rw[<-HX.out];exact CA.out) za;subst JB;have FI:=uH (ut.mk RX RW RV);clear RX RW RV za
    gi_wp2
    have Ca:=Iq.out W4 (.int .i64 4);have vv:=wW.out.set Ca (fun b e=> .inl (by omega));have Gi:=(Ca.block _ (uG Mg.out).1 (by omega)).trans Mg.out;have wH:=(Ca.block _ (uG wh.out.mark).1 (by omega)).trans wh.out.mark;have Ly:(W4.setCell ⟨w.heap.size+1+1,0,none⟩ (.int .i64 4)).heap[w.heap.size+1+1]? =some (.cells #[.int .i64 4] 32 (0,0)):=bd wh.out.b2;refine⟨Gi, .inr ⟨rfl,?_,World.putObj_heap_same (uG Gi).1⟩⟩;have AP:=az (l:=ob+3+1) (o:= .loop (rec .done (some .ret))) (W:=W4.setCell ⟨w.heap.size+1+1,0,none⟩ (.int .i64 4));have wT:=vv.set AP (fun b e=> .inl (by omega));have AD: ∀ {b:Nat} {o:Obj},(W4.setCell ⟨w.heap.size+1+1,0,none⟩ (.int .i64 4)).heap[b]? =some o->b≠ob+3+1->((W4.setCell ⟨w.heap.size+1+1,0,none⟩ (.int .i64 4)).putObj (ob+3+1) (.loop (rec .done (some .ret)))).heap[b]? =some o:=fun h1 h2=>(AP.block _ (uG h1).1 h2).trans h1;exact⟨p3,L3,T3,BN,S3,wT.sub (fun b e=>e.elim .inl (fun e=>by cases e)),by omega,by omega,FI.out,AD wH (by omega),AD Ly (by omega)⟩
   subst za;have hOW:=CA.out.got rfl;have AA:k=all1.length:=ye.out.len.symm;have Vi:=uH AA;have HOW:=uH hOW;obtain⟨⟨x0,x1,x2⟩,_,_⟩:=box3 Ae.out;have o4:W4.cell? ⟨ob,0,none⟩=some (.slice A1 k vj):=aa wh.out.out 0;have OI:ob<W4.heap.size:=(by omega);clear hOW AA;gi_upto_region 13 with(fail);gi_wp2_with (gi_at_builtin;refine uf nh rfl (.tmp 48) (.tmp 50) rfl (ob+5) A1 vj k all1 Vi.out rfl (yS.out.alloc _) ⟨fr,pr,cp⟩ W4.heap.size 1 rfl (ab W4 _) (by omega) (by simp;omega) ?_;intro g Ar W6 Bs DM Cp Al;have DO:=((cu DM).block ob (by simp;omega) (fun e=>by have:=(yS.out.blk ob e).1;omega)).trans ((uL _ _ _ OI).trans wh.out.out);have o6:=aa DO 0;have of6:=ae DO 0);obtain⟨W7,EF⟩: ∃W7,W7=W6.setCell ⟨ob,0,none⟩ (.slice (some ⟨g,0,none⟩) (k+1) Ar):=⟨_,rfl⟩;rw[<-EF];have wI:Mod (fun b=>b=ob) W6 W7:=(by rw[EF];exact aj (S:=fun b=>b=ob) rfl 0 _);have CL:W7.heap[ob]? =some (.cells #[.slice (some ⟨g,0,none⟩) (k+1) Ar] 209 (0,0)):=(by rw[EF];exact bd DO);obtain⟨W5,Gu⟩: ∃W5,W5=W4.alloc (.cells #[.int .i64 (fr:Int), .int .u8 (pr:Int), .bool cp] 83):=⟨_,rfl⟩;rw[<-Gu]at DM;have JO:Below W4.heap.size W4 W5:=(by rw[Gu];exact uJ);have It:W5.heap.size=W4.heap.size+1:=(by rw[Gu];simp);have TO:A1.map (·.block)=some g\/g=W5.heap.size:=(by rw[Gu];exact Cp);have QG:=(cu DM).size;have Bc: ∀b,w.heap.size<=b->b<ob+5->W6.heap[b]? =W4.heap[b]? :=fun b h1 h2=>((cu DM).block b (by omega) (fun e=>by have:=(yS.out.blk b e).1;omega)).trans (JO.block b (by omega));have yM: ∀b,w.heap.size<=b->b<ob+5->b≠ob->W7.heap[b]? =W4.heap[b]? :=fun b h1 h2 h3=>(wI.block b (by omega) h3).trans (Bc b h1 h2);have Ie:=(yM (ob+3+1) (by omega) (by omega) (by omega)).trans Mg.out;have AP:=az (l:=ob+3+1) (o:= .loop (rec .ready none)) (W:=W7);have yL: ∀ {b:Nat} {o:Obj},W7.heap[b]? =some o->b≠ob+3+1->(W7.putObj (ob+3+1) (.loop (rec .ready none))).heap[b]? =some o:=fun h1 h2=>(AP.block _ (uG h1).1 h2).trans h1;have IX:PgSt (W7.putObj (ob+3+1) (.loop (rec .ready none))) (ob+2) (ob+1) (pst (addr,q) k):=⟨yL ((yM _ (by omega) (by omega) (by omega)).trans wh.out.pg.n) (by omega),yL ((yM _ (by omega) (by omega) (by omega)).trans wh.out.pg.a) (by omega)⟩;obtain⟨Dd,yI⟩:=gz IX (by omega) (pst (addr,q) (k+1));have AF: ∀ {b:Nat} {o:Obj},W7.heap[b]? =some o->b≠ob+3+1->b≠ob+1->b≠ob+2->(cn (W7.putObj (ob+3+1) (.loop (rec .ready none))) (ob+2) (ob+1) (pst (addr,q) (k+1))).heap[b]? =some o:=fun h1 h2 h3 h4=>(yI.block _ (uG (yL h1 h2)).1 (by omega)).trans (yL h1 h2);have CD:=((((((wW.out.below JO).grow (cu DM) (fun b e=> .inl (.inr e))).sub (K':=LdK w ob (some ⟨g,0,none⟩)) (fun b e=>by
    rcases e with e|e
    ·exact .inl (.inl (.inl e))
    ·have e2:b=g:=(by simpa using e.symm);subst e2;rcases TO with h9|h9
     ·exact .inl (.inl (.inr h9))
     ·exact .inr ⟨by omega,Al⟩)).set wI (fun b e=> .inl (by omega))).set AP (fun b e=> .inl (by omega))).set yI (fun b e=> .inl (by omega)))
   have DK:ob+5<=g:=(by rcases TO with h9|h9;exact(yS.out.blk g h9).1;omega);have Bp:OwnG 83 3 ip (cn (W7.putObj (ob+3+1) (.loop (rec .ready none))) (ob+2) (ob+1) (pst (addr,q) (k+1))) (ob+5) (some ⟨g,0,none⟩) Ar (all1++[⟨fr,pr,cp⟩]):=by
    refine Bs.same fun g' Jz=>?_;injection Jz with Jz;injection Jz with Jz;subst Jz;exact((yI.block g (by have h1:=AP.size;have h2:=wI.size;exact uO Al (ve h2 h1)) (by omega)).trans (AP.block g (by have h2:=wI.size;omega) (by omega))).trans (wI.block g Al (by omega))
   have LF:=ye.out.step yR.out UW.out (by rw[<-HX.out];exact CA.out);refine⟨Ie, .inl ⟨rfl,IX,⟨p3,L3,T3,BN,S3,some ⟨g,0,none⟩,Ar,_,CD,⟨Dd,AF ((yM _ (by omega) (by omega) (by omega)).trans wh.out.mark) (by omega) (by omega) (by omega),AF ((yM _ (by omega) (by omega) (by omega)).trans wh.out.b0) (by omega) (by omega) (by omega),AF ((yM _ (by omega) (by omega) (by omega)).trans wh.out.b1) (by omega) (by omega) (by omega),AF ((yM _ (by omega) (by omega) (by omega)).trans wh.out.b2) (by omega) (by omega) (by omega),AF CL (by omega) (by omega) (by omega)⟩,Bp,LF,by omega,by omega,fun j hj=>(by rcases Nat.lt_or_ge j k with h9|h9;exact Vn.out j h9;obtain rfl:j=k:=(by omega);exact yR.out)⟩,?_⟩⟩;have Jj:=(uG Ie).1;exact(yI.block _ (by rw[World.putObj_size];exact Jj) (by omega)).trans (World.putObj_heap_same Jj)
  ·have vD:Below w2.heap.size w2 ((w2.alloc (.deferred (some []))).alloc (.loop (rec .ready none))):=uJ.alloc (by simp) _;have wX:=((yd.out.below xd.out).below vD).sub (K':=LdK w ob none) (fun b e=>by
    rcases e with e|e
    ·rcases Nat.lt_or_ge b w0.heap.size with h1|h1
     ·exact .inl (.inl (.inr ⟨e.1,h1⟩))
     ·rcases Nat.lt_or_ge b w2.heap.size with h2|h2
      ·exact .inl (.inr ⟨h1,h2⟩)
      ·exact .inr ⟨h2,by simp[vO];omega⟩
    ·cases e)
   have xR: ∀ {b:Nat} {o:Obj},w2.heap[b]? =some o->((w2.alloc (.deferred (some []))).alloc (.loop (rec .ready none))).heap[b]? =some o:=fun h1=>(bX (uG h1).1).trans h1;have yn: ∀ {b:Nat} {o:Obj},w0.heap[b]? =some o->((w2.alloc (.deferred (some []))).alloc (.loop (rec .ready none))).heap[b]? =some o:=fun h1=>xR ((xd.out.block _ (uG h1).1).trans h1);refine⟨⟨p,L,T,clock,S,none,0,[],wX,⟨⟨xR xK.out,xR QF.out⟩,?_,yn yQ.out,yn NL.out,yn Vx.out,xR BU.out⟩,OwnG.nil _ _,Owns.start yc.out yx.out,Int.le_refl _,by omega,fun j hj=>absurd hj (by omega)⟩,?_⟩
   ·have:=ab w2 (.deferred (some []));rw[vO]at this;exact(uL _ _ _ (by simp[vO])).trans this
   ·have:=ab (w2.alloc (.deferred (some []))) (.loop (rec .ready none))
    rwa [World.size_alloc,vO]at this
  ·rintro e W ⟨hv,⟨k,yn,⟨p1,L1,T1,vp,S1,A1,vj,all1,vB,wV,xz,BF,xw,zl,wA⟩,hl⟩|⟨⟨p1,L1,T1,vp,S1,vB,xw,zl,xy,Gg,he⟩,hl⟩⟩
   rotate_left
   ·refine⟨hv, .inr ⟨_,hl,?_⟩⟩;obtain⟨W2,vW⟩: ∃W2,W2=W.putObj (ob+3+1) (.loop (rec .exhausted (some .ret))):=⟨_,rfl⟩;rw[<-vW];have vy:Mod (fun b=>b=ob+3+1) W W2:=(by rw[vW];exact az);have vr:=vB.set vy (fun b e=> .inl (by omega));have xk: ∀ {b:Nat} {o:Obj},W.heap[b]? =some o->b≠ob+3+1->W2.heap[b]? =some o:=fun h1 h2=>(vy.block _ (uG h1).1 h2).trans h1;have KT:=xk he (by omega);have Be:=xk Gg (by omega);have vP:=uH vr;have NX:=uH KT;have Bi:=uH Be;have Ho:=uH xy;clear vW vy vr xk KT Be vB xy Gg he hl hv;unfold dk
    gi_wp2
    refine⟨by simp, .inl ⟨_,_,rfl,run_takeDeferred Bi.out,?_⟩⟩;have Bt:=az (l:=ob+3) (o:= .deferred none) (W:=W2);have vv:=vP.out.set Bt (fun b e=> .inl (by omega));have Ly:=(Bt.block _ (uG NX.out).1 (by omega)).trans NX.out;have c2:=aa Ly 0;refine⟨.int .i64 4,by simp[results,Tryz.results71,go_sem,c2],?_⟩;exact⟨4,p1,L1,T1,vp,S1,rfl,vv.home.cache,vv.mod,vv.out,xw,zl, .inr (.inr (.inl ⟨KK,Ma.out,rfl,Ho.out⟩))⟩
   ·refine⟨hv, .inl ⟨hl,?_⟩⟩;obtain⟨W2,vW⟩: ∃W2,W2=W.putObj (ob+3+1) (.loop (rec .exhausted none)):=⟨_,rfl⟩;rw[<-vW];have XM:k<=32:=by
     rcases k with _ |k
     ·omega
     ·have:=lB (addr,q) k (wA k (by omega));dsimp only at this;omega
    have vy:Mod (fun b=>b=ob+3+1) W W2:=(by rw[vW];exact az);have vr:=vB.set vy (fun b e=> .inl (by omega));have xk: ∀ {b:Nat} {o:Obj},W.heap[b]? =some o->b≠ob+3+1->W2.heap[b]? =some o:=fun h1 h2=>(vy.block _ (uG h1).1 h2).trans h1;have wD:ur w W2 s ob (.slice Ab q cq) (addr,q) k k A1 vj:=⟨⟨xk wV.pg.n (by omega),xk wV.pg.a (by omega)⟩,xk wV.mark (by omega),xk wV.b0 (by omega),xk wV.b1 (by omega),xk wV.b2 (by omega),xk wV.out (by omega)⟩;have yG:OwnG 83 3 ip W2 (ob+5) A1 vj all1:=xz.same fun g hg=>vy.block g ((xz.blk g (by rw[hg];rfl)).2) (fun e=>by have:=(xz.blk g (by rw[hg];rfl)).1;omega);have vP:=uH vr;have xo:=uH wD;have CW:=uH yG;have ye:=uH BF;have Rw:=uH yn;have Qe:=uH wO;have HZW2:=uH vO;have n2: ∀o,(W2.alloc o).cell? ⟨w.heap.size+1,0,none⟩=some (.slice Ab q cq):=fun o=>aa ((uL _ _ _ (uG wD.b1).1).trans wD.b1) 0;clear vW vy vr xk wD yG vB wV xz BF wA hl hv yn wO n0 s0 e0 ef0 vO;unfold dk;gi_upto_region 15 with(fail);obtain⟨kb,GY⟩: ∃kb,W2.heap.size=kb:=⟨_,rfl⟩;obtain⟨V,hV⟩: ∃V,V=W2.alloc (.cells #[.int .i64 0] 3):=⟨_,rfl⟩;have nV:=n2 (.cells #[.int .i64 0] 3);rw[<-hV]at nV;rw[<-hV,GY];have VU:V.heap.size=kb+1:=(by rw[hV];simp[GY]);have hbV:Below W2.heap.size W2 V:=(by rw[hV];exact uJ);have hKV:V.heap[kb]? =some (.cells #[.int .i64 0] 3 (0,0)):=(by rw[hV,<-GY];exact ab W2 _);have hobk:ob+5<=kb:=(by rw[<-GY];have:=(vP.out.own (ob+4) (.inl (by omega))).2.2;omega);have HKV:=uH hKV;have WE:=uH hbV;have HKB:=uH GY;clear hV hKV hbV n2 GY;gi_wp2_with (first
     |(refine⟨trivial,?_⟩;refine(callsIn_wide.2 (gF (addr:Int) (q:Int) V)).mono ?_;rintro e W3 ⟨rfl,Aq⟩)
     |fail)
    have xq:W3.heap.size=kb+3:=(by rw[Aq];simp[VU]);have vG:Below V.heap.size V W3:=(by rw[Aq];exact uJ.alloc (by simp) _);have Kg:W3.heap[kb+1]? =some (.cells #[.int .u64 (addr:Int)] 43 (0,0)):=(by rw[Aq,<-VU];exact(uL _ _ _ (by simp)).trans (ab V _));have hN3:W3.heap[kb+2]? =some (.cells #[.int .i64 (q:Int)] 3 (0,0)):=by
     rw[Aq];have:=ab (V.alloc (.cells #[.int .u64 (addr:Int)] 43)) (.cells #[.int .i64 (q:Int)] 3);rw[World.size_alloc,VU]at this;exact this
    have yh:=uH (WE.out.trans (vG.mono (by have:=WE.out.size;omega)));have Ms:=uH Kg;have KW:=uH hN3;have Ky:=uH ((vG.block _ (by omega)).trans HKV.out);rw[<-Aq];clear Aq vG Kg hN3 nV VU;refine bI rfl (by omega) (gf:=155) (lb:= #[.pointer (some ⟨kb+1+1,0,none⟩), .pointer (some ⟨kb+1,0,none⟩)]) rfl trivial (enters_of Tryz.func155 (by kernel_rfl) rfl) ?_;rw[xq];intro fn2 hfn2 rec2 IT;refine(gG (9-1) (by omega) (kb+3+1) (kb+1+1) (kb+1) (by omega) (addr,q) (by have:=ND.out.1;simp only at this⊢;omega) (fun j W=>StJ2 w B c a fs m s t root n cap A rl S S1 F vp p1 L1 T1 hold d (addr,q) ob kb A1 vj all1 j W/\W.heap[kb+3+1]? =some (.loop (rec2 .ready none)))
     (fun W=>False) ?_ ?_ _ ?_).mono ?_
    ·rintro j W ⟨⟨p',Z,cz,h1,h2,h3⟩,_⟩;exact h2.pg
    ·rintro j W ⟨hJ,hl⟩ vN;refine br trivial IT hl rfl ?_;obtain⟨p4,Z,cz,vX,xO,zh,CF,JJ,Wp,Pm⟩:=hJ;obtain⟨x,hx⟩: ∃x,x=(pst (addr,q) j).1:=⟨_,rfl⟩;obtain⟨M,hM⟩: ∃M,M=pm (pst (addr,q) j):=⟨_,rfl⟩;obtain⟨R,hR⟩: ∃R,R=(pst (addr,q) j).2:=⟨_,rfl⟩;rw[<-hx,<-hM];rw[<-hR]at xO JJ Pm;have yY:j<all1.length:=by
      rw[ye.out.len];rcases Nat.lt_or_ge j k with h9|h9
      ·exact h9
      ·have:=gy Rw.out (j-k);rw[show k+(j-k)=j by omega]at this;omega
     obtain⟨lf,vY⟩: ∃lf,all1[j]? =some lf:=⟨_,uN yY⟩;obtain⟨Hz,DG⟩:=ye.out.there j lf vY;rw[<-hx]at Hz;have hM0:0<M:=(by rw[hM];exact sL vN);have hMR:M<=R:=(by rw[hM,hR];exact pm_le _);have Be:M<=4096-x % 4096:=(by rw[hM,hx];exact Nat.min_le_right _ _);have HX:=uH hx;have HM:=uH hM;have HRR:=uH hR;have wW:=uH vX;have wh:=uH xO;have yS:=uH zh;have Kx:=uH CF;have QA:=uH JJ;have UE:=uH Wp;have FQ:=uH vY;have xV:=uH Hz;have Rp:=uH DG;have yR:=uH vN;have HL:=uH hl;clear hx hM hR vX xO zh CF JJ Wp vY Hz DG vN IT hl
     gi_wp2
     refine⟨HL.out,?_⟩;obtain⟨W5,Gu⟩: ∃W5,W5=W.putObj (kb+3+1) (.loop (rec2 .busy none)):=⟨_,rfl⟩;rw[<-Gu];have wH:Mod (fun b=>b=kb+3+1) W W5:=(by rw[Gu];exact az);have Gi:W5.heap[kb+3+1]? =some (.loop (rec2 .busy none)):=(by rw[Gu];exact World.putObj_heap_same (uG HL.out).1);have vv:=wW.out.set wH (fun b e=> .inr (by omega));have yN:=wh.out.keep Eh (W':=W5) (fun b h1=>by
      rcases Nat.lt_or_ge b W.heap.size with h3|h3
      ·exact wH.block b h3 (by omega)
      ·rw[Array.getElem?_eq_none h3,Array.getElem?_eq_none];rw[Gu,World.putObj_size];exact h3)
     rcases yS.out.form with⟨_,h0,_⟩|⟨gA,Tm,_⟩
     ·rw[h0]at yY;cases yY
     subst Tm;obtain⟨fr,pr,cp⟩:=lf;have xl:cp=false:=Rp.out;subst xl;have Ay:OwnG 83 3 ip W5 (ob+5) (some ⟨gA,0,none⟩) vj all1:=yS.out.same fun g hg=>wH.block g ((yS.out.blk g (by rw[hg];rfl)).2) (fun e=>(wW.out.own g (.inl (.inr (by rw[hg];rfl)))).2.2 |> fun _ =>by
      subst e;have h9:=HL.out;rcases yS.out.2 with⟨h8,_⟩|⟨g',vh,cur,h7,_,h6,_⟩
      ·cases h8
      ·injection h7 with h7;injection hg with hg;injection h7 with h7;injection h7 with h7;injection hg with hg;rw[<-h7,hg,h9]at h6;cases h6)
     have c0:W5.cell? ⟨w.heap.size,0,none⟩=some (.pointer (some ⟨s,0,none⟩)):=aa yN.b0 0;have s1:W5.cell? ⟨s,1,none⟩=some (.pointer (some ⟨a,0,none⟩)):=aa vv.one.self 1;have ox:W5.cell? ⟨ob,0,none⟩=some (.slice (some ⟨gA,0,none⟩) all1.length vj):=aa yN.out 0;have kx:W5.cell? ⟨kb,0,none⟩=some (.int .i64 (j:Int)):=aa yN.num 0;have bx:W5.cell? ⟨w.heap.size+1,0,none⟩=some (.slice Z R cz):=aa yN.b1 0;have lx:W5.cell? ⟨gA,j*3,none⟩=some (.int .i64 (fr:Int)):=Ay.cell nh FQ.out 0 (by decide);have Dj:(0:Int)<=(j:Int):=(by omega);have wA:(j:Int)<(all1.length:Int):=(by omega);have hMz:M<=cz:=(by omega);have hMz2:(M:Int)<=(cz:Int):=(by omega);have hM0':(0:Int)<=(M:Int):=(by omega);obtain⟨u,hu⟩: ∃u:Int,(x:Int) % 4096=u:=⟨_,rfl⟩;have QL:((x % 4096:Nat):Int)=u:=(by omega);have Xf:(x:Int).tmod 4096=u:=(by rw[Int.tmod_eq_emod_of_nonneg (by omega),hu]);have WV:IntKind.i64.wrap u=u:=(by rw[IntKind.wrap_i64];omega);have SI:Tryz.prog.follows .mixedOrders=true:=(by kernel_rfl);have HU2:=uH QL;have zY:=uH vv;have Aa:=uH yN;have CT:=uH Ay;have ZN:=uH Gi;clear vv yN Ay Gi wH Gu QL;gi_upto_region 18 with(fail);refine bO (fun w'=>w'.cell? ⟨w.heap.size,0,none⟩=some (.pointer (some ⟨s,0,none⟩))/\w'.cell? ⟨s,1,none⟩=some (.pointer (some ⟨a,0,none⟩))/\w'.cell? ⟨ob,0,none⟩=some (.slice (some ⟨gA,0,none⟩) all1.length vj)/\w'.cell? ⟨kb,0,none⟩=some (.int .i64 (j:Int))/\w'.cell? ⟨w.heap.size+1,0,none⟩=some (.slice Z R cz)/\w'.cell? ⟨gA,j*3,none⟩=some (.int .i64 (fr:Int))) 15 (by kernel_rfl) (by kernel_rfl) (cR.of 14 (by kernel_rfl) (by kernel_rfl)) ⟨c0,s1,ox,kx,bx,lx⟩ ?_;intro Qo Bh;refine zt 0 ?_;refine zt 1 ?_;refine zt 2 ?_;refine zt 3 ?_;refine zt 4 ?_;refine zt 5 ?_;refine zt 6 ?_;refine zt 7 ?_;refine zt 8 ?_;refine zt 9 ?_;refine zt 10 ?_;refine zt 11 ?_;refine zt 12 ?_;refine zt 13 ?_;refine zt 14 ?_;refine aY 15 (by kernel_rfl) rfl rfl (fun K' hK=>?_)
     go_simp
     obtain⟨v1,v2,v3,v4,v5,v6⟩:=Kx.out.sp.leaf xV.out;dsimp only at v2 v3 v4 v5 v6;have xi:=gt a fr (x % 4096) M cz Z (fun i=>d (x-addr+i)) W5.drew S1 p4 zY.out.home.cache.pool.drew v3 v4 (by omega) Be (((by have h9:=QA.out;rw[<-HX.out]at h9;exact h9:au w Z R (fun i=>d (x-addr+i))).head hMR).run (zY.out.mod.trans (Out.refl _ _) (Mod.of ((vg _ _).drew))) UE.out) (fun i=>HD.out _);rw[HU2.out]at xi;have Dw:=uH xi;clear xi v1 v2 v5 v6;refine(Dw.out).mono ?_;rintro e W6 ⟨rfl,Cr,En⟩;have yX:=En.undrew;obtain⟨wT,Bc⟩:=zY.out.pool Cr yX;go_wp2_with fail;refine hK.out _ _ ?_;clear hK K';refine aZ (by kernel_rfl) ?_ _;refine aP ?_;have vS:=Aa.out.keep Eh (W':=W6) (fun b h1=>Bc b (h1.elim (fun h=> .inl (.inl (by omega))) (fun h=> .inr (by omega))));have xX:=(Bc (kb+3+1) (.inr (by omega))).trans ZN.out;have Bq:OwnG 83 3 ip W6 (ob+5) (some ⟨gA,0,none⟩) vj all1:=CT.out.same fun g hg=>Bc g (.inl (.inr (by rw[hg];rfl)));have bx6:W6.cell? ⟨w.heap.size+1,0,none⟩=some (.slice Z R cz):=aa vS.b1 0;have bf6:=ae vS.b1 0;have hbl6:w.heap.size+1<W6.heap.size:=(uG vS.b1).1;have hne1:w.heap.size+1≠kb:=(by omega);obtain⟨Z2,hZ2⟩: ∃Z2,Z2=if cz=M then Z else Z.map (·.add M):=⟨_,rfl⟩
     have kx6:(W6.setCell ⟨w.heap.size+1,0,none⟩ (.slice Z2 (R-M) (cz-M))).cell? ⟨kb,0,none⟩=some (.int .i64 (j:Int)):=aa (((aj (S:=fun b=>b=w.heap.size+1) rfl 0 _).block _ (uG vS.num).1 (by omega)).trans vS.num) 0;have kf6:=ae (((aj (S:=fun b=>b=w.heap.size+1) (w:=W6) rfl 0 (.slice Z2 (R-M) (cz-M))).block _ (uG vS.num).1 (by omega)).trans vS.num) 0;have hwj:IntKind.i64.wrap ((j:Int)+1)=(j:Int)+1:=(by rw[IntKind.wrap_i64];have:=ye.out.len;omega);have NB:=uH wT;have wm:=uH vS;have Rv:=uH xX;have BR:=uH Bq;have HZ2:=uH hZ2;clear wT vS xX Bq Bc yX En Cr c0 s1 ox kx bx lx hu Xf WV Bh hZ2;by_cases Ps:cz=M
     ·have PA:Z2=Z:=(by rw[HZ2.out,if_pos Ps]);gi_upto_region 20 with(fail);rw[show Value.slice Z (R-M) 0= .slice Z2 (R-M) (cz-M) by rw[PA,Ps,Nat.sub_self]];have HC:=uH PA;have ZY:=uH Ps;clear Ps PA;obtain⟨W7,EF⟩: ∃W7,W7=W6.setCell ⟨w.heap.size+1,0,none⟩ (.slice Z2 (R-M) (cz-M)):=⟨_,rfl⟩;rw[<-EF]at kx6 kf6⊢;have wI:Mod (fun b=>b=w.heap.size+1) W6 W7:=(by rw[EF];exact aj (S:=fun b=>b=w.heap.size+1) rfl 0 _);have Us:W7.heap[w.heap.size+1]? =some (.cells #[.slice Z2 (R-M) (cz-M)] 39 (0,0)):=(by rw[EF];exact bd wm.out.b1);have Ht:=uH wI;have FZ:=uH Us;clear EF wI Us
      gi_wp2
      obtain⟨W8,PC⟩: ∃W8,W8=W7.setCell ⟨kb,0,none⟩ (.int .i64 ((j:Int)+1)):=⟨_,rfl⟩;rw[<-PC];have ym:Mod (fun b=>b=kb) W7 W8:=(by rw[PC];exact aj (S:=fun b=>b=kb) rfl 0 _);have Ij:W7.heap[kb]? =some (.cells #[.int .i64 (j:Int)] 3 (0,0)):=(Ht.out.block _ (uG wm.out.num).1 (by omega)).trans wm.out.num;have YK:W8.heap[kb]? =some (.cells #[.int .i64 ((j+1:Nat):Int)] 3 (0,0)):=(by rw[PC];exact bd Ij);have yM: ∀ {b:Nat} {o:Obj},W6.heap[b]? =some o->b≠w.heap.size+1->W7.heap[b]? =some o:=fun h1 h2=>(Ht.out.block _ (uG h1).1 h2).trans h1;have yL: ∀ {b:Nat} {o:Obj},W7.heap[b]? =some o->b≠kb->W8.heap[b]? =some o:=fun h1 h2=>(ym.block _ (uG h1).1 h2).trans h1;have MU:=yL (yM Rv.out (by omega)) (by omega);have AP:=az (l:=kb+3+1) (o:= .loop (rec2 .ready none)) (W:=W8);have AF: ∀ {b:Nat} {o:Obj},W8.heap[b]? =some o->b≠kb+3+1->(W8.putObj (kb+3+1) (.loop (rec2 .ready none))).heap[b]? =some o:=fun h1 h2=>(AP.block _ (uG h1).1 h2).trans h1;have Dd:PgSt (W8.putObj (kb+3+1) (.loop (rec2 .ready none))) (kb+2) (kb+1) (pst (addr,q) j):=⟨AF (yL (yM wm.out.pg.n (by omega)) (by omega)) (by omega),AF (yL (yM wm.out.pg.a (by omega)) (by omega)) (by omega)⟩;obtain⟨IY,xA⟩:=gz Dd (by omega) (pst (addr,q) (j+1));have Et: ∀ {b:Nat} {o:Obj},W8.heap[b]? =some o->b≠kb+3+1->b≠kb+1->b≠kb+2->(cn (W8.putObj (kb+3+1) (.loop (rec2 .ready none))) (kb+2) (kb+1) (pst (addr,q) (j+1))).heap[b]? =some o:=fun h1 h2 h3 h4=>(xA.block _ (uG (AF h1 h2)).1 (by omega)).trans (AF h1 h2);have yp:(pst (addr,q) (j+1)).1=x+M:=(by rw[HX.out,HM.out];rfl);have Dc:(pst (addr,q) (j+1)).2=R-M:=(by rw[HRR.out,HM.out];rfl);have hxa:addr<=x:=(by have:=pK (addr,q) j;have:=dh (addr,q) j;rw[HX.out];dsimp only at *;omega);have Au:=((((NB.out.set Ht.out (fun b e=> .inl (.inl (by omega)))).set ym (fun b e=> .inr (by omega))).set AP (fun b e=> .inr (by omega))).set xA (fun b e=> .inr (by omega)));have Ja:OwnG 83 3 ip (cn (W8.putObj (kb+3+1) (.loop (rec2 .ready none))) (kb+2) (kb+1) (pst (addr,q) (j+1))) (ob+5) (some ⟨gA,0,none⟩) vj all1:=BR.out.same fun g hg=>by
       injection hg with hg;injection hg with hg;subst hg;rcases BR.out.2 with⟨h8,_⟩|⟨g',vh,cur,h7,h70,h6,_⟩
       ·cases h8
       ·injection h7 with h7;injection h7 with h7;injection h7 with h7;subst h7;have GV:gA≠kb:=fun e=>by rw[e,wm.out.num]at h6;injection h6 with h6;injection h6 with _ h6;cases h6
        have Df:gA≠kb+1:=fun e=>by rw[e,wm.out.pg.a]at h6;injection h6 with h6;injection h6 with _ h6;cases h6
        have Xz:gA≠kb+2:=fun e=>by rw[e,wm.out.pg.n]at h6;injection h6 with h6;injection h6 with _ h6;cases h6
        have El:gA≠kb+3+1:=fun e=>by rw[e,Rv.out]at h6;cases h6
        rw[h6];exact Et (yL (yM h6 (by omega)) GV) El Df Xz
      have Es:=Kx.out.step yR.out (by rw[<-HX.out];exact xV.out) rfl (e:=fun i=>d (x-addr+i)) (fun i hi=>by rw[<-HX.out]);rw[<-HX.out,<-HM.out]at Es;refine⟨MU,rfl,Dd,⟨_,Z2,cz-M,Au,⟨IY,Et (yL (yM wm.out.mark (by omega)) (by omega)) (by omega) (by omega) (by omega),Et (yL (yM wm.out.mark2 (by omega)) (by omega)) (by omega) (by omega) (by omega),Et (yL (yM wm.out.b0 (by omega)) (by omega)) (by omega) (by omega) (by omega),?_,Et (yL (yM wm.out.b2 (by omega)) (by omega)) (by omega) (by omega) (by omega),Et (yL (yM wm.out.out (by omega)) (by omega)) (by omega) (by omega) (by omega),Et YK (by omega) (by omega) (by omega)⟩,Ja,Es,?_,?_,?_⟩,?_⟩
      ·rw[Dc];exact Et (yL FZ.out (by omega)) (by omega) (by omega) (by omega)
      ·rw[Dc,yp,HC.out];intro h0
       first
       |(
         have h9:=(QA.out.cut M) h0;obtain⟨ad,h1,h2⟩:=h9;exact⟨ad,h1,fun i hi=>(h2 i hi).trans (by show some (Value.int .u8 ((d ((pst (addr,q) j).1-(addr,q).1+(M+i)):Nat):Int))=_;rw[<-HX.out,show x-(addr,q).1+(M+i)=x+M-(addr,q).1+i by(dsimp only;omega)])⟩)
       |(exfalso;have:=ZY.out;omega)
      ·rw[HC.out];intro ad hA
       first
       |exact UE.out ad hA
       |(
         cases Z with
         |none=>cases hA
         |some z=>
          injection hA with hA;subst hA;rw[Addr.add_blk];exact UE.out z rfl)
      ·rw[Dc];omega
      ·have GX:=(uG MU).1;exact(xA.block _ (by rw[World.putObj_size];exact GX) (by omega)).trans (World.putObj_heap_same GX)
     ·have PA:Z2=Z.map (·.add M):=(by rw[HZ2.out,if_neg Ps]);gi_upto_region 20 with(fail);rw[show Value.slice (Option.map (fun x=>x.add M) Z) (R-M) (cz-M)= .slice Z2 (R-M) (cz-M) by rw[PA]];have HC:=uH PA;have ZY:=uH Ps;clear Ps PA;obtain⟨W7,EF⟩: ∃W7,W7=W6.setCell ⟨w.heap.size+1,0,none⟩ (.slice Z2 (R-M) (cz-M)):=⟨_,rfl⟩;rw[<-EF]at kx6 kf6⊢;have wI:Mod (fun b=>b=w.heap.size+1) W6 W7:=(by rw[EF];exact aj (S:=fun b=>b=w.heap.size+1) rfl 0 _);have Us:W7.heap[w.heap.size+1]? =some (.cells #[.slice Z2 (R-M) (cz-M)] 39 (0,0)):=(by rw[EF];exact bd wm.out.b1);have Ht:=uH wI;have FZ:=uH Us;clear EF wI Us
      gi_wp2
      obtain⟨W8,PC⟩: ∃W8,W8=W7.setCell ⟨kb,0,none⟩ (.int .i64 ((j:Int)+1)):=⟨_,rfl⟩;rw[<-PC];have ym:Mod (fun b=>b=kb) W7 W8:=(by rw[PC];exact aj (S:=fun b=>b=kb) rfl 0 _);have Ij:W7.heap[kb]? =some (.cells #[.int .i64 (j:Int)] 3 (0,0)):=(Ht.out.block _ (uG wm.out.num).1 (by omega)).trans wm.out.num;have YK:W8.heap[kb]? =some (.cells #[.int .i64 ((j+1:Nat):Int)] 3 (0,0)):=(by rw[PC];exact bd Ij);have yM: ∀ {b:Nat} {o:Obj},W6.heap[b]? =some o->b≠w.heap.size+1->W7.heap[b]? =some o:=fun h1 h2=>(Ht.out.block _ (uG h1).1 h2).trans h1;have yL: ∀ {b:Nat} {o:Obj},W7.heap[b]? =some o->b≠kb->W8.heap[b]? =some o:=fun h1 h2=>(ym.block _ (uG h1).1 h2).trans h1;have MU:=yL (yM Rv.out (by omega)) (by omega);have AP:=az (l:=kb+3+1) (o:= .loop (rec2 .ready none)) (W:=W8);have AF: ∀ {b:Nat} {o:Obj},W8.heap[b]? =some o->b≠kb+3+1->(W8.putObj (kb+3+1) (.loop (rec2 .ready none))).heap[b]? =some o:=fun h1 h2=>(AP.block _ (uG h1).1 h2).trans h1;have Dd:PgSt (W8.putObj (kb+3+1) (.loop (rec2 .ready none))) (kb+2) (kb+1) (pst (addr,q) j):=⟨AF (yL (yM wm.out.pg.n (by omega)) (by omega)) (by omega),AF (yL (yM wm.out.pg.a (by omega)) (by omega)) (by omega)⟩;obtain⟨IY,xA⟩:=gz Dd (by omega) (pst (addr,q) (j+1));have Et: ∀ {b:Nat} {o:Obj},W8.heap[b]? =some o->b≠kb+3+1->b≠kb+1->b≠kb+2->(cn (W8.putObj (kb+3+1) (.loop (rec2 .ready none))) (kb+2) (kb+1) (pst (addr,q) (j+1))).heap[b]? =some o:=fun h1 h2 h3 h4=>(xA.block _ (uG (AF h1 h2)).1 (by omega)).trans (AF h1 h2);have yp:(pst (addr,q) (j+1)).1=x+M:=(by rw[HX.out,HM.out];rfl);have Dc:(pst (addr,q) (j+1)).2=R-M:=(by rw[HRR.out,HM.out];rfl);have hxa:addr<=x:=(by have:=pK (addr,q) j;have:=dh (addr,q) j;rw[HX.out];dsimp only at *;omega);have Au:=((((NB.out.set Ht.out (fun b e=> .inl (.inl (by omega)))).set ym (fun b e=> .inr (by omega))).set AP (fun b e=> .inr (by omega))).set xA (fun b e=> .inr (by omega)));have Ja:OwnG 83 3 ip (cn (W8.putObj (kb+3+1) (.loop (rec2 .ready none))) (kb+2) (kb+1) (pst (addr,q) (j+1))) (ob+5) (some ⟨gA,0,none⟩) vj all1:=BR.out.same fun g hg=>by
       injection hg with hg;injection hg with hg;subst hg;rcases BR.out.2 with⟨h8,_⟩|⟨g',vh,cur,h7,h70,h6,_⟩
       ·cases h8
       ·injection h7 with h7;injection h7 with h7;injection h7 with h7;subst h7;have GV:gA≠kb:=fun e=>by rw[e,wm.out.num]at h6;injection h6 with h6;injection h6 with _ h6;cases h6
        have Df:gA≠kb+1:=fun e=>by rw[e,wm.out.pg.a]at h6;injection h6 with h6;injection h6 with _ h6;cases h6
        have Xz:gA≠kb+2:=fun e=>by rw[e,wm.out.pg.n]at h6;injection h6 with h6;injection h6 with _ h6;cases h6
        have El:gA≠kb+3+1:=fun e=>by rw[e,Rv.out]at h6;cases h6
        rw[h6];exact Et (yL (yM h6 (by omega)) GV) El Df Xz
      have Es:=Kx.out.step yR.out (by rw[<-HX.out];exact xV.out) rfl (e:=fun i=>d (x-addr+i)) (fun i hi=>by rw[<-HX.out]);rw[<-HX.out,<-HM.out]at Es;refine⟨MU,rfl,Dd,⟨_,Z2,cz-M,Au,⟨IY,Et (yL (yM wm.out.mark (by omega)) (by omega)) (by omega) (by omega) (by omega),Et (yL (yM wm.out.mark2 (by omega)) (by omega)) (by omega) (by omega) (by omega),Et (yL (yM wm.out.b0 (by omega)) (by omega)) (by omega) (by omega) (by omega),?_,Et (yL (yM wm.out.b2 (by omega)) (by omega)) (by omega) (by omega) (by omega),Et (yL (yM wm.out.out (by omega)) (by omega)) (by omega) (by omega) (by omega),Et YK (by omega) (by omega) (by omega)⟩,Ja,Es,?_,?_,?_⟩,?_⟩
      ·rw[Dc];exact Et (yL FZ.out (by omega)) (by omega) (by omega) (by omega)
      ·rw[Dc,yp,HC.out];intro h0
       first
       |(
         have h9:=(QA.out.cut M) h0;obtain⟨ad,h1,h2⟩:=h9;exact⟨ad,h1,fun i hi=>(h2 i hi).trans (by show some (Value.int .u8 ((d ((pst (addr,q) j).1-(addr,q).1+(M+i)):Nat):Int))=_;rw[<-HX.out,show x-(addr,q).1+(M+i)=x+M-(addr,q).1+i by(dsimp only;omega)])⟩)
       |(exfalso;have:=ZY.out;omega)
      ·rw[HC.out];intro ad hA
       first
       |exact UE.out ad hA
       |(
         cases Z with
         |none=>cases hA
         |some z=>
          injection hA with hA;subst hA;rw[Addr.add_blk];exact UE.out z rfl)
      ·rw[Dc];omega
      ·have GX:=(uG MU).1;exact(xA.block _ (by rw[World.putObj_size];exact GX) (by omega)).trans (World.putObj_heap_same GX)
    ·have vD:Below W3.heap.size W3 ((W3.alloc (.deferred (some []))).alloc (.loop (rec2 .ready none))):=uJ.alloc (by simp) _;have wX:=((vP.out.below yh.out).below vD).sub (K':=StK w ob kb A1) (fun b e=>by
      rcases e with e|e
      ·exact .inl (.inl e)
      ·rcases Nat.lt_or_ge b W3.heap.size with h1|h1
       ·exact .inl (.inr ⟨by have:=HKB.out;omega,h1⟩)
       ·exact .inr ⟨h1,by simp[xq];omega⟩)
     have xR: ∀ {b:Nat} {o:Obj},W3.heap[b]? =some o->((W3.alloc (.deferred (some []))).alloc (.loop (rec2 .ready none))).heap[b]? =some o:=fun h1=>(bX (uG h1).1).trans h1;have yn: ∀ {b:Nat} {o:Obj},W2.heap[b]? =some o->((W3.alloc (.deferred (some []))).alloc (.loop (rec2 .ready none))).heap[b]? =some o:=fun h1=>xR ((yh.out.block _ (uG h1).1).trans h1);have vA:OwnG 83 3 ip ((W3.alloc (.deferred (some []))).alloc (.loop (rec2 .ready none))) (ob+5) A1 vj all1:=CW.out.same fun g hg=>by
      have h9:=(CW.out.blk g (by rw[hg];rfl)).2;exact(bX (by have:=yh.out.size;omega)).trans (yh.out.block g h9)
     have h00:(pst (addr,q) 0).1-(addr,q).1=0:=Nat.sub_self _;refine⟨⟨p1,Ab,cq,wX,⟨⟨xR KW.out,xR Ms.out⟩,yn xo.out.mark,?_,yn xo.out.b0,yn xo.out.b1,yn xo.out.b2,?_,xR Ky.out⟩,vA,?_,?_,Hw.out,Ef⟩,?_⟩
     ·have:=ab W3 (.deferred (some []));rw[xq]at this;exact(uL _ _ _ (by simp[xq])).trans this
     ·rw[ye.out.len];exact yn xo.out.out
     ·rw[h00];exact Lays.start ye.out.seen.kept.sp ye.out.seen.kept.own
     ·rw[h00];have h9:(fun i=>d (0+i))=d:=(by funext i;rw[Nat.zero_add]);rw[h9];exact VF.out
     ·have:=ab (W3.alloc (.deferred (some []))) (.loop (rec2 .ready none))
      rwa [World.size_alloc,xq]at this
    ·rintro e W ⟨hv,⟨j,Dj,⟨p4,Z,cz,vX,xO,zh,CF,JJ,Wp,Pm⟩,hl⟩|hF⟩
     rotate_left
     ·exact hF.elim
     refine⟨hv, .inl ⟨hl,?_⟩⟩;obtain⟨W5,Gu⟩: ∃W5,W5=W.putObj (kb+3+1) (.loop (rec2 .exhausted none)):=⟨_,rfl⟩;rw[<-Gu];have wH:Mod (fun b=>b=kb+3+1) W W5:=(by rw[Gu];exact az);have vv:=vX.set wH (fun b e=> .inr (by omega));have xk: ∀ {b:Nat} {o:Obj},W.heap[b]? =some o->b≠kb+3+1->W5.heap[b]? =some o:=fun h1 h2=>(wH.block _ (uG h1).1 h2).trans h1;have Uj:=xk xO.b2 (by omega);have JZ:=xk xO.mark (by omega);have hM6:=xk xO.mark2 (by omega);have xQ:=dh (addr,q) j;rw[Dj,Nat.add_zero]at xQ;rw[xQ,show(addr,q).1+(addr,q).2-(addr,q).1=q by simp]at CF;have e0:W5.cell? ⟨w.heap.size+1+1,0,none⟩=some (.int .i64 0):=aa Uj 0;have ef0:=ae Uj 0;have helt5:w.heap.size+1+1<W5.heap.size:=(uG Uj).1;have zY:=uH vv;have HE5:=uH Uj;have BV:=uH JZ;have KX:=uH hM6;have ZM:=uH CF;clear Gu wH vv xk Uj JZ hM6 xQ CF vX xO zh JJ Wp Pm hl hv Dj IT;unfold dk
     gi_wp2
     have Ca:=Iq.out W5 (.int .i64 0);have wT:=zY.out.set Ca (fun b e=> .inl (.inl (by omega)));have he6:(W5.setCell ⟨w.heap.size+1+1,0,none⟩ (.int .i64 0)).heap[w.heap.size+1+1]? =some (.cells #[.int .i64 0] 32 (0,0)):=bd HE5.out;have zG:=(Ca.block _ (uG KX.out).1 (by omega)).trans KX.out;have hK1:=(Ca.block _ (uG BV.out).1 (by omega)).trans BV.out;refine⟨by simp, .inl ⟨_,_,rfl,run_takeDeferred zG,?_⟩⟩;have Bt:=az (l:=kb+3) (o:= .deferred none) (W:=W5.setCell ⟨w.heap.size+1+1,0,none⟩ (.int .i64 0));have Aw:=wT.set Bt (fun b e=> .inr (by omega));have he7:=(Bt.block _ (uG he6).1 (by omega)).trans he6;have Gy:=(Bt.block _ (uG hK1).1 (by omega)).trans hK1;refine⟨by simp, .inl ⟨_,_,rfl,run_takeDeferred Gy,?_⟩⟩;have MO:=az (l:=ob+3) (o:= .deferred none) (W:=(W5.setCell ⟨w.heap.size+1+1,0,none⟩ (.int .i64 0)).putObj (kb+3) (.deferred none));have Av:=Aw.set MO (fun b e=> .inl (.inl (by omega)));have he8:=(MO.block _ (uG he7).1 (by omega)).trans he7;have c2:=aa he8 0;refine⟨.int .i64 0,by simp[results,Tryz.results71,go_sem,c2],?_⟩;exact⟨0,p4,L1,T1,vp,S1,rfl,Av.home.cache,Av.mod,Av.out,xw,by omega, .inr (.inr (.inr ⟨KK,Ma.out,rfl,k,all1,p1,Rw.out,ye.out,ZM.out⟩))⟩
end
