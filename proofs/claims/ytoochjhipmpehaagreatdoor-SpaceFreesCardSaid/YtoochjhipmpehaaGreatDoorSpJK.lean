/- Spaces: store. -/
import Derived.Test.YtoochjhipmpehaaGreatDoorSpIK
set_option linter.unusedVariables false
set_option linter.unusedSimpArgs false
set_option maxRecDepth 100000
set_option maxHeartbeats 8000000
namespace Go.Proofs.YtoochjhipmpehaaGreatDoor
section
open Go.RowKit Go.Sort
attribute [local go_sem] Oper.semAt_some
def iq (l:Leaf):List Value:=[.int .i64 (l.frame:Int), .int .u8 (l.prot:Int), .bool l.copy]
theorem mZ:Elem 209 83 3 16 (.agg #[.int .i64 0, .int .u8 0, .bool false]) iq:=
 ⟨Tryz.underlying209,by kernel_rfl,rfl,by decide,by decide,fun _ =>rfl,fun x v hv=>by simp[iq]at hv;rcases hv with rfl|rfl|rfl<;>rfl⟩
variable {k:Nat} {w:World}
theorem OwnG.blk {α:Type} {T:TypeId} {C:α->List Value} {base cap:Nat} {R:Option Addr} {L:List α} (h:OwnG T k C w base R cap L): ∀g,R.map (·.block)=some g->base<=g/\g<w.heap.size:=fun g e=>by
 rcases h.form with⟨h1,_⟩|⟨g',h1,h2,h3,_⟩
 ·rw[h1]at e;cases e
 ·rw[h1]at e;simp at e;subst e;exact⟨h2,h3⟩
theorem Addr.add_blk (ad:Addr) (j:Nat):(ad.add j).block=ad.block:=by unfold Addr.add;split<;>rfl
variable {W:World} {Z:Option Addr} {n:Nat} {d:Nat->Nat}
theorem aw.run {G:Nat->Prop} (h:aw w Z n d) (hm:Mod G w W) (hZ: ∀ad,Z=some ad->ad.block<w.heap.size/\ ¬G ad.block):aw W Z n d:=fun h0=>by
 obtain⟨ad,e,hc⟩:=h h0;obtain⟨h1,h2⟩:=hZ ad e;exact⟨ad,e,fun j hj=>(World.cell?_of_block (by rw[Addr.add_blk];exact hm.block _ h1 h2)).trans (hc j hj)⟩
theorem aw.cut (h:aw w Z n d) (m:Nat):aw w (Z.map (·.add m)) (n-m) (fun i=>d (m+i)):=fun h0=>by
 obtain⟨ad,e,hc⟩:=h (by omega);exact⟨ad.add m,by rw[e];rfl,fun j hj=>by rw[Addr.add_add];exact hc _ (by omega)⟩
variable {m:Nat}
theorem aw.head (h:aw w Z n d) (hm:m<=n):aw w Z m d:=fun h0=>by
 obtain⟨ad,e,hc⟩:=h (by omega);exact⟨ad,e,fun j hj=>hc j (by omega)⟩
structure ut (F:List Nd) (hold:Nat->Nat) (rl:List Reg) (x:Nat×Nat) (p:Pool) (L:List Slot) (T:Tab) (p':Pool) (L':List Slot) (T':Tab):Prop where
 seen:Seen F hold rl p L T p' L' T'
 only: ∀g,T.lf g=none->(∀j,0<(pst x j).2->g≠(pst x j).1/4096)->T'.lf g=none
 full:Full hold p' T'
structure ur (w W:World) (s ob:Nat) (V:Value) (x:Nat×Nat) (k:Nat) (m:Nat) (A':Option Addr) (vk:Nat):Prop where
 pg:PgSt W (ob+2) (ob+1) (pst x k)
 mark:W.heap[ob+3]? =some (.deferred (some []))
 b0:W.heap[w.heap.size]? =some (.cells #[.pointer (some ⟨s,0,none⟩)] 60 (0,0))
 b1:W.heap[w.heap.size+1]? =some (.cells #[V] 39 (0,0))
 b2:W.heap[w.heap.size+1+1]? =some (.cells #[.int .i64 0] 32 (0,0))
 out:W.heap[ob]? =some (.cells #[.slice A' m vk] 209 (0,0))
variable {W':World} {s ob vk:Nat} {V:Value} {x:Nat×Nat} {A':Option Addr}
theorem ur.keep (h:ur w W s ob V x k m A' vk) (Lz:w.heap.size+3<=ob) (hk: ∀b,w.heap.size<=b->b<ob+4->W'.heap[b]? =W.heap[b]?):ur w W' s ob V x k m A' vk:=
 ⟨⟨(hk _ (by omega) (by omega)).trans h.pg.n,(hk _ (by omega) (by omega)).trans h.pg.a⟩,(hk _ (by omega) (by omega)).trans h.mark,(hk _ (by omega) (by omega)).trans h.b0,(hk _ (by omega) (by omega)).trans h.b1,(hk _ (by omega) (by omega)).trans h.b2,(hk _ (by omega) (by omega)).trans h.out⟩
def StJ (w:World) (B c a fs m s t root n cap:Nat) (A:Option Addr) (rl:List Reg) (S:Nat->Prop) (F:List Nd) (clock:Int) (p:Pool) (L:List Slot) (T:Tab) (hold:Nat->Nat) (V:Value) (x:Nat×Nat) (ob k:Nat) (W:World):Prop:=
 ∃p' L' T' vm S' A' vk all,Run w W (av S c m) (LdK w ob A') B c a fs m s t root A n cap rl S S' F vm p' L'/\ur w W s ob V x k k A' vk/\OwnG 83 3 iq W (ob+5) A' vk all/\Owns F hold rl x k p L T all p' L' T'/\clock<=vm/\vm<=clock+k/\ ∀j,j<k->0<(pst x j).2
def StX (w:World) (B c a fs m s t root n cap:Nat) (A:Option Addr) (rl:List Reg) (S:Nat->Prop) (F:List Nd) (clock:Int) (p:Pool) (L:List Slot) (T:Tab) (hold:Nat->Nat) (x:Nat×Nat) (ob:Nat) (W:World):Prop:=
 ∃p' L' T' vm S',Run w W (av S c m) (LdK w ob none) B c a fs m s t root A n cap rl S S' F vm p' L'/\clock<=vm/\vm<=clock+32/\ut F hold rl x p L T p' L' T'/\W.heap[ob+3]? =some (.deferred (some []))/\W.heap[w.heap.size+1+1]? =some (.cells #[.int .i64 4] 32 (0,0))
structure qj (w W:World) (s ob kb:Nat) (V:Value) (x:Nat×Nat) (j k1:Nat) (A':Option Addr) (vk:Nat):Prop where
 pg:PgSt W (kb+2) (kb+1) (pst x j)
 mark:W.heap[ob+3]? =some (.deferred (some []))
 mark2:W.heap[kb+3]? =some (.deferred (some []))
 b0:W.heap[w.heap.size]? =some (.cells #[.pointer (some ⟨s,0,none⟩)] 60 (0,0))
 b1:W.heap[w.heap.size+1]? =some (.cells #[V] 39 (0,0))
 b2:W.heap[w.heap.size+1+1]? =some (.cells #[.int .i64 0] 32 (0,0))
 out:W.heap[ob]? =some (.cells #[.slice A' k1 vk] 209 (0,0))
 num:W.heap[kb]? =some (.cells #[.int .i64 (j:Int)] 3 (0,0))
theorem qj.keep {kb j k1:Nat} (h:qj w W s ob kb V x j k1 A' vk) (Lz:w.heap.size+3<=ob) (hk: ∀b,(w.heap.size<=b/\b<ob+4)\/(kb<=b/\b<kb+4)->W'.heap[b]? =W.heap[b]?):qj w W' s ob kb V x j k1 A' vk:=
 ⟨⟨(hk _ (by omega)).trans h.pg.n,(hk _ (by omega)).trans h.pg.a⟩,(hk _ (by omega)).trans h.mark,(hk _ (by omega)).trans h.mark2,(hk _ (by omega)).trans h.b0,(hk _ (by omega)).trans h.b1,(hk _ (by omega)).trans h.b2,(hk _ (by omega)).trans h.out,(hk _ (by omega)).trans h.num⟩
def StK (w:World) (ob kb:Nat) (A':Option Addr):Nat->Prop:=fun b=>LdK w ob A' b\/(kb<=b/\b<kb+5)
def StJ2 (w:World) (B c a fs m s t root n cap:Nat) (A:Option Addr) (rl:List Reg) (S0 S:Nat->Prop) (F:List Nd) (clock:Int) (p:Pool) (L:List Slot) (T:Tab) (hold:Nat->Nat) (d:Nat->Nat) (x:Nat×Nat) (ob kb:Nat) (A':Option Addr) (vk:Nat) (all:List Leaf) (j:Nat) (W:World):Prop:=
 ∃p' Z cz,Run w W (av S0 c m) (StK w ob kb A') B c a fs m s t root A n cap rl S0 S F clock p' L/\qj w W s ob kb (.slice Z (pst x j).2 cz) x j all.length A' vk/\OwnG 83 3 iq W (ob+5) A' vk all/\Lays F hold rl x d ((pst x j).1-x.1) p L T p'/\aw w Z (pst x j).2 (fun i=>d ((pst x j).1-x.1+i))/\(∀ad,Z=some ad->ad.block<w.heap.size/\ ¬av S0 c m ad.block)/\(pst x j).2<=cz
def dQ (F:List Nd) (hold:Nat->Nat) (rl:List Reg) (p:Pool) (L:List Slot) (T:Tab) (addr q:Nat) (d:Nat->Nat) (want:Int) (er:Int) (p':Pool) (L':List Slot) (T':Tab):Prop:=
 (65536<q/\er=1/\p'=p/\L'=L/\T'=T)\/
 (q<=65536/\en rl (addr,q) want=false/\er=6/\p'=p/\L'=L/\T'=T)\/
 (q<=65536/\en rl (addr,q) want=true/\er=4/\ut F hold rl (addr,q) p L T p' L' T')\/
 (q<=65536/\en rl (addr,q) want=true/\er=0/\ ∃j all p1,(pst (addr,q) j).2=0/\Owns F hold rl (addr,q) j p L T all p1 L' T'/\Lays F hold rl (addr,q) d q p1 L' T' p')
def nO (w:World) (S:Nat->Prop) (c a fs m:Nat) (F:List Nd) (rl:List Reg) (clock:Int) (p:Pool) (L:List Slot) (T:Tab) (hold:Nat->Nat) (addr q:Nat) (d:Nat->Nat) (want:Int) (e:Ending) (w':World):Prop:=
 ∃er p' L' T' vm S',e= .returned (.int .i64 er)/\ap w' S' c a fs m vm p' L'/\Mod (av S c m) w w'/\Out S S' w/\clock<=vm/\vm<=clock+32/\dQ F hold rl p L T addr q d want er p' L' T'
theorem qy (B c a fs m s t root n cap addr q cq:Nat) (want:Int) (A Ab:Option Addr) (d:Nat->Nat) (rl:List Reg) (clock:Int) (w:World) (S:Nat->Prop) (F:List Nd) (p:Pool) (L:List Slot) (T:Tab) (hold:Nat->Nat)
  (hH:Home w B c a fs m S F clock p L) (hO:One w B c a m S s t root A n cap rl) (yw:Sp F hold p L T) (ho:Own p T) (hr:T.nd 4 0=some root) (hR:Rgs F rl) (vW:addr<18446744073709551616) (wT: ∀f,hold f<=100000000000) (Al:0<=clock/\clock+32<1000000)
  (hq:q<9223372036854775808) (ES:q<=cq) (hb:aw w Ab q d) (hd: ∀j,d j<256) (ED: ∀ad,Ab=some ad->ad.block<w.heap.size/\ ¬av S c m ad.block):
  Calls Tryz.prog 71 #[.pointer (some ⟨s,0,none⟩), .int .u64 (addr:Int), .slice Ab q cq, .int .u8 want] w (nO w S c a fs m F rl clock p L T hold addr q d want):=by
 refine(callsIn_wide (n:=9)).1 ?_;refine callsIn_of_wp_marks Tryz.func71 rfl trivial ?_;simp only[Tryz.ntmps71,List.size_toArray,uX,List.length_nil,Nat.reduceAdd,Nat.reduceSub,Array.replicate_succ,Array.replicate_zero,List.push_toArray,List.append_toArray,List.nil_append,List.cons_append];obtain⟨w0,vo⟩: ∃w0,w0=((w.alloc (.cells #[.pointer (some ⟨s,0,none⟩)] 60)).alloc (.cells #[.slice Ab q cq] 39)).alloc (.cells #[.int .i64 0] 32):=⟨_,rfl⟩;have wb:w0.heap.size=w.heap.size+1+1+1:=(by rw[vo];simp);have vp:Below w.heap.size w w0:=(by rw[vo];exact(uM.alloc (by simp) _).alloc (by simp;omega) _);have Fw:w0.heap[w.heap.size+1+1]? =some (.cells #[.int .i64 0] 32 (0,0)):=by
  rw[vo];have:=ab ((w.alloc (.cells #[.pointer (some ⟨s,0,none⟩)] 60)).alloc (.cells #[.slice Ab q cq] 39)) (.cells #[.int .i64 0] 32)
  rwa [World.size_alloc,World.size_alloc]at this
 have Jk:w0.heap[w.heap.size+1]? =some (.cells #[.slice Ab q cq] 39 (0,0)):=by
  rw[vo];have:=ab (w.alloc (.cells #[.pointer (some ⟨s,0,none⟩)] 60)) (.cells #[.slice Ab q cq] 39);rw[World.size_alloc]at this;exact(uO _ _ _ (by simp)).trans this
 have zZ:w0.heap[w.heap.size]? =some (.cells #[.pointer (some ⟨s,0,none⟩)] 60 (0,0)):=by
  rw[vo];exact(uO _ _ _ (by simp;omega)).trans ((uO _ _ _ (by simp)).trans (ab w _))
 have yZ:=(Run.start hH hO (fun _ e=>e)).below vp;have s0:w0.cell? ⟨w.heap.size,0,none⟩=some (.pointer (some ⟨s,0,none⟩)):=aa zZ 0;have n0:w0.cell? ⟨w.heap.size+1,0,none⟩=some (.slice Ab q cq):=aa Jk 0;have e0:w0.cell? ⟨w.heap.size+1+1,0,none⟩=some (.int .i64 0):=aa Fw 0;have ef0:=ae Fw 0;have Gh:w.heap.size+1<w0.heap.size:=(by omega);have Cf:w.heap.size+1+1<w0.heap.size:=(by omega);have vR:=uK vo;have CR:=uK wb;have VR:=uK Fw;have Ow:=uK Jk;have zG:=uK zZ;have yR:=uK yZ;have yQ:=uK yw;have zj:=uK ho;have HR:=uK hr;have Vm:=uK hR;have wI:=uK vp;have VZ:=uK hb;have HD:=uK hd;have Jb:=uK ED;have xQ:=eI s c a t n cap A w0 yZ.one.self;have wG:=uK xQ;clear xQ vo wb vp Fw Jk zZ yZ hH hO yw ho hr hR hb hd ED;have Tg:=fun(w0:World) (u:Value)=>al (S:=fun b=>b=w.heap.size+1+1) (w:=w0) (b:=w.heap.size+1+1) rfl 0 u;have Jp:=uK Tg;clear Tg;by_cases yO:(65536:Int)<(q:Int)
 ·have key:nO w S c a fs m F rl clock p L T hold addr q d want (.returned (.int .i64 1)) (w0.setCell ⟨w.heap.size+1+1,0,none⟩ (.int .i64 1)):=by
   have vJ:=yR.out.set (Jp.out w0 (.int .i64 1)) (fun b e=> .inr (by have:=CR.out;omega));exact⟨1,p,L,T,clock,S,rfl,vJ.home.cache,vJ.mod,vJ.out,Int.le_refl _,by omega, .inl ⟨by omega,rfl,rfl,rfl,rfl⟩⟩
  have KEY:=uK key;clear key;gi_wp2_with (first
   |(refine⟨trivial,?_⟩;rw[<-vR.out];refine(callsIn_wide.2 wG.out).mono ?_;rintro e w1 ⟨rfl,rfl⟩)
   |fail)
  exact⟨.int .i64 1,by simp[results,Tryz.results71,go_sem,e0,ef0,Cf],KEY.out⟩
 have Ly:q<=65536:=(by omega);have yx:=jE s c a t n cap A rl addr q want w0 yR.out.one.self yR.out.one.row vW (by omega);cases hpb:en rl (addr,q) want with
 |false=>
  rw[hpb]at yx;have CC:=uK yx;have ML:=uK hpb;clear yx hpb;gi_wp2_with (first
   |(refine⟨trivial,?_⟩;rw[<-vR.out];refine(callsIn_wide.2 wG.out).mono ?_;rintro e w1 ⟨rfl,rfl⟩)
   |(refine⟨trivial,?_⟩;refine(callsIn_wide.2 CC.out).mono ?_;rintro e w1 ⟨rfl,vl⟩;have vr:=(vl.block _ Cf).trans VR.out;have e1:w1.cell? ⟨w.heap.size+1+1,0,none⟩=some (.int .i64 0):=aa vr 0;have ef1:=ae vr 0;have Kw:w.heap.size+1+1<w1.heap.size:=(uJ vr).1)
   |fail)
  refine⟨.int .i64 6,by simp[results,Tryz.results71,go_sem,e1,ef1,Kw],?_⟩;have vJ:=(yR.out.below vl).set (Jp.out w1 (.int .i64 6)) (fun b e=> .inl (.inr (by have:=CR.out;omega)));exact⟨6,p,L,T,clock,S,rfl,vJ.home.cache,vJ.mod,vJ.out,Int.le_refl _,by omega, .inr (.inl ⟨Ly,ML.out,rfl,rfl,rfl,rfl⟩)⟩
 |true=>
  have SJ:Perm rl (addr,q) want:=by
   unfold en at hpb;exact @vc _ (Classical.propDecidable _) hpb
  rw[hpb]at yx;have CC:=uK yx;have ML:=uK hpb;have Oq:=uK SJ;clear yx hpb SJ;gi_upto_region 8 with(first
   |(refine⟨trivial,?_⟩;rw[<-vR.out];refine(callsIn_wide.2 wG.out).mono ?_;rintro e w1 ⟨rfl,rfl⟩)
   |(refine⟨trivial,?_⟩;refine(callsIn_wide.2 CC.out).mono ?_;rintro e w1 ⟨rfl,vl⟩;have LH:=(vl.block _ Gh).trans Ow.out;have n1: ∀o,(w1.alloc o).cell? ⟨w.heap.size+1,0,none⟩=some (.slice Ab q cq):=fun o=>aa ((uO _ _ _ (uJ LH).1).trans LH) 0)
   |fail)
  obtain⟨ob,Lz⟩: ∃ob,w1.heap.size=ob:=⟨_,rfl⟩;have EU:w.heap.size+3<=ob:=(by have:=vl.size;have:=CR.out;omega);obtain⟨wa,Jc⟩: ∃wa,wa=w1.alloc (.cells #[.slice none 0 0] 209):=⟨_,rfl⟩;have na:=n1 (.cells #[.slice none 0 0] 209);rw[<-Jc]at na;rw[<-Jc,Lz];have Nc:wa.heap.size=ob+1:=(by rw[Jc];simp[Lz]);have Rz:Below w0.heap.size w0 wa:=(by rw[Jc];exact vl.alloc vl.size _);have Us:wa.heap[ob]? =some (.cells #[.slice none 0 0] 209 (0,0)):=(by rw[Jc,<-Lz];exact ab w1 _);have WS:=uK Us;have Nb:=uK Rz;clear Jc Rz Us vl n1 LH;gi_wp2_with (first
   |(refine⟨trivial,?_⟩;refine(callsIn_wide.2 (gJ (addr:Int) (q:Int) wa)).mono ?_;rintro e w2 ⟨rfl,we⟩)
   |fail)
  have vS:w2.heap.size=ob+3:=(by rw[we];simp[Nc]);have vs:Below wa.heap.size wa w2:=(by rw[we];exact uM.alloc (by simp) _);have IS:w2.heap[ob+1]? =some (.cells #[.int .u64 (addr:Int)] 43 (0,0)):=(by rw[we,<-Nc];exact(uO _ _ _ (by simp)).trans (ab wa _));have Uu:w2.heap[ob+2]? =some (.cells #[.int .i64 (q:Int)] 3 (0,0)):=by
   rw[we];have:=ab (wa.alloc (.cells #[.int .u64 (addr:Int)] 43)) (.cells #[.int .i64 (q:Int)] 3);rw[World.size_alloc,Nc]at this;exact this
  have xi:=uK (Nb.out.trans (vs.mono (by have:=Nb.out.size;omega)));have Rc:=uK IS;have yu:=uK Uu;have CF:=uK ((vs.block _ (by omega)).trans WS.out);rw[<-we];clear we vs IS Uu na;refine bP rfl (by omega) (gf:=155) (lb:= #[.pointer (some ⟨ob+1+1,0,none⟩), .pointer (some ⟨ob+1,0,none⟩)]) rfl trivial (enters_of Tryz.func155 (by kernel_rfl) rfl) ?_;rw[vS];intro fn Dy rec xx;refine(gK (9-1) (by omega) (ob+3+1) (ob+1+1) (ob+1) (by omega) (addr,q) (by have:=Oq.out.1;simp only at this⊢;omega) (fun k W=>StJ w B c a fs m s t root n cap A rl S F clock p L T hold (.slice Ab q cq) (addr,q) ob k W/\W.heap[ob+3+1]? =some (.loop (rec .ready none)))
   (fun W=>StX w B c a fs m s t root n cap A rl S F clock p L T hold (addr,q) ob W/\W.heap[ob+3+1]? =some (.loop (rec .done (some .ret)))) ?_ ?_ _ ?_).mono ?_
  ·rintro k W ⟨⟨p',L',T',vm,S',A',vk,d,h1,h2,h3⟩,_⟩;exact h2.pg
  ·rintro k W ⟨hJ,hl⟩ vX;refine bB trivial xx hl rfl ?_;obtain⟨p1,L1,T1,vt,S1,A1,vn,all1,vJ,xB,ye,Ck,xY,Am,wS⟩:=hJ;obtain⟨x,hx⟩: ∃x,x=(pst (addr,q) k).1:=⟨_,rfl⟩;obtain⟨M,hM⟩: ∃M,M=pm (pst (addr,q) k):=⟨_,rfl⟩;rw[<-hx,<-hM];have vA:=lr (addr,q) k vX;dsimp only at vA;have Yg:k<=17:=(by omega);have HX:=uK hx;have HM:=uK hM;have DG:=uK vJ;have Lt:=uK xB;have CE:=uK ye;have yS:=uK Ck;have VH:=uK wS;have zH:=uK vX;have QE:=uK xx;have HL:=uK hl;clear hx hM vJ xB ye Ck wS vX xx hl vA
   gi_wp2
   refine⟨HL.out,?_⟩;obtain⟨W2,wo⟩: ∃W2,W2=W.putObj (ob+3+1) (.loop (rec .busy none)):=⟨_,rfl⟩;rw[<-wo];have vE:Mod (fun b=>b=ob+3+1) W W2:=(by rw[wo];exact az);have wk:W2.heap[ob+3+1]? =some (.loop (rec .busy none)):=(by rw[wo];exact World.putObj_heap_same (uJ HL.out).1);have vw:=DG.out.set vE (fun b e=> .inl (by omega));have wV:=Lt.out.keep EU (W':=W2) (fun b h1 h2=>by
    rcases Nat.lt_or_ge b W.heap.size with h3|h3
    ·exact vE.block b h3 (by omega)
    ·rw[Array.getElem?_eq_none h3,Array.getElem?_eq_none];rw[wo,World.putObj_size];exact h3)
   have zv:OwnG 83 3 iq W2 (ob+5) A1 vn all1:=
    CE.out.same fun g hg=>vE.block g ((CE.out.blk g (by rw[hg];rfl)).2) (fun e=>by have:=(CE.out.blk g (by rw[hg];rfl)).1;omega)
   obtain⟨r,xw,_⟩:=Oq.out.2 k zH.out;have Gv:Ask F rl r (x/4096):=Vm.out.ask (by rw[HX.out];exact xw);have Iq:x+(pst (addr,q) k).2=addr+q:=(by rw[HX.out];exact dt (addr,q) k);have hxb:x<=140737488355328:=(by have:=Oq.out.1;simp only at this;omega);have zd:IntKind.u64.wrap ((x:Int)/4096*4096)=(x:Int)/4096*4096:=(by rw[IntKind.wrap_u64];omega);have Ci:=sown_any B c a fs m s t root n cap (x/4096) A rl r vt ((x:Int)/4096*4096) W2 S1 F p1 L1 T1 hold vw.home vw.one yS.out.seen.kept.sp yS.out.seen.kept.own (yS.out.seen.kept.root _ HR.out) Gv (by omega) wT (by omega);have Af:(Rg.find rl ((((pst (addr,q) k).1/4096:Nat):Int)*4096)).1=r:=(by rw[<-HX.out,Gv.find]);have c0:W2.cell? ⟨w.heap.size,0,none⟩=some (.pointer (some ⟨s,0,none⟩)):=aa wV.b0 0;have XM:ob+5<=W2.heap.size:=(by have:=(uJ wk).1;omega);have Ha:=uK Ci;have Vn:=uK Af;have vZ:=uK vw;have xT:=uK wV;have DL:=uK zv;have GR:=uK wk;have HXS:=uK Iq;clear Ci Af vw wV zv wk Gv xw Iq vE wo;gi_upto_region 11 with(first
    |(refine⟨trivial,?_⟩;refine(CallsIn.inRound (ob+3+1) (callsIn_wide.2 Ha.out)).mono ?_;rintro e W3 ⟨er,⟨fr,pr,cp⟩,p3,L3,T3,Cx,S3,rfl,BM,wP,CW,Bb,yr,Cj⟩;unfold aq)
    |fail)
   obtain⟨W4,Ez⟩: ∃W4,W4=W3.alloc (.cells #[.int .i64 (fr:Int), .int .u8 (pr:Int), .bool cp] 83):=⟨_,rfl⟩;rw[<-Ez];obtain⟨wJ,Hn⟩:=vZ.out.call BM wP CW;have vN:Below W3.heap.size W3 W4:=(by rw[Ez];exact uM);have AU:W4.heap.size=W3.heap.size+1:=(by rw[Ez];simp);have Ft:W4.heap[W3.heap.size]? =some (.cells #[.int .i64 (fr:Int), .int .u8 (pr:Int), .bool cp] 83 (0,0)):=(by rw[Ez];exact ab W3 _);have xI:=wP.size;have wu:=(wJ.below vN).sub (K':=LdK w ob A1) (fun b e=> .inl e);have Br: ∀b,LdK w ob A1 b->W4.heap[b]? =W2.heap[b]? :=fun b hb=>(vN.block b ((vZ.out.own b hb).2.2 |> fun h=>by omega)).trans (Hn b hb);have yB:=xT.out.keep EU (W':=W4) (fun b h1 h2=>Br b (.inl (by omega)));have Mm:=(Br (ob+3+1) (.inl (by omega))).trans GR.out;have zV:OwnG 83 3 iq W4 (ob+5) A1 vn all1:=DL.out.same fun g hg=>Br g (.inr (by rw[hg];rfl));have xC:=uK wu;have wD:=uK yB;have MR:=uK Mm;have zI:=uK zV;have AS:=uK Ft;have Dn:=uK Cj;have RZ:w.heap.size<W4.heap.size:=(by omega);have vK:ob+5<=W4.heap.size:=(by omega);clear wJ Hn vN Ft wu Br yB Mm zV Cj BM wP CW Ez zd c0 AU xI;have e0:W4.cell? ⟨w.heap.size+1+1,0,none⟩=some (.int .i64 0):=aa wD.out.b2 0;have ef0:=ae wD.out.b2 0;by_cases zR:er=0
   rotate_left
   ·have vB:(er != 0)=true:=(by rw[bne_iff_ne];exact zR);obtain⟨Kv,Sq,So,Sn⟩:=yS.out.fail zH.out Vn.out (by rw[<-HX.out];exact Dn.out) zR;subst Kv;have GH:=uK (ut.mk Sq So Sn);clear Sq So Sn zR
    gi_wp2
    have CL:=Jp.out W4 (.int .i64 4);have vC:=xC.out.set CL (fun b e=> .inl (by omega));have Hl:=(CL.block _ (uJ MR.out).1 (by omega)).trans MR.out;have wy:=(CL.block _ (uJ wD.out.mark).1 (by omega)).trans wD.out.mark;have Mp:(W4.setCell ⟨w.heap.size+1+1,0,none⟩ (.int .i64 4)).heap[w.heap.size+1+1]? =some (.cells #[.int .i64 4] 32 (0,0)):=bq wD.out.b2;refine⟨Hl, .inr ⟨rfl,?_,World.putObj_heap_same (uJ Hl).1⟩⟩;have BA:=az (l:=ob+3+1) (o:= .loop (rec .done (some .ret))) (W:=W4.setCell ⟨w.heap.size+1+1,0,none⟩ (.int .i64 4));have xz:=vC.set BA (fun b e=> .inl (by omega));have Bp: ∀ {b:Nat} {o:Obj},(W4.setCell ⟨w.heap.size+1+1,0,none⟩ (.int .i64 4)).heap[b]? =some o->b≠ob+3+1->((W4.setCell ⟨w.heap.size+1+1,0,none⟩ (.int .i64 4)).putObj (ob+3+1) (.loop (rec .done (some .ret)))).heap[b]? =some o:=fun h1 h2=>(BA.block _ (uJ h1).1 h2).trans h1;exact⟨p3,L3,T3,Cx,S3,xz.sub (fun b e=>e.elim .inl (fun e=>by cases e)),by omega,by omega,GH.out,Bp wy (by omega),Bp Mp (by omega)⟩
   subst zR;have hOW:=Dn.out.got rfl;have NH:k=all1.length:=yS.out.len.symm;have VC:=uK NH;have HOW:=uK hOW;obtain⟨⟨x0,x1,x2⟩,_,_⟩:=box3 AS.out;have o4:W4.cell? ⟨ob,0,none⟩=some (.slice A1 k vn):=aa wD.out.out 0;have Pp:ob<W4.heap.size:=(by omega);clear hOW NH;gi_upto_region 13 with(fail);gi_wp2_with (gi_at_builtin;refine uf mZ rfl (.tmp 48) (.tmp 50) rfl (ob+5) A1 vn k all1 VC.out rfl (zI.out.alloc _) ⟨fr,pr,cp⟩ W4.heap.size 1 rfl (ab W4 _) (by omega) (by simp;omega) ?_;intro g Bd W6 BZ Ey Dd Ba;have EA:=((cC Ey).block ob (by simp;omega) (fun e=>by have:=(zI.out.blk ob e).1;omega)).trans ((uO _ _ _ Pp).trans wD.out.out);have o6:=aa EA 0;have of6:=ae EA 0);obtain⟨W7,Fu⟩: ∃W7,W7=W6.setCell ⟨ob,0,none⟩ (.slice (some ⟨g,0,none⟩) (k+1) Bd):=⟨_,rfl⟩;rw[<-Fu];have xj:Mod (fun b=>b=ob) W6 W7:=(by rw[Fu];exact al (S:=fun b=>b=ob) rfl 0 _);have DE:W7.heap[ob]? =some (.cells #[.slice (some ⟨g,0,none⟩) (k+1) Bd] 209 (0,0)):=(by rw[Fu];exact bq EA);obtain⟨W5,Hx⟩: ∃W5,W5=W4.alloc (.cells #[.int .i64 (fr:Int), .int .u8 (pr:Int), .bool cp] 83):=⟨_,rfl⟩;rw[<-Hx]at Ey;have Ug:Below W4.heap.size W4 W5:=(by rw[Hx];exact uM);have Lw:W5.heap.size=W4.heap.size+1:=(by rw[Hx];simp);have Uk:A1.map (·.block)=some g\/g=W5.heap.size:=(by rw[Hx];exact Dd);have Rf:=(cC Ey).size;have BJ: ∀b,w.heap.size<=b->b<ob+5->W6.heap[b]? =W4.heap[b]? :=fun b h1 h2=>((cC Ey).block b (by omega) (fun e=>by have:=(zI.out.blk b e).1;omega)).trans (Ug.block b (by omega));have zC: ∀b,w.heap.size<=b->b<ob+5->b≠ob->W7.heap[b]? =W4.heap[b]? :=fun b h1 h2 h3=>(xj.block b (by omega) h3).trans (BJ b h1 h2);have FO:=(zC (ob+3+1) (by omega) (by omega) (by omega)).trans MR.out;have BA:=az (l:=ob+3+1) (o:= .loop (rec .ready none)) (W:=W7);have zB: ∀ {b:Nat} {o:Obj},W7.heap[b]? =some o->b≠ob+3+1->(W7.putObj (ob+3+1) (.loop (rec .ready none))).heap[b]? =some o:=fun h1 h2=>(BA.block _ (uJ h1).1 h2).trans h1;have JW:PgSt (W7.putObj (ob+3+1) (.loop (rec .ready none))) (ob+2) (ob+1) (pst (addr,q) k):=⟨zB ((zC _ (by omega) (by omega) (by omega)).trans wD.out.pg.n) (by omega),zB ((zC _ (by omega) (by omega) (by omega)).trans wD.out.pg.a) (by omega)⟩;obtain⟨DS,zy⟩:=gE JW (by omega) (pst (addr,q) (k+1));have Bq: ∀ {b:Nat} {o:Obj},W7.heap[b]? =some o->b≠ob+3+1->b≠ob+1->b≠ob+2->(cB (W7.putObj (ob+3+1) (.loop (rec .ready none))) (ob+2) (ob+1) (pst (addr,q) (k+1))).heap[b]? =some o:=fun h1 h2 h3 h4=>(zy.block _ (uJ (zB h1 h2)).1 (by omega)).trans (zB h1 h2);have Dr:=((((((xC.out.below Ug).grow (cC Ey) (fun b e=> .inl (.inr e))).sub (K':=LdK w ob (some ⟨g,0,none⟩)) (fun b e=>by
    rcases e with e|e
    ·exact .inl (.inl (.inl e))
    ·have e2:b=g:=(by simpa using e.symm);subst e2;rcases Uk with h9|h9
     ·exact .inl (.inl (.inr h9))
     ·exact .inr ⟨by omega,Ba⟩)).set xj (fun b e=> .inl (by omega))).set BA (fun b e=> .inl (by omega))).set zy (fun b e=> .inl (by omega)))
   have Ew:ob+5<=g:=(by rcases Uk with h9|h9;exact(zI.out.blk g h9).1;omega);have BW:OwnG 83 3 iq (cB (W7.putObj (ob+3+1) (.loop (rec .ready none))) (ob+2) (ob+1) (pst (addr,q) (k+1))) (ob+5) (some ⟨g,0,none⟩) Bd (all1++[⟨fr,pr,cp⟩]):=by
    refine BZ.same fun g' Kt=>?_;injection Kt with Kt;injection Kt with Kt;subst Kt;exact((zy.block g (by have h1:=BA.size;have h2:=xj.size;exact uR Ba (vh h2 h1)) (by omega)).trans (BA.block g (by have h2:=xj.size;omega) (by omega))).trans (xj.block g Ba (by omega))
   have Mv:=yS.out.step zH.out Vn.out (by rw[<-HX.out];exact Dn.out);refine⟨FO, .inl ⟨rfl,JW,⟨p3,L3,T3,Cx,S3,some ⟨g,0,none⟩,Bd,_,Dr,⟨DS,Bq ((zC _ (by omega) (by omega) (by omega)).trans wD.out.mark) (by omega) (by omega) (by omega),Bq ((zC _ (by omega) (by omega) (by omega)).trans wD.out.b0) (by omega) (by omega) (by omega),Bq ((zC _ (by omega) (by omega) (by omega)).trans wD.out.b1) (by omega) (by omega) (by omega),Bq ((zC _ (by omega) (by omega) (by omega)).trans wD.out.b2) (by omega) (by omega) (by omega),Bq DE (by omega) (by omega) (by omega)⟩,BW,Mv,by omega,by omega,fun j hj=>(by rcases Nat.lt_or_ge j k with h9|h9;exact VH.out j h9;obtain rfl:j=k:=(by omega);exact zH.out)⟩,?_⟩⟩;have Kd:=(uJ FO).1;exact(zy.block _ (by rw[World.putObj_size];exact Kd) (by omega)).trans (World.putObj_heap_same Kd)
  ·have vN:Below w2.heap.size w2 ((w2.alloc (.deferred (some []))).alloc (.loop (rec .ready none))):=uM.alloc (by simp) _;have xq:=((yR.out.below xi.out).below vN).sub (K':=LdK w ob none) (fun b e=>by
    rcases e with e|e
    ·rcases Nat.lt_or_ge b w0.heap.size with h1|h1
     ·exact .inl (.inl (.inr ⟨e.1,h1⟩))
     ·rcases Nat.lt_or_ge b w2.heap.size with h2|h2
      ·exact .inl (.inr ⟨h1,h2⟩)
      ·exact .inr ⟨h2,by simp[vS];omega⟩
    ·cases e)
   have yz: ∀ {b:Nat} {o:Obj},w2.heap[b]? =some o->((w2.alloc (.deferred (some []))).alloc (.loop (rec .ready none))).heap[b]? =some o:=fun h1=>(cf (uJ h1).1).trans h1;have zb: ∀ {b:Nat} {o:Obj},w0.heap[b]? =some o->((w2.alloc (.deferred (some []))).alloc (.loop (rec .ready none))).heap[b]? =some o:=fun h1=>yz ((xi.out.block _ (uJ h1).1).trans h1);refine⟨⟨p,L,T,clock,S,none,0,[],xq,⟨⟨yz yu.out,yz Rc.out⟩,?_,zb zG.out,zb Ow.out,zb VR.out,yz CF.out⟩,OwnG.nil _ _,Owns.start yQ.out zj.out,Int.le_refl _,by omega,fun j hj=>absurd hj (by omega)⟩,?_⟩
   ·have:=ab w2 (.deferred (some []));rw[vS]at this;exact(uO _ _ _ (by simp[vS])).trans this
   ·have:=ab (w2.alloc (.deferred (some []))) (.loop (rec .ready none))
    rwa [World.size_alloc,vS]at this
  ·rintro e W ⟨hv,⟨k,zb,⟨p1,L1,T1,vt,S1,A1,vn,all1,vJ,xB,ye,Ck,xY,Am,wS⟩,hl⟩|⟨⟨p1,L1,T1,vt,S1,vJ,xY,Am,yE,Hj,he⟩,hl⟩⟩
   rotate_left
   ·refine⟨hv, .inr ⟨_,hl,?_⟩⟩;obtain⟨W2,wo⟩: ∃W2,W2=W.putObj (ob+3+1) (.loop (rec .exhausted (some .ret))):=⟨_,rfl⟩;rw[<-wo];have vE:Mod (fun b=>b=ob+3+1) W W2:=(by rw[wo];exact az);have vw:=vJ.set vE (fun b e=> .inl (by omega));have xP: ∀ {b:Nat} {o:Obj},W.heap[b]? =some o->b≠ob+3+1->W2.heap[b]? =some o:=fun h1 h2=>(vE.block _ (uJ h1).1 h2).trans h1;have LI:=xP he (by omega);have BL:=xP Hj (by omega);have vZ:=uK vw;have OF:=uK LI;have BP:=uK BL;have yk:=uK yE;clear wo vE vw xP LI BL vJ yE Hj he hl hv;unfold dv
    gi_wp2
    refine⟨by simp, .inl ⟨_,_,rfl,run_takeDeferred BP.out,?_⟩⟩;have Ca:=az (l:=ob+3) (o:= .deferred none) (W:=W2);have vC:=vZ.out.set Ca (fun b e=> .inl (by omega));have Mp:=(Ca.block _ (uJ OF.out).1 (by omega)).trans OF.out;have c2:=aa Mp 0;refine⟨.int .i64 4,by simp[results,Tryz.results71,go_sem,c2],?_⟩;exact⟨4,p1,L1,T1,vt,S1,rfl,vC.home.cache,vC.mod,vC.out,xY,Am, .inr (.inr (.inl ⟨Ly,ML.out,rfl,yk.out⟩))⟩
   ·refine⟨hv, .inl ⟨hl,?_⟩⟩;obtain⟨W2,wo⟩: ∃W2,W2=W.putObj (ob+3+1) (.loop (rec .exhausted none)):=⟨_,rfl⟩;rw[<-wo];have Yf:k<=32:=by
     rcases k with _ |k
     ·omega
     ·have:=lr (addr,q) k (wS k (by omega));dsimp only at this;omega
    have vE:Mod (fun b=>b=ob+3+1) W W2:=(by rw[wo];exact az);have vw:=vJ.set vE (fun b e=> .inl (by omega));have xP: ∀ {b:Nat} {o:Obj},W.heap[b]? =some o->b≠ob+3+1->W2.heap[b]? =some o:=fun h1 h2=>(vE.block _ (uJ h1).1 h2).trans h1;have wV:ur w W2 s ob (.slice Ab q cq) (addr,q) k k A1 vn:=⟨⟨xP xB.pg.n (by omega),xP xB.pg.a (by omega)⟩,xP xB.mark (by omega),xP xB.b0 (by omega),xP xB.b1 (by omega),xP xB.b2 (by omega),xP xB.out (by omega)⟩;have zv:OwnG 83 3 iq W2 (ob+5) A1 vn all1:=ye.same fun g hg=>vE.block g ((ye.blk g (by rw[hg];rfl)).2) (fun e=>by have:=(ye.blk g (by rw[hg];rfl)).1;omega);have vZ:=uK vw;have xT:=uK wV;have DL:=uK zv;have yS:=uK Ck;have RS:=uK zb;have QE:=uK xx;have HZW2:=uK vS;have n2: ∀o,(W2.alloc o).cell? ⟨w.heap.size+1,0,none⟩=some (.slice Ab q cq):=fun o=>aa ((uO _ _ _ (uJ wV.b1).1).trans wV.b1) 0;clear wo vE vw xP wV zv vJ xB ye Ck wS hl hv zb xx n0 s0 e0 ef0 vS;unfold dv;gi_upto_region 15 with(fail);obtain⟨kb,IF⟩: ∃kb,W2.heap.size=kb:=⟨_,rfl⟩;obtain⟨V,hV⟩: ∃V,V=W2.alloc (.cells #[.int .i64 0] 3):=⟨_,rfl⟩;have nV:=n2 (.cells #[.int .i64 0] 3);rw[<-hV]at nV;rw[<-hV,IF];have Wo:V.heap.size=kb+1:=(by rw[hV];simp[IF]);have hbV:Below W2.heap.size W2 V:=(by rw[hV];exact uM);have hKV:V.heap[kb]? =some (.cells #[.int .i64 0] 3 (0,0)):=(by rw[hV,<-IF];exact ab W2 _);have hobk:ob+5<=kb:=(by rw[<-IF];have:=(vZ.out.own (ob+4) (.inl (by omega))).2.2;omega);have HKV:=uK hKV;have WV:=uK hbV;have HKB:=uK IF;clear hV hKV hbV n2 IF;gi_wp2_with (first
     |(refine⟨trivial,?_⟩;refine(callsIn_wide.2 (gJ (addr:Int) (q:Int) V)).mono ?_;rintro e W3 ⟨rfl,Bc⟩)
     |fail)
    have xI:W3.heap.size=kb+3:=(by rw[Bc];simp[Wo]);have vx:Below V.heap.size V W3:=(by rw[Bc];exact uM.alloc (by simp) _);have KX:W3.heap[kb+1]? =some (.cells #[.int .u64 (addr:Int)] 43 (0,0)):=(by rw[Bc,<-Wo];exact(uO _ _ _ (by simp)).trans (ab V _));have hN3:W3.heap[kb+2]? =some (.cells #[.int .i64 (q:Int)] 3 (0,0)):=by
     rw[Bc];have:=ab (V.alloc (.cells #[.int .u64 (addr:Int)] 43)) (.cells #[.int .i64 (q:Int)] 3);rw[World.size_alloc,Wo]at this;exact this
    have yT:=uK (WV.out.trans (vx.mono (by have:=WV.out.size;omega)));have Ra:=uK KX;have LM:=uK hN3;have Ln:=uK ((vx.block _ (by omega)).trans HKV.out);rw[<-Bc];clear Bc vx KX hN3 nV Wo;refine bP rfl (by omega) (gf:=155) (lb:= #[.pointer (some ⟨kb+1+1,0,none⟩), .pointer (some ⟨kb+1,0,none⟩)]) rfl trivial (enters_of Tryz.func155 (by kernel_rfl) rfl) ?_;rw[xI];intro fn2 hfn2 rec2 JS;refine(gK (9-1) (by omega) (kb+3+1) (kb+1+1) (kb+1) (by omega) (addr,q) (by have:=Oq.out.1;simp only at this⊢;omega) (fun j W=>StJ2 w B c a fs m s t root n cap A rl S S1 F vt p1 L1 T1 hold d (addr,q) ob kb A1 vn all1 j W/\W.heap[kb+3+1]? =some (.loop (rec2 .ready none)))
     (fun W=>False) ?_ ?_ _ ?_).mono ?_
    ·rintro j W ⟨⟨p',Z,cz,h1,h2,h3⟩,_⟩;exact h2.pg
    ·rintro j W ⟨hJ,hl⟩ vX;refine bB trivial JS hl rfl ?_;obtain⟨p4,Z,cz,wu,yB,zV,Dv,KC,WE,PN⟩:=hJ;obtain⟨x,hx⟩: ∃x,x=(pst (addr,q) j).1:=⟨_,rfl⟩;obtain⟨M,hM⟩: ∃M,M=pm (pst (addr,q) j):=⟨_,rfl⟩;obtain⟨R,hR⟩: ∃R,R=(pst (addr,q) j).2:=⟨_,rfl⟩;rw[<-hx,<-hM];rw[<-hR]at yB KC PN;have zO:j<all1.length:=by
      rw[yS.out.len];rcases Nat.lt_or_ge j k with h9|h9
      ·exact h9
      ·have:=gD RS.out (j-k);rw[show k+(j-k)=j by omega]at this;omega
     obtain⟨lf,vP⟩: ∃lf,all1[j]? =some lf:=⟨_,uQ zO⟩;obtain⟨Jd,Er⟩:=yS.out.there j lf vP;rw[<-hx]at Jd;have hM0:0<M:=(by rw[hM];exact sN vX);have hMR:M<=R:=(by rw[hM,hR];exact pm_le _);have BL:M<=4096-x % 4096:=(by rw[hM,hx];exact Nat.min_le_right _ _);have HX:=uK hx;have HM:=uK hM;have HRR:=uK hR;have xC:=uK wu;have wD:=uK yB;have zI:=uK zV;have Lm:=uK Dv;have QV:=uK KC;have Va:=uK WE;have Az:=uK vP;have xR:=uK Jd;have Jn:=uK Er;have zH:=uK vX;have HL:=uK hl;clear hx hM hR wu yB zV Dv KC WE vP Jd Er vX JS hl
     gi_wp2
     refine⟨HL.out,?_⟩;obtain⟨W5,Hx⟩: ∃W5,W5=W.putObj (kb+3+1) (.loop (rec2 .busy none)):=⟨_,rfl⟩;rw[<-Hx];have wy:Mod (fun b=>b=kb+3+1) W W5:=(by rw[Hx];exact az);have Hl:W5.heap[kb+3+1]? =some (.loop (rec2 .busy none)):=(by rw[Hx];exact World.putObj_heap_same (uJ HL.out).1);have vC:=xC.out.set wy (fun b e=> .inr (by omega));have zD:=wD.out.keep EU (W':=W5) (fun b h1=>by
      rcases Nat.lt_or_ge b W.heap.size with h3|h3
      ·exact wy.block b h3 (by omega)
      ·rw[Array.getElem?_eq_none h3,Array.getElem?_eq_none];rw[Hx,World.putObj_size];exact h3)
     rcases zI.out.form with⟨_,h0,_⟩|⟨gA,TG,_⟩
     ·rw[h0]at zO;cases zO
     subst TG;obtain⟨fr,pr,cp⟩:=lf;have xN:cp=false:=Jn.out;subst xN;have Bm:OwnG 83 3 iq W5 (ob+5) (some ⟨gA,0,none⟩) vn all1:=zI.out.same fun g hg=>wy.block g ((zI.out.blk g (by rw[hg];rfl)).2) (fun e=>(xC.out.own g (.inl (.inr (by rw[hg];rfl)))).2.2 |> fun _ =>by
      subst e;have h9:=HL.out;rcases zI.out.2 with⟨h8,_⟩|⟨g',vk,cur,h7,_,h6,_⟩
      ·cases h8
      ·injection h7 with h7;injection hg with hg;injection h7 with h7;injection h7 with h7;injection hg with hg;rw[<-h7,hg,h9]at h6;cases h6)
     have c0:W5.cell? ⟨w.heap.size,0,none⟩=some (.pointer (some ⟨s,0,none⟩)):=aa zD.b0 0;have s1:W5.cell? ⟨s,1,none⟩=some (.pointer (some ⟨a,0,none⟩)):=aa vC.one.self 1;have ox:W5.cell? ⟨ob,0,none⟩=some (.slice (some ⟨gA,0,none⟩) all1.length vn):=aa zD.out 0;have kx:W5.cell? ⟨kb,0,none⟩=some (.int .i64 (j:Int)):=aa zD.num 0;have bx:W5.cell? ⟨w.heap.size+1,0,none⟩=some (.slice Z R cz):=aa zD.b1 0;have lx:W5.cell? ⟨gA,j*3,none⟩=some (.int .i64 (fr:Int)):=Bm.cell mZ Az.out 0 (by decide);have DX:(0:Int)<=(j:Int):=(by omega);have wS:(j:Int)<(all1.length:Int):=(by omega);have hMz:M<=cz:=(by omega);have hMz2:(M:Int)<=(cz:Int):=(by omega);have hM0':(0:Int)<=(M:Int):=(by omega);obtain⟨u,hu⟩: ∃u:Int,(x:Int) % 4096=u:=⟨_,rfl⟩;have Rl:((x % 4096:Nat):Int)=u:=(by omega);have Xw:(x:Int).tmod 4096=u:=(by rw[Int.tmod_eq_emod_of_nonneg (by omega),hu]);have Xl:IntKind.i64.wrap u=u:=(by rw[IntKind.wrap_i64];omega);have Te:Tryz.prog.follows .mixedOrders=true:=(by kernel_rfl);have HU2:=uK Rl;have AM:=uK vC;have AO:=uK zD;have DJ:=uK Bm;have HL5:=uK Hl;clear vC zD Bm Hl wy Hx Rl;gi_upto_region 18 with(fail);refine bU (fun w'=>w'.cell? ⟨w.heap.size,0,none⟩=some (.pointer (some ⟨s,0,none⟩))/\w'.cell? ⟨s,1,none⟩=some (.pointer (some ⟨a,0,none⟩))/\w'.cell? ⟨ob,0,none⟩=some (.slice (some ⟨gA,0,none⟩) all1.length vn)/\w'.cell? ⟨kb,0,none⟩=some (.int .i64 (j:Int))/\w'.cell? ⟨w.heap.size+1,0,none⟩=some (.slice Z R cz)/\w'.cell? ⟨gA,j*3,none⟩=some (.int .i64 (fr:Int))) 15 (by kernel_rfl) (by kernel_rfl) (cY.of 14 (by kernel_rfl) (by kernel_rfl)) ⟨c0,s1,ox,kx,bx,lx⟩ ?_;intro QI BO;refine zt 0 ?_;refine zt 1 ?_;refine zt 2 ?_;refine zt 3 ?_;refine zt 4 ?_;refine zt 5 ?_;refine zt 6 ?_;refine zt 7 ?_;refine zt 8 ?_;refine zt 9 ?_;refine zt 10 ?_;refine zt 11 ?_;refine zt 12 ?_;refine zt 13 ?_;refine zt 14 ?_;refine bg 15 (by kernel_rfl) rfl rfl (fun K' hK=>?_)
     go_simp
     obtain⟨v1,v2,v3,v4,v5,v6⟩:=Lm.out.sp.leaf xR.out;dsimp only at v2 v3 v4 v5 v6;have xL:=gx a fr (x % 4096) M cz Z (fun i=>d (x-addr+i)) W5.drew S1 p4 AM.out.home.cache.pool.drew v3 v4 (by omega) BL (((by have h9:=QV.out;rw[<-HX.out]at h9;exact h9:aw w Z R (fun i=>d (x-addr+i))).head hMR).run (AM.out.mod.trans (Out.refl _ _) (Mod.of ((vj _ _).drew))) Va.out) (fun i=>HD.out _);rw[HU2.out]at xL;have GG:=uK xL;clear xL v1 v2 v5 v6;refine(GG.out).mono ?_;rintro e W6 ⟨rfl,Df,EY⟩;have zN:=EY.undrew;obtain⟨xz,BJ⟩:=AM.out.pool Df zN;go_wp2_with fail;refine hK.out _ _ ?_;clear hK K';refine bj (by kernel_rfl) ?_ _;refine aV ?_;have wh:=AO.out.keep EU (W':=W6) (fun b h1=>BJ b (h1.elim (fun h=> .inl (.inl (by omega))) (fun h=> .inr (by omega))));have yV:=(BJ (kb+3+1) (.inr (by omega))).trans HL5.out;have BX:OwnG 83 3 iq W6 (ob+5) (some ⟨gA,0,none⟩) vn all1:=DJ.out.same fun g hg=>BJ g (.inl (.inr (by rw[hg];rfl)));have bx6:W6.cell? ⟨w.heap.size+1,0,none⟩=some (.slice Z R cz):=aa wh.b1 0;have bf6:=ae wh.b1 0;have hbl6:w.heap.size+1<W6.heap.size:=(uJ wh.b1).1;have hne1:w.heap.size+1≠kb:=(by omega);obtain⟨Z2,hZ2⟩: ∃Z2,Z2=if cz=M then Z else Z.map (·.add M):=⟨_,rfl⟩
     have kx6:(W6.setCell ⟨w.heap.size+1,0,none⟩ (.slice Z2 (R-M) (cz-M))).cell? ⟨kb,0,none⟩=some (.int .i64 (j:Int)):=aa (((al (S:=fun b=>b=w.heap.size+1) rfl 0 _).block _ (uJ wh.num).1 (by omega)).trans wh.num) 0;have kf6:=ae (((al (S:=fun b=>b=w.heap.size+1) (w:=W6) rfl 0 (.slice Z2 (R-M) (cz-M))).block _ (uJ wh.num).1 (by omega)).trans wh.num) 0;have hwj:IntKind.i64.wrap ((j:Int)+1)=(j:Int)+1:=(by rw[IntKind.wrap_i64];have:=yS.out.len;omega);have On:=uK xz;have wK:=uK wh;have RR:=uK yV;have CD:=uK BX;have HZ2:=uK hZ2;clear xz wh yV BX BJ zN EY Df c0 s1 ox kx bx lx hu Xw Xl BO hZ2;by_cases PT:cz=M
     ·have Qc:Z2=Z:=(by rw[HZ2.out,if_pos PT]);gi_upto_region 20 with(fail);rw[show Value.slice Z (R-M) 0= .slice Z2 (R-M) (cz-M) by rw[Qc,PT,Nat.sub_self]];have HC:=uK Qc;have HCM:=uK PT;clear PT Qc;obtain⟨W7,Fu⟩: ∃W7,W7=W6.setCell ⟨w.heap.size+1,0,none⟩ (.slice Z2 (R-M) (cz-M)):=⟨_,rfl⟩;rw[<-Fu]at kx6 kf6⊢;have xj:Mod (fun b=>b=w.heap.size+1) W6 W7:=(by rw[Fu];exact al (S:=fun b=>b=w.heap.size+1) rfl 0 _);have UP:W7.heap[w.heap.size+1]? =some (.cells #[.slice Z2 (R-M) (cz-M)] 39 (0,0)):=(by rw[Fu];exact bq wK.out.b1);have IY:=uK xj;have Js:=uK UP;clear Fu xj UP
      gi_wp2
      obtain⟨W8,Qe⟩: ∃W8,W8=W7.setCell ⟨kb,0,none⟩ (.int .i64 ((j:Int)+1)):=⟨_,rfl⟩;rw[<-Qe];have za:Mod (fun b=>b=kb) W7 W8:=(by rw[Qe];exact al (S:=fun b=>b=kb) rfl 0 _);have Jj:W7.heap[kb]? =some (.cells #[.int .i64 (j:Int)] 3 (0,0)):=(IY.out.block _ (uJ wK.out.num).1 (by omega)).trans wK.out.num;have YZ:W8.heap[kb]? =some (.cells #[.int .i64 ((j+1:Nat):Int)] 3 (0,0)):=(by rw[Qe];exact bq Jj);have zC: ∀ {b:Nat} {o:Obj},W6.heap[b]? =some o->b≠w.heap.size+1->W7.heap[b]? =some o:=fun h1 h2=>(IY.out.block _ (uJ h1).1 h2).trans h1;have zB: ∀ {b:Nat} {o:Obj},W7.heap[b]? =some o->b≠kb->W8.heap[b]? =some o:=fun h1 h2=>(za.block _ (uJ h1).1 h2).trans h1;have NI:=zB (zC RR.out (by omega)) (by omega);have BA:=az (l:=kb+3+1) (o:= .loop (rec2 .ready none)) (W:=W8);have Bq: ∀ {b:Nat} {o:Obj},W8.heap[b]? =some o->b≠kb+3+1->(W8.putObj (kb+3+1) (.loop (rec2 .ready none))).heap[b]? =some o:=fun h1 h2=>(BA.block _ (uJ h1).1 h2).trans h1;have DS:PgSt (W8.putObj (kb+3+1) (.loop (rec2 .ready none))) (kb+2) (kb+1) (pst (addr,q) j):=⟨Bq (zB (zC wK.out.pg.n (by omega)) (by omega)) (by omega),Bq (zB (zC wK.out.pg.a (by omega)) (by omega)) (by omega)⟩;obtain⟨JX,yg⟩:=gE DS (by omega) (pst (addr,q) (j+1));have Ff: ∀ {b:Nat} {o:Obj},W8.heap[b]? =some o->b≠kb+3+1->b≠kb+1->b≠kb+2->(cB (W8.putObj (kb+3+1) (.loop (rec2 .ready none))) (kb+2) (kb+1) (pst (addr,q) (j+1))).heap[b]? =some o:=fun h1 h2 h3 h4=>(yg.block _ (uJ (Bq h1 h2)).1 (by omega)).trans (Bq h1 h2);have zL:(pst (addr,q) (j+1)).1=x+M:=(by rw[HX.out,HM.out];rfl);have DR:(pst (addr,q) (j+1)).2=R-M:=(by rw[HRR.out,HM.out];rfl);have hxa:addr<=x:=(by have:=pQ (addr,q) j;have:=dt (addr,q) j;rw[HX.out];dsimp only at *;omega);have Bh:=((((On.out.set IY.out (fun b e=> .inl (.inl (by omega)))).set za (fun b e=> .inr (by omega))).set BA (fun b e=> .inr (by omega))).set yg (fun b e=> .inr (by omega)));have JZ:OwnG 83 3 iq (cB (W8.putObj (kb+3+1) (.loop (rec2 .ready none))) (kb+2) (kb+1) (pst (addr,q) (j+1))) (ob+5) (some ⟨gA,0,none⟩) vn all1:=CD.out.same fun g hg=>by
       injection hg with hg;injection hg with hg;subst hg;rcases CD.out.2 with⟨h8,_⟩|⟨g',vk,cur,h7,h70,h6,_⟩
       ·cases h8
       ·injection h7 with h7;injection h7 with h7;injection h7 with h7;subst h7;have Iz:gA≠kb:=fun e=>by rw[e,wK.out.num]at h6;injection h6 with h6;injection h6 with _ h6;cases h6
        have Gj:gA≠kb+1:=fun e=>by rw[e,wK.out.pg.a]at h6;injection h6 with h6;injection h6 with _ h6;cases h6
        have Rr:gA≠kb+2:=fun e=>by rw[e,wK.out.pg.n]at h6;injection h6 with h6;injection h6 with _ h6;cases h6
        have EX:gA≠kb+3+1:=fun e=>by rw[e,RR.out]at h6;cases h6
        rw[h6];exact Ff (zB (zC h6 (by omega)) Iz) EX Gj Rr
      have Fc:=Lm.out.step zH.out (by rw[<-HX.out];exact xR.out) rfl (e:=fun i=>d (x-addr+i)) (fun i hi=>by rw[<-HX.out]);rw[<-HX.out,<-HM.out]at Fc;refine⟨NI,rfl,DS,⟨_,Z2,cz-M,Bh,⟨JX,Ff (zB (zC wK.out.mark (by omega)) (by omega)) (by omega) (by omega) (by omega),Ff (zB (zC wK.out.mark2 (by omega)) (by omega)) (by omega) (by omega) (by omega),Ff (zB (zC wK.out.b0 (by omega)) (by omega)) (by omega) (by omega) (by omega),?_,Ff (zB (zC wK.out.b2 (by omega)) (by omega)) (by omega) (by omega) (by omega),Ff (zB (zC wK.out.out (by omega)) (by omega)) (by omega) (by omega) (by omega),Ff YZ (by omega) (by omega) (by omega)⟩,JZ,Fc,?_,?_,?_⟩,?_⟩
      ·rw[DR];exact Ff (zB Js.out (by omega)) (by omega) (by omega) (by omega)
      ·rw[DR,zL,HC.out];intro h0
       first
       |(
         have h9:=(QV.out.cut M) h0;obtain⟨ad,h1,h2⟩:=h9;exact⟨ad,h1,fun i hi=>(h2 i hi).trans (by show some (Value.int .u8 ((d ((pst (addr,q) j).1-(addr,q).1+(M+i)):Nat):Int))=_;rw[<-HX.out,show x-(addr,q).1+(M+i)=x+M-(addr,q).1+i by(dsimp only;omega)])⟩)
       |(exfalso;have:=HCM.out;omega)
      ·rw[HC.out];intro ad hA
       first
       |exact Va.out ad hA
       |(
         cases Z with
         |none=>cases hA
         |some z=>
          injection hA with hA;subst hA;rw[Addr.add_blk];exact Va.out z rfl)
      ·rw[DR];omega
      ·have ID:=(uJ NI).1;exact(yg.block _ (by rw[World.putObj_size];exact ID) (by omega)).trans (World.putObj_heap_same ID)
     ·have Qc:Z2=Z.map (·.add M):=(by rw[HZ2.out,if_neg PT]);gi_upto_region 20 with(fail);rw[show Value.slice (Option.map (fun x=>x.add M) Z) (R-M) (cz-M)= .slice Z2 (R-M) (cz-M) by rw[Qc]];have HC:=uK Qc;have HCM:=uK PT;clear PT Qc;obtain⟨W7,Fu⟩: ∃W7,W7=W6.setCell ⟨w.heap.size+1,0,none⟩ (.slice Z2 (R-M) (cz-M)):=⟨_,rfl⟩;rw[<-Fu]at kx6 kf6⊢;have xj:Mod (fun b=>b=w.heap.size+1) W6 W7:=(by rw[Fu];exact al (S:=fun b=>b=w.heap.size+1) rfl 0 _);have UP:W7.heap[w.heap.size+1]? =some (.cells #[.slice Z2 (R-M) (cz-M)] 39 (0,0)):=(by rw[Fu];exact bq wK.out.b1);have IY:=uK xj;have Js:=uK UP;clear Fu xj UP
      gi_wp2
      obtain⟨W8,Qe⟩: ∃W8,W8=W7.setCell ⟨kb,0,none⟩ (.int .i64 ((j:Int)+1)):=⟨_,rfl⟩;rw[<-Qe];have za:Mod (fun b=>b=kb) W7 W8:=(by rw[Qe];exact al (S:=fun b=>b=kb) rfl 0 _);have Jj:W7.heap[kb]? =some (.cells #[.int .i64 (j:Int)] 3 (0,0)):=(IY.out.block _ (uJ wK.out.num).1 (by omega)).trans wK.out.num;have YZ:W8.heap[kb]? =some (.cells #[.int .i64 ((j+1:Nat):Int)] 3 (0,0)):=(by rw[Qe];exact bq Jj);have zC: ∀ {b:Nat} {o:Obj},W6.heap[b]? =some o->b≠w.heap.size+1->W7.heap[b]? =some o:=fun h1 h2=>(IY.out.block _ (uJ h1).1 h2).trans h1;have zB: ∀ {b:Nat} {o:Obj},W7.heap[b]? =some o->b≠kb->W8.heap[b]? =some o:=fun h1 h2=>(za.block _ (uJ h1).1 h2).trans h1;have NI:=zB (zC RR.out (by omega)) (by omega);have BA:=az (l:=kb+3+1) (o:= .loop (rec2 .ready none)) (W:=W8);have Bq: ∀ {b:Nat} {o:Obj},W8.heap[b]? =some o->b≠kb+3+1->(W8.putObj (kb+3+1) (.loop (rec2 .ready none))).heap[b]? =some o:=fun h1 h2=>(BA.block _ (uJ h1).1 h2).trans h1;have DS:PgSt (W8.putObj (kb+3+1) (.loop (rec2 .ready none))) (kb+2) (kb+1) (pst (addr,q) j):=⟨Bq (zB (zC wK.out.pg.n (by omega)) (by omega)) (by omega),Bq (zB (zC wK.out.pg.a (by omega)) (by omega)) (by omega)⟩;obtain⟨JX,yg⟩:=gE DS (by omega) (pst (addr,q) (j+1));have Ff: ∀ {b:Nat} {o:Obj},W8.heap[b]? =some o->b≠kb+3+1->b≠kb+1->b≠kb+2->(cB (W8.putObj (kb+3+1) (.loop (rec2 .ready none))) (kb+2) (kb+1) (pst (addr,q) (j+1))).heap[b]? =some o:=fun h1 h2 h3 h4=>(yg.block _ (uJ (Bq h1 h2)).1 (by omega)).trans (Bq h1 h2);have zL:(pst (addr,q) (j+1)).1=x+M:=(by rw[HX.out,HM.out];rfl);have DR:(pst (addr,q) (j+1)).2=R-M:=(by rw[HRR.out,HM.out];rfl);have hxa:addr<=x:=(by have:=pQ (addr,q) j;have:=dt (addr,q) j;rw[HX.out];dsimp only at *;omega);have Bh:=((((On.out.set IY.out (fun b e=> .inl (.inl (by omega)))).set za (fun b e=> .inr (by omega))).set BA (fun b e=> .inr (by omega))).set yg (fun b e=> .inr (by omega)));have JZ:OwnG 83 3 iq (cB (W8.putObj (kb+3+1) (.loop (rec2 .ready none))) (kb+2) (kb+1) (pst (addr,q) (j+1))) (ob+5) (some ⟨gA,0,none⟩) vn all1:=CD.out.same fun g hg=>by
       injection hg with hg;injection hg with hg;subst hg;rcases CD.out.2 with⟨h8,_⟩|⟨g',vk,cur,h7,h70,h6,_⟩
       ·cases h8
       ·injection h7 with h7;injection h7 with h7;injection h7 with h7;subst h7;have Iz:gA≠kb:=fun e=>by rw[e,wK.out.num]at h6;injection h6 with h6;injection h6 with _ h6;cases h6
        have Gj:gA≠kb+1:=fun e=>by rw[e,wK.out.pg.a]at h6;injection h6 with h6;injection h6 with _ h6;cases h6
        have Rr:gA≠kb+2:=fun e=>by rw[e,wK.out.pg.n]at h6;injection h6 with h6;injection h6 with _ h6;cases h6
        have EX:gA≠kb+3+1:=fun e=>by rw[e,RR.out]at h6;cases h6
        rw[h6];exact Ff (zB (zC h6 (by omega)) Iz) EX Gj Rr
      have Fc:=Lm.out.step zH.out (by rw[<-HX.out];exact xR.out) rfl (e:=fun i=>d (x-addr+i)) (fun i hi=>by rw[<-HX.out]);rw[<-HX.out,<-HM.out]at Fc;refine⟨NI,rfl,DS,⟨_,Z2,cz-M,Bh,⟨JX,Ff (zB (zC wK.out.mark (by omega)) (by omega)) (by omega) (by omega) (by omega),Ff (zB (zC wK.out.mark2 (by omega)) (by omega)) (by omega) (by omega) (by omega),Ff (zB (zC wK.out.b0 (by omega)) (by omega)) (by omega) (by omega) (by omega),?_,Ff (zB (zC wK.out.b2 (by omega)) (by omega)) (by omega) (by omega) (by omega),Ff (zB (zC wK.out.out (by omega)) (by omega)) (by omega) (by omega) (by omega),Ff YZ (by omega) (by omega) (by omega)⟩,JZ,Fc,?_,?_,?_⟩,?_⟩
      ·rw[DR];exact Ff (zB Js.out (by omega)) (by omega) (by omega) (by omega)
      ·rw[DR,zL,HC.out];intro h0
       first
       |(
         have h9:=(QV.out.cut M) h0;obtain⟨ad,h1,h2⟩:=h9;exact⟨ad,h1,fun i hi=>(h2 i hi).trans (by show some (Value.int .u8 ((d ((pst (addr,q) j).1-(addr,q).1+(M+i)):Nat):Int))=_;rw[<-HX.out,show x-(addr,q).1+(M+i)=x+M-(addr,q).1+i by(dsimp only;omega)])⟩)
       |(exfalso;have:=HCM.out;omega)
      ·rw[HC.out];intro ad hA
       first
       |exact Va.out ad hA
       |(
         cases Z with
         |none=>cases hA
         |some z=>
          injection hA with hA;subst hA;rw[Addr.add_blk];exact Va.out z rfl)
      ·rw[DR];omega
      ·have ID:=(uJ NI).1;exact(yg.block _ (by rw[World.putObj_size];exact ID) (by omega)).trans (World.putObj_heap_same ID)
    ·have vN:Below W3.heap.size W3 ((W3.alloc (.deferred (some []))).alloc (.loop (rec2 .ready none))):=uM.alloc (by simp) _;have xq:=((vZ.out.below yT.out).below vN).sub (K':=StK w ob kb A1) (fun b e=>by
      rcases e with e|e
      ·exact .inl (.inl e)
      ·rcases Nat.lt_or_ge b W3.heap.size with h1|h1
       ·exact .inl (.inr ⟨by have:=HKB.out;omega,h1⟩)
       ·exact .inr ⟨h1,by simp[xI];omega⟩)
     have yz: ∀ {b:Nat} {o:Obj},W3.heap[b]? =some o->((W3.alloc (.deferred (some []))).alloc (.loop (rec2 .ready none))).heap[b]? =some o:=fun h1=>(cf (uJ h1).1).trans h1;have zb: ∀ {b:Nat} {o:Obj},W2.heap[b]? =some o->((W3.alloc (.deferred (some []))).alloc (.loop (rec2 .ready none))).heap[b]? =some o:=fun h1=>yz ((yT.out.block _ (uJ h1).1).trans h1);have vH:OwnG 83 3 iq ((W3.alloc (.deferred (some []))).alloc (.loop (rec2 .ready none))) (ob+5) A1 vn all1:=DL.out.same fun g hg=>by
      have h9:=(DL.out.blk g (by rw[hg];rfl)).2;exact(cf (by have:=yT.out.size;omega)).trans (yT.out.block g h9)
     have h00:(pst (addr,q) 0).1-(addr,q).1=0:=Nat.sub_self _;refine⟨⟨p1,Ab,cq,xq,⟨⟨yz LM.out,yz Ra.out⟩,zb xT.out.mark,?_,zb xT.out.b0,zb xT.out.b1,zb xT.out.b2,?_,yz Ln.out⟩,vH,?_,?_,Jb.out,ES⟩,?_⟩
     ·have:=ab W3 (.deferred (some []));rw[xI]at this;exact(uO _ _ _ (by simp[xI])).trans this
     ·rw[yS.out.len];exact zb xT.out.out
     ·rw[h00];exact Lays.start yS.out.seen.kept.sp yS.out.seen.kept.own
     ·rw[h00];have h9:(fun i=>d (0+i))=d:=(by funext i;rw[Nat.zero_add]);rw[h9];exact VZ.out
     ·have:=ab (W3.alloc (.deferred (some []))) (.loop (rec2 .ready none))
      rwa [World.size_alloc,xI]at this
    ·rintro e W ⟨hv,⟨j,DX,⟨p4,Z,cz,wu,yB,zV,Dv,KC,WE,PN⟩,hl⟩|hF⟩
     rotate_left
     ·exact hF.elim
     refine⟨hv, .inl ⟨hl,?_⟩⟩;obtain⟨W5,Hx⟩: ∃W5,W5=W.putObj (kb+3+1) (.loop (rec2 .exhausted none)):=⟨_,rfl⟩;rw[<-Hx];have wy:Mod (fun b=>b=kb+3+1) W W5:=(by rw[Hx];exact az);have vC:=wu.set wy (fun b e=> .inr (by omega));have xP: ∀ {b:Nat} {o:Obj},W.heap[b]? =some o->b≠kb+3+1->W5.heap[b]? =some o:=fun h1 h2=>(wy.block _ (uJ h1).1 h2).trans h1;have UF:=xP yB.b2 (by omega);have KR:=xP yB.mark (by omega);have hM6:=xP yB.mark2 (by omega);have yD:=dt (addr,q) j;rw[DX,Nat.add_zero]at yD;rw[yD,show(addr,q).1+(addr,q).2-(addr,q).1=q by simp]at Dv;have e0:W5.cell? ⟨w.heap.size+1+1,0,none⟩=some (.int .i64 0):=aa UF 0;have ef0:=ae UF 0;have helt5:w.heap.size+1+1<W5.heap.size:=(uJ UF).1;have AM:=uK vC;have HE5:=uK UF;have DM:=uK KR;have LN:=uK hM6;have aa0:=uK Dv;clear Hx wy vC xP UF KR hM6 yD Dv wu yB zV KC WE PN hl hv DX JS;unfold dv
     gi_wp2
     have CL:=Jp.out W5 (.int .i64 0);have xz:=AM.out.set CL (fun b e=> .inl (.inl (by omega)));have he6:(W5.setCell ⟨w.heap.size+1+1,0,none⟩ (.int .i64 0)).heap[w.heap.size+1+1]? =some (.cells #[.int .i64 0] 32 (0,0)):=bq HE5.out;have Aw:=(CL.block _ (uJ LN.out).1 (by omega)).trans LN.out;have hK1:=(CL.block _ (uJ DM.out).1 (by omega)).trans DM.out;refine⟨by simp, .inl ⟨_,_,rfl,run_takeDeferred Aw,?_⟩⟩;have Ca:=az (l:=kb+3) (o:= .deferred none) (W:=W5.setCell ⟨w.heap.size+1+1,0,none⟩ (.int .i64 0));have Bj:=xz.set Ca (fun b e=> .inr (by omega));have he7:=(Ca.block _ (uJ he6).1 (by omega)).trans he6;have Ia:=(Ca.block _ (uJ hK1).1 (by omega)).trans hK1;refine⟨by simp, .inl ⟨_,_,rfl,run_takeDeferred Ia,?_⟩⟩;have Nz:=az (l:=ob+3) (o:= .deferred none) (W:=(W5.setCell ⟨w.heap.size+1+1,0,none⟩ (.int .i64 0)).putObj (kb+3) (.deferred none));have Bi:=Bj.set Nz (fun b e=> .inl (.inl (by omega)));have he8:=(Nz.block _ (uJ he7).1 (by omega)).trans he7;have c2:=aa he8 0;refine⟨.int .i64 0,by simp[results,Tryz.results71,go_sem,c2],?_⟩;exact⟨0,p4,L1,T1,vt,S1,rfl,Bi.home.cache,Bi.mod,Bi.out,xY,by omega, .inr (.inr (.inr ⟨Ly,ML.out,rfl,k,all1,p1,RS.out,yS.out,aa0.out⟩))⟩
end
