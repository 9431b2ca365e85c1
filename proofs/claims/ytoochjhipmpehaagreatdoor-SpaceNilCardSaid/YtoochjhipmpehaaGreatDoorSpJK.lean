/- Spaces: store. -/
import Derived.Test.YtoochjhipmpehaaGreatDoorAbK
import Derived.Test.YtoochjhipmpehaaGreatDoorSpIK
set_option linter.unusedVariables false
set_option linter.unusedSimpArgs false
set_option maxRecDepth 100000
set_option maxHeartbeats 8000000
namespace Go.Proofs.YtoochjhipmpehaaGreatDoor
section
open Go.RowKit Go.Sort
attribute [local go_sem] Oper.semAt_some
def leafC (l:Leaf):List Value:=[.int .i64 (l.frame:Int), .int .u8 (l.prot:Int), .bool l.copy]
theorem leaf_elem:Elem 209 83 3 16 (.agg #[.int .i64 0, .int .u8 0, .bool false]) leafC:=
 ⟨Tryz.underlying209,by kernel_rfl,rfl,by decide,by decide,fun _ =>rfl,fun x v hv=>by simp[leafC]at hv;rcases hv with rfl|rfl|rfl<;>rfl⟩
theorem OwnG.blk {α:Type} {T:TypeId} {k:Nat} {C:α→List Value} {w:World} {base cap:Nat} {R:Option Addr} {L:List α} (h:OwnG T k C w base R cap L): ∀g,R.map (·.block)=some g→base≤g∧g<w.heap.size:=fun g e=>by
 rcases h.form with⟨h1,_⟩|⟨g',h1,h2,h3,_⟩
 ·rw[h1]at e;cases e
 ·rw[h1]at e
  simp at e
  subst e
  exact⟨h2,h3⟩
theorem Addr.add_blk (ad:Addr) (j:Nat):(ad.add j).block=ad.block:=by unfold Addr.add;split<;>rfl
theorem BytesV.run {w W:World} {G:Nat→Prop} {Z:Option Addr} {n:Nat} {d:Nat→Nat} (h:BytesV w Z n d) (hm:Mod G w W) (hZ: ∀ad,Z=some ad→ad.block<w.heap.size∧ ¬G ad.block):BytesV W Z n d:=fun h0=>by
 obtain⟨ad,e,hc⟩:=h h0
 obtain⟨h1,h2⟩:=hZ ad e
 exact⟨ad,e,fun j hj=>(World.cell?_of_block (by rw[Addr.add_blk];exact hm.block _ h1 h2)).trans (hc j hj)⟩
theorem BytesV.cut {w:World} {Z:Option Addr} {n:Nat} {d:Nat→Nat} (h:BytesV w Z n d) (m:Nat):BytesV w (Z.map (·.add m)) (n-m) (fun i=>d (m+i)):=fun h0=>by
 obtain⟨ad,e,hc⟩:=h (by omega)
 exact⟨ad.add m,by rw[e];rfl,fun j hj=>by rw[Addr.add_add];exact hc _ (by omega)⟩
theorem BytesV.head {w:World} {Z:Option Addr} {n:Nat} {d:Nat→Nat} (h:BytesV w Z n d) {m:Nat} (hm:m≤n):BytesV w Z m d:=fun h0=>by
 obtain⟨ad,e,hc⟩:=h (by omega)
 exact⟨ad,e,fun j hj=>hc j (by omega)⟩
structure Shorts (F:List Nd) (hold:Nat→Nat) (rl:List Reg) (x:Nat×Nat) (p:Pool) (L:List Slot) (T:Tab) (p':Pool) (L':List Slot) (T':Tab):Prop where
 seen:Seen F hold rl p L T p' L' T'
 only: ∀g,T.lf g=none→(∀j,0<(pst x j).2→g≠(pst x j).1/4096)→T'.lf g=none
 full:Full hold p' T'
structure StBox (w W:World) (s ob:Nat) (V:Value) (x:Nat×Nat) (k:Nat) (m:Nat) (A':Option Addr) (cap':Nat):Prop where
 pg:PgSt W (ob+2) (ob+1) (pst x k)
 mark:W.heap[ob+3]? =some (.deferred (some []))
 b0:W.heap[w.heap.size]? =some (.cells #[.pointer (some ⟨s,0,none⟩)] 60 (0,0))
 b1:W.heap[w.heap.size+1]? =some (.cells #[V] 39 (0,0))
 b2:W.heap[w.heap.size+1+1]? =some (.cells #[.int .i64 0] 32 (0,0))
 out:W.heap[ob]? =some (.cells #[.slice A' m cap'] 209 (0,0))
theorem StBox.keep {w W W':World} {s ob m:Nat} {V:Value} {x:Nat×Nat} {k:Nat} {A':Option Addr} {cap':Nat} (h:StBox w W s ob V x k m A' cap') (hob:w.heap.size+3≤ob) (hk: ∀b,w.heap.size≤b→b<ob+4→W'.heap[b]? =W.heap[b]?):StBox w W' s ob V x k m A' cap':=
 ⟨⟨(hk _ (by omega) (by omega)).trans h.pg.n,(hk _ (by omega) (by omega)).trans h.pg.a⟩,(hk _ (by omega) (by omega)).trans h.mark,(hk _ (by omega) (by omega)).trans h.b0,(hk _ (by omega) (by omega)).trans h.b1,(hk _ (by omega) (by omega)).trans h.b2,(hk _ (by omega) (by omega)).trans h.out⟩
def StJ (w:World) (B c a fs m s t root n cap:Nat) (A:Option Addr) (rl:List Reg) (S:Nat→Prop) (F:List Nd) (clock:Int) (p:Pool) (L:List Slot) (T:Tab) (hold:Nat→Nat) (V:Value) (x:Nat×Nat) (ob k:Nat) (W:World):Prop:=
 ∃p' L' T' clock' S' A' cap' all,Run w W (FootS S c m) (LdK w ob A') B c a fs m s t root A n cap rl S S' F clock' p' L'∧StBox w W s ob V x k k A' cap'∧OwnG 83 3 leafC W (ob+5) A' cap' all∧Owns F hold rl x k p L T all p' L' T'∧clock≤clock'∧clock'≤clock+k∧ ∀j,j<k→0<(pst x j).2
def StX (w:World) (B c a fs m s t root n cap:Nat) (A:Option Addr) (rl:List Reg) (S:Nat→Prop) (F:List Nd) (clock:Int) (p:Pool) (L:List Slot) (T:Tab) (hold:Nat→Nat) (x:Nat×Nat) (ob:Nat) (W:World):Prop:=
 ∃p' L' T' clock' S',Run w W (FootS S c m) (LdK w ob none) B c a fs m s t root A n cap rl S S' F clock' p' L'∧clock≤clock'∧clock'≤clock+32∧Shorts F hold rl x p L T p' L' T'∧W.heap[ob+3]? =some (.deferred (some []))∧W.heap[w.heap.size+1+1]? =some (.cells #[.int .i64 4] 32 (0,0))
structure St2Box (w W:World) (s ob kb:Nat) (V:Value) (x:Nat×Nat) (j k1:Nat) (A':Option Addr) (cap':Nat):Prop where
 pg:PgSt W (kb+2) (kb+1) (pst x j)
 mark:W.heap[ob+3]? =some (.deferred (some []))
 mark2:W.heap[kb+3]? =some (.deferred (some []))
 b0:W.heap[w.heap.size]? =some (.cells #[.pointer (some ⟨s,0,none⟩)] 60 (0,0))
 b1:W.heap[w.heap.size+1]? =some (.cells #[V] 39 (0,0))
 b2:W.heap[w.heap.size+1+1]? =some (.cells #[.int .i64 0] 32 (0,0))
 out:W.heap[ob]? =some (.cells #[.slice A' k1 cap'] 209 (0,0))
 num:W.heap[kb]? =some (.cells #[.int .i64 (j:Int)] 3 (0,0))
theorem St2Box.keep {w W W':World} {s ob kb j k1:Nat} {V:Value} {x:Nat×Nat} {A':Option Addr} {cap':Nat} (h:St2Box w W s ob kb V x j k1 A' cap') (hob:w.heap.size+3≤ob) (hk: ∀b,(w.heap.size≤b∧b<ob+4)∨(kb≤b∧b<kb+4)→W'.heap[b]? =W.heap[b]?):St2Box w W' s ob kb V x j k1 A' cap':=
 ⟨⟨(hk _ (by omega)).trans h.pg.n,(hk _ (by omega)).trans h.pg.a⟩,(hk _ (by omega)).trans h.mark,(hk _ (by omega)).trans h.mark2,(hk _ (by omega)).trans h.b0,(hk _ (by omega)).trans h.b1,(hk _ (by omega)).trans h.b2,(hk _ (by omega)).trans h.out,(hk _ (by omega)).trans h.num⟩
def StK (w:World) (ob kb:Nat) (A':Option Addr):Nat→Prop:=fun b=>LdK w ob A' b∨(kb≤b∧b<kb+5)
def StJ2 (w:World) (B c a fs m s t root n cap:Nat) (A:Option Addr) (rl:List Reg) (S0 S:Nat→Prop) (F:List Nd) (clock:Int) (p:Pool) (L:List Slot) (T:Tab) (hold:Nat→Nat) (d:Nat→Nat) (x:Nat×Nat) (ob kb:Nat) (A':Option Addr) (cap':Nat) (all:List Leaf) (j:Nat) (W:World):Prop:=
 ∃p' Z cz,Run w W (FootS S0 c m) (StK w ob kb A') B c a fs m s t root A n cap rl S0 S F clock p' L∧St2Box w W s ob kb (.slice Z (pst x j).2 cz) x j all.length A' cap'∧OwnG 83 3 leafC W (ob+5) A' cap' all∧Lays F hold rl x d ((pst x j).1-x.1) p L T p'∧BytesV w Z (pst x j).2 (fun i=>d ((pst x j).1-x.1+i))∧(∀ad,Z=some ad→ad.block<w.heap.size∧ ¬FootS S0 c m ad.block)∧(pst x j).2≤cz
def StoreRes (F:List Nd) (hold:Nat→Nat) (rl:List Reg) (p:Pool) (L:List Slot) (T:Tab) (addr q:Nat) (d:Nat→Nat) (want:Int) (er:Int) (p':Pool) (L':List Slot) (T':Tab):Prop:=
 (65536<q∧er=1∧p'=p∧L'=L∧T'=T)∨
 (q≤65536∧permB rl (addr,q) want=false∧er=6∧p'=p∧L'=L∧T'=T)∨
 (q≤65536∧permB rl (addr,q) want=true∧er=4∧Shorts F hold rl (addr,q) p L T p' L' T')∨
 (q≤65536∧permB rl (addr,q) want=true∧er=0∧ ∃j all p1,(pst (addr,q) j).2=0∧Owns F hold rl (addr,q) j p L T all p1 L' T'∧Lays F hold rl (addr,q) d q p1 L' T' p')
def StorePost (w:World) (S:Nat→Prop) (c a fs m:Nat) (F:List Nd) (rl:List Reg) (clock:Int) (p:Pool) (L:List Slot) (T:Tab) (hold:Nat→Nat) (addr q:Nat) (d:Nat→Nat) (want:Int) (e:Ending) (w':World):Prop:=
 ∃er p' L' T' clock' S',e= .returned (.int .i64 er)∧CacheAt w' S' c a fs m clock' p' L'∧Mod (FootS S c m) w w'∧Out S S' w∧clock≤clock'∧clock'≤clock+32∧StoreRes F hold rl p L T addr q d want er p' L' T'
theorem sstore_any (B c a fs m s t root n cap addr q cq:Nat) (want:Int) (A Ab:Option Addr) (d:Nat→Nat) (rl:List Reg) (clock:Int) (w:World) (S:Nat→Prop) (F:List Nd) (p:Pool) (L:List Slot) (T:Tab) (hold:Nat→Nat)
  (hH:Home w B c a fs m S F clock p L) (hO:One w B c a m S s t root A n cap rl) (hsp:Sp F hold p L T) (ho:Own p T) (hr:T.nd 4 0=some root) (hR:Rgs F rl) (haddr:addr<18446744073709551616) (hcap: ∀f,hold f≤100000000000) (hck:0≤clock∧clock+32<1000000)
  (hq:q<9223372036854775808) (hqc:q≤cq) (hb:BytesV w Ab q d) (hd: ∀j,d j<256) (hAb: ∀ad,Ab=some ad→ad.block<w.heap.size∧ ¬FootS S c m ad.block):
  Calls Tryz.prog 71 #[.pointer (some ⟨s,0,none⟩), .int .u64 (addr:Int), .slice Ab q cq, .int .u8 want] w (StorePost w S c a fs m F rl clock p L T hold addr q d want):=by
 refine(callsIn_wide (n:=9)).1 ?_
 refine callsIn_of_wp_marks Tryz.func71 rfl trivial ?_
 simp only[Tryz.ntmps71,List.size_toArray,List.length_cons,List.length_nil,Nat.reduceAdd,Nat.reduceSub,Array.replicate_succ,Array.replicate_zero,List.push_toArray,List.append_toArray,List.nil_append,List.cons_append]
 obtain⟨w0,hw0⟩: ∃w0,w0=((w.alloc (.cells #[.pointer (some ⟨s,0,none⟩)] 60)).alloc (.cells #[.slice Ab q cq] 39)).alloc (.cells #[.int .i64 0] 32):=⟨_,rfl⟩
 have hz0:w0.heap.size=w.heap.size+1+1+1:=by rw[hw0];simp
 have hb0:Below w.heap.size w w0:=by rw[hw0];exact(((Below.refl _ _).alloc (Nat.le_refl _) _).alloc (by simp) _).alloc (by simp;omega) _
 have hE0:w0.heap[w.heap.size+1+1]? =some (.cells #[.int .i64 0] 32 (0,0)):=by
  rw[hw0]
  have:=ab ((w.alloc (.cells #[.pointer (some ⟨s,0,none⟩)] 60)).alloc (.cells #[.slice Ab q cq] 39)) (.cells #[.int .i64 0] 32)
  rwa [World.size_alloc,World.size_alloc]at this
 have hN0:w0.heap[w.heap.size+1]? =some (.cells #[.slice Ab q cq] 39 (0,0)):=by
  rw[hw0]
  have:=ab (w.alloc (.cells #[.pointer (some ⟨s,0,none⟩)] 60)) (.cells #[.slice Ab q cq] 39)
  rw[World.size_alloc]at this
  exact(Below.heap_alloc _ _ _ (by simp)).trans this
 have hS0:w0.heap[w.heap.size]? =some (.cells #[.pointer (some ⟨s,0,none⟩)] 60 (0,0)):=by
  rw[hw0]
  exact(Below.heap_alloc _ _ _ (by simp;omega)).trans ((Below.heap_alloc _ _ _ (by simp)).trans (ab w _))
 have hrun0:=(Run.start hH hO (fun _ e=>e)).below hb0
 have s0:w0.cell? ⟨w.heap.size,0,none⟩=some (.pointer (some ⟨s,0,none⟩)):=aa hS0 0
 have n0:w0.cell? ⟨w.heap.size+1,0,none⟩=some (.slice Ab q cq):=aa hN0 0
 have e0:w0.cell? ⟨w.heap.size+1+1,0,none⟩=some (.int .i64 0):=aa hE0 0
 have ef0:=one_free hE0 0
 have hnlt:w.heap.size+1<w0.heap.size:=by omega
 have helt:w.heap.size+1+1<w0.heap.size:=by omega
 have HW0:=ae hw0
 have HZ0:=ae hz0
 have HE0:=ae hE0
 have HN0:=ae hN0
 have HS0:=ae hS0
 have HRUN0:=ae hrun0
 have HSP:=ae hsp
 have HOWN:=ae ho
 have HR:=ae hr
 have HRG:=ae hR
 have HB0:=ae hb0
 have HBY:=ae hb
 have HD:=ae hd
 have HAB:=ae hAb
 have hgone:=sgone_no s c a t n cap A w0 hrun0.one.self
 have HGONE:=ae hgone
 clear hgone hw0 hz0 hb0 hE0 hN0 hS0 hrun0 hH hO hsp ho hr hR hb hd hAb
 have hmE:=fun(w0:World) (u:Value)=>mod_set (S:=fun b=>b=w.heap.size+1+1) (w:=w0) (b:=w.heap.size+1+1) rfl 0 u
 have HME:=ae hmE
 clear hmE
 by_cases hbig:(65536:Int)<(q:Int)
 ·have key:StorePost w S c a fs m F rl clock p L T hold addr q d want (.returned (.int .i64 1)) (w0.setCell ⟨w.heap.size+1+1,0,none⟩ (.int .i64 1)):=by
   have hrun1:=HRUN0.out.set (HME.out w0 (.int .i64 1)) (fun b e=> .inr (by have:=HZ0.out;omega))
   exact⟨1,p,L,T,clock,S,rfl,hrun1.home.cache,hrun1.mod,hrun1.out,Int.le_refl _,by omega, .inl ⟨by omega,rfl,rfl,rfl,rfl⟩⟩
  have KEY:=ae key
  clear key
  gi_wp2_with (first
   |(refine⟨trivial,?_⟩;rw[←HW0.out];refine(callsIn_wide.2 HGONE.out).mono ?_;rintro e w1 ⟨rfl,rfl⟩)
   |fail)
  exact⟨.int .i64 1,by simp[results,Tryz.results71,go_sem,e0,ef0,helt],KEY.out⟩
 have hqs:q≤65536:=by omega
 have hperm:=permits_any s c a t n cap A rl addr q want w0 HRUN0.out.one.self HRUN0.out.one.row haddr (by omega)
 cases hpb:permB rl (addr,q) want with
 |false=>
  rw[hpb]at hperm
  have HPERM:=ae hperm
  have HPB:=ae hpb
  clear hperm hpb
  gi_wp2_with (first
   |(refine⟨trivial,?_⟩;rw[←HW0.out];refine(callsIn_wide.2 HGONE.out).mono ?_;rintro e w1 ⟨rfl,rfl⟩)
   |(refine⟨trivial,?_⟩;refine(callsIn_wide.2 HPERM.out).mono ?_;rintro e w1 ⟨rfl,hb1⟩;have hE1:=(hb1.block _ helt).trans HE0.out;have e1:w1.cell? ⟨w.heap.size+1+1,0,none⟩=some (.int .i64 0):=aa hE1 0;have ef1:=one_free hE1 0;have helt1:w.heap.size+1+1<w1.heap.size:=(ac hE1).1)
   |fail)
  refine⟨.int .i64 6,by simp[results,Tryz.results71,go_sem,e1,ef1,helt1],?_⟩
  have hrun1:=(HRUN0.out.below hb1).set (HME.out w1 (.int .i64 6)) (fun b e=> .inl (.inr (by have:=HZ0.out;omega)))
  exact⟨6,p,L,T,clock,S,rfl,hrun1.home.cache,hrun1.mod,hrun1.out,Int.le_refl _,by omega, .inr (.inl ⟨hqs,HPB.out,rfl,rfl,rfl,rfl⟩)⟩
 |true=>
  have hpm:Perm rl (addr,q) want:=by
   unfold permB at hpb
   exact @of_decide_eq_true _ (Classical.propDecidable _) hpb
  rw[hpb]at hperm
  have HPERM:=ae hperm
  have HPB:=ae hpb
  have HPM:=ae hpm
  clear hperm hpb hpm
  gi_upto_region 8 with(first
   |(refine⟨trivial,?_⟩;rw[←HW0.out];refine(callsIn_wide.2 HGONE.out).mono ?_;rintro e w1 ⟨rfl,rfl⟩)
   |(refine⟨trivial,?_⟩;refine(callsIn_wide.2 HPERM.out).mono ?_;rintro e w1 ⟨rfl,hb1⟩;have hN1:=(hb1.block _ hnlt).trans HN0.out;have n1: ∀o,(w1.alloc o).cell? ⟨w.heap.size+1,0,none⟩=some (.slice Ab q cq):=fun o=>aa ((Below.heap_alloc _ _ _ (ac hN1).1).trans hN1) 0)
   |fail)
  obtain⟨ob,hob⟩: ∃ob,w1.heap.size=ob:=⟨_,rfl⟩
  have hob3:w.heap.size+3≤ob:=by have:=hb1.size;have:=HZ0.out;omega
  obtain⟨wa,hwa⟩: ∃wa,wa=w1.alloc (.cells #[.slice none 0 0] 209):=⟨_,rfl⟩
  have na:=n1 (.cells #[.slice none 0 0] 209)
  rw[←hwa]at na
  rw[←hwa,hob]
  have hza:wa.heap.size=ob+1:=by rw[hwa];simp[hob]
  have hba:Below w0.heap.size w0 wa:=by rw[hwa];exact hb1.alloc hb1.size _
  have hOa:wa.heap[ob]? =some (.cells #[.slice none 0 0] 209 (0,0)):=by rw[hwa,←hob];exact ab w1 _
  have HOA:=ae hOa
  have HBA:=ae hba
  clear hwa hba hOa hb1 n1 hN1
  gi_wp2_with (first
   |(refine⟨trivial,?_⟩;refine(callsIn_wide.2 (pages_any (addr:Int) (q:Int) wa)).mono ?_;rintro e w2 ⟨rfl,hw2⟩)
   |fail)
  have hz2:w2.heap.size=ob+3:=by rw[hw2];simp[hza]
  have hb2:Below wa.heap.size wa w2:=by rw[hw2];exact((Below.refl _ _).alloc (Nat.le_refl _) _).alloc (by simp) _
  have hA2:w2.heap[ob+1]? =some (.cells #[.int .u64 (addr:Int)] 43 (0,0)):=by rw[hw2,←hza];exact(Below.heap_alloc _ _ _ (by simp)).trans (ab wa _)
  have hN2:w2.heap[ob+2]? =some (.cells #[.int .i64 (q:Int)] 3 (0,0)):=by
   rw[hw2]
   have:=ab (wa.alloc (.cells #[.int .u64 (addr:Int)] 43)) (.cells #[.int .i64 (q:Int)] 3)
   rw[World.size_alloc,hza]at this
   exact this
  have HB2:=ae (HBA.out.trans (hb2.mono (by have:=HBA.out.size;omega)))
  have HA2:=ae hA2
  have HN2:=ae hN2
  have HO2:=ae ((hb2.block _ (by omega)).trans HOA.out)
  rw[←hw2]
  clear hw2 hb2 hA2 hN2 na
  refine wpIn_range2 rfl (by omega) (gf:=155) (lb:= #[.pointer (some ⟨ob+1+1,0,none⟩), .pointer (some ⟨ob+1,0,none⟩)]) rfl trivial (enters_of Tryz.func155 (by kernel_rfl) rfl) ?_
  rw[hz2]
  intro fn hfn rec hrec
  refine(pages1_in (9-1) (by omega) (ob+3+1) (ob+1+1) (ob+1) (by omega) (addr,q) (by have:=HPM.out.1;simp only at this⊢;omega) (fun k W=>StJ w B c a fs m s t root n cap A rl S F clock p L T hold (.slice Ab q cq) (addr,q) ob k W∧W.heap[ob+3+1]? =some (.loop (rec .ready none)))
   (fun W=>StX w B c a fs m s t root n cap A rl S F clock p L T hold (addr,q) ob W∧W.heap[ob+3+1]? =some (.loop (rec .done (some .ret)))) ?_ ?_ _ ?_).mono ?_
  ·rintro k W ⟨⟨p',L',T',clock',S',A',cap',d,h1,h2,h3⟩,_⟩
   exact h2.pg
  ·rintro k W ⟨hJ,hl⟩ hpos
   refine yield_round2 trivial hrec hl rfl ?_
   obtain⟨p1,L1,T1,clock1,S1,A1,cap1,all1,hrun1,hbox1,hown1,hbr1,hc1,hc2,hj1⟩:=hJ
   obtain⟨x,hx⟩: ∃x,x=(pst (addr,q) k).1:=⟨_,rfl⟩
   obtain⟨M,hM⟩: ∃M,M=pm (pst (addr,q) k):=⟨_,rfl⟩
   rw[←hx,←hM]
   have hfew:=pst_few (addr,q) k hpos
   dsimp only at hfew
   have hk17:k≤17:=by omega
   have HX:=ae hx
   have HM:=ae hM
   have HRUN1:=ae hrun1
   have HBOX1:=ae hbox1
   have HOWN1:=ae hown1
   have HBR1:=ae hbr1
   have HJ1:=ae hj1
   have HPOS:=ae hpos
   have HREC:=ae hrec
   have HL:=ae hl
   clear hx hM hrun1 hbox1 hown1 hbr1 hj1 hpos hrec hl hfew
   gi_wp2
   refine⟨HL.out,?_⟩
   obtain⟨W2,hW2⟩: ∃W2,W2=W.putObj (ob+3+1) (.loop (rec .busy none)):=⟨_,rfl⟩
   rw[←hW2]
   have hm2:Mod (fun b=>b=ob+3+1) W W2:=by rw[hW2];exact mod_put
   have hl2:W2.heap[ob+3+1]? =some (.loop (rec .busy none)):=by rw[hW2];exact World.putObj_heap_same (ac HL.out).1
   have hrun2:=HRUN1.out.set hm2 (fun b e=> .inl (by omega))
   have hbox2:=HBOX1.out.keep hob3 (W':=W2) (fun b h1 h2=>by
    rcases Nat.lt_or_ge b W.heap.size with h3|h3
    ·exact hm2.block b h3 (by omega)
    ·rw[Array.getElem?_eq_none h3,Array.getElem?_eq_none];rw[hW2,World.putObj_size];exact h3)
   have hown2:OwnG 83 3 leafC W2 (ob+5) A1 cap1 all1:=
    HOWN1.out.same fun g hg=>hm2.block g ((HOWN1.out.blk g (by rw[hg];rfl)).2) (fun e=>by have:=(HOWN1.out.blk g (by rw[hg];rfl)).1;omega)
   obtain⟨r,hfr,_⟩:=HPM.out.2 k HPOS.out
   have hask:Ask F rl r (x/4096):=HRG.out.ask (by rw[HX.out];exact hfr)
   have hxs:x+(pst (addr,q) k).2=addr+q:=by rw[HX.out];exact pst_sum (addr,q) k
   have hxb:x≤140737488355328:=by have:=HPM.out.1;simp only at this;omega
   have hw1:IntKind.u64.wrap ((x:Int)/4096*4096)=(x:Int)/4096*4096:=by rw[IntKind.wrap_u64];omega
   have hbring:=sown_any B c a fs m s t root n cap (x/4096) A rl r clock1 ((x:Int)/4096*4096) W2 S1 F p1 L1 T1 hold hrun2.home hrun2.one HBR1.out.seen.kept.sp HBR1.out.seen.kept.own (HBR1.out.seen.kept.root _ HR.out) hask (by omega) hcap (by omega)
   have hra:(Rg.find rl ((((pst (addr,q) k).1/4096:Nat):Int)*4096)).1=r:=by rw[←HX.out,hask.find]
   have c0:W2.cell? ⟨w.heap.size,0,none⟩=some (.pointer (some ⟨s,0,none⟩)):=aa hbox2.b0 0
   have hobW:ob+5≤W2.heap.size:=by have:=(ac hl2).1;omega
   have HBRING:=ae hbring
   have HRA:=ae hra
   have HRUN2:=ae hrun2
   have HBOX2:=ae hbox2
   have HOWN2:=ae hown2
   have HL2:=ae hl2
   have HXS:=ae hxs
   clear hbring hra hrun2 hbox2 hown2 hl2 hask hfr hxs hm2 hW2
   gi_upto_region 11 with(first
    |(refine⟨trivial,?_⟩;refine(CallsIn.inRound (ob+3+1) (callsIn_wide.2 HBRING.out)).mono ?_;rintro e W3 ⟨er,⟨fr,pr,cp⟩,p3,L3,T3,clock3,S3,rfl,hC3,hm3,ho3,hc31,hc32,hbr3⟩;unfold leafCells)
    |fail)
   obtain⟨W4,hW4⟩: ∃W4,W4=W3.alloc (.cells #[.int .i64 (fr:Int), .int .u8 (pr:Int), .bool cp] 83):=⟨_,rfl⟩
   rw[←hW4]
   obtain⟨hrun3,hk3⟩:=HRUN2.out.call hC3 hm3 ho3
   have hb4:Below W3.heap.size W3 W4:=by rw[hW4];exact(Below.refl _ _).alloc (Nat.le_refl _) _
   have hz4:W4.heap.size=W3.heap.size+1:=by rw[hW4];simp
   have hX4:W4.heap[W3.heap.size]? =some (.cells #[.int .i64 (fr:Int), .int .u8 (pr:Int), .bool cp] 83 (0,0)):=by rw[hW4];exact ab W3 _
   have hz3:=hm3.size
   have hrun4:=(hrun3.below hb4).sub (K':=LdK w ob A1) (fun b e=> .inl e)
   have hk4: ∀b,LdK w ob A1 b→W4.heap[b]? =W2.heap[b]? :=fun b hb=>(hb4.block b ((HRUN2.out.own b hb).2.2 |> fun h=>by omega)).trans (hk3 b hb)
   have hbox4:=HBOX2.out.keep hob3 (W':=W4) (fun b h1 h2=>hk4 b (.inl (by omega)))
   have hl4:=(hk4 (ob+3+1) (.inl (by omega))).trans HL2.out
   have hown4:OwnG 83 3 leafC W4 (ob+5) A1 cap1 all1:=HOWN2.out.same fun g hg=>hk4 g (.inr (by rw[hg];rfl))
   have HRUN4:=ae hrun4
   have HBOX4:=ae hbox4
   have HL4:=ae hl4
   have HOWN4:=ae hown4
   have HX4:=ae hX4
   have HBR3:=ae hbr3
   have hwW4:w.heap.size<W4.heap.size:=by omega
   have hbase:ob+5≤W4.heap.size:=by omega
   clear hrun3 hk3 hb4 hX4 hrun4 hk4 hbox4 hl4 hown4 hbr3 hC3 hm3 ho3 hW4 hw1 c0 hz4 hz3
   have e0:W4.cell? ⟨w.heap.size+1+1,0,none⟩=some (.int .i64 0):=aa HBOX4.out.b2 0
   have ef0:=one_free HBOX4.out.b2 0
   by_cases her:er=0
   rotate_left
   ·have hne:(er != 0)=true:=by rw[bne_iff_ne];exact her
    obtain⟨her4,hsh1,hsh2,hsh3⟩:=HBR1.out.fail HPOS.out HRA.out (by rw[←HX.out];exact HBR3.out) her
    subst her4
    have HSHORT:=ae (Shorts.mk hsh1 hsh2 hsh3)
    clear hsh1 hsh2 hsh3 her
    gi_wp2
    have hmt:=HME.out W4 (.int .i64 4)
    have hrun5:=HRUN4.out.set hmt (fun b e=> .inl (by omega))
    have hl5:=(hmt.block _ (ac HL4.out).1 (by omega)).trans HL4.out
    have hm5:=(hmt.block _ (ac HBOX4.out.mark).1 (by omega)).trans HBOX4.out.mark
    have he5:(W4.setCell ⟨w.heap.size+1+1,0,none⟩ (.int .i64 4)).heap[w.heap.size+1+1]? =some (.cells #[.int .i64 4] 32 (0,0)):=one_set HBOX4.out.b2
    refine⟨hl5, .inr ⟨rfl,?_,World.putObj_heap_same (ac hl5).1⟩⟩
    have hmp:=mod_put (l:=ob+3+1) (o:= .loop (rec .done (some .ret))) (W:=W4.setCell ⟨w.heap.size+1+1,0,none⟩ (.int .i64 4))
    have hrun6:=hrun5.set hmp (fun b e=> .inl (by omega))
    have hkp: ∀ {b:Nat} {o:Obj},(W4.setCell ⟨w.heap.size+1+1,0,none⟩ (.int .i64 4)).heap[b]? =some o→b≠ob+3+1→((W4.setCell ⟨w.heap.size+1+1,0,none⟩ (.int .i64 4)).putObj (ob+3+1) (.loop (rec .done (some .ret)))).heap[b]? =some o:=fun h1 h2=>(hmp.block _ (ac h1).1 h2).trans h1
    exact⟨p3,L3,T3,clock3,S3,hrun6.sub (fun b e=>e.elim .inl (fun e=>by cases e)),by omega,by omega,HSHORT.out,hkp hm5 (by omega),hkp he5 (by omega)⟩
   subst her
   have hOW:=HBR3.out.got rfl
   have hlen1:k=all1.length:=HBR1.out.len.symm
   have HLEN1:=ae hlen1
   have HOW:=ae hOW
   obtain⟨⟨x0,x1,x2⟩,_,_⟩:=box3 HX4.out
   have o4:W4.cell? ⟨ob,0,none⟩=some (.slice A1 k cap1):=aa HBOX4.out.out 0
   have hobl:ob<W4.heap.size:=by omega
   clear hOW hlen1
   gi_upto_region 13 with(fail)
   gi_wp2_with (gi_at_builtin;refine app_genIn leaf_elem rfl (.tmp 48) (.tmp 50) rfl (ob+5) A1 cap1 k all1 HLEN1.out rfl (HOWN4.out.alloc _) ⟨fr,pr,cp⟩ W4.heap.size 1 rfl (ab W4 _) (by omega) (by simp;omega) ?_;intro g cap6 W6 ho6 hg6 hat6 hlt6;have hO6:=((mod_grown hg6).block ob (by simp;omega) (fun e=>by have:=(HOWN4.out.blk ob e).1;omega)).trans ((Below.heap_alloc _ _ _ hobl).trans HBOX4.out.out);have o6:=aa hO6 0;have of6:=one_free hO6 0)
   obtain⟨W7,hW7⟩: ∃W7,W7=W6.setCell ⟨ob,0,none⟩ (.slice (some ⟨g,0,none⟩) (k+1) cap6):=⟨_,rfl⟩
   rw[←hW7]
   have hm7:Mod (fun b=>b=ob) W6 W7:=by rw[hW7];exact mod_set (S:=fun b=>b=ob) rfl 0 _
   have hO7:W7.heap[ob]? =some (.cells #[.slice (some ⟨g,0,none⟩) (k+1) cap6] 209 (0,0)):=by rw[hW7];exact one_set hO6
   obtain⟨W5,hW5⟩: ∃W5,W5=W4.alloc (.cells #[.int .i64 (fr:Int), .int .u8 (pr:Int), .bool cp] 83):=⟨_,rfl⟩
   rw[←hW5]at hg6
   have hb45:Below W4.heap.size W4 W5:=by rw[hW5];exact(Below.refl _ _).alloc (Nat.le_refl _) _
   have hz5:W5.heap.size=W4.heap.size+1:=by rw[hW5];simp
   have hat7:A1.map (·.block)=some g∨g=W5.heap.size:=by rw[hW5];exact hat6
   have hz6:=(mod_grown hg6).size
   have hk6: ∀b,w.heap.size≤b→b<ob+5→W6.heap[b]? =W4.heap[b]? :=fun b h1 h2=>((mod_grown hg6).block b (by omega) (fun e=>by have:=(HOWN4.out.blk b e).1;omega)).trans (hb45.block b (by omega))
   have hk7: ∀b,w.heap.size≤b→b<ob+5→b≠ob→W7.heap[b]? =W4.heap[b]? :=fun b h1 h2 h3=>(hm7.block b (by omega) h3).trans (hk6 b h1 h2)
   have hl7:=(hk7 (ob+3+1) (by omega) (by omega) (by omega)).trans HL4.out
   have hmp:=mod_put (l:=ob+3+1) (o:= .loop (rec .ready none)) (W:=W7)
   have hk8: ∀ {b:Nat} {o:Obj},W7.heap[b]? =some o→b≠ob+3+1→(W7.putObj (ob+3+1) (.loop (rec .ready none))).heap[b]? =some o:=fun h1 h2=>(hmp.block _ (ac h1).1 h2).trans h1
   have hpg8:PgSt (W7.putObj (ob+3+1) (.loop (rec .ready none))) (ob+2) (ob+1) (pst (addr,q) k):=⟨hk8 ((hk7 _ (by omega) (by omega) (by omega)).trans HBOX4.out.pg.n) (by omega),hk8 ((hk7 _ (by omega) (by omega) (by omega)).trans HBOX4.out.pg.a) (by omega)⟩
   obtain⟨hpg9,hm9⟩:=pgNext_is hpg8 (by omega) (pst (addr,q) (k+1))
   have hk9: ∀ {b:Nat} {o:Obj},W7.heap[b]? =some o→b≠ob+3+1→b≠ob+1→b≠ob+2→(pgNext (W7.putObj (ob+3+1) (.loop (rec .ready none))) (ob+2) (ob+1) (pst (addr,q) (k+1))).heap[b]? =some o:=fun h1 h2 h3 h4=>(hm9.block _ (ac (hk8 h1 h2)).1 (by omega)).trans (hk8 h1 h2)
   have hrun9:=((((((HRUN4.out.below hb45).grow (mod_grown hg6) (fun b e=> .inl (.inr e))).sub (K':=LdK w ob (some ⟨g,0,none⟩)) (fun b e=>by
    rcases e with e|e
    ·exact .inl (.inl (.inl e))
    ·have e2:b=g:=by simpa using e.symm
     subst e2
     rcases hat7 with h9|h9
     ·exact .inl (.inl (.inr h9))
     ·exact .inr ⟨by omega,hlt6⟩)).set hm7 (fun b e=> .inl (by omega))).set hmp (fun b e=> .inl (by omega))).set hm9 (fun b e=> .inl (by omega)))
   have hgo:ob+5≤g:=by rcases hat7 with h9|h9;exact(HOWN4.out.blk g h9).1;omega
   have hown9:OwnG 83 3 leafC (pgNext (W7.putObj (ob+3+1) (.loop (rec .ready none))) (ob+2) (ob+1) (pst (addr,q) (k+1))) (ob+5) (some ⟨g,0,none⟩) cap6 (all1++[⟨fr,pr,cp⟩]):=by
    refine ho6.same fun g' hg'=>?_
    injection hg' with hg'
    injection hg' with hg'
    subst hg'
    exact((hm9.block g (by have h1:=hmp.size;have h2:=hm7.size;exact Nat.lt_of_lt_of_le hlt6 (Nat.le_trans h2 h1)) (by omega)).trans (hmp.block g (by have h2:=hm7.size;omega) (by omega))).trans (hm7.block g hlt6 (by omega))
   have hbr9:=HBR1.out.step HPOS.out HRA.out (by rw[←HX.out];exact HBR3.out)
   refine⟨hl7, .inl ⟨rfl,hpg8,⟨p3,L3,T3,clock3,S3,some ⟨g,0,none⟩,cap6,_,hrun9,⟨hpg9,hk9 ((hk7 _ (by omega) (by omega) (by omega)).trans HBOX4.out.mark) (by omega) (by omega) (by omega),hk9 ((hk7 _ (by omega) (by omega) (by omega)).trans HBOX4.out.b0) (by omega) (by omega) (by omega),hk9 ((hk7 _ (by omega) (by omega) (by omega)).trans HBOX4.out.b1) (by omega) (by omega) (by omega),hk9 ((hk7 _ (by omega) (by omega) (by omega)).trans HBOX4.out.b2) (by omega) (by omega) (by omega),hk9 hO7 (by omega) (by omega) (by omega)⟩,hown9,hbr9,by omega,by omega,fun j hj=>(by rcases Nat.lt_or_ge j k with h9|h9;exact HJ1.out j h9;obtain rfl:j=k:=(by omega);exact HPOS.out)⟩,?_⟩⟩
   have hlt7:=(ac hl7).1
   exact(hm9.block _ (by rw[World.putObj_size];exact hlt7) (by omega)).trans (World.putObj_heap_same hlt7)
  ·have hb4:Below w2.heap.size w2 ((w2.alloc (.deferred (some []))).alloc (.loop (rec .ready none))):=((Below.refl _ _).alloc (Nat.le_refl _) _).alloc (by simp) _
   have hrun:=((HRUN0.out.below HB2.out).below hb4).sub (K':=LdK w ob none) (fun b e=>by
    rcases e with e|e
    ·rcases Nat.lt_or_ge b w0.heap.size with h1|h1
     ·exact .inl (.inl (.inr ⟨e.1,h1⟩))
     ·rcases Nat.lt_or_ge b w2.heap.size with h2|h2
      ·exact .inl (.inr ⟨h1,h2⟩)
      ·exact .inr ⟨h2,by simp[hz2];omega⟩
    ·cases e)
   have hkl: ∀ {b:Nat} {o:Obj},w2.heap[b]? =some o→((w2.alloc (.deferred (some []))).alloc (.loop (rec .ready none))).heap[b]? =some o:=fun h1=>(loop_low (ac h1).1).trans h1
   have hk0: ∀ {b:Nat} {o:Obj},w0.heap[b]? =some o→((w2.alloc (.deferred (some []))).alloc (.loop (rec .ready none))).heap[b]? =some o:=fun h1=>hkl ((HB2.out.block _ (ac h1).1).trans h1)
   refine⟨⟨p,L,T,clock,S,none,0,[],hrun,⟨⟨hkl HN2.out,hkl HA2.out⟩,?_,hk0 HS0.out,hk0 HN0.out,hk0 HE0.out,hkl HO2.out⟩,OwnG.nil _ _,Owns.start HSP.out HOWN.out,Int.le_refl _,by omega,fun j hj=>absurd hj (by omega)⟩,?_⟩
   ·have:=ab w2 (.deferred (some []))
    rw[hz2]at this
    exact(Below.heap_alloc _ _ _ (by simp[hz2])).trans this
   ·have:=ab (w2.alloc (.deferred (some []))) (.loop (rec .ready none))
    rwa [World.size_alloc,hz2]at this
  ·rintro e W ⟨hv,⟨k,hk0,⟨p1,L1,T1,clock1,S1,A1,cap1,all1,hrun1,hbox1,hown1,hbr1,hc1,hc2,hj1⟩,hl⟩|⟨⟨p1,L1,T1,clock1,S1,hrun1,hc1,hc2,hshort,hmk,he⟩,hl⟩⟩
   rotate_left
   ·refine⟨hv, .inr ⟨_,hl,?_⟩⟩
    obtain⟨W2,hW2⟩: ∃W2,W2=W.putObj (ob+3+1) (.loop (rec .exhausted (some .ret))):=⟨_,rfl⟩
    rw[←hW2]
    have hm2:Mod (fun b=>b=ob+3+1) W W2:=by rw[hW2];exact mod_put
    have hrun2:=hrun1.set hm2 (fun b e=> .inl (by omega))
    have hkk: ∀ {b:Nat} {o:Obj},W.heap[b]? =some o→b≠ob+3+1→W2.heap[b]? =some o:=fun h1 h2=>(hm2.block _ (ac h1).1 h2).trans h1
    have hE2:=hkk he (by omega)
    have hM2:=hkk hmk (by omega)
    have HRUN2:=ae hrun2
    have HE3:=ae hE2
    have HM3:=ae hM2
    have HSH:=ae hshort
    clear hW2 hm2 hrun2 hkk hE2 hM2 hrun1 hshort hmk he hl hv
    unfold markOf
    gi_wp2
    refine⟨by simp, .inl ⟨_,_,rfl,run_takeDeferred HM3.out,?_⟩⟩
    have hmd:=mod_put (l:=ob+3) (o:= .deferred none) (W:=W2)
    have hrun5:=HRUN2.out.set hmd (fun b e=> .inl (by omega))
    have he5:=(hmd.block _ (ac HE3.out).1 (by omega)).trans HE3.out
    have c2:=aa he5 0
    refine⟨.int .i64 4,by simp[results,Tryz.results71,go_sem,c2],?_⟩
    exact⟨4,p1,L1,T1,clock1,S1,rfl,hrun5.home.cache,hrun5.mod,hrun5.out,hc1,hc2, .inr (.inr (.inl ⟨hqs,HPB.out,rfl,HSH.out⟩))⟩
   ·refine⟨hv, .inl ⟨hl,?_⟩⟩
    obtain⟨W2,hW2⟩: ∃W2,W2=W.putObj (ob+3+1) (.loop (rec .exhausted none)):=⟨_,rfl⟩
    rw[←hW2]
    have hk33:k≤32:=by
     rcases k with _ |k
     ·omega
     ·have:=pst_few (addr,q) k (hj1 k (by omega))
      dsimp only at this
      omega
    have hm2:Mod (fun b=>b=ob+3+1) W W2:=by rw[hW2];exact mod_put
    have hrun2:=hrun1.set hm2 (fun b e=> .inl (by omega))
    have hkk: ∀ {b:Nat} {o:Obj},W.heap[b]? =some o→b≠ob+3+1→W2.heap[b]? =some o:=fun h1 h2=>(hm2.block _ (ac h1).1 h2).trans h1
    have hbox2:StBox w W2 s ob (.slice Ab q cq) (addr,q) k k A1 cap1:=⟨⟨hkk hbox1.pg.n (by omega),hkk hbox1.pg.a (by omega)⟩,hkk hbox1.mark (by omega),hkk hbox1.b0 (by omega),hkk hbox1.b1 (by omega),hkk hbox1.b2 (by omega),hkk hbox1.out (by omega)⟩
    have hown2:OwnG 83 3 leafC W2 (ob+5) A1 cap1 all1:=hown1.same fun g hg=>hm2.block g ((hown1.blk g (by rw[hg];rfl)).2) (fun e=>by have:=(hown1.blk g (by rw[hg];rfl)).1;omega)
    have HRUN2:=ae hrun2
    have HBOX2:=ae hbox2
    have HOWN2:=ae hown2
    have HBR1:=ae hbr1
    have HK0:=ae hk0
    have HREC:=ae hrec
    have HZW2:=ae hz2
    have n2: ∀o,(W2.alloc o).cell? ⟨w.heap.size+1,0,none⟩=some (.slice Ab q cq):=fun o=>aa ((Below.heap_alloc _ _ _ (ac hbox2.b1).1).trans hbox2.b1) 0
    clear hW2 hm2 hrun2 hkk hbox2 hown2 hrun1 hbox1 hown1 hbr1 hj1 hl hv hk0 hrec n0 s0 e0 ef0 hz2
    unfold markOf
    gi_upto_region 15 with(fail)
    obtain⟨kb,hkb⟩: ∃kb,W2.heap.size=kb:=⟨_,rfl⟩
    obtain⟨V,hV⟩: ∃V,V=W2.alloc (.cells #[.int .i64 0] 3):=⟨_,rfl⟩
    have nV:=n2 (.cells #[.int .i64 0] 3)
    rw[←hV]at nV
    rw[←hV,hkb]
    have hzV:V.heap.size=kb+1:=by rw[hV];simp[hkb]
    have hbV:Below W2.heap.size W2 V:=by rw[hV];exact(Below.refl _ _).alloc (Nat.le_refl _) _
    have hKV:V.heap[kb]? =some (.cells #[.int .i64 0] 3 (0,0)):=by rw[hV,←hkb];exact ab W2 _
    have hobk:ob+5≤kb:=by rw[←hkb];have:=(HRUN2.out.own (ob+4) (.inl (by omega))).2.2;omega
    have HKV:=ae hKV
    have HBV:=ae hbV
    have HKB:=ae hkb
    clear hV hKV hbV n2 hkb
    gi_wp2_with (first
     |(refine⟨trivial,?_⟩;refine(callsIn_wide.2 (pages_any (addr:Int) (q:Int) V)).mono ?_;rintro e W3 ⟨rfl,hW3⟩)
     |fail)
    have hz3:W3.heap.size=kb+3:=by rw[hW3];simp[hzV]
    have hb3:Below V.heap.size V W3:=by rw[hW3];exact((Below.refl _ _).alloc (Nat.le_refl _) _).alloc (by simp) _
    have hA3:W3.heap[kb+1]? =some (.cells #[.int .u64 (addr:Int)] 43 (0,0)):=by rw[hW3,←hzV];exact(Below.heap_alloc _ _ _ (by simp)).trans (ab V _)
    have hN3:W3.heap[kb+2]? =some (.cells #[.int .i64 (q:Int)] 3 (0,0)):=by
     rw[hW3]
     have:=ab (V.alloc (.cells #[.int .u64 (addr:Int)] 43)) (.cells #[.int .i64 (q:Int)] 3)
     rw[World.size_alloc,hzV]at this
     exact this
    have HB3:=ae (HBV.out.trans (hb3.mono (by have:=HBV.out.size;omega)))
    have HA3:=ae hA3
    have HN3:=ae hN3
    have HK3:=ae ((hb3.block _ (by omega)).trans HKV.out)
    rw[←hW3]
    clear hW3 hb3 hA3 hN3 nV hzV
    refine wpIn_range2 rfl (by omega) (gf:=155) (lb:= #[.pointer (some ⟨kb+1+1,0,none⟩), .pointer (some ⟨kb+1,0,none⟩)]) rfl trivial (enters_of Tryz.func155 (by kernel_rfl) rfl) ?_
    rw[hz3]
    intro fn2 hfn2 rec2 hrec2
    refine(pages1_in (9-1) (by omega) (kb+3+1) (kb+1+1) (kb+1) (by omega) (addr,q) (by have:=HPM.out.1;simp only at this⊢;omega) (fun j W=>StJ2 w B c a fs m s t root n cap A rl S S1 F clock1 p1 L1 T1 hold d (addr,q) ob kb A1 cap1 all1 j W∧W.heap[kb+3+1]? =some (.loop (rec2 .ready none)))
     (fun W=>False) ?_ ?_ _ ?_).mono ?_
    ·rintro j W ⟨⟨p',Z,cz,h1,h2,h3⟩,_⟩
     exact h2.pg
    ·rintro j W ⟨hJ,hl⟩ hpos
     refine yield_round2 trivial hrec2 hl rfl ?_
     obtain⟨p4,Z,cz,hrun4,hbox4,hown4,hlay4,hby4,hZ4,hcz⟩:=hJ
     obtain⟨x,hx⟩: ∃x,x=(pst (addr,q) j).1:=⟨_,rfl⟩
     obtain⟨M,hM⟩: ∃M,M=pm (pst (addr,q) j):=⟨_,rfl⟩
     obtain⟨R,hR⟩: ∃R,R=(pst (addr,q) j).2:=⟨_,rfl⟩
     rw[←hx,←hM]
     rw[←hR]at hbox4 hby4 hcz
     have hjk:j<all1.length:=by
      rw[HBR1.out.len]
      rcases Nat.lt_or_ge j k with h9|h9
      ·exact h9
      ·have:=pst_stop HK0.out (j-k)
       rw[show k+(j-k)=j by omega]at this
       omega
     obtain⟨lf,hlf⟩: ∃lf,all1[j]? =some lf:=⟨_,List.getElem?_eq_getElem hjk⟩
     obtain⟨ht1,ht2⟩:=HBR1.out.there j lf hlf
     rw[←hx]at ht1
     have hM0:0<M:=by rw[hM];exact pm_pos hpos
     have hMR:M≤R:=by rw[hM,hR];exact pm_le _
     have hM2:M≤4096-x % 4096:=by rw[hM,hx];exact Nat.min_le_right _ _
     have HX:=ae hx
     have HM:=ae hM
     have HRR:=ae hR
     have HRUN4:=ae hrun4
     have HBOX4:=ae hbox4
     have HOWN4:=ae hown4
     have HLAY4:=ae hlay4
     have HBY4:=ae hby4
     have HZ4:=ae hZ4
     have HLF:=ae hlf
     have HT1:=ae ht1
     have HT2:=ae ht2
     have HPOS:=ae hpos
     have HL:=ae hl
     clear hx hM hR hrun4 hbox4 hown4 hlay4 hby4 hZ4 hlf ht1 ht2 hpos hrec2 hl
     gi_wp2
     refine⟨HL.out,?_⟩
     obtain⟨W5,hW5⟩: ∃W5,W5=W.putObj (kb+3+1) (.loop (rec2 .busy none)):=⟨_,rfl⟩
     rw[←hW5]
     have hm5:Mod (fun b=>b=kb+3+1) W W5:=by rw[hW5];exact mod_put
     have hl5:W5.heap[kb+3+1]? =some (.loop (rec2 .busy none)):=by rw[hW5];exact World.putObj_heap_same (ac HL.out).1
     have hrun5:=HRUN4.out.set hm5 (fun b e=> .inr (by omega))
     have hbox5:=HBOX4.out.keep hob3 (W':=W5) (fun b h1=>by
      rcases Nat.lt_or_ge b W.heap.size with h3|h3
      ·exact hm5.block b h3 (by omega)
      ·rw[Array.getElem?_eq_none h3,Array.getElem?_eq_none];rw[hW5,World.putObj_size];exact h3)
     rcases HOWN4.out.form with⟨_,h0,_⟩|⟨gA,hgA,_⟩
     ·rw[h0]at hjk;cases hjk
     subst hgA
     obtain⟨fr,pr,cp⟩:=lf
     have hcp:cp=false:=HT2.out
     subst hcp
     have hown5:OwnG 83 3 leafC W5 (ob+5) (some ⟨gA,0,none⟩) cap1 all1:=HOWN4.out.same fun g hg=>hm5.block g ((HOWN4.out.blk g (by rw[hg];rfl)).2) (fun e=>(HRUN4.out.own g (.inl (.inr (by rw[hg];rfl)))).2.2 |> fun _ =>by
      subst e
      have h9:=HL.out
      rcases HOWN4.out.2 with⟨h8,_⟩|⟨g',cap',cur,h7,_,h6,_⟩
      ·cases h8
      ·injection h7 with h7
       injection hg with hg
       injection h7 with h7
       injection h7 with h7
       injection hg with hg
       rw[←h7,hg,h9]at h6
       cases h6)
     have c0:W5.cell? ⟨w.heap.size,0,none⟩=some (.pointer (some ⟨s,0,none⟩)):=aa hbox5.b0 0
     have s1:W5.cell? ⟨s,1,none⟩=some (.pointer (some ⟨a,0,none⟩)):=aa hrun5.one.self 1
     have ox:W5.cell? ⟨ob,0,none⟩=some (.slice (some ⟨gA,0,none⟩) all1.length cap1):=aa hbox5.out 0
     have kx:W5.cell? ⟨kb,0,none⟩=some (.int .i64 (j:Int)):=aa hbox5.num 0
     have bx:W5.cell? ⟨w.heap.size+1,0,none⟩=some (.slice Z R cz):=aa hbox5.b1 0
     have lx:W5.cell? ⟨gA,j*3,none⟩=some (.int .i64 (fr:Int)):=hown5.cell leaf_elem HLF.out 0 (by decide)
     have hj0:(0:Int)≤(j:Int):=by omega
     have hj1:(j:Int)<(all1.length:Int):=by omega
     have hMz:M≤cz:=by omega
     have hMz2:(M:Int)≤(cz:Int):=by omega
     have hM0':(0:Int)≤(M:Int):=by omega
     obtain⟨u,hu⟩: ∃u:Int,(x:Int) % 4096=u:=⟨_,rfl⟩
     have hu2:((x % 4096:Nat):Int)=u:=by omega
     have hut:(x:Int).tmod 4096=u:=by rw[Int.tmod_eq_emod_of_nonneg (by omega),hu]
     have hwu:IntKind.i64.wrap u=u:=by rw[IntKind.wrap_i64];omega
     have hmx:Tryz.prog.follows .mixedOrders=true:=by kernel_rfl
     have HU2:=ae hu2
     have HRUN5:=ae hrun5
     have HBOX5:=ae hbox5
     have HOWN5:=ae hown5
     have HL5:=ae hl5
     clear hrun5 hbox5 hown5 hl5 hm5 hW5 hu2
     gi_upto_region 18 with(fail)
     refine wpIn_region_Z (fun w'=>w'.cell? ⟨w.heap.size,0,none⟩=some (.pointer (some ⟨s,0,none⟩))∧w'.cell? ⟨s,1,none⟩=some (.pointer (some ⟨a,0,none⟩))∧w'.cell? ⟨ob,0,none⟩=some (.slice (some ⟨gA,0,none⟩) all1.length cap1)∧w'.cell? ⟨kb,0,none⟩=some (.int .i64 (j:Int))∧w'.cell? ⟨w.heap.size+1,0,none⟩=some (.slice Z R cz)∧w'.cell? ⟨gA,j*3,none⟩=some (.int .i64 (fr:Int))) 15 (by kernel_rfl) (by kernel_rfl) (LastIs.of 14 (by kernel_rfl) (by kernel_rfl)) ⟨c0,s1,ox,kx,bx,lx⟩ ?_
     intro HLZ HSW
     refine zt 0 ?_
     refine zt 1 ?_
     refine zt 2 ?_
     refine zt 3 ?_
     refine zt 4 ?_
     refine zt 5 ?_
     refine zt 6 ?_
     refine zt 7 ?_
     refine zt 8 ?_
     refine zt 9 ?_
     refine zt 10 ?_
     refine zt 11 ?_
     refine zt 12 ?_
     refine zt 13 ?_
     refine zt 14 ?_
     refine wpAnyZ_last 15 (by kernel_rfl) rfl rfl (fun K' hK=>?_)
     go_simp
     obtain⟨v1,v2,v3,v4,v5,v6⟩:=HLAY4.out.sp.leaf HT1.out
     dsimp only at v2 v3 v4 v5 v6
     have hst:=store_yes a fr (x % 4096) M cz Z (fun i=>d (x-addr+i)) W5.drew S1 p4 HRUN5.out.home.cache.pool.drew v3 v4 (by omega) hM2 (((by have h9:=HBY4.out;rw[←HX.out]at h9;exact h9:BytesV w Z R (fun i=>d (x-addr+i))).head hMR).run (HRUN5.out.mod.trans (Out.refl _ _) (Mod.of ((Below.refl _ _).drew))) HZ4.out) (fun i=>HD.out _)
     rw[HU2.out]at hst
     have HST:=ae hst
     clear hst v1 v2 v5 v6
     refine(HST.out).mono ?_
     rintro e W6 ⟨rfl,hP6,hm6'⟩
     have hm6:=hm6'.undrew
     obtain⟨hrun6,hk6⟩:=HRUN5.out.pool hP6 hm6
     go_wp2_with fail
     refine hK.out _ _ ?_
     clear hK K'
     refine wpAnyZ_done (by kernel_rfl) ?_ _
     refine noOut_normal ?_
     have hbox6:=HBOX5.out.keep hob3 (W':=W6) (fun b h1=>hk6 b (h1.elim (fun h=> .inl (.inl (by omega))) (fun h=> .inr (by omega))))
     have hl6:=(hk6 (kb+3+1) (.inr (by omega))).trans HL5.out
     have hown6:OwnG 83 3 leafC W6 (ob+5) (some ⟨gA,0,none⟩) cap1 all1:=HOWN5.out.same fun g hg=>hk6 g (.inl (.inr (by rw[hg];rfl)))
     have bx6:W6.cell? ⟨w.heap.size+1,0,none⟩=some (.slice Z R cz):=aa hbox6.b1 0
     have bf6:=one_free hbox6.b1 0
     have hbl6:w.heap.size+1<W6.heap.size:=(ac hbox6.b1).1
     have hne1:w.heap.size+1≠kb:=by omega
     obtain⟨Z2,hZ2⟩: ∃Z2,Z2=if cz=M then Z else Z.map (·.add M):=⟨_,rfl⟩
     have kx6:(W6.setCell ⟨w.heap.size+1,0,none⟩ (.slice Z2 (R-M) (cz-M))).cell? ⟨kb,0,none⟩=some (.int .i64 (j:Int)):=aa (((mod_set (S:=fun b=>b=w.heap.size+1) rfl 0 _).block _ (ac hbox6.num).1 (by omega)).trans hbox6.num) 0
     have kf6:=one_free (((mod_set (S:=fun b=>b=w.heap.size+1) (w:=W6) rfl 0 (.slice Z2 (R-M) (cz-M))).block _ (ac hbox6.num).1 (by omega)).trans hbox6.num) 0
     have hwj:IntKind.i64.wrap ((j:Int)+1)=(j:Int)+1:=by rw[IntKind.wrap_i64];have:=HBR1.out.len;omega
     have HRUN6:=ae hrun6
     have HBOX6:=ae hbox6
     have HL6:=ae hl6
     have HOWN6:=ae hown6
     have HZ2:=ae hZ2
     clear hrun6 hbox6 hl6 hown6 hk6 hm6 hm6' hP6 c0 s1 ox kx bx lx hu hut hwu HSW hZ2
     by_cases hcM:cz=M
     ·have hZ3:Z2=Z:=by rw[HZ2.out,if_pos hcM]
      gi_upto_region 20 with(fail)
      rw[show Value.slice Z (R-M) 0= .slice Z2 (R-M) (cz-M) by rw[hZ3,hcM,Nat.sub_self]]
      have HC:=ae hZ3
      have HCM:=ae hcM
      clear hcM hZ3
      obtain⟨W7,hW7⟩: ∃W7,W7=W6.setCell ⟨w.heap.size+1,0,none⟩ (.slice Z2 (R-M) (cz-M)):=⟨_,rfl⟩
      rw[←hW7]at kx6 kf6⊢
      have hm7:Mod (fun b=>b=w.heap.size+1) W6 W7:=by rw[hW7];exact mod_set (S:=fun b=>b=w.heap.size+1) rfl 0 _
      have hB7:W7.heap[w.heap.size+1]? =some (.cells #[.slice Z2 (R-M) (cz-M)] 39 (0,0)):=by rw[hW7];exact one_set HBOX6.out.b1
      have HM7:=ae hm7
      have HB7:=ae hB7
      clear hW7 hm7 hB7
      gi_wp2
      obtain⟨W8,hW8⟩: ∃W8,W8=W7.setCell ⟨kb,0,none⟩ (.int .i64 ((j:Int)+1)):=⟨_,rfl⟩
      rw[←hW8]
      have hm8:Mod (fun b=>b=kb) W7 W8:=by rw[hW8];exact mod_set (S:=fun b=>b=kb) rfl 0 _
      have hN7:W7.heap[kb]? =some (.cells #[.int .i64 (j:Int)] 3 (0,0)):=(HM7.out.block _ (ac HBOX6.out.num).1 (by omega)).trans HBOX6.out.num
      have hN8:W8.heap[kb]? =some (.cells #[.int .i64 ((j+1:Nat):Int)] 3 (0,0)):=by rw[hW8];exact one_set hN7
      have hk7: ∀ {b:Nat} {o:Obj},W6.heap[b]? =some o→b≠w.heap.size+1→W7.heap[b]? =some o:=fun h1 h2=>(HM7.out.block _ (ac h1).1 h2).trans h1
      have hk8: ∀ {b:Nat} {o:Obj},W7.heap[b]? =some o→b≠kb→W8.heap[b]? =some o:=fun h1 h2=>(hm8.block _ (ac h1).1 h2).trans h1
      have hl8:=hk8 (hk7 HL6.out (by omega)) (by omega)
      have hmp:=mod_put (l:=kb+3+1) (o:= .loop (rec2 .ready none)) (W:=W8)
      have hk9: ∀ {b:Nat} {o:Obj},W8.heap[b]? =some o→b≠kb+3+1→(W8.putObj (kb+3+1) (.loop (rec2 .ready none))).heap[b]? =some o:=fun h1 h2=>(hmp.block _ (ac h1).1 h2).trans h1
      have hpg9:PgSt (W8.putObj (kb+3+1) (.loop (rec2 .ready none))) (kb+2) (kb+1) (pst (addr,q) j):=⟨hk9 (hk8 (hk7 HBOX6.out.pg.n (by omega)) (by omega)) (by omega),hk9 (hk8 (hk7 HBOX6.out.pg.a (by omega)) (by omega)) (by omega)⟩
      obtain⟨hpg10,hm10⟩:=pgNext_is hpg9 (by omega) (pst (addr,q) (j+1))
      have hkA: ∀ {b:Nat} {o:Obj},W8.heap[b]? =some o→b≠kb+3+1→b≠kb+1→b≠kb+2→(pgNext (W8.putObj (kb+3+1) (.loop (rec2 .ready none))) (kb+2) (kb+1) (pst (addr,q) (j+1))).heap[b]? =some o:=fun h1 h2 h3 h4=>(hm10.block _ (ac (hk9 h1 h2)).1 (by omega)).trans (hk9 h1 h2)
      have hx1:(pst (addr,q) (j+1)).1=x+M:=by rw[HX.out,HM.out];rfl
      have hr1:(pst (addr,q) (j+1)).2=R-M:=by rw[HRR.out,HM.out];rfl
      have hxa:addr≤x:=by have:=pst_le (addr,q) j;have:=pst_sum (addr,q) j;rw[HX.out];dsimp only at *;omega
      have hrunA:=((((HRUN6.out.set HM7.out (fun b e=> .inl (.inl (by omega)))).set hm8 (fun b e=> .inr (by omega))).set hmp (fun b e=> .inr (by omega))).set hm10 (fun b e=> .inr (by omega)))
      have hownA:OwnG 83 3 leafC (pgNext (W8.putObj (kb+3+1) (.loop (rec2 .ready none))) (kb+2) (kb+1) (pst (addr,q) (j+1))) (ob+5) (some ⟨gA,0,none⟩) cap1 all1:=HOWN6.out.same fun g hg=>by
       injection hg with hg
       injection hg with hg
       subst hg
       rcases HOWN6.out.2 with⟨h8,_⟩|⟨g',cap',cur,h7,h70,h6,_⟩
       ·cases h8
       ·injection h7 with h7
        injection h7 with h7
        injection h7 with h7
        subst h7
        have hn1:gA≠kb:=fun e=>by rw[e,HBOX6.out.num]at h6;injection h6 with h6;injection h6 with _ h6;cases h6
        have hn2:gA≠kb+1:=fun e=>by rw[e,HBOX6.out.pg.a]at h6;injection h6 with h6;injection h6 with _ h6;cases h6
        have hn3:gA≠kb+2:=fun e=>by rw[e,HBOX6.out.pg.n]at h6;injection h6 with h6;injection h6 with _ h6;cases h6
        have hn4:gA≠kb+3+1:=fun e=>by rw[e,HL6.out]at h6;cases h6
        rw[h6]
        exact hkA (hk8 (hk7 h6 (by omega)) hn1) hn4 hn2 hn3
      have hlayA:=HLAY4.out.step HPOS.out (by rw[←HX.out];exact HT1.out) rfl (e:=fun i=>d (x-addr+i)) (fun i hi=>by rw[←HX.out])
      rw[←HX.out,←HM.out]at hlayA
      refine⟨hl8,rfl,hpg9,⟨_,Z2,cz-M,hrunA,⟨hpg10,hkA (hk8 (hk7 HBOX6.out.mark (by omega)) (by omega)) (by omega) (by omega) (by omega),hkA (hk8 (hk7 HBOX6.out.mark2 (by omega)) (by omega)) (by omega) (by omega) (by omega),hkA (hk8 (hk7 HBOX6.out.b0 (by omega)) (by omega)) (by omega) (by omega) (by omega),?_,hkA (hk8 (hk7 HBOX6.out.b2 (by omega)) (by omega)) (by omega) (by omega) (by omega),hkA (hk8 (hk7 HBOX6.out.out (by omega)) (by omega)) (by omega) (by omega) (by omega),hkA hN8 (by omega) (by omega) (by omega)⟩,hownA,hlayA,?_,?_,?_⟩,?_⟩
      ·rw[hr1]
       exact hkA (hk8 HB7.out (by omega)) (by omega) (by omega) (by omega)
      ·rw[hr1,hx1,HC.out]
       intro h0
       first
       |(
         have h9:=(HBY4.out.cut M) h0
         obtain⟨ad,h1,h2⟩:=h9
         exact⟨ad,h1,fun i hi=>(h2 i hi).trans (by show some (Value.int .u8 ((d ((pst (addr,q) j).1-(addr,q).1+(M+i)):Nat):Int))=_;rw[←HX.out,show x-(addr,q).1+(M+i)=x+M-(addr,q).1+i by(dsimp only;omega)])⟩)
       |(exfalso;have:=HCM.out;omega)
      ·rw[HC.out]
       intro ad hA
       first
       |exact HZ4.out ad hA
       |(
         cases Z with
         |none=>cases hA
         |some z=>
          injection hA with hA
          subst hA
          rw[Addr.add_blk]
          exact HZ4.out z rfl)
      ·rw[hr1];omega
      ·have hlt8:=(ac hl8).1
       exact(hm10.block _ (by rw[World.putObj_size];exact hlt8) (by omega)).trans (World.putObj_heap_same hlt8)
     ·have hZ3:Z2=Z.map (·.add M):=by rw[HZ2.out,if_neg hcM]
      gi_upto_region 20 with(fail)
      rw[show Value.slice (Option.map (fun x=>x.add M) Z) (R-M) (cz-M)= .slice Z2 (R-M) (cz-M) by rw[hZ3]]
      have HC:=ae hZ3
      have HCM:=ae hcM
      clear hcM hZ3
      obtain⟨W7,hW7⟩: ∃W7,W7=W6.setCell ⟨w.heap.size+1,0,none⟩ (.slice Z2 (R-M) (cz-M)):=⟨_,rfl⟩
      rw[←hW7]at kx6 kf6⊢
      have hm7:Mod (fun b=>b=w.heap.size+1) W6 W7:=by rw[hW7];exact mod_set (S:=fun b=>b=w.heap.size+1) rfl 0 _
      have hB7:W7.heap[w.heap.size+1]? =some (.cells #[.slice Z2 (R-M) (cz-M)] 39 (0,0)):=by rw[hW7];exact one_set HBOX6.out.b1
      have HM7:=ae hm7
      have HB7:=ae hB7
      clear hW7 hm7 hB7
      gi_wp2
      obtain⟨W8,hW8⟩: ∃W8,W8=W7.setCell ⟨kb,0,none⟩ (.int .i64 ((j:Int)+1)):=⟨_,rfl⟩
      rw[←hW8]
      have hm8:Mod (fun b=>b=kb) W7 W8:=by rw[hW8];exact mod_set (S:=fun b=>b=kb) rfl 0 _
      have hN7:W7.heap[kb]? =some (.cells #[.int .i64 (j:Int)] 3 (0,0)):=(HM7.out.block _ (ac HBOX6.out.num).1 (by omega)).trans HBOX6.out.num
      have hN8:W8.heap[kb]? =some (.cells #[.int .i64 ((j+1:Nat):Int)] 3 (0,0)):=by rw[hW8];exact one_set hN7
      have hk7: ∀ {b:Nat} {o:Obj},W6.heap[b]? =some o→b≠w.heap.size+1→W7.heap[b]? =some o:=fun h1 h2=>(HM7.out.block _ (ac h1).1 h2).trans h1
      have hk8: ∀ {b:Nat} {o:Obj},W7.heap[b]? =some o→b≠kb→W8.heap[b]? =some o:=fun h1 h2=>(hm8.block _ (ac h1).1 h2).trans h1
      have hl8:=hk8 (hk7 HL6.out (by omega)) (by omega)
      have hmp:=mod_put (l:=kb+3+1) (o:= .loop (rec2 .ready none)) (W:=W8)
      have hk9: ∀ {b:Nat} {o:Obj},W8.heap[b]? =some o→b≠kb+3+1→(W8.putObj (kb+3+1) (.loop (rec2 .ready none))).heap[b]? =some o:=fun h1 h2=>(hmp.block _ (ac h1).1 h2).trans h1
      have hpg9:PgSt (W8.putObj (kb+3+1) (.loop (rec2 .ready none))) (kb+2) (kb+1) (pst (addr,q) j):=⟨hk9 (hk8 (hk7 HBOX6.out.pg.n (by omega)) (by omega)) (by omega),hk9 (hk8 (hk7 HBOX6.out.pg.a (by omega)) (by omega)) (by omega)⟩
      obtain⟨hpg10,hm10⟩:=pgNext_is hpg9 (by omega) (pst (addr,q) (j+1))
      have hkA: ∀ {b:Nat} {o:Obj},W8.heap[b]? =some o→b≠kb+3+1→b≠kb+1→b≠kb+2→(pgNext (W8.putObj (kb+3+1) (.loop (rec2 .ready none))) (kb+2) (kb+1) (pst (addr,q) (j+1))).heap[b]? =some o:=fun h1 h2 h3 h4=>(hm10.block _ (ac (hk9 h1 h2)).1 (by omega)).trans (hk9 h1 h2)
      have hx1:(pst (addr,q) (j+1)).1=x+M:=by rw[HX.out,HM.out];rfl
      have hr1:(pst (addr,q) (j+1)).2=R-M:=by rw[HRR.out,HM.out];rfl
      have hxa:addr≤x:=by have:=pst_le (addr,q) j;have:=pst_sum (addr,q) j;rw[HX.out];dsimp only at *;omega
      have hrunA:=((((HRUN6.out.set HM7.out (fun b e=> .inl (.inl (by omega)))).set hm8 (fun b e=> .inr (by omega))).set hmp (fun b e=> .inr (by omega))).set hm10 (fun b e=> .inr (by omega)))
      have hownA:OwnG 83 3 leafC (pgNext (W8.putObj (kb+3+1) (.loop (rec2 .ready none))) (kb+2) (kb+1) (pst (addr,q) (j+1))) (ob+5) (some ⟨gA,0,none⟩) cap1 all1:=HOWN6.out.same fun g hg=>by
       injection hg with hg
       injection hg with hg
       subst hg
       rcases HOWN6.out.2 with⟨h8,_⟩|⟨g',cap',cur,h7,h70,h6,_⟩
       ·cases h8
       ·injection h7 with h7
        injection h7 with h7
        injection h7 with h7
        subst h7
        have hn1:gA≠kb:=fun e=>by rw[e,HBOX6.out.num]at h6;injection h6 with h6;injection h6 with _ h6;cases h6
        have hn2:gA≠kb+1:=fun e=>by rw[e,HBOX6.out.pg.a]at h6;injection h6 with h6;injection h6 with _ h6;cases h6
        have hn3:gA≠kb+2:=fun e=>by rw[e,HBOX6.out.pg.n]at h6;injection h6 with h6;injection h6 with _ h6;cases h6
        have hn4:gA≠kb+3+1:=fun e=>by rw[e,HL6.out]at h6;cases h6
        rw[h6]
        exact hkA (hk8 (hk7 h6 (by omega)) hn1) hn4 hn2 hn3
      have hlayA:=HLAY4.out.step HPOS.out (by rw[←HX.out];exact HT1.out) rfl (e:=fun i=>d (x-addr+i)) (fun i hi=>by rw[←HX.out])
      rw[←HX.out,←HM.out]at hlayA
      refine⟨hl8,rfl,hpg9,⟨_,Z2,cz-M,hrunA,⟨hpg10,hkA (hk8 (hk7 HBOX6.out.mark (by omega)) (by omega)) (by omega) (by omega) (by omega),hkA (hk8 (hk7 HBOX6.out.mark2 (by omega)) (by omega)) (by omega) (by omega) (by omega),hkA (hk8 (hk7 HBOX6.out.b0 (by omega)) (by omega)) (by omega) (by omega) (by omega),?_,hkA (hk8 (hk7 HBOX6.out.b2 (by omega)) (by omega)) (by omega) (by omega) (by omega),hkA (hk8 (hk7 HBOX6.out.out (by omega)) (by omega)) (by omega) (by omega) (by omega),hkA hN8 (by omega) (by omega) (by omega)⟩,hownA,hlayA,?_,?_,?_⟩,?_⟩
      ·rw[hr1]
       exact hkA (hk8 HB7.out (by omega)) (by omega) (by omega) (by omega)
      ·rw[hr1,hx1,HC.out]
       intro h0
       first
       |(
         have h9:=(HBY4.out.cut M) h0
         obtain⟨ad,h1,h2⟩:=h9
         exact⟨ad,h1,fun i hi=>(h2 i hi).trans (by show some (Value.int .u8 ((d ((pst (addr,q) j).1-(addr,q).1+(M+i)):Nat):Int))=_;rw[←HX.out,show x-(addr,q).1+(M+i)=x+M-(addr,q).1+i by(dsimp only;omega)])⟩)
       |(exfalso;have:=HCM.out;omega)
      ·rw[HC.out]
       intro ad hA
       first
       |exact HZ4.out ad hA
       |(
         cases Z with
         |none=>cases hA
         |some z=>
          injection hA with hA
          subst hA
          rw[Addr.add_blk]
          exact HZ4.out z rfl)
      ·rw[hr1];omega
      ·have hlt8:=(ac hl8).1
       exact(hm10.block _ (by rw[World.putObj_size];exact hlt8) (by omega)).trans (World.putObj_heap_same hlt8)
    ·have hb4:Below W3.heap.size W3 ((W3.alloc (.deferred (some []))).alloc (.loop (rec2 .ready none))):=((Below.refl _ _).alloc (Nat.le_refl _) _).alloc (by simp) _
     have hrun:=((HRUN2.out.below HB3.out).below hb4).sub (K':=StK w ob kb A1) (fun b e=>by
      rcases e with e|e
      ·exact .inl (.inl e)
      ·rcases Nat.lt_or_ge b W3.heap.size with h1|h1
       ·exact .inl (.inr ⟨by have:=HKB.out;omega,h1⟩)
       ·exact .inr ⟨h1,by simp[hz3];omega⟩)
     have hkl: ∀ {b:Nat} {o:Obj},W3.heap[b]? =some o→((W3.alloc (.deferred (some []))).alloc (.loop (rec2 .ready none))).heap[b]? =some o:=fun h1=>(loop_low (ac h1).1).trans h1
     have hk0: ∀ {b:Nat} {o:Obj},W2.heap[b]? =some o→((W3.alloc (.deferred (some []))).alloc (.loop (rec2 .ready none))).heap[b]? =some o:=fun h1=>hkl ((HB3.out.block _ (ac h1).1).trans h1)
     have hown:OwnG 83 3 leafC ((W3.alloc (.deferred (some []))).alloc (.loop (rec2 .ready none))) (ob+5) A1 cap1 all1:=HOWN2.out.same fun g hg=>by
      have h9:=(HOWN2.out.blk g (by rw[hg];rfl)).2
      exact(loop_low (by have:=HB3.out.size;omega)).trans (HB3.out.block g h9)
     have h00:(pst (addr,q) 0).1-(addr,q).1=0:=Nat.sub_self _
     refine⟨⟨p1,Ab,cq,hrun,⟨⟨hkl HN3.out,hkl HA3.out⟩,hk0 HBOX2.out.mark,?_,hk0 HBOX2.out.b0,hk0 HBOX2.out.b1,hk0 HBOX2.out.b2,?_,hkl HK3.out⟩,hown,?_,?_,HAB.out,hqc⟩,?_⟩
     ·have:=ab W3 (.deferred (some []))
      rw[hz3]at this
      exact(Below.heap_alloc _ _ _ (by simp[hz3])).trans this
     ·rw[HBR1.out.len]
      exact hk0 HBOX2.out.out
     ·rw[h00]
      exact Lays.start HBR1.out.seen.kept.sp HBR1.out.seen.kept.own
     ·rw[h00]
      have h9:(fun i=>d (0+i))=d:=by funext i;rw[Nat.zero_add]
      rw[h9]
      exact HBY.out
     ·have:=ab (W3.alloc (.deferred (some []))) (.loop (rec2 .ready none))
      rwa [World.size_alloc,hz3]at this
    ·rintro e W ⟨hv,⟨j,hj0,⟨p4,Z,cz,hrun4,hbox4,hown4,hlay4,hby4,hZ4,hcz⟩,hl⟩|hF⟩
     rotate_left
     ·exact hF.elim
     refine⟨hv, .inl ⟨hl,?_⟩⟩
     obtain⟨W5,hW5⟩: ∃W5,W5=W.putObj (kb+3+1) (.loop (rec2 .exhausted none)):=⟨_,rfl⟩
     rw[←hW5]
     have hm5:Mod (fun b=>b=kb+3+1) W W5:=by rw[hW5];exact mod_put
     have hrun5:=hrun4.set hm5 (fun b e=> .inr (by omega))
     have hkk: ∀ {b:Nat} {o:Obj},W.heap[b]? =some o→b≠kb+3+1→W5.heap[b]? =some o:=fun h1 h2=>(hm5.block _ (ac h1).1 h2).trans h1
     have hE5:=hkk hbox4.b2 (by omega)
     have hM5:=hkk hbox4.mark (by omega)
     have hM6:=hkk hbox4.mark2 (by omega)
     have hsum:=pst_sum (addr,q) j
     rw[hj0,Nat.add_zero]at hsum
     rw[hsum,show(addr,q).1+(addr,q).2-(addr,q).1=q by simp]at hlay4
     have e0:W5.cell? ⟨w.heap.size+1+1,0,none⟩=some (.int .i64 0):=aa hE5 0
     have ef0:=one_free hE5 0
     have helt5:w.heap.size+1+1<W5.heap.size:=(ac hE5).1
     have HRUN5:=ae hrun5
     have HE5:=ae hE5
     have HM5:=ae hM5
     have HM6:=ae hM6
     have HLAY:=ae hlay4
     clear hW5 hm5 hrun5 hkk hE5 hM5 hM6 hsum hlay4 hrun4 hbox4 hown4 hby4 hZ4 hcz hl hv hj0 hrec2
     unfold markOf
     gi_wp2
     have hmt:=HME.out W5 (.int .i64 0)
     have hrun6:=HRUN5.out.set hmt (fun b e=> .inl (.inl (by omega)))
     have he6:(W5.setCell ⟨w.heap.size+1+1,0,none⟩ (.int .i64 0)).heap[w.heap.size+1+1]? =some (.cells #[.int .i64 0] 32 (0,0)):=one_set HE5.out
     have hK2:=(hmt.block _ (ac HM6.out).1 (by omega)).trans HM6.out
     have hK1:=(hmt.block _ (ac HM5.out).1 (by omega)).trans HM5.out
     refine⟨by simp, .inl ⟨_,_,rfl,run_takeDeferred hK2,?_⟩⟩
     have hmd:=mod_put (l:=kb+3) (o:= .deferred none) (W:=W5.setCell ⟨w.heap.size+1+1,0,none⟩ (.int .i64 0))
     have hrun7:=hrun6.set hmd (fun b e=> .inr (by omega))
     have he7:=(hmd.block _ (ac he6).1 (by omega)).trans he6
     have hK3:=(hmd.block _ (ac hK1).1 (by omega)).trans hK1
     refine⟨by simp, .inl ⟨_,_,rfl,run_takeDeferred hK3,?_⟩⟩
     have hme:=mod_put (l:=ob+3) (o:= .deferred none) (W:=(W5.setCell ⟨w.heap.size+1+1,0,none⟩ (.int .i64 0)).putObj (kb+3) (.deferred none))
     have hrun8:=hrun7.set hme (fun b e=> .inl (.inl (by omega)))
     have he8:=(hme.block _ (ac he7).1 (by omega)).trans he7
     have c2:=aa he8 0
     refine⟨.int .i64 0,by simp[results,Tryz.results71,go_sem,c2],?_⟩
     exact⟨0,p4,L1,T1,clock1,S1,rfl,hrun8.home.cache,hrun8.mod,hrun8.out,hc1,by omega, .inr (.inr (.inr ⟨hqs,HPB.out,rfl,k,all1,p1,HK0.out,HBR1.out,HLAY.out⟩))⟩
end
end Go.Proofs.YtoochjhipmpehaaGreatDoor
