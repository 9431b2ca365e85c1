/- Spaces: load. -/
import Derived.Test.YtoochjhipmpehaaGreatDoorAbK
import Derived.Test.YtoochjhipmpehaaGreatDoorGaK
import Derived.Test.YtoochjhipmpehaaGreatDoorSpFK
import Derived.Test.YtoochjhipmpehaaGreatDoorSpHK
import Derived.Shelf.RegionOpen
import Derived.Sort.CutIn
set_option linter.unusedVariables false
set_option linter.unusedSimpArgs false
set_option maxRecDepth 100000
set_option maxHeartbeats 8000000
namespace Go.Proofs.YtoochjhipmpehaaGreatDoor
section
open Go.RowKit Go.Sort
attribute [local go_sem] Oper.semAt_some
section
variable {w W W':World} {G K:Nat→Prop} {B c a fs m s t root:Nat} {A:Option Addr} {n cap:Nat} {rl:List Reg} {S0 S S':Nat→Prop} {F:List Nd} {clock clock':Int} {p p':Pool} {L L':List Slot}
theorem Run.grow {X:Nat→Prop} (h:Run w W G K B c a fs m s t root A n cap rl S0 S F clock p L) (hm:Mod X W W') (hX: ∀b,X b→K b):Run w W' G (fun b=>K b∨(W.heap.size≤b∧b<W'.heap.size)) B c a fs m s t root A n cap rl S0 S F clock p L:=by
 have h2:=h.set hm hX
 refine⟨h2.home,h2.one,h2.mod,h2.out,h2.foot,h2.low,fun b hb=>?_,fun ad e hk=>?_⟩
 ·rcases hb with hb|hb
  ·exact h2.own b hb
  ·have:=h.size
   exact⟨fun e=>by have:=h.home.lts.2.2 b e;omega,by omega,hb.2⟩
 ·rcases hk with hk|hk
  ·exact h.row ad e hk
  ·have:=(h.one.noR ad e).2.2.2.2.2.2
   omega
end
theorem mod_grown {w w':World} {A:Option Addr} (h:w.grownBy w' (A.map (·.block))):Mod (fun b=>A.map (·.block)=some b) w w':=⟨h.os,h.tape,h.output,h.size,fun b hb hn=>h.block b hb fun e=>hn e.symm⟩
theorem pgNext_is {W:World} {b1 b2:Nat} {x:Nat×Nat} (h:PgSt W b1 b2 x) (hne:b1≠b2) (y:Nat×Nat):PgSt (pgNext W b1 b2 y) b1 b2 y∧Mod (fun b=>b=b1∨b=b2) W (pgNext W b1 b2 y):=by
 have hm:Mod (fun b=>b=b1∨b=b2) W (pgNext W b1 b2 y):=(mod_set (S:=fun b=>b=b1∨b=b2) (.inr rfl) 0 _).trans (Out.refl _ _) (mod_set (.inl rfl) 0 _)
 refine⟨⟨?_,?_⟩,hm⟩
 ·have h1:=(mod_set (S:=fun b=>b=b2) (w:=W) rfl 0 (.int .u64 (y.1:Int))).block b1 (ac h.n).1 hne
  exact one_set (h1.trans h.n)
 ·have h1:=one_set (y:= .int .u64 (y.1:Int)) h.a
  exact((mod_set (S:=fun b=>b=b1) rfl 0 _).block b2 (ac h1).1 (fun e=>hne e.symm)).trans h1
structure LdBox (w W:World) (s ob:Nat) (x:Nat×Nat) (k:Nat) (A':Option Addr) (cap':Nat):Prop where
 pg:PgSt W (ob+2) (ob+1) (pst x k)
 mark:W.heap[ob+3]? =some (.deferred (some []))
 b0:W.heap[w.heap.size]? =some (.cells #[.pointer (some ⟨s,0,none⟩)] 60 (0,0))
 b1:W.heap[w.heap.size+1]? =some (.cells #[.slice none 0 0] 39 (0,0))
 b2:W.heap[w.heap.size+1+1]? =some (.cells #[.int .i64 0] 32 (0,0))
 out:W.heap[ob]? =some (.cells #[.slice A' ((pst x k).1-x.1) cap'] 39 (0,0))
theorem LdBox.keep {w W W':World} {s ob:Nat} {x:Nat×Nat} {k:Nat} {A':Option Addr} {cap':Nat} (h:LdBox w W s ob x k A' cap') (hob:w.heap.size+3≤ob) (hk: ∀b,w.heap.size≤b→b<ob+4→W'.heap[b]? =W.heap[b]?):LdBox w W' s ob x k A' cap':=
 ⟨⟨(hk _ (by omega) (by omega)).trans h.pg.n,(hk _ (by omega) (by omega)).trans h.pg.a⟩,(hk _ (by omega) (by omega)).trans h.mark,(hk _ (by omega) (by omega)).trans h.b0,(hk _ (by omega) (by omega)).trans h.b1,(hk _ (by omega) (by omega)).trans h.b2,(hk _ (by omega) (by omega)).trans h.out⟩
def LdK (w:World) (ob:Nat) (A':Option Addr):Nat→Prop:=fun b=>(w.heap.size≤b∧b<ob+5)∨A'.map (·.block)=some b
def LdJ (w:World) (B c a fs m s t root n cap:Nat) (A:Option Addr) (rl:List Reg) (S:Nat→Prop) (F:List Nd) (clock:Int) (p:Pool) (L:List Slot) (T:Tab) (hold:Nat→Nat) (x:Nat×Nat) (ob k:Nat) (W:World):Prop:=
 ∃p' L' T' clock' S' A' cap' d,Run w W (FootS S c m) (LdK w ob A') B c a fs m s t root A n cap rl S S' F clock' p' L'∧LdBox w W s ob x k A' cap'∧OwnB W (ob+5) A' cap' ((pst x k).1-x.1) d∧Brings F hold rl x k p L T p' L' T'∧clock≤clock'∧clock'≤clock+k∧(∀i,x.1+i<(pst x k).1→d i=cont F rl p T ((x.1+i)/4096) ((x.1+i) % 4096))∧ ∀j,j<k→0<(pst x j).2
def LdX (w:World) (B c a fs m s t root n cap:Nat) (A:Option Addr) (rl:List Reg) (S:Nat→Prop) (F:List Nd) (clock:Int) (p:Pool) (L:List Slot) (T:Tab) (hold:Nat→Nat) (x:Nat×Nat) (ob:Nat) (W:World):Prop:=
 ∃p' L' T' clock' S',Run w W (FootS S c m) (LdK w ob none) B c a fs m s t root A n cap rl S S' F clock' p' L'∧clock≤clock'∧clock'≤clock+32∧Short F hold rl x p L T p' L' T'∧W.heap[ob+3]? =some (.deferred (some []))∧W.heap[w.heap.size+1]? =some (.cells #[.slice none 0 0] 39 (0,0))∧W.heap[w.heap.size+1+1]? =some (.cells #[.int .i64 4] 32 (0,0))
def LoadRes (F:List Nd) (hold:Nat→Nat) (rl:List Reg) (p:Pool) (L:List Slot) (T:Tab) (addr:Nat) (len want:Int) (er:Int) (k:Nat) (d:Nat→Nat) (p':Pool) (L':List Slot) (T':Tab):Prop:=
 ((len<0∨65536<len)∧er=1∧p'=p∧L'=L∧T'=T)∨
 (0≤len∧len≤65536∧permB rl (addr,len.toNat) want=false∧er=6∧p'=p∧L'=L∧T'=T)∨
 (0≤len∧len≤65536∧permB rl (addr,len.toNat) want=true∧er=4∧Short F hold rl (addr,len.toNat) p L T p' L' T')∨
 (0≤len∧len≤65536∧permB rl (addr,len.toNat) want=true∧er=0∧(k:Int)=len∧(∃j,(pst (addr,len.toNat) j).2=0∧Brings F hold rl (addr,len.toNat) j p L T p' L' T')∧ ∀i,i<k→d i=cont F rl p T ((addr+i)/4096) ((addr+i) % 4096))
def LoadPost (w:World) (S:Nat→Prop) (c a fs m:Nat) (F:List Nd) (rl:List Reg) (clock:Int) (p:Pool) (L:List Slot) (T:Tab) (hold:Nat→Nat) (addr:Nat) (len want:Int) (e:Ending) (w':World):Prop:=
 ∃er R k cp d p' L' T' clock' S',e= .returned (.tuple #[.slice R k cp, .int .i64 er])∧CacheAt w' S' c a fs m clock' p' L'∧Mod (FootS S c m) w w'∧Out S S' w∧clock≤clock'∧clock'≤clock+32∧OwnB w' w.heap.size R cp k d∧(∀g,R.map (·.block)=some g→ ¬S' g)∧LoadRes F hold rl p L T addr len want er k d p' L' T'
theorem OwnB.nilB (w:World) (base:Nat) (d:Nat→Nat):OwnB w base none 0 0 d:=⟨rfl, .inl ⟨rfl,rfl⟩⟩
theorem OwnB.blk {w:World} {base cap n:Nat} {A:Option Addr} {d:Nat→Nat} (h:OwnB w base A cap n d): ∀g,A.map (·.block)=some g→base≤g∧g<w.heap.size:=fun g e=>by
 rcases h.2 with⟨h2,_⟩|⟨g',cap',cur,h1,h2,h3,_⟩
 ·injection h2 with e1;rw[e1]at e;cases e
 ·injection h1 with e1
  rw[e1]at e
  simp at e
  subst e
  exact⟨h2,(ac h3).1⟩
theorem OwnB.sameR {w w':World} {base cap n:Nat} {A:Option Addr} {d:Nat→Nat} (h:OwnB w base A cap n d) (hb: ∀g,A=some ⟨g,0,none⟩→w'.heap[g]? =w.heap[g]?):OwnB w' base A cap n d:=by
 refine⟨h.1,?_⟩
 rcases h.2 with h2|⟨g,cap',cur,h1,h2,h3,h4⟩
 ·exact .inl h2
 ·injection h1 with e1 e2 e3
  exact .inr ⟨g,cap',cur,by rw[e1,e2,e3],h2,(hb g e1).trans h3,h4⟩
theorem sload_any (B c a fs m s t root n cap addr:Nat) (len want:Int) (A:Option Addr) (rl:List Reg) (clock:Int) (w:World) (S:Nat→Prop) (F:List Nd) (p:Pool) (L:List Slot) (T:Tab) (hold:Nat→Nat)
  (hH:Home w B c a fs m S F clock p L) (hO:One w B c a m S s t root A n cap rl) (hsp:Sp F hold p L T) (ho:Own p T) (hr:T.nd 4 0=some root) (hR:Rgs F rl) (haddr:addr<18446744073709551616) (hcap: ∀f,hold f≤100000000000) (hck:0≤clock∧clock+32<1000000):
  Calls Tryz.prog 70 #[.pointer (some ⟨s,0,none⟩), .int .u64 (addr:Int), .int .i64 len, .int .u8 want] w (LoadPost w S c a fs m F rl clock p L T hold addr len want):=by
 refine(callsIn_wide (n:=9)).1 ?_
 refine callsIn_of_wp_marks Tryz.func70 rfl trivial ?_
 simp only[Tryz.ntmps70,List.size_toArray,List.length_cons,List.length_nil,Nat.reduceAdd,Nat.reduceSub,Array.replicate_succ,Array.replicate_zero,List.push_toArray,List.append_toArray,List.nil_append,List.cons_append]
 obtain⟨w0,hw0⟩: ∃w0,w0=((w.alloc (.cells #[.pointer (some ⟨s,0,none⟩)] 60)).alloc (.cells #[.slice none 0 0] 39)).alloc (.cells #[.int .i64 0] 32):=⟨_,rfl⟩
 have hz0:w0.heap.size=w.heap.size+1+1+1:=by rw[hw0];simp
 have hb0:Below w.heap.size w w0:=by rw[hw0];exact(((Below.refl _ _).alloc (Nat.le_refl _) _).alloc (by simp) _).alloc (by simp;omega) _
 have hE0:w0.heap[w.heap.size+1+1]? =some (.cells #[.int .i64 0] 32 (0,0)):=by
  rw[hw0]
  have:=ab ((w.alloc (.cells #[.pointer (some ⟨s,0,none⟩)] 60)).alloc (.cells #[.slice none 0 0] 39)) (.cells #[.int .i64 0] 32)
  rwa [World.size_alloc,World.size_alloc]at this
 have hN0:w0.heap[w.heap.size+1]? =some (.cells #[.slice none 0 0] 39 (0,0)):=by
  rw[hw0]
  have:=ab (w.alloc (.cells #[.pointer (some ⟨s,0,none⟩)] 60)) (.cells #[.slice none 0 0] 39)
  rw[World.size_alloc]at this
  exact(Below.heap_alloc _ _ _ (by simp)).trans this
 have hS0:w0.heap[w.heap.size]? =some (.cells #[.pointer (some ⟨s,0,none⟩)] 60 (0,0)):=by
  rw[hw0]
  exact(Below.heap_alloc _ _ _ (by simp;omega)).trans ((Below.heap_alloc _ _ _ (by simp)).trans (ab w _))
 have hrun0:=(Run.start hH hO (fun _ e=>e)).below hb0
 have s0:w0.cell? ⟨w.heap.size,0,none⟩=some (.pointer (some ⟨s,0,none⟩)):=aa hS0 0
 have n0:w0.cell? ⟨w.heap.size+1,0,none⟩=some (.slice none 0 0):=aa hN0 0
 have nf0:=one_free hN0 0
 have e0:w0.cell? ⟨w.heap.size+1+1,0,none⟩=some (.int .i64 0):=aa hE0 0
 have ef0:=one_free hE0 0
 have hnlt:w.heap.size+1<w0.heap.size:=by omega
 have helt:w.heap.size+1+1<w0.heap.size:=by omega
 have HW0:=ae hw0
 have HZ0:=ae hz0
 have HE0:=ae hE0
 have HN0:=ae hN0
 have HS0:=ae hS0
 have HRUN0:=ae hrun0
 have HSP:=ae hsp
 have HOWN:=ae ho
 have HR:=ae hr
 have HRG:=ae hR
 have HB0:=ae hb0
 have hgone:=sgone_no s c a t n cap A w0 hrun0.one.self
 have HGONE:=ae hgone
 clear hgone hw0 hz0 hb0 hE0 hN0 hS0 hrun0 hH hO hsp ho hr hR
 have two:=fun(w0:World) (v u:Value)=>((mod_set (S:=fun b=>b=w.heap.size+1∨b=w.heap.size+1+1) (w:=w0) (.inl rfl) 0 v).trans (Out.refl _ _) (mod_set (S:=fun b=>b=w.heap.size+1∨b=w.heap.size+1+1) (w:=w0.setCell ⟨w.heap.size+1,0,none⟩ v) (b:=w.heap.size+1+1) (.inr rfl) 0 u))
 have HTWO:=ae two
 clear two
 by_cases hbad:len<0∨65536<len
 ·have HBAD:=ae hbad
  have key:LoadPost w S c a fs m F rl clock p L T hold addr len want (.returned (.tuple #[.slice none 0 0, .int .i64 1])) ((w0.setCell ⟨w.heap.size+1,0,none⟩ (.slice none 0 0)).setCell ⟨w.heap.size+1+1,0,none⟩ (.int .i64 1)):=by
   have hrun1:=HRUN0.out.set (HTWO.out w0 (.slice none 0 0) (.int .i64 1)) (fun b e=> .inr (by have:=HZ0.out;omega))
   exact⟨1,none,0,0,fun _ =>0,p,L,T,clock,S,rfl,hrun1.home.cache,hrun1.mod,hrun1.out,Int.le_refl _,by omega,OwnB.nilB _ _ _,fun g e=>(by cases e), .inl ⟨HBAD.out,rfl,rfl,rfl,rfl⟩⟩
  have KEY:=ae key
  clear key
  rcases hbad with hneg|hbig
  ·gi_wp2_with (first
    |(refine⟨trivial,?_⟩;rw[←HW0.out];refine(callsIn_wide.2 HGONE.out).mono ?_;rintro e w1 ⟨rfl,rfl⟩)
    |fail)
   exact⟨.tuple #[.slice none 0 0, .int .i64 1],by simp[results,Tryz.results70,go_sem,n0,e0,nf0,ef0,hnlt,helt],KEY.out⟩
  ·have hneg: ¬len<0:=by omega
   gi_wp2_with (first
    |(refine⟨trivial,?_⟩;rw[←HW0.out];refine(callsIn_wide.2 HGONE.out).mono ?_;rintro e w1 ⟨rfl,rfl⟩)
    |fail)
   exact⟨.tuple #[.slice none 0 0, .int .i64 1],by simp[results,Tryz.results70,go_sem,n0,e0,nf0,ef0,hnlt,helt],KEY.out⟩
 have hneg: ¬len<0:=fun h=>hbad (.inl h)
 have hbig: ¬65536<len:=fun h=>hbad (.inr h)
 obtain⟨q,hq⟩: ∃q:Nat,len=(q:Int):=⟨len.toNat,by omega⟩
 have hqt:len.toNat=q:=by omega
 have hqs:q≤65536:=by omega
 have hperm:=permits_any s c a t n cap A rl addr q want w0 HRUN0.out.one.self HRUN0.out.one.row haddr (by omega)
 rw[←hq]at hperm
 cases hpb:permB rl (addr,q) want with
 |false=>
  rw[hpb]at hperm
  have HPERM:=ae hperm
  have HPB:=ae hpb
  have HQ:=ae hq
  clear hperm hpb hbad hq
  gi_wp2_with (first
   |(refine⟨trivial,?_⟩;rw[←HW0.out];refine(callsIn_wide.2 HGONE.out).mono ?_;rintro e w1 ⟨rfl,rfl⟩)
   |(refine⟨trivial,?_⟩;refine(callsIn_wide.2 HPERM.out).mono ?_;rintro e w1 ⟨rfl,hb1⟩;have hN1:=(hb1.block _ hnlt).trans HN0.out;have hE1:=(hb1.block _ helt).trans HE0.out;have n1:w1.cell? ⟨w.heap.size+1,0,none⟩=some (.slice none 0 0):=aa hN1 0;have nf1:=one_free hN1 0;have e1:w1.cell? ⟨w.heap.size+1+1,0,none⟩=some (.int .i64 0):=aa hE1 0;have ef1:=one_free hE1 0;have hnlt1:w.heap.size+1<w1.heap.size:=(ac hN1).1;have helt1:w.heap.size+1+1<w1.heap.size:=(ac hE1).1)
   |fail)
  refine⟨.tuple #[.slice none 0 0, .int .i64 6],by simp[results,Tryz.results70,go_sem,n1,e1,nf1,ef1,hnlt1,helt1],?_⟩
  have hrun1:=(HRUN0.out.below hb1).set (HTWO.out w1 (.slice none 0 0) (.int .i64 6)) (fun b e=> .inl (.inr (by have:=HZ0.out;omega)))
  exact⟨6,none,0,0,fun _ =>0,p,L,T,clock,S,rfl,hrun1.home.cache,hrun1.mod,hrun1.out,Int.le_refl _,by omega,OwnB.nilB _ _ _,fun g e=>(by cases e), .inr (.inl ⟨by omega,by omega,by rw[hqt];exact HPB.out,rfl,rfl,rfl,rfl⟩)⟩
 |true=>
  have hpm:Perm rl (addr,q) want:=by
   unfold permB at hpb
   exact @of_decide_eq_true _ (Classical.propDecidable _) hpb
  rw[hpb]at hperm
  have HPERM:=ae hperm
  have HPB:=ae hpb
  have HQ:=ae hq
  have HPM:=ae hpm
  clear hperm hpb hbad hq hpm
  gi_upto_region 8 with(first
   |(refine⟨trivial,?_⟩;rw[←HW0.out];refine(callsIn_wide.2 HGONE.out).mono ?_;rintro e w1 ⟨rfl,rfl⟩)
   |(refine⟨trivial,?_⟩;refine(callsIn_wide.2 HPERM.out).mono ?_;rintro e w1 ⟨rfl,hb1⟩)
   |fail)
  obtain⟨ob,hob⟩: ∃ob,w1.heap.size=ob:=⟨_,rfl⟩
  have hob3:w.heap.size+3≤ob:=by have:=hb1.size;have:=HZ0.out;omega
  obtain⟨wa,hwa⟩: ∃wa,wa=w1.alloc (.cells #[.slice none 0 0] 39):=⟨_,rfl⟩
  rw[←hwa,hob]
  have hza:wa.heap.size=ob+1:=by rw[hwa];simp[hob]
  have hba:Below w0.heap.size w0 wa:=by rw[hwa];exact hb1.alloc hb1.size _
  have hOa:wa.heap[ob]? =some (.cells #[.slice none 0 0] 39 (0,0)):=by rw[hwa,←hob];exact ab w1 _
  have HOA:=ae hOa
  have HBA:=ae hba
  clear hwa hba hOa hb1
  gi_wp2_with (first
   |(refine⟨trivial,?_⟩;refine(callsIn_wide.2 (pages_any (addr:Int) len wa)).mono ?_;rintro e w2 ⟨rfl,hw2⟩)
   |fail)
  have hz2:w2.heap.size=ob+3:=by rw[hw2];simp[hza]
  have hb2:Below wa.heap.size wa w2:=by rw[hw2];exact((Below.refl _ _).alloc (Nat.le_refl _) _).alloc (by simp) _
  have hA2:w2.heap[ob+1]? =some (.cells #[.int .u64 (addr:Int)] 43 (0,0)):=by rw[hw2,←hza];exact(Below.heap_alloc _ _ _ (by simp)).trans (ab wa _)
  have hN2:w2.heap[ob+2]? =some (.cells #[.int .i64 len] 3 (0,0)):=by
   rw[hw2]
   have:=ab (wa.alloc (.cells #[.int .u64 (addr:Int)] 43)) (.cells #[.int .i64 len] 3)
   rw[World.size_alloc,hza]at this
   exact this
  have HB2:=ae (HBA.out.trans (hb2.mono (by have:=HBA.out.size;omega)))
  have HA2:=ae hA2
  have HN2:=ae hN2
  have HO2:=ae ((hb2.block _ (by omega)).trans HOA.out)
  rw[←hw2]
  clear hw2 hb2 hA2 hN2
  refine wpIn_range2 rfl (by omega) (gf:=155) (lb:= #[.pointer (some ⟨ob+1+1,0,none⟩), .pointer (some ⟨ob+1,0,none⟩)]) rfl trivial (enters_of Tryz.func155 (by kernel_rfl) rfl) ?_
  rw[hz2]
  intro fn hfn rec hrec
  refine(pages1_in (9-1) (by omega) (ob+3+1) (ob+1+1) (ob+1) (by omega) (addr,q) (by have:=HPM.out.1;simp only at this⊢;omega) (fun k W=>LdJ w B c a fs m s t root n cap A rl S F clock p L T hold (addr,q) ob k W∧W.heap[ob+3+1]? =some (.loop (rec .ready none)))
   (fun W=>LdX w B c a fs m s t root n cap A rl S F clock p L T hold (addr,q) ob W∧W.heap[ob+3+1]? =some (.loop (rec .done (some .ret)))) ?_ ?_ _ ?_).mono ?_
  ·rintro k W ⟨⟨p',L',T',clock',S',A',cap',d,h1,h2,h3⟩,_⟩
   exact h2.pg
  ·rintro k W ⟨hJ,hl⟩ hpos
   refine yield_round2 trivial hrec hl rfl ?_
   obtain⟨p1,L1,T1,clock1,S1,A1,cap1,d1,hrun1,hbox1,hown1,hbr1,hc1,hc2,hd1,hj1⟩:=hJ
   obtain⟨x,hx⟩: ∃x,x=(pst (addr,q) k).1:=⟨_,rfl⟩
   obtain⟨M,hM⟩: ∃M,M=pm (pst (addr,q) k):=⟨_,rfl⟩
   rw[←hx,←hM]
   have hfew:=pst_few (addr,q) k hpos
   dsimp only at hfew
   have hk17:k≤17:=by omega
   have HX:=ae hx
   have HM:=ae hM
   have HRUN1:=ae hrun1
   have HBOX1:=ae hbox1
   have HOWN1:=ae hown1
   have HBR1:=ae hbr1
   have HD1:=ae hd1
   have HJ1:=ae hj1
   have HPOS:=ae hpos
   have HREC:=ae hrec
   have HL:=ae hl
   clear hx hM hrun1 hbox1 hown1 hbr1 hd1 hj1 hpos hrec hl hfew
   gi_wp2
   refine⟨HL.out,?_⟩
   obtain⟨W2,hW2⟩: ∃W2,W2=W.putObj (ob+3+1) (.loop (rec .busy none)):=⟨_,rfl⟩
   rw[←hW2]
   have hm2:Mod (fun b=>b=ob+3+1) W W2:=by rw[hW2];exact mod_put
   have hl2:W2.heap[ob+3+1]? =some (.loop (rec .busy none)):=by rw[hW2];exact World.putObj_heap_same (ac HL.out).1
   have hrun2:=HRUN1.out.set hm2 (fun b e=> .inl (by omega))
   have hbox2:=HBOX1.out.keep hob3 (W':=W2) (fun b h1 h2=>by
    rcases Nat.lt_or_ge b W.heap.size with h3|h3
    ·exact hm2.block b h3 (by omega)
    ·rw[Array.getElem?_eq_none h3,Array.getElem?_eq_none];rw[hW2,World.putObj_size];exact h3)
   have hown2:OwnB W2 (ob+5) A1 cap1 (x-addr) d1:=by
    rw[HX.out]
    exact HOWN1.out.sameR fun g hg=>hm2.block g ((HOWN1.out.blk g (by rw[hg];rfl)).2) (fun e=>by have:=(HOWN1.out.blk g (by rw[hg];rfl)).1;omega)
   obtain⟨r,hfr,_⟩:=HPM.out.2 k HPOS.out
   have hask:Ask F rl r (x/4096):=HRG.out.ask (by rw[HX.out];exact hfr)
   have hxs:x+(pst (addr,q) k).2=addr+q:=by rw[HX.out];exact pst_sum (addr,q) k
   have hxb:x≤140737488355328:=by have:=HPM.out.1;simp only at this;omega
   have hw1:IntKind.u64.wrap ((x:Int)/4096*4096)=(x:Int)/4096*4096:=by rw[IntKind.wrap_u64];omega
   have hbring:=bring_any B c a fs m s t root n cap (x/4096) A rl r clock1 ((x:Int)/4096*4096) W2 S1 F p1 L1 T1 hold hrun2.home hrun2.one HBR1.out.seen.kept.sp HBR1.out.seen.kept.own (HBR1.out.seen.kept.root _ HR.out) hask (by omega) hcap (by omega)
   have hra:(Rg.find rl ((((pst (addr,q) k).1/4096:Nat):Int)*4096)).1=r:=by rw[←HX.out,hask.find]
   have c0:W2.cell? ⟨w.heap.size,0,none⟩=some (.pointer (some ⟨s,0,none⟩)):=aa hbox2.b0 0
   have hobW:ob+5≤W2.heap.size:=by have:=(ac hl2).1;omega
   have HBRING:=ae hbring
   have HRA:=ae hra
   have HRUN2:=ae hrun2
   have HBOX2:=ae hbox2
   have HOWN2:=ae hown2
   have HL2:=ae hl2
   have HXS:=ae hxs
   clear hbring hra hrun2 hbox2 hown2 hl2 hask hfr hxs hm2 hW2
   gi_upto_region 12 with(first
    |(refine⟨trivial,?_⟩;refine(CallsIn.inRound (ob+3+1) (callsIn_wide.2 HBRING.out)).mono ?_;rintro e W3 ⟨er,⟨fr,pr,cp⟩,p3,L3,T3,clock3,S3,rfl,hC3,hm3,ho3,hc31,hc32,hbr3⟩;unfold leafCells)
    |fail)
   obtain⟨W4,hW4⟩: ∃W4,W4=W3.alloc (.cells #[.int .i64 (fr:Int), .int .u8 (pr:Int), .bool cp] 83):=⟨_,rfl⟩
   rw[←hW4]
   obtain⟨hrun3,hk3⟩:=HRUN2.out.call hC3 hm3 ho3
   have hb4:Below W3.heap.size W3 W4:=by rw[hW4];exact(Below.refl _ _).alloc (Nat.le_refl _) _
   have hz4:W4.heap.size=W3.heap.size+1:=by rw[hW4];simp
   have hX4:W4.heap[W3.heap.size]? =some (.cells #[.int .i64 (fr:Int), .int .u8 (pr:Int), .bool cp] 83 (0,0)):=by rw[hW4];exact ab W3 _
   have hz3:=hm3.size
   have hrun4:=(hrun3.below hb4).sub (K':=LdK w ob A1) (fun b e=> .inl e)
   have hk4: ∀b,LdK w ob A1 b→W4.heap[b]? =W2.heap[b]? :=fun b hb=>(hb4.block b ((HRUN2.out.own b hb).2.2 |> fun h=>by omega)).trans (hk3 b hb)
   have hbox4:=HBOX2.out.keep hob3 (W':=W4) (fun b h1 h2=>hk4 b (.inl (by omega)))
   have hl4:=(hk4 (ob+3+1) (.inl (by omega))).trans HL2.out
   have hown4:OwnB W4 (ob+5) A1 cap1 (x-addr) d1:=HOWN2.out.sameR fun g hg=>hk4 g (.inr (by rw[hg];rfl))
   have HRUN4:=ae hrun4
   have HBOX4:=ae hbox4
   have HL4:=ae hl4
   have HOWN4:=ae hown4
   have HX4:=ae hX4
   have HBR3:=ae hbr3
   have hwW4:w.heap.size<W4.heap.size:=by omega
   clear hrun3 hk3 hb4 hX4 hrun4 hk4 hbox4 hl4 hown4 hbr3 hC3 hm3 ho3 hW4 hw1 c0 hz4 hz3
   have n0:W4.cell? ⟨w.heap.size+1,0,none⟩=some (.slice none 0 0):=aa HBOX4.out.b1 0
   have nf0:=one_free HBOX4.out.b1 0
   have e0:W4.cell? ⟨w.heap.size+1+1,0,none⟩=some (.int .i64 0):=aa HBOX4.out.b2 0
   have ef0:=one_free HBOX4.out.b2 0
   by_cases her:er=0
   rotate_left
   ·have hne:(er != 0)=true:=by rw[bne_iff_ne];exact her
    obtain⟨her4,hshort⟩:=HBR1.out.fail HPOS.out HRA.out (by rw[←HX.out];exact HBR3.out) her
    subst her4
    have HSHORT:=ae hshort
    clear hshort her
    gi_wp2
    have hmt:=HTWO.out W4 (.slice none 0 0) (.int .i64 4)
    have hrun5:=HRUN4.out.set hmt (fun b e=> .inl (by omega))
    have hl5:=(hmt.block _ (ac HL4.out).1 (by omega)).trans HL4.out
    have hm5:=(hmt.block _ (ac HBOX4.out.mark).1 (by omega)).trans HBOX4.out.mark
    have hn5:((W4.setCell ⟨w.heap.size+1,0,none⟩ (.slice none 0 0)).setCell ⟨w.heap.size+1+1,0,none⟩ (.int .i64 4)).heap[w.heap.size+1]? =some (.cells #[.slice none 0 0] 39 (0,0)):=
     ((mod_set (S:=fun b=>b=w.heap.size+1+1) rfl 0 _).block _ (by simp;exact(ac HBOX4.out.b1).1) (by omega)).trans (one_set HBOX4.out.b1)
    have he5:((W4.setCell ⟨w.heap.size+1,0,none⟩ (.slice none 0 0)).setCell ⟨w.heap.size+1+1,0,none⟩ (.int .i64 4)).heap[w.heap.size+1+1]? =some (.cells #[.int .i64 4] 32 (0,0)):=
     one_set (((mod_set (S:=fun b=>b=w.heap.size+1) rfl 0 _).block _ (ac HBOX4.out.b2).1 (by omega)).trans HBOX4.out.b2)
    refine⟨hl5, .inr ⟨rfl,?_,World.putObj_heap_same (ac hl5).1⟩⟩
    have hmp:=mod_put (l:=ob+3+1) (o:= .loop (rec .done (some .ret))) (W:=(W4.setCell ⟨w.heap.size+1,0,none⟩ (.slice none 0 0)).setCell ⟨w.heap.size+1+1,0,none⟩ (.int .i64 4))
    have hrun6:=hrun5.set hmp (fun b e=> .inl (by omega))
    have hkp: ∀ {b:Nat} {o:Obj},((W4.setCell ⟨w.heap.size+1,0,none⟩ (.slice none 0 0)).setCell ⟨w.heap.size+1+1,0,none⟩ (.int .i64 4)).heap[b]? =some o→b≠ob+3+1→(((W4.setCell ⟨w.heap.size+1,0,none⟩ (.slice none 0 0)).setCell ⟨w.heap.size+1+1,0,none⟩ (.int .i64 4)).putObj (ob+3+1) (.loop (rec .done (some .ret)))).heap[b]? =some o:=fun h1 h2=>(hmp.block _ (ac h1).1 h2).trans h1
    exact⟨p3,L3,T3,clock3,S3,hrun6.sub (fun b e=>e.elim .inl (fun e=>by cases e)),by omega,by omega,HSHORT.out,hkp hm5 (by omega),hkp hn5 (by omega),hkp he5 (by omega)⟩
   subst her
   obtain⟨g1,g2⟩:=HBR3.out.got rfl
   obtain⟨v1,v2,v3,v4,v5,v6⟩:=HBR3.out.kept.sp.leaf g1
   dsimp only at v2 v3 v4 v5 v6
   have hM1:0<M:=by rw[HM.out];exact pm_pos HPOS.out
   have hM2:M≤4096-x % 4096:=by rw[HM.out,HX.out];exact Nat.min_le_right _ _
   obtain⟨u,hu⟩: ∃u:Int,(x:Int) % 4096=u:=⟨_,rfl⟩
   have hu2:((x % 4096:Nat):Int)=u:=by omega
   have hu3:0≤u∧u<4096:=by omega
   have hut:(x:Int).tmod 4096=u:=by rw[Int.tmod_eq_emod_of_nonneg (by omega),hu]
   have hwu:IntKind.i64.wrap u=u:=by rw[IntKind.wrap_i64];omega
   have hload:=load_yes a fr (x % 4096) M W4.drew S3 p3 HRUN4.out.home.cache.pool.drew v3 v4 (by omega) hM2
   rw[hu2]at hload
   have hload2:Calls Tryz.prog 122 #[.pointer (some ⟨a,0,none⟩), .int .i64 (fr:Int), .int .i64 u, .int .i64 (M:Int)] W4.drew fun e Wx=>e= .returned (.tuple #[.slice (some ⟨W4.heap.size,0,none⟩) M M, .int .i64 0])∧Hid (BytesAt Wx W4.heap.size M (fun i=>p3.dat fr (x % 4096+i)))∧Hid (Below W4.heap.size W4 Wx)∧Hid (W4.heap.size<Wx.heap.size):=by
    refine hload.mono ?_
    rintro e Wx ⟨rfl,hB,hz,hb'⟩
    exact⟨rfl,ae hB,ae (below_undrew hb'),ae hz⟩
   have HLOAD:=ae hload2
   have HU2:=ae hu2
   have HBR3G:=ae g1
   have c0:W4.cell? ⟨w.heap.size,0,none⟩=some (.pointer (some ⟨s,0,none⟩)):=aa HBOX4.out.b0 0
   have s1:W4.cell? ⟨s,1,none⟩=some (.pointer (some ⟨a,0,none⟩)):=aa HRUN4.out.one.self 1
   obtain⟨⟨x0,x1,x2⟩,_,_⟩:=box3 HX4.out
   have hmx:Tryz.prog.follows .mixedOrders=true:=by kernel_rfl
   clear hload hload2 hu2 g1 g2 v1 v2 v5 v6
   gi_upto_region 14 with(fail)
   gi_cut [15]from 51 (fun b wx=>b= .slice (some ⟨W4.heap.size,0,none⟩) M M∧BytesAt wx W4.heap.size M (fun i=>p3.dat fr (x % 4096+i))∧Below W4.heap.size W4 wx∧W4.heap.size<wx.heap.size)
   case first=>
    refine wpIn_region_Z (fun w'=>w'.cell? ⟨w.heap.size,0,none⟩=some (.pointer (some ⟨s,0,none⟩))∧w'.cell? ⟨s,1,none⟩=some (.pointer (some ⟨a,0,none⟩))∧w'.cell? ⟨W3.heap.size,0,none⟩=some (.int .i64 (fr:Int))) 15 (by kernel_rfl) (by kernel_rfl) (LastIs.of 14 (by kernel_rfl) (by kernel_rfl)) ⟨c0,s1,x0⟩ ?_
    intro HLZ HSW
    refine zt 0 ?_
    refine zt 1 ?_
    refine zt 2 ?_
    refine zt 3 ?_
    refine zt 4 ?_
    refine zt 5 ?_
    refine zt 6 ?_
    refine zt 7 ?_
    refine zt 8 ?_
    refine zt 9 ?_
    refine wpAnyZ_step 10 (by kernel_rfl) rfl (fun K' hK=>?_)
    go_simp
    refine(HLOAD.out).mono ?_
    rintro e W5 ⟨rfl,HB5,HM5,HZ5⟩
    have c5:=(HM5.out.cell (p:=⟨w.heap.size,0,none⟩) hwW4).trans c0
    have s5:=(HM5.out.cell (p:=⟨s,1,none⟩) (World.block_lt_of_cell? _ _ s1)).trans s1
    have x5:=(HM5.out.cell (p:=⟨W3.heap.size,0,none⟩) (World.block_lt_of_cell? _ _ x0)).trans x0
    go_wp2_with fail
    refine hK.out _ _ ⟨c5,s5,x5⟩ (fun HSW=>?_)
    clear hK K'
    try simp only[Act.put,List.setIfInBounds_toArray,List.set_cons_zero,List.set_cons_succ,List.getElem_toArray,List.getElem_cons_succ,List.getElem_cons_zero]
    refine zt 11 ?_
    refine zt 12 ?_
    refine zt 13 ?_
    refine zt 14 ?_
    refine wpAnyZ_last 15 (by kernel_rfl) rfl rfl (fun K' hK=>?_)
    go_simp
    refine hK.out _ _ ?_
    clear hK K'
    refine wpAnyZ_done (by kernel_rfl) ?_ _
    refine noOut_normal ?_
    gi_wp2
    gi_meet
    exact⟨rfl,HB5.out,HM5.out,HZ5.out⟩
   case rest=>
   obtain⟨rfl,hB5,hM5,hZ5⟩:=hcut
   have hrun5:=(HRUN4.out.below hM5).sub (K':=LdK w ob A1) (fun b e=> .inl e)
   have hkb: ∀b,LdK w ob A1 b→wc.heap[b]? =W4.heap[b]? :=fun b hb=>hM5.block b (HRUN4.out.own b hb).2.2
   have hbox5:=HBOX4.out.keep hob3 (W':=wc) (fun b h1 h2=>hkb b (.inl (by omega)))
   have hl5:=(hkb (ob+3+1) (.inl (by omega))).trans HL4.out
   have hown5:OwnB wc (ob+5) A1 cap1 (x-addr) d1:=HOWN4.out.sameR fun g hg=>hkb g (.inr (by rw[hg];rfl))
   have o5:wc.cell? ⟨ob,0,none⟩=some (.slice A1 (x-addr) cap1):=by rw[HX.out];exact aa hbox5.out 0
   have hobl:ob<wc.heap.size:=(ac hbox5.out).1
   have hxa:addr≤x:=by have:=pst_le (addr,q) k;have:=pst_sum (addr,q) k;rw[HX.out];dsimp only at *;omega
   have hfm:x-addr+M≤10000000:=by have:=HXS.out;omega
   have HRUN5:=ae hrun5
   have HBOX5:=ae hbox5
   have HL5:=ae hl5
   have HOWN5:=ae hown5
   have HB5:=ae hB5
   have hbase:ob+5≤wc.heap.size:=by have:=(ac hl5).1;omega
   clear hrun5 hkb hbox5 hl5 hown5 hB5 hM5 hZ5 c0 s1 x0 x1 x2 n0 nf0 e0 ef0 hut hwu hu
   gi_upto_region 15 with(fail)
   gi_wp2_with (gi_at_builtin;refine app_bytesIn rfl (.tmp 64) (.tmp 65) rfl (ob+5) A1 cap1 (x-addr) d1 rfl HOWN5.out ⟨W4.heap.size,0,none⟩ M M (fun i=>p3.dat fr (x % 4096+i)) rfl HB5.out.v hM1 hfm hbase ?_;intro g cap6 W6 ho6 hg6 hat6 hlt6;have hO6:=((mod_grown hg6).block ob hobl (fun e=>by have:=(HOWN5.out.blk ob e).1;omega)).trans HBOX5.out.out;have o6:=aa hO6 0;have of6:=one_free hO6 0)
   obtain⟨W7,hW7⟩: ∃W7,W7=W6.setCell ⟨ob,0,none⟩ (.slice (some ⟨g,0,none⟩) (x-addr+M) cap6):=⟨_,rfl⟩
   rw[←hW7]
   have hm7:Mod (fun b=>b=ob) W6 W7:=by rw[hW7];exact mod_set (S:=fun b=>b=ob) rfl 0 _
   have hO7:W7.heap[ob]? =some (.cells #[.slice (some ⟨g,0,none⟩) (x-addr+M) cap6] 39 (0,0)):=by rw[hW7];exact one_set hO6
   have hk6: ∀b,w.heap.size≤b→b<ob+5→W6.heap[b]? =wc.heap[b]? :=fun b h1 h2=>(mod_grown hg6).block b (by omega) (fun e=>by have:=(HOWN5.out.blk b e).1;omega)
   have hk7: ∀b,w.heap.size≤b→b<ob+5→b≠ob→W7.heap[b]? =wc.heap[b]? :=fun b h1 h2 h3=>(hm7.block b (by have:=(mod_grown hg6).size;omega) h3).trans (hk6 b h1 h2)
   have hl7:=(hk7 (ob+3+1) (by omega) (by omega) (by omega)).trans HL5.out
   have hmp:=mod_put (l:=ob+3+1) (o:= .loop (rec .ready none)) (W:=W7)
   have hk8: ∀ {b:Nat} {o:Obj},W7.heap[b]? =some o→b≠ob+3+1→(W7.putObj (ob+3+1) (.loop (rec .ready none))).heap[b]? =some o:=fun h1 h2=>(hmp.block _ (ac h1).1 h2).trans h1
   have hpg8:PgSt (W7.putObj (ob+3+1) (.loop (rec .ready none))) (ob+2) (ob+1) (pst (addr,q) k):=⟨hk8 ((hk7 _ (by omega) (by omega) (by omega)).trans HBOX5.out.pg.n) (by omega),hk8 ((hk7 _ (by omega) (by omega) (by omega)).trans HBOX5.out.pg.a) (by omega)⟩
   obtain⟨hpg9,hm9⟩:=pgNext_is hpg8 (by omega) (pst (addr,q) (k+1))
   have hk9: ∀ {b:Nat} {o:Obj},W7.heap[b]? =some o→b≠ob+3+1→b≠ob+1→b≠ob+2→(pgNext (W7.putObj (ob+3+1) (.loop (rec .ready none))) (ob+2) (ob+1) (pst (addr,q) (k+1))).heap[b]? =some o:=fun h1 h2 h3 h4=>(hm9.block _ (ac (hk8 h1 h2)).1 (by omega)).trans (hk8 h1 h2)
   have hx1:(pst (addr,q) (k+1)).1=x+M:=by rw[HX.out,HM.out];rfl
   have hrun9:=(((((HRUN5.out.grow (mod_grown hg6) (fun b e=> .inr e)).sub (K':=LdK w ob (some ⟨g,0,none⟩)) (fun b e=>by
    rcases e with e|e
    ·exact .inl (.inl e)
    ·have e2:b=g:=by simpa using e.symm
     subst e2
     rcases hat6 with h9|h9
     ·exact .inl (.inr h9)
     ·exact .inr ⟨by omega,hlt6⟩)).set hm7 (fun b e=> .inl (by omega))).set hmp (fun b e=> .inl (by omega))).set hm9 (fun b e=> .inl (by omega)))
   have hgo:ob+5≤g:=by rcases hat6 with h9|h9;exact(HOWN5.out.blk g h9).1;omega
   have hown9:OwnB (pgNext (W7.putObj (ob+3+1) (.loop (rec .ready none))) (ob+2) (ob+1) (pst (addr,q) (k+1))) (ob+5) (some ⟨g,0,none⟩) cap6 ((pst (addr,q) (k+1)).1-addr) (fun i=>if i<x-addr then d1 i else p3.dat fr (x % 4096+(i-(x-addr)))):=by
    rw[hx1,show x+M-addr=x-addr+M by omega]
    refine ho6.sameR fun g' hg'=>?_
    injection hg' with hg'
    injection hg' with hg'
    subst hg'
    exact((hm9.block g (by have h1:=hmp.size;have h2:=hm7.size;exact Nat.lt_of_lt_of_le hlt6 (Nat.le_trans h2 h1)) (by omega)).trans (hmp.block g (by have h2:=hm7.size;omega) (by omega))).trans (hm7.block g hlt6 (by omega))
   have hbr9:=HBR1.out.step HPOS.out HRA.out (by rw[←HX.out];exact HBR3.out)
   refine⟨hl7, .inl ⟨rfl,hpg8,⟨p3,L3,T3,clock3,S3,some ⟨g,0,none⟩,cap6,_,hrun9,⟨hpg9,hk9 ((hk7 _ (by omega) (by omega) (by omega)).trans HBOX5.out.mark) (by omega) (by omega) (by omega),hk9 ((hk7 _ (by omega) (by omega) (by omega)).trans HBOX5.out.b0) (by omega) (by omega) (by omega),hk9 ((hk7 _ (by omega) (by omega) (by omega)).trans HBOX5.out.b1) (by omega) (by omega) (by omega),hk9 ((hk7 _ (by omega) (by omega) (by omega)).trans HBOX5.out.b2) (by omega) (by omega) (by omega),?_⟩,hown9,hbr9,by omega,by omega,fun i hi=>?_,fun j hj=>(by rcases Nat.lt_or_ge j k with h9|h9;exact HJ1.out j h9;obtain rfl:j=k:=(by omega);exact HPOS.out)⟩,?_⟩⟩
   ·rw[hx1,show(x+M-(addr,q).1)=x-addr+M by simp only;omega]
    exact hk9 hO7 (by omega) (by omega) (by omega)
   ·rw[hx1]at hi
    dsimp only at hi⊢
    by_cases h1:i<x-addr
    ·rw[if_pos h1]
     exact HD1.out i (by rw[←HX.out];(try dsimp only);omega)
    ·rw[if_neg h1]
     have h2:=pst_byte (addr,q) k i HPOS.out (by rw[←HX.out];(try dsimp only);omega) (by rw[←HX.out,←HM.out];exact hi)
     rw[←HX.out]at h2
     dsimp only at h2
     rw[h2.1,h2.2,←hbr9.seen.cont _ _ (by omega),cont_some HBR3G.out]
     congr 1
     omega
   ·have hlt7:=(ac hl7).1
    exact(hm9.block _ (by rw[World.putObj_size];exact hlt7) (by omega)).trans (World.putObj_heap_same hlt7)
  ·have hb4:Below w2.heap.size w2 ((w2.alloc (.deferred (some []))).alloc (.loop (rec .ready none))):=((Below.refl _ _).alloc (Nat.le_refl _) _).alloc (by simp) _
   have hrun:=((HRUN0.out.below HB2.out).below hb4).sub (K':=LdK w ob none) (fun b e=>by
    rcases e with e|e
    ·rcases Nat.lt_or_ge b w0.heap.size with h1|h1
     ·exact .inl (.inl (.inr ⟨e.1,h1⟩))
     ·rcases Nat.lt_or_ge b w2.heap.size with h2|h2
      ·exact .inl (.inr ⟨h1,h2⟩)
      ·exact .inr ⟨h2,by simp[hz2];omega⟩
    ·cases e)
   have hl0:w.heap.size+1+1<w0.heap.size:=helt
   have hkl: ∀ {b:Nat} {o:Obj},w2.heap[b]? =some o→((w2.alloc (.deferred (some []))).alloc (.loop (rec .ready none))).heap[b]? =some o:=fun h1=>(loop_low (ac h1).1).trans h1
   have hk0: ∀ {b:Nat} {o:Obj},w0.heap[b]? =some o→((w2.alloc (.deferred (some []))).alloc (.loop (rec .ready none))).heap[b]? =some o:=fun h1=>hkl ((HB2.out.block _ (ac h1).1).trans h1)
   refine⟨⟨p,L,T,clock,S,none,0,fun _ =>0,hrun,⟨⟨?_,hkl HA2.out⟩,?_,hk0 HS0.out,hk0 HN0.out,hk0 HE0.out,?_⟩,?_,Brings.start HSP.out HOWN.out,Int.le_refl _,by omega,fun i hi=>absurd hi (by show¬addr+i<addr;omega),fun j hj=>absurd hj (by omega)⟩,?_⟩
   ·have:=HN2.out
    rw[HQ.out]at this
    exact hkl this
   ·have:=ab w2 (.deferred (some []))
    rw[hz2]at this
    exact(Below.heap_alloc _ _ _ (by simp[hz2])).trans this
   ·have:(pst (addr,q) 0).1-(addr,q).1=0:=Nat.sub_self _
    rw[this]
    exact hkl HO2.out
   ·have:(pst (addr,q) 0).1-(addr,q).1=0:=Nat.sub_self _
    rw[this]
    exact OwnB.nilB _ _ _
   ·have:=ab (w2.alloc (.deferred (some []))) (.loop (rec .ready none))
    rwa [World.size_alloc,hz2]at this
  ·rintro e W ⟨hv,⟨k,hk0,⟨p1,L1,T1,clock1,S1,A1,cap1,d1,hrun1,hbox1,hown1,hbr1,hc1,hc2,hd1,hj1⟩,hl⟩|⟨⟨p1,L1,T1,clock1,S1,hrun1,hc1,hc2,hshort,hmk,hn,he⟩,hl⟩⟩
   ·refine⟨hv, .inl ⟨hl,?_⟩⟩
    obtain⟨W2,hW2⟩: ∃W2,W2=W.putObj (ob+3+1) (.loop (rec .exhausted none)):=⟨_,rfl⟩
    rw[←hW2]
    have hk33:k≤32:=by
     rcases k with _ |k
     ·omega
     ·have:=pst_few (addr,q) k (hj1 k (by omega))
      dsimp only at this
      omega
    have hsum:=pst_sum (addr,q) k
    rw[hk0,Nat.add_zero]at hsum
    dsimp only at hsum
    have hm2:Mod (fun b=>b=ob+3+1) W W2:=by rw[hW2];exact mod_put
    have hrun2:=hrun1.set hm2 (fun b e=> .inl (by omega))
    have hkk: ∀ {b:Nat} {o:Obj},W.heap[b]? =some o→b≠ob+3+1→W2.heap[b]? =some o:=fun h1 h2=>(hm2.block _ (ac h1).1 h2).trans h1
    have hO2:=hkk hbox1.out (by omega)
    have hN2':=hkk hbox1.b1 (by omega)
    have hE2:=hkk hbox1.b2 (by omega)
    have hM2:=hkk hbox1.mark (by omega)
    have hown2:OwnB W2 (ob+5) A1 cap1 q d1:=by
     have h9:=hown1.sameR (w':=W2) fun g hg=>hm2.block g ((hown1.blk g (by rw[hg];rfl)).2) (fun e=>by have:=(hown1.blk g (by rw[hg];rfl)).1;omega)
     rwa [hsum,show addr+q-(addr,q).1=q by simp]at h9
    rw[hsum,show addr+q-(addr,q).1=q by simp]at hO2
    have o0:W2.cell? ⟨ob,0,none⟩=some (.slice A1 q cap1):=aa hO2 0
    have n0:W2.cell? ⟨w.heap.size+1,0,none⟩=some (.slice none 0 0):=aa hN2' 0
    have nf0:=one_free hN2' 0
    have e0:W2.cell? ⟨w.heap.size+1+1,0,none⟩=some (.int .i64 0):=aa hE2 0
    have ef0:=one_free hE2 0
    have HRUN2:=ae hrun2
    have HN3:=ae hN2'
    have HE3:=ae hE2
    have HM3:=ae hM2
    have HOWN3:=ae hown2
    have HBR3:=ae hbr1
    have HD3:=ae hd1
    have HK0:=ae hk0
    have HSUM:=ae hsum
    clear hW2 hm2 hrun2 hkk hO2 hN2' hE2 hM2 hown2 hrun1 hbox1 hown1 hbr1 hd1 hj1 hl hv hk0 hsum
    unfold markOf
    gi_wp2
    have hmt:=HTWO.out W2 (.slice A1 q cap1) (.int .i64 0)
    have hrun4:=HRUN2.out.set hmt (fun b e=> .inl (by omega))
    obtain⟨W4,hW4⟩: ∃W4,W4=(W2.setCell ⟨w.heap.size+1,0,none⟩ (.slice A1 q cap1)).setCell ⟨w.heap.size+1+1,0,none⟩ (.int .i64 0):=⟨_,rfl⟩
    have hn4:W4.heap[w.heap.size+1]? =some (.cells #[.slice A1 q cap1] 39 (0,0)):=by
     rw[hW4]
     exact((mod_set (S:=fun b=>b=w.heap.size+1+1) rfl 0 _).block _ (by simp;exact(ac HN3.out).1) (by omega)).trans (one_set HN3.out)
    have he4:W4.heap[w.heap.size+1+1]? =some (.cells #[.int .i64 0] 32 (0,0)):=by
     rw[hW4]
     exact one_set (((mod_set (S:=fun b=>b=w.heap.size+1) rfl 0 _).block _ (ac HE3.out).1 (by omega)).trans HE3.out)
    rw[←hW4]at hmt hrun4⊢
    have hK:W4.heap[ob+3]? =some (.deferred (some [])):=(hmt.block _ (ac HM3.out).1 (by omega)).trans HM3.out
    refine⟨by simp, .inl ⟨_,_,rfl,run_takeDeferred hK,?_⟩⟩
    have hmd:=mod_put (l:=ob+3) (o:= .deferred none) (W:=W4)
    have hrun5:=hrun4.set hmd (fun b e=> .inl (by omega))
    have hn5:=(hmd.block _ (ac hn4).1 (by omega)).trans hn4
    have he5:=(hmd.block _ (ac he4).1 (by omega)).trans he4
    have c1:=aa hn5 0
    have c2:=aa he5 0
    have hown5:OwnB (W4.putObj (ob+3) (.deferred none)) (ob+5) A1 cap1 q d1:=HOWN3.out.sameR fun g hg=>by
     obtain⟨h1,h2⟩:=HOWN3.out.blk g (by rw[hg];rfl)
     exact(hmd.block g (by have:=hmt.size;omega) (by omega)).trans (hmt.block g h2 (by omega))
    refine⟨.tuple #[.slice A1 q cap1, .int .i64 0],by simp[results,Tryz.results70,go_sem,c1,c2],?_⟩
    refine⟨0,A1,q,cap1,d1,p1,L1,T1,clock1,S1,rfl,hrun5.home.cache,hrun5.mod,hrun5.out,hc1,by omega,hown5.lower (by omega),fun g hg=>(hrun5.own g (.inr hg)).1, .inr (.inr (.inr ⟨by omega,by omega,by rw[hqt];exact HPB.out,rfl,HQ.out.symm,?_,fun i hi=>HD3.out i (by rw[HSUM.out];(try dsimp only);omega)⟩))⟩
    rw[hqt]
    exact⟨k,HK0.out,HBR3.out⟩
   ·refine⟨hv, .inr ⟨_,hl,?_⟩⟩
    obtain⟨W2,hW2⟩: ∃W2,W2=W.putObj (ob+3+1) (.loop (rec .exhausted (some .ret))):=⟨_,rfl⟩
    rw[←hW2]
    have hm2:Mod (fun b=>b=ob+3+1) W W2:=by rw[hW2];exact mod_put
    have hrun2:=hrun1.set hm2 (fun b e=> .inl (by omega))
    have hkk: ∀ {b:Nat} {o:Obj},W.heap[b]? =some o→b≠ob+3+1→W2.heap[b]? =some o:=fun h1 h2=>(hm2.block _ (ac h1).1 h2).trans h1
    have hN2':=hkk hn (by omega)
    have hE2:=hkk he (by omega)
    have hM2:=hkk hmk (by omega)
    have HRUN2:=ae hrun2
    have HN3:=ae hN2'
    have HE3:=ae hE2
    have HM3:=ae hM2
    have HSH:=ae hshort
    clear hW2 hm2 hrun2 hkk hN2' hE2 hM2 hrun1 hshort hmk hn he hl hv
    unfold markOf
    gi_wp2
    refine⟨by simp, .inl ⟨_,_,rfl,run_takeDeferred HM3.out,?_⟩⟩
    have hmd:=mod_put (l:=ob+3) (o:= .deferred none) (W:=W2)
    have hrun5:=HRUN2.out.set hmd (fun b e=> .inl (by omega))
    have hn5:=(hmd.block _ (ac HN3.out).1 (by omega)).trans HN3.out
    have he5:=(hmd.block _ (ac HE3.out).1 (by omega)).trans HE3.out
    have c1:=aa hn5 0
    have c2:=aa he5 0
    refine⟨.tuple #[.slice none 0 0, .int .i64 4],by simp[results,Tryz.results70,go_sem,c1,c2],?_⟩
    refine⟨4,none,0,0,fun _ =>0,p1,L1,T1,clock1,S1,rfl,hrun5.home.cache,hrun5.mod,hrun5.out,hc1,hc2,OwnB.nilB _ _ _,fun g hg=>(by cases hg), .inr (.inr (.inl ⟨by omega,by omega,by rw[hqt];exact HPB.out,rfl,?_⟩))⟩
    rw[hqt]
    exact HSH.out
end
end Go.Proofs.YtoochjhipmpehaaGreatDoor
