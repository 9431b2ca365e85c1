/- Tables: visit. -/
import Derived.Test.YtoochjhipmpehaaGreatDoorAbK
import Derived.Test.YtoochjhipmpehaaGreatDoorTbAK
import Derived.Test.YtoochjhipmpehaaGreatDoorTtZK
import Derived.Test.YtoochjhipmpehaaGreatDoorTwAK
set_option linter.unusedVariables false
set_option linter.unusedSimpArgs false
set_option maxRecDepth 100000
set_option maxHeartbeats 4000000
namespace Go.Proofs.YtoochjhipmpehaaGreatDoor
section
open Go.RowKit
def VisStays (R:World→List Ev→(Nat→Prop)→Prop):Prop:= ∀w w' l X,R w l X→Below w.heap.size w w'→R w' l X
structure VisOk (R:World→List Ev→(Nat→Prop)→Prop) (S:Nat→Prop) (t:Nat) (w:World) (l:List Ev) (X:Nat→Prop):Prop where
 rel:R w l X
 low: ∀b,X b→b<w.heap.size
 apart: ∀b,S b→ ¬X b
 noT: ¬X t
 no0: ¬X 0
theorem VisOk.below {R:World→List Ev→(Nat→Prop)→Prop} {S:Nat→Prop} {t:Nat} {w w':World} {l:List Ev} {X:Nat→Prop} (h:VisOk R S t w l X) (hR:VisStays R) (hb:Below w.heap.size w w'):VisOk R S t w' l X:=
 ⟨hR w w' l X h.rel hb,fun b hx=>Nat.lt_of_lt_of_le (h.low b hx) hb.size,h.apart,h.noT,h.no0⟩
def VisPost (w:World) (X:Nat→Prop) (R:World→List Ev→(Nat→Prop)→Prop) (S:Nat→Prop) (t:Nat) (l:List Ev) (e:Ending) (w':World):Prop:=
 e= .returned (.tuple #[])∧ ∃X',VisOk R S t w' l X'∧Mod X w w'∧Out X X' w
theorem or_at {a b i:Nat} (hb:b<2^i) (h:a*2^i+b<18446744073709551616):bits .or .u64 ((a*2^i:Nat):Int) (b:Int)=((a*2^i+b:Nat):Int):=by
 rw[bits_or_u64_nat _ _ (by omega) (by omega)]
 have:=Nat.two_pow_add_eq_or_of_lt hb a
 rw[Nat.mul_comm a (2^i)]
 exact congrArg _ this.symm
end
section
open Go.RowKit
def pc (x:Nat×Leaf):List Value:=[.int .u64 ((x.1*4096:Nat):Int), .int .i64 (x.2.frame:Int), .int .u8 (x.2.prot:Int), .bool x.2.copy]
def OwnP (w:World) (base:Nat) (A:Option Addr) (cap:Nat) (l:List (Nat×Leaf)):Prop:=w.ownsRow base 85 4 (.slice A l.length cap) l.length (l.flatMap pc)
theorem put_info:(Tryz.prog.info? 85).map (fun i=>(i.zero,i.size,i.bytes))=some (some (.agg #[.int .u64 0, .int .i64 0, .int .u8 0, .bool false]),4,24):=by kernel_rfl
structure RowLike {α:Type} (Own:World→Nat→Option Addr→Nat→List α→Prop):Prop where
 same: ∀ {w w':World} {base:Nat} {A:Option Addr} {cap:Nat} {l:List α},Own w base A cap l→(∀g,A=some ⟨g,0,none⟩→w'.heap[g]? =w.heap[g]?)→Own w' base A cap l
 form: ∀ {w:World} {base:Nat} {A:Option Addr} {cap:Nat} {l:List α},Own w base A cap l→(A=none∧l=[]∧cap=0)∨ ∃g,A=some ⟨g,0,none⟩∧base≤g∧g<w.heap.size∧l.length≤cap
theorem rowLikeN:RowLike OwnN:=⟨fun h hb=>h.same hb,fun h=>h.form⟩
theorem rowLikeP:RowLike OwnP:=by
 constructor
 ·intro w w' base A cap l h hb
  refine⟨h.1,?_⟩
  rcases h.2 with h2|⟨g,cap',cur,h1,h2,h3,h4⟩
  ·exact .inl h2
  ·injection h1 with e1 e2 e3
   exact .inr ⟨g,cap',cur,by rw[e1,e2,e3],h2,(hb g e1).trans h3,h4⟩
 ·intro w base A cap l h
  rcases h.2 with⟨h2,h3⟩|⟨g,cap',cur,h1,h2,h3,h4,_⟩
  ·injection h2 with h4 h5 h6
   exact .inl ⟨h4,List.eq_nil_of_length_eq_zero h3,h6⟩
  ·injection h1 with e1 e2 e3
   subst e3
   exact .inr ⟨g,e1,h2,(ac h3).1,h4⟩
def Pick {α:Type} (Own:World→Nat→Option Addr→Nat→List α→Prop) (ty:TypeId) (F:Ev→List α) (base bo:Nat):World→List Ev→(Nat→Prop)→Prop:=fun w l X=>
 ∃A cap,Own w base A cap (l.flatMap F)∧w.heap[bo]? =some (.cells #[.slice A (l.flatMap F).length cap] ty (0,0))∧(∀g,A=some ⟨g,0,none⟩→g≠bo)∧ ∀b,X b↔b=bo∨A=some ⟨b,0,none⟩
theorem Pick.stays {α:Type} {Own:World→Nat→Option Addr→Nat→List α→Prop} (hO:RowLike Own) {ty:TypeId} {F:Ev→List α} {base bo:Nat} :VisStays (Pick Own ty F base bo):=by
 rintro w w' l X ⟨A,cap,h1,h2,h3,h4⟩ hb
 refine⟨A,cap,hO.same h1 fun g hg=>?_,(hb.block bo (ac h2).1).trans h2,h3,h4⟩
 rcases hO.form h1 with⟨e,_⟩|⟨g',e,_,hlt,_⟩
 ·rw[e]at hg;cases hg
 ·rw[e]at hg;injection hg with hg;injection hg with hg;subst hg;exact hb.block _ hlt
theorem Pick.pass {α:Type} {Own:World→Nat→Option Addr→Nat→List α→Prop} {ty:TypeId} {F:Ev→List α} {base bo:Nat} {w:World} {l:List Ev} {X:Nat→Prop} {e:Ev} {S:Nat→Prop} {t:Nat} (h:VisOk (Pick Own ty F base bo) S t w l X) (he:F e=[]):
  VisPost w X (Pick Own ty F base bo) S t (l++[e]) (.returned (.tuple #[])) w:=by
 refine⟨rfl,X,⟨?_,h.low,h.apart,h.noT,h.no0⟩,Mod.refl _ _,Out.refl _ _⟩
 obtain⟨A,cap,h1,h2,h3,h4⟩:=h.rel
 have e1:(l++[e]).flatMap F=l.flatMap F:=by simp[he]
 exact⟨A,cap,by rw[e1];exact h1,by rw[e1];exact h2,h3,h4⟩
theorem Pick.more {α:Type} {Own:World→Nat→Option Addr→Nat→List α→Prop} (hO:RowLike Own) {ty:TypeId} {F:Ev→List α} {base bo:Nat} {w w0 w1 w2:World} {l:List Ev} {X:Nat→Prop} {e:Ev} {x:α} {S:Nat→Prop} {t:Nat} (h:VisOk (Pick Own ty F base bo) S t w l X) (he:F e=[x])
  {A:Option Addr} {cap g cap':Nat} (hX: ∀b,X b↔b=bo∨A=some ⟨b,0,none⟩) (hA:Own w base A cap (l.flatMap F)) (hb0:Below w.heap.size w w0) (hg:w0.grownBy w1 (A.map (·.block))) (hat:A.map (·.block)=some g∨g=w0.heap.size) (hlt:g<w1.heap.size)
  (hown:Own w1 base (some ⟨g,0,none⟩) cap' (l.flatMap F++[x])) (hAb: ∀g,A=some ⟨g,0,none⟩→g≠bo) (hbo:bo<w.heap.size) (hSb: ∀b,S b→b<base) (htb:t<base) (hb1:0<base)
  (h2:w2.heap[bo]? =some (.cells #[.slice (some ⟨g,0,none⟩) (l.flatMap F++[x]).length cap'] ty (0,0))) (hm2:Mod (fun b=>b=bo) w1 w2) (hz2:w2.heap.size=w1.heap.size):
  VisPost w X (Pick Own ty F base bo) S t (l++[e]) (.returned (.tuple #[])) w2:=by
 have hform:=hO.form hA
 have hz0:=hb0.size
 have hz1:=hg.size
 have hgbo:g≠bo:=by
  rcases hat with e|e
  ·rcases hform with⟨e',_⟩|⟨g',e',_,_,_⟩
   ·rw[e']at e;cases e
   ·rw[e']at e;injection e with e;exact e▸hAb g' e'
  ·omega
 have hgb:base≤g:=by
  rcases hO.form hown with⟨e',_⟩|⟨g',e',h9,_,_⟩
  ·cases e'
  ·injection e' with e';injection e' with e';omega
 have hXA: ∀b,A.map (·.block)=some b→X b:=by
  intro b hb
  rcases hform with⟨e',_⟩|⟨g',e',_,_,_⟩
  ·rw[e']at hb;cases hb
  ·rw[e']at hb;injection hb with hb;exact(hX b).2 (.inr (hb▸e'))
 have hm1:Mod X w0 w1:=⟨hg.os,hg.tape,hg.output,hg.size,fun b hb hn=>hg.block b hb fun e=>hn (hXA b e.symm)⟩
 have hXbo:X bo:=(hX bo).2 (.inl rfl)
 have hmod:Mod X w w2:=((Mod.of hb0).trans (Out.refl _ _) hm1).trans (Out.refl _ _) (hm2.sub fun b hb=>hb▸hXbo)
 refine⟨rfl,fun b=>b=bo∨b=g,⟨⟨some ⟨g,0,none⟩,cap',?_,?_,fun g' e'=>?_,fun b=>?_⟩,?_,?_,?_,?_⟩,hmod,?_⟩
 ·rw[show(l++[e]).flatMap F=l.flatMap F++[x]from by simp[he]]
  refine hO.same hown fun g' e'=>?_
  injection e' with e';injection e' with e';subst e'
  exact hm2.block g hlt hgbo
 ·rw[show(l++[e]).flatMap F=l.flatMap F++[x]from by simp[he]]
  exact h2
 ·injection e' with e';injection e' with e';omega
 ·constructor
  ·rintro(rfl|rfl)
   ·exact .inl rfl
   ·exact .inr rfl
  ·rintro(rfl|e')
   ·exact .inl rfl
   ·injection e' with e';injection e' with e';exact .inr e'.symm
 ·rintro b (rfl|rfl)
  ·omega
  ·omega
 ·intro b hb
  have h9:=hSb b hb
  rintro(rfl|rfl)
  ·exact h.apart _ hb hXbo
  ·omega
 ·rintro(rfl|rfl)
  ·exact h.noT hXbo
  ·omega
 ·rintro(e'|e')
  ·exact h.no0 (e'▸hXbo)
  ·omega
 ·rintro b (rfl|rfl)
  ·exact .inl hXbo
  ·rcases hat with e'|e'
   ·exact .inl (hXA _ e')
   ·exact .inr (by omega)
theorem Pick.start {α:Type} {Own:World→Nat→Option Addr→Nat→List α→Prop} {ty:TypeId} {F:Ev→List α} {base bo:Nat} {w:World} {S:Nat→Prop} {t:Nat} (hO:Own w base none 0 []) (hb:w.heap[bo]? =some (.cells #[.slice none 0 0] ty (0,0))) (hSb: ∀b,S b→b≠bo) (ht:t≠bo) (h0:bo≠0):
  VisOk (Pick Own ty F base bo) S t w [] (fun b=>b=bo):=
 ⟨⟨none,0,hO,hb,fun g e=>(by cases e),fun b=>⟨.inl,fun h=>h.elim id (fun e=>by cases e)⟩⟩,fun b e=>e▸(ac hb).1,fun b hs e=>hSb b hs e,fun e=>ht e,fun e=>h0 e.symm⟩
end
section
open Go.RowKit
theorem vis_all1 (t c a root g q:Nat) (bo:Nat)(R:World→List Ev→(Nat→Prop)→Prop) (w:World) (S:Nat→Prop) (p:Pool) (T:Tab) (rest:Nat→Nat) (pg0:Nat) (X:Nat→Prop) (l:List Ev) (h:PoolAt w S a p) (ht:TabSelf w t c a root) (hgood:T.Good p rest pg0 4) (hq:T.nd 1 q=some g) (hqb:q<512^(4-1))
  (hv:VisOk R S t w l X) (hlen:l.length+(T.evs 1 q).length<1000000) (hR:VisStays R)
  (hn: ∀(w:World) (l:List Ev) (X:Nat→Prop) (f:Nat),VisOk R S t w l X→l.length<1000000→Calls Tryz.prog 75 (#[.int .i64 (f:Int)]++ #[]) w (VisPost w X R S t (l++[.node f])))
  (hl: ∀(w:World) (l:List Ev) (X:Nat→Prop) (pg:Nat) (y:Leaf),VisOk R S t w l X→l.length<1000000→Calls Tryz.prog 76 (#[.int .u64 ((pg*4096:Nat):Int), .agg #[.int .i64 (y.frame:Int), .int .u8 (y.prot:Int), .bool y.copy]]++ #[.pointer (some ⟨bo,0,none⟩)]) w (VisPost w X R S t (l++[.leaf pg y])))
  (fr:Int) (hfr:fr=((q*512^1*4096:Nat):Int)):
  Calls Tryz.prog 74 #[.pointer (some ⟨t,0,none⟩), .int .i64 (g:Int), .int .i64 3, .int .u64 fr, .func (.func 75) #[] #[], .func (.func 76) #[] #[.pointer (some ⟨bo,0,none⟩)]] w (VisPost w X R S t (l++T.evs 1 q)):=by
 have hev:=Tab.evs_node hq
 obtain⟨g1,g2⟩:=hgood.node hq
 have hwords:=(hgood.but.words 1 q g hq).2
 have hfew:=hgood.but.few
 have HEV:=ae hev
 have HQ:=ae hq
 have HV:=ae hv
 have HP:=ae h
 have HT:=ae ht
 have HN:=ae hn
 have HLF:=ae hl
 have HG:=ae hgood
 have HW:=ae hwords
 have HFR:=ae hfr
 have htw:t<w.heap.size:=(ac ht).1
 rw[hev]at hlen
 simp only[List.length_cons]at hlen
 have HLEN:=ae hlen
 clear hev hq hv h ht hn hl hgood hwords hfr hlen
 go_enter Tryz.func74,Tryz.ntmps74
 go_wp2_with fail
 refine(HN.out w l X g HV.out (by have:=HLEN.out;omega)).mono ?_
 rintro e w1 ⟨rfl,X1,hv1,hm1,ho1⟩
 have hT1:TabSelf w1 t c a root:=(hm1.block t htw HV.out.noT).trans HT.out
 have hP1:PoolAt w1 S a p:=HP.out.mod hm1 HV.out.apart HV.out.no0
 have c1:w1.cell? ⟨t,1,none⟩=some (.pointer (some ⟨a,0,none⟩)):=aa hT1 1
 have HT1:=ae hT1
 have HP1:=ae hP1
 have HV1:=ae hv1
 clear hT1 hP1 hv1
 go_wp2_with fail
 refine(load_yes a g 0 4096 w1 S p HP1.out g1 g2 (by omega) (by omega)).mono ?_
 rintro e w2 ⟨rfl,hB2,hz2,hb2⟩
 have hsm: ∀i,p.dat g i<256:=by
  obtain⟨⟨C,B,F,wd,pt,hi,hS⟩,_,_,_⟩:=HP1.out
  exact fun i=>hi.small g i
 have hX1: ¬X1 w1.heap.size:=fun e=>by have:=HV1.out.low _ e;omega
 have HV2:=ae (HV1.out.below hR hb2)
 have hz1:=hm1.size
 have HB2:=ae hB2
 clear hB2 c1
 go_wp2_with fail
 go_loopw [30] (fun i wr=> ∃(k:Nat) (X':Nat→Prop),i= .int .i64 (k:Int)∧k≤512∧VisOk R S t wr (l++ .node g::T.upto 0 q k) X'∧Mod X1 w2 wr∧Out X1 X' w2) (fun i _ =>512-(intOf i).toNat)
 case atStart=>exact⟨0,X1,rfl,by omega,by rw[Tab.upto_zero];exact HV2.out,Mod.refl _ _,Out.refl _ _⟩
 case round=>
  obtain⟨k,X',rfl,hk,hv',hm',ho'⟩:=hrel
  have HV':=ae hv'
  have hz':=hm'.size
  clear hv'
  by_cases hlt:k<512
  ·have hB':BytesAt wr w1.heap.size 4096 (fun i=>p.dat g (0+i)):=(hm'.block _ hz2 hX1).trans HB2.out
   have hT':TabSelf wr t c a root:=(hm'.block t (by omega) HV1.out.noT).trans ((hb2.block t (by omega)).trans HT1.out)
   have hP':PoolAt wr S a p:=(HP1.out.below hb2).mod hm' HV1.out.apart HV1.out.no0
   have HT':=ae hT'
   have HP':=ae hP'
   have hlen':l.length+(T.upto 0 q k).length+(T.evs 0 (q*512+k)).length+1<1000000:=by
    have h1:=T.upto_le 0 q (show k+1≤512 by omega)
    rw[Tab.upto_succ,List.length_append]at h1
    have:=HLEN.out
    omega
   have hqk:q*512+k<512^(4-0):=by
    have h9:=hqb
    simp only[Nat.reducePow,Nat.reduceSub]at h9⊢
    omega
   have HLEN':=ae hlen'
   clear hT' hP' hlen'
   go_wp2_with fail
   refine(get_8 (8*k) 4096 4096 w1.heap.size (fun i=>p.dat g (0+i)) wr (by omega) (by omega) hB' (fun i=>hsm _) (by omega)).mono ?_
   rintro e w3 ⟨rfl,hb3⟩
   have hword:leVal (fun i=>p.dat g (0+i)) (8*k) 8=T.word 1 q k:=by
    rw[←HW.out k hlt]
    unfold word
    refine leVal_congr fun i _ =>?_
    rw[Nat.zero_add]
   rw[hword]
   have hm3:Mod X1 w2 w3:=hm'.trans ho' (Mod.of hb3)
   have HV3:=ae (HV'.out.below hR hb3)
   have HP3:=ae (HP'.out.below hb3)
   have HT3:=ae ((hb3.block t (by omega)).trans HT'.out)
   have hz3:=hb3.size
   clear hword hB'
   cases hch:T.lf (q*512+k)with
   |none=>
    have e0:T.word 1 q k=0:=by(unfold Tab.word;rw[if_pos rfl,hch])
    have hes:=Tab.evs_noleaf hch
    have HES:=ae hes
    rw[e0]
    have hz:=and_none
    clear hch hes
    go_wp2_with fail
    go_roundw
    case rel=>exact⟨k+1,X',by go_num,by omega,by rw[Tab.upto_succ,HES.out,List.append_nil];exact HV3.out,hm3,ho'⟩
    case measure=>(simp[intOf];omega)
   |some y=>
    have e0:T.word 1 q k=y.pack:=by(unfold Tab.word;rw[if_pos rfl,hch])
    obtain⟨p7,pf⟩:=(HG.out.but.leaf _ y hch).2
    obtain⟨x,hx⟩: ∃x,x=y.pack:=⟨_,rfl⟩
    rw[e0,←hx]
    have hx9:x<18446744073709551616:=by(rw[hx];have:=pack_lt y p7 (by omega);omega)
    have hodd:=and_odd hx9 (by rw[hx];exact pack_odd y)
    have hup:unpack x=y:=by(rw[hx];exact unpack_pack y p7)
    have hes:=Tab.evs_leaf hch
    have HES:=ae hes
    have HUP:=ae hup
    have haddr:bits .or .u64 fr ((k:Int)*4096)=(((q*512+k)*4096:Nat):Int):=by
     rw[HFR.out]
     have h9:=hqb
     simp only[Nat.reducePow,Nat.reduceSub]at h9
     have h1:=or_at (a:=q) (b:=k*4096) (i:=21) (by omega) (by omega)
     have e1:((k:Int)*4096)=((k*4096:Nat):Int):=by omega
     rw[e1,show q*512^1*4096=q*2^21 from by omega,h1]
     exact congrArg _ (by omega)
    have HADDR:=ae haddr
    clear hch hes hup hx e0 haddr
    go_wp2_with fail
    refine(tunpack_any x w3 hx9).mono ?_
    rintro e w4 ⟨rfl,hb4⟩
    rw[HUP.out]
    go_wp2_with fail
    rw[HADDR.out]
    refine(HLF.out w4 _ X' (q*512+k) y (HV3.out.below hR hb4) (by have:=HLEN'.out;simp;omega)).mono ?_
    rintro e w5 ⟨rfl,X5,hv5,hm5,ho5⟩
    have hm4:Mod X1 w2 w4:=hm3.trans (fun b hb=>(ho' b hb).imp id (fun h=>h)) (Mod.of hb4)
    have ho5':Out X1 X5 w2:=ho'.trans ho5 hm4.size
    have hm5':=hm4.trans ho' hm5
    have HV5:=ae hv5
    clear hv5
    go_wp2_with fail
    go_roundw
    case rel=>exact⟨k+1,X5,by go_num,by omega,by(rw[Tab.upto_succ,HES.out];have:=HV5.out;simpa using this),hm5',ho5'⟩
    case measure=>(simp[intOf];omega)
  ·obtain rfl:k=512:=by omega
   go_wp2_with fail
   go_end0
   exact⟨rfl,X',by rw[HEV.out];exact HV'.out,hm1.trans ho1 ((Mod.of hb2).trans (Out.refl _ _) hm'),ho1.trans (fun b hb=>(ho' b hb).imp id (fun h=>Nat.le_trans hb2.size h)) hz1⟩
theorem vis_all2 (t c a root g q:Nat) (bo:Nat)(R:World→List Ev→(Nat→Prop)→Prop) (w:World) (S:Nat→Prop) (p:Pool) (T:Tab) (rest:Nat→Nat) (pg0:Nat) (X:Nat→Prop) (l:List Ev) (h:PoolAt w S a p) (ht:TabSelf w t c a root) (hgood:T.Good p rest pg0 4) (hq:T.nd 2 q=some g) (hqb:q<512^(4-2))
  (hv:VisOk R S t w l X) (hlen:l.length+(T.evs 2 q).length<1000000) (hR:VisStays R)
  (hn: ∀(w:World) (l:List Ev) (X:Nat→Prop) (f:Nat),VisOk R S t w l X→l.length<1000000→Calls Tryz.prog 75 (#[.int .i64 (f:Int)]++ #[]) w (VisPost w X R S t (l++[.node f])))
  (hl: ∀(w:World) (l:List Ev) (X:Nat→Prop) (pg:Nat) (y:Leaf),VisOk R S t w l X→l.length<1000000→Calls Tryz.prog 76 (#[.int .u64 ((pg*4096:Nat):Int), .agg #[.int .i64 (y.frame:Int), .int .u8 (y.prot:Int), .bool y.copy]]++ #[.pointer (some ⟨bo,0,none⟩)]) w (VisPost w X R S t (l++[.leaf pg y])))
  (fr:Int) (hfr:fr=((q*512^2*4096:Nat):Int)):
  Calls Tryz.prog 74 #[.pointer (some ⟨t,0,none⟩), .int .i64 (g:Int), .int .i64 2, .int .u64 fr, .func (.func 75) #[] #[], .func (.func 76) #[] #[.pointer (some ⟨bo,0,none⟩)]] w (VisPost w X R S t (l++T.evs 2 q)):=by
 have hev:=Tab.evs_node hq
 obtain⟨g1,g2⟩:=hgood.node hq
 have hwords:=(hgood.but.words 2 q g hq).2
 have hfew:=hgood.but.few
 have HEV:=ae hev
 have HQ:=ae hq
 have HV:=ae hv
 have HP:=ae h
 have HT:=ae ht
 have HN:=ae hn
 have HLF:=ae hl
 have HG:=ae hgood
 have HW:=ae hwords
 have HFR:=ae hfr
 have htw:t<w.heap.size:=(ac ht).1
 rw[hev]at hlen
 simp only[List.length_cons]at hlen
 have HLEN:=ae hlen
 clear hev hq hv h ht hn hl hgood hwords hfr hlen
 go_enter Tryz.func74,Tryz.ntmps74
 go_wp2_with fail
 refine(HN.out w l X g HV.out (by have:=HLEN.out;omega)).mono ?_
 rintro e w1 ⟨rfl,X1,hv1,hm1,ho1⟩
 have hT1:TabSelf w1 t c a root:=(hm1.block t htw HV.out.noT).trans HT.out
 have hP1:PoolAt w1 S a p:=HP.out.mod hm1 HV.out.apart HV.out.no0
 have c1:w1.cell? ⟨t,1,none⟩=some (.pointer (some ⟨a,0,none⟩)):=aa hT1 1
 have HT1:=ae hT1
 have HP1:=ae hP1
 have HV1:=ae hv1
 clear hT1 hP1 hv1
 go_wp2_with fail
 refine(load_yes a g 0 4096 w1 S p HP1.out g1 g2 (by omega) (by omega)).mono ?_
 rintro e w2 ⟨rfl,hB2,hz2,hb2⟩
 have hsm: ∀i,p.dat g i<256:=by
  obtain⟨⟨C,B,F,wd,pt,hi,hS⟩,_,_,_⟩:=HP1.out
  exact fun i=>hi.small g i
 have hX1: ¬X1 w1.heap.size:=fun e=>by have:=HV1.out.low _ e;omega
 have HV2:=ae (HV1.out.below hR hb2)
 have hz1:=hm1.size
 have HB2:=ae hB2
 clear hB2 c1
 go_wp2_with fail
 go_loopw [30] (fun i wr=> ∃(k:Nat) (X':Nat→Prop),i= .int .i64 (k:Int)∧k≤512∧VisOk R S t wr (l++ .node g::T.upto 1 q k) X'∧Mod X1 w2 wr∧Out X1 X' w2) (fun i _ =>512-(intOf i).toNat)
 case atStart=>exact⟨0,X1,rfl,by omega,by rw[Tab.upto_zero];exact HV2.out,Mod.refl _ _,Out.refl _ _⟩
 case round=>
  obtain⟨k,X',rfl,hk,hv',hm',ho'⟩:=hrel
  have HV':=ae hv'
  have hz':=hm'.size
  clear hv'
  by_cases hlt:k<512
  ·have hB':BytesAt wr w1.heap.size 4096 (fun i=>p.dat g (0+i)):=(hm'.block _ hz2 hX1).trans HB2.out
   have hT':TabSelf wr t c a root:=(hm'.block t (by omega) HV1.out.noT).trans ((hb2.block t (by omega)).trans HT1.out)
   have hP':PoolAt wr S a p:=(HP1.out.below hb2).mod hm' HV1.out.apart HV1.out.no0
   have HT':=ae hT'
   have HP':=ae hP'
   have hlen':l.length+(T.upto 1 q k).length+(T.evs 1 (q*512+k)).length+1<1000000:=by
    have h1:=T.upto_le 1 q (show k+1≤512 by omega)
    rw[Tab.upto_succ,List.length_append]at h1
    have:=HLEN.out
    omega
   have hqk:q*512+k<512^(4-1):=by
    have h9:=hqb
    simp only[Nat.reducePow,Nat.reduceSub]at h9⊢
    omega
   have HLEN':=ae hlen'
   clear hT' hP' hlen'
   go_wp2_with fail
   refine(get_8 (8*k) 4096 4096 w1.heap.size (fun i=>p.dat g (0+i)) wr (by omega) (by omega) hB' (fun i=>hsm _) (by omega)).mono ?_
   rintro e w3 ⟨rfl,hb3⟩
   have hword:leVal (fun i=>p.dat g (0+i)) (8*k) 8=T.word 2 q k:=by
    rw[←HW.out k hlt]
    unfold word
    refine leVal_congr fun i _ =>?_
    rw[Nat.zero_add]
   rw[hword]
   have hm3:Mod X1 w2 w3:=hm'.trans ho' (Mod.of hb3)
   have HV3:=ae (HV'.out.below hR hb3)
   have HP3:=ae (HP'.out.below hb3)
   have HT3:=ae ((hb3.block t (by omega)).trans HT'.out)
   have hz3:=hb3.size
   clear hword hB'
   cases hch:T.nd 1 (q*512+k)with
   |none=>
    have e0:T.word 2 q k=0:=by(unfold Tab.word;rw[if_neg (by omega)];show(match T.nd 1 (q*512+k)with|some f=>f*4096+1|none=>0)=_;rw[hch])
    have hes:=Tab.evs_none hch
    have HES:=ae hes
    rw[e0]
    have hz:=and_none
    clear hch hes
    go_wp2_with fail
    go_roundw
    case rel=>exact⟨k+1,X',by go_num,by omega,by rw[Tab.upto_succ,HES.out,List.append_nil];exact HV3.out,hm3,ho'⟩
    case measure=>(simp[intOf];omega)
   |some f=>
    have e0:T.word 2 q k=f*4096+1:=by(unfold Tab.word;rw[if_neg (by omega)];show(match T.nd 1 (q*512+k)with|some f=>f*4096+1|none=>0)=_;rw[hch])
    obtain⟨n1,n2⟩:=HG.out.node hch
    obtain⟨x,hx⟩: ∃x,x=f*4096+1:=⟨_,rfl⟩
    rw[e0,←hx]
    have hx9:x<18446744073709551616:=by omega
    have hodd:=and_odd hx9 (by omega)
    have hsh:((x:Int)/4096)=(f:Int):=by omega
    have HSH:=ae hsh
    have HCH:=ae hch
    have haddr:bits .or .u64 fr ((k:Int)*2097152)=(((q*512+k)*512^1*4096:Nat):Int):=by
     rw[HFR.out]
     have h9:=hqb
     simp only[Nat.reducePow,Nat.reduceSub]at h9
     have h1:=or_at (a:=q) (b:=k*2097152) (i:=30) (by omega) (by omega)
     have e1:((k:Int)*2097152)=((k*2097152:Nat):Int):=by omega
     rw[e1,show q*512^2*4096=q*2^30 from by omega,h1]
     exact congrArg _ (by omega)
    have HADDR:=ae haddr
    clear hch hsh hx e0 haddr
    go_wp2_with fail
    rw[HSH.out]
    refine(vis_all1 t c a root f (q*512+k) bo R w3 S p T rest pg0 X' _ HP3.out HT3.out HG.out HCH.out hqk HV3.out (by have:=HLEN'.out;simp;omega) hR HN.out HLF.out _ HADDR.out).mono ?_
    rintro e w5 ⟨rfl,X5,hv5,hm5,ho5⟩
    have ho5':Out X1 X5 w2:=ho'.trans ho5 hm3.size
    have hm5':=hm3.trans ho' hm5
    have HV5:=ae hv5
    clear hv5
    go_wp2_with fail
    go_roundw
    case rel=>exact⟨k+1,X5,by go_num,by omega,by(rw[Tab.upto_succ];have:=HV5.out;simpa using this),hm5',ho5'⟩
    case measure=>(simp[intOf];omega)
  ·obtain rfl:k=512:=by omega
   go_wp2_with fail
   go_end0
   exact⟨rfl,X',by rw[HEV.out];exact HV'.out,hm1.trans ho1 ((Mod.of hb2).trans (Out.refl _ _) hm'),ho1.trans (fun b hb=>(ho' b hb).imp id (fun h=>Nat.le_trans hb2.size h)) hz1⟩
theorem vis_all3 (t c a root g q:Nat) (bo:Nat)(R:World→List Ev→(Nat→Prop)→Prop) (w:World) (S:Nat→Prop) (p:Pool) (T:Tab) (rest:Nat→Nat) (pg0:Nat) (X:Nat→Prop) (l:List Ev) (h:PoolAt w S a p) (ht:TabSelf w t c a root) (hgood:T.Good p rest pg0 4) (hq:T.nd 3 q=some g) (hqb:q<512^(4-3))
  (hv:VisOk R S t w l X) (hlen:l.length+(T.evs 3 q).length<1000000) (hR:VisStays R)
  (hn: ∀(w:World) (l:List Ev) (X:Nat→Prop) (f:Nat),VisOk R S t w l X→l.length<1000000→Calls Tryz.prog 75 (#[.int .i64 (f:Int)]++ #[]) w (VisPost w X R S t (l++[.node f])))
  (hl: ∀(w:World) (l:List Ev) (X:Nat→Prop) (pg:Nat) (y:Leaf),VisOk R S t w l X→l.length<1000000→Calls Tryz.prog 76 (#[.int .u64 ((pg*4096:Nat):Int), .agg #[.int .i64 (y.frame:Int), .int .u8 (y.prot:Int), .bool y.copy]]++ #[.pointer (some ⟨bo,0,none⟩)]) w (VisPost w X R S t (l++[.leaf pg y])))
  (fr:Int) (hfr:fr=((q*512^3*4096:Nat):Int)):
  Calls Tryz.prog 74 #[.pointer (some ⟨t,0,none⟩), .int .i64 (g:Int), .int .i64 1, .int .u64 fr, .func (.func 75) #[] #[], .func (.func 76) #[] #[.pointer (some ⟨bo,0,none⟩)]] w (VisPost w X R S t (l++T.evs 3 q)):=by
 have hev:=Tab.evs_node hq
 obtain⟨g1,g2⟩:=hgood.node hq
 have hwords:=(hgood.but.words 3 q g hq).2
 have hfew:=hgood.but.few
 have HEV:=ae hev
 have HQ:=ae hq
 have HV:=ae hv
 have HP:=ae h
 have HT:=ae ht
 have HN:=ae hn
 have HLF:=ae hl
 have HG:=ae hgood
 have HW:=ae hwords
 have HFR:=ae hfr
 have htw:t<w.heap.size:=(ac ht).1
 rw[hev]at hlen
 simp only[List.length_cons]at hlen
 have HLEN:=ae hlen
 clear hev hq hv h ht hn hl hgood hwords hfr hlen
 go_enter Tryz.func74,Tryz.ntmps74
 go_wp2_with fail
 refine(HN.out w l X g HV.out (by have:=HLEN.out;omega)).mono ?_
 rintro e w1 ⟨rfl,X1,hv1,hm1,ho1⟩
 have hT1:TabSelf w1 t c a root:=(hm1.block t htw HV.out.noT).trans HT.out
 have hP1:PoolAt w1 S a p:=HP.out.mod hm1 HV.out.apart HV.out.no0
 have c1:w1.cell? ⟨t,1,none⟩=some (.pointer (some ⟨a,0,none⟩)):=aa hT1 1
 have HT1:=ae hT1
 have HP1:=ae hP1
 have HV1:=ae hv1
 clear hT1 hP1 hv1
 go_wp2_with fail
 refine(load_yes a g 0 4096 w1 S p HP1.out g1 g2 (by omega) (by omega)).mono ?_
 rintro e w2 ⟨rfl,hB2,hz2,hb2⟩
 have hsm: ∀i,p.dat g i<256:=by
  obtain⟨⟨C,B,F,wd,pt,hi,hS⟩,_,_,_⟩:=HP1.out
  exact fun i=>hi.small g i
 have hX1: ¬X1 w1.heap.size:=fun e=>by have:=HV1.out.low _ e;omega
 have HV2:=ae (HV1.out.below hR hb2)
 have hz1:=hm1.size
 have HB2:=ae hB2
 clear hB2 c1
 go_wp2_with fail
 go_loopw [30] (fun i wr=> ∃(k:Nat) (X':Nat→Prop),i= .int .i64 (k:Int)∧k≤512∧VisOk R S t wr (l++ .node g::T.upto 2 q k) X'∧Mod X1 w2 wr∧Out X1 X' w2) (fun i _ =>512-(intOf i).toNat)
 case atStart=>exact⟨0,X1,rfl,by omega,by rw[Tab.upto_zero];exact HV2.out,Mod.refl _ _,Out.refl _ _⟩
 case round=>
  obtain⟨k,X',rfl,hk,hv',hm',ho'⟩:=hrel
  have HV':=ae hv'
  have hz':=hm'.size
  clear hv'
  by_cases hlt:k<512
  ·have hB':BytesAt wr w1.heap.size 4096 (fun i=>p.dat g (0+i)):=(hm'.block _ hz2 hX1).trans HB2.out
   have hT':TabSelf wr t c a root:=(hm'.block t (by omega) HV1.out.noT).trans ((hb2.block t (by omega)).trans HT1.out)
   have hP':PoolAt wr S a p:=(HP1.out.below hb2).mod hm' HV1.out.apart HV1.out.no0
   have HT':=ae hT'
   have HP':=ae hP'
   have hlen':l.length+(T.upto 2 q k).length+(T.evs 2 (q*512+k)).length+1<1000000:=by
    have h1:=T.upto_le 2 q (show k+1≤512 by omega)
    rw[Tab.upto_succ,List.length_append]at h1
    have:=HLEN.out
    omega
   have hqk:q*512+k<512^(4-2):=by
    have h9:=hqb
    simp only[Nat.reducePow,Nat.reduceSub]at h9⊢
    omega
   have HLEN':=ae hlen'
   clear hT' hP' hlen'
   go_wp2_with fail
   refine(get_8 (8*k) 4096 4096 w1.heap.size (fun i=>p.dat g (0+i)) wr (by omega) (by omega) hB' (fun i=>hsm _) (by omega)).mono ?_
   rintro e w3 ⟨rfl,hb3⟩
   have hword:leVal (fun i=>p.dat g (0+i)) (8*k) 8=T.word 3 q k:=by
    rw[←HW.out k hlt]
    unfold word
    refine leVal_congr fun i _ =>?_
    rw[Nat.zero_add]
   rw[hword]
   have hm3:Mod X1 w2 w3:=hm'.trans ho' (Mod.of hb3)
   have HV3:=ae (HV'.out.below hR hb3)
   have HP3:=ae (HP'.out.below hb3)
   have HT3:=ae ((hb3.block t (by omega)).trans HT'.out)
   have hz3:=hb3.size
   clear hword hB'
   cases hch:T.nd 2 (q*512+k)with
   |none=>
    have e0:T.word 3 q k=0:=by(unfold Tab.word;rw[if_neg (by omega)];show(match T.nd 2 (q*512+k)with|some f=>f*4096+1|none=>0)=_;rw[hch])
    have hes:=Tab.evs_none hch
    have HES:=ae hes
    rw[e0]
    have hz:=and_none
    clear hch hes
    go_wp2_with fail
    go_roundw
    case rel=>exact⟨k+1,X',by go_num,by omega,by rw[Tab.upto_succ,HES.out,List.append_nil];exact HV3.out,hm3,ho'⟩
    case measure=>(simp[intOf];omega)
   |some f=>
    have e0:T.word 3 q k=f*4096+1:=by(unfold Tab.word;rw[if_neg (by omega)];show(match T.nd 2 (q*512+k)with|some f=>f*4096+1|none=>0)=_;rw[hch])
    obtain⟨n1,n2⟩:=HG.out.node hch
    obtain⟨x,hx⟩: ∃x,x=f*4096+1:=⟨_,rfl⟩
    rw[e0,←hx]
    have hx9:x<18446744073709551616:=by omega
    have hodd:=and_odd hx9 (by omega)
    have hsh:((x:Int)/4096)=(f:Int):=by omega
    have HSH:=ae hsh
    have HCH:=ae hch
    have haddr:bits .or .u64 fr ((k:Int)*1073741824)=(((q*512+k)*512^2*4096:Nat):Int):=by
     rw[HFR.out]
     have h9:=hqb
     simp only[Nat.reducePow,Nat.reduceSub]at h9
     have h1:=or_at (a:=q) (b:=k*1073741824) (i:=39) (by omega) (by omega)
     have e1:((k:Int)*1073741824)=((k*1073741824:Nat):Int):=by omega
     rw[e1,show q*512^3*4096=q*2^39 from by omega,h1]
     exact congrArg _ (by omega)
    have HADDR:=ae haddr
    clear hch hsh hx e0 haddr
    go_wp2_with fail
    rw[HSH.out]
    refine(vis_all2 t c a root f (q*512+k) bo R w3 S p T rest pg0 X' _ HP3.out HT3.out HG.out HCH.out hqk HV3.out (by have:=HLEN'.out;simp;omega) hR HN.out HLF.out _ HADDR.out).mono ?_
    rintro e w5 ⟨rfl,X5,hv5,hm5,ho5⟩
    have ho5':Out X1 X5 w2:=ho'.trans ho5 hm3.size
    have hm5':=hm3.trans ho' hm5
    have HV5:=ae hv5
    clear hv5
    go_wp2_with fail
    go_roundw
    case rel=>exact⟨k+1,X5,by go_num,by omega,by(rw[Tab.upto_succ];have:=HV5.out;simpa using this),hm5',ho5'⟩
    case measure=>(simp[intOf];omega)
  ·obtain rfl:k=512:=by omega
   go_wp2_with fail
   go_end0
   exact⟨rfl,X',by rw[HEV.out];exact HV'.out,hm1.trans ho1 ((Mod.of hb2).trans (Out.refl _ _) hm'),ho1.trans (fun b hb=>(ho' b hb).imp id (fun h=>Nat.le_trans hb2.size h)) hz1⟩
theorem vis_all4 (t c a root g q:Nat) (bo:Nat)(R:World→List Ev→(Nat→Prop)→Prop) (w:World) (S:Nat→Prop) (p:Pool) (T:Tab) (rest:Nat→Nat) (pg0:Nat) (X:Nat→Prop) (l:List Ev) (h:PoolAt w S a p) (ht:TabSelf w t c a root) (hgood:T.Good p rest pg0 4) (hq:T.nd 4 q=some g) (hqb:q<512^(4-4))
  (hv:VisOk R S t w l X) (hlen:l.length+(T.evs 4 q).length<1000000) (hR:VisStays R)
  (hn: ∀(w:World) (l:List Ev) (X:Nat→Prop) (f:Nat),VisOk R S t w l X→l.length<1000000→Calls Tryz.prog 75 (#[.int .i64 (f:Int)]++ #[]) w (VisPost w X R S t (l++[.node f])))
  (hl: ∀(w:World) (l:List Ev) (X:Nat→Prop) (pg:Nat) (y:Leaf),VisOk R S t w l X→l.length<1000000→Calls Tryz.prog 76 (#[.int .u64 ((pg*4096:Nat):Int), .agg #[.int .i64 (y.frame:Int), .int .u8 (y.prot:Int), .bool y.copy]]++ #[.pointer (some ⟨bo,0,none⟩)]) w (VisPost w X R S t (l++[.leaf pg y])))
  (fr:Int) (hfr:fr=((q*512^4*4096:Nat):Int)):
  Calls Tryz.prog 74 #[.pointer (some ⟨t,0,none⟩), .int .i64 (g:Int), .int .i64 0, .int .u64 fr, .func (.func 75) #[] #[], .func (.func 76) #[] #[.pointer (some ⟨bo,0,none⟩)]] w (VisPost w X R S t (l++T.evs 4 q)):=by
 have hev:=Tab.evs_node hq
 obtain⟨g1,g2⟩:=hgood.node hq
 have hwords:=(hgood.but.words 4 q g hq).2
 have hfew:=hgood.but.few
 have HEV:=ae hev
 have HQ:=ae hq
 have HV:=ae hv
 have HP:=ae h
 have HT:=ae ht
 have HN:=ae hn
 have HLF:=ae hl
 have HG:=ae hgood
 have HW:=ae hwords
 have HFR:=ae hfr
 have htw:t<w.heap.size:=(ac ht).1
 rw[hev]at hlen
 simp only[List.length_cons]at hlen
 have HLEN:=ae hlen
 clear hev hq hv h ht hn hl hgood hwords hfr hlen
 go_enter Tryz.func74,Tryz.ntmps74
 go_wp2_with fail
 refine(HN.out w l X g HV.out (by have:=HLEN.out;omega)).mono ?_
 rintro e w1 ⟨rfl,X1,hv1,hm1,ho1⟩
 have hT1:TabSelf w1 t c a root:=(hm1.block t htw HV.out.noT).trans HT.out
 have hP1:PoolAt w1 S a p:=HP.out.mod hm1 HV.out.apart HV.out.no0
 have c1:w1.cell? ⟨t,1,none⟩=some (.pointer (some ⟨a,0,none⟩)):=aa hT1 1
 have HT1:=ae hT1
 have HP1:=ae hP1
 have HV1:=ae hv1
 clear hT1 hP1 hv1
 go_wp2_with fail
 refine(load_yes a g 0 4096 w1 S p HP1.out g1 g2 (by omega) (by omega)).mono ?_
 rintro e w2 ⟨rfl,hB2,hz2,hb2⟩
 have hsm: ∀i,p.dat g i<256:=by
  obtain⟨⟨C,B,F,wd,pt,hi,hS⟩,_,_,_⟩:=HP1.out
  exact fun i=>hi.small g i
 have hX1: ¬X1 w1.heap.size:=fun e=>by have:=HV1.out.low _ e;omega
 have HV2:=ae (HV1.out.below hR hb2)
 have hz1:=hm1.size
 have HB2:=ae hB2
 clear hB2 c1
 go_wp2_with fail
 go_loopw [30] (fun i wr=> ∃(k:Nat) (X':Nat→Prop),i= .int .i64 (k:Int)∧k≤512∧VisOk R S t wr (l++ .node g::T.upto 3 q k) X'∧Mod X1 w2 wr∧Out X1 X' w2) (fun i _ =>512-(intOf i).toNat)
 case atStart=>exact⟨0,X1,rfl,by omega,by rw[Tab.upto_zero];exact HV2.out,Mod.refl _ _,Out.refl _ _⟩
 case round=>
  obtain⟨k,X',rfl,hk,hv',hm',ho'⟩:=hrel
  have HV':=ae hv'
  have hz':=hm'.size
  clear hv'
  by_cases hlt:k<512
  ·have hB':BytesAt wr w1.heap.size 4096 (fun i=>p.dat g (0+i)):=(hm'.block _ hz2 hX1).trans HB2.out
   have hT':TabSelf wr t c a root:=(hm'.block t (by omega) HV1.out.noT).trans ((hb2.block t (by omega)).trans HT1.out)
   have hP':PoolAt wr S a p:=(HP1.out.below hb2).mod hm' HV1.out.apart HV1.out.no0
   have HT':=ae hT'
   have HP':=ae hP'
   have hlen':l.length+(T.upto 3 q k).length+(T.evs 3 (q*512+k)).length+1<1000000:=by
    have h1:=T.upto_le 3 q (show k+1≤512 by omega)
    rw[Tab.upto_succ,List.length_append]at h1
    have:=HLEN.out
    omega
   have hqk:q*512+k<512^(4-3):=by
    have h9:=hqb
    simp only[Nat.reducePow,Nat.reduceSub]at h9⊢
    omega
   have HLEN':=ae hlen'
   clear hT' hP' hlen'
   go_wp2_with fail
   refine(get_8 (8*k) 4096 4096 w1.heap.size (fun i=>p.dat g (0+i)) wr (by omega) (by omega) hB' (fun i=>hsm _) (by omega)).mono ?_
   rintro e w3 ⟨rfl,hb3⟩
   have hword:leVal (fun i=>p.dat g (0+i)) (8*k) 8=T.word 4 q k:=by
    rw[←HW.out k hlt]
    unfold word
    refine leVal_congr fun i _ =>?_
    rw[Nat.zero_add]
   rw[hword]
   have hm3:Mod X1 w2 w3:=hm'.trans ho' (Mod.of hb3)
   have HV3:=ae (HV'.out.below hR hb3)
   have HP3:=ae (HP'.out.below hb3)
   have HT3:=ae ((hb3.block t (by omega)).trans HT'.out)
   have hz3:=hb3.size
   clear hword hB'
   cases hch:T.nd 3 (q*512+k)with
   |none=>
    have e0:T.word 4 q k=0:=by(unfold Tab.word;rw[if_neg (by omega)];show(match T.nd 3 (q*512+k)with|some f=>f*4096+1|none=>0)=_;rw[hch])
    have hes:=Tab.evs_none hch
    have HES:=ae hes
    rw[e0]
    have hz:=and_none
    clear hch hes
    go_wp2_with fail
    go_roundw
    case rel=>exact⟨k+1,X',by go_num,by omega,by rw[Tab.upto_succ,HES.out,List.append_nil];exact HV3.out,hm3,ho'⟩
    case measure=>(simp[intOf];omega)
   |some f=>
    have e0:T.word 4 q k=f*4096+1:=by(unfold Tab.word;rw[if_neg (by omega)];show(match T.nd 3 (q*512+k)with|some f=>f*4096+1|none=>0)=_;rw[hch])
    obtain⟨n1,n2⟩:=HG.out.node hch
    obtain⟨x,hx⟩: ∃x,x=f*4096+1:=⟨_,rfl⟩
    rw[e0,←hx]
    have hx9:x<18446744073709551616:=by omega
    have hodd:=and_odd hx9 (by omega)
    have hsh:((x:Int)/4096)=(f:Int):=by omega
    have HSH:=ae hsh
    have HCH:=ae hch
    have haddr:bits .or .u64 fr ((k:Int)*549755813888)=(((q*512+k)*512^3*4096:Nat):Int):=by
     rw[HFR.out]
     have h9:=hqb
     simp only[Nat.reducePow,Nat.reduceSub]at h9
     have h1:=or_at (a:=q) (b:=k*549755813888) (i:=48) (by omega) (by omega)
     have e1:((k:Int)*549755813888)=((k*549755813888:Nat):Int):=by omega
     rw[e1,show q*512^4*4096=q*2^48 from by omega,h1]
     exact congrArg _ (by omega)
    have HADDR:=ae haddr
    clear hch hsh hx e0 haddr
    go_wp2_with fail
    rw[HSH.out]
    refine(vis_all3 t c a root f (q*512+k) bo R w3 S p T rest pg0 X' _ HP3.out HT3.out HG.out HCH.out hqk HV3.out (by have:=HLEN'.out;simp;omega) hR HN.out HLF.out _ HADDR.out).mono ?_
    rintro e w5 ⟨rfl,X5,hv5,hm5,ho5⟩
    have ho5':Out X1 X5 w2:=ho'.trans ho5 hm3.size
    have hm5':=hm3.trans ho' hm5
    have HV5:=ae hv5
    clear hv5
    go_wp2_with fail
    go_roundw
    case rel=>exact⟨k+1,X5,by go_num,by omega,by(rw[Tab.upto_succ];have:=HV5.out;simpa using this),hm5',ho5'⟩
    case measure=>(simp[intOf];omega)
  ·obtain rfl:k=512:=by omega
   go_wp2_with fail
   go_end0
   exact⟨rfl,X',by rw[HEV.out];exact HV'.out,hm1.trans ho1 ((Mod.of hb2).trans (Out.refl _ _) hm'),ho1.trans (fun b hb=>(ho' b hb).imp id (fun h=>Nat.le_trans hb2.size h)) hz1⟩
end
section
open Go.RowKit
theorem vis_free1 (t c a root g q:Nat) (bo:Nat)(R:World→List Ev→(Nat→Prop)→Prop) (w:World) (S:Nat→Prop) (p:Pool) (T:Tab) (rest:Nat→Nat) (pg0:Nat) (X:Nat→Prop) (l:List Ev) (h:PoolAt w S a p) (ht:TabSelf w t c a root) (hgood:T.Good p rest pg0 4) (hq:T.nd 1 q=some g) (hqb:q<512^(4-1))
  (hv:VisOk R S t w l X) (hlen:l.length+(T.evs 1 q).length<1000000) (hR:VisStays R)
  (hn: ∀(w:World) (l:List Ev) (X:Nat→Prop) (f:Nat),VisOk R S t w l X→l.length<1000000→Calls Tryz.prog 94 (#[.int .i64 (f:Int)]++ #[.pointer (some ⟨bo,0,none⟩)]) w (VisPost w X R S t (l++[.node f])))
  (hl: ∀(w:World) (l:List Ev) (X:Nat→Prop) (pg:Nat) (y:Leaf),VisOk R S t w l X→l.length<1000000→Calls Tryz.prog 95 (#[.int .u64 ((pg*4096:Nat):Int), .agg #[.int .i64 (y.frame:Int), .int .u8 (y.prot:Int), .bool y.copy]]++ #[.pointer (some ⟨bo,0,none⟩)]) w (VisPost w X R S t (l++[.leaf pg y])))
  (fr:Int) (hfr:fr=((q*512^1*4096:Nat):Int)):
  Calls Tryz.prog 74 #[.pointer (some ⟨t,0,none⟩), .int .i64 (g:Int), .int .i64 3, .int .u64 fr, .func (.func 94) #[] #[.pointer (some ⟨bo,0,none⟩)], .func (.func 95) #[] #[.pointer (some ⟨bo,0,none⟩)]] w (VisPost w X R S t (l++T.evs 1 q)):=by
 have hev:=Tab.evs_node hq
 obtain⟨g1,g2⟩:=hgood.node hq
 have hwords:=(hgood.but.words 1 q g hq).2
 have hfew:=hgood.but.few
 have HEV:=ae hev
 have HQ:=ae hq
 have HV:=ae hv
 have HP:=ae h
 have HT:=ae ht
 have HN:=ae hn
 have HLF:=ae hl
 have HG:=ae hgood
 have HW:=ae hwords
 have HFR:=ae hfr
 have htw:t<w.heap.size:=(ac ht).1
 rw[hev]at hlen
 simp only[List.length_cons]at hlen
 have HLEN:=ae hlen
 clear hev hq hv h ht hn hl hgood hwords hfr hlen
 go_enter Tryz.func74,Tryz.ntmps74
 go_wp2_with fail
 refine(HN.out w l X g HV.out (by have:=HLEN.out;omega)).mono ?_
 rintro e w1 ⟨rfl,X1,hv1,hm1,ho1⟩
 have hT1:TabSelf w1 t c a root:=(hm1.block t htw HV.out.noT).trans HT.out
 have hP1:PoolAt w1 S a p:=HP.out.mod hm1 HV.out.apart HV.out.no0
 have c1:w1.cell? ⟨t,1,none⟩=some (.pointer (some ⟨a,0,none⟩)):=aa hT1 1
 have HT1:=ae hT1
 have HP1:=ae hP1
 have HV1:=ae hv1
 clear hT1 hP1 hv1
 go_wp2_with fail
 refine(load_yes a g 0 4096 w1 S p HP1.out g1 g2 (by omega) (by omega)).mono ?_
 rintro e w2 ⟨rfl,hB2,hz2,hb2⟩
 have hsm: ∀i,p.dat g i<256:=by
  obtain⟨⟨C,B,F,wd,pt,hi,hS⟩,_,_,_⟩:=HP1.out
  exact fun i=>hi.small g i
 have hX1: ¬X1 w1.heap.size:=fun e=>by have:=HV1.out.low _ e;omega
 have HV2:=ae (HV1.out.below hR hb2)
 have hz1:=hm1.size
 have HB2:=ae hB2
 clear hB2 c1
 go_wp2_with fail
 go_loopw [30] (fun i wr=> ∃(k:Nat) (X':Nat→Prop),i= .int .i64 (k:Int)∧k≤512∧VisOk R S t wr (l++ .node g::T.upto 0 q k) X'∧Mod X1 w2 wr∧Out X1 X' w2) (fun i _ =>512-(intOf i).toNat)
 case atStart=>exact⟨0,X1,rfl,by omega,by rw[Tab.upto_zero];exact HV2.out,Mod.refl _ _,Out.refl _ _⟩
 case round=>
  obtain⟨k,X',rfl,hk,hv',hm',ho'⟩:=hrel
  have HV':=ae hv'
  have hz':=hm'.size
  clear hv'
  by_cases hlt:k<512
  ·have hB':BytesAt wr w1.heap.size 4096 (fun i=>p.dat g (0+i)):=(hm'.block _ hz2 hX1).trans HB2.out
   have hT':TabSelf wr t c a root:=(hm'.block t (by omega) HV1.out.noT).trans ((hb2.block t (by omega)).trans HT1.out)
   have hP':PoolAt wr S a p:=(HP1.out.below hb2).mod hm' HV1.out.apart HV1.out.no0
   have HT':=ae hT'
   have HP':=ae hP'
   have hlen':l.length+(T.upto 0 q k).length+(T.evs 0 (q*512+k)).length+1<1000000:=by
    have h1:=T.upto_le 0 q (show k+1≤512 by omega)
    rw[Tab.upto_succ,List.length_append]at h1
    have:=HLEN.out
    omega
   have hqk:q*512+k<512^(4-0):=by
    have h9:=hqb
    simp only[Nat.reducePow,Nat.reduceSub]at h9⊢
    omega
   have HLEN':=ae hlen'
   clear hT' hP' hlen'
   go_wp2_with fail
   refine(get_8 (8*k) 4096 4096 w1.heap.size (fun i=>p.dat g (0+i)) wr (by omega) (by omega) hB' (fun i=>hsm _) (by omega)).mono ?_
   rintro e w3 ⟨rfl,hb3⟩
   have hword:leVal (fun i=>p.dat g (0+i)) (8*k) 8=T.word 1 q k:=by
    rw[←HW.out k hlt]
    unfold word
    refine leVal_congr fun i _ =>?_
    rw[Nat.zero_add]
   rw[hword]
   have hm3:Mod X1 w2 w3:=hm'.trans ho' (Mod.of hb3)
   have HV3:=ae (HV'.out.below hR hb3)
   have HP3:=ae (HP'.out.below hb3)
   have HT3:=ae ((hb3.block t (by omega)).trans HT'.out)
   have hz3:=hb3.size
   clear hword hB'
   cases hch:T.lf (q*512+k)with
   |none=>
    have e0:T.word 1 q k=0:=by(unfold Tab.word;rw[if_pos rfl,hch])
    have hes:=Tab.evs_noleaf hch
    have HES:=ae hes
    rw[e0]
    have hz:=and_none
    clear hch hes
    go_wp2_with fail
    go_roundw
    case rel=>exact⟨k+1,X',by go_num,by omega,by rw[Tab.upto_succ,HES.out,List.append_nil];exact HV3.out,hm3,ho'⟩
    case measure=>(simp[intOf];omega)
   |some y=>
    have e0:T.word 1 q k=y.pack:=by(unfold Tab.word;rw[if_pos rfl,hch])
    obtain⟨p7,pf⟩:=(HG.out.but.leaf _ y hch).2
    obtain⟨x,hx⟩: ∃x,x=y.pack:=⟨_,rfl⟩
    rw[e0,←hx]
    have hx9:x<18446744073709551616:=by(rw[hx];have:=pack_lt y p7 (by omega);omega)
    have hodd:=and_odd hx9 (by rw[hx];exact pack_odd y)
    have hup:unpack x=y:=by(rw[hx];exact unpack_pack y p7)
    have hes:=Tab.evs_leaf hch
    have HES:=ae hes
    have HUP:=ae hup
    have haddr:bits .or .u64 fr ((k:Int)*4096)=(((q*512+k)*4096:Nat):Int):=by
     rw[HFR.out]
     have h9:=hqb
     simp only[Nat.reducePow,Nat.reduceSub]at h9
     have h1:=or_at (a:=q) (b:=k*4096) (i:=21) (by omega) (by omega)
     have e1:((k:Int)*4096)=((k*4096:Nat):Int):=by omega
     rw[e1,show q*512^1*4096=q*2^21 from by omega,h1]
     exact congrArg _ (by omega)
    have HADDR:=ae haddr
    clear hch hes hup hx e0 haddr
    go_wp2_with fail
    refine(tunpack_any x w3 hx9).mono ?_
    rintro e w4 ⟨rfl,hb4⟩
    rw[HUP.out]
    go_wp2_with fail
    rw[HADDR.out]
    refine(HLF.out w4 _ X' (q*512+k) y (HV3.out.below hR hb4) (by have:=HLEN'.out;simp;omega)).mono ?_
    rintro e w5 ⟨rfl,X5,hv5,hm5,ho5⟩
    have hm4:Mod X1 w2 w4:=hm3.trans (fun b hb=>(ho' b hb).imp id (fun h=>h)) (Mod.of hb4)
    have ho5':Out X1 X5 w2:=ho'.trans ho5 hm4.size
    have hm5':=hm4.trans ho' hm5
    have HV5:=ae hv5
    clear hv5
    go_wp2_with fail
    go_roundw
    case rel=>exact⟨k+1,X5,by go_num,by omega,by(rw[Tab.upto_succ,HES.out];have:=HV5.out;simpa using this),hm5',ho5'⟩
    case measure=>(simp[intOf];omega)
  ·obtain rfl:k=512:=by omega
   go_wp2_with fail
   go_end0
   exact⟨rfl,X',by rw[HEV.out];exact HV'.out,hm1.trans ho1 ((Mod.of hb2).trans (Out.refl _ _) hm'),ho1.trans (fun b hb=>(ho' b hb).imp id (fun h=>Nat.le_trans hb2.size h)) hz1⟩
theorem vis_free2 (t c a root g q:Nat) (bo:Nat)(R:World→List Ev→(Nat→Prop)→Prop) (w:World) (S:Nat→Prop) (p:Pool) (T:Tab) (rest:Nat→Nat) (pg0:Nat) (X:Nat→Prop) (l:List Ev) (h:PoolAt w S a p) (ht:TabSelf w t c a root) (hgood:T.Good p rest pg0 4) (hq:T.nd 2 q=some g) (hqb:q<512^(4-2))
  (hv:VisOk R S t w l X) (hlen:l.length+(T.evs 2 q).length<1000000) (hR:VisStays R)
  (hn: ∀(w:World) (l:List Ev) (X:Nat→Prop) (f:Nat),VisOk R S t w l X→l.length<1000000→Calls Tryz.prog 94 (#[.int .i64 (f:Int)]++ #[.pointer (some ⟨bo,0,none⟩)]) w (VisPost w X R S t (l++[.node f])))
  (hl: ∀(w:World) (l:List Ev) (X:Nat→Prop) (pg:Nat) (y:Leaf),VisOk R S t w l X→l.length<1000000→Calls Tryz.prog 95 (#[.int .u64 ((pg*4096:Nat):Int), .agg #[.int .i64 (y.frame:Int), .int .u8 (y.prot:Int), .bool y.copy]]++ #[.pointer (some ⟨bo,0,none⟩)]) w (VisPost w X R S t (l++[.leaf pg y])))
  (fr:Int) (hfr:fr=((q*512^2*4096:Nat):Int)):
  Calls Tryz.prog 74 #[.pointer (some ⟨t,0,none⟩), .int .i64 (g:Int), .int .i64 2, .int .u64 fr, .func (.func 94) #[] #[.pointer (some ⟨bo,0,none⟩)], .func (.func 95) #[] #[.pointer (some ⟨bo,0,none⟩)]] w (VisPost w X R S t (l++T.evs 2 q)):=by
 have hev:=Tab.evs_node hq
 obtain⟨g1,g2⟩:=hgood.node hq
 have hwords:=(hgood.but.words 2 q g hq).2
 have hfew:=hgood.but.few
 have HEV:=ae hev
 have HQ:=ae hq
 have HV:=ae hv
 have HP:=ae h
 have HT:=ae ht
 have HN:=ae hn
 have HLF:=ae hl
 have HG:=ae hgood
 have HW:=ae hwords
 have HFR:=ae hfr
 have htw:t<w.heap.size:=(ac ht).1
 rw[hev]at hlen
 simp only[List.length_cons]at hlen
 have HLEN:=ae hlen
 clear hev hq hv h ht hn hl hgood hwords hfr hlen
 go_enter Tryz.func74,Tryz.ntmps74
 go_wp2_with fail
 refine(HN.out w l X g HV.out (by have:=HLEN.out;omega)).mono ?_
 rintro e w1 ⟨rfl,X1,hv1,hm1,ho1⟩
 have hT1:TabSelf w1 t c a root:=(hm1.block t htw HV.out.noT).trans HT.out
 have hP1:PoolAt w1 S a p:=HP.out.mod hm1 HV.out.apart HV.out.no0
 have c1:w1.cell? ⟨t,1,none⟩=some (.pointer (some ⟨a,0,none⟩)):=aa hT1 1
 have HT1:=ae hT1
 have HP1:=ae hP1
 have HV1:=ae hv1
 clear hT1 hP1 hv1
 go_wp2_with fail
 refine(load_yes a g 0 4096 w1 S p HP1.out g1 g2 (by omega) (by omega)).mono ?_
 rintro e w2 ⟨rfl,hB2,hz2,hb2⟩
 have hsm: ∀i,p.dat g i<256:=by
  obtain⟨⟨C,B,F,wd,pt,hi,hS⟩,_,_,_⟩:=HP1.out
  exact fun i=>hi.small g i
 have hX1: ¬X1 w1.heap.size:=fun e=>by have:=HV1.out.low _ e;omega
 have HV2:=ae (HV1.out.below hR hb2)
 have hz1:=hm1.size
 have HB2:=ae hB2
 clear hB2 c1
 go_wp2_with fail
 go_loopw [30] (fun i wr=> ∃(k:Nat) (X':Nat→Prop),i= .int .i64 (k:Int)∧k≤512∧VisOk R S t wr (l++ .node g::T.upto 1 q k) X'∧Mod X1 w2 wr∧Out X1 X' w2) (fun i _ =>512-(intOf i).toNat)
 case atStart=>exact⟨0,X1,rfl,by omega,by rw[Tab.upto_zero];exact HV2.out,Mod.refl _ _,Out.refl _ _⟩
 case round=>
  obtain⟨k,X',rfl,hk,hv',hm',ho'⟩:=hrel
  have HV':=ae hv'
  have hz':=hm'.size
  clear hv'
  by_cases hlt:k<512
  ·have hB':BytesAt wr w1.heap.size 4096 (fun i=>p.dat g (0+i)):=(hm'.block _ hz2 hX1).trans HB2.out
   have hT':TabSelf wr t c a root:=(hm'.block t (by omega) HV1.out.noT).trans ((hb2.block t (by omega)).trans HT1.out)
   have hP':PoolAt wr S a p:=(HP1.out.below hb2).mod hm' HV1.out.apart HV1.out.no0
   have HT':=ae hT'
   have HP':=ae hP'
   have hlen':l.length+(T.upto 1 q k).length+(T.evs 1 (q*512+k)).length+1<1000000:=by
    have h1:=T.upto_le 1 q (show k+1≤512 by omega)
    rw[Tab.upto_succ,List.length_append]at h1
    have:=HLEN.out
    omega
   have hqk:q*512+k<512^(4-1):=by
    have h9:=hqb
    simp only[Nat.reducePow,Nat.reduceSub]at h9⊢
    omega
   have HLEN':=ae hlen'
   clear hT' hP' hlen'
   go_wp2_with fail
   refine(get_8 (8*k) 4096 4096 w1.heap.size (fun i=>p.dat g (0+i)) wr (by omega) (by omega) hB' (fun i=>hsm _) (by omega)).mono ?_
   rintro e w3 ⟨rfl,hb3⟩
   have hword:leVal (fun i=>p.dat g (0+i)) (8*k) 8=T.word 2 q k:=by
    rw[←HW.out k hlt]
    unfold word
    refine leVal_congr fun i _ =>?_
    rw[Nat.zero_add]
   rw[hword]
   have hm3:Mod X1 w2 w3:=hm'.trans ho' (Mod.of hb3)
   have HV3:=ae (HV'.out.below hR hb3)
   have HP3:=ae (HP'.out.below hb3)
   have HT3:=ae ((hb3.block t (by omega)).trans HT'.out)
   have hz3:=hb3.size
   clear hword hB'
   cases hch:T.nd 1 (q*512+k)with
   |none=>
    have e0:T.word 2 q k=0:=by(unfold Tab.word;rw[if_neg (by omega)];show(match T.nd 1 (q*512+k)with|some f=>f*4096+1|none=>0)=_;rw[hch])
    have hes:=Tab.evs_none hch
    have HES:=ae hes
    rw[e0]
    have hz:=and_none
    clear hch hes
    go_wp2_with fail
    go_roundw
    case rel=>exact⟨k+1,X',by go_num,by omega,by rw[Tab.upto_succ,HES.out,List.append_nil];exact HV3.out,hm3,ho'⟩
    case measure=>(simp[intOf];omega)
   |some f=>
    have e0:T.word 2 q k=f*4096+1:=by(unfold Tab.word;rw[if_neg (by omega)];show(match T.nd 1 (q*512+k)with|some f=>f*4096+1|none=>0)=_;rw[hch])
    obtain⟨n1,n2⟩:=HG.out.node hch
    obtain⟨x,hx⟩: ∃x,x=f*4096+1:=⟨_,rfl⟩
    rw[e0,←hx]
    have hx9:x<18446744073709551616:=by omega
    have hodd:=and_odd hx9 (by omega)
    have hsh:((x:Int)/4096)=(f:Int):=by omega
    have HSH:=ae hsh
    have HCH:=ae hch
    have haddr:bits .or .u64 fr ((k:Int)*2097152)=(((q*512+k)*512^1*4096:Nat):Int):=by
     rw[HFR.out]
     have h9:=hqb
     simp only[Nat.reducePow,Nat.reduceSub]at h9
     have h1:=or_at (a:=q) (b:=k*2097152) (i:=30) (by omega) (by omega)
     have e1:((k:Int)*2097152)=((k*2097152:Nat):Int):=by omega
     rw[e1,show q*512^2*4096=q*2^30 from by omega,h1]
     exact congrArg _ (by omega)
    have HADDR:=ae haddr
    clear hch hsh hx e0 haddr
    go_wp2_with fail
    rw[HSH.out]
    refine(vis_free1 t c a root f (q*512+k) bo R w3 S p T rest pg0 X' _ HP3.out HT3.out HG.out HCH.out hqk HV3.out (by have:=HLEN'.out;simp;omega) hR HN.out HLF.out _ HADDR.out).mono ?_
    rintro e w5 ⟨rfl,X5,hv5,hm5,ho5⟩
    have ho5':Out X1 X5 w2:=ho'.trans ho5 hm3.size
    have hm5':=hm3.trans ho' hm5
    have HV5:=ae hv5
    clear hv5
    go_wp2_with fail
    go_roundw
    case rel=>exact⟨k+1,X5,by go_num,by omega,by(rw[Tab.upto_succ];have:=HV5.out;simpa using this),hm5',ho5'⟩
    case measure=>(simp[intOf];omega)
  ·obtain rfl:k=512:=by omega
   go_wp2_with fail
   go_end0
   exact⟨rfl,X',by rw[HEV.out];exact HV'.out,hm1.trans ho1 ((Mod.of hb2).trans (Out.refl _ _) hm'),ho1.trans (fun b hb=>(ho' b hb).imp id (fun h=>Nat.le_trans hb2.size h)) hz1⟩
theorem vis_free3 (t c a root g q:Nat) (bo:Nat)(R:World→List Ev→(Nat→Prop)→Prop) (w:World) (S:Nat→Prop) (p:Pool) (T:Tab) (rest:Nat→Nat) (pg0:Nat) (X:Nat→Prop) (l:List Ev) (h:PoolAt w S a p) (ht:TabSelf w t c a root) (hgood:T.Good p rest pg0 4) (hq:T.nd 3 q=some g) (hqb:q<512^(4-3))
  (hv:VisOk R S t w l X) (hlen:l.length+(T.evs 3 q).length<1000000) (hR:VisStays R)
  (hn: ∀(w:World) (l:List Ev) (X:Nat→Prop) (f:Nat),VisOk R S t w l X→l.length<1000000→Calls Tryz.prog 94 (#[.int .i64 (f:Int)]++ #[.pointer (some ⟨bo,0,none⟩)]) w (VisPost w X R S t (l++[.node f])))
  (hl: ∀(w:World) (l:List Ev) (X:Nat→Prop) (pg:Nat) (y:Leaf),VisOk R S t w l X→l.length<1000000→Calls Tryz.prog 95 (#[.int .u64 ((pg*4096:Nat):Int), .agg #[.int .i64 (y.frame:Int), .int .u8 (y.prot:Int), .bool y.copy]]++ #[.pointer (some ⟨bo,0,none⟩)]) w (VisPost w X R S t (l++[.leaf pg y])))
  (fr:Int) (hfr:fr=((q*512^3*4096:Nat):Int)):
  Calls Tryz.prog 74 #[.pointer (some ⟨t,0,none⟩), .int .i64 (g:Int), .int .i64 1, .int .u64 fr, .func (.func 94) #[] #[.pointer (some ⟨bo,0,none⟩)], .func (.func 95) #[] #[.pointer (some ⟨bo,0,none⟩)]] w (VisPost w X R S t (l++T.evs 3 q)):=by
 have hev:=Tab.evs_node hq
 obtain⟨g1,g2⟩:=hgood.node hq
 have hwords:=(hgood.but.words 3 q g hq).2
 have hfew:=hgood.but.few
 have HEV:=ae hev
 have HQ:=ae hq
 have HV:=ae hv
 have HP:=ae h
 have HT:=ae ht
 have HN:=ae hn
 have HLF:=ae hl
 have HG:=ae hgood
 have HW:=ae hwords
 have HFR:=ae hfr
 have htw:t<w.heap.size:=(ac ht).1
 rw[hev]at hlen
 simp only[List.length_cons]at hlen
 have HLEN:=ae hlen
 clear hev hq hv h ht hn hl hgood hwords hfr hlen
 go_enter Tryz.func74,Tryz.ntmps74
 go_wp2_with fail
 refine(HN.out w l X g HV.out (by have:=HLEN.out;omega)).mono ?_
 rintro e w1 ⟨rfl,X1,hv1,hm1,ho1⟩
 have hT1:TabSelf w1 t c a root:=(hm1.block t htw HV.out.noT).trans HT.out
 have hP1:PoolAt w1 S a p:=HP.out.mod hm1 HV.out.apart HV.out.no0
 have c1:w1.cell? ⟨t,1,none⟩=some (.pointer (some ⟨a,0,none⟩)):=aa hT1 1
 have HT1:=ae hT1
 have HP1:=ae hP1
 have HV1:=ae hv1
 clear hT1 hP1 hv1
 go_wp2_with fail
 refine(load_yes a g 0 4096 w1 S p HP1.out g1 g2 (by omega) (by omega)).mono ?_
 rintro e w2 ⟨rfl,hB2,hz2,hb2⟩
 have hsm: ∀i,p.dat g i<256:=by
  obtain⟨⟨C,B,F,wd,pt,hi,hS⟩,_,_,_⟩:=HP1.out
  exact fun i=>hi.small g i
 have hX1: ¬X1 w1.heap.size:=fun e=>by have:=HV1.out.low _ e;omega
 have HV2:=ae (HV1.out.below hR hb2)
 have hz1:=hm1.size
 have HB2:=ae hB2
 clear hB2 c1
 go_wp2_with fail
 go_loopw [30] (fun i wr=> ∃(k:Nat) (X':Nat→Prop),i= .int .i64 (k:Int)∧k≤512∧VisOk R S t wr (l++ .node g::T.upto 2 q k) X'∧Mod X1 w2 wr∧Out X1 X' w2) (fun i _ =>512-(intOf i).toNat)
 case atStart=>exact⟨0,X1,rfl,by omega,by rw[Tab.upto_zero];exact HV2.out,Mod.refl _ _,Out.refl _ _⟩
 case round=>
  obtain⟨k,X',rfl,hk,hv',hm',ho'⟩:=hrel
  have HV':=ae hv'
  have hz':=hm'.size
  clear hv'
  by_cases hlt:k<512
  ·have hB':BytesAt wr w1.heap.size 4096 (fun i=>p.dat g (0+i)):=(hm'.block _ hz2 hX1).trans HB2.out
   have hT':TabSelf wr t c a root:=(hm'.block t (by omega) HV1.out.noT).trans ((hb2.block t (by omega)).trans HT1.out)
   have hP':PoolAt wr S a p:=(HP1.out.below hb2).mod hm' HV1.out.apart HV1.out.no0
   have HT':=ae hT'
   have HP':=ae hP'
   have hlen':l.length+(T.upto 2 q k).length+(T.evs 2 (q*512+k)).length+1<1000000:=by
    have h1:=T.upto_le 2 q (show k+1≤512 by omega)
    rw[Tab.upto_succ,List.length_append]at h1
    have:=HLEN.out
    omega
   have hqk:q*512+k<512^(4-2):=by
    have h9:=hqb
    simp only[Nat.reducePow,Nat.reduceSub]at h9⊢
    omega
   have HLEN':=ae hlen'
   clear hT' hP' hlen'
   go_wp2_with fail
   refine(get_8 (8*k) 4096 4096 w1.heap.size (fun i=>p.dat g (0+i)) wr (by omega) (by omega) hB' (fun i=>hsm _) (by omega)).mono ?_
   rintro e w3 ⟨rfl,hb3⟩
   have hword:leVal (fun i=>p.dat g (0+i)) (8*k) 8=T.word 3 q k:=by
    rw[←HW.out k hlt]
    unfold word
    refine leVal_congr fun i _ =>?_
    rw[Nat.zero_add]
   rw[hword]
   have hm3:Mod X1 w2 w3:=hm'.trans ho' (Mod.of hb3)
   have HV3:=ae (HV'.out.below hR hb3)
   have HP3:=ae (HP'.out.below hb3)
   have HT3:=ae ((hb3.block t (by omega)).trans HT'.out)
   have hz3:=hb3.size
   clear hword hB'
   cases hch:T.nd 2 (q*512+k)with
   |none=>
    have e0:T.word 3 q k=0:=by(unfold Tab.word;rw[if_neg (by omega)];show(match T.nd 2 (q*512+k)with|some f=>f*4096+1|none=>0)=_;rw[hch])
    have hes:=Tab.evs_none hch
    have HES:=ae hes
    rw[e0]
    have hz:=and_none
    clear hch hes
    go_wp2_with fail
    go_roundw
    case rel=>exact⟨k+1,X',by go_num,by omega,by rw[Tab.upto_succ,HES.out,List.append_nil];exact HV3.out,hm3,ho'⟩
    case measure=>(simp[intOf];omega)
   |some f=>
    have e0:T.word 3 q k=f*4096+1:=by(unfold Tab.word;rw[if_neg (by omega)];show(match T.nd 2 (q*512+k)with|some f=>f*4096+1|none=>0)=_;rw[hch])
    obtain⟨n1,n2⟩:=HG.out.node hch
    obtain⟨x,hx⟩: ∃x,x=f*4096+1:=⟨_,rfl⟩
    rw[e0,←hx]
    have hx9:x<18446744073709551616:=by omega
    have hodd:=and_odd hx9 (by omega)
    have hsh:((x:Int)/4096)=(f:Int):=by omega
    have HSH:=ae hsh
    have HCH:=ae hch
    have haddr:bits .or .u64 fr ((k:Int)*1073741824)=(((q*512+k)*512^2*4096:Nat):Int):=by
     rw[HFR.out]
     have h9:=hqb
     simp only[Nat.reducePow,Nat.reduceSub]at h9
     have h1:=or_at (a:=q) (b:=k*1073741824) (i:=39) (by omega) (by omega)
     have e1:((k:Int)*1073741824)=((k*1073741824:Nat):Int):=by omega
     rw[e1,show q*512^3*4096=q*2^39 from by omega,h1]
     exact congrArg _ (by omega)
    have HADDR:=ae haddr
    clear hch hsh hx e0 haddr
    go_wp2_with fail
    rw[HSH.out]
    refine(vis_free2 t c a root f (q*512+k) bo R w3 S p T rest pg0 X' _ HP3.out HT3.out HG.out HCH.out hqk HV3.out (by have:=HLEN'.out;simp;omega) hR HN.out HLF.out _ HADDR.out).mono ?_
    rintro e w5 ⟨rfl,X5,hv5,hm5,ho5⟩
    have ho5':Out X1 X5 w2:=ho'.trans ho5 hm3.size
    have hm5':=hm3.trans ho' hm5
    have HV5:=ae hv5
    clear hv5
    go_wp2_with fail
    go_roundw
    case rel=>exact⟨k+1,X5,by go_num,by omega,by(rw[Tab.upto_succ];have:=HV5.out;simpa using this),hm5',ho5'⟩
    case measure=>(simp[intOf];omega)
  ·obtain rfl:k=512:=by omega
   go_wp2_with fail
   go_end0
   exact⟨rfl,X',by rw[HEV.out];exact HV'.out,hm1.trans ho1 ((Mod.of hb2).trans (Out.refl _ _) hm'),ho1.trans (fun b hb=>(ho' b hb).imp id (fun h=>Nat.le_trans hb2.size h)) hz1⟩
theorem vis_free4 (t c a root g q:Nat) (bo:Nat)(R:World→List Ev→(Nat→Prop)→Prop) (w:World) (S:Nat→Prop) (p:Pool) (T:Tab) (rest:Nat→Nat) (pg0:Nat) (X:Nat→Prop) (l:List Ev) (h:PoolAt w S a p) (ht:TabSelf w t c a root) (hgood:T.Good p rest pg0 4) (hq:T.nd 4 q=some g) (hqb:q<512^(4-4))
  (hv:VisOk R S t w l X) (hlen:l.length+(T.evs 4 q).length<1000000) (hR:VisStays R)
  (hn: ∀(w:World) (l:List Ev) (X:Nat→Prop) (f:Nat),VisOk R S t w l X→l.length<1000000→Calls Tryz.prog 94 (#[.int .i64 (f:Int)]++ #[.pointer (some ⟨bo,0,none⟩)]) w (VisPost w X R S t (l++[.node f])))
  (hl: ∀(w:World) (l:List Ev) (X:Nat→Prop) (pg:Nat) (y:Leaf),VisOk R S t w l X→l.length<1000000→Calls Tryz.prog 95 (#[.int .u64 ((pg*4096:Nat):Int), .agg #[.int .i64 (y.frame:Int), .int .u8 (y.prot:Int), .bool y.copy]]++ #[.pointer (some ⟨bo,0,none⟩)]) w (VisPost w X R S t (l++[.leaf pg y])))
  (fr:Int) (hfr:fr=((q*512^4*4096:Nat):Int)):
  Calls Tryz.prog 74 #[.pointer (some ⟨t,0,none⟩), .int .i64 (g:Int), .int .i64 0, .int .u64 fr, .func (.func 94) #[] #[.pointer (some ⟨bo,0,none⟩)], .func (.func 95) #[] #[.pointer (some ⟨bo,0,none⟩)]] w (VisPost w X R S t (l++T.evs 4 q)):=by
 have hev:=Tab.evs_node hq
 obtain⟨g1,g2⟩:=hgood.node hq
 have hwords:=(hgood.but.words 4 q g hq).2
 have hfew:=hgood.but.few
 have HEV:=ae hev
 have HQ:=ae hq
 have HV:=ae hv
 have HP:=ae h
 have HT:=ae ht
 have HN:=ae hn
 have HLF:=ae hl
 have HG:=ae hgood
 have HW:=ae hwords
 have HFR:=ae hfr
 have htw:t<w.heap.size:=(ac ht).1
 rw[hev]at hlen
 simp only[List.length_cons]at hlen
 have HLEN:=ae hlen
 clear hev hq hv h ht hn hl hgood hwords hfr hlen
 go_enter Tryz.func74,Tryz.ntmps74
 go_wp2_with fail
 refine(HN.out w l X g HV.out (by have:=HLEN.out;omega)).mono ?_
 rintro e w1 ⟨rfl,X1,hv1,hm1,ho1⟩
 have hT1:TabSelf w1 t c a root:=(hm1.block t htw HV.out.noT).trans HT.out
 have hP1:PoolAt w1 S a p:=HP.out.mod hm1 HV.out.apart HV.out.no0
 have c1:w1.cell? ⟨t,1,none⟩=some (.pointer (some ⟨a,0,none⟩)):=aa hT1 1
 have HT1:=ae hT1
 have HP1:=ae hP1
 have HV1:=ae hv1
 clear hT1 hP1 hv1
 go_wp2_with fail
 refine(load_yes a g 0 4096 w1 S p HP1.out g1 g2 (by omega) (by omega)).mono ?_
 rintro e w2 ⟨rfl,hB2,hz2,hb2⟩
 have hsm: ∀i,p.dat g i<256:=by
  obtain⟨⟨C,B,F,wd,pt,hi,hS⟩,_,_,_⟩:=HP1.out
  exact fun i=>hi.small g i
 have hX1: ¬X1 w1.heap.size:=fun e=>by have:=HV1.out.low _ e;omega
 have HV2:=ae (HV1.out.below hR hb2)
 have hz1:=hm1.size
 have HB2:=ae hB2
 clear hB2 c1
 go_wp2_with fail
 go_loopw [30] (fun i wr=> ∃(k:Nat) (X':Nat→Prop),i= .int .i64 (k:Int)∧k≤512∧VisOk R S t wr (l++ .node g::T.upto 3 q k) X'∧Mod X1 w2 wr∧Out X1 X' w2) (fun i _ =>512-(intOf i).toNat)
 case atStart=>exact⟨0,X1,rfl,by omega,by rw[Tab.upto_zero];exact HV2.out,Mod.refl _ _,Out.refl _ _⟩
 case round=>
  obtain⟨k,X',rfl,hk,hv',hm',ho'⟩:=hrel
  have HV':=ae hv'
  have hz':=hm'.size
  clear hv'
  by_cases hlt:k<512
  ·have hB':BytesAt wr w1.heap.size 4096 (fun i=>p.dat g (0+i)):=(hm'.block _ hz2 hX1).trans HB2.out
   have hT':TabSelf wr t c a root:=(hm'.block t (by omega) HV1.out.noT).trans ((hb2.block t (by omega)).trans HT1.out)
   have hP':PoolAt wr S a p:=(HP1.out.below hb2).mod hm' HV1.out.apart HV1.out.no0
   have HT':=ae hT'
   have HP':=ae hP'
   have hlen':l.length+(T.upto 3 q k).length+(T.evs 3 (q*512+k)).length+1<1000000:=by
    have h1:=T.upto_le 3 q (show k+1≤512 by omega)
    rw[Tab.upto_succ,List.length_append]at h1
    have:=HLEN.out
    omega
   have hqk:q*512+k<512^(4-3):=by
    have h9:=hqb
    simp only[Nat.reducePow,Nat.reduceSub]at h9⊢
    omega
   have HLEN':=ae hlen'
   clear hT' hP' hlen'
   go_wp2_with fail
   refine(get_8 (8*k) 4096 4096 w1.heap.size (fun i=>p.dat g (0+i)) wr (by omega) (by omega) hB' (fun i=>hsm _) (by omega)).mono ?_
   rintro e w3 ⟨rfl,hb3⟩
   have hword:leVal (fun i=>p.dat g (0+i)) (8*k) 8=T.word 4 q k:=by
    rw[←HW.out k hlt]
    unfold word
    refine leVal_congr fun i _ =>?_
    rw[Nat.zero_add]
   rw[hword]
   have hm3:Mod X1 w2 w3:=hm'.trans ho' (Mod.of hb3)
   have HV3:=ae (HV'.out.below hR hb3)
   have HP3:=ae (HP'.out.below hb3)
   have HT3:=ae ((hb3.block t (by omega)).trans HT'.out)
   have hz3:=hb3.size
   clear hword hB'
   cases hch:T.nd 3 (q*512+k)with
   |none=>
    have e0:T.word 4 q k=0:=by(unfold Tab.word;rw[if_neg (by omega)];show(match T.nd 3 (q*512+k)with|some f=>f*4096+1|none=>0)=_;rw[hch])
    have hes:=Tab.evs_none hch
    have HES:=ae hes
    rw[e0]
    have hz:=and_none
    clear hch hes
    go_wp2_with fail
    go_roundw
    case rel=>exact⟨k+1,X',by go_num,by omega,by rw[Tab.upto_succ,HES.out,List.append_nil];exact HV3.out,hm3,ho'⟩
    case measure=>(simp[intOf];omega)
   |some f=>
    have e0:T.word 4 q k=f*4096+1:=by(unfold Tab.word;rw[if_neg (by omega)];show(match T.nd 3 (q*512+k)with|some f=>f*4096+1|none=>0)=_;rw[hch])
    obtain⟨n1,n2⟩:=HG.out.node hch
    obtain⟨x,hx⟩: ∃x,x=f*4096+1:=⟨_,rfl⟩
    rw[e0,←hx]
    have hx9:x<18446744073709551616:=by omega
    have hodd:=and_odd hx9 (by omega)
    have hsh:((x:Int)/4096)=(f:Int):=by omega
    have HSH:=ae hsh
    have HCH:=ae hch
    have haddr:bits .or .u64 fr ((k:Int)*549755813888)=(((q*512+k)*512^3*4096:Nat):Int):=by
     rw[HFR.out]
     have h9:=hqb
     simp only[Nat.reducePow,Nat.reduceSub]at h9
     have h1:=or_at (a:=q) (b:=k*549755813888) (i:=48) (by omega) (by omega)
     have e1:((k:Int)*549755813888)=((k*549755813888:Nat):Int):=by omega
     rw[e1,show q*512^4*4096=q*2^48 from by omega,h1]
     exact congrArg _ (by omega)
    have HADDR:=ae haddr
    clear hch hsh hx e0 haddr
    go_wp2_with fail
    rw[HSH.out]
    refine(vis_free3 t c a root f (q*512+k) bo R w3 S p T rest pg0 X' _ HP3.out HT3.out HG.out HCH.out hqk HV3.out (by have:=HLEN'.out;simp;omega) hR HN.out HLF.out _ HADDR.out).mono ?_
    rintro e w5 ⟨rfl,X5,hv5,hm5,ho5⟩
    have ho5':Out X1 X5 w2:=ho'.trans ho5 hm3.size
    have hm5':=hm3.trans ho' hm5
    have HV5:=ae hv5
    clear hv5
    go_wp2_with fail
    go_roundw
    case rel=>exact⟨k+1,X5,by go_num,by omega,by(rw[Tab.upto_succ];have:=HV5.out;simpa using this),hm5',ho5'⟩
    case measure=>(simp[intOf];omega)
  ·obtain rfl:k=512:=by omega
   go_wp2_with fail
   go_end0
   exact⟨rfl,X',by rw[HEV.out];exact HV'.out,hm1.trans ho1 ((Mod.of hb2).trans (Out.refl _ _) hm'),ho1.trans (fun b hb=>(ho' b hb).imp id (fun h=>Nat.le_trans hb2.size h)) hz1⟩
end
section
open Go.RowKit
theorem flatMap_few {α:Type} {F:Ev→List α} (hF: ∀e,(F e).length≤1) (l:List Ev):(l.flatMap F).length≤l.length:=by
 induction l with
 |nil=>simp
 |cons e l ih=>rw[List.flatMap_cons,List.length_append,List.length_cons];have:=hF e;omega
theorem app_put {w:World} {ops:Array Oper} {rest:List Oper} {o:Oper} {a:Act} {Q:Exit→Act→World→Prop} (hgd:o.guard=none) (s x:Operand)
  (ho:o.op= .call { callee:= .builtin .append,args:= #[s,x],argTypes:= #[80,80]})
  (base:Nat) (A:Option Addr) (cap:Nat) (l:List (Nat×Leaf)) (hs:a.eval s= .slice A l.length cap) (hown:OwnP w base A cap l)
  (r:Nat×Leaf) (b c:Nat) (hx:a.eval x= .slice (some ⟨b,0,none⟩) 1 c) (hb:w.heap[b]? =some (.cells #[.int .u64 ((r.1*4096:Nat):Int), .int .i64 (r.2.frame:Int), .int .u8 (r.2.prot:Int), .bool r.2.copy] 85 (0,0)))
  (hfew:l.length<1000000) (hbase:base≤w.heap.size)
  (h: ∀g cap' w',OwnP w' base (some ⟨g,0,none⟩) cap' (l++[r])→w.grownBy w' (A.map (·.block))→(A.map (·.block)=some g∨g=w.heap.size)→g<w'.heap.size→wpList Tryz.prog ops Q rest (a.put o.dst (.slice (some ⟨g,0,none⟩) (l.length+1) cap')) w'):
  wpList Tryz.prog ops Q (o::rest) a w:=by
 obtain⟨i0,hi0,hz0,hz1,hz2⟩:=info_parts put_info
 refine wpList_append_lies w hgd s x 80 ho base 85 i0 _ 4 24 Tryz.underlying80 hi0 hz0 hz1 hz2 rfl (by omega) _ l.length (l.flatMap pc) hs hown ⟨b,0,none⟩ 1 c (pc r) hx rfl (World.news_of_block (cs:= #[.int .u64 ((r.1*4096:Nat):Int), .int .i64 (r.2.frame:Int), .int .u8 (r.2.prot:Int), .bool r.2.copy]) hb)
  (by simp[pc,Value.oneCell']) (by omega) (by unfold maxLen;omega) (by omega) hbase w.heap.size rfl ?_
 intro g cap' w' ho' hg hat hlt
 refine h g cap' w' ?_ ?_ ?_ hlt
 ·unfold OwnP
  rw[List.flatMap_append,List.length_append]
  simpa [pc]using ho'
 ·cases A<;>simpa [Value.ownBlock]using hg
 ·cases A<;>simpa [Value.ownBlock]using hat
theorem Pick.cell {α:Type} {l:List α} {w w0 w1:World} {base bo n cap:Nat} {A:Option Addr} {ty:TypeId} (hF:(A=none∧l=[]∧cap=0)∨ ∃g,A=some ⟨g,0,none⟩∧base≤g∧g<w.heap.size∧l.length≤cap) (hAB: ∀g,A=some ⟨g,0,none⟩→g≠bo)
  (hB:w.heap[bo]? =some (.cells #[.slice A n cap] ty (0,0))) (hb:Below w.heap.size w w0) (hg:w0.grownBy w1 (A.map (·.block))):w1.heap[bo]? =some (.cells #[.slice A n cap] ty (0,0)):=by
 have hbw:=(ac hB).1
 refine(hg.block bo (Nat.lt_of_lt_of_le hbw hb.size) fun e=>?_).trans ((hb.block bo hbw).trans hB)
 rcases hF with⟨e',_⟩|⟨g',e',_,_,_⟩
 ·rw[e']at e;cases e
 ·rw[e']at e
  exact hAB g' e' (by simpa using e.symm)
theorem one_set {w:World} {b:Nat} {x y:Value} {t:TypeId} (h:w.heap[b]? =some (.cells #[x] t (0,0))):(w.setCell ⟨b,0,none⟩ y).heap[b]? =some (.cells #[y] t (0,0)):=by
 have h1:=Joins.block_setCell (i:=0) h y
 simpa using h1
structure PickOk (S:Nat→Prop) (t base bo:Nat):Prop where
 low: ∀b,S b→b<base
 tab:t<base
 pos:0<base
 box:base≤bo
theorem all1_any (ty:TypeId) (base bo t:Nat) (S:Nat→Prop) (w:World) (l:List Ev) (X:Nat→Prop) (f:Nat) (hv:VisOk (Pick OwnP ty Ev.ls base bo) S t w l X):
  Calls Tryz.prog 75 (#[.int .i64 (f:Int)]++ #[]) w (VisPost w X (Pick OwnP ty Ev.ls base bo) S t (l++[.node f])):=by
 have hp:=Pick.pass hv (e:= .node f) rfl
 have HP:=ae hp
 clear hv hp
 go_enter Tryz.func75,Tryz.ntmps75
 go_wp2_with fail
 go_end0
 exact HP.out
theorem free1_any (base bo t:Nat) (S:Nat→Prop) (hp:PickOk S t base bo) (w:World) (l:List Ev) (X:Nat→Prop) (f:Nat)
  (hv:VisOk (Pick OwnN 131 Ev.fs base bo) S t w l X) (hfew:l.length<1000000):
  Calls Tryz.prog 94 (#[.int .i64 (f:Int)]++ #[.pointer (some ⟨bo,0,none⟩)]) w (VisPost w X (Pick OwnN 131 Ev.fs base bo) S t (l++[.node f])):=by
 obtain⟨A,cap,hO,hB,hAb,hX⟩:=hv.rel
 have hlen:=flatMap_few (F:=Ev.fs) (fun e=>by cases e<;>simp[Ev.fs]) l
 have hform:=rowLikeN.form hO
 have hbw:bo<w.heap.size:=(ac hB).1
 have c0:w.cell? ⟨bo,0,none⟩=some (.slice A (l.flatMap Ev.fs).length cap):=aa hB 0
 have f0:w.frozen? ⟨bo,0,none⟩=false:=one_free hB 0
 obtain⟨L,hL⟩: ∃L,L=l.flatMap Ev.fs:=⟨_,rfl⟩
 rw[←hL]at hlen c0
 have HV:=ae hv
 have HO:=ae hO
 have HB:=ae hB
 have HX:=ae hX
 have HAB:=ae hAb
 have HF:=ae hform
 have HL:=ae hL
 clear hv hO hB hX hAb hform hL
 have hbox:=hp.box
 have hbe:=ae ((Below.refl w.heap.size w).alloc (Nat.le_refl _) (.cells #[.int .i64 (f:Int)] 3))
 go_enter Tryz.func94,Tryz.ntmps94
 go_wp2_with (first
  |(at_builtin;refine app_int rfl (.tmp 3) (.tmp 5) rfl base A cap L rfl ((HL.out▸HO.out:OwnN w base A cap L).alloc _) f w.heap.size 1 rfl (ab _ _) (by omega) (by simp;omega) ?_;intro g cap' w1 ho hg hat hlt;have hB2:=Pick.cell HF.out HAB.out HB.out hbe.out hg;rw[←HL.out]at hB2;have c1:w1.cell? ⟨bo,0,none⟩=some (.slice A L.length cap):=aa hB2 0;have f1:w1.frozen? ⟨bo,0,none⟩=false:=one_free hB2 0;have HO1:=ae ho;have HG:=ae hg;have HAT:=ae hat;have HB2:=ae hB2;clear ho hg hat hB2)
  |fail)
 go_end0
 exact Pick.more rowLikeN HV.out (x:=f) rfl HX.out HO.out hbe.out HG.out HAT.out hlt (HL.out▸HO1.out) HAB.out hbw hp.low hp.tab hp.pos (by rw[List.length_append,←HL.out];exact one_set HB2.out) (mod_set (S:=fun b=>b=bo) (b:=bo) rfl 0 _) (by simp)
theorem free2_any (base bo t:Nat) (S:Nat→Prop) (hp:PickOk S t base bo) (w:World) (l:List Ev) (X:Nat→Prop) (pg:Nat) (y:Leaf)
  (hv:VisOk (Pick OwnN 131 Ev.fs base bo) S t w l X) (hfew:l.length<1000000):
  Calls Tryz.prog 95 (#[.int .u64 ((pg*4096:Nat):Int), .agg #[.int .i64 (y.frame:Int), .int .u8 (y.prot:Int), .bool y.copy]]++ #[.pointer (some ⟨bo,0,none⟩)]) w (VisPost w X (Pick OwnN 131 Ev.fs base bo) S t (l++[.leaf pg y])):=by
 obtain⟨A,cap,hO,hB,hAb,hX⟩:=hv.rel
 have hlen:=flatMap_few (F:=Ev.fs) (fun e=>by cases e<;>simp[Ev.fs]) l
 have hform:=rowLikeN.form hO
 have hbw:bo<w.heap.size:=(ac hB).1
 have c0:w.cell? ⟨bo,0,none⟩=some (.slice A (l.flatMap Ev.fs).length cap):=aa hB 0
 have f0:w.frozen? ⟨bo,0,none⟩=false:=one_free hB 0
 obtain⟨L,hL⟩: ∃L,L=l.flatMap Ev.fs:=⟨_,rfl⟩
 rw[←hL]at hlen c0
 have HV:=ae hv
 have HO:=ae hO
 have HB:=ae hB
 have HX:=ae hX
 have HAB:=ae hAb
 have HF:=ae hform
 have HL:=ae hL
 clear hv hO hB hX hAb hform hL
 have hbox:=hp.box
 obtain⟨w0,hw0⟩: ∃w0,w0=w.alloc (.cells #[.int .i64 (y.frame:Int), .int .u8 (y.prot:Int), .bool y.copy] 83):=⟨_,rfl⟩
 have hb0:Below w.heap.size w w0:=by rw[hw0];exact(Below.refl _ _).alloc (Nat.le_refl _) _
 have hL0:w0.heap[w.heap.size]? =some (.cells #[.int .i64 (y.frame:Int), .int .u8 (y.prot:Int), .bool y.copy] 83 (0,0)):=by rw[hw0];exact ab _ _
 have d0:w0.cell? ⟨w.heap.size,0,none⟩=some (.int .i64 (y.frame:Int)):=aa hL0 0
 have c0':w0.cell? ⟨bo,0,none⟩=some (.slice A L.length cap):=(hb0.cell hbw).trans c0
 have f0':w0.frozen? ⟨bo,0,none⟩=false:=(hb0.frozen hbw).trans f0
 have hz0:=hb0.size
 have hbe:=ae (hb0.alloc hb0.size (.cells #[.int .i64 (y.frame:Int)] 3))
 have hO0:OwnN w0 base A cap L:=(HL.out▸HO.out:OwnN w base A cap L).below hb0 (Nat.le_refl _)
 have HO0:=ae hO0
 have HW0:=ae hw0
 clear hw0 hO0 c0 f0 hL0 hb0
 go_enter Tryz.func95,Tryz.ntmps95
 go_upto_region 1 with(fail)
 rw[←HW0.out]
 go_wp2_with (first
  |(at_builtin;refine app_int rfl (.tmp 5) (.tmp 8) rfl base A cap L rfl (HO0.out.alloc _) y.frame w0.heap.size 1 rfl (ab _ _) (by omega) (by simp;omega) ?_;intro g cap' w1 ho hg hat hlt;have hB2:=Pick.cell HF.out HAB.out HB.out hbe.out hg;rw[←HL.out]at hB2;have c1:w1.cell? ⟨bo,0,none⟩=some (.slice A L.length cap):=aa hB2 0;have f1:w1.frozen? ⟨bo,0,none⟩=false:=one_free hB2 0;have HO1:=ae ho;have HG:=ae hg;have HAT:=ae hat;have HB2:=ae hB2;clear ho hg hat hB2)
  |fail)
 go_end0
 exact Pick.more rowLikeN HV.out (x:=y.frame) rfl HX.out HO.out hbe.out HG.out HAT.out hlt (HL.out▸HO1.out) HAB.out hbw hp.low hp.tab hp.pos (by rw[List.length_append,←HL.out];exact one_set HB2.out) (mod_set (S:=fun b=>b=bo) (b:=bo) rfl 0 _) (by simp)
theorem all2_any (base bo t:Nat) (S:Nat→Prop) (hp:PickOk S t base bo) (w:World) (l:List Ev) (X:Nat→Prop) (pg:Nat) (y:Leaf)
  (hv:VisOk (Pick OwnP 80 Ev.ls base bo) S t w l X) (hfew:l.length<1000000):
  Calls Tryz.prog 76 (#[.int .u64 ((pg*4096:Nat):Int), .agg #[.int .i64 (y.frame:Int), .int .u8 (y.prot:Int), .bool y.copy]]++ #[.pointer (some ⟨bo,0,none⟩)]) w (VisPost w X (Pick OwnP 80 Ev.ls base bo) S t (l++[.leaf pg y])):=by
 obtain⟨A,cap,hO,hB,hAb,hX⟩:=hv.rel
 have hlen:=flatMap_few (F:=Ev.ls) (fun e=>by cases e<;>simp[Ev.ls]) l
 have hform:=rowLikeP.form hO
 have hbw:bo<w.heap.size:=(ac hB).1
 have c0:w.cell? ⟨bo,0,none⟩=some (.slice A (l.flatMap Ev.ls).length cap):=aa hB 0
 have f0:w.frozen? ⟨bo,0,none⟩=false:=one_free hB 0
 obtain⟨L,hL⟩: ∃L,L=l.flatMap Ev.ls:=⟨_,rfl⟩
 rw[←hL]at hlen c0
 have HV:=ae hv
 have HO:=ae hO
 have HB:=ae hB
 have HX:=ae hX
 have HAB:=ae hAb
 have HF:=ae hform
 have HL:=ae hL
 clear hv hO hB hX hAb hform hL
 have hbox:=hp.box
 obtain⟨w0,hw0⟩: ∃w0,w0=w.alloc (.cells #[.int .i64 (y.frame:Int), .int .u8 (y.prot:Int), .bool y.copy] 83):=⟨_,rfl⟩
 have hb0:Below w.heap.size w w0:=by rw[hw0];exact(Below.refl _ _).alloc (Nat.le_refl _) _
 have hL0:w0.heap[w.heap.size]? =some (.cells #[.int .i64 (y.frame:Int), .int .u8 (y.prot:Int), .bool y.copy] 83 (0,0)):=by rw[hw0];exact ab _ _
 have d0:w0.cell? ⟨w.heap.size,0,none⟩=some (.int .i64 (y.frame:Int)):=aa hL0 0
 have d1:w0.cell? ⟨w.heap.size,1,none⟩=some (.int .u8 (y.prot:Int)):=aa hL0 1
 have d2:w0.cell? ⟨w.heap.size,2,none⟩=some (.bool y.copy):=aa hL0 2
 have c0':w0.cell? ⟨bo,0,none⟩=some (.slice A L.length cap):=(hb0.cell hbw).trans c0
 have f0':w0.frozen? ⟨bo,0,none⟩=false:=(hb0.frozen hbw).trans f0
 have hz0:=hb0.size
 have hbe:=ae (hb0.alloc hb0.size (.cells #[.int .u64 ((pg*4096:Nat):Int), .int .i64 (y.frame:Int), .int .u8 (y.prot:Int), .bool y.copy] 85))
 have hO0:OwnP w0 base A cap L:=rowLikeP.same (HL.out▸HO.out:OwnP w base A cap L) (fun g hg=>hb0.block g (by
  rcases HF.out with⟨e,_⟩|⟨g',e,_,hlt,_⟩
  ·rw[e]at hg;cases hg
  ·rw[e]at hg;injection hg with hg;injection hg with hg;omega))
 have HO0:=ae hO0
 have HW0:=ae hw0
 clear hw0 hO0 c0 f0 hL0 hb0
 go_enter Tryz.func76,Tryz.ntmps76
 go_upto_region 1 with(fail)
 rw[←HW0.out]
 go_wp2_with (first
  |(at_builtin;refine app_put rfl (.tmp 5) (.tmp 9) rfl base A cap L rfl (rowLikeP.same HO0.out (fun g hg=>Below.heap_alloc _ _ _ (by
    rcases rowLikeP.form HO0.out with⟨e,_⟩|⟨g',e,_,hlt,_⟩
    ·rw[e]at hg;cases hg
    ·rw[e]at hg;injection hg with hg;injection hg with hg;omega))) (pg,y) w0.heap.size 1 rfl (ab _ _) (by omega) (by simp;omega) ?_;intro g cap' w1 ho hg hat hlt;have hB2:=Pick.cell HF.out HAB.out HB.out hbe.out hg;rw[←HL.out]at hB2;have c1:w1.cell? ⟨bo,0,none⟩=some (.slice A L.length cap):=aa hB2 0;have f1:w1.frozen? ⟨bo,0,none⟩=false:=one_free hB2 0;have HO1:=ae ho;have HG:=ae hg;have HAT:=ae hat;have HB2:=ae hB2;clear ho hg hat hB2)
  |fail)
 go_end0
 exact Pick.more rowLikeP HV.out (x:=(pg,y)) rfl HX.out HO.out hbe.out HG.out HAT.out hlt (HL.out▸HO1.out) HAB.out hbw hp.low hp.tab hp.pos (by rw[List.length_append,←HL.out];exact one_set HB2.out) (mod_set (S:=fun b=>b=bo) (b:=bo) rfl 0 _) (by simp)
end
section
open Go.RowKit Go.Sort
def RowPost {α:Type} (Own:World→Nat→Option Addr→Nat→List α→Prop) (w:World) (l:List α) (e:Ending) (w':World):Prop:= ∃A cap,e= .returned (.slice A l.length cap)∧Own w' w.heap.size A cap l∧Below w.heap.size w w'
theorem Pick.end {α:Type} {Own:World→Nat→Option Addr→Nat→List α→Prop} {ty:TypeId} {F:Ev→List α} {w w0 w1:World} {S X0:Nat→Prop} {t:Nat} {l:List Ev} {bo:Nat} (hbo:bo=w.heap.size) (hb0:Below w.heap.size w w0) (hX: ∀b,X0 b→b=bo) {X1:Nat→Prop} (hv:VisOk (Pick Own ty F w.heap.size bo) S t w1 l X1) (hm:Mod X0 w0 w1):
  ∃A cap,w1.cell? ⟨bo,0,none⟩=some (.slice A (l.flatMap F).length cap)∧Own w1 w.heap.size A cap (l.flatMap F)∧Below w.heap.size w w1:=by
 obtain⟨A,cap,h1,h2,h3,h4⟩:=hv.rel
 refine⟨A,cap,aa h2 0,h1,?_⟩
 exact((Mod.of hb0).trans (Out.refl _ _) (hm.sub fun b hb=>by have:=hX b hb;omega)).below (S:=fun b=>b=bo) (fun b hb=>by omega) (Nat.le_refl _)
theorem tall_any (t c a root:Nat) (w:World) (S:Nat→Prop) (p:Pool) (T:Tab) (rest:Nat→Nat) (pg0:Nat) (h:PoolAt w S a p) (ht:TabSelf w t c a root) (hg:T.Good p rest pg0 4) (hr:T.nd 4 0=some root):
  Calls Tryz.prog 34 #[.pointer (some ⟨t,0,none⟩)] w (RowPost OwnP w ((T.evs 4 0).flatMap Ev.ls)):=by
 have htw:t<w.heap.size:=(ac ht).1
 have hpos:=h.pos
 have hlow:=h.low
 have hshort:=hg.ok.short
 obtain⟨w0,hw0⟩: ∃w0,w0=w.alloc (.cells #[.slice none 0 0] 80):=⟨_,rfl⟩
 have hb0:Below w.heap.size w w0:=by rw[hw0];exact(Below.refl _ _).alloc (Nat.le_refl _) _
 have hB0:w0.heap[w.heap.size]? =some (.cells #[.slice none 0 0] 80 (0,0)):=by rw[hw0];exact ab _ _
 have hT0:TabSelf w0 t c a root:=(hb0.block t htw).trans ht
 have c2:w0.cell? ⟨t,2,none⟩=some (.int .i64 (root:Int)):=aa hT0 2
 have hp:PickOk S t w.heap.size w.heap.size:=⟨hlow,htw,hpos,Nat.le_refl _⟩
 have hvis:=vis_all4 t c a root root 0 w.heap.size (Pick OwnP 80 Ev.ls w.heap.size w.heap.size) w0 S p T rest pg0 (fun b=>b=w.heap.size) [] (h.below hb0) hT0 hg hr (by decide) (Pick.start (World.ownsRow_nil _ _ _ 4) hB0 (fun b hb=>by have:=hlow b hb;omega) (by omega) (by omega)) (by simp;omega) (Pick.stays rowLikeP)
  (fun w l X f hv hl=>all1_any _ _ _ _ S w l X f hv) (fun w l X pg y hv hl=>all2_any _ _ _ S hp w l X pg y hv hl) 0 (by simp)
 have HT:=ae ht
 have HV:=ae hvis
 have HW0:=ae hw0
 have HB:=ae hb0
 clear ht h hg hr hvis hw0 hb0 hT0 hB0 hp hlow
 go_enter Tryz.func34,Tryz.ntmps34
 go_wp2_with fail
 refine(tgone_any t c a root _ HT.out).mono ?_
 rintro e w1 ⟨rfl,rfl⟩
 go_upto_region 4 with(fail)
 rw[←HW0.out]
 go_wp2_with fail
 refine HV.out.mono ?_
 rintro e w1 ⟨rfl,X1,hv1,hm1,ho1⟩
 obtain⟨A,cap,d1,hO1,hB1⟩:=Pick.end rfl HB.out (fun b hb=>hb) hv1 hm1
 rw[List.nil_append]at d1 hO1
 have HO1:=ae hO1
 obtain⟨n,hn⟩: ∃n,n=((T.evs 4 0).flatMap Ev.ls).length:=⟨_,rfl⟩
 rw[←hn]at d1
 have HN:=ae hn
 clear hv1 hm1 ho1 hO1 hn
 go_wp2_with fail
 go_ret
 exact⟨A,cap,(by rw[←HN.out];rfl),HO1.out,hB1⟩
end
section
open Go.RowKit Go.Sort
def downs (p:Pool) (L:List Nat):Pool:=L.foldl Pool.down p
theorem downs_n (p:Pool) (L:List Nat):(downs p L).n=p.n:=by
 induction L generalizing p with
 |nil=>rfl
 |cons f L ih=>exact ih (p.down f)
theorem downs_dat (p:Pool) (L:List Nat):(downs p L).dat=p.dat:=by
 induction L generalizing p with
 |nil=>rfl
 |cons f L ih=>exact ih (p.down f)
theorem downs_cnt (p:Pool) (L:List Nat) (f:Nat):(downs p L).cnt f=p.cnt f-L.count f:=by
 induction L generalizing p with
 |nil=>rfl
 |cons g L ih=>
  show(downs (p.down g) L).cnt f=_
  rw[ih,List.count_cons]
  show upd p.cnt g (p.cnt g-1) f-_ =_
  by_cases c:f=g
  ·subst c;rw[upd_same];simp;omega
  ·rw[upd_ne _ _ c]
   have:(g==f)=false:=by simpa using fun e=>c e.symm
   simp[this]
theorem downs_snoc (p:Pool) (L:List Nat) (f:Nat):downs p (L++[f])=(downs p L).down f:=by
 unfold downs
 rw[List.foldl_append]
 rfl
theorem take_snoc {α:Type} {L:List α} {k:Nat} {x:α} (h:L[k]? =some x):L.take (k+1)=L.take k++[x]:=by
 rw[List.take_add_one,h]
 rfl
theorem count_take_lt {L:List Nat} {k f:Nat} (h:L[k]? =some f):(L.take k).count f+1≤L.count f:=by
 have h1:(L.take (k+1)).count f≤L.count f:=(List.take_sublist _ _).count_le f
 rw[take_snoc h,List.count_append]at h1
 simpa using h1
def FreePost (w:World) (S:Nat→Prop) (t a:Nat) (p:Pool) (L:List Nat) (e:Ending) (w':World):Prop:=
 e= .returned (.tuple #[])∧PoolAt w' S a (downs p L)∧Mod (fun b=>S b∨b=t) w w'∧w'.cell? ⟨t,1,none⟩=some (.pointer none)
theorem tfree_any (t c a root:Nat) (w:World) (S:Nat→Prop) (p:Pool) (T:Tab) (rest:Nat→Nat) (pg0:Nat) (h:PoolAt w S a p) (ht:TabSelf w t c a root) (htS: ¬S t) (ht0:t≠0) (hg:T.Good p rest pg0 4) (hr:T.nd 4 0=some root):
  Calls Tryz.prog 58 #[.pointer (some ⟨t,0,none⟩)] w (FreePost w S t a p ((T.evs 4 0).flatMap Ev.fs)):=by
 have htw:t<w.heap.size:=(ac ht).1
 have hpos:=h.pos
 have hlow:=h.low
 have hshort:=hg.ok.short
 have hcnt: ∀f,f<p.n→((T.evs 4 0).flatMap Ev.fs).count f≤p.cnt f:=fun f hf=>by rw[hg.ok.frames_cnt,hg.cnt f hf];omega
 have hin: ∀f,f∈(T.evs 4 0).flatMap Ev.fs→f<p.n:=by
  intro f hf
  have h1:=List.count_pos_iff.2 hf
  rw[hg.ok.frames_cnt]at h1
  by_cases c:isNode T f
  ·obtain⟨l,q,hl⟩:=c
   exact(hg.node hl).1
  ·rw[nodeCnt_no c]at h1
   have h2:0<leafCnt T f:=by omega
   by_cases c9: ∃i,i<pagesN∧leafIs T f i=true
   ·obtain⟨i,_,hi⟩:=c9
    unfold leafIs at hi
    cases hl:T.lf i with
    |none=>rw[hl]at hi;cases hi
    |some l=>
     rw[hl]at hi
     have e:l.frame=f:=by simpa using hi
     rw[←e]
     exact(hg.but.leaf _ l hl).2.2
   ·have:leafCnt T f=0:=cntTo_zero.2 fun i hi=>by
     by_cases c8:leafIs T f i=true
     ·exact absurd ⟨i,hi,c8⟩ c9
     ·simpa using c8
    omega
 obtain⟨w0,hw0⟩: ∃w0,w0=w.alloc (.cells #[.slice none 0 0] 131):=⟨_,rfl⟩
 have hb0:Below w.heap.size w w0:=by rw[hw0];exact(Below.refl _ _).alloc (Nat.le_refl _) _
 have hB0:w0.heap[w.heap.size]? =some (.cells #[.slice none 0 0] 131 (0,0)):=by rw[hw0];exact ab _ _
 have hT0:TabSelf w0 t c a root:=(hb0.block t htw).trans ht
 have c2:w0.cell? ⟨t,2,none⟩=some (.int .i64 (root:Int)):=aa hT0 2
 have hp:PickOk S t w.heap.size w.heap.size:=⟨hlow,htw,hpos,Nat.le_refl _⟩
 have hvis:=vis_free4 t c a root root 0 w.heap.size (Pick OwnN 131 Ev.fs w.heap.size w.heap.size) w0 S p T rest pg0 (fun b=>b=w.heap.size) [] (h.below hb0) hT0 hg hr (by decide) (Pick.start (OwnN.nil _ _) hB0 (fun b hb=>by have:=hlow b hb;omega) (by omega) (by omega)) (by simp;omega) (Pick.stays rowLikeN)
  (fun w l X f hv hl=>free1_any _ _ _ S hp w l X f hv hl) (fun w l X pg y hv hl=>free2_any _ _ _ S hp w l X pg y hv hl) 0 (by simp)
 rw[List.nil_append]at hvis
 have hlen:=flatMap_few (F:=Ev.fs) (fun e=>by cases e<;>simp[Ev.fs]) (T.evs 4 0)
 obtain⟨L,hL⟩: ∃L,L=(T.evs 4 0).flatMap Ev.fs:=⟨_,rfl⟩
 obtain⟨n,hn⟩: ∃n,n=L.length:=⟨_,rfl⟩
 rw[←hL]at hcnt hin hlen⊢
 have HT:=ae ht
 have HV:=ae hvis
 have HW0:=ae hw0
 have HB:=ae hb0
 have HP:=ae h
 have HL:=ae hL
 have HN:=ae hn
 have HCNT:=ae hcnt
 have HIN:=ae hin
 rw[←hn]at hlen
 clear ht h hg hr hvis hw0 hb0 hT0 hB0 hp hL hn hcnt hin
 go_enter Tryz.func58,Tryz.ntmps58
 go_wp2_with fail
 refine(tgone_any t c a root _ HT.out).mono ?_
 rintro e w1 ⟨rfl,rfl⟩
 go_upto_region 2 with(fail)
 rw[←HW0.out]
 go_wp2_with fail
 refine HV.out.mono ?_
 rintro e w1 ⟨rfl,X1,hv1,hm1,ho1⟩
 obtain⟨A,cap,d1,hO1,hB1⟩:=Pick.end rfl HB.out (fun b hb=>hb) hv1 hm1
 rw[←HL.out]at d1 hO1
 rw[←HN.out]at d1
 have HO1:=ae hO1
 have HB1:=ae hB1
 have hz1:=hB1.size
 clear hv1 hm1 ho1 hO1
 go_wp2_with fail
 go_loopw [17] (fun i wr=> ∃(k:Nat),i= .int .i64 (k:Int)∧k≤n∧PoolAt wr S a (downs p (L.take k))∧Mod S w1 wr) (fun i _ =>n-(intOf i).toNat)
 case atStart=>exact⟨0,rfl,by omega,HP.out.below HB1.out,Mod.refl _ _⟩
 case round=>
  obtain⟨k,rfl,hk,hpk,hmk⟩:=hrel
  have HPK:=ae hpk
  have HMK:=ae hmk
  have hzk:=hmk.size
  have hTk:TabSelf wr t c a root:=(hmk.block t (by omega) htS).trans ((HB1.out.block t htw).trans HT.out)
  have d2:wr.cell? ⟨t,1,none⟩=some (.pointer (some ⟨a,0,none⟩)):=aa hTk 1
  have d3:wr.frozen? ⟨t,1,none⟩=false:=one_free hTk 1
  have HTK:=ae hTk
  clear hpk hmk hTk d1
  by_cases hlt:k<n
  ·obtain⟨f,hf⟩: ∃f,L[k]? =some f:=⟨L[k]'(by rw[←HN.out];exact hlt),List.getElem?_eq_getElem _⟩
   have hfm:f∈L:=List.mem_of_getElem? hf
   have hfn:=HIN.out f hfm
   have hc1:=HCNT.out f hfn
   have hc2:=count_take_lt hf
   have hc3:=downs_cnt p (L.take k) f
   have hc4:1≤(downs p (L.take k)).cnt f:=by omega
   have hn4:f<(downs p (L.take k)).n:=by rw[downs_n];exact hfn
   rcases OwnN.form HO1.out with⟨_,e,_⟩|⟨g,e,hbg,hgw,_⟩
   ·rw[e]at hf;cases hf
   have hgS: ¬S g:=fun e'=>by have:=hlow g e';omega
   have hOk:OwnN wr w.heap.size A cap L:=HO1.out.same fun g' e'=>by
    rw[e]at e'
    injection e' with e'
    injection e' with e'
    subst e'
    exact HMK.out.block g hgw hgS
   rw[e]at hOk
   have d4:=hOk.elem hf
   subst e
   have HF:=ae hf
   have HC4:=ae hc4
   have HN4:=ae hn4
   clear hf hfm hfn hc1 hc2 hc3 hc4 hn4 hOk
   go_wp2_with fail
   refine(down_yes a f _ S _ HPK.out HN4.out HC4.out).mono ?_
   rintro e w2 ⟨rfl,hp2,hm2⟩
   have HP2:=ae hp2
   have HM2:=ae hm2
   clear hp2 hm2
   go_wp2_with fail
   go_roundw
   case rel=>exact⟨k+1,by go_num,by omega,by rw[take_snoc HF.out,downs_snoc];exact HP2.out,HMK.out.trans (Out.refl _ _) HM2.out⟩
   case measure=>(simp[intOf];omega)
  ·obtain rfl:k=n:=by omega
   go_wp2_with fail
   go_end0
   have hall:L.take k=L:=List.take_of_length_le (by rw[←HN.out];exact Nat.le_refl _)
   have hpk:=HPK.out
   rw[hall]at hpk
   refine⟨rfl,hpk.mod (mod_set (S:=fun b=>b=t) rfl 1 _) (fun b hb e=>htS (e▸hb)) (fun e=>ht0 e.symm),?_,?_⟩
   ·exact((Mod.of HB1.out).trans (Out.refl _ _) (HMK.out.sub fun b hb=> .inl hb)).trans (Out.refl _ _) (mod_set (S:=fun b=>S b∨b=t) (.inr rfl) 1 _)
   ·exact aa (Joins.block_setCell (i:=1) HTK.out (.pointer none)) 1
end
end Go.Proofs.YtoochjhipmpehaaGreatDoor
