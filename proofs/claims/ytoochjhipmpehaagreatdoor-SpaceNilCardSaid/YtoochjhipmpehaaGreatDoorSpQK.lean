/- Spaces: Fork. -/
import Derived.Test.YtoochjhipmpehaaGreatDoorAbK
import Derived.Test.YtoochjhipmpehaaGreatDoorPcK
import Derived.Test.YtoochjhipmpehaaGreatDoorSaK
import Derived.Test.YtoochjhipmpehaaGreatDoorSpOK
set_option linter.unusedVariables false
set_option linter.unusedSimpArgs false
set_option maxRecDepth 100000
set_option maxHeartbeats 8000000
namespace Go.Proofs.YtoochjhipmpehaaGreatDoor
section
open Go.RowKit Go.Sort
section
variable {w W W':World} {G K:Nat→Prop} {B c a fs m s t root:Nat} {A:Option Addr} {n cap:Nat} {rl:List Reg} {S0 S S':Nat→Prop} {F:List Nd} {clock clock':Int} {p p':Pool} {L L':List Slot}
theorem Run.add (h:Run w W G K B c a fs m s t root A n cap rl S0 S F clock p L) {K':Nat→Prop} (hA: ∀ad,A=some ad→ad.block<w.heap.size) (hK: ∀b,K' b→K b∨(¬S b∧w.heap.size≤b∧b<W.heap.size)):Run w W G K' B c a fs m s t root A n cap rl S0 S F clock p L:=
 ⟨h.home,h.one,h.mod,h.out,h.foot,h.low,fun b hb=>(hK b hb).elim (h.own b) id,fun ad e x=>(hK _ x).elim (h.row ad e) (fun y=>by have:=hA ad e;omega)⟩
end
structure ForkNo (F:List Nd) (hold:Nat→Nat) (p:Pool) (L:List Slot) (T:Tab) (p':Pool) (L':List Slot):Prop where
 sp:Sp F hold p' L' T
 far: ∀E,Far hold T E p p'
 dat: ∀x,0<leafCnt T x→p'.dat x=p.dat x
 own:Own p T→Own p' T
 full:Full hold p T∨ ∃k p1 L1 T2,Forked F hold p L T k p1 L1 T2∧Full (fun x=>hold x+tn T x) p1 T2
def ForkPost (w:World) (B c a fs m s t root:Nat) (A:Option Addr) (n cap:Nat) (rl:List Reg) (S:Nat→Prop) (F:List Nd) (clock:Int) (p:Pool) (L:List Slot) (T:Tab) (hold:Nat→Nat) (e:Ending) (w':World):Prop:=
 (∃p' L' S',e= .returned (.tuple #[.pointer none, .int .i64 4])∧Home w' B c a fs m S' F clock p' L'∧One w' B c a m S' s t root A n cap rl∧Mod (FootS S c m) w w'∧Out S S' w∧ForkNo F hold p L T p' L')∨
 (∃s2 t2 f p' L' T' T2 S' A' cap',e= .returned (.tuple #[.pointer (some ⟨s2,0,none⟩), .int .i64 0])∧Home w' B c a fs m S' F clock p' L'∧One w' B c a m S' s t root A n cap rl∧One w' B c a m S' s2 t2 f A' n cap' rl∧T2.nd 4 0=some f∧w.heap.size≤s2∧w.heap.size≤t2∧(∀ad,A'=some ad→w.heap.size≤ad.block)∧Mod (FootS S c m) w w'∧Out S S' w∧ForkDone F hold p L T p' L' T' T2)
structure FkJ (w:World) (bs:Nat) (B c a fs m s t root:Nat) (A:Option Addr) (n cap:Nat) (rl:List Reg) (S:Nat→Prop) (F:List Nd) (clock:Int) (p:Pool) (L:List Slot) (T:Tab) (hold:Nat→Nat) (t2 f:Nat) (R:Option Addr) (cp k:Nat) (W:World) (S':Nat→Prop) (p':Pool) (L':List Slot) (T2:Tab):Prop where
 run:Run w W (FootS S c m) (fun b=>b=t2∨R.map (·.block)=some b) B c a fs m s t root A n cap rl S S' F clock p' L'
 tab:TabSelf W t2 c a f
 row:OwnP W bs R cp T.puts
 fk:Forked F hold p L T k p' L' T2
 nd:T2.nd 4 0=some f
structure FkT (w:World) (bs:Nat) (B c a fs m s t root:Nat) (A:Option Addr) (n cap:Nat) (rl:List Reg) (S:Nat→Prop) (F:List Nd) (clock:Int) (p1:Pool) (L1:List Slot) (T:Tab) (hold:Nat→Nat) (t2 f:Nat) (R:Option Addr) (cp k:Nat) (W:World) (S':Nat→Prop) (T2:Tab) (p':Pool) (T':Tab):Prop where
 run:Run w W (FootS S c m) (fun b=>b=t2∨R.map (·.block)=some b) B c a fs m s t root A n cap rl S S' F clock p' L1
 tab:TabSelf W t2 c a f
 row:OwnP W bs R cp T.puts
 tr:Turned F (fun x=>hold x+tn T2 x) cpy 0 18446744073709551615 p1 L1 T k p' T'
theorem Run.keepRow {W W':World} {c a t2:Nat} {R:Option Addr} {bs cp:Nat} {ps:List (Nat×Leaf)} {f:Nat} (ht:TabSelf W t2 c a f) (hr:OwnP W bs R cp ps) (hk: ∀b,(b=t2∨R.map (·.block)=some b)→W'.heap[b]? =W.heap[b]?):TabSelf W' t2 c a f∧OwnP W' bs R cp ps:=
 ⟨(hk t2 (.inl rfl)).trans ht,hr.same fun g hg=>hk g (.inr (by rw[hg];rfl))⟩
theorem Run.freed {w W W':World} {K:Nat→Prop} {B c a fs m s t root n cap t2:Nat} {A:Option Addr} {rl:List Reg} {S0 S:Nat→Prop} {F:List Nd} {clock:Int} {p p':Pool} {L:List Slot} (h:Run w W (FootS S0 c m) K B c a fs m s t root A n cap rl S0 S F clock p L) (hC:CacheAt W' S c a fs m clock p' L) (hm:Mod (fun b=>S b∨b=t2) W W') (ht2:w.heap.size≤t2) (hA: ∀ad,A=some ad→ad.block<w.heap.size):
  Home W' B c a fs m S F clock p' L∧One W' B c a m S s t root A n cap rl∧Mod (FootS S0 c m) w W':=by
 obtain⟨l1,l2,l3,l4,l5⟩:=h.low
 have hz:=h.mod.size
 have hz2:=hm.size
 have hB:=h.home.base
 have hlo:=h.home.lows
 obtain⟨w1,B1,nb,c2,ad,mp,f1,f2,f3⟩:=h.home.files
 have hone:=h.one
 refine⟨⟨hC,⟨w1,B1,nb,c2,ad,mp,f1,f2,f3.trans (hm.below (fun b hb=>hb.elim (h.home.low b) (fun e=>by omega)) hB)⟩,h.home.bytes,h.home.low,hlo⟩,⟨(hm.block s hone.lts.1 (fun e=>e.elim hone.noS.1 (fun e=>by omega))).trans hone.self,(hm.block t hone.lts.2.1 (fun e=>e.elim hone.noT.1 (fun e=>by omega))).trans hone.tab,hone.row.mod hm (fun ad e e2=>e2.elim (hone.noR ad e).1 (fun e2=>by have:=hA ad e;omega)),hone.noS,hone.noT,fun ad e=>by
  obtain⟨n1,n2,n3,n4,n5,n6,n7⟩:=hone.noR ad e
  exact⟨n1,n2,n3,n4,n5,n6,by omega⟩⟩,?_⟩
 exact((h.mod.sub (T:=fun b=>FootS S0 c m b∨w.heap.size≤b) fun b e=> .inl e).trans (Out.refl _ _) (hm.sub fun b e=>by
  rcases e with e|e
  ·exact(h.out b e).imp (fun e=> .inl e) id
  ·exact .inr (by omega))).own fun b e=>e
theorem OwnP.blk2 {w:World} {base:Nat} {A:Option Addr} {cap:Nat} {l:List (Nat×Leaf)} (h:OwnP w base A cap l): ∀g,A.map (·.block)=some g→base≤g∧g<w.heap.size:=fun g e=>by
 rcases h.form with⟨h2,_⟩|⟨g',h1,h2,h3,_⟩
 ·rw[h2]at e;cases e
 ·rw[h1]at e
  simp at e
  subst e
  exact⟨h2,h3⟩
theorem Tab.Good.puts_few {F:List Nd} {hold:Nat→Nat} {p:Pool} {L:List Slot} {T:Tab} (h:Sp F hold p L T):T.puts.length≤525312:=by
 refine Nat.le_trans (flatMap_few (fun e=>?_) _) h.good.ok.short
 cases e<;>simp[Ev.ls]
theorem Forked.tnle {F:List Nd} {hold:Nat→Nat} {p p':Pool} {L L':List Slot} {T T2:Tab} {k:Nat} (h0:Sp F hold p L T) (h:Forked F hold p L T k p' L' T2) (x:Nat):tn T2 x≤525314:=by
 have h1:leafCnt T2 x≤525312:=by
  rw[←h.two.good.ok.leaves_cnt x]
  exact Nat.le_trans List.countP_le_length (Tab.Good.puts_few h.two)
 have h4:nodeCnt T2 x≤1:=by
  by_cases e:isNode T2 x
  ·rw[nodeCnt_yes e];exact Nat.le_refl _
  ·rw[nodeCnt_no e];exact Nat.zero_le _
 unfold tn
 omega
theorem sfork_any (B c a fs m s t root n cap:Nat) (A:Option Addr) (rl:List Reg) (clock:Int) (w:World) (S:Nat→Prop) (F:List Nd) (p:Pool) (L:List Slot) (T:Tab) (hold:Nat→Nat)
  (hH:Home w B c a fs m S F clock p L) (hO:One w B c a m S s t root A n cap rl) (hsp:Sp F hold p L T) (hr:T.nd 4 0=some root) (hcap: ∀f,hold f≤100000000000) (hlow: ∀g l,T.lf g=some l→g<34359738368) (hn9:n<900000):
  Calls Tryz.prog 32 #[.pointer (some ⟨s,0,none⟩)] w (ForkPost w B c a fs m s t root A n cap rl S F clock p L T hold):=by
 have hgone:=sgone_no s c a t n cap A w hO.self
 have hnew:=tnew_any c a fs m clock w S p L hH.cache
 have hrun:=Run.start hH hO (fun _ e=>e)
 have hAw: ∀ad,A=some ad→ad.block<w.heap.size:=fun ad e=>(hO.noR ad e).2.2.2.2.2.2
 have s0:w.cell? ⟨s,0,none⟩=some (.pointer (some ⟨c,0,none⟩)):=aa hO.self 0
 have HGONE:=ae hgone
 have HNEW:=ae hnew
 have HRUN:=ae hrun
 have HSP:=ae hsp
 have HR:=ae hr
 have HH:=ae hH
 have HO:=ae hO
 have hmw:=hH.lts.2.1
 have hcw:=hH.lts.1
 have hBw:=hH.base
 have hB0:=hH.lows.2.2
 clear hgone hnew hrun hsp hr hH hO
 go_enter Tryz.func32,Tryz.ntmps32
 go_wp2_with (first
  |(go_at_call 56;refine(HGONE.out).mono ?_;rintro e w1 ⟨rfl,rfl⟩)
  |fail)
 refine(HNEW.out).mono ?_
 rintro e w1 (⟨f,p1,L1,S1,t2,rfl,hC1,hT1,hm1,ho1,ht2,ht2w,ht2S,hres⟩|⟨f,p1,L1,S1,rfl,hC1,hm1,ho1,hres,hp1,hL1⟩)
 rotate_left
 ·subst hp1 hL1
  have HC1:=ae hC1
  have HM1:=ae hm1
  have HO1:=ae ho1
  have HRES:=ae hres
  clear hC1 hm1 ho1 hres
  go_wp2_with fail
  go_ret2
  have hm:Mod (FootS S c m) w w1:=HM1.out.sub fun b e=>e.elim .inl fun e=> .inr (.inl e)
  obtain⟨hrun1,_⟩:=HRUN.out.call HC1.out hm HO1.out
  exact .inl ⟨p1,L1,S1,rfl,hrun1.home,hrun1.one,hrun1.mod,hrun1.out,HSP.out,fun _ =>Far.refl,fun _ _ =>rfl,id, .inl (HSP.out.full HRES.out)⟩
 have hm:Mod (FootS S c m) w w1:=hm1.sub fun b e=>e.elim .inl fun e=> .inr (.inl e)
 obtain⟨hrun1,_⟩:=HRUN.out.call hC1 hm ho1
 have hfk:=Forked.start HSP.out HSP.out.good.but.few hres
 have hall:Calls Tryz.prog 34 #[.pointer (some ⟨t,0,none⟩)] w1 (RowPost OwnP w1 T.puts):=tall_any t c a root w1 S1 p1 T (held L1 (fun x=>hold x+tn (rootTab f) x)) 0 hrun1.home.cache.pool hrun1.one.tab hfk.one.good HR.out
 have hrun1':=hrun1.add (K':=fun b=>b=t2) hAw (fun b e=> .inr ⟨e▸ht2S,e▸ht2,e▸ht2w⟩)
 have s2:w1.cell? ⟨s,2,none⟩=some (.pointer (some ⟨t,0,none⟩)):=aa hrun1.one.self 2
 have hw01:w.heap.size≤w1.heap.size:=hm.size
 have HRUN1:=ae hrun1'
 have HFK:=ae hfk
 have HALL:=ae hall
 have HT1:=ae hT1
 clear hm hrun1 hrun1' hfk hall hT1 hC1 hm1 ho1 hres
 go_wp2_with (first
  |(go_at_call 34;refine(HALL.out).mono ?_;rintro e w2 ⟨R,cp,rfl,hrow2,hb2⟩)
  |fail)
 have hps:T.puts.length≤525312:=Tab.Good.puts_few HSP.out
 have hj0:FkJ w w1.heap.size B c a fs m s t root A n cap rl S F clock p L T hold t2 f R cp 0 w2 S1 p1 L1 (rootTab f):=
  ⟨(
   HRUN1.out.below hb2).sub (fun b e=>by
   rcases e with e|e
   ·exact .inl e
   ·exact .inr (hrow2.blk2 b e)),(hb2.block _ ht2w).trans HT1.out,hrow2,HFK.out,rootTab_root f⟩
 have HJ0:=ae hj0
 clear hj0 hrow2 hb2 s2
 go_loopw [32] (fun i wr=> ∃(k:Nat) (S':Nat→Prop) (p':Pool) (L':List Slot) (T2:Tab),i= .int .i64 (k:Int)∧k≤T.puts.length∧FkJ w w1.heap.size B c a fs m s t root A n cap rl S F clock p L T hold t2 f R cp k wr S' p' L' T2) (fun i _ =>T.puts.length-(intOf i).toNat)
 case atStart=>exact⟨0,S1,p1,L1,rootTab f,rfl,Nat.zero_le _,HJ0.out⟩
 case round=>
  obtain⟨k,S2,p2,L2,T2,rfl,hk,hj⟩:=hrel
  clear HJ0 HFK HALL HRUN1 HT1
  by_cases hkl:k<T.puts.length
  ·obtain⟨⟨pg,fq,pr,cb⟩,hx⟩: ∃x,T.puts[k]? =some x:=⟨T.puts[k],List.getElem?_eq_getElem hkl⟩
   rcases hj.row.form with⟨_,h2,_⟩|⟨g,hg1,hg2,hg3,hg4⟩
   ·rw[h2]at hkl;exact absurd hkl (Nat.not_lt_zero _)
   subst hg1
   obtain⟨e0,e1,e2,e3⟩:=hj.row.elem hx
   dsimp only at e0 e1 e2 e3
   obtain⟨ad,had⟩: ∃ad:Int,ad=((pg*4096:Nat):Int):=⟨_,rfl⟩
   rw[←had]at e0
   obtain⟨n1,n2,n3,n4,n5,n6⟩:=hj.fk.next HSP.out hx
   dsimp only at n2 n3 n4 n5 n6
   have hpg:=hlow pg _ (HSP.out.good.ok.puts_at hx)
   have hfr:=hj.fk.fresh hx
   dsimp only at hfr
   obtain⟨W3,hW3⟩: ∃W3,W3=wr.alloc (.cells #[.int .u64 ad, .int .i64 (fq:Int), .int .u8 (pr:Int), .bool true] 85):=⟨_,rfl⟩
   have hb3:Below wr.heap.size wr W3:=by rw[hW3];exact(Below.refl _ _).alloc (Nat.le_refl _) _
   have hP3:W3.heap[wr.heap.size]? =some (.cells #[.int .u64 ad, .int .i64 (fq:Int), .int .u8 (pr:Int), .bool true] 85 (0,0)):=by rw[hW3];exact ab wr _
   have hj3:FkJ w w1.heap.size B c a fs m s t root A n cap rl S F clock p L T hold t2 f (some ⟨g,0,none⟩) cp k W3 S2 p2 L2 T2:=⟨(hj.run.below hb3).sub (fun b e=> .inl e),(hb3.block _ (ac hj.tab).1).trans hj.tab,hj.row.kept hb3,hj.fk,hj.nd⟩
   have hpa:ad.toNat/4096=pg:=by omega
   have ht2o:=hj3.run.own t2 (.inl rfl)
   have hmap:=tmap_go2 t2 c a f fs m clock ad fq pr true W3 S2 p2 T2 L2 (fun y=>hold y+tn T y) 0 ⟨fq,pr,true⟩ hj3.run.home.cache hj3.tab ht2o.1 (by omega) hj3.fk.two.good hj3.nd (by omega) (by omega) (by omega) (by omega) (by rw[countB_nat n3];omega) (by rw[hpa,hfr];rfl) rfl rfl rfl n3 n4 (by have h8:=hj3.fk.one.cap n3;have h7:=hcap fq;have h5:=hj3.fk.tnle HSP.out fq;show p2.cnt fq+1<_;omega)
   rw[hpa]at hmap
   have y0:W3.cell? ⟨wr.heap.size,0,none⟩=some (.int .u64 ad):=aa hP3 0
   have y1:W3.cell? ⟨wr.heap.size,1,none⟩=some (.int .i64 (fq:Int)):=aa hP3 1
   have y2:W3.cell? ⟨wr.heap.size,2,none⟩=some (.int .u8 (pr:Int)):=aa hP3 2
   have y3:W3.cell? ⟨wr.heap.size,3,none⟩=some (.bool true):=aa hP3 3
   have HX:=ae hx
   have HJ3:=ae hj3
   have HMAP:=ae hmap
   have HW3:=ae hW3
   have HKK:=ae ht2o
   clear hx hj3 hmap hW3 had hj hb3 hP3 n5 n6 hfr hpa ht2o
   go_upto_region 11 with(fail)
   rw[←HW3.out]
   go_upto_region 12 with(first
    |(go_at_call 72;refine(HMAP.out).mono ?_;rintro e W4 ⟨er,p4,T4,L4,S4,rfl,hC4,hm4,ho4,hres4,hfar4⟩)
    |fail)
   obtain⟨hrun4,hk4⟩:=HJ3.out.run.call hC4 (hm4.sub fun b e=>e.elim .inl fun e=> .inr (.inl e)) ho4
   obtain⟨htab4,hrow4⟩:=Run.keepRow HJ3.out.tab HJ3.out.row hk4
   by_cases her:er=0
   ·subst her
    have hj4:FkJ w w1.heap.size B c a fs m s t root A n cap rl S F clock p L T hold t2 f (some ⟨g,0,none⟩) cp (k+1) W4 S4 p4 L4 T4:=⟨hrun4,htab4,hrow4,HJ3.out.fk.step HSP.out HX.out hres4 hfar4,hres4.mono 4 0 f HJ3.out.nd⟩
    have HJ4:=ae hj4
    clear hrun4 hk4 htab4 hrow4 hC4 hm4 ho4 hres4 hfar4 hj4
    go_wp2_with fail
    go_roundw
    case rel=>exact⟨k+1,S4,p4,L4,T4,rfl,by omega,HJ4.out⟩
    case measure=>(simp[intOf];omega)
   ·have hne:(er != 0)=true:=by rw[bne_iff_ne];exact her
    obtain⟨her4,hT4,hfk4,hfull⟩:=HJ3.out.fk.fail HSP.out HX.out her hres4 hfar4
    subst her4
    have ht2o:=hrun4.own t2 (.inl rfl)
    have hfree:=tfree_any t2 c a f W4 S4 p4 T2 (held L4 (fun y=>hold y+tn T y)) 0 hrun4.home.cache.pool htab4 ht2o.1 (by omega) hfk4.two.good HJ3.out.nd
    have HFREE:=ae hfree
    have HRUN4:=ae hrun4
    have HFK4:=ae hfk4
    have HFULL:=ae hfull
    have HT2O:=ae ht2o
    clear hfree hrun4 hfk4 hfull hT4 ht2o hk4 htab4 hrow4 hC4 hm4 ho4 hres4 hfar4 her
    go_wp2_with (first
     |(go_at_call 58;refine(HFREE.out).mono ?_;rintro e W5 ⟨rfl,hP5,hm5,_⟩)
     |fail)
    go_ret2
    obtain⟨v1,v2,v3,v4⟩:=HFK4.out.undo HSP.out
    obtain⟨z1,z2,z3⟩:=HT2O.out
    have hc4:=HRUN4.out.home.cache
    have hC5:CacheAt W5 S4 c a fs m clock (downs p4 ((T2.evs 4 0).flatMap Ev.fs)) L4:=⟨hP5,(hm5.block c hc4.lts.1 (fun e=>e.elim hc4.noC (fun e=>by omega))).trans hc4.self,hc4.slots.same (hm5.block m hc4.lts.2.1 (fun e=>e.elim hc4.noM (fun e=>by omega))),hc4.noC,hc4.noM⟩
    obtain⟨hH5,hO5,hm6⟩:=Run.freed HRUN4.out hC5 hm5 z2 hAw
    exact .inl ⟨_,L4,S4,rfl,hH5,hO5,hm6,HRUN4.out.out,v1,v2,v3,v4, .inr ⟨k,p2,L2,T2,HJ3.out.fk,HFULL.out⟩⟩
  ·obtain rfl:k=T.puts.length:=by omega
   have HJ:=ae hj
   have hjt:FkT w w1.heap.size B c a fs m s t root A n cap rl S F clock p2 L2 T hold t2 f R cp 0 wr S2 T2 p2 T:=⟨hj.run,hj.tab,hj.row,Turned.start hj.fk.one⟩
   have HJT:=ae hjt
   clear hj hjt
   go_wp2_with fail
   go_loopw [52] (fun i wx=> ∃(j:Nat) (p':Pool) (T':Tab),i= .int .i64 (j:Int)∧j≤T.puts.length∧FkT w w1.heap.size B c a fs m s t root A n cap rl S F clock p2 L2 T hold t2 f R cp j wx S2 T2 p' T') (fun i _ =>T.puts.length-(intOf i).toNat)
   case atStart=>exact⟨0,p2,T,rfl,Nat.zero_le _,HJT.out⟩
   case round=>
    obtain⟨j,p3,T3,rfl,hjl,hj⟩:=hrel
    clear HJT
    by_cases hjk:j<T.puts.length
    ·obtain⟨⟨pg,fq,pr,cb⟩,hx⟩: ∃x,T.puts[j]? =some x:=⟨T.puts[j],List.getElem?_eq_getElem hjk⟩
     rcases hj.row.form with⟨_,h2,_⟩|⟨g,hg1,hg2,hg3,hg4⟩
     ·rw[h2]at hjk;exact absurd hjk (Nat.not_lt_zero _)
     subst hg1
     obtain⟨e0,e1,e2,e3⟩:=hj.row.elem hx
     dsimp only at e0 e1 e2 e3
     obtain⟨ad,had⟩: ∃ad:Int,ad=((pg*4096:Nat):Int):=⟨_,rfl⟩
     rw[←had]at e0
     obtain⟨was,hw,hwf⟩:=hj.tr.was HJ.out.fk.one hx (fun _ =>rfl)
     dsimp only at hw hwf
     obtain⟨gg,hgg⟩:=hj.tr.sp.node1 hw
     obtain⟨n1,n2,n3,n4,n5,n6⟩:=hj.tr.sp.leaf hw
     have h7:=(HSP.out.leaf (HSP.out.good.ok.puts_at hx)).2.1
     dsimp only at h7
     rw[hwf]at n3 n4
     have hpg:=hlow pg _ (HSP.out.good.ok.puts_at hx)
     obtain⟨W3,hW3⟩: ∃W3,W3=wr.alloc (.cells #[.int .u64 ad, .int .i64 (fq:Int), .int .u8 (pr:Int), .bool true] 85):=⟨_,rfl⟩
     have hb3:Below wr.heap.size wr W3:=by rw[hW3];exact(Below.refl _ _).alloc (Nat.le_refl _) _
     have hP3:W3.heap[wr.heap.size]? =some (.cells #[.int .u64 ad, .int .i64 (fq:Int), .int .u8 (pr:Int), .bool true] 85 (0,0)):=by rw[hW3];exact ab wr _
     have hj3:FkT w w1.heap.size B c a fs m s t root A n cap rl S F clock p2 L2 T hold t2 f (some ⟨g,0,none⟩) cp j W3 S2 T2 p3 T3:=⟨(hj.run.below hb3).sub (fun b e=> .inl e),(hb3.block _ (ac hj.tab).1).trans hj.tab,hj.row.kept hb3,hj.tr⟩
     have hroot:T3.nd 4 0=some root:=by rw[hj.tr.nd];exact HR.out
     have hset:=tset_good t c a root 0 ad ⟨fq,pr,true⟩ W3.drew S2 p3 T3 (held L2 (fun y=>hold y+tn T2 y)) hj3.run.home.cache.pool.drew hj3.run.one.tab hj3.run.one.noT.1 hj3.tr.sp.good hroot (by omega) h7 n3 n4 (by have h9:=hj3.tr.sp.cap n3;have h8:=hcap fq;have h5:=HJ.out.fk.tnle HSP.out fq;show p3.cnt fq+1<_;omega) (fq:Int) (pr:Int) rfl rfl
     have hset2:Calls Tryz.prog 69 #[.pointer (some ⟨t,0,none⟩), .int .u64 ad, .agg #[.int .i64 (fq:Int), .int .u8 (pr:Int), .bool true]] W3.drew fun e W=>e= .returned (.int .i64 0)∧Hid (PoolAt W S2 a (setPool p3 was ⟨fq,pr,true⟩ gg pg))∧Hid (Mod S2 W3 W):=by
      refine hset.mono ?_
      rw[setRes_yes (was:=was) (g:=gg) (by rw[had];omega) hpg (by omega) (by rw[countB_nat n3];omega) hw hgg]
      rintro e W ⟨rfl,hP,hm'⟩
      exact⟨rfl,ae (by simpa using hP),ae hm'.undrew⟩
     have s2:W3.cell? ⟨s,2,none⟩=some (.pointer (some ⟨t,0,none⟩)):=aa hj3.run.one.self 2
     have y0:W3.cell? ⟨wr.heap.size,0,none⟩=some (.int .u64 ad):=aa hP3 0
     have y1:W3.cell? ⟨wr.heap.size,1,none⟩=some (.int .i64 (fq:Int)):=aa hP3 1
     have y2:W3.cell? ⟨wr.heap.size,2,none⟩=some (.int .u8 (pr:Int)):=aa hP3 2
     have y3:W3.cell? ⟨wr.heap.size,3,none⟩=some (.bool true):=aa hP3 3
     have HX:=ae hx
     have HJ3:=ae hj3
     have HSET:=ae hset2
     have HW3:=ae hW3
     have HW:=ae hw
     have HGG:=ae hgg
     clear hx hj3 hset hset2 hW3 had hj hb3 hP3 hw hgg hwf n5 n6 hroot
     go_upto_region 20 with(fail)
     rw[←HW3.out]
     go_region_with ((first
      |(go_at_call 69;refine(HSET.out).mono ?_;rintro e W4 ⟨rfl,HP4,HM4⟩)))
     all_goals
      go_wp2_with fail
      go_roundw
      case rel=>
       obtain⟨hrun4,hk4⟩:=HJ3.out.run.pool HP4.out HM4.out
       obtain⟨htab4,hrow4⟩:=Run.keepRow HJ3.out.tab HJ3.out.row hk4
       exact⟨j+1,_,_,rfl,by omega,hrun4,htab4,hrow4,HJ3.out.tr.step HJ.out.fk.one HX.out (inSt_all (by decide) (by decide) n1) (fun _ =>rfl) h7 HW.out HGG.out⟩
      case measure=>(simp[intOf];omega)
    ·obtain rfl:j=T.puts.length:=by omega
     have hdone:=HJ.out.fk.done HSP.out (Nat.le_refl _) (by decide) (by decide) hj.tr (Nat.le_refl _)
     have hrowR:=hj.run.one.row
     have hcl:=rclone_any A n cap rl wr.drew (hrowR.below ((Below.refl wr.heap.size wr).drew) (Nat.le_refl _)) hn9
     have hcl2:Calls Tryz.prog 57 #[.slice A n cap] wr.drew fun e W=> ∃A5 cap5,e= .returned (.slice A5 n cap5)∧Hid (OwnR W wr.heap.size A5 cap5 rl)∧Hid (Below wr.heap.size wr W):=by
      refine hcl.mono ?_
      rintro e W ⟨A5,cap5,rfl,hO5,hB5⟩
      exact⟨A5,cap5,rfl,ae hO5,ae (below_undrew hB5)⟩
     have s0:wr.cell? ⟨s,0,none⟩=some (.pointer (some ⟨c,0,none⟩)):=aa hj.run.one.self 0
     have s1:wr.cell? ⟨s,1,none⟩=some (.pointer (some ⟨a,0,none⟩)):=aa hj.run.one.self 1
     have s3:wr.cell? ⟨s,3,none⟩=some (.slice A n cap):=aa hj.run.one.self 3
     have hsw:s<wr.heap.size:=hj.run.one.lts.1
     have HDONE:=ae hdone
     have HCL:=ae hcl2
     have HJT:=ae hj
     clear hdone hrowR hcl hcl2 hj
     go_upto_region 22 with(fail)
     go_region_held3 (fun w'=>w'.cell? ⟨s,0,none⟩=some (.pointer (some ⟨c,0,none⟩))∧w'.cell? ⟨s,1,none⟩=some (.pointer (some ⟨a,0,none⟩))∧w'.cell? ⟨s,3,none⟩=some (.slice A n cap))
      (go_keep)
      ((first
      |(go_at_call 57;refine(HCL.out).mono ?_;rintro e W5 ⟨A5,cap5,rfl,HO5,HB5⟩;have d0:W5.cell? ⟨s,0,none⟩=some (.pointer (some ⟨c,0,none⟩)):=(HB5.out.cell hsw).trans s0;have d1:W5.cell? ⟨s,1,none⟩=some (.pointer (some ⟨a,0,none⟩)):=(HB5.out.cell hsw).trans s1;have d3:W5.cell? ⟨s,3,none⟩=some (.slice A n cap):=(HB5.out.cell hsw).trans s3)))
     all_goals
      go_wp2_with fail
      go_ret2
      have hbA:=(HB5.out).alloc HB5.out.size (.cells #[.pointer (some ⟨c,0,none⟩), .pointer (some ⟨a,0,none⟩), .pointer (some ⟨t2,0,none⟩), .slice A5 n cap5] 122)
      have hrunA:=HJT.out.run.below hbA
      have ht2o:=HJT.out.run.own t2 (.inl rfl)
      have hz5:=HB5.out.size
      have hlen:=HJT.out.run.one.row.len
      have hrow5:=HO5.out.row
      have hlts:=HJT.out.run.home.lts
      have hbB:=(Below.refl W5.heap.size W5).alloc (Nat.le_refl _) (.cells #[.pointer (some ⟨c,0,none⟩), .pointer (some ⟨a,0,none⟩), .pointer (some ⟨t2,0,none⟩), .slice A5 n cap5] 122)
      refine .inr ⟨W5.heap.size,t2,f,p3,L2,T3,T2,S2,A5,cap5,rfl,hrunA.home,hrunA.one,⟨ab _ _,(hbA.block t2 ht2o.2.2).trans HJT.out.tab,?_,⟨fun e=>by have:=hlts.2.2 _ e;omega,by omega,by omega,by omega⟩,⟨ht2o.1,by omega,by omega,by omega⟩,fun ad e=>?_⟩,HJ.out.nd,by omega,ht2o.2.1,fun ad e=>?_,hrunA.mod,hrunA.out,HDONE.out⟩
      ·have h9:=HO5.out.rsl (by rw[hlen];omega)
       rw[hlen]at h9
       exact(h9.below hbB (Nat.le_refl _)).more (by simp)
      ·have h9:=hrow5 ad.block (by rw[e];rfl)
       refine⟨fun e=>by have:=hlts.2.2 _ e;omega,by omega,by omega,by omega,by omega,by omega,by simp;omega⟩
      ·have h9:=hrow5 ad.block (by rw[e];rfl)
       omega
end
end Go.Proofs.YtoochjhipmpehaaGreatDoor
