/- Spaces: a call's own blocks beside the cache and one space; -/
import Derived.Test.YtoochjhipmpehaaGreatDoorAbK
import Derived.Test.YtoochjhipmpehaaGreatDoorSpDK
set_option linter.unusedVariables false
set_option linter.unusedSimpArgs false
set_option maxRecDepth 100000
set_option maxHeartbeats 8000000
namespace Go.Proofs.YtoochjhipmpehaaGreatDoor
section
open Go.RowKit Go.Sort
structure Run (w W:World) (G K:Nat→Prop) (B c a fs m s t root:Nat) (A:Option Addr) (n cap:Nat) (rl:List Reg) (S0 S:Nat→Prop) (F:List Nd) (clock:Int) (p:Pool) (L:List Slot):Prop where
 home:Home W B c a fs m S F clock p L
 one:One W B c a m S s t root A n cap rl
 mod:Mod G w W
 out:Out S0 S w
 foot: ∀b,FootS S0 c m b→G b
 low:c<w.heap.size∧m<w.heap.size∧s<w.heap.size∧t<w.heap.size∧B≤w.heap.size
 own: ∀b,K b→ ¬S b∧w.heap.size≤b∧b<W.heap.size
 row: ∀ad,A=some ad→ ¬K ad.block
variable {w W W':World} {G K:Nat→Prop} {B c a fs m s t root:Nat} {A:Option Addr} {n cap:Nat} {rl:List Reg} {S0 S S':Nat→Prop} {F:List Nd} {clock clock':Int} {p p':Pool} {L L':List Slot}
theorem Run.start (hH:Home w B c a fs m S F clock p L) (hO:One w B c a m S s t root A n cap rl) (hG: ∀b,FootS S c m b→G b):Run w w G (fun _ =>False) B c a fs m s t root A n cap rl S S F clock p L:=
 ⟨hH,hO,Mod.refl _ _,Out.refl _ _,hG,⟨hH.lts.1,hH.lts.2.1,hO.lts.1,hO.lts.2.1,hH.base⟩,fun _ h=>h.elim,fun _ _ h=>h⟩
theorem Run.sub {K':Nat→Prop} (h:Run w W G K B c a fs m s t root A n cap rl S0 S F clock p L) (hK: ∀b,K' b→K b):Run w W G K' B c a fs m s t root A n cap rl S0 S F clock p L:=
 ⟨h.home,h.one,h.mod,h.out,h.foot,h.low,fun b hb=>h.own b (hK b hb),fun ad e x=>h.row ad e (hK _ x)⟩
theorem Run.size (h:Run w W G K B c a fs m s t root A n cap rl S0 S F clock p L):w.heap.size≤W.heap.size:=h.mod.size
theorem Run.below (h:Run w W G K B c a fs m s t root A n cap rl S0 S F clock p L) (hb:Below W.heap.size W W'):Run w W' G (fun b=>K b∨(W.heap.size≤b∧b<W'.heap.size)) B c a fs m s t root A n cap rl S0 S F clock p L:=by
 have hz:=h.mod.size
 have hz2:=hb.size
 refine⟨h.home.below hb,h.one.below hb,(h.mod.trans (Out.refl _ _) (Mod.of hb)),h.out,h.foot,h.low,fun b hb=>?_,fun ad e hk=>?_⟩
 ·rcases hb with hb|hb
  ·obtain⟨h1,h2,h3⟩:=h.own b hb
   exact⟨h1,h2,by omega⟩
  ·exact⟨fun e=>by have:=h.home.lts.2.2 b e;omega,by omega,hb.2⟩
 ·rcases hk with hk|hk
  ·exact h.row ad e hk
  ·have:=(h.one.noR ad e).2.2.2.2.2.2
   omega
theorem Run.call (h:Run w W G K B c a fs m s t root A n cap rl S0 S F clock p L) (hC:CacheAt W' S' c a fs m clock' p' L') (hm:Mod (FootS S c m) W W') (ho:Out S S' W):Run w W' G K B c a fs m s t root A n cap rl S0 S' F clock' p' L'∧ ∀b,K b→W'.heap[b]? =W.heap[b]? :=by
 have hz:=h.mod.size
 have hz2:=hm.size
 obtain⟨l1,l2,l3,l4,l5⟩:=h.low
 have key: ∀b,K b→ ¬FootS S c m b:=fun b hb e=>by
  obtain⟨h1,h2,h3⟩:=h.own b hb
  rcases e with e|e|e
  ·exact h1 e
  ·omega
  ·omega
 refine⟨⟨h.home.step hC hm ho,h.one.foot hm ho,?_,h.out.trans ho hz,h.foot,h.low,fun b hb=>?_,h.row⟩,fun b hb=>hm.block b (h.own b hb).2.2 (key b hb)⟩
 ·exact((h.mod.sub (T:=fun b=>G b∨w.heap.size≤b) fun b e=> .inl e).trans (Out.refl _ _) (hm.sub fun b e=>by
   rcases e with e|e|e
   ·exact(h.out b e).imp (fun e=>h.foot b (.inl e)) id
   ·exact .inl (h.foot b (.inr (.inl e)))
   ·exact .inl (h.foot b (.inr (.inr e))))).own fun b e=>e
 ·obtain⟨h1,h2,h3⟩:=h.own b hb
  exact⟨fun e=>(ho b e).elim h1 (fun e=>by omega),h2,by omega⟩
theorem Run.pool (h:Run w W G K B c a fs m s t root A n cap rl S0 S F clock p L) (hP:PoolAt W' S a p') (hm:Mod S W W'):Run w W' G K B c a fs m s t root A n cap rl S0 S F clock p' L∧ ∀b,K b→W'.heap[b]? =W.heap[b]? :=
 h.call (h.home.cache.turn hm hP (Out.refl _ _)) (hm.sub fun b hb=> .inl hb) (Out.refl _ _)
theorem Run.set {X:Nat→Prop} (h:Run w W G K B c a fs m s t root A n cap rl S0 S F clock p L) (hm:Mod X W W') (hX: ∀b,X b→K b):Run w W' G K B c a fs m s t root A n cap rl S0 S F clock p L:=by
 have hz:=h.mod.size
 have hz2:=hm.size
 obtain⟨l1,l2,l3,l4,l5⟩:=h.low
 refine⟨h.home.mod hm (fun b hb=>?_),h.one.mod hm (fun b hb=>?_),?_,h.out,h.foot,h.low,fun b hb=>?_,h.row⟩
 ·obtain⟨h1,h2,h3⟩:=h.own b (hX b hb)
  exact⟨h1,by omega,by omega,by omega⟩
 ·obtain⟨h1,h2,h3⟩:=h.own b (hX b hb)
  exact⟨by omega,by omega,fun ad e x=>h.row ad e (x▸hX b hb)⟩
 ·exact((h.mod.sub (T:=fun b=>G b∨w.heap.size≤b) fun b e=> .inl e).trans (Out.refl _ _) (hm.sub fun b e=> .inr (h.own b (hX b e)).2.1)).own fun b e=>e
 ·obtain⟨h1,h2,h3⟩:=h.own b hb
  exact⟨h1,h2,by omega⟩
def OwnPost (w:World) (S:Nat→Prop) (c a fs m:Nat) (F:List Nd) (clock:Int) (p:Pool) (L:List Slot) (T:Tab) (hold:Nat→Nat) (r:Reg) (pg:Nat) (e:Ending) (w':World):Prop:=
 ∃er l p' L' T' clock' S',e= .returned (.tuple #[.agg (leafCells l), .int .i64 er])∧CacheAt w' S' c a fs m clock' p' L'∧Mod (FootS S c m) w w'∧Out S S' w∧clock≤clock'∧clock'≤clock+1∧Owned F hold r pg p L T er l p' L' T'
theorem Sp.node1 {F:List Nd} {hold:Nat→Nat} {p:Pool} {L:List Slot} {T:Tab} (h:Sp F hold p L T) {pg:Nat} {l:Leaf} (hl:T.lf pg=some l): ∃g,T.nd 1 (part pg 1)=some g:=by
 have:=(h.good.ok.leaf pg l hl).1
 exact Option.isSome_iff_exists.1 this
def Box3 (w:World) (b:Nat) (x y z:Value):Prop:=(w.cell? ⟨b,0,none⟩=some x∧w.cell? ⟨b,1,none⟩=some y∧w.cell? ⟨b,2,none⟩=some z)∧(w.frozen? ⟨b,0,none⟩=false∧w.frozen? ⟨b,1,none⟩=false∧w.frozen? ⟨b,2,none⟩=false)∧b<w.heap.size
theorem box3 {w:World} {b:Nat} {x y z:Value} {t:TypeId} (h:w.heap[b]? =some (.cells #[x,y,z] t (0,0))):Box3 w b x y z:=
 ⟨⟨aa h 0,aa h 1,aa h 2⟩,⟨one_free h 0,one_free h 1,one_free h 2⟩,(ac h).1⟩
theorem sown_any (B c a fs m s t root n cap pg:Nat) (A:Option Addr) (rl:List Reg) (r:Reg) (clock Ap:Int) (w:World) (S:Nat→Prop) (F:List Nd) (p:Pool) (L:List Slot) (T:Tab) (hold:Nat→Nat)
  (hH:Home w B c a fs m S F clock p L) (hO:One w B c a m S s t root A n cap rl) (hsp:Sp F hold p L T) (ho:Own p T) (hr:T.nd 4 0=some root) (hq:Ask F rl r pg) (hA:Ap=(pg:Int)*4096) (hcap: ∀f,hold f≤100000000000) (hck:0≤clock∧clock<1000000):
  Calls Tryz.prog 123 #[.pointer (some ⟨s,0,none⟩), .int .u64 Ap] w (OwnPost w S c a fs m F clock p L T hold r pg):=by
 obtain⟨q1,q2,q3,q4,q5,q6,q7⟩:=hq.facts
 have hA0:0≤Ap:=by omega
 have hA9:Ap<140737488355328:=by omega
 obtain⟨w0,hw0⟩: ∃w0,w0=w.alloc (.cells #[.int .i64 0, .int .u8 0, .bool false] 83):=⟨_,rfl⟩
 have hb0:Below w.heap.size w w0:=by rw[hw0];exact(Below.refl _ _).alloc (Nat.le_refl _) _
 have hs0:w0.heap.size=w.heap.size+1:=by rw[hw0];simp
 have hR0:w0.heap[w.heap.size]? =some (.cells #[.int .i64 0, .int .u8 0, .bool false] 83 (0,0)):=by rw[hw0];exact ab w _
 have hrun0:Run w w0 (FootS S c m) (fun b=>b=w.heap.size) B c a fs m s t root A n cap rl S S F clock p L:=((Run.start hH hO (fun _ e=>e)).below hb0).sub (fun b e=> .inr ⟨by omega,by omega⟩)
 have hbr:=bring_any B c a fs m s t root n cap pg A rl r clock Ap w0 S F p L T hold hrun0.home hrun0.one hsp ho hr hq hA hcap hck
 have HBR:=ae hbr
 have HW0:=ae hw0
 have HR0:=ae hR0
 have HRUN0:=ae hrun0
 have HR:=ae hr
 have HA:=ae hA
 have hzw:=ae hs0
 clear hbr hw0 hb0 hR0 hrun0 hO hH hsp ho hr hq hA hs0
 go_enter Tryz.func123,Tryz.ntmps123
 go_upto_region 1 with(fail)
 rw[←HW0.out]
 go_upto_region 2 with(first
  |(go_at_call 121;refine(HBR.out).mono ?_;rintro e w1 ⟨er,⟨fr,pr,cp⟩,p1,L1,T1,clock1,S1,rfl,hC1,hm1,ho1,hc1,hc2,hres⟩;unfold leafCells)
  |fail)
 obtain⟨w2,hw2⟩: ∃w2,w2=w1.alloc (.cells #[.int .i64 (fr:Int), .int .u8 (pr:Int), .bool cp] 83):=⟨_,rfl⟩
 rw[←hw2]
 obtain⟨hrun1,hk1⟩:=HRUN0.out.call hC1 hm1 ho1
 have hb2:Below w1.heap.size w1 w2:=by rw[hw2];exact(Below.refl _ _).alloc (Nat.le_refl _) _
 have hz2:w2.heap.size=w1.heap.size+1:=by rw[hw2];simp
 have hrun2:Run w w2 (FootS S c m) (fun b=>b=w.heap.size∨b=w1.heap.size) B c a fs m s t root A n cap rl S S1 F clock1 p1 L1:=(hrun1.below hb2).sub (fun b e=>e.imp id fun e=>⟨by omega,by omega⟩)
 have hR1:=(hk1 _ rfl).trans HR0.out
 have hwl1:w.heap.size<w1.heap.size:=(ac hR1).1
 have hR2:=(hb2.block _ hwl1).trans hR1
 have hX2:w2.heap[w1.heap.size]? =some (.cells #[.int .i64 (fr:Int), .int .u8 (pr:Int), .bool cp] 83 (0,0)):=by rw[hw2];exact ab w1 _
 obtain⟨⟨z0,z1,z2⟩,⟨zf0,zf1,zf2⟩,hwl2⟩:=box3 hR2
 obtain⟨⟨x0,x1,x2⟩,⟨xf0,xf1,xf2⟩,hxl2⟩:=box3 hX2
 have hne:w1.heap.size≠w.heap.size:=by omega
 have HRUN2:=ae hrun2
 have HR2:=ae hR2
 have HX2:=ae hX2
 have HRES:=ae hres
 clear hC1 hm1 ho1 hrun1 hk1 hb2 hrun2 hR1 hR2 hX2 hres hw2 hz2
 by_cases he:er=0
 rotate_left
 ·have hne:(er != 0)=true:=by rw[bne_iff_ne];exact he
  have HE:=ae he
  clear he
  go_wp2_with fail
  refine bodyPost_ret (v:= .tuple #[.agg (leafCells ⟨fr,pr,cp⟩), .int .i64 er]) (by simp[results,Tryz.results123,go_sem,hwl2,z0,z1,z2,zf0,zf1,zf2,leafCells]) rfl ?_
  have hrun3:=HRUN2.out.set (three_mod (w:=w2) (b:=w.heap.size) (.int .i64 (fr:Int)) (.int .u8 (pr:Int)) (.bool cp)) (fun b e=> .inl e)
  exact⟨er,⟨fr,pr,cp⟩,p1,L1,T1,clock1,S1,rfl,hrun3.home.cache,hrun3.mod,hrun3.out,hc1,hc2,Owned.err' HRES.out HE.out⟩
 subst he
 cases cp with
 |false=>
  go_wp2_with fail
  refine bodyPost_ret (v:= .tuple #[.agg (leafCells ⟨fr,pr,false⟩), .int .i64 0]) (by simp[results,Tryz.results123,go_sem,hwl2,z0,z1,z2,zf0,zf1,zf2,leafCells]) rfl ?_
  have hrun3:=HRUN2.out.set (three_mod (w:=w2) (b:=w.heap.size) (.int .i64 (fr:Int)) (.int .u8 (pr:Int)) (.bool false)) (fun b e=> .inl e)
  exact⟨0,⟨fr,pr,false⟩,p1,L1,T1,clock1,S1,rfl,hrun3.home.cache,hrun3.mod,hrun3.out,hc1,hc2,Owned.alone HRES.out rfl⟩
 |true=>
  go_upto_region 5 with(fail)
  obtain⟨w3,hw3⟩: ∃w3,w3=w2.setCell ⟨w1.heap.size,2,none⟩ (.bool false):=⟨_,rfl⟩
  rw[←hw3]
  have hm3:Mod (fun b=>b=w1.heap.size) w2 w3:=by rw[hw3];exact mod_set (S:=fun b=>b=w1.heap.size) rfl 2 _
  have hX3:w3.heap[w1.heap.size]? =some (.cells #[.int .i64 (fr:Int), .int .u8 (pr:Int), .bool false] 83 (0,0)):=by
   rw[hw3]
   have:=Joins.block_setCell (i:=2) HX2.out (.bool false)
   simpa using this
  have hR3:=(hm3.block _ hwl2 (by omega)).trans HR2.out
  have hrun3:=HRUN2.out.set hm3 (fun b e=> .inr e)
  clear hw3 hm3 z0 z1 z2 zf0 zf1 zf2 x0 x1 x2 xf0 xf1 xf2 hxl2 hwl2
  obtain⟨g1,g2⟩:=HRES.out.got rfl
  obtain⟨g,hg⟩:=HRES.out.kept.sp.node1 g1
  obtain⟨c1,c2,c3,c4,c5,c6⟩:=HRES.out.kept.sp.leaf g1
  dsimp only at c2 c3 c4 c5 c6
  have hroot:=HRES.out.kept.root _ HR.out
  have s1: ∀d os,(grow (redrawn w3 d) os).cell? ⟨s,1,none⟩=some (.pointer (some ⟨a,0,none⟩)):=fun d os=>cell_regrown (aa hrun3.one.self 1) d os
  have x0: ∀d os,(grow (redrawn w3 d) os).cell? ⟨w1.heap.size,0,none⟩=some (.int .i64 (fr:Int)):=fun d os=>cell_regrown (aa hX3 0) d os
  have hC:=fun d os=>Calls.regrown_of ((count_any a (fr:Int) (grow (redrawn w3 d) os) S1 p1 (hrun3.home.cache.pool.below (below_regrown w3 d os))).mono fun _ _ ⟨h1,h2⟩=>⟨h1,h2▸Below.refl _ _⟩)
  rw[countB_nat c3]at hC
  have HCC:=ae hC
  have HRUN3:=ae hrun3
  have HX3:=ae hX3
  have HR3:=ae hR3
  have HG:=ae hg
  have HG1:=ae g1
  have HROOT:=ae hroot
  have HC5:=ae c5
  have HC6:=ae c6
  have HC2:=ae c2
  have HC3:=ae c3
  have HC4:=ae c4
  have HC1:=ae c1
  clear hC hrun3 hX3 hR3 hg g1 g2 hroot c5 c6 c2 c3 c4 c1
  refine wp_region_quiet_below (by kernel_rfl) (by kernel_rfl) ?_;(repeat(go_big_quiet_step ((first|exact HCC.out _ _))));refine wpQuiet_nil ?_;intro _ hw';obtain⟨⟨dq,osq⟩,hw''⟩:=hw';subst hw'';have hbq:=below_regrown (w3) dq osq;generalize grow (redrawn (w3) dq) osq=wq at hbq⊢
  clear s1 x0
  have hzq:=hbq.size
  have hwl3:w.heap.size<w3.heap.size:=(ac HR3.out).1
  have hxl3:w1.heap.size<w3.heap.size:=(ac HX3.out).1
  have hrunq:=(HRUN3.out.below hbq).sub (K':=fun b=>b=w.heap.size∨b=w1.heap.size) (fun b e=> .inl e)
  have hXq:=(hbq.block _ hxl3).trans HX3.out
  have hRq:=(hbq.block _ hwl3).trans HR3.out
  have HXQ:=ae hXq
  have HRQ:=ae hRq
  have HRUNQ:=ae hrunq
  have hpgA:Ap.toNat/4096=pg:=by have:=HA.out;omega
  by_cases h1:p1.cnt fr=1
  ·have hcq:(((p1.cnt fr:Nat):Int)==1)=true:=by rw[h1];rfl
   have hset:=tset_good t c a root 0 Ap ⟨fr,pr,false⟩ wq.drew S1 p1 T1 (held L1 hold) hrunq.home.cache.pool.drew hrunq.one.tab hrunq.one.noT.1 HRES.out.kept.sp.good HROOT.out hA0 HC2.out HC3.out HC4.out (by show p1.cnt fr+1<1000000000000;rw[h1];decide) (fr:Int) (pr:Int) rfl rfl
   have hset2:Calls Tryz.prog 69 #[.pointer (some ⟨t,0,none⟩), .int .u64 Ap, .agg #[.int .i64 (fr:Int), .int .u8 (pr:Int), .bool false]] wq.drew fun e W=>e= .returned (.int .i64 0)∧Hid (PoolAt W S1 a (setPool p1 ⟨fr,pr,true⟩ ⟨fr,pr,false⟩ g pg))∧Hid (Mod S1 wq W)∧Box3 W w1.heap.size (.int .i64 (fr:Int)) (.int .u8 (pr:Int)) (.bool false)∧Box3 W w.heap.size (.int .i64 0) (.int .u8 0) (.bool false):=by
    refine hset.mono ?_
    rw[setRes_yes (was:=⟨fr,pr,true⟩) (g:=g) HA.out q1 (by have:=HC2.out;omega) (by rw[countB_nat HC3.out];have:=HC4.out;omega) HG1.out HG.out]
    rintro e W ⟨rfl,hP,hm'⟩
    have hm:=hm'.undrew
    obtain⟨_,hk⟩:=HRUNQ.out.pool (by simpa using hP) hm
    exact⟨rfl,ae (by simpa using hP),ae hm,box3 ((hk _ (.inr rfl)).trans HXQ.out),box3 ((hk _ (.inl rfl)).trans HRQ.out)⟩
   have HSET:=ae hset2
   have H1:=ae h1
   have s2:wq.cell? ⟨s,2,none⟩=some (.pointer (some ⟨t,0,none⟩)):=aa hrunq.one.self 2
   obtain⟨⟨x0,x1,x2⟩,_,_⟩:=box3 hXq
   clear hset hset2 h1 hrunq hXq hRq
   go_upto_region 6 with(fail)
   go_region_with ((first
    |(go_at_call 69;refine(HSET.out).mono ?_;rintro e w4 ⟨rfl,HP4,HM4,⟨⟨y0,y1,y2⟩,⟨yf0,yf1,yf2⟩,hyl⟩,⟨⟨z0,z1,z2⟩,⟨zf0,zf1,zf2⟩,hzl⟩⟩)))
   all_goals
    go_wp2_with fail
    refine bodyPost_ret (v:= .tuple #[.agg (leafCells ⟨fr,pr,false⟩), .int .i64 0]) (by simp[results,Tryz.results123,go_sem,hzl,z0,z1,z2,zf0,zf1,zf2,leafCells]) rfl ?_
    have hrun4:=((HRUNQ.out.pool HP4.out HM4.out).1).set (three_mod (w:=w4) (b:=w.heap.size) (.int .i64 (fr:Int)) (.int .u8 (pr:Int)) (.bool false)) (fun b e=> .inl e)
    exact⟨0,⟨fr,pr,false⟩,_,L1,_,clock1,S1,rfl,hrun4.home.cache,hrun4.mod,hrun4.out,hc1,hc2,Owned.mark HRES.out H1.out HG.out⟩
  ·have hcq:(((p1.cnt fr:Nat):Int)==1)=false:=by rw[beq_eq_false_iff_ne];omega
   have s0:wq.cell? ⟨s,0,none⟩=some (.pointer (some ⟨c,0,none⟩)):=aa hrunq.one.self 0
   have hT:=ctake_any c a fs m clock1 wq S1 p1 L1 hrunq.home.cache
   have HTAKE:=ae hT
   clear hT hrunq hXq hRq h1
   go_upto_region 8 with(first
    |(go_at_call 97;refine(HTAKE.out).mono ?_;rintro e w4 ⟨e4,f,p2,L2,S2,rfl,hC4,hm4,ho4,hres4⟩)
    |fail)
   obtain⟨hrun4,hk4⟩:=HRUNQ.out.call hC4 (hm4.sub fun b e=>e.elim .inl fun e=> .inr (.inl e)) ho4
   have hX4:=(hk4 _ (.inr rfl)).trans HXQ.out
   have hR4:=(hk4 _ (.inl rfl)).trans HRQ.out
   have HRUN4:=ae hrun4
   have HX4:=ae hX4
   have HR4:=ae hR4
   have HRES4:=ae hres4
   clear hC4 hm4 ho4 hrun4 hk4 hX4 hR4 hres4 s0
   rcases HRES4.out.two with h4|⟨h4,hf0,hp2,hL2⟩
   rotate_left
   ·subst h4 hf0 hp2 hL2
    obtain⟨⟨z0,z1,z2⟩,⟨zf0,zf1,zf2⟩,hwl4⟩:=box3 HR4.out
    obtain⟨⟨x0,x1,x2⟩,⟨xf0,xf1,xf2⟩,hxl4⟩:=box3 HX4.out
    go_wp2_with fail
    refine bodyPost_ret (v:= .tuple #[.agg (leafCells ⟨fr,pr,false⟩), .int .i64 4]) (by simp[results,Tryz.results123,go_sem,hwl4,z0,z1,z2,zf0,zf1,zf2,leafCells]) rfl ?_
    have hrun5:=HRUN4.out.set (three_mod (w:=w4) (b:=w.heap.size) (.int .i64 (fr:Int)) (.int .u8 (pr:Int)) (.bool false)) (fun b e=> .inl e)
    exact⟨4,⟨fr,pr,false⟩,_,_,T1,clock1,S2,rfl,hrun5.home.cache,hrun5.mod,hrun5.out,hc1,hc2,Owned.no HRES.out (HRES.out.kept.sp.full HRES4.out)⟩
   subst h4
   obtain⟨a1,a2,a3,a4,a5⟩:=HRES.out.kept.sp.take HRES4.out
   have hn2:p2.n=p1.n:=(a2 fun _ =>False).n
   have hfr2:fr<p2.n:=by rw[hn2];exact HC3.out
   have hf2:f<p2.n:=by rw[hn2];exact a5.lt
   have hcf:p2.cnt f=1:=a5.one
   have hcfr:1≤p2.cnt fr:=(a1.leaf HG1.out).2.2.2.1
   have HA1:=ae a1
   have HA5s:=ae a5.slot
   have HA5n:=ae a5.node
   clear a1 a2 a3 a4 a5
   have hload:=load_yes a fr 0 4096 w4.drew S2 p2 HRUN4.out.home.cache.pool.drew hfr2 hcfr (by decide) (by decide)
   have hload2:Calls Tryz.prog 122 #[.pointer (some ⟨a,0,none⟩), .int .i64 (fr:Int), .int .i64 0, .int .i64 4096] w4.drew fun e W=>e= .returned (.tuple #[.slice (some ⟨w4.heap.size,0,none⟩) 4096 4096, .int .i64 0])∧Hid (BytesAt W w4.heap.size 4096 (fun i=>p2.dat fr (0+i)))∧Hid (Below w4.heap.size w4 W)∧Box3 W w1.heap.size (.int .i64 (fr:Int)) (.int .u8 (pr:Int)) (.bool false):=by
    refine hload.mono ?_
    rintro e W ⟨rfl,hB,hz,hb'⟩
    have hb:=below_undrew hb'
    exact⟨rfl,ae hB,ae hb,box3 ((hb.block _ (ac HX4.out).1).trans HX4.out)⟩
   have HLOAD:=ae hload2
   have s1:w4.cell? ⟨s,1,none⟩=some (.pointer (some ⟨a,0,none⟩)):=aa HRUN4.out.one.self 1
   obtain⟨⟨x0,x1,x2⟩,_,_⟩:=box3 HX4.out
   clear hload hload2
   go_upto_region 10 with(fail)
   go_cut [9]from 56 to 64 (fun b wx=>b= .slice (some ⟨w4.heap.size,0,none⟩) 4096 4096∧BytesAt wx w4.heap.size 4096 (fun i=>p2.dat fr (0+i))∧Below w4.heap.size w4 wx)
   case first=>
    go_region_with ((first
     |(go_at_call 122;refine(HLOAD.out).mono ?_;rintro e w5 ⟨rfl,HB5,HM5,⟨⟨y0,y1,y2⟩,⟨yf0,yf1,yf2⟩,hyl⟩⟩)))
    all_goals
     go_wp2_with fail
     go_meet
     exact⟨rfl,HB5.out,HM5.out⟩
   case rest=>
   obtain⟨rfl,hB5,hM5⟩:=hcut
   have hrun5:=(HRUN4.out.below hM5).sub (K':=fun b=>b=w.heap.size∨b=w1.heap.size) (fun b e=> .inl e)
   have hX5:=(hM5.block _ (ac HX4.out).1).trans HX4.out
   have hR5:=(hM5.block _ (ac HR4.out).1).trans HR4.out
   have hsm: ∀x i,p2.dat x i<256:=by obtain⟨⟨_,_,_,_,_,h,_⟩,_,_,_⟩:=hrun5.home.cache.pool;exact h.small
   have hstore:=store_yes a f 0 4096 4096 _ _ wc S2 p2 hrun5.home.cache.pool hf2 (by omega) (by decide) (by decide) hB5.v (fun j=>hsm _ _)
   have HSTORE:=ae hstore
   have HX5:=ae hX5
   have HR5:=ae hR5
   have HRUN5:=ae hrun5
   clear hstore hX5 hR5 hB5 hM5
   have s1:wc.cell? ⟨s,1,none⟩=some (.pointer (some ⟨a,0,none⟩)):=aa hrun5.one.self 1
   clear hrun5 hsm
   go_upto_region 12 with(first
    |(go_at_call 124;refine(HSTORE.out).mono ?_;rintro e w6 ⟨rfl,hP6,hm6⟩)
    |fail)
   obtain⟨hrun6,hk6⟩:=HRUN5.out.pool hP6 hm6
   have hX6:=(hk6 _ (.inr rfl)).trans HX5.out
   have hR6:=(hk6 _ (.inl rfl)).trans HR5.out
   obtain⟨d,hd⟩: ∃d,d=laid (p2.dat f) (fun i=>p2.dat fr (0+i)) 0 4096:=⟨_,rfl⟩
   rw[←hd]at hrun6
   have hd2: ∀i,i<4096→d i=p2.dat fr i:=fun i hi=>by rw[hd];unfold laid;rw[if_pos (by omega)];simp
   obtain⟨hO1,hO2,hO3,hO4,hO5⟩:=Owned.copied HRES.out HRES4.out HG.out d hd2
   have b1:Sp F (upd hold f 1) (p2.store f d) L2 T1:=HA1.out.storeH (by rw[upd_same];omega) HA5s.out d
   obtain⟨⟨x0,x1,x2⟩,⟨xf0,xf1,xf2⟩,hxl6⟩:=box3 hX6
   go_upto_region 13 with(fail)
   obtain⟨w7,hw7⟩: ∃w7,w7=w6.setCell ⟨w1.heap.size,0,none⟩ (.int .i64 (f:Int)):=⟨_,rfl⟩
   rw[←hw7]
   have hm7:Mod (fun b=>b=w1.heap.size) w6 w7:=by rw[hw7];exact mod_set (S:=fun b=>b=w1.heap.size) rfl 0 _
   have hX7:w7.heap[w1.heap.size]? =some (.cells #[.int .i64 (f:Int), .int .u8 (pr:Int), .bool false] 83 (0,0)):=by
    rw[hw7]
    have:=Joins.block_setCell (i:=0) hX6 (.int .i64 (f:Int))
    simpa using this
   have hR7:=(hm7.block _ (ac hR6).1 (by omega)).trans hR6
   have hrun7:=hrun6.set hm7 (fun b e=> .inr e)
   have hset:=tset_good t c a root 0 Ap ⟨f,pr,false⟩ w7.drew S2 (p2.store f d) T1 (held L2 (upd hold f 1)) hrun7.home.cache.pool.drew hrun7.one.tab hrun7.one.noT.1 b1.good HROOT.out hA0 HC2.out hO2 (by rw[hO3];decide) (by show(p2.store f d).cnt f+1<1000000000000;rw[hO3];decide) (f:Int) (pr:Int) rfl rfl
   rw[setRes_yes (was:=⟨fr,pr,true⟩) (g:=g) HA.out q1 (by have:=HC2.out;omega) (by rw[countB_nat hO2,hO3];decide) HG1.out HG.out]at hset
   have s2:w7.cell? ⟨s,2,none⟩=some (.pointer (some ⟨t,0,none⟩)):=aa hrun7.one.self 2
   have HSET:=ae hset
   have HX7:=ae hX7
   have HR7:=ae hR7
   have HRUN7:=ae hrun7
   have HO1:=ae hO1
   clear hset hX7 hR7 hrun7 hO1 hP6 hm6 hrun6 hk6 hX6 hR6 hd hd2 b1 hm7 hw7 x0 x1 x2 xf0 xf1 xf2 hxl6 s1
   obtain⟨⟨x0,x1,x2⟩,⟨xf0,xf1,xf2⟩,hxl7⟩:=box3 HX7.out
   go_still_tail 6,(by kernel_rfl)
   go_wp2_with fail
   refine(HSET.out).mono ?_
   rintro e w8 ⟨rfl,hP8,hm8'⟩
   have hm8:=hm8'.undrew
   simp only[Int.toNat_natCast]at hP8
   obtain⟨hrun8,hk8⟩:=HRUN7.out.pool hP8 hm8
   have hX8:=(hk8 _ (.inr rfl)).trans HX7.out
   have hR8:=(hk8 _ (.inl rfl)).trans HR7.out
   have hdn:=down_yes a f w8 S2 _ hrun8.home.cache.pool hO4 hO5
   have s1:w8.cell? ⟨s,1,none⟩=some (.pointer (some ⟨a,0,none⟩)):=aa hrun8.one.self 1
   have HDN:=ae hdn
   have HX8:=ae hX8
   have HR8:=ae hR8
   have HRUN8:=ae hrun8
   clear hdn hX8 hR8 hrun8 hk8 hP8 hm8 hm8' x0 x1 x2 xf0 xf1 xf2 hxl7 s2
   go_upto_region 15 with(first
    |(go_at_call 59;refine(HDN.out).mono ?_;rintro e w9 ⟨rfl,hP9,hm9⟩)
    |fail)
   obtain⟨hrun9,hk9⟩:=HRUN8.out.pool hP9 hm9
   have hX9:=(hk9 _ (.inr rfl)).trans HX8.out
   have hR9:=(hk9 _ (.inl rfl)).trans HR8.out
   obtain⟨⟨z0,z1,z2⟩,⟨zf0,zf1,zf2⟩,hwl9⟩:=box3 hR9
   obtain⟨⟨x0,x1,x2⟩,⟨xf0,xf1,xf2⟩,hxl9⟩:=box3 hX9
   have hrun10:=hrun9.set (three_mod (w:=w9) (b:=w.heap.size) (.int .i64 (f:Int)) (.int .u8 (pr:Int)) (.bool false)) (fun b e=> .inl e)
   have HRUN10:=ae hrun10
   clear hrun9 hk9 hX9 hR9 hP9 hm9 hrun10
   go_wp2_with fail
   refine bodyPost_ret (v:= .tuple #[.agg (leafCells ⟨f,pr,false⟩), .int .i64 0]) (by simp[results,Tryz.results123,go_sem,hwl9,z0,z1,z2,zf0,zf1,zf2,leafCells]) rfl ?_
   exact⟨0,⟨f,pr,false⟩,_,L2,_,clock1,S2,rfl,HRUN10.out.home.cache,HRUN10.out.mod,HRUN10.out.out,hc1,hc2,HO1.out⟩
end
end Go.Proofs.YtoochjhipmpehaaGreatDoor
