/- Spaces: bring. -/
import Derived.Test.YtoochjhipmpehaaGreatDoorAbK
import Derived.Test.YtoochjhipmpehaaGreatDoorSbK
import Derived.Deep.CutBlock
import Derived.Deep.CutRange
import Derived.Deep.DeepCutAuto
set_option linter.unusedVariables false
set_option linter.unusedSimpArgs false
set_option maxRecDepth 100000
set_option maxHeartbeats 8000000
namespace Go.Proofs.YtoochjhipmpehaaGreatDoor
section
open Go.RowKit Go.Sort
theorem filed_method (v:Value) (w:World) (n:Nat) (hn:n=Tryz.prog.types.size+Made.depth):(method n 248 v "hostel/space.leaf").run Tryz.prog w= .ok (231,v) w:=by
 subst hn
 kernel_rfl
theorem blank_method (v:Value) (w:World) (n:Nat) (hn:n=Tryz.prog.types.size+Made.depth):(method n 244 v "hostel/space.leaf").run Tryz.prog w= .ok (230,v) w:=by
 subst hn
 kernel_rfl
theorem filed_nil (v:Value) (n:Nat) (W:World):(nilAhead (n+1) 248 v "hostel/space.leaf").run Tryz.prog W= .ok (some false) W:=by kernel_rfl
theorem blank_nil (v:Value) (n:Nat) (W:World):(nilAhead (n+1) 244 v "hostel/space.leaf").run Tryz.prog W= .ok (some false) W:=by kernel_rfl
theorem enter_filed (v x:Value) (w:World):(callFunc 231 #[v,x]).run Tryz.prog w= .ok (.enter 231 #[v,x]) w:=by kernel_rfl
theorem enter_blank (v x:Value) (w:World):(callFunc 230 #[v,x]).run Tryz.prog w= .ok (.enter 230 #[v,x]) w:=by kernel_rfl
theorem cell_sameB {w w':World} {b i:Nat} (h:w'.heap[b]? =w.heap[b]?):w'.cell? ⟨b,i,none⟩=w.cell? ⟨b,i,none⟩:=by unfold World.cell?;simp only[h]
def BringPost (w:World) (S:Nat→Prop) (c a fs m:Nat) (F:List Nd) (clock:Int) (p:Pool) (L:List Slot) (T:Tab) (hold:Nat→Nat) (r:Reg) (pg:Nat) (e:Ending) (w':World):Prop:=
 ∃er l p' L' T' clock' S',e= .returned (.tuple #[.agg (leafCells l), .int .i64 er])∧CacheAt w' S' c a fs m clock' p' L'∧Mod (FootS S c m) w w'∧Out S S' w∧clock≤clock'∧clock'≤clock+1∧Brought F hold r pg p L T er l p' L' T'
theorem GetRes.clock {ino page r0:Int} {k:Nat} {d:Nat→Nat} {p p':Pool} {L L':List Slot} {clock clock' r:Int} {f:Nat} (h:GetRes ino page r0 k d p L clock r f p' L' clock'):clock≤clock'∧clock'≤clock+1:=by
 cases h<;>constructor<;>omega
theorem One.mod {w w':World} {B c a m:Nat} {S X:Nat→Prop} {s t root:Nat} {A:Option Addr} {n cap:Nat} {rl:List Reg} (h:One w B c a m S s t root A n cap rl) (hm:Mod X w w') (hX: ∀b,X b→b≠s∧b≠t∧ ∀ad,A=some ad→ad.block≠b):One w' B c a m S s t root A n cap rl:=
 ⟨(
  hm.block s h.lts.1 (fun e=>(hX s e).1 rfl)).trans h.self,(hm.block t h.lts.2.1 (fun e=>(hX t e).2.1 rfl)).trans h.tab,h.row.mod hm (fun ad e x=>(hX _ x).2.2 ad e rfl),h.noS,h.noT,fun ad e=>by
  obtain⟨n1,n2,n3,n4,n5,n6,n7⟩:=h.noR ad e
  have:=hm.size
  exact⟨n1,n2,n3,n4,n5,n6,by omega⟩⟩
theorem bring_turn {w w4 Wc w5 w6:World} {B c a fs m s t root n cap:Nat} {A:Option Addr} {rl:List Reg} {S S1:Nat→Prop} {F:List Nd} {clock clock1:Int} {p p1:Pool} {L L1:List Slot}
  (hH:Home w4 B c a fs m S F clock p L) (hO:One w4 B c a m S s t root A n cap rl) (hB:Below w.heap.size w w4) (hz:w.heap.size≤w4.heap.size) (hnf: ∀b,w.heap.size≤b→ ¬FootS S c m b) (hb:Below w4.heap.size w4 Wc)
  (hC:CacheAt w5 S1 c a fs m clock1 p1 L1) (hm5:Mod (FootS S c m) Wc w5) (ho5:Out S S1 Wc) (hm6:Mod (fun b=>w4.heap.size≤b∧b<Wc.heap.size) w5 w6):
  Home w6 B c a fs m S1 F clock1 p1 L1∧One w6 B c a m S1 s t root A n cap rl∧(∀b,w.heap.size≤b→b<w4.heap.size→w6.heap[b]? =w4.heap[b]?)∧Mod (FootS S c m) w w6∧Out S S1 w∧(∀b,w.heap.size≤b→b<Wc.heap.size→ ¬S1 b):=by
 have h1:=(hH.below hb).step hC hm5 ho5
 have h2:=(hO.below hb).foot hm5 ho5
 have hzb:=hb.size
 have hno: ∀b,w.heap.size≤b→b<Wc.heap.size→ ¬S1 b:=fun b hb1 hb2 e=>by
  rcases ho5 b e with e|e
  ·exact hnf b hb1 (.inl e)
  ·omega
 have hl:=hH.lts
 have hl2:=hO.lts
 have hBz:=hH.base
 have hz5:=hm5.size
 have hz6:=hm6.size
 refine⟨h1.mod hm6 (fun b hb=>⟨hno b (by omega) hb.2,by omega,by omega,by omega⟩),h2.mod hm6 (fun b hb=>⟨by omega,by omega,fun ad e=>by have:=(hO.noR ad e).2.2.2.2.2.2;omega⟩),fun b hb1 hb2=>(hm6.block b (by omega) (by omega)).trans ((hm5.block b (by omega) (hnf b hb1)).trans (hb.block b hb2)),?_,fun b e=>(ho5 b e).imp id (fun e=>by omega),hno⟩
 have h3:Mod (fun b=>FootS S c m b∨w.heap.size≤b) w w6:=((Mod.of (hB.trans (hb.mono hz))).trans (Out.refl _ _) (hm5.sub fun b e=> .inl e)).trans (Out.refl _ _) (hm6.sub fun b e=> .inr (by omega))
 exact h3.own fun b e=>e
def Sourced (w w4:World) (B c a fs m s t root:Nat) (A:Option Addr) (n cap:Nat) (rl:List Reg) (S:Nat→Prop) (F:List Nd) (clock:Int) (p:Pool) (L:List Slot) (r:Reg) (pg:Nat) (o1 o2:Nat×Obj) (b tk er:Value) (wx:World):Prop:=
 ∃(bb f:Nat) (e1:Int) (tkB:Bool) (p1:Pool) (L1:List Slot) (clock1:Int) (S1:Nat→Prop),b= .pointer (some ⟨bb,0,none⟩)∧tk= .bool tkB∧er= .int .i64 e1∧wx.heap[bb]? =some (.cells #[.int .i64 (f:Int), .int .u8 0, .bool (!tkB)] 83 (0,0))∧w4.heap.size≤bb∧ ¬S1 bb∧ ¬S1 w.heap.size∧
  Home wx B c a fs m S1 F clock1 p1 L1∧One wx B c a m S1 s t root A n cap rl∧wx.heap[o1.1]? =some o1.2∧wx.heap[o2.1]? =some o2.2∧Mod (FootS S c m) w wx∧Out S S1 w∧clock≤clock1∧clock1≤clock+1∧
  ((tkB=false∧filedB r pg=true∧GetF F r.ino (srcK r pg) p L clock e1 f p1 L1 clock1)∨(tkB=true∧filedB r pg=false∧clock1=clock∧TakeRes p L e1 f p1 L1))
theorem bring_end {w wx w':World} {B c a fs m:Nat} {S S1 X:Nat→Prop} {F:List Nd} {clock1:Int} {p1:Pool} {L1:List Slot} (hH:Home wx B c a fs m S1 F clock1 p1 L1) (hm:Mod (FootS S c m) w wx) (hX:Mod X wx w') (hXn: ∀b,X b→w.heap.size≤b∧ ¬S1 b) (hw:c<w.heap.size∧m<w.heap.size∧B≤w.heap.size):
  Home w' B c a fs m S1 F clock1 p1 L1∧Mod (FootS S c m) w w':=
 ⟨hH.mod hX (fun b hb=>by obtain⟨h1,h2⟩:=hXn b hb;exact⟨h2,by omega,by omega,by omega⟩),((hm.sub (T:=fun b=>FootS S c m b∨w.heap.size≤b) fun b e=> .inl e).trans (Out.refl _ _) (hX.sub fun b hb=> .inr (hXn b hb).1)).own fun b e=>e⟩
theorem meet_two {w w3 w4 w5:World} {B c a fs m s t root n cap f pg:Nat} {A:Option Addr} {rl:List Reg} {r:Reg} {S S1:Nat→Prop} {F:List Nd} {clock clock1 e1:Int} {p p1:Pool} {L L1:List Slot} {o o1 o2:Obj} {tkB:Bool}
  (hH:Home w4 B c a fs m S F clock p L) (hO:One w4 B c a m S s t root A n cap rl) (hB:Below w.heap.size w w4) (hz:w.heap.size≤w4.heap.size) (hnf: ∀b,w.heap.size≤b→ ¬FootS S c m b)
  (hC:CacheAt w5 S1 c a fs m clock1 p1 L1) (hm5:Mod (FootS S c m) (w4.drew.alloc o) w5) (ho5:Out S S1 (w4.drew.alloc o)) (h1:w4.heap[w.heap.size]? =some o1) (h2:w4.heap[w3.heap.size]? =some o2) (hz3:w.heap.size<w3.heap.size) (hz4:w3.heap.size<w4.heap.size)
  (hx:w5.heap[w4.heap.size]? =some (.cells #[.int .i64 0, .int .u8 0, .bool false] 83 (0,0))) (hck:clock≤clock1∧clock1≤clock+1)
  (hres:(tkB=false∧filedB r pg=true∧GetF F r.ino (srcK r pg) p L clock e1 f p1 L1 clock1)∨(tkB=true∧filedB r pg=false∧clock1=clock∧TakeRes p L e1 f p1 L1)):
  Sourced w w4 B c a fs m s t root A n cap rl S F clock p L r pg (w.heap.size,o1) (w3.heap.size,o2) (.pointer (some ⟨w4.heap.size,0,none⟩)) (.bool tkB) (.int .i64 e1) (((w5.setCell ⟨w4.heap.size,0,none⟩ (.int .i64 (f:Int))).setCell ⟨w4.heap.size,1,none⟩ (.int .u8 0)).setCell ⟨w4.heap.size,2,none⟩ (.bool (!tkB))):=by
 have hb:Below w4.heap.size w4 (w4.drew.alloc o):=((Below.refl w4.heap.size w4).drew).alloc (by simp) _
 have hza:(w4.drew.alloc o).heap.size=w4.heap.size+1:=by simp
 obtain⟨a1,a2,a3,a4,a5,a6⟩:=bring_turn hH hO hB hz hnf hb hC hm5 ho5 ((three_mod (w:=w5) (b:=w4.heap.size) (.int .i64 (f:Int)) (.int .u8 0) (.bool (!tkB))).sub fun b e=>⟨by omega,by omega⟩)
 exact⟨_,f,e1,tkB,p1,L1,clock1,S1,rfl,rfl,rfl,three_set hx,Nat.le_refl _,a6 _ hz (by omega),a6 _ (Nat.le_refl _) (by omega),a1,a2,(a3 _ (Nat.le_refl _) (by omega)).trans h1,(a3 _ (by omega) hz4).trans h2,a4,a5,hck.1,hck.2,hres⟩
theorem meet_one {w w3 w4 w5:World} {B c a fs m s t root n cap f pg:Nat} {A:Option Addr} {rl:List Reg} {r:Reg} {S S1:Nat→Prop} {F:List Nd} {clock clock1 e1:Int} {p p1:Pool} {L L1:List Slot} {o1 o2:Obj} {tkB:Bool}
  (hH:Home w4 B c a fs m S F clock p L) (hO:One w4 B c a m S s t root A n cap rl) (hB:Below w.heap.size w w4) (hz:w.heap.size≤w4.heap.size) (hnf: ∀b,w.heap.size≤b→ ¬FootS S c m b)
  (hC:CacheAt w5 S1 c a fs m clock1 p1 L1) (hm5:Mod (FootS S c m) w4.drew w5) (ho5:Out S S1 w4.drew) (h1:w4.heap[w.heap.size]? =some o1) (h2:w4.heap[w3.heap.size]? =some o2) (hz3:w.heap.size<w3.heap.size) (hz4:w3.heap.size<w4.heap.size) (hck:clock≤clock1∧clock1≤clock+1)
  (hres:(tkB=false∧filedB r pg=true∧GetF F r.ino (srcK r pg) p L clock e1 f p1 L1 clock1)∨(tkB=true∧filedB r pg=false∧clock1=clock∧TakeRes p L e1 f p1 L1)):
  Sourced w w4 B c a fs m s t root A n cap rl S F clock p L r pg (w.heap.size,o1) (w3.heap.size,o2) (.pointer (some ⟨w5.heap.size,0,none⟩)) (.bool tkB) (.int .i64 e1) (w5.alloc (.cells #[.int .i64 (f:Int), .int .u8 0, .bool (!tkB)] 83)):=by
 have hb:Below w4.heap.size w4 w4.drew:=(Below.refl w4.heap.size w4).drew
 obtain⟨a1,a2,a3,a4,a5,a6⟩:=bring_turn hH hO hB hz hnf hb hC hm5 ho5 (Mod.of ((Below.refl w5.heap.size w5).alloc (Nat.le_refl _) (.cells #[.int .i64 (f:Int), .int .u8 0, .bool (!tkB)] 83)))
 exact⟨_,f,e1,tkB,p1,L1,clock1,S1,rfl,rfl,rfl,ab _ _,hm5.size,(fun e=>by have:=hC.pool.low _ e;omega),a6 _ (Nat.le_refl _) (by show _ <w4.heap.size;omega),a1,a2,(a3 _ (Nat.le_refl _) (by omega)).trans h1,(a3 _ (by omega) hz4).trans h2,a4,a5,hck.1,hck.2,hres⟩
theorem bring_any (B c a fs m s t root n cap pg:Nat) (A:Option Addr) (rl:List Reg) (r:Reg) (clock Ap:Int) (w:World) (S:Nat→Prop) (F:List Nd) (p:Pool) (L:List Slot) (T:Tab) (hold:Nat→Nat)
  (hH:Home w B c a fs m S F clock p L) (hO:One w B c a m S s t root A n cap rl) (hsp:Sp F hold p L T) (ho:Own p T) (hr:T.nd 4 0=some root) (hq:Ask F rl r pg) (hA:Ap=(pg:Int)*4096) (hcap: ∀f,hold f≤100000000000) (hck:0≤clock∧clock<1000000):
  Calls Tryz.prog 121 #[.pointer (some ⟨s,0,none⟩), .int .u64 Ap] w (BringPost w S c a fs m F clock p L T hold r pg):=by
 obtain⟨q1,q2,q3,q4,q5,q6,q7⟩:=hq.facts
 have hA0:0≤Ap:=by omega
 have hA9:Ap<140737488355328:=by omega
 obtain⟨w0,hw0⟩: ∃w0,w0=w.alloc (.cells #[.int .i64 0, .int .u8 0, .bool false] 83):=⟨_,rfl⟩
 have hb0:Below w.heap.size w w0:=by rw[hw0];exact(Below.refl _ _).alloc (Nat.le_refl _) _
 have hR0:w0.heap[w.heap.size]? =some (.cells #[.int .i64 0, .int .u8 0, .bool false] 83 (0,0)):=by rw[hw0];exact ab w _
 have hO0:=hO.below hb0
 have hH0:=hH.below hb0
 have s2:w0.cell? ⟨s,2,none⟩=some (.pointer (some ⟨t,0,none⟩)):=aa hO0.self 2
 have hfind:=tfind_any t c a root Ap w0 S p T hH0.cache.pool hO0.tab hO0.lts.2.1 (hsp.good.tree hr) hA0
 obtain⟨fl,hfl⟩: ∃fl,fl=findRes T Ap:=⟨_,rfl⟩
 rw[←hfl]at hfind
 have HFIND:=ae hfind
 have HFL:=ae hfl
 have HW0:=ae hw0
 have HB0:=ae hb0
 have HR0:=ae hR0
 have HO:=ae hO
 have HH:=ae hH
 have HSP:=ae hsp
 have HOWN:=ae ho
 have HR:=ae hr
 have HQ:=ae hq
 have HA:=ae hA
 have hlts:=hO.lts
 clear hfind hfl hw0 hb0 hR0 hO hH hO0 hH0 hsp ho hr hq hA
 go_enter Tryz.func121,Tryz.ntmps121
 go_upto_region 1 with(fail)
 rw[←HW0.out]
 have hpgA:Ap.toNat/4096=pg:=by have:=HA.out;omega
 cases hlf:T.lf pg with
 |some l=>
  have hfl2:fl=(l,0):=by
   rw[HFL.out]
   unfold findRes
   rw[if_neg (by omega),hpgA,hlf]
  subst hfl2
  have HLF:=ae hlf
  clear hlf
  go_wp2_with (first
   |(go_at_call 156;refine(HFIND.out).mono ?_;rintro e w1 ⟨rfl,hb1⟩;have hR1:=(hb1.block w.heap.size (ac HR0.out).1).trans HR0.out;have hlt1:w.heap.size<w1.heap.size:=(ac hR1).1;have z0:w1.cell? ⟨w.heap.size,0,none⟩=some (.int .i64 0):=aa hR1 0;have z1:w1.cell? ⟨w.heap.size,1,none⟩=some (.int .u8 0):=aa hR1 1;have z2:w1.cell? ⟨w.heap.size,2,none⟩=some (.bool false):=aa hR1 2;have zf0:=one_free hR1 0;have zf1:=one_free hR1 1;have zf2:=one_free hR1 2;unfold leafCells)
   |fail)
  have hB:=(((HB0.out.trans (hb1.mono HB0.out.size)).setCell (p:=⟨w.heap.size,0,none⟩) (Nat.le_refl _) (.int .i64 (l.frame:Int))).setCell (p:=⟨w.heap.size,1,none⟩) (Nat.le_refl _) (.int .u8 (l.prot:Int))).setCell (p:=⟨w.heap.size,2,none⟩) (Nat.le_refl _) (.bool l.copy)
  have hB2:=hB.alloc hB.size (.cells #[.int .i64 (l.frame:Int), .int .u8 (l.prot:Int), .bool l.copy] 83)
  exact bodyPost_ret (v:= .tuple #[.agg (leafCells l), .int .i64 0]) (by simp[results,Tryz.results121,go_sem,hlt1,z0,z1,z2,zf0,zf1,zf2,leafCells]) rfl ⟨0,l,p,L,T,clock,S,rfl,(HH.out.below hB2).cache,Mod.of hB2,Out.refl _ _,Int.le_refl _,by omega,Brought.there HSP.out HOWN.out HLF.out⟩
 |none=>
  have hfl2:fl=(noLeaf,6):=by
   rw[HFL.out]
   unfold findRes
   rw[if_neg (by omega),hpgA,hlf]
  subst hfl2
  have HLF:=ae hlf
  clear hlf
  have hreg: ∀W,Below w.heap.size w W→Calls Tryz.prog 114 #[.slice A n cap, .int .u64 Ap] W fun e w'=>e= .returned (.tuple #[.agg #[.int .u64 (r).fr, .int .u64 (r).to, .int .u8 (r).prot, .int .i64 (r).ino, .int .u64 (r).off], .bool true])∧Below W.heap.size W w':=fun W hW=>by
   have h1:=find_any A n cap Ap W rl (HO.out.below hW).row
   rw[HA.out,HQ.out.find]at h1
   rw[HA.out]
   exact h1
  have hself: ∀W,Below w.heap.size w W→ ∀i v,w.cell? ⟨s,i,none⟩=some v→W.cell? ⟨s,i,none⟩=some v:=fun W hW i v h=>(hW.cell (p:=⟨s,i,none⟩) hlts.1).trans h
  have HREG:=ae hreg
  have HSELF:=ae hself
  clear hreg hself
  go_upto_region 4 with(first
   |(go_at_call 156;refine(HFIND.out).mono ?_;rintro e w1 ⟨rfl,hb1⟩;unfold leafCells noLeaf)
   |fail)
  obtain⟨w2,hw2⟩: ∃w2,w2=w1.alloc (.cells #[.int .i64 0, .int .u8 0, .bool false] 83):=⟨_,rfl⟩
  rw[←hw2]
  have hB2:Below w.heap.size w w2:=by rw[hw2];exact(HB0.out.trans (hb1.mono HB0.out.size)).alloc (HB0.out.trans (hb1.mono HB0.out.size)).size _
  have s3:w2.cell? ⟨s,3,none⟩=some (.slice A n cap):=HSELF.out w2 hB2 3 _ (aa HO.out.self 3)
  have HFI:=ae (HREG.out w2 hB2)
  have HB2:=ae hB2
  have hR2:w2.heap[w.heap.size]? =some (.cells #[.int .i64 0, .int .u8 0, .bool false] 83 (0,0)):=by
   have hl:=(ac HR0.out).1
   have:=hb1.size
   rw[hw2]
   exact((Below.heap_alloc _ _ _ (by omega)).trans (hb1.block _ hl)).trans HR0.out
  have HR2:=ae hR2
  clear hw2 hb1 hB2 hR2 s2
  go_upto_region 5 with(first
   |(go_at_call 114;refine(HFI.out).mono ?_;rintro e w3 ⟨rfl,hb3⟩)
   |fail)
  obtain⟨w4,hw4⟩: ∃w4,w4=w3.alloc (.cells #[.int .u64 r.fr, .int .u64 r.to, .int .u8 r.prot, .int .i64 r.ino, .int .u64 r.off] 45):=⟨_,rfl⟩
  rw[←hw4]
  have hB4:Below w.heap.size w w4:=by rw[hw4];exact(HB2.out.trans (hb3.mono HB2.out.size)).alloc (HB2.out.trans (hb3.mono HB2.out.size)).size _
  have hR4:w4.heap[w.heap.size]? =some (.cells #[.int .i64 0, .int .u8 0, .bool false] 83 (0,0)):=by
   have hl:=(ac HR2.out).1
   have:=hb3.size
   rw[hw4]
   exact((Below.heap_alloc _ _ _ (by omega)).trans (hb3.block _ hl)).trans HR2.out
  have hX4:w4.heap[w3.heap.size]? =some (.cells #[.int .u64 r.fr, .int .u64 r.to, .int .u8 r.prot, .int .i64 r.ino, .int .u64 r.off] 45 (0,0)):=by rw[hw4];exact ab w3 _
  have hz43:w3.heap.size<w4.heap.size:=by rw[hw4];simp
  have hz3:w.heap.size<w3.heap.size:=by
   have hl:=(ac HR2.out).1
   have:=hb3.size
   omega
  have HB4:=ae hB4
  have HR4:=ae hR4
  have HR4lt:=ae (show w.heap.size<w4.heap.size from(ac hR4).1)
  have HX4:=ae hX4
  have x0:w4.cell? ⟨w3.heap.size,0,none⟩=some (.int .u64 r.fr):=aa hX4 0
  have x3:w4.cell? ⟨w3.heap.size,3,none⟩=some (.int .i64 r.ino):=aa hX4 3
  have x4:w4.cell? ⟨w3.heap.size,4,none⟩=some (.int .u64 r.off):=aa hX4 4
  have hwr1:IntKind.u64.wrap (r.off+Ap)=r.off+Ap:=by rw[IntKind.wrap_u64];omega
  have hwr2:IntKind.u64.wrap (r.off+Ap-r.fr)=r.off+Ap-r.fr:=by have:=HA.out;have:=HQ.out.lo;rw[IntKind.wrap_u64];omega
  obtain⟨k,hk⟩: ∃k,(r.off+Ap-r.fr)/4096=k:=⟨_,rfl⟩
  have hk2:k=srcK r pg:=by rw[←hk,HA.out];rfl
  have HK2:=ae hk2
  have hk0:0≤k:=by rw[hk2];exact q7
  have hk9:k<1000000000000:=by omega
  have s0:w4.cell? ⟨s,0,none⟩=some (.pointer (some ⟨c,0,none⟩)):=HSELF.out w4 hB4 0 _ (aa HO.out.self 0)
  clear hw4 hb3 hB4 hR4 hX4 hk2 s3
  have hnf: ∀b,w.heap.size≤b→ ¬FootS S c m b:=fun b hb e=>by
   have h1:=HH.out.lts
   rcases e with e|e|e
   ·have:=h1.2.2 b e;omega
   ·omega
   ·omega
  have HNF:=ae hnf
  have hz4w:w.heap.size≤w4.heap.size:=HB4.out.size
  have hsF: ¬FootS S c m s:=fun e=>by
   have h1:=HO.out.noS
   exact e.elim h1.1 fun e=>e.elim h1.2.1 h1.2.2.1
  have hs4:s<w4.heap.size:=by omega
  have hs4n:s≠w4.heap.size:=by omega
  clear hnf
  have HH4:=ae (HH.out.below HB4.out)
  have HO4:=ae (HO.out.below HB4.out)
  go_upto_region 7 with(fail)
  rw[hk]
  clear hk hwr1 hwr2 x0 x4
  go_cut [52]from 46 to 52 (fun v wx=>wx=w4∧v= .bool (filedB r pg))
  case first=>
   by_cases hi0:0≤r.ino
   ·by_cases hk16:k<16
    ·go_wp2_with fail
     go_meet
     exact⟨rfl,congrArg Value.bool (decide_eq_true (p:=0≤r.ino∧srcK r pg<16) (by have:=HK2.out;omega)).symm⟩
    ·go_wp2_with fail
     go_meet
     exact⟨rfl,congrArg Value.bool (decide_eq_false (p:=0≤r.ino∧srcK r pg<16) (by have:=HK2.out;omega)).symm⟩
   ·go_wp2_with fail
    go_meet
    exact⟨rfl,congrArg Value.bool (decide_eq_false (p:=0≤r.ino∧srcK r pg<16) (by have:=HK2.out;omega)).symm⟩
  case rest=>
  obtain⟨hwc,rfl⟩:=hcut
  rw[hwc]
  clear hwc wc
  go_upto_if 52 with(fail)
  go_cut [10,52]from 53 to 58 (fun v v52 wx=>wx=w4∧((filedB r pg=true∧v= .iface 248 (.agg #[.int .i64 r.ino, .int .i64 k]))∨(filedB r pg=false∧v= .iface 244 (.agg #[]))))
  case first=>
   cases hfb:filedB r pg with
   |true=>
    have hk16:k<16:=by have h1:=of_decide_eq_true hfb;have:=HK2.out;omega
    have hwk:IntKind.i64.wrap k=k:=by rw[IntKind.wrap_i64];omega
    go_wp2_with fail
    go_meet
    exact⟨rfl, .inl ⟨hfb,rfl⟩⟩
   |false=>
    go_wp2_with fail
    go_meet
    exact⟨rfl, .inr ⟨hfb,rfl⟩⟩
  case rest=>
  obtain⟨hwc,hsrc⟩:=hcut
  rw[hwc]
  clear hwc wc
  have HSRC:=ae hsrc
  clear hsrc
  go_upto_region 9 with(fail)
  go_cut [12,13,14]from 59 to 71 (fun b tk er wx=>Sourced w w4 B c a fs m s t root A n cap rl S F clock p L r pg (w.heap.size, .cells #[.int .i64 0, .int .u8 0, .bool false] 83 (0,0)) (w3.heap.size, .cells #[.int .u64 r.fr, .int .u64 r.to, .int .u8 r.prot, .int .i64 r.ino, .int .u64 r.off] 45 (0,0)) b tk er wx)
  case first=>
   rcases HSRC.out with⟨hfb,rfl⟩|⟨hfb,rfl⟩
   ·have HFB:=ae hfb
    have hnil:=filed_nil (.agg #[.int .i64 r.ino, .int .i64 k])
    have hleaf: ∀W,Below w.heap.size w W→Calls Tryz.prog 231 #[.agg #[.int .i64 r.ino, .int .i64 k], .pointer (some ⟨c,0,none⟩)] W (FiledPost W S c a fs m F r.ino k clock p L):=fun W hW=>
     filed_leaf B c a fs m r.ino k clock W S F p L (HH.out.below hW) (by have h0:=(of_decide_eq_true hfb).1;have h1:=HQ.out.ok.ino1;simp only[Lit.wf,Bool.and_eq_true,decide_eq_true_eq];exact⟨Int.le_trans (by decide) h0,Int.le_trans h1 (by decide)⟩) hck
    have HLEAF:=ae hleaf
    clear hleaf hfb
    go_region_held3 (fun w'=>w'.cell? ⟨s,0,none⟩=some (.pointer (some ⟨c,0,none⟩)))
     (first|exact s5|exact s0|exact(cell_sameB ((three_mod _ _ _).block s hs5 hs4n)).trans s5|go_keep)
     ((first
     |(go_simp;rw[filed_method _ _ _ (by kernel_rfl)];simp only[Result.andThen];rw[enter_filed,Oper.upon_enter];refine(HLEAF.out w4.drew HB4.out.drew).mono ?_;rintro e w5 ⟨er,f,p1,L1,clock1,S1,rfl,hC5,hm5,ho5,hg5⟩;unfold leafCells;have s5:w5.cell? ⟨s,0,none⟩=some (.pointer (some ⟨c,0,none⟩)):=(cell_sameB (hm5.block s (by simp;omega) hsF)).trans (s0);have hs5:s<w5.heap.size:=World.block_lt_of_cell? _ _ s5;have HC5:=ae hC5;have HM5:=ae hm5;have HO5:=ae ho5;have HG5:=ae hg5;have hlow5:=ae hC5.pool.low;clear hC5 ho5 hg5)
     |(go_simp;rw[filed_method _ _ _ (by kernel_rfl)];simp only[Result.andThen];rw[enter_filed,Oper.upon_enter];refine(HLEAF.out (w4.drew.alloc _) (HB4.out.drew.alloc HB4.out.drew.size _)).mono ?_;rintro e w5 ⟨er,f,p1,L1,clock1,S1,rfl,hC5,hm5,ho5,hg5⟩;unfold leafCells;have s5:w5.cell? ⟨s,0,none⟩=some (.pointer (some ⟨c,0,none⟩)):=(cell_sameB (hm5.block s (by simp;omega) hsF)).trans ((cell_same (Below.heap_alloc _ _ _ (by simp;omega)) 0).trans s0);have hs5:s<w5.heap.size:=World.block_lt_of_cell? _ _ s5;have HC5:=ae hC5;have HM5:=ae hm5;have HO5:=ae ho5;have HG5:=ae hg5;have hlow5:=ae hC5.pool.low;clear hC5 ho5 hg5;have hx5:w5.heap[w4.heap.size]? =some (.cells #[.int .i64 0, .int .u8 0, .bool false] 83 (0,0)):=(hm5.block w4.heap.size (by simp) (HNF.out w4.heap.size hz4w)).trans (ab w4.drew _);have k0:w5.cell? ⟨w4.heap.size,0,none⟩=some (.int .i64 0):=aa hx5 0;have k1:w5.cell? ⟨w4.heap.size,1,none⟩=some (.int .u8 0):=aa hx5 1;have k2:w5.cell? ⟨w4.heap.size,2,none⟩=some (.bool false):=aa hx5 2;have kf0:w5.frozen? ⟨w4.heap.size,0,none⟩=false:=one_free hx5 0;have kf1:w5.frozen? ⟨w4.heap.size,1,none⟩=false:=one_free hx5 1;have kf2:w5.frozen? ⟨w4.heap.size,2,none⟩=false:=one_free hx5 2)))
    all_goals
     go_wp2_with fail
     go_meet
     first
     |exact meet_two HH4.out HO4.out HB4.out hz4w HNF.out HC5.out HM5.out HO5.out HR4.out HX4.out hz3 hz43 hx5 (GetRes.clock HG5.out) (.inl ⟨rfl,HFB.out,by rw[←HK2.out];exact HG5.out⟩)
     |exact meet_one HH4.out HO4.out HB4.out hz4w HNF.out HC5.out HM5.out HO5.out HR4.out HX4.out hz3 hz43 (GetRes.clock HG5.out) (.inl ⟨rfl,HFB.out,by rw[←HK2.out];exact HG5.out⟩)
   ·have HFB:=ae hfb
    have hnil:=blank_nil (.agg #[])
    have hleaf: ∀W,Below w.heap.size w W→Calls Tryz.prog 230 #[.agg #[], .pointer (some ⟨c,0,none⟩)] W (BlankPost W S c a fs m clock p L):=fun W hW=>
     blank_leaf B c a fs m clock W S F p L (HH.out.below hW)
    have HLEAF:=ae hleaf
    clear hleaf hfb
    go_region_held3 (fun w'=>w'.cell? ⟨s,0,none⟩=some (.pointer (some ⟨c,0,none⟩)))
     (first|exact s5|exact s0|exact(cell_sameB ((three_mod _ _ _).block s hs5 hs4n)).trans s5|go_keep)
     ((first
     |(go_simp;rw[blank_method _ _ _ (by kernel_rfl)];simp only[Result.andThen];rw[enter_blank,Oper.upon_enter];refine(HLEAF.out w4.drew HB4.out.drew).mono ?_;rintro e w5 ⟨er,f,p1,L1,S1,rfl,hC5,hm5,ho5,hg5⟩;unfold leafCells;have s5:w5.cell? ⟨s,0,none⟩=some (.pointer (some ⟨c,0,none⟩)):=(cell_sameB (hm5.block s (by simp;omega) hsF)).trans (s0);have hs5:s<w5.heap.size:=World.block_lt_of_cell? _ _ s5;have HC5:=ae hC5;have HM5:=ae hm5;have HO5:=ae ho5;have HG5:=ae hg5;have hlow5:=ae hC5.pool.low;clear hC5 ho5 hg5)
     |(go_simp;rw[blank_method _ _ _ (by kernel_rfl)];simp only[Result.andThen];rw[enter_blank,Oper.upon_enter];refine(HLEAF.out (w4.drew.alloc _) (HB4.out.drew.alloc HB4.out.drew.size _)).mono ?_;rintro e w5 ⟨er,f,p1,L1,S1,rfl,hC5,hm5,ho5,hg5⟩;unfold leafCells;have s5:w5.cell? ⟨s,0,none⟩=some (.pointer (some ⟨c,0,none⟩)):=(cell_sameB (hm5.block s (by simp;omega) hsF)).trans ((cell_same (Below.heap_alloc _ _ _ (by simp;omega)) 0).trans s0);have hs5:s<w5.heap.size:=World.block_lt_of_cell? _ _ s5;have HC5:=ae hC5;have HM5:=ae hm5;have HO5:=ae ho5;have HG5:=ae hg5;have hlow5:=ae hC5.pool.low;clear hC5 ho5 hg5;have hx5:w5.heap[w4.heap.size]? =some (.cells #[.int .i64 0, .int .u8 0, .bool false] 83 (0,0)):=(hm5.block w4.heap.size (by simp) (HNF.out w4.heap.size hz4w)).trans (ab w4.drew _);have k0:w5.cell? ⟨w4.heap.size,0,none⟩=some (.int .i64 0):=aa hx5 0;have k1:w5.cell? ⟨w4.heap.size,1,none⟩=some (.int .u8 0):=aa hx5 1;have k2:w5.cell? ⟨w4.heap.size,2,none⟩=some (.bool false):=aa hx5 2;have kf0:w5.frozen? ⟨w4.heap.size,0,none⟩=false:=one_free hx5 0;have kf1:w5.frozen? ⟨w4.heap.size,1,none⟩=false:=one_free hx5 1;have kf2:w5.frozen? ⟨w4.heap.size,2,none⟩=false:=one_free hx5 2)))
    all_goals
     go_wp2_with fail
     go_meet
     first
     |exact meet_two HH4.out HO4.out HB4.out hz4w HNF.out HC5.out HM5.out HO5.out HR4.out HX4.out hz3 hz43 hx5 ⟨Int.le_refl _,by omega⟩ (.inr ⟨rfl,HFB.out,rfl,HG5.out⟩)
     |exact meet_one HH4.out HO4.out HB4.out hz4w HNF.out HC5.out HM5.out HO5.out HR4.out HX4.out hz3 hz43 ⟨Int.le_refl _,by omega⟩ (.inr ⟨rfl,HFB.out,rfl,HG5.out⟩)
  case rest=>
  obtain⟨bb,f,e1,tkB,p1,L1,clock1,S1,rfl,rfl,rfl,hX6,hbb,hS1b,hS1w,hH6,hO6,hR6,hG6,hm6,ho6,hc1,hc2,hres⟩:=hcut
  dsimp only at hR6 hG6
  have HX6:=ae hX6
  have HH6:=ae hH6
  have HO6:=ae hO6
  have HR6:=ae hR6
  have HG6:=ae hG6
  have HM6:=ae hm6
  have HUT6:=ae ho6
  have HRES:=ae hres
  have hwlt:w.heap.size<wc.heap.size:=(ac hR6).1
  have z0:wc.cell? ⟨w.heap.size,0,none⟩=some (.int .i64 0):=aa hR6 0
  have z1:wc.cell? ⟨w.heap.size,1,none⟩=some (.int .u8 0):=aa hR6 1
  have z2:wc.cell? ⟨w.heap.size,2,none⟩=some (.bool false):=aa hR6 2
  have zf0:=one_free hR6 0
  have zf1:=one_free hR6 1
  have zf2:=one_free hR6 2
  have hbw:bb≠w.heap.size:=by omega
  clear hX6 hH6 hO6 hR6 hG6 hm6 ho6 hres HSRC
  by_cases he:e1=0
  rotate_left
  ·have hne:(e1 != 0)=true:=by rw[bne_iff_ne];exact he
   have HE:=ae he
   clear he
   go_wp2_with fail
   refine bodyPost_ret (v:= .tuple #[.agg (leafCells ⟨0,0,false⟩), .int .i64 e1]) (by simp[results,Tryz.results121,go_sem,hwlt,z0,z1,z2,zf0,zf1,zf2,leafCells]) rfl ?_
   have hno:e1=4∧p1=p∧L1=L∧TakeRes p L 4 0 p L:=by
    rcases HRES.out with⟨_,h2,h3⟩|⟨_,h2,_,h3⟩
    ·have h4:=of_decide_eq_true h2
     obtain⟨y,hy,hk1⟩:=HQ.out.file h4.1
     exact GetRes.four h3 q7 h4.2 (pageR_file h4.1 hy hk1) HE.out
    ·rcases h3.two with e|⟨e,e2,e3,e4⟩
     ·exact absurd e HE.out
     ·subst e e2 e3 e4;exact⟨rfl,rfl,rfl,h3⟩
   obtain⟨rfl,rfl,rfl,ht⟩:=hno
   obtain⟨b1,b2⟩:=bring_end HH6.out HM6.out (three_mod (w:=wc) (b:=w.heap.size) (.int .i64 0) (.int .u8 0) (.bool false)) (fun b hb=>⟨by omega,by rw[hb];exact hS1w⟩) ⟨HH.out.lts.1,HH.out.lts.2.1,HH.out.base⟩
   exact⟨4,⟨0,0,false⟩,_,_,T,clock1,S1,rfl,b1.cache,b2,HUT6.out,hc1,hc2,Brought.no HSP.out HOWN.out HLF.out (HSP.out.full ht)⟩
  subst he
  cases tkB with
  |false=>
   obtain⟨_,hfb,hget⟩:false=false∧filedB r pg=true∧GetF F r.ino (srcK r pg) p L clock 0 f p1 L1 clock1:=HRES.out.resolve_right (fun e=>by cases e.1)
   obtain⟨a1,a2,a3,a4,a5⟩:=HSP.out.get hget
   obtain⟨hfl,c2,c3,hf1,c5,c6⟩:=a5 rfl
   have HGET:=ae hget
   have HFB:=ae hfb
   have g2:wc.cell? ⟨w3.heap.size,2,none⟩=some (.int .u8 r.prot):=aa HG6.out 2
   have x1:wc.cell? ⟨bb,1,none⟩=some (.int .u8 0):=aa HX6.out 1
   have xf1:=one_free HX6.out 1
   go_upto_region 13 with(fail)
   obtain⟨w7,hw7⟩: ∃w7,w7=wc.setCell ⟨bb,1,none⟩ (.int .u8 r.prot):=⟨_,rfl⟩
   rw[←hw7]
   have hm7:Mod (fun b=>b=bb) wc w7:=by rw[hw7];exact mod_set (S:=fun b=>b=bb) rfl 1 _
   have hX7:w7.heap[bb]? =some (.cells #[.int .i64 (f:Int), .int .u8 r.prot, .bool true] 83 (0,0)):=by
    rw[hw7]
    have:=Joins.block_setCell (i:=1) HX6.out (.int .u8 r.prot)
    simpa using this
   obtain⟨hH7,hM7⟩:=bring_end HH6.out HM6.out hm7 (fun b hb=>⟨by omega,by rw[hb];exact hS1b⟩) ⟨HH.out.lts.1,HH.out.lts.2.1,HH.out.base⟩
   have hO7:One w7 B c a m S1 s t root A n cap rl:=HO6.out.mod hm7 (fun b hb=>⟨by omega,by omega,fun ad e=>by have:=(HO.out.noR ad e).2.2.2.2.2.2;omega⟩)
   have hR7:=(hm7.block w.heap.size hwlt (by omega)).trans HR6.out
   have hwl7:w.heap.size<w7.heap.size:=(ac hR7).1
   have hbl7:bb<w7.heap.size:=(ac hX7).1
   have hmm:=HH.out.lts
   have hbm:bb≠m:=by omega
   have hwm:w.heap.size≠m:=by omega
   have hP:(r.prot.toNat:Int)=r.prot:=by omega
   have s2:w7.cell? ⟨s,2,none⟩=some (.pointer (some ⟨t,0,none⟩)):=aa hO7.self 2
   have b0:w7.cell? ⟨bb,0,none⟩=some (.int .i64 (f:Int)):=aa hX7 0
   have b1:w7.cell? ⟨bb,1,none⟩=some (.int .u8 r.prot):=aa hX7 1
   have b2:w7.cell? ⟨bb,2,none⟩=some (.bool true):=aa hX7 2
   have HL7:Hid (T.lf (Ap.toNat/4096)=none):=ae (by rw[hpgA];exact HLF.out)
   have hmap:=tmap_go2 t c a root fs m clock1 Ap (f:Int) r.prot true w7.drew S1 p1 T L1 hold 0 ⟨f,r.prot.toNat,true⟩ (hH7.cache.below (Below.refl w7.heap.size w7).drew) hO7.tab hO7.noT.1 hO7.noT.2.1 a1.good HR.out hA0 hA9 (by have:=HA.out;omega) (by omega) (by rw[countB_nat hfl];omega) (by rw[HL7.out];rfl) rfl hP.symm rfl hfl hf1 (by show p1.cnt f+1<1000000000000;have:=a1.cap hfl;have:=hcap f;omega)
   rw[hpgA]at hmap
   clear a1 a2 a3 a4 a5 hget hfb c2 c3 c5 c6
   have HMAP:=ae hmap
   have HH7:=ae hH7
   have HO7:=ae hO7
   have HM7:=ae hM7
   have HX7:=ae hX7
   have HR7:=ae hR7
   clear hmap hH7 hO7 hM7 hX7 hR7 hw7 hm7 g2 x1 xf1 z0 z1 z2 zf0 zf1 zf2 hpgA
   go_still_tail 6,(by kernel_rfl)
   go_wp2_with fail
   refine(HMAP.out).mono ?_
   rintro e w8 ⟨er2,p2,T2,L2,S2,rfl,hC8,hm8',ho8,hres2,hfar2⟩
   have hm8:=hm8'.undrew
   have hnS2: ∀b,b<w7.heap.size→ ¬S1 b→ ¬S2 b:=fun b hb h1 e=>(ho8 b e).elim h1 (fun e=>by have:w7.heap.size≤b:=e;omega)
   have hX8:=(hm8.block bb hbl7 (fun e=>e.elim hS1b hbm)).trans HX7.out
   have hR8:=(hm8.block w.heap.size hwl7 (fun e=>e.elim hS1w hwm)).trans HR7.out
   have hwl8:w.heap.size<w8.heap.size:=(ac hR8).1
   have hbl8:bb<w8.heap.size:=(ac hX8).1
   have hH8:=HH7.out.step hC8 (hm8.sub fun b hb=>hb.elim .inl fun e=> .inr (.inl e)) ho8
   have hM8:Mod (FootS S c m) w w8:=HM7.out.trans (fun b e=>by
    rcases e with e|e|e
    ·exact(HUT6.out b e).imp .inl id
    ·exact .inl (.inr (.inl e))
    ·exact .inl (.inr (.inr e))) (hm8.sub (T:=FootS S1 c m) fun b hb=>hb.elim .inl fun e=> .inr (.inl e))
   have hO8:Out S S2 w:=fun b e=>(ho8 b e).elim (fun e=>HUT6.out b e) (fun e=> .inr (by have:w7.heap.size≤b:=e;omega))
   have hS2b:=hnS2 bb hbl7 hS1b
   have hS2w:=hnS2 w.heap.size hwl7 hS1w
   have HONE8:=ae (HO7.out.foot (hm8.sub fun b hb=>hb.elim .inl fun e=> .inr (.inl e)) ho8)
   have HH8:=ae hH8
   have HM8:=ae hM8
   have HUT8:=ae hO8
   have HRES2:=ae hres2
   have HFAR2:=ae hfar2
   have HX8:=ae hX8
   have HR8:=ae hR8
   clear hC8 hm8' ho8 hres2 hfar2 hm8 hnS2 hH8 hM8 hO8 s2 b0 b1 b2
   have k0:w8.cell? ⟨bb,0,none⟩=some (.int .i64 (f:Int)):=aa HX8.out 0
   have k1:w8.cell? ⟨bb,1,none⟩=some (.int .u8 r.prot):=aa HX8.out 1
   have k2:w8.cell? ⟨bb,2,none⟩=some (.bool true):=aa HX8.out 2
   have z0:w8.cell? ⟨w.heap.size,0,none⟩=some (.int .i64 0):=aa HR8.out 0
   have z1:w8.cell? ⟨w.heap.size,1,none⟩=some (.int .u8 0):=aa HR8.out 1
   have z2:w8.cell? ⟨w.heap.size,2,none⟩=some (.bool false):=aa HR8.out 2
   have zf0:=one_free HR8.out 0
   have zf1:=one_free HR8.out 1
   have zf2:=one_free HR8.out 2
   go_wp2_with fail
   refine bodyPost_ret (v:= .tuple #[.agg (leafCells ⟨f,r.prot.toNat,true⟩), .int .i64 er2]) (by simp[results,Tryz.results121,go_sem,hwl8,hbl8,z0,z1,z2,zf0,zf1,zf2,leafCells,hP]) rfl ?_
   obtain⟨e1,e2⟩:=bring_end HH8.out HM8.out (three_mod (w:=w8) (b:=w.heap.size) (.int .i64 (f:Int)) (.int .u8 r.prot) (.bool true)) (fun b hb=>⟨by omega,by rw[hb];exact hS2w⟩) ⟨HH.out.lts.1,HH.out.lts.2.1,HH.out.base⟩
   exact⟨er2,_,p2,L2,T2,clock1,S2,rfl,e1.cache,e2,HUT8.out,hc1,hc2,Brought.filed (ino:=r.ino) (clock:=clock) HSP.out HOWN.out (by show pg<68719476736;omega) HLF.out HFB.out HGET.out rfl HRES2.out HFAR2.out⟩
  |true=>
   obtain⟨_,hfb,hcc,hget⟩:true=true∧filedB r pg=false∧clock1=clock∧TakeRes p L 0 f p1 L1:=HRES.out.resolve_left (fun e=>by cases e.1)
   obtain⟨a1,a2,a3,a4,a5⟩:=HSP.out.take hget
   have hfl:f<p1.n:=by rw[(a2 fun _ =>False).n];exact a5.lt
   have hf1:1≤p1.cnt f:=by rw[a5.one];exact Nat.le_refl _
   have HGET:=ae hget
   have HFB:=ae hfb
   have g2:wc.cell? ⟨w3.heap.size,2,none⟩=some (.int .u8 r.prot):=aa HG6.out 2
   have x1:wc.cell? ⟨bb,1,none⟩=some (.int .u8 0):=aa HX6.out 1
   have xf1:=one_free HX6.out 1
   go_upto_region 13 with(fail)
   obtain⟨w7,hw7⟩: ∃w7,w7=wc.setCell ⟨bb,1,none⟩ (.int .u8 r.prot):=⟨_,rfl⟩
   rw[←hw7]
   have hm7:Mod (fun b=>b=bb) wc w7:=by rw[hw7];exact mod_set (S:=fun b=>b=bb) rfl 1 _
   have hX7:w7.heap[bb]? =some (.cells #[.int .i64 (f:Int), .int .u8 r.prot, .bool false] 83 (0,0)):=by
    rw[hw7]
    have:=Joins.block_setCell (i:=1) HX6.out (.int .u8 r.prot)
    simpa using this
   obtain⟨hH7,hM7⟩:=bring_end HH6.out HM6.out hm7 (fun b hb=>⟨by omega,by rw[hb];exact hS1b⟩) ⟨HH.out.lts.1,HH.out.lts.2.1,HH.out.base⟩
   have hO7:One w7 B c a m S1 s t root A n cap rl:=HO6.out.mod hm7 (fun b hb=>⟨by omega,by omega,fun ad e=>by have:=(HO.out.noR ad e).2.2.2.2.2.2;omega⟩)
   have hR7:=(hm7.block w.heap.size hwlt (by omega)).trans HR6.out
   have hwl7:w.heap.size<w7.heap.size:=(ac hR7).1
   have hbl7:bb<w7.heap.size:=(ac hX7).1
   have hmm:=HH.out.lts
   have hbm:bb≠m:=by omega
   have hwm:w.heap.size≠m:=by omega
   have hP:(r.prot.toNat:Int)=r.prot:=by omega
   have s2:w7.cell? ⟨s,2,none⟩=some (.pointer (some ⟨t,0,none⟩)):=aa hO7.self 2
   have b0:w7.cell? ⟨bb,0,none⟩=some (.int .i64 (f:Int)):=aa hX7 0
   have b1:w7.cell? ⟨bb,1,none⟩=some (.int .u8 r.prot):=aa hX7 1
   have b2:w7.cell? ⟨bb,2,none⟩=some (.bool false):=aa hX7 2
   have HL7:Hid (T.lf (Ap.toNat/4096)=none):=ae (by rw[hpgA];exact HLF.out)
   have hmap:=tmap_go2 t c a root fs m clock1 Ap (f:Int) r.prot false w7.drew S1 p1 T L1 (upd hold f 1) 0 ⟨f,r.prot.toNat,false⟩ (hH7.cache.below (Below.refl w7.heap.size w7).drew) hO7.tab hO7.noT.1 hO7.noT.2.1 a1.good HR.out hA0 hA9 (by have:=HA.out;omega) (by omega) (by rw[countB_nat hfl];omega) (by rw[HL7.out];rfl) rfl hP.symm rfl hfl hf1 (by show p1.cnt f+1<1000000000000;rw[a5.one];decide)
   rw[hpgA]at hmap
   clear a1 a2 a3 a4 a5 hget hfb
   have HMAP:=ae hmap
   have HH7:=ae hH7
   have HO7:=ae hO7
   have HM7:=ae hM7
   have HX7:=ae hX7
   have HR7:=ae hR7
   clear hmap hH7 hO7 hM7 hX7 hR7 hw7 hm7 g2 x1 xf1 z0 z1 z2 zf0 zf1 zf2 hpgA
   go_still_tail 6,(by kernel_rfl)
   go_wp2_with fail
   refine(HMAP.out).mono ?_
   rintro e w8 ⟨er2,p2,T2,L2,S2,rfl,hC8,hm8',ho8,hres2,hfar2⟩
   have hm8:=hm8'.undrew
   have hnS2: ∀b,b<w7.heap.size→ ¬S1 b→ ¬S2 b:=fun b hb h1 e=>(ho8 b e).elim h1 (fun e=>by have:w7.heap.size≤b:=e;omega)
   have hX8:=(hm8.block bb hbl7 (fun e=>e.elim hS1b hbm)).trans HX7.out
   have hR8:=(hm8.block w.heap.size hwl7 (fun e=>e.elim hS1w hwm)).trans HR7.out
   have hwl8:w.heap.size<w8.heap.size:=(ac hR8).1
   have hbl8:bb<w8.heap.size:=(ac hX8).1
   have hH8:=HH7.out.step hC8 (hm8.sub fun b hb=>hb.elim .inl fun e=> .inr (.inl e)) ho8
   have hM8:Mod (FootS S c m) w w8:=HM7.out.trans (fun b e=>by
    rcases e with e|e|e
    ·exact(HUT6.out b e).imp .inl id
    ·exact .inl (.inr (.inl e))
    ·exact .inl (.inr (.inr e))) (hm8.sub (T:=FootS S1 c m) fun b hb=>hb.elim .inl fun e=> .inr (.inl e))
   have hO8:Out S S2 w:=fun b e=>(ho8 b e).elim (fun e=>HUT6.out b e) (fun e=> .inr (by have:w7.heap.size≤b:=e;omega))
   have hS2b:=hnS2 bb hbl7 hS1b
   have hS2w:=hnS2 w.heap.size hwl7 hS1w
   have HONE8:=ae (HO7.out.foot (hm8.sub fun b hb=>hb.elim .inl fun e=> .inr (.inl e)) ho8)
   have HH8:=ae hH8
   have HM8:=ae hM8
   have HUT8:=ae hO8
   have HRES2:=ae hres2
   have HFAR2:=ae hfar2
   have HX8:=ae hX8
   have HR8:=ae hR8
   clear hC8 hm8' ho8 hres2 hfar2 hm8 hnS2 hH8 hM8 hO8 s2 b0 b1 b2
   rcases HRES.out with⟨hf9,_⟩|⟨_,hfb,_,hget⟩
   ·exact absurd hf9 (by decide)
   have hbr:=Brought.blank HSP.out HOWN.out (by show pg<68719476736;omega) HLF.out hfb hget rfl HRES2.out HFAR2.out
   have hdn:=down_yes a f w8.drew S2 p2 HH8.out.cache.pool.drew hbr.2.1 hbr.2.2
   have k0:w8.cell? ⟨bb,0,none⟩=some (.int .i64 (f:Int)):=aa HX8.out 0
   have s1:w8.cell? ⟨s,1,none⟩=some (.pointer (some ⟨a,0,none⟩)):=aa HONE8.out.self 1
   have HBR:=ae hbr
   have HDN:=ae hdn
   clear hfb hget hbr hdn
   go_upto_region 15 with(fail)
   go_still_tail 6,(by kernel_rfl)
   go_wp2_with fail
   refine(HDN.out).mono ?_
   rintro e w9 ⟨rfl,hP9,hm9'⟩
   have hm9:=hm9'.undrew
   have hX9:=(hm9.block bb hbl8 hS2b).trans HX8.out
   have hR9:=(hm9.block w.heap.size hwl8 hS2w).trans HR8.out
   have hwl9:w.heap.size<w9.heap.size:=(ac hR9).1
   have hbl9:bb<w9.heap.size:=(ac hX9).1
   have hC9:=HH8.out.cache.turn hm9 hP9 (Out.refl _ _)
   have HH9:=ae (HH8.out.step hC9 (hm9.sub fun b hb=> .inl hb) (Out.refl _ _))
   have HM9:Hid (Mod (FootS S c m) w w9):=ae (HM8.out.trans (fun b e=>(HUT8.out b e).imp .inl id) hm9)
   have HX9:=ae hX9
   have HR9:=ae hR9
   clear hm9 hm9' hX9 hR9 hC9 hP9 k0 s1
   have k0:w9.cell? ⟨bb,0,none⟩=some (.int .i64 (f:Int)):=aa HX9.out 0
   have k1:w9.cell? ⟨bb,1,none⟩=some (.int .u8 r.prot):=aa HX9.out 1
   have k2:w9.cell? ⟨bb,2,none⟩=some (.bool false):=aa HX9.out 2
   have z0:w9.cell? ⟨w.heap.size,0,none⟩=some (.int .i64 0):=aa HR9.out 0
   have z1:w9.cell? ⟨w.heap.size,1,none⟩=some (.int .u8 0):=aa HR9.out 1
   have z2:w9.cell? ⟨w.heap.size,2,none⟩=some (.bool false):=aa HR9.out 2
   have zf0:=one_free HR9.out 0
   have zf1:=one_free HR9.out 1
   have zf2:=one_free HR9.out 2
   go_wp2_with fail
   refine bodyPost_ret (v:= .tuple #[.agg (leafCells ⟨f,r.prot.toNat,false⟩), .int .i64 er2]) (by simp[results,Tryz.results121,go_sem,hwl9,hbl9,z0,z1,z2,zf0,zf1,zf2,leafCells,hP]) rfl ?_
   obtain⟨e1,e2⟩:=bring_end HH9.out HM9.out (three_mod (w:=w9) (b:=w.heap.size) (.int .i64 (f:Int)) (.int .u8 r.prot) (.bool false)) (fun b hb=>⟨by omega,by rw[hb];exact hS2w⟩) ⟨HH.out.lts.1,HH.out.lts.2.1,HH.out.base⟩
   exact⟨er2,_,p2.down f,L2,T2,clock1,S2,rfl,e1.cache,e2,HUT8.out,hc1,hc2,HBR.out.1⟩
end
end Go.Proofs.YtoochjhipmpehaaGreatDoor
