/- Spaces: Map. -/
import Derived.Test.YtoochjhipmpehaaGreatDoorAbK
import Derived.Test.YtoochjhipmpehaaGreatDoorSmK
import Derived.Test.YtoochjhipmpehaaGreatDoorSpOK
set_option linter.unusedVariables false
set_option linter.unusedSimpArgs false
set_option maxRecDepth 100000
set_option maxHeartbeats 8000000
namespace Go.Proofs.YtoochjhipmpehaaGreatDoor
section
open Go.RowKit Go.Sort
attribute [local go_sem] Oper.semAt_some
theorem wpAnyZ_two {P:Program} {ops:Array Oper} {Q:Exit→Act→World→Prop} {md:Region.Mode} {S:World→Prop} {z:Nat} (i j:Nat) {oi oj:Oper} {n:Nat} {listed:Array Bool} {a:Act} {w:World} (hr:Region.ready md ops listed=[i,j]) (hoi:ops[i]? =some oi) (hoj:ops[j]? =some oj)
  (hi: ∀K':Act→World→Prop,Shut (∀a w,S w→(S w→wpAnyZ P md ops Q S z n (listed.setIfInBounds i true) a w)→K' a w)→if Region.wanted oi (yielded ops a.tmps)=true then Oper.wp P oi a w K' Q else K' (a.put oi.dst undef) w)
  (hj: ∀K':Act→World→Prop,Shut (∀a w,S w→(S w→wpAnyZ P md ops Q S z n (listed.setIfInBounds j true) a w)→K' a w)→if Region.wanted oj (yielded ops a.tmps)=true then Oper.wp P oj a w K' Q else K' (a.put oj.dst undef) w):
  wpAnyZ P md ops Q S z (n+1) listed a w:=by
 refine⟨fun h0=>absurd (hr▸h0) (by simp),fun k hk=>?_⟩
 rw[hr,List.mem_cons,List.mem_singleton]at hk
 rcases hk with rfl|rfl
 ·exact wpOp_step hoi fun K' hK=>hi K' (fun a w hS hW=>hK a w ⟨fun _ =>hS,hW hS⟩)
 ·exact wpOp_step hoj fun K' hK=>hj K' (fun a w hS hW=>hK a w ⟨fun _ =>hS,hW hS⟩)
theorem wpIn_noOut {P:Program} {n:Nat} {c:Code} {Q:Exit→Act→World→Prop} {a:Act} {w:World} (h:c.wp P (NoOut Q) a w):c.wpIn Fence.wide n P Q a w:=by
 refine wpIn_mono (wpIn_wide.2 h) ?_
 intro e a w hq
 cases e<;>first|exact hq|exact hq.elim
theorem five_first {w:World} {b:Nat} {x0 x1 x2 x3 x4 y0 y1 y2 y3 y4:Value} {T:TypeId} (h:w.heap[b]? =some (.cells #[x0,x1,x2,x3,x4] T (0,0))):(((((w.setCell ⟨b,0,none⟩ y0).setCell ⟨b,1,none⟩ y1).setCell ⟨b,2,none⟩ y2).setCell ⟨b,3,none⟩ y3).setCell ⟨b,4,none⟩ y4).cell? ⟨b,0,none⟩=some y0:=by
 have h1:=Joins.block_setCell (i:=0) h y0
 have h2:=Joins.block_setCell (i:=1) h1 y1
 have h3:=Joins.block_setCell (i:=2) h2 y2
 have h4:=Joins.block_setCell (i:=3) h3 y3
 have h5:=Joins.block_setCell (i:=4) h4 y4
 exact aa (cs:= #[y0,y1,y2,y3,y4]) (by simpa using h5) 0
theorem five_below {w W:World} {b B:Nat} (h:Below B w W) (hb:B≤b) (y0 y1 y2 y3 y4:Value):Below B w (((((W.setCell ⟨b,0,none⟩ y0).setCell ⟨b,1,none⟩ y1).setCell ⟨b,2,none⟩ y2).setCell ⟨b,3,none⟩ y3).setCell ⟨b,4,none⟩ y4):=
 ((((h.setCell (p:=⟨b,0,none⟩) hb _).setCell (p:=⟨b,1,none⟩) hb _).setCell (p:=⟨b,2,none⟩) hb _).setCell (p:=⟨b,3,none⟩) hb _).setCell (p:=⟨b,4,none⟩) hb _
theorem cfiles_at (c a fs m:Nat) (clock:Int) (w:World) (h:CacheSelf w c a fs m clock):Calls Tryz.prog 63 #[.pointer (some ⟨c,0,none⟩)] w fun e w'=>e= .returned (.pointer (some ⟨fs,0,none⟩))∧w=w':=by
 have c1:w.cell? ⟨c,1,none⟩=some (.pointer (some ⟨fs,0,none⟩)):=aa h 1
 clear h
 go_enter Tryz.func63,Tryz.ntmps63
 go_wp2_with fail
 go_ret
 exact⟨rfl,rfl⟩
def FileAt2 (F:List Nd) (ino:Int):Prop:= ∃y,F[ino.toNat]? =some y∧y.kind=1
open Classical in
noncomputable def mapErr (F:List Nd) (rl:List Reg) (r:Reg):Int:=if(Rg.put rl r).2≠0 then(Rg.put rl r).2 else if 0≤r.ino∧ ¬FileAt2 F r.ino then 1 else 0
theorem meta_any (B fs nb c2:Nat) (ad mp:Nat→Nat) (F:List Nd) (ino:Int) (w:World) (h:FsIs w B fs nb c2 ad mp F) (h0:0≤ino): ∃(kd md u g:Nat) (n me:Int),((me=0∧kd=1)↔FileAt2 F ino)∧ ∀W,Below w.heap.size w W→
  Calls Tryz.prog 64 #[.pointer (some ⟨fs,0,none⟩), .int .i64 ino] W fun e w'=>e= .returned (.tuple #[.agg #[.int .u8 (kd:Int), .int .u16 (md:Int), .int .u32 (u:Int), .int .u32 (g:Int), .int .i64 n], .int .i64 me])∧Below W.heap.size W w':=by
 obtain⟨i,rfl⟩: ∃i:Nat,ino=(i:Int):=⟨ino.toNat,by omega⟩
 cases hy:F[i]? with
 |none=>
  refine⟨0,0,0,0,0,3,⟨fun e=>absurd e.1 (by decide),fun⟨y,h1,_⟩=>by rw[Int.toNat_natCast,hy]at h1;cases h1⟩,fun W hW=>?_⟩
  have hlen:=List.getElem?_eq_none_iff.1 hy
  exact fmeta_no B fs nb c2 ad mp F (i:Int) W (h.below hW) (.inr (by omega))
 |some y=>
  refine⟨y.kind,y.mode,y.uid,y.gid,y.n,0,⟨fun e=>⟨y,by rw[Int.toNat_natCast,hy],e.2⟩,fun⟨z,h1,h2⟩=>?_⟩,fun W hW=>fmeta_yes B fs nb c2 i ad mp F y W (h.below hW) hy⟩
  rw[Int.toNat_natCast,hy]at h1
  injection h1 with h1
  subst h1
  exact⟨rfl,h2⟩
def RegBox (W:World) (b:Nat) (r:Reg):Prop:=W.heap[b]? =some (.cells #[.int .u64 r.fr, .int .u64 r.to, .int .u8 r.prot, .int .i64 r.ino, .int .u64 r.off] 45 (0,0))
theorem smap_any (B c a fs m s t root n cap:Nat) (r:Reg) (A:Option Addr) (rl:List Reg) (clock:Int) (w:World) (S:Nat→Prop) (F:List Nd) (p:Pool) (L:List Slot) (T:Tab) (hold:Nat→Nat)
  (hH:Home w B c a fs m S F clock p L) (hO:One w B c a m S s t root A n cap rl) (hsp:Sp F hold p L T) (hr:T.nd 4 0=some root) (hok:AllOk rl) (hrok:r.Ok) (hfew:(Rg.put rl r).1.length≤1000000) (hot':(Rg.put rl r).2=0→r.to≤140737488355328):
  Calls Tryz.prog 25 #[.pointer (some ⟨s,0,none⟩), .agg #[.int .u64 (r).fr, .int .u64 (r).to, .int .u8 (r).prot, .int .i64 (r).ino, .int .u64 (r).off]] w (TurnPost w B c a fs m s t root S F clock L (Rg.put rl r).1 (fun er=>er=mapErr F rl r) (fun p'=> ∃T',Wiped F hold r.fr r.to p L T T.puts.length p' T')):=by
 refine(callsIn_wide (n:=9)).1 ?_
 refine callsIn_of_wp_marks Tryz.func25 rfl trivial ?_
 simp only[Tryz.ntmps25,List.size_toArray,List.length_cons,List.length_nil,Nat.reduceAdd,Nat.reduceSub,Array.replicate_succ,Array.replicate_zero,List.push_toArray,List.append_toArray,List.nil_append,List.cons_append]
 obtain⟨w0,hw0⟩: ∃w0,w0=(w.alloc (.cells #[.pointer (some ⟨s,0,none⟩)] 60)).alloc (.cells #[.int .u64 r.fr, .int .u64 r.to, .int .u8 r.prot, .int .i64 r.ino, .int .u64 r.off] 45):=⟨_,rfl⟩
 have hz0:w0.heap.size=w.heap.size+2:=by rw[hw0];simp
 have hb0:Below w.heap.size w w0:=by rw[hw0];exact((Below.refl _ _).alloc (Nat.le_refl _) _).alloc (by simp) _
 have hS0:w0.heap[w.heap.size]? =some (.cells #[.pointer (some ⟨s,0,none⟩)] 60 (0,0)):=by rw[hw0];exact(Below.heap_alloc _ _ _ (by simp)).trans (ab w _)
 have hR0:RegBox w0 (w.heap.size+1) r:=by
  unfold RegBox
  rw[hw0]
  have:=ab (w.alloc (.cells #[.pointer (some ⟨s,0,none⟩)] 60)) (.cells #[.int .u64 r.fr, .int .u64 r.to, .int .u8 r.prot, .int .i64 r.ino, .int .u64 r.off] 45)
  rwa [World.size_alloc]at this
 have hO0:=hO.below hb0
 have hH0:=hH.below hb0
 have hgone:=sgone_no s c a t n cap A w0 hO0.self
 have hput:=put_any r A n cap w0.drew rl (hO0.row.below ((Below.refl w0.heap.size w0).drew) (Nat.le_refl _)) hok hrok
 obtain⟨l2,hl2⟩: ∃l2,l2=(Rg.put rl r).1:=⟨_,rfl⟩
 obtain⟨e2,he2⟩: ∃e2,e2=(Rg.put rl r).2:=⟨_,rfl⟩
 rw[←hl2,←he2]at hput
 have hput2:Calls Tryz.prog 62 #[.slice A n cap, .agg #[.int .u64 (r).fr, .int .u64 (r).to, .int .u8 (r).prot, .int .i64 (r).ino, .int .u64 (r).off]] w0.drew fun e W=> ∃A1 cap1,e= .returned (.tuple #[.slice A1 l2.length cap1, .int .i64 e2])∧Hid (OwnR W w0.heap.size A1 cap1 l2)∧Hid (Below w0.heap.size w0 W):=by
  refine hput.mono ?_
  rintro e W ⟨A1,cap1,rfl,h1,h2⟩
  exact⟨A1,cap1,rfl,ae h1,ae (below_undrew h2)⟩
 have hme:(e2≠0→mapErr F rl r=e2)∧(e2=0→0≤r.ino∧ ¬FileAt2 F r.ino→mapErr F rl r=1)∧(e2=0→ ¬(0≤r.ino∧ ¬FileAt2 F r.ino)→mapErr F rl r=0):=by
  unfold mapErr
  rw[←he2]
  exact⟨fun h=>if_pos h,fun h h2=>by rw[if_neg (fun e=>e h),if_pos h2],fun h h2=>by rw[if_neg (fun e=>e h),if_neg h2]⟩
 rw[←hl2]
 rw[←hl2]at hfew
 rw[←he2]at hot'
 obtain⟨mE,hmE⟩: ∃mE,mE=mapErr F rl r:=⟨_,rfl⟩
 rw[←hmE]at hme⊢
 have s0:w0.cell? ⟨w.heap.size,0,none⟩=some (.pointer (some ⟨s,0,none⟩)):=aa hS0 0
 have s3:w0.cell? ⟨s,3,none⟩=some (.slice A n cap):=aa hO0.self 3
 have r0:w0.cell? ⟨w.heap.size+1,0,none⟩=some (.int .u64 r.fr):=aa hR0 0
 have r1:w0.cell? ⟨w.heap.size+1,1,none⟩=some (.int .u64 r.to):=aa hR0 1
 have r2:w0.cell? ⟨w.heap.size+1,2,none⟩=some (.int .u8 r.prot):=aa hR0 2
 have r3:w0.cell? ⟨w.heap.size+1,3,none⟩=some (.int .i64 r.ino):=aa hR0 3
 have r4:w0.cell? ⟨w.heap.size+1,4,none⟩=some (.int .u64 r.off):=aa hR0 4
 have HGONE:=ae hgone
 have HPUT:=ae hput2
 have HW0:=ae hw0
 have HZ0:=ae hz0
 have HB0:=ae hb0
 have HS0:=ae hS0
 have HR0:=ae hR0
 have HO0:=ae hO0
 have HH0:=ae hH0
 have HSP:=ae hsp
 have HR:=ae hr
 have HME:=ae hme
 have hsw:=hO.lts.1
 have HNS:=ae (show¬S w.heap.size from fun e=>by have:=hH.lts.2.2 _ e;omega)
 have hcm:c<w.heap.size∧m<w.heap.size:=⟨hH.lts.1,hH.lts.2.1⟩
 clear hgone hput hput2 hw0 hz0 hb0 hS0 hR0 hO0 hH0 hH hO hsp hr hl2 he2 hme hmE
 gi_upto_region 3 with(first
  |(refine⟨trivial,?_⟩;rw[←HW0.out];refine(callsIn_wide.2 HGONE.out).mono ?_;rintro e w1 ⟨rfl,rfl⟩)
  |fail)
 gi_cut [5,6]from 12 (fun x y wx=> ∃A1 cap1,x= .slice A1 l2.length cap1∧y= .int .i64 e2∧OwnR wx w0.heap.size A1 cap1 l2∧Below w0.heap.size w0 wx)
 case first=>
  refine wpIn_noOut ?_
  go_region_with ((first
   |(go_at_call 62;refine(HPUT.out).mono ?_;rintro e w1 ⟨A1,cap1,rfl,HO1,HB1⟩)))
  all_goals
   refine noOut_normal ?_
   go_wp2_with fail
   gi_meet
   exact⟨A1,cap1,rfl,rfl,HO1.out,HB1.out⟩
 case rest=>
 obtain⟨A1,cap1,rfl,rfl,ho1,hb1⟩:=hcut
 obtain⟨w1,rfl⟩: ∃w1,w1=wc:=⟨_,rfl⟩
 have HB1:=ae hb1
 have HO1:=ae ho1
 clear hb1 ho1 s0 s3 r0 r1 r2 r3 r4
 by_cases hres:e2=0
 rotate_left
 ·have hne:(e2 != 0)=true:=by rw[bne_iff_ne];exact hres
  have HRES:=ae hres
  clear hres
  gi_wp2
  refine⟨.int .i64 e2,by simp[results,Tryz.results25,go_sem], .inl ⟨e2,rfl,HRES.out,(HME.out.1 HRES.out).symm,HB0.out.trans (HB1.out.mono HB0.out.size)⟩⟩
 subst hres
 have hot:=hot' rfl
 clear hot'
 by_cases hi0:0≤r.ino
 rotate_left
 ·have HMZ:=ae (HME.out.2.2 rfl (fun h=>hi0 h.1))
  clear HME
  obtain⟨w2,hw2⟩: ∃w2,w2=w1.setCell ⟨s,3,none⟩ (.slice A1 l2.length cap1):=⟨_,rfl⟩
  obtain⟨hH2,hO2,hm2,hz2⟩:=One.laid HH0.out HO0.out HB1.out HO1.out (Nat.le_refl _) hfew
  rw[←hw2]at hH2 hO2 hm2 hz2
  have hO1:=HO0.out.below HB1.out
  have hS1:=(HB1.out.block _ (ac HS0.out).1).trans HS0.out
  have hS2:=(hm2.block _ (ac HS0.out).1 (by omega)).trans HS0.out
  have s0:w1.cell? ⟨w.heap.size,0,none⟩=some (.pointer (some ⟨s,0,none⟩)):=aa hS1 0
  have s3:w1.cell? ⟨s,3,none⟩=some (.slice A n cap):=aa hO1.self 3
  have sf3:=one_free hO1.self 3
  have t0:w2.cell? ⟨w.heap.size,0,none⟩=some (.pointer (some ⟨s,0,none⟩)):=aa hS2 0
  have hR0:w0.heap[w.heap.size+1]? =some (.cells #[.int .u64 r.fr, .int .u64 r.to, .int .u8 r.prot, .int .i64 r.ino, .int .u64 r.off] 45 (0,0)):=HR0.out
  have hR1:=(HB1.out.block _ (ac hR0).1).trans hR0
  have hR2:=(hm2.block _ (ac hR0).1 (by omega)).trans hR0
  have r3:w1.cell? ⟨w.heap.size+1,3,none⟩=some (.int .i64 r.ino):=aa hR1 3
  have u0:w2.cell? ⟨w.heap.size+1,0,none⟩=some (.int .u64 r.fr):=aa hR2 0
  have u1:w2.cell? ⟨w.heap.size+1,1,none⟩=some (.int .u64 r.to):=aa hR2 1
  have HW2:=ae hw2
  have HH2:=ae hH2
  have HO2:=ae hO2
  have HM2:=ae hm2
  have HS2:=ae hS2
  have hw02:w.heap.size<w2.heap.size:=(ac hS2).1
  clear hw2 hH2 hO2 hm2 hO1 hS1 hS2 hz2 hR0 hR1 hR2
  gi_upto_region 11 with(fail)
  rw[←HW2.out]
  gi_wp2_with (first
   |(refine⟨trivial,?_⟩;refine(callsIn_wide.2 (sthere_any _ _ _ w2)).mono ?_;rintro e w3 ⟨rfl,hw3⟩;have HW3:=ae hw3;clear hw3)
   |fail)
  have hz3:w3.heap.size=w2.heap.size+3:=by rw[HW3.out];simp
  refine wpIn_range2 rfl (by omega) (gf:=107) (lb:= #[.pointer (some ⟨w2.heap.size,0,none⟩), .pointer (some ⟨w2.heap.size+1,0,none⟩), .pointer (some ⟨w2.heap.size+1+1,0,none⟩)]) rfl trivial (enters_of Tryz.func107 (by kernel_rfl) rfl) ?_
  rw[hz3]
  intro fn hfn rec hrec
  refine(th_any (9-1) (by omega) B c a fs m s t root A1 l2.length cap1 l2 S F clock p L T hold r.fr r.to (.loop (rec .ready none)) (fun k p'=> ∃T',Wiped F hold r.fr r.to p L T k p' T') w2 w3 HH2.out HO2.out HSP.out HR.out HW3.out ⟨T,Wiped.start HSP.out⟩ (fun k p' x ⟨T',h⟩ hx hin=>⟨T',h.skip hx hin⟩) ?_).mono ?_
  ·rintro R cp k W ⟨pg,fq,pr,cb⟩ p1 hj hx hin
   dsimp only at hin
   refine yield_round2 trivial hrec hj.box.loop rfl ?_
   obtain⟨ad,had⟩: ∃ad:Int,ad=((pg*4096:Nat):Int):=⟨_,rfl⟩
   dsimp only
   rw[←had]
   obtain⟨T1,hT1⟩:=hj.rel
   have HX:=ae hx
   have HIN:=ae hin
   have HJ:=ae hj
   have HAD:=ae had
   have HT1:=ae hT1
   clear hx hin hj hrec had hT1
   gi_wp2
   obtain⟨W1,hW1⟩: ∃W1,W1=W.alloc (.cells #[.int .u64 ad, .int .i64 (fq:Int), .int .u8 (pr:Int), .bool cb] 85):=⟨_,rfl⟩
   rw[←hW1]
   have hb1:Below W.heap.size W W1:=by rw[hW1];exact(Below.refl _ _).alloc (Nat.le_refl _) _
   have hP1:W1.heap[W.heap.size]? =some (.cells #[.int .u64 ad, .int .i64 (fq:Int), .int .u8 (pr:Int), .bool cb] 85 (0,0)):=by rw[hW1];exact ab W _
   have hj1:=HJ.out.below hb1
   refine⟨hj1.box.loop,?_⟩
   obtain⟨W2,hW2⟩: ∃W2,W2=W1.putObj (w2.heap.size+3+1) (.loop (rec .busy none)):=⟨_,rfl⟩
   rw[←hW2]
   have hm2:Mod (fun b=>b=w2.heap.size+3+1) W1 W2:=by rw[hW2];exact mod_put
   have hl1:=hj1.box.loop
   have hlW:=HJ.out.box.lts
   have hl2:W2.heap[w2.heap.size+3+1]? =some (.loop (rec .busy none)):=by rw[hW2];exact World.putObj_heap_same (ac hl1).1
   have hrun2:=hj1.run.set hm2 (fun b e=> .inl (by omega))
   have hbox2:ThBox W2 s w2.heap.size r.fr r.to (.loop (rec .busy none)):=⟨(hm2.block _ (ac hj1.box.b1).1 (by omega)).trans hj1.box.b1,(hm2.block _ (ac hj1.box.b2).1 (by omega)).trans hj1.box.b2,(hm2.block _ (ac hj1.box.b3).1 (by omega)).trans hj1.box.b3,(hm2.block _ (ac hj1.box.mark).1 (by omega)).trans hj1.box.mark,hl2⟩
   have hrow2:OwnP W2 (w2.heap.size+5) R cp T.puts:=hj1.row.same fun g hg=>by
    have h9:=hj1.row.blk g (by rw[hg];rfl)
    exact hm2.block g h9.2 (by omega)
   have hP2:=(hm2.block _ (ac hP1).1 (by omega)).trans hP1
   have hlts:=HH2.out.lts
   have hS3:W2.heap[w.heap.size]? =w2.heap[w.heap.size]? :=hrun2.mod.block w.heap.size hw02 (fun e=>e.elim (fun e=>HNS.out e) (fun e=>by omega))
   have c0:W2.cell? ⟨w.heap.size,0,none⟩=some (.pointer (some ⟨s,0,none⟩)):=aa (hS3.trans HS2.out) 0
   have s2:W2.cell? ⟨s,2,none⟩=some (.pointer (some ⟨t,0,none⟩)):=aa hrun2.one.self 2
   have x0:W2.cell? ⟨W.heap.size,0,none⟩=some (.int .u64 ad):=aa hP2 0
   have hroot:T1.nd 4 0=some root:=HT1.out.top.trans HR.out
   have hun:=tunmap_any t c a root ad W2.drew S p1 T1 (held L hold) 0 hrun2.home.cache.pool.drew hrun2.one.tab hrun2.one.noT.1 HT1.out.sp.good hroot (by have:=HAD.out;omega)
   have HUN:=ae hun
   have HRUN2:=ae hrun2
   have HBOX2:=ae hbox2
   have HROW2:=ae hrow2
   have hmx:Tryz.prog.follows .mixedOrders=true:=by kernel_rfl
   clear hun hrun2 hbox2 hrow2 hW1 hW2 hb1 hP1 hP2 hm2 hl1 hl2 hj1 hS3 hroot
   gi_upto_region 13 with(fail)
   refine wpIn_region_Z (fun w'=>w'.cell? ⟨w.heap.size,0,none⟩=some (.pointer (some ⟨s,0,none⟩))∧w'.cell? ⟨s,2,none⟩=some (.pointer (some ⟨t,0,none⟩))∧w'.cell? ⟨W.heap.size,0,none⟩=some (.int .u64 ad)) 6 (by kernel_rfl) (by kernel_rfl) (LastIs.of 5 (by kernel_rfl) (by kernel_rfl)) ⟨c0,s2,x0⟩ ?_
   intro HLZ HSW
   refine zt 0 ?_
   refine zt 1 ?_
   refine zt 2 ?_
   refine zt 3 ?_
   refine zt 4 ?_
   refine zt 5 ?_
   refine wpAnyZ_last 6 (by kernel_rfl) rfl rfl (fun K' hK=>?_)
   go_simp
   refine(HUN.out).mono ?_
   rintro e W6 ⟨er,p6,T6,rfl,hP6,hm6',hun6⟩
   have hm6:=hm6'.undrew
   obtain⟨hrun6,hk6⟩:=HRUN2.out.pool hP6 hm6
   go_wp2_with fail
   refine hK.out _ _ ?_
   clear hK K'
   refine wpAnyZ_done (by kernel_rfl) ?_ _
   refine noOut_normal ?_
   have hbox6:=HBOX2.out.keep (W':=W6) (fun b h1 h2=>hk6 b (.inl ⟨h1,h2⟩))
   have hrow6:OwnP W6 (w2.heap.size+5) R cp T.puts:=HROW2.out.same fun g hg=>hk6 g (.inr (by rw[hg];rfl))
   have hm7:=mod_put (l:=w2.heap.size+3+1) (o:= .loop (rec .ready none)) (W:=W6)
   have hl6:=hbox6.loop
   have hkp: ∀ {b:Nat} {o:Obj},W6.heap[b]? =some o→b≠w2.heap.size+3+1→(W6.putObj (w2.heap.size+3+1) (.loop (rec .ready none))).heap[b]? =some o:=fun h1 h2=>(hm7.block _ (ac h1).1 h2).trans h1
   refine⟨hl6,rfl,p6,hrun6.set hm7 (fun b e=> .inl (by omega)),⟨hkp hbox6.b1 (by omega),hkp hbox6.b2 (by omega),hkp hbox6.b3 (by omega),hkp hbox6.mark (by omega),World.putObj_heap_same (ac hl6).1⟩,hrow6.same fun g hg=>?_,T6,HT1.out.step HX.out HIN.out hot (by rw[HAD.out];dsimp only;omega) hun6⟩
   have h9:=hrow6.blk g (by rw[hg];rfl)
   exact hm7.block g h9.2 (by omega)
  ·rintro e W ⟨hv,R,cp,p1,hj⟩
   refine⟨hv, .inl ⟨hj.box.loop,?_⟩⟩
   obtain⟨W2,hW2⟩: ∃W2,W2=W.putObj (w2.heap.size+3+1) (.loop (rec .exhausted none)):=⟨_,rfl⟩
   rw[←hW2]
   have hm2:Mod (fun b=>b=w2.heap.size+3+1) W W2:=by rw[hW2];exact mod_put
   have hrun2:=hj.run.set hm2 (fun b e=> .inl (by omega))
   have hM2:=(hm2.block _ (ac hj.box.mark).1 (by omega)).trans hj.box.mark
   have HRUN2:=ae hrun2
   have HM3:=ae hM2
   have HREL:=ae hj.rel
   clear hW2 hm2 hrun2 hM2 hj hrec hv
   unfold markOf
   gi_wp2
   refine⟨by simp, .inl ⟨_,_,rfl,run_takeDeferred HM3.out,?_⟩⟩
   have hmd:=mod_put (l:=w2.heap.size+3) (o:= .deferred none) (W:=W2)
   have hrun5:=HRUN2.out.set hmd (fun b e=> .inl (by omega))
   refine⟨.int .i64 0,by simp[results,Tryz.results25,go_sem],(.inr ⟨rfl,HMZ.out.symm,A1,cap1,p1,hrun5.home,hrun5.one,?_,(fun ad e=>by have h1:=HO1.out.row ad.block (by rw[e];rfl);have h2:=HB0.out.size;omega),HREL.out⟩)⟩
   have hA:Mod (fun b=>FootS S c m b∨b=s) w w2:=((Mod.of HB0.out).trans (Out.refl _ _) (HM2.out)).sub fun b e=> .inr e
   exact hA.trans (Out.refl _ _) (hrun5.mod.sub fun b e=> .inl e)
 ·have hR0':w0.heap[w.heap.size+1]? =some (.cells #[.int .u64 r.fr, .int .u64 r.to, .int .u8 r.prot, .int .i64 r.ino, .int .u64 r.off] 45 (0,0)):=HR0.out
  have hR1:=(HB1.out.block _ (ac hR0').1).trans hR0'
  have hS1:=(HB1.out.block _ (ac HS0.out).1).trans HS0.out
  have hO1:=HO0.out.below HB1.out
  have hH1:=HH0.out.below HB1.out
  obtain⟨B1,nb,cc2,adf,mpf,hfs⟩:=hH1.fs
  obtain⟨kd,md,ui,gi,nn,me,hmi,hmeta⟩:=meta_any B1 fs nb cc2 adf mpf F r.ino w1 hfs hi0
  have hfil: ∀W,Below w1.heap.size w1 W→Calls Tryz.prog 63 #[.pointer (some ⟨c,0,none⟩)] W fun e w'=>e= .returned (.pointer (some ⟨fs,0,none⟩))∧W=w':=fun W hW=>cfiles_at c a fs m clock W (hH1.below hW).cache.self
  have s0:w1.cell? ⟨w.heap.size,0,none⟩=some (.pointer (some ⟨s,0,none⟩)):=aa hS1 0
  have s1:w1.cell? ⟨s,0,none⟩=some (.pointer (some ⟨c,0,none⟩)):=aa hO1.self 0
  have r3:w1.cell? ⟨w.heap.size+1,3,none⟩=some (.int .i64 r.ino):=aa hR1 3
  have hl1:w.heap.size+1<w1.heap.size:=(ac hR1).1
  have hsw1:s<w1.heap.size:=hO1.lts.1
  have hlw1:w.heap.size<w1.heap.size:=by omega
  have HMETA:=ae hmeta
  have HFIL:=ae hfil
  have HMI:=ae hmi
  clear hmeta hfil hmi hfs hR0' hR1 hS1 hO1 hH1
  have HBD:=ae (show Below w1.heap.size w1 w1.drew from(Below.refl _ _).drew)
  have HBE:=ae (show∀o,Below w1.heap.size w1 (w1.drew.alloc o)from fun o=>((Below.refl w1.heap.size w1).drew).alloc (by simp) o)
  have HSB:=ae (show∀W,Below w1.heap.size w1 W→W.cell? ⟨w.heap.size,0,none⟩=some (.pointer (some ⟨s,0,none⟩))∧W.cell? ⟨s,0,none⟩=some (.pointer (some ⟨c,0,none⟩))∧W.cell? ⟨w.heap.size+1,3,none⟩=some (.int .i64 r.ino)from fun W hW=>⟨(hW.cell hlw1).trans s0,(hW.cell hsw1).trans s1,(hW.cell hl1).trans r3⟩)
  have hmx:Tryz.prog.follows .mixedOrders=true:=by kernel_rfl
  gi_upto_region 7 with(fail)
  gi_cut [7,8]from 27 (fun x y wx=> ∃b,x= .pointer (some ⟨b,0,none⟩)∧y= .int .i64 me∧wx.cell? ⟨b,0,none⟩=some (.int .u8 (kd:Int))∧Below w1.heap.size w1 wx)
  case first=>
   refine wpIn_noOut ?_
   refine wp_region_Z (fun w'=>w'.cell? ⟨w.heap.size,0,none⟩=some (.pointer (some ⟨s,0,none⟩))∧w'.cell? ⟨s,0,none⟩=some (.pointer (some ⟨c,0,none⟩))∧w'.cell? ⟨w.heap.size+1,3,none⟩=some (.int .i64 r.ino)) 13 (by kernel_rfl) (LastIs.of 12 (by kernel_rfl) (by kernel_rfl)) (HSB.out _ HBD.out) ?_
   intro HLZ HSW
   refine zt 0 ?_
   refine zt 1 ?_
   refine zt 2 ?_
   refine zt 3 ?_
   refine zt 5 ?_
   refine zt 6 ?_
   refine wpAnyZ_two 4 11 (by kernel_rfl) rfl rfl (fun K' hK=>?_) (fun K' hK=>?_)
   ·go_simp
    refine(HFIL.out _ HBD.out).mono ?_
    rintro e w4 ⟨rfl,rfl⟩
    go_wp2_with fail
    refine hK.out _ _ (HSB.out _ HBD.out) (fun HSW=>?_)
    clear hK K'
    try simp only[Act.put,List.setIfInBounds_toArray,List.set_cons_zero,List.set_cons_succ,List.getElem_toArray,List.getElem_cons_succ,List.getElem_cons_zero]
    refine wpAnyZ_two 7 11 (by kernel_rfl) rfl rfl (fun K' hK=>?_) (fun K' hK=>?_)
    ·go_simp
     refine(HMETA.out _ HBD.out).mono ?_
     rintro e w5 ⟨rfl,hb5'⟩
     have hb5:Below w1.heap.size w1 w5:=(HBD.out).trans (hb5'.mono (Nat.le_refl _))
     have HB5:=ae hb5
     clear hb5 hb5'
     go_wp2_with fail
     refine hK.out _ _ (HSB.out _ HB5.out) (fun HSW=>?_)
     clear hK K'
     try simp only[Act.put,List.setIfInBounds_toArray,List.set_cons_zero,List.set_cons_succ,List.getElem_toArray,List.getElem_cons_succ,List.getElem_cons_zero]
     refine zt 8 ?_
     refine zt 9 ?_
     refine zt 10 ?_
     refine wpAnyZ_step 11 (by kernel_rfl) rfl (fun K' hK=>?_)
     go_simp
     have HB6:=ae ((HB5.out).alloc HB5.out.size (.cells #[.int .u8 0, .int .u16 0, .int .u32 0, .int .u32 0, .int .i64 0] 103))
     refine hK.out _ _ (HSB.out _ HB6.out) (fun HSW=>?_)
     clear hK K'
     try simp only[Act.put,List.setIfInBounds_toArray,List.set_cons_zero,List.set_cons_succ,List.getElem_toArray,List.getElem_cons_succ,List.getElem_cons_zero]
     have hx5:=ab w5 (.cells #[.int .u8 0, .int .u16 0, .int .u32 0, .int .u32 0, .int .i64 0] 103)
     obtain⟨w6,hw6⟩: ∃w6,w6=w5.alloc (.cells #[.int .u8 0, .int .u16 0, .int .u32 0, .int .u32 0, .int .i64 0] 103):=⟨_,rfl⟩
     rw[←hw6]at hx5 HB6 HSW⊢
     clear hw6
     have HX5:=ae hx5
     have k0:w6.cell? ⟨w5.heap.size,0,none⟩=some (.int .u8 0):=aa hx5 0
     have k1:w6.cell? ⟨w5.heap.size,1,none⟩=some (.int .u16 0):=aa hx5 1
     have k2:w6.cell? ⟨w5.heap.size,2,none⟩=some (.int .u32 0):=aa hx5 2
     have k3:w6.cell? ⟨w5.heap.size,3,none⟩=some (.int .u32 0):=aa hx5 3
     have k4:w6.cell? ⟨w5.heap.size,4,none⟩=some (.int .i64 0):=aa hx5 4
     have kf0:w6.frozen? ⟨w5.heap.size,0,none⟩=false:=one_free hx5 0
     have kf1:w6.frozen? ⟨w5.heap.size,1,none⟩=false:=one_free hx5 1
     have kf2:w6.frozen? ⟨w5.heap.size,2,none⟩=false:=one_free hx5 2
     have kf3:w6.frozen? ⟨w5.heap.size,3,none⟩=false:=one_free hx5 3
     have kf4:w6.frozen? ⟨w5.heap.size,4,none⟩=false:=one_free hx5 4
     refine wpAnyZ_step 12 (by kernel_rfl) rfl (fun K' hK=>?_)
     go_simp
     have HB7:=ae (five_below HB6.out (HB5.out.size) (.int .u8 (kd:Int)) (.int .u16 (md:Int)) (.int .u32 (ui:Int)) (.int .u32 (gi:Int)) (.int .i64 nn))
     refine hK.out _ _ (HSB.out _ HB7.out) (fun HSW=>?_)
     clear hK K' k0 k1 k2 k3 k4 kf0 kf1 kf2 kf3 kf4 hx5
     try simp only[Act.put,List.setIfInBounds_toArray,List.set_cons_zero,List.set_cons_succ,List.getElem_toArray,List.getElem_cons_succ,List.getElem_cons_zero]
     refine wpAnyZ_last 13 (by kernel_rfl) rfl rfl (fun K' hK=>?_)
     go_simp
     refine hK.out _ _ ?_
     clear hK K'
     refine wpAnyZ_done (by kernel_rfl) ?_ _
     refine noOut_normal ?_
     gi_wp2
     gi_meet
     exact⟨w5.heap.size,rfl,rfl,five_first HX5.out,HB7.out⟩
    ·go_simp
     refine hK.out _ _ (HSB.out _ (HBE.out _)) (fun HSW=>?_)
     clear hK K'
     try simp only[Act.put,List.setIfInBounds_toArray,List.set_cons_zero,List.set_cons_succ,List.getElem_toArray,List.getElem_cons_succ,List.getElem_cons_zero]
     refine wpAnyZ_step 7 (by kernel_rfl) rfl (fun K' hK=>?_)
     go_simp
     refine(HMETA.out _ (HBE.out _)).mono ?_
     rintro e w5 ⟨rfl,hb5'⟩
     have hb5:Below w1.heap.size w1 w5:=((HBE.out _)).trans (hb5'.mono (by simp))
     have HB5:=ae hb5
     clear hb5
     have hx5:w5.heap[w1.heap.size]? =some (.cells #[.int .u8 0, .int .u16 0, .int .u32 0, .int .u32 0, .int .i64 0] 103 (0,0)):=(hb5'.block w1.heap.size (by simp)).trans (ab w1.drew _)
     have HX5:=ae hx5
     clear hb5'
     go_wp2_with fail
     refine hK.out _ _ (HSB.out _ HB5.out) (fun HSW=>?_)
     clear hK K'
     try simp only[Act.put,List.setIfInBounds_toArray,List.set_cons_zero,List.set_cons_succ,List.getElem_toArray,List.getElem_cons_succ,List.getElem_cons_zero]
     refine zt 8 ?_
     refine zt 9 ?_
     refine zt 10 ?_
     have k0:w5.cell? ⟨w1.heap.size,0,none⟩=some (.int .u8 0):=aa hx5 0
     have k1:w5.cell? ⟨w1.heap.size,1,none⟩=some (.int .u16 0):=aa hx5 1
     have k2:w5.cell? ⟨w1.heap.size,2,none⟩=some (.int .u32 0):=aa hx5 2
     have k3:w5.cell? ⟨w1.heap.size,3,none⟩=some (.int .u32 0):=aa hx5 3
     have k4:w5.cell? ⟨w1.heap.size,4,none⟩=some (.int .i64 0):=aa hx5 4
     have kf0:w5.frozen? ⟨w1.heap.size,0,none⟩=false:=one_free hx5 0
     have kf1:w5.frozen? ⟨w1.heap.size,1,none⟩=false:=one_free hx5 1
     have kf2:w5.frozen? ⟨w1.heap.size,2,none⟩=false:=one_free hx5 2
     have kf3:w5.frozen? ⟨w1.heap.size,3,none⟩=false:=one_free hx5 3
     have kf4:w5.frozen? ⟨w1.heap.size,4,none⟩=false:=one_free hx5 4
     refine wpAnyZ_step 12 (by kernel_rfl) rfl (fun K' hK=>?_)
     go_simp
     have HB7:=ae (five_below HB5.out (Nat.le_refl _) (.int .u8 (kd:Int)) (.int .u16 (md:Int)) (.int .u32 (ui:Int)) (.int .u32 (gi:Int)) (.int .i64 nn))
     refine hK.out _ _ (HSB.out _ HB7.out) (fun HSW=>?_)
     clear hK K' k0 k1 k2 k3 k4 kf0 kf1 kf2 kf3 kf4 hx5
     try simp only[Act.put,List.setIfInBounds_toArray,List.set_cons_zero,List.set_cons_succ,List.getElem_toArray,List.getElem_cons_succ,List.getElem_cons_zero]
     refine wpAnyZ_last 13 (by kernel_rfl) rfl rfl (fun K' hK=>?_)
     go_simp
     refine hK.out _ _ ?_
     clear hK K'
     refine wpAnyZ_done (by kernel_rfl) ?_ _
     refine noOut_normal ?_
     gi_wp2
     gi_meet
     exact⟨w1.heap.size,rfl,rfl,five_first HX5.out,HB7.out⟩
   ·go_simp
    refine hK.out _ _ (HSB.out _ (HBE.out _)) (fun HSW=>?_)
    clear hK K'
    try simp only[Act.put,List.setIfInBounds_toArray,List.set_cons_zero,List.set_cons_succ,List.getElem_toArray,List.getElem_cons_succ,List.getElem_cons_zero]
    refine wpAnyZ_step 4 (by kernel_rfl) rfl (fun K' hK=>?_)
    go_simp
    refine(HFIL.out _ (HBE.out _)).mono ?_
    rintro e w4 ⟨rfl,rfl⟩
    go_wp2_with fail
    refine hK.out _ _ (HSB.out _ (HBE.out _)) (fun HSW=>?_)
    clear hK K'
    try simp only[Act.put,List.setIfInBounds_toArray,List.set_cons_zero,List.set_cons_succ,List.getElem_toArray,List.getElem_cons_succ,List.getElem_cons_zero]
    refine wpAnyZ_step 7 (by kernel_rfl) rfl (fun K' hK=>?_)
    go_simp
    refine(HMETA.out _ (HBE.out _)).mono ?_
    rintro e w5 ⟨rfl,hb5'⟩
    have hb5:Below w1.heap.size w1 w5:=((HBE.out _)).trans (hb5'.mono (by simp))
    have HB5:=ae hb5
    clear hb5
    have hx5:w5.heap[w1.heap.size]? =some (.cells #[.int .u8 0, .int .u16 0, .int .u32 0, .int .u32 0, .int .i64 0] 103 (0,0)):=(hb5'.block w1.heap.size (by simp)).trans (ab w1.drew _)
    have HX5:=ae hx5
    clear hb5'
    go_wp2_with fail
    refine hK.out _ _ (HSB.out _ HB5.out) (fun HSW=>?_)
    clear hK K'
    try simp only[Act.put,List.setIfInBounds_toArray,List.set_cons_zero,List.set_cons_succ,List.getElem_toArray,List.getElem_cons_succ,List.getElem_cons_zero]
    refine zt 8 ?_
    refine zt 9 ?_
    refine zt 10 ?_
    have k0:w5.cell? ⟨w1.heap.size,0,none⟩=some (.int .u8 0):=aa hx5 0
    have k1:w5.cell? ⟨w1.heap.size,1,none⟩=some (.int .u16 0):=aa hx5 1
    have k2:w5.cell? ⟨w1.heap.size,2,none⟩=some (.int .u32 0):=aa hx5 2
    have k3:w5.cell? ⟨w1.heap.size,3,none⟩=some (.int .u32 0):=aa hx5 3
    have k4:w5.cell? ⟨w1.heap.size,4,none⟩=some (.int .i64 0):=aa hx5 4
    have kf0:w5.frozen? ⟨w1.heap.size,0,none⟩=false:=one_free hx5 0
    have kf1:w5.frozen? ⟨w1.heap.size,1,none⟩=false:=one_free hx5 1
    have kf2:w5.frozen? ⟨w1.heap.size,2,none⟩=false:=one_free hx5 2
    have kf3:w5.frozen? ⟨w1.heap.size,3,none⟩=false:=one_free hx5 3
    have kf4:w5.frozen? ⟨w1.heap.size,4,none⟩=false:=one_free hx5 4
    refine wpAnyZ_step 12 (by kernel_rfl) rfl (fun K' hK=>?_)
    go_simp
    have HB7:=ae (five_below HB5.out (Nat.le_refl _) (.int .u8 (kd:Int)) (.int .u16 (md:Int)) (.int .u32 (ui:Int)) (.int .u32 (gi:Int)) (.int .i64 nn))
    refine hK.out _ _ (HSB.out _ HB7.out) (fun HSW=>?_)
    clear hK K' k0 k1 k2 k3 k4 kf0 kf1 kf2 kf3 kf4 hx5
    try simp only[Act.put,List.setIfInBounds_toArray,List.set_cons_zero,List.set_cons_succ,List.getElem_toArray,List.getElem_cons_succ,List.getElem_cons_zero]
    refine wpAnyZ_last 13 (by kernel_rfl) rfl rfl (fun K' hK=>?_)
    go_simp
    refine hK.out _ _ ?_
    clear hK K'
    refine wpAnyZ_done (by kernel_rfl) ?_ _
    refine noOut_normal ?_
    gi_wp2
    gi_meet
    exact⟨w1.heap.size,rfl,rfl,five_first HX5.out,HB7.out⟩
  case rest=>
  obtain⟨mb,rfl,rfl,hmb,hb6⟩:=hcut
  obtain⟨w6,rfl⟩: ∃w6,w6=wc:=⟨_,rfl⟩
  have HB6:=ae (HB1.out.trans (hb6.mono HB1.out.size))
  have HO6:=ae (HO1.out.below hb6 (Nat.le_refl _))
  clear hb6 s0 s1 r3 hl1 hsw1 hlw1 HMETA HFIL HB1 HO1 HPUT HGONE HBD HBE HSB
  have HB1:=HB6
  have HO1:=HO6
  clear HB6 HO6
  clear w1
  obtain⟨w1,rfl⟩: ∃w1,w1=w6:=⟨_,rfl⟩
  by_cases hfile:me=0∧kd=1
  ·obtain⟨rfl,rfl⟩:=hfile
   have HMZ:=ae (HME.out.2.2 rfl (fun h=>h.2 (HMI.out.1 ⟨rfl,rfl⟩)))
   clear HME HMI
   obtain⟨w2,hw2⟩: ∃w2,w2=w1.setCell ⟨s,3,none⟩ (.slice A1 l2.length cap1):=⟨_,rfl⟩
   obtain⟨hH2,hO2,hm2,hz2⟩:=One.laid HH0.out HO0.out HB1.out HO1.out (Nat.le_refl _) hfew
   rw[←hw2]at hH2 hO2 hm2 hz2
   have hO1:=HO0.out.below HB1.out
   have hS1:=(HB1.out.block _ (ac HS0.out).1).trans HS0.out
   have hS2:=(hm2.block _ (ac HS0.out).1 (by omega)).trans HS0.out
   have s0:w1.cell? ⟨w.heap.size,0,none⟩=some (.pointer (some ⟨s,0,none⟩)):=aa hS1 0
   have s3:w1.cell? ⟨s,3,none⟩=some (.slice A n cap):=aa hO1.self 3
   have sf3:=one_free hO1.self 3
   have t0:w2.cell? ⟨w.heap.size,0,none⟩=some (.pointer (some ⟨s,0,none⟩)):=aa hS2 0
   have hR0:w0.heap[w.heap.size+1]? =some (.cells #[.int .u64 r.fr, .int .u64 r.to, .int .u8 r.prot, .int .i64 r.ino, .int .u64 r.off] 45 (0,0)):=HR0.out
   have hR1:=(HB1.out.block _ (ac hR0).1).trans hR0
   have hR2:=(hm2.block _ (ac hR0).1 (by omega)).trans hR0
   have r3:w1.cell? ⟨w.heap.size+1,3,none⟩=some (.int .i64 r.ino):=aa hR1 3
   have u0:w2.cell? ⟨w.heap.size+1,0,none⟩=some (.int .u64 r.fr):=aa hR2 0
   have u1:w2.cell? ⟨w.heap.size+1,1,none⟩=some (.int .u64 r.to):=aa hR2 1
   have HW2:=ae hw2
   have HH2:=ae hH2
   have HO2:=ae hO2
   have HM2:=ae hm2
   have HS2:=ae hS2
   have hw02:w.heap.size<w2.heap.size:=(ac hS2).1
   clear hw2 hH2 hO2 hm2 hO1 hS1 hS2 hz2 hR0 hR1 hR2
   gi_upto_region 11 with(fail)
   rw[←HW2.out]
   gi_wp2_with (first
    |(refine⟨trivial,?_⟩;refine(callsIn_wide.2 (sthere_any _ _ _ w2)).mono ?_;rintro e w3 ⟨rfl,hw3⟩;have HW3:=ae hw3;clear hw3)
    |fail)
   have hz3:w3.heap.size=w2.heap.size+3:=by rw[HW3.out];simp
   refine wpIn_range2 rfl (by omega) (gf:=107) (lb:= #[.pointer (some ⟨w2.heap.size,0,none⟩), .pointer (some ⟨w2.heap.size+1,0,none⟩), .pointer (some ⟨w2.heap.size+1+1,0,none⟩)]) rfl trivial (enters_of Tryz.func107 (by kernel_rfl) rfl) ?_
   rw[hz3]
   intro fn hfn rec hrec
   refine(th_any (9-1) (by omega) B c a fs m s t root A1 l2.length cap1 l2 S F clock p L T hold r.fr r.to (.loop (rec .ready none)) (fun k p'=> ∃T',Wiped F hold r.fr r.to p L T k p' T') w2 w3 HH2.out HO2.out HSP.out HR.out HW3.out ⟨T,Wiped.start HSP.out⟩ (fun k p' x ⟨T',h⟩ hx hin=>⟨T',h.skip hx hin⟩) ?_).mono ?_
   ·rintro R cp k W ⟨pg,fq,pr,cb⟩ p1 hj hx hin
    dsimp only at hin
    refine yield_round2 trivial hrec hj.box.loop rfl ?_
    obtain⟨ad,had⟩: ∃ad:Int,ad=((pg*4096:Nat):Int):=⟨_,rfl⟩
    dsimp only
    rw[←had]
    obtain⟨T1,hT1⟩:=hj.rel
    have HX:=ae hx
    have HIN:=ae hin
    have HJ:=ae hj
    have HAD:=ae had
    have HT1:=ae hT1
    clear hx hin hj hrec had hT1
    gi_wp2
    obtain⟨W1,hW1⟩: ∃W1,W1=W.alloc (.cells #[.int .u64 ad, .int .i64 (fq:Int), .int .u8 (pr:Int), .bool cb] 85):=⟨_,rfl⟩
    rw[←hW1]
    have hb1:Below W.heap.size W W1:=by rw[hW1];exact(Below.refl _ _).alloc (Nat.le_refl _) _
    have hP1:W1.heap[W.heap.size]? =some (.cells #[.int .u64 ad, .int .i64 (fq:Int), .int .u8 (pr:Int), .bool cb] 85 (0,0)):=by rw[hW1];exact ab W _
    have hj1:=HJ.out.below hb1
    refine⟨hj1.box.loop,?_⟩
    obtain⟨W2,hW2⟩: ∃W2,W2=W1.putObj (w2.heap.size+3+1) (.loop (rec .busy none)):=⟨_,rfl⟩
    rw[←hW2]
    have hm2:Mod (fun b=>b=w2.heap.size+3+1) W1 W2:=by rw[hW2];exact mod_put
    have hl1:=hj1.box.loop
    have hlW:=HJ.out.box.lts
    have hl2:W2.heap[w2.heap.size+3+1]? =some (.loop (rec .busy none)):=by rw[hW2];exact World.putObj_heap_same (ac hl1).1
    have hrun2:=hj1.run.set hm2 (fun b e=> .inl (by omega))
    have hbox2:ThBox W2 s w2.heap.size r.fr r.to (.loop (rec .busy none)):=⟨(hm2.block _ (ac hj1.box.b1).1 (by omega)).trans hj1.box.b1,(hm2.block _ (ac hj1.box.b2).1 (by omega)).trans hj1.box.b2,(hm2.block _ (ac hj1.box.b3).1 (by omega)).trans hj1.box.b3,(hm2.block _ (ac hj1.box.mark).1 (by omega)).trans hj1.box.mark,hl2⟩
    have hrow2:OwnP W2 (w2.heap.size+5) R cp T.puts:=hj1.row.same fun g hg=>by
     have h9:=hj1.row.blk g (by rw[hg];rfl)
     exact hm2.block g h9.2 (by omega)
    have hP2:=(hm2.block _ (ac hP1).1 (by omega)).trans hP1
    have hlts:=HH2.out.lts
    have hS3:W2.heap[w.heap.size]? =w2.heap[w.heap.size]? :=hrun2.mod.block w.heap.size hw02 (fun e=>e.elim (fun e=>HNS.out e) (fun e=>by omega))
    have c0:W2.cell? ⟨w.heap.size,0,none⟩=some (.pointer (some ⟨s,0,none⟩)):=aa (hS3.trans HS2.out) 0
    have s2:W2.cell? ⟨s,2,none⟩=some (.pointer (some ⟨t,0,none⟩)):=aa hrun2.one.self 2
    have x0:W2.cell? ⟨W.heap.size,0,none⟩=some (.int .u64 ad):=aa hP2 0
    have hroot:T1.nd 4 0=some root:=HT1.out.top.trans HR.out
    have hun:=tunmap_any t c a root ad W2.drew S p1 T1 (held L hold) 0 hrun2.home.cache.pool.drew hrun2.one.tab hrun2.one.noT.1 HT1.out.sp.good hroot (by have:=HAD.out;omega)
    have HUN:=ae hun
    have HRUN2:=ae hrun2
    have HBOX2:=ae hbox2
    have HROW2:=ae hrow2
    have hmx:Tryz.prog.follows .mixedOrders=true:=by kernel_rfl
    clear hun hrun2 hbox2 hrow2 hW1 hW2 hb1 hP1 hP2 hm2 hl1 hl2 hj1 hS3 hroot
    gi_upto_region 13 with(fail)
    refine wpIn_region_Z (fun w'=>w'.cell? ⟨w.heap.size,0,none⟩=some (.pointer (some ⟨s,0,none⟩))∧w'.cell? ⟨s,2,none⟩=some (.pointer (some ⟨t,0,none⟩))∧w'.cell? ⟨W.heap.size,0,none⟩=some (.int .u64 ad)) 6 (by kernel_rfl) (by kernel_rfl) (LastIs.of 5 (by kernel_rfl) (by kernel_rfl)) ⟨c0,s2,x0⟩ ?_
    intro HLZ HSW
    refine zt 0 ?_
    refine zt 1 ?_
    refine zt 2 ?_
    refine zt 3 ?_
    refine zt 4 ?_
    refine zt 5 ?_
    refine wpAnyZ_last 6 (by kernel_rfl) rfl rfl (fun K' hK=>?_)
    go_simp
    refine(HUN.out).mono ?_
    rintro e W6 ⟨er,p6,T6,rfl,hP6,hm6',hun6⟩
    have hm6:=hm6'.undrew
    obtain⟨hrun6,hk6⟩:=HRUN2.out.pool hP6 hm6
    go_wp2_with fail
    refine hK.out _ _ ?_
    clear hK K'
    refine wpAnyZ_done (by kernel_rfl) ?_ _
    refine noOut_normal ?_
    have hbox6:=HBOX2.out.keep (W':=W6) (fun b h1 h2=>hk6 b (.inl ⟨h1,h2⟩))
    have hrow6:OwnP W6 (w2.heap.size+5) R cp T.puts:=HROW2.out.same fun g hg=>hk6 g (.inr (by rw[hg];rfl))
    have hm7:=mod_put (l:=w2.heap.size+3+1) (o:= .loop (rec .ready none)) (W:=W6)
    have hl6:=hbox6.loop
    have hkp: ∀ {b:Nat} {o:Obj},W6.heap[b]? =some o→b≠w2.heap.size+3+1→(W6.putObj (w2.heap.size+3+1) (.loop (rec .ready none))).heap[b]? =some o:=fun h1 h2=>(hm7.block _ (ac h1).1 h2).trans h1
    refine⟨hl6,rfl,p6,hrun6.set hm7 (fun b e=> .inl (by omega)),⟨hkp hbox6.b1 (by omega),hkp hbox6.b2 (by omega),hkp hbox6.b3 (by omega),hkp hbox6.mark (by omega),World.putObj_heap_same (ac hl6).1⟩,hrow6.same fun g hg=>?_,T6,HT1.out.step HX.out HIN.out hot (by rw[HAD.out];dsimp only;omega) hun6⟩
    have h9:=hrow6.blk g (by rw[hg];rfl)
    exact hm7.block g h9.2 (by omega)
   ·rintro e W ⟨hv,R,cp,p1,hj⟩
    refine⟨hv, .inl ⟨hj.box.loop,?_⟩⟩
    obtain⟨W2,hW2⟩: ∃W2,W2=W.putObj (w2.heap.size+3+1) (.loop (rec .exhausted none)):=⟨_,rfl⟩
    rw[←hW2]
    have hm2:Mod (fun b=>b=w2.heap.size+3+1) W W2:=by rw[hW2];exact mod_put
    have hrun2:=hj.run.set hm2 (fun b e=> .inl (by omega))
    have hM2:=(hm2.block _ (ac hj.box.mark).1 (by omega)).trans hj.box.mark
    have HRUN2:=ae hrun2
    have HM3:=ae hM2
    have HREL:=ae hj.rel
    clear hW2 hm2 hrun2 hM2 hj hrec hv
    unfold markOf
    gi_wp2
    refine⟨by simp, .inl ⟨_,_,rfl,run_takeDeferred HM3.out,?_⟩⟩
    have hmd:=mod_put (l:=w2.heap.size+3) (o:= .deferred none) (W:=W2)
    have hrun5:=HRUN2.out.set hmd (fun b e=> .inl (by omega))
    refine⟨.int .i64 0,by simp[results,Tryz.results25,go_sem],(.inr ⟨rfl,HMZ.out.symm,A1,cap1,p1,hrun5.home,hrun5.one,?_,(fun ad e=>by have h1:=HO1.out.row ad.block (by rw[e];rfl);have h2:=HB0.out.size;omega),HREL.out⟩)⟩
    have hA:Mod (fun b=>FootS S c m b∨b=s) w w2:=((Mod.of HB0.out).trans (Out.refl _ _) (HM2.out)).sub fun b e=> .inr e
    exact hA.trans (Out.refl _ _) (hrun5.mod.sub fun b e=> .inl e)
  ·have HNO:=ae (HME.out.2.1 rfl ⟨hi0,fun h=>hfile (HMI.out.2 h)⟩)
   clear HME
   by_cases hme0:me=0
   ·subst hme0
    have hk1:((kd:Int) != 1)=true:=by rw[bne_iff_ne];intro e;exact hfile ⟨rfl,by omega⟩
    clear hfile HMI
    gi_wp2
    refine⟨.int .i64 1,by simp[results,Tryz.results25,go_sem], .inl ⟨1,rfl,by decide,HNO.out.symm,HB0.out.trans (HB1.out.mono HB0.out.size)⟩⟩
   ·have hne:(me != 0)=true:=by rw[bne_iff_ne];exact hme0
    clear hfile HMI hme0
    gi_wp2
    refine⟨.int .i64 1,by simp[results,Tryz.results25,go_sem], .inl ⟨1,rfl,by decide,HNO.out.symm,HB0.out.trans (HB1.out.mono HB0.out.size)⟩⟩
end
end Go.Proofs.YtoochjhipmpehaaGreatDoor
