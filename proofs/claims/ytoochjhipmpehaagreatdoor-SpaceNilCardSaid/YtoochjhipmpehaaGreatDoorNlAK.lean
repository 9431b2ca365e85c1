/- SpaceNil, its walk. -/
import Derived.Test.YtoochjhipmpehaaGreatDoorAbK
import Derived.Test.YtoochjhipmpehaaGreatDoorBgAK
import Derived.Test.YtoochjhipmpehaaGreatDoorSwK
import Derived.Test.YtoochjhipmpehaaGreatDoorTvAK
set_option linter.unusedVariables false
set_option linter.unusedSimpArgs false
set_option maxRecDepth 100000
set_option maxHeartbeats 8000000
namespace Go.Proofs.YtoochjhipmpehaaGreatDoor
section
open Go.RowKit Go.Sort
theorem none_left {F:List Nd} {p:Pool} (h:Hs F p [] [none]):p.left=p.n:=by
 have:p.left=freeTo (fun _ =>0) p.n:=by
  show freeTo _ p.n=_
  refine freeTo_congr fun i hi=>?_
  have h1:=h.cnt i hi
  rw[tnS_one0]at h1
  have h2:slotN [] i=0:=rfl
  constructor<;>intro _ <;>omega
 rw[this,freeTo_all]
theorem begun_nil (w:World):In11 w none 0 0 []:=⟨fun j x h=>absurd h (by rw[List.getElem?_nil];exact fun e=>by cases e),rfl,by omega,Nat.le_refl _,fun x hx=>absurd hx List.not_mem_nil⟩
theorem lLoad_gone (P:Option Addr) (addr len:Value) (w:World) (h:SpaceGone w P):Calls Tryz.prog 28 #[.pointer P,addr,len] w fun e w'=>e= .returned (.tuple #[.slice none 0 0, .int .i64 2])∧Below w.heap.size w w':=
 sLoad_of _ _ _ _ _ ((sload_gone P addr len _ w h).mono fun e w' ⟨h1,h2⟩=>⟨⟨_,_,h1⟩,h1,h2⟩)
theorem lPeek_gone (P:Option Addr) (addr len:Value) (w:World) (h:SpaceGone w P):Calls Tryz.prog 29 #[.pointer P,addr,len] w fun e w'=>e= .returned (.tuple #[.slice none 0 0, .int .i64 2])∧Below w.heap.size w w':=
 sPeek_of _ _ _ _ _ ((sload_gone P addr len _ w h).mono fun e w' ⟨h1,h2⟩=>⟨⟨_,_,h1⟩,h1,h2⟩)
theorem lStore_gone (P:Option Addr) (addr:Value) (A:Option Addr) (q cq:Nat) (w:World) (h:SpaceGone w P):Calls Tryz.prog 30 #[.pointer P,addr, .slice A q cq] w fun e w'=>e= .returned (.int .i64 2)∧Below w.heap.size w w':=
 sStore_of _ _ _ _ _ ((sstore_gone P addr _ A q cq w h).mono fun e w' ⟨h1,h2⟩=>⟨⟨_,h1⟩,h1,h2⟩)
theorem lPoke_gone (P:Option Addr) (addr:Value) (A:Option Addr) (q cq:Nat) (w:World) (h:SpaceGone w P):Calls Tryz.prog 31 #[.pointer P,addr, .slice A q cq] w fun e w'=>e= .returned (.int .i64 2)∧Below w.heap.size w w':=
 sPoke_of _ _ _ _ _ ((sstore_gone P addr _ A q cq w h).mono fun e w' ⟨h1,h2⟩=>⟨⟨_,h1⟩,h1,h2⟩)
def opCells (kd sI:Int) (r:Reg) (addr n:Int) (A:Option Addr) (q cq:Nat):Array Value:= #[.int .i64 kd, .int .i64 sI, .int .u64 r.fr, .int .u64 r.to, .int .u8 r.prot, .int .i64 r.ino, .int .u64 r.off, .int .u64 addr, .int .i64 n, .slice A q cq]
structure NilBox (W:World) (b rb:Nat) (kd sI:Int) (r:Reg) (addr n:Int) (A:Option Addr) (q cq:Nat) (s:Nat):Prop where
 op:W.heap[b]? =some (.cells (opCells kd sI r addr n A q cq) 47 (0,0))
 row:W.heap[rb]? =some (.cells #[.pointer none, .pointer (some ⟨s,0,none⟩)] 60 (0,0))
 gone:SpaceGone W (some ⟨s,0,none⟩)
theorem NilBox.below {W W':World} {b rb:Nat} {kd sI:Int} {r:Reg} {addr n:Int} {A:Option Addr} {q cq s:Nat} (h:NilBox W b rb kd sI r addr n A q cq s) (hb:Below W.heap.size W W'):NilBox W' b rb kd sI r addr n A q cq s:=
 ⟨(hb.block _ (ac h.op).1).trans h.op,(hb.block _ (ac h.row).1).trans h.row,h.gone.below hb⟩
theorem spaceNil_any (kd sI:Int) (r:Reg) (addr n:Int) (A:Option Addr) (q cq:Nat) (w:World) (hdb:DB w) (hw0:0<w.heap.size):
  Calls Tryz.prog 6 #[.agg #[.int .i64 kd, .int .i64 sI, .int .u64 r.fr, .int .u64 r.to, .int .u8 r.prot, .int .i64 r.ino, .int .u64 r.off, .int .u64 addr, .int .i64 n, .slice A q cq]] w fun e w'=>e= .returned (.bool true)∧Below w.heap.size w w':=by
 obtain⟨w0,hwd⟩: ∃w0,w0=w.alloc (.cells #[.int .i64 kd, .int .i64 sI, .int .u64 r.fr, .int .u64 r.to, .int .u8 r.prot, .int .i64 r.ino, .int .u64 r.off, .int .u64 addr, .int .i64 n, .slice A q cq] 47):=⟨_,rfl⟩
 have hb0:Below w.heap.size w w0:=by rw[hwd];exact(Below.refl _ _).alloc (Nat.le_refl _) _
 have hE:w0.heap[w.heap.size]? =some (.cells (opCells kd sI r addr n A q cq) 47 (0,0)):=by rw[hwd];exact ab w _
 have l0:w.heap.size<w0.heap.size:=(ac hE).1
 have hdb0:DB w0:=hdb.same (hb0.block 0 hw0)
 have hbeg:=begun_good none 0 0 8 [] w0 (begun_nil w0) (by decide) (by decide) rfl hdb0 (by omega)
 have HBEG:=ae hbeg
 have HE:=ae hE
 have HWD:=ae hwd
 have HDB:=ae hdb
 have HB0:=ae hb0
 clear hbeg hE hwd hdb hdb0 hb0
 go_enter Tryz.func6,Tryz.ntmps6
 go_upto_region 1 with(fail)
 rw[←HWD.out]
 go_wp2_with (first
  |(go_at_call 24;refine(snew_nil _).mono ?_;rintro e w1 ⟨rfl,rfl⟩)
  |fail)
 refine(HBEG.out).mono ?_
 rintro e w2 ⟨B,o,a,c,fs,m,S,rfl,hself,hse,hb2,hB,hBo,hoS,hom,hoc⟩
 have hE2:=(hb2.block _ l0).trans HE.out
 have b9:w2.cell? ⟨w.heap.size,9,none⟩=some (.slice A q cq):=aa hE2 9
 have o2:w2.cell? ⟨o,2,none⟩=some (.pointer (some ⟨c,0,none⟩)):=aa hself 2
 have how:=(ac hself).1
 have hz2:=hb2.size
 by_cases hbig:(262144:Int)<(q:Int)
 ·have hwk:=works11_any w2 (HDB.out.same ((HB0.out.trans (hb2.mono HB0.out.size)).block 0 hw0)) (by omega)
  have HWK:=ae hwk
  have HB2:=ae hb2
  clear hwk hself hse hb2 hE2 o2
  go_wp2_with (first
   |(go_at_call 10;refine(HWK.out).mono ?_;rintro e w3 ⟨rfl,hb3⟩)
   |fail)
  go_ret
  exact⟨rfl,HB0.out.trans ((HB2.out.trans (hb3.mono hz2)).mono (by omega))⟩
 have hn:=hnew hse
 have HN:=ae hn
 have HSELF:=ae hself
 have HSE:=ae hse
 have HB2:=ae hb2
 have HE2:=ae hE2
 clear hn hself hse hb2 hE2
 go_wp2_with fail
 refine(HN.out).mono ?_
 rintro e w3 (⟨s,t,f,p3,L3,S3,rfl,h3,hm3,ho3,hs3,ht3⟩|⟨f,p3,L3,S3,rfl,h3,hm3,ho3,ht3,_⟩)
 rotate_left
 ·obtain⟨h,_⟩:=ht3.first (fresh_lowest (by omega:1≤8))
  cases h
 obtain⟨_,hf0,hp3,hL3⟩:=ht3.first (fresh_lowest (by omega:1≤8))
 have hn3:p3.n=8:=by rw[hp3];rfl
 subst hL3
 obtain⟨x3,hx3⟩: ∃x3:SpM,x3=⟨s,t,f,none,0,0,[],some (rootTab f)⟩:=⟨_,rfl⟩
 rw[←hx3]at h3
 change Hse w3 B c a fs m S3 (filesOf []) 0 p3 [] [x3]at h3
 have hT3:x3.T=some (rootTab f):=by rw[hx3]
 have hxs3:x3.s=s:=by rw[hx3]
 have hxt3:x3.t=t:=by rw[hx3]
 have hlt3:=h3.lt 0 x3 rfl
 have hfr:=hfree h3 (k:=0) rfl hT3
 rw[hxs3]at hfr
 have hO3:=(hm3.block o how (fun e=>e.elim hoS (fun e=>e.elim hom hoc))).trans HSELF.out
 have hb23:Below w0.heap.size w2 w3:=hm3.below (fun b e=>Nat.le_trans hB (HSE.out.footLow b e)) hz2
 have hE3:=(hb23.block _ l0).trans HE2.out
 have hoS3: ¬S3 o:=fun e=>(ho3 o e).elim hoS (fun e=>by omega)
 have HFR:=ae hfr
 have H3:=ae h3
 have HO3:=ae hO3
 have HE3:=ae hE3
 have HB3:=ae (HB2.out.trans hb23)
 have hz3:=hm3.size
 have hlts:=And.intro hlt3.s hlt3.t
 rw[hxs3,hxt3]at hlts
 clear hfr h3 hO3 hE3 hm3 ho3 ht3 hp3 hb23 HN HSE HSELF HE2 hlt3 o2 b9
 go_wp2_with fail
 refine(HFR.out).mono ?_
 rintro e w4 ⟨rfl,h4,hm4⟩
 change Hse w4 B c a fs m S3 (filesOf []) 0 _ [] [x3.dead]at h4
 have hg4:SpaceGone w4 (some ⟨s,0,none⟩):=⟨s,rfl,by have h9:=((h4.each 0 x3.dead rfl).dead rfl).cell;rw[show x3.dead.s=s from hxs3]at h9;exact h9⟩
 have hX4: ∀b,(FootS S3 c m b∨b=s∨b=x3.t)→B≤b∧b≠o:=fun b e=>by
  rw[hxt3]at e
  rcases e with e|e|e
  ·refine⟨H3.out.footLow b e,fun e2=>?_⟩
   subst e2
   exact e.elim hoS3 (fun e=>e.elim hom hoc)
  ·omega
  ·omega
 have hO4:=(hm4.block o (by omega) (fun e=>(hX4 o e).2 rfl)).trans HO3.out
 have hb34:Below w0.heap.size w3 w4:=hm4.below (fun b e=>Nat.le_trans hB (hX4 b e).1) (by omega)
 have hE4:=(hb34.block _ l0).trans HE3.out
 have hz4:=hm4.size
 have hleft:(downs p3 (((rootTab f).evs 4 0).flatMap Ev.fs)).left=8:=by rw[none_left (h4.hs:Hs _ _ _ [none]),downs_n,hn3]
 have HL:=ae hleft
 have H4:=ae h4
 have HG4:=ae hg4
 have HO4:=ae hO4
 have HE4:=ae hE4
 have HB4:=ae (HB3.out.trans hb34)
 clear hleft h4 hg4 hO4 hE4 hb34 hm4 hX4 H3 HO3 HE3 HFR HB3
 go_upto_region 12 with(first
  |(go_at_call 21;refine(sfree_gone none _ trivial).mono ?_;rintro e w4' ⟨rfl,rfl⟩)
  |fail)
 obtain⟨w5,hw5⟩: ∃w5,w5=w4.alloc (.cells #[.pointer none, .pointer (some ⟨s,0,none⟩)] 60):=⟨_,rfl⟩
 rw[←hw5]
 have hb5:Below w4.heap.size w4 w5:=by rw[hw5];exact(Below.refl _ _).alloc (Nat.le_refl _) _
 have hL5:w5.heap[w4.heap.size]? =some (.cells #[.pointer none, .pointer (some ⟨s,0,none⟩)] 60 (0,0)):=by rw[hw5];exact ab _ _
 have HN5:=ae (show NilBox w5 w.heap.size w4.heap.size kd sI r addr n A q cq s from⟨(hb5.block _ (ac HE4.out).1).trans HE4.out,hL5,HG4.out.below hb5⟩)
 have HO5:=ae ((hb5.block o (by omega)).trans HO4.out)
 have H5:=ae (H4.out.below hb5)
 have HB5:=ae (HB4.out.trans (hb5.mono (by omega)))
 have hz5:=hb5.size
 clear hw5 hL5 hb5 HE4 HO4 HG4 H4 HB4
 go_wp2_with fail
 go_loopw [10] (fun i wr=> ∃k:Nat,i= .int .i64 (k:Int)∧k≤2∧Below w5.heap.size w5 wr) (fun i _ =>2-(intOf i).toNat)
 case atStart=>exact⟨0,rfl,by omega,Below.refl _ _⟩
 case round=>
  obtain⟨k,rfl,hk,hbr⟩:=hrel
  obtain⟨wl,hwl⟩: ∃wl,wl=wr:=⟨_,rfl⟩
  subst hwl
  by_cases hlt:k<2
  ·obtain⟨P,hP⟩: ∃P:Option Addr,∀wr,Below w5.heap.size w5 wr→SpaceGone wr P∧wr.cell? ⟨w4.heap.size,k,none⟩=some (.pointer P):=by
    rcases(by omega:k=0∨k=1)with rfl|rfl
    ·exact⟨none,fun wr hb=>⟨trivial,aa (HN5.out.below hb).row 0⟩⟩
    ·exact⟨_,fun wr hb=>⟨(HN5.out.below hb).gone,aa (HN5.out.below hb).row 1⟩⟩
   have hop: ∀wr,Below w5.heap.size w5 wr→wr.heap[w.heap.size]? =some (.cells (opCells kd sI r addr n A q cq) 47 (0,0)):=fun wr hb=>(HN5.out.below hb).op
   have HP:=ae hP
   have HOP:=ae hop
   have hk2:(k:Int)<2:=by omega
   have hk0:(0:Int)≤(k:Int):=by omega
   clear hP hop
   go_upto_region 15 with(fail)
   have hbd:=fun(d:Nat) (os:Array Obj)=>hbr.trans ((below_regrown wl d os).mono hbr.size)
   have rp:=fun(d:Nat) (os:Array Obj)=>(HP.out _ (hbd d os)).2
   have oc2:=fun(d:Nat) (os:Array Obj)=>aa (HOP.out _ (hbd d os)) 2
   have oc3:=fun(d:Nat) (os:Array Obj)=>aa (HOP.out _ (hbd d os)) 3
   have oc4:=fun(d:Nat) (os:Array Obj)=>aa (HOP.out _ (hbd d os)) 4
   have oc5:=fun(d:Nat) (os:Array Obj)=>aa (HOP.out _ (hbd d os)) 5
   have oc6:=fun(d:Nat) (os:Array Obj)=>aa (HOP.out _ (hbd d os)) 6
   have hC:=fun(d:Nat) (os:Array Obj)=>Calls.regrown_of (smap_gone P r (grow (redrawn wl d) os) (HP.out _ (hbd d os)).1)
   have HCC:=ae hC
   clear hC hbd
   unfold opCells at oc2 oc3 oc4 oc5 oc6
   refine wp_region_quiet_below (by kernel_rfl) (by kernel_rfl) ?_;(repeat(go_big_quiet_step ((first|exact HCC.out _ _))));refine wpQuiet_nil ?_;intro _ hw';obtain⟨⟨dq,osq⟩,hw''⟩:=hw';subst hw'';have hbq:=below_regrown (wl) dq osq;generalize grow (redrawn (wl) dq) osq=wq at hbq⊢
   have hbra:=hbr.trans (hbq.mono hbr.size)
   clear hbq rp oc2 oc3 oc4 oc5 oc6 HCC
   obtain⟨va,rfl⟩: ∃v,v=wq:=⟨_,rfl⟩
   go_upto_region 16 with(fail)
   have hbd:=fun(d:Nat) (os:Array Obj)=>hbra.trans ((below_regrown va d os).mono hbra.size)
   have rp:=fun(d:Nat) (os:Array Obj)=>(HP.out _ (hbd d os)).2
   have oc2:=fun(d:Nat) (os:Array Obj)=>aa (HOP.out _ (hbd d os)) 2
   have oc3:=fun(d:Nat) (os:Array Obj)=>aa (HOP.out _ (hbd d os)) 3
   have hC:=fun(d:Nat) (os:Array Obj)=>Calls.regrown_of (sunmap_gone P (.int .u64 r.fr) (.int .u64 r.to) (grow (redrawn va d) os) (HP.out _ (hbd d os)).1)
   have HCC:=ae hC
   clear hC hbd
   unfold opCells at oc2 oc3
   refine wp_region_quiet_below (by kernel_rfl) (by kernel_rfl) ?_;(repeat(go_big_quiet_step ((first|exact HCC.out _ _))));refine wpQuiet_nil ?_;intro _ hw';obtain⟨⟨dq,osq⟩,hw''⟩:=hw';subst hw'';have hbq:=below_regrown (va) dq osq;generalize grow (redrawn (va) dq) osq=wq at hbq⊢
   have hbrb:=hbra.trans (hbq.mono hbra.size)
   clear hbq rp oc2 oc3 HCC
   obtain⟨vb,rfl⟩: ∃v,v=wq:=⟨_,rfl⟩
   go_upto_region 17 with(fail)
   have hbd:=fun(d:Nat) (os:Array Obj)=>hbrb.trans ((below_regrown vb d os).mono hbrb.size)
   have rp:=fun(d:Nat) (os:Array Obj)=>(HP.out _ (hbd d os)).2
   have oc2:=fun(d:Nat) (os:Array Obj)=>aa (HOP.out _ (hbd d os)) 2
   have oc3:=fun(d:Nat) (os:Array Obj)=>aa (HOP.out _ (hbd d os)) 3
   have oc4:=fun(d:Nat) (os:Array Obj)=>aa (HOP.out _ (hbd d os)) 4
   have hC:=fun(d:Nat) (os:Array Obj)=>Calls.regrown_of (sprotect_gone P (.int .u64 r.fr) (.int .u64 r.to) r.prot (grow (redrawn vb d) os) (HP.out _ (hbd d os)).1)
   have HCC:=ae hC
   clear hC hbd
   unfold opCells at oc2 oc3 oc4
   refine wp_region_quiet_below (by kernel_rfl) (by kernel_rfl) ?_;(repeat(go_big_quiet_step ((first|exact HCC.out _ _))));refine wpQuiet_nil ?_;intro _ hw';obtain⟨⟨dq,osq⟩,hw''⟩:=hw';subst hw'';have hbq:=below_regrown (vb) dq osq;generalize grow (redrawn (vb) dq) osq=wq at hbq⊢
   have hbrc:=hbrb.trans (hbq.mono hbrb.size)
   clear hbq rp oc2 oc3 oc4 HCC
   obtain⟨vc,rfl⟩: ∃v,v=wq:=⟨_,rfl⟩
   go_upto_region 18 with(fail)
   have hbd:=fun(d:Nat) (os:Array Obj)=>hbrc.trans ((below_regrown vc d os).mono hbrc.size)
   have rp:=fun(d:Nat) (os:Array Obj)=>(HP.out _ (hbd d os)).2
   have oc7:=fun(d:Nat) (os:Array Obj)=>aa (HOP.out _ (hbd d os)) 7
   have oc8:=fun(d:Nat) (os:Array Obj)=>aa (HOP.out _ (hbd d os)) 8
   have hC:=fun(d:Nat) (os:Array Obj)=>Calls.regrown_of (lLoad_gone P (.int .u64 addr) (.int .i64 n) (grow (redrawn vc d) os) (HP.out _ (hbd d os)).1)
   have HCC:=ae hC
   clear hC hbd
   unfold opCells at oc7 oc8
   refine wp_region_quiet_below (by kernel_rfl) (by kernel_rfl) ?_;(repeat(go_big_quiet_step ((first|exact HCC.out _ _))));refine wpQuiet_nil ?_;intro _ hw';obtain⟨⟨dq,osq⟩,hw''⟩:=hw';subst hw'';have hbq:=below_regrown (vc) dq osq;generalize grow (redrawn (vc) dq) osq=wq at hbq⊢
   have hbrd:=hbrc.trans (hbq.mono hbrc.size)
   clear hbq rp oc7 oc8 HCC
   obtain⟨vd,rfl⟩: ∃v,v=wq:=⟨_,rfl⟩
   go_upto_region 19 with(fail)
   have hbd:=fun(d:Nat) (os:Array Obj)=>hbrd.trans ((below_regrown vd d os).mono hbrd.size)
   have rp:=fun(d:Nat) (os:Array Obj)=>(HP.out _ (hbd d os)).2
   have oc7:=fun(d:Nat) (os:Array Obj)=>aa (HOP.out _ (hbd d os)) 7
   have oc8:=fun(d:Nat) (os:Array Obj)=>aa (HOP.out _ (hbd d os)) 8
   have hC:=fun(d:Nat) (os:Array Obj)=>Calls.regrown_of (lPeek_gone P (.int .u64 addr) (.int .i64 n) (grow (redrawn vd d) os) (HP.out _ (hbd d os)).1)
   have HCC:=ae hC
   clear hC hbd
   unfold opCells at oc7 oc8
   refine wp_region_quiet_below (by kernel_rfl) (by kernel_rfl) ?_;(repeat(go_big_quiet_step ((first|exact HCC.out _ _))));refine wpQuiet_nil ?_;intro _ hw';obtain⟨⟨dq,osq⟩,hw''⟩:=hw';subst hw'';have hbq:=below_regrown (vd) dq osq;generalize grow (redrawn (vd) dq) osq=wq at hbq⊢
   have hbre:=hbrd.trans (hbq.mono hbrd.size)
   clear hbq rp oc7 oc8 HCC
   obtain⟨ve,rfl⟩: ∃v,v=wq:=⟨_,rfl⟩
   go_upto_region 20 with(fail)
   have hbd:=fun(d:Nat) (os:Array Obj)=>hbre.trans ((below_regrown ve d os).mono hbre.size)
   have rp:=fun(d:Nat) (os:Array Obj)=>(HP.out _ (hbd d os)).2
   have oc7:=fun(d:Nat) (os:Array Obj)=>aa (HOP.out _ (hbd d os)) 7
   have oc9:=fun(d:Nat) (os:Array Obj)=>aa (HOP.out _ (hbd d os)) 9
   have hC:=fun(d:Nat) (os:Array Obj)=>Calls.regrown_of (lStore_gone P (.int .u64 addr) A q cq (grow (redrawn ve d) os) (HP.out _ (hbd d os)).1)
   have HCC:=ae hC
   clear hC hbd
   unfold opCells at oc7 oc9
   refine wp_region_quiet_below (by kernel_rfl) (by kernel_rfl) ?_;(repeat(go_big_quiet_step ((first|exact HCC.out _ _))));refine wpQuiet_nil ?_;intro _ hw';obtain⟨⟨dq,osq⟩,hw''⟩:=hw';subst hw'';have hbq:=below_regrown (ve) dq osq;generalize grow (redrawn (ve) dq) osq=wq at hbq⊢
   have hbrf:=hbre.trans (hbq.mono hbre.size)
   clear hbq rp oc7 oc9 HCC
   obtain⟨vf,rfl⟩: ∃v,v=wq:=⟨_,rfl⟩
   go_upto_region 21 with(fail)
   have hbd:=fun(d:Nat) (os:Array Obj)=>hbrf.trans ((below_regrown vf d os).mono hbrf.size)
   have rp:=fun(d:Nat) (os:Array Obj)=>(HP.out _ (hbd d os)).2
   have oc7:=fun(d:Nat) (os:Array Obj)=>aa (HOP.out _ (hbd d os)) 7
   have oc9:=fun(d:Nat) (os:Array Obj)=>aa (HOP.out _ (hbd d os)) 9
   have hC:=fun(d:Nat) (os:Array Obj)=>Calls.regrown_of (lPoke_gone P (.int .u64 addr) A q cq (grow (redrawn vf d) os) (HP.out _ (hbd d os)).1)
   have HCC:=ae hC
   clear hC hbd
   unfold opCells at oc7 oc9
   refine wp_region_quiet_below (by kernel_rfl) (by kernel_rfl) ?_;(repeat(go_big_quiet_step ((first|exact HCC.out _ _))));refine wpQuiet_nil ?_;intro _ hw';obtain⟨⟨dq,osq⟩,hw''⟩:=hw';subst hw'';have hbq:=below_regrown (vf) dq osq;generalize grow (redrawn (vf) dq) osq=wq at hbq⊢
   have hbrg:=hbrf.trans (hbq.mono hbrf.size)
   clear hbq rp oc7 oc9 HCC
   obtain⟨vg,rfl⟩: ∃v,v=wq:=⟨_,rfl⟩
   obtain⟨hgv,rp⟩:=HP.out _ hbrg
   have HGV:=ae hgv
   clear hgv
   go_wp2_with (first
    |(go_at_call 32;refine(sfork_gone P _ HGV.out).mono ?_;rintro e w6 ⟨rfl,rfl⟩)
    |(go_at_call 17;refine(sregions_gone P _ HGV.out).mono ?_;rintro e w6 ⟨rfl,rfl⟩)
    |(go_at_call 33;refine(stable_gone P _ HGV.out).mono ?_;rintro e w6 ⟨rfl,rfl⟩)
    |fail)
   go_roundw
   case rel=>exact⟨k+1,by go_num,by omega,hbrg⟩
   case measure=>(simp[intOf];omega)
  ·have hO:=(hbr.block o (by omega)).trans HO5.out
   have o7:wl.cell? ⟨o,1,none⟩=some (.pointer (some ⟨a,0,none⟩)):=aa hO 1
   have hgone:=(HN5.out.below hbr).gone
   have hfr:=pfree_any a wl S3 _ (H5.out.below hbr).home.cache.pool
   rw[HL.out]at hfr
   have hall:Below w.heap.size w wl:=HB0.out.trans ((HB5.out.trans (hbr.mono (by have:=HB5.out.size;omega))).mono HB0.out.size)
   have hwk:=works11_any wl (HDB.out.same (hall.block 0 hw0)) (by have:=hall.size;omega)
   have HFR:=ae hfr
   have HWK:=ae hwk
   have HALL:=ae hall
   have HGN:=ae hgone
   clear hO hgone hfr hwk hall
   go_wp2_with (first
    |(go_at_call 21;refine(sfree_gone (some ⟨s,0,none⟩) _ HGN.out).mono ?_;rintro e w6 ⟨rfl,rfl⟩)
    |(go_at_call 23;refine(HFR.out).mono ?_;rintro e w6 ⟨rfl,rfl⟩)
    |(go_at_call 10;refine(HWK.out).mono ?_;rintro e w7 ⟨rfl,hb9⟩)
    |fail)
   go_ret
   exact⟨rfl,HALL.out.trans (hb9.mono HALL.out.size)⟩
end
end Go.Proofs.YtoochjhipmpehaaGreatDoor
