/- The spaces' statements: works. -/
import Derived.Test.YtoochjhipmpehaaGreatDoorAbK
import Derived.Test.YtoochjhipmpehaaGreatDoorNwAK
import Derived.Test.YtoochjhipmpehaaGreatDoorWkAK
set_option linter.unusedVariables false
set_option linter.unusedSimpArgs false
set_option maxRecDepth 100000
set_option maxHeartbeats 8000000
namespace Go.Proofs.YtoochjhipmpehaaGreatDoor
section
open Go.RowKit Go.Sort
theorem hse_start {w1 w3:World} {fs nb c2 a c m n B1:Nat} {ad mp:Nat→Nat} {S:Nat→Prop} {F:List Nd} (hF:FsIs w1 B1 fs nb c2 ad mp F) (hb:Below w1.heap.size w1 w3) (hC:CacheAt w3 S c a fs m 0 (fresh n) []) (hBF:BytesF F) (hS: ∀b,S b→w1.heap.size≤b) (hc:w1.heap.size≤c) (hm:w1.heap.size≤m) (h0:0<w1.heap.size) (hn:n≤1024):Hse w3 w1.heap.size c a fs m S F 0 (fresh n) [] []:=by
 refine⟨⟨hC,⟨w1,B1,nb,c2,ad,mp,rfl,hF,hb⟩,hBF,hS,hc,hm,h0⟩,Hs.start F n hn,fun k x h=>?_,fun j k x y _ h=>?_,fun k x h=>?_⟩<;>(rw[List.getElem?_nil]at h;cases h)
theorem Hse.footLow {w:World} {B c a fs m:Nat} {S:Nat→Prop} {F:List Nd} {clock:Int} {p:Pool} {L:List Slot} {l:List SpM} (h:Hse w B c a fs m S F clock p L l): ∀b,FootS S c m b→B≤b:=fun b e=>by
 rcases e with e|e|e
 ·exact h.home.low b e
 ·rw[e];exact h.home.lows.2.1
 ·rw[e];exact h.home.lows.1
theorem Hse.goes {w0 w w':World} {B c a fs m:Nat} {S:Nat→Prop} {F:List Nd} {clock:Int} {p:Pool} {L:List Slot} {l:List SpM} (h:Hse w B c a fs m S F clock p L l) (hB:w0.heap.size≤B) (hb:Below w0.heap.size w0 w) (hm:Mod (FootS S c m) w w'):Below w0.heap.size w0 w':=hb.trans (hm.below (fun b e=>Nat.le_trans hB (h.footLow b e)) hb.size)
theorem OwnB.foot {w w':World} {base g cap k:Nat} {d:Nat→Nat} {S:Nat→Prop} {c m:Nat} (h:OwnB w base (some ⟨g,0,none⟩) cap k d) (hS: ¬S g) (hc:c<base) (hm:m<base) (hM:Mod (FootS S c m) w w'):OwnB w' base (some ⟨g,0,none⟩) cap k d:=h.sameR fun g' e=>by
 injection e with e
 injection e with e
 subst e
 have h1:=h.form
 exact hM.block g h1.2 (fun e=>e.elim hS fun e=>e.elim (fun e=>by omega) (fun e=>by omega))
theorem OwnB.some_of {w:World} {base cap k:Nat} {A:Option Addr} {d:Nat→Nat} (h:OwnB w base A cap k d) (hk:0<k): ∃g,A=some ⟨g,0,none⟩:=by
 rcases h.2 with⟨h1,_⟩|⟨g,cap',cur,h1,_⟩
 ·exfalso
  have h2:=h.1
  injection h1 with e1 e2 e3
  rw[e2]at hk
  cases hk
 ·injection h1 with e1 e2 e3
  exact⟨g,e1⟩
theorem entA_at {w:World} {b e:Nat} (hE:w.heap[e]? =some (.cells #[.string ⟨#[47,97]⟩, .int .u8 1, .int .u16 420, .int .u32 0, .int .u32 0, .slice (some ⟨b,0,none⟩) 1 1, .string ⟨#[]⟩] 93 (0,0))) (hD:w.heap[b]? =some (.cells #[.int .u8 7] 5 (0,0))):EntsAt w (some ⟨e,0,none⟩) [entA]:=by
 intro j x hj
 cases j with
 |succ j=>rw[List.getElem?_cons_succ,List.getElem?_nil]at hj;cases hj
 |zero=>
  rw[List.getElem?_cons_zero]at hj
  injection hj with hj
  subst hj
  refine⟨e,some ⟨b,0,none⟩,1,rfl,(ac hE).1,⟨aa hE 0,aa hE 1,aa hE 2,aa hE 3,aa hE 4,aa hE 5,aa hE 6⟩,⟨by decide,by decide,by decide,?_,fun e=>by cases e⟩⟩
  exact fun _ =>⟨_,rfl,fun j hj=>by
   have hj0:j<1:=hj
   obtain rfl:j=0:=by omega
   exact aa hD 0⟩
theorem works11_any (w:World) (hdb:DB w) (hw0:0<w.heap.size):Calls Tryz.prog 10 #[] w fun e w'=>e= .returned (.bool true)∧Below w.heap.size w w':=by
 obtain⟨w0,hw0'⟩: ∃w0,w0=((w.alloc (.cells #[.int .u8 7] 5)).alloc (.cells #[.string ⟨#[47,97]⟩, .int .u8 1, .int .u16 420, .int .u32 0, .int .u32 0, .slice (some ⟨w.heap.size,0,none⟩) 1 1, .string ⟨#[]⟩] 93)):=⟨_,rfl⟩
 have hb0:Below w.heap.size w w0:=by rw[hw0'];exact((Below.refl _ _).alloc (Nat.le_refl _) _).alloc (by simp) _
 have hE:w0.heap[w.heap.size+1]? =some (.cells #[.string ⟨#[47,97]⟩, .int .u8 1, .int .u16 420, .int .u32 0, .int .u32 0, .slice (some ⟨w.heap.size,0,none⟩) 1 1, .string ⟨#[]⟩] 93 (0,0)):=by
  rw[hw0']
  have e:(w.alloc (.cells #[.int .u8 7] 5)).heap.size=w.heap.size+1:=by simp
  rw[←e]
  exact ab _ _
 have hD:w0.heap[w.heap.size]? =some (.cells #[.int .u8 7] 5 (0,0)):=by rw[hw0'];exact(Below.heap_alloc _ _ _ (by simp)).trans (ab w _)
 have hnew:=vnew_good (some ⟨w.heap.size+1,0,none⟩) 1 [entA] w0 (entA_at hE hD) (by decide) (by decide) entA_ok
 have HNEW:=ae hnew
 have HW0:=ae hw0'
 have HB0:=ae hb0
 have HDB:=ae hdb
 clear hnew hw0' hb0 hdb hE hD
 go_enter Tryz.func10,Tryz.ntmps10
 go_upto_region 8 with(first
  |(go_at_call 37;rw[←HW0.out];refine(HNEW.out).mono ?_;rintro e w1 ⟨fs,rfl,hF,hb1⟩;have hB1:=HB0.out.trans (hb1.mono HB0.out.size);have HF:=ae hF;have HB1:=ae hB1;have HDB1:=ae (HDB.out.same (hB1.block 0 hw0));have hz1:=hB1.size;clear hF hb1 hB1)
  |(go_at_call 38;refine(fnew_any 16 _ (by omega) (by omega) HDB1.out (by omega)).mono ?_;rintro e w2 ⟨a,S,rfl,hP,hb2,hS2⟩;have HP:=ae hP;have HB2:=ae hb2;have HS2:=ae hS2;have hz2:=hb2.size;clear hP hb2 hS2)
  |(go_at_call 39;refine(cnew_any a fs _ S (fresh 16) HP.out).mono ?_;rintro e w3 ⟨c,m,rfl,hC,hb3,hc3,hm3⟩;have HC:=ae hC;have HB3:=ae hb3;have hz3:=hb3.size;clear hC hb3))
 obtain⟨nb,c2,adf,mpf,hF⟩:=HF.out
 have hfile:=entA_file
 have h3:Hse w3 w1.heap.size c a fs m S (filesOf [entA]) 0 (fresh 16) [] []:=hse_start hF (HB2.out.trans (HB3.out.mono hz2)) HC.out (filesOf_bytes (fun x hx=>by rw[List.mem_singleton]at hx;subst hx;exact fun i=>by show 7<256;omega)) HS2.out (by omega) (by omega) (by omega) (by omega)
 obtain⟨F,hFdef⟩: ∃F,F=filesOf [entA]:=⟨_,rfl⟩
 rw[←hFdef]at h3 hfile
 clear hFdef
 have HFI:=ae hfile
 have hn:=hnew h3
 have HN:=ae hn
 have H3:=ae h3
 have hBw:w.heap.size≤w1.heap.size:=by have:=HB0.out.size;omega
 have hcB:w1.heap.size≤c∧w1.heap.size≤m∧c<w3.heap.size∧m<w3.heap.size:=⟨by omega,by omega,h3.home.lts.1,h3.home.lts.2.1⟩
 have hB13:Below w.heap.size w w3:=HB1.out.trans ((HB2.out.trans (HB3.out.mono hz2)).mono (by omega))
 have HB13:=ae hB13
 have hw3:w.heap.size≤w3.heap.size:=hB13.size
 clear hF hfile h3 hn HF HP HC HB2 HB3 HS2 HNEW HW0 HB0 HB1 hB13 hc3 hm3
 go_wp2_with fail
 refine(HN.out).mono ?_
 rintro e w4 (⟨s,t,f,p4,L4,S4,rfl,h4,hm4,ho4,hs4,ht4⟩|⟨f,p4,L4,S4,rfl,h4,hm4,ho4,ht4,_⟩)
 rotate_left
 ·obtain⟨h,_⟩:=ht4.first (fresh_lowest (by omega:1≤16))
  cases h
 obtain⟨_,hf0,hp4,hL4⟩:=ht4.first (fresh_lowest (by omega:1≤16))
 have hn4:p4.n=16:=by rw[hp4];rfl
 obtain⟨x4,hx4⟩: ∃x4:SpM,x4=⟨s,t,f,none,0,0,[],some (rootTab f)⟩:=⟨_,rfl⟩
 rw[←hx4]at h4
 have hk4:([]++[x4])[0]? =some x4:=rfl
 have hT4:x4.T=some (rootTab f):=by rw[hx4]
 have hs4':x4.s=s:=by rw[hx4]
 have hrl4:x4.rl=[]:=by rw[hx4]
 have hrgs:=wk_rgs HFI.out
 have hmp:=hmap h4 hk4 hT4 rA rA_ok (fun _ _ =>by rw[hrl4,rA_put];exact hrgs)
 rw[hs4']at hmp
 have H4:=ae h4
 have HM4:=ae hm4
 have HO4:=ae ho4
 have HMP:=ae hmp
 have HB14:=ae (H3.out.goes hBw HB13.out hm4)
 have HX4:=ae (And.intro hT4 (And.intro hs4' hrl4))
 clear hmp h4 hm4 ho4 ht4 hx4 hk4 hT4 hs4' hrl4 hp4 hL4 HN hrgs HM4 HO4 H3 HB13
 go_wp2_with fail
 refine(HMP.out).mono ?_
 rintro e w5 (⟨er,rfl,g1,g2,_,_⟩|⟨rfl,hz5,A5,cap5,p5,T5,h5,hm5,hwp⟩)
 ·rw[HX4.out.2.2,wk_mapErr HFI.out]at g2
  exact absurd g2 g1
 clear hz5
 obtain⟨hno5,hn5⟩:=wk_wiped (H4.out.sp (k:=0) rfl HX4.out.1) hwp hn4
 obtain⟨x5,hx5⟩: ∃x5,x5=x4.withR A5 cap5 (Rg.put x4.rl rA).1 T5:=⟨_,rfl⟩
 rw[←hx5]at h5
 change Hse w5 w1.heap.size c a fs m S4 F 0 p5 L4 [x5]at h5
 have hT5:x5.T=some T5:=by rw[hx5];rfl
 have hs5:x5.s=s:=by rw[hx5];exact HX4.out.2.1
 have hrl5:x5.rl=[rA]:=by rw[hx5];show(Rg.put x4.rl rA).1=_;rw[HX4.out.2.2,rA_put]
 have hln5:x5.n=1:=by rw[hx5];show(Rg.put x4.rl rA).1.length=_;rw[HX4.out.2.2,rA_put];rfl
 have hld:=hload h5 (k:=0) rfl hT5 (by simp) 4096 2 4 (by decide) ⟨by decide,by decide⟩
 rw[hs5]at hld
 have hB15:Below w.heap.size w w5:=HB14.out.trans (hm5.below (fun b e=>Nat.le_trans hBw (e.elim (H4.out.footLow b) (fun e=>by rw[HX4.out.2.1]at e;omega))) HB14.out.size)
 have H5:=ae h5
 have HB15:=ae hB15
 have HX5:=ae (And.intro hT5 (And.intro hs5 (And.intro hrl5 hln5)))
 have HNO5:=ae hno5
 have HLD:=ae hld
 clear h5 hB15 hT5 hs5 hrl5 hln5 hno5 hx5 hm5 hwp hld HMP H4 HX4 HB14 hn4
 go_wp2_with fail
 refine(sLoad_of _ _ _ _ _ ((HLD.out).mono ?_))
 rintro e w6 ⟨er,R6,kk,cp6,d6,p6,L6,T6,clk6,S6,rfl,h6,hm6,ho6,q1,q2,hown6,hnS6,hres6⟩
 rw[HX5.out.2.2.1]at hres6
 obtain⟨rfl,rfl,hd60,hd61,hn6,hG6,y6,hy6,hdat6⟩:=wk_load1 HFI.out hres6 (fun x=>tnS_one0 x) hn5 HNO5.out
 obtain⟨g6,rfl⟩:=hown6.some_of (by decide)
 have hB16:=H5.out.goes hBw HB15.out hm6
 have hg6S:=hnS6 g6 rfl
 obtain⟨x6,hx6⟩: ∃x6,x6=x5.withT T6:=⟨_,rfl⟩
 rw[←hx6]at h6
 change Hse w6 w1.heap.size c a fs m S6 F clk6 p6 L6 [x6]at h6
 have hT6:x6.T=some T6:=by rw[hx6];rfl
 have hs6:x6.s=s:=by rw[hx6];exact HX5.out.2.1
 have hrl6:x6.rl=[rA]:=by rw[hx6];exact HX5.out.2.2.1
 have hln6:x6.n=1:=by rw[hx6];exact HX5.out.2.2.2
 have hfk:=hfork h6 (k:=0) rfl hT6 (by simp) (by rw[hln6];decide)
 rw[hs6]at hfk
 have hg6b:=hown6.form
 have hcw5:c<w5.heap.size∧m<w5.heap.size:=⟨H5.out.home.lts.1,H5.out.home.lts.2.1⟩
 refine⟨⟨_,_,rfl⟩,?_⟩
 have H6:=ae h6
 have HB16:=ae hB16
 have HX6:=ae (And.intro hT6 (And.intro hs6 (And.intro hrl6 hln6)))
 have HFK:=ae hfk
 have HOWN6:=ae hown6
 have HG6:=ae hG6
 have HY6:=ae hy6
 have HDAT6:=ae hdat6
 clear h6 hB16 hT6 hs6 hrl6 hln6 hfk hown6 hG6 hy6 hdat6 hx6 hm6 ho6 hres6 hnS6 HLD H5 HX5 HNO5 HB15 hn5
 go_wp2_with fail
 refine(HFK.out).mono ?_
 rintro e w7 (⟨p7,L7,S7,rfl,h7,hm7,ho7,hno7⟩|⟨s7,t7,f7,A7,cap7,p7,L7,T7,U7,S7,rfl,h7,hm7,ho7,hs7,hd7⟩)
 ·exact(wk_fork (H6.out.sp (k:=0) rfl HX6.out.1) hno7 (fun x=>tnS_one0 x) hn6 HG6.out).elim
 have hB17:=H6.out.goes hBw HB16.out hm7
 have hown7:=HOWN6.out.foot hg6S hcw5.1 hcw5.2 hm7
 have hg7S: ¬S7 g6:=fun e=>(ho7 g6 e).elim hg6S (fun e=>by omega)
 have hn7:p7.n=16:=by rw[(hd7.far (fun _ =>False)).n,hn6]
 have hG7: ∀g y,T7.lf g=some y→g=1:=fun g y hy=>by
  rw[hd7.lf1 g]at hy
  cases hl:T6.lf g with
  |none=>rw[hl]at hy;cases hy
  |some z=>exact HG6.out g z hl
 have hGU: ∀g y,U7.lf g=some y→g=1:=fun g y hy=>by
  rw[hd7.lf2 g]at hy
  cases hl:T6.lf g with
  |none=>rw[hl]at hy;cases hy
  |some z=>exact HG6.out g z hl
 have hyT:T7.lf 1=some (cpy y6):=by rw[hd7.lf1,HY6.out];rfl
 have hyU:U7.lf 1=some (cpy y6):=by rw[hd7.lf2,HY6.out];rfl
 have hdat7:p7.dat y6.frame 0=7:=by rw[hd7.dat y6.frame ((H6.out.sp (k:=0) rfl HX6.out.1).leaf HY6.out).2.2.2.2.1];exact HDAT6.out
 obtain⟨x7,hx7⟩: ∃x7,x7=x6.withT T7:=⟨_,rfl⟩
 obtain⟨u7,hu7⟩: ∃u7:SpM,u7=⟨s7,t7,f7,A7,x6.n,cap7,x6.rl,some U7⟩:=⟨_,rfl⟩
 rw[←hx7,←hu7]at h7
 change Hse w7 w1.heap.size c a fs m S7 F clk6 p7 L7 [x7,u7]at h7
 have hT7:x7.T=some T7:=by rw[hx7];rfl
 have hxs7:x7.s=s:=by rw[hx7];exact HX6.out.2.1
 have hxrl7:x7.rl=[rA]:=by rw[hx7];exact HX6.out.2.2.1
 have hU7:u7.T=some U7:=by rw[hu7]
 have hus7:u7.s=s7:=by rw[hu7]
 have hurl7:u7.rl=[rA]:=by rw[hu7];exact HX6.out.2.2.1
 have hb78:Below w7.heap.size w7 (w7.alloc (.cells #[.int .u8 9] 5)):=(Below.refl _ _).alloc (Nat.le_refl _) _
 obtain⟨w8,hw8⟩: ∃w8,w8=w7.alloc (.cells #[.int .u8 9] 5):=⟨_,rfl⟩
 rw[←hw8]at hb78
 have hD8:w8.heap[w7.heap.size]? =some (.cells #[.int .u8 9] 5 (0,0)):=by rw[hw8];exact ab _ _
 have h8:=h7.below hb78
 have hst:=hstore h8 (k:=0) rfl hT7 (by simp) 4096 1 1 2 (some ⟨w7.heap.size,0,none⟩) (fun _ =>9) (by decide) ⟨by omega,by omega⟩ (by decide) (by decide) (fun _ =>⟨_,rfl,fun j hj=>by obtain rfl:j=0:=(by omega);exact aa hD8 0⟩) (fun _ =>by decide) (fun ad e=>by
  injection e with e
  subst e
  refine⟨(ac hD8).1,fun e=>?_⟩
  have hl7:=h7.home.lts
  rcases e with e|e|e
  ·have:=hl7.2.2 _ e;dsimp only at this;omega
  ·dsimp only at e;omega
  ·dsimp only at e;omega)
 rw[hxs7]at hst
 have H8:=ae h8
 have HST:=ae hst
 have HW8:=ae hw8
 have HB18:=ae (hB17.trans (hb78.mono hB17.size))
 have HX7:=ae (And.intro hT7 (And.intro hxs7 hxrl7))
 have HU7:=ae (And.intro hU7 (And.intro hus7 hurl7))
 have HOWN8:=ae (hown7.sameR (w':=w8) fun g e=>by injection e with e;injection e with e;subst e;exact hb78.block _ hown7.form.2)
 have HG7:=ae (And.intro hG7 hGU)
 have HY7:=ae (And.intro hyT hyU)
 have HD7:=ae hdat7
 clear h7 h8 hst hw8 hb78 hD8 hB17 hown7 hd7 hm7 ho7 hG7 hGU hyT hyU hdat7 hx7 hu7 hT7 hxs7 hxrl7 hU7 hus7 hurl7 HFK H6 HX6 HOWN6 HG6 HY6 HDAT6 HB16
 go_upto_region 15 with(first
  |(go_at_call 30;rw[←HW8.out];refine(sStore_of _ _ _ _ _ ((HST.out).mono ?_));rintro e w9 ⟨er9,p9,L9,T9,clk9,S9,rfl,h9,hm9,ho9,q3,q4,hres9⟩;refine⟨⟨_,rfl⟩,?_⟩)
  |fail)
 rw[HX7.out.2.2]at hres9
 have hsp8:=H8.out.sp (k:=0) rfl HX7.out.1
 have hsp8u:=H8.out.sp (k:=1) rfl HU7.out.1
 have hlf9:=hres9.left hsp8 (H8.out.ownT (k:=0) rfl HX7.out.1)
 obtain⟨rfl,z9,hz9,hdat9⟩:=wk_store (T2:=U7) hsp8 hres9 rfl (fun x=>by show tnS [none,u7.T] x=_;rw[HU7.out.1,tnS_two0]) hsp8u.good.ok HG7.out.2 hn7 HG7.out.1 HY7.out.1
 have hdatU:p9.dat (cpy y6).frame 0=7:=by
  have hbe:=H8.out.hs.beside (k:=0) (j:=1) (map_at (k:=0) (l:=[x7,u7]) rfl HX7.out.1) (map_at (k:=1) (l:=[x7,u7]) rfl HU7.out.1) (by decide)
  have h1:=Sp.besideDat hbe (hlf9.2.1 (fun _ =>False)) (x:=(cpy y6).frame) (tn_leaf (hsp8u.leaf HY7.out.2).2.2.2.2.1)
  rw[h1]
  exact HD7.out
 have hB19:=H8.out.goes hBw HB18.out hm9
 have hown9:=HOWN8.out.foot hg7S hcw5.1 hcw5.2 hm9
 obtain⟨x9,hx9⟩: ∃x9,x9=x7.withT T9:=⟨_,rfl⟩
 rw[←hx9]at h9
 change Hse w9 w1.heap.size c a fs m S9 F clk9 p9 L9 [x9,u7]at h9
 have hT9:x9.T=some T9:=by rw[hx9];rfl
 have hxs9:x9.s=s:=by rw[hx9];exact HX7.out.2.1
 have hxrl9:x9.rl=[rA]:=by rw[hx9];exact HX7.out.2.2
 have hld:=hload h9 (k:=1) rfl HU7.out.1 (by simp) 4096 1 4 (by decide) ⟨by omega,by omega⟩
 rw[HU7.out.2.1]at hld
 have m0:w9.cell? ⟨g6,0,none⟩=some (.int .u8 7):=by have:=hown9.cell (j:=0) (by decide);rw[hd60]at this;exact this
 have m1:w9.cell? ⟨g6,1,none⟩=some (.int .u8 0):=by have:=hown9.cell (j:=1) (by decide);rw[hd61]at this;exact this
 have H9:=ae h9
 have HLD:=ae hld
 have HB19:=ae hB19
 have HX9:=ae (And.intro hT9 (And.intro hxs9 hxrl9))
 have HZ9:=ae hz9
 have HDAT9:=ae hdat9
 have HDATU:=ae hdatU
 have hcw9:c<w9.heap.size∧m<w9.heap.size:=⟨h9.home.lts.1,h9.home.lts.2.1⟩
 clear h9 hld hB19 hT9 hxs9 hxrl9 hz9 hdat9 hdatU hsp8 hsp8u hlf9 hres9 hown9 hx9 hm9 ho9 H8 HX7 HG7 HD7 HOWN8 HB18 HST HW8
 go_upto_region 18 with(first
  |(go_at_call 28;refine(sLoad_of _ _ _ _ _ ((HLD.out).mono ?_));rintro e w10 ⟨er10,R10,k10,cp10,d10,p10,L10,T10,clk10,S10,rfl,h10,hm10,ho10,q5,q6,hown10,hnS10,hres10⟩;refine⟨⟨_,_,rfl⟩,?_⟩)
  |fail)
 rw[HU7.out.2.2]at hres10
 obtain⟨rfl,rfl,hd10,rfl,rfl,rfl⟩:=wk_load2 hres10 HY7.out.2
 obtain⟨g10,rfl⟩:=hown10.some_of (by decide)
 have hB110:=H9.out.goes hBw HB19.out hm10
 have hg10S:=hnS10 g10 rfl
 have hg10b:=hown10.form
 obtain⟨u10,hu10⟩: ∃u10,u10=u7.withT T10:=⟨_,rfl⟩
 rw[←hu10]at h10
 change Hse w10 w1.heap.size c a fs m S10 F clk10 p10 L10 [x9,u10]at h10
 have hld:=hload h10 (k:=0) rfl HX9.out.1 (by simp) 4096 1 4 (by decide) ⟨by omega,by omega⟩
 rw[HX9.out.2.1]at hld
 rw[HDATU.out]at hd10
 have H10:=ae h10
 have HLD2:=ae hld
 have HB110:=ae hB110
 have HOWN10:=ae hown10
 clear h10 hld hB110 hu10 hm10 ho10 hown10 hnS10 hres10 HLD H9 HB19 m0 m1
 go_upto_region 19 with(first
  |(go_at_call 28;refine(sLoad_of _ _ _ _ _ ((HLD2.out).mono ?_));rintro e w11 ⟨er11,R11,k11,cp11,d11,p11,L11,T11,clk11,S11,rfl,h11,hm11,ho11,q7,q8,hown11,hnS11,hres11⟩;refine⟨⟨_,_,rfl⟩,?_⟩)
  |fail)
 rw[HX9.out.2.2]at hres11
 obtain⟨rfl,rfl,hd11,rfl,rfl,rfl⟩:=wk_load2 hres11 HZ9.out
 obtain⟨g11,rfl⟩:=hown11.some_of (by decide)
 have hB111:=H10.out.goes hBw HB110.out hm11
 have hown10:=HOWN10.out.foot hg10S hcw9.1 hcw9.2 hm11
 have m0:w11.cell? ⟨g10,0,none⟩=some (.int .u8 7):=by have:=hown10.cell (j:=0) (by decide);rw[hd10]at this;exact this
 have m1:w11.cell? ⟨g11,0,none⟩=some (.int .u8 9):=by have:=hown11.cell (j:=0) (by decide);rw[hd11,HDAT9.out]at this;exact this
 clear h11 hm11 ho11 hown11 hnS11 hres11 hd11 HLD2 H10 HOWN10 hown10
 go_wp2_with fail
 go_ret
 exact⟨rfl,hB111⟩
end
end Go.Proofs.YtoochjhipmpehaaGreatDoor
