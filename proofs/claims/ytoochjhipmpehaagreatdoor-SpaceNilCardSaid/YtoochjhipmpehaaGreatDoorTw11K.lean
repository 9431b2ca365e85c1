/- The spaces' laws: twins, its walk. -/
import Derived.Test.YtoochjhipmpehaaGreatDoorAbK
import Derived.Test.YtoochjhipmpehaaGreatDoorEqK
set_option linter.unusedVariables false
set_option linter.unusedSimpArgs false
set_option maxRecDepth 100000
set_option maxHeartbeats 4000000
namespace Go.Proofs.YtoochjhipmpehaaGreatDoor
section
open Go.RowKit Go.Sort
theorem tw11_any (P:Option Addr) (n cap:Nat) (l:List Ent) (w:World) (hl:EntsIn w P l) (hn:n=l.length) (hn2:n≤64) (hsm: ∀x∈l,x.n≤524288∧x.path.size≤524288∧x.to.size≤524288):
  Calls Tryz.prog 40 #[.slice P n cap] w (TwinsPost w l):=by
 have HL0:=ae hl
 have HN:=ae hn
 have HSM:=ae hsm
 clear hl hn hsm
 go_enter Tryz.func40,Tryz.ntmps40
 go_wp2_with fail
 go_loopw [3,4] (fun sv i wr=> ∃(k:Nat) (R:Option Addr) (cp:Nat) (L:List EntR),k≤n∧i= .int .i64 (k:Int)∧sv= .slice R k cp∧L.map EntR.ent=l.take k∧k=L.length∧OwnE wr w.heap.size R cp L∧(∀r∈L,TwOk wr r)∧Below w.heap.size w wr) (fun _ i _ =>n-(intOf i).toNat)
 case atStart=>exact⟨0,none,0,[],by omega,rfl,rfl,rfl,rfl,World.ownsRow_nil w _ _ 7,(fun r hr=>by cases hr),Below.refl _ _⟩
 case round=>
  obtain⟨k,R,cp,L,hk,rfl,rfl,hLt,hkL,hO,hT,hbe⟩:=hrel
  have HLT:=ae hLt
  have HKL:=ae hkL
  have HO:=ae hO
  have HT:=ae hT
  have HBE:=ae hbe
  have hwz:=hbe.size
  clear hLt hkL hO hT hbe
  by_cases hlt:k<n
  ·obtain⟨x,hx⟩: ∃x,l[k]? =some x:=⟨_,List.getElem?_eq_getElem (by rw[←HN.out];exact hlt)⟩
   have htk:l.take (k+1)=l.take k++[x]:=by
    rw[List.take_add_one,hx]
    rfl
   have hxs:=HSM.out x (List.mem_of_getElem? hx)
   obtain⟨bb,off,A,c,rfl,⟨c0,c1,c2,c3,c4,c5,c6⟩,hA,hAok,hfit⟩:=(HL0.out.below HBE.out) k x hx
   obtain⟨w1,hw1⟩: ∃w1,w1=wr.alloc (.cells #[.string x.path, .int .u8 (x.kind:Int), .int .u16 (x.mode:Int), .int .u32 (x.uid:Int), .int .u32 (x.gid:Int), .slice A x.n c, .string x.to] 93):=⟨_,rfl⟩
   have hx1:w1.heap[wr.heap.size]? =some (.cells #[.string x.path, .int .u8 (x.kind:Int), .int .u16 (x.mode:Int), .int .u32 (x.uid:Int), .int .u32 (x.gid:Int), .slice A x.n c, .string x.to] 93 (0,0)):=by rw[hw1];exact ab wr _
   have hb1:Below wr.heap.size wr w1:=by rw[hw1];exact(Below.refl _ _).alloc (Nat.le_refl _) _
   have hx1l:wr.heap.size<w1.heap.size:=(ac hx1).1
   have HW1:=ae hw1
   have HX1:=ae hx1
   have HB1:=ae hb1
   have HTK:=ae htk
   have HA:=ae (hA.kept hb1)
   have hkn:(k:Int)<(n:Int):=by omega
   clear hx htk hw1 hx1 hb1 hA hfit
   go_upto_region 6 with(fail)
   rw[←HW1.out]
   clear c0 c1 c2 c3 c4 c5 c6
   have x5:w1.cell? ⟨wr.heap.size,5,none⟩=some (.slice A x.n c):=aa HX1.out 5
   have hbe2:Below w1.heap.size w1 (w1.alloc (.cells #[] 5)):=(Below.refl _ _).alloc (Nat.le_refl _) _
   have HBE2:=ae hbe2
   clear hbe2
   by_cases h0:0<x.n
   ·obtain⟨ad,rfl⟩: ∃ad,A=some ad:=by obtain⟨ad,e,_⟩:=HA.out h0;exact⟨ad,e⟩
    have HA2:=ae (HA.out.kept HBE2.out)
    go_upto_region 7 with(first
     |(at_builtin;refine app_bytes rfl (.tmp 16) (.tmp 18) rfl w1.heap.size (some ⟨w1.heap.size,0,none⟩) 0 0 (fun _ =>0) rfl (OwnB.none_made w1) ad x.n c x.dat rfl HA2.out h0 (by omega) (by simp) ?_;intro g2 cp2 w3 ho hg hat hlt3;have hb13:Below w1.heap.size w1 w3:=((Below.refl _ _).alloc (Nat.le_refl _) _).grown hg (by simp) (fun k hk=>by simp at hk;omega);have y5:=(hb13.cell (p:=⟨wr.heap.size,5,none⟩) hx1l).trans x5;have yf:=one_free ((hb13.block _ hx1l).trans HX1.out) 5;have HO2:=ae ho;clear ho hg hat)
     |fail)
    have HBR:Hid (ByteRow w3 (some ⟨g2,0,none⟩) x.n cp2 x.dat):=ae (by
     have h9:=HO2.out
     rw[Nat.zero_add]at h9
     exact(h9.congr (fun i _ =>by simp)).byteRow)
    clear y5 yf x5
    have hx3:=(hb13.block _ hx1l).trans HX1.out
    have hx4:(w3.setCell ⟨wr.heap.size,5,none⟩ (.slice (some ⟨g2,0,none⟩) x.n (cp2))).heap[wr.heap.size]? =some (.cells (entC ⟨x,some ⟨g2,0,none⟩,cp2⟩).toArray 93 (0,0)):=(by
     have h9:=Joins.block_setCell (i:=5) hx3 (.slice (some ⟨g2,0,none⟩) x.n (cp2))
     simpa [entC]using h9)
    have hm34:=mod_set (S:=fun b=>b=wr.heap.size) (w:=w3) (b:=wr.heap.size) rfl 5 (.slice (some ⟨g2,0,none⟩) x.n (cp2))
    have hz13:=hb13.size
    obtain⟨w4,hw4⟩: ∃w4,w4=w3.setCell ⟨wr.heap.size,5,none⟩ (.slice (some ⟨g2,0,none⟩) x.n (cp2)):=⟨_,rfl⟩
    rw[←hw4]at hx4 hm34⊢
    have hbr3:Below wr.heap.size wr w3:=HB1.out.trans (hb13.mono (by omega))
    have hbr4:Below wr.heap.size wr w4:=(by rw[hw4];exact hbr3.setCell (p:=⟨wr.heap.size,5,none⟩) (Nat.le_refl _) _)
    have hBR4:ByteRow w4 (some ⟨g2,0,none⟩) x.n (cp2) x.dat:=HBR.out.keep (fun g cs f hg=>hm34.block g (ac hg).1 (fun e=>(by
     rw[e,hx3]at hg
     injection hg with hg
     injection hg with _ e2 _
     exact absurd e2 (by decide))))
    have y0:w4.cell? ⟨wr.heap.size,0,none⟩=some (.string x.path):=aa hx4 0
    have y1:w4.cell? ⟨wr.heap.size,1,none⟩=some (.int .u8 (x.kind:Int)):=aa hx4 1
    have y2:w4.cell? ⟨wr.heap.size,2,none⟩=some (.int .u16 (x.mode:Int)):=aa hx4 2
    have y3:w4.cell? ⟨wr.heap.size,3,none⟩=some (.int .u32 (x.uid:Int)):=aa hx4 3
    have y4:w4.cell? ⟨wr.heap.size,4,none⟩=some (.int .u32 (x.gid:Int)):=aa hx4 4
    have y5:w4.cell? ⟨wr.heap.size,5,none⟩=some (.slice (some ⟨g2,0,none⟩) x.n (cp2)):=aa hx4 5
    have y6:w4.cell? ⟨wr.heap.size,6,none⟩=some (.string x.to):=aa hx4 6
    have HO4:=ae (HO.out.kept hbr4)
    have HT4:Hid (∀r∈L++[⟨x,some ⟨g2,0,none⟩,cp2⟩],TwOk w4 r):=ae (fun r hr=>(by
     rcases List.mem_append.1 hr with h9|h9
     ·exact(HT.out r h9).below hbr4
     ·rw[List.mem_singleton]at h9
      subst h9
      exact hBR4))
    have hbw4:Below w.heap.size w w4:=HBE.out.trans (hbr4.mono hwz)
    have hz4:=hbw4.size
    have HBW4:=ae hbw4
    clear hx3 hx4 hm34 hw4 hbr3 hbr4 hBR4 hbw4
    go_wp2_with (first
     |(at_builtin;refine app_ent rfl (.tmp 21) (.tmp 23) rfl w.heap.size R cp k L HKL.out rfl (World.ownsRow.alloc HO4.out _) ⟨x,some ⟨g2,0,none⟩,cp2⟩ w4.heap.size 1 rfl (ab _ _) (by omega) (by simp;omega) ?_;intro g5 cp5 w5 ho5 hg5 hat5 hlt5;have HO5:=ae ho5;have HG5:=ae hg5;clear ho5 hg5 hat5)
     |fail)
    go_roundw
    case rel=>
     refine⟨k+1,some ⟨g5,0,none⟩,cp5,L++[⟨x,some ⟨g2,0,none⟩,cp2⟩],by omega,by go_num,rfl,by rw[List.map_append,HLT.out,HTK.out];rfl,by rw[List.length_append,←HKL.out];rfl,HO5.out,fun r hr=>?_,?_⟩
     ·refine(HT4.out r hr).keep fun g cs f hg=>?_
      refine(HG5.out.block g (by have:=(ac hg).1;simp;omega) (fun e=>?_)).trans (Below.heap_alloc _ _ _ (ac hg).1)
      cases hR:R with
      |none=>rw[hR]at e;cases e
      |some ad2=>
       have hO9:=HO4.out
       rw[hR]at e hO9
       rcases hO9.form with⟨e9,_⟩|⟨g9,e9,_⟩
       ·cases e9
       ·injection e9 with e9
        subst e9
        obtain⟨cur,e8,_⟩:=hO9.block
        simp at e
        rw[e,e8]at hg
        injection hg with hg
        injection hg with _ e2 _
        exact absurd e2 (by decide)
     ·refine(HBW4.out.alloc hz4 _).grown HG5.out (by simp;omega) fun k' hk'=>?_
      rcases HO4.out.form with⟨e9,_⟩|⟨g9,e9,h9,_⟩
      ·rw[e9]at hk';cases hk'
      ·rw[e9]at hk';simp at hk';omega
    case measure=>simp[intOf];omega
   ·have HN0:=ae (show x.n=0 by omega)
    obtain⟨w3,hw3⟩: ∃w3,w3=w1.alloc (.cells #[] 5):=⟨_,rfl⟩
    have hb13:Below w1.heap.size w1 w3:=by rw[hw3];exact HBE2.out
    have hx3':=(hb13.block _ hx1l).trans HX1.out
    have z5:w3.cell? ⟨wr.heap.size,5,none⟩=some (.slice A x.n c):=aa hx3' 5
    have zf:=one_free hx3' 5
    have HBR:Hid (ByteRow w3 (some ⟨w1.heap.size,0,none⟩) x.n 0 x.dat):=ae (by
     rw[HN0.out,hw3]
     exact⟨(fun h=>by omega),(OwnB.none_made w1).byteRow.2.1,Nat.le_refl _,fun e=>by cases e⟩)
    have HW3:=ae hw3
    clear hw3 hx3'
    go_upto_region 7 with(first
     |(at_builtin;rw[←HW3.out];refine app_zero rfl (.tmp 16) (.tmp 18) rfl (some ⟨w1.heap.size,0,none⟩) x.n 0 HN0.out rfl A c rfl ?_)
     |fail)
    clear z5 zf x5
    have hx3:=(hb13.block _ hx1l).trans HX1.out
    have hx4:(w3.setCell ⟨wr.heap.size,5,none⟩ (.slice (some ⟨w1.heap.size,0,none⟩) x.n (0))).heap[wr.heap.size]? =some (.cells (entC ⟨x,some ⟨w1.heap.size,0,none⟩,0⟩).toArray 93 (0,0)):=(by
     have h9:=Joins.block_setCell (i:=5) hx3 (.slice (some ⟨w1.heap.size,0,none⟩) x.n (0))
     simpa [entC]using h9)
    have hm34:=mod_set (S:=fun b=>b=wr.heap.size) (w:=w3) (b:=wr.heap.size) rfl 5 (.slice (some ⟨w1.heap.size,0,none⟩) x.n (0))
    have hz13:=hb13.size
    obtain⟨w4,hw4⟩: ∃w4,w4=w3.setCell ⟨wr.heap.size,5,none⟩ (.slice (some ⟨w1.heap.size,0,none⟩) x.n (0)):=⟨_,rfl⟩
    rw[←hw4]at hx4 hm34⊢
    have hbr3:Below wr.heap.size wr w3:=HB1.out.trans (hb13.mono (by omega))
    have hbr4:Below wr.heap.size wr w4:=(by rw[hw4];exact hbr3.setCell (p:=⟨wr.heap.size,5,none⟩) (Nat.le_refl _) _)
    have hBR4:ByteRow w4 (some ⟨w1.heap.size,0,none⟩) x.n (0) x.dat:=HBR.out.keep (fun g cs f hg=>hm34.block g (ac hg).1 (fun e=>(by
     rw[e,hx3]at hg
     injection hg with hg
     injection hg with _ e2 _
     exact absurd e2 (by decide))))
    have y0:w4.cell? ⟨wr.heap.size,0,none⟩=some (.string x.path):=aa hx4 0
    have y1:w4.cell? ⟨wr.heap.size,1,none⟩=some (.int .u8 (x.kind:Int)):=aa hx4 1
    have y2:w4.cell? ⟨wr.heap.size,2,none⟩=some (.int .u16 (x.mode:Int)):=aa hx4 2
    have y3:w4.cell? ⟨wr.heap.size,3,none⟩=some (.int .u32 (x.uid:Int)):=aa hx4 3
    have y4:w4.cell? ⟨wr.heap.size,4,none⟩=some (.int .u32 (x.gid:Int)):=aa hx4 4
    have y5:w4.cell? ⟨wr.heap.size,5,none⟩=some (.slice (some ⟨w1.heap.size,0,none⟩) x.n (0)):=aa hx4 5
    have y6:w4.cell? ⟨wr.heap.size,6,none⟩=some (.string x.to):=aa hx4 6
    have HO4:=ae (HO.out.kept hbr4)
    have HT4:Hid (∀r∈L++[⟨x,some ⟨w1.heap.size,0,none⟩,0⟩],TwOk w4 r):=ae (fun r hr=>(by
     rcases List.mem_append.1 hr with h9|h9
     ·exact(HT.out r h9).below hbr4
     ·rw[List.mem_singleton]at h9
      subst h9
      exact hBR4))
    have hbw4:Below w.heap.size w w4:=HBE.out.trans (hbr4.mono hwz)
    have hz4:=hbw4.size
    have HBW4:=ae hbw4
    clear hx3 hx4 hm34 hw4 hbr3 hbr4 hBR4 hbw4
    go_wp2_with (first
     |(at_builtin;refine app_ent rfl (.tmp 21) (.tmp 23) rfl w.heap.size R cp k L HKL.out rfl (World.ownsRow.alloc HO4.out _) ⟨x,some ⟨w1.heap.size,0,none⟩,0⟩ w4.heap.size 1 rfl (ab _ _) (by omega) (by simp;omega) ?_;intro g5 cp5 w5 ho5 hg5 hat5 hlt5;have HO5:=ae ho5;have HG5:=ae hg5;clear ho5 hg5 hat5)
     |fail)
    go_roundw
    case rel=>
     refine⟨k+1,some ⟨g5,0,none⟩,cp5,L++[⟨x,some ⟨w1.heap.size,0,none⟩,0⟩],by omega,by go_num,rfl,by rw[List.map_append,HLT.out,HTK.out];rfl,by rw[List.length_append,←HKL.out];rfl,HO5.out,fun r hr=>?_,?_⟩
     ·refine(HT4.out r hr).keep fun g cs f hg=>?_
      refine(HG5.out.block g (by have:=(ac hg).1;simp;omega) (fun e=>?_)).trans (Below.heap_alloc _ _ _ (ac hg).1)
      cases hR:R with
      |none=>rw[hR]at e;cases e
      |some ad2=>
       have hO9:=HO4.out
       rw[hR]at e hO9
       rcases hO9.form with⟨e9,_⟩|⟨g9,e9,_⟩
       ·cases e9
       ·injection e9 with e9
        subst e9
        obtain⟨cur,e8,_⟩:=hO9.block
        simp at e
        rw[e,e8]at hg
        injection hg with hg
        injection hg with _ e2 _
        exact absurd e2 (by decide)
     ·refine(HBW4.out.alloc hz4 _).grown HG5.out (by simp;omega) fun k' hk'=>?_
      rcases HO4.out.form with⟨e9,_⟩|⟨g9,e9,h9,_⟩
      ·rw[e9]at hk';cases hk'
      ·rw[e9]at hk';simp at hk';omega
    case measure=>simp[intOf];omega
  ·obtain rfl:k=n:=by omega
   have HLT2:Hid (L.map EntR.ent=l):=ae (by rw[HLT.out,List.take_of_length_le (by rw[HN.out];exact Nat.le_refl _)])
   go_wp2_with fail
   go_ret
   have hcap:l.length≤cp:=by
    rw[←HN.out,HKL.out]
    rcases HO.out.form with⟨_,e,e2⟩|⟨g,_,_,_,e⟩
    ·rw[e];exact Nat.zero_le _
    ·exact e
   exact⟨R,cp,by rw[←HN.out];rfl,twins_done HLT2.out HO.out HT.out HSM.out,hcap,HBE.out⟩
end
end Go.Proofs.YtoochjhipmpehaaGreatDoor
