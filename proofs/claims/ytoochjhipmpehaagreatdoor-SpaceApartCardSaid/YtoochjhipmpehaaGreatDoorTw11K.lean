/- The spaces' laws: twins, its walk. -/
import Derived.Test.YtoochjhipmpehaaGreatDoorEqK
set_option linter.unusedVariables false
set_option linter.unusedSimpArgs false
set_option maxRecDepth 100000
set_option maxHeartbeats 4000000
namespace Go.Proofs.YtoochjhipmpehaaGreatDoor
section
open Go.RowKit Go.Sort
theorem pH (P:Option Addr) (n cap:Nat) (l:List Ent) (w:World) (hl:eU w P l) (hn:n=l.length) (Fy:n<=64) (yM: ∀x∈l,x.n<=524288/\x.path.size<=524288/\x.to.size<=524288):
  Calls Tryz.prog 40 #[.slice P n cap] w (uG w l):=by
 have Gx:=va hl;have HN:=va hn;have Lz:=va yM;clear hl hn yM;go_enter Tryz.func40,Tryz.ntmps40;go_wp2_with fail;go_loopw [3,4] (fun sv i wr=> ∃(k:Nat) (R:Option Addr) (cp:Nat) (L:List EntR),k<=n/\i= .int .i64 (k:Int)/\sv= .slice R k cp/\L.map EntR.ent=l.take k/\k=L.length/\OwnE wr w.heap.size R cp L/\(∀r∈L,TwOk wr r)/\Below w.heap.size w wr) (fun _ i _ =>n-(intOf i).toNat)
 case atStart=>exact⟨0,none,0,[],by omega,rfl,rfl,rfl,rfl,World.ownsRow_nil w _ _ 7,(fun r hr=>by cases hr),vz _ _⟩
 case round=>
  obtain⟨k,R,cp,L,hk,rfl,rfl,hLt,hkL,hO,hT,xV⟩:=hrel;have QL:=va hLt;have Wd:=va hkL;have HO:=va hO;have HT:=va hT;have yp:=va xV;have OJ:=xV.size;clear hLt hkL hO hT xV;by_cases vH:k<n
  ·obtain⟨x,hx⟩: ∃x,l[k]? =some x:=⟨_,vg (by rw[<-HN.out];exact vH)⟩;have Ng:l.take (k+1)=l.take k++[x]:=by
    rw[List.take_add_one,hx];rfl
   have GD:=Lz.out x (vl hx);obtain⟨bb,off,A,c,rfl,⟨c0,c1,c2,c3,c4,c5,c6⟩,hA,KF,Fa⟩:=(Gx.out.below yp.out) k x hx;obtain⟨w1,yS⟩: ∃w1,w1=wr.alloc (.cells #[.string x.path, .int .u8 (x.kind:Int), .int .u16 (x.mode:Int), .int .u32 (x.uid:Int), .int .u32 (x.gid:Int), .slice A x.n c, .string x.to] 93):=⟨_,rfl⟩;have zA:w1.heap[wr.heap.size]? =some (.cells #[.string x.path, .int .u8 (x.kind:Int), .int .u16 (x.mode:Int), .int .u32 (x.uid:Int), .int .u32 (x.gid:Int), .slice A x.n c, .string x.to] 93 (0,0)):=(by rw[yS];exact ab wr _);have vD:Below wr.heap.size wr w1:=(by rw[yS];exact vc);have Je:wr.heap.size<w1.heap.size:=(uZ zA).1;have DW:=va yS;have AA:=va zA;have vJ:=va vD;have IU:=va Ng;have HA:=va (hA.kept vD);have Rv:(k:Int)<(n:Int):=(by omega);clear hx Ng yS zA vD hA Fa;go_upto_region 6 with(fail);rw[<-DW.out];clear c0 c1 c2 c3 c4 c5 c6;have x5:w1.cell? ⟨wr.heap.size,5,none⟩=some (.slice A x.n c):=aa AA.out 5;have Uw:Below w1.heap.size w1 (w1.alloc (.cells #[] 5)):=vc;have WG:=va Uw;clear Uw;by_cases h0:0<x.n
   ·obtain⟨ad,rfl⟩: ∃ad,A=some ad:=(by obtain⟨ad,e,_⟩:=HA.out h0;exact⟨ad,e⟩);have Rh:=va (HA.out.kept WG.out);go_upto_region 7 with(first
     |(at_builtin;refine nT rfl (.tmp 16) (.tmp 18) rfl w1.heap.size (some ⟨w1.heap.size,0,none⟩) 0 0 (fun _ =>0) rfl (OwnB.none_made w1) ad x.n c x.dat rfl Rh.out h0 (by omega) (by simp) ?_;intro g2 cp2 w3 ho hg wK YM;have CL:Below w1.heap.size w1 w3:=vc.grown hg (by simp) (fun k hk=>by simp at hk;omega);have y5:=(CL.cell (p:=⟨wr.heap.size,5,none⟩) Je).trans x5;have yf:=ae ((CL.block _ Je).trans AA.out) 5;have Bz:=va ho;clear ho hg wK)
     |fail)
    have Hn:Hid (bX w3 (some ⟨g2,0,none⟩) x.n cp2 x.dat):=va (by
     have h9:=Bz.out;rw[Nat.zero_add]at h9;exact(h9.congr (fun i _ =>by simp)).byteRow)
    clear y5 yf x5;have CG:=(CL.block _ Je).trans AA.out;have zz:(w3.setCell ⟨wr.heap.size,5,none⟩ (.slice (some ⟨g2,0,none⟩) x.n (cp2))).heap[wr.heap.size]? =some (.cells (entC ⟨x,some ⟨g2,0,none⟩,cp2⟩).toArray 93 (0,0)):=(by
     have h9:=Joins.block_setCell (i:=5) CG (.slice (some ⟨g2,0,none⟩) x.n (cp2));simpa [entC]using h9)
    have FW:=aj (S:=fun b=>b=wr.heap.size) (w:=w3) (b:=wr.heap.size) rfl 5 (.slice (some ⟨g2,0,none⟩) x.n (cp2));have XM:=CL.size;obtain⟨w4,yR⟩: ∃w4,w4=w3.setCell ⟨wr.heap.size,5,none⟩ (.slice (some ⟨g2,0,none⟩) x.n (cp2)):=⟨_,rfl⟩;rw[<-yR]at zz FW⊢;have Cg:Below wr.heap.size wr w3:=vJ.out.trans (CL.mono (by omega));have DN:Below wr.heap.size wr w4:=(by rw[yR];exact Cg.setCell (p:=⟨wr.heap.size,5,none⟩) (vd _) _);have KE:bX w4 (some ⟨g2,0,none⟩) x.n (cp2) x.dat:=Hn.out.keep (fun g cs f hg=>FW.block g (uZ hg).1 (fun e=>(by
     rw[e,CG]at hg;injection hg with hg;injection hg with _ e2 _;exact absurd e2 (by decide))))
    have y0:w4.cell? ⟨wr.heap.size,0,none⟩=some (.string x.path):=aa zz 0;have y1:w4.cell? ⟨wr.heap.size,1,none⟩=some (.int .u8 (x.kind:Int)):=aa zz 1;have y2:w4.cell? ⟨wr.heap.size,2,none⟩=some (.int .u16 (x.mode:Int)):=aa zz 2;have y3:w4.cell? ⟨wr.heap.size,3,none⟩=some (.int .u32 (x.uid:Int)):=aa zz 3;have y4:w4.cell? ⟨wr.heap.size,4,none⟩=some (.int .u32 (x.gid:Int)):=aa zz 4;have y5:w4.cell? ⟨wr.heap.size,5,none⟩=some (.slice (some ⟨g2,0,none⟩) x.n (cp2)):=aa zz 5;have y6:w4.cell? ⟨wr.heap.size,6,none⟩=some (.string x.to):=aa zz 6;have yd:=va (HO.out.kept DN);have Ly:Hid (∀r∈L++[⟨x,some ⟨g2,0,none⟩,cp2⟩],TwOk w4 r):=va (fun r hr=>(by
     rcases List.mem_append.1 hr with h9|h9
     ·exact(HT.out r h9).below DN
     ·rw[List.mem_singleton]at h9;subst h9;exact KE))
    have Gd:Below w.heap.size w w4:=yp.out.trans (DN.mono OJ);have AX:=Gd.size;have Ra:=va Gd;clear CG zz FW yR Cg DN KE Gd;go_wp2_with (first
     |(at_builtin;refine uB rfl (.tmp 21) (.tmp 23) rfl w.heap.size R cp k L Wd.out rfl (World.ownsRow.alloc yd.out _) ⟨x,some ⟨g2,0,none⟩,cp2⟩ w4.heap.size 1 rfl (ab _ _) (by omega) (by simp;omega) ?_;intro g5 cp5 w5 yG Cb Iq Pr;have CE:=va yG;have Gy:=va Cb;clear yG Cb Iq)
     |fail)
    go_roundw
    case rel=>
     refine⟨k+1,some ⟨g5,0,none⟩,cp5,L++[⟨x,some ⟨g2,0,none⟩,cp2⟩],by omega,by go_num,rfl,by rw[List.map_append,QL.out,IU.out];rfl,by rw[vf,<-Wd.out];rfl,CE.out,fun r hr=>?_,?_⟩
     ·refine(Ly.out r hr).keep fun g cs f hg=>?_;refine(Gy.out.block g (by have:=(uZ hg).1;simp;omega) (fun e=>?_)).trans (ve _ _ _ (uZ hg).1);cases hR:R with
      |none=>rw[hR]at e;cases e
      |some ad2=>
       have Qg:=yd.out;rw[hR]at e Qg;rcases Qg.form with⟨e9,_⟩|⟨g9,e9,_⟩
       ·cases e9
       ·injection e9 with e9;subst e9;obtain⟨cur,e8,_⟩:=Qg.block;simp at e;rw[e,e8]at hg;injection hg with hg;injection hg with _ e2 _;exact absurd e2 (by decide)
     ·refine(Ra.out.alloc AX _).grown Gy.out (by simp;omega) fun k' DJ=>?_;rcases yd.out.form with⟨e9,_⟩|⟨g9,e9,h9,_⟩
      ·rw[e9]at DJ;cases DJ
      ·rw[e9]at DJ;simp at DJ;omega
    case measure=>simp[intOf];omega
   ·have Oq:=va (show x.n=0 by omega);obtain⟨w3,xb⟩: ∃w3,w3=w1.alloc (.cells #[] 5):=⟨_,rfl⟩;have CL:Below w1.heap.size w1 w3:=(by rw[xb];exact WG.out);have OI:=(CL.block _ Je).trans AA.out;have z5:w3.cell? ⟨wr.heap.size,5,none⟩=some (.slice A x.n c):=aa OI 5;have zf:=ae OI 5;have Hn:Hid (bX w3 (some ⟨w1.heap.size,0,none⟩) x.n 0 x.dat):=va (by
     rw[Oq.out,xb];exact⟨(fun h=>by omega),(OwnB.none_made w1).byteRow.2.1,vd _,fun e=>by cases e⟩)
    have Cp:=va xb;clear xb OI;go_upto_region 7 with(first
     |(at_builtin;rw[<-Cp.out];refine app_zero rfl (.tmp 16) (.tmp 18) rfl (some ⟨w1.heap.size,0,none⟩) x.n 0 Oq.out rfl A c rfl ?_)
     |fail)
    clear z5 zf x5;have CG:=(CL.block _ Je).trans AA.out;have zz:(w3.setCell ⟨wr.heap.size,5,none⟩ (.slice (some ⟨w1.heap.size,0,none⟩) x.n (0))).heap[wr.heap.size]? =some (.cells (entC ⟨x,some ⟨w1.heap.size,0,none⟩,0⟩).toArray 93 (0,0)):=(by
     have h9:=Joins.block_setCell (i:=5) CG (.slice (some ⟨w1.heap.size,0,none⟩) x.n (0));simpa [entC]using h9)
    have FW:=aj (S:=fun b=>b=wr.heap.size) (w:=w3) (b:=wr.heap.size) rfl 5 (.slice (some ⟨w1.heap.size,0,none⟩) x.n (0));have XM:=CL.size;obtain⟨w4,yR⟩: ∃w4,w4=w3.setCell ⟨wr.heap.size,5,none⟩ (.slice (some ⟨w1.heap.size,0,none⟩) x.n (0)):=⟨_,rfl⟩;rw[<-yR]at zz FW⊢;have Cg:Below wr.heap.size wr w3:=vJ.out.trans (CL.mono (by omega));have DN:Below wr.heap.size wr w4:=(by rw[yR];exact Cg.setCell (p:=⟨wr.heap.size,5,none⟩) (vd _) _);have KE:bX w4 (some ⟨w1.heap.size,0,none⟩) x.n (0) x.dat:=Hn.out.keep (fun g cs f hg=>FW.block g (uZ hg).1 (fun e=>(by
     rw[e,CG]at hg;injection hg with hg;injection hg with _ e2 _;exact absurd e2 (by decide))))
    have y0:w4.cell? ⟨wr.heap.size,0,none⟩=some (.string x.path):=aa zz 0;have y1:w4.cell? ⟨wr.heap.size,1,none⟩=some (.int .u8 (x.kind:Int)):=aa zz 1;have y2:w4.cell? ⟨wr.heap.size,2,none⟩=some (.int .u16 (x.mode:Int)):=aa zz 2;have y3:w4.cell? ⟨wr.heap.size,3,none⟩=some (.int .u32 (x.uid:Int)):=aa zz 3;have y4:w4.cell? ⟨wr.heap.size,4,none⟩=some (.int .u32 (x.gid:Int)):=aa zz 4;have y5:w4.cell? ⟨wr.heap.size,5,none⟩=some (.slice (some ⟨w1.heap.size,0,none⟩) x.n (0)):=aa zz 5;have y6:w4.cell? ⟨wr.heap.size,6,none⟩=some (.string x.to):=aa zz 6;have yd:=va (HO.out.kept DN);have Ly:Hid (∀r∈L++[⟨x,some ⟨w1.heap.size,0,none⟩,0⟩],TwOk w4 r):=va (fun r hr=>(by
     rcases List.mem_append.1 hr with h9|h9
     ·exact(HT.out r h9).below DN
     ·rw[List.mem_singleton]at h9;subst h9;exact KE))
    have Gd:Below w.heap.size w w4:=yp.out.trans (DN.mono OJ);have AX:=Gd.size;have Ra:=va Gd;clear CG zz FW yR Cg DN KE Gd;go_wp2_with (first
     |(at_builtin;refine uB rfl (.tmp 21) (.tmp 23) rfl w.heap.size R cp k L Wd.out rfl (World.ownsRow.alloc yd.out _) ⟨x,some ⟨w1.heap.size,0,none⟩,0⟩ w4.heap.size 1 rfl (ab _ _) (by omega) (by simp;omega) ?_;intro g5 cp5 w5 yG Cb Iq Pr;have CE:=va yG;have Gy:=va Cb;clear yG Cb Iq)
     |fail)
    go_roundw
    case rel=>
     refine⟨k+1,some ⟨g5,0,none⟩,cp5,L++[⟨x,some ⟨w1.heap.size,0,none⟩,0⟩],by omega,by go_num,rfl,by rw[List.map_append,QL.out,IU.out];rfl,by rw[vf,<-Wd.out];rfl,CE.out,fun r hr=>?_,?_⟩
     ·refine(Ly.out r hr).keep fun g cs f hg=>?_;refine(Gy.out.block g (by have:=(uZ hg).1;simp;omega) (fun e=>?_)).trans (ve _ _ _ (uZ hg).1);cases hR:R with
      |none=>rw[hR]at e;cases e
      |some ad2=>
       have Qg:=yd.out;rw[hR]at e Qg;rcases Qg.form with⟨e9,_⟩|⟨g9,e9,_⟩
       ·cases e9
       ·injection e9 with e9;subst e9;obtain⟨cur,e8,_⟩:=Qg.block;simp at e;rw[e,e8]at hg;injection hg with hg;injection hg with _ e2 _;exact absurd e2 (by decide)
     ·refine(Ra.out.alloc AX _).grown Gy.out (by simp;omega) fun k' DJ=>?_;rcases yd.out.form with⟨e9,_⟩|⟨g9,e9,h9,_⟩
      ·rw[e9]at DJ;cases DJ
      ·rw[e9]at DJ;simp at DJ;omega
    case measure=>simp[intOf];omega
  ·obtain rfl:k=n:=(by omega);have HLT2:Hid (L.map EntR.ent=l):=va (by rw[QL.out,List.take_of_length_le (by rw[HN.out];exact vd _)]);go_wp2_with fail;go_ret;have wY:l.length<=cp:=by
    rw[<-HN.out,Wd.out];rcases HO.out.form with⟨_,e,e2⟩|⟨g,_,_,_,e⟩
    ·rw[e];exact vw _
    ·exact e
   exact⟨R,cp,by rw[<-HN.out];rfl,qD HLT2.out HO.out HT.out Lz.out,wY,yp.out⟩
end
