/- The spaces' laws: twins, its walk. -/
import Derived.Test.YtoochjhipmpehaaGreatDoorEqK
set_option linter.unusedVariables false
set_option linter.unusedSimpArgs false
set_option maxRecDepth 100000
set_option maxHeartbeats 4000000
namespace Go.Proofs.YtoochjhipmpehaaGreatDoor
section
open Go.RowKit Go.Sort
theorem pv (P:Option Addr) (n cap:Nat) (l:List Ent) (w:World) (hl:eM w P l) (hn:n=l.length) (Df:n<=64) (yC: ∀x∈l,x.n<=524288/\x.path.size<=524288/\x.to.size<=524288):
  Calls Tryz.prog 40 #[.slice P n cap] w (um w l):=by
 have FT:=uH hl;have HN:=uH hn;have NA:=uH yC;clear hl hn yC;go_enter Tryz.func40,Tryz.ntmps40;go_wp2_with fail;go_loopw [3,4] (fun sv i wr=> ∃(k:Nat) (R:Option Addr) (cp:Nat) (L:List EntR),k<=n/\i= .int .i64 (k:Int)/\sv= .slice R k cp/\L.map EntR.ent=l.take k/\k=L.length/\OwnE wr w.heap.size R cp L/\(∀r∈L,TwOk wr r)/\Below w.heap.size w wr) (fun _ i _ =>n-(intOf i).toNat)
 case atStart=>exact⟨0,none,0,[],by omega,rfl,rfl,rfl,rfl,World.ownsRow_nil w _ _ 7,(fun r hr=>by cases hr),vg _ _⟩
 case round=>
  obtain⟨k,R,cp,L,hk,rfl,rfl,hLt,hkL,hO,hT,xx⟩:=hrel;have Qp:=uH hLt;have Vl:=uH hkL;have HO:=uH hO;have HT:=uH hT;have xP:=uH xx;have Oh:=xx.size;clear hLt hkL hO hT xx;by_cases vo:k<n
  ·obtain⟨x,hx⟩: ∃x,l[k]? =some x:=⟨_,uN (by rw[<-HN.out];exact vo)⟩;have Mz:l.take (k+1)=l.take k++[x]:=by
    rw[List.take_add_one,hx];rfl
   have Gb:=NA.out x (uS hx);obtain⟨bb,off,A,c,rfl,⟨c0,c1,c2,c3,c4,c5,c6⟩,hA,Kf,Ex⟩:=(FT.out.below xP.out) k x hx;obtain⟨w1,yr⟩: ∃w1,w1=wr.alloc (.cells #[.string x.path, .int .u8 (x.kind:Int), .int .u16 (x.mode:Int), .int .u32 (x.uid:Int), .int .u32 (x.gid:Int), .slice A x.n c, .string x.to] 93):=⟨_,rfl⟩;have yp:w1.heap[wr.heap.size]? =some (.cells #[.string x.path, .int .u8 (x.kind:Int), .int .u16 (x.mode:Int), .int .u32 (x.uid:Int), .int .u32 (x.gid:Int), .slice A x.n c, .string x.to] 93 (0,0)):=(by rw[yr];exact ab wr _);have vk:Below wr.heap.size wr w1:=(by rw[yr];exact uJ);have Iw:wr.heap.size<w1.heap.size:=(uG yp).1;have Dv:=uH yr;have zX:=uH yp;have vq:=uH vk;have Ip:=uH Mz;have HA:=uH (hA.kept vk);have QQ:(k:Int)<(n:Int):=(by omega);clear hx Mz yr yp vk hA Ex;go_upto_region 6 with(fail);rw[<-Dv.out];clear c0 c1 c2 c3 c4 c5 c6;have x5:w1.cell? ⟨wr.heap.size,5,none⟩=some (.slice A x.n c):=aa zX.out 5;have TK:Below w1.heap.size w1 (w1.alloc (.cells #[] 5)):=uJ;have VH:=uH TK;clear TK;by_cases h0:0<x.n
   ·obtain⟨ad,rfl⟩: ∃ad,A=some ad:=(by obtain⟨ad,e,_⟩:=HA.out h0;exact⟨ad,e⟩);have QF:=uH (HA.out.kept VH.out);go_upto_region 7 with(first
     |(at_builtin;refine nF rfl (.tmp 16) (.tmp 18) rfl w1.heap.size (some ⟨w1.heap.size,0,none⟩) 0 0 (fun _ =>0) rfl (OwnB.none_made w1) ad x.n c x.dat rfl QF.out h0 (by omega) (by simp) ?_;intro g2 cp2 w3 ho hg wC hlt3;have Co:Below w1.heap.size w1 w3:=uJ.grown hg (by simp) (fun k hk=>by simp at hk;omega);have y5:=(Co.cell (p:=⟨wr.heap.size,5,none⟩) Iw).trans x5;have yf:=ae ((Co.block _ Iw).trans zX.out) 5;have BU:=uH ho;clear ho hg wC)
     |fail)
    have QC:Hid (bU w3 (some ⟨g2,0,none⟩) x.n cp2 x.dat):=uH (by
     have h9:=BU.out;rw[Nat.zero_add]at h9;exact(h9.congr (fun i _ =>by simp)).byteRow)
    clear y5 yf x5;have Ci:=(Co.block _ Iw).trans zX.out;have yU:(w3.setCell ⟨wr.heap.size,5,none⟩ (.slice (some ⟨g2,0,none⟩) x.n (cp2))).heap[wr.heap.size]? =some (.cells (entC ⟨x,some ⟨g2,0,none⟩,cp2⟩).toArray 93 (0,0)):=(by
     have h9:=Joins.block_setCell (i:=5) Ci (.slice (some ⟨g2,0,none⟩) x.n (cp2));simpa [entC]using h9)
    have Fq:=aj (S:=fun b=>b=wr.heap.size) (w:=w3) (b:=wr.heap.size) rfl 5 (.slice (some ⟨g2,0,none⟩) x.n (cp2));have WL:=Co.size;obtain⟨w4,yq⟩: ∃w4,w4=w3.setCell ⟨wr.heap.size,5,none⟩ (.slice (some ⟨g2,0,none⟩) x.n (cp2)):=⟨_,rfl⟩;rw[<-yq]at yU Fq⊢;have BE:Below wr.heap.size wr w3:=vq.out.trans (Co.mono (by omega));have Dn:Below wr.heap.size wr w4:=(by rw[yq];exact BE.setCell (p:=⟨wr.heap.size,5,none⟩) (uK _) _);have Ke:bU w4 (some ⟨g2,0,none⟩) x.n (cp2) x.dat:=QC.out.keep (fun g cs f hg=>Fq.block g (uG hg).1 (fun e=>(by
     rw[e,Ci]at hg;injection hg with hg;injection hg with _ e2 _;exact absurd e2 (by decide))))
    have y0:w4.cell? ⟨wr.heap.size,0,none⟩=some (.string x.path):=aa yU 0;have y1:w4.cell? ⟨wr.heap.size,1,none⟩=some (.int .u8 (x.kind:Int)):=aa yU 1;have y2:w4.cell? ⟨wr.heap.size,2,none⟩=some (.int .u16 (x.mode:Int)):=aa yU 2;have y3:w4.cell? ⟨wr.heap.size,3,none⟩=some (.int .u32 (x.uid:Int)):=aa yU 3;have y4:w4.cell? ⟨wr.heap.size,4,none⟩=some (.int .u32 (x.gid:Int)):=aa yU 4;have y5:w4.cell? ⟨wr.heap.size,5,none⟩=some (.slice (some ⟨g2,0,none⟩) x.n (cp2)):=aa yU 5;have y6:w4.cell? ⟨wr.heap.size,6,none⟩=some (.string x.to):=aa yU 6;have xv:=uH (HO.out.kept Dn);have KU:Hid (∀r∈L++[⟨x,some ⟨g2,0,none⟩,cp2⟩],TwOk w4 r):=uH (fun r hr=>(by
     rcases List.mem_append.1 hr with h9|h9
     ·exact(HT.out r h9).below Dn
     ·rw[List.mem_singleton]at h9;subst h9;exact Ke))
    have Fx:Below w.heap.size w w4:=xP.out.trans (Dn.mono Oh);have AN:=Fx.size;have QB:=uH Fx;clear Ci yU Fq yq BE Dn Ke Fx;go_wp2_with (first
     |(at_builtin;refine ug rfl (.tmp 21) (.tmp 23) rfl w.heap.size R cp k L Vl.out rfl (World.ownsRow.alloc xv.out _) ⟨x,some ⟨g2,0,none⟩,cp2⟩ w4.heap.size 1 rfl (ab _ _) (by omega) (by simp;omega) ?_;intro g5 cp5 w5 yt CH Py XH;have Ch:=uH yt;have FU:=uH CH;clear yt CH Py)
     |fail)
    go_roundw
    case rel=>
     refine⟨k+1,some ⟨g5,0,none⟩,cp5,L++[⟨x,some ⟨g2,0,none⟩,cp2⟩],by omega,by go_num,rfl,by rw[List.map_append,Qp.out,Ip.out];rfl,by rw[uM,<-Vl.out];rfl,Ch.out,fun r hr=>?_,?_⟩
     ·refine(KU.out r hr).keep fun g cs f hg=>?_;refine(FU.out.block g (by have:=(uG hg).1;simp;omega) (fun e=>?_)).trans (uL _ _ _ (uG hg).1);cases hR:R with
      |none=>rw[hR]at e;cases e
      |some ad2=>
       have PI:=xv.out;rw[hR]at e PI;rcases PI.form with⟨e9,_⟩|⟨g9,e9,_⟩
       ·cases e9
       ·injection e9 with e9;subst e9;obtain⟨cur,e8,_⟩:=PI.block;simp at e;rw[e,e8]at hg;injection hg with hg;injection hg with _ e2 _;exact absurd e2 (by decide)
     ·refine(QB.out.alloc AN _).grown FU.out (by simp;omega) fun k' Di=>?_;rcases xv.out.form with⟨e9,_⟩|⟨g9,e9,h9,_⟩
      ·rw[e9]at Di;cases Di
      ·rw[e9]at Di;simp at Di;omega
    case measure=>simp[intOf];omega
   ·have NL:=uH (show x.n=0 by omega);obtain⟨w3,wE⟩: ∃w3,w3=w1.alloc (.cells #[] 5):=⟨_,rfl⟩;have Co:Below w1.heap.size w1 w3:=(by rw[wE];exact VH.out);have Og:=(Co.block _ Iw).trans zX.out;have z5:w3.cell? ⟨wr.heap.size,5,none⟩=some (.slice A x.n c):=aa Og 5;have zf:=ae Og 5;have QC:Hid (bU w3 (some ⟨w1.heap.size,0,none⟩) x.n 0 x.dat):=uH (by
     rw[NL.out,wE];exact⟨(fun h=>by omega),(OwnB.none_made w1).byteRow.2.1,uK _,fun e=>by cases e⟩)
    have BO:=uH wE;clear wE Og;go_upto_region 7 with(first
     |(at_builtin;rw[<-BO.out];refine app_zero rfl (.tmp 16) (.tmp 18) rfl (some ⟨w1.heap.size,0,none⟩) x.n 0 NL.out rfl A c rfl ?_)
     |fail)
    clear z5 zf x5;have Ci:=(Co.block _ Iw).trans zX.out;have yU:(w3.setCell ⟨wr.heap.size,5,none⟩ (.slice (some ⟨w1.heap.size,0,none⟩) x.n (0))).heap[wr.heap.size]? =some (.cells (entC ⟨x,some ⟨w1.heap.size,0,none⟩,0⟩).toArray 93 (0,0)):=(by
     have h9:=Joins.block_setCell (i:=5) Ci (.slice (some ⟨w1.heap.size,0,none⟩) x.n (0));simpa [entC]using h9)
    have Fq:=aj (S:=fun b=>b=wr.heap.size) (w:=w3) (b:=wr.heap.size) rfl 5 (.slice (some ⟨w1.heap.size,0,none⟩) x.n (0));have WL:=Co.size;obtain⟨w4,yq⟩: ∃w4,w4=w3.setCell ⟨wr.heap.size,5,none⟩ (.slice (some ⟨w1.heap.size,0,none⟩) x.n (0)):=⟨_,rfl⟩;rw[<-yq]at yU Fq⊢;have BE:Below wr.heap.size wr w3:=vq.out.trans (Co.mono (by omega));have Dn:Below wr.heap.size wr w4:=(by rw[yq];exact BE.setCell (p:=⟨wr.heap.size,5,none⟩) (uK _) _);have Ke:bU w4 (some ⟨w1.heap.size,0,none⟩) x.n (0) x.dat:=QC.out.keep (fun g cs f hg=>Fq.block g (uG hg).1 (fun e=>(by
     rw[e,Ci]at hg;injection hg with hg;injection hg with _ e2 _;exact absurd e2 (by decide))))
    have y0:w4.cell? ⟨wr.heap.size,0,none⟩=some (.string x.path):=aa yU 0;have y1:w4.cell? ⟨wr.heap.size,1,none⟩=some (.int .u8 (x.kind:Int)):=aa yU 1;have y2:w4.cell? ⟨wr.heap.size,2,none⟩=some (.int .u16 (x.mode:Int)):=aa yU 2;have y3:w4.cell? ⟨wr.heap.size,3,none⟩=some (.int .u32 (x.uid:Int)):=aa yU 3;have y4:w4.cell? ⟨wr.heap.size,4,none⟩=some (.int .u32 (x.gid:Int)):=aa yU 4;have y5:w4.cell? ⟨wr.heap.size,5,none⟩=some (.slice (some ⟨w1.heap.size,0,none⟩) x.n (0)):=aa yU 5;have y6:w4.cell? ⟨wr.heap.size,6,none⟩=some (.string x.to):=aa yU 6;have xv:=uH (HO.out.kept Dn);have KU:Hid (∀r∈L++[⟨x,some ⟨w1.heap.size,0,none⟩,0⟩],TwOk w4 r):=uH (fun r hr=>(by
     rcases List.mem_append.1 hr with h9|h9
     ·exact(HT.out r h9).below Dn
     ·rw[List.mem_singleton]at h9;subst h9;exact Ke))
    have Fx:Below w.heap.size w w4:=xP.out.trans (Dn.mono Oh);have AN:=Fx.size;have QB:=uH Fx;clear Ci yU Fq yq BE Dn Ke Fx;go_wp2_with (first
     |(at_builtin;refine ug rfl (.tmp 21) (.tmp 23) rfl w.heap.size R cp k L Vl.out rfl (World.ownsRow.alloc xv.out _) ⟨x,some ⟨w1.heap.size,0,none⟩,0⟩ w4.heap.size 1 rfl (ab _ _) (by omega) (by simp;omega) ?_;intro g5 cp5 w5 yt CH Py XH;have Ch:=uH yt;have FU:=uH CH;clear yt CH Py)
     |fail)
    go_roundw
    case rel=>
     refine⟨k+1,some ⟨g5,0,none⟩,cp5,L++[⟨x,some ⟨w1.heap.size,0,none⟩,0⟩],by omega,by go_num,rfl,by rw[List.map_append,Qp.out,Ip.out];rfl,by rw[uM,<-Vl.out];rfl,Ch.out,fun r hr=>?_,?_⟩
     ·refine(KU.out r hr).keep fun g cs f hg=>?_;refine(FU.out.block g (by have:=(uG hg).1;simp;omega) (fun e=>?_)).trans (uL _ _ _ (uG hg).1);cases hR:R with
      |none=>rw[hR]at e;cases e
      |some ad2=>
       have PI:=xv.out;rw[hR]at e PI;rcases PI.form with⟨e9,_⟩|⟨g9,e9,_⟩
       ·cases e9
       ·injection e9 with e9;subst e9;obtain⟨cur,e8,_⟩:=PI.block;simp at e;rw[e,e8]at hg;injection hg with hg;injection hg with _ e2 _;exact absurd e2 (by decide)
     ·refine(QB.out.alloc AN _).grown FU.out (by simp;omega) fun k' Di=>?_;rcases xv.out.form with⟨e9,_⟩|⟨g9,e9,h9,_⟩
      ·rw[e9]at Di;cases Di
      ·rw[e9]at Di;simp at Di;omega
    case measure=>simp[intOf];omega
  ·obtain rfl:k=n:=(by omega);have ZI:Hid (L.map EntR.ent=l):=uH (by rw[Qp.out,List.take_of_length_le (by rw[HN.out];exact uK _)]);go_wp2_with fail;go_ret;have wB:l.length<=cp:=by
    rw[<-HN.out,Vl.out];rcases HO.out.form with⟨_,e,e2⟩|⟨g,_,_,_,e⟩
    ·rw[e];exact vd _
    ·exact e
   exact⟨R,cp,by rw[<-HN.out];rfl,qp ZI.out HO.out HT.out NA.out,wB,xP.out⟩
end
