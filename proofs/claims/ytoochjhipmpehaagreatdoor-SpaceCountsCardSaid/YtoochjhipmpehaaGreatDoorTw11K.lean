/- The spaces' laws: twins, its walk. -/
import Derived.Test.YtoochjhipmpehaaGreatDoorEqK
set_option linter.unusedVariables false
set_option linter.unusedSimpArgs false
set_option maxRecDepth 100000
set_option maxHeartbeats 4000000
namespace Go.Proofs.YtoochjhipmpehaaGreatDoor
section
open Go.RowKit Go.Sort
theorem pz (P:Option Addr) (n cap:Nat) (l:List Ent) (w:World) (hl:eS w P l) (hn:n=l.length) (Gn:n<=64) (yS: ∀x∈l,x.n<=524288/\x.path.size<=524288/\x.to.size<=524288):
  Calls Tryz.prog 40 #[.slice P n cap] w (uU w l):=by
 have GO:=vp hl;have HN:=vp hn;have Oo:=vp yS;clear hl hn yS;go_enter Tryz.func40,Tryz.ntmps40;go_wp2_with fail;go_loopw [3,4] (fun sv i wr=> ∃(k:Nat) (R:Option Addr) (cp:Nat) (L:List EntR),k<=n/\i= .int .i64 (k:Int)/\sv= .slice R k cp/\L.map EntR.ent=l.take k/\k=L.length/\OwnE wr w.heap.size R cp L/\(∀r∈L,TwOk wr r)/\Below w.heap.size w wr) (fun _ i _ =>n-(intOf i).toNat)
 case atStart=>exact⟨0,none,0,[],by omega,rfl,rfl,rfl,rfl,World.ownsRow_nil w _ _ 7,(fun r hr=>by cases hr),vO _ _⟩
 case round=>
  obtain⟨k,R,cp,L,hk,rfl,rfl,hLt,hkL,hO,hT,yd⟩:=hrel;have Ra:=vp hLt;have Wq:=vp hkL;have HO:=vp hO;have HT:=vp hT;have yD:=vp yd;have OT:=yd.size;clear hLt hkL hO hT yd;by_cases vW:k<n
  ·obtain⟨x,hx⟩: ∃x,l[k]? =some x:=⟨_,vv (by rw[<-HN.out];exact vW)⟩;have Nl:l.take (k+1)=l.take k++[x]:=by
    rw[List.take_add_one,hx];rfl
   have GV:=Oo.out x (vA hx);obtain⟨bb,off,A,c,rfl,⟨c0,c1,c2,c3,c4,c5,c6⟩,hA,KO,Ft⟩:=(GO.out.below yD.out) k x hx;obtain⟨w1,yV⟩: ∃w1,w1=wr.alloc (.cells #[.string x.path, .int .u8 (x.kind:Int), .int .u16 (x.mode:Int), .int .u32 (x.uid:Int), .int .u32 (x.gid:Int), .slice A x.n c, .string x.to] 93):=⟨_,rfl⟩;have zM:w1.heap[wr.heap.size]? =some (.cells #[.string x.path, .int .u8 (x.kind:Int), .int .u16 (x.mode:Int), .int .u32 (x.uid:Int), .int .u32 (x.gid:Int), .slice A x.n c, .string x.to] 93 (0,0)):=(by rw[yV];exact ab wr _);have vS:Below wr.heap.size wr w1:=(by rw[yV];exact vr);have Jp:wr.heap.size<w1.heap.size:=(vo zM).1;have Et:=vp yV;have AS:=vp zM;have vY:=vp vS;have Jd:=vp Nl;have HA:=vp (hA.kept vS);have RJ:(k:Int)<(n:Int):=(by omega);clear hx Nl yV zM vS hA Ft;go_upto_region 6 with(fail);rw[<-Et.out];clear c0 c1 c2 c3 c4 c5 c6;have x5:w1.cell? ⟨wr.heap.size,5,none⟩=some (.slice A x.n c):=aa AS.out 5;have UI:Below w1.heap.size w1 (w1.alloc (.cells #[] 5)):=vr;have WT:=vp UI;clear UI;by_cases h0:0<x.n
   ·obtain⟨ad,rfl⟩: ∃ad,A=some ad:=(by obtain⟨ad,e,_⟩:=HA.out h0;exact⟨ad,e⟩);have Rv:=vp (HA.out.kept WT.out);go_upto_region 7 with(first
     |(at_builtin;refine nL rfl (.tmp 16) (.tmp 18) rfl w1.heap.size (some ⟨w1.heap.size,0,none⟩) 0 0 (fun _ =>0) rfl (OwnB.none_made w1) ad x.n c x.dat rfl Rv.out h0 (by omega) (by simp) ?_;intro g2 cp2 w3 ho hg xi hlt3;have Dh:Below w1.heap.size w1 w3:=vr.grown hg (by simp) (fun k hk=>by simp at hk;omega);have y5:=(Dh.cell (p:=⟨wr.heap.size,5,none⟩) Jp).trans x5;have yf:=ae ((Dh.block _ Jp).trans AS.out) 5;have BN:=vp ho;clear ho hg xi)
     |fail)
    have Lo:Hid (bV w3 (some ⟨g2,0,none⟩) x.n cp2 x.dat):=vp (by
     have h9:=BN.out;rw[Nat.zero_add]at h9;exact(h9.congr (fun i _ =>by simp)).byteRow)
    clear y5 yf x5;have CZ:=(Dh.block _ Jp).trans AS.out;have zL:(w3.setCell ⟨wr.heap.size,5,none⟩ (.slice (some ⟨g2,0,none⟩) x.n (cp2))).heap[wr.heap.size]? =some (.cells (entC ⟨x,some ⟨g2,0,none⟩,cp2⟩).toArray 93 (0,0)):=(by
     have h9:=Joins.block_setCell (i:=5) CZ (.slice (some ⟨g2,0,none⟩) x.n (cp2));simpa [entC]using h9)
    have Gq:=aj (S:=fun b=>b=wr.heap.size) (w:=w3) (b:=wr.heap.size) rfl 5 (.slice (some ⟨g2,0,none⟩) x.n (cp2));have XV:=Dh.size;obtain⟨w4,yE⟩: ∃w4,w4=w3.setCell ⟨wr.heap.size,5,none⟩ (.slice (some ⟨g2,0,none⟩) x.n (cp2)):=⟨_,rfl⟩;rw[<-yE]at zL Gq⊢;have Cx:Below wr.heap.size wr w3:=vY.out.trans (Dh.mono (by omega));have El:Below wr.heap.size wr w4:=(by rw[yE];exact Cx.setCell (p:=⟨wr.heap.size,5,none⟩) (vs _) _);have KN:bV w4 (some ⟨g2,0,none⟩) x.n (cp2) x.dat:=Lo.out.keep (fun g cs f hg=>Gq.block g (vo hg).1 (fun e=>(by
     rw[e,CZ]at hg;injection hg with hg;injection hg with _ e2 _;exact absurd e2 (by decide))))
    have y0:w4.cell? ⟨wr.heap.size,0,none⟩=some (.string x.path):=aa zL 0;have y1:w4.cell? ⟨wr.heap.size,1,none⟩=some (.int .u8 (x.kind:Int)):=aa zL 1;have y2:w4.cell? ⟨wr.heap.size,2,none⟩=some (.int .u16 (x.mode:Int)):=aa zL 2;have y3:w4.cell? ⟨wr.heap.size,3,none⟩=some (.int .u32 (x.uid:Int)):=aa zL 3;have y4:w4.cell? ⟨wr.heap.size,4,none⟩=some (.int .u32 (x.gid:Int)):=aa zL 4;have y5:w4.cell? ⟨wr.heap.size,5,none⟩=some (.slice (some ⟨g2,0,none⟩) x.n (cp2)):=aa zL 5;have y6:w4.cell? ⟨wr.heap.size,6,none⟩=some (.string x.to):=aa zL 6;have yl:=vp (HO.out.kept El);have LF:Hid (∀r∈L++[⟨x,some ⟨g2,0,none⟩,cp2⟩],TwOk w4 r):=vp (fun r hr=>(by
     rcases List.mem_append.1 hr with h9|h9
     ·exact(HT.out r h9).below El
     ·rw[List.mem_singleton]at h9;subst h9;exact KN))
    have Gv:Below w.heap.size w w4:=yD.out.trans (El.mono OT);have AZ:=Gv.size;have Rr:=vp Gv;clear CZ zL Gq yE Cx El KN Gv;go_wp2_with (first
     |(at_builtin;refine uP rfl (.tmp 21) (.tmp 23) rfl w.heap.size R cp k L Wq.out rfl (World.ownsRow.alloc yl.out _) ⟨x,some ⟨g2,0,none⟩,cp2⟩ w4.heap.size 1 rfl (ab _ _) (by omega) (by simp;omega) ?_;intro g5 cp5 w5 yX Df Ql YP;have BM:=vp yX;have GP:=vp Df;clear yX Df Ql)
     |fail)
    go_roundw
    case rel=>
     refine⟨k+1,some ⟨g5,0,none⟩,cp5,L++[⟨x,some ⟨g2,0,none⟩,cp2⟩],by omega,by go_num,rfl,by rw[List.map_append,Ra.out,Jd.out];rfl,by rw[vu,<-Wq.out];rfl,BM.out,fun r hr=>?_,?_⟩
     ·refine(LF.out r hr).keep fun g cs f hg=>?_;refine(GP.out.block g (by have:=(vo hg).1;simp;omega) (fun e=>?_)).trans (vt _ _ _ (vo hg).1);cases hR:R with
      |none=>rw[hR]at e;cases e
      |some ad2=>
       have Qu:=yl.out;rw[hR]at e Qu;rcases Qu.form with⟨e9,_⟩|⟨g9,e9,_⟩
       ·cases e9
       ·injection e9 with e9;subst e9;obtain⟨cur,e8,_⟩:=Qu.block;simp at e;rw[e,e8]at hg;injection hg with hg;injection hg with _ e2 _;exact absurd e2 (by decide)
     ·refine(Rr.out.alloc AZ _).grown GP.out (by simp;omega) fun k' Eh=>?_;rcases yl.out.form with⟨e9,_⟩|⟨g9,e9,h9,_⟩
      ·rw[e9]at Eh;cases Eh
      ·rw[e9]at Eh;simp at Eh;omega
    case measure=>simp[intOf];omega
   ·have OA:=vp (show x.n=0 by omega);obtain⟨w3,xq⟩: ∃w3,w3=w1.alloc (.cells #[] 5):=⟨_,rfl⟩;have Dh:Below w1.heap.size w1 w3:=(by rw[xq];exact WT.out);have OS:=(Dh.block _ Jp).trans AS.out;have z5:w3.cell? ⟨wr.heap.size,5,none⟩=some (.slice A x.n c):=aa OS 5;have zf:=ae OS 5;have Lo:Hid (bV w3 (some ⟨w1.heap.size,0,none⟩) x.n 0 x.dat):=vp (by
     rw[OA.out,xq];exact⟨(fun h=>by omega),(OwnB.none_made w1).byteRow.2.1,vs _,fun e=>by cases e⟩)
    have CH:=vp xq;clear xq OS;go_upto_region 7 with(first
     |(at_builtin;rw[<-CH.out];refine app_zero rfl (.tmp 16) (.tmp 18) rfl (some ⟨w1.heap.size,0,none⟩) x.n 0 OA.out rfl A c rfl ?_)
     |fail)
    clear z5 zf x5;have CZ:=(Dh.block _ Jp).trans AS.out;have zL:(w3.setCell ⟨wr.heap.size,5,none⟩ (.slice (some ⟨w1.heap.size,0,none⟩) x.n (0))).heap[wr.heap.size]? =some (.cells (entC ⟨x,some ⟨w1.heap.size,0,none⟩,0⟩).toArray 93 (0,0)):=(by
     have h9:=Joins.block_setCell (i:=5) CZ (.slice (some ⟨w1.heap.size,0,none⟩) x.n (0));simpa [entC]using h9)
    have Gq:=aj (S:=fun b=>b=wr.heap.size) (w:=w3) (b:=wr.heap.size) rfl 5 (.slice (some ⟨w1.heap.size,0,none⟩) x.n (0));have XV:=Dh.size;obtain⟨w4,yE⟩: ∃w4,w4=w3.setCell ⟨wr.heap.size,5,none⟩ (.slice (some ⟨w1.heap.size,0,none⟩) x.n (0)):=⟨_,rfl⟩;rw[<-yE]at zL Gq⊢;have Cx:Below wr.heap.size wr w3:=vY.out.trans (Dh.mono (by omega));have El:Below wr.heap.size wr w4:=(by rw[yE];exact Cx.setCell (p:=⟨wr.heap.size,5,none⟩) (vs _) _);have KN:bV w4 (some ⟨w1.heap.size,0,none⟩) x.n (0) x.dat:=Lo.out.keep (fun g cs f hg=>Gq.block g (vo hg).1 (fun e=>(by
     rw[e,CZ]at hg;injection hg with hg;injection hg with _ e2 _;exact absurd e2 (by decide))))
    have y0:w4.cell? ⟨wr.heap.size,0,none⟩=some (.string x.path):=aa zL 0;have y1:w4.cell? ⟨wr.heap.size,1,none⟩=some (.int .u8 (x.kind:Int)):=aa zL 1;have y2:w4.cell? ⟨wr.heap.size,2,none⟩=some (.int .u16 (x.mode:Int)):=aa zL 2;have y3:w4.cell? ⟨wr.heap.size,3,none⟩=some (.int .u32 (x.uid:Int)):=aa zL 3;have y4:w4.cell? ⟨wr.heap.size,4,none⟩=some (.int .u32 (x.gid:Int)):=aa zL 4;have y5:w4.cell? ⟨wr.heap.size,5,none⟩=some (.slice (some ⟨w1.heap.size,0,none⟩) x.n (0)):=aa zL 5;have y6:w4.cell? ⟨wr.heap.size,6,none⟩=some (.string x.to):=aa zL 6;have yl:=vp (HO.out.kept El);have LF:Hid (∀r∈L++[⟨x,some ⟨w1.heap.size,0,none⟩,0⟩],TwOk w4 r):=vp (fun r hr=>(by
     rcases List.mem_append.1 hr with h9|h9
     ·exact(HT.out r h9).below El
     ·rw[List.mem_singleton]at h9;subst h9;exact KN))
    have Gv:Below w.heap.size w w4:=yD.out.trans (El.mono OT);have AZ:=Gv.size;have Rr:=vp Gv;clear CZ zL Gq yE Cx El KN Gv;go_wp2_with (first
     |(at_builtin;refine uP rfl (.tmp 21) (.tmp 23) rfl w.heap.size R cp k L Wq.out rfl (World.ownsRow.alloc yl.out _) ⟨x,some ⟨w1.heap.size,0,none⟩,0⟩ w4.heap.size 1 rfl (ab _ _) (by omega) (by simp;omega) ?_;intro g5 cp5 w5 yX Df Ql YP;have BM:=vp yX;have GP:=vp Df;clear yX Df Ql)
     |fail)
    go_roundw
    case rel=>
     refine⟨k+1,some ⟨g5,0,none⟩,cp5,L++[⟨x,some ⟨w1.heap.size,0,none⟩,0⟩],by omega,by go_num,rfl,by rw[List.map_append,Ra.out,Jd.out];rfl,by rw[vu,<-Wq.out];rfl,BM.out,fun r hr=>?_,?_⟩
     ·refine(LF.out r hr).keep fun g cs f hg=>?_;refine(GP.out.block g (by have:=(vo hg).1;simp;omega) (fun e=>?_)).trans (vt _ _ _ (vo hg).1);cases hR:R with
      |none=>rw[hR]at e;cases e
      |some ad2=>
       have Qu:=yl.out;rw[hR]at e Qu;rcases Qu.form with⟨e9,_⟩|⟨g9,e9,_⟩
       ·cases e9
       ·injection e9 with e9;subst e9;obtain⟨cur,e8,_⟩:=Qu.block;simp at e;rw[e,e8]at hg;injection hg with hg;injection hg with _ e2 _;exact absurd e2 (by decide)
     ·refine(Rr.out.alloc AZ _).grown GP.out (by simp;omega) fun k' Eh=>?_;rcases yl.out.form with⟨e9,_⟩|⟨g9,e9,h9,_⟩
      ·rw[e9]at Eh;cases Eh
      ·rw[e9]at Eh;simp at Eh;omega
    case measure=>simp[intOf];omega
  ·obtain rfl:k=n:=(by omega);have HLT2:Hid (L.map EntR.ent=l):=vp (by rw[Ra.out,List.take_of_length_le (by rw[HN.out];exact vs _)]);go_wp2_with fail;go_ret;have xn:l.length<=cp:=by
    rw[<-HN.out,Wq.out];rcases HO.out.form with⟨_,e,e2⟩|⟨g,_,_,_,e⟩
    ·rw[e];exact vL _
    ·exact e
   exact⟨R,cp,by rw[<-HN.out];rfl,qz HLT2.out HO.out HT.out Oo.out,xn,yD.out⟩
end
