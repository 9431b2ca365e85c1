/- The spaces' laws: twins, its walk. -/
import Derived.Test.YtoochjhipmpehaaGreatDoorEqK
set_option linter.unusedVariables false
set_option linter.unusedSimpArgs false
set_option maxRecDepth 100000
set_option maxHeartbeats 4000000
namespace Go.Proofs.YtoochjhipmpehaaGreatDoor
section
open Go.RowKit Go.Sort
theorem pz (P:Option Addr) (n cap:Nat) (l:List Ent) (w:World) (hl:eY w P l) (hn:n=l.length) (Gj:n<=64) (yd: ∀x∈l,x.n<=524288/\x.path.size<=524288/\x.to.size<=524288):
  Calls Tryz.prog 40 #[.slice P n cap] w (um w l):=by
 have GS:=uK hl;have HN:=uK hn;have Ol:=uK yd;clear hl hn yd;go_enter Tryz.func40,Tryz.ntmps40;go_wp2_with fail;go_loopw [3,4] (fun sv i wr=> ∃(k:Nat) (R:Option Addr) (cp:Nat) (L:List EntR),k<=n/\i= .int .i64 (k:Int)/\sv= .slice R k cp/\L.map EntR.ent=l.take k/\k=L.length/\OwnE wr w.heap.size R cp L/\(∀r∈L,TwOk wr r)/\Below w.heap.size w wr) (fun _ i _ =>n-(intOf i).toNat)
 case atStart=>exact⟨0,none,0,[],by omega,rfl,rfl,rfl,rfl,World.ownsRow_nil w _ _ 7,(fun r hr=>by cases hr),vj _ _⟩
 case round=>
  obtain⟨k,R,cp,L,hk,rfl,rfl,hLt,hkL,hO,hT,xZ⟩:=hrel;have QJ:=uK hLt;have VF:=uK hkL;have HO:=uK hO;have HT:=uK hT;have yC:=uK xZ;have OO:=xZ.size;clear hLt hkL hO hT xZ;by_cases vq:k<n
  ·obtain⟨x,hx⟩: ∃x,l[k]? =some x:=⟨_,uQ (by rw[<-HN.out];exact vq)⟩;have Nk:l.take (k+1)=l.take k++[x]:=by
    rw[List.take_add_one,hx];rfl
   have Iq:=Ol.out x (uV hx);obtain⟨bb,off,A,c,rfl,⟨c0,c1,c2,c3,c4,c5,c6⟩,hA,KW,Fi⟩:=(GS.out.below yC.out) k x hx;obtain⟨w1,zd⟩: ∃w1,w1=wr.alloc (.cells #[.string x.path, .int .u8 (x.kind:Int), .int .u16 (x.mode:Int), .int .u32 (x.uid:Int), .int .u32 (x.gid:Int), .slice A x.n c, .string x.to] 93):=⟨_,rfl⟩;have zL:w1.heap[wr.heap.size]? =some (.cells #[.string x.path, .int .u8 (x.kind:Int), .int .u16 (x.mode:Int), .int .u32 (x.uid:Int), .int .u32 (x.gid:Int), .slice A x.n c, .string x.to] 93 (0,0)):=(by rw[zd];exact ab wr _);have vl:Below wr.heap.size wr w1:=(by rw[zd];exact uM);have Jv:wr.heap.size<w1.heap.size:=(uJ zL).1;have Ej:=uK zd;have AL:=uK zL;have vu:=uK vl;have Jm:=uK Nk;have HA:=uK (hA.kept vl);have Rt:(k:Int)<(n:Int):=(by omega);clear hx Nk zd zL vl hA Fi;go_upto_region 6 with(fail);rw[<-Ej.out];clear c0 c1 c2 c3 c4 c5 c6;have x5:w1.cell? ⟨wr.heap.size,5,none⟩=some (.slice A x.n c):=aa AL.out 5;have Ue:Below w1.heap.size w1 (w1.alloc (.cells #[] 5)):=uM;have Wb:=uK Ue;clear Ue;by_cases h0:0<x.n
   ·obtain⟨ad,rfl⟩: ∃ad,A=some ad:=(by obtain⟨ad,e,_⟩:=HA.out h0;exact⟨ad,e⟩);have Rc:=uK (HA.out.kept Wb.out);go_upto_region 7 with(first
     |(at_builtin;refine nN rfl (.tmp 16) (.tmp 18) rfl w1.heap.size (some ⟨w1.heap.size,0,none⟩) 0 0 (fun _ =>0) rfl (OwnB.none_made w1) ad x.n c x.dat rfl Rc.out h0 (by omega) (by simp) ?_;intro g2 cp2 w3 ho hg wU hlt3;have Dc:Below w1.heap.size w1 w3:=uM.grown hg (by simp) (fun k hk=>by simp at hk;omega);have y5:=(Dc.cell (p:=⟨wr.heap.size,5,none⟩) Jv).trans x5;have yf:=ae ((Dc.block _ Jv).trans AL.out) 5;have CF:=uK ho;clear ho hg wU)
     |fail)
    have QX:Hid (ca w3 (some ⟨g2,0,none⟩) x.n cp2 x.dat):=uK (by
     have h9:=CF.out;rw[Nat.zero_add]at h9;exact(h9.congr (fun i _ =>by simp)).byteRow)
    clear y5 yf x5;have CT:=(Dc.block _ Jv).trans AL.out;have zK:(w3.setCell ⟨wr.heap.size,5,none⟩ (.slice (some ⟨g2,0,none⟩) x.n (cp2))).heap[wr.heap.size]? =some (.cells (entC ⟨x,some ⟨g2,0,none⟩,cp2⟩).toArray 93 (0,0)):=(by
     have h9:=Joins.block_setCell (i:=5) CT (.slice (some ⟨g2,0,none⟩) x.n (cp2));simpa [entC]using h9)
    have Gl:=al (S:=fun b=>b=wr.heap.size) (w:=w3) (b:=wr.heap.size) rfl 5 (.slice (some ⟨g2,0,none⟩) x.n (cp2));have Xc:=Dc.size;obtain⟨w4,zc⟩: ∃w4,w4=w3.setCell ⟨wr.heap.size,5,none⟩ (.slice (some ⟨g2,0,none⟩) x.n (cp2)):=⟨_,rfl⟩;rw[<-zc]at zK Gl⊢;have Cj:Below wr.heap.size wr w3:=vu.out.trans (Dc.mono (by omega));have Eb:Below wr.heap.size wr w4:=(by rw[zc];exact Cj.setCell (p:=⟨wr.heap.size,5,none⟩) (uN _) _);have KV:ca w4 (some ⟨g2,0,none⟩) x.n (cp2) x.dat:=QX.out.keep (fun g cs f hg=>Gl.block g (uJ hg).1 (fun e=>(by
     rw[e,CT]at hg;injection hg with hg;injection hg with _ e2 _;exact absurd e2 (by decide))))
    have y0:w4.cell? ⟨wr.heap.size,0,none⟩=some (.string x.path):=aa zK 0;have y1:w4.cell? ⟨wr.heap.size,1,none⟩=some (.int .u8 (x.kind:Int)):=aa zK 1;have y2:w4.cell? ⟨wr.heap.size,2,none⟩=some (.int .u16 (x.mode:Int)):=aa zK 2;have y3:w4.cell? ⟨wr.heap.size,3,none⟩=some (.int .u32 (x.uid:Int)):=aa zK 3;have y4:w4.cell? ⟨wr.heap.size,4,none⟩=some (.int .u32 (x.gid:Int)):=aa zK 4;have y5:w4.cell? ⟨wr.heap.size,5,none⟩=some (.slice (some ⟨g2,0,none⟩) x.n (cp2)):=aa zK 5;have y6:w4.cell? ⟨wr.heap.size,6,none⟩=some (.string x.to):=aa zK 6;have yp:=uK (HO.out.kept Eb);have LJ:Hid (∀r∈L++[⟨x,some ⟨g2,0,none⟩,cp2⟩],TwOk w4 r):=uK (fun r hr=>(by
     rcases List.mem_append.1 hr with h9|h9
     ·exact(HT.out r h9).below Eb
     ·rw[List.mem_singleton]at h9;subst h9;exact KV))
    have Gt:Below w.heap.size w w4:=yC.out.trans (Eb.mono OO);have AU:=Gt.size;have QW:=uK Gt;clear CT zK Gl zc Cj Eb KV Gt;go_wp2_with (first
     |(at_builtin;refine ug rfl (.tmp 21) (.tmp 23) rfl w.heap.size R cp k L VF.out rfl (World.ownsRow.alloc yp.out _) ⟨x,some ⟨g2,0,none⟩,cp2⟩ w4.heap.size 1 rfl (ab _ _) (by omega) (by simp;omega) ?_;intro g5 cp5 w5 xW Dx Qa Ya;have CS:=uK xW;have GV:=uK Dx;clear xW Dx Qa)
     |fail)
    go_roundw
    case rel=>
     refine⟨k+1,some ⟨g5,0,none⟩,cp5,L++[⟨x,some ⟨g2,0,none⟩,cp2⟩],by omega,by go_num,rfl,by rw[List.map_append,QJ.out,Jm.out];rfl,by rw[uP,<-VF.out];rfl,CS.out,fun r hr=>?_,?_⟩
     ·refine(LJ.out r hr).keep fun g cs f hg=>?_;refine(GV.out.block g (by have:=(uJ hg).1;simp;omega) (fun e=>?_)).trans (uO _ _ _ (uJ hg).1);cases hR:R with
      |none=>rw[hR]at e;cases e
      |some ad2=>
       have Qj:=yp.out;rw[hR]at e Qj;rcases Qj.form with⟨e9,_⟩|⟨g9,e9,_⟩
       ·cases e9
       ·injection e9 with e9;subst e9;obtain⟨cur,e8,_⟩:=Qj.block;simp at e;rw[e,e8]at hg;injection hg with hg;injection hg with _ e2 _;exact absurd e2 (by decide)
     ·refine(QW.out.alloc AU _).grown GV.out (by simp;omega) fun k' DW=>?_;rcases yp.out.form with⟨e9,_⟩|⟨g9,e9,h9,_⟩
      ·rw[e9]at DW;cases DW
      ·rw[e9]at DW;simp at DW;omega
    case measure=>simp[intOf];omega
   ·have Ow:=uK (show x.n=0 by omega);obtain⟨w3,wX⟩: ∃w3,w3=w1.alloc (.cells #[] 5):=⟨_,rfl⟩;have Dc:Below w1.heap.size w1 w3:=(by rw[wX];exact Wb.out);have ON:=(Dc.block _ Jv).trans AL.out;have z5:w3.cell? ⟨wr.heap.size,5,none⟩=some (.slice A x.n c):=aa ON 5;have zf:=ae ON 5;have QX:Hid (ca w3 (some ⟨w1.heap.size,0,none⟩) x.n 0 x.dat):=uK (by
     rw[Ow.out,wX];exact⟨(fun h=>by omega),(OwnB.none_made w1).byteRow.2.1,uN _,fun e=>by cases e⟩)
    have Cy:=uK wX;clear wX ON;go_upto_region 7 with(first
     |(at_builtin;rw[<-Cy.out];refine app_zero rfl (.tmp 16) (.tmp 18) rfl (some ⟨w1.heap.size,0,none⟩) x.n 0 Ow.out rfl A c rfl ?_)
     |fail)
    clear z5 zf x5;have CT:=(Dc.block _ Jv).trans AL.out;have zK:(w3.setCell ⟨wr.heap.size,5,none⟩ (.slice (some ⟨w1.heap.size,0,none⟩) x.n (0))).heap[wr.heap.size]? =some (.cells (entC ⟨x,some ⟨w1.heap.size,0,none⟩,0⟩).toArray 93 (0,0)):=(by
     have h9:=Joins.block_setCell (i:=5) CT (.slice (some ⟨w1.heap.size,0,none⟩) x.n (0));simpa [entC]using h9)
    have Gl:=al (S:=fun b=>b=wr.heap.size) (w:=w3) (b:=wr.heap.size) rfl 5 (.slice (some ⟨w1.heap.size,0,none⟩) x.n (0));have Xc:=Dc.size;obtain⟨w4,zc⟩: ∃w4,w4=w3.setCell ⟨wr.heap.size,5,none⟩ (.slice (some ⟨w1.heap.size,0,none⟩) x.n (0)):=⟨_,rfl⟩;rw[<-zc]at zK Gl⊢;have Cj:Below wr.heap.size wr w3:=vu.out.trans (Dc.mono (by omega));have Eb:Below wr.heap.size wr w4:=(by rw[zc];exact Cj.setCell (p:=⟨wr.heap.size,5,none⟩) (uN _) _);have KV:ca w4 (some ⟨w1.heap.size,0,none⟩) x.n (0) x.dat:=QX.out.keep (fun g cs f hg=>Gl.block g (uJ hg).1 (fun e=>(by
     rw[e,CT]at hg;injection hg with hg;injection hg with _ e2 _;exact absurd e2 (by decide))))
    have y0:w4.cell? ⟨wr.heap.size,0,none⟩=some (.string x.path):=aa zK 0;have y1:w4.cell? ⟨wr.heap.size,1,none⟩=some (.int .u8 (x.kind:Int)):=aa zK 1;have y2:w4.cell? ⟨wr.heap.size,2,none⟩=some (.int .u16 (x.mode:Int)):=aa zK 2;have y3:w4.cell? ⟨wr.heap.size,3,none⟩=some (.int .u32 (x.uid:Int)):=aa zK 3;have y4:w4.cell? ⟨wr.heap.size,4,none⟩=some (.int .u32 (x.gid:Int)):=aa zK 4;have y5:w4.cell? ⟨wr.heap.size,5,none⟩=some (.slice (some ⟨w1.heap.size,0,none⟩) x.n (0)):=aa zK 5;have y6:w4.cell? ⟨wr.heap.size,6,none⟩=some (.string x.to):=aa zK 6;have yp:=uK (HO.out.kept Eb);have LJ:Hid (∀r∈L++[⟨x,some ⟨w1.heap.size,0,none⟩,0⟩],TwOk w4 r):=uK (fun r hr=>(by
     rcases List.mem_append.1 hr with h9|h9
     ·exact(HT.out r h9).below Eb
     ·rw[List.mem_singleton]at h9;subst h9;exact KV))
    have Gt:Below w.heap.size w w4:=yC.out.trans (Eb.mono OO);have AU:=Gt.size;have QW:=uK Gt;clear CT zK Gl zc Cj Eb KV Gt;go_wp2_with (first
     |(at_builtin;refine ug rfl (.tmp 21) (.tmp 23) rfl w.heap.size R cp k L VF.out rfl (World.ownsRow.alloc yp.out _) ⟨x,some ⟨w1.heap.size,0,none⟩,0⟩ w4.heap.size 1 rfl (ab _ _) (by omega) (by simp;omega) ?_;intro g5 cp5 w5 xW Dx Qa Ya;have CS:=uK xW;have GV:=uK Dx;clear xW Dx Qa)
     |fail)
    go_roundw
    case rel=>
     refine⟨k+1,some ⟨g5,0,none⟩,cp5,L++[⟨x,some ⟨w1.heap.size,0,none⟩,0⟩],by omega,by go_num,rfl,by rw[List.map_append,QJ.out,Jm.out];rfl,by rw[uP,<-VF.out];rfl,CS.out,fun r hr=>?_,?_⟩
     ·refine(LJ.out r hr).keep fun g cs f hg=>?_;refine(GV.out.block g (by have:=(uJ hg).1;simp;omega) (fun e=>?_)).trans (uO _ _ _ (uJ hg).1);cases hR:R with
      |none=>rw[hR]at e;cases e
      |some ad2=>
       have Qj:=yp.out;rw[hR]at e Qj;rcases Qj.form with⟨e9,_⟩|⟨g9,e9,_⟩
       ·cases e9
       ·injection e9 with e9;subst e9;obtain⟨cur,e8,_⟩:=Qj.block;simp at e;rw[e,e8]at hg;injection hg with hg;injection hg with _ e2 _;exact absurd e2 (by decide)
     ·refine(QW.out.alloc AU _).grown GV.out (by simp;omega) fun k' DW=>?_;rcases yp.out.form with⟨e9,_⟩|⟨g9,e9,h9,_⟩
      ·rw[e9]at DW;cases DW
      ·rw[e9]at DW;simp at DW;omega
    case measure=>simp[intOf];omega
  ·obtain rfl:k=n:=(by omega);have ZW:Hid (L.map EntR.ent=l):=uK (by rw[QJ.out,List.take_of_length_le (by rw[HN.out];exact uN _)]);go_wp2_with fail;go_ret;have wT:l.length<=cp:=by
    rw[<-HN.out,VF.out];rcases HO.out.form with⟨_,e,e2⟩|⟨g,_,_,_,e⟩
    ·rw[e];exact vg _
    ·exact e
   exact⟨R,cp,by rw[<-HN.out];rfl,qs ZW.out HO.out HT.out Ol.out,wT,yC.out⟩
end
