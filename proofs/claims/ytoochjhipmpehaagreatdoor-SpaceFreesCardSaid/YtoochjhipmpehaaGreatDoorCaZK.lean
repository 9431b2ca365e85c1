/- The cache: the loose slot that was asked for longest ago. -/
import Derived.Test.YtoochjhipmpehaaGreatDoorCaAK
import Derived.Test.YtoochjhipmpehaaGreatDoorTtZK
set_option linter.unusedVariables false
set_option linter.unusedSimpArgs false
set_option maxRecDepth 100000
set_option maxHeartbeats 4000000
namespace Go.Proofs.YtoochjhipmpehaaGreatDoor
section
open Go.RowKit Go.Maps Go.WideMaps Go.Sort
open Go.ChangeMaps (setBlock)
variable {s t:Slot}
theorem Slot.kv_inj (h:s.kv=t.kv):s=t:=by
 have h1:keyV s.ino s.page=keyV t.ino t.page:=congrArg Prod.fst h;have h2:dV s.frame s.asked=dV t.frame t.asked:=congrArg Prod.snd h;rw[fI]at h1;unfold dV at h2;simp at h2;obtain⟨a,b,c,d⟩:=s;obtain⟨a',b',c',d'⟩:=t;simp only at h1 h2;obtain⟨rfl,rfl⟩:=h1;obtain⟨h3,rfl⟩:=h2;have:c=c':=(by omega);subst this;rfl
variable {w:World} {m:Nat} {L left:List Slot}
theorem aN.mem {r:Nat} (h:aN w m r L left) (hs:s∈left):s∈L:=by
 obtain⟨t,ht,e⟩:=List.mem_map.1 (h.sub s hs);rw[<-Slot.kv_inj e];exact ht
theorem aP.sole (h:aP w m L):Sole L:=by
 obtain⟨es,wm,h1⟩:=h;exact h1.sole
theorem Sole.eq (h:Sole L) (hs:s∈L) (ht:t∈L) (he:s.ino=t.ino/\s.page=t.page):s=t:=by
 have h1:=dP h hs;rw[he.1,he.2,dP h ht]at h1;injection h1 with h1;exact h1.symm
def gZ (p:Pool) (L left:List Slot) (found:Bool) (bi bp:Int):Prop:=
 (found=false/\ ∀s∈L,s∉left->bH p s.frame≠1)\/
 (found=true/\ ∃b∈L,b.ino=bi/\b.page=bp/\bH p b.frame=1/\ ∀s∈L,s∉left->bH p s.frame=1->b.asked<=s.asked)
theorem come (h:Sole L) {x:Slot} (hs:s∈L) (hx:x∈L) (hn:x∉left.filter fun y=> !Slot.at s.ino s.page y):x∉left\/x=s:=by
 by_cases e:x∈left
 ·right;have:Slot.at s.ino s.page x=true:=by
   cases hc:Slot.at s.ino s.page x with
   |true=>rfl
   |false=>exact absurd (List.mem_filter.2 ⟨e,by rw[hc];rfl⟩) hn
  exact h.eq hx hs (Slot.at_iff.1 this)
 ·exact .inl e
theorem rE (p:Pool) (L:List Slot):gZ p L L false 0 0:= .inl ⟨rfl,fun s h1 h2=>absurd h1 h2⟩
variable {p:Pool} {f:Bool} {bi bp:Int}
theorem tU (hL:Sole L) (h:gZ p L left f bi bp) (hs:s∈L) (hl:bH p s.frame≠1):gZ p L (left.filter fun y=> !Slot.at s.ino s.page y) f bi bp:=by
 rcases h with⟨h1,h2⟩|⟨h1,b,hb,h2,h3,h4,h5⟩
 ·refine .inl ⟨h1,fun x hx hn=>?_⟩;rcases come hL hs hx hn with h3|rfl
  ·exact h2 x hx h3
  ·exact hl
 ·refine .inr ⟨h1,b,hb,h2,h3,h4,fun x hx hn hc=>?_⟩;rcases come hL hs hx hn with h6|rfl
  ·exact h5 x hx h6 hc
  ·exact absurd hc hl
theorem tV (hL:Sole L) {b:Slot} (hb:b∈L) (h:gZ p L left true b.ino b.page) (hs:s∈L) (hl: ¬s.asked<b.asked):gZ p L (left.filter fun y=> !Slot.at s.ino s.page y) true b.ino b.page:=by
 rcases h with⟨h1,_⟩|⟨h1,b',KH,h2,h3,h4,h5⟩
 ·cases h1
 ·obtain rfl:=hL.eq KH hb ⟨h2,h3⟩;refine .inr ⟨rfl,b',hb,h2,h3,h4,fun x hx hn hc=>?_⟩;rcases come hL hs hx hn with h6|rfl
  ·exact h5 x hx h6 hc
  ·omega
theorem qh (hL:Sole L) (h:gZ p L left f bi bp) (hs:s∈L) (hc:bH p s.frame=1) (hl:f=true-> ∃b∈L,b.ino=bi/\b.page=bp/\s.asked<b.asked):gZ p L (left.filter fun y=> !Slot.at s.ino s.page y) true s.ino s.page:=by
 refine .inr ⟨rfl,s,hs,rfl,rfl,hc,fun x hx hn hcx=>?_⟩;rcases come hL hs hx hn with h6|rfl
 ·rcases h with⟨h1,h2⟩|⟨h1,b',KH,h2,h3,h4,h5⟩
  ·exact absurd hcx (h2 x hx h6)
  ·obtain⟨b,hb,e1,e2,e3⟩:=hl h1;obtain rfl:=hL.eq KH hb ⟨h2.trans e1.symm,h3.trans e2.symm⟩;have:=h5 x hx h6 hcx;omega
 ·omega
section
variable {ops:Array Oper} {rest:List Oper} {o:Oper} {a:Act} {w:World} {Q:Exit->Act->World->Prop}
theorem dH (hg:o.guard=none) (x:Operand) (Bn:o.op=Op.range 123 x) (m:Nat) (L:List Slot) (hx:a.eval x= .map (some m)) (h:aP w m L)
  (hK: ∀w',aN w' m w.heap.size L L->Below w.heap.size w w'->w'.heap.size=w.heap.size+1->wpList Tryz.prog ops Q rest (a.put o.dst (.pointer (some ⟨w.heap.size,0,none⟩))) w'):
  wpList Tryz.prog ops Q (o::rest) a w:=by
 refine wpList_plain hg fun K' Of=>?_;obtain⟨w',xq,r1,r2,r3⟩:=h.range;unfold Oper.wp;simp[execOp,Bn,hx,xq,Result.andThen];exact Of _ _ (hK w' r1 r2 r3)
theorem dY (hg:o.guard=none) (it:Operand) (Bn:o.op=Op.next it false) (m r:Nat) (L left:List Slot) (hit:a.eval it= .pointer (some ⟨r,0,none⟩)) (h:aN w m r L left)
  (UG:left=[]->wpList Tryz.prog ops Q rest (a.put o.dst (.tuple #[.bool false])) w)
  (Uv: ∀(s:Slot) (w':World),s∈left->aN w' m r L (left.filter fun x=> !Slot.at s.ino s.page x)->Mod (fun j=>j=r) w w'->w'.heap.size=w.heap.size->
   (Instr.entry (.pointer (some ⟨r,0,none⟩))).run Tryz.prog w'= .ok (.tuple #[.agg #[.int .i64 s.ino, .int .i64 s.page], .agg #[.int .i64 (s.frame:Int), .int .i64 s.asked]]) w'->
   wpList Tryz.prog ops Q rest (a.put o.dst (.tuple #[.bool true, .agg #[.int .i64 s.ino, .int .i64 s.page], .agg #[.int .i64 (s.frame:Int), .int .i64 s.asked]])) w'):
  wpList Tryz.prog ops Q (o::rest) a w:=by
 refine wpList_plain hg fun K' Of=>?_;unfold Oper.wp;rcases h.next o.type with⟨h0,xq⟩|⟨s,w',hs,xq,h1,h2,h3,h4⟩
 ·simp[execOp,Bn,hit,xq,Result.andThen];exact Of _ _ (UG h0)
 ·simp[execOp,Bn,hit,xq,Result.andThen];exact Of _ _ (Uv s w' hs h1 h2 h3 h4)
end
variable {w:World}
theorem aP.lookS {m:Nat} {L:List Slot} (h:aP w m L) {b:Slot} (hb:b∈L):(Instr.lookup 123 (.map (some m)) (.agg #[.int .i64 b.ino, .int .i64 b.page]) false).run Tryz.prog w= .ok (.agg #[.int .i64 (b.frame:Int), .int .i64 b.asked]) w:=by
 have hs:=h.sole;obtain⟨es,wm,h1⟩:=h;have h2:=h1.look (h1.wf b hb).1 (h1.wf b hb).2 false;have h3:=dP hs hb;generalize L.find? (Slot.at b.ino b.page)=o at h2 h3;subst h3;exact h2
theorem rk (x y:Value) (W:World):(Instr.field 129 (.agg #[x,y]) 1).run Tryz.prog W= .ok y W:=by kernel_rfl
theorem rj (x y:Value) (W:World):(Instr.field 129 (.agg #[x,y]) 0).run Tryz.prog W= .ok x W:=by kernel_rfl
theorem rX {b:Nat} {x y x' y':Value} {t:TypeId} (h:w.heap[b]? =some (.cells #[x,y] t (0,0))):((w.setCell ⟨b,0,none⟩ x').setCell ⟨b,1,none⟩ y').heap[b]? =some (.cells #[x',y'] t (0,0)):=by
 have h1:=Joins.block_setCell (i:=0) h x';have h2:=Joins.block_setCell (i:=1) h1 y';simpa using h2
theorem cx (w:World) (b:Nat) (x y:Value):Mod (fun j=>j=b) w ((w.setCell ⟨b,0,none⟩ x).setCell ⟨b,1,none⟩ y):=(al (S:=fun j=>j=b) (b:=b) rfl 0 x).trans (Out.refl _ _) (al (S:=fun j=>j=b) (b:=b) rfl 1 y)
def aQ (w:World) (c a fs m:Nat) (clock:Int):Prop:=w.heap[c]? =some (.cells #[.pointer (some ⟨a,0,none⟩), .pointer (some ⟨fs,0,none⟩), .map (some m), .int .i64 clock] 125 (0,0))
theorem qQ (c a fs m:Nat) (clock:Int) (w:World) (S:Nat->Prop) (p:Pool) (L:List Slot) (h:ai w S a p) (hc:aQ w c a fs m clock) (hL:aP w m L):
  Calls Tryz.prog 148 #[.pointer (some ⟨c,0,none⟩)] w fun e w'=> ∃found bi bp,e= .returned (.tuple #[.agg #[.int .i64 bi, .int .i64 bp], .bool found])/\gZ p L [] found bi bp/\Below w.heap.size w w':=by
 have TX:c<w.heap.size:=(uJ hc).1;have Rs:=hL.lt;have DD:=hL.sole;obtain⟨w0,vo⟩: ∃w0,w0=(w.alloc (.cells #[.int .i64 0, .int .i64 0] 127)).alloc (.cells #[.int .i64 0, .int .i64 0] 127):=⟨_,rfl⟩;have vM:Below w.heap.size w w0:=(by rw[vo];exact uM.alloc (by simp) _);have xv:w0.heap.size=w.heap.size+1+1:=(by rw[vo];simp);have zn:w0.heap[w.heap.size]? =some (.cells #[.int .i64 0, .int .i64 0] 127 (0,0)):=(by rw[vo];exact(uO _ _ _ (by simp)).trans (ab w _));have WK:w0.heap[w.heap.size+1]? =some (.cells #[.int .i64 0, .int .i64 0] 127 (0,0)):=by
  rw[vo];have e:(w.alloc (.cells #[.int .i64 0, .int .i64 0] 127)).heap.size=w.heap.size+1:=(by simp);rw[<-e];exact ab _ _
 have hC0:aQ w0 c a fs m clock:=(vM.block c TX).trans hc;have AJ:aP w0 m L:=hL.same (vM.block m Rs);have c2:w0.cell? ⟨c,2,none⟩=some (.map (some m)):=aa hC0 2;have HC:=uK hc;have HP:=uK h;have vR:=uK vo;have DI:=uK zn;have RS:=uK WK;have HS:=uK xv;have GS:=uK AJ;clear vo h hc hL zn WK hC0 AJ;go_enter Tryz.func148,Tryz.ntmps148;go_upto_region 3 with(fail);rw[<-vR.out];go_wp2_with (first
  |(at_range;refine dH rfl _ rfl m L rfl GS.out ?_;intro w1 CU vl FK;rw[HS.out]at CU FK⊢;go_frame)
  |fail)
 go_loopw [5] (fun v wr=> ∃left found bi bp,v= .bool found/\aN wr m (w.heap.size+1+1) L left/\gZ p L left found bi bp/\Below w.heap.size w wr/\(w.heap.size+1+1)<wr.heap.size/\wr.heap[w.heap.size]? =some (.cells #[.int .i64 0, .int .i64 0] 127 (0,0))/\wr.heap[w.heap.size+1]? =some (.cells #[.int .i64 bi, .int .i64 bp] 127 (0,0)))
  (fun _ wr=>leftN wr m (w.heap.size+1+1))
 case atStart=>
  have h9:=HS.out;exact⟨L,false,0,0,rfl,CU,rE p L,vM.trans (vl.mono vM.size),by omega,(vl.block _ (by omega)).trans DI.out,(vl.block _ (by omega)).trans RS.out⟩
 case round=>
  obtain⟨left,found,bi,bp,rfl,CK,DC,hb,vq,hR,hK⟩:=hrel;have yC:=uK DC;have HR:=uK hR;have HK:=uK hK;clear DC hR hK;go_wp2_with (first
   |(at_next;refine dY rfl _ rfl m (w.heap.size+1+1) L left rfl CK ?_ ?_)
   |fail)
  ·intro CX;subst CX;have x0:wr.cell? ⟨w.heap.size+1,0,none⟩=some (.int .i64 bi):=aa HK.out 0;have x1:wr.cell? ⟨w.heap.size+1,1,none⟩=some (.int .i64 bp):=aa HK.out 1;have y0:wr.cell? ⟨w.heap.size,0,none⟩=some (.int .i64 0):=aa HR.out 0;have y1:wr.cell? ⟨w.heap.size,1,none⟩=some (.int .i64 0):=aa HR.out 1;have z0:=ae HR.out 0;have z1:=ae HR.out 1;have Ke:w.heap.size<wr.heap.size:=(by have:=HS.out;omega);go_wp2_with fail;exact bodyPost_ret (v:= .tuple #[.agg #[.int .i64 bi, .int .i64 bp], .bool found]) (by simp[results,Tryz.results148,go_sem,Ke,y0,y1,z0,z1]) rfl ⟨found,bi,bp,rfl,yC.out,(hb.setCell (uN _) _).setCell (uN _) _⟩
  ·intro s w1 hs CU wA FK Yz;have QD:=uK CU;have HEN:=uK Yz;have Mi:=CK.mem hs;have Ds:=CK.lt;go_upto_region 6 with(fail);have vl:Below w.heap.size w w1:=hb.trans (wA.below (fun b e=>by have:=HS.out;omega) hb.size);obtain⟨w2,we⟩: ∃w2,w2=(w1.alloc (.cells #[.int .i64 s.ino, .int .i64 s.page] 127)).alloc (.cells #[.int .i64 (s.frame:Int), .int .i64 s.asked] 129):=⟨_,rfl⟩;rw[<-we];have KG:Below w1.heap.size w1 w2:=(by rw[we];exact uM.alloc (by simp) _);have wW:Below w.heap.size w w2:=vl.trans (KG.mono vl.size);have Es:w2.heap.size=wr.heap.size+1+1:=(by rw[we];simp[FK]);have FP:w2.heap[wr.heap.size]? =some (.cells #[.int .i64 s.ino, .int .i64 s.page] 127 (0,0)):=(by rw[we,<-FK];exact(uO _ _ _ (by simp)).trans (ab w1 _));have Ww:w2.heap[wr.heap.size+1]? =some (.cells #[.int .i64 (s.frame:Int), .int .i64 s.asked] 129 (0,0)):=by
    rw[we,<-FK];have e:(w1.alloc (.cells #[.int .i64 s.ino, .int .i64 s.page] 127)).heap.size=w1.heap.size+1:=(by simp);rw[<-e];exact ab _ _
   have BN:aQ w2 c a fs m clock:=(wW.block c TX).trans HC.out;have yo:=(KG.block w.heap.size (by omega)).trans ((wA.block w.heap.size (by have:=HS.out;omega) (by have:=HS.out;omega)).trans HR.out);have Aw:=(KG.block (w.heap.size+1) (by omega)).trans ((wA.block (w.heap.size+1) (by have:=HS.out;omega) (by have:=HS.out;omega)).trans HK.out);have JQ:aN w2 m (w.heap.size+1+1) L (left.filter fun x=> !Slot.at s.ino s.page x):=QD.out.same (KG.block m (by omega)) (KG.block _ (by omega));have d0: ∀d os,(grow (redrawn w2 d) os).cell? ⟨c,0,none⟩=some (.pointer (some ⟨a,0,none⟩)):=fun d os=>cell_regrown (aa BN 0) d os;have d1: ∀d os,(grow (redrawn w2 d) os).cell? ⟨wr.heap.size+1,0,none⟩=some (.int .i64 (s.frame:Int)):=fun d os=>cell_regrown (aa Ww 0) d os;have AQ:=fun d os=>Calls.regrown_of ((gT a (s.frame:Int) (grow (redrawn w2 d) os) S p ((HP.out.below wW).below (below_regrown w2 d os))).mono fun _ _ ⟨h1,h2⟩=>⟨h1,h2▸vj _ _⟩);have HCt:=uK AQ;have ya:=uK BN;have Dj:=uK yo;have FW:=uK Aw;have Hk2:=uK FP;have Hh2:=uK Ww;have QC:=uK JQ;have IW:=uK Es;clear we AQ BN yo Aw FP Ww JQ Es;refine wp_region_quiet_below (by kernel_rfl) (by kernel_rfl) ?_;(repeat(go_big_quiet_step ((exact HCt.out _ _))));refine wpQuiet_nil ?_;intro _ yb;obtain⟨⟨dq,osq⟩,hw''⟩:=yb;subst hw'';have wC:=below_regrown (w2) dq osq;generalize grow (redrawn (w2) dq) osq=wq at wC⊢;clear d0 d1;have LQ:=wC.size;have Es:=IW.out;have BM:aQ wq c a fs m clock:=(wC.block c (by omega)).trans ya.out;have Ec:=(wC.block w.heap.size (by omega)).trans Dj.out;have Ia:=(wC.block (w.heap.size+1) (by omega)).trans FW.out;have Hn:=(wC.block wr.heap.size (by omega)).trans Hk2.out;have II:=(wC.block (wr.heap.size+1) (by omega)).trans Hh2.out;have JP:aN wq m (w.heap.size+1+1) L (left.filter fun x=> !Slot.at s.ino s.page x):=QC.out.same (wC.block m (by omega)) (wC.block _ (by omega));have Eg:=wW.trans (wC.mono wW.size);have yy:(left.filter fun x=> !Slot.at s.ino s.page x).length<left.length:=by
    exact List.length_filter_lt_length_iff_exists.2 ⟨s,hs,by simp[Slot.at]⟩
   have XZ:w.heap.size+1+1<wq.heap.size:=(by omega);clear Es;by_cases hl:bH p (s.frame:Int)=1
   ·have Hm:(((bH p (s.frame:Int):Nat):Int) != 1)=false:=(by rw[hl];rfl);have D0: ∀d os,(grow (redrawn wq d) os).cell? ⟨c,2,none⟩=some (.map (some m)):=fun d os=>cell_regrown (aa BM 2) d os;have D1: ∀d os,(grow (redrawn wq d) os).cell? ⟨wr.heap.size+1,1,none⟩=some (.int .i64 s.asked):=fun d os=>cell_regrown (aa II 1) d os;have D2: ∀d os,(grow (redrawn wq d) os).cell? ⟨w.heap.size+1,0,none⟩=some (.int .i64 bi):=fun d os=>cell_regrown (aa Ia 0) d os;have D3: ∀d os,(grow (redrawn wq d) os).cell? ⟨w.heap.size+1,1,none⟩=some (.int .i64 bp):=fun d os=>cell_regrown (aa Ia 1) d os;have hqw:wr.heap.size<wq.heap.size:=(by have:=IW.out;omega);have hnew: ∀w',Below wq.heap.size wq w'->aN w' m (w.heap.size+1+1) L (left.filter fun x=> !Slot.at s.ino s.page x)/\Below w.heap.size w w'/\w.heap.size+1+1<w'.heap.size/\w'.heap[w.heap.size]? =some (.cells #[.int .i64 0, .int .i64 0] 127 (0,0))/\w'.heap[w.heap.size+1]? =some (.cells #[.int .i64 bi, .int .i64 bp] 127 (0,0))/\w'.heap[wr.heap.size]? =some (.cells #[.int .i64 s.ino, .int .i64 s.page] 127 (0,0)):=fun w' hm=>⟨JP.same (hm.block m (by omega)) (hm.block _ (by omega)),Eg.trans (hm.mono (by omega)),by have:=hm.size;omega,(hm.block _ (by omega)).trans Ec,(hm.block _ (by omega)).trans Ia,(hm.block _ (by omega)).trans Hn⟩;have NA:=JP.slots;have yG:=uK hnew;have GO:=uK NA;clear Hn II BM Ia Ec JP hnew NA;cases found with
    |false=>
     go_upto_region 7 with(fail);refine wp_region_quiet_below (by kernel_rfl) (by kernel_rfl) ?_;(repeat(go_big_quiet_step ((fail))));refine wpQuiet_nil ?_;intro _ yb;obtain⟨⟨dq,osq⟩,hw''⟩:=yb;subst hw'';have Hw:=below_regrown (wq) dq osq;generalize grow (redrawn (wq) dq) osq=w7 at Hw⊢;clear D0 D1 D2 D3;obtain⟨g1,g2,g3,g4,g5,g6⟩:=yG.out _ Hw;have k0:w7.cell? ⟨wr.heap.size,0,none⟩=some (.int .i64 s.ino):=aa g6 0;have k1:w7.cell? ⟨wr.heap.size,1,none⟩=some (.int .i64 s.page):=aa g6 1;have b0:w7.cell? ⟨w.heap.size+1,0,none⟩=some (.int .i64 bi):=aa g5 0;have b1:w7.cell? ⟨w.heap.size+1,1,none⟩=some (.int .i64 bp):=aa g5 1;have f0:=ae g5 0;have f1:=ae g5 1;have G1:=uK g1;have G4:=uK g4;have G5:=uK g5;clear g1 g4 g5 g6;go_wp2_with fail;go_roundw
     case rel=>exact⟨_,true,s.ino,s.page,rfl,G1.out.same ((cx _ _ _ _).block m (by omega) (by omega)) ((cx _ _ _ _).block _ (by omega) (by omega)),qh DD yC.out Mi hl (fun e=>by cases e),g2.trans ((cx _ _ _ _).below (fun b e=>by omega) (by omega)),by have:=(cx w7 (w.heap.size+1) (.int .i64 s.ino) (.int .i64 s.page)).size;omega,((cx _ _ _ _).block _ (by omega) (by omega)).trans G4.out,rX G5.out⟩
     case measure=>rw[(G1.out.same ((cx _ _ _ _).block m (by omega) (by omega)) ((cx _ _ _ _).block _ (by omega) (by omega))).leftN,CK.leftN];exact yy
    |true=>
     rcases yC.out with⟨h9,_⟩|⟨_,b,Gu,rfl,rfl,PZ,hbo⟩
     ·cases h9
     have zW: ∀d os,(Instr.lookup 123 (.map (some m)) (.agg #[.int .i64 b.ino, .int .i64 b.page]) false).run Tryz.prog (grow (redrawn wq d) os)= .ok (.agg #[.int .i64 (b.frame:Int), .int .i64 b.asked]) (grow (redrawn wq d) os):=fun d os=>(GO.out.same ((below_regrown wq d os).block m (by omega))).lookS Gu;have yL:=rk (.int .i64 (b.frame:Int)) (.int .i64 b.asked);by_cases Hk:s.asked<b.asked
     ·have hd:decide (s.asked<b.asked)=true:=vb Hk;go_upto_region 7 with(fail);refine wp_region_quiet_below (by kernel_rfl) (by kernel_rfl) ?_;(repeat(go_big_quiet_step ((fail))));refine wpQuiet_nil ?_;intro _ yb;obtain⟨⟨dq,osq⟩,hw''⟩:=yb;subst hw'';have Hw:=below_regrown (wq) dq osq;generalize grow (redrawn (wq) dq) osq=w7 at Hw⊢;clear D0 D1 D2 D3;obtain⟨g1,g2,g3,g4,g5,g6⟩:=yG.out _ Hw;have k0:w7.cell? ⟨wr.heap.size,0,none⟩=some (.int .i64 s.ino):=aa g6 0;have k1:w7.cell? ⟨wr.heap.size,1,none⟩=some (.int .i64 s.page):=aa g6 1;have b0:w7.cell? ⟨w.heap.size+1,0,none⟩=some (.int .i64 b.ino):=aa g5 0;have b1:w7.cell? ⟨w.heap.size+1,1,none⟩=some (.int .i64 b.page):=aa g5 1;have f0:=ae g5 0;have f1:=ae g5 1;have G1:=uK g1;have G4:=uK g4;have G5:=uK g5;clear g1 g4 g5 g6;go_wp2_with fail;go_roundw
      case rel=>exact⟨_,true,s.ino,s.page,rfl,G1.out.same ((cx _ _ _ _).block m (by omega) (by omega)) ((cx _ _ _ _).block _ (by omega) (by omega)),qh DD yC.out Mi hl (fun e=>⟨b,Gu,rfl,rfl,Hk⟩),g2.trans ((cx _ _ _ _).below (fun b e=>by omega) (by omega)),by have:=(cx w7 (w.heap.size+1) (.int .i64 s.ino) (.int .i64 s.page)).size;omega,((cx _ _ _ _).block _ (by omega) (by omega)).trans G4.out,rX G5.out⟩
      case measure=>rw[(G1.out.same ((cx _ _ _ _).block m (by omega) (by omega)) ((cx _ _ _ _).block _ (by omega) (by omega))).leftN,CK.leftN];exact yy
     ·have hd:decide (s.asked<b.asked)=false:=va Hk;go_upto_region 7 with(fail);refine wp_region_quiet_below (by kernel_rfl) (by kernel_rfl) ?_;(repeat(go_big_quiet_step ((fail))));refine wpQuiet_nil ?_;intro _ yb;obtain⟨⟨dq,osq⟩,hw''⟩:=yb;subst hw'';have Hw:=below_regrown (wq) dq osq;generalize grow (redrawn (wq) dq) osq=w7 at Hw⊢;clear D0 D1 D2 D3;obtain⟨g1,g2,g3,g4,g5,g6⟩:=yG.out _ Hw;have G1:=uK g1;have G4:=uK g4;have G5:=uK g5;clear g1 g4 g5 g6;go_wp2_with fail;go_roundw
      case rel=>exact⟨_,true,b.ino,b.page,rfl,G1.out,tV DD Gu yC.out Mi Hk,g2,g3,G4.out,G5.out⟩
      case measure=>rw[G1.out.leftN,CK.leftN];exact yy
   ·have Hm:(((bH p (s.frame:Int):Nat):Int) != 1)=true:=(by rw[bne_iff_ne];omega);have Ln:=uK Ia;have LK:=uK Ec;have Vl:=uK JP;clear Hn II BM Ia Ec JP;go_wp2_with fail;go_roundw
    case rel=>exact⟨_,found,bi,bp,rfl,Vl.out,tU DD yC.out Mi hl,Eg,XZ,LK.out,Ln.out⟩
    case measure=>rw[Vl.out.leftN,CK.leftN];exact yy
end
section
open Go.RowKit Go.Maps Go.WideMaps Go.Sort
open Go.ChangeMaps (setBlock)
structure ap (w:World) (S:Nat->Prop) (c a fs m:Nat) (clock:Int) (p:Pool) (L:List Slot):Prop where
 pool:ai w S a p
 self:aQ w c a fs m clock
 slots:aP w m L
 noC: ¬S c
 noM: ¬S m
variable {w:World} {S:Nat->Prop} {c a fs m:Nat} {clock:Int} {p:Pool} {L:List Slot}
theorem ap.lts (h:ap w S c a fs m clock p L):c<w.heap.size/\m<w.heap.size/\c≠m/\m≠0:=by
 have h1:c<w.heap.size:=(uJ h.self).1;refine⟨h1,h.slots.lt,fun e=>?_,fun e=>?_⟩
 ·obtain⟨es,wm,h2⟩:=h.slots;have h3:=h2.block;have h4:=h.self;unfold aQ at h4;rw[<-e,h4]at h3;cases h3
 ·obtain⟨es,wm,h2⟩:=h.slots;have h3:=h2.block;have h4:=h.pool.tab 0 (by decide);unfold World.cell? at h4;rw[e]at h3;simp[h3]at h4
variable {w':World}
theorem ap.mod {T:Nat->Prop} (h:ap w S c a fs m clock p L) (hm:Mod T w w') (hS: ∀b,S b-> ¬T b) (h0: ¬T 0) (hc: ¬T c) (CN: ¬T m):ap w' S c a fs m clock p L:=
 ⟨h.pool.mod hm hS h0,(hm.block c h.lts.1 hc).trans h.self,h.slots.same (hm.block m h.lts.2.1 CN),h.noC,h.noM⟩
theorem ap.below (h:ap w S c a fs m clock p L) (hb:Below w.heap.size w w'):ap w' S c a fs m clock p L:=
 ⟨h.pool.below hb,(hb.block c h.lts.1).trans h.self,h.slots.same (hb.block m h.lts.2.1),h.noC,h.noM⟩
theorem ap.turn {S':Nat->Prop} {p':Pool} (h:ap w S c a fs m clock p L) (hm:Mod S w w') (hp:ai w' S' a p') (ho:Out S S' w):ap w' S' c a fs m clock p' L:=
 ⟨hp,(hm.block c h.lts.1 h.noC).trans h.self,h.slots.same (hm.block m h.lts.2.1 h.noM),fun e=>by
  rcases ho c e with h1|h1
  ·exact h.noC h1
  ·have:=h.lts.1;omega,fun e=>by
  rcases ho m e with h1|h1
  ·exact h.noM h1
  ·have:=h.lts.2.1;omega⟩
def Both (S:Nat->Prop) (m:Nat):Nat->Prop:=fun b=>S b\/b=m
inductive ax (p:Pool) (L:List Slot):Int->Nat->Pool->List Slot->Prop
 |free (f:Nat):p.lowest=some f->ax p L 0 f (p.takeAt f) L
 |loose (s:Slot):p.lowest=none->s∈L->s.frame<p.n->p.cnt s.frame=1->(∀t∈L,bH p t.frame=1->s.asked<=t.asked)->ax p L 0 s.frame ((p.down s.frame).takeAt s.frame) (L.filter fun x=> !Slot.at s.ino s.page x)
 |none:p.lowest=none->(∀t∈L,bH p t.frame≠1)->ax p L 4 0 p L
def uG (w:World) (S:Nat->Prop) (c a fs m:Nat) (clock:Int) (p:Pool) (L:List Slot) (e:Ending) (w':World):Prop:=
 ∃r f p' L' S',e= .returned (.tuple #[.int .i64 (f:Nat), .int .i64 r])/\ap w' S' c a fs m clock p' L'/\Mod (Both S m) w w'/\Out S S' w/\ax p L r f p' L'
variable {g:Nat}
theorem rB (h:bH p (g:Int)=1):g<p.n/\p.cnt g=1:=by
 unfold bH at h;by_cases h1:ed p (g:Int)=true
 ·rw[if_pos h1,Int.toNat_natCast]at h;rw[bw]at h1;exact⟨(vc h1).1,h⟩
 ·rw[if_neg h1]at h;cases h
theorem oI (h:p.lowest=none) (hg:g<p.n) (h1:p.cnt g=1):(p.down g).lowest=some g:=by
 have hn:=cL h;refine mX hg ?_ fun x hx=>?_
 ·simp only[Pool.down,af];omega
 ·simp only[Pool.down,ah _ _ (show x≠g by omega)];exact hn x (by omega)
theorem fX {ops:Array Oper} {rest:List Oper} {o:Oper} {A:Act} {Q:Exit->Act->World->Prop} (hg:o.guard=none) (x y:Operand) (Bn:o.op=Op.call { callee:=Callee.builtin Builtin.delete,args:= #[x,y],argTypes:= #[123,127]})
  (m:Nat) (L:List Slot) (s:Slot) (hx:A.eval x= .map (some m)) (hy:A.eval y= .agg #[.int .i64 s.ino, .int .i64 s.page]) (h:aP w m L) (hs:s∈L)
  (hK: ∀w',aP w' m (L.filter fun x=> !Slot.at s.ino s.page x)->Mod (fun j=>j=m) w w'->w'.heap.size=w.heap.size->wpList Tryz.prog ops Q rest (A.put o.dst (.tuple #[])) w'):
  wpList Tryz.prog ops Q (o::rest) A w:=by
 refine wpList_plain hg fun K' Of=>?_;obtain⟨es,wm,h1⟩:=h;obtain⟨es',xq,h2⟩:=h1.drop hs o.type;have Sv:(Builtin.delete_ #[123,127] o.type #[.map (some m), .agg #[.int .i64 s.ino, .int .i64 s.page]]).run Tryz.prog w= .ok (.tuple #[]) (setBlock w m (.map es' wm)):=xq;unfold Oper.wp;simp[execOp,Bn,resolve,invoke,builtin,hx,hy,Sv,Result.andThen];exact Of _ _ (hK _ ⟨es',wm,h2⟩ dJ da)
theorem fm (c a fs m:Nat) (clock:Int) (w:World) (S:Nat->Prop) (p:Pool) (L:List Slot) (h:ap w S c a fs m clock p L):
  Calls Tryz.prog 97 #[.pointer (some ⟨c,0,none⟩)] w (uG w S c a fs m clock p L):=by
 obtain⟨TX,Rs,Mu,IC⟩:=h.lts;have c0:w.cell? ⟨c,0,none⟩=some (.pointer (some ⟨a,0,none⟩)):=aa h.self 0;have H:=uK h;clear h;cases hl:p.lowest with
 |some g=>
  have HL:=uK hl;clear hl;go_enter Tryz.func97,Tryz.ntmps97;go_wp2_with fail;refine(my a g w S p H.out.pool HL.out).mono ?_;rintro e w1 ⟨rfl,S',yh,wA,vQ⟩;go_wp2_with fail;go_ret2;exact⟨0,g,_,L,S',rfl,H.out.turn wA yh vQ,wA.sub fun b hb=> .inl hb,vQ, .free g HL.out⟩
 |none=>
  have HL:=uK hl;clear hl;go_enter Tryz.func97,Tryz.ntmps97;go_wp2_with fail;refine(sg a w S p H.out.pool HL.out).mono ?_;rintro e w1 ⟨rfl,rfl⟩;go_wp2_with fail;refine(qQ c a fs m clock w S p L H.out.pool H.out.self H.out.slots).mono ?_;rintro e w2 ⟨found,bi,bp,rfl,DC,vs⟩;cases found with
  |false=>
   have HB:=uK DC;clear DC;go_wp2_with fail;go_ret2;rcases HB.out with⟨_,h2⟩|⟨h1,_⟩
   ·exact⟨4,0,p,L,S,rfl,H.out.below (vs.alloc vs.size _),Mod.of (vs.alloc vs.size _),Out.refl _ _, .none HL.out fun t ht=>h2 t ht (by simp)⟩
   ·cases h1
  |true=>
   rcases DC with⟨h9,_⟩|⟨_,s,hs,rfl,rfl,xY,IA⟩
   ·cases h9
   go_upto_region 9 with(fail);obtain⟨Hd,FK⟩:=rB xY;have Nx: ∀t∈L,bH p t.frame=1->s.asked<=t.asked:=fun t ht h2=>IA t ht (by simp) h2;obtain⟨w3,wX⟩: ∃w3,w3=w2.alloc (.cells #[.int .i64 s.ino, .int .i64 s.page] 127):=⟨_,rfl⟩;rw[<-wX];have Eg:Below w.heap.size w w3:=(by rw[wX];exact vs.alloc vs.size _);have Hn:w3.heap[w2.heap.size]? =some (.cells #[.int .i64 s.ino, .int .i64 s.page] 127 (0,0)):=(by rw[wX];exact ab _ _);have JK:w2.heap.size<w3.heap.size:=(by rw[wX];simp);have vS:=vs.size;have BM:=H.out.below Eg;have d0:w3.cell? ⟨c,0,none⟩=some (.pointer (some ⟨a,0,none⟩)):=aa BM.self 0;have d1:w3.cell? ⟨c,2,none⟩=some (.map (some m)):=aa BM.self 2;have d2:w3.cell? ⟨w2.heap.size,0,none⟩=some (.int .i64 s.ino):=aa Hn 0;have d3:w3.cell? ⟨w2.heap.size,1,none⟩=some (.int .i64 s.page):=aa Hn 1;have zW:=(BM.slots.same (w':=w3.drew) rfl).lookS hs;have yL:=rj (.int .i64 (s.frame:Int)) (.int .i64 s.asked);have hkS: ¬S w2.heap.size:=fun e=>by have:=H.out.pool.low _ e;omega
   have GX:=uK BM;have Ln:=uK Hn;have ZT:=uK Nx;have HS:=uK hs;clear wX BM Hn IA Nx c0 hs
   go_still_tail 11,(by kernel_rfl)
   go_wp2_with fail;refine(cj a s.frame _ S p (GX.out.pool.drew) Hd (by omega)).mono ?_;rintro e w4 ⟨rfl,Ed,EZ⟩;have wH:=EZ.undrew;have AU:=wH.size;have Cu:=GX.out.turn wH Ed (Out.refl _ _);have Br:=(wH.block _ JK hkS).trans Ln.out;clear d0 d1 d2 d3 zW yL EZ;have d1:w4.cell? ⟨c,2,none⟩=some (.map (some m)):=aa Cu.self 2;have d2:w4.cell? ⟨w2.heap.size,0,none⟩=some (.int .i64 s.ino):=aa Br 0;have d3:w4.cell? ⟨w2.heap.size,1,none⟩=some (.int .i64 s.page):=aa Br 1;have Sl:=Cu.slots.same (w':=w4.drew) rfl;have BG:=uK Cu;clear Cu Br;go_upto_region 10 with(fail)
   go_still_tail 5,(by kernel_rfl)
   go_upto_region 11 with((first
    |(refine fX rfl _ _ rfl m L s rfl rfl Sl HS.out ?_;intro w5 Ma yK JJ;go_frame)
    |fail))
   have wy:=yK.undrew;have FR:=BG.out.pool.mod wy (fun b hb e=>H.out.noM (e▸hb)) (fun e=>IC e.symm);have Ct:ap w5 S c a fs m clock (p.down s.frame) (L.filter fun x=> !Slot.at s.ino s.page x):=⟨FR,(wy.block c BG.out.lts.1 Mu).trans BG.out.self,Ma,H.out.noC,H.out.noM⟩;have c0:w5.cell? ⟨c,0,none⟩=some (.pointer (some ⟨a,0,none⟩)):=aa Ct.self 0;have Im:=uK Ct;clear Ct FR Ma Sl d1 d2 d3;go_wp2_with fail;refine(my a s.frame w5 S _ Im.out.pool (oI HL.out Hd FK)).mono ?_;rintro e w6 ⟨rfl,S',Df,zN,BZ⟩;go_wp2_with fail;go_ret2;have zx:Mod (Both S m) w w5:=(Mod.of Eg).trans (Out.refl _ _) ((wH.sub fun b hb=> .inl hb).trans (Out.refl _ _) (wy.sub fun b hb=> .inr hb));exact⟨0,s.frame,_,_,S',rfl,Im.out.turn zN Df BZ,zx.trans (Out.refl _ _) (zN.sub fun b hb=> .inl hb),fun b hb=>(BZ b hb).imp id fun e=>vh zx.size e, .loose s HL.out HS.out Hd FK ZT.out⟩
end
section
def au (L:List Slot) (f:Nat):Nat:=L.countP fun s=>s.frame==f
variable {L:List Slot} {s:Slot}
theorem fB (h:Sole L) (hs:s∈L) (f:Nat):au (L.filter fun x=> !Slot.at s.ino s.page x) f+(if s.frame=f then 1 else 0)=au L f:=by
 unfold au
 induction L with
 |nil=>cases hs
 |cons x l ih=>
  have hp:=List.pairwise_cons.1 h;rcases List.mem_cons.1 hs with rfl|h1
  ·rw[List.filter_cons_of_neg (by simp[Slot.at]),List.countP_cons];have e:(l.filter fun x=> !Slot.at s.ino s.page x)=l:=List.filter_eq_self.2 fun y hy=>by
    cases hc:Slot.at s.ino s.page y with
    |false=>rfl
    |true=>
     obtain⟨a1,a2⟩:=Slot.at_iff.1 hc;exact absurd ⟨a1.symm,a2.symm⟩ (hp.1 y hy)
   rw[e];simp
  ·have hx:(!Slot.at s.ino s.page x)=true:=by
    cases hc:Slot.at s.ino s.page x with
    |false=>rfl
    |true=>
     obtain⟨a1,a2⟩:=Slot.at_iff.1 hc;exact absurd ⟨a1,a2⟩ (hp.1 s h1)
   rw[List.filter_cons_of_pos (p:=fun x=> !Slot.at s.ino s.page x) hx,List.countP_cons,List.countP_cons,<-ih hp.2 h1];omega
theorem aR (hs:s∈L):0<au L s.frame:=List.countP_pos_iff.2 ⟨s,hs,by simp⟩
theorem Sole.drop (h:Sole L) (q:Slot->Bool):Sole (L.filter q):=List.Pairwise.sublist List.filter_sublist h
def held (L:List Slot) (hold:Nat->Nat):Nat->Nat:=fun x=>au L x+hold x
theorem Tab.Good.ctake {p p':Pool} {T:Tab} {L':List Slot} {hold:Nat->Nat} {pg lv f:Nat} (h:T.Good p (held L hold) pg lv) (hS:Sole L) (ht:ax p L 0 f p' L'):
  T.Good p' (held L' (upd hold f 1)) pg lv/\f<p.n/\p'.n=p.n/\hold f=0/\ ¬an T f/\(p'.dat f=fun _ =>0)/\(∀x,x≠f->p'.dat x=p.dat x)/\Sole L'/\p'.cnt f=1/\(∀x,x≠f->p'.cnt x=p.cnt x):=by
 cases ht with
 |free _ hl=>
  obtain⟨h1,h2,h3⟩:=cK hl;obtain⟨a1,a2,a3⟩:=h.fresh h1 h2;have a4:au L f=0/\hold f=0:=(by unfold held at a3;omega);have hg:=h.take h1 h2;have e:upd (held L hold) f 1=held L (upd hold f 1):=by
   funext x;unfold held;by_cases e:x=f
   ·subst e;rw[af,af,a4.1]
   ·rw[ah _ _ e,ah _ _ e]
  rw[e]at hg;exact⟨hg,h1,rfl,a4.2,a1,af _ _ _,fun x hx=>ah _ _ hx,hS,af _ _ _,fun x hx=>ah _ _ hx⟩
 |loose s hl hs Hd h1 IA=>
  have hc:=h.cnt s.frame Hd;have hp:=aR hs;have hd:=fB hS hs;have a1:au L s.frame=1/\hold s.frame=0/\ay T s.frame=0/\aj T s.frame=0:=(by unfold held at hc;omega);have hn: ¬an T s.frame:=fun e=>by
   have:=ao e;omega
  have hg:=(h.down (f:=s.frame) (by unfold held;omega)).take (f:=s.frame) Hd (by simp only[Pool.down,af];omega);have e:upd (upd (held L hold) s.frame (held L hold s.frame-1)) s.frame 1=held (L.filter fun x=> !Slot.at s.ino s.page x) (upd hold s.frame 1):=by
   funext x;have h2:=hd x;unfold held;by_cases e:x=s.frame
   ·subst e;rw[if_pos rfl]at h2;rw[af,af];omega
   ·rw[if_neg (fun e1=>e e1.symm)]at h2;rw[ah _ _ e,ah _ _ e,ah _ _ e];omega
  rw[e]at hg;refine⟨hg,Hd,rfl,a1.2.1,hn,af _ _ _,fun x hx=>ah _ _ hx,hS.drop _,af _ _ _,fun x hx=>?_⟩;show upd (upd p.cnt s.frame _) s.frame 1 x=p.cnt x;rw[ah _ _ hx,ah _ _ hx]
theorem held_upd (L:List Slot) (hold:Nat->Nat) (f d:Nat):upd (held L hold) f (held L hold f+d)=held L (upd hold f (hold f+d)):=by
 funext x;unfold held;by_cases e:x=f
 ·subst e;rw[af,af];omega
 ·rw[ah _ _ e,ah _ _ e]
theorem fh (L:List Slot) (hold:Nat->Nat) (f:Nat) (h:0<hold f):upd (held L hold) f (held L hold f-1)=held L (upd hold f (hold f-1)):=by
 funext x;unfold held;by_cases e:x=f
 ·subst e;rw[af,af];omega
 ·rw[ah _ _ e,ah _ _ e]
end
section
def plus (hold:Nat->Nat) (fs:List Nat):Nat->Nat:=fun x=>hold x+if x∈fs then 1 else 0
theorem lu (hold:Nat->Nat):plus hold []=hold:=by
 funext x;unfold plus;simp
variable {hold:Nat->Nat} {fs:List Nat} {f:Nat}
theorem sO (h0:plus hold fs f=0):upd (plus hold fs) f 1=plus hold (fs++[f]):=by
 funext x;unfold plus at h0⊢;by_cases e:x=f
 ·subst e;rw[af];have:hold x=0:=(by omega);simp[this]
 ·rw[ah _ _ e];simp[e]
theorem mO (hn:f∉fs) (h0:hold f=0):upd (plus hold (f::fs)) f (plus hold (f::fs) f-1)=plus hold fs:=by
 funext x;unfold plus;by_cases e:x=f
 ·subst e;rw[af];simp[hn,h0]
 ·rw[ah _ _ e];simp[e]
variable {L:List Slot}
theorem Sole.nodup (h:Sole L):L.Nodup:=List.Pairwise.imp (fun h e=>h (by subst e;exact⟨rfl,rfl⟩)) h
def Loose (T:Tab) (L:List Slot) (hold:Nat->Nat) (s:Slot):Prop:=au L s.frame=1/\aj T s.frame=0/\ ¬an T s.frame/\hold s.frame=0
theorem sk (h:Sole L) {s t:Slot} (hs:s∈L) (ht:t∈L) (vB:t≠s) (hf:t.frame=s.frame):2<=au L s.frame:=by
 have h1:=fB h hs s.frame;rw[if_pos rfl]at h1;have h2:t∈L.filter fun x=> !Slot.at s.ino s.page x:=by
  rw[List.mem_filter];refine⟨ht,?_⟩;rw[Bool.not_eq_true',Bool.eq_false_iff];intro e;have e2:=Slot.at_iff.1 e;exact vB (h.eq ht hs e2)
 have h3:=aR h2;rw[hf]at h3;omega
variable {L1:List Slot}
theorem sl (h:L.Sublist L1) (hn:L1.Nodup) (hf: ∀t∈L1,t∉L->t.frame≠f):au L1 f=au L f:=by
 induction h with
 |slnil=>rfl
 |cons a h ih=>
  have Iz:=List.nodup_cons.1 hn;have ha:=hf a (vf ..) fun e=>Iz.1 (h.subset e);have:=ih Iz.2 fun t ht=>hf t (ve _ ht);rw[<-this];unfold au;rw[List.countP_cons_of_neg (by simpa using ha)]
 |cons_cons a h ih=>
  have Iz:=List.nodup_cons.1 hn;have:=ih Iz.2 fun t ht hnt=>hf t (ve _ ht) fun e=>by
   rcases List.mem_cons.1 e with e|e
   ·exact Iz.1 (e▸ht)
   ·exact hnt e
  unfold au at *
  rw[List.countP_cons,List.countP_cons,this]
structure Took (T:Tab) (n r0:Nat) (d0:Nat->Nat->Nat) (L1:List Slot) (hold:Nat->Nat) (pg:Nat) (fs:List Nat) (p:Pool) (L:List Slot):Prop where
 good:T.Good p (held L (plus hold fs)) pg 4
 nodup:fs.Nodup
 each: ∀f∈fs,f<p.n/\ ¬an T f/\(p.dat f=fun _ =>0)/\hold f=0/\p.cnt f=1
 n:p.n=n
 sole:Sole L
 sub:L.Sublist L1
 room:r0<=p.left+fs.length
 sole1:Sole L1
 drop: ∀s∈L1,s∉L->Loose T L1 hold s
 dat: ∀x,0<hold x+aj T x+au L x->p.dat x=d0 x
 each2: ∀f∈fs,aj T f=0/\au L f=0
variable {T:Tab} {p:Pool}
theorem Took.nil {pg0:Nat} (h:T.Good p (held L hold) pg0 4) (hS:Sole L) (pg:Nat):Took T p.n p.left p.dat L hold pg [] p L:=
 ⟨by rw[lu];exact h.any pg 4,List.nodup_nil,(fun f hf=>absurd hf (by simp)),rfl,hS,List.Sublist.refl _,by simp,hS,(fun s h1 h2=>absurd h1 h2),fun _ _ =>rfl,fun f hf=>absurd hf (by simp)⟩
variable {p':Pool} {L':List Slot}
theorem ax.sub {r:Int} (h:ax p L r f p' L'):L'.Sublist L:=by
 cases h
 ·exact List.Sublist.refl _
 ·exact List.filter_sublist
 ·exact List.Sublist.refl _
theorem ax.full (h:ax p L 4 f p' L'):p.left=0:=by
 cases h with
 |none h1=>exact jU.2 (cL h1)
theorem ax.left (h:ax p L 0 f p' L'):p.left<=p'.left+1:=by
 cases h with
 |free f h1=>
  obtain⟨h2,h3,_⟩:=cK h1;have:=fK (c:=p.cnt) (n:=p.n) (f:=f) (x:=1) h2;rw[if_pos h3]at this;show bN p.cnt p.n<=bN (upd p.cnt f 1) p.n+1;omega
 |loose s h1=>
  have:p.left=0:=jU.2 (cL h1);omega
theorem te (h:1<=p.cnt f):(p.up f).left=p.left:=by
 refine dN fun i _ =>?_;show upd p.cnt f (p.cnt f+1) i=0↔_;by_cases e:i=f
 ·subst e;rw[af];omega
 ·rw[ah _ _ e]
variable {n r0 pg:Nat} {d0:Nat->Nat->Nat}
theorem Took.step (h:Took T n r0 d0 L1 hold pg fs p L) (ht:ax p L 0 f p' L'):Took T n r0 d0 L1 hold pg (fs++[f]) p' L':=by
 have Sx:r0<=p'.left+(fs++[f]).length:=(by have h1:=h.room;have h2:=ht.left;rw[uP];show r0<=p'.left+(fs.length+1);omega);obtain⟨a1,a2,a3,a4,a5,a6,a7,a8,a9,a10⟩:=h.good.ctake h.sole ht;have Md:f∉fs:=fun e=>by
  unfold plus at a4;rw[if_pos e]at a4;omega
 have h0:hold f=0:=by
  unfold plus at a4;omega
 have NO: ∀s∈L1,s∉L'->Loose T L1 hold s:=fun s FK Es=>by
  by_cases JK:s∈L
  ·have ND:p.cnt s.frame=1/\s.frame<p.n:=by
    cases ht with
    |free=>exact absurd JK Es
    |loose s0 hl xv Hd h1 IA=>
     have:s=s0:=by
      apply uY;intro vB;refine Es (List.mem_filter.2 ⟨JK,?_⟩);rw[Bool.not_eq_true',Bool.eq_false_iff];intro e;exact vB (h.sole.eq JK xv (Slot.at_iff.1 e))
     subst this;exact⟨h1,Hd⟩
   have hc:=h.good.cnt s.frame ND.2;have hp:=aR JK;have b1:au L s.frame=1/\plus hold fs s.frame=0/\ay T s.frame=0/\aj T s.frame=0:=(by unfold held at hc;omega);have b2:au L1 s.frame=au L s.frame:=sl h.sub h.sole1.nodup fun t Jd Er e=>by
    have h5:=(h.drop t Jd Er).1;have h6:=sk h.sole1 FK Jd (fun e2=>Er (e2▸JK)) e;rw[e]at h5;omega
   exact⟨by omega,b1.2.2.2,fun e=>by have:=ao e;omega,by have:=b1.2.1;unfold plus at this;omega⟩
  ·exact h.drop s FK JK
 have vP:aj T f=0/\au L' f=0:=by
  have h5:=a1.cnt f (by rw[a3];exact a2);have h6:=aH a5;unfold held at h5;rw[af]at h5;omega
 have hle: ∀x,au L' x<=au L x:=fun x=>List.Sublist.countP_le ht.sub;have Fk: ∀x,0<hold x+aj T x+au L' x->p'.dat x=d0 x:=fun x hx=>by
  have vB:x≠f:=fun e=>by subst e;omega
  rw[a7 x vB];exact h.dat x (by have:=hle x;omega)
 refine⟨by rw[<-sO a4];exact a1,?_,fun x hx=>?_,a3.trans h.n,a8,ht.sub.trans h.sub,Sx,h.sole1,NO,Fk,fun x hx=>?_⟩
 rotate_right
 ·rcases List.mem_append.1 hx with h1|h1
  ·exact⟨(h.each2 x h1).1,by have h8:=(h.each2 x h1).2;have:=hle x;omega⟩
  ·simp only[List.mem_singleton]at h1;subst h1;exact vP
 ·rw[List.nodup_append];exact⟨h.nodup,by simp,fun x hx y hy=>by simp only[List.mem_singleton]at hy;subst hy;exact fun e=>Md (e▸hx)⟩
 ·rcases List.mem_append.1 hx with h1|h1
  ·obtain⟨b1,b2,b3,b4,b5⟩:=h.each x h1;have vB:x≠f:=fun e=>Md (e▸h1);exact⟨by rw[a3];exact b1,b2,by rw[a7 x vB];exact b3,b4,by rw[a10 x vB];exact b5⟩
  ·simp only[List.mem_singleton]at h1;subst h1;exact⟨by rw[a3];exact a2,a5,a6,h0,a9⟩
structure Undo (T:Tab) (n:Nat) (d0:Nat->Nat->Nat) (L:List Slot) (hold:Nat->Nat) (pg:Nat) (fs:List Nat) (p:Pool):Prop where
 good:T.Good p (held L (plus hold fs)) pg 4
 nodup:fs.Nodup
 each: ∀f∈fs,f<p.n/\hold f=0
 n:p.n=n
 dat: ∀x,0<hold x+aj T x+au L x->p.dat x=d0 x
theorem Took.undo (h:Took T n r0 d0 L1 hold pg fs p L):Undo T n d0 L hold pg fs p:=
 ⟨h.good,h.nodup,fun f hf=>⟨(h.each f hf).1,(h.each f hf).2.2.2.1⟩,h.n,h.dat⟩
theorem Took.full {f0:Nat} (h:Took T n r0 d0 L1 hold pg fs p L) (ht:ax p L 4 f0 p' L') (hf:f<n) (hs:au L1 f<=1):0<aj T f+ay T f+hold f\/f∈fs:=by
 have hle:au L f<=au L1 f:=List.Sublist.countP_le h.sub;have hc:=h.good.cnt f (by rw[h.n];exact hf);have hp:plus hold fs f=hold f+(if f∈fs then 1 else 0):=rfl;cases ht with
 |none h1 h2=>
  have h3:=cL h1 f (by rw[h.n];exact hf);by_cases hm:f∈fs
  ·exact .inr hm
  ·left;rw[if_neg hm]at hp;unfold held at hc;by_cases h0:au L f=0
   ·omega
   ·obtain⟨t,Jd,Er⟩:=List.countP_pos_iff.1 (show 0<au L f by omega);have XA:t.frame=f:=(by simpa using Er);have h4:=h2 t Jd;rw[XA,aW (by rw[h.n];exact hf)]at h4;omega
theorem Undo.live (h:Undo T n d0 L hold pg (f::fs) p):f<p.n/\1<=p.cnt f:=by
 have h1:=(h.each f (vf ..)).1;have h2:=h.good.cnt f h1;unfold held plus at h2;rw[if_pos (vf ..)]at h2;exact⟨h1,by omega⟩
theorem Undo.step (h:Undo T n d0 L hold pg (f::fs) p):Undo T n d0 L hold pg fs (p.down f):=by
 have hp:=List.nodup_cons.1 h.nodup;have h0:=(h.each f (vf ..)).2;have h1:0<plus hold (f::fs) f:=(by unfold plus;rw[if_pos (vf ..)];omega);have hg:=h.good.down (f:=f) (by unfold held;omega);rw[fh _ _ _ h1,mO hp.1 h0]at hg;exact⟨hg,hp.2,fun x hx=>h.each x (ve _ hx),h.n,h.dat⟩
end
section
structure eF (T:Tab) (n r0:Nat) (d0:Nat->Nat->Nat) (L:List Slot) (hold:Nat->Nat) (pg d:Nat) (g:Nat) (fs:List Nat) (p:Pool) (T':Tab):Prop where
 good:T'.Good p (held L (plus hold fs)) pg (4-d)
 deep:d+fs.length=3
 node:T'.nd (4-d) (part pg (4-d))=some g
 below:d=3\/T'.nd (3-d) (part pg (3-d))=none
 nodup:fs.Nodup
 each: ∀f∈fs,f<p.n/\ ¬an T' f/\(p.dat f=fun _ =>0)/\hold f=0
 lf:T'.lf=T.lf
 mono: ∀lv q f,T.nd lv q=some f->T'.nd lv q=some f
 only: ∀f,an T' f->an T f\/hold f=0
 n:p.n=n
 dat: ∀x,¬an T x->0<hold x+aj T x+au L x->p.dat x=d0 x
 each2: ∀f∈fs,aj T f=0/\au L f=0/\p.cnt f=1
 only2: ∀f,an T' f->an T f\/(hold f=0/\aj T f=0/\au L f=0/\p.cnt f=1)
 room:r0<=p.left+3
variable {T:Tab} {n r0 pg d g:Nat} {d0:Nat->Nat->Nat} {hold:Nat->Nat} {fs:List Nat} {p:Pool} {L:List Slot}
theorem eF.start {L1:List Slot} (h:Took T n r0 d0 L1 hold pg fs p L) (hd:d+fs.length=3) (hg:T.nd (4-d) (part pg (4-d))=some g) (hb:d=3\/T.nd (3-d) (part pg (3-d))=none):
  eF T n r0 d0 L hold pg d g fs p T:=
 ⟨h.good.any pg _,hd,hg,hb,h.nodup,fun f hf=>⟨(h.each f hf).1,(h.each f hf).2.1,(h.each f hf).2.2.1,(h.each f hf).2.2.2.1⟩,rfl,fun _ _ _ e=>e,fun _ e=> .inl e,h.n,fun x _ hx=>h.dat x hx,fun f hf=>⟨(h.each2 f hf).1,(h.each2 f hf).2,(h.each f hf).2.2.2.2⟩,fun _ e=> .inl e,by have:=h.room;omega⟩
variable {T':Tab}
theorem eF.live (h:eF T n r0 d0 L hold pg d g fs p T'):g<p.n/\1<=p.cnt g:=h.good.node h.node
theorem eF.step {f:Nat} (h:eF T n r0 d0 L hold pg d g (f::fs) p T'):
  eF T n r0 d0 L hold pg (d+1) f fs (p.store g (aI (p.dat g) (num pg (4-d)) (f*4096+1))) (T'.put (3-d) (part pg (3-d)) (some f)):=by
 have hd:=h.deep;simp only[uX]at hd;have hd3:d<3:=(by omega);have Du:T'.nd (3-d) (part pg (3-d))=none:=h.below.resolve_left (by omega);obtain⟨f1,f2,f3,f4⟩:=h.each f (vf ..);have hp:=List.nodup_cons.1 h.nodup;have e1:4-d=(3-d)+1:=(by omega);have AE:=h.node;rw[e1]at AE;have hr:0<plus hold (f::fs) f:=(by unfold plus;rw[if_pos (vf ..)];omega);have hl:=h.good.link (lv:=3-d) (f:=f) (by omega) (by omega) (.inr e1) Du AE f1 f2 f3 (by unfold held;omega);rw[fh _ _ _ hr,mO hp.1 f4]at hl;have e2:4-(d+1)=3-d:=(by omega);have e3:3-(d+1)=2-d:=(by omega);have Yn: ∀x,x∈fs->x≠g:=fun x hx e=>(h.each x (ve _ hx)).2.1 ⟨4-d,part pg (4-d),by rw[h.node,e]⟩;refine⟨by rw[e2,e1];exact hl,by omega,by rw[e2];exact Tab.put_at _ _ _ _,?_,hp.2,fun x hx=>?_,h.lf,fun lv q x hx=>?_,fun x hx=>?_,h.n,fun x hn hx=>?_,fun x hx=>h.each2 x (ve _ hx),fun x hx=>?_,h.room⟩
 ·rcases Nat.lt_or_ge d 2 with h2|h2
  ·right;rw[e3,Tab.put_ne _ _ _ _ (by omega)];cases hc:T'.nd (2-d) (part pg (2-d))with
   |none=>rfl
   |some y=>
    have h5:=h.good.but.above _ _ _ hc (by omega);rw[lA,show 2-d+1=3-d from by omega,Du]at h5;cases h5
  ·left;omega
 ·obtain⟨x1,x2,x3,x4⟩:=h.each x (ve _ hx);refine⟨x1,fun e=>?_,(ah _ _ (Yn x hx)).trans x3,x4⟩;rcases cN.1 e with e4|⟨l,r,_,e5⟩
  ·injection e4 with e4;exact hp.1 (e4▸hx)
  ·exact x2 ⟨l,r,e5⟩
 ·have h5:=h.mono lv q x hx;rw[Tab.put_ne]
  ·exact h5
  ·rintro⟨rfl,rfl⟩;rw[Du]at h5;cases h5
 ·rcases cN.1 hx with e4|⟨l,r,_,e5⟩
  ·injection e4 with e4;exact .inr (e4▸f4)
  ·exact h.only x ⟨l,r,e5⟩
 ·have Xj:x≠g:=fun e=>by
   subst e;rcases h.only2 x ⟨_,_,h.node⟩with h9|h9
   ·exact hn h9
   ·omega
  exact(ah _ _ Xj).trans (h.dat x hn hx)
 ·rcases cN.1 hx with e4|⟨l,r,_,e5⟩
  ·injection e4 with e4;subst e4;exact .inr ⟨f4,h.each2 f (vf ..)⟩
  ·exact h.only2 x ⟨l,r,e5⟩
theorem eF.fin {l:Leaf} (h:eF T n r0 d0 L hold pg 3 g [] p T') (yU:pg<bM) (vL:T.lf pg=none) (h7:l.prot<=7) (hf:l.frame<n) (hh:0<hold l.frame):
  (T'.lay pg (some l)).Good (p.store g (aI (p.dat g) (num pg 1) l.pack)) (held L (upd hold l.frame (hold l.frame-1))) pg 4/\(T'.lay pg (some l)).lf=upd T.lf pg (some l)/\(∀lv q f,T.nd lv q=some f->(T'.lay pg (some l)).nd lv q=some f)/\(an (T'.lay pg (some l)) l.frame->an T l.frame):=by
 have hg:=h.good;rw[lu]at hg;have hl:=hg.layNew (.inr rfl) yU h.node (by rw[h.lf];exact vL) h7 (by rw[h.n];exact hf) (by unfold held;omega);rw[fh _ _ _ hh]at hl;exact⟨hl,by show upd T'.lf pg (some l)=_;rw[h.lf],h.mono,fun e=>(h.only _ e).resolve_right (by omega)⟩
theorem eF.fin2 (h:eF T n r0 d0 L hold pg 3 g [] p T') (o:Option Leaf) (d:Nat->Nat):
  (∀x,¬an T x->0<hold x+aj T x+au L x->(p.store g d).dat x=d0 x)/\(∀x,an (T'.lay pg o) x->an T x\/(p.store g d).cnt x=1)/\r0<=(p.store g d).left+3:=
 ⟨fun x hn hx=>by
  have Xj:x≠g:=fun e=>by
   subst e;rcases h.only2 x ⟨_,_,h.node⟩with h9|h9
   ·exact hn h9
   ·omega
  exact(ah _ _ Xj).trans (h.dat x hn hx),fun x hx=>(h.only2 x hx).imp id (fun e=>e.2.2.2),h.room⟩
end
section
def fresh (n:Nat):Pool:=⟨n,fun _ =>0,fun _ _ =>0⟩
theorem iK {n:Nat} (h:1<=n):(fresh n).lowest=some 0:=mX (p:=fresh n) (by show 0<n;omega) rfl (fun g hg=>by omega)
def aJ (r:Nat):Tab:=⟨fun lv q=>if lv=4/\q=0 then some r else none,fun _ =>none⟩
variable {r f:Nat}
theorem bW {lv q:Nat} :(aJ r).nd lv q=some f↔lv=4/\q=0/\f=r:=by
 show(if lv=4/\q=0 then some r else none)=some f↔_;constructor
 ·intro h;by_cases c:lv=4/\q=0
  ·rw[if_pos c]at h;injection h with h;exact⟨c.1,c.2,h.symm⟩
  ·rw[if_neg c]at h;cases h
 ·rintro⟨h1,h2,h3⟩;rw[if_pos ⟨h1,h2⟩,h3]
theorem dM (r:Nat):(aJ r).nd 4 0=some r:=bW.2 ⟨rfl,rfl,rfl⟩
theorem cw :an (aJ r) f↔f=r:=by
 constructor
 ·rintro⟨lv,q,h⟩;exact(bW.1 h).2.2
 ·rintro rfl;exact⟨4,0,dM _⟩
theorem fc (r f:Nat):aj (aJ r) f=0:=eB.2 fun i _ =>rfl
end
section
inductive dF (ino page r0:Int) (k:Nat) (d:Nat->Nat) (p:Pool) (L:List Slot) (clock:Int):Int->Nat->Pool->List Slot->Int->Prop
 |bad:page<0\/16<=page->dF ino page r0 k d p L clock 1 0 p L clock
 |err:0<=page->page<16->r0≠0->dF ino page r0 k d p L clock r0 0 p L clock
 |hit (s:Slot):0<=page->page<16->r0=0->L.find? (Slot.at ino page)=some s->dF ino page r0 k d p L clock 0 s.frame p (dR L ⟨ino,page,s.frame,clock+1⟩) (clock+1)
 |full:0<=page->page<16->r0=0->L.find? (Slot.at ino page)=none->ax p L 4 0 p L->dF ino page r0 k d p L clock 4 0 p L clock
 |miss (f:Nat) (p1:Pool) (L1:List Slot):0<=page->page<16->r0=0->L.find? (Slot.at ino page)=none->ax p L 0 f p1 L1->dF ino page r0 k d p L clock 0 f (p1.store f (laid (p1.dat f) d 0 k)) (dR L1 ⟨ino,page,f,clock+1⟩) (clock+1)
variable {L:List Slot} {i g:Int}
theorem eP (h:L.find? (Slot.at i g)=none):L.any (Slot.at i g)=false:=by
 rw[List.any_eq_false];rw[List.find?_eq_none]at h;exact h
variable {s:Slot}
theorem dO (h:L.find? (Slot.at i g)=some s):s∈L/\s.ino=i/\s.page=g:=⟨List.mem_of_find?_eq_some h,Slot.at_iff.1 (List.find?_some h)⟩
theorem jv (h:L.any (Slot.at s.ino s.page)=false) (f:Nat):au (dR L s) f=au L f+if s.frame=f then 1 else 0:=by
 unfold dR au;rw[if_neg (by rw[h];decide),List.countP_append];by_cases e:s.frame=f
 ·simp[e]
 ·simp[e]
theorem ju (h:Sole L) {s0:Slot} (hs:s0∈L) (hi:s0.ino=s.ino) (hp:s0.page=s.page) (hf:s0.frame=s.frame) (f:Nat):au (dR L s) f=au L f:=by
 unfold dR au;have YP:L.any (Slot.at s.ino s.page)=true:=List.any_eq_true.2 ⟨s0,hs,Slot.at_iff.2 ⟨hi,hp⟩⟩;rw[if_pos YP,List.countP_map];refine List.countP_congr fun x hx=>?_;simp only[Function.comp_apply];by_cases c:Slot.at s.ino s.page x=true
 ·rw[if_pos c];have hk:=Slot.at_iff.1 c;have:x=s0:=h.eq hx hs ⟨hk.1.trans hi.symm,hk.2.trans hp.symm⟩;rw[this,hf]
 ·rw[if_neg c]
theorem lB {L1:List Slot} (h:L.any (Slot.at i g)=false) (hs:L1.Sublist L):L1.any (Slot.at i g)=false:=by
 rw[List.any_eq_false]at h⊢;exact fun x hx=>h x (hs.subset hx)
theorem kC (h:Sole L) (s:Slot):Sole (dR L s):=by
 unfold dR;by_cases c:L.any (Slot.at s.ino s.page)=true
 ·rw[if_pos c];refine List.pairwise_map.2 (h.imp ?_);intro a b RA;have hk: ∀x:Slot,(if Slot.at s.ino s.page x=true then s else x).ino=x.ino/\(if Slot.at s.ino s.page x=true then s else x).page=x.page:=by
   intro x;by_cases e:Slot.at s.ino s.page x=true
   ·rw[if_pos e];have:=Slot.at_iff.1 e;exact⟨this.1.symm,this.2.symm⟩
   ·rw[if_neg e];exact⟨rfl,rfl⟩
  rw[(hk a).1,(hk a).2,(hk b).1,(hk b).2];exact RA
 ·rw[if_neg c];refine List.pairwise_append.2 ⟨h,List.pairwise_singleton _ _,?_⟩;intro a ha b hb;rw[List.mem_singleton]at hb;subst hb;intro e;exact c (List.any_eq_true.2 ⟨a,ha,Slot.at_iff.2 e⟩)
theorem gy {x:Slot} (h:x∈dR L s):x∈L\/x=s:=by
 unfold dR at h;split at h
 ·obtain⟨y,hy,e⟩:=List.mem_map.1 h;split at e
  ·exact .inr e.symm
  ·exact .inl (e▸hy)
 ·rcases List.mem_append.1 h with h|h
  ·exact .inl h
  ·exact .inr (List.mem_singleton.1 h)
variable {p p':Pool} {L':List Slot} {r:Int} {f:Nat}
theorem ax.size (h:ax p L r f p' L'):p'.n=p.n/\(r=0->f<p.n):=by
 cases h with
 |free f h1=>exact⟨rfl,fun _ =>(cK h1).1⟩
 |loose s h1 h2 h3=>exact⟨rfl,fun _ =>h3⟩
 |none=>exact⟨rfl,fun e=>by cases e⟩
theorem dF.slow {ino page r0:Int} {k:Nat} {d:Nat->Nat} {clock vm:Int} {n:Nat} (h:dF ino page r0 k d p L clock r f p' L' vm) (hn:p.n=n) (hL: ∀s∈L,s.frame<n): ∀s∈L',s.frame<n:=by
 cases h with
 |bad=>exact hL
 |err=>exact hL
 |hit s _ _ _ hs=>
  intro x hx;rcases gy hx with hx|rfl
  ·exact hL x hx
  ·exact hL s (dO hs).1
 |full=>exact hL
 |miss f p1 L1 _ _ _ _ ht=>
  intro x hx;rcases gy hx with hx|rfl
  ·exact hL x (ht.sub.subset hx)
  ·rw[<-hn];exact ht.size.2 rfl
end
section
open Go.RowKit Go.Maps Go.WideMaps Go.Sort
open Go.ChangeMaps (setBlock)
def ey (p:Pool) (L left:List Slot):Pool:=⟨p.n,fun f=>p.cnt f-(au L f-au left f),p.dat⟩
theorem nz (p:Pool) (L:List Slot):ey p L L=p:=by
 obtain⟨n,c,d⟩:=p;unfold ey;congr 1;funext f;simp
theorem mD (L:List Slot) (q:Slot->Bool) (f:Nat):au (L.filter q) f<=au L f:=List.Sublist.countP_le List.filter_sublist
structure uE (p:Pool) (L left:List Slot):Prop where
 sole:Sole left
 le: ∀f,au left f<=au L f
 sub: ∀s∈left,s∈L
theorem oT {p:Pool} {L left:List Slot} (h:uE p L left) (hc: ∀s∈L,s.frame<p.n/\au L s.frame<=p.cnt s.frame) {s:Slot} (hs:s∈left):
  s.frame<(ey p L left).n/\1<=(ey p L left).cnt s.frame/\(ey p L left).down s.frame=ey p L (left.filter fun x=> !Slot.at s.ino s.page x)/\uE p L (left.filter fun x=> !Slot.at s.ino s.page x):=by
 have xY:=hc s (h.sub s hs);have h1:=aR hs;have h2:=h.le s.frame;refine⟨xY.1,?_,?_,h.sole.drop _,fun f=>vh (mD _ _ f) (h.le f),fun x hx=>h.sub x (List.mem_filter.1 hx).1⟩
 ·show 1<=p.cnt s.frame-(au L s.frame-au left s.frame);omega
 ·unfold Pool.down ey;simp only;congr 1;funext f;have h3:=fB h.sole hs f;have h4:=h.le f;by_cases e:f=s.frame
  ·subst e;rw[af];rw[if_pos rfl]at h3;omega
  ·rw[ah _ _ e];rw[if_neg (fun e2=>e e2.symm)]at h3;omega
theorem gn {ops:Array Oper} {rest:List Oper} {o:Oper} {A:Act} {w:World} {Q:Exit->Act->World->Prop} (hg:o.guard=none) (x:Operand) (Bn:o.op=Op.call { callee:=Callee.builtin Builtin.clear,args:= #[x],argTypes:= #[123]})
  (m:Nat) (L:List Slot) (hx:A.eval x= .map (some m)) (h:aP w m L)
  (hK: ∀w',aP w' m []->Mod (fun j=>j=m) w w'->w'.heap.size=w.heap.size->wpList Tryz.prog ops Q rest (A.put o.dst (.tuple #[])) w'):
  wpList Tryz.prog ops Q (o::rest) A w:=by
 refine wpList_plain hg fun K' Of=>?_;obtain⟨es,wm,h1⟩:=h;have hb:=h1.block;have vq:m<w.heap.size:=(uJ hb).1;have xq:(Builtin.clear_ #[123] o.type #[.map (some m)]).run Tryz.prog w= .ok (.tuple #[]) (setBlock w m (.map #[] wm)):=by
  simp[Builtin.clear_,run_underlying Tryz.underlying123,MapKept.run_getObj_map hb,MapKept.run_setObj_map _ hb,Result.andThen,setBlock]
 unfold Oper.wp;simp[execOp,Bn,resolve,invoke,builtin,hx,xq,Result.andThen];exact Of _ _ (hK _ ⟨#[],wm,sx vq,⟨(fun x hx=>by cases hx),List.nodup_nil,List.nodup_nil⟩,rfl,(fun s hs=>by cases hs)⟩ dJ da)
def DropPost (w:World) (S:Nat->Prop) (c a fs m:Nat) (clock:Int) (p:Pool) (L:List Slot) (e:Ending) (w':World):Prop:=e= .returned (.tuple #[])/\ap w' S c a fs m clock (ey p L []) []/\Mod (Both S m) w w'
theorem drop_any (c a fs m:Nat) (clock:Int) (w:World) (S:Nat->Prop) (p:Pool) (L:List Slot) (h:ap w S c a fs m clock p L) (Gr: ∀s∈L,s.frame<p.n/\au L s.frame<=p.cnt s.frame):
  Calls Tryz.prog 22 #[.pointer (some ⟨c,0,none⟩)] w (DropPost w S c a fs m clock p L):=by
 obtain⟨TX,Rs,Mu,IC⟩:=h.lts;have Sk:=h.pool.low;have DD:=h.slots.sole;have c2:w.cell? ⟨c,2,none⟩=some (.map (some m)):=aa h.self 2;have Pc:=h.slots;have H:=uK h;have Om:=uK Pc;have QU:=uK Gr;clear h Pc Gr;go_enter Tryz.func22,Tryz.ntmps22;go_wp2_with (first
  |(at_range;refine dH rfl _ rfl m L rfl Om.out ?_;intro w1 CU vl FK;go_frame)
  |fail)
 have CG:=uK (H.out.below vl);have vu:=uK vl;have Vm:=uK CU;clear vl CU;go_loopw [] (fun wr=> ∃left,aN wr m w.heap.size L left/\uE p L left/\ap wr S c a fs m clock (ey p L left) L/\Mod (Both S m) w wr/\w.heap.size<wr.heap.size)
  (fun wr=>leftN wr m w.heap.size)
 case atStart=>
  exact⟨L,Vm.out,⟨DD,fun _ =>uN _,fun _ h=>h⟩,by rw[nz];exact CG.out,Mod.of vu.out,by omega⟩
 case round=>
  obtain⟨left,CK,wM,hC,hm,vq⟩:=hrel;have HC:=uK hC;have HM:=uK hm;have MO:=uK wM;clear hC hm wM;go_wp2_with (first
   |(at_next;refine dY rfl _ rfl m w.heap.size L left rfl CK ?_ ?_)
   |fail)
  ·intro CX;subst CX;have d2:wr.cell? ⟨c,2,none⟩=some (.map (some m)):=aa HC.out.self 2;have XE:=HC.out.slots;go_wp2_with (first
    |(refine gn rfl _ rfl m L rfl XE ?_;intro w5 Ma wy JJ)
    |fail)
   go_end0;have Ct:ap w5 S c a fs m clock (ey p L []) []:=⟨HC.out.pool.mod wy (fun b hb e=>H.out.noM (e▸hb)) (fun e=>IC e.symm),(wy.block c HC.out.lts.1 Mu).trans HC.out.self,Ma,H.out.noC,H.out.noM⟩;exact⟨rfl,Ct,HM.out.trans (Out.refl _ _) (wy.sub fun b hb=> .inr hb)⟩
  ·intro s w1 hs CU wA FK Yz;have QD:=uK CU;have HEN:=uK Yz;have Ds:=CK.lt;obtain⟨Hd,XH,NP,SN⟩:=oT MO.out QU.out hs;have yy:(left.filter fun x=> !Slot.at s.ino s.page x).length<left.length:=List.length_filter_lt_length_iff_exists.2 ⟨s,hs,by simp[Slot.at]⟩;have Kn:=CK.leftN;have QR:=uK NP;have ZL:=uK SN;have Dk:=uK Kn;clear CU NP SN CK Kn;go_upto_region 4 with(fail);obtain⟨w2,we⟩: ∃w2,w2=w1.alloc (.cells #[.int .i64 (s.frame:Int), .int .i64 s.asked] 129):=⟨_,rfl⟩;rw[<-we];have vs:Below w1.heap.size w1 w2:=(by rw[we];exact uM);have EB:w2.heap[w1.heap.size]? =some (.cells #[.int .i64 (s.frame:Int), .int .i64 s.asked] 129 (0,0)):=(by rw[we];exact ab _ _);have Bl: ¬S w.heap.size:=fun e=>by have:=Sk _ e;omega
   have Fx:=HC.out.mod wA (fun b hb e=>Bl (e▸hb)) (by omega) (by omega) (by omega);have BN:=Fx.below vs;have e0:w2.cell? ⟨c,0,none⟩=some (.pointer (some ⟨a,0,none⟩)):=aa BN.self 0;have e1:w2.cell? ⟨wr.heap.size,0,none⟩=some (.int .i64 (s.frame:Int)):=(by rw[<-FK];exact aa EB 0);have vS:=vs.size;have JQ:aN w2 m w.heap.size L (left.filter fun x=> !Slot.at s.ino s.page x):=QD.out.same (vs.block m (by omega)) (vs.block _ (by omega));have Tj:Mod (fun b=>Both S m b\/b=w.heap.size) w w2:=(HM.out.sub fun b hb=> .inl hb).trans (Out.refl _ _) ((wA.sub fun b hb=> .inr hb).trans (Out.refl _ _) (Mod.of vs));have ZV:=uK Tj;have ya:=uK BN;have QC:=uK JQ;clear we EB Fx BN JQ Tj
   go_still_tail 6,(by kernel_rfl)
   go_wp2_with fail;refine(cj a s.frame w2.drew S _ ya.out.pool.drew Hd XH).mono ?_;rintro e w4 ⟨rfl,Ed,EZ⟩;rw[QR.out]at Ed;have wH:=EZ.undrew;have AU:=wH.size;have Cu:=ya.out.turn wH Ed (Out.refl _ _);have SC:aN w4 m w.heap.size L (left.filter fun x=> !Slot.at s.ino s.page x):=QC.out.same (wH.block m (by omega) H.out.noM) (wH.block _ (by omega) Bl);have IB:=ZV.out.trans (Out.refl _ _) (wH.sub fun b hb=> .inl (.inl hb));have XW:Mod (Both S m) w w4:=⟨IB.os,IB.tape,IB.output,IB.size,fun b hb hn=>IB.block b hb (fun e=>e.elim hn (by omega))⟩;have Vk:=uK SC;have BG:=uK Cu;have HMB:=uK XW;clear SC Cu IB XW Ed EZ wH e0 e1;go_wp2_with fail;go_roundw
   case rel=>exact⟨_,Vk.out,ZL.out,BG.out,HMB.out,by omega⟩
   case measure=>rw[Vk.out.leftN,Dk.out];exact yy
end
