/- The cache: the loose slot that was asked for longest ago. -/
import Derived.Test.YtoochjhipmpehaaGreatDoorCaAK
import Derived.Test.YtoochjhipmpehaaGreatDoorTtZK
set_option linter.unusedVariables false
set_option linter.unusedSimpArgs false
set_option maxRecDepth 100000
set_option maxHeartbeats 4000000
namespace Go.Proofs.YtoochjhipmpehaaGreatDoor
section
open Go.RowKit Go.Maps Go.WideMaps Go.Sort
open Go.ChangeMaps (setBlock)
variable {s t:Slot}
theorem Slot.kv_inj (h:s.kv=t.kv):s=t:=by
 have h1:keyV s.ino s.page=keyV t.ino t.page:=congrArg Prod.fst h;have h2:dQ s.frame s.asked=dQ t.frame t.asked:=congrArg Prod.snd h;rw[fH]at h1;unfold dQ at h2;simp at h2;obtain⟨a,b,c,d⟩:=s;obtain⟨a',b',c',d'⟩:=t;simp only at h1 h2;obtain⟨rfl,rfl⟩:=h1;obtain⟨h3,rfl⟩:=h2;have:c=c':=(by omega);subst this;rfl
variable {w:World} {m:Nat} {L left:List Slot}
theorem aN.mem {r:Nat} (h:aN w m r L left) (hs:s∈left):s∈L:=by
 obtain⟨t,ht,e⟩:=List.mem_map.1 (h.sub s hs);rw[<-Slot.kv_inj e];exact ht
theorem aM.sole (h:aM w m L):Sole L:=by
 obtain⟨es,clk,h1⟩:=h;exact h1.sole
theorem Sole.eq (h:Sole L) (hs:s∈L) (ht:t∈L) (he:s.ino=t.ino/\s.page=t.page):s=t:=by
 have h1:=dM h hs;rw[he.1,he.2,dM h ht]at h1;injection h1 with h1;exact h1.symm
def ic (p:Pool) (L left:List Slot) (found:Bool) (bi bp:Int):Prop:=
 (found=false/\ ∀s∈L,s∉left->bF p s.frame≠1)\/
 (found=true/\ ∃b∈L,b.ino=bi/\b.page=bp/\bF p b.frame=1/\ ∀s∈L,s∉left->bF p s.frame=1->b.asked<=s.asked)
theorem come (h:Sole L) {x:Slot} (hs:s∈L) (hx:x∈L) (hn:x∉left.filter fun y=> !Slot.at s.ino s.page y):x∉left\/x=s:=by
 by_cases e:x∈left
 ·right;have:Slot.at s.ino s.page x=true:=by
   cases hc:Slot.at s.ino s.page x with
   |true=>rfl
   |false=>exact absurd (List.mem_filter.2 ⟨e,by rw[hc];rfl⟩) hn
  exact h.eq hx hs (Slot.at_iff.1 this)
 ·exact .inl e
theorem rP (p:Pool) (L:List Slot):ic p L L false 0 0:= .inl ⟨rfl,fun s h1 h2=>absurd h1 h2⟩
variable {p:Pool} {f:Bool} {bi bp:Int}
theorem un (hL:Sole L) (h:ic p L left f bi bp) (hs:s∈L) (hl:bF p s.frame≠1):ic p L (left.filter fun y=> !Slot.at s.ino s.page y) f bi bp:=by
 rcases h with⟨h1,h2⟩|⟨h1,b,hb,h2,h3,h4,h5⟩
 ·refine .inl ⟨h1,fun x hx hn=>?_⟩;rcases come hL hs hx hn with h3|rfl
  ·exact h2 x hx h3
  ·exact hl
 ·refine .inr ⟨h1,b,hb,h2,h3,h4,fun x hx hn hc=>?_⟩;rcases come hL hs hx hn with h6|rfl
  ·exact h5 x hx h6 hc
  ·exact absurd hc hl
theorem uo (hL:Sole L) {b:Slot} (hb:b∈L) (h:ic p L left true b.ino b.page) (hs:s∈L) (hl: ¬s.asked<b.asked):ic p L (left.filter fun y=> !Slot.at s.ino s.page y) true b.ino b.page:=by
 rcases h with⟨h1,_⟩|⟨h1,b',Ip,h2,h3,h4,h5⟩
 ·cases h1
 ·obtain rfl:=hL.eq Ip hb ⟨h2,h3⟩;refine .inr ⟨rfl,b',hb,h2,h3,h4,fun x hx hn hc=>?_⟩;rcases come hL hs hx hn with h6|rfl
  ·exact h5 x hx h6 hc
  ·omega
theorem qp (hL:Sole L) (h:ic p L left f bi bp) (hs:s∈L) (hc:bF p s.frame=1) (hl:f=true-> ∃b∈L,b.ino=bi/\b.page=bp/\s.asked<b.asked):ic p L (left.filter fun y=> !Slot.at s.ino s.page y) true s.ino s.page:=by
 refine .inr ⟨rfl,s,hs,rfl,rfl,hc,fun x hx hn hcx=>?_⟩;rcases come hL hs hx hn with h6|rfl
 ·rcases h with⟨h1,h2⟩|⟨h1,b',Ip,h2,h3,h4,h5⟩
  ·exact absurd hcx (h2 x hx h6)
  ·obtain⟨b,hb,e1,e2,e3⟩:=hl h1;obtain rfl:=hL.eq Ip hb ⟨h2.trans e1.symm,h3.trans e2.symm⟩;have:=h5 x hx h6 hcx;omega
 ·omega
section
variable {ops:Array Oper} {rest:List Oper} {o:Oper} {a:Act} {w:World} {Q:Exit->Act->World->Prop}
theorem gm (hg:o.guard=none) (x:Operand) (BC:o.op=Op.range 123 x) (m:Nat) (L:List Slot) (hx:a.eval x= .map (some m)) (h:aM w m L)
  (hK: ∀w',aN w' m w.heap.size L L->Below w.heap.size w w'->w'.heap.size=w.heap.size+1->wpList Tryz.prog ops Q rest (a.put o.dst (.pointer (some ⟨w.heap.size,0,none⟩))) w'):
  wpList Tryz.prog ops Q (o::rest) a w:=by
 refine wpList_plain hg fun K' RL=>?_;obtain⟨w',xz,r1,r2,r3⟩:=h.range;unfold Oper.wp;simp[execOp,BC,hx,xz,Result.andThen];exact RL _ _ (hK w' r1 r2 r3)
theorem ig (hg:o.guard=none) (it:Operand) (BC:o.op=Op.next it false) (m r:Nat) (L left:List Slot) (hit:a.eval it= .pointer (some ⟨r,0,none⟩)) (h:aN w m r L left)
  (Vb:left=[]->wpList Tryz.prog ops Q rest (a.put o.dst (.tuple #[.bool false])) w)
  (UP: ∀(s:Slot) (w':World),s∈left->aN w' m r L (left.filter fun x=> !Slot.at s.ino s.page x)->Mod (fun j=>j=r) w w'->w'.heap.size=w.heap.size->
   (Instr.entry (.pointer (some ⟨r,0,none⟩))).run Tryz.prog w'= .ok (.tuple #[.agg #[.int .i64 s.ino, .int .i64 s.page], .agg #[.int .i64 (s.frame:Int), .int .i64 s.asked]]) w'->
   wpList Tryz.prog ops Q rest (a.put o.dst (.tuple #[.bool true, .agg #[.int .i64 s.ino, .int .i64 s.page], .agg #[.int .i64 (s.frame:Int), .int .i64 s.asked]])) w'):
  wpList Tryz.prog ops Q (o::rest) a w:=by
 refine wpList_plain hg fun K' RL=>?_;unfold Oper.wp;rcases h.next o.type with⟨h0,xz⟩|⟨s,w',hs,xz,h1,h2,h3,h4⟩
 ·simp[execOp,BC,hit,xz,Result.andThen];exact RL _ _ (Vb h0)
 ·simp[execOp,BC,hit,xz,Result.andThen];exact RL _ _ (UP s w' hs h1 h2 h3 h4)
end
variable {w:World}
theorem aM.lookS {m:Nat} {L:List Slot} (h:aM w m L) {b:Slot} (hb:b∈L):(Instr.lookup 123 (.map (some m)) (.agg #[.int .i64 b.ino, .int .i64 b.page]) false).run Tryz.prog w= .ok (.agg #[.int .i64 (b.frame:Int), .int .i64 b.asked]) w:=by
 have hs:=h.sole;obtain⟨es,clk,h1⟩:=h;have h2:=h1.look (h1.wf b hb).1 (h1.wf b hb).2 false;have h3:=dM hs hb;generalize L.find? (Slot.at b.ino b.page)=o at h2 h3;subst h3;exact h2
theorem rC (x y:Value) (W:World):(Instr.field 129 (.agg #[x,y]) 1).run Tryz.prog W= .ok y W:=by kernel_rfl
theorem rB (x y:Value) (W:World):(Instr.field 129 (.agg #[x,y]) 0).run Tryz.prog W= .ok x W:=by kernel_rfl
theorem sg {b:Nat} {x y x' y':Value} {t:TypeId} (h:w.heap[b]? =some (.cells #[x,y] t (0,0))):((w.setCell ⟨b,0,none⟩ x').setCell ⟨b,1,none⟩ y').heap[b]? =some (.cells #[x',y'] t (0,0)):=by
 have h1:=Joins.block_setCell (i:=0) h x';have h2:=Joins.block_setCell (i:=1) h1 y';simpa using h2
theorem cw (w:World) (b:Nat) (x y:Value):Mod (fun j=>j=b) w ((w.setCell ⟨b,0,none⟩ x).setCell ⟨b,1,none⟩ y):=(aj (S:=fun j=>j=b) (b:=b) rfl 0 x).trans (Out.refl _ _) (aj (S:=fun j=>j=b) (b:=b) rfl 1 y)
def aK (w:World) (c a fs m:Nat) (clock:Int):Prop:=w.heap[c]? =some (.cells #[.pointer (some ⟨a,0,none⟩), .pointer (some ⟨fs,0,none⟩), .map (some m), .int .i64 clock] 125 (0,0))
theorem rf (c a fs m:Nat) (clock:Int) (w:World) (S:Nat->Prop) (p:Pool) (L:List Slot) (h:am w S a p) (hc:aK w c a fs m clock) (hL:aM w m L):
  Calls Tryz.prog 148 #[.pointer (some ⟨c,0,none⟩)] w fun e w'=> ∃found bi bp,e= .returned (.tuple #[.agg #[.int .i64 bi, .int .i64 bp], .bool found])/\ic p L [] found bi bp/\Below w.heap.size w w':=by
 have Xk:c<w.heap.size:=(uZ hc).1;have Tu:=hL.lt;have Ha:=hL.sole;obtain⟨w0,vE⟩: ∃w0,w0=(w.alloc (.cells #[.int .i64 0, .int .i64 0] 127)).alloc (.cells #[.int .i64 0, .int .i64 0] 127):=⟨_,rfl⟩;have xr:Below w.heap.size w w0:=(by rw[vE];exact vc.alloc (by simp) _);have BB:w0.heap.size=w.heap.size+1+1:=(by rw[vE];simp);have zb:w0.heap[w.heap.size]? =some (.cells #[.int .i64 0, .int .i64 0] 127 (0,0)):=(by rw[vE];exact(ve _ _ _ (by simp)).trans (ab w _));have Xu:w0.heap[w.heap.size+1]? =some (.cells #[.int .i64 0, .int .i64 0] 127 (0,0)):=by
  rw[vE];have e:(w.alloc (.cells #[.int .i64 0, .int .i64 0] 127)).heap.size=w.heap.size+1:=(by simp);rw[<-e];exact ab _ _
 have hC0:aK w0 c a fs m clock:=(xr.block c Xk).trans hc;have Az:aM w0 m L:=hL.same (xr.block m Tu);have c2:w0.cell? ⟨c,2,none⟩=some (.map (some m)):=aa hC0 2;have HC:=va hc;have HP:=va h;have vY:=va vE;have Ds:=va zb;have Sb:=va Xu;have HS:=va BB;have Gx:=va Az;clear vE h hc hL zb Xu hC0 Az;go_enter Tryz.func148,Tryz.ntmps148;go_upto_region 3 with(fail);rw[<-vY.out];go_wp2_with (first
  |(at_range;refine gm rfl _ rfl m L rfl Gx.out ?_;intro w1 LQ vD Hr;rw[HS.out]at LQ Hr⊢;go_frame)
  |fail)
 go_loopw [5] (fun v wr=> ∃left found bi bp,v= .bool found/\aN wr m (w.heap.size+1+1) L left/\ic p L left found bi bp/\Below w.heap.size w wr/\(w.heap.size+1+1)<wr.heap.size/\wr.heap[w.heap.size]? =some (.cells #[.int .i64 0, .int .i64 0] 127 (0,0))/\wr.heap[w.heap.size+1]? =some (.cells #[.int .i64 bi, .int .i64 bp] 127 (0,0)))
  (fun _ wr=>leftN wr m (w.heap.size+1+1))
 case atStart=>
  have h9:=HS.out;exact⟨L,false,0,0,rfl,LQ,rP p L,xr.trans (vD.mono xr.size),by omega,(vD.block _ (by omega)).trans Ds.out,(vD.block _ (by omega)).trans Sb.out⟩
 case round=>
  obtain⟨left,found,bi,bp,rfl,EE,Dk,hb,vH,hR,hK⟩:=hrel;have yp:=va Dk;have HR:=va hR;have HK:=va hK;clear Dk hR hK;go_wp2_with (first
   |(at_next;refine ig rfl _ rfl m (w.heap.size+1+1) L left rfl EE ?_ ?_)
   |fail)
  ·intro Cy;subst Cy;have x0:wr.cell? ⟨w.heap.size+1,0,none⟩=some (.int .i64 bi):=aa HK.out 0;have x1:wr.cell? ⟨w.heap.size+1,1,none⟩=some (.int .i64 bp):=aa HK.out 1;have y0:wr.cell? ⟨w.heap.size,0,none⟩=some (.int .i64 0):=aa HR.out 0;have y1:wr.cell? ⟨w.heap.size,1,none⟩=some (.int .i64 0):=aa HR.out 1;have z0:=ae HR.out 0;have z1:=ae HR.out 1;have JQ:w.heap.size<wr.heap.size:=(by have:=HS.out;omega);go_wp2_with fail;exact bodyPost_ret (v:= .tuple #[.agg #[.int .i64 bi, .int .i64 bp], .bool found]) (by simp[results,Tryz.results148,go_sem,JQ,y0,y1,z0,z1]) rfl ⟨found,bi,bp,rfl,yp.out,(hb.setCell (vd _) _).setCell (vd _) _⟩
  ·intro s w1 hs LQ xJ Hr hen;have HRG1:=va LQ;have HEN:=va hen;have LZ:=EE.mem hs;have DE:=EE.lt;go_upto_region 6 with(fail);have vD:Below w.heap.size w w1:=hb.trans (xJ.below (fun b e=>by have:=HS.out;omega) hb.size);obtain⟨w2,wD⟩: ∃w2,w2=(w1.alloc (.cells #[.int .i64 s.ino, .int .i64 s.page] 127)).alloc (.cells #[.int .i64 (s.frame:Int), .int .i64 s.asked] 129):=⟨_,rfl⟩;rw[<-wD];have Kr:Below w1.heap.size w1 w2:=(by rw[wD];exact vc.alloc (by simp) _);have xE:Below w.heap.size w w2:=vD.trans (Kr.mono vD.size);have Ef:w2.heap.size=wr.heap.size+1+1:=(by rw[wD];simp[Hr]);have FA:w2.heap[wr.heap.size]? =some (.cells #[.int .i64 s.ino, .int .i64 s.page] 127 (0,0)):=(by rw[wD,<-Hr];exact(ve _ _ _ (by simp)).trans (ab w1 _));have Xg:w2.heap[wr.heap.size+1]? =some (.cells #[.int .i64 (s.frame:Int), .int .i64 s.asked] 129 (0,0)):=by
    rw[wD,<-Hr];have e:(w1.alloc (.cells #[.int .i64 s.ino, .int .i64 s.page] 127)).heap.size=w1.heap.size+1:=(by simp);rw[<-e];exact ab _ _
   have Dn:aK w2 c a fs m clock:=(xE.block c Xk).trans HC.out;have yc:=(Kr.block w.heap.size (by omega)).trans ((xJ.block w.heap.size (by have:=HS.out;omega) (by have:=HS.out;omega)).trans HR.out);have Aj:=(Kr.block (w.heap.size+1) (by omega)).trans ((xJ.block (w.heap.size+1) (by have:=HS.out;omega) (by have:=HS.out;omega)).trans HK.out);have SS:aN w2 m (w.heap.size+1+1) L (left.filter fun x=> !Slot.at s.ino s.page x):=HRG1.out.same (Kr.block m (by omega)) (Kr.block _ (by omega));have d0: ∀d os,(grow (redrawn w2 d) os).cell? ⟨c,0,none⟩=some (.pointer (some ⟨a,0,none⟩)):=fun d os=>cell_regrown (aa Dn 0) d os;have d1: ∀d os,(grow (redrawn w2 d) os).cell? ⟨wr.heap.size+1,0,none⟩=some (.int .i64 (s.frame:Int)):=fun d os=>cell_regrown (aa Xg 0) d os;have AJ:=fun d os=>Calls.regrown_of ((gU a (s.frame:Int) (grow (redrawn w2 d) os) S p ((HP.out.below xE).below (below_regrown w2 d os))).mono fun _ _ ⟨h1,h2⟩=>⟨h1,h2▸vz _ _⟩);have HCt:=va AJ;have ye:=va Dn;have CU:=va yc;have FF:=va Aj;have Hk2:=va FA;have Hh2:=va Xg;have HRG2:=va SS;have Iz:=va Ef;clear wD AJ Dn yc Aj FA Xg SS Ef;refine wp_region_quiet_below (by kernel_rfl) (by kernel_rfl) ?_;(repeat(go_big_quiet_step ((exact HCt.out _ _))));refine wpQuiet_nil ?_;intro _ xI;obtain⟨⟨dq,osq⟩,hw''⟩:=xI;subst hw'';have wM:=below_regrown (w2) dq osq;generalize grow (redrawn (w2) dq) osq=wq at wM⊢;clear d0 d1;have LH:=wM.size;have Ef:=Iz.out;have BI:aK wq c a fs m clock:=(wM.block c (by omega)).trans ye.out;have DP:=(wM.block w.heap.size (by omega)).trans CU.out;have Hc:=(wM.block (w.heap.size+1) (by omega)).trans FF.out;have GO:=(wM.block wr.heap.size (by omega)).trans Hk2.out;have YX:=(wM.block (wr.heap.size+1) (by omega)).trans Hh2.out;have Jw:aN wq m (w.heap.size+1+1) L (left.filter fun x=> !Slot.at s.ino s.page x):=HRG2.out.same (wM.block m (by omega)) (wM.block _ (by omega));have DS:=xE.trans (wM.mono xE.size);have Bf:(left.filter fun x=> !Slot.at s.ino s.page x).length<left.length:=by
    exact List.length_filter_lt_length_iff_exists.2 ⟨s,hs,by simp[Slot.at]⟩
   have YL:w.heap.size+1+1<wq.heap.size:=(by omega);clear Ef;by_cases hl:bF p (s.frame:Int)=1
   ·have GN:(((bF p (s.frame:Int):Nat):Int) != 1)=false:=(by rw[hl];rfl);have D0: ∀d os,(grow (redrawn wq d) os).cell? ⟨c,2,none⟩=some (.map (some m)):=fun d os=>cell_regrown (aa BI 2) d os;have D1: ∀d os,(grow (redrawn wq d) os).cell? ⟨wr.heap.size+1,1,none⟩=some (.int .i64 s.asked):=fun d os=>cell_regrown (aa YX 1) d os;have D2: ∀d os,(grow (redrawn wq d) os).cell? ⟨w.heap.size+1,0,none⟩=some (.int .i64 bi):=fun d os=>cell_regrown (aa Hc 0) d os;have D3: ∀d os,(grow (redrawn wq d) os).cell? ⟨w.heap.size+1,1,none⟩=some (.int .i64 bp):=fun d os=>cell_regrown (aa Hc 1) d os;have hqw:wr.heap.size<wq.heap.size:=(by have:=Iz.out;omega);have hnew: ∀w',Below wq.heap.size wq w'->aN w' m (w.heap.size+1+1) L (left.filter fun x=> !Slot.at s.ino s.page x)/\Below w.heap.size w w'/\w.heap.size+1+1<w'.heap.size/\w'.heap[w.heap.size]? =some (.cells #[.int .i64 0, .int .i64 0] 127 (0,0))/\w'.heap[w.heap.size+1]? =some (.cells #[.int .i64 bi, .int .i64 bp] 127 (0,0))/\w'.heap[wr.heap.size]? =some (.cells #[.int .i64 s.ino, .int .i64 s.page] 127 (0,0)):=fun w' hm=>⟨Jw.same (hm.block m (by omega)) (hm.block _ (by omega)),DS.trans (hm.mono (by omega)),by have:=hm.size;omega,(hm.block _ (by omega)).trans DP,(hm.block _ (by omega)).trans Hc,(hm.block _ (by omega)).trans GO⟩;have Ny:=Jw.slots;have yu:=va hnew;have Gu:=va Ny;clear GO YX BI Hc DP Jw hnew Ny;cases found with
    |false=>
     go_upto_region 7 with(fail);refine wp_region_quiet_below (by kernel_rfl) (by kernel_rfl) ?_;(repeat(go_big_quiet_step ((fail))));refine wpQuiet_nil ?_;intro _ xI;obtain⟨⟨dq,osq⟩,hw''⟩:=xI;subst hw'';have Ek:=below_regrown (wq) dq osq;generalize grow (redrawn (wq) dq) osq=w7 at Ek⊢;clear D0 D1 D2 D3;obtain⟨g1,g2,g3,g4,g5,g6⟩:=yu.out _ Ek;have k0:w7.cell? ⟨wr.heap.size,0,none⟩=some (.int .i64 s.ino):=aa g6 0;have k1:w7.cell? ⟨wr.heap.size,1,none⟩=some (.int .i64 s.page):=aa g6 1;have b0:w7.cell? ⟨w.heap.size+1,0,none⟩=some (.int .i64 bi):=aa g5 0;have b1:w7.cell? ⟨w.heap.size+1,1,none⟩=some (.int .i64 bp):=aa g5 1;have f0:=ae g5 0;have f1:=ae g5 1;have G1:=va g1;have G4:=va g4;have G5:=va g5;clear g1 g4 g5 g6;go_wp2_with fail;go_roundw
     case rel=>exact⟨_,true,s.ino,s.page,rfl,G1.out.same ((cw _ _ _ _).block m (by omega) (by omega)) ((cw _ _ _ _).block _ (by omega) (by omega)),qp Ha yp.out LZ hl (fun e=>by cases e),g2.trans ((cw _ _ _ _).below (fun b e=>by omega) (by omega)),by have:=(cw w7 (w.heap.size+1) (.int .i64 s.ino) (.int .i64 s.page)).size;omega,((cw _ _ _ _).block _ (by omega) (by omega)).trans G4.out,sg G5.out⟩
     case measure=>rw[(G1.out.same ((cw _ _ _ _).block m (by omega) (by omega)) ((cw _ _ _ _).block _ (by omega) (by omega))).leftN,EE.leftN];exact Bf
    |true=>
     rcases yp.out with⟨h9,_⟩|⟨_,b,Ge,rfl,rfl,PX,hbo⟩
     ·cases h9
     have zJ: ∀d os,(Instr.lookup 123 (.map (some m)) (.agg #[.int .i64 b.ino, .int .i64 b.page]) false).run Tryz.prog (grow (redrawn wq d) os)= .ok (.agg #[.int .i64 (b.frame:Int), .int .i64 b.asked]) (grow (redrawn wq d) os):=fun d os=>(Gu.out.same ((below_regrown wq d os).block m (by omega))).lookS Ge;have yz:=rC (.int .i64 (b.frame:Int)) (.int .i64 b.asked);by_cases GL:s.asked<b.asked
     ·have hd:decide (s.asked<b.asked)=true:=vr GL;go_upto_region 7 with(fail);refine wp_region_quiet_below (by kernel_rfl) (by kernel_rfl) ?_;(repeat(go_big_quiet_step ((fail))));refine wpQuiet_nil ?_;intro _ xI;obtain⟨⟨dq,osq⟩,hw''⟩:=xI;subst hw'';have Ek:=below_regrown (wq) dq osq;generalize grow (redrawn (wq) dq) osq=w7 at Ek⊢;clear D0 D1 D2 D3;obtain⟨g1,g2,g3,g4,g5,g6⟩:=yu.out _ Ek;have k0:w7.cell? ⟨wr.heap.size,0,none⟩=some (.int .i64 s.ino):=aa g6 0;have k1:w7.cell? ⟨wr.heap.size,1,none⟩=some (.int .i64 s.page):=aa g6 1;have b0:w7.cell? ⟨w.heap.size+1,0,none⟩=some (.int .i64 b.ino):=aa g5 0;have b1:w7.cell? ⟨w.heap.size+1,1,none⟩=some (.int .i64 b.page):=aa g5 1;have f0:=ae g5 0;have f1:=ae g5 1;have G1:=va g1;have G4:=va g4;have G5:=va g5;clear g1 g4 g5 g6;go_wp2_with fail;go_roundw
      case rel=>exact⟨_,true,s.ino,s.page,rfl,G1.out.same ((cw _ _ _ _).block m (by omega) (by omega)) ((cw _ _ _ _).block _ (by omega) (by omega)),qp Ha yp.out LZ hl (fun e=>⟨b,Ge,rfl,rfl,GL⟩),g2.trans ((cw _ _ _ _).below (fun b e=>by omega) (by omega)),by have:=(cw w7 (w.heap.size+1) (.int .i64 s.ino) (.int .i64 s.page)).size;omega,((cw _ _ _ _).block _ (by omega) (by omega)).trans G4.out,sg G5.out⟩
      case measure=>rw[(G1.out.same ((cw _ _ _ _).block m (by omega) (by omega)) ((cw _ _ _ _).block _ (by omega) (by omega))).leftN,EE.leftN];exact Bf
     ·have hd:decide (s.asked<b.asked)=false:=vq GL;go_upto_region 7 with(fail);refine wp_region_quiet_below (by kernel_rfl) (by kernel_rfl) ?_;(repeat(go_big_quiet_step ((fail))));refine wpQuiet_nil ?_;intro _ xI;obtain⟨⟨dq,osq⟩,hw''⟩:=xI;subst hw'';have Ek:=below_regrown (wq) dq osq;generalize grow (redrawn (wq) dq) osq=w7 at Ek⊢;clear D0 D1 D2 D3;obtain⟨g1,g2,g3,g4,g5,g6⟩:=yu.out _ Ek;have G1:=va g1;have G4:=va g4;have G5:=va g5;clear g1 g4 g5 g6;go_wp2_with fail;go_roundw
      case rel=>exact⟨_,true,b.ino,b.page,rfl,G1.out,uo Ha Ge yp.out LZ GL,g2,g3,G4.out,G5.out⟩
      case measure=>rw[G1.out.leftN,EE.leftN];exact Bf
   ·have GN:(((bF p (s.frame:Int):Nat):Int) != 1)=true:=(by rw[bne_iff_ne];omega);have KX:=va Hc;have LB:=va DP;have VJ:=va Jw;clear GO YX BI Hc DP Jw;go_wp2_with fail;go_roundw
    case rel=>exact⟨_,found,bi,bp,rfl,VJ.out,un Ha yp.out LZ hl,DS,YL,LB.out,KX.out⟩
    case measure=>rw[VJ.out.leftN,EE.leftN];exact Bf
end
section
open Go.RowKit Go.Maps Go.WideMaps Go.Sort
open Go.ChangeMaps (setBlock)
structure ar (w:World) (S:Nat->Prop) (c a fs m:Nat) (clock:Int) (p:Pool) (L:List Slot):Prop where
 pool:am w S a p
 self:aK w c a fs m clock
 slots:aM w m L
 noC: ¬S c
 noM: ¬S m
variable {w:World} {S:Nat->Prop} {c a fs m:Nat} {clock:Int} {p:Pool} {L:List Slot}
theorem ar.lts (h:ar w S c a fs m clock p L):c<w.heap.size/\m<w.heap.size/\c≠m/\m≠0:=by
 have h1:c<w.heap.size:=(uZ h.self).1;refine⟨h1,h.slots.lt,fun e=>?_,fun e=>?_⟩
 ·obtain⟨es,clk,h2⟩:=h.slots;have h3:=h2.block;have h4:=h.self;unfold aK at h4;rw[<-e,h4]at h3;cases h3
 ·obtain⟨es,clk,h2⟩:=h.slots;have h3:=h2.block;have h4:=h.pool.tab 0 (by decide);unfold World.cell? at h4;rw[e]at h3;simp[h3]at h4
variable {w':World}
theorem ar.mod {T:Nat->Prop} (h:ar w S c a fs m clock p L) (hm:Mod T w w') (hS: ∀b,S b-> ¬T b) (h0: ¬T 0) (hc: ¬T c) (Cx: ¬T m):ar w' S c a fs m clock p L:=
 ⟨h.pool.mod hm hS h0,(hm.block c h.lts.1 hc).trans h.self,h.slots.same (hm.block m h.lts.2.1 Cx),h.noC,h.noM⟩
theorem ar.below (h:ar w S c a fs m clock p L) (hb:Below w.heap.size w w'):ar w' S c a fs m clock p L:=
 ⟨h.pool.below hb,(hb.block c h.lts.1).trans h.self,h.slots.same (hb.block m h.lts.2.1),h.noC,h.noM⟩
theorem ar.turn {S':Nat->Prop} {p':Pool} (h:ar w S c a fs m clock p L) (hm:Mod S w w') (hp:am w' S' a p') (ho:Out S S' w):ar w' S' c a fs m clock p' L:=
 ⟨hp,(hm.block c h.lts.1 h.noC).trans h.self,h.slots.same (hm.block m h.lts.2.1 h.noM),fun e=>by
  rcases ho c e with h1|h1
  ·exact h.noC h1
  ·have:=h.lts.1;omega,fun e=>by
  rcases ho m e with h1|h1
  ·exact h.noM h1
  ·have:=h.lts.2.1;omega⟩
def Both (S:Nat->Prop) (m:Nat):Nat->Prop:=fun b=>S b\/b=m
inductive ax (p:Pool) (L:List Slot):Int->Nat->Pool->List Slot->Prop
 |free (f:Nat):p.lowest=some f->ax p L 0 f (p.takeAt f) L
 |loose (s:Slot):p.lowest=none->s∈L->s.frame<p.n->p.cnt s.frame=1->(∀t∈L,bF p t.frame=1->s.asked<=t.asked)->ax p L 0 s.frame ((p.down s.frame).takeAt s.frame) (L.filter fun x=> !Slot.at s.ino s.page x)
 |none:p.lowest=none->(∀t∈L,bF p t.frame≠1)->ax p L 4 0 p L
def uW (w:World) (S:Nat->Prop) (c a fs m:Nat) (clock:Int) (p:Pool) (L:List Slot) (e:Ending) (w':World):Prop:=
 ∃r f p' L' S',e= .returned (.tuple #[.int .i64 (f:Nat), .int .i64 r])/\ar w' S' c a fs m clock p' L'/\Mod (Both S m) w w'/\Out S S' w/\ax p L r f p' L'
variable {g:Nat}
theorem rM (h:bF p (g:Int)=1):g<p.n/\p.cnt g=1:=by
 unfold bF at h;by_cases h1:dW p (g:Int)=true
 ·rw[if_pos h1,Int.toNat_natCast]at h;rw[br]at h1;exact⟨(vs h1).1,h⟩
 ·rw[if_neg h1]at h;cases h
theorem oP (h:p.lowest=none) (hg:g<p.n) (h1:p.cnt g=1):(p.down g).lowest=some g:=by
 have hn:=cH h;refine ny hg ?_ fun x hx=>?_
 ·simp only[Pool.down,af];omega
 ·simp only[Pool.down,ag _ _ (show x≠g by omega)];exact hn x (by omega)
theorem fW {ops:Array Oper} {rest:List Oper} {o:Oper} {A:Act} {Q:Exit->Act->World->Prop} (hg:o.guard=none) (x y:Operand) (BC:o.op=Op.call { callee:=Callee.builtin Builtin.delete,args:= #[x,y],argTypes:= #[123,127]})
  (m:Nat) (L:List Slot) (s:Slot) (hx:A.eval x= .map (some m)) (hy:A.eval y= .agg #[.int .i64 s.ino, .int .i64 s.page]) (h:aM w m L) (hs:s∈L)
  (hK: ∀w',aM w' m (L.filter fun x=> !Slot.at s.ino s.page x)->Mod (fun j=>j=m) w w'->w'.heap.size=w.heap.size->wpList Tryz.prog ops Q rest (A.put o.dst (.tuple #[])) w'):
  wpList Tryz.prog ops Q (o::rest) A w:=by
 refine wpList_plain hg fun K' RL=>?_;obtain⟨es,clk,h1⟩:=h;obtain⟨es',xz,h2⟩:=h1.drop hs o.type;have SK:(Builtin.delete_ #[123,127] o.type #[.map (some m), .agg #[.int .i64 s.ino, .int .i64 s.page]]).run Tryz.prog w= .ok (.tuple #[]) (setBlock w m (.map es' clk)):=xz;unfold Oper.wp;simp[execOp,BC,resolve,invoke,builtin,hx,hy,SK,Result.andThen];exact RL _ _ (hK _ ⟨es',clk,h2⟩ eY eA)
theorem fi (c a fs m:Nat) (clock:Int) (w:World) (S:Nat->Prop) (p:Pool) (L:List Slot) (h:ar w S c a fs m clock p L):
  Calls Tryz.prog 97 #[.pointer (some ⟨c,0,none⟩)] w (uW w S c a fs m clock p L):=by
 obtain⟨Xk,Tu,PR,JO⟩:=h.lts;have c0:w.cell? ⟨c,0,none⟩=some (.pointer (some ⟨a,0,none⟩)):=aa h.self 0;have H:=va h;clear h;cases hl:p.lowest with
 |some g=>
  have HL:=va hl;clear hl;go_enter Tryz.func97,Tryz.ntmps97;go_wp2_with fail;refine(mM a g w S p H.out.pool HL.out).mono ?_;rintro e w1 ⟨rfl,S',Bm,xJ,wi⟩;go_wp2_with fail;go_ret2;exact⟨0,g,_,L,S',rfl,H.out.turn xJ Bm wi,xJ.sub fun b hb=> .inl hb,wi, .free g HL.out⟩
 |none=>
  have HL:=va hl;clear hl;go_enter Tryz.func97,Tryz.ntmps97;go_wp2_with fail;refine(sr a w S p H.out.pool HL.out).mono ?_;rintro e w1 ⟨rfl,rfl⟩;go_wp2_with fail;refine(rf c a fs m clock w S p L H.out.pool H.out.self H.out.slots).mono ?_;rintro e w2 ⟨found,bi,bp,rfl,Dk,vM⟩;cases found with
  |false=>
   have HB:=va Dk;clear Dk;go_wp2_with fail;go_ret2;rcases HB.out with⟨_,h2⟩|⟨h1,_⟩
   ·exact⟨4,0,p,L,S,rfl,H.out.below (vM.alloc vM.size _),Mod.of (vM.alloc vM.size _),Out.refl _ _, .none HL.out fun t ht=>h2 t ht (by simp)⟩
   ·cases h1
  |true=>
   rcases Dk with⟨h9,_⟩|⟨_,s,hs,rfl,rfl,xU,Ib⟩
   ·cases h9
   go_upto_region 9 with(fail);obtain⟨FK,Hr⟩:=rM xU;have Nv: ∀t∈L,bF p t.frame=1->s.asked<=t.asked:=fun t ht h2=>Ib t ht (by simp) h2;obtain⟨w3,xb⟩: ∃w3,w3=w2.alloc (.cells #[.int .i64 s.ino, .int .i64 s.page] 127):=⟨_,rfl⟩;rw[<-xb];have DS:Below w.heap.size w w3:=(by rw[xb];exact vM.alloc vM.size _);have GO:w3.heap[w2.heap.size]? =some (.cells #[.int .i64 s.ino, .int .i64 s.page] 127 (0,0)):=(by rw[xb];exact ab _ _);have Js:w2.heap.size<w3.heap.size:=(by rw[xb];simp);have wm:=vM.size;have BI:=H.out.below DS;have d0:w3.cell? ⟨c,0,none⟩=some (.pointer (some ⟨a,0,none⟩)):=aa BI.self 0;have d1:w3.cell? ⟨c,2,none⟩=some (.map (some m)):=aa BI.self 2;have d2:w3.cell? ⟨w2.heap.size,0,none⟩=some (.int .i64 s.ino):=aa GO 0;have d3:w3.cell? ⟨w2.heap.size,1,none⟩=some (.int .i64 s.page):=aa GO 1;have zJ:=(BI.slots.same (w':=w3.drew) rfl).lookS hs;have yz:=rB (.int .i64 (s.frame:Int)) (.int .i64 s.asked);have hkS: ¬S w2.heap.size:=fun e=>by have:=H.out.pool.low _ e;omega
   have GA:=va BI;have KX:=va GO;have HMIN:=va Nv;have HS:=va hs;clear xb BI GO Ib Nv c0 hs
   go_still_tail 11,(by kernel_rfl)
   go_wp2_with fail;refine(cZ a s.frame _ S p (GA.out.pool.drew) FK (by omega)).mono ?_;rintro e w4 ⟨rfl,Ms,JN⟩;have xq:=JN.undrew;have AX:=xq.size;have Dm:=GA.out.turn xq Ms (Out.refl _ _);have Bi:=(xq.block _ Js hkS).trans KX.out;clear d0 d1 d2 d3 zJ yz JN;have d1:w4.cell? ⟨c,2,none⟩=some (.map (some m)):=aa Dm.self 2;have d2:w4.cell? ⟨w2.heap.size,0,none⟩=some (.int .i64 s.ino):=aa Bi 0;have d3:w4.cell? ⟨w2.heap.size,1,none⟩=some (.int .i64 s.page):=aa Bi 1;have SA:=Dm.slots.same (w':=w4.drew) rfl;have Ct:=va Dm;clear Dm Bi;go_upto_region 10 with(fail)
   go_still_tail 5,(by kernel_rfl)
   go_upto_region 11 with((first
    |(refine fW rfl _ _ rfl m L s rfl rfl SA HS.out ?_;intro w5 Sz EP Lk;go_frame)
    |fail))
   have xf:=EP.undrew;have IN:=Ct.out.pool.mod xf (fun b hb e=>H.out.noM (e▸hb)) (fun e=>JO e.symm);have CQ:ar w5 S c a fs m clock (p.down s.frame) (L.filter fun x=> !Slot.at s.ino s.page x):=⟨IN,(xf.block c Ct.out.lts.1 PR).trans Ct.out.self,Sz,H.out.noC,H.out.noM⟩;have c0:w5.cell? ⟨c,0,none⟩=some (.pointer (some ⟨a,0,none⟩)):=aa CQ.self 0;have Hm:=va CQ;clear CQ IN Sz SA d1 d2 d3;go_wp2_with fail;refine(mM a s.frame w5 S _ Hm.out.pool (oP HL.out FK Hr)).mono ?_;rintro e w6 ⟨rfl,S',CP,yU,BU⟩;go_wp2_with fail;go_ret2;have EN:Mod (Both S m) w w5:=(Mod.of DS).trans (Out.refl _ _) ((xq.sub fun b hb=> .inl hb).trans (Out.refl _ _) (xf.sub fun b hb=> .inr hb));exact⟨0,s.frame,_,_,S',rfl,Hm.out.turn yU CP BU,EN.trans (Out.refl _ _) (yU.sub fun b hb=> .inl hb),fun b hb=>(BU b hb).imp id fun e=>vx EN.size e, .loose s HL.out HS.out FK Hr HMIN.out⟩
end
section
def ay (L:List Slot) (f:Nat):Nat:=L.countP fun s=>s.frame==f
variable {L:List Slot} {s:Slot}
theorem ip (h:Sole L) (hs:s∈L) (f:Nat):ay (L.filter fun x=> !Slot.at s.ino s.page x) f+(if s.frame=f then 1 else 0)=ay L f:=by
 unfold ay
 induction L with
 |nil=>cases hs
 |cons x l ih=>
  have hp:=List.pairwise_cons.1 h;rcases List.mem_cons.1 hs with rfl|h1
  ·rw[List.filter_cons_of_neg (by simp[Slot.at]),List.countP_cons];have e:(l.filter fun x=> !Slot.at s.ino s.page x)=l:=List.filter_eq_self.2 fun y hy=>by
    cases hc:Slot.at s.ino s.page y with
    |false=>rfl
    |true=>
     obtain⟨a1,a2⟩:=Slot.at_iff.1 hc;exact absurd ⟨a1.symm,a2.symm⟩ (hp.1 y hy)
   rw[e];simp
  ·have hx:(!Slot.at s.ino s.page x)=true:=by
    cases hc:Slot.at s.ino s.page x with
    |false=>rfl
    |true=>
     obtain⟨a1,a2⟩:=Slot.at_iff.1 hc;exact absurd ⟨a1,a2⟩ (hp.1 s h1)
   rw[List.filter_cons_of_pos (p:=fun x=> !Slot.at s.ino s.page x) hx,List.countP_cons,List.countP_cons,<-ih hp.2 h1];omega
theorem aU (hs:s∈L):0<ay L s.frame:=List.countP_pos_iff.2 ⟨s,hs,by simp⟩
theorem Sole.drop (h:Sole L) (q:Slot->Bool):Sole (L.filter q):=List.Pairwise.sublist List.filter_sublist h
def held (L:List Slot) (hold:Nat->Nat):Nat->Nat:=fun x=>ay L x+hold x
theorem Tab.Good.ctake {p p':Pool} {T:Tab} {L':List Slot} {hold:Nat->Nat} {pg lv f:Nat} (h:T.Good p (held L hold) pg lv) (hS:Sole L) (ht:ax p L 0 f p' L'):
  T.Good p' (held L' (upd hold f 1)) pg lv/\f<p.n/\p'.n=p.n/\hold f=0/\ ¬an T f/\(p'.dat f=fun _ =>0)/\(∀x,x≠f->p'.dat x=p.dat x)/\Sole L'/\p'.cnt f=1/\(∀x,x≠f->p'.cnt x=p.cnt x):=by
 cases ht with
 |free _ hl=>
  obtain⟨h1,h2,h3⟩:=cG hl;obtain⟨a1,a2,a3⟩:=h.fresh h1 h2;have a4:ay L f=0/\hold f=0:=(by unfold held at a3;omega);have hg:=h.take h1 h2;have e:upd (held L hold) f 1=held L (upd hold f 1):=by
   funext x;unfold held;by_cases e:x=f
   ·subst e;rw[af,af,a4.1]
   ·rw[ag _ _ e,ag _ _ e]
  rw[e]at hg;exact⟨hg,h1,rfl,a4.2,a1,af _ _ _,fun x hx=>ag _ _ hx,hS,af _ _ _,fun x hx=>ag _ _ hx⟩
 |loose s hl hs FK h1 Ib=>
  have hc:=h.cnt s.frame FK;have hp:=aU hs;have hd:=ip hS hs;have a1:ay L s.frame=1/\hold s.frame=0/\az T s.frame=0/\ah T s.frame=0:=(by unfold held at hc;omega);have hn: ¬an T s.frame:=fun e=>by
   have:=ao e;omega
  have hg:=(h.down (f:=s.frame) (by unfold held;omega)).take (f:=s.frame) FK (by simp only[Pool.down,af];omega);have e:upd (upd (held L hold) s.frame (held L hold s.frame-1)) s.frame 1=held (L.filter fun x=> !Slot.at s.ino s.page x) (upd hold s.frame 1):=by
   funext x;have h2:=hd x;unfold held;by_cases e:x=s.frame
   ·subst e;rw[if_pos rfl]at h2;rw[af,af];omega
   ·rw[if_neg (fun e1=>e e1.symm)]at h2;rw[ag _ _ e,ag _ _ e,ag _ _ e];omega
  rw[e]at hg;refine⟨hg,FK,rfl,a1.2.1,hn,af _ _ _,fun x hx=>ag _ _ hx,hS.drop _,af _ _ _,fun x hx=>?_⟩;show upd (upd p.cnt s.frame _) s.frame 1 x=p.cnt x;rw[ag _ _ hx,ag _ _ hx]
theorem held_upd (L:List Slot) (hold:Nat->Nat) (f d:Nat):upd (held L hold) f (held L hold f+d)=held L (upd hold f (hold f+d)):=by
 funext x;unfold held;by_cases e:x=f
 ·subst e;rw[af,af];omega
 ·rw[ag _ _ e,ag _ _ e]
theorem fe (L:List Slot) (hold:Nat->Nat) (f:Nat) (h:0<hold f):upd (held L hold) f (held L hold f-1)=held L (upd hold f (hold f-1)):=by
 funext x;unfold held;by_cases e:x=f
 ·subst e;rw[af,af];omega
 ·rw[ag _ _ e,ag _ _ e]
end
section
def plus (hold:Nat->Nat) (fs:List Nat):Nat->Nat:=fun x=>hold x+if x∈fs then 1 else 0
theorem lL (hold:Nat->Nat):plus hold []=hold:=by
 funext x;unfold plus;simp
variable {hold:Nat->Nat} {fs:List Nat} {f:Nat}
theorem sZ (h0:plus hold fs f=0):upd (plus hold fs) f 1=plus hold (fs++[f]):=by
 funext x;unfold plus at h0⊢;by_cases e:x=f
 ·subst e;rw[af];have:hold x=0:=(by omega);simp[this]
 ·rw[ag _ _ e];simp[e]
theorem nk (hn:f∉fs) (h0:hold f=0):upd (plus hold (f::fs)) f (plus hold (f::fs) f-1)=plus hold fs:=by
 funext x;unfold plus;by_cases e:x=f
 ·subst e;rw[af];simp[hn,h0]
 ·rw[ag _ _ e];simp[e]
variable {L:List Slot}
theorem Sole.nodup (h:Sole L):L.Nodup:=List.Pairwise.imp (fun h e=>h (by subst e;exact⟨rfl,rfl⟩)) h
def Loose (T:Tab) (L:List Slot) (hold:Nat->Nat) (s:Slot):Prop:=ay L s.frame=1/\ah T s.frame=0/\ ¬an T s.frame/\hold s.frame=0
theorem sy (h:Sole L) {s t:Slot} (hs:s∈L) (ht:t∈L) (vK:t≠s) (hf:t.frame=s.frame):2<=ay L s.frame:=by
 have h1:=ip h hs s.frame;rw[if_pos rfl]at h1;have h2:t∈L.filter fun x=> !Slot.at s.ino s.page x:=by
  rw[List.mem_filter];refine⟨ht,?_⟩;rw[Bool.not_eq_true',Bool.eq_false_iff];intro e;have e2:=Slot.at_iff.1 e;exact vK (h.eq ht hs e2)
 have h3:=aU h2;rw[hf]at h3;omega
variable {L1:List Slot}
theorem sz (h:L.Sublist L1) (hn:L1.Nodup) (hf: ∀t∈L1,t∉L->t.frame≠f):ay L1 f=ay L f:=by
 induction h with
 |slnil=>rfl
 |cons a h ih=>
  have Ia:=List.nodup_cons.1 hn;have ha:=hf a (vv ..) fun e=>Ia.1 (h.subset e);have:=ih Ia.2 fun t ht=>hf t (vu _ ht);rw[<-this];unfold ay;rw[List.countP_cons_of_neg (by simpa using ha)]
 |cons_cons a h ih=>
  have Ia:=List.nodup_cons.1 hn;have:=ih Ia.2 fun t ht hnt=>hf t (vu _ ht) fun e=>by
   rcases List.mem_cons.1 e with e|e
   ·exact Ia.1 (e▸ht)
   ·exact hnt e
  unfold ay at *
  rw[List.countP_cons,List.countP_cons,this]
structure Took (T:Tab) (n r0:Nat) (d0:Nat->Nat->Nat) (L1:List Slot) (hold:Nat->Nat) (pg:Nat) (fs:List Nat) (p:Pool) (L:List Slot):Prop where
 good:T.Good p (held L (plus hold fs)) pg 4
 nodup:fs.Nodup
 each: ∀f∈fs,f<p.n/\ ¬an T f/\(p.dat f=fun _ =>0)/\hold f=0/\p.cnt f=1
 n:p.n=n
 sole:Sole L
 sub:L.Sublist L1
 room:r0<=p.left+fs.length
 sole1:Sole L1
 drop: ∀s∈L1,s∉L->Loose T L1 hold s
 dat: ∀x,0<hold x+ah T x+ay L x->p.dat x=d0 x
 each2: ∀f∈fs,ah T f=0/\ay L f=0
variable {T:Tab} {p:Pool}
theorem Took.nil {pg0:Nat} (h:T.Good p (held L hold) pg0 4) (hS:Sole L) (pg:Nat):Took T p.n p.left p.dat L hold pg [] p L:=
 ⟨by rw[lL];exact h.any pg 4,List.nodup_nil,(fun f hf=>absurd hf (by simp)),rfl,hS,List.Sublist.refl _,by simp,hS,(fun s h1 h2=>absurd h1 h2),fun _ _ =>rfl,fun f hf=>absurd hf (by simp)⟩
variable {p':Pool} {L':List Slot}
theorem ax.sub {r:Int} (h:ax p L r f p' L'):L'.Sublist L:=by
 cases h
 ·exact List.Sublist.refl _
 ·exact List.filter_sublist
 ·exact List.Sublist.refl _
theorem ax.full (h:ax p L 4 f p' L'):p.left=0:=by
 cases h with
 |none h1=>exact ki.2 (cH h1)
theorem ax.left (h:ax p L 0 f p' L'):p.left<=p'.left+1:=by
 cases h with
 |free f h1=>
  obtain⟨h2,h3,_⟩:=cG h1;have:=fJ (c:=p.cnt) (n:=p.n) (f:=f) (x:=1) h2;rw[if_pos h3]at this;show bV p.cnt p.n<=bV (upd p.cnt f 1) p.n+1;omega
 |loose s h1=>
  have:p.left=0:=ki.2 (cH h1);omega
theorem tB (h:1<=p.cnt f):(p.up f).left=p.left:=by
 refine ff fun i _ =>?_;show upd p.cnt f (p.cnt f+1) i=0↔_;by_cases e:i=f
 ·subst e;rw[af];omega
 ·rw[ag _ _ e]
variable {n r0 pg:Nat} {d0:Nat->Nat->Nat}
theorem Took.step (h:Took T n r0 d0 L1 hold pg fs p L) (ht:ax p L 0 f p' L'):Took T n r0 d0 L1 hold pg (fs++[f]) p' L':=by
 have SM:r0<=p'.left+(fs++[f]).length:=(by have h1:=h.room;have h2:=ht.left;rw[vf];show r0<=p'.left+(fs.length+1);omega);obtain⟨a1,a2,a3,a4,a5,a6,a7,a8,a9,a10⟩:=h.good.ctake h.sole ht;have LS:f∉fs:=fun e=>by
  unfold plus at a4;rw[if_pos e]at a4;omega
 have h0:hold f=0:=by
  unfold plus at a4;omega
 have NL: ∀s∈L1,s∉L'->Loose T L1 hold s:=fun s Hr Ef=>by
  by_cases Js:s∈L
  ·have NB:p.cnt s.frame=1/\s.frame<p.n:=by
    cases ht with
    |free=>exact absurd Js Ef
    |loose s0 hl BB FK h1 Ib=>
     have:s=s0:=by
      apply vo;intro vK;refine Ef (List.mem_filter.2 ⟨Js,?_⟩);rw[Bool.not_eq_true',Bool.eq_false_iff];intro e;exact vK (h.sole.eq Js BB (Slot.at_iff.1 e))
     subst this;exact⟨h1,FK⟩
   have hc:=h.good.cnt s.frame NB.2;have hp:=aU Js;have b1:ay L s.frame=1/\plus hold fs s.frame=0/\az T s.frame=0/\ah T s.frame=0:=(by unfold held at hc;omega);have b2:ay L1 s.frame=ay L s.frame:=sz h.sub h.sole1.nodup fun t Ey DC e=>by
    have h5:=(h.drop t Ey DC).1;have h6:=sy h.sole1 Hr Ey (fun e2=>DC (e2▸Js)) e;rw[e]at h5;omega
   exact⟨by omega,b1.2.2.2,fun e=>by have:=ao e;omega,by have:=b1.2.1;unfold plus at this;omega⟩
  ·exact h.drop s Hr Js
 have wH:ah T f=0/\ay L' f=0:=by
  have h5:=a1.cnt f (by rw[a3];exact a2);have h6:=aE a5;unfold held at h5;rw[af]at h5;omega
 have hle: ∀x,ay L' x<=ay L x:=fun x=>List.Sublist.countP_le ht.sub;have Fc: ∀x,0<hold x+ah T x+ay L' x->p'.dat x=d0 x:=fun x hx=>by
  have vK:x≠f:=fun e=>by subst e;omega
  rw[a7 x vK];exact h.dat x (by have:=hle x;omega)
 refine⟨by rw[<-sZ a4];exact a1,?_,fun x hx=>?_,a3.trans h.n,a8,ht.sub.trans h.sub,SM,h.sole1,NL,Fc,fun x hx=>?_⟩
 rotate_right
 ·rcases List.mem_append.1 hx with h1|h1
  ·exact⟨(h.each2 x h1).1,by have h8:=(h.each2 x h1).2;have:=hle x;omega⟩
  ·simp only[List.mem_singleton]at h1;subst h1;exact wH
 ·rw[List.nodup_append];exact⟨h.nodup,by simp,fun x hx y hy=>by simp only[List.mem_singleton]at hy;subst hy;exact fun e=>LS (e▸hx)⟩
 ·rcases List.mem_append.1 hx with h1|h1
  ·obtain⟨b1,b2,b3,b4,b5⟩:=h.each x h1;have vK:x≠f:=fun e=>LS (e▸h1);exact⟨by rw[a3];exact b1,b2,by rw[a7 x vK];exact b3,b4,by rw[a10 x vK];exact b5⟩
  ·simp only[List.mem_singleton]at h1;subst h1;exact⟨by rw[a3];exact a2,a5,a6,h0,a9⟩
structure Undo (T:Tab) (n:Nat) (d0:Nat->Nat->Nat) (L:List Slot) (hold:Nat->Nat) (pg:Nat) (fs:List Nat) (p:Pool):Prop where
 good:T.Good p (held L (plus hold fs)) pg 4
 nodup:fs.Nodup
 each: ∀f∈fs,f<p.n/\hold f=0
 n:p.n=n
 dat: ∀x,0<hold x+ah T x+ay L x->p.dat x=d0 x
theorem Took.undo (h:Took T n r0 d0 L1 hold pg fs p L):Undo T n d0 L hold pg fs p:=
 ⟨h.good,h.nodup,fun f hf=>⟨(h.each f hf).1,(h.each f hf).2.2.2.1⟩,h.n,h.dat⟩
theorem Took.full {f0:Nat} (h:Took T n r0 d0 L1 hold pg fs p L) (ht:ax p L 4 f0 p' L') (hf:f<n) (hs:ay L1 f<=1):0<ah T f+az T f+hold f\/f∈fs:=by
 have hle:ay L f<=ay L1 f:=List.Sublist.countP_le h.sub;have hc:=h.good.cnt f (by rw[h.n];exact hf);have hp:plus hold fs f=hold f+(if f∈fs then 1 else 0):=rfl;cases ht with
 |none h1 h2=>
  have h3:=cH h1 f (by rw[h.n];exact hf);by_cases hm:f∈fs
  ·exact .inr hm
  ·left;rw[if_neg hm]at hp;unfold held at hc;by_cases h0:ay L f=0
   ·omega
   ·obtain⟨t,Ey,DC⟩:=List.countP_pos_iff.1 (show 0<ay L f by omega);have Yj:t.frame=f:=(by simpa using DC);have h4:=h2 t Ey;rw[Yj,aR (by rw[h.n];exact hf)]at h4;omega
theorem Undo.live (h:Undo T n d0 L hold pg (f::fs) p):f<p.n/\1<=p.cnt f:=by
 have h1:=(h.each f (vv ..)).1;have h2:=h.good.cnt f h1;unfold held plus at h2;rw[if_pos (vv ..)]at h2;exact⟨h1,by omega⟩
theorem Undo.step (h:Undo T n d0 L hold pg (f::fs) p):Undo T n d0 L hold pg fs (p.down f):=by
 have hp:=List.nodup_cons.1 h.nodup;have h0:=(h.each f (vv ..)).2;have h1:0<plus hold (f::fs) f:=(by unfold plus;rw[if_pos (vv ..)];omega);have hg:=h.good.down (f:=f) (by unfold held;omega);rw[fe _ _ _ h1,nk hp.1 h0]at hg;exact⟨hg,hp.2,fun x hx=>h.each x (vu _ hx),h.n,h.dat⟩
end
section
structure ev (T:Tab) (n r0:Nat) (d0:Nat->Nat->Nat) (L:List Slot) (hold:Nat->Nat) (pg d:Nat) (g:Nat) (fs:List Nat) (p:Pool) (T':Tab):Prop where
 good:T'.Good p (held L (plus hold fs)) pg (4-d)
 deep:d+fs.length=3
 node:T'.nd (4-d) (part pg (4-d))=some g
 below:d=3\/T'.nd (3-d) (part pg (3-d))=none
 nodup:fs.Nodup
 each: ∀f∈fs,f<p.n/\ ¬an T' f/\(p.dat f=fun _ =>0)/\hold f=0
 lf:T'.lf=T.lf
 mono: ∀lv q f,T.nd lv q=some f->T'.nd lv q=some f
 only: ∀f,an T' f->an T f\/hold f=0
 n:p.n=n
 dat: ∀x,¬an T x->0<hold x+ah T x+ay L x->p.dat x=d0 x
 each2: ∀f∈fs,ah T f=0/\ay L f=0/\p.cnt f=1
 only2: ∀f,an T' f->an T f\/(hold f=0/\ah T f=0/\ay L f=0/\p.cnt f=1)
 room:r0<=p.left+3
variable {T:Tab} {n r0 pg d g:Nat} {d0:Nat->Nat->Nat} {hold:Nat->Nat} {fs:List Nat} {p:Pool} {L:List Slot}
theorem ev.start {L1:List Slot} (h:Took T n r0 d0 L1 hold pg fs p L) (hd:d+fs.length=3) (hg:T.nd (4-d) (part pg (4-d))=some g) (hb:d=3\/T.nd (3-d) (part pg (3-d))=none):
  ev T n r0 d0 L hold pg d g fs p T:=
 ⟨h.good.any pg _,hd,hg,hb,h.nodup,fun f hf=>⟨(h.each f hf).1,(h.each f hf).2.1,(h.each f hf).2.2.1,(h.each f hf).2.2.2.1⟩,rfl,fun _ _ _ e=>e,fun _ e=> .inl e,h.n,fun x _ hx=>h.dat x hx,fun f hf=>⟨(h.each2 f hf).1,(h.each2 f hf).2,(h.each f hf).2.2.2.2⟩,fun _ e=> .inl e,by have:=h.room;omega⟩
variable {T':Tab}
theorem ev.live (h:ev T n r0 d0 L hold pg d g fs p T'):g<p.n/\1<=p.cnt g:=h.good.node h.node
theorem ev.step {f:Nat} (h:ev T n r0 d0 L hold pg d g (f::fs) p T'):
  ev T n r0 d0 L hold pg (d+1) f fs (p.store g (aF (p.dat g) (num pg (4-d)) (f*4096+1))) (T'.put (3-d) (part pg (3-d)) (some f)):=by
 have hd:=h.deep;simp only[vn]at hd;have hd3:d<3:=(by omega);have JJ:T'.nd (3-d) (part pg (3-d))=none:=h.below.resolve_left (by omega);obtain⟨f1,f2,f3,f4⟩:=h.each f (vv ..);have hp:=List.nodup_cons.1 h.nodup;have e1:4-d=(3-d)+1:=(by omega);have As:=h.node;rw[e1]at As;have hr:0<plus hold (f::fs) f:=(by unfold plus;rw[if_pos (vv ..)];omega);have hl:=h.good.link (lv:=3-d) (f:=f) (by omega) (by omega) (.inr e1) JJ As f1 f2 f3 (by unfold held;omega);rw[fe _ _ _ hr,nk hp.1 f4]at hl;have e2:4-(d+1)=3-d:=(by omega);have e3:3-(d+1)=2-d:=(by omega);have Za: ∀x,x∈fs->x≠g:=fun x hx e=>(h.each x (vu _ hx)).2.1 ⟨4-d,part pg (4-d),by rw[h.node,e]⟩;refine⟨by rw[e2,e1];exact hl,by omega,by rw[e2];exact Tab.put_at _ _ _ _,?_,hp.2,fun x hx=>?_,h.lf,fun lv q x hx=>?_,fun x hx=>?_,h.n,fun x hn hx=>?_,fun x hx=>h.each2 x (vu _ hx),fun x hx=>?_,h.room⟩
 ·rcases Nat.lt_or_ge d 2 with h2|h2
  ·right;rw[e3,Tab.put_ne _ _ _ _ (by omega)];cases hc:T'.nd (2-d) (part pg (2-d))with
   |none=>rfl
   |some y=>
    have h5:=h.good.but.above _ _ _ hc (by omega);rw[lP,show 2-d+1=3-d from by omega,JJ]at h5;cases h5
  ·left;omega
 ·obtain⟨x1,x2,x3,x4⟩:=h.each x (vu _ hx);refine⟨x1,fun e=>?_,(ag _ _ (Za x hx)).trans x3,x4⟩;rcases cK.1 e with e4|⟨l,r,_,e5⟩
  ·injection e4 with e4;exact hp.1 (e4▸hx)
  ·exact x2 ⟨l,r,e5⟩
 ·have h5:=h.mono lv q x hx;rw[Tab.put_ne]
  ·exact h5
  ·rintro⟨rfl,rfl⟩;rw[JJ]at h5;cases h5
 ·rcases cK.1 hx with e4|⟨l,r,_,e5⟩
  ·injection e4 with e4;exact .inr (e4▸f4)
  ·exact h.only x ⟨l,r,e5⟩
 ·have XT:x≠g:=fun e=>by
   subst e;rcases h.only2 x ⟨_,_,h.node⟩with h9|h9
   ·exact hn h9
   ·omega
  exact(ag _ _ XT).trans (h.dat x hn hx)
 ·rcases cK.1 hx with e4|⟨l,r,_,e5⟩
  ·injection e4 with e4;subst e4;exact .inr ⟨f4,h.each2 f (vv ..)⟩
  ·exact h.only2 x ⟨l,r,e5⟩
theorem ev.fin {l:Leaf} (h:ev T n r0 d0 L hold pg 3 g [] p T') (yt:pg<bz) (vW:T.lf pg=none) (h7:l.prot<=7) (hf:l.frame<n) (hh:0<hold l.frame):
  (T'.lay pg (some l)).Good (p.store g (aF (p.dat g) (num pg 1) l.pack)) (held L (upd hold l.frame (hold l.frame-1))) pg 4/\(T'.lay pg (some l)).lf=upd T.lf pg (some l)/\(∀lv q f,T.nd lv q=some f->(T'.lay pg (some l)).nd lv q=some f)/\(an (T'.lay pg (some l)) l.frame->an T l.frame):=by
 have hg:=h.good;rw[lL]at hg;have hl:=hg.layNew (.inr rfl) yt h.node (by rw[h.lf];exact vW) h7 (by rw[h.n];exact hf) (by unfold held;omega);rw[fe _ _ _ hh]at hl;exact⟨hl,by show upd T'.lf pg (some l)=_;rw[h.lf],h.mono,fun e=>(h.only _ e).resolve_right (by omega)⟩
theorem ev.fin2 (h:ev T n r0 d0 L hold pg 3 g [] p T') (o:Option Leaf) (d:Nat->Nat):
  (∀x,¬an T x->0<hold x+ah T x+ay L x->(p.store g d).dat x=d0 x)/\(∀x,an (T'.lay pg o) x->an T x\/(p.store g d).cnt x=1)/\r0<=(p.store g d).left+3:=
 ⟨fun x hn hx=>by
  have XT:x≠g:=fun e=>by
   subst e;rcases h.only2 x ⟨_,_,h.node⟩with h9|h9
   ·exact hn h9
   ·omega
  exact(ag _ _ XT).trans (h.dat x hn hx),fun x hx=>(h.only2 x hx).imp id (fun e=>e.2.2.2),h.room⟩
end
section
def fresh (n:Nat):Pool:=⟨n,fun _ =>0,fun _ _ =>0⟩
theorem iS {n:Nat} (h:1<=n):(fresh n).lowest=some 0:=ny (p:=fresh n) (by show 0<n;omega) rfl (fun g hg=>by omega)
def aG (r:Nat):Tab:=⟨fun lv q=>if lv=4/\q=0 then some r else none,fun _ =>none⟩
variable {r f:Nat}
theorem bS {lv q:Nat} :(aG r).nd lv q=some f↔lv=4/\q=0/\f=r:=by
 show(if lv=4/\q=0 then some r else none)=some f↔_;constructor
 ·intro h;by_cases c:lv=4/\q=0
  ·rw[if_pos c]at h;injection h with h;exact⟨c.1,c.2,h.symm⟩
  ·rw[if_neg c]at h;cases h
 ·rintro⟨h1,h2,h3⟩;rw[if_pos ⟨h1,h2⟩,h3]
theorem dK (r:Nat):(aG r).nd 4 0=some r:=bS.2 ⟨rfl,rfl,rfl⟩
theorem cv :an (aG r) f↔f=r:=by
 constructor
 ·rintro⟨lv,q,h⟩;exact(bS.1 h).2.2
 ·rintro rfl;exact⟨4,0,dK _⟩
theorem eZ (r f:Nat):ah (aG r) f=0:=eo.2 fun i _ =>rfl
end
section
inductive dC (ino page r0:Int) (k:Nat) (d:Nat->Nat) (p:Pool) (L:List Slot) (clock:Int):Int->Nat->Pool->List Slot->Int->Prop
 |bad:page<0\/16<=page->dC ino page r0 k d p L clock 1 0 p L clock
 |err:0<=page->page<16->r0≠0->dC ino page r0 k d p L clock r0 0 p L clock
 |hit (s:Slot):0<=page->page<16->r0=0->L.find? (Slot.at ino page)=some s->dC ino page r0 k d p L clock 0 s.frame p (dO L ⟨ino,page,s.frame,clock+1⟩) (clock+1)
 |full:0<=page->page<16->r0=0->L.find? (Slot.at ino page)=none->ax p L 4 0 p L->dC ino page r0 k d p L clock 4 0 p L clock
 |miss (f:Nat) (p1:Pool) (L1:List Slot):0<=page->page<16->r0=0->L.find? (Slot.at ino page)=none->ax p L 0 f p1 L1->dC ino page r0 k d p L clock 0 f (p1.store f (laid (p1.dat f) d 0 k)) (dO L1 ⟨ino,page,f,clock+1⟩) (clock+1)
variable {L:List Slot} {i g:Int}
theorem eH (h:L.find? (Slot.at i g)=none):L.any (Slot.at i g)=false:=by
 rw[List.any_eq_false];rw[List.find?_eq_none]at h;exact h
variable {s:Slot}
theorem dL (h:L.find? (Slot.at i g)=some s):s∈L/\s.ino=i/\s.page=g:=⟨List.mem_of_find?_eq_some h,Slot.at_iff.1 (List.find?_some h)⟩
theorem jF (h:L.any (Slot.at s.ino s.page)=false) (f:Nat):ay (dO L s) f=ay L f+if s.frame=f then 1 else 0:=by
 unfold dO ay;rw[if_neg (by rw[h];decide),List.countP_append];by_cases e:s.frame=f
 ·simp[e]
 ·simp[e]
theorem jE (h:Sole L) {s0:Slot} (hs:s0∈L) (hi:s0.ino=s.ino) (hp:s0.page=s.page) (hf:s0.frame=s.frame) (f:Nat):ay (dO L s) f=ay L f:=by
 unfold dO ay;have ZF:L.any (Slot.at s.ino s.page)=true:=List.any_eq_true.2 ⟨s0,hs,Slot.at_iff.2 ⟨hi,hp⟩⟩;rw[if_pos ZF,List.countP_map];refine List.countP_congr fun x hx=>?_;simp only[Function.comp_apply];by_cases c:Slot.at s.ino s.page x=true
 ·rw[if_pos c];have hk:=Slot.at_iff.1 c;have:x=s0:=h.eq hx hs ⟨hk.1.trans hi.symm,hk.2.trans hp.symm⟩;rw[this,hf]
 ·rw[if_neg c]
theorem lQ {L1:List Slot} (h:L.any (Slot.at i g)=false) (hs:L1.Sublist L):L1.any (Slot.at i g)=false:=by
 rw[List.any_eq_false]at h⊢;exact fun x hx=>h x (hs.subset hx)
theorem kQ (h:Sole L) (s:Slot):Sole (dO L s):=by
 unfold dO;by_cases c:L.any (Slot.at s.ino s.page)=true
 ·rw[if_pos c];refine List.pairwise_map.2 (h.imp ?_);intro a b RB;have hk: ∀x:Slot,(if Slot.at s.ino s.page x=true then s else x).ino=x.ino/\(if Slot.at s.ino s.page x=true then s else x).page=x.page:=by
   intro x;by_cases e:Slot.at s.ino s.page x=true
   ·rw[if_pos e];have:=Slot.at_iff.1 e;exact⟨this.1.symm,this.2.symm⟩
   ·rw[if_neg e];exact⟨rfl,rfl⟩
  rw[(hk a).1,(hk a).2,(hk b).1,(hk b).2];exact RB
 ·rw[if_neg c];refine List.pairwise_append.2 ⟨h,List.pairwise_singleton _ _,?_⟩;intro a ha b hb;rw[List.mem_singleton]at hb;subst hb;intro e;exact c (List.any_eq_true.2 ⟨a,ha,Slot.at_iff.2 e⟩)
theorem gy {x:Slot} (h:x∈dO L s):x∈L\/x=s:=by
 unfold dO at h;split at h
 ·obtain⟨y,hy,e⟩:=List.mem_map.1 h;split at e
  ·exact .inr e.symm
  ·exact .inl (e▸hy)
 ·rcases List.mem_append.1 h with h|h
  ·exact .inl h
  ·exact .inr (List.mem_singleton.1 h)
variable {p p':Pool} {L':List Slot} {r:Int} {f:Nat}
theorem ax.size (h:ax p L r f p' L'):p'.n=p.n/\(r=0->f<p.n):=by
 cases h with
 |free f h1=>exact⟨rfl,fun _ =>(cG h1).1⟩
 |loose s h1 h2 h3=>exact⟨rfl,fun _ =>h3⟩
 |none=>exact⟨rfl,fun e=>by cases e⟩
theorem dC.slow {ino page r0:Int} {k:Nat} {d:Nat->Nat} {clock vB:Int} {n:Nat} (h:dC ino page r0 k d p L clock r f p' L' vB) (hn:p.n=n) (hL: ∀s∈L,s.frame<n): ∀s∈L',s.frame<n:=by
 cases h with
 |bad=>exact hL
 |err=>exact hL
 |hit s _ _ _ hs=>
  intro x hx;rcases gy hx with hx|rfl
  ·exact hL x hx
  ·exact hL s (dL hs).1
 |full=>exact hL
 |miss f p1 L1 _ _ _ _ ht=>
  intro x hx;rcases gy hx with hx|rfl
  ·exact hL x (ht.sub.subset hx)
  ·rw[<-hn];exact ht.size.2 rfl
end
section
open Go.RowKit Go.Maps Go.WideMaps Go.Sort
open Go.ChangeMaps (setBlock)
end
