/- The cache: the loose slot that was asked for longest ago. -/
import Derived.Test.YtoochjhipmpehaaGreatDoorCaAK
import Derived.Test.YtoochjhipmpehaaGreatDoorTtZK
set_option linter.unusedVariables false
set_option linter.unusedSimpArgs false
set_option maxRecDepth 100000
set_option maxHeartbeats 4000000
namespace Go.Proofs.YtoochjhipmpehaaGreatDoor
section
open Go.RowKit Go.Maps Go.WideMaps Go.Sort
open Go.ChangeMaps (setBlock)
variable {s t:Slot}
theorem Slot.kv_inj (h:s.kv=t.kv):s=t:=by
 have h1:keyV s.ino s.page=keyV t.ino t.page:=congrArg Prod.fst h;have h2:dJ s.frame s.asked=dJ t.frame t.asked:=congrArg Prod.snd h;rw[fB]at h1;unfold dJ at h2;simp at h2;obtain⟨a,b,c,d⟩:=s;obtain⟨a',b',c',d'⟩:=t;simp only at h1 h2;obtain⟨rfl,rfl⟩:=h1;obtain⟨h3,rfl⟩:=h2;have:c=c':=(by omega);subst this;rfl
variable {w:World} {m:Nat} {L left:List Slot}
theorem aM.mem {r:Nat} (h:aM w m r L left) (hs:s∈left):s∈L:=by
 obtain⟨t,ht,e⟩:=List.mem_map.1 (h.sub s hs);rw[<-Slot.kv_inj e];exact ht
theorem aL.sole (h:aL w m L):Sole L:=by
 obtain⟨es,wb,h1⟩:=h;exact h1.sole
theorem Sole.eq (h:Sole L) (hs:s∈L) (ht:t∈L) (he:s.ino=t.ino/\s.page=t.page):s=t:=by
 have h1:=dF h hs;rw[he.1,he.2,dF h ht]at h1;injection h1 with h1;exact h1.symm
def gX (p:Pool) (L left:List Slot) (found:Bool) (bi bp:Int):Prop:=
 (found=false/\ ∀s∈L,s∉left->bC p s.frame≠1)\/
 (found=true/\ ∃b∈L,b.ino=bi/\b.page=bp/\bC p b.frame=1/\ ∀s∈L,s∉left->bC p s.frame=1->b.asked<=s.asked)
theorem come (h:Sole L) {x:Slot} (hs:s∈L) (hx:x∈L) (hn:x∉left.filter fun y=> !Slot.at s.ino s.page y):x∉left\/x=s:=by
 by_cases e:x∈left
 ·right;have:Slot.at s.ino s.page x=true:=by
   cases hc:Slot.at s.ino s.page x with
   |true=>rfl
   |false=>exact absurd (List.mem_filter.2 ⟨e,by rw[hc];rfl⟩) hn
  exact h.eq hx hs (Slot.at_iff.1 this)
 ·exact .inl e
theorem rD (p:Pool) (L:List Slot):gX p L L false 0 0:= .inl ⟨rfl,fun s h1 h2=>absurd h1 h2⟩
variable {p:Pool} {f:Bool} {bi bp:Int}
theorem tU (hL:Sole L) (h:gX p L left f bi bp) (hs:s∈L) (hl:bC p s.frame≠1):gX p L (left.filter fun y=> !Slot.at s.ino s.page y) f bi bp:=by
 rcases h with⟨h1,h2⟩|⟨h1,b,hb,h2,h3,h4,h5⟩
 ·refine .inl ⟨h1,fun x hx hn=>?_⟩;rcases come hL hs hx hn with h3|rfl
  ·exact h2 x hx h3
  ·exact hl
 ·refine .inr ⟨h1,b,hb,h2,h3,h4,fun x hx hn hc=>?_⟩;rcases come hL hs hx hn with h6|rfl
  ·exact h5 x hx h6 hc
  ·exact absurd hc hl
theorem tV (hL:Sole L) {b:Slot} (hb:b∈L) (h:gX p L left true b.ino b.page) (hs:s∈L) (hl: ¬s.asked<b.asked):gX p L (left.filter fun y=> !Slot.at s.ino s.page y) true b.ino b.page:=by
 rcases h with⟨h1,_⟩|⟨h1,b',Hf,h2,h3,h4,h5⟩
 ·cases h1
 ·obtain rfl:=hL.eq Hf hb ⟨h2,h3⟩;refine .inr ⟨rfl,b',hb,h2,h3,h4,fun x hx hn hc=>?_⟩;rcases come hL hs hx hn with h6|rfl
  ·exact h5 x hx h6 hc
  ·omega
theorem pZ (hL:Sole L) (h:gX p L left f bi bp) (hs:s∈L) (hc:bC p s.frame=1) (hl:f=true-> ∃b∈L,b.ino=bi/\b.page=bp/\s.asked<b.asked):gX p L (left.filter fun y=> !Slot.at s.ino s.page y) true s.ino s.page:=by
 refine .inr ⟨rfl,s,hs,rfl,rfl,hc,fun x hx hn hcx=>?_⟩;rcases come hL hs hx hn with h6|rfl
 ·rcases h with⟨h1,h2⟩|⟨h1,b',Hf,h2,h3,h4,h5⟩
  ·exact absurd hcx (h2 x hx h6)
  ·obtain⟨b,hb,e1,e2,e3⟩:=hl h1;obtain rfl:=hL.eq Hf hb ⟨h2.trans e1.symm,h3.trans e2.symm⟩;have:=h5 x hx h6 hcx;omega
 ·omega
section
variable {ops:Array Oper} {rest:List Oper} {o:Oper} {a:Act} {w:World} {Q:Exit->Act->World->Prop}
theorem gh (hg:o.guard=none) (x:Operand) (AY:o.op=Op.range 123 x) (m:Nat) (L:List Slot) (hx:a.eval x= .map (some m)) (h:aL w m L)
  (hK: ∀w',aM w' m w.heap.size L L->Below w.heap.size w w'->w'.heap.size=w.heap.size+1->wpList Tryz.prog ops Q rest (a.put o.dst (.pointer (some ⟨w.heap.size,0,none⟩))) w'):
  wpList Tryz.prog ops Q (o::rest) a w:=by
 refine wpList_plain hg fun K' Ri=>?_;obtain⟨w',wX,r1,r2,r3⟩:=h.range;unfold Oper.wp;simp[execOp,AY,hx,wX,Result.andThen];exact Ri _ _ (hK w' r1 r2 r3)
theorem gY (hg:o.guard=none) (it:Operand) (AY:o.op=Op.next it false) (m r:Nat) (L left:List Slot) (hit:a.eval it= .pointer (some ⟨r,0,none⟩)) (h:aM w m r L left)
  (Uk:left=[]->wpList Tryz.prog ops Q rest (a.put o.dst (.tuple #[.bool false])) w)
  (TZ: ∀(s:Slot) (w':World),s∈left->aM w' m r L (left.filter fun x=> !Slot.at s.ino s.page x)->Mod (fun j=>j=r) w w'->w'.heap.size=w.heap.size->
   (Instr.entry (.pointer (some ⟨r,0,none⟩))).run Tryz.prog w'= .ok (.tuple #[.agg #[.int .i64 s.ino, .int .i64 s.page], .agg #[.int .i64 (s.frame:Int), .int .i64 s.asked]]) w'->
   wpList Tryz.prog ops Q rest (a.put o.dst (.tuple #[.bool true, .agg #[.int .i64 s.ino, .int .i64 s.page], .agg #[.int .i64 (s.frame:Int), .int .i64 s.asked]])) w'):
  wpList Tryz.prog ops Q (o::rest) a w:=by
 refine wpList_plain hg fun K' Ri=>?_;unfold Oper.wp;rcases h.next o.type with⟨h0,wX⟩|⟨s,w',hs,wX,h1,h2,h3,h4⟩
 ·simp[execOp,AY,hit,wX,Result.andThen];exact Ri _ _ (Uk h0)
 ·simp[execOp,AY,hit,wX,Result.andThen];exact Ri _ _ (TZ s w' hs h1 h2 h3 h4)
end
variable {w:World}
theorem aL.lookS {m:Nat} {L:List Slot} (h:aL w m L) {b:Slot} (hb:b∈L):(Instr.lookup 123 (.map (some m)) (.agg #[.int .i64 b.ino, .int .i64 b.page]) false).run Tryz.prog w= .ok (.agg #[.int .i64 (b.frame:Int), .int .i64 b.asked]) w:=by
 have hs:=h.sole;obtain⟨es,wb,h1⟩:=h;have h2:=h1.look (h1.wf b hb).1 (h1.wf b hb).2 false;have h3:=dF hs hb;generalize L.find? (Slot.at b.ino b.page)=o at h2 h3;subst h3;exact h2
theorem rj (x y:Value) (W:World):(Instr.field 129 (.agg #[x,y]) 1).run Tryz.prog W= .ok y W:=by kernel_rfl
theorem ri (x y:Value) (W:World):(Instr.field 129 (.agg #[x,y]) 0).run Tryz.prog W= .ok x W:=by kernel_rfl
theorem rU {b:Nat} {x y x' y':Value} {t:TypeId} (h:w.heap[b]? =some (.cells #[x,y] t (0,0))):((w.setCell ⟨b,0,none⟩ x').setCell ⟨b,1,none⟩ y').heap[b]? =some (.cells #[x',y'] t (0,0)):=by
 have h1:=Joins.block_setCell (i:=0) h x';have h2:=Joins.block_setCell (i:=1) h1 y';simpa using h2
theorem cl (w:World) (b:Nat) (x y:Value):Mod (fun j=>j=b) w ((w.setCell ⟨b,0,none⟩ x).setCell ⟨b,1,none⟩ y):=(aj (S:=fun j=>j=b) (b:=b) rfl 0 x).trans (Out.refl _ _) (aj (S:=fun j=>j=b) (b:=b) rfl 1 y)
def aJ (w:World) (c a fs m:Nat) (clock:Int):Prop:=w.heap[c]? =some (.cells #[.pointer (some ⟨a,0,none⟩), .pointer (some ⟨fs,0,none⟩), .map (some m), .int .i64 clock] 125 (0,0))
theorem qQ (c a fs m:Nat) (clock:Int) (w:World) (S:Nat->Prop) (p:Pool) (L:List Slot) (h:al w S a p) (hc:aJ w c a fs m clock) (hL:aL w m L):
  Calls Tryz.prog 148 #[.pointer (some ⟨c,0,none⟩)] w fun e w'=> ∃found bi bp,e= .returned (.tuple #[.agg #[.int .i64 bi, .int .i64 bp], .bool found])/\gX p L [] found bi bp/\Below w.heap.size w w':=by
 have Wl:c<w.heap.size:=(uG hc).1;have SJ:=hL.lt;have Gw:=hL.sole;obtain⟨w0,vl⟩: ∃w0,w0=(w.alloc (.cells #[.int .i64 0, .int .i64 0] 127)).alloc (.cells #[.int .i64 0, .int .i64 0] 127):=⟨_,rfl⟩;have wR:Below w.heap.size w w0:=(by rw[vl];exact uJ.alloc (by simp) _);have AX:w0.heap.size=w.heap.size+1+1:=(by rw[vl];simp);have yB:w0.heap[w.heap.size]? =some (.cells #[.int .i64 0, .int .i64 0] 127 (0,0)):=(by rw[vl];exact(uL _ _ _ (by simp)).trans (ab w _));have Wt:w0.heap[w.heap.size+1]? =some (.cells #[.int .i64 0, .int .i64 0] 127 (0,0)):=by
  rw[vl];have e:(w.alloc (.cells #[.int .i64 0, .int .i64 0] 127)).heap.size=w.heap.size+1:=(by simp);rw[<-e];exact ab _ _
 have hC0:aJ w0 c a fs m clock:=(wR.block c Wl).trans hc;have zV:aL w0 m L:=hL.same (wR.block m SJ);have c2:w0.cell? ⟨c,2,none⟩=some (.map (some m)):=aa hC0 2;have HC:=uH hc;have HP:=uH h;have vF:=uH vl;have CS:=uH yB;have Rw:=uH Wt;have HS:=uH AX;have FT:=uH zV;clear vl h hc hL yB Wt hC0 zV;go_enter Tryz.func148,Tryz.ntmps148;go_upto_region 3 with(fail);rw[<-vF.out];go_wp2_with (first
  |(at_range;refine gh rfl _ rfl m L rfl FT.out ?_;intro w1 Lk vk GO;rw[HS.out]at Lk GO⊢;go_frame)
  |fail)
 go_loopw [5] (fun v wr=> ∃left found bi bp,v= .bool found/\aM wr m (w.heap.size+1+1) L left/\gX p L left found bi bp/\Below w.heap.size w wr/\(w.heap.size+1+1)<wr.heap.size/\wr.heap[w.heap.size]? =some (.cells #[.int .i64 0, .int .i64 0] 127 (0,0))/\wr.heap[w.heap.size+1]? =some (.cells #[.int .i64 bi, .int .i64 bp] 127 (0,0)))
  (fun _ wr=>leftN wr m (w.heap.size+1+1))
 case atStart=>
  have h9:=HS.out;exact⟨L,false,0,0,rfl,Lk,rD p L,wR.trans (vk.mono wR.size),by omega,(vk.block _ (by omega)).trans CS.out,(vk.block _ (by omega)).trans Rw.out⟩
 case round=>
  obtain⟨left,found,bi,bp,rfl,Ec,CK,hb,vo,hR,hK⟩:=hrel;have xP:=uH CK;have HR:=uH hR;have HK:=uH hK;clear CK hR hK;go_wp2_with (first
   |(at_next;refine gY rfl _ rfl m (w.heap.size+1+1) L left rfl Ec ?_ ?_)
   |fail)
  ·intro Cc;subst Cc;have x0:wr.cell? ⟨w.heap.size+1,0,none⟩=some (.int .i64 bi):=aa HK.out 0;have x1:wr.cell? ⟨w.heap.size+1,1,none⟩=some (.int .i64 bp):=aa HK.out 1;have y0:wr.cell? ⟨w.heap.size,0,none⟩=some (.int .i64 0):=aa HR.out 0;have y1:wr.cell? ⟨w.heap.size,1,none⟩=some (.int .i64 0):=aa HR.out 1;have z0:=ae HR.out 0;have z1:=ae HR.out 1;have Jk:w.heap.size<wr.heap.size:=(by have:=HS.out;omega);go_wp2_with fail;exact bodyPost_ret (v:= .tuple #[.agg #[.int .i64 bi, .int .i64 bp], .bool found]) (by simp[results,Tryz.results148,go_sem,Jk,y0,y1,z0,z1]) rfl ⟨found,bi,bp,rfl,xP.out,(hb.setCell (uK _) _).setCell (uK _) _⟩
  ·intro s w1 hs Lk xj GO hen;have Zr:=uH Lk;have HEN:=uH hen;have Lr:=Ec.mem hs;have BZ:=Ec.lt;go_upto_region 6 with(fail);have vk:Below w.heap.size w w1:=hb.trans (xj.below (fun b e=>by have:=HS.out;omega) hb.size);obtain⟨w2,vU⟩: ∃w2,w2=(w1.alloc (.cells #[.int .i64 s.ino, .int .i64 s.page] 127)).alloc (.cells #[.int .i64 (s.frame:Int), .int .i64 s.asked] 129):=⟨_,rfl⟩;rw[<-vU];have JP:Below w1.heap.size w1 w2:=(by rw[vU];exact uJ.alloc (by simp) _);have xe:Below w.heap.size w w2:=vk.trans (JP.mono vk.size);have DH:w2.heap.size=wr.heap.size+1+1:=(by rw[vU];simp[GO]);have Am:w2.heap[wr.heap.size]? =some (.cells #[.int .i64 s.ino, .int .i64 s.page] 127 (0,0)):=(by rw[vU,<-GO];exact(uL _ _ _ (by simp)).trans (ab w1 _));have Wh:w2.heap[wr.heap.size+1]? =some (.cells #[.int .i64 (s.frame:Int), .int .i64 s.asked] 129 (0,0)):=by
    rw[vU,<-GO];have e:(w1.alloc (.cells #[.int .i64 s.ino, .int .i64 s.page] 127)).heap.size=w1.heap.size+1:=(by simp);rw[<-e];exact ab _ _
   have CO:aJ w2 c a fs m clock:=(xe.block c Wl).trans HC.out;have xE:=(JP.block w.heap.size (by omega)).trans ((xj.block w.heap.size (by have:=HS.out;omega) (by have:=HS.out;omega)).trans HR.out);have zG:=(JP.block (w.heap.size+1) (by omega)).trans ((xj.block (w.heap.size+1) (by have:=HS.out;omega) (by have:=HS.out;omega)).trans HK.out);have Sk:aM w2 m (w.heap.size+1+1) L (left.filter fun x=> !Slot.at s.ino s.page x):=Zr.out.same (JP.block m (by omega)) (JP.block _ (by omega));have d0: ∀d os,(grow (redrawn w2 d) os).cell? ⟨c,0,none⟩=some (.pointer (some ⟨a,0,none⟩)):=fun d os=>cell_regrown (aa CO 0) d os;have d1: ∀d os,(grow (redrawn w2 d) os).cell? ⟨wr.heap.size+1,0,none⟩=some (.int .i64 (s.frame:Int)):=fun d os=>cell_regrown (aa Wh 0) d os;have Ad:=fun d os=>Calls.regrown_of ((gO a (s.frame:Int) (grow (redrawn w2 d) os) S p ((HP.out.below xe).below (below_regrown w2 d os))).mono fun _ _ ⟨h1,h2⟩=>⟨h1,h2▸vg _ _⟩);have HCt:=uH Ad;have xF:=uH CO;have Cw:=uH xE;have EZ:=uH zG;have Hk2:=uH Am;have Hh2:=uH Wh;have Zq:=uH Sk;have Hq:=uH DH;clear vU Ad CO xE zG Am Wh Sk DH;refine wp_region_quiet_below (by kernel_rfl) (by kernel_rfl) ?_;(repeat(go_big_quiet_step ((exact HCt.out _ _))));refine wpQuiet_nil ?_;intro _ xt;obtain⟨⟨dq,osq⟩,hw''⟩:=xt;subst hw'';have we:=below_regrown (w2) dq osq;generalize grow (redrawn (w2) dq) osq=wq at we⊢;clear d0 d1;have Hx:=we.size;have DH:=Hq.out;have Bf:aJ wq c a fs m clock:=(we.block c (by omega)).trans xF.out;have Dp:=(we.block w.heap.size (by omega)).trans Cw.out;have Gy:=(we.block (w.heap.size+1) (by omega)).trans EZ.out;have Gk:=(we.block wr.heap.size (by omega)).trans Hk2.out;have XS:=(we.block (wr.heap.size+1) (by omega)).trans Hh2.out;have IQ:aM wq m (w.heap.size+1+1) L (left.filter fun x=> !Slot.at s.ino s.page x):=Zq.out.same (we.block m (by omega)) (we.block _ (by omega));have Ds:=xe.trans (we.mono xe.size);have AB:(left.filter fun x=> !Slot.at s.ino s.page x).length<left.length:=by
    exact List.length_filter_lt_length_iff_exists.2 ⟨s,hs,by simp[Slot.at]⟩
   have XG:w.heap.size+1+1<wq.heap.size:=(by omega);clear DH;by_cases hl:bC p (s.frame:Int)=1
   ·have Gj:(((bC p (s.frame:Int):Nat):Int) != 1)=false:=(by rw[hl];rfl);have D0: ∀d os,(grow (redrawn wq d) os).cell? ⟨c,2,none⟩=some (.map (some m)):=fun d os=>cell_regrown (aa Bf 2) d os;have D1: ∀d os,(grow (redrawn wq d) os).cell? ⟨wr.heap.size+1,1,none⟩=some (.int .i64 s.asked):=fun d os=>cell_regrown (aa XS 1) d os;have D2: ∀d os,(grow (redrawn wq d) os).cell? ⟨w.heap.size+1,0,none⟩=some (.int .i64 bi):=fun d os=>cell_regrown (aa Gy 0) d os;have D3: ∀d os,(grow (redrawn wq d) os).cell? ⟨w.heap.size+1,1,none⟩=some (.int .i64 bp):=fun d os=>cell_regrown (aa Gy 1) d os;have hqw:wr.heap.size<wq.heap.size:=(by have:=Hq.out;omega);have hnew: ∀w',Below wq.heap.size wq w'->aM w' m (w.heap.size+1+1) L (left.filter fun x=> !Slot.at s.ino s.page x)/\Below w.heap.size w w'/\w.heap.size+1+1<w'.heap.size/\w'.heap[w.heap.size]? =some (.cells #[.int .i64 0, .int .i64 0] 127 (0,0))/\w'.heap[w.heap.size+1]? =some (.cells #[.int .i64 bi, .int .i64 bp] 127 (0,0))/\w'.heap[wr.heap.size]? =some (.cells #[.int .i64 s.ino, .int .i64 s.page] 127 (0,0)):=fun w' hm=>⟨IQ.same (hm.block m (by omega)) (hm.block _ (by omega)),Ds.trans (hm.mono (by omega)),by have:=hm.size;omega,(hm.block _ (by omega)).trans Dp,(hm.block _ (by omega)).trans Gy,(hm.block _ (by omega)).trans Gk⟩;have MP:=IQ.slots;have xS:=uH hnew;have FN:=uH MP;clear Gk XS Bf Gy Dp IQ hnew MP;cases found with
    |false=>
     go_upto_region 7 with(fail);refine wp_region_quiet_below (by kernel_rfl) (by kernel_rfl) ?_;(repeat(go_big_quiet_step ((fail))));refine wpQuiet_nil ?_;intro _ xt;obtain⟨⟨dq,osq⟩,hw''⟩:=xt;subst hw'';have AR:=below_regrown (wq) dq osq;generalize grow (redrawn (wq) dq) osq=w7 at AR⊢;clear D0 D1 D2 D3;obtain⟨g1,g2,g3,g4,g5,g6⟩:=xS.out _ AR;have k0:w7.cell? ⟨wr.heap.size,0,none⟩=some (.int .i64 s.ino):=aa g6 0;have k1:w7.cell? ⟨wr.heap.size,1,none⟩=some (.int .i64 s.page):=aa g6 1;have b0:w7.cell? ⟨w.heap.size+1,0,none⟩=some (.int .i64 bi):=aa g5 0;have b1:w7.cell? ⟨w.heap.size+1,1,none⟩=some (.int .i64 bp):=aa g5 1;have f0:=ae g5 0;have f1:=ae g5 1;have G1:=uH g1;have G4:=uH g4;have G5:=uH g5;clear g1 g4 g5 g6;go_wp2_with fail;go_roundw
     case rel=>exact⟨_,true,s.ino,s.page,rfl,G1.out.same ((cl _ _ _ _).block m (by omega) (by omega)) ((cl _ _ _ _).block _ (by omega) (by omega)),pZ Gw xP.out Lr hl (fun e=>by cases e),g2.trans ((cl _ _ _ _).below (fun b e=>by omega) (by omega)),by have:=(cl w7 (w.heap.size+1) (.int .i64 s.ino) (.int .i64 s.page)).size;omega,((cl _ _ _ _).block _ (by omega) (by omega)).trans G4.out,rU G5.out⟩
     case measure=>rw[(G1.out.same ((cl _ _ _ _).block m (by omega) (by omega)) ((cl _ _ _ _).block _ (by omega) (by omega))).leftN,Ec.leftN];exact AB
    |true=>
     rcases xP.out with⟨h9,_⟩|⟨_,b,Fy,rfl,rfl,Px,hbo⟩
     ·cases h9
     have zi: ∀d os,(Instr.lookup 123 (.map (some m)) (.agg #[.int .i64 b.ino, .int .i64 b.page]) false).run Tryz.prog (grow (redrawn wq d) os)= .ok (.agg #[.int .i64 (b.frame:Int), .int .i64 b.asked]) (grow (redrawn wq d) os):=fun d os=>(FN.out.same ((below_regrown wq d os).block m (by omega))).lookS Fy;have xY:=rj (.int .i64 (b.frame:Int)) (.int .i64 b.asked);by_cases Gh:s.asked<b.asked
     ·have hd:decide (s.asked<b.asked)=true:=uY Gh;go_upto_region 7 with(fail);refine wp_region_quiet_below (by kernel_rfl) (by kernel_rfl) ?_;(repeat(go_big_quiet_step ((fail))));refine wpQuiet_nil ?_;intro _ xt;obtain⟨⟨dq,osq⟩,hw''⟩:=xt;subst hw'';have AR:=below_regrown (wq) dq osq;generalize grow (redrawn (wq) dq) osq=w7 at AR⊢;clear D0 D1 D2 D3;obtain⟨g1,g2,g3,g4,g5,g6⟩:=xS.out _ AR;have k0:w7.cell? ⟨wr.heap.size,0,none⟩=some (.int .i64 s.ino):=aa g6 0;have k1:w7.cell? ⟨wr.heap.size,1,none⟩=some (.int .i64 s.page):=aa g6 1;have b0:w7.cell? ⟨w.heap.size+1,0,none⟩=some (.int .i64 b.ino):=aa g5 0;have b1:w7.cell? ⟨w.heap.size+1,1,none⟩=some (.int .i64 b.page):=aa g5 1;have f0:=ae g5 0;have f1:=ae g5 1;have G1:=uH g1;have G4:=uH g4;have G5:=uH g5;clear g1 g4 g5 g6;go_wp2_with fail;go_roundw
      case rel=>exact⟨_,true,s.ino,s.page,rfl,G1.out.same ((cl _ _ _ _).block m (by omega) (by omega)) ((cl _ _ _ _).block _ (by omega) (by omega)),pZ Gw xP.out Lr hl (fun e=>⟨b,Fy,rfl,rfl,Gh⟩),g2.trans ((cl _ _ _ _).below (fun b e=>by omega) (by omega)),by have:=(cl w7 (w.heap.size+1) (.int .i64 s.ino) (.int .i64 s.page)).size;omega,((cl _ _ _ _).block _ (by omega) (by omega)).trans G4.out,rU G5.out⟩
      case measure=>rw[(G1.out.same ((cl _ _ _ _).block m (by omega) (by omega)) ((cl _ _ _ _).block _ (by omega) (by omega))).leftN,Ec.leftN];exact AB
     ·have hd:decide (s.asked<b.asked)=false:=uX Gh;go_upto_region 7 with(fail);refine wp_region_quiet_below (by kernel_rfl) (by kernel_rfl) ?_;(repeat(go_big_quiet_step ((fail))));refine wpQuiet_nil ?_;intro _ xt;obtain⟨⟨dq,osq⟩,hw''⟩:=xt;subst hw'';have AR:=below_regrown (wq) dq osq;generalize grow (redrawn (wq) dq) osq=w7 at AR⊢;clear D0 D1 D2 D3;obtain⟨g1,g2,g3,g4,g5,g6⟩:=xS.out _ AR;have G1:=uH g1;have G4:=uH g4;have G5:=uH g5;clear g1 g4 g5 g6;go_wp2_with fail;go_roundw
      case rel=>exact⟨_,true,b.ino,b.page,rfl,G1.out,tV Gw Fy xP.out Lr Gh,g2,g3,G4.out,G5.out⟩
      case measure=>rw[G1.out.leftN,Ec.leftN];exact AB
   ·have Gj:(((bC p (s.frame:Int):Nat):Int) != 1)=true:=(by rw[bne_iff_ne];omega);have Ky:=uH Gy;have KV:=uH Dp;have UT:=uH IQ;clear Gk XS Bf Gy Dp IQ;go_wp2_with fail;go_roundw
    case rel=>exact⟨_,found,bi,bp,rfl,UT.out,tU Gw xP.out Lr hl,Ds,XG,KV.out,Ky.out⟩
    case measure=>rw[UT.out.leftN,Ec.leftN];exact AB
end
section
open Go.RowKit Go.Maps Go.WideMaps Go.Sort
open Go.ChangeMaps (setBlock)
structure ar (w:World) (S:Nat->Prop) (c a fs m:Nat) (clock:Int) (p:Pool) (L:List Slot):Prop where
 pool:al w S a p
 self:aJ w c a fs m clock
 slots:aL w m L
 noC: ¬S c
 noM: ¬S m
variable {w:World} {S:Nat->Prop} {c a fs m:Nat} {clock:Int} {p:Pool} {L:List Slot}
theorem ar.lts (h:ar w S c a fs m clock p L):c<w.heap.size/\m<w.heap.size/\c≠m/\m≠0:=by
 have h1:c<w.heap.size:=(uG h.self).1;refine⟨h1,h.slots.lt,fun e=>?_,fun e=>?_⟩
 ·obtain⟨es,wb,h2⟩:=h.slots;have h3:=h2.block;have h4:=h.self;unfold aJ at h4;rw[<-e,h4]at h3;cases h3
 ·obtain⟨es,wb,h2⟩:=h.slots;have h3:=h2.block;have h4:=h.pool.tab 0 (by decide);unfold World.cell? at h4;rw[e]at h3;simp[h3]at h4
variable {w':World}
theorem ar.mod {T:Nat->Prop} (h:ar w S c a fs m clock p L) (hm:Mod T w w') (hS: ∀b,S b-> ¬T b) (h0: ¬T 0) (hc: ¬T c) (Cb: ¬T m):ar w' S c a fs m clock p L:=
 ⟨h.pool.mod hm hS h0,(hm.block c h.lts.1 hc).trans h.self,h.slots.same (hm.block m h.lts.2.1 Cb),h.noC,h.noM⟩
theorem ar.below (h:ar w S c a fs m clock p L) (hb:Below w.heap.size w w'):ar w' S c a fs m clock p L:=
 ⟨h.pool.below hb,(hb.block c h.lts.1).trans h.self,h.slots.same (hb.block m h.lts.2.1),h.noC,h.noM⟩
theorem ar.turn {S':Nat->Prop} {p':Pool} (h:ar w S c a fs m clock p L) (hm:Mod S w w') (hp:al w' S' a p') (ho:Out S S' w):ar w' S' c a fs m clock p' L:=
 ⟨hp,(hm.block c h.lts.1 h.noC).trans h.self,h.slots.same (hm.block m h.lts.2.1 h.noM),fun e=>by
  rcases ho c e with h1|h1
  ·exact h.noC h1
  ·have:=h.lts.1;omega,fun e=>by
  rcases ho m e with h1|h1
  ·exact h.noM h1
  ·have:=h.lts.2.1;omega⟩
def Both (S:Nat->Prop) (m:Nat):Nat->Prop:=fun b=>S b\/b=m
inductive aw (p:Pool) (L:List Slot):Int->Nat->Pool->List Slot->Prop
 |free (f:Nat):p.lowest=some f->aw p L 0 f (p.takeAt f) L
 |loose (s:Slot):p.lowest=none->s∈L->s.frame<p.n->p.cnt s.frame=1->(∀t∈L,bC p t.frame=1->s.asked<=t.asked)->aw p L 0 s.frame ((p.down s.frame).takeAt s.frame) (L.filter fun x=> !Slot.at s.ino s.page x)
 |none:p.lowest=none->(∀t∈L,bC p t.frame≠1)->aw p L 4 0 p L
def uD (w:World) (S:Nat->Prop) (c a fs m:Nat) (clock:Int) (p:Pool) (L:List Slot) (e:Ending) (w':World):Prop:=
 ∃r f p' L' S',e= .returned (.tuple #[.int .i64 (f:Nat), .int .i64 r])/\ar w' S' c a fs m clock p' L'/\Mod (Both S m) w w'/\Out S S' w/\aw p L r f p' L'
variable {g:Nat}
theorem rz (h:bC p (g:Int)=1):g<p.n/\p.cnt g=1:=by
 unfold bC at h;by_cases h1:dO p (g:Int)=true
 ·rw[if_pos h1,Int.toNat_natCast]at h;rw[bj]at h1;exact⟨(uZ h1).1,h⟩
 ·rw[if_neg h1]at h;cases h
theorem oD (h:p.lowest=none) (hg:g<p.n) (h1:p.cnt g=1):(p.down g).lowest=some g:=by
 have hn:=cC h;refine mZ hg ?_ fun x hx=>?_
 ·simp only[Pool.down,af];omega
 ·simp only[Pool.down,ag _ _ (show x≠g by omega)];exact hn x (by omega)
theorem fS {ops:Array Oper} {rest:List Oper} {o:Oper} {A:Act} {Q:Exit->Act->World->Prop} (hg:o.guard=none) (x y:Operand) (AY:o.op=Op.call { callee:=Callee.builtin Builtin.delete,args:= #[x,y],argTypes:= #[123,127]})
  (m:Nat) (L:List Slot) (s:Slot) (hx:A.eval x= .map (some m)) (hy:A.eval y= .agg #[.int .i64 s.ino, .int .i64 s.page]) (h:aL w m L) (hs:s∈L)
  (hK: ∀w',aL w' m (L.filter fun x=> !Slot.at s.ino s.page x)->Mod (fun j=>j=m) w w'->w'.heap.size=w.heap.size->wpList Tryz.prog ops Q rest (A.put o.dst (.tuple #[])) w'):
  wpList Tryz.prog ops Q (o::rest) A w:=by
 refine wpList_plain hg fun K' Ri=>?_;obtain⟨es,wb,h1⟩:=h;obtain⟨es',wX,h2⟩:=h1.drop hs o.type;have Sd:(Builtin.delete_ #[123,127] o.type #[.map (some m), .agg #[.int .i64 s.ino, .int .i64 s.page]]).run Tryz.prog w= .ok (.tuple #[]) (setBlock w m (.map es' wb)):=wX;unfold Oper.wp;simp[execOp,AY,resolve,invoke,builtin,hx,hy,Sd,Result.andThen];exact Ri _ _ (hK _ ⟨es',wb,h2⟩ eQ et)
theorem fc (c a fs m:Nat) (clock:Int) (w:World) (S:Nat->Prop) (p:Pool) (L:List Slot) (h:ar w S c a fs m clock p L):
  Calls Tryz.prog 97 #[.pointer (some ⟨c,0,none⟩)] w (uD w S c a fs m clock p L):=by
 obtain⟨Wl,SJ,Pq,Ji⟩:=h.lts;have c0:w.cell? ⟨c,0,none⟩=some (.pointer (some ⟨a,0,none⟩)):=aa h.self 0;have H:=uH h;clear h;cases hl:p.lowest with
 |some g=>
  have HL:=uH hl;clear hl;go_enter Tryz.func97,Tryz.ntmps97;go_wp2_with fail;refine(mB a g w S p H.out.pool HL.out).mono ?_;rintro e w1 ⟨rfl,S',AL,xj,vL⟩;go_wp2_with fail;go_ret2;exact⟨0,g,_,L,S',rfl,H.out.turn xj AL vL,xj.sub fun b hb=> .inl hb,vL, .free g HL.out⟩
 |none=>
  have HL:=uH hl;clear hl;go_enter Tryz.func97,Tryz.ntmps97;go_wp2_with fail;refine(se a w S p H.out.pool HL.out).mono ?_;rintro e w1 ⟨rfl,rfl⟩;go_wp2_with fail;refine(qQ c a fs m clock w S p L H.out.pool H.out.self H.out.slots).mono ?_;rintro e w2 ⟨found,bi,bp,rfl,CK,vs⟩;cases found with
  |false=>
   have HB:=uH CK;clear CK;go_wp2_with fail;go_ret2;rcases HB.out with⟨_,h2⟩|⟨h1,_⟩
   ·exact⟨4,0,p,L,S,rfl,H.out.below (vs.alloc vs.size _),Mod.of (vs.alloc vs.size _),Out.refl _ _, .none HL.out fun t ht=>h2 t ht (by simp)⟩
   ·cases h1
  |true=>
   rcases CK with⟨h9,_⟩|⟨_,s,hs,rfl,rfl,xw,GW⟩
   ·cases h9
   go_upto_region 9 with(fail);obtain⟨Ia,GO⟩:=rz xw;have MM: ∀t∈L,bC p t.frame=1->s.asked<=t.asked:=fun t ht h2=>GW t ht (by simp) h2;obtain⟨w3,wE⟩: ∃w3,w3=w2.alloc (.cells #[.int .i64 s.ino, .int .i64 s.page] 127):=⟨_,rfl⟩;rw[<-wE];have Ds:Below w.heap.size w w3:=(by rw[wE];exact vs.alloc vs.size _);have Gk:w3.heap[w2.heap.size]? =some (.cells #[.int .i64 s.ino, .int .i64 s.page] 127 (0,0)):=(by rw[wE];exact ab _ _);have IL:w2.heap.size<w3.heap.size:=(by rw[wE];simp);have vO:=vs.size;have Bf:=H.out.below Ds;have d0:w3.cell? ⟨c,0,none⟩=some (.pointer (some ⟨a,0,none⟩)):=aa Bf.self 0;have d1:w3.cell? ⟨c,2,none⟩=some (.map (some m)):=aa Bf.self 2;have d2:w3.cell? ⟨w2.heap.size,0,none⟩=some (.int .i64 s.ino):=aa Gk 0;have d3:w3.cell? ⟨w2.heap.size,1,none⟩=some (.int .i64 s.page):=aa Gk 1;have zi:=(Bf.slots.same (w':=w3.drew) rfl).lookS hs;have xY:=ri (.int .i64 (s.frame:Int)) (.int .i64 s.asked);have hkS: ¬S w2.heap.size:=fun e=>by have:=H.out.pool.low _ e;omega
   have FW:=uH Bf;have Ky:=uH Gk;have ZG:=uH MM;have HS:=uH hs;clear wE Bf Gk GW MM c0 hs
   go_still_tail 11,(by kernel_rfl)
   go_wp2_with fail;refine(cV a s.frame _ S p (FW.out.pool.drew) Ia (by omega)).mono ?_;rintro e w4 ⟨rfl,LN,Jh⟩;have wP:=Jh.undrew;have AN:=wP.size;have CN:=FW.out.turn wP LN (Out.refl _ _);have AG:=(wP.block _ IL hkS).trans Ky.out;clear d0 d1 d2 d3 zi xY Jh;have d1:w4.cell? ⟨c,2,none⟩=some (.map (some m)):=aa CN.self 2;have d2:w4.cell? ⟨w2.heap.size,0,none⟩=some (.int .i64 s.ino):=aa AG 0;have d3:w4.cell? ⟨w2.heap.size,1,none⟩=some (.int .i64 s.page):=aa AG 1;have RT:=CN.slots.same (w':=w4.drew) rfl;have BX:=uH CN;clear CN AG;go_upto_region 10 with(fail)
   go_still_tail 5,(by kernel_rfl)
   go_upto_region 11 with((first
    |(refine fS rfl _ _ rfl m L s rfl rfl RT HS.out ?_;intro w5 RS Eo KJ;go_frame)
    |fail))
   have wH:=Eo.undrew;have Ii:=BX.out.pool.mod wH (fun b hb e=>H.out.noM (e▸hb)) (fun e=>Ji e.symm);have Cs:ar w5 S c a fs m clock (p.down s.frame) (L.filter fun x=> !Slot.at s.ino s.page x):=⟨Ii,(wH.block c BX.out.lts.1 Pq).trans BX.out.self,RS,H.out.noC,H.out.noM⟩;have c0:w5.cell? ⟨c,0,none⟩=some (.pointer (some ⟨a,0,none⟩)):=aa Cs.self 0;have GJ:=uH Cs;clear Cs Ii RS RT d1 d2 d3;go_wp2_with fail;refine(mB a s.frame w5 S _ GJ.out.pool (oD HL.out Ia GO)).mono ?_;rintro e w6 ⟨rfl,S',Cr,yX,Bs⟩;go_wp2_with fail;go_ret2;have Em:Mod (Both S m) w w5:=(Mod.of Ds).trans (Out.refl _ _) ((wP.sub fun b hb=> .inl hb).trans (Out.refl _ _) (wH.sub fun b hb=> .inr hb));exact⟨0,s.frame,_,_,S',rfl,GJ.out.turn yX Cr Bs,Em.trans (Out.refl _ _) (yX.sub fun b hb=> .inl hb),fun b hb=>(Bs b hb).imp id fun e=>ve Em.size e, .loose s HL.out HS.out Ia GO ZG.out⟩
end
section
def ax (L:List Slot) (f:Nat):Nat:=L.countP fun s=>s.frame==f
variable {L:List Slot} {s:Slot}
theorem ie (h:Sole L) (hs:s∈L) (f:Nat):ax (L.filter fun x=> !Slot.at s.ino s.page x) f+(if s.frame=f then 1 else 0)=ax L f:=by
 unfold ax
 induction L with
 |nil=>cases hs
 |cons x l ih=>
  have hp:=List.pairwise_cons.1 h;rcases List.mem_cons.1 hs with rfl|h1
  ·rw[List.filter_cons_of_neg (by simp[Slot.at]),List.countP_cons];have e:(l.filter fun x=> !Slot.at s.ino s.page x)=l:=List.filter_eq_self.2 fun y hy=>by
    cases hc:Slot.at s.ino s.page y with
    |false=>rfl
    |true=>
     obtain⟨a1,a2⟩:=Slot.at_iff.1 hc;exact absurd ⟨a1.symm,a2.symm⟩ (hp.1 y hy)
   rw[e];simp
  ·have hx:(!Slot.at s.ino s.page x)=true:=by
    cases hc:Slot.at s.ino s.page x with
    |false=>rfl
    |true=>
     obtain⟨a1,a2⟩:=Slot.at_iff.1 hc;exact absurd ⟨a1,a2⟩ (hp.1 s h1)
   rw[List.filter_cons_of_pos (p:=fun x=> !Slot.at s.ino s.page x) hx,List.countP_cons,List.countP_cons,<-ih hp.2 h1];omega
theorem aS (hs:s∈L):0<ax L s.frame:=List.countP_pos_iff.2 ⟨s,hs,by simp⟩
theorem Sole.drop (h:Sole L) (q:Slot->Bool):Sole (L.filter q):=List.Pairwise.sublist List.filter_sublist h
def held (L:List Slot) (hold:Nat->Nat):Nat->Nat:=fun x=>ax L x+hold x
theorem Tab.Good.ctake {p p':Pool} {T:Tab} {L':List Slot} {hold:Nat->Nat} {pg lv f:Nat} (h:T.Good p (held L hold) pg lv) (hS:Sole L) (ht:aw p L 0 f p' L'):
  T.Good p' (held L' (upd hold f 1)) pg lv/\f<p.n/\p'.n=p.n/\hold f=0/\ ¬an T f/\(p'.dat f=fun _ =>0)/\(∀x,x≠f->p'.dat x=p.dat x)/\Sole L'/\p'.cnt f=1/\(∀x,x≠f->p'.cnt x=p.cnt x):=by
 cases ht with
 |free _ hl=>
  obtain⟨h1,h2,h3⟩:=cB hl;obtain⟨a1,a2,a3⟩:=h.fresh h1 h2;have a4:ax L f=0/\hold f=0:=(by unfold held at a3;omega);have hg:=h.take h1 h2;have e:upd (held L hold) f 1=held L (upd hold f 1):=by
   funext x;unfold held;by_cases e:x=f
   ·subst e;rw[af,af,a4.1]
   ·rw[ag _ _ e,ag _ _ e]
  rw[e]at hg;exact⟨hg,h1,rfl,a4.2,a1,af _ _ _,fun x hx=>ag _ _ hx,hS,af _ _ _,fun x hx=>ag _ _ hx⟩
 |loose s hl hs Ia h1 GW=>
  have hc:=h.cnt s.frame Ia;have hp:=aS hs;have hd:=ie hS hs;have a1:ax L s.frame=1/\hold s.frame=0/\ay T s.frame=0/\ah T s.frame=0:=(by unfold held at hc;omega);have hn: ¬an T s.frame:=fun e=>by
   have:=ao e;omega
  have hg:=(h.down (f:=s.frame) (by unfold held;omega)).take (f:=s.frame) Ia (by simp only[Pool.down,af];omega);have e:upd (upd (held L hold) s.frame (held L hold s.frame-1)) s.frame 1=held (L.filter fun x=> !Slot.at s.ino s.page x) (upd hold s.frame 1):=by
   funext x;have h2:=hd x;unfold held;by_cases e:x=s.frame
   ·subst e;rw[if_pos rfl]at h2;rw[af,af];omega
   ·rw[if_neg (fun e1=>e e1.symm)]at h2;rw[ag _ _ e,ag _ _ e,ag _ _ e];omega
  rw[e]at hg;refine⟨hg,Ia,rfl,a1.2.1,hn,af _ _ _,fun x hx=>ag _ _ hx,hS.drop _,af _ _ _,fun x hx=>?_⟩;show upd (upd p.cnt s.frame _) s.frame 1 x=p.cnt x;rw[ag _ _ hx,ag _ _ hx]
theorem held_upd (L:List Slot) (hold:Nat->Nat) (f d:Nat):upd (held L hold) f (held L hold f+d)=held L (upd hold f (hold f+d)):=by
 funext x;unfold held;by_cases e:x=f
 ·subst e;rw[af,af];omega
 ·rw[ag _ _ e,ag _ _ e]
theorem eY (L:List Slot) (hold:Nat->Nat) (f:Nat) (h:0<hold f):upd (held L hold) f (held L hold f-1)=held L (upd hold f (hold f-1)):=by
 funext x;unfold held;by_cases e:x=f
 ·subst e;rw[af,af];omega
 ·rw[ag _ _ e,ag _ _ e]
end
section
def plus (hold:Nat->Nat) (fs:List Nat):Nat->Nat:=fun x=>hold x+if x∈fs then 1 else 0
theorem lC (hold:Nat->Nat):plus hold []=hold:=by
 funext x;unfold plus;simp
variable {hold:Nat->Nat} {fs:List Nat} {f:Nat}
theorem sM (h0:plus hold fs f=0):upd (plus hold fs) f 1=plus hold (fs++[f]):=by
 funext x;unfold plus at h0⊢;by_cases e:x=f
 ·subst e;rw[af];have:hold x=0:=(by omega);simp[this]
 ·rw[ag _ _ e];simp[e]
theorem mS (hn:f∉fs) (h0:hold f=0):upd (plus hold (f::fs)) f (plus hold (f::fs) f-1)=plus hold fs:=by
 funext x;unfold plus;by_cases e:x=f
 ·subst e;rw[af];simp[hn,h0]
 ·rw[ag _ _ e];simp[e]
variable {L:List Slot}
theorem Sole.nodup (h:Sole L):L.Nodup:=List.Pairwise.imp (fun h e=>h (by subst e;exact⟨rfl,rfl⟩)) h
def Loose (T:Tab) (L:List Slot) (hold:Nat->Nat) (s:Slot):Prop:=ax L s.frame=1/\ah T s.frame=0/\ ¬an T s.frame/\hold s.frame=0
theorem si (h:Sole L) {s t:Slot} (hs:s∈L) (ht:t∈L) (vu:t≠s) (hf:t.frame=s.frame):2<=ax L s.frame:=by
 have h1:=ie h hs s.frame;rw[if_pos rfl]at h1;have h2:t∈L.filter fun x=> !Slot.at s.ino s.page x:=by
  rw[List.mem_filter];refine⟨ht,?_⟩;rw[Bool.not_eq_true',Bool.eq_false_iff];intro e;have e2:=Slot.at_iff.1 e;exact vu (h.eq ht hs e2)
 have h3:=aS h2;rw[hf]at h3;omega
variable {L1:List Slot}
theorem sj (h:L.Sublist L1) (hn:L1.Nodup) (hf: ∀t∈L1,t∉L->t.frame≠f):ax L1 f=ax L f:=by
 induction h with
 |slnil=>rfl
 |cons a h ih=>
  have GV:=List.nodup_cons.1 hn;have ha:=hf a (vc ..) fun e=>GV.1 (h.subset e);have:=ih GV.2 fun t ht=>hf t (vb _ ht);rw[<-this];unfold ax;rw[List.countP_cons_of_neg (by simpa using ha)]
 |cons_cons a h ih=>
  have GV:=List.nodup_cons.1 hn;have:=ih GV.2 fun t ht hnt=>hf t (vb _ ht) fun e=>by
   rcases List.mem_cons.1 e with e|e
   ·exact GV.1 (e▸ht)
   ·exact hnt e
  unfold ax at *
  rw[List.countP_cons,List.countP_cons,this]
structure Took (T:Tab) (n r0:Nat) (d0:Nat->Nat->Nat) (L1:List Slot) (hold:Nat->Nat) (pg:Nat) (fs:List Nat) (p:Pool) (L:List Slot):Prop where
 good:T.Good p (held L (plus hold fs)) pg 4
 nodup:fs.Nodup
 each: ∀f∈fs,f<p.n/\ ¬an T f/\(p.dat f=fun _ =>0)/\hold f=0/\p.cnt f=1
 n:p.n=n
 sole:Sole L
 sub:L.Sublist L1
 room:r0<=p.left+fs.length
 sole1:Sole L1
 drop: ∀s∈L1,s∉L->Loose T L1 hold s
 dat: ∀x,0<hold x+ah T x+ax L x->p.dat x=d0 x
 each2: ∀f∈fs,ah T f=0/\ax L f=0
variable {T:Tab} {p:Pool}
theorem Took.nil {pg0:Nat} (h:T.Good p (held L hold) pg0 4) (hS:Sole L) (pg:Nat):Took T p.n p.left p.dat L hold pg [] p L:=
 ⟨by rw[lC];exact h.any pg 4,List.nodup_nil,(fun f hf=>absurd hf (by simp)),rfl,hS,List.Sublist.refl _,by simp,hS,(fun s h1 h2=>absurd h1 h2),fun _ _ =>rfl,fun f hf=>absurd hf (by simp)⟩
variable {p':Pool} {L':List Slot}
theorem aw.sub {r:Int} (h:aw p L r f p' L'):L'.Sublist L:=by
 cases h
 ·exact List.Sublist.refl _
 ·exact List.filter_sublist
 ·exact List.Sublist.refl _
theorem aw.full (h:aw p L 4 f p' L'):p.left=0:=by
 cases h with
 |none h1=>exact jU.2 (cC h1)
theorem aw.left (h:aw p L 0 f p' L'):p.left<=p'.left+1:=by
 cases h with
 |free f h1=>
  obtain⟨h2,h3,_⟩:=cB h1;have:=fD (c:=p.cnt) (n:=p.n) (f:=f) (x:=1) h2;rw[if_pos h3]at this;show bS p.cnt p.n<=bS (upd p.cnt f 1) p.n+1;omega
 |loose s h1=>
  have:p.left=0:=jU.2 (cC h1);omega
theorem te (h:1<=p.cnt f):(p.up f).left=p.left:=by
 refine eZ fun i _ =>?_;show upd p.cnt f (p.cnt f+1) i=0↔_;by_cases e:i=f
 ·subst e;rw[af];omega
 ·rw[ag _ _ e]
variable {n r0 pg:Nat} {d0:Nat->Nat->Nat}
theorem Took.step (h:Took T n r0 d0 L1 hold pg fs p L) (ht:aw p L 0 f p' L'):Took T n r0 d0 L1 hold pg (fs++[f]) p' L':=by
 have Sf:r0<=p'.left+(fs++[f]).length:=(by have h1:=h.room;have h2:=ht.left;rw[uM];show r0<=p'.left+(fs.length+1);omega);obtain⟨a1,a2,a3,a4,a5,a6,a7,a8,a9,a10⟩:=h.good.ctake h.sole ht;have Ln:f∉fs:=fun e=>by
  unfold plus at a4;rw[if_pos e]at a4;omega
 have h0:hold f=0:=by
  unfold plus at a4;omega
 have Na: ∀s∈L1,s∉L'->Loose T L1 hold s:=fun s GO DH=>by
  by_cases IL:s∈L
  ·have MS:p.cnt s.frame=1/\s.frame<p.n:=by
    cases ht with
    |free=>exact absurd IL DH
    |loose s0 hl AX Ia h1 GW=>
     have:s=s0:=by
      apply uV;intro vu;refine DH (List.mem_filter.2 ⟨IL,?_⟩);rw[Bool.not_eq_true',Bool.eq_false_iff];intro e;exact vu (h.sole.eq IL AX (Slot.at_iff.1 e))
     subst this;exact⟨h1,Ia⟩
   have hc:=h.good.cnt s.frame MS.2;have hp:=aS IL;have b1:ax L s.frame=1/\plus hold fs s.frame=0/\ay T s.frame=0/\ah T s.frame=0:=(by unfold held at hc;omega);have b2:ax L1 s.frame=ax L s.frame:=sj h.sub h.sole1.nodup fun t Hz DG e=>by
    have h5:=(h.drop t Hz DG).1;have h6:=si h.sole1 GO Hz (fun e2=>DG (e2▸IL)) e;rw[e]at h5;omega
   exact⟨by omega,b1.2.2.2,fun e=>by have:=ao e;omega,by have:=b1.2.1;unfold plus at this;omega⟩
  ·exact h.drop s GO IL
 have vY:ah T f=0/\ax L' f=0:=by
  have h5:=a1.cnt f (by rw[a3];exact a2);have h6:=aD a5;unfold held at h5;rw[af]at h5;omega
 have hle: ∀x,ax L' x<=ax L x:=fun x=>List.Sublist.countP_le ht.sub;have Ez: ∀x,0<hold x+ah T x+ax L' x->p'.dat x=d0 x:=fun x hx=>by
  have vu:x≠f:=fun e=>by subst e;omega
  rw[a7 x vu];exact h.dat x (by have:=hle x;omega)
 refine⟨by rw[<-sM a4];exact a1,?_,fun x hx=>?_,a3.trans h.n,a8,ht.sub.trans h.sub,Sf,h.sole1,Na,Ez,fun x hx=>?_⟩
 rotate_right
 ·rcases List.mem_append.1 hx with h1|h1
  ·exact⟨(h.each2 x h1).1,by have h8:=(h.each2 x h1).2;have:=hle x;omega⟩
  ·simp only[List.mem_singleton]at h1;subst h1;exact vY
 ·rw[List.nodup_append];exact⟨h.nodup,by simp,fun x hx y hy=>by simp only[List.mem_singleton]at hy;subst hy;exact fun e=>Ln (e▸hx)⟩
 ·rcases List.mem_append.1 hx with h1|h1
  ·obtain⟨b1,b2,b3,b4,b5⟩:=h.each x h1;have vu:x≠f:=fun e=>Ln (e▸h1);exact⟨by rw[a3];exact b1,b2,by rw[a7 x vu];exact b3,b4,by rw[a10 x vu];exact b5⟩
  ·simp only[List.mem_singleton]at h1;subst h1;exact⟨by rw[a3];exact a2,a5,a6,h0,a9⟩
structure Undo (T:Tab) (n:Nat) (d0:Nat->Nat->Nat) (L:List Slot) (hold:Nat->Nat) (pg:Nat) (fs:List Nat) (p:Pool):Prop where
 good:T.Good p (held L (plus hold fs)) pg 4
 nodup:fs.Nodup
 each: ∀f∈fs,f<p.n/\hold f=0
 n:p.n=n
 dat: ∀x,0<hold x+ah T x+ax L x->p.dat x=d0 x
theorem Took.undo (h:Took T n r0 d0 L1 hold pg fs p L):Undo T n d0 L hold pg fs p:=
 ⟨h.good,h.nodup,fun f hf=>⟨(h.each f hf).1,(h.each f hf).2.2.2.1⟩,h.n,h.dat⟩
theorem Took.full {f0:Nat} (h:Took T n r0 d0 L1 hold pg fs p L) (ht:aw p L 4 f0 p' L') (hf:f<n) (hs:ax L1 f<=1):0<ah T f+ay T f+hold f\/f∈fs:=by
 have hle:ax L f<=ax L1 f:=List.Sublist.countP_le h.sub;have hc:=h.good.cnt f (by rw[h.n];exact hf);have hp:plus hold fs f=hold f+(if f∈fs then 1 else 0):=rfl;cases ht with
 |none h1 h2=>
  have h3:=cC h1 f (by rw[h.n];exact hf);by_cases hm:f∈fs
  ·exact .inr hm
  ·left;rw[if_neg hm]at hp;unfold held at hc;by_cases h0:ax L f=0
   ·omega
   ·obtain⟨t,Hz,DG⟩:=List.countP_pos_iff.1 (show 0<ax L f by omega);have Xj:t.frame=f:=(by simpa using DG);have h4:=h2 t Hz;rw[Xj,aQ (by rw[h.n];exact hf)]at h4;omega
theorem Undo.live (h:Undo T n d0 L hold pg (f::fs) p):f<p.n/\1<=p.cnt f:=by
 have h1:=(h.each f (vc ..)).1;have h2:=h.good.cnt f h1;unfold held plus at h2;rw[if_pos (vc ..)]at h2;exact⟨h1,by omega⟩
theorem Undo.step (h:Undo T n d0 L hold pg (f::fs) p):Undo T n d0 L hold pg fs (p.down f):=by
 have hp:=List.nodup_cons.1 h.nodup;have h0:=(h.each f (vc ..)).2;have h1:0<plus hold (f::fs) f:=(by unfold plus;rw[if_pos (vc ..)];omega);have hg:=h.good.down (f:=f) (by unfold held;omega);rw[eY _ _ _ h1,mS hp.1 h0]at hg;exact⟨hg,hp.2,fun x hx=>h.each x (vb _ hx),h.n,h.dat⟩
end
section
structure el (T:Tab) (n r0:Nat) (d0:Nat->Nat->Nat) (L:List Slot) (hold:Nat->Nat) (pg d:Nat) (g:Nat) (fs:List Nat) (p:Pool) (T':Tab):Prop where
 good:T'.Good p (held L (plus hold fs)) pg (4-d)
 deep:d+fs.length=3
 node:T'.nd (4-d) (part pg (4-d))=some g
 below:d=3\/T'.nd (3-d) (part pg (3-d))=none
 nodup:fs.Nodup
 each: ∀f∈fs,f<p.n/\ ¬an T' f/\(p.dat f=fun _ =>0)/\hold f=0
 lf:T'.lf=T.lf
 mono: ∀lv q f,T.nd lv q=some f->T'.nd lv q=some f
 only: ∀f,an T' f->an T f\/hold f=0
 n:p.n=n
 dat: ∀x,¬an T x->0<hold x+ah T x+ax L x->p.dat x=d0 x
 each2: ∀f∈fs,ah T f=0/\ax L f=0/\p.cnt f=1
 only2: ∀f,an T' f->an T f\/(hold f=0/\ah T f=0/\ax L f=0/\p.cnt f=1)
 room:r0<=p.left+3
variable {T:Tab} {n r0 pg d g:Nat} {d0:Nat->Nat->Nat} {hold:Nat->Nat} {fs:List Nat} {p:Pool} {L:List Slot}
theorem el.start {L1:List Slot} (h:Took T n r0 d0 L1 hold pg fs p L) (hd:d+fs.length=3) (hg:T.nd (4-d) (part pg (4-d))=some g) (hb:d=3\/T.nd (3-d) (part pg (3-d))=none):
  el T n r0 d0 L hold pg d g fs p T:=
 ⟨h.good.any pg _,hd,hg,hb,h.nodup,fun f hf=>⟨(h.each f hf).1,(h.each f hf).2.1,(h.each f hf).2.2.1,(h.each f hf).2.2.2.1⟩,rfl,fun _ _ _ e=>e,fun _ e=> .inl e,h.n,fun x _ hx=>h.dat x hx,fun f hf=>⟨(h.each2 f hf).1,(h.each2 f hf).2,(h.each f hf).2.2.2.2⟩,fun _ e=> .inl e,by have:=h.room;omega⟩
variable {T':Tab}
theorem el.live (h:el T n r0 d0 L hold pg d g fs p T'):g<p.n/\1<=p.cnt g:=h.good.node h.node
theorem el.step {f:Nat} (h:el T n r0 d0 L hold pg d g (f::fs) p T'):
  el T n r0 d0 L hold pg (d+1) f fs (p.store g (aE (p.dat g) (num pg (4-d)) (f*4096+1))) (T'.put (3-d) (part pg (3-d)) (some f)):=by
 have hd:=h.deep;simp only[uU]at hd;have hd3:d<3:=(by omega);have Jd:T'.nd (3-d) (part pg (3-d))=none:=h.below.resolve_left (by omega);obtain⟨f1,f2,f3,f4⟩:=h.each f (vc ..);have hp:=List.nodup_cons.1 h.nodup;have e1:4-d=(3-d)+1:=(by omega);have zN:=h.node;rw[e1]at zN;have hr:0<plus hold (f::fs) f:=(by unfold plus;rw[if_pos (vc ..)];omega);have hl:=h.good.link (lv:=3-d) (f:=f) (by omega) (by omega) (.inr e1) Jd zN f1 f2 f3 (by unfold held;omega);rw[eY _ _ _ hr,mS hp.1 f4]at hl;have e2:4-(d+1)=3-d:=(by omega);have e3:3-(d+1)=2-d:=(by omega);have XV: ∀x,x∈fs->x≠g:=fun x hx e=>(h.each x (vb _ hx)).2.1 ⟨4-d,part pg (4-d),by rw[h.node,e]⟩;refine⟨by rw[e2,e1];exact hl,by omega,by rw[e2];exact Tab.put_at _ _ _ _,?_,hp.2,fun x hx=>?_,h.lf,fun lv q x hx=>?_,fun x hx=>?_,h.n,fun x hn hx=>?_,fun x hx=>h.each2 x (vb _ hx),fun x hx=>?_,h.room⟩
 ·rcases Nat.lt_or_ge d 2 with h2|h2
  ·right;rw[e3,Tab.put_ne _ _ _ _ (by omega)];cases hc:T'.nd (2-d) (part pg (2-d))with
   |none=>rfl
   |some y=>
    have h5:=h.good.but.above _ _ _ hc (by omega);rw[lG,show 2-d+1=3-d from by omega,Jd]at h5;cases h5
  ·left;omega
 ·obtain⟨x1,x2,x3,x4⟩:=h.each x (vb _ hx);refine⟨x1,fun e=>?_,(ag _ _ (XV x hx)).trans x3,x4⟩;rcases cE.1 e with e4|⟨l,r,_,e5⟩
  ·injection e4 with e4;exact hp.1 (e4▸hx)
  ·exact x2 ⟨l,r,e5⟩
 ·have h5:=h.mono lv q x hx;rw[Tab.put_ne]
  ·exact h5
  ·rintro⟨rfl,rfl⟩;rw[Jd]at h5;cases h5
 ·rcases cE.1 hx with e4|⟨l,r,_,e5⟩
  ·injection e4 with e4;exact .inr (e4▸f4)
  ·exact h.only x ⟨l,r,e5⟩
 ·have WT:x≠g:=fun e=>by
   subst e;rcases h.only2 x ⟨_,_,h.node⟩with h9|h9
   ·exact hn h9
   ·omega
  exact(ag _ _ WT).trans (h.dat x hn hx)
 ·rcases cE.1 hx with e4|⟨l,r,_,e5⟩
  ·injection e4 with e4;subst e4;exact .inr ⟨f4,h.each2 f (vc ..)⟩
  ·exact h.only2 x ⟨l,r,e5⟩
theorem el.fin {l:Leaf} (h:el T n r0 d0 L hold pg 3 g [] p T') (yg:pg<bG) (vE:T.lf pg=none) (h7:l.prot<=7) (hf:l.frame<n) (hh:0<hold l.frame):
  (T'.lay pg (some l)).Good (p.store g (aE (p.dat g) (num pg 1) l.pack)) (held L (upd hold l.frame (hold l.frame-1))) pg 4/\(T'.lay pg (some l)).lf=upd T.lf pg (some l)/\(∀lv q f,T.nd lv q=some f->(T'.lay pg (some l)).nd lv q=some f)/\(an (T'.lay pg (some l)) l.frame->an T l.frame):=by
 have hg:=h.good;rw[lC]at hg;have hl:=hg.layNew (.inr rfl) yg h.node (by rw[h.lf];exact vE) h7 (by rw[h.n];exact hf) (by unfold held;omega);rw[eY _ _ _ hh]at hl;exact⟨hl,by show upd T'.lf pg (some l)=_;rw[h.lf],h.mono,fun e=>(h.only _ e).resolve_right (by omega)⟩
theorem el.fin2 (h:el T n r0 d0 L hold pg 3 g [] p T') (o:Option Leaf) (d:Nat->Nat):
  (∀x,¬an T x->0<hold x+ah T x+ax L x->(p.store g d).dat x=d0 x)/\(∀x,an (T'.lay pg o) x->an T x\/(p.store g d).cnt x=1)/\r0<=(p.store g d).left+3:=
 ⟨fun x hn hx=>by
  have WT:x≠g:=fun e=>by
   subst e;rcases h.only2 x ⟨_,_,h.node⟩with h9|h9
   ·exact hn h9
   ·omega
  exact(ag _ _ WT).trans (h.dat x hn hx),fun x hx=>(h.only2 x hx).imp id (fun e=>e.2.2.2),h.room⟩
end
section
def fresh (n:Nat):Pool:=⟨n,fun _ =>0,fun _ _ =>0⟩
theorem iJ {n:Nat} (h:1<=n):(fresh n).lowest=some 0:=mZ (p:=fresh n) (by show 0<n;omega) rfl (fun g hg=>by omega)
def aF (r:Nat):Tab:=⟨fun lv q=>if lv=4/\q=0 then some r else none,fun _ =>none⟩
variable {r f:Nat}
theorem bP {lv q:Nat} :(aF r).nd lv q=some f↔lv=4/\q=0/\f=r:=by
 show(if lv=4/\q=0 then some r else none)=some f↔_;constructor
 ·intro h;by_cases c:lv=4/\q=0
  ·rw[if_pos c]at h;injection h with h;exact⟨c.1,c.2,h.symm⟩
  ·rw[if_neg c]at h;cases h
 ·rintro⟨h1,h2,h3⟩;rw[if_pos ⟨h1,h2⟩,h3]
theorem dD (r:Nat):(aF r).nd 4 0=some r:=bP.2 ⟨rfl,rfl,rfl⟩
theorem ck :an (aF r) f↔f=r:=by
 constructor
 ·rintro⟨lv,q,h⟩;exact(bP.1 h).2.2
 ·rintro rfl;exact⟨4,0,dD _⟩
theorem eR (r f:Nat):ah (aF r) f=0:=ed.2 fun i _ =>rfl
end
section
inductive dx (ino page r0:Int) (k:Nat) (d:Nat->Nat) (p:Pool) (L:List Slot) (clock:Int):Int->Nat->Pool->List Slot->Int->Prop
 |bad:page<0\/16<=page->dx ino page r0 k d p L clock 1 0 p L clock
 |err:0<=page->page<16->r0≠0->dx ino page r0 k d p L clock r0 0 p L clock
 |hit (s:Slot):0<=page->page<16->r0=0->L.find? (Slot.at ino page)=some s->dx ino page r0 k d p L clock 0 s.frame p (dH L ⟨ino,page,s.frame,clock+1⟩) (clock+1)
 |full:0<=page->page<16->r0=0->L.find? (Slot.at ino page)=none->aw p L 4 0 p L->dx ino page r0 k d p L clock 4 0 p L clock
 |miss (f:Nat) (p1:Pool) (L1:List Slot):0<=page->page<16->r0=0->L.find? (Slot.at ino page)=none->aw p L 0 f p1 L1->dx ino page r0 k d p L clock 0 f (p1.store f (laid (p1.dat f) d 0 k)) (dH L1 ⟨ino,page,f,clock+1⟩) (clock+1)
variable {L:List Slot} {i g:Int}
theorem eB (h:L.find? (Slot.at i g)=none):L.any (Slot.at i g)=false:=by
 rw[List.any_eq_false];rw[List.find?_eq_none]at h;exact h
variable {s:Slot}
theorem dE (h:L.find? (Slot.at i g)=some s):s∈L/\s.ino=i/\s.page=g:=⟨List.mem_of_find?_eq_some h,Slot.at_iff.1 (List.find?_some h)⟩
theorem jv (h:L.any (Slot.at s.ino s.page)=false) (f:Nat):ax (dH L s) f=ax L f+if s.frame=f then 1 else 0:=by
 unfold dH ax;rw[if_neg (by rw[h];decide),List.countP_append];by_cases e:s.frame=f
 ·simp[e]
 ·simp[e]
theorem ju (h:Sole L) {s0:Slot} (hs:s0∈L) (hi:s0.ino=s.ino) (hp:s0.page=s.page) (hf:s0.frame=s.frame) (f:Nat):ax (dH L s) f=ax L f:=by
 unfold dH ax;have Yz:L.any (Slot.at s.ino s.page)=true:=List.any_eq_true.2 ⟨s0,hs,Slot.at_iff.2 ⟨hi,hp⟩⟩;rw[if_pos Yz,List.countP_map];refine List.countP_congr fun x hx=>?_;simp only[Function.comp_apply];by_cases c:Slot.at s.ino s.page x=true
 ·rw[if_pos c];have hk:=Slot.at_iff.1 c;have:x=s0:=h.eq hx hs ⟨hk.1.trans hi.symm,hk.2.trans hp.symm⟩;rw[this,hf]
 ·rw[if_neg c]
theorem lH {L1:List Slot} (h:L.any (Slot.at i g)=false) (hs:L1.Sublist L):L1.any (Slot.at i g)=false:=by
 rw[List.any_eq_false]at h⊢;exact fun x hx=>h x (hs.subset hx)
theorem kF (h:Sole L) (s:Slot):Sole (dH L s):=by
 unfold dH;by_cases c:L.any (Slot.at s.ino s.page)=true
 ·rw[if_pos c];refine List.pairwise_map.2 (h.imp ?_);intro a b QX;have hk: ∀x:Slot,(if Slot.at s.ino s.page x=true then s else x).ino=x.ino/\(if Slot.at s.ino s.page x=true then s else x).page=x.page:=by
   intro x;by_cases e:Slot.at s.ino s.page x=true
   ·rw[if_pos e];have:=Slot.at_iff.1 e;exact⟨this.1.symm,this.2.symm⟩
   ·rw[if_neg e];exact⟨rfl,rfl⟩
  rw[(hk a).1,(hk a).2,(hk b).1,(hk b).2];exact QX
 ·rw[if_neg c];refine List.pairwise_append.2 ⟨h,List.pairwise_singleton _ _,?_⟩;intro a ha b hb;rw[List.mem_singleton]at hb;subst hb;intro e;exact c (List.any_eq_true.2 ⟨a,ha,Slot.at_iff.2 e⟩)
theorem gu {x:Slot} (h:x∈dH L s):x∈L\/x=s:=by
 unfold dH at h;split at h
 ·obtain⟨y,hy,e⟩:=List.mem_map.1 h;split at e
  ·exact .inr e.symm
  ·exact .inl (e▸hy)
 ·rcases List.mem_append.1 h with h|h
  ·exact .inl h
  ·exact .inr (List.mem_singleton.1 h)
variable {p p':Pool} {L':List Slot} {r:Int} {f:Nat}
theorem aw.size (h:aw p L r f p' L'):p'.n=p.n/\(r=0->f<p.n):=by
 cases h with
 |free f h1=>exact⟨rfl,fun _ =>(cB h1).1⟩
 |loose s h1 h2 h3=>exact⟨rfl,fun _ =>h3⟩
 |none=>exact⟨rfl,fun e=>by cases e⟩
theorem dx.slow {ino page r0:Int} {k:Nat} {d:Nat->Nat} {clock vi:Int} {n:Nat} (h:dx ino page r0 k d p L clock r f p' L' vi) (hn:p.n=n) (hL: ∀s∈L,s.frame<n): ∀s∈L',s.frame<n:=by
 cases h with
 |bad=>exact hL
 |err=>exact hL
 |hit s _ _ _ hs=>
  intro x hx;rcases gu hx with hx|rfl
  ·exact hL x hx
  ·exact hL s (dE hs).1
 |full=>exact hL
 |miss f p1 L1 _ _ _ _ ht=>
  intro x hx;rcases gu hx with hx|rfl
  ·exact hL x (ht.sub.subset hx)
  ·rw[<-hn];exact ht.size.2 rfl
end
section
open Go.RowKit Go.Maps Go.WideMaps Go.Sort
open Go.ChangeMaps (setBlock)
end
