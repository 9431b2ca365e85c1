/- The cache: the loose slot that was asked for longest ago. -/
import Derived.Test.YtoochjhipmpehaaGreatDoorCaAK
import Derived.Test.YtoochjhipmpehaaGreatDoorTtZK
set_option linter.unusedVariables false
set_option linter.unusedSimpArgs false
set_option maxRecDepth 100000
set_option maxHeartbeats 4000000
namespace Go.Proofs.YtoochjhipmpehaaGreatDoor
section
open Go.RowKit Go.Maps Go.WideMaps Go.Sort
open Go.ChangeMaps (setBlock)
variable {s t:Slot}
theorem Slot.kv_inj (h:s.kv=t.kv):s=t:=by
 have h1:keyV s.ino s.page=keyV t.ino t.page:=congrArg Prod.fst h;have h2:dM s.frame s.asked=dM t.frame t.asked:=congrArg Prod.snd h;rw[fI]at h1;unfold dM at h2;simp at h2;obtain⟨a,b,c,d⟩:=s;obtain⟨a',b',c',d'⟩:=t;simp only at h1 h2;obtain⟨rfl,rfl⟩:=h1;obtain⟨h3,rfl⟩:=h2;have:c=c':=(by omega);subst this;rfl
variable {w:World} {m:Nat} {L left:List Slot}
theorem aJ.mem {r:Nat} (h:aJ w m r L left) (hs:s∈left):s∈L:=by
 obtain⟨t,ht,e⟩:=List.mem_map.1 (h.sub s hs);rw[<-Slot.kv_inj e];exact ht
theorem aN.sole (h:aN w m L):Sole L:=by
 obtain⟨es,wW,h1⟩:=h;exact h1.sole
theorem Sole.eq (h:Sole L) (hs:s∈L) (ht:t∈L) (he:s.ino=t.ino/\s.page=t.page):s=t:=by
 have h1:=dI h hs;rw[he.1,he.2,dI h ht]at h1;injection h1 with h1;exact h1.symm
def ia (p:Pool) (L left:List Slot) (found:Bool) (bi bp:Int):Prop:=
 (found=false/\ ∀s∈L,s∉left->bD p s.frame≠1)\/
 (found=true/\ ∃b∈L,b.ino=bi/\b.page=bp/\bD p b.frame=1/\ ∀s∈L,s∉left->bD p s.frame=1->b.asked<=s.asked)
theorem come (h:Sole L) {x:Slot} (hs:s∈L) (hx:x∈L) (hn:x∉left.filter fun y=> !Slot.at s.ino s.page y):x∉left\/x=s:=by
 by_cases e:x∈left
 ·right;have:Slot.at s.ino s.page x=true:=by
   cases hc:Slot.at s.ino s.page x with
   |true=>rfl
   |false=>exact absurd (List.mem_filter.2 ⟨e,by rw[hc];rfl⟩) hn
  exact h.eq hx hs (Slot.at_iff.1 this)
 ·exact .inl e
theorem rW (p:Pool) (L:List Slot):ia p L L false 0 0:= .inl ⟨rfl,fun s h1 h2=>absurd h1 h2⟩
variable {p:Pool} {f:Bool} {bi bp:Int}
theorem uD (hL:Sole L) (h:ia p L left f bi bp) (hs:s∈L) (hl:bD p s.frame≠1):ia p L (left.filter fun y=> !Slot.at s.ino s.page y) f bi bp:=by
 rcases h with⟨h1,h2⟩|⟨h1,b,hb,h2,h3,h4,h5⟩
 ·refine .inl ⟨h1,fun x hx hn=>?_⟩;rcases come hL hs hx hn with h3|rfl
  ·exact h2 x hx h3
  ·exact hl
 ·refine .inr ⟨h1,b,hb,h2,h3,h4,fun x hx hn hc=>?_⟩;rcases come hL hs hx hn with h6|rfl
  ·exact h5 x hx h6 hc
  ·exact absurd hc hl
theorem uE (hL:Sole L) {b:Slot} (hb:b∈L) (h:ia p L left true b.ino b.page) (hs:s∈L) (hl: ¬s.asked<b.asked):ia p L (left.filter fun y=> !Slot.at s.ino s.page y) true b.ino b.page:=by
 rcases h with⟨h1,_⟩|⟨h1,b',FT,h2,h3,h4,h5⟩
 ·cases h1
 ·obtain rfl:=hL.eq FT hb ⟨h2,h3⟩;refine .inr ⟨rfl,b',hb,h2,h3,h4,fun x hx hn hc=>?_⟩;rcases come hL hs hx hn with h6|rfl
  ·exact h5 x hx h6 hc
  ·omega
theorem qk (hL:Sole L) (h:ia p L left f bi bp) (hs:s∈L) (hc:bD p s.frame=1) (hl:f=true-> ∃b∈L,b.ino=bi/\b.page=bp/\s.asked<b.asked):ia p L (left.filter fun y=> !Slot.at s.ino s.page y) true s.ino s.page:=by
 refine .inr ⟨rfl,s,hs,rfl,rfl,hc,fun x hx hn hcx=>?_⟩;rcases come hL hs hx hn with h6|rfl
 ·rcases h with⟨h1,h2⟩|⟨h1,b',FT,h2,h3,h4,h5⟩
  ·exact absurd hcx (h2 x hx h6)
  ·obtain⟨b,hb,e1,e2,e3⟩:=hl h1;obtain rfl:=hL.eq FT hb ⟨h2.trans e1.symm,h3.trans e2.symm⟩;have:=h5 x hx h6 hcx;omega
 ·omega
section
variable {ops:Array Oper} {rest:List Oper} {o:Oper} {a:Act} {w:World} {Q:Exit->Act->World->Prop}
theorem dC (hg:o.guard=none) (x:Operand) (BQ:o.op=Op.range 123 x) (m:Nat) (L:List Slot) (hx:a.eval x= .map (some m)) (h:aN w m L)
  (hK: ∀w',aJ w' m w.heap.size L L->Below w.heap.size w w'->w'.heap.size=w.heap.size+1->wpList Tryz.prog ops Q rest (a.put o.dst (.pointer (some ⟨w.heap.size,0,none⟩))) w'):
  wpList Tryz.prog ops Q (o::rest) a w:=by
 refine wpList_plain hg fun K' Sb=>?_;obtain⟨w',xP,r1,r2,r3⟩:=h.range;unfold Oper.wp;simp[execOp,BQ,hx,xP,Result.andThen];exact Sb _ _ (hK w' r1 r2 r3)
theorem dP (hg:o.guard=none) (it:Operand) (BQ:o.op=Op.next it false) (m r:Nat) (L left:List Slot) (hit:a.eval it= .pointer (some ⟨r,0,none⟩)) (h:aJ w m r L left)
  (Vk:left=[]->wpList Tryz.prog ops Q rest (a.put o.dst (.tuple #[.bool false])) w)
  (UZ: ∀(s:Slot) (w':World),s∈left->aJ w' m r L (left.filter fun x=> !Slot.at s.ino s.page x)->Mod (fun j=>j=r) w w'->w'.heap.size=w.heap.size->
   (Instr.entry (.pointer (some ⟨r,0,none⟩))).run Tryz.prog w'= .ok (.tuple #[.agg #[.int .i64 s.ino, .int .i64 s.page], .agg #[.int .i64 (s.frame:Int), .int .i64 s.asked]]) w'->
   wpList Tryz.prog ops Q rest (a.put o.dst (.tuple #[.bool true, .agg #[.int .i64 s.ino, .int .i64 s.page], .agg #[.int .i64 (s.frame:Int), .int .i64 s.asked]])) w'):
  wpList Tryz.prog ops Q (o::rest) a w:=by
 refine wpList_plain hg fun K' Sb=>?_;unfold Oper.wp;rcases h.next o.type with⟨h0,xP⟩|⟨s,w',hs,xP,h1,h2,h3,h4⟩
 ·simp[execOp,BQ,hit,xP,Result.andThen];exact Sb _ _ (Vk h0)
 ·simp[execOp,BQ,hit,xP,Result.andThen];exact Sb _ _ (UZ s w' hs h1 h2 h3 h4)
end
variable {w:World}
theorem aN.lookS {m:Nat} {L:List Slot} (h:aN w m L) {b:Slot} (hb:b∈L):(Instr.lookup 123 (.map (some m)) (.agg #[.int .i64 b.ino, .int .i64 b.page]) false).run Tryz.prog w= .ok (.agg #[.int .i64 (b.frame:Int), .int .i64 b.asked]) w:=by
 have hs:=h.sole;obtain⟨es,wW,h1⟩:=h;have h2:=h1.look (h1.wf b hb).1 (h1.wf b hb).2 false;have h3:=dI hs hb;generalize L.find? (Slot.at b.ino b.page)=o at h2 h3;subst h3;exact h2
theorem rI (x y:Value) (W:World):(Instr.field 129 (.agg #[x,y]) 1).run Tryz.prog W= .ok y W:=by kernel_rfl
theorem rH (x y:Value) (W:World):(Instr.field 129 (.agg #[x,y]) 0).run Tryz.prog W= .ok x W:=by kernel_rfl
theorem sr {b:Nat} {x y x' y':Value} {t:TypeId} (h:w.heap[b]? =some (.cells #[x,y] t (0,0))):((w.setCell ⟨b,0,none⟩ x').setCell ⟨b,1,none⟩ y').heap[b]? =some (.cells #[x',y'] t (0,0)):=by
 have h1:=Joins.block_setCell (i:=0) h x';have h2:=Joins.block_setCell (i:=1) h1 y';simpa using h2
theorem cm (w:World) (b:Nat) (x y:Value):Mod (fun j=>j=b) w ((w.setCell ⟨b,0,none⟩ x).setCell ⟨b,1,none⟩ y):=(aj (S:=fun j=>j=b) (b:=b) rfl 0 x).trans (Out.refl _ _) (aj (S:=fun j=>j=b) (b:=b) rfl 1 y)
def aH (w:World) (c a fs m:Nat) (clock:Int):Prop:=w.heap[c]? =some (.cells #[.pointer (some ⟨a,0,none⟩), .pointer (some ⟨fs,0,none⟩), .map (some m), .int .i64 clock] 125 (0,0))
theorem rh (c a fs m:Nat) (clock:Int) (w:World) (S:Nat->Prop) (p:Pool) (L:List Slot) (h:am w S a p) (hc:aH w c a fs m clock) (hL:aN w m L):
  Calls Tryz.prog 148 #[.pointer (some ⟨c,0,none⟩)] w fun e w'=> ∃found bi bp,e= .returned (.tuple #[.agg #[.int .i64 bi, .int .i64 bp], .bool found])/\ia p L [] found bi bp/\Below w.heap.size w w':=by
 have UA:c<w.heap.size:=(vo hc).1;have RI:=hL.lt;have CB:=hL.sole;obtain⟨w0,vT⟩: ∃w0,w0=(w.alloc (.cells #[.int .i64 0, .int .i64 0] 127)).alloc (.cells #[.int .i64 0, .int .i64 0] 127):=⟨_,rfl⟩;have xC:Below w.heap.size w w0:=(by rw[vT];exact vr.alloc (by simp) _);have BP:w0.heap.size=w.heap.size+1+1:=(by rw[vT];simp);have zp:w0.heap[w.heap.size]? =some (.cells #[.int .i64 0, .int .i64 0] 127 (0,0)):=(by rw[vT];exact(vt _ _ _ (by simp)).trans (ab w _));have XA:w0.heap[w.heap.size+1]? =some (.cells #[.int .i64 0, .int .i64 0] 127 (0,0)):=by
  rw[vT];have e:(w.alloc (.cells #[.int .i64 0, .int .i64 0] 127)).heap.size=w.heap.size+1:=(by simp);rw[<-e];exact ab _ _
 have hC0:aH w0 c a fs m clock:=(xC.block c UA).trans hc;have AQ:aN w0 m L:=hL.same (xC.block m RI);have c2:w0.cell? ⟨c,2,none⟩=some (.map (some m)):=aa hC0 2;have HC:=vp hc;have HP:=vp h;have wD:=vp vT;have DS:=vp zp;have Sm:=vp XA;have HS:=vp BP;have GO:=vp AQ;clear vT h hc hL zp XA hC0 AQ;go_enter Tryz.func148,Tryz.ntmps148;go_upto_region 3 with(fail);rw[<-wD.out];go_wp2_with (first
  |(at_range;refine dC rfl _ rfl m L rfl GO.out ?_;intro w1 Da vS DD;rw[HS.out]at Da DD⊢;go_frame)
  |fail)
 go_loopw [5] (fun v wr=> ∃left found bi bp,v= .bool found/\aJ wr m (w.heap.size+1+1) L left/\ia p L left found bi bp/\Below w.heap.size w wr/\(w.heap.size+1+1)<wr.heap.size/\wr.heap[w.heap.size]? =some (.cells #[.int .i64 0, .int .i64 0] 127 (0,0))/\wr.heap[w.heap.size+1]? =some (.cells #[.int .i64 bi, .int .i64 bp] 127 (0,0)))
  (fun _ wr=>leftN wr m (w.heap.size+1+1))
 case atStart=>
  have h9:=HS.out;exact⟨L,false,0,0,rfl,Da,rW p L,xC.trans (vS.mono xC.size),by omega,(vS.block _ (by omega)).trans DS.out,(vS.block _ (by omega)).trans Sm.out⟩
 case round=>
  obtain⟨left,found,bi,bp,rfl,CR,DL,hb,vW,hR,hK⟩:=hrel;have yD:=vp DL;have HR:=vp hR;have HK:=vp hK;clear DL hR hK;go_wp2_with (first
   |(at_next;refine dP rfl _ rfl m (w.heap.size+1+1) L left rfl CR ?_ ?_)
   |fail)
  ·intro Dc;subst Dc;have x0:wr.cell? ⟨w.heap.size+1,0,none⟩=some (.int .i64 bi):=aa HK.out 0;have x1:wr.cell? ⟨w.heap.size+1,1,none⟩=some (.int .i64 bp):=aa HK.out 1;have y0:wr.cell? ⟨w.heap.size,0,none⟩=some (.int .i64 0):=aa HR.out 0;have y1:wr.cell? ⟨w.heap.size,1,none⟩=some (.int .i64 0):=aa HR.out 1;have z0:=ae HR.out 0;have z1:=ae HR.out 1;have Ka:w.heap.size<wr.heap.size:=(by have:=HS.out;omega);go_wp2_with fail;exact bodyPost_ret (v:= .tuple #[.agg #[.int .i64 bi, .int .i64 bp], .bool found]) (by simp[results,Tryz.results148,go_sem,Ka,y0,y1,z0,z1]) rfl ⟨found,bi,bp,rfl,yD.out,(hb.setCell (vs _) _).setCell (vs _) _⟩
  ·intro s w1 hs Da xE DD Zq;have QS:=vp Da;have HEN:=vp Zq;have Mf:=CR.mem hs;have DF:=CR.lt;go_upto_region 6 with(fail);have vS:Below w.heap.size w w1:=hb.trans (xE.below (fun b e=>by have:=HS.out;omega) hb.size);obtain⟨w2,wO⟩: ∃w2,w2=(w1.alloc (.cells #[.int .i64 s.ino, .int .i64 s.page] 127)).alloc (.cells #[.int .i64 (s.frame:Int), .int .i64 s.asked] 129):=⟨_,rfl⟩;rw[<-wO];have Di:Below w1.heap.size w1 w2:=(by rw[wO];exact vr.alloc (by simp) _);have xD:Below w.heap.size w w2:=vS.trans (Di.mono vS.size);have Ch:w2.heap.size=wr.heap.size+1+1:=(by rw[wO];simp[DD]);have Dd:w2.heap[wr.heap.size]? =some (.cells #[.int .i64 s.ino, .int .i64 s.page] 127 (0,0)):=(by rw[wO,<-DD];exact(vt _ _ _ (by simp)).trans (ab w1 _));have PM:w2.heap[wr.heap.size+1]? =some (.cells #[.int .i64 (s.frame:Int), .int .i64 s.asked] 129 (0,0)):=by
    rw[wO,<-DD];have e:(w1.alloc (.cells #[.int .i64 s.ino, .int .i64 s.page] 127)).heap.size=w1.heap.size+1:=(by simp);rw[<-e];exact ab _ _
   have DO:aH w2 c a fs m clock:=(xD.block c UA).trans HC.out;have yt:=(Di.block w.heap.size (by omega)).trans ((xE.block w.heap.size (by have:=HS.out;omega) (by have:=HS.out;omega)).trans HR.out);have AB:=(Di.block (w.heap.size+1) (by omega)).trans ((xE.block (w.heap.size+1) (by have:=HS.out;omega) (by have:=HS.out;omega)).trans HK.out);have JI:aJ w2 m (w.heap.size+1+1) L (left.filter fun x=> !Slot.at s.ino s.page x):=QS.out.same (Di.block m (by omega)) (Di.block _ (by omega));have d0: ∀d os,(grow (redrawn w2 d) os).cell? ⟨c,0,none⟩=some (.pointer (some ⟨a,0,none⟩)):=fun d os=>cell_regrown (aa DO 0) d os;have d1: ∀d os,(grow (redrawn w2 d) os).cell? ⟨wr.heap.size+1,0,none⟩=some (.int .i64 (s.frame:Int)):=fun d os=>cell_regrown (aa PM 0) d os;have AX:=fun d os=>Calls.regrown_of ((fm a (s.frame:Int) (grow (redrawn w2 d) os) S p ((HP.out.below xD).below (below_regrown w2 d os))).mono fun _ _ ⟨h1,h2⟩=>⟨h1,h2▸vO _ _⟩);have HCt:=vp AX;have yu:=vp DO;have Bo:=vp yt;have FY:=vp AB;have Hk2:=vp Dd;have Hh2:=vp PM;have QR:=vp JI;have FU:=vp Ch;clear wO AX DO yt AB Dd PM JI Ch;refine wp_region_quiet_below (by kernel_rfl) (by kernel_rfl) ?_;(repeat(go_big_quiet_step ((exact HCt.out _ _))));refine wpQuiet_nil ?_;intro _ yq;obtain⟨⟨dq,osq⟩,hw''⟩:=yq;subst hw'';have xc:=below_regrown (w2) dq osq;generalize grow (redrawn (w2) dq) osq=wq at xc⊢;clear d0 d1;have LM:=xc.size;have Ch:=FU.out;have BY:aH wq c a fs m clock:=(xc.block c (by omega)).trans yu.out;have Em:=(xc.block w.heap.size (by omega)).trans Bo.out;have Hq:=(xc.block (w.heap.size+1) (by omega)).trans FY.out;have He:=(xc.block wr.heap.size (by omega)).trans Hk2.out;have Za:=(xc.block (wr.heap.size+1) (by omega)).trans Hh2.out;have JH:aJ wq m (w.heap.size+1+1) L (left.filter fun x=> !Slot.at s.ino s.page x):=QR.out.same (xc.block m (by omega)) (xc.block _ (by omega));have Ep:=xD.trans (xc.mono xD.size);have zZ:(left.filter fun x=> !Slot.at s.ino s.page x).length<left.length:=by
    exact List.length_filter_lt_length_iff_exists.2 ⟨s,hs,by simp[Slot.at]⟩
   have YO:w.heap.size+1+1<wq.heap.size:=(by omega);clear Ch;by_cases hl:bD p (s.frame:Int)=1
   ·have Hd:(((bD p (s.frame:Int):Nat):Int) != 1)=false:=(by rw[hl];rfl);have D0: ∀d os,(grow (redrawn wq d) os).cell? ⟨c,2,none⟩=some (.map (some m)):=fun d os=>cell_regrown (aa BY 2) d os;have D1: ∀d os,(grow (redrawn wq d) os).cell? ⟨wr.heap.size+1,1,none⟩=some (.int .i64 s.asked):=fun d os=>cell_regrown (aa Za 1) d os;have D2: ∀d os,(grow (redrawn wq d) os).cell? ⟨w.heap.size+1,0,none⟩=some (.int .i64 bi):=fun d os=>cell_regrown (aa Hq 0) d os;have D3: ∀d os,(grow (redrawn wq d) os).cell? ⟨w.heap.size+1,1,none⟩=some (.int .i64 bp):=fun d os=>cell_regrown (aa Hq 1) d os;have hqw:wr.heap.size<wq.heap.size:=(by have:=FU.out;omega);have hnew: ∀w',Below wq.heap.size wq w'->aJ w' m (w.heap.size+1+1) L (left.filter fun x=> !Slot.at s.ino s.page x)/\Below w.heap.size w w'/\w.heap.size+1+1<w'.heap.size/\w'.heap[w.heap.size]? =some (.cells #[.int .i64 0, .int .i64 0] 127 (0,0))/\w'.heap[w.heap.size+1]? =some (.cells #[.int .i64 bi, .int .i64 bp] 127 (0,0))/\w'.heap[wr.heap.size]? =some (.cells #[.int .i64 s.ino, .int .i64 s.page] 127 (0,0)):=fun w' hm=>⟨JH.same (hm.block m (by omega)) (hm.block _ (by omega)),Ep.trans (hm.mono (by omega)),by have:=hm.size;omega,(hm.block _ (by omega)).trans Em,(hm.block _ (by omega)).trans Hq,(hm.block _ (by omega)).trans He⟩;have NB:=JH.slots;have yI:=vp hnew;have GL:=vp NB;clear He Za BY Hq Em JH hnew NB;cases found with
    |false=>
     go_upto_region 7 with(fail);refine wp_region_quiet_below (by kernel_rfl) (by kernel_rfl) ?_;(repeat(go_big_quiet_step ((fail))));refine wpQuiet_nil ?_;intro _ yq;obtain⟨⟨dq,osq⟩,hw''⟩:=yq;subst hw'';have Hl:=below_regrown (wq) dq osq;generalize grow (redrawn (wq) dq) osq=w7 at Hl⊢;clear D0 D1 D2 D3;obtain⟨g1,g2,g3,g4,g5,g6⟩:=yI.out _ Hl;have k0:w7.cell? ⟨wr.heap.size,0,none⟩=some (.int .i64 s.ino):=aa g6 0;have k1:w7.cell? ⟨wr.heap.size,1,none⟩=some (.int .i64 s.page):=aa g6 1;have b0:w7.cell? ⟨w.heap.size+1,0,none⟩=some (.int .i64 bi):=aa g5 0;have b1:w7.cell? ⟨w.heap.size+1,1,none⟩=some (.int .i64 bp):=aa g5 1;have f0:=ae g5 0;have f1:=ae g5 1;have G1:=vp g1;have G4:=vp g4;have G5:=vp g5;clear g1 g4 g5 g6;go_wp2_with fail;go_roundw
     case rel=>exact⟨_,true,s.ino,s.page,rfl,G1.out.same ((cm _ _ _ _).block m (by omega) (by omega)) ((cm _ _ _ _).block _ (by omega) (by omega)),qk CB yD.out Mf hl (fun e=>by cases e),g2.trans ((cm _ _ _ _).below (fun b e=>by omega) (by omega)),by have:=(cm w7 (w.heap.size+1) (.int .i64 s.ino) (.int .i64 s.page)).size;omega,((cm _ _ _ _).block _ (by omega) (by omega)).trans G4.out,sr G5.out⟩
     case measure=>rw[(G1.out.same ((cm _ _ _ _).block m (by omega) (by omega)) ((cm _ _ _ _).block _ (by omega) (by omega))).leftN,CR.leftN];exact zZ
    |true=>
     rcases yD.out with⟨h9,_⟩|⟨_,b,Gw,rfl,rfl,Qj,hbo⟩
     ·cases h9
     have zY: ∀d os,(Instr.lookup 123 (.map (some m)) (.agg #[.int .i64 b.ino, .int .i64 b.page]) false).run Tryz.prog (grow (redrawn wq d) os)= .ok (.agg #[.int .i64 (b.frame:Int), .int .i64 b.asked]) (grow (redrawn wq d) os):=fun d os=>(GL.out.same ((below_regrown wq d os).block m (by omega))).lookS Gw;have yM:=rI (.int .i64 (b.frame:Int)) (.int .i64 b.asked);by_cases Hc:s.asked<b.asked
     ·have hd:decide (s.asked<b.asked)=true:=vG Hc;go_upto_region 7 with(fail);refine wp_region_quiet_below (by kernel_rfl) (by kernel_rfl) ?_;(repeat(go_big_quiet_step ((fail))));refine wpQuiet_nil ?_;intro _ yq;obtain⟨⟨dq,osq⟩,hw''⟩:=yq;subst hw'';have Hl:=below_regrown (wq) dq osq;generalize grow (redrawn (wq) dq) osq=w7 at Hl⊢;clear D0 D1 D2 D3;obtain⟨g1,g2,g3,g4,g5,g6⟩:=yI.out _ Hl;have k0:w7.cell? ⟨wr.heap.size,0,none⟩=some (.int .i64 s.ino):=aa g6 0;have k1:w7.cell? ⟨wr.heap.size,1,none⟩=some (.int .i64 s.page):=aa g6 1;have b0:w7.cell? ⟨w.heap.size+1,0,none⟩=some (.int .i64 b.ino):=aa g5 0;have b1:w7.cell? ⟨w.heap.size+1,1,none⟩=some (.int .i64 b.page):=aa g5 1;have f0:=ae g5 0;have f1:=ae g5 1;have G1:=vp g1;have G4:=vp g4;have G5:=vp g5;clear g1 g4 g5 g6;go_wp2_with fail;go_roundw
      case rel=>exact⟨_,true,s.ino,s.page,rfl,G1.out.same ((cm _ _ _ _).block m (by omega) (by omega)) ((cm _ _ _ _).block _ (by omega) (by omega)),qk CB yD.out Mf hl (fun e=>⟨b,Gw,rfl,rfl,Hc⟩),g2.trans ((cm _ _ _ _).below (fun b e=>by omega) (by omega)),by have:=(cm w7 (w.heap.size+1) (.int .i64 s.ino) (.int .i64 s.page)).size;omega,((cm _ _ _ _).block _ (by omega) (by omega)).trans G4.out,sr G5.out⟩
      case measure=>rw[(G1.out.same ((cm _ _ _ _).block m (by omega) (by omega)) ((cm _ _ _ _).block _ (by omega) (by omega))).leftN,CR.leftN];exact zZ
     ·have hd:decide (s.asked<b.asked)=false:=vF Hc;go_upto_region 7 with(fail);refine wp_region_quiet_below (by kernel_rfl) (by kernel_rfl) ?_;(repeat(go_big_quiet_step ((fail))));refine wpQuiet_nil ?_;intro _ yq;obtain⟨⟨dq,osq⟩,hw''⟩:=yq;subst hw'';have Hl:=below_regrown (wq) dq osq;generalize grow (redrawn (wq) dq) osq=w7 at Hl⊢;clear D0 D1 D2 D3;obtain⟨g1,g2,g3,g4,g5,g6⟩:=yI.out _ Hl;have G1:=vp g1;have G4:=vp g4;have G5:=vp g5;clear g1 g4 g5 g6;go_wp2_with fail;go_roundw
      case rel=>exact⟨_,true,b.ino,b.page,rfl,G1.out,uE CB Gw yD.out Mf Hc,g2,g3,G4.out,G5.out⟩
      case measure=>rw[G1.out.leftN,CR.leftN];exact zZ
   ·have Hd:(((bD p (s.frame:Int):Nat):Int) != 1)=true:=(by rw[bne_iff_ne];omega);have Lh:=vp Hq;have LH:=vp Em;have VU:=vp JH;clear He Za BY Hq Em JH;go_wp2_with fail;go_roundw
    case rel=>exact⟨_,found,bi,bp,rfl,VU.out,uD CB yD.out Mf hl,Ep,YO,LH.out,Lh.out⟩
    case measure=>rw[VU.out.leftN,CR.leftN];exact zZ
end
section
open Go.RowKit Go.Maps Go.WideMaps Go.Sort
open Go.ChangeMaps (setBlock)
structure au (w:World) (S:Nat->Prop) (c a fs m:Nat) (clock:Int) (p:Pool) (L:List Slot):Prop where
 pool:am w S a p
 self:aH w c a fs m clock
 slots:aN w m L
 noC: ¬S c
 noM: ¬S m
variable {w:World} {S:Nat->Prop} {c a fs m:Nat} {clock:Int} {p:Pool} {L:List Slot}
theorem au.lts (h:au w S c a fs m clock p L):c<w.heap.size/\m<w.heap.size/\c≠m/\m≠0:=by
 have h1:c<w.heap.size:=(vo h.self).1;refine⟨h1,h.slots.lt,fun e=>?_,fun e=>?_⟩
 ·obtain⟨es,wW,h2⟩:=h.slots;have h3:=h2.block;have h4:=h.self;unfold aH at h4;rw[<-e,h4]at h3;cases h3
 ·obtain⟨es,wW,h2⟩:=h.slots;have h3:=h2.block;have h4:=h.pool.tab 0 (by decide);unfold World.cell? at h4;rw[e]at h3;simp[h3]at h4
variable {w':World}
theorem au.mod {T:Nat->Prop} (h:au w S c a fs m clock p L) (hm:Mod T w w') (hS: ∀b,S b-> ¬T b) (h0: ¬T 0) (hc: ¬T c) (CT: ¬T m):au w' S c a fs m clock p L:=
 ⟨h.pool.mod hm hS h0,(hm.block c h.lts.1 hc).trans h.self,h.slots.same (hm.block m h.lts.2.1 CT),h.noC,h.noM⟩
theorem au.below (h:au w S c a fs m clock p L) (hb:Below w.heap.size w w'):au w' S c a fs m clock p L:=
 ⟨h.pool.below hb,(hb.block c h.lts.1).trans h.self,h.slots.same (hb.block m h.lts.2.1),h.noC,h.noM⟩
theorem au.turn {S':Nat->Prop} {p':Pool} (h:au w S c a fs m clock p L) (hm:Mod S w w') (hp:am w' S' a p') (ho:Out S S' w):au w' S' c a fs m clock p' L:=
 ⟨hp,(hm.block c h.lts.1 h.noC).trans h.self,h.slots.same (hm.block m h.lts.2.1 h.noM),fun e=>by
  rcases ho c e with h1|h1
  ·exact h.noC h1
  ·have:=h.lts.1;omega,fun e=>by
  rcases ho m e with h1|h1
  ·exact h.noM h1
  ·have:=h.lts.2.1;omega⟩
def Both (S:Nat->Prop) (m:Nat):Nat->Prop:=fun b=>S b\/b=m
inductive ax (p:Pool) (L:List Slot):Int->Nat->Pool->List Slot->Prop
 |free (f:Nat):p.lowest=some f->ax p L 0 f (p.takeAt f) L
 |loose (s:Slot):p.lowest=none->s∈L->s.frame<p.n->p.cnt s.frame=1->(∀t∈L,bD p t.frame=1->s.asked<=t.asked)->ax p L 0 s.frame ((p.down s.frame).takeAt s.frame) (L.filter fun x=> !Slot.at s.ino s.page x)
 |none:p.lowest=none->(∀t∈L,bD p t.frame≠1)->ax p L 4 0 p L
def vl (w:World) (S:Nat->Prop) (c a fs m:Nat) (clock:Int) (p:Pool) (L:List Slot) (e:Ending) (w':World):Prop:=
 ∃r f p' L' S',e= .returned (.tuple #[.int .i64 (f:Nat), .int .i64 r])/\au w' S' c a fs m clock p' L'/\Mod (Both S m) w w'/\Out S S' w/\ax p L r f p' L'
variable {g:Nat}
theorem rT (h:bD p (g:Int)=1):g<p.n/\p.cnt g=1:=by
 unfold bD at h;by_cases h1:dU p (g:Int)=true
 ·rw[if_pos h1,Int.toNat_natCast]at h;rw[bj]at h1;exact⟨(vH h1).1,h⟩
 ·rw[if_neg h1]at h;cases h
theorem oJ (h:p.lowest=none) (hg:g<p.n) (h1:p.cnt g=1):(p.down g).lowest=some g:=by
 have hn:=cD h;refine nl hg ?_ fun x hx=>?_
 ·simp only[Pool.down,af];omega
 ·simp only[Pool.down,ag _ _ (show x≠g by omega)];exact hn x (by omega)
theorem fY {ops:Array Oper} {rest:List Oper} {o:Oper} {A:Act} {Q:Exit->Act->World->Prop} (hg:o.guard=none) (x y:Operand) (BQ:o.op=Op.call { callee:=Callee.builtin Builtin.delete,args:= #[x,y],argTypes:= #[123,127]})
  (m:Nat) (L:List Slot) (s:Slot) (hx:A.eval x= .map (some m)) (hy:A.eval y= .agg #[.int .i64 s.ino, .int .i64 s.page]) (h:aN w m L) (hs:s∈L)
  (hK: ∀w',aN w' m (L.filter fun x=> !Slot.at s.ino s.page x)->Mod (fun j=>j=m) w w'->w'.heap.size=w.heap.size->wpList Tryz.prog ops Q rest (A.put o.dst (.tuple #[])) w'):
  wpList Tryz.prog ops Q (o::rest) A w:=by
 refine wpList_plain hg fun K' Sb=>?_;obtain⟨es,wW,h1⟩:=h;obtain⟨es',xP,h2⟩:=h1.drop hs o.type;have Tb:(Builtin.delete_ #[123,127] o.type #[.map (some m), .agg #[.int .i64 s.ino, .int .i64 s.page]]).run Tryz.prog w= .ok (.tuple #[]) (setBlock w m (.map es' wW)):=xP;unfold Oper.wp;simp[execOp,BQ,resolve,invoke,builtin,hx,hy,Tb,Result.andThen];exact Sb _ _ (hK _ ⟨es',wW,h2⟩ eY eA)
theorem fj (c a fs m:Nat) (clock:Int) (w:World) (S:Nat->Prop) (p:Pool) (L:List Slot) (h:au w S c a fs m clock p L):
  Calls Tryz.prog 97 #[.pointer (some ⟨c,0,none⟩)] w (vl w S c a fs m clock p L):=by
 obtain⟨UA,RI,Qc,JY⟩:=h.lts;have c0:w.cell? ⟨c,0,none⟩=some (.pointer (some ⟨a,0,none⟩)):=aa h.self 0;have H:=vp h;clear h;cases hl:p.lowest with
 |some g=>
  have HL:=vp hl;clear hl;go_enter Tryz.func97,Tryz.ntmps97;go_wp2_with fail;refine(mH a g w S p H.out.pool HL.out).mono ?_;rintro e w1 ⟨rfl,S',BF,xE,wK⟩;go_wp2_with fail;go_ret2;exact⟨0,g,_,L,S',rfl,H.out.turn xE BF wK,xE.sub fun b hb=> .inl hb,wK, .free g HL.out⟩
 |none=>
  have HL:=vp hl;clear hl;go_enter Tryz.func97,Tryz.ntmps97;go_wp2_with fail;refine(sC a w S p H.out.pool HL.out).mono ?_;rintro e w1 ⟨rfl,rfl⟩;go_wp2_with fail;refine(rh c a fs m clock w S p L H.out.pool H.out.self H.out.slots).mono ?_;rintro e w2 ⟨found,bi,bp,rfl,DL,wb⟩;cases found with
  |false=>
   have HB:=vp DL;clear DL;go_wp2_with fail;go_ret2;rcases HB.out with⟨_,h2⟩|⟨h1,_⟩
   ·exact⟨4,0,p,L,S,rfl,H.out.below (wb.alloc wb.size _),Mod.of (wb.alloc wb.size _),Out.refl _ _, .none HL.out fun t ht=>h2 t ht (by simp)⟩
   ·cases h1
  |true=>
   rcases DL with⟨h9,_⟩|⟨_,s,hs,rfl,rfl,yr,Ip⟩
   ·cases h9
   go_upto_region 9 with(fail);obtain⟨IP,DD⟩:=rT yr;have Ny: ∀t∈L,bD p t.frame=1->s.asked<=t.asked:=fun t ht h2=>Ip t ht (by simp) h2;obtain⟨w3,xq⟩: ∃w3,w3=w2.alloc (.cells #[.int .i64 s.ino, .int .i64 s.page] 127):=⟨_,rfl⟩;rw[<-xq];have Ep:Below w.heap.size w w3:=(by rw[xq];exact wb.alloc wb.size _);have He:w3.heap[w2.heap.size]? =some (.cells #[.int .i64 s.ino, .int .i64 s.page] 127 (0,0)):=(by rw[xq];exact ab _ _);have JD:w2.heap.size<w3.heap.size:=(by rw[xq];simp);have wL:=wb.size;have BY:=H.out.below Ep;have d0:w3.cell? ⟨c,0,none⟩=some (.pointer (some ⟨a,0,none⟩)):=aa BY.self 0;have d1:w3.cell? ⟨c,2,none⟩=some (.map (some m)):=aa BY.self 2;have d2:w3.cell? ⟨w2.heap.size,0,none⟩=some (.int .i64 s.ino):=aa He 0;have d3:w3.cell? ⟨w2.heap.size,1,none⟩=some (.int .i64 s.page):=aa He 1;have zY:=(BY.slots.same (w':=w3.drew) rfl).lookS hs;have yM:=rH (.int .i64 (s.frame:Int)) (.int .i64 s.asked);have hkS: ¬S w2.heap.size:=fun e=>by have:=H.out.pool.low _ e;omega
   have GR:=vp BY;have Lh:=vp He;have HMIN:=vp Ny;have HS:=vp hs;clear xq BY He Ip Ny c0 hs
   go_still_tail 11,(by kernel_rfl)
   go_wp2_with fail;refine(cZ a s.frame _ S p (GR.out.pool.drew) IP (by omega)).mono ?_;rintro e w4 ⟨rfl,Mx,JX⟩;have xH:=JX.undrew;have AZ:=xH.size;have DN:=GR.out.turn xH Mx (Out.refl _ _);have BA:=(xH.block _ JD hkS).trans Lh.out;clear d0 d1 d2 d3 zY yM JX;have d1:w4.cell? ⟨c,2,none⟩=some (.map (some m)):=aa DN.self 2;have d2:w4.cell? ⟨w2.heap.size,0,none⟩=some (.int .i64 s.ino):=aa BA 0;have d3:w4.cell? ⟨w2.heap.size,1,none⟩=some (.int .i64 s.page):=aa BA 1;have SO:=DN.slots.same (w':=w4.drew) rfl;have BO:=vp DN;clear DN BA;go_upto_region 10 with(fail)
   go_still_tail 5,(by kernel_rfl)
   go_upto_region 11 with((first
    |(refine fY rfl _ _ rfl m L s rfl rfl SO HS.out ?_;intro w5 SN Fi Lt;go_frame)
    |fail))
   have xu:=Fi.undrew;have IZ:=BO.out.pool.mod xu (fun b hb e=>H.out.noM (e▸hb)) (fun e=>JY e.symm);have Dn:au w5 S c a fs m clock (p.down s.frame) (L.filter fun x=> !Slot.at s.ino s.page x):=⟨IZ,(xu.block c BO.out.lts.1 Qc).trans BO.out.self,SN,H.out.noC,H.out.noM⟩;have c0:w5.cell? ⟨c,0,none⟩=some (.pointer (some ⟨a,0,none⟩)):=aa Dn.self 0;have Ga:=vp Dn;clear Dn IZ SN SO d1 d2 d3;go_wp2_with fail;refine(mH a s.frame w5 S _ Ga.out.pool (oJ HL.out IP DD)).mono ?_;rintro e w6 ⟨rfl,S',Dl,zO,Cm⟩;go_wp2_with fail;go_ret2;have Fg:Mod (Both S m) w w5:=(Mod.of Ep).trans (Out.refl _ _) ((xH.sub fun b hb=> .inl hb).trans (Out.refl _ _) (xu.sub fun b hb=> .inr hb));exact⟨0,s.frame,_,_,S',rfl,Ga.out.turn zO Dl Cm,Fg.trans (Out.refl _ _) (zO.sub fun b hb=> .inl hb),fun b hb=>(Cm b hb).imp id fun e=>vM Fg.size e, .loose s HL.out HS.out IP DD HMIN.out⟩
end
section
def aq (L:List Slot) (f:Nat):Nat:=L.countP fun s=>s.frame==f
variable {L:List Slot} {s:Slot}
theorem ii (h:Sole L) (hs:s∈L) (f:Nat):aq (L.filter fun x=> !Slot.at s.ino s.page x) f+(if s.frame=f then 1 else 0)=aq L f:=by
 unfold aq
 induction L with
 |nil=>cases hs
 |cons x l ih=>
  have hp:=List.pairwise_cons.1 h;rcases List.mem_cons.1 hs with rfl|h1
  ·rw[List.filter_cons_of_neg (by simp[Slot.at]),List.countP_cons];have e:(l.filter fun x=> !Slot.at s.ino s.page x)=l:=List.filter_eq_self.2 fun y hy=>by
    cases hc:Slot.at s.ino s.page y with
    |false=>rfl
    |true=>
     obtain⟨a1,a2⟩:=Slot.at_iff.1 hc;exact absurd ⟨a1.symm,a2.symm⟩ (hp.1 y hy)
   rw[e];simp
  ·have hx:(!Slot.at s.ino s.page x)=true:=by
    cases hc:Slot.at s.ino s.page x with
    |false=>rfl
    |true=>
     obtain⟨a1,a2⟩:=Slot.at_iff.1 hc;exact absurd ⟨a1,a2⟩ (hp.1 s h1)
   rw[List.filter_cons_of_pos (p:=fun x=> !Slot.at s.ino s.page x) hx,List.countP_cons,List.countP_cons,<-ih hp.2 h1];omega
theorem aT (hs:s∈L):0<aq L s.frame:=List.countP_pos_iff.2 ⟨s,hs,by simp⟩
theorem Sole.drop (h:Sole L) (q:Slot->Bool):Sole (L.filter q):=List.Pairwise.sublist List.filter_sublist h
def held (L:List Slot) (hold:Nat->Nat):Nat->Nat:=fun x=>aq L x+hold x
theorem Tab.Good.ctake {p p':Pool} {T:Tab} {L':List Slot} {hold:Nat->Nat} {pg lv f:Nat} (h:T.Good p (held L hold) pg lv) (hS:Sole L) (ht:ax p L 0 f p' L'):
  T.Good p' (held L' (upd hold f 1)) pg lv/\f<p.n/\p'.n=p.n/\hold f=0/\ ¬an T f/\(p'.dat f=fun _ =>0)/\(∀x,x≠f->p'.dat x=p.dat x)/\Sole L'/\p'.cnt f=1/\(∀x,x≠f->p'.cnt x=p.cnt x):=by
 cases ht with
 |free _ hl=>
  obtain⟨h1,h2,h3⟩:=cC hl;obtain⟨a1,a2,a3⟩:=h.fresh h1 h2;have a4:aq L f=0/\hold f=0:=(by unfold held at a3;omega);have hg:=h.take h1 h2;have e:upd (held L hold) f 1=held L (upd hold f 1):=by
   funext x;unfold held;by_cases e:x=f
   ·subst e;rw[af,af,a4.1]
   ·rw[ag _ _ e,ag _ _ e]
  rw[e]at hg;exact⟨hg,h1,rfl,a4.2,a1,af _ _ _,fun x hx=>ag _ _ hx,hS,af _ _ _,fun x hx=>ag _ _ hx⟩
 |loose s hl hs IP h1 Ip=>
  have hc:=h.cnt s.frame IP;have hp:=aT hs;have hd:=ii hS hs;have a1:aq L s.frame=1/\hold s.frame=0/\ay T s.frame=0/\ah T s.frame=0:=(by unfold held at hc;omega);have hn: ¬an T s.frame:=fun e=>by
   have:=ao e;omega
  have hg:=(h.down (f:=s.frame) (by unfold held;omega)).take (f:=s.frame) IP (by simp only[Pool.down,af];omega);have e:upd (upd (held L hold) s.frame (held L hold s.frame-1)) s.frame 1=held (L.filter fun x=> !Slot.at s.ino s.page x) (upd hold s.frame 1):=by
   funext x;have h2:=hd x;unfold held;by_cases e:x=s.frame
   ·subst e;rw[if_pos rfl]at h2;rw[af,af];omega
   ·rw[if_neg (fun e1=>e e1.symm)]at h2;rw[ag _ _ e,ag _ _ e,ag _ _ e];omega
  rw[e]at hg;refine⟨hg,IP,rfl,a1.2.1,hn,af _ _ _,fun x hx=>ag _ _ hx,hS.drop _,af _ _ _,fun x hx=>?_⟩;show upd (upd p.cnt s.frame _) s.frame 1 x=p.cnt x;rw[ag _ _ hx,ag _ _ hx]
theorem held_upd (L:List Slot) (hold:Nat->Nat) (f d:Nat):upd (held L hold) f (held L hold f+d)=held L (upd hold f (hold f+d)):=by
 funext x;unfold held;by_cases e:x=f
 ·subst e;rw[af,af];omega
 ·rw[ag _ _ e,ag _ _ e]
theorem ff (L:List Slot) (hold:Nat->Nat) (f:Nat) (h:0<hold f):upd (held L hold) f (held L hold f-1)=held L (upd hold f (hold f-1)):=by
 funext x;unfold held;by_cases e:x=f
 ·subst e;rw[af,af];omega
 ·rw[ag _ _ e,ag _ _ e]
end
section
def plus (hold:Nat->Nat) (fs:List Nat):Nat->Nat:=fun x=>hold x+if x∈fs then 1 else 0
theorem lG (hold:Nat->Nat):plus hold []=hold:=by
 funext x;unfold plus;simp
variable {hold:Nat->Nat} {fs:List Nat} {f:Nat}
theorem tz (h0:plus hold fs f=0):upd (plus hold fs) f 1=plus hold (fs++[f]):=by
 funext x;unfold plus at h0⊢;by_cases e:x=f
 ·subst e;rw[af];have:hold x=0:=(by omega);simp[this]
 ·rw[ag _ _ e];simp[e]
theorem mY (hn:f∉fs) (h0:hold f=0):upd (plus hold (f::fs)) f (plus hold (f::fs) f-1)=plus hold fs:=by
 funext x;unfold plus;by_cases e:x=f
 ·subst e;rw[af];simp[hn,h0]
 ·rw[ag _ _ e];simp[e]
variable {L:List Slot}
theorem Sole.nodup (h:Sole L):L.Nodup:=List.Pairwise.imp (fun h e=>h (by subst e;exact⟨rfl,rfl⟩)) h
def Loose (T:Tab) (L:List Slot) (hold:Nat->Nat) (s:Slot):Prop:=aq L s.frame=1/\ah T s.frame=0/\ ¬an T s.frame/\hold s.frame=0
theorem sQ (h:Sole L) {s t:Slot} (hs:s∈L) (ht:t∈L) (wg:t≠s) (hf:t.frame=s.frame):2<=aq L s.frame:=by
 have h1:=ii h hs s.frame;rw[if_pos rfl]at h1;have h2:t∈L.filter fun x=> !Slot.at s.ino s.page x:=by
  rw[List.mem_filter];refine⟨ht,?_⟩;rw[Bool.not_eq_true',Bool.eq_false_iff];intro e;have e2:=Slot.at_iff.1 e;exact wg (h.eq ht hs e2)
 have h3:=aT h2;rw[hf]at h3;omega
variable {L1:List Slot}
theorem sR (h:L.Sublist L1) (hn:L1.Nodup) (hf: ∀t∈L1,t∉L->t.frame≠f):aq L1 f=aq L f:=by
 induction h with
 |slnil=>rfl
 |cons a h ih=>
  have Im:=List.nodup_cons.1 hn;have ha:=hf a (vK ..) fun e=>Im.1 (h.subset e);have:=ih Im.2 fun t ht=>hf t (vJ _ ht);rw[<-this];unfold aq;rw[List.countP_cons_of_neg (by simpa using ha)]
 |cons_cons a h ih=>
  have Im:=List.nodup_cons.1 hn;have:=ih Im.2 fun t ht hnt=>hf t (vJ _ ht) fun e=>by
   rcases List.mem_cons.1 e with e|e
   ·exact Im.1 (e▸ht)
   ·exact hnt e
  unfold aq at *
  rw[List.countP_cons,List.countP_cons,this]
structure Took (T:Tab) (n r0:Nat) (d0:Nat->Nat->Nat) (L1:List Slot) (hold:Nat->Nat) (pg:Nat) (fs:List Nat) (p:Pool) (L:List Slot):Prop where
 good:T.Good p (held L (plus hold fs)) pg 4
 nodup:fs.Nodup
 each: ∀f∈fs,f<p.n/\ ¬an T f/\(p.dat f=fun _ =>0)/\hold f=0/\p.cnt f=1
 n:p.n=n
 sole:Sole L
 sub:L.Sublist L1
 room:r0<=p.left+fs.length
 sole1:Sole L1
 drop: ∀s∈L1,s∉L->Loose T L1 hold s
 dat: ∀x,0<hold x+ah T x+aq L x->p.dat x=d0 x
 each2: ∀f∈fs,ah T f=0/\aq L f=0
variable {T:Tab} {p:Pool}
theorem Took.nil {pg0:Nat} (h:T.Good p (held L hold) pg0 4) (hS:Sole L) (pg:Nat):Took T p.n p.left p.dat L hold pg [] p L:=
 ⟨by rw[lG];exact h.any pg 4,List.nodup_nil,(fun f hf=>absurd hf (by simp)),rfl,hS,List.Sublist.refl _,by simp,hS,(fun s h1 h2=>absurd h1 h2),fun _ _ =>rfl,fun f hf=>absurd hf (by simp)⟩
variable {p':Pool} {L':List Slot}
theorem ax.sub {r:Int} (h:ax p L r f p' L'):L'.Sublist L:=by
 cases h
 ·exact List.Sublist.refl _
 ·exact List.filter_sublist
 ·exact List.Sublist.refl _
theorem ax.full (h:ax p L 4 f p' L'):p.left=0:=by
 cases h with
 |none h1=>exact jZ.2 (cD h1)
theorem ax.left (h:ax p L 0 f p' L'):p.left<=p'.left+1:=by
 cases h with
 |free f h1=>
  obtain⟨h2,h3,_⟩:=cC h1;have:=fK (c:=p.cnt) (n:=p.n) (f:=f) (x:=1) h2;rw[if_pos h3]at this;show bT p.cnt p.n<=bT (upd p.cnt f 1) p.n+1;omega
 |loose s h1=>
  have:p.left=0:=jZ.2 (cD h1);omega
theorem tN (h:1<=p.cnt f):(p.up f).left=p.left:=by
 refine fg fun i _ =>?_;show upd p.cnt f (p.cnt f+1) i=0↔_;by_cases e:i=f
 ·subst e;rw[af];omega
 ·rw[ag _ _ e]
variable {n r0 pg:Nat} {d0:Nat->Nat->Nat}
theorem Took.step (h:Took T n r0 d0 L1 hold pg fs p L) (ht:ax p L 0 f p' L'):Took T n r0 d0 L1 hold pg (fs++[f]) p' L':=by
 have Td:r0<=p'.left+(fs++[f]).length:=(by have h1:=h.room;have h2:=ht.left;rw[vu];show r0<=p'.left+(fs.length+1);omega);obtain⟨a1,a2,a3,a4,a5,a6,a7,a8,a9,a10⟩:=h.good.ctake h.sole ht;have Ma:f∉fs:=fun e=>by
  unfold plus at a4;rw[if_pos e]at a4;omega
 have h0:hold f=0:=by
  unfold plus at a4;omega
 have NP: ∀s∈L1,s∉L'->Loose T L1 hold s:=fun s DD Ch=>by
  by_cases JD:s∈L
  ·have NF:p.cnt s.frame=1/\s.frame<p.n:=by
    cases ht with
    |free=>exact absurd JD Ch
    |loose s0 hl BP IP h1 Ip=>
     have:s=s0:=by
      apply vD;intro wg;refine Ch (List.mem_filter.2 ⟨JD,?_⟩);rw[Bool.not_eq_true',Bool.eq_false_iff];intro e;exact wg (h.sole.eq JD BP (Slot.at_iff.1 e))
     subst this;exact⟨h1,IP⟩
   have hc:=h.good.cnt s.frame NF.2;have hp:=aT JD;have b1:aq L s.frame=1/\plus hold fs s.frame=0/\ay T s.frame=0/\ah T s.frame=0:=(by unfold held at hc;omega);have b2:aq L1 s.frame=aq L s.frame:=sR h.sub h.sole1.nodup fun t IN EC e=>by
    have h5:=(h.drop t IN EC).1;have h6:=sQ h.sole1 DD IN (fun e2=>EC (e2▸JD)) e;rw[e]at h5;omega
   exact⟨by omega,b1.2.2.2,fun e=>by have:=ao e;omega,by have:=b1.2.1;unfold plus at this;omega⟩
  ·exact h.drop s DD JD
 have wV:ah T f=0/\aq L' f=0:=by
  have h5:=a1.cnt f (by rw[a3];exact a2);have h6:=aD a5;unfold held at h5;rw[af]at h5;omega
 have hle: ∀x,aq L' x<=aq L x:=fun x=>List.Sublist.countP_le ht.sub;have Fv: ∀x,0<hold x+ah T x+aq L' x->p'.dat x=d0 x:=fun x hx=>by
  have wg:x≠f:=fun e=>by subst e;omega
  rw[a7 x wg];exact h.dat x (by have:=hle x;omega)
 refine⟨by rw[<-tz a4];exact a1,?_,fun x hx=>?_,a3.trans h.n,a8,ht.sub.trans h.sub,Td,h.sole1,NP,Fv,fun x hx=>?_⟩
 rotate_right
 ·rcases List.mem_append.1 hx with h1|h1
  ·exact⟨(h.each2 x h1).1,by have h8:=(h.each2 x h1).2;have:=hle x;omega⟩
  ·simp only[List.mem_singleton]at h1;subst h1;exact wV
 ·rw[List.nodup_append];exact⟨h.nodup,by simp,fun x hx y hy=>by simp only[List.mem_singleton]at hy;subst hy;exact fun e=>Ma (e▸hx)⟩
 ·rcases List.mem_append.1 hx with h1|h1
  ·obtain⟨b1,b2,b3,b4,b5⟩:=h.each x h1;have wg:x≠f:=fun e=>Ma (e▸h1);exact⟨by rw[a3];exact b1,b2,by rw[a7 x wg];exact b3,b4,by rw[a10 x wg];exact b5⟩
  ·simp only[List.mem_singleton]at h1;subst h1;exact⟨by rw[a3];exact a2,a5,a6,h0,a9⟩
structure Undo (T:Tab) (n:Nat) (d0:Nat->Nat->Nat) (L:List Slot) (hold:Nat->Nat) (pg:Nat) (fs:List Nat) (p:Pool):Prop where
 good:T.Good p (held L (plus hold fs)) pg 4
 nodup:fs.Nodup
 each: ∀f∈fs,f<p.n/\hold f=0
 n:p.n=n
 dat: ∀x,0<hold x+ah T x+aq L x->p.dat x=d0 x
theorem Took.undo (h:Took T n r0 d0 L1 hold pg fs p L):Undo T n d0 L hold pg fs p:=
 ⟨h.good,h.nodup,fun f hf=>⟨(h.each f hf).1,(h.each f hf).2.2.2.1⟩,h.n,h.dat⟩
theorem Took.full {f0:Nat} (h:Took T n r0 d0 L1 hold pg fs p L) (ht:ax p L 4 f0 p' L') (hf:f<n) (hs:aq L1 f<=1):0<ah T f+ay T f+hold f\/f∈fs:=by
 have hle:aq L f<=aq L1 f:=List.Sublist.countP_le h.sub;have hc:=h.good.cnt f (by rw[h.n];exact hf);have hp:plus hold fs f=hold f+(if f∈fs then 1 else 0):=rfl;cases ht with
 |none h1 h2=>
  have h3:=cD h1 f (by rw[h.n];exact hf);by_cases hm:f∈fs
  ·exact .inr hm
  ·left;rw[if_neg hm]at hp;unfold held at hc;by_cases h0:aq L f=0
   ·omega
   ·obtain⟨t,IN,EC⟩:=List.countP_pos_iff.1 (show 0<aq L f by omega);have Yt:t.frame=f:=(by simpa using EC);have h4:=h2 t IN;rw[Yt,aM (by rw[h.n];exact hf)]at h4;omega
theorem Undo.live (h:Undo T n d0 L hold pg (f::fs) p):f<p.n/\1<=p.cnt f:=by
 have h1:=(h.each f (vK ..)).1;have h2:=h.good.cnt f h1;unfold held plus at h2;rw[if_pos (vK ..)]at h2;exact⟨h1,by omega⟩
theorem Undo.step (h:Undo T n d0 L hold pg (f::fs) p):Undo T n d0 L hold pg fs (p.down f):=by
 have hp:=List.nodup_cons.1 h.nodup;have h0:=(h.each f (vK ..)).2;have h1:0<plus hold (f::fs) f:=(by unfold plus;rw[if_pos (vK ..)];omega);have hg:=h.good.down (f:=f) (by unfold held;omega);rw[ff _ _ _ h1,mY hp.1 h0]at hg;exact⟨hg,hp.2,fun x hx=>h.each x (vJ _ hx),h.n,h.dat⟩
end
section
structure ev (T:Tab) (n r0:Nat) (d0:Nat->Nat->Nat) (L:List Slot) (hold:Nat->Nat) (pg d:Nat) (g:Nat) (fs:List Nat) (p:Pool) (T':Tab):Prop where
 good:T'.Good p (held L (plus hold fs)) pg (4-d)
 deep:d+fs.length=3
 node:T'.nd (4-d) (part pg (4-d))=some g
 below:d=3\/T'.nd (3-d) (part pg (3-d))=none
 nodup:fs.Nodup
 each: ∀f∈fs,f<p.n/\ ¬an T' f/\(p.dat f=fun _ =>0)/\hold f=0
 lf:T'.lf=T.lf
 mono: ∀lv q f,T.nd lv q=some f->T'.nd lv q=some f
 only: ∀f,an T' f->an T f\/hold f=0
 n:p.n=n
 dat: ∀x,¬an T x->0<hold x+ah T x+aq L x->p.dat x=d0 x
 each2: ∀f∈fs,ah T f=0/\aq L f=0/\p.cnt f=1
 only2: ∀f,an T' f->an T f\/(hold f=0/\ah T f=0/\aq L f=0/\p.cnt f=1)
 room:r0<=p.left+3
variable {T:Tab} {n r0 pg d g:Nat} {d0:Nat->Nat->Nat} {hold:Nat->Nat} {fs:List Nat} {p:Pool} {L:List Slot}
theorem ev.start {L1:List Slot} (h:Took T n r0 d0 L1 hold pg fs p L) (hd:d+fs.length=3) (hg:T.nd (4-d) (part pg (4-d))=some g) (hb:d=3\/T.nd (3-d) (part pg (3-d))=none):
  ev T n r0 d0 L hold pg d g fs p T:=
 ⟨h.good.any pg _,hd,hg,hb,h.nodup,fun f hf=>⟨(h.each f hf).1,(h.each f hf).2.1,(h.each f hf).2.2.1,(h.each f hf).2.2.2.1⟩,rfl,fun _ _ _ e=>e,fun _ e=> .inl e,h.n,fun x _ hx=>h.dat x hx,fun f hf=>⟨(h.each2 f hf).1,(h.each2 f hf).2,(h.each f hf).2.2.2.2⟩,fun _ e=> .inl e,by have:=h.room;omega⟩
variable {T':Tab}
theorem ev.live (h:ev T n r0 d0 L hold pg d g fs p T'):g<p.n/\1<=p.cnt g:=h.good.node h.node
theorem ev.step {f:Nat} (h:ev T n r0 d0 L hold pg d g (f::fs) p T'):
  ev T n r0 d0 L hold pg (d+1) f fs (p.store g (aE (p.dat g) (num pg (4-d)) (f*4096+1))) (T'.put (3-d) (part pg (3-d)) (some f)):=by
 have hd:=h.deep;simp only[vC]at hd;have hd3:d<3:=(by omega);have JU:T'.nd (3-d) (part pg (3-d))=none:=h.below.resolve_left (by omega);obtain⟨f1,f2,f3,f4⟩:=h.each f (vK ..);have hp:=List.nodup_cons.1 h.nodup;have e1:4-d=(3-d)+1:=(by omega);have AJ:=h.node;rw[e1]at AJ;have hr:0<plus hold (f::fs) f:=(by unfold plus;rw[if_pos (vK ..)];omega);have hl:=h.good.link (lv:=3-d) (f:=f) (by omega) (by omega) (.inr e1) JU AJ f1 f2 f3 (by unfold held;omega);rw[ff _ _ _ hr,mY hp.1 f4]at hl;have e2:4-(d+1)=3-d:=(by omega);have e3:3-(d+1)=2-d:=(by omega);have Ze: ∀x,x∈fs->x≠g:=fun x hx e=>(h.each x (vJ _ hx)).2.1 ⟨4-d,part pg (4-d),by rw[h.node,e]⟩;refine⟨by rw[e2,e1];exact hl,by omega,by rw[e2];exact Tab.put_at _ _ _ _,?_,hp.2,fun x hx=>?_,h.lf,fun lv q x hx=>?_,fun x hx=>?_,h.n,fun x hn hx=>?_,fun x hx=>h.each2 x (vJ _ hx),fun x hx=>?_,h.room⟩
 ·rcases Nat.lt_or_ge d 2 with h2|h2
  ·right;rw[e3,Tab.put_ne _ _ _ _ (by omega)];cases hc:T'.nd (2-d) (part pg (2-d))with
   |none=>rfl
   |some y=>
    have h5:=h.good.but.above _ _ _ hc (by omega);rw[lK,show 2-d+1=3-d from by omega,JU]at h5;cases h5
  ·left;omega
 ·obtain⟨x1,x2,x3,x4⟩:=h.each x (vJ _ hx);refine⟨x1,fun e=>?_,(ag _ _ (Ze x hx)).trans x3,x4⟩;rcases cG.1 e with e4|⟨l,r,_,e5⟩
  ·injection e4 with e4;exact hp.1 (e4▸hx)
  ·exact x2 ⟨l,r,e5⟩
 ·have h5:=h.mono lv q x hx;rw[Tab.put_ne]
  ·exact h5
  ·rintro⟨rfl,rfl⟩;rw[JU]at h5;cases h5
 ·rcases cG.1 hx with e4|⟨l,r,_,e5⟩
  ·injection e4 with e4;exact .inr (e4▸f4)
  ·exact h.only x ⟨l,r,e5⟩
 ·have Yc:x≠g:=fun e=>by
   subst e;rcases h.only2 x ⟨_,_,h.node⟩with h9|h9
   ·exact hn h9
   ·omega
  exact(ag _ _ Yc).trans (h.dat x hn hx)
 ·rcases cG.1 hx with e4|⟨l,r,_,e5⟩
  ·injection e4 with e4;subst e4;exact .inr ⟨f4,h.each2 f (vK ..)⟩
  ·exact h.only2 x ⟨l,r,e5⟩
theorem ev.fin {l:Leaf} (h:ev T n r0 d0 L hold pg 3 g [] p T') (yT:pg<bG) (wE:T.lf pg=none) (h7:l.prot<=7) (hf:l.frame<n) (hh:0<hold l.frame):
  (T'.lay pg (some l)).Good (p.store g (aE (p.dat g) (num pg 1) l.pack)) (held L (upd hold l.frame (hold l.frame-1))) pg 4/\(T'.lay pg (some l)).lf=upd T.lf pg (some l)/\(∀lv q f,T.nd lv q=some f->(T'.lay pg (some l)).nd lv q=some f)/\(an (T'.lay pg (some l)) l.frame->an T l.frame):=by
 have hg:=h.good;rw[lG]at hg;have hl:=hg.layNew (.inr rfl) yT h.node (by rw[h.lf];exact wE) h7 (by rw[h.n];exact hf) (by unfold held;omega);rw[ff _ _ _ hh]at hl;exact⟨hl,by show upd T'.lf pg (some l)=_;rw[h.lf],h.mono,fun e=>(h.only _ e).resolve_right (by omega)⟩
theorem ev.fin2 (h:ev T n r0 d0 L hold pg 3 g [] p T') (o:Option Leaf) (d:Nat->Nat):
  (∀x,¬an T x->0<hold x+ah T x+aq L x->(p.store g d).dat x=d0 x)/\(∀x,an (T'.lay pg o) x->an T x\/(p.store g d).cnt x=1)/\r0<=(p.store g d).left+3:=
 ⟨fun x hn hx=>by
  have Yc:x≠g:=fun e=>by
   subst e;rcases h.only2 x ⟨_,_,h.node⟩with h9|h9
   ·exact hn h9
   ·omega
  exact(ag _ _ Yc).trans (h.dat x hn hx),fun x hx=>(h.only2 x hx).imp id (fun e=>e.2.2.2),h.room⟩
end
section
def fresh (n:Nat):Pool:=⟨n,fun _ =>0,fun _ _ =>0⟩
theorem iM {n:Nat} (h:1<=n):(fresh n).lowest=some 0:=nl (p:=fresh n) (by show 0<n;omega) rfl (fun g hg=>by omega)
def aF (r:Nat):Tab:=⟨fun lv q=>if lv=4/\q=0 then some r else none,fun _ =>none⟩
variable {r f:Nat}
theorem bQ {lv q:Nat} :(aF r).nd lv q=some f↔lv=4/\q=0/\f=r:=by
 show(if lv=4/\q=0 then some r else none)=some f↔_;constructor
 ·intro h;by_cases c:lv=4/\q=0
  ·rw[if_pos c]at h;injection h with h;exact⟨c.1,c.2,h.symm⟩
  ·rw[if_neg c]at h;cases h
 ·rintro⟨h1,h2,h3⟩;rw[if_pos ⟨h1,h2⟩,h3]
theorem dG (r:Nat):(aF r).nd 4 0=some r:=bQ.2 ⟨rfl,rfl,rfl⟩
theorem cl :an (aF r) f↔f=r:=by
 constructor
 ·rintro⟨lv,q,h⟩;exact(bQ.1 h).2.2
 ·rintro rfl;exact⟨4,0,dG _⟩
theorem eZ (r f:Nat):ah (aF r) f=0:=eo.2 fun i _ =>rfl
end
section
inductive dz (ino page r0:Int) (k:Nat) (d:Nat->Nat) (p:Pool) (L:List Slot) (clock:Int):Int->Nat->Pool->List Slot->Int->Prop
 |bad:page<0\/16<=page->dz ino page r0 k d p L clock 1 0 p L clock
 |err:0<=page->page<16->r0≠0->dz ino page r0 k d p L clock r0 0 p L clock
 |hit (s:Slot):0<=page->page<16->r0=0->L.find? (Slot.at ino page)=some s->dz ino page r0 k d p L clock 0 s.frame p (dK L ⟨ino,page,s.frame,clock+1⟩) (clock+1)
 |full:0<=page->page<16->r0=0->L.find? (Slot.at ino page)=none->ax p L 4 0 p L->dz ino page r0 k d p L clock 4 0 p L clock
 |miss (f:Nat) (p1:Pool) (L1:List Slot):0<=page->page<16->r0=0->L.find? (Slot.at ino page)=none->ax p L 0 f p1 L1->dz ino page r0 k d p L clock 0 f (p1.store f (laid (p1.dat f) d 0 k)) (dK L1 ⟨ino,page,f,clock+1⟩) (clock+1)
variable {L:List Slot} {i g:Int}
theorem eH (h:L.find? (Slot.at i g)=none):L.any (Slot.at i g)=false:=by
 rw[List.any_eq_false];rw[List.find?_eq_none]at h;exact h
variable {s:Slot}
theorem dH (h:L.find? (Slot.at i g)=some s):s∈L/\s.ino=i/\s.page=g:=⟨List.mem_of_find?_eq_some h,Slot.at_iff.1 (List.find?_some h)⟩
theorem jz (h:L.any (Slot.at s.ino s.page)=false) (f:Nat):aq (dK L s) f=aq L f+if s.frame=f then 1 else 0:=by
 unfold dK aq;rw[if_neg (by rw[h];decide),List.countP_append];by_cases e:s.frame=f
 ·simp[e]
 ·simp[e]
theorem jy (h:Sole L) {s0:Slot} (hs:s0∈L) (hi:s0.ino=s.ino) (hp:s0.page=s.page) (hf:s0.frame=s.frame) (f:Nat):aq (dK L s) f=aq L f:=by
 unfold dK aq;have ZH:L.any (Slot.at s.ino s.page)=true:=List.any_eq_true.2 ⟨s0,hs,Slot.at_iff.2 ⟨hi,hp⟩⟩;rw[if_pos ZH,List.countP_map];refine List.countP_congr fun x hx=>?_;simp only[Function.comp_apply];by_cases c:Slot.at s.ino s.page x=true
 ·rw[if_pos c];have hk:=Slot.at_iff.1 c;have:x=s0:=h.eq hx hs ⟨hk.1.trans hi.symm,hk.2.trans hp.symm⟩;rw[this,hf]
 ·rw[if_neg c]
theorem lL {L1:List Slot} (h:L.any (Slot.at i g)=false) (hs:L1.Sublist L):L1.any (Slot.at i g)=false:=by
 rw[List.any_eq_false]at h⊢;exact fun x hx=>h x (hs.subset hx)
theorem kM (h:Sole L) (s:Slot):Sole (dK L s):=by
 unfold dK;by_cases c:L.any (Slot.at s.ino s.page)=true
 ·rw[if_pos c];refine List.pairwise_map.2 (h.imp ?_);intro a b RS;have hk: ∀x:Slot,(if Slot.at s.ino s.page x=true then s else x).ino=x.ino/\(if Slot.at s.ino s.page x=true then s else x).page=x.page:=by
   intro x;by_cases e:Slot.at s.ino s.page x=true
   ·rw[if_pos e];have:=Slot.at_iff.1 e;exact⟨this.1.symm,this.2.symm⟩
   ·rw[if_neg e];exact⟨rfl,rfl⟩
  rw[(hk a).1,(hk a).2,(hk b).1,(hk b).2];exact RS
 ·rw[if_neg c];refine List.pairwise_append.2 ⟨h,List.pairwise_singleton _ _,?_⟩;intro a ha b hb;rw[List.mem_singleton]at hb;subst hb;intro e;exact c (List.any_eq_true.2 ⟨a,ha,Slot.at_iff.2 e⟩)
theorem gy {x:Slot} (h:x∈dK L s):x∈L\/x=s:=by
 unfold dK at h;split at h
 ·obtain⟨y,hy,e⟩:=List.mem_map.1 h;split at e
  ·exact .inr e.symm
  ·exact .inl (e▸hy)
 ·rcases List.mem_append.1 h with h|h
  ·exact .inl h
  ·exact .inr (List.mem_singleton.1 h)
variable {p p':Pool} {L':List Slot} {r:Int} {f:Nat}
theorem ax.size (h:ax p L r f p' L'):p'.n=p.n/\(r=0->f<p.n):=by
 cases h with
 |free f h1=>exact⟨rfl,fun _ =>(cC h1).1⟩
 |loose s h1 h2 h3=>exact⟨rfl,fun _ =>h3⟩
 |none=>exact⟨rfl,fun e=>by cases e⟩
theorem dz.slow {ino page r0:Int} {k:Nat} {d:Nat->Nat} {clock vQ:Int} {n:Nat} (h:dz ino page r0 k d p L clock r f p' L' vQ) (hn:p.n=n) (hL: ∀s∈L,s.frame<n): ∀s∈L',s.frame<n:=by
 cases h with
 |bad=>exact hL
 |err=>exact hL
 |hit s _ _ _ hs=>
  intro x hx;rcases gy hx with hx|rfl
  ·exact hL x hx
  ·exact hL s (dH hs).1
 |full=>exact hL
 |miss f p1 L1 _ _ _ _ ht=>
  intro x hx;rcases gy hx with hx|rfl
  ·exact hL x (ht.sub.subset hx)
  ·rw[<-hn];exact ht.size.2 rfl
end
section
open Go.RowKit Go.Maps Go.WideMaps Go.Sort
open Go.ChangeMaps (setBlock)
end
