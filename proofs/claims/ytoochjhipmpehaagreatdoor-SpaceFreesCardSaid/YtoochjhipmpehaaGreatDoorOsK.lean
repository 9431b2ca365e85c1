/- Spaces: Protect. Regions of a space: what is laid, cut out and protected keeps the files that regions name. Spaces over one cache: Unmap, Protect; -/
import Derived.Test.YtoochjhipmpehaaGreatDoorSwK
set_option linter.unusedVariables false
set_option linter.unusedSimpArgs false
set_option maxRecDepth 100000
set_option maxHeartbeats 8000000
namespace Go.Proofs.YtoochjhipmpehaaGreatDoor
section
open Go.RowKit Go.Sort
attribute [local go_sem] Oper.semAt_some
def prt (q:Nat) (l:Leaf):Leaf:= { l with prot:=q}
theorem mC (B c a fs m s t root n cap:Nat) (fr ot:Int) (q:Nat) (A:Option Addr) (rl:List Reg) (clock:Int) (w:World) (S:Nat->Prop) (F:List Nd) (p:Pool) (L:List Slot) (T:Tab) (hold:Nat->Nat)
  (hH:Home w B c a fs m S F clock p L) (hO:One w B c a m S s t root A n cap rl) (yw:Sp F hold p L T) (hr:T.nd 4 0=some root) (wM:dG rl) (h0:0<=fr) (h1:fr<=18446744073709551615) (h2:0<=ot) (h3:ot<=18446744073709551615) (vA:(Rg.protect rl fr ot q).1.length<=1000000) (BY:(Rg.protect rl fr ot q).2=0->ot<=140737488355328/\q<=7) (wT: ∀f,hold f<=100000000000):
  Calls Tryz.prog 27 #[.pointer (some ⟨s,0,none⟩), .int .u64 fr, .int .u64 ot, .int .u8 (q:Int)] w (jg w B c a fs m s t root S F clock L (Rg.protect rl fr ot q).1 (fun er=>er=(Rg.protect rl fr ot q).2) (fun p'=> ∃T',bO F hold (prt q) fr ot p L T T.puts.length p' T')):=by
 refine(callsIn_wide (n:=9)).1 ?_;refine callsIn_of_wp_marks Tryz.func27 rfl trivial ?_;simp only[Tryz.ntmps27,List.size_toArray,uX,List.length_nil,Nat.reduceAdd,Nat.reduceSub,Array.replicate_succ,Array.replicate_zero,List.push_toArray,List.append_toArray,List.nil_append,List.cons_append];obtain⟨w0,vo⟩: ∃w0,w0=(w.alloc (.cells #[.pointer (some ⟨s,0,none⟩)] 60)).alloc (.cells #[.int .u8 (q:Int)] 5):=⟨_,rfl⟩;have wb:w0.heap.size=w.heap.size+2:=(by rw[vo];simp);have vp:Below w.heap.size w w0:=(by rw[vo];exact uM.alloc (by simp) _);have zZ:w0.heap[w.heap.size]? =some (.cells #[.pointer (some ⟨s,0,none⟩)] 60 (0,0)):=(by rw[vo];exact(uO _ _ _ (by simp)).trans (ab w _));have YU:w0.heap[w.heap.size+1]? =some (.cells #[.int .u8 (q:Int)] 5 (0,0)):=(by rw[vo];have:=ab (w.alloc (.cells #[.pointer (some ⟨s,0,none⟩)] 60)) (.cells #[.int .u8 (q:Int)] 5);simpa using this);have AP:=hO.below vp;have EC:=hH.below vp;have xQ:=eI s c a t n cap A w0 AP.self;have hdw:Below w0.heap.size w0 w0.drew:=(vj w0.heap.size w0).drew;have Hg:=oD A n cap fr ot (q:Int) w0.drew rl (AP.row.below hdw (uN _)) wM h0 h1 h2 h3;have s0:w0.cell? ⟨w.heap.size,0,none⟩=some (.pointer (some ⟨s,0,none⟩)):=aa zZ 0;have q0:w0.cell? ⟨w.heap.size+1,0,none⟩=some (.int .u8 (q:Int)):=aa YU 0;have s3:w0.cell? ⟨s,3,none⟩=some (.slice A n cap):=aa AP.self 3;obtain⟨l2,wk⟩: ∃l2,l2=(Rg.protect rl fr ot q).1:=⟨_,rfl⟩;obtain⟨e2,Hu⟩: ∃e2,e2=(Rg.protect rl fr ot q).2:=⟨_,rfl⟩;unfold ji at Hg;rw[<-wk,<-Hu]at Hg;rw[<-wk,<-Hu];rw[<-wk]at vA;rw[<-Hu]at BY;have JV:Calls Tryz.prog 68 #[.slice A n cap, .int .u64 fr, .int .u64 ot, .int .u8 (q:Int)] w0.drew fun e w'=> ∃A' vk,e= .returned (.tuple #[.slice A' l2.length vk, .int .i64 e2])/\Hid (OwnR w' w0.heap.size A' vk l2)/\Hid (Below w0.heap.size w0 w'):=by
  refine Hg.mono ?_;rintro e W ⟨A5,AK,rfl,LG,MF⟩;exact⟨A5,AK,rfl,uK LG,uK (bC MF)⟩
 have Nm:=hO.lts.1;have wG:=uK xQ;have Vr:=uK JV;have vR:=uK vo;have CR:=uK wb;have wI:=uK vp;have zG:=uK zZ;have HQ0:=uK YU;have FU:=uK AP;have Jq:=uK EC;have yQ:=uK yw;have HR:=uK hr;have Lj:=uK (show¬S w.heap.size/\ ¬S (w.heap.size+1)from⟨fun e=>by have:=hH.lts.2.2 _ e;omega,fun e=>by have:=hH.lts.2.2 _ e;omega⟩);have Mu:c<w.heap.size/\m<w.heap.size:=⟨hH.lts.1,hH.lts.2.1⟩;have xv:s<w0.heap.size:=(by have:=CR.out;omega);have PL:w.heap.size<w0.heap.size/\w.heap.size+1<w0.heap.size:=(by have:=CR.out;omega);clear xQ Hg JV vo wb vp zZ YU AP EC hH hO yw hr wk Hu hdw;refine wpIn_wide.2 ?_;go_upto_region 3 with(first
  |(rw[<-vR.out];go_at_call 56;refine(wG.out).mono ?_;rintro e w1 ⟨rfl,rfl⟩)
  |fail)
 go_region_held3 (fun w'=>w'.cell? ⟨w.heap.size,0,none⟩=some (.pointer (some ⟨s,0,none⟩))/\w'.cell? ⟨w.heap.size+1,0,none⟩=some (.int .u8 (q:Int))/\w'.cell? ⟨s,3,none⟩=some (.slice A n cap))
  (go_keep)
  ((first
  |(go_at_call 68;refine(Vr.out).mono ?_;rintro e w1 ⟨A1,vn,rfl,vF,vu⟩;have d0:w1.cell? ⟨w.heap.size,0,none⟩=some (.pointer (some ⟨s,0,none⟩)):=(vu.out.cell PL.1).trans s0;have d1:w1.cell? ⟨w.heap.size+1,0,none⟩=some (.int .u8 (q:Int)):=(vu.out.cell PL.2).trans q0;have d3:w1.cell? ⟨s,3,none⟩=some (.slice A n cap):=(vu.out.cell xv).trans s3)))
 rename_i Q9 K9 hK9 hH9;refine hK9 _ _ ?_;clear hK9 hH9;refine(wpIn_wide (n:=9)).1 ?_;by_cases vD:e2=0
 rotate_left
 ·have vB:(e2 != 0)=true:=(by rw[bne_iff_ne];exact vD);have wi:=uK vD;clear vD
  gi_wp2
  refine⟨.int .i64 e2,by simp[results,Tryz.results27,go_sem], .inl ⟨e2,rfl,wi.out,rfl,wI.out.trans (vu.out.mono wI.out.size)⟩⟩
 subst vD;obtain⟨SL,hq7⟩:=BY rfl;clear BY;obtain⟨w2,we⟩: ∃w2,w2=w1.setCell ⟨s,3,none⟩ (.slice A1 l2.length vn):=⟨_,rfl⟩;obtain⟨EB,Ac,vE,vS⟩:=One.laid Jq.out FU.out vu.out vF.out (uN _) vA;rw[<-we]at EB Ac vE vS;have wO:=FU.out.below vu.out;have hQ2:=(vE.block _ (uJ HQ0.out).1 (by omega)).trans HQ0.out;have BD:=(vu.out.block _ (uJ zG.out).1).trans zG.out;have Bu:=(vE.block _ (uJ zG.out).1 (by omega)).trans zG.out;have s0:w1.cell? ⟨w.heap.size,0,none⟩=some (.pointer (some ⟨s,0,none⟩)):=aa BD 0;have s3:w1.cell? ⟨s,3,none⟩=some (.slice A n cap):=aa wO.self 3;have sf3:=ae wO.self 3;have t0:w2.cell? ⟨w.heap.size,0,none⟩=some (.pointer (some ⟨s,0,none⟩)):=aa Bu 0;have Di:=uK we;have Lo:=uK EB;have CF:=uK Ac;have FC:=uK vE;have IW:=uK Bu;have RP:=uK hQ2;have FY:w.heap.size<w2.heap.size:=(uJ Bu).1;clear we EB Ac vE wO BD Bu vS hQ2;gi_upto_region 7 with(fail);rw[<-Di.out];gi_wp2_with (first
  |(refine⟨trivial,?_⟩;refine(callsIn_wide.2 (fA _ _ _ w2)).mono ?_;rintro e w3 ⟨rfl,wX⟩;have Cy:=uK wX;clear wX)
  |fail)
 have xI:w3.heap.size=w2.heap.size+3:=(by rw[Cy.out];simp);refine bP rfl (by omega) (gf:=107) (lb:= #[.pointer (some ⟨w2.heap.size,0,none⟩), .pointer (some ⟨w2.heap.size+1,0,none⟩), .pointer (some ⟨w2.heap.size+1+1,0,none⟩)]) rfl trivial (enters_of Tryz.func107 (by kernel_rfl) rfl) ?_;rw[xI];intro fn Dy rec xx;refine(pG (9-1) (by omega) B c a fs m s t root A1 l2.length vn l2 S F clock p L T hold fr ot (.loop (rec .ready none)) (fun k p'=> ∃T',bO F hold (prt q) fr ot p L T k p' T') w2 w3 Lo.out CF.out yQ.out HR.out Cy.out ⟨T,bO.start yQ.out⟩ (fun k p' x ⟨T',h⟩ hx wz=>⟨T',h.skip hx wz⟩) ?_).mono ?_
 ·rintro R cp k W ⟨pg,fq,pr,cb⟩ p1 hj hx wz;dsimp only at wz;refine bB trivial xx hj.box.loop rfl ?_;obtain⟨ad,zS⟩: ∃ad:Int,ad=((pg*4096:Nat):Int):=⟨_,rfl⟩;dsimp only;rw[<-zS];obtain⟨T1,wE⟩:=hj.rel;have HX:=uK hx;have xU:=uK wz;have HJ:=uK hj;have FI:=uK zS;have xR:=uK wE;clear hx wz hj xx zS wE
  gi_wp2
  obtain⟨W1,Av⟩: ∃W1,W1=W.alloc (.cells #[.int .u64 ad, .int .i64 (fq:Int), .int .u8 (pr:Int), .bool cb] 85):=⟨_,rfl⟩;rw[<-Av];have vl:Below W.heap.size W W1:=(by rw[Av];exact uM);have yh:W1.heap[W.heap.size]? =some (.cells #[.int .u64 ad, .int .i64 (fq:Int), .int .u8 (pr:Int), .bool cb] 85 (0,0)):=(by rw[Av];exact ab W _);have wS:=HJ.out.below vl;refine⟨wS.box.loop,?_⟩;obtain⟨W2,wo⟩: ∃W2,W2=W1.putObj (w2.heap.size+3+1) (.loop (rec .busy none)):=⟨_,rfl⟩;rw[<-wo];have vE:Mod (fun b=>b=w2.heap.size+3+1) W1 W2:=(by rw[wo];exact az);have xn:=wS.box.loop;have Yb:=HJ.out.box.lts;have wk:W2.heap[w2.heap.size+3+1]? =some (.loop (rec .busy none)):=(by rw[wo];exact World.putObj_heap_same (uJ xn).1);have vw:=wS.run.set vE (fun b e=> .inl (by omega));have wV:km W2 s w2.heap.size fr ot (.loop (rec .busy none)):=⟨(vE.block _ (uJ wS.box.b1).1 (by omega)).trans wS.box.b1,(vE.block _ (uJ wS.box.b2).1 (by omega)).trans wS.box.b2,(vE.block _ (uJ wS.box.b3).1 (by omega)).trans wS.box.b3,(vE.block _ (uJ wS.box.mark).1 (by omega)).trans wS.box.mark,wk⟩;have xF:OwnP W2 (w2.heap.size+5) R cp T.puts:=wS.row.same fun g hg=>by
   have h9:=wS.row.blk g (by rw[hg];rfl);exact vE.block g h9.2 (by omega)
  have zE:=(vE.block _ (uJ yh).1 (by omega)).trans yh;have zA:=Lo.out.lts;have yc: ∀g,R.map (·.block)=some g->g<W.heap.size:=fun g hg=>(HJ.out.row.blk g hg).2;have Qv: ∀ad,A1=some ad->ad.block<w2.heap.size:=fun ad e=>(CF.out.noR ad e).2.2.2.2.2.2;have hSW: ¬S W.heap.size:=fun e=>by have:=HJ.out.run.home.lts.2.2 _ e;omega
  have Xd:W2.heap.size=W.heap.size+1:=(by rw[wo,Av];simp);have hWz:=HJ.out.run.size;have JM:=vw.add (K':=fun b=>ThK w2.heap.size R b\/b=W.heap.size) Qv (fun b e=>e.elim .inl (fun e=> .inr ⟨e▸hSW,by omega,by omega⟩));have fP2:=ae zE 2;have q0:W2.cell? ⟨w.heap.size+1,0,none⟩=some (.int .u8 (q:Int)):=aa ((vw.mod.block (w.heap.size+1) (uJ RP.out).1 (fun e=>e.elim (fun e=>Lj.out.2 e) (fun e=>by omega))).trans RP.out) 0;have x2:W2.cell? ⟨W.heap.size,2,none⟩=some (.int .u8 (pr:Int)):=aa zE 2;obtain⟨W3,Bc⟩: ∃W3,W3=W2.setCell ⟨W.heap.size,2,none⟩ (.int .u8 (q:Int)):=⟨_,rfl⟩;have wP:Mod (fun b=>b=W.heap.size) W2 W3:=(by rw[Bc];exact al (S:=fun b=>b=W.heap.size) rfl 2 _);have Aa:W3.heap[W.heap.size]? =some (.cells #[.int .u64 ad, .int .i64 (fq:Int), .int .u8 (q:Int), .bool cb] 85 (0,0)):=by
   rw[Bc];have h9:=Joins.block_setCell (i:=2) zE (.int .u8 (q:Int));simpa using h9
  have wJ:=(JM.set wP (fun b e=> .inr e)).sub (K':=ThK w2.heap.size R) (fun b e=> .inl e);have Oa:=wV.keep (W':=W3) (fun b h1 h2=>wP.block b (by omega) (by omega));have EN:OwnP W3 (w2.heap.size+5) R cp T.puts:=xF.same fun g hg=>wP.block g (by have:=yc g (by rw[hg];rfl);omega) (by have:=yc g (by rw[hg];rfl);omega);have Gx:W3.heap[w.heap.size]? =w2.heap[w.heap.size]? :=wJ.mod.block w.heap.size FY (fun e=>e.elim (fun e=>Lj.out.1 e) (fun e=>by omega));have c0:W3.cell? ⟨w.heap.size,0,none⟩=some (.pointer (some ⟨s,0,none⟩)):=aa (Gx.trans IW.out) 0;have s2:W3.cell? ⟨s,2,none⟩=some (.pointer (some ⟨t,0,none⟩)):=aa wJ.one.self 2;have x0:W3.cell? ⟨W.heap.size,0,none⟩=some (.int .u64 ad):=aa Aa 0;have y1:W3.cell? ⟨W.heap.size,1,none⟩=some (.int .i64 (fq:Int)):=aa Aa 1;have y2:W3.cell? ⟨W.heap.size,2,none⟩=some (.int .u8 (q:Int)):=aa Aa 2;have y3:W3.cell? ⟨W.heap.size,3,none⟩=some (.bool cb):=aa Aa 3;have wB:T1.nd 4 0=some root:=(by rw[xR.out.nd];exact HR.out);obtain⟨was,hw,FJ⟩:=xR.out.was yQ.out HX.out (fun _ =>rfl);dsimp only at hw FJ;obtain⟨gg,PG⟩:=xR.out.sp.node1 hw;obtain⟨n1,n2,n3,n4,n5,n6⟩:=xR.out.sp.leaf hw;rw[FJ]at n3 n4;have yU:pg<34359738368:=(by have h9:=fJ.1 xU.out;omega);have xV:=gv t c a root 0 ad ⟨fq,q,cb⟩ W3.drew S p1 T1 (held L hold) wJ.home.cache.pool.drew wJ.one.tab wJ.one.noT.1 xR.out.sp.good wB (by have:=FI.out;omega) hq7 n3 n4 (by have h9:=xR.out.sp.cap n3;have h8:=wT fq;show p1.cnt fq+1<_;omega) (fq:Int) (q:Int) rfl rfl;have zU:Calls Tryz.prog 69 #[.pointer (some ⟨t,0,none⟩), .int .u64 ad, .agg #[.int .i64 (fq:Int), .int .u8 (q:Int), .bool cb]] W3.drew fun e W=>e= .returned (.int .i64 0)/\Hid (ai W S a (bm p1 was ⟨fq,q,cb⟩ gg pg))/\Hid (Mod S W3 W):=by
   refine xV.mono ?_;rw[fC (was:=was) (g:=gg) FI.out yU (by omega) (by rw[aW n3];omega) hw PG];rintro e W ⟨rfl,hP,xr⟩;exact⟨rfl,uK (by simpa using hP),uK xr.undrew⟩
  have Ek:=uK zU;have vZ:=uK wJ;have xT:=uK Oa;have CB:=uK EN;have Zv:=uK Bc;have HW:=uK hw;have HGG:=uK PG;clear xV zU vw JM wJ wV Oa xF EN Av wo Bc vl yh zE Aa vE wP xn wk wS Gx wB hw PG FJ n5 n6 Xd hWz;gi_upto_region 10 with(fail);rw[<-Zv.out];refine bU (fun w'=>w'.cell? ⟨w.heap.size,0,none⟩=some (.pointer (some ⟨s,0,none⟩))/\w'.cell? ⟨s,2,none⟩=some (.pointer (some ⟨t,0,none⟩))/\w'.cell? ⟨W.heap.size,0,none⟩=some (.int .u64 ad)/\w'.cell? ⟨W.heap.size,1,none⟩=some (.int .i64 (fq:Int))/\w'.cell? ⟨W.heap.size,2,none⟩=some (.int .u8 (q:Int))/\w'.cell? ⟨W.heap.size,3,none⟩=some (.bool cb)) 8 (by kernel_rfl) (by kernel_rfl) (cY.of 7 (by kernel_rfl) (by kernel_rfl)) ⟨c0,s2,x0,y1,y2,y3⟩ ?_;intro QI BO;refine zt 0 ?_;refine zt 1 ?_;refine zt 2 ?_;refine zt 3 ?_;refine zt 4 ?_;refine zt 5 ?_;refine zt 6 ?_;refine zt 7 ?_;refine bg 8 (by kernel_rfl) rfl rfl (fun K' hK=>?_)
  go_simp
  refine(Ek.out).mono ?_;rintro e W6 ⟨rfl,MM,LN⟩;obtain⟨xz,BJ⟩:=vZ.out.pool MM.out LN.out;go_wp2_with fail;refine hK.out _ _ ?_;clear hK K';refine bj (by kernel_rfl) ?_ _;refine aV ?_;have wh:=xT.out.keep (W':=W6) (fun b h1 h2=>BJ b (.inl ⟨h1,h2⟩));have zq:OwnP W6 (w2.heap.size+5) R cp T.puts:=CB.out.same fun g hg=>BJ g (.inr (by rw[hg];rfl));have xj:=az (l:=w2.heap.size+3+1) (o:= .loop (rec .ready none)) (W:=W6);have yV:=wh.loop;have Bp: ∀ {b:Nat} {o:Obj},W6.heap[b]? =some o->b≠w2.heap.size+3+1->(W6.putObj (w2.heap.size+3+1) (.loop (rec .ready none))).heap[b]? =some o:=fun h1 h2=>(xj.block _ (uJ h1).1 h2).trans h1;refine⟨yV,rfl,_,xz.set xj (fun b e=> .inl (by omega)),⟨Bp wh.b1 (by omega),Bp wh.b2 (by omega),Bp wh.b3 (by omega),Bp wh.mark (by omega),World.putObj_heap_same (uJ yV).1⟩,zq.same fun g hg=>?_,_,xR.out.step yQ.out HX.out xU.out (fun _ =>rfl) hq7 HW.out HGG.out⟩;have h9:=zq.blk g (by rw[hg];rfl);exact xj.block g h9.2 (by omega)
 ·rintro e W ⟨hv,R,cp,p1,hj⟩;refine⟨hv, .inl ⟨hj.box.loop,?_⟩⟩;obtain⟨W2,wo⟩: ∃W2,W2=W.putObj (w2.heap.size+3+1) (.loop (rec .exhausted none)):=⟨_,rfl⟩;rw[<-wo];have vE:Mod (fun b=>b=w2.heap.size+3+1) W W2:=(by rw[wo];exact az);have vw:=hj.run.set vE (fun b e=> .inl (by omega));have BL:=(vE.block _ (uJ hj.box.mark).1 (by omega)).trans hj.box.mark;have vZ:=uK vw;have BP:=uK BL;have GJ:=uK hj.rel;clear wo vE vw BL hj xx hv;unfold dv
  gi_wp2
  refine⟨by simp, .inl ⟨_,_,rfl,run_takeDeferred BP.out,?_⟩⟩;have Ca:=az (l:=w2.heap.size+3) (o:= .deferred none) (W:=W2);have vC:=vZ.out.set Ca (fun b e=> .inl (by omega));refine⟨.int .i64 0,by simp[results,Tryz.results27,go_sem], .inr ⟨rfl,rfl,A1,vn,p1,vC.home,vC.one,?_,(fun ad e=>by have h1:=vF.out.row ad.block (by rw[e];rfl);have h2:=wI.out.size;omega),GJ.out⟩⟩;have hA:Mod (fun b=>av S c m b\/b=s) w w2:=((Mod.of wI.out).trans (Out.refl _ _) (FC.out)).sub fun b e=> .inr e;exact hA.trans (Out.refl _ _) (vC.mod.sub fun b e=> .inl e)
end
section
variable {l:List Reg} {a:Int} {x:Reg}
theorem tY (h:x∈Rg.ats l a): ∃r∈l,x.ino=r.ino:=by
 obtain⟨r,hr,e⟩:=List.mem_map.1 h;exact⟨r,(List.mem_filter.1 hr).1,by rw[<-e];rfl⟩
variable {r:Reg}
theorem ats_mem (hr:r∈l) (h:r.fr<r.to):Rg.hit r.fr r∈Rg.ats l r.fr:=
 List.mem_map.2 ⟨r,List.mem_filter.2 ⟨hr,by simp[Rg.holds];omega⟩,rfl⟩
variable {F:List Nd}
theorem Rgs.of {out:List Reg} (hr:Rg.right out=true) (wM:dG out) (h: ∀a,∀x∈Rg.ats out a,0<=x.ino->dX F x.ino):Rgs F out:=
 ⟨hr,wM,fun r hm h0=>h r.fr (Rg.hit r.fr r) (ats_mem hm (aE (eh hr r hm)).1) h0⟩
theorem Rgs.ats (h:Rgs F l) (hx:x∈Rg.ats l a) (h0:0<=x.ino):dX F x.ino:=by
 obtain⟨r,hr,e⟩:=tY hx;rw[e]at h0⊢;exact h.file r hr h0
theorem Rgs.put (h:Rgs F l) (As:r.Ok) (he:(Rg.put l r).2=0) (hf:0<=r.ino->dX F r.ino):Rgs F (Rg.put l r).1:=by
 obtain⟨a1,a2,a3⟩:=put_fits (l:=l) (out:=(Rg.put l r).1) h.ok As (by rw[<-he]);refine Rgs.of a1 a2 fun a x hx h0=>?_;rw[a3 a]at hx;split at hx
 ·obtain⟨y,hy,e⟩:=tY hx;rw[List.mem_singleton.1 hy]at e;rw[e]at h0⊢;exact hf h0
 ·exact h.ats hx h0
variable {f t:Int}
theorem Rgs.cut (h:Rgs F l) (he:(Rg.cut l f t).2=0):Rgs F (Rg.cut l f t).1:=by
 obtain⟨a1,a2,a3⟩:=cut_fits (l:=l) (out:=(Rg.cut l f t).1) h.ok (by rw[<-he]);refine Rgs.of a1 a2 fun a x hx h0=>?_;rw[a3 a]at hx;split at hx
 ·cases hx
 ·exact h.ats hx h0
theorem Rgs.prot {p:Int} (h:Rgs F l) (hp:0<=p) (he:(Rg.protect l f t p).2=0):Rgs F (Rg.protect l f t p).1:=by
 obtain⟨a1,a2,a3,_⟩:=mN (l:=l) (out:=(Rg.protect l f t p).1) h.ok hp (by rw[<-he]);refine Rgs.of a1 a2 fun a x hx h0=>?_;rw[a3 a]at hx;split at hx
 ·obtain⟨y,hy,e⟩:=List.mem_map.1 hx;rw[<-e]at h0⊢;exact Rgs.ats (x:=y) h hy h0
 ·exact h.ats hx h0
theorem tL (rl:List Reg) (f t:Int):(Rg.cut rl f t).1.length<=64/\((Rg.cut rl f t).2=0->t<=140737488355328):=by
 unfold Rg.cut;split
 ·rename_i hc;have h1:=cv hc;unfold Rg.few;split
  ·exact⟨by simp,fun e=>by simp at e⟩
  ·exact⟨by dsimp only;omega,fun _ =>by omega⟩
 ·exact⟨by simp,fun e=>by simp at e⟩
theorem pR (rl:List Reg) (f t:Int) (q:Nat):(Rg.protect rl f t q).1.length<=64/\((Rg.protect rl f t q).2=0->t<=140737488355328/\q<=7):=by
 unfold Rg.protect;split
 ·rename_i hc;have h1:=cv hc.1;have h2:=hc.2;split
  ·unfold Rg.few;split
   ·exact⟨by simp,fun e=>by simp at e⟩
   ·exact⟨by dsimp only;omega,fun _ =>⟨by omega,by omega⟩⟩
  ·exact⟨by simp,fun e=>by simp at e⟩
 ·exact⟨by simp,fun e=>by simp at e⟩
end
section
open Go.RowKit Go.Sort
variable {w:World} {B c a fs m:Nat} {S:Nat->Prop} {F:List Nd} {clock:Int} {p:Pool} {L:List Slot} {l:List SpM} {k:Nat} {x:SpM} {T:Tab}
theorem bO.rel {f t:Int} {q kk:Nat} {hold:Nat->Nat} {p':Pool} {T':Tab} (h0:Sp F hold p L T) (ho:Own p T) (h:bO F hold (prt q) f t p L T kk p' T'):Sp F hold p' L T'/\(∀E,Far hold T E p p')/\Own p' T'/\T'.nd 4 0=T.nd 4 0/\ ∀g y,T'.lf g=some y-> ∃z,T.lf g=some z:=by
 refine⟨h.sp,h.far,h.own h0 (fun _ =>rfl) (fun _ e=>e) ho,by rw[h.nd],fun g y hy=>?_⟩;have h1:=h.lf g;rw[hy]at h1;split at h1
 ·cases hz:T.lf g with
  |none=>rw[hz]at h1;cases h1
  |some z=>exact⟨z,rfl⟩
 ·exact⟨y,h1.symm⟩
theorem hmap' (h:Hse w B c a fs m S F clock p L l) (hk:l[k]? =some x) (hT:x.T=some T) (r:Reg) (EO:r.Ok):
  Calls Tryz.prog 25 #[.pointer (some ⟨x.s,0,none⟩), .agg #[.int .u64 (r).fr, .int .u64 (r).to, .int .u8 (r).prot, .int .i64 (r).ino, .int .u64 (r).off]] w (fx w B c a fs m S F clock L l k x p (Rg.put x.rl r).1 (fun er=>er=eu F x.rl r) (fun p' T'=>cG F (tnS ((l.map (·.T)).set k none)) r.fr r.to p L T T.puts.length p' T')):=
 hmap h hk hT r EO fun e hf=>(h.live hk hT).rgs.put EO e hf
theorem hunmap (h:Hse w B c a fs m S F clock p L l) (hk:l[k]? =some x) (hT:x.T=some T) (fr ot:Int) (h0:0<=fr) (h1:fr<=18446744073709551615) (h2:0<=ot) (h3:ot<=18446744073709551615):
  Calls Tryz.prog 26 #[.pointer (some ⟨x.s,0,none⟩), .int .u64 fr, .int .u64 ot] w (fx w B c a fs m S F clock L l k x p (Rg.cut x.rl fr ot).1 (fun er=>er=(Rg.cut x.rl fr ot).2) (fun p' T'=>cG F (tnS ((l.map (·.T)).set k none)) fr ot p L T T.puts.length p' T')):=by
 have xm:=h.live hk hT;refine(qx B c a fs m x.s x.t x.root x.n x.cap fr ot x.A x.rl clock w S F p L T _ h.home xm.one (h.sp hk hT) xm.root xm.rgs.ok h0 h1 h2 h3 (by have:=(tL x.rl fr ot).1;omega) (tL x.rl fr ot).2).mono fun e w' hp=>?_;exact hturn h hk hT hp (fun h0=>xm.rgs.cut h0.symm) (fun p' T' hr=>hr.rel (h.sp hk hT) (h.ownT hk hT))
theorem hprotect (h:Hse w B c a fs m S F clock p L l) (hk:l[k]? =some x) (hT:x.T=some T) (hl:l.length<=100) (fr ot:Int) (q:Nat) (h0:0<=fr) (h1:fr<=18446744073709551615) (h2:0<=ot) (h3:ot<=18446744073709551615):
  Calls Tryz.prog 27 #[.pointer (some ⟨x.s,0,none⟩), .int .u64 fr, .int .u64 ot, .int .u8 (q:Int)] w (fx w B c a fs m S F clock L l k x p (Rg.protect x.rl fr ot q).1 (fun er=>er=(Rg.protect x.rl fr ot q).2) (fun p' T'=>bO F (tnS ((l.map (·.T)).set k none)) (prt q) fr ot p L T T.puts.length p' T')):=by
 have xm:=h.live hk hT;refine(mC B c a fs m x.s x.t x.root x.n x.cap fr ot q x.A x.rl clock w S F p L T _ h.home xm.one (h.sp hk hT) xm.root xm.rgs.ok h0 h1 h2 h3 (by have:=(pR x.rl fr ot q).1;omega) (pR x.rl fr ot q).2 (h.caps hl k)).mono fun e w' hp=>?_;exact hturn h hk hT hp (fun h0=>xm.rgs.prot (by omega) h0.symm) (fun p' T' hr=>hr.rel (h.sp hk hT) (h.ownT hk hT))
end
