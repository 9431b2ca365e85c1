/- Spaces: Protect. Regions of a space: what is laid, cut out and protected keeps the files that regions name. Spaces over one cache: Unmap, Protect; -/
import Derived.Test.YtoochjhipmpehaaGreatDoorSwK
set_option linter.unusedVariables false
set_option linter.unusedSimpArgs false
set_option maxRecDepth 100000
set_option maxHeartbeats 8000000
namespace Go.Proofs.YtoochjhipmpehaaGreatDoor
section
open Go.RowKit Go.Sort
attribute [local go_sem] Oper.semAt_some
def prt (q:Nat) (l:Leaf):Leaf:= { l with prot:=q}
theorem mH (B c a fs m s t root n cap:Nat) (fr ot:Int) (q:Nat) (A:Option Addr) (rl:List Reg) (clock:Int) (w:World) (S:Nat->Prop) (F:List Nd) (p:Pool) (L:List Slot) (T:Tab) (hold:Nat->Nat)
  (hH:Home w B c a fs m S F clock p L) (hO:One w B c a m S s t root A n cap rl) (xM:Sp F hold p L T) (hr:T.nd 4 0=some root) (wz:dy rl) (h0:0<=fr) (h1:fr<=18446744073709551615) (h2:0<=ot) (h3:ot<=18446744073709551615) (vH:(Rg.protect rl fr ot q).1.length<=1000000) (Br:(Rg.protect rl fr ot q).2=0->ot<=140737488355328/\q<=7) (wB: ∀f,hold f<=100000000000):
  Calls Tryz.prog 27 #[.pointer (some ⟨s,0,none⟩), .int .u64 fr, .int .u64 ot, .int .u8 (q:Int)] w (jf w B c a fs m s t root S F clock L (Rg.protect rl fr ot q).1 (fun er=>er=(Rg.protect rl fr ot q).2) (fun p'=> ∃T',bH F hold (prt q) fr ot p L T T.puts.length p' T')):=by
 refine(callsIn_wide (n:=9)).1 ?_;refine callsIn_of_wp_marks Tryz.func27 rfl trivial ?_;simp only[Tryz.ntmps27,List.size_toArray,uU,List.length_nil,Nat.reduceAdd,Nat.reduceSub,Array.replicate_succ,Array.replicate_zero,List.push_toArray,List.append_toArray,List.nil_append,List.cons_append];obtain⟨w0,vl⟩: ∃w0,w0=(w.alloc (.cells #[.pointer (some ⟨s,0,none⟩)] 60)).alloc (.cells #[.int .u8 (q:Int)] 5):=⟨_,rfl⟩;have vQ:w0.heap.size=w.heap.size+2:=(by rw[vl];simp);have vm:Below w.heap.size w w0:=(by rw[vl];exact uJ.alloc (by simp) _);have zo:w0.heap[w.heap.size]? =some (.cells #[.pointer (some ⟨s,0,none⟩)] 60 (0,0)):=(by rw[vl];exact(uL _ _ _ (by simp)).trans (ab w _));have YF:w0.heap[w.heap.size+1]? =some (.cells #[.int .u8 (q:Int)] 5 (0,0)):=(by rw[vl];have:=ab (w.alloc (.cells #[.pointer (some ⟨s,0,none⟩)] 60)) (.cells #[.int .u8 (q:Int)] 5);simpa using this);have Ac:=hO.below vm;have DP:=hH.below vm;have xn:=cT s c a t n cap A w0 Ac.self;have hdw:Below w0.heap.size w0 w0.drew:=(vg w0.heap.size w0).drew;have Ge:=ow A n cap fr ot (q:Int) w0.drew rl (Ac.row.below hdw (uK _)) wz h0 h1 h2 h3;have s0:w0.cell? ⟨w.heap.size,0,none⟩=some (.pointer (some ⟨s,0,none⟩)):=aa zo 0;have q0:w0.cell? ⟨w.heap.size+1,0,none⟩=some (.int .u8 (q:Int)):=aa YF 0;have s3:w0.cell? ⟨s,3,none⟩=some (.slice A n cap):=aa Ac.self 3;obtain⟨l2,vV⟩: ∃l2,l2=(Rg.protect rl fr ot q).1:=⟨_,rfl⟩;obtain⟨e2,Gs⟩: ∃e2,e2=(Rg.protect rl fr ot q).2:=⟨_,rfl⟩;unfold jh at Ge;rw[<-vV,<-Gs]at Ge;rw[<-vV,<-Gs];rw[<-vV]at vH;rw[<-Gs]at Br;have IW:Calls Tryz.prog 68 #[.slice A n cap, .int .u64 fr, .int .u64 ot, .int .u8 (q:Int)] w0.drew fun e w'=> ∃A' vh,e= .returned (.tuple #[.slice A' l2.length vh, .int .i64 e2])/\Hid (OwnR w' w0.heap.size A' vh l2)/\Hid (Below w0.heap.size w0 w'):=by
  refine Ge.mono ?_;rintro e W ⟨A5,zW,rfl,KR,Im⟩;exact⟨A5,zW,rfl,uH KR,uH (bu Im)⟩
 have MB:=hO.lts.1;have wi:=uH xn;have UY:=uH IW;have vF:=uH vl;have Cg:=uH vQ;have wj:=uH vm;have yQ:=uH zo;have HQ0:=uH YF;have EX:=uH Ac;have Ir:=uH DP;have yc:=uH xM;have HR:=uH hr;have Ku:=uH (show¬S w.heap.size/\ ¬S (w.heap.size+1)from⟨fun e=>by have:=hH.lts.2.2 _ e;omega,fun e=>by have:=hH.lts.2.2 _ e;omega⟩);have Pq:c<w.heap.size/\m<w.heap.size:=⟨hH.lts.1,hH.lts.2.1⟩;have AX:s<w0.heap.size:=(by have:=Cg.out;omega);have Ph:w.heap.size<w0.heap.size/\w.heap.size+1<w0.heap.size:=(by have:=Cg.out;omega);clear xn Ge IW vl vQ vm zo YF Ac DP hH hO xM hr vV Gs hdw;refine wpIn_wide.2 ?_;go_upto_region 3 with(first
  |(rw[<-vF.out];go_at_call 56;refine(wi.out).mono ?_;rintro e w1 ⟨rfl,rfl⟩)
  |fail)
 go_region_held3 (fun w'=>w'.cell? ⟨w.heap.size,0,none⟩=some (.pointer (some ⟨s,0,none⟩))/\w'.cell? ⟨w.heap.size+1,0,none⟩=some (.int .u8 (q:Int))/\w'.cell? ⟨s,3,none⟩=some (.slice A n cap))
  (go_keep)
  ((first
  |(go_at_call 68;refine(UY.out).mono ?_;rintro e w1 ⟨A1,vj,rfl,vx,vq⟩;have d0:w1.cell? ⟨w.heap.size,0,none⟩=some (.pointer (some ⟨s,0,none⟩)):=(vq.out.cell Ph.1).trans s0;have d1:w1.cell? ⟨w.heap.size+1,0,none⟩=some (.int .u8 (q:Int)):=(vq.out.cell Ph.2).trans q0;have d3:w1.cell? ⟨s,3,none⟩=some (.slice A n cap):=(vq.out.cell AX).trans s3)))
 rename_i Q9 K9 hK9 hH9;refine hK9 _ _ ?_;clear hK9 hH9;refine(wpIn_wide (n:=9)).1 ?_;by_cases vw:e2=0
 rotate_left
 ·have vu:(e2 != 0)=true:=(by rw[bne_iff_ne];exact vw);have vT:=uH vw;clear vw
  gi_wp2
  refine⟨.int .i64 e2,by simp[results,Tryz.results27,go_sem], .inl ⟨e2,rfl,vT.out,rfl,wj.out.trans (vq.out.mono wj.out.size)⟩⟩
 subst vw;obtain⟨Su,hq7⟩:=Br rfl;clear Br;obtain⟨w2,vU⟩: ∃w2,w2=w1.setCell ⟨s,3,none⟩ (.slice A1 l2.length vj):=⟨_,rfl⟩;obtain⟨FG,zp,vy,vO⟩:=One.laid Ir.out EX.out vq.out vx.out (uK _) vH;rw[<-vU]at FG zp vy vO;have wo:=EX.out.below vq.out;have hQ2:=(vy.block _ (uG HQ0.out).1 (by omega)).trans HQ0.out;have AU:=(vq.out.block _ (uG yQ.out).1).trans yQ.out;have AK:=(vy.block _ (uG yQ.out).1 (by omega)).trans yQ.out;have s0:w1.cell? ⟨w.heap.size,0,none⟩=some (.pointer (some ⟨s,0,none⟩)):=aa AU 0;have s3:w1.cell? ⟨s,3,none⟩=some (.slice A n cap):=aa wo.self 3;have sf3:=ae wo.self 3;have t0:w2.cell? ⟨w.heap.size,0,none⟩=some (.pointer (some ⟨s,0,none⟩)):=aa AK 0;have Cv:=uH vU;have KA:=uH FG;have BU:=uH zp;have EK:=uH vy;have Hq:=uH AK;have Rt:=uH hQ2;have Fc:w.heap.size<w2.heap.size:=(uG AK).1;clear vU FG zp vy wo AU AK vO hQ2;gi_upto_region 7 with(fail);rw[<-Cv.out];gi_wp2_with (first
  |(refine⟨trivial,?_⟩;refine(callsIn_wide.2 (fo _ _ _ w2)).mono ?_;rintro e w3 ⟨rfl,wE⟩;have BO:=uH wE;clear wE)
  |fail)
 have xq:w3.heap.size=w2.heap.size+3:=(by rw[BO.out];simp);refine bI rfl (by omega) (gf:=107) (lb:= #[.pointer (some ⟨w2.heap.size,0,none⟩), .pointer (some ⟨w2.heap.size+1,0,none⟩), .pointer (some ⟨w2.heap.size+1+1,0,none⟩)]) rfl trivial (enters_of Tryz.func107 (by kernel_rfl) rfl) ?_;rw[xq];intro fn CI rec wO;refine(pB (9-1) (by omega) B c a fs m s t root A1 l2.length vj l2 S F clock p L T hold fr ot (.loop (rec .ready none)) (fun k p'=> ∃T',bH F hold (prt q) fr ot p L T k p' T') w2 w3 KA.out BU.out yc.out HR.out BO.out ⟨T,bH.start yc.out⟩ (fun k p' x ⟨T',h⟩ hx vZ=>⟨T',h.skip hx vZ⟩) ?_).mono ?_
 ·rintro R cp k W ⟨pg,fq,pr,cb⟩ p1 hj hx vZ;dsimp only at vZ;refine br trivial wO hj.box.loop rfl ?_;obtain⟨ad,zc⟩: ∃ad:Int,ad=((pg*4096:Nat):Int):=⟨_,rfl⟩;dsimp only;rw[<-zc];obtain⟨T1,zS⟩:=hj.rel;have HX:=uH hx;have xp:=uH vZ;have HJ:=uH hj;have EN:=uH zc;have xV:=uH zS;clear hx vZ hj wO zc zS
  gi_wp2
  obtain⟨W1,zF⟩: ∃W1,W1=W.alloc (.cells #[.int .u64 ad, .int .i64 (fq:Int), .int .u8 (pr:Int), .bool cb] 85):=⟨_,rfl⟩;rw[<-zF];have vk:Below W.heap.size W W1:=(by rw[zF];exact uJ);have AL:W1.heap[W.heap.size]? =some (.cells #[.int .u64 ad, .int .i64 (fq:Int), .int .u8 (pr:Int), .bool cb] 85 (0,0)):=(by rw[zF];exact ab W _);have wA:=HJ.out.below vk;refine⟨wA.box.loop,?_⟩;obtain⟨W2,vW⟩: ∃W2,W2=W1.putObj (w2.heap.size+3+1) (.loop (rec .busy none)):=⟨_,rfl⟩;rw[<-vW];have vy:Mod (fun b=>b=w2.heap.size+3+1) W1 W2:=(by rw[vW];exact az);have wM:=wA.box.loop;have XI:=HJ.out.box.lts;have vV:W2.heap[w2.heap.size+3+1]? =some (.loop (rec .busy none)):=(by rw[vW];exact World.putObj_heap_same (uG wM).1);have vr:=wA.run.set vy (fun b e=> .inl (by omega));have wD:kq W2 s w2.heap.size fr ot (.loop (rec .busy none)):=⟨(vy.block _ (uG wA.box.b1).1 (by omega)).trans wA.box.b1,(vy.block _ (uG wA.box.b2).1 (by omega)).trans wA.box.b2,(vy.block _ (uG wA.box.b3).1 (by omega)).trans wA.box.b3,(vy.block _ (uG wA.box.mark).1 (by omega)).trans wA.box.mark,vV⟩;have xb:OwnP W2 (w2.heap.size+5) R cp T.puts:=wA.row.same fun g hg=>by
   have h9:=wA.row.blk g (by rw[hg];rfl);exact vy.block g h9.2 (by omega)
  have zU:=(vy.block _ (uG AL).1 (by omega)).trans AL;have yK:=KA.out.lts;have xu: ∀g,R.map (·.block)=some g->g<W.heap.size:=fun g hg=>(HJ.out.row.blk g hg).2;have PU: ∀ad,A1=some ad->ad.block<w2.heap.size:=fun ad e=>(BU.out.noR ad e).2.2.2.2.2.2;have hSW: ¬S W.heap.size:=fun e=>by have:=HJ.out.run.home.lts.2.2 _ e;omega
  have WM:W2.heap.size=W.heap.size+1:=(by rw[vW,zF];simp);have hWz:=HJ.out.run.size;have IM:=vr.add (K':=fun b=>ThK w2.heap.size R b\/b=W.heap.size) PU (fun b e=>e.elim .inl (fun e=> .inr ⟨e▸hSW,by omega,by omega⟩));have fP2:=ae zU 2;have q0:W2.cell? ⟨w.heap.size+1,0,none⟩=some (.int .u8 (q:Int)):=aa ((vr.mod.block (w.heap.size+1) (uG Rt.out).1 (fun e=>e.elim (fun e=>Ku.out.2 e) (fun e=>by omega))).trans Rt.out) 0;have x2:W2.cell? ⟨W.heap.size,2,none⟩=some (.int .u8 (pr:Int)):=aa zU 2;obtain⟨W3,Aq⟩: ∃W3,W3=W2.setCell ⟨W.heap.size,2,none⟩ (.int .u8 (q:Int)):=⟨_,rfl⟩;have xh:Mod (fun b=>b=W.heap.size) W2 W3:=(by rw[Aq];exact aj (S:=fun b=>b=W.heap.size) rfl 2 _);have BJ:W3.heap[W.heap.size]? =some (.cells #[.int .u64 ad, .int .i64 (fq:Int), .int .u8 (q:Int), .bool cb] 85 (0,0)):=by
   rw[Aq];have h9:=Joins.block_setCell (i:=2) zU (.int .u8 (q:Int));simpa using h9
  have wk:=(IM.set xh (fun b e=> .inr e)).sub (K':=ThK w2.heap.size R) (fun b e=> .inl e);have Nm:=wD.keep (W':=W3) (fun b h1 h2=>xh.block b (by omega) (by omega));have Ea:OwnP W3 (w2.heap.size+5) R cp T.puts:=xb.same fun g hg=>xh.block g (by have:=xu g (by rw[hg];rfl);omega) (by have:=xu g (by rw[hg];rfl);omega);have FB:W3.heap[w.heap.size]? =w2.heap[w.heap.size]? :=wk.mod.block w.heap.size Fc (fun e=>e.elim (fun e=>Ku.out.1 e) (fun e=>by omega));have c0:W3.cell? ⟨w.heap.size,0,none⟩=some (.pointer (some ⟨s,0,none⟩)):=aa (FB.trans Hq.out) 0;have s2:W3.cell? ⟨s,2,none⟩=some (.pointer (some ⟨t,0,none⟩)):=aa wk.one.self 2;have x0:W3.cell? ⟨W.heap.size,0,none⟩=some (.int .u64 ad):=aa BJ 0;have y1:W3.cell? ⟨W.heap.size,1,none⟩=some (.int .i64 (fq:Int)):=aa BJ 1;have y2:W3.cell? ⟨W.heap.size,2,none⟩=some (.int .u8 (q:Int)):=aa BJ 2;have y3:W3.cell? ⟨W.heap.size,3,none⟩=some (.bool cb):=aa BJ 3;have wg:T1.nd 4 0=some root:=(by rw[xV.out.nd];exact HR.out);obtain⟨was,hw,EO⟩:=xV.out.was yc.out HX.out (fun _ =>rfl);dsimp only at hw EO;obtain⟨gg,Pc⟩:=xV.out.sp.node1 hw;obtain⟨n1,n2,n3,n4,n5,n6⟩:=xV.out.sp.leaf hw;rw[EO]at n3 n4;have yg:pg<34359738368:=(by have h9:=fC.1 xp.out;omega);have xr:=gm t c a root 0 ad ⟨fq,q,cb⟩ W3.drew S p1 T1 (held L hold) wk.home.cache.pool.drew wk.one.tab wk.one.noT.1 xV.out.sp.good wg (by have:=EN.out;omega) hq7 n3 n4 (by have h9:=xV.out.sp.cap n3;have h8:=wB fq;show p1.cnt fq+1<_;omega) (fq:Int) (q:Int) rfl rfl;have zg:Calls Tryz.prog 69 #[.pointer (some ⟨t,0,none⟩), .int .u64 ad, .agg #[.int .i64 (fq:Int), .int .u8 (q:Int), .bool cb]] W3.drew fun e W=>e= .returned (.int .i64 0)/\Hid (al W S a (ba p1 was ⟨fq,q,cb⟩ gg pg))/\Hid (Mod S W3 W):=by
   refine xr.mono ?_;rw[ft (was:=was) (g:=gg) EN.out yg (by omega) (by rw[aQ n3];omega) hw Pc];rintro e W ⟨rfl,hP,Bv⟩;exact⟨rfl,uH (by simpa using hP),uH Bv.undrew⟩
  have Dx:=uH zg;have vP:=uH wk;have xo:=uH Nm;have BP:=uH Ea;have Zg:=uH Aq;have HW:=uH hw;have ZQ:=uH Pc;clear xr zg vr IM wk wD Nm xb Ea zF vW Aq vk AL zU BJ vy xh wM vV wA FB wg hw Pc EO n5 n6 WM hWz;gi_upto_region 10 with(fail);rw[<-Zg.out];refine bO (fun w'=>w'.cell? ⟨w.heap.size,0,none⟩=some (.pointer (some ⟨s,0,none⟩))/\w'.cell? ⟨s,2,none⟩=some (.pointer (some ⟨t,0,none⟩))/\w'.cell? ⟨W.heap.size,0,none⟩=some (.int .u64 ad)/\w'.cell? ⟨W.heap.size,1,none⟩=some (.int .i64 (fq:Int))/\w'.cell? ⟨W.heap.size,2,none⟩=some (.int .u8 (q:Int))/\w'.cell? ⟨W.heap.size,3,none⟩=some (.bool cb)) 8 (by kernel_rfl) (by kernel_rfl) (cR.of 7 (by kernel_rfl) (by kernel_rfl)) ⟨c0,s2,x0,y1,y2,y3⟩ ?_;intro Qo Bh;refine zt 0 ?_;refine zt 1 ?_;refine zt 2 ?_;refine zt 3 ?_;refine zt 4 ?_;refine zt 5 ?_;refine zt 6 ?_;refine zt 7 ?_;refine aY 8 (by kernel_rfl) rfl rfl (fun K' hK=>?_)
  go_simp
  refine(Dx.out).mono ?_;rintro e W6 ⟨rfl,Mb,KX⟩;obtain⟨wT,Bc⟩:=vP.out.pool Mb.out KX.out;go_wp2_with fail;refine hK.out _ _ ?_;clear hK K';refine aZ (by kernel_rfl) ?_ _;refine aP ?_;have vS:=xo.out.keep (W':=W6) (fun b h1 h2=>Bc b (.inl ⟨h1,h2⟩));have yD:OwnP W6 (w2.heap.size+5) R cp T.puts:=BP.out.same fun g hg=>Bc g (.inr (by rw[hg];rfl));have wI:=az (l:=w2.heap.size+3+1) (o:= .loop (rec .ready none)) (W:=W6);have xX:=vS.loop;have AD: ∀ {b:Nat} {o:Obj},W6.heap[b]? =some o->b≠w2.heap.size+3+1->(W6.putObj (w2.heap.size+3+1) (.loop (rec .ready none))).heap[b]? =some o:=fun h1 h2=>(wI.block _ (uG h1).1 h2).trans h1;refine⟨xX,rfl,_,wT.set wI (fun b e=> .inl (by omega)),⟨AD vS.b1 (by omega),AD vS.b2 (by omega),AD vS.b3 (by omega),AD vS.mark (by omega),World.putObj_heap_same (uG xX).1⟩,yD.same fun g hg=>?_,_,xV.out.step yc.out HX.out xp.out (fun _ =>rfl) hq7 HW.out ZQ.out⟩;have h9:=yD.blk g (by rw[hg];rfl);exact wI.block g h9.2 (by omega)
 ·rintro e W ⟨hv,R,cp,p1,hj⟩;refine⟨hv, .inl ⟨hj.box.loop,?_⟩⟩;obtain⟨W2,vW⟩: ∃W2,W2=W.putObj (w2.heap.size+3+1) (.loop (rec .exhausted none)):=⟨_,rfl⟩;rw[<-vW];have vy:Mod (fun b=>b=w2.heap.size+3+1) W W2:=(by rw[vW];exact az);have vr:=hj.run.set vy (fun b e=> .inl (by omega));have Be:=(vy.block _ (uG hj.box.mark).1 (by omega)).trans hj.box.mark;have vP:=uH vr;have Bi:=uH Be;have FK:=uH hj.rel;clear vW vy vr Be hj wO hv;unfold dk
  gi_wp2
  refine⟨by simp, .inl ⟨_,_,rfl,run_takeDeferred Bi.out,?_⟩⟩;have Bt:=az (l:=w2.heap.size+3) (o:= .deferred none) (W:=W2);have vv:=vP.out.set Bt (fun b e=> .inl (by omega));refine⟨.int .i64 0,by simp[results,Tryz.results27,go_sem], .inr ⟨rfl,rfl,A1,vj,p1,vv.home,vv.one,?_,(fun ad e=>by have h1:=vx.out.row ad.block (by rw[e];rfl);have h2:=wj.out.size;omega),FK.out⟩⟩;have hA:Mod (fun b=>av S c m b\/b=s) w w2:=((Mod.of wj.out).trans (Out.refl _ _) (EK.out)).sub fun b e=> .inr e;exact hA.trans (Out.refl _ _) (vv.mod.sub fun b e=> .inl e)
end
section
variable {l:List Reg} {a:Int} {x:Reg}
theorem tY (h:x∈Rg.ats l a): ∃r∈l,x.ino=r.ino:=by
 obtain⟨r,hr,e⟩:=List.mem_map.1 h;exact⟨r,(List.mem_filter.1 hr).1,by rw[<-e];rfl⟩
variable {r:Reg}
theorem ats_mem (hr:r∈l) (h:r.fr<r.to):Rg.hit r.fr r∈Rg.ats l r.fr:=
 List.mem_map.2 ⟨r,List.mem_filter.2 ⟨hr,by simp[Rg.holds];omega⟩,rfl⟩
variable {F:List Nd}
theorem Rgs.of {out:List Reg} (hr:Rg.right out=true) (wz:dy out) (h: ∀a,∀x∈Rg.ats out a,0<=x.ino->dL F x.ino):Rgs F out:=
 ⟨hr,wz,fun r hm h0=>h r.fr (Rg.hit r.fr r) (ats_mem hm (aC (dQ hr r hm)).1) h0⟩
theorem Rgs.ats (h:Rgs F l) (hx:x∈Rg.ats l a) (h0:0<=x.ino):dL F x.ino:=by
 obtain⟨r,hr,e⟩:=tY hx;rw[e]at h0⊢;exact h.file r hr h0
theorem Rgs.put (h:Rgs F l) (zD:r.Ok) (he:(Rg.put l r).2=0) (hf:0<=r.ino->dL F r.ino):Rgs F (Rg.put l r).1:=by
 obtain⟨a1,a2,a3⟩:=put_fits (l:=l) (out:=(Rg.put l r).1) h.ok zD (by rw[<-he]);refine Rgs.of a1 a2 fun a x hx h0=>?_;rw[a3 a]at hx;split at hx
 ·obtain⟨y,hy,e⟩:=tY hx;rw[List.mem_singleton.1 hy]at e;rw[e]at h0⊢;exact hf h0
 ·exact h.ats hx h0
variable {f t:Int}
theorem Rgs.cut (h:Rgs F l) (he:(Rg.cut l f t).2=0):Rgs F (Rg.cut l f t).1:=by
 obtain⟨a1,a2,a3⟩:=cut_fits (l:=l) (out:=(Rg.cut l f t).1) h.ok (by rw[<-he]);refine Rgs.of a1 a2 fun a x hx h0=>?_;rw[a3 a]at hx;split at hx
 ·cases hx
 ·exact h.ats hx h0
theorem Rgs.prot {p:Int} (h:Rgs F l) (hp:0<=p) (he:(Rg.protect l f t p).2=0):Rgs F (Rg.protect l f t p).1:=by
 obtain⟨a1,a2,a3,_⟩:=mR (l:=l) (out:=(Rg.protect l f t p).1) h.ok hp (by rw[<-he]);refine Rgs.of a1 a2 fun a x hx h0=>?_;rw[a3 a]at hx;split at hx
 ·obtain⟨y,hy,e⟩:=List.mem_map.1 hx;rw[<-e]at h0⊢;exact Rgs.ats (x:=y) h hy h0
 ·exact h.ats hx h0
theorem tL (rl:List Reg) (f t:Int):(Rg.cut rl f t).1.length<=64/\((Rg.cut rl f t).2=0->t<=140737488355328):=by
 unfold Rg.cut;split
 ·rename_i hc;have h1:=cj hc;unfold Rg.few;split
  ·exact⟨by simp,fun e=>by simp at e⟩
  ·exact⟨by dsimp only;omega,fun _ =>by omega⟩
 ·exact⟨by simp,fun e=>by simp at e⟩
theorem pL (rl:List Reg) (f t:Int) (q:Nat):(Rg.protect rl f t q).1.length<=64/\((Rg.protect rl f t q).2=0->t<=140737488355328/\q<=7):=by
 unfold Rg.protect;split
 ·rename_i hc;have h1:=cj hc.1;have h2:=hc.2;split
  ·unfold Rg.few;split
   ·exact⟨by simp,fun e=>by simp at e⟩
   ·exact⟨by dsimp only;omega,fun _ =>⟨by omega,by omega⟩⟩
  ·exact⟨by simp,fun e=>by simp at e⟩
 ·exact⟨by simp,fun e=>by simp at e⟩
end
section
open Go.RowKit Go.Sort
variable {w:World} {B c a fs m:Nat} {S:Nat->Prop} {F:List Nd} {clock:Int} {p:Pool} {L:List Slot} {l:List SpM} {k:Nat} {x:SpM} {T:Tab}
theorem bH.rel {f t:Int} {q kk:Nat} {hold:Nat->Nat} {p':Pool} {T':Tab} (h0:Sp F hold p L T) (ho:Own p T) (h:bH F hold (prt q) f t p L T kk p' T'):Sp F hold p' L T'/\(∀E,Far hold T E p p')/\Own p' T'/\T'.nd 4 0=T.nd 4 0/\ ∀g y,T'.lf g=some y-> ∃z,T.lf g=some z:=by
 refine⟨h.sp,h.far,h.own h0 (fun _ =>rfl) (fun _ e=>e) ho,by rw[h.nd],fun g y hy=>?_⟩;have h1:=h.lf g;rw[hy]at h1;split at h1
 ·cases hz:T.lf g with
  |none=>rw[hz]at h1;cases h1
  |some z=>exact⟨z,rfl⟩
 ·exact⟨y,h1.symm⟩
theorem hmap' (h:Hse w B c a fs m S F clock p L l) (hk:l[k]? =some x) (hT:x.T=some T) (r:Reg) (Eb:r.Ok):
  Calls Tryz.prog 25 #[.pointer (some ⟨x.s,0,none⟩), .agg #[.int .u64 (r).fr, .int .u64 (r).to, .int .u8 (r).prot, .int .i64 (r).ino, .int .u64 (r).off]] w (fi w B c a fs m S F clock L l k x p (Rg.put x.rl r).1 (fun er=>er=dW F x.rl r) (fun p' T'=>cx F (tnS ((l.map (·.T)).set k none)) r.fr r.to p L T T.puts.length p' T')):=
 hmap h hk hT r Eb fun e hf=>(h.live hk hT).rgs.put Eb e hf
theorem hunmap (h:Hse w B c a fs m S F clock p L l) (hk:l[k]? =some x) (hT:x.T=some T) (fr ot:Int) (h0:0<=fr) (h1:fr<=18446744073709551615) (h2:0<=ot) (h3:ot<=18446744073709551615):
  Calls Tryz.prog 26 #[.pointer (some ⟨x.s,0,none⟩), .int .u64 fr, .int .u64 ot] w (fi w B c a fs m S F clock L l k x p (Rg.cut x.rl fr ot).1 (fun er=>er=(Rg.cut x.rl fr ot).2) (fun p' T'=>cx F (tnS ((l.map (·.T)).set k none)) fr ot p L T T.puts.length p' T')):=by
 have wL:=h.live hk hT;refine(qv B c a fs m x.s x.t x.root x.n x.cap fr ot x.A x.rl clock w S F p L T _ h.home wL.one (h.sp hk hT) wL.root wL.rgs.ok h0 h1 h2 h3 (by have:=(tL x.rl fr ot).1;omega) (tL x.rl fr ot).2).mono fun e w' hp=>?_;exact hturn h hk hT hp (fun h0=>wL.rgs.cut h0.symm) (fun p' T' hr=>hr.rel (h.sp hk hT) (h.ownT hk hT))
theorem hprotect (h:Hse w B c a fs m S F clock p L l) (hk:l[k]? =some x) (hT:x.T=some T) (hl:l.length<=100) (fr ot:Int) (q:Nat) (h0:0<=fr) (h1:fr<=18446744073709551615) (h2:0<=ot) (h3:ot<=18446744073709551615):
  Calls Tryz.prog 27 #[.pointer (some ⟨x.s,0,none⟩), .int .u64 fr, .int .u64 ot, .int .u8 (q:Int)] w (fi w B c a fs m S F clock L l k x p (Rg.protect x.rl fr ot q).1 (fun er=>er=(Rg.protect x.rl fr ot q).2) (fun p' T'=>bH F (tnS ((l.map (·.T)).set k none)) (prt q) fr ot p L T T.puts.length p' T')):=by
 have wL:=h.live hk hT;refine(mH B c a fs m x.s x.t x.root x.n x.cap fr ot q x.A x.rl clock w S F p L T _ h.home wL.one (h.sp hk hT) wL.root wL.rgs.ok h0 h1 h2 h3 (by have:=(pL x.rl fr ot q).1;omega) (pL x.rl fr ot q).2 (h.caps hl k)).mono fun e w' hp=>?_;exact hturn h hk hT hp (fun h0=>wL.rgs.prot (by omega) h0.symm) (fun p' T' hr=>hr.rel (h.sp hk hT) (h.ownT hk hT))
end
