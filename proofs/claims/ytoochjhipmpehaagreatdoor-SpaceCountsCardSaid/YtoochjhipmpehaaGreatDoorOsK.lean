/- Spaces: Protect. Regions of a space: what is laid, cut out and protected keeps the files that regions name. Spaces over one cache: Unmap, Protect; -/
import Derived.Test.YtoochjhipmpehaaGreatDoorSwK
set_option linter.unusedVariables false
set_option linter.unusedSimpArgs false
set_option maxRecDepth 100000
set_option maxHeartbeats 8000000
namespace Go.Proofs.YtoochjhipmpehaaGreatDoor
section
open Go.RowKit Go.Sort
attribute [local go_sem] Oper.semAt_some
def prt (q:Nat) (l:Leaf):Leaf:= { l with prot:=q}
theorem mM (B c a fs m s t root n cap:Nat) (fr ot:Int) (q:Nat) (A:Option Addr) (rl:List Reg) (clock:Int) (w:World) (S:Nat->Prop) (F:List Nd) (p:Pool) (L:List Slot) (T:Tab) (hold:Nat->Nat)
  (hH:Home w B c a fs m S F clock p L) (hO:One w B c a m S s t root A n cap rl) (yA:Sp F hold p L T) (hr:T.nd 4 0=some root) (xk:dA rl) (h0:0<=fr) (h1:fr<=18446744073709551615) (h2:0<=ot) (h3:ot<=18446744073709551615) (wC:(Rg.protect rl fr ot q).1.length<=1000000) (Cl:(Rg.protect rl fr ot q).2=0->ot<=140737488355328/\q<=7) (xn: ∀f,hold f<=100000000000):
  Calls Tryz.prog 27 #[.pointer (some ⟨s,0,none⟩), .int .u64 fr, .int .u64 ot, .int .u8 (q:Int)] w (jj w B c a fs m s t root S F clock L (Rg.protect rl fr ot q).1 (fun er=>er=(Rg.protect rl fr ot q).2) (fun p'=> ∃T',bH F hold (prt q) fr ot p L T T.puts.length p' T')):=by
 refine(callsIn_wide (n:=9)).1 ?_;refine callsIn_of_wp_marks Tryz.func27 rfl trivial ?_;simp only[Tryz.ntmps27,List.size_toArray,vC,List.length_nil,Nat.reduceAdd,Nat.reduceSub,Array.replicate_succ,Array.replicate_zero,List.push_toArray,List.append_toArray,List.nil_append,List.cons_append];obtain⟨w0,vT⟩: ∃w0,w0=(w.alloc (.cells #[.pointer (some ⟨s,0,none⟩)] 60)).alloc (.cells #[.int .u8 (q:Int)] 5):=⟨_,rfl⟩;have wM:w0.heap.size=w.heap.size+2:=(by rw[vT];simp);have vU:Below w.heap.size w w0:=(by rw[vT];exact vr.alloc (by simp) _);have Ag:w0.heap[w.heap.size]? =some (.cells #[.pointer (some ⟨s,0,none⟩)] 60 (0,0)):=(by rw[vT];exact(vt _ _ _ (by simp)).trans (ab w _));have ZN:w0.heap[w.heap.size+1]? =some (.cells #[.int .u8 (q:Int)] 5 (0,0)):=(by rw[vT];have:=ab (w.alloc (.cells #[.pointer (some ⟨s,0,none⟩)] 60)) (.cells #[.int .u8 (q:Int)] 5);simpa using this);have AW:=hO.below vU;have EJ:=hH.below vU;have yb:=dE s c a t n cap A w0 AW.self;have hdw:Below w0.heap.size w0 w0.drew:=(vO w0.heap.size w0).drew;have GZ:=oD A n cap fr ot (q:Int) w0.drew rl (AW.row.below hdw (vs _)) xk h0 h1 h2 h3;have s0:w0.cell? ⟨w.heap.size,0,none⟩=some (.pointer (some ⟨s,0,none⟩)):=aa Ag 0;have q0:w0.cell? ⟨w.heap.size+1,0,none⟩=some (.int .u8 (q:Int)):=aa ZN 0;have s3:w0.cell? ⟨s,3,none⟩=some (.slice A n cap):=aa AW.self 3;obtain⟨l2,wS⟩: ∃l2,l2=(Rg.protect rl fr ot q).1:=⟨_,rfl⟩;obtain⟨e2,Hj⟩: ∃e2,e2=(Rg.protect rl fr ot q).2:=⟨_,rfl⟩;unfold jm at GZ;rw[<-wS,<-Hj]at GZ;rw[<-wS,<-Hj];rw[<-wS]at wC;rw[<-Hj]at Cl;have JO:Calls Tryz.prog 68 #[.slice A n cap, .int .u64 fr, .int .u64 ot, .int .u8 (q:Int)] w0.drew fun e w'=> ∃A' vP,e= .returned (.tuple #[.slice A' l2.length vP, .int .i64 e2])/\Hid (OwnR w' w0.heap.size A' vP l2)/\Hid (Below w0.heap.size w0 w'):=by
  refine GZ.mono ?_;rintro e W ⟨A5,AR,rfl,IC,MB⟩;exact⟨A5,AR,rfl,vp IC,vp (bw MB)⟩
 have Np:=hO.lts.1;have xd:=vp yb;have Wa:=vp JO;have wD:=vp vT;have CX:=vp wM;have xe:=vp vU;have zI:=vp Ag;have HQ0:=vp ZN;have FW:=vp AW;have Jj:=vp EJ;have yP:=vp yA;have HR:=vp hr;have Lc:=vp (show¬S w.heap.size/\ ¬S (w.heap.size+1)from⟨fun e=>by have:=hH.lts.2.2 _ e;omega,fun e=>by have:=hH.lts.2.2 _ e;omega⟩);have Qc:c<w.heap.size/\m<w.heap.size:=⟨hH.lts.1,hH.lts.2.1⟩;have BP:s<w0.heap.size:=(by have:=CX.out;omega);have PU:w.heap.size<w0.heap.size/\w.heap.size+1<w0.heap.size:=(by have:=CX.out;omega);clear yb GZ JO vT wM vU Ag ZN AW EJ hH hO yA hr wS Hj hdw;refine wpIn_wide.2 ?_;go_upto_region 3 with(first
  |(rw[<-wD.out];go_at_call 56;refine(xd.out).mono ?_;rintro e w1 ⟨rfl,rfl⟩)
  |fail)
 go_region_held3 (fun w'=>w'.cell? ⟨w.heap.size,0,none⟩=some (.pointer (some ⟨s,0,none⟩))/\w'.cell? ⟨w.heap.size+1,0,none⟩=some (.int .u8 (q:Int))/\w'.cell? ⟨s,3,none⟩=some (.slice A n cap))
  (go_keep)
  ((first
  |(go_at_call 68;refine(Wa.out).mono ?_;rintro e w1 ⟨A1,vR,rfl,wu,vY⟩;have d0:w1.cell? ⟨w.heap.size,0,none⟩=some (.pointer (some ⟨s,0,none⟩)):=(vY.out.cell PU.1).trans s0;have d1:w1.cell? ⟨w.heap.size+1,0,none⟩=some (.int .u8 (q:Int)):=(vY.out.cell PU.2).trans q0;have d3:w1.cell? ⟨s,3,none⟩=some (.slice A n cap):=(vY.out.cell BP).trans s3)))
 rename_i Q9 K9 hK9 hH9;refine hK9 _ _ ?_;clear hK9 hH9;refine(wpIn_wide (n:=9)).1 ?_;by_cases wi:e2=0
 rotate_left
 ·have wg:(e2 != 0)=true:=(by rw[bne_iff_ne];exact wi);have wP:=vp wi;clear wi
  gi_wp2
  refine⟨.int .i64 e2,by simp[results,Tryz.results27,go_sem], .inl ⟨e2,rfl,wP.out,rfl,xe.out.trans (vY.out.mono xe.out.size)⟩⟩
 subst wi;obtain⟨Tr,hq7⟩:=Cl rfl;clear Cl;obtain⟨w2,wO⟩: ∃w2,w2=w1.setCell ⟨s,3,none⟩ (.slice A1 l2.length vR):=⟨_,rfl⟩;obtain⟨GD,zF,wk,wL⟩:=One.laid Jj.out FW.out vY.out wu.out (vs _) wC;rw[<-wO]at GD zF wk wL;have wZ:=FW.out.below vY.out;have hQ2:=(wk.block _ (vo HQ0.out).1 (by omega)).trans HQ0.out;have BL:=(vY.out.block _ (vo zI.out).1).trans zI.out;have BE:=(wk.block _ (vo zI.out).1 (by omega)).trans zI.out;have s0:w1.cell? ⟨w.heap.size,0,none⟩=some (.pointer (some ⟨s,0,none⟩)):=aa BL 0;have s3:w1.cell? ⟨s,3,none⟩=some (.slice A n cap):=aa wZ.self 3;have sf3:=ae wZ.self 3;have t0:w2.cell? ⟨w.heap.size,0,none⟩=some (.pointer (some ⟨s,0,none⟩)):=aa BE 0;have Ds:=vp wO;have Lj:=vp GD;have BN:=vp zF;have CP:=vp wk;have FU:=vp BE;have Sj:=vp hQ2;have Gc:w.heap.size<w2.heap.size:=(vo BE).1;clear wO GD zF wk wZ BL BE wL hQ2;gi_upto_region 7 with(fail);rw[<-Ds.out];gi_wp2_with (first
  |(refine⟨trivial,?_⟩;refine(callsIn_wide.2 (fz _ _ _ w2)).mono ?_;rintro e w3 ⟨rfl,xq⟩;have CH:=vp xq;clear xq)
  |fail)
 have yk:w3.heap.size=w2.heap.size+3:=(by rw[CH.out];simp);refine bI rfl (by omega) (gf:=107) (lb:= #[.pointer (some ⟨w2.heap.size,0,none⟩), .pointer (some ⟨w2.heap.size+1,0,none⟩), .pointer (some ⟨w2.heap.size+1+1,0,none⟩)]) rfl trivial (enters_of Tryz.func107 (by kernel_rfl) rfl) ?_;rw[yk];intro fn DK rec xG;refine(pF (9-1) (by omega) B c a fs m s t root A1 l2.length vR l2 S F clock p L T hold fr ot (.loop (rec .ready none)) (fun k p'=> ∃T',bH F hold (prt q) fr ot p L T k p' T') w2 w3 Lj.out BN.out yP.out HR.out CH.out ⟨T,bH.start yP.out⟩ (fun k p' x ⟨T',h⟩ hx wX=>⟨T',h.skip hx wX⟩) ?_).mono ?_
 ·rintro R cp k W ⟨pg,fq,pr,cb⟩ p1 hj hx wX;dsimp only at wX;refine bu trivial xG hj.box.loop rfl ?_;obtain⟨ad,zT⟩: ∃ad:Int,ad=((pg*4096:Nat):Int):=⟨_,rfl⟩;dsimp only;rw[<-zT];obtain⟨T1,AN⟩:=hj.rel;have HX:=vp hx;have xZ:=vp wX;have HJ:=vp hj;have FL:=vp zT;have zG:=vp AN;clear hx wX hj xG zT AN
  gi_wp2
  obtain⟨W1,AA⟩: ∃W1,W1=W.alloc (.cells #[.int .u64 ad, .int .i64 (fq:Int), .int .u8 (pr:Int), .bool cb] 85):=⟨_,rfl⟩;rw[<-AA];have vS:Below W.heap.size W W1:=(by rw[AA];exact vr);have BF:W1.heap[W.heap.size]? =some (.cells #[.int .u64 ad, .int .i64 (fq:Int), .int .u8 (pr:Int), .bool cb] 85 (0,0)):=(by rw[AA];exact ab W _);have xm:=HJ.out.below vS;refine⟨xm.box.loop,?_⟩;obtain⟨W2,wT⟩: ∃W2,W2=W1.putObj (w2.heap.size+3+1) (.loop (rec .busy none)):=⟨_,rfl⟩;rw[<-wT];have wk:Mod (fun b=>b=w2.heap.size+3+1) W1 W2:=(by rw[wT];exact az);have xB:=xm.box.loop;have YQ:=HJ.out.box.lts;have wS:W2.heap[w2.heap.size+3+1]? =some (.loop (rec .busy none)):=(by rw[wT];exact World.putObj_heap_same (vo xB).1);have vZ:=xm.run.set wk (fun b e=> .inl (by omega));have xp:kz W2 s w2.heap.size fr ot (.loop (rec .busy none)):=⟨(wk.block _ (vo xm.box.b1).1 (by omega)).trans xm.box.b1,(wk.block _ (vo xm.box.b2).1 (by omega)).trans xm.box.b2,(wk.block _ (vo xm.box.b3).1 (by omega)).trans xm.box.b3,(wk.block _ (vo xm.box.mark).1 (by omega)).trans xm.box.mark,wS⟩;have xS:OwnP W2 (w2.heap.size+5) R cp T.puts:=xm.row.same fun g hg=>by
   have h9:=xm.row.blk g (by rw[hg];rfl);exact wk.block g h9.2 (by omega)
  have AP:=(wk.block _ (vo BF).1 (by omega)).trans BF;have zA:=Lj.out.lts;have yi: ∀g,R.map (·.block)=some g->g<W.heap.size:=fun g hg=>(HJ.out.row.blk g hg).2;have QF: ∀ad,A1=some ad->ad.block<w2.heap.size:=fun ad e=>(BN.out.noR ad e).2.2.2.2.2.2;have hSW: ¬S W.heap.size:=fun e=>by have:=HJ.out.run.home.lts.2.2 _ e;omega
  have XW:W2.heap.size=W.heap.size+1:=(by rw[wT,AA];simp);have hWz:=HJ.out.run.size;have JE:=vZ.add (K':=fun b=>ThK w2.heap.size R b\/b=W.heap.size) QF (fun b e=>e.elim .inl (fun e=> .inr ⟨e▸hSW,by omega,by omega⟩));have fP2:=ae AP 2;have q0:W2.cell? ⟨w.heap.size+1,0,none⟩=some (.int .u8 (q:Int)):=aa ((vZ.mod.block (w.heap.size+1) (vo Sj.out).1 (fun e=>e.elim (fun e=>Lc.out.2 e) (fun e=>by omega))).trans Sj.out) 0;have x2:W2.cell? ⟨W.heap.size,2,none⟩=some (.int .u8 (pr:Int)):=aa AP 2;obtain⟨W3,Bj⟩: ∃W3,W3=W2.setCell ⟨W.heap.size,2,none⟩ (.int .u8 (q:Int)):=⟨_,rfl⟩;have xW:Mod (fun b=>b=W.heap.size) W2 W3:=(by rw[Bj];exact aj (S:=fun b=>b=W.heap.size) rfl 2 _);have CC:W3.heap[W.heap.size]? =some (.cells #[.int .u64 ad, .int .i64 (fq:Int), .int .u8 (q:Int), .bool cb] 85 (0,0)):=by
   rw[Bj];have h9:=Joins.block_setCell (i:=2) AP (.int .u8 (q:Int));simpa using h9
  have xg:=(JE.set xW (fun b e=> .inr e)).sub (K':=ThK w2.heap.size R) (fun b e=> .inl e);have Ob:=xp.keep (W':=W3) (fun b h1 h2=>xW.block b (by omega) (by omega));have EU:OwnP W3 (w2.heap.size+5) R cp T.puts:=xS.same fun g hg=>xW.block g (by have:=yi g (by rw[hg];rfl);omega) (by have:=yi g (by rw[hg];rfl);omega);have Gy:W3.heap[w.heap.size]? =w2.heap[w.heap.size]? :=xg.mod.block w.heap.size Gc (fun e=>e.elim (fun e=>Lc.out.1 e) (fun e=>by omega));have c0:W3.cell? ⟨w.heap.size,0,none⟩=some (.pointer (some ⟨s,0,none⟩)):=aa (Gy.trans FU.out) 0;have s2:W3.cell? ⟨s,2,none⟩=some (.pointer (some ⟨t,0,none⟩)):=aa xg.one.self 2;have x0:W3.cell? ⟨W.heap.size,0,none⟩=some (.int .u64 ad):=aa CC 0;have y1:W3.cell? ⟨W.heap.size,1,none⟩=some (.int .i64 (fq:Int)):=aa CC 1;have y2:W3.cell? ⟨W.heap.size,2,none⟩=some (.int .u8 (q:Int)):=aa CC 2;have y3:W3.cell? ⟨W.heap.size,3,none⟩=some (.bool cb):=aa CC 3;have wY:T1.nd 4 0=some root:=(by rw[zG.out.nd];exact HR.out);obtain⟨was,hw,FM⟩:=zG.out.was yP.out HX.out (fun _ =>rfl);dsimp only at hw FM;obtain⟨gg,PO⟩:=zG.out.sp.node1 hw;obtain⟨n1,n2,n3,n4,n5,n6⟩:=zG.out.sp.leaf hw;rw[FM]at n3 n4;have yT:pg<34359738368:=(by have h9:=fJ.1 xZ.out;omega);have yh:=gv t c a root 0 ad ⟨fq,q,cb⟩ W3.drew S p1 T1 (held L hold) xg.home.cache.pool.drew xg.one.tab xg.one.noT.1 zG.out.sp.good wY (by have:=FL.out;omega) hq7 n3 n4 (by have h9:=zG.out.sp.cap n3;have h8:=xn fq;show p1.cnt fq+1<_;omega) (fq:Int) (q:Int) rfl rfl;have zW:Calls Tryz.prog 69 #[.pointer (some ⟨t,0,none⟩), .int .u64 ad, .agg #[.int .i64 (fq:Int), .int .u8 (q:Int), .bool cb]] W3.drew fun e W=>e= .returned (.int .i64 0)/\Hid (am W S a (bc p1 was ⟨fq,q,cb⟩ gg pg))/\Hid (Mod S W3 W):=by
   refine yh.mono ?_;rw[fA (was:=was) (g:=gg) FL.out yT (by omega) (by rw[aM n3];omega) hw PO];rintro e W ⟨rfl,hP,Cp⟩;exact⟨rfl,vp (by simpa using hP),vp Cp.undrew⟩
  have Ew:=vp zW;have wN:=vp xg;have ye:=vp Ob;have CI:=vp EU;have HW3':=vp Bj;have HW:=vp hw;have HGG:=vp PO;clear yh zW vZ JE xg xp Ob xS EU AA wT Bj vS BF AP CC wk xW xB wS xm Gy wY hw PO FM n5 n6 XW hWz;gi_upto_region 10 with(fail);rw[<-HW3'.out];refine bO (fun w'=>w'.cell? ⟨w.heap.size,0,none⟩=some (.pointer (some ⟨s,0,none⟩))/\w'.cell? ⟨s,2,none⟩=some (.pointer (some ⟨t,0,none⟩))/\w'.cell? ⟨W.heap.size,0,none⟩=some (.int .u64 ad)/\w'.cell? ⟨W.heap.size,1,none⟩=some (.int .i64 (fq:Int))/\w'.cell? ⟨W.heap.size,2,none⟩=some (.int .u8 (q:Int))/\w'.cell? ⟨W.heap.size,3,none⟩=some (.bool cb)) 8 (by kernel_rfl) (by kernel_rfl) (cU.of 7 (by kernel_rfl) (by kernel_rfl)) ⟨c0,s2,x0,y1,y2,y3⟩ ?_;intro QZ Ca;refine zt 0 ?_;refine zt 1 ?_;refine zt 2 ?_;refine zt 3 ?_;refine zt 4 ?_;refine zt 5 ?_;refine zt 6 ?_;refine zt 7 ?_;refine aZ 8 (by kernel_rfl) rfl rfl (fun K' hK=>?_)
  go_simp
  refine(Ew.out).mono ?_;rintro e W6 ⟨rfl,MJ,Jg⟩;obtain⟨xK,BU⟩:=wN.out.pool MJ.out Jg.out;go_wp2_with fail;refine hK.out _ _ ?_;clear hK K';refine ba (by kernel_rfl) ?_ _;refine aR ?_;have wR:=ye.out.keep (W':=W6) (fun b h1 h2=>BU b (.inl ⟨h1,h2⟩));have zr:OwnP W6 (w2.heap.size+5) R cp T.puts:=CI.out.same fun g hg=>BU g (.inr (by rw[hg];rfl));have xw:=az (l:=w2.heap.size+3+1) (o:= .loop (rec .ready none)) (W:=W6);have yU:=wR.loop;have By: ∀ {b:Nat} {o:Obj},W6.heap[b]? =some o->b≠w2.heap.size+3+1->(W6.putObj (w2.heap.size+3+1) (.loop (rec .ready none))).heap[b]? =some o:=fun h1 h2=>(xw.block _ (vo h1).1 h2).trans h1;refine⟨yU,rfl,_,xK.set xw (fun b e=> .inl (by omega)),⟨By wR.b1 (by omega),By wR.b2 (by omega),By wR.b3 (by omega),By wR.mark (by omega),World.putObj_heap_same (vo yU).1⟩,zr.same fun g hg=>?_,_,zG.out.step yP.out HX.out xZ.out (fun _ =>rfl) hq7 HW.out HGG.out⟩;have h9:=zr.blk g (by rw[hg];rfl);exact xw.block g h9.2 (by omega)
 ·rintro e W ⟨hv,R,cp,p1,hj⟩;refine⟨hv, .inl ⟨hj.box.loop,?_⟩⟩;obtain⟨W2,wT⟩: ∃W2,W2=W.putObj (w2.heap.size+3+1) (.loop (rec .exhausted none)):=⟨_,rfl⟩;rw[<-wT];have wk:Mod (fun b=>b=w2.heap.size+3+1) W W2:=(by rw[wT];exact az);have vZ:=hj.run.set wk (fun b e=> .inl (by omega));have BX:=(wk.block _ (vo hj.box.mark).1 (by omega)).trans hj.box.mark;have wN:=vp vZ;have Cb:=vp BX;have GJ:=vp hj.rel;clear wT wk vZ BX hj xG hv;unfold dp
  gi_wp2
  refine⟨by simp, .inl ⟨_,_,rfl,run_takeDeferred Cb.out,?_⟩⟩;have Cn:=az (l:=w2.heap.size+3) (o:= .deferred none) (W:=W2);have wj:=wN.out.set Cn (fun b e=> .inl (by omega));refine⟨.int .i64 0,by simp[results,Tryz.results27,go_sem], .inr ⟨rfl,rfl,A1,vR,p1,wj.home,wj.one,?_,(fun ad e=>by have h1:=wu.out.row ad.block (by rw[e];rfl);have h2:=xe.out.size;omega),GJ.out⟩⟩;have hA:Mod (fun b=>aw S c m b\/b=s) w w2:=((Mod.of xe.out).trans (Out.refl _ _) (CP.out)).sub fun b e=> .inr e;exact hA.trans (Out.refl _ _) (wj.mod.sub fun b e=> .inl e)
end
section
variable {l:List Reg} {a:Int} {x:Reg}
theorem uH (h:x∈Rg.ats l a): ∃r∈l,x.ino=r.ino:=by
 obtain⟨r,hr,e⟩:=List.mem_map.1 h;exact⟨r,(List.mem_filter.1 hr).1,by rw[<-e];rfl⟩
variable {r:Reg}
theorem ats_mem (hr:r∈l) (h:r.fr<r.to):Rg.hit r.fr r∈Rg.ats l r.fr:=
 List.mem_map.2 ⟨r,List.mem_filter.2 ⟨hr,by simp[Rg.holds];omega⟩,rfl⟩
variable {F:List Nd}
theorem Rgs.of {out:List Reg} (hr:Rg.right out=true) (xk:dA out) (h: ∀a,∀x∈Rg.ats out a,0<=x.ino->dO F x.ino):Rgs F out:=
 ⟨hr,xk,fun r hm h0=>h r.fr (Rg.hit r.fr r) (ats_mem hm (aC (dW hr r hm)).1) h0⟩
theorem Rgs.ats (h:Rgs F l) (hx:x∈Rg.ats l a) (h0:0<=x.ino):dO F x.ino:=by
 obtain⟨r,hr,e⟩:=uH hx;rw[e]at h0⊢;exact h.file r hr h0
theorem Rgs.put (h:Rgs F l) (Ax:r.Ok) (he:(Rg.put l r).2=0) (hf:0<=r.ino->dO F r.ino):Rgs F (Rg.put l r).1:=by
 obtain⟨a1,a2,a3⟩:=put_fits (l:=l) (out:=(Rg.put l r).1) h.ok Ax (by rw[<-he]);refine Rgs.of a1 a2 fun a x hx h0=>?_;rw[a3 a]at hx;split at hx
 ·obtain⟨y,hy,e⟩:=uH hx;rw[List.mem_singleton.1 hy]at e;rw[e]at h0⊢;exact hf h0
 ·exact h.ats hx h0
variable {f t:Int}
theorem Rgs.cut (h:Rgs F l) (he:(Rg.cut l f t).2=0):Rgs F (Rg.cut l f t).1:=by
 obtain⟨a1,a2,a3⟩:=cut_fits (l:=l) (out:=(Rg.cut l f t).1) h.ok (by rw[<-he]);refine Rgs.of a1 a2 fun a x hx h0=>?_;rw[a3 a]at hx;split at hx
 ·cases hx
 ·exact h.ats hx h0
theorem Rgs.prot {p:Int} (h:Rgs F l) (hp:0<=p) (he:(Rg.protect l f t p).2=0):Rgs F (Rg.protect l f t p).1:=by
 obtain⟨a1,a2,a3,_⟩:=mX (l:=l) (out:=(Rg.protect l f t p).1) h.ok hp (by rw[<-he]);refine Rgs.of a1 a2 fun a x hx h0=>?_;rw[a3 a]at hx;split at hx
 ·obtain⟨y,hy,e⟩:=List.mem_map.1 hx;rw[<-e]at h0⊢;exact Rgs.ats (x:=y) h hy h0
 ·exact h.ats hx h0
theorem ur (rl:List Reg) (f t:Int):(Rg.cut rl f t).1.length<=64/\((Rg.cut rl f t).2=0->t<=140737488355328):=by
 unfold Rg.cut;split
 ·rename_i hc;have h1:=ck hc;unfold Rg.few;split
  ·exact⟨by simp,fun e=>by simp at e⟩
  ·exact⟨by dsimp only;omega,fun _ =>by omega⟩
 ·exact⟨by simp,fun e=>by simp at e⟩
theorem pR (rl:List Reg) (f t:Int) (q:Nat):(Rg.protect rl f t q).1.length<=64/\((Rg.protect rl f t q).2=0->t<=140737488355328/\q<=7):=by
 unfold Rg.protect;split
 ·rename_i hc;have h1:=ck hc.1;have h2:=hc.2;split
  ·unfold Rg.few;split
   ·exact⟨by simp,fun e=>by simp at e⟩
   ·exact⟨by dsimp only;omega,fun _ =>⟨by omega,by omega⟩⟩
  ·exact⟨by simp,fun e=>by simp at e⟩
 ·exact⟨by simp,fun e=>by simp at e⟩
end
section
open Go.RowKit Go.Sort
variable {w:World} {B c a fs m:Nat} {S:Nat->Prop} {F:List Nd} {clock:Int} {p:Pool} {L:List Slot} {l:List SpM} {k:Nat} {x:SpM} {T:Tab}
theorem bH.rel {f t:Int} {q kk:Nat} {hold:Nat->Nat} {p':Pool} {T':Tab} (h0:Sp F hold p L T) (ho:Own p T) (h:bH F hold (prt q) f t p L T kk p' T'):Sp F hold p' L T'/\(∀E,Far hold T E p p')/\Own p' T'/\T'.nd 4 0=T.nd 4 0/\ ∀g y,T'.lf g=some y-> ∃z,T.lf g=some z:=by
 refine⟨h.sp,h.far,h.own h0 (fun _ =>rfl) (fun _ e=>e) ho,by rw[h.nd],fun g y hy=>?_⟩;have h1:=h.lf g;rw[hy]at h1;split at h1
 ·cases hz:T.lf g with
  |none=>rw[hz]at h1;cases h1
  |some z=>exact⟨z,rfl⟩
 ·exact⟨y,h1.symm⟩
theorem hmap' (h:Hse w B c a fs m S F clock p L l) (hk:l[k]? =some x) (hT:x.T=some T) (r:Reg) (EV:r.Ok):
  Calls Tryz.prog 25 #[.pointer (some ⟨x.s,0,none⟩), .agg #[.int .u64 (r).fr, .int .u64 (r).to, .int .u8 (r).prot, .int .i64 (r).ino, .int .u64 (r).off]] w (fx w B c a fs m S F clock L l k x p (Rg.put x.rl r).1 (fun er=>er=ee F x.rl r) (fun p' T'=>cy F (tnS ((l.map (·.T)).set k none)) r.fr r.to p L T T.puts.length p' T')):=
 hmap h hk hT r EV fun e hf=>(h.live hk hT).rgs.put EV e hf
theorem hunmap (h:Hse w B c a fs m S F clock p L l) (hk:l[k]? =some x) (hT:x.T=some T) (fr ot:Int) (h0:0<=fr) (h1:fr<=18446744073709551615) (h2:0<=ot) (h3:ot<=18446744073709551615):
  Calls Tryz.prog 26 #[.pointer (some ⟨x.s,0,none⟩), .int .u64 fr, .int .u64 ot] w (fx w B c a fs m S F clock L l k x p (Rg.cut x.rl fr ot).1 (fun er=>er=(Rg.cut x.rl fr ot).2) (fun p' T'=>cy F (tnS ((l.map (·.T)).set k none)) fr ot p L T T.puts.length p' T')):=by
 have xA:=h.live hk hT;refine(qG B c a fs m x.s x.t x.root x.n x.cap fr ot x.A x.rl clock w S F p L T _ h.home xA.one (h.sp hk hT) xA.root xA.rgs.ok h0 h1 h2 h3 (by have:=(ur x.rl fr ot).1;omega) (ur x.rl fr ot).2).mono fun e w' hp=>?_;exact hturn h hk hT hp (fun h0=>xA.rgs.cut h0.symm) (fun p' T' hr=>hr.rel (h.sp hk hT) (h.ownT hk hT))
theorem hprotect (h:Hse w B c a fs m S F clock p L l) (hk:l[k]? =some x) (hT:x.T=some T) (hl:l.length<=100) (fr ot:Int) (q:Nat) (h0:0<=fr) (h1:fr<=18446744073709551615) (h2:0<=ot) (h3:ot<=18446744073709551615):
  Calls Tryz.prog 27 #[.pointer (some ⟨x.s,0,none⟩), .int .u64 fr, .int .u64 ot, .int .u8 (q:Int)] w (fx w B c a fs m S F clock L l k x p (Rg.protect x.rl fr ot q).1 (fun er=>er=(Rg.protect x.rl fr ot q).2) (fun p' T'=>bH F (tnS ((l.map (·.T)).set k none)) (prt q) fr ot p L T T.puts.length p' T')):=by
 have xA:=h.live hk hT;refine(mM B c a fs m x.s x.t x.root x.n x.cap fr ot q x.A x.rl clock w S F p L T _ h.home xA.one (h.sp hk hT) xA.root xA.rgs.ok h0 h1 h2 h3 (by have:=(pR x.rl fr ot q).1;omega) (pR x.rl fr ot q).2 (h.caps hl k)).mono fun e w' hp=>?_;exact hturn h hk hT hp (fun h0=>xA.rgs.prot (by omega) h0.symm) (fun p' T' hr=>hr.rel (h.sp hk hT) (h.ownT hk hT))
end
