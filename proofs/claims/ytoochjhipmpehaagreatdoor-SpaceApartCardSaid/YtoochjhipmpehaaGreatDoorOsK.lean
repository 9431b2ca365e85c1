/- Spaces: Protect. Regions of a space: what is laid, cut out and protected keeps the files that regions name. Spaces over one cache: Unmap, Protect; -/
import Derived.Test.YtoochjhipmpehaaGreatDoorSwK
set_option linter.unusedVariables false
set_option linter.unusedSimpArgs false
set_option maxRecDepth 100000
set_option maxHeartbeats 8000000
namespace Go.Proofs.YtoochjhipmpehaaGreatDoor
section
open Go.RowKit Go.Sort
attribute [local go_sem] Oper.semAt_some
def prt (q:Nat) (l:Leaf):Leaf:= { l with prot:=q}
theorem mR (B c a fs m s t root n cap:Nat) (fr ot:Int) (q:Nat) (A:Option Addr) (rl:List Reg) (clock:Int) (w:World) (S:Nat->Prop) (F:List Nd) (p:Pool) (L:List Slot) (T:Tab) (hold:Nat->Nat)
  (hH:Home w B c a fs m S F clock p L) (hO:One w B c a m S s t root A n cap rl) (ya:Sp F hold p L T) (hr:T.nd 4 0=some root) (wW:dD rl) (h0:0<=fr) (h1:fr<=18446744073709551615) (h2:0<=ot) (h3:ot<=18446744073709551615) (wb:(Rg.protect rl fr ot q).1.length<=1000000) (BS:(Rg.protect rl fr ot q).2=0->ot<=140737488355328/\q<=7) (wY: ∀f,hold f<=100000000000):
  Calls Tryz.prog 27 #[.pointer (some ⟨s,0,none⟩), .int .u64 fr, .int .u64 ot, .int .u8 (q:Int)] w (jr w B c a fs m s t root S F clock L (Rg.protect rl fr ot q).1 (fun er=>er=(Rg.protect rl fr ot q).2) (fun p'=> ∃T',bJ F hold (prt q) fr ot p L T T.puts.length p' T')):=by
 refine(callsIn_wide (n:=9)).1 ?_;refine callsIn_of_wp_marks Tryz.func27 rfl trivial ?_;simp only[Tryz.ntmps27,List.size_toArray,vn,List.length_nil,Nat.reduceAdd,Nat.reduceSub,Array.replicate_succ,Array.replicate_zero,List.push_toArray,List.append_toArray,List.nil_append,List.cons_append];obtain⟨w0,vE⟩: ∃w0,w0=(w.alloc (.cells #[.pointer (some ⟨s,0,none⟩)] 60)).alloc (.cells #[.int .u8 (q:Int)] 5):=⟨_,rfl⟩;have wz:w0.heap.size=w.heap.size+2:=(by rw[vE];simp);have vF:Below w.heap.size w w0:=(by rw[vE];exact vc.alloc (by simp) _);have zP:w0.heap[w.heap.size]? =some (.cells #[.pointer (some ⟨s,0,none⟩)] 60 (0,0)):=(by rw[vE];exact(ve _ _ _ (by simp)).trans (ab w _));have ZL:w0.heap[w.heap.size+1]? =some (.cells #[.int .u8 (q:Int)] 5 (0,0)):=(by rw[vE];have:=ab (w.alloc (.cells #[.pointer (some ⟨s,0,none⟩)] 60)) (.cells #[.int .u8 (q:Int)] 5);simpa using this);have AI:=hO.below vF;have En:=hH.below vF;have xM:=dH s c a t n cap A w0 AI.self;have hdw:Below w0.heap.size w0 w0.drew:=(vz w0.heap.size w0).drew;have GH:=oJ A n cap fr ot (q:Int) w0.drew rl (AI.row.below hdw (vd _)) wW h0 h1 h2 h3;have s0:w0.cell? ⟨w.heap.size,0,none⟩=some (.pointer (some ⟨s,0,none⟩)):=aa zP 0;have q0:w0.cell? ⟨w.heap.size+1,0,none⟩=some (.int .u8 (q:Int)):=aa ZL 0;have s3:w0.cell? ⟨s,3,none⟩=some (.slice A n cap):=aa AI.self 3;obtain⟨l2,wE⟩: ∃l2,l2=(Rg.protect rl fr ot q).1:=⟨_,rfl⟩;obtain⟨e2,GV⟩: ∃e2,e2=(Rg.protect rl fr ot q).2:=⟨_,rfl⟩;unfold jt at GH;rw[<-wE,<-GV]at GH;rw[<-wE,<-GV];rw[<-wE]at wb;rw[<-GV]at BS;have JC:Calls Tryz.prog 68 #[.slice A n cap, .int .u64 fr, .int .u64 ot, .int .u8 (q:Int)] w0.drew fun e w'=> ∃A' vA,e= .returned (.tuple #[.slice A' l2.length vA, .int .i64 e2])/\Hid (OwnR w' w0.heap.size A' vA l2)/\Hid (Below w0.heap.size w0 w'):=by
  refine GH.mono ?_;rintro e W ⟨A5,zE,rfl,Lu,Mw⟩;exact⟨A5,zE,rfl,va Lu,va (bA Mw)⟩
 have Ni:=hO.lts.1;have wN:=va xM;have VN:=va JC;have vY:=va vE;have CC:=va wz;have wO:=va vF;have zv:=va zP;have HQ0:=va ZL;have FD:=va AI;have IZ:=va En;have yo:=va ya;have HR:=va hr;have KT:=va (show¬S w.heap.size/\ ¬S (w.heap.size+1)from⟨fun e=>by have:=hH.lts.2.2 _ e;omega,fun e=>by have:=hH.lts.2.2 _ e;omega⟩);have PR:c<w.heap.size/\m<w.heap.size:=⟨hH.lts.1,hH.lts.2.1⟩;have BB:s<w0.heap.size:=(by have:=CC.out;omega);have PJ:w.heap.size<w0.heap.size/\w.heap.size+1<w0.heap.size:=(by have:=CC.out;omega);clear xM GH JC vE wz vF zP ZL AI En hH hO ya hr wE GV hdw;refine wpIn_wide.2 ?_;go_upto_region 3 with(first
  |(rw[<-vY.out];go_at_call 56;refine(wN.out).mono ?_;rintro e w1 ⟨rfl,rfl⟩)
  |fail)
 go_region_held3 (fun w'=>w'.cell? ⟨w.heap.size,0,none⟩=some (.pointer (some ⟨s,0,none⟩))/\w'.cell? ⟨w.heap.size+1,0,none⟩=some (.int .u8 (q:Int))/\w'.cell? ⟨s,3,none⟩=some (.slice A n cap))
  (go_keep)
  ((first
  |(go_at_call 68;refine(VN.out).mono ?_;rintro e w1 ⟨A1,vC,rfl,vS,vJ⟩;have d0:w1.cell? ⟨w.heap.size,0,none⟩=some (.pointer (some ⟨s,0,none⟩)):=(vJ.out.cell PJ.1).trans s0;have d1:w1.cell? ⟨w.heap.size+1,0,none⟩=some (.int .u8 (q:Int)):=(vJ.out.cell PJ.2).trans q0;have d3:w1.cell? ⟨s,3,none⟩=some (.slice A n cap):=(vJ.out.cell BB).trans s3)))
 rename_i Q9 K9 hK9 hH9;refine hK9 _ _ ?_;clear hK9 hH9;refine(wpIn_wide (n:=9)).1 ?_;by_cases vO:e2=0
 rotate_left
 ·have vK:(e2 != 0)=true:=(by rw[bne_iff_ne];exact vO);have wC:=va vO;clear vO
  gi_wp2
  refine⟨.int .i64 e2,by simp[results,Tryz.results27,go_sem], .inl ⟨e2,rfl,wC.out,rfl,wO.out.trans (vJ.out.mono wO.out.size)⟩⟩
 subst vO;obtain⟨Td,hq7⟩:=BS rfl;clear BS;obtain⟨w2,wD⟩: ∃w2,w2=w1.setCell ⟨s,3,none⟩ (.slice A1 l2.length vC):=⟨_,rfl⟩;obtain⟨Gn,yQ,vT,wm⟩:=One.laid IZ.out FD.out vJ.out vS.out (vd _) wb;rw[<-wD]at Gn yQ vT wm;have wR:=FD.out.below vJ.out;have hQ2:=(vT.block _ (uZ HQ0.out).1 (by omega)).trans HQ0.out;have Bu:=(vJ.out.block _ (uZ zv.out).1).trans zv.out;have Bl:=(vT.block _ (uZ zv.out).1 (by omega)).trans zv.out;have s0:w1.cell? ⟨w.heap.size,0,none⟩=some (.pointer (some ⟨s,0,none⟩)):=aa Bu 0;have s3:w1.cell? ⟨s,3,none⟩=some (.slice A n cap):=aa wR.self 3;have sf3:=ae wR.self 3;have t0:w2.cell? ⟨w.heap.size,0,none⟩=some (.pointer (some ⟨s,0,none⟩)):=aa Bl 0;have CT:=va wD;have KY:=va Gn;have Bz:=va yQ;have Fp:=va vT;have Iz:=va Bl;have RX:=va hQ2;have FH:w.heap.size<w2.heap.size:=(uZ Bl).1;clear wD Gn yQ vT wR Bu Bl wm hQ2;gi_upto_region 7 with(fail);rw[<-CT.out];gi_wp2_with (first
  |(refine⟨trivial,?_⟩;refine(callsIn_wide.2 (fy _ _ _ w2)).mono ?_;rintro e w3 ⟨rfl,xb⟩;have Cp:=va xb;clear xb)
  |fail)
 have xR:w3.heap.size=w2.heap.size+3:=(by rw[Cp.out];simp);refine bK rfl (by omega) (gf:=107) (lb:= #[.pointer (some ⟨w2.heap.size,0,none⟩), .pointer (some ⟨w2.heap.size+1,0,none⟩), .pointer (some ⟨w2.heap.size+1+1,0,none⟩)]) rfl trivial (enters_of Tryz.func107 (by kernel_rfl) rfl) ?_;rw[xR];intro fn Di rec xp;refine(pN (9-1) (by omega) B c a fs m s t root A1 l2.length vC l2 S F clock p L T hold fr ot (.loop (rec .ready none)) (fun k p'=> ∃T',bJ F hold (prt q) fr ot p L T k p' T') w2 w3 KY.out Bz.out yo.out HR.out Cp.out ⟨T,bJ.start yo.out⟩ (fun k p' x ⟨T',h⟩ hx wI=>⟨T',h.skip hx wI⟩) ?_).mono ?_
 ·rintro R cp k W ⟨pg,fq,pr,cb⟩ p1 hj hx wI;dsimp only at wI;refine bw trivial xp hj.box.loop rfl ?_;obtain⟨ad,zD⟩: ∃ad:Int,ad=((pg*4096:Nat):Int):=⟨_,rfl⟩;dsimp only;rw[<-zD];obtain⟨T1,Aw⟩:=hj.rel;have HX:=va hx;have xQ:=va wI;have HJ:=va hj;have Fu:=va zD;have zr:=va Aw;clear hx wI hj xp zD Aw
  gi_wp2
  obtain⟨W1,Ai⟩: ∃W1,W1=W.alloc (.cells #[.int .u64 ad, .int .i64 (fq:Int), .int .u8 (pr:Int), .bool cb] 85):=⟨_,rfl⟩;rw[<-Ai];have vD:Below W.heap.size W W1:=(by rw[Ai];exact vc);have Bm:W1.heap[W.heap.size]? =some (.cells #[.int .u64 ad, .int .i64 (fq:Int), .int .u8 (pr:Int), .bool cb] 85 (0,0)):=(by rw[Ai];exact ab W _);have wX:=HJ.out.below vD;refine⟨wX.box.loop,?_⟩;obtain⟨W2,wF⟩: ∃W2,W2=W1.putObj (w2.heap.size+3+1) (.loop (rec .busy none)):=⟨_,rfl⟩;rw[<-wF];have vT:Mod (fun b=>b=w2.heap.size+3+1) W1 W2:=(by rw[wF];exact aA);have xm:=wX.box.loop;have YN:=HJ.out.box.lts;have wE:W2.heap[w2.heap.size+3+1]? =some (.loop (rec .busy none)):=(by rw[wF];exact World.putObj_heap_same (uZ xm).1);have vL:=wX.run.set vT (fun b e=> .inl (by omega));have wZ:kF W2 s w2.heap.size fr ot (.loop (rec .busy none)):=⟨(vT.block _ (uZ wX.box.b1).1 (by omega)).trans wX.box.b1,(vT.block _ (uZ wX.box.b2).1 (by omega)).trans wX.box.b2,(vT.block _ (uZ wX.box.b3).1 (by omega)).trans wX.box.b3,(vT.block _ (uZ wX.box.mark).1 (by omega)).trans wX.box.mark,wE⟩;have xg:OwnP W2 (w2.heap.size+5) R cp T.puts:=wX.row.same fun g hg=>by
   have h9:=wX.row.blk g (by rw[hg];rfl);exact vT.block g h9.2 (by omega)
  have Ay:=(vT.block _ (uZ Bm).1 (by omega)).trans Bm;have zk:=KY.out.lts;have xT: ∀g,R.map (·.block)=some g->g<W.heap.size:=fun g hg=>(HJ.out.row.blk g hg).2;have Qr: ∀ad,A1=some ad->ad.block<w2.heap.size:=fun ad e=>(Bz.out.noR ad e).2.2.2.2.2.2;have hSW: ¬S W.heap.size:=fun e=>by have:=HJ.out.run.home.lts.2.2 _ e;omega
  have XN:W2.heap.size=W.heap.size+1:=(by rw[wF,Ai];simp);have hWz:=HJ.out.run.size;have Jt:=vL.add (K':=fun b=>ThK w2.heap.size R b\/b=W.heap.size) Qr (fun b e=>e.elim .inl (fun e=> .inr ⟨e▸hSW,by omega,by omega⟩));have fP2:=ae Ay 2;have q0:W2.cell? ⟨w.heap.size+1,0,none⟩=some (.int .u8 (q:Int)):=aa ((vL.mod.block (w.heap.size+1) (uZ RX.out).1 (fun e=>e.elim (fun e=>KT.out.2 e) (fun e=>by omega))).trans RX.out) 0;have x2:W2.cell? ⟨W.heap.size,2,none⟩=some (.int .u8 (pr:Int)):=aa Ay 2;obtain⟨W3,AT⟩: ∃W3,W3=W2.setCell ⟨W.heap.size,2,none⟩ (.int .u8 (q:Int)):=⟨_,rfl⟩;have xH:Mod (fun b=>b=W.heap.size) W2 W3:=(by rw[AT];exact aj (S:=fun b=>b=W.heap.size) rfl 2 _);have Ck:W3.heap[W.heap.size]? =some (.cells #[.int .u64 ad, .int .i64 (fq:Int), .int .u8 (q:Int), .bool cb] 85 (0,0)):=by
   rw[AT];have h9:=Joins.block_setCell (i:=2) Ay (.int .u8 (q:Int));simpa using h9
  have wP:=(Jt.set xH (fun b e=> .inr e)).sub (K':=ThK w2.heap.size R) (fun b e=> .inl e);have NX:=wZ.keep (W':=W3) (fun b h1 h2=>xH.block b (by omega) (by omega));have EC:OwnP W3 (w2.heap.size+5) R cp T.puts:=xg.same fun g hg=>xH.block g (by have:=xT g (by rw[hg];rfl);omega) (by have:=xT g (by rw[hg];rfl);omega);have Gi:W3.heap[w.heap.size]? =w2.heap[w.heap.size]? :=wP.mod.block w.heap.size FH (fun e=>e.elim (fun e=>KT.out.1 e) (fun e=>by omega));have c0:W3.cell? ⟨w.heap.size,0,none⟩=some (.pointer (some ⟨s,0,none⟩)):=aa (Gi.trans Iz.out) 0;have s2:W3.cell? ⟨s,2,none⟩=some (.pointer (some ⟨t,0,none⟩)):=aa wP.one.self 2;have x0:W3.cell? ⟨W.heap.size,0,none⟩=some (.int .u64 ad):=aa Ck 0;have y1:W3.cell? ⟨W.heap.size,1,none⟩=some (.int .i64 (fq:Int)):=aa Ck 1;have y2:W3.cell? ⟨W.heap.size,2,none⟩=some (.int .u8 (q:Int)):=aa Ck 2;have y3:W3.cell? ⟨W.heap.size,3,none⟩=some (.bool cb):=aa Ck 3;have wJ:T1.nd 4 0=some root:=(by rw[zr.out.nd];exact HR.out);obtain⟨was,hw,Fv⟩:=zr.out.was yo.out HX.out (fun _ =>rfl);dsimp only at hw Fv;obtain⟨gg,PE⟩:=zr.out.sp.node1 hw;obtain⟨n1,n2,n3,n4,n5,n6⟩:=zr.out.sp.leaf hw;rw[Fv]at n3 n4;have yt:pg<34359738368:=(by have h9:=fI.1 xQ.out;omega);have xy:=gu t c a root 0 ad ⟨fq,q,cb⟩ W3.drew S p1 T1 (held L hold) wP.home.cache.pool.drew wP.one.tab wP.one.noT.1 zr.out.sp.good wJ (by have:=Fu.out;omega) hq7 n3 n4 (by have h9:=zr.out.sp.cap n3;have h8:=wY fq;show p1.cnt fq+1<_;omega) (fq:Int) (q:Int) rfl rfl;have zH:Calls Tryz.prog 69 #[.pointer (some ⟨t,0,none⟩), .int .u64 ad, .agg #[.int .i64 (fq:Int), .int .u8 (q:Int), .bool cb]] W3.drew fun e W=>e= .returned (.int .i64 0)/\Hid (am W S a (bg p1 was ⟨fq,q,cb⟩ gg pg))/\Hid (Mod S W3 W):=by
   refine xy.mono ?_;rw[fz (was:=was) (g:=gg) Fu.out yt (by omega) (by rw[aR n3];omega) hw PE];rintro e W ⟨rfl,hP,BX⟩;exact⟨rfl,va (by simpa using hP),va BX.undrew⟩
  have DX:=va zH;have wu:=va wP;have xN:=va NX;have AD:=va EC;have HW3':=va AT;have HW:=va hw;have HGG:=va PE;clear xy zH vL Jt wP wZ NX xg EC Ai wF AT vD Bm Ay Ck vT xH xm wE wX Gi wJ hw PE Fv n5 n6 XN hWz;gi_upto_region 10 with(fail);rw[<-HW3'.out];refine bR (fun w'=>w'.cell? ⟨w.heap.size,0,none⟩=some (.pointer (some ⟨s,0,none⟩))/\w'.cell? ⟨s,2,none⟩=some (.pointer (some ⟨t,0,none⟩))/\w'.cell? ⟨W.heap.size,0,none⟩=some (.int .u64 ad)/\w'.cell? ⟨W.heap.size,1,none⟩=some (.int .i64 (fq:Int))/\w'.cell? ⟨W.heap.size,2,none⟩=some (.int .u8 (q:Int))/\w'.cell? ⟨W.heap.size,3,none⟩=some (.bool cb)) 8 (by kernel_rfl) (by kernel_rfl) (cW.of 7 (by kernel_rfl) (by kernel_rfl)) ⟨c0,s2,x0,y1,y2,y3⟩ ?_;intro QK BJ;refine zt 0 ?_;refine zt 1 ?_;refine zt 2 ?_;refine zt 3 ?_;refine zt 4 ?_;refine zt 5 ?_;refine zt 6 ?_;refine zt 7 ?_;refine bd 8 (by kernel_rfl) rfl rfl (fun K' hK=>?_)
  go_simp
  refine(DX.out).mono ?_;rintro e W6 ⟨rfl,MF,Hk⟩;obtain⟨xt,BF⟩:=wu.out.pool MF.out Hk.out;go_wp2_with fail;refine hK.out _ _ ?_;clear hK K';refine be (by kernel_rfl) ?_ _;refine aQ ?_;have wB:=xN.out.keep (W':=W6) (fun b h1 h2=>BF b (.inl ⟨h1,h2⟩));have zc:OwnP W6 (w2.heap.size+5) R cp T.puts:=AD.out.same fun g hg=>BF g (.inr (by rw[hg];rfl));have xh:=aA (l:=w2.heap.size+3+1) (o:= .loop (rec .ready none)) (W:=W6);have xO:=wB.loop;have Bg: ∀ {b:Nat} {o:Obj},W6.heap[b]? =some o->b≠w2.heap.size+3+1->(W6.putObj (w2.heap.size+3+1) (.loop (rec .ready none))).heap[b]? =some o:=fun h1 h2=>(xh.block _ (uZ h1).1 h2).trans h1;refine⟨xO,rfl,_,xt.set xh (fun b e=> .inl (by omega)),⟨Bg wB.b1 (by omega),Bg wB.b2 (by omega),Bg wB.b3 (by omega),Bg wB.mark (by omega),World.putObj_heap_same (uZ xO).1⟩,zc.same fun g hg=>?_,_,zr.out.step yo.out HX.out xQ.out (fun _ =>rfl) hq7 HW.out HGG.out⟩;have h9:=zc.blk g (by rw[hg];rfl);exact xh.block g h9.2 (by omega)
 ·rintro e W ⟨hv,R,cp,p1,hj⟩;refine⟨hv, .inl ⟨hj.box.loop,?_⟩⟩;obtain⟨W2,wF⟩: ∃W2,W2=W.putObj (w2.heap.size+3+1) (.loop (rec .exhausted none)):=⟨_,rfl⟩;rw[<-wF];have vT:Mod (fun b=>b=w2.heap.size+3+1) W W2:=(by rw[wF];exact aA);have vL:=hj.run.set vT (fun b e=> .inl (by omega));have BH:=(vT.block _ (uZ hj.box.mark).1 (by omega)).trans hj.box.mark;have wu:=va vL;have BK:=va BH;have Gs:=va hj.rel;clear wF vT vL BH hj xp hv;unfold dp
  gi_wp2
  refine⟨by simp, .inl ⟨_,_,rfl,run_takeDeferred BK.out,?_⟩⟩;have BV:=aA (l:=w2.heap.size+3) (o:= .deferred none) (W:=W2);have vP:=wu.out.set BV (fun b e=> .inl (by omega));refine⟨.int .i64 0,by simp[results,Tryz.results27,go_sem], .inr ⟨rfl,rfl,A1,vC,p1,vP.home,vP.one,?_,(fun ad e=>by have h1:=vS.out.row ad.block (by rw[e];rfl);have h2:=wO.out.size;omega),Gs.out⟩⟩;have hA:Mod (fun b=>aw S c m b\/b=s) w w2:=((Mod.of wO.out).trans (Out.refl _ _) (Fp.out)).sub fun b e=> .inr e;exact hA.trans (Out.refl _ _) (vP.mod.sub fun b e=> .inl e)
end
section
variable {l:List Reg} {a:Int} {x:Reg}
theorem ut (h:x∈Rg.ats l a): ∃r∈l,x.ino=r.ino:=by
 obtain⟨r,hr,e⟩:=List.mem_map.1 h;exact⟨r,(List.mem_filter.1 hr).1,by rw[<-e];rfl⟩
variable {r:Reg}
theorem ats_mem (hr:r∈l) (h:r.fr<r.to):Rg.hit r.fr r∈Rg.ats l r.fr:=
 List.mem_map.2 ⟨r,List.mem_filter.2 ⟨hr,by simp[Rg.holds];omega⟩,rfl⟩
variable {F:List Nd}
theorem Rgs.of {out:List Reg} (hr:Rg.right out=true) (wW:dD out) (h: ∀a,∀x∈Rg.ats out a,0<=x.ino->dS F x.ino):Rgs F out:=
 ⟨hr,wW,fun r hm h0=>h r.fr (Rg.hit r.fr r) (ats_mem hm (aD (di hr r hm)).1) h0⟩
theorem Rgs.ats (h:Rgs F l) (hx:x∈Rg.ats l a) (h0:0<=x.ino):dS F x.ino:=by
 obtain⟨r,hr,e⟩:=ut hx;rw[e]at h0⊢;exact h.file r hr h0
theorem Rgs.put (h:Rgs F l) (Af:r.Ok) (he:(Rg.put l r).2=0) (hf:0<=r.ino->dS F r.ino):Rgs F (Rg.put l r).1:=by
 obtain⟨a1,a2,a3⟩:=put_fits (l:=l) (out:=(Rg.put l r).1) h.ok Af (by rw[<-he]);refine Rgs.of a1 a2 fun a x hx h0=>?_;rw[a3 a]at hx;split at hx
 ·obtain⟨y,hy,e⟩:=ut hx;rw[List.mem_singleton.1 hy]at e;rw[e]at h0⊢;exact hf h0
 ·exact h.ats hx h0
variable {f t:Int}
theorem Rgs.cut (h:Rgs F l) (he:(Rg.cut l f t).2=0):Rgs F (Rg.cut l f t).1:=by
 obtain⟨a1,a2,a3⟩:=cut_fits (l:=l) (out:=(Rg.cut l f t).1) h.ok (by rw[<-he]);refine Rgs.of a1 a2 fun a x hx h0=>?_;rw[a3 a]at hx;split at hx
 ·cases hx
 ·exact h.ats hx h0
theorem Rgs.prot {p:Int} (h:Rgs F l) (hp:0<=p) (he:(Rg.protect l f t p).2=0):Rgs F (Rg.protect l f t p).1:=by
 obtain⟨a1,a2,a3,_⟩:=nj (l:=l) (out:=(Rg.protect l f t p).1) h.ok hp (by rw[<-he]);refine Rgs.of a1 a2 fun a x hx h0=>?_;rw[a3 a]at hx;split at hx
 ·obtain⟨y,hy,e⟩:=List.mem_map.1 hx;rw[<-e]at h0⊢;exact Rgs.ats (x:=y) h hy h0
 ·exact h.ats hx h0
theorem uc (rl:List Reg) (f t:Int):(Rg.cut rl f t).1.length<=64/\((Rg.cut rl f t).2=0->t<=140737488355328):=by
 unfold Rg.cut;split
 ·rename_i hc;have h1:=cu hc;unfold Rg.few;split
  ·exact⟨by simp,fun e=>by simp at e⟩
  ·exact⟨by dsimp only;omega,fun _ =>by omega⟩
 ·exact⟨by simp,fun e=>by simp at e⟩
theorem pZ (rl:List Reg) (f t:Int) (q:Nat):(Rg.protect rl f t q).1.length<=64/\((Rg.protect rl f t q).2=0->t<=140737488355328/\q<=7):=by
 unfold Rg.protect;split
 ·rename_i hc;have h1:=cu hc.1;have h2:=hc.2;split
  ·unfold Rg.few;split
   ·exact⟨by simp,fun e=>by simp at e⟩
   ·exact⟨by dsimp only;omega,fun _ =>⟨by omega,by omega⟩⟩
  ·exact⟨by simp,fun e=>by simp at e⟩
 ·exact⟨by simp,fun e=>by simp at e⟩
end
section
open Go.RowKit Go.Sort
variable {w:World} {B c a fs m:Nat} {S:Nat->Prop} {F:List Nd} {clock:Int} {p:Pool} {L:List Slot} {l:List SpM} {k:Nat} {x:SpM} {T:Tab}
theorem bJ.rel {f t:Int} {q kk:Nat} {hold:Nat->Nat} {p':Pool} {T':Tab} (h0:Sp F hold p L T) (ho:Own p T) (h:bJ F hold (prt q) f t p L T kk p' T'):Sp F hold p' L T'/\(∀E,Far hold T E p p')/\Own p' T'/\T'.nd 4 0=T.nd 4 0/\ ∀g y,T'.lf g=some y-> ∃z,T.lf g=some z:=by
 refine⟨h.sp,h.far,h.own h0 (fun _ =>rfl) (fun _ e=>e) ho,by rw[h.nd],fun g y hy=>?_⟩;have h1:=h.lf g;rw[hy]at h1;split at h1
 ·cases hz:T.lf g with
  |none=>rw[hz]at h1;cases h1
  |some z=>exact⟨z,rfl⟩
 ·exact⟨y,h1.symm⟩
theorem hmap' (h:Hse w B c a fs m S F clock p L l) (hk:l[k]? =some x) (hT:x.T=some T) (r:Reg) (ED:r.Ok):
  Calls Tryz.prog 25 #[.pointer (some ⟨x.s,0,none⟩), .agg #[.int .u64 (r).fr, .int .u64 (r).to, .int .u8 (r).prot, .int .i64 (r).ino, .int .u64 (r).off]] w (fu w B c a fs m S F clock L l k x p (Rg.put x.rl r).1 (fun er=>er=eh F x.rl r) (fun p' T'=>cC F (tnS ((l.map (·.T)).set k none)) r.fr r.to p L T T.puts.length p' T')):=
 hmap h hk hT r ED fun e hf=>(h.live hk hT).rgs.put ED e hf
theorem hunmap (h:Hse w B c a fs m S F clock p L l) (hk:l[k]? =some x) (hT:x.T=some T) (fr ot:Int) (h0:0<=fr) (h1:fr<=18446744073709551615) (h2:0<=ot) (h3:ot<=18446744073709551615):
  Calls Tryz.prog 26 #[.pointer (some ⟨x.s,0,none⟩), .int .u64 fr, .int .u64 ot] w (fu w B c a fs m S F clock L l k x p (Rg.cut x.rl fr ot).1 (fun er=>er=(Rg.cut x.rl fr ot).2) (fun p' T'=>cC F (tnS ((l.map (·.T)).set k none)) fr ot p L T T.puts.length p' T')):=by
 have xc:=h.live hk hT;refine(qJ B c a fs m x.s x.t x.root x.n x.cap fr ot x.A x.rl clock w S F p L T _ h.home xc.one (h.sp hk hT) xc.root xc.rgs.ok h0 h1 h2 h3 (by have:=(uc x.rl fr ot).1;omega) (uc x.rl fr ot).2).mono fun e w' hp=>?_;exact hturn h hk hT hp (fun h0=>xc.rgs.cut h0.symm) (fun p' T' hr=>hr.rel (h.sp hk hT) (h.ownT hk hT))
theorem hprotect (h:Hse w B c a fs m S F clock p L l) (hk:l[k]? =some x) (hT:x.T=some T) (hl:l.length<=100) (fr ot:Int) (q:Nat) (h0:0<=fr) (h1:fr<=18446744073709551615) (h2:0<=ot) (h3:ot<=18446744073709551615):
  Calls Tryz.prog 27 #[.pointer (some ⟨x.s,0,none⟩), .int .u64 fr, .int .u64 ot, .int .u8 (q:Int)] w (fu w B c a fs m S F clock L l k x p (Rg.protect x.rl fr ot q).1 (fun er=>er=(Rg.protect x.rl fr ot q).2) (fun p' T'=>bJ F (tnS ((l.map (·.T)).set k none)) (prt q) fr ot p L T T.puts.length p' T')):=by
 have xc:=h.live hk hT;refine(mR B c a fs m x.s x.t x.root x.n x.cap fr ot q x.A x.rl clock w S F p L T _ h.home xc.one (h.sp hk hT) xc.root xc.rgs.ok h0 h1 h2 h3 (by have:=(pZ x.rl fr ot q).1;omega) (pZ x.rl fr ot q).2 (h.caps hl k)).mono fun e w' hp=>?_;exact hturn h hk hT hp (fun h0=>xc.rgs.prot (by omega) h0.symm) (fun p' T' hr=>hr.rel (h.sp hk hT) (h.ownT hk hT))
end
