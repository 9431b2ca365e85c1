/- Spaces: Map. -/
import Derived.Test.YtoochjhipmpehaaGreatDoorKhK
set_option linter.unusedVariables false
set_option linter.unusedSimpArgs false
set_option maxRecDepth 100000
set_option maxHeartbeats 8000000
namespace Go.Proofs.YtoochjhipmpehaaGreatDoor
open Go.Proofs.Tryz
section
open Go.RowKit Go.Sort
attribute [local go_sem] Oper.semAt_some
variable {w:World}
theorem lD {P:Program}{n:Nat}{c:Code}{Q:Exit->Act->World->Prop}{a:Act}(h:c.wp P (qG Q) a w):c.wpIn Fence.wide n P Q a w:=by
 refine wpIn_mono (wpIn_wide.2 h) ?_;intro e a w hq;cases e<;>first|exact hq|exact hq.elim
variable {b:Nat}{T:TypeId}
theorem lW {x0 x1 x2 x3 x4 y0 y1 y2 y3 y4:Value}(h:w.heap[b]? =some (.cells #[x0,x1,x2,x3,x4] T (0,0))):(((((w.setCell ⟨b,0,none⟩ y0).setCell ⟨b,1,none⟩ y1).setCell ⟨b,2,none⟩ y2).setCell ⟨b,3,none⟩ y3).setCell ⟨b,4,none⟩ y4).cell? ⟨b,0,none⟩=some y0:=by
 have h1:=Joins.block_setCell (i:=0) h y0;have h2:=Joins.block_setCell (i:=1) h1 y1;have h3:=Joins.block_setCell (i:=2) h2 y2;have h4:=Joins.block_setCell (i:=3) h3 y3;have h5:=Joins.block_setCell (i:=4) h4 y4;exact aa (cs:= #[y0,y1,y2,y3,y4]) (by simpa using h5) 0
theorem lX {v0 v1 v2 v3 v4:Value}(h:w.heap[b]? =some (.cells #[v0,v1,v2,v3,v4] T (0,0))):(w.cell? ⟨b,0,none⟩=some v0/\w.cell? ⟨b,1,none⟩=some v1/\w.cell? ⟨b,2,none⟩=some v2/\w.cell? ⟨b,3,none⟩=some v3/\w.cell? ⟨b,4,none⟩=some v4)/\ ∀i,w.frozen? ⟨b,i,none⟩=false:=
 ⟨⟨aa h 0,aa h 1,aa h 2,aa h 3,aa h 4⟩,fun i=>ae h i⟩
theorem lY {W:World}{B:Nat}(h:Below B w W)(hb:B<=b)(y0 y1 y2 y3 y4:Value):Below B w (((((W.setCell ⟨b,0,none⟩ y0).setCell ⟨b,1,none⟩ y1).setCell ⟨b,2,none⟩ y2).setCell ⟨b,3,none⟩ y3).setCell ⟨b,4,none⟩ y4):=
 ((((h.setCell (p:=⟨b,0,none⟩) hb _).setCell (p:=⟨b,1,none⟩) hb _).setCell (p:=⟨b,2,none⟩) hb _).setCell (p:=⟨b,3,none⟩) hb _).setCell (p:=⟨b,4,none⟩) hb _
theorem vS (c a fs m:Nat)(clock:Int)(w:World)(h:aN w c a fs m clock):Calls prog 63 #[.pointer (some ⟨c,0,none⟩)] w fun e w'=>e= .returned (.pointer (some ⟨fs,0,none⟩))/\w=w':=by
 have c1:w.cell? ⟨c,1,none⟩=some (.pointer (some ⟨fs,0,none⟩)):=aa h 1;clear h;go_enter func63,ntmps63;go_wp2_with fail;go_ret;exact⟨rfl,rfl⟩
def ep (F:List Nd)(ino:Int):Prop:= ∃y,F[ino.toNat]? =some y/\y.kind=1
open Classical in
noncomputable def di (F:List Nd)(rl:List Reg)(r:Reg):Int:=if(Rg.put rl r).2≠0 then(Rg.put rl r).2 else if 0<=r.ino/\ ¬ep F r.ino then 1 else 0
theorem meta_any (B fs nb c2:Nat)(ad mp:Nat->Nat)(F:List Nd)(ino:Int)(w:World)(h:FsIs w B fs nb c2 ad mp F)(h0:0<=ino): ∃(kd md u g:Nat) (n me:Int),((me=0/\kd=1)↔ep F ino)/\ ∀W,Below w.heap.size w W->
  Calls prog 64 #[.pointer (some ⟨fs,0,none⟩),.int .i64 ino] W fun e w'=>e= .returned (.tuple #[.agg #[.int .u8 (kd:Int),.int .u16 (md:Int),.int .u32 (u:Int),.int .u32 (g:Int),.int .i64 n],.int .i64 me])/\Below W.heap.size W w':=by
 obtain⟨i,rfl⟩: ∃i:Nat,ino=(i:Int):=⟨ino.toNat,o_⟩;cases hy:F[i]? with
 |none=>
  refine⟨0,0,0,0,0,3,⟨fun e=>absurd e.1 d_,fun⟨y,h1,_⟩=>by rw[Int.toNat_natCast,hy]at h1;cases h1⟩,fun W hW=>?_⟩;have hlen:=List.getElem?_eq_none_iff.1 hy;exact rE B fs nb c2 ad mp F (i:Int) W (h.below hW) (.inr o_)
 |some y=>
  refine⟨y.kind,y.mode,y.uid,y.gid,y.n,0,⟨fun e=>⟨y,by rw[Int.toNat_natCast,hy],e.2⟩,fun⟨z,h1,h2⟩=>?_⟩,fun W hW=>iz B fs nb c2 i ad mp F y W (h.below hW) hy⟩;rw[Int.toNat_natCast,hy]at h1;injection h1 with h1;subst h1;exact⟨rfl,h2⟩
def RegBox (W:World)(b:Nat)(r:Reg):Prop:=W.heap[b]? =some (.cells #[.int .u64 r.fr,.int .u64 r.to,.int .u8 r.prot,.int .i64 r.ino,.int .u64 r.off] 45 (0,0))
theorem smap_any (B c a fs m s t root n cap:Nat)(r:Reg)(A:Option Addr)(rl:List Reg)(clock:Int)(w:World)(S:Nat->Prop)(F:List Nd)(p:Pool)(L:List Slot)(T:Tab)(hold:Nat->Nat)
  (hH:Home w B c a fs m S F clock p L)(hO:One w B c a m S s t root A n cap rl)(zZ:Sp F hold p L T)(hr:T.nd 4 0=some root)(ya:bG rl)(EL:r.Ok)(xD:(Rg.put rl r).1.length<=1000000)(DU:(Rg.put rl r).2=0->r.to<=140737488355328):
  Calls prog 25 #[.pointer (some ⟨s,0,none⟩),.agg #[.int .u64 (r).fr,.int .u64 (r).to,.int .u8 (r).prot,.int .i64 (r).ino,.int .u64 (r).off]] w (jW w B c a fs m s t root S F clock L (Rg.put rl r).1 (fun er=>er=di F rl r) (fun p'=> ∃T',dk F hold r.fr r.to p L T T.puts.length p' T')):=by
 refine(callsIn_wide (n:=9)).1 ?_;refine callsIn_of_wp_marks func25 rfl trivial ?_;simp only[ntmps25,List.size_toArray,xd,List.length_nil,Nat.reduceAdd,Nat.reduceSub,Array.replicate_succ,Array.replicate_zero,List.push_toArray,List.append_toArray,List.nil_append,List.cons_append];obtain⟨w0,xv⟩:=e_ ((w.alloc (.cells #[.pointer (some ⟨s,0,none⟩)] 60)).alloc (.cells #[.int .u64 r.fr,.int .u64 r.to,.int .u8 r.prot,.int .i64 r.ino,.int .u64 r.off] 45));have xT:w0.heap.size=w.heap.size+2:=(by rw[xv];simp);have xz:Below w.heap.size w w0:=(by rw[xv];exact wR.alloc s_ _);have BH:w0.heap[w.heap.size]? =some (.cells #[.pointer (some ⟨s,0,none⟩)] 60 (0,0)):=(by rw[xv];exact(wT _ _ _ s_).trans (ab w _));have AI:RegBox w0 (w.heap.size+1) r:=by
  unfold RegBox;rw[xv];have:=ab (w.alloc (.cells #[.pointer (some ⟨s,0,none⟩)] 60)) (.cells #[.int .u64 r.fr,.int .u64 r.to,.int .u8 r.prot,.int .i64 r.ino,.int .u64 r.off] 45)
  rwa [World.size_alloc]at this
 have CB:=hO.below xz;have Gv:=hH.below xz;have zv:=eO s c a t n cap A w0 CB.self;have BL:=put_any r A n cap w0.drew rl (CB.row.below ((xp w0.heap.size w0).drew) (wS _)) ya EL;obtain⟨l2,xW⟩:=e_ ((Rg.put rl r).1);obtain⟨e2,JQ⟩:=e_ ((Rg.put rl r).2);rw[<-xW,<-JQ]at BL;have GL:Calls prog 62 #[.slice A n cap,.agg #[.int .u64 (r).fr,.int .u64 (r).to,.int .u8 (r).prot,.int .i64 (r).ino,.int .u64 (r).off]] w0.drew fun e W=> ∃A1 xt,e= .returned (.tuple #[.slice A1 l2.length xt,.int .i64 e2])/\Hid (OwnR W w0.heap.size A1 xt l2)/\Hid (Below w0.heap.size w0 W):=by
  refine BL.mono ?_;rintro e W⟨A1,xt,rfl,h1,h2⟩;exact⟨A1,xt,rfl,wP h1,wP (bw h2)⟩
 have Ks:(e2≠0->di F rl r=e2)/\(e2=0->0<=r.ino/\ ¬ep F r.ino->di F rl r=1)/\(e2=0-> ¬(0<=r.ino/\ ¬ep F r.ino)->di F rl r=0):=by
  unfold di;rw[<-JQ];exact⟨fun h=>if_pos h,fun h h2=>by rw[if_neg (fun e=>e h),if_pos h2],fun h h2=>by rw[if_neg (fun e=>e h),if_neg h2]⟩
 rw[<-xW];rw[<-xW]at xD;rw[<-JQ]at DU;obtain⟨mE,VW⟩:=e_ (di F rl r);rw[<-VW]at Ks⊢;have s0:w0.cell? ⟨w.heap.size,0,none⟩=some (.pointer (some ⟨s,0,none⟩)):=aa BH 0;have s3:w0.cell? ⟨s,3,none⟩=some (.slice A n cap):=aa CB.self 3;have r0:w0.cell? ⟨w.heap.size+1,0,none⟩=some (.int .u64 r.fr):=aa AI 0;have r1:w0.cell? ⟨w.heap.size+1,1,none⟩=some (.int .u64 r.to):=aa AI 1;have r2:w0.cell? ⟨w.heap.size+1,2,none⟩=some (.int .u8 r.prot):=aa AI 2;have r3:w0.cell? ⟨w.heap.size+1,3,none⟩=some (.int .i64 r.ino):=aa AI 3;have r4:w0.cell? ⟨w.heap.size+1,4,none⟩=some (.int .u64 r.off):=aa AI 4;obtain⟨yu,Pf,xU,EH,yd,Bp,Gf,Kc⟩:=zh8 zv GL xv xT xz BH AI CB;obtain⟨Fc,AA,HR,Jm⟩:=zh4 Gv zZ hr Ks;have PF:=hO.lts.1;have Pn:=wP (show¬S w.heap.size from fun e=>by have:=hH.lts.2.2 _ e;omega);have Sh:c<w.heap.size/\m<w.heap.size:=⟨hH.lts.1,hH.lts.2.1⟩;clear zv BL GL xv xT xz BH AI CB Gv hH hO zZ hr xW JQ Ks VW;gi_upto_region 3 with(first
  |(refine⟨trivial,?_⟩;rw[<-xU.o];refine(callsIn_wide.2 yu.o).mono ?_;rintro e w1⟨rfl,rfl⟩)
  |fail)
 gi_cut [5,6]from 12 (fun x y wx=> ∃A1 xt,x= .slice A1 l2.length xt/\y= .int .i64 e2/\OwnR wx w0.heap.size A1 xt l2/\Below w0.heap.size w0 wx)
 case first=>
  refine lD ?_;go_region_with ((first
   |(go_at_call 62;refine(Pf.o).mono ?_;rintro e w1⟨A1,xt,rfl,yB,xI⟩)))
  all_goals
   refine bV ?_;go_wp2_with fail;gi_meet;exact⟨A1,xt,rfl,rfl,yB.o,xI.o⟩
 case rest=>
 obtain⟨A1,xt,rfl,rfl,yJ,xu⟩:=hcut;obtain⟨w1,rfl⟩:=e_ wc;obtain⟨xI,yB⟩:=zh2 xu yJ;clear xu yJ s0 s3 r0 r1 r2 r3 r4;by_cases xJ:e2=0
 rotate_left
 ·have xA:(e2 != 0)=true:=(by rw[bne_iff_ne];exact xJ);have yc:=wP xJ;clear xJ
  gi_wp2
  refine⟨.int .i64 e2,by simp[results,results25,go_sem],.inl ⟨e2,rfl,yc.o,(Jm.o.1 yc.o).symm,yd.o.trans (xI.o.mono yd.o.size)⟩⟩
 subst xJ;have Zs:=DU rfl;clear DU;by_cases zx:0<=r.ino
 rotate_left
 have HMZ:=wP (Jm.o.2.2 rfl (fun h=>zx h.1));clear Jm
 rotate_left
 focus
  have SC:w0.heap[w.heap.size+1]? =some (.cells #[.int .u64 r.fr,.int .u64 r.to,.int .u8 r.prot,.int .i64 r.ino,.int .u64 r.off] 45 (0,0)):=Gf.o;have Dn:=(xI.o.block _ (wO SC).1).trans SC;have EE:=(xI.o.block _ (wO Bp.o).1).trans Bp.o;have zB:=Kc.o.below xI.o;have Xw:=Fc.o.below xI.o;obtain⟨B1,nb,cc2,adf,mpf,NS⟩:=Xw.fs;obtain⟨kd,md,ui,gi,nn,me,RH,PS⟩:=meta_any B1 fs nb cc2 adf mpf F r.ino w1 NS zx;have WH: ∀W,Below w1.heap.size w1 W->Calls prog 63 #[.pointer (some ⟨c,0,none⟩)] W fun e w'=>e= .returned (.pointer (some ⟨fs,0,none⟩))/\W=w':=fun W hW=>vS c a fs m clock W (Xw.below hW).cache.self;have s0:w1.cell? ⟨w.heap.size,0,none⟩=some (.pointer (some ⟨s,0,none⟩)):=aa EE 0;have s1:w1.cell? ⟨s,0,none⟩=some (.pointer (some ⟨c,0,none⟩)):=aa zB.self 0;have r3:w1.cell? ⟨w.heap.size+1,3,none⟩=some (.int .i64 r.ino):=aa Dn 3;have yN:w.heap.size+1<w1.heap.size:=(wO Dn).1;have Vb:s<w1.heap.size:=zB.lts.1;have OC:w.heap.size<w1.heap.size:=o_;obtain⟨Nn,Tw,Yu⟩:=zh3 PS WH RH;clear PS WH RH NS SC Dn EE zB Xw;obtain⟨QX,AD,Tg⟩:=zh3 (show Below w1.heap.size w1 w1.drew from(xp _ _).drew) (show∀o,Below w1.heap.size w1 (w1.drew.alloc o)from fun o=>((xp w1.heap.size w1).drew).alloc s_ o) (show∀W,Below w1.heap.size w1 W->W.cell? ⟨w.heap.size,0,none⟩=some (.pointer (some ⟨s,0,none⟩))/\W.cell? ⟨s,0,none⟩=some (.pointer (some ⟨c,0,none⟩))/\W.cell? ⟨w.heap.size+1,3,none⟩=some (.int .i64 r.ino)from fun W hW=>⟨(hW.cell OC).trans s0,(hW.cell Vb).trans s1,(hW.cell yN).trans r3⟩);have VT:prog.follows .mixedOrders=true:=k_;gi_upto_region 7 with(fail);gi_cut [7,8]from 27 (fun x y wx=> ∃b,x= .pointer (some ⟨b,0,none⟩)/\y= .int .i64 me/\wx.cell? ⟨b,0,none⟩=some (.int .u8 (kd:Int))/\Below w1.heap.size w1 wx)
  case first=>
   refine lD ?_;go_region_with ((first
    |(go_at_call 63;refine(Tw.o _ QX.o).mono ?_;rintro e w4⟨rfl,rfl⟩)
    |(go_at_call 63;refine(Tw.o _ (AD.o _)).mono ?_;rintro e w4⟨rfl,rfl⟩)
    |(go_at_call 64;refine(Nn.o _ QX.o).mono ?_;rintro e w5⟨rfl,zJ⟩;have NC:=wP (QX.o.trans (zJ.mono (wS _)));clear zJ)
    |(go_at_call 64;refine(Nn.o _ (AD.o (.cells #[.int .u8 0,.int .u16 0,.int .u32 0,.int .u32 0,.int .i64 0] 103))).mono ?_;rintro e w5⟨rfl,zJ⟩;obtain⟨NC,Gb⟩:=zh2 ((AD.o _).trans (zJ.mono s_)) ((zJ.block w1.heap.size s_).trans (ab w1.drew _));obtain⟨⟨k0,k1,k2,k3,k4⟩,kf⟩:=lX Gb.o;have kf0:=kf 0;have kf1:=kf 1;have kf2:=kf 2;have kf3:=kf 3;have kf4:=kf 4;clear kf zJ)))
   all_goals
    refine bV ?_
    gi_wp2
    gi_meet;refine⟨_,rfl,rfl,?_,?_⟩
    ·first
      |(have hx:=Gb.o;exact lW hx)
      |(have hx:=ab w5 (.cells #[.int .u8 (kd:Int),.int .u16 (md:Int),.int .u32 (ui:Int),.int .u32 (gi:Int),.int .i64 nn] 103);exact aa hx 0)
    ·first
      |(have hx:=Gb.o;exact lY NC.o (wS _) _ _ _ _ _)
      |exact NC.o.alloc NC.o.size _
  obtain⟨mb,rfl,rfl,Gl,Bv⟩:=hcut;obtain⟨w6,rfl⟩:=e_ wc;obtain⟨UH,Tl⟩:=zh2 (xI.o.trans (Bv.mono xI.o.size)) (yB.o.below Bv (wS _));clear Bv s0 s1 r3 yN Vb OC Nn Tw xI yB Pf yu QX AD Tg;have xI:=UH;have yB:=Tl;clear UH Tl;clear w1;obtain⟨w1,rfl⟩:=e_ w6;by_cases Cl:me=0/\kd=1
  rotate_left
  ·have Ds:=wP (Jm.o.2.1 rfl ⟨zx,fun h=>Cl (Yu.o.2 h)⟩);clear Jm;by_cases IP:me=0
   ·subst IP;have Ha:((kd:Int) != 1)=true:=(by rw[bne_iff_ne];intro e;exact Cl ⟨rfl,o_⟩);clear Cl Yu
    gi_wp2
    refine⟨.int .i64 1,by simp[results,results25,go_sem],.inl ⟨1,rfl,d_,Ds.o.symm,yd.o.trans (xI.o.mono yd.o.size)⟩⟩
   ·have xA:(me != 0)=true:=(by rw[bne_iff_ne];exact IP);clear Cl Yu IP
    gi_wp2
    refine⟨.int .i64 1,by simp[results,results25,go_sem],.inl ⟨1,rfl,d_,Ds.o.symm,yd.o.trans (xI.o.mono yd.o.size)⟩⟩
  obtain⟨rfl,rfl⟩:=Cl;have HMZ:=wP (Jm.o.2.2 rfl (fun h=>h.2 (Yu.o.1 ⟨rfl,rfl⟩)));clear Jm Yu
 all_goals
  obtain⟨w2,yl⟩:=e_ (w1.setCell ⟨s,3,none⟩ (.slice A1 l2.length xt));obtain⟨MV,CA,xS,xX⟩:=One.laid Fc.o Kc.o xI.o yB.o (wS _) xD;rw[<-yl]at MV CA xS xX;have zB:=Kc.o.below xI.o;have EE:=(xI.o.block _ (wO Bp.o).1).trans Bp.o;have EU:=(xS.block _ (wO Bp.o).1 o_).trans Bp.o;have s0:w1.cell? ⟨w.heap.size,0,none⟩=some (.pointer (some ⟨s,0,none⟩)):=aa EE 0;have s3:w1.cell? ⟨s,3,none⟩=some (.slice A n cap):=aa zB.self 3;have sf3:=ae zB.self 3;have t0:w2.cell? ⟨w.heap.size,0,none⟩=some (.pointer (some ⟨s,0,none⟩)):=aa EU 0;have AI:w0.heap[w.heap.size+1]? =some (.cells #[.int .u64 r.fr,.int .u64 r.to,.int .u8 r.prot,.int .i64 r.ino,.int .u64 r.off] 45 (0,0)):=Gf.o;have Dn:=(xI.o.block _ (wO AI).1).trans AI;have Aj:=(xS.block _ (wO AI).1 o_).trans AI;have r3:w1.cell? ⟨w.heap.size+1,3,none⟩=some (.int .i64 r.ino):=aa Dn 3;have u0:w2.cell? ⟨w.heap.size+1,0,none⟩=some (.int .u64 r.fr):=aa Aj 0;have u1:w2.cell? ⟨w.heap.size+1,1,none⟩=some (.int .u64 r.to):=aa Aj 1;obtain⟨Gc,QQ,Fa,Ex,Nc⟩:=zh5 yl MV CA xS EU;have Lw:w.heap.size<w2.heap.size:=(wO EU).1;clear yl MV CA xS zB EE EU xX AI Dn Aj;gi_upto_region 11 with(fail);rw[<-Gc.o];gi_wp2_with (first
   |(refine⟨trivial,?_⟩;refine(callsIn_wide.2 (iS _ _ _ w2)).mono ?_;rintro e w3⟨rfl,yU⟩;have Fw:=wP yU;clear yU)
   |fail)
  have zy:w3.heap.size=w2.heap.size+3:=(by rw[Fw.o];simp);refine cv rfl o_ (gf:=107) (lb:= #[.pointer (some ⟨w2.heap.size,0,none⟩),.pointer (some ⟨w2.heap.size+1,0,none⟩),.pointer (some ⟨w2.heap.size+1+1,0,none⟩)]) rfl trivial (enters_of func107 k_ rfl) ?_;rw[zy];intro fn FP rec zr;refine(ue (9-1) o_ B c a fs m s t root A1 l2.length xt l2 S F clock p L T hold r.fr r.to (.loop (rec .ready none)) (fun k p'=> ∃T',dk F hold r.fr r.to p L T k p' T') w2 w3 QQ.o Fa.o AA.o HR.o Fw.o ⟨T,dk.start AA.o⟩ (fun k p' x ⟨T',h⟩ hx ym=>⟨T',h.skip hx ym⟩) ?_).mono ?_
  ·rintro R cp k W⟨pg,fq,pr,cb⟩ p1 hj hx ym;dsimp only at ym;refine bP trivial zr hj.box.loop rfl ?_;obtain⟨ad,Au⟩: ∃ad:Int,ad=((pg*4096:Nat):Int):=⟨_,rfl⟩;dsimp only;rw[<-Au];obtain⟨T1,Dm⟩:=hj.rel;obtain⟨HX,yQ,HJ,Gz,BX⟩:=zh5 hx ym hj Au Dm;clear hx ym hj zr Au Dm
   gi_wp2
   obtain⟨W1,DA⟩:=e_ (W.alloc (.cells #[.int .u64 ad,.int .i64 (fq:Int),.int .u8 (pr:Int),.bool cb] 85));rw[<-DA];have xu:Below W.heap.size W W1:=(by rw[DA];exact wR);have EF:W1.heap[W.heap.size]? =some (.cells #[.int .u64 ad,.int .i64 (fq:Int),.int .u8 (pr:Int),.bool cb] 85 (0,0)):=(by rw[DA];exact ab W _);have zi:=HJ.o.below xu;refine⟨zi.box.loop,?_⟩;obtain⟨W2,yo⟩:=e_ (W1.putObj (w2.heap.size+3+1) (.loop (rec .busy none)));rw[<-yo];have xS:Mod (fun b=>b=w2.heap.size+3+1) W1 W2:=(by rw[yo];exact aC);have yN:=zi.box.loop;have hlW:=HJ.o.box.lts;have xW:W2.heap[w2.heap.size+3+1]? =some (.loop (rec .busy none)):=(by rw[yo];exact World.putObj_heap_same (wO yN).1);have xF:=zi.run.set xS (fun b e=> .inl o_);have yV:lC W2 s w2.heap.size r.fr r.to (.loop (rec .busy none)):=⟨(xS.block _ (wO zi.box.b1).1 o_).trans zi.box.b1,(xS.block _ (wO zi.box.b2).1 o_).trans zi.box.b2,(xS.block _ (wO zi.box.b3).1 o_).trans zi.box.b3,(xS.block _ (wO zi.box.mark).1 o_).trans zi.box.mark,xW⟩;have zk:OwnP W2 (w2.heap.size+5) R cp T.puts:=zi.row.same fun g hg=>by
    have h9:=zi.row.blk g (by rw[hg];rfl);exact xS.block g h9.2 o_
   have Dp:=(xS.block _ (wO EF).1 o_).trans EF;have BP:=QQ.o.lts;have Lg:W2.heap[w.heap.size]? =w2.heap[w.heap.size]? :=xF.mod.block w.heap.size Lw (fun e=>e.elim (fun e=>Pn.o e) (fun e=>o_));have c0:W2.cell? ⟨w.heap.size,0,none⟩=some (.pointer (some ⟨s,0,none⟩)):=aa (Lg.trans Nc.o) 0;have s2:W2.cell? ⟨s,2,none⟩=some (.pointer (some ⟨t,0,none⟩)):=aa xF.one.self 2;have x0:W2.cell? ⟨W.heap.size,0,none⟩=some (.int .u64 ad):=aa Dp 0;have yD:T1.nd 4 0=some root:=BX.o.top.trans HR.o;have Lz:=lH t c a root ad W2.drew S p1 T1 (held L hold) 0 xF.home.cache.pool.drew xF.one.tab xF.one.noT.1 BX.o.sp.good yD (by have:=Gz.o;omega);obtain⟨Tc,yh,zS,Dq⟩:=zh4 Lz xF yV zk;have VT:prog.follows .mixedOrders=true:=k_;clear Lz xF yV zk DA yo xu EF Dp xS yN xW zi Lg yD;gi_upto_region 13 with(fail);refine cK (fun w'=>w'.cell? ⟨w.heap.size,0,none⟩=some (.pointer (some ⟨s,0,none⟩))/\w'.cell? ⟨s,2,none⟩=some (.pointer (some ⟨t,0,none⟩))/\w'.cell? ⟨W.heap.size,0,none⟩=some (.int .u64 ad)) 6 k_ k_ (dS.of 5 k_ k_) ⟨c0,s2,x0⟩ ?_;intro Uz Jg;refine zt 0 ?_;refine zt 1 ?_;refine zt 2 ?_;refine zt 3 ?_;refine zt 4 ?_;refine zt 5 ?_;refine cw 6 k_ rfl rfl (fun K' hK=>?_)
   go_simp
   refine(Tc.o).mono ?_;rintro e W6⟨er,p6,T6,rfl,FX,Kt,Ro⟩;have BO:=Kt.undrew;obtain⟨zp,EP⟩:=yh.o.pool FX BO;go_wp2_with fail;refine hK.out _ _ ?_;clear hK K';refine cx k_ ?_ _;refine bV ?_;have yt:=zS.o.keep (W':=W6) (fun b h1 h2=>EP b (.inl ⟨h1,h2⟩));have Dc:OwnP W6 (w2.heap.size+5) R cp T.puts:=Dq.o.same fun g hg=>EP g (.inr (by rw[hg];rfl));have yY:=aC (l:=w2.heap.size+3+1) (o:= .loop (rec .ready none)) (W:=W6);have zG:=yt.loop;have Eb: ∀ {b:Nat} {o:Obj},W6.heap[b]? =some o->b≠w2.heap.size+3+1->(W6.putObj (w2.heap.size+3+1) (.loop (rec .ready none))).heap[b]? =some o:=fun h1 h2=>(yY.block _ (wO h1).1 h2).trans h1;refine⟨zG,rfl,p6,zp.set yY (fun b e=> .inl o_),⟨Eb yt.b1 o_,Eb yt.b2 o_,Eb yt.b3 o_,Eb yt.mark o_,World.putObj_heap_same (wO zG).1⟩,Dc.same fun g hg=>?_,T6,BX.o.step HX.o yQ.o Zs (by rw[Gz.o];dsimp only;omega) Ro⟩;have h9:=Dc.blk g (by rw[hg];rfl);exact yY.block g h9.2 o_
  ·rintro e W⟨hv,R,cp,p1,hj⟩;refine⟨hv,.inl ⟨hj.box.loop,?_⟩⟩;obtain⟨W2,yo⟩:=e_ (W.putObj (w2.heap.size+3+1) (.loop (rec .exhausted none)));rw[<-yo];have xS:Mod (fun b=>b=w2.heap.size+3+1) W W2:=(by rw[yo];exact aC);have xF:=hj.run.set xS (fun b e=> .inl o_);have EV:=(xS.block _ (wO hj.box.mark).1 o_).trans hj.box.mark;obtain⟨yh,Ew,Nj⟩:=zh3 xF EV hj.rel;clear yo xS xF EV hj zr hv;unfold ec
   gi_wp2
   refine⟨s_,.inl ⟨_,_,rfl,run_takeDeferred Ew.o,?_⟩⟩;have EO:=aC (l:=w2.heap.size+3) (o:= .deferred none) (W:=W2);have xK:=yh.o.set EO (fun b e=> .inl o_);refine⟨.int .i64 0,by simp[results,results25,go_sem],(.inr ⟨rfl,HMZ.o.symm,A1,xt,p1,xK.home,xK.one,?_,(fun ad e=>by have h1:=yB.o.row ad.block (by rw[e];rfl);have h2:=yd.o.size;omega),Nj.o⟩)⟩;have hA:Mod (fun b=>av S c m b\/b=s) w w2:=((Mod.of yd.o).trans (Out.refl _ _) (Ex.o)).sub fun b e=> .inr e;exact hA.trans (Out.refl _ _) (xK.mod.sub fun b e=> .inl e)
end
