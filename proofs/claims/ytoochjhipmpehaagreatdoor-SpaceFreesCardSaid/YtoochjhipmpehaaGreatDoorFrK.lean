/- The spaces' laws: no house is begun where there are no such files, or no such pool. The spaces' laws: a house through all that is done; SpaceFrees, its walk. -/
import Derived.Test.YtoochjhipmpehaaGreatDoorOvK
set_option linter.unusedVariables false
set_option linter.unusedSimpArgs false
set_option maxRecDepth 100000
set_option maxHeartbeats 8000000
namespace Go.Proofs.YtoochjhipmpehaaGreatDoor
section
open Go.RowKit Go.Sort
def BegunNo (w:World) (e:Ending) (w':World):Prop:=e= .returned (.tuple #[.pointer none, .bool true])/\Below w.heap.size w w'
theorem tW (P:Option Addr) (n cap:Nat) (N:Int) (l:List Ent) (w:World) (wz:In11 w P n cap l) (hN:N<=128) (zh:(newM [aD] 0 l).1≠0\/N<1) (Au:DB w) (vo:0<w.heap.size):
  Calls Tryz.prog 11 #[.agg #[.slice P n cap, .int .i64 N]] w (BegunNo w):=by
 obtain⟨w0,Ae⟩: ∃w0,w0=w.alloc (.cells #[.slice P n cap, .int .i64 N] 24):=⟨_,rfl⟩;have vp:Below w.heap.size w w0:=(by rw[Ae];exact uM);have vO:w0.heap[w.heap.size]? =some (.cells #[.slice P n cap, .int .i64 N] 24 (0,0)):=(by rw[Ae];exact ab w _);have vT:=pz P n cap l w0 (wz.ents.below vp) wz.len wz.few wz.small;have wb:=vp.size;have x0:w0.cell? ⟨w.heap.size,0,none⟩=some (.slice P n cap):=aa vO 0;have Kq:l.length<=64:=(by rw[<-wz.len];exact wz.few);have Zy:=uK vT;have vR:=uK Ae;have wI:=uK vp;have GC:=uK vO;have EE:=uK Au;have MQ:=uK Kq;have xU:=uK wz;have Na:=uK zh;clear vT Ae vp vO Au wz Kq zh;obtain⟨er,zR⟩: ∃er,er=(newM [aD] 0 l).1:=⟨_,rfl⟩;have yG:Hid (∀(R:Option Addr) (cp:Nat) (W:World),fV W R l->l.length<=cp->Calls Tryz.prog 37 #[.slice R l.length cp] W fun e w'=> ∃v q,e= .returned (.tuple #[.pointer v, .int .i64 er, .int .i64 q])/\Below W.heap.size W w'):=uK fun R cp W hE xN=>by
  by_cases h0:er=0
  ·refine(jo R cp l W hE xN MQ.out (zR.symm.trans h0)).mono ?_;rintro e w' ⟨fs,rfl,_,hb⟩;exact⟨_,_,by rw[h0],hb⟩
  ·refine(vnew_err R cp l W hE xN MQ.out (zR▸h0)).mono ?_;rintro e w' ⟨q,rfl,hb⟩;exact⟨_,_,by rw[zR],hb⟩
 have ZF:Hid (∀(W:World),Below w.heap.size w W->Calls Tryz.prog 12 #[.slice P n cap] W fun e w'=> ∃v q,e= .returned (.tuple #[.pointer v, .int .i64 er, .int .i64 q])/\Below W.heap.size W w'):=uK fun W hW=>by
  by_cases h0:er=0
  ·refine(mL P n cap l W (xU.out.ents.below hW) xU.out.len xU.out.cap xU.out.few xU.out.small (zR.symm.trans h0)).mono ?_;rintro e w' ⟨q,rfl,_,hb⟩;exact⟨_,_,by rw[h0],hb⟩
  ·refine(rnew_bad P n cap l W (xU.out.ents.below hW) xU.out.len xU.out.cap xU.out.few xU.out.small (zR▸h0)).mono ?_;rintro e w' ⟨q,rfl,hb⟩;exact⟨_,_,by rw[zR],hb⟩
 have HB:=uK (show er≠0\/N<1 by rw[zR];exact Na.out);have hee:(er != er)=false:=(by simp);clear zR Na;go_enter Tryz.func11,Tryz.ntmps11;go_upto_region 1 with(fail);rw[<-vR.out];go_upto_region 3 with(first
  |(go_at_call 40;refine(Zy.out).mono ?_;rintro e w1 ⟨R,cp,rfl,hE,xN,vl⟩;have HE:=uK hE;have QT:=uK xN;have vu:=uK (wI.out.trans (vl.mono wb));have AL:=uK ((vl.block _ (uJ GC.out).1).trans GC.out);clear hE xN vl)
  |(go_at_call 37;refine(yG.out R cp _ HE.out QT.out).mono ?_;rintro e w2 ⟨fs,q1,rfl,vs⟩;have vz:=vu.out.size;have xi:=uK (vu.out.trans (vs.mono vz));have Bf:=uK ((vs.block _ (uJ AL.out).1).trans AL.out);have x2:w2.cell? ⟨w.heap.size,0,none⟩=some (.slice P n cap):=aa Bf.out 0;have vS:=xi.out.size;clear vs)
  |(go_at_call 12;refine(ZF.out _ xi.out).mono ?_;rintro e w3 ⟨v3,q3,rfl,vx⟩;have yT:=uK (xi.out.trans (vx.mono vS));have Be:=uK ((vx.block _ (uJ Bf.out).1).trans Bf.out);have x3:w3.cell? ⟨w.heap.size,1,none⟩=some (.int .i64 N):=aa Be.out 1;have QS:=uK (EE.out.same (yT.out.block 0 vo));have xI:=yT.out.size;clear vx)
  |fail)
 have hN4:N<=1024:=(by omega);have HFN:=uK (fnew11 N w3 hN4 QS.out (by omega));by_cases hp:1<=N
 ·have zR:er≠0:=HB.out.elim id (fun e=>by omega);have vB:(er != 0)=true:=(by rw[bne_iff_ne];exact zR);go_upto_region 4 with(first
   |(go_at_call 38;refine(HFN.out).mono ?_;rintro e w4 ⟨v4,h4,rfl,hh,vN⟩;have wQ:=uK (yT.out.trans (vN.mono xI));have x4:w4.cell? ⟨w.heap.size,1,none⟩=some (.int .i64 N):=aa ((vN.block _ (uJ Be.out).1).trans Be.out) 1;clear vN)
   |fail)
  obtain rfl:h4=0:=hh.2 hp;clear hh x0 x2 x3;go_wp2_with fail;go_ret2;exact⟨rfl,wQ.out⟩
 ·go_upto_region 4 with(first
   |(go_at_call 38;refine(HFN.out).mono ?_;rintro e w4 ⟨v4,h4,rfl,hh,vN⟩;have wQ:=uK (yT.out.trans (vN.mono xI));have x4:w4.cell? ⟨w.heap.size,1,none⟩=some (.int .i64 N):=aa ((vN.block _ (uJ Be.out).1).trans Be.out) 1;clear vN)
   |fail)
  have NK:h4≠0:=fun e=>by have:=hh.1 e;omega
  have Ru:(h4==0)=false:=(by rw[uZ];exact NK);have Ww:(h4 != 0)=true:=(by rw[bne_iff_ne];exact NK);clear hh x0 x2 x3 NK;by_cases zR:er=0
  ·have vB:(er != 0)=false:=(by rw[zR];rfl);clear zR;go_wp2_with fail;go_ret2;exact⟨rfl,wQ.out⟩
  ·have vB:(er != 0)=true:=(by rw[bne_iff_ne];exact zR);clear zR;go_wp2_with fail;go_ret2;exact⟨rfl,wQ.out⟩
end
section
open Go.RowKit Go.Sort
variable {w w':World} {hb B c a fs m:Nat} {S S':Nat->Prop} {F:List Nd} {clock vm:Int} {p p':Pool} {L L':List Slot} {l l':List SpM} {R R':Option Addr} {cr:Nat} {ls:List Nat} {o:O11} {k:Nat} {x:SpM}
theorem Do11.n {er:Int} (h:Hse w B c a fs m S F clock p L l) (hd:Do11 F p L l o er p' L' l'):p'.n=p.n:=by
 cases hd with
 |idle=>rfl
 |new s t f p' L' _ ht=>exact ht.size.1
 |newNo f _ ht=>rfl
 |gone=>rfl
 |no=>rfl
 |map k x T A' vk p' T' _ _ hk hT _ hr=>exact(hr.far (fun _ =>False)).n
 |unmap k x T A' vk p' T' _ _ hk hT _ hr=>exact(hr.far (fun _ =>False)).n
 |prot k x T A' vk p' T' q _ _ hk hT _ _ hr=>exact(hr.far (fun _ =>False)).n
 |load k x T want er kk d p' L' T' _ _ hk hT hr=>exact((hr.kept (h.sp hk hT) (h.ownT hk hT)).far (fun _ =>False)).n
 |store k x T want er p' L' T' _ _ hk hT hr=>exact((hr.left (h.sp hk hT) (h.ownT hk hT)).2.1 (fun _ =>False)).n
 |forkNo k x T p' L' _ _ hk hT hr=>exact(hr.far (fun _ =>False)).n
 |fork k x T s2 t2 f A' vk p' L' T' T2 _ _ hk hT hr=>exact(hr.far (fun _ =>False)).n
 |free k x T _ _ hk hT=>exact iw _ _
variable {A:Option Addr} {d:Nat->Nat}
theorem aw.ltA {n:Nat} {ad:Addr} (h:aw w A n d) (e:A=some ad) (h0:0<n):ad.block<w.heap.size:=by
 obtain⟨x,e2,hx⟩:=h h0;rw[e]at e2;injection e2 with e2;subst e2;have h1:=World.block_lt_of_cell? _ _ (hx 0 h0)
 rwa [Addr.add_blk]at h1
variable {cq:Nat}
theorem uz.of {w0:World} (hB:w0.heap.size<=B) (hb:Below w0.heap.size w0 w) (h4:o.r.Ok) (h5:o.addr<18446744073709551616) (h6:o.q<=140737488355328) (h7:o.q<=cq) (h8:aw w0 A o.q o.d) (h9: ∀j,o.d j<256):uz w B o A cq:=
 ⟨h4,h5,h6,h7,h8.kept hb,h9,fun ad e h0=>uR (h8.ltA e h0) hB⟩
def At11 (w2:World) (hb B c a fs m:Nat) (F:List Nd) (nf j:Nat) (wr:World):Prop:= ∃S clock p L l R cr,Hou wr hb B c a fs m S F clock p L l R cr (l.map (·.s))/\l.length<=6/\0<=clock/\clock<=32*(j:Int)/\p.n=nf/\Below B w2 wr
theorem At11.does {w2 wr:World} {nf j q:Nat} {kd sI n:Int} {r:Reg} {addr:Nat} (h:At11 w2 hb B c a fs m F nf j wr) (hj:j<=1000) (wz:uz wr B ⟨kd,sI,r,addr,n,q,d⟩ A cq):
  Calls Tryz.prog 15 #[.pointer (some ⟨hb,0,none⟩), .agg #[.int .i64 kd, .int .i64 sI, .int .u64 r.fr, .int .u64 r.to, .int .u8 r.prot, .int .i64 r.ino, .int .u64 r.off, .int .u64 (addr:Int), .int .i64 n, .slice A q cq]] wr fun e w'=> ∃(Rb:Option Addr) (kk cp:Nat) (er:Int),e= .returned (.tuple #[.agg #[.slice Rb kk cp, .int .i64 er], .bool true])/\Hid (At11 w2 hb B c a fs m F nf (j+1) w'):=by
 obtain⟨S,clock,p,L,l,R,cr,h1,h2,h3,h4,h5,h6⟩:=h;refine(ru hb B c a fs m S F clock p L l R A cr cq kd sI r addr q n d wr h1 h2 ⟨h3,by omega⟩ wz).mono ?_;rintro e w' ⟨Rb,kk,cp,er,vm,S',p',L',l',R',cr',rfl,g1,g2,g3,g4,g5,g6,g7⟩;exact⟨Rb,kk,cp,er,rfl,uK ⟨S',vm,p',L',l',R',cr',g1,g2,by omega,by omega,(g7.n h1.hse).trans h5,h6.trans (g5.below h1.lowF h1.hse.home.base)⟩⟩
theorem SpM.dead_self (h:x.T=none):x.dead=x:=by cases x;simp[SpM.dead]at h⊢;exact h.symm
theorem Hou.freeAt (h:Hou w hb B c a fs m S F clock p L l R cr (l.map (·.s))) (hk:l[k]? =some x):Calls Tryz.prog 21 #[.pointer (some ⟨x.s,0,none⟩)] w fun e w'=>e= .returned (.tuple #[])/\ ∃p',Hid (Hou w' hb B c a fs m S F clock p' L (l.set k x.dead) R cr ((l.set k x.dead).map (·.s)))/\Hid (p'.n=p.n)/\Hid (Below B w w'):=by
 cases hT:x.T with
 |none=>
  refine(kE _ w (h.hse.goneOf hk hT)).mono ?_;rintro e w' ⟨rfl,rfl⟩;rw[SpM.dead_self hT,ld hk];exact⟨rfl,p,uK h,uK rfl,uK (vj _ _)⟩
 |some T=>
  refine(nr h.hse hk hT).mono ?_;rintro e w' ⟨rfl,h2,hm⟩;have hX: ∀b,(av S c m b\/b=x.s\/b=x.t)->av S c m b\/ ∃(k:Nat) (x:SpM),l[k]? =some x/\(b=x.s\/b=x.t):=fun b e=>e.imp id fun e=>⟨k,x,hk,e⟩;have h3:=h.next (ls:=l.map (·.s)) h2 hm (fun b e=>(hX b e).imp id .inr) (Out.refl _ _) (cX.set hk rfl rfl fun ad e=> .inl e);refine⟨rfl,_,uK (by rw[et (y:=x.dead) hk rfl];exact h3),uK (iw _ _),uK (hm.below (fun b e=>(h.footLt (hX b e)).1) h.hse.home.base)⟩
theorem pE: ∀(Ts:List (Option Tab)) (y:Nat),(∀o∈Ts,o=none)->tnS Ts y=0
 | [],_,_ =>rfl
 |o::Ts,y,h=>by
  rw[bV,pE Ts y fun o ho=>h o (ve _ ho),h o vf];rfl
theorem Hs.dropped {Ts:List (Option Tab)} (h:Hs F p L Ts) (hn: ∀o∈Ts,o=none):(ey p L []).left=p.n:=by
 have:(ey p L []).left=bN (fun _ =>0) p.n:=by
  show bN _ p.n=_;refine dN fun i hi=>?_;have h1:=h.cnt i hi;rw[pE Ts i hn]at h1;have h2:au [] i=0:=rfl;show(p.cnt i-(au L i-au [] i)=0)↔_;constructor
  ·intro _;rfl
  ·intro _;omega
 rw[this,kM]
theorem Hou.drop (h:Hou w hb B c a fs m S F clock p L l R cr ls):Calls Tryz.prog 22 #[.pointer (some ⟨c,0,none⟩)] w fun e w'=>e= .returned (.tuple #[])/\Hid (ai w' S a (ey p L []))/\Hid (fv w' hb fs a c R ls.length cr)/\Hid (Below B w w'):=by
 refine(drop_any c a fs m clock w S p L h.hse.home.cache (fun s hs=>?_)).mono ?_
 ·have h1:=h.hse.hs.slow s hs;have h2:=h.hse.hs.cnt s.frame h1;exact⟨h1,by omega⟩
 ·rintro e w' ⟨rfl,hC,hm⟩;have hX: ∀b,Both S m b->av S c m b:=fun b e=>e.elim .inl (fun e=> .inr (.inl e));exact⟨rfl,uK hC.pool,uK ((hm.block hb h.lt (fun e=>h.no (hX hb e))).trans h.self),uK (hm.below (fun b e=>h.hse.footLow b (hX b e)) h.hse.home.base)⟩
end
section
open Go.RowKit Go.Sort
variable {w w':World} {P:Option Addr} {n cap:Nat}
theorem iP.below (h:iP w P n cap) (hb:Below w.heap.size w w'):iP w' P n cap:=
 ⟨h.1,h.2.1,fun h3=>by obtain⟨l,h4,h5⟩:=h.2.2 h3;exact⟨l,h4,h5.below hb⟩⟩
theorem ku.below (h:ku w P n cap) (hb:Below w.heap.size w w'):ku w' P n cap:=
 ⟨h.1,fun h3=>by obtain⟨l,h4,h5⟩:=h.2 h3;exact⟨l,h4,h5.below hb⟩⟩
theorem In11.below {l:List Ent} (h:In11 w P n cap l) (hb:Below w.heap.size w w'):In11 w' P n cap l:=⟨h.ents.below hb,h.len,h.few,h.cap,h.small⟩
def uy (w:World) (e:Ending) (w':World):Prop:=e= .returned (.bool true)/\Below w.heap.size w w'
theorem Hou.start {hb B c a fs m:Nat} {S:Nat->Prop} {F:List Nd} {clock:Int} {p:Pool} (h:Hse w B c a fs m S F clock p [] []) (hs:fv w hb fs a c none 0 0) (hB:B<=hb) (h1: ¬S hb) (h2:hb≠m) (h3:hb≠c):Hou w hb B c a fs m S F clock p [] [] none 0 (([]:List SpM).map (·.s)):=
 ⟨h,hs,OwnG.nil _ _,hB,fun e=>e.elim h1 (fun e=>e.elim h2 h3),fun k x hk=>(by rw[List.getElem?_nil]at hk;cases hk),(fun g e=>by cases e),fun k x hk=>(by rw[List.getElem?_nil]at hk;cases hk)⟩
theorem oP (P Q:Option Addr) (n cap k zi:Nat) (N:Int) (w:World) (hF:iP w P n cap) (hO:ku w Q k zi) (Au:DB w) (vo:0<w.heap.size):
  Calls Tryz.prog 5 #[.agg #[.slice P n cap, .int .i64 N], .slice Q k zi] w (uy w):=by
 obtain⟨w0,Jz⟩: ∃w0,w0=w.alloc (.cells #[.slice P n cap, .int .i64 N] 24):=⟨_,rfl⟩;have vp:Below w.heap.size w w0:=(by rw[Jz];exact uM);have hE:w0.heap[w.heap.size]? =some (.cells #[.slice P n cap, .int .i64 N] 24 (0,0)):=(by rw[Jz];exact ab w _);have wb:=vp.size;have l0:w.heap.size<w0.heap.size:=(uJ hE).1;have x0:w0.cell? ⟨w.heap.size,0,none⟩=some (.slice P n cap):=aa hE 0;have x1:w0.cell? ⟨w.heap.size,1,none⟩=some (.int .i64 N):=aa hE 1;have HV:=uK (rT P n cap k zi Q N w0 (hF.below vp) (hO.below vp));have Zt:=uK (fun W (hW:Below w.heap.size w W)=>nY W (Au.same (hW.block 0 vo)) (uR vo hW.size));have HE:=uK hE;have Zu:=uK Jz;have EE:=uK Au;have wI:=uK vp;have HO:=uK hO;clear hE Jz Au vp hF hO;go_enter Tryz.func5,Tryz.ntmps5;go_upto_region 1 with(fail);rw[<-Zu.out];go_upto_region 3 with(first
  |(go_at_call 9;refine(HV.out).mono ?_;rintro e w1 ⟨bv,rfl,WD,vl⟩;have vu:=uK (wI.out.trans (vl.mono wb));have xJ:=uK ((vl.block _ l0).trans HE.out);have HB01:=uK vl;clear vl)
  |(go_at_call 10;refine(Zt.out _ vu.out).mono ?_;rintro e w2 ⟨rfl,vs⟩)
  |fail)
 ·go_ret;exact⟨rfl,vu.out.trans (vs.mono vu.out.size)⟩
 have Ud:bv=false:=(by assumption);obtain⟨hk80,hN,l,wz⟩:=WD Ud;have vz:=vu.out.size;have l1:w.heap.size<w1.heap.size:=(uJ xJ.out).1;have y0:w1.cell? ⟨w.heap.size,0,none⟩=some (.slice P n cap):=aa xJ.out 0;have y1:w1.cell? ⟨w.heap.size,1,none⟩=some (.int .i64 N):=aa xJ.out 1;obtain⟨ops,Pn,Iw⟩:=HO.out.2 (by omega);have QF:=uK Iw;have ZJ:=uK Pn;have HIN0:=uK wz;clear WD Ud wz Iw Pn x0 x1;have xU:=uK (HIN0.out.below HB01.out);have Mr:DB w1:=EE.out.same (vu.out.block 0 vo);have h01:0<w1.heap.size:=(by omega);by_cases zh:(newM [aD] 0 l).1≠0\/N<1
 ·have HBG:=uK (tW P n cap N l w1 xU.out hN zh Mr h01);clear zh Mr;go_wp2_with (first
   |(go_at_call 11;refine(HBG.out).mono ?_;rintro e w2 ⟨rfl,vs⟩;have xi:=uK (vu.out.trans (vs.mono vz));clear vs)
   |(go_at_call 10;refine(Zt.out _ xi.out).mono ?_;rintro e w3 ⟨rfl,vx⟩)
   |fail)
  go_ret;exact⟨rfl,xi.out.trans (vx.mono xi.out.size)⟩
 obtain⟨nf,rfl⟩: ∃nf:Nat,N=(nf:Int):=⟨N.toNat,by omega⟩;have HBG:=uK (rF P n cap nf l w1 xU.out (by omega) (by omega) (uY fun h=>zh (.inl h)) Mr h01);clear zh Mr;go_upto_region 4 with(first
  |(go_at_call 11;refine(HBG.out).mono ?_;rintro e w2 ⟨B,hb,a,c,fs,m,S,rfl,xO,hse,vs,hB,hBo,hoS,hom,hoc⟩;have xi:=uK (vu.out.trans (vs.mono vz));have HE2:=uK ((vs.block _ l1).trans xJ.out);clear vs)
  |fail)
 have PE:Hou w2 hb B c a fs m S (dz l) 0 (fresh nf) [] [] none 0 (([]:List SpM).map (·.s)):=Hou.start hse xO hBo hoS hom hoc;have Wk:Hid (At11 w2 hb B c a fs m (dz l) nf 0 w2):=uK ⟨S,0,fresh nf,[],[],none,0,PE,by simp,Int.le_refl _,Int.le_refl _,rfl,vj _ _⟩;have AR:w.heap.size<=B:=(by omega);have hBw2:=PE.hse.home.base;clear xO hse PE hoS hom hoc y0 y1;go_wp2_with fail;go_loopw [7] (fun i wr=> ∃j:Nat,i= .int .i64 (j:Int)/\j<=k/\At11 w2 hb B c a fs m (dz l) nf j wr) (fun i _ =>k-(intOf i).toNat)
 case atStart=>exact⟨0,rfl,vg _,Wk.out⟩
 case round=>
  obtain⟨j,rfl,hj,wU⟩:=hrel;have EG:=uK wU
  clear Wk;by_cases zO:j<k
  ·obtain⟨o,ho⟩: ∃o,ops[j]? =some o:=⟨_,uQ (by rw[ZJ.out];exact zO)⟩;obtain⟨b,off,A,cq,rfl,zM,xX,g4,g5,g6,g7,g8,g9⟩:=QF.out j o ho;have DA:Below w.heap.size w wr:=xi.out.trans ((by obtain⟨_,_,_,_,_,_,_,_,_,_,_,_,Fp⟩:=wU;exact Fp:Below B w2 wr).mono AR);have wz:=uz.of (o:=o) AR DA g4 g5 g6 g7 g8 g9;obtain⟨kd,sI,r,addr,nn,q,d⟩:=o;have hdo:=wU.does (by omega) wz;have e0:wr.cell? ⟨b,off+j*10,none⟩=some (.int .i64 kd):=(DA.cell (p:=⟨b,off+j*10,none⟩) zM).trans (xX 0 _ rfl);have e1:wr.cell? ⟨b,off+j*10+1,none⟩=some (.int .i64 sI):=(DA.cell (p:=⟨b,off+j*10+1,none⟩) zM).trans (xX 1 _ rfl);have e2:wr.cell? ⟨b,off+j*10+2,none⟩=some (.int .u64 r.fr):=(DA.cell (p:=⟨b,off+j*10+2,none⟩) zM).trans (xX 2 _ rfl);have e3:wr.cell? ⟨b,off+j*10+3,none⟩=some (.int .u64 r.to):=(DA.cell (p:=⟨b,off+j*10+3,none⟩) zM).trans (xX 3 _ rfl);have e4:wr.cell? ⟨b,off+j*10+4,none⟩=some (.int .u8 r.prot):=(DA.cell (p:=⟨b,off+j*10+4,none⟩) zM).trans (xX 4 _ rfl);have e5:wr.cell? ⟨b,off+j*10+5,none⟩=some (.int .i64 r.ino):=(DA.cell (p:=⟨b,off+j*10+5,none⟩) zM).trans (xX 5 _ rfl);have e6:wr.cell? ⟨b,off+j*10+6,none⟩=some (.int .u64 r.off):=(DA.cell (p:=⟨b,off+j*10+6,none⟩) zM).trans (xX 6 _ rfl);have e7:wr.cell? ⟨b,off+j*10+7,none⟩=some (.int .u64 (addr:Int)):=(DA.cell (p:=⟨b,off+j*10+7,none⟩) zM).trans (xX 7 _ rfl);have e8:wr.cell? ⟨b,off+j*10+8,none⟩=some (.int .i64 nn):=(DA.cell (p:=⟨b,off+j*10+8,none⟩) zM).trans (xX 8 _ rfl);have e9:wr.cell? ⟨b,off+j*10+9,none⟩=some (.slice A q cq):=(DA.cell (p:=⟨b,off+j*10+9,none⟩) zM).trans (xX 9 _ rfl);have HDO:=uK hdo;have yz:(j:Int)<(k:Int):=(by omega);clear hdo wz DA wU ho xX g4 g5 g6 g7 g8 g9;go_wp2_with (first
    |(go_at_call 15;refine(HDO.out).mono ?_;rintro e w3 ⟨Rb,kk,cp,er,rfl,Ra⟩)
    |fail)
   go_roundw
   case rel=>exact⟨j+1,by go_num,by omega,Ra.out⟩
   case measure=>(simp[intOf];omega)
  ·obtain rfl:j=k:=(by omega);obtain⟨S1,UY,p1,L1,l1,R1,cr1,Ru,yV,PU,xY,hpn,Fp⟩:=wU
   have GU:=uK Ru;have WW:=uK Fp;have HPN:=uK hpn;clear Ru Fp hpn EG;go_wp2_with fail;go_loopw [8] (fun i wx=> ∃(u:Nat) (p3:Pool) (l3:List SpM),i= .int .i64 (u:Int)/\u<=l1.length/\Hou wx hb B c a fs m S1 (dz l) UY p3 L1 l3 R1 cr1 (l3.map (·.s))/\l3.length=l1.length/\p3.n=nf/\(∀(v:Nat) (y:SpM),v<u->l3[v]? =some y->y.T=none)/\Below B w2 wx) (fun i _ =>l1.length-(intOf i).toNat)
   case atStart=>exact⟨0,p1,l1,rfl,vg _,GU.out,rfl,HPN.out,fun v y hv _ =>by omega,WW.out⟩
   case round=>
    obtain⟨u,p3,l3,rfl,hu,II,IE,Rr,Hv,vx⟩:=hrel;clear GU WW HPN;have o3:wr.cell? ⟨hb,3,none⟩=some (.slice R1 l1.length cr1):=by
     have h9:=II.self;rw[List.length_map,IE]at h9;exact aa h9 3
    by_cases huk:u<l1.length
    ·obtain⟨x,hx⟩: ∃x,l3[u]? =some x:=⟨_,uQ (by omega)⟩;have Iq:(l3.map (·.s))[u]? =some x.s:=(by rw[vd,hx];rfl);obtain⟨gR,rfl⟩: ∃g,R1=some ⟨g,0,none⟩:=by
      rcases II.row.form with⟨_,e,_⟩|⟨g,e,_⟩
      ·exact absurd (by have:=congrArg List.length e;simpa using this) (show¬l3.length=0 by omega)
      ·exact⟨g,e⟩
     have WC:wr.cell? ⟨gR,u,none⟩=some (.pointer (some ⟨x.s,0,none⟩)):=by
      have h8:=II.row.cell iY Iq 0 (by omega);rw[Nat.mul_one,Nat.add_zero]at h8;rw[h8];rfl
     have yX:=uK (II.freeAt hx);have yz:(u:Int)<(l1.length:Int):=(by omega);have HX:=uK hx;have VT:=uK Hv;have yT:=uK vx;clear II hx Iq Hv vx;go_wp2_with (first
      |(go_at_call 21;refine(yX.out).mono ?_;rintro e w4 ⟨rfl,p4,OA,ZP,wQ⟩)
      |fail)
     go_roundw
     case rel=>
      refine⟨u+1,p4,l3.set u x.dead,by go_num,by omega,OA.out,by rw[List.length_set];exact IE,ZP.out.trans Rr,fun v y hv hy=>?_,yT.out.trans wQ.out⟩;rcases cO hy with⟨_,rfl,_⟩|⟨vB,hy⟩
      ·rfl
      ·exact VT.out v y (by omega) hy
     case measure=>(simp[intOf];omega)
    ·obtain rfl:u=l1.length:=(by omega);have Du: ∀o∈l3.map (·.T),o=none:=fun o ho=>by
      obtain⟨y,hy,rfl⟩:=List.mem_map.1 ho;obtain⟨v,hv,e⟩:=List.mem_iff_getElem.1 hy;exact Hv v y (by omega) (by rw[uQ hv,e])
     have yy:=II.hse.hs.dropped Du;rw[Rr]at yy;have o2:wr.cell? ⟨hb,2,none⟩=some (.pointer (some ⟨c,0,none⟩)):=aa II.self 2;have FF:=uK II.drop;have Az:=uK yy;have yT:=uK vx;have yz: ¬((l1.length:Int)<(l1.length:Int)):=(by omega);clear II yy Du Hv vx;go_upto_region 15 with(first
      |(go_at_call 22;refine(FF.out).mono ?_;rintro e w4 ⟨rfl,GL,ZA,wQ⟩)
      |fail)
     have Qr:Below B w2 w4:=yT.out.trans wQ.out;have wY:Below w.heap.size w w4:=xi.out.trans (Qr.mono AR);have Ft:w4.cell? ⟨w.heap.size,1,none⟩=some (.int .i64 (nf:Int)):=aa ((Qr.block w.heap.size (by omega)).trans HE2.out) 1;have yh:w4.cell? ⟨hb,1,none⟩=some (.pointer (some ⟨a,0,none⟩)):=aa ZA.out 1;have d0: ∀dd os,(grow (redrawn w4 dd) os).cell? ⟨w.heap.size,1,none⟩=some (.int .i64 (nf:Int)):=fun dd os=>cell_regrown Ft dd os;have d1: ∀dd os,(grow (redrawn w4 dd) os).cell? ⟨hb,1,none⟩=some (.pointer (some ⟨a,0,none⟩)):=fun dd os=>cell_regrown yh dd os;have xw:=fun dd os=>Calls.regrown_of ((sP a (grow (redrawn w4 dd) os) S1 _ (GL.out.below (below_regrown w4 dd os))).mono fun e w' ⟨h1,h2⟩=>⟨h1,h2▸vj (grow (redrawn w4 dd) os).heap.size (grow (redrawn w4 dd) os)⟩);rw[Az.out]at xw;have Xs:=fun dd os=>Calls.regrown_of (Zt.out (grow (redrawn w4 dd) os) (wY.trans ((below_regrown w4 dd os).mono wY.size)));have yX:=uK xw;have HWQ:=uK Xs;have Hb:=uK wY;have xZ:((nf:Int)==(nf:Int))=true:=(by simp);clear Qr wY Ft yh xw Xs o2 o3;refine wp_region_quiet_below (by kernel_rfl) (by kernel_rfl) ?_;(repeat(go_big_quiet_step ((first|exact yX.out _ _ |exact HWQ.out _ _))));refine wpQuiet_nil ?_;intro _ yb;obtain⟨⟨dq,osq⟩,hw''⟩:=yb;subst hw'';have wC:=below_regrown (w4) dq osq;generalize grow (redrawn (w4) dq) osq=wq at wC⊢;go_wp2_with fail;go_ret;exact⟨rfl,Hb.out.trans (wC.mono Hb.out.size)⟩
end
