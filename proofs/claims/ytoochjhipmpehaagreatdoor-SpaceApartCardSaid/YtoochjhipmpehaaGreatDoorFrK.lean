/- The spaces' laws: no house is begun where there are no such files, or no such pool. The spaces' laws: a house through all that is done; The spaces' laws: a house looked at; SpaceFrees, its walk. -/
import Derived.Test.YtoochjhipmpehaaGreatDoorOvK
set_option linter.unusedVariables false
set_option linter.unusedSimpArgs false
set_option maxRecDepth 100000
set_option maxHeartbeats 4000000
namespace Go.Proofs.YtoochjhipmpehaaGreatDoor
section
open Go.RowKit Go.Sort
def BegunNo (w:World) (e:Ending) (w':World):Prop:=e= .returned (.tuple #[.pointer none, .bool true])/\Below w.heap.size w w'
theorem uq (P:Option Addr) (n cap:Nat) (N:Int) (l:List Ent) (w:World) (wI:In11 w P n cap l) (hN:N<=128) (yV:(newM [aC] 0 l).1≠0\/N<1) (Ah:DB w) (vE:0<w.heap.size):
  Calls Tryz.prog 11 #[.agg #[.slice P n cap, .int .i64 N]] w (BegunNo w):=by
 obtain⟨w0,zR⟩: ∃w0,w0=w.alloc (.cells #[.slice P n cap, .int .i64 N] 24):=⟨_,rfl⟩;have vF:Below w.heap.size w w0:=(by rw[zR];exact vc);have Cj:w0.heap[w.heap.size]? =some (.cells #[.slice P n cap, .int .i64 N] 24 (0,0)):=(by rw[zR];exact ab w _);have wT:=pH P n cap l w0 (wI.ents.below vF) wI.len wI.few wI.small;have wz:=vF.size;have x0:w0.cell? ⟨w.heap.size,0,none⟩=some (.slice P n cap):=aa Cj 0;have Kb:l.length<=64:=(by rw[<-wI.len];exact wI.few);have HTW:=va wT;have vY:=va zR;have wO:=va vF;have Gp:=va Cj;have Es:=va Ah;have MJ:=va Kb;have xQ:=va wI;have MT:=va yV;clear wT zR vF Cj Ah wI Kb yV;obtain⟨er,zo⟩: ∃er,er=(newM [aC] 0 l).1:=⟨_,rfl⟩;have yu:Hid (∀(R:Option Addr) (cp:Nat) (W:World),fU W R l->l.length<=cp->Calls Tryz.prog 37 #[.slice R l.length cp] W fun e w'=> ∃v q,e= .returned (.tuple #[.pointer v, .int .i64 er, .int .i64 q])/\Below W.heap.size W w'):=va fun R cp W hE xK=>by
  by_cases h0:er=0
  ·refine(jy R cp l W hE xK MJ.out (zo.symm.trans h0)).mono ?_;rintro e w' ⟨fs,rfl,_,hb⟩;exact⟨_,_,by rw[h0],hb⟩
  ·refine(vnew_err R cp l W hE xK MJ.out (zo▸h0)).mono ?_;rintro e w' ⟨q,rfl,hb⟩;exact⟨_,_,by rw[zo],hb⟩
 have HREF:Hid (∀(W:World),Below w.heap.size w W->Calls Tryz.prog 12 #[.slice P n cap] W fun e w'=> ∃v q,e= .returned (.tuple #[.pointer v, .int .i64 er, .int .i64 q])/\Below W.heap.size W w'):=va fun W hW=>by
  by_cases h0:er=0
  ·refine(mZ P n cap l W (xQ.out.ents.below hW) xQ.out.len xQ.out.cap xQ.out.few xQ.out.small (zo.symm.trans h0)).mono ?_;rintro e w' ⟨q,rfl,_,hb⟩;exact⟨_,_,by rw[h0],hb⟩
  ·refine(rnew_bad P n cap l W (xQ.out.ents.below hW) xQ.out.len xQ.out.cap xQ.out.few xQ.out.small (zo▸h0)).mono ?_;rintro e w' ⟨q,rfl,hb⟩;exact⟨_,_,by rw[zo],hb⟩
 have HB:=va (show er≠0\/N<1 by rw[zo];exact MT.out);have hee:(er != er)=false:=(by simp);clear zo MT;go_enter Tryz.func11,Tryz.ntmps11;go_upto_region 1 with(fail);rw[<-vY.out];go_upto_region 3 with(first
  |(go_at_call 40;refine(HTW.out).mono ?_;rintro e w1 ⟨R,cp,rfl,hE,xK,vD⟩;have HE:=va hE;have QW:=va xK;have vJ:=va (wO.out.trans (vD.mono wz));have AA:=va ((vD.block _ (uZ Gp.out).1).trans Gp.out);clear hE xK vD)
  |(go_at_call 37;refine(yu.out R cp _ HE.out QW.out).mono ?_;rintro e w2 ⟨fs,q1,rfl,vM⟩;have wg:=vJ.out.size;have xC:=va (vJ.out.trans (vM.mono wg));have AW:=va ((vM.block _ (uZ AA.out).1).trans AA.out);have x2:w2.cell? ⟨w.heap.size,0,none⟩=some (.slice P n cap):=aa AW.out 0;have wm:=xC.out.size;clear vM)
  |(go_at_call 12;refine(HREF.out _ xC.out).mono ?_;rintro e w3 ⟨v3,q3,rfl,vX⟩;have yH:=va (xC.out.trans (vX.mono wm));have AV:=va ((vX.block _ (uZ AW.out).1).trans AW.out);have x3:w3.cell? ⟨w.heap.size,1,none⟩=some (.int .i64 N):=aa AV.out 1;have QV:=va (Es.out.same (yH.out.block 0 vE));have xR:=yH.out.size;clear vX)
  |fail)
 have hN4:N<=1024:=(by omega);have HFN:=va (fnew11 N w3 hN4 QV.out (by omega));by_cases hp:1<=N
 ·have zo:er≠0:=HB.out.elim id (fun e=>by omega);have vK:(er != 0)=true:=(by rw[bne_iff_ne];exact zo);go_upto_region 4 with(first
   |(go_at_call 38;refine(HFN.out).mono ?_;rintro e w4 ⟨v4,h4,rfl,hh,vZ⟩;have wV:=va (yH.out.trans (vZ.mono xR));have x4:w4.cell? ⟨w.heap.size,1,none⟩=some (.int .i64 N):=aa ((vZ.block _ (uZ AV.out).1).trans AV.out) 1;clear vZ)
   |fail)
  obtain rfl:h4=0:=hh.2 hp;clear hh x0 x2 x3;go_wp2_with fail;go_ret2;exact⟨rfl,wV.out⟩
 ·go_upto_region 4 with(first
   |(go_at_call 38;refine(HFN.out).mono ?_;rintro e w4 ⟨v4,h4,rfl,hh,vZ⟩;have wV:=va (yH.out.trans (vZ.mono xR));have x4:w4.cell? ⟨w.heap.size,1,none⟩=some (.int .i64 N):=aa ((vZ.block _ (uZ AV.out).1).trans AV.out) 1;clear vZ)
   |fail)
  have NH:h4≠0:=fun e=>by have:=hh.1 e;omega
  have PC:(h4==0)=false:=(by rw[vp];exact NH);have Xg:(h4 != 0)=true:=(by rw[bne_iff_ne];exact NH);clear hh x0 x2 x3 NH;by_cases zo:er=0
  ·have vK:(er != 0)=false:=(by rw[zo];rfl);clear zo;go_wp2_with fail;go_ret2;exact⟨rfl,wV.out⟩
  ·have vK:(er != 0)=true:=(by rw[bne_iff_ne];exact zo);clear zo;go_wp2_with fail;go_ret2;exact⟨rfl,wV.out⟩
end
section
open Go.RowKit Go.Sort
variable {w w':World} {hb B c a fs m:Nat} {S S':Nat->Prop} {F:List Nd} {clock vB:Int} {p p':Pool} {L L':List Slot} {l l':List SpM} {R R':Option Addr} {cr:Nat} {ls:List Nat} {o:O11} {k:Nat} {x:SpM}
theorem Do11.n {er:Int} (h:Hse w B c a fs m S F clock p L l) (hd:Do11 F p L l o er p' L' l'):p'.n=p.n:=by
 cases hd with
 |idle=>rfl
 |new s t f p' L' _ ht=>exact ht.size.1
 |newNo f _ ht=>rfl
 |gone=>rfl
 |no=>rfl
 |map k x T A' vA p' T' _ _ hk hT _ hr=>exact(hr.far (fun _ =>False)).n
 |unmap k x T A' vA p' T' _ _ hk hT _ hr=>exact(hr.far (fun _ =>False)).n
 |prot k x T A' vA p' T' q _ _ hk hT _ _ hr=>exact(hr.far (fun _ =>False)).n
 |load k x T want er kk d p' L' T' _ _ hk hT hr=>exact((hr.kept (h.sp hk hT) (h.ownT hk hT)).far (fun _ =>False)).n
 |store k x T want er p' L' T' _ _ hk hT hr=>exact((hr.left (h.sp hk hT) (h.ownT hk hT)).2.1 (fun _ =>False)).n
 |forkNo k x T p' L' _ _ hk hT hr=>exact(hr.far (fun _ =>False)).n
 |fork k x T s2 t2 f A' vA p' L' T' T2 _ _ hk hT hr=>exact(hr.far (fun _ =>False)).n
 |free k x T _ _ hk hT=>exact kq _ _
variable {A:Option Addr} {d:Nat->Nat}
theorem au.ltA {n:Nat} {ad:Addr} (h:au w A n d) (e:A=some ad) (h0:0<n):ad.block<w.heap.size:=by
 obtain⟨x,e2,hx⟩:=h h0;rw[e]at e2;injection e2 with e2;subst e2;have h1:=World.block_lt_of_cell? _ _ (hx 0 h0)
 rwa [Addr.add_blk]at h1
variable {cq:Nat}
theorem pC.of {w0:World} (hB:w0.heap.size<=B) (hb:Below w0.heap.size w0 w) (h4:o.r.Ok) (h5:o.addr<18446744073709551616) (h6:o.q<=140737488355328) (h7:o.q<=cq) (h8:au w0 A o.q o.d) (h9: ∀j,o.d j<256):pC w B o A cq:=
 ⟨h4,h5,h6,h7,h8.kept hb,h9,fun ad e h0=>vh (h8.ltA e h0) hB⟩
def At11 (w2:World) (hb B c a fs m:Nat) (F:List Nd) (nf j:Nat) (wr:World):Prop:= ∃S clock p L l R cr,Hou wr hb B c a fs m S F clock p L l R cr (l.map (·.s))/\l.length<=6/\0<=clock/\clock<=32*(j:Int)/\p.n=nf/\Below B w2 wr
theorem At11.does {w2 wr:World} {nf j q:Nat} {kd sI n:Int} {r:Reg} {addr:Nat} (h:At11 w2 hb B c a fs m F nf j wr) (hj:j<=1000) (wI:pC wr B ⟨kd,sI,r,addr,n,q,d⟩ A cq):
  Calls Tryz.prog 15 #[.pointer (some ⟨hb,0,none⟩), .agg #[.int .i64 kd, .int .i64 sI, .int .u64 r.fr, .int .u64 r.to, .int .u8 r.prot, .int .i64 r.ino, .int .u64 r.off, .int .u64 (addr:Int), .int .i64 n, .slice A q cq]] wr fun e w'=> ∃(Rb:Option Addr) (kk cp:Nat) (er:Int),e= .returned (.tuple #[.agg #[.slice Rb kk cp, .int .i64 er], .bool true])/\Hid (At11 w2 hb B c a fs m F nf (j+1) w'):=by
 obtain⟨S,clock,p,L,l,R,cr,h1,h2,h3,h4,h5,h6⟩:=h;refine(lh hb B c a fs m S F clock p L l R A cr cq kd sI r addr q n d wr h1 h2 ⟨h3,by omega⟩ wI).mono ?_;rintro e w' ⟨Rb,kk,cp,er,vB,S',p',L',l',R',cr',rfl,g1,g2,g3,g4,g5,g6,g7⟩;exact⟨Rb,kk,cp,er,rfl,va ⟨S',vB,p',L',l',R',cr',g1,g2,by omega,by omega,(g7.n h1.hse).trans h5,h6.trans (g5.below h1.lowF h1.hse.home.base)⟩⟩
end
section
open Go.RowKit Go.Sort
variable {w w':World} {hb B c a fs m:Nat} {S S':Nat->Prop} {F:List Nd} {clock vB:Int} {p p':Pool} {L L':List Slot} {l l':List SpM} {R R':Option Addr} {cr:Nat} {ls:List Nat} {o:O11} {k:Nat} {x:SpM} {T:Tab}
theorem Hou.ltF (h:Hou w hb B c a fs m S F clock p L l R cr ls): ∀b,houF S c m hb R l b->b<w.heap.size:=fun b e=>by
 rcases e with e|e|e|⟨k,x,hk,e⟩
 ·exact(h.footLt (.inl e)).2
 ·rw[e];exact h.lt
 ·exact(h.row.lt b e).2
 ·exact(h.footLt (.inr ⟨k,x,hk,e⟩)).2
theorem Hou.regionsAt (h:Hou w hb B c a fs m S F clock p L l R cr ls) (hk:l[k]? =some x) (hT:x.T=some T):Calls Tryz.prog 17 #[.pointer (some ⟨x.s,0,none⟩)] w fun e w'=> ∃A' vA,e= .returned (.slice A' x.rl.length vA)/\OwnR w' w.heap.size A' vA x.rl/\Below w.heap.size w w':=by
 have h1:=(h.hse.live hk hT).one;have h2:=(bY (h.hse.live hk hT).rgs.right).2;have h3:=h1.row.len;refine(mQ _ _ _ _ _ _ _ x.rl w h1.self h1.row (by omega)).mono ?_;rintro e w' ⟨A',vA,rfl,h4,h5⟩;exact⟨A',vA,by rw[h3],h4,h5⟩
theorem Hou.cells (h:Hou w hb B c a fs m S F clock p L l R cr (l.map (·.s))):w.cell? ⟨hb,1,none⟩=some (.pointer (some ⟨a,0,none⟩))/\w.cell? ⟨hb,3,none⟩=some (.slice R l.length cr):=by
 have h9:=h.self;rw[List.length_map]at h9;exact⟨aa h9 1,aa h9 3⟩
theorem Hou.at_ (h:Hou w hb B c a fs m S F clock p L l R cr (l.map (·.s))) (hk:l[k]? =some x): ∃g,R=some ⟨g,0,none⟩/\w.cell? ⟨g,k,none⟩=some (.pointer (some ⟨x.s,0,none⟩)):=by
 have GD:(l.map (·.s))[k]? =some x.s:=(by rw[vt,hk];rfl);rcases h.row.form with⟨_,e,_⟩|⟨g,e,_⟩
 ·rw[e]at GD;cases GD
 ·subst e;have h8:=h.row.cell jh GD 0 (by omega);rw[Nat.mul_one,Nat.add_zero]at h8;exact⟨g,rfl,by rw[h8];rfl⟩
theorem SpM.withT_self (h:x.T=some T):x.withT T=x:=by cases x;simp[SpM.withT]at h⊢;exact h.symm
theorem sL (A1 A2:Option Addr) (n c1 c2:Nat) (w:World) (l:List Reg) (hl:RSl w w.heap.size A1 n c1 l) (hm:RSl w w.heap.size A2 n c2 l):
  Calls Tryz.prog 19 #[.slice A1 n c1, .slice A2 n c2] w fun e w'=>e= .returned (.bool true)/\Below w.heap.size w w':=by
 have hn:=hl.few;have JK:=oD;go_enter Tryz.func19,Tryz.ntmps19;go_wp2;go_loopw [5] (fun i wr=> ∃j:Nat,j<=n/\i= .int .i64 j/\Below w.heap.size w wr) (fun i _ =>n-(intOf i).toNat)
 case atStart=>exact⟨0,vw _,rfl,vz _ _⟩
 case round=>
  obtain⟨j,hj,rfl,hB⟩:=hrel;have RO:=hB.size;by_cases vH:j<n
  ·obtain⟨r,hr⟩: ∃r,l[j]? =some r:=⟨_,vg (by have:=hl.len;omega)⟩;obtain⟨b,off,rfl,hb,yT⟩:=hl.at_ j r hr;obtain⟨b',off',rfl,Ip,hsa⟩:=hm.at_ j r hr;obtain⟨h0,h1,h2,h3,h4⟩:=yT.below hB hb;obtain⟨k0,k1,k2,k3,k4⟩:=hsa.below hB Ip;have h0j:(0:Int)<=(j:Int):=(by omega);have h1j:(j:Int)<(n:Int):=(by omega);clear hr yT hsa;have hneq':ni ⟨r.fr,r.to,r.prot,r.ino,r.off⟩ ⟨r.fr,r.to,r.prot,r.ino,r.off⟩=true:=(by simp[ni]);go_wp2;go_quiet (fail);go_wp2;go_roundw
   case rel=>exact⟨j+1,by omega,by go_num,by exact vb⟩
   case measure=>simp[intOf];omega
  ·go_wp2;go_ret;exact⟨rfl,by exact vb⟩
theorem rV.at_ {Q:Option Addr} {ops:List O11} {j:Nat} (h:rV w Q ops) (hb:Below w.heap.size w w') (hB:w.heap.size<=B) (ho:ops[j]? =some o): ∃b off A cq,Q=some ⟨b,off,none⟩/\
  (w'.cell? ⟨b,off+j*10,none⟩=some (.int .i64 o.kd)/\w'.cell? ⟨b,off+j*10+1,none⟩=some (.int .i64 o.sI)/\w'.cell? ⟨b,off+j*10+2,none⟩=some (.int .u64 o.r.fr)/\w'.cell? ⟨b,off+j*10+3,none⟩=some (.int .u64 o.r.to)/\w'.cell? ⟨b,off+j*10+4,none⟩=some (.int .u8 o.r.prot)/\w'.cell? ⟨b,off+j*10+5,none⟩=some (.int .i64 o.r.ino)/\w'.cell? ⟨b,off+j*10+6,none⟩=some (.int .u64 o.r.off)/\w'.cell? ⟨b,off+j*10+7,none⟩=some (.int .u64 (o.addr:Int))/\w'.cell? ⟨b,off+j*10+8,none⟩=some (.int .i64 o.n)/\w'.cell? ⟨b,off+j*10+9,none⟩=some (.slice A o.q cq))/\pC w' B o A cq:=by
 obtain⟨b,off,A,cq,rfl,Br,yK,g4,g5,g6,g7,g8,g9⟩:=h j o ho;have k: ∀i v,(opV o A cq)[i]? =some v->w'.cell? ⟨b,off+j*10+i,none⟩=some v:=fun i v e=>(hb.cell (p:=⟨b,off+j*10+i,none⟩) Br).trans (yK i v e);exact⟨b,off,A,cq,rfl,⟨k 0 _ rfl,k 1 _ rfl,k 2 _ rfl,k 3 _ rfl,k 4 _ rfl,k 5 _ rfl,k 6 _ rfl,k 7 _ rfl,k 8 _ rfl,k 9 _ rfl⟩,pC.of hB hb g4 g5 g6 g7 g8 g9⟩
end
section
open Go.RowKit Go.Sort
variable {w w':World} {P:Option Addr} {n cap:Nat}
theorem iX.below (h:iX w P n cap) (hb:Below w.heap.size w w'):iX w' P n cap:=
 ⟨h.1,h.2.1,fun h3=>by obtain⟨l,h4,h5⟩:=h.2.2 h3;exact⟨l,h4,h5.below hb⟩⟩
theorem ie.below (h:ie w P n cap) (hb:Below w.heap.size w w'):ie w' P n cap:=
 ⟨h.1,fun h3=>by obtain⟨l,h4,h5⟩:=h.2 h3;exact⟨l,h4,h5.below hb⟩⟩
theorem In11.below {l:List Ent} (h:In11 w P n cap l) (hb:Below w.heap.size w w'):In11 w' P n cap l:=⟨h.ents.below hb,h.len,h.few,h.cap,h.small⟩
def uQ (w:World) (e:Ending) (w':World):Prop:=e= .returned (.bool true)/\Below w.heap.size w w'
theorem Hou.start {hb B c a fs m:Nat} {S:Nat->Prop} {F:List Nd} {clock:Int} {p:Pool} (h:Hse w B c a fs m S F clock p [] []) (hs:gY w hb fs a c none 0 0) (hB:B<=hb) (h1: ¬S hb) (h2:hb≠m) (h3:hb≠c):Hou w hb B c a fs m S F clock p [] [] none 0 (([]:List SpM).map (·.s)):=
 ⟨h,hs,OwnG.nil _ _,hB,fun e=>e.elim h1 (fun e=>e.elim h2 h3),fun k x hk=>(by rw[List.getElem?_nil]at hk;cases hk),(fun g e=>by cases e),fun k x hk=>(by rw[List.getElem?_nil]at hk;cases hk)⟩
end
