/- The spaces' laws: no house is begun where there are no such files, or no such pool. The spaces' laws: a house through all that is done; The spaces' laws: a house looked at; SpaceFrees, its walk. -/
import Derived.Test.YtoochjhipmpehaaGreatDoorOvK
set_option linter.unusedVariables false
set_option linter.unusedSimpArgs false
set_option maxRecDepth 100000
set_option maxHeartbeats 4000000
namespace Go.Proofs.YtoochjhipmpehaaGreatDoor
section
open Go.RowKit Go.Sort
def BegunNo (w:World) (e:Ending) (w':World):Prop:=e= .returned (.tuple #[.pointer none, .bool true])/\Below w.heap.size w w'
theorem uF (P:Option Addr) (n cap:Nat) (N:Int) (l:List Ent) (w:World) (wX:In11 w P n cap l) (hN:N<=128) (zh:(newM [aB] 0 l).1≠0\/N<1) (Ay:DB w) (vT:0<w.heap.size):
  Calls Tryz.prog 11 #[.agg #[.slice P n cap, .int .i64 N]] w (BegunNo w):=by
 obtain⟨w0,Ai⟩: ∃w0,w0=w.alloc (.cells #[.slice P n cap, .int .i64 N] 24):=⟨_,rfl⟩;have vU:Below w.heap.size w w0:=(by rw[Ai];exact vr);have CA:w0.heap[w.heap.size]? =some (.cells #[.slice P n cap, .int .i64 N] 24 (0,0)):=(by rw[Ai];exact ab w _);have xf:=pz P n cap l w0 (wX.ents.below vU) wX.len wX.few wX.small;have wM:=vU.size;have x0:w0.cell? ⟨w.heap.size,0,none⟩=some (.slice P n cap):=aa CA 0;have Kl:l.length<=64:=(by rw[<-wX.len];exact wX.few);have HTW:=vp xf;have wD:=vp Ai;have xe:=vp vU;have GF:=vp CA;have EK:=vp Ay;have MO:=vp Kl;have xZ:=vp wX;have MZ:=vp zh;clear xf Ai vU CA Ay wX Kl zh;obtain⟨er,zR⟩: ∃er,er=(newM [aB] 0 l).1:=⟨_,rfl⟩;have yI:Hid (∀(R:Option Addr) (cp:Nat) (W:World),fW W R l->l.length<=cp->Calls Tryz.prog 37 #[.slice R l.length cp] W fun e w'=> ∃v q,e= .returned (.tuple #[.pointer v, .int .i64 er, .int .i64 q])/\Below W.heap.size W w'):=vp fun R cp W hE xY=>by
  by_cases h0:er=0
  ·refine(jr R cp l W hE xY MO.out (zR.symm.trans h0)).mono ?_;rintro e w' ⟨fs,rfl,_,hb⟩;exact⟨_,_,by rw[h0],hb⟩
  ·refine(vnew_err R cp l W hE xY MO.out (zR▸h0)).mono ?_;rintro e w' ⟨q,rfl,hb⟩;exact⟨_,_,by rw[zR],hb⟩
 have HREF:Hid (∀(W:World),Below w.heap.size w W->Calls Tryz.prog 12 #[.slice P n cap] W fun e w'=> ∃v q,e= .returned (.tuple #[.pointer v, .int .i64 er, .int .i64 q])/\Below W.heap.size W w'):=vp fun W hW=>by
  by_cases h0:er=0
  ·refine(mV P n cap l W (xZ.out.ents.below hW) xZ.out.len xZ.out.cap xZ.out.few xZ.out.small (zR.symm.trans h0)).mono ?_;rintro e w' ⟨q,rfl,_,hb⟩;exact⟨_,_,by rw[h0],hb⟩
  ·refine(rnew_bad P n cap l W (xZ.out.ents.below hW) xZ.out.len xZ.out.cap xZ.out.few xZ.out.small (zR▸h0)).mono ?_;rintro e w' ⟨q,rfl,hb⟩;exact⟨_,_,by rw[zR],hb⟩
 have HB:=vp (show er≠0\/N<1 by rw[zR];exact MZ.out);have hee:(er != er)=false:=(by simp);clear zR MZ;go_enter Tryz.func11,Tryz.ntmps11;go_upto_region 1 with(fail);rw[<-wD.out];go_upto_region 3 with(first
  |(go_at_call 40;refine(HTW.out).mono ?_;rintro e w1 ⟨R,cp,rfl,hE,xY,vS⟩;have HE:=vp hE;have Ro:=vp xY;have vY:=vp (xe.out.trans (vS.mono wM));have AS:=vp ((vS.block _ (vo GF.out).1).trans GF.out);clear hE xY vS)
  |(go_at_call 37;refine(yI.out R cp _ HE.out Ro.out).mono ?_;rintro e w2 ⟨fs,q1,rfl,wb⟩;have wF:=vY.out.size;have xF:=vp (vY.out.trans (wb.mono wF));have Bn:=vp ((wb.block _ (vo AS.out).1).trans AS.out);have x2:w2.cell? ⟨w.heap.size,0,none⟩=some (.slice P n cap):=aa Bn.out 0;have wL:=xF.out.size;clear wb)
  |(go_at_call 12;refine(HREF.out _ xF.out).mono ?_;rintro e w3 ⟨v3,q3,rfl,wG⟩;have zm:=vp (xF.out.trans (wG.mono wL));have Bm:=vp ((wG.block _ (vo Bn.out).1).trans Bn.out);have x3:w3.cell? ⟨w.heap.size,1,none⟩=some (.int .i64 N):=aa Bm.out 1;have Rn:=vp (EK.out.same (zm.out.block 0 vT));have yk:=zm.out.size;clear wG)
  |fail)
 have hN4:N<=1024:=(by omega);have HFN:=vp (fnew11 N w3 hN4 Rn.out (by omega));by_cases hp:1<=N
 ·have zR:er≠0:=HB.out.elim id (fun e=>by omega);have wg:(er != 0)=true:=(by rw[bne_iff_ne];exact zR);go_upto_region 4 with(first
   |(go_at_call 38;refine(HFN.out).mono ?_;rintro e w4 ⟨v4,h4,rfl,hh,wA⟩;have xj:=vp (zm.out.trans (wA.mono yk));have x4:w4.cell? ⟨w.heap.size,1,none⟩=some (.int .i64 N):=aa ((wA.block _ (vo Bm.out).1).trans Bm.out) 1;clear wA)
   |fail)
  obtain rfl:h4=0:=hh.2 hp;clear hh x0 x2 x3;go_wp2_with fail;go_ret2;exact⟨rfl,xj.out⟩
 ·go_upto_region 4 with(first
   |(go_at_call 38;refine(HFN.out).mono ?_;rintro e w4 ⟨v4,h4,rfl,hh,wA⟩;have xj:=vp (zm.out.trans (wA.mono yk));have x4:w4.cell? ⟨w.heap.size,1,none⟩=some (.int .i64 N):=aa ((wA.block _ (vo Bm.out).1).trans Bm.out) 1;clear wA)
   |fail)
  have NK:h4≠0:=fun e=>by have:=hh.1 e;omega
  have Zb:(h4==0)=false:=(by rw[vE];exact NK);have PM:(h4 != 0)=true:=(by rw[bne_iff_ne];exact NK);clear hh x0 x2 x3 NK;by_cases zR:er=0
  ·have wg:(er != 0)=false:=(by rw[zR];rfl);clear zR;go_wp2_with fail;go_ret2;exact⟨rfl,xj.out⟩
  ·have wg:(er != 0)=true:=(by rw[bne_iff_ne];exact zR);clear zR;go_wp2_with fail;go_ret2;exact⟨rfl,xj.out⟩
end
section
open Go.RowKit Go.Sort
variable {w w':World} {hb B c a fs m:Nat} {S S':Nat->Prop} {F:List Nd} {clock vQ:Int} {p p':Pool} {L L':List Slot} {l l':List SpM} {R R':Option Addr} {cr:Nat} {ls:List Nat} {o:O11} {k:Nat} {x:SpM}
theorem Do11.n {er:Int} (h:Hse w B c a fs m S F clock p L l) (hd:Do11 F p L l o er p' L' l'):p'.n=p.n:=by
 cases hd with
 |idle=>rfl
 |new s t f p' L' _ ht=>exact ht.size.1
 |newNo f _ ht=>rfl
 |gone=>rfl
 |no=>rfl
 |map k x T A' vP p' T' _ _ hk hT _ hr=>exact(hr.far (fun _ =>False)).n
 |unmap k x T A' vP p' T' _ _ hk hT _ hr=>exact(hr.far (fun _ =>False)).n
 |prot k x T A' vP p' T' q _ _ hk hT _ _ hr=>exact(hr.far (fun _ =>False)).n
 |load k x T want er kk d p' L' T' _ _ hk hT hr=>exact((hr.kept (h.sp hk hT) (h.ownT hk hT)).far (fun _ =>False)).n
 |store k x T want er p' L' T' _ _ hk hT hr=>exact((hr.left (h.sp hk hT) (h.ownT hk hT)).2.1 (fun _ =>False)).n
 |forkNo k x T p' L' _ _ hk hT hr=>exact(hr.far (fun _ =>False)).n
 |fork k x T s2 t2 f A' vP p' L' T' T2 _ _ hk hT hr=>exact(hr.far (fun _ =>False)).n
 |free k x T _ _ hk hT=>exact ki _ _
variable {A:Option Addr} {d:Nat->Nat}
theorem av.ltA {n:Nat} {ad:Addr} (h:av w A n d) (e:A=some ad) (h0:0<n):ad.block<w.heap.size:=by
 obtain⟨x,e2,hx⟩:=h h0;rw[e]at e2;injection e2 with e2;subst e2;have h1:=World.block_lt_of_cell? _ _ (hx 0 h0)
 rwa [Addr.add_blk]at h1
variable {cq:Nat}
theorem se.of {w0:World} (hB:w0.heap.size<=B) (hb:Below w0.heap.size w0 w) (h4:o.r.Ok) (h5:o.addr<18446744073709551616) (h6:o.q<=140737488355328) (h7:o.q<=cq) (h8:av w0 A o.q o.d) (h9: ∀j,o.d j<256):se w B o A cq:=
 ⟨h4,h5,h6,h7,h8.kept hb,h9,fun ad e h0=>vw (h8.ltA e h0) hB⟩
def At11 (w2:World) (hb B c a fs m:Nat) (F:List Nd) (nf j:Nat) (wr:World):Prop:= ∃S clock p L l R cr,Hou wr hb B c a fs m S F clock p L l R cr (l.map (·.s))/\l.length<=6/\0<=clock/\clock<=32*(j:Int)/\p.n=nf/\Below B w2 wr
theorem At11.does {w2 wr:World} {nf j q:Nat} {kd sI n:Int} {r:Reg} {addr:Nat} (h:At11 w2 hb B c a fs m F nf j wr) (hj:j<=1000) (wX:se wr B ⟨kd,sI,r,addr,n,q,d⟩ A cq):
  Calls Tryz.prog 15 #[.pointer (some ⟨hb,0,none⟩), .agg #[.int .i64 kd, .int .i64 sI, .int .u64 r.fr, .int .u64 r.to, .int .u8 r.prot, .int .i64 r.ino, .int .u64 r.off, .int .u64 (addr:Int), .int .i64 n, .slice A q cq]] wr fun e w'=> ∃(Rb:Option Addr) (kk cp:Nat) (er:Int),e= .returned (.tuple #[.agg #[.slice Rb kk cp, .int .i64 er], .bool true])/\Hid (At11 w2 hb B c a fs m F nf (j+1) w'):=by
 obtain⟨S,clock,p,L,l,R,cr,h1,h2,h3,h4,h5,h6⟩:=h;refine(rQ hb B c a fs m S F clock p L l R A cr cq kd sI r addr q n d wr h1 h2 ⟨h3,by omega⟩ wX).mono ?_;rintro e w' ⟨Rb,kk,cp,er,vQ,S',p',L',l',R',cr',rfl,g1,g2,g3,g4,g5,g6,g7⟩;exact⟨Rb,kk,cp,er,rfl,vp ⟨S',vQ,p',L',l',R',cr',g1,g2,by omega,by omega,(g7.n h1.hse).trans h5,h6.trans (g5.below h1.lowF h1.hse.home.base)⟩⟩
end
section
open Go.RowKit Go.Sort
variable {w w':World} {hb B c a fs m:Nat} {S S':Nat->Prop} {F:List Nd} {clock vQ:Int} {p p':Pool} {L L':List Slot} {l l':List SpM} {R R':Option Addr} {cr:Nat} {ls:List Nat} {o:O11} {k:Nat} {x:SpM} {T:Tab}
theorem Hou.tableAt (h:Hou w hb B c a fs m S F clock p L l R cr ls) (hk:l[k]? =some x):Calls Tryz.prog 33 #[.pointer (some ⟨x.s,0,none⟩)] w fun e w'=>e= .returned (.pointer (x.T.map fun _ =>⟨x.t,0,none⟩))/\w=w':=by
 cases hT:x.T with
 |none=>exact oo _ w (h.hse.goneOf hk hT)
 |some T=>exact qH _ _ _ _ _ _ _ w (h.hse.live hk hT).one.self
theorem Hou.allAt (h:Hou w hb B c a fs m S F clock p L l R cr ls) (hk:l[k]? =some x) (hT:x.T=some T):Calls Tryz.prog 34 #[.pointer (some ⟨x.t,0,none⟩)] w (ms OwnP w T.puts):=
 lr x.t c a x.root w S p T _ 0 h.hse.home.cache.pool (h.hse.live hk hT).one.tab (h.hse.sp hk hT).good (h.hse.live hk hT).root
theorem Hou.cells (h:Hou w hb B c a fs m S F clock p L l R cr (l.map (·.s))):w.cell? ⟨hb,1,none⟩=some (.pointer (some ⟨a,0,none⟩))/\w.cell? ⟨hb,3,none⟩=some (.slice R l.length cr):=by
 have h9:=h.self;rw[List.length_map]at h9;exact⟨aa h9 1,aa h9 3⟩
theorem Hou.at_ (h:Hou w hb B c a fs m S F clock p L l R cr (l.map (·.s))) (hk:l[k]? =some x): ∃g,R=some ⟨g,0,none⟩/\w.cell? ⟨g,k,none⟩=some (.pointer (some ⟨x.s,0,none⟩)):=by
 have GV:(l.map (·.s))[k]? =some x.s:=(by rw[vI,hk];rfl);rcases h.row.form with⟨_,e,_⟩|⟨g,e,_⟩
 ·rw[e]at GV;cases GV
 ·subst e;have h8:=h.row.cell jb GV 0 (by omega);rw[Nat.mul_one,Nat.add_zero]at h8;exact⟨g,rfl,by rw[h8];rfl⟩
theorem qg {α:Type} {F:Ev->List α} (h: ∀e,(F e).length<=1) (l:List Ev):(l.flatMap F).length<=l.length:=by
 induction l with
 |nil=>exact vs _
 |cons e l ih=>
  rw[vN,vu,vC];have:=h e;omega
theorem sd.at_ {Q:Option Addr} {ops:List O11} {j:Nat} (h:sd w Q ops) (hb:Below w.heap.size w w') (hB:w.heap.size<=B) (ho:ops[j]? =some o): ∃b off A cq,Q=some ⟨b,off,none⟩/\
  (w'.cell? ⟨b,off+j*10,none⟩=some (.int .i64 o.kd)/\w'.cell? ⟨b,off+j*10+1,none⟩=some (.int .i64 o.sI)/\w'.cell? ⟨b,off+j*10+2,none⟩=some (.int .u64 o.r.fr)/\w'.cell? ⟨b,off+j*10+3,none⟩=some (.int .u64 o.r.to)/\w'.cell? ⟨b,off+j*10+4,none⟩=some (.int .u8 o.r.prot)/\w'.cell? ⟨b,off+j*10+5,none⟩=some (.int .i64 o.r.ino)/\w'.cell? ⟨b,off+j*10+6,none⟩=some (.int .u64 o.r.off)/\w'.cell? ⟨b,off+j*10+7,none⟩=some (.int .u64 (o.addr:Int))/\w'.cell? ⟨b,off+j*10+8,none⟩=some (.int .i64 o.n)/\w'.cell? ⟨b,off+j*10+9,none⟩=some (.slice A o.q cq))/\se w' B o A cq:=by
 obtain⟨b,off,A,cq,rfl,BJ,yY,g4,g5,g6,g7,g8,g9⟩:=h j o ho;have k: ∀i v,(opV o A cq)[i]? =some v->w'.cell? ⟨b,off+j*10+i,none⟩=some v:=fun i v e=>(hb.cell (p:=⟨b,off+j*10+i,none⟩) BJ).trans (yY i v e);exact⟨b,off,A,cq,rfl,⟨k 0 _ rfl,k 1 _ rfl,k 2 _ rfl,k 3 _ rfl,k 4 _ rfl,k 5 _ rfl,k 6 _ rfl,k 7 _ rfl,k 8 _ rfl,k 9 _ rfl⟩,se.of hB hb g4 g5 g6 g7 g8 g9⟩
end
section
open Go.RowKit Go.Sort
variable {w w':World} {P:Option Addr} {n cap:Nat}
theorem iT.below (h:iT w P n cap) (hb:Below w.heap.size w w'):iT w' P n cap:=
 ⟨h.1,h.2.1,fun h3=>by obtain⟨l,h4,h5⟩:=h.2.2 h3;exact⟨l,h4,h5.below hb⟩⟩
theorem kE.below (h:kE w P n cap) (hb:Below w.heap.size w w'):kE w' P n cap:=
 ⟨h.1,fun h3=>by obtain⟨l,h4,h5⟩:=h.2 h3;exact⟨l,h4,h5.below hb⟩⟩
theorem In11.below {l:List Ent} (h:In11 w P n cap l) (hb:Below w.heap.size w w'):In11 w' P n cap l:=⟨h.ents.below hb,h.len,h.few,h.cap,h.small⟩
def ve (w:World) (e:Ending) (w':World):Prop:=e= .returned (.bool true)/\Below w.heap.size w w'
theorem Hou.start {hb B c a fs m:Nat} {S:Nat->Prop} {F:List Nd} {clock:Int} {p:Pool} (h:Hse w B c a fs m S F clock p [] []) (hs:gW w hb fs a c none 0 0) (hB:B<=hb) (h1: ¬S hb) (h2:hb≠m) (h3:hb≠c):Hou w hb B c a fs m S F clock p [] [] none 0 (([]:List SpM).map (·.s)):=
 ⟨h,hs,OwnG.nil _ _,hB,fun e=>e.elim h1 (fun e=>e.elim h2 h3),fun k x hk=>(by rw[List.getElem?_nil]at hk;cases hk),(fun g e=>by cases e),fun k x hk=>(by rw[List.getElem?_nil]at hk;cases hk)⟩
end
