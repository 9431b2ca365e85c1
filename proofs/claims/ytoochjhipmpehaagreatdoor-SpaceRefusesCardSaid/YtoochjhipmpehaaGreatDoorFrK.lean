/- The spaces' laws: no house is begun where there are no such files, or no such pool. The spaces' laws: a house through all that is done; The spaces' laws: a house looked at; SpaceFrees, its walk. SpaceRefuses, its walk. The spaces' laws: one thing that is done, handed in with its bytes. -/
import Derived.Test.YtoochjhipmpehaaGreatDoorOvK
set_option linter.unusedVariables false
set_option linter.unusedSimpArgs false
set_option maxRecDepth 100000
set_option maxHeartbeats 16000000
namespace Go.Proofs.YtoochjhipmpehaaGreatDoor
section
open Go.RowKit Go.Sort
def BegunNo (w:World) (e:Ending) (w':World):Prop:=e= .returned (.tuple #[.pointer none, .bool true])/\Below w.heap.size w w'
theorem tW (P:Option Addr) (n cap:Nat) (N:Int) (l:List Ent) (w:World) (vZ:In11 w P n cap l) (hN:N<=128) (yu:(newM [aB] 0 l).1≠0\/N<1) (zE:DB w) (vl:0<w.heap.size):
  Calls Tryz.prog 11 #[.agg #[.slice P n cap, .int .i64 N]] w (BegunNo w):=by
 obtain⟨w0,zr⟩: ∃w0,w0=w.alloc (.cells #[.slice P n cap, .int .i64 N] 24):=⟨_,rfl⟩;have vm:Below w.heap.size w w0:=(by rw[zr];exact uJ);have BI:w0.heap[w.heap.size]? =some (.cells #[.slice P n cap, .int .i64 N] 24 (0,0)):=(by rw[zr];exact ab w _);have wv:=pv P n cap l w0 (vZ.ents.below vm) vZ.len vZ.few vZ.small;have vQ:=vm.size;have x0:w0.cell? ⟨w.heap.size,0,none⟩=some (.slice P n cap):=aa BI 0;have Jv:l.length<=64:=(by rw[<-vZ.len];exact vZ.few);have Zk:=uH wv;have vF:=uH zr;have wj:=uH vm;have FH:=uH BI;have DR:=uH zE;have Mf:=uH Jv;have xp:=uH vZ;have Mp:=uH yu;clear wv zr vm BI zE vZ Jv yu;obtain⟨er,za⟩: ∃er,er=(newM [aB] 0 l).1:=⟨_,rfl⟩;have xS:Hid (∀(R:Option Addr) (cp:Nat) (W:World),fQ W R l->l.length<=cp->Calls Tryz.prog 37 #[.slice R l.length cp] W fun e w'=> ∃v q,e= .returned (.tuple #[.pointer v, .int .i64 er, .int .i64 q])/\Below W.heap.size W w'):=uH fun R cp W hE xl=>by
  by_cases h0:er=0
  ·refine(jn R cp l W hE xl Mf.out (za.symm.trans h0)).mono ?_;rintro e w' ⟨fs,rfl,_,hb⟩;exact⟨_,_,by rw[h0],hb⟩
  ·refine(vnew_err R cp l W hE xl Mf.out (za▸h0)).mono ?_;rintro e w' ⟨q,rfl,hb⟩;exact⟨_,_,by rw[za],hb⟩
 have Zu:Hid (∀(W:World),Below w.heap.size w W->Calls Tryz.prog 12 #[.slice P n cap] W fun e w'=> ∃v q,e= .returned (.tuple #[.pointer v, .int .i64 er, .int .i64 q])/\Below W.heap.size W w'):=uH fun W hW=>by
  by_cases h0:er=0
  ·refine(mO P n cap l W (xp.out.ents.below hW) xp.out.len xp.out.cap xp.out.few xp.out.small (za.symm.trans h0)).mono ?_;rintro e w' ⟨q,rfl,_,hb⟩;exact⟨_,_,by rw[h0],hb⟩
  ·refine(rnew_bad P n cap l W (xp.out.ents.below hW) xp.out.len xp.out.cap xp.out.few xp.out.small (za▸h0)).mono ?_;rintro e w' ⟨q,rfl,hb⟩;exact⟨_,_,by rw[za],hb⟩
 have HB:=uH (show er≠0\/N<1 by rw[za];exact Mp.out);have hee:(er != er)=false:=(by simp);clear za Mp;go_enter Tryz.func11,Tryz.ntmps11;go_upto_region 1 with(fail);rw[<-vF.out];go_upto_region 3 with(first
  |(go_at_call 40;refine(Zk.out).mono ?_;rintro e w1 ⟨R,cp,rfl,hE,xl,vk⟩;have HE:=uH hE;have Qy:=uH xl;have vq:=uH (wj.out.trans (vk.mono vQ));have zX:=uH ((vk.block _ (uG FH.out).1).trans FH.out);clear hE xl vk)
  |(go_at_call 37;refine(xS.out R cp _ HE.out Qy.out).mono ?_;rintro e w2 ⟨fs,q1,rfl,vs⟩;have vI:=vq.out.size;have xd:=uH (vq.out.trans (vs.mono vI));have At:=uH ((vs.block _ (uG zX.out).1).trans zX.out);have x2:w2.cell? ⟨w.heap.size,0,none⟩=some (.slice P n cap):=aa At.out 0;have vO:=xd.out.size;clear vs)
  |(go_at_call 12;refine(Zu.out _ xd.out).mono ?_;rintro e w3 ⟨v3,q3,rfl,vG⟩;have yh:=uH (xd.out.trans (vG.mono vO));have As:=uH ((vG.block _ (uG At.out).1).trans At.out);have x3:w3.cell? ⟨w.heap.size,1,none⟩=some (.int .i64 N):=aa As.out 1;have Qx:=uH (DR.out.same (yh.out.block 0 vl));have xq:=yh.out.size;clear vG)
  |fail)
 have hN4:N<=1024:=(by omega);have HFN:=uH (fnew11 N w3 hN4 Qx.out (by omega));by_cases hp:1<=N
 ·have za:er≠0:=HB.out.elim id (fun e=>by omega);have vu:(er != 0)=true:=(by rw[bne_iff_ne];exact za);go_upto_region 4 with(first
   |(go_at_call 38;refine(HFN.out).mono ?_;rintro e w4 ⟨v4,h4,rfl,hh,vD⟩;have wu:=uH (yh.out.trans (vD.mono xq));have x4:w4.cell? ⟨w.heap.size,1,none⟩=some (.int .i64 N):=aa ((vD.block _ (uG As.out).1).trans As.out) 1;clear vD)
   |fail)
  obtain rfl:h4=0:=hh.2 hp;clear hh x0 x2 x3;go_wp2_with fail;go_ret2;exact⟨rfl,wu.out⟩
 ·go_upto_region 4 with(first
   |(go_at_call 38;refine(HFN.out).mono ?_;rintro e w4 ⟨v4,h4,rfl,hh,vD⟩;have wu:=uH (yh.out.trans (vD.mono xq));have x4:w4.cell? ⟨w.heap.size,1,none⟩=some (.int .i64 N):=aa ((vD.block _ (uG As.out).1).trans As.out) 1;clear vD)
   |fail)
  have MW:h4≠0:=fun e=>by have:=hh.1 e;omega
  have OZ:(h4==0)=false:=(by rw[uW];exact MW);have Wh:(h4 != 0)=true:=(by rw[bne_iff_ne];exact MW);clear hh x0 x2 x3 MW;by_cases za:er=0
  ·have vu:(er != 0)=false:=(by rw[za];rfl);clear za;go_wp2_with fail;go_ret2;exact⟨rfl,wu.out⟩
  ·have vu:(er != 0)=true:=(by rw[bne_iff_ne];exact za);clear za;go_wp2_with fail;go_ret2;exact⟨rfl,wu.out⟩
end
section
open Go.RowKit Go.Sort
variable {w w':World} {hb B c a fs m:Nat} {S S':Nat->Prop} {F:List Nd} {clock vi:Int} {p p':Pool} {L L':List Slot} {l l':List SpM} {R R':Option Addr} {cr:Nat} {ls:List Nat} {o:O11} {k:Nat} {x:SpM}
theorem Do11.n {er:Int} (h:Hse w B c a fs m S F clock p L l) (hd:Do11 F p L l o er p' L' l'):p'.n=p.n:=by
 cases hd with
 |idle=>rfl
 |new s t f p' L' _ ht=>exact ht.size.1
 |newNo f _ ht=>rfl
 |gone=>rfl
 |no=>rfl
 |map k x T A' vh p' T' _ _ hk hT _ hr=>exact(hr.far (fun _ =>False)).n
 |unmap k x T A' vh p' T' _ _ hk hT _ hr=>exact(hr.far (fun _ =>False)).n
 |prot k x T A' vh p' T' q _ _ hk hT _ _ hr=>exact(hr.far (fun _ =>False)).n
 |load k x T want er kk d p' L' T' _ _ hk hT hr=>exact((hr.kept (h.sp hk hT) (h.ownT hk hT)).far (fun _ =>False)).n
 |store k x T want er p' L' T' _ _ hk hT hr=>exact((hr.left (h.sp hk hT) (h.ownT hk hT)).2.1 (fun _ =>False)).n
 |forkNo k x T p' L' _ _ hk hT hr=>exact(hr.far (fun _ =>False)).n
 |fork k x T s2 t2 f A' vh p' L' T' T2 _ _ hk hT hr=>exact(hr.far (fun _ =>False)).n
 |free k x T _ _ hk hT=>exact jZ _ _
variable {A:Option Addr} {d:Nat->Nat}
theorem au.ltA {n:Nat} {ad:Addr} (h:au w A n d) (e:A=some ad) (h0:0<n):ad.block<w.heap.size:=by
 obtain⟨x,e2,hx⟩:=h h0;rw[e]at e2;injection e2 with e2;subst e2;have h1:=World.block_lt_of_cell? _ _ (hx 0 h0)
 rwa [Addr.add_blk]at h1
variable {cq:Nat}
theorem mm.of {w0:World} (hB:w0.heap.size<=B) (hb:Below w0.heap.size w0 w) (h4:o.r.Ok) (h5:o.addr<18446744073709551616) (h6:o.q<=140737488355328) (h7:o.q<=cq) (h8:au w0 A o.q o.d) (h9: ∀j,o.d j<256):mm w B o A cq:=
 ⟨h4,h5,h6,h7,h8.kept hb,h9,fun ad e h0=>uO (h8.ltA e h0) hB⟩
def At11 (w2:World) (hb B c a fs m:Nat) (F:List Nd) (nf j:Nat) (wr:World):Prop:= ∃S clock p L l R cr,Hou wr hb B c a fs m S F clock p L l R cr (l.map (·.s))/\l.length<=6/\0<=clock/\clock<=32*(j:Int)/\p.n=nf/\Below B w2 wr
theorem At11.does {w2 wr:World} {nf j q:Nat} {kd sI n:Int} {r:Reg} {addr:Nat} (h:At11 w2 hb B c a fs m F nf j wr) (hj:j<=1000) (vZ:mm wr B ⟨kd,sI,r,addr,n,q,d⟩ A cq):
  Calls Tryz.prog 15 #[.pointer (some ⟨hb,0,none⟩), .agg #[.int .i64 kd, .int .i64 sI, .int .u64 r.fr, .int .u64 r.to, .int .u8 r.prot, .int .i64 r.ino, .int .u64 r.off, .int .u64 (addr:Int), .int .i64 n, .slice A q cq]] wr fun e w'=> ∃(Rb:Option Addr) (kk cp:Nat) (er:Int),e= .returned (.tuple #[.agg #[.slice Rb kk cp, .int .i64 er], .bool true])/\Hid (At11 w2 hb B c a fs m F nf (j+1) w'):=by
 obtain⟨S,clock,p,L,l,R,cr,h1,h2,h3,h4,h5,h6⟩:=h;refine(kT hb B c a fs m S F clock p L l R A cr cq kd sI r addr q n d wr h1 h2 ⟨h3,by omega⟩ vZ).mono ?_;rintro e w' ⟨Rb,kk,cp,er,vi,S',p',L',l',R',cr',rfl,g1,g2,g3,g4,g5,g6,g7⟩;exact⟨Rb,kk,cp,er,rfl,uH ⟨S',vi,p',L',l',R',cr',g1,g2,by omega,by omega,(g7.n h1.hse).trans h5,h6.trans (g5.below h1.lowF h1.hse.home.base)⟩⟩
end
section
open Go.RowKit Go.Sort
variable {w w':World} {hb B c a fs m:Nat} {S S':Nat->Prop} {F:List Nd} {clock vi:Int} {p p':Pool} {L L':List Slot} {l l':List SpM} {R R':Option Addr} {cr:Nat} {ls:List Nat} {o:O11} {k:Nat} {x:SpM} {T:Tab}
theorem Hou.ltF (h:Hou w hb B c a fs m S F clock p L l R cr ls): ∀b,houF S c m hb R l b->b<w.heap.size:=fun b e=>by
 rcases e with e|e|e|⟨k,x,hk,e⟩
 ·exact(h.footLt (.inl e)).2
 ·rw[e];exact h.lt
 ·exact(h.row.lt b e).2
 ·exact(h.footLt (.inr ⟨k,x,hk,e⟩)).2
theorem Hou.tableAt (h:Hou w hb B c a fs m S F clock p L l R cr ls) (hk:l[k]? =some x):Calls Tryz.prog 33 #[.pointer (some ⟨x.s,0,none⟩)] w fun e w'=>e= .returned (.pointer (x.T.map fun _ =>⟨x.t,0,none⟩))/\w=w':=by
 cases hT:x.T with
 |none=>exact oc _ w (h.hse.goneOf hk hT)
 |some T=>exact qw _ _ _ _ _ _ _ w (h.hse.live hk hT).one.self
theorem Hou.regionsAt (h:Hou w hb B c a fs m S F clock p L l R cr ls) (hk:l[k]? =some x) (hT:x.T=some T):Calls Tryz.prog 17 #[.pointer (some ⟨x.s,0,none⟩)] w fun e w'=> ∃A' vh,e= .returned (.slice A' x.rl.length vh)/\OwnR w' w.heap.size A' vh x.rl/\Below w.heap.size w w':=by
 have h1:=(h.hse.live hk hT).one;have h2:=(cN (h.hse.live hk hT).rgs.right).2;have h3:=h1.row.len;refine(mG _ _ _ _ _ _ _ x.rl w h1.self h1.row (by omega)).mono ?_;rintro e w' ⟨A',vh,rfl,h4,h5⟩;exact⟨A',vh,by rw[h3],h4,h5⟩
theorem Hou.allAt (h:Hou w hb B c a fs m S F clock p L l R cr ls) (hk:l[k]? =some x) (hT:x.T=some T):Calls Tryz.prog 34 #[.pointer (some ⟨x.t,0,none⟩)] w (pj OwnP w T.puts):=
 lj x.t c a x.root w S p T _ 0 h.hse.home.cache.pool (h.hse.live hk hT).one.tab (h.hse.sp hk hT).good (h.hse.live hk hT).root
theorem Hou.poolAt (h:Hou w hb B c a fs m S F clock p L l R cr ls):Calls Tryz.prog 23 #[.pointer (some ⟨a,0,none⟩)] w fun e w'=>e= .returned (.int .i64 (p.left:Int))/\w=w':=sN a w S p h.hse.home.cache.pool
theorem Hou.cells (h:Hou w hb B c a fs m S F clock p L l R cr (l.map (·.s))):w.cell? ⟨hb,1,none⟩=some (.pointer (some ⟨a,0,none⟩))/\w.cell? ⟨hb,3,none⟩=some (.slice R l.length cr):=by
 have h9:=h.self;rw[List.length_map]at h9;exact⟨aa h9 1,aa h9 3⟩
theorem Hou.at_ (h:Hou w hb B c a fs m S F clock p L l R cr (l.map (·.s))) (hk:l[k]? =some x): ∃g,R=some ⟨g,0,none⟩/\w.cell? ⟨g,k,none⟩=some (.pointer (some ⟨x.s,0,none⟩)):=by
 have Gb:(l.map (·.s))[k]? =some x.s:=(by rw[va,hk];rfl);rcases h.row.form with⟨_,e,_⟩|⟨g,e,_⟩
 ·rw[e]at Gb;cases Gb
 ·subst e;have h8:=h.row.cell iX Gb 0 (by omega);rw[Nat.mul_one,Nat.add_zero]at h8;exact⟨g,rfl,by rw[h8];rfl⟩
theorem SpM.withT_self (h:x.T=some T):x.withT T=x:=by cases x;simp[SpM.withT]at h⊢;exact h.symm
theorem Do11.still {er:Int} (hd:Do11 F p L l o er p' L' l') (h0:er≠0) (h4:er≠4) (hn:numI o.sI l.length=k) (hk:l[k]? =some x) (hT:x.T=some T):p'=p/\L'=L/\l'=l:=by
 cases hd with
 |idle=>exact absurd rfl h0
 |new=>exact absurd rfl h0
 |newNo=>exact absurd rfl h4
 |gone k2 x2 _ _ Df Am Hg=>
  obtain rfl:k2=k:=(by rw[hn]at Df;omega);rw[hk]at Am;injection Am with Am;subst Am;rw[hT]at Hg;cases Hg
 |no=>exact⟨rfl,rfl,rfl⟩
 |map=>exact absurd rfl h0
 |unmap=>exact absurd rfl h0
 |prot=>exact absurd rfl h0
 |load k2 x2 T2 want _ kk d p' L' T' _ Df Am Hg hr=>
  rcases hr with⟨_,_,rfl,rfl,rfl⟩|⟨_,_,_,_,rfl,rfl,rfl⟩|⟨_,_,_,e,_⟩|⟨_,_,_,e,_⟩
  ·exact⟨rfl,rfl,by rw[SpM.withT_self Hg,fp Am]⟩
  ·exact⟨rfl,rfl,by rw[SpM.withT_self Hg,fp Am]⟩
  ·exact absurd e h4
  ·exact absurd e h0
 |store k2 x2 T2 want _ p' L' T' _ Df Am Hg hr=>
  rcases hr with⟨_,_,rfl,rfl,rfl⟩|⟨_,_,_,rfl,rfl,rfl⟩|⟨_,_,e,_⟩|⟨_,_,e,_⟩
  ·exact⟨rfl,rfl,by rw[SpM.withT_self Hg,fp Am]⟩
  ·exact⟨rfl,rfl,by rw[SpM.withT_self Hg,fp Am]⟩
  ·exact absurd e h4
  ·exact absurd e h0
 |forkNo=>exact absurd rfl h4
 |fork=>exact absurd rfl h0
 |free=>exact absurd rfl h0
theorem flat_len {α:Type} {F:Ev->List α} (h: ∀e,(F e).length<=1) (l:List Ev):(l.flatMap F).length<=l.length:=by
 induction l with
 |nil=>exact uK _
 |cons e l ih=>
  rw[vf,uM,uU];have:=h e;omega
theorem Hou.putsFew (h:Hou w hb B c a fs m S F clock p L l R cr ls) (hk:l[k]? =some x) (hT:x.T=some T):T.puts.length<=1000000:=by
 have xy:=(h.hse.sp hk hT).good.ok.short;have f1:=flat_len (F:=Ev.ls) (fun e=>by cases e<;>simp[Ev.ls]) (T.evs 4 0);unfold Tab.puts;omega
theorem sz (A1 A2:Option Addr) (n c1 c2:Nat) (w:World) (l:List Reg) (hl:RSl w w.heap.size A1 n c1 l) (hm:RSl w w.heap.size A2 n c2 l):
  Calls Tryz.prog 19 #[.slice A1 n c1, .slice A2 n c2] w fun e w'=>e= .returned (.bool true)/\Below w.heap.size w w':=by
 have hn:=hl.few;have Je:=ol;go_enter Tryz.func19,Tryz.ntmps19;go_wp2;go_loopw [5] (fun i wr=> ∃j:Nat,j<=n/\i= .int .i64 j/\Below w.heap.size w wr) (fun i _ =>n-(intOf i).toNat)
 case atStart=>exact⟨0,vd _,rfl,vg _ _⟩
 case round=>
  obtain⟨j,hj,rfl,hB⟩:=hrel;have Rl:=hB.size;by_cases vo:j<n
  ·obtain⟨r,hr⟩: ∃r,l[j]? =some r:=⟨_,uN (by have:=hl.len;omega)⟩;obtain⟨b,off,rfl,hb,yV⟩:=hl.at_ j r hr;obtain⟨b',off',rfl,Hf,hsa⟩:=hm.at_ j r hr;obtain⟨h0,h1,h2,h3,h4⟩:=yV.below hB hb;obtain⟨k0,k1,k2,k3,k4⟩:=hsa.below hB Hf;have h0j:(0:Int)<=(j:Int):=(by omega);have h1j:(j:Int)<(n:Int):=(by omega);clear hr yV hsa;have hneq':mQ ⟨r.fr,r.to,r.prot,r.ino,r.off⟩ ⟨r.fr,r.to,r.prot,r.ino,r.off⟩=true:=(by simp[mQ]);go_wp2;go_quiet (fail);go_wp2;go_roundw
   case rel=>exact⟨j+1,by omega,by go_num,by exact uI⟩
   case measure=>simp[intOf];omega
  ·go_wp2;go_ret;exact⟨rfl,by exact uI⟩
theorem rJ.at_ {Q:Option Addr} {ops:List O11} {j:Nat} (h:rJ w Q ops) (hb:Below w.heap.size w w') (hB:w.heap.size<=B) (ho:ops[j]? =some o): ∃b off A cq,Q=some ⟨b,off,none⟩/\
  (w'.cell? ⟨b,off+j*10,none⟩=some (.int .i64 o.kd)/\w'.cell? ⟨b,off+j*10+1,none⟩=some (.int .i64 o.sI)/\w'.cell? ⟨b,off+j*10+2,none⟩=some (.int .u64 o.r.fr)/\w'.cell? ⟨b,off+j*10+3,none⟩=some (.int .u64 o.r.to)/\w'.cell? ⟨b,off+j*10+4,none⟩=some (.int .u8 o.r.prot)/\w'.cell? ⟨b,off+j*10+5,none⟩=some (.int .i64 o.r.ino)/\w'.cell? ⟨b,off+j*10+6,none⟩=some (.int .u64 o.r.off)/\w'.cell? ⟨b,off+j*10+7,none⟩=some (.int .u64 (o.addr:Int))/\w'.cell? ⟨b,off+j*10+8,none⟩=some (.int .i64 o.n)/\w'.cell? ⟨b,off+j*10+9,none⟩=some (.slice A o.q cq))/\mm w' B o A cq:=by
 obtain⟨b,off,A,cq,rfl,AQ,yj,g4,g5,g6,g7,g8,g9⟩:=h j o ho;have k: ∀i v,(opV o A cq)[i]? =some v->w'.cell? ⟨b,off+j*10+i,none⟩=some v:=fun i v e=>(hb.cell (p:=⟨b,off+j*10+i,none⟩) AQ).trans (yj i v e);exact⟨b,off,A,cq,rfl,⟨k 0 _ rfl,k 1 _ rfl,k 2 _ rfl,k 3 _ rfl,k 4 _ rfl,k 5 _ rfl,k 6 _ rfl,k 7 _ rfl,k 8 _ rfl,k 9 _ rfl⟩,mm.of hB hb g4 g5 g6 g7 g8 g9⟩
end
section
open Go.RowKit Go.Sort
variable {w w':World} {P:Option Addr} {n cap:Nat}
theorem iO.below (h:iO w P n cap) (hb:Below w.heap.size w w'):iO w' P n cap:=
 ⟨h.1,h.2.1,fun h3=>by obtain⟨l,h4,h5⟩:=h.2.2 h3;exact⟨l,h4,h5.below hb⟩⟩
theorem kz.below (h:kz w P n cap) (hb:Below w.heap.size w w'):kz w' P n cap:=
 ⟨h.1,fun h3=>by obtain⟨l,h4,h5⟩:=h.2 h3;exact⟨l,h4,h5.below hb⟩⟩
theorem In11.below {l:List Ent} (h:In11 w P n cap l) (hb:Below w.heap.size w w'):In11 w' P n cap l:=⟨h.ents.below hb,h.len,h.few,h.cap,h.small⟩
def ux (w:World) (e:Ending) (w':World):Prop:=e= .returned (.bool true)/\Below w.heap.size w w'
theorem Hou.start {hb B c a fs m:Nat} {S:Nat->Prop} {F:List Nd} {clock:Int} {p:Pool} (h:Hse w B c a fs m S F clock p [] []) (hs:gT w hb fs a c none 0 0) (hB:B<=hb) (h1: ¬S hb) (h2:hb≠m) (h3:hb≠c):Hou w hb B c a fs m S F clock p [] [] none 0 (([]:List SpM).map (·.s)):=
 ⟨h,hs,OwnG.nil _ _,hB,fun e=>e.elim h1 (fun e=>e.elim h2 h3),fun k x hk=>(by rw[List.getElem?_nil]at hk;cases hk),(fun g e=>by cases e),fun k x hk=>(by rw[List.getElem?_nil]at hk;cases hk)⟩
end
section
open Go.RowKit Go.Sort
theorem lu (P Q A:Option Addr) (n cap k yw cq:Nat) (N kd sI nn:Int) (r:Reg) (addr q:Nat) (d:Nat->Nat) (w:World) (hF:iO w P n cap) (hO:kz w Q k yw) (vZ: ∀W,Below w.heap.size w W-> ∀B,w.heap.size<=B->mm W B ⟨kd,sI,r,addr,nn,q,d⟩ A cq) (zE:DB w) (vl:0<w.heap.size):
  Calls Tryz.prog 7 #[.agg #[.slice P n cap, .int .i64 N], .slice Q k yw, .agg #[.int .i64 kd, .int .i64 sI, .int .u64 r.fr, .int .u64 r.to, .int .u8 r.prot, .int .i64 r.ino, .int .u64 r.off, .int .u64 (addr:Int), .int .i64 nn, .slice A q cq]] w (ux w):=by
 obtain⟨w0,Cj⟩: ∃w0,w0=(w.alloc (.cells #[.slice P n cap, .int .i64 N] 24)).alloc (.cells #[.int .i64 kd, .int .i64 sI, .int .u64 r.fr, .int .u64 r.to, .int .u8 r.prot, .int .i64 r.ino, .int .u64 r.off, .int .u64 (addr:Int), .int .i64 nn, .slice A q cq] 47):=⟨_,rfl⟩;have vm:Below w.heap.size w w0:=(by rw[Cj];exact uJ.alloc (by simp) _);have hE:w0.heap[w.heap.size]? =some (.cells #[.slice P n cap, .int .i64 N] 24 (0,0)):=(by rw[Cj];exact(uL _ _ _ (by simp)).trans (ab w _));have hG:w0.heap[w.heap.size+1]? =some (.cells #[.int .i64 kd, .int .i64 sI, .int .u64 r.fr, .int .u64 r.to, .int .u8 r.prot, .int .i64 r.ino, .int .u64 r.off, .int .u64 (addr:Int), .int .i64 nn, .slice A q cq] 47 (0,0)):=by
  rw[Cj];have h9:=ab (w.alloc (.cells #[.slice P n cap, .int .i64 N] 24)) (.cells #[.int .i64 kd, .int .i64 sI, .int .u64 r.fr, .int .u64 r.to, .int .u8 r.prot, .int .i64 r.ino, .int .u64 r.off, .int .u64 (addr:Int), .int .i64 nn, .slice A q cq] 47);simpa using h9
 have vQ:=vm.size;have l0:w.heap.size<w0.heap.size:=(uG hE).1;have l00:w.heap.size+1<w0.heap.size:=(uG hG).1;have x0:w0.cell? ⟨w.heap.size,0,none⟩=some (.slice P n cap):=aa hE 0;have x1:w0.cell? ⟨w.heap.size,1,none⟩=some (.int .i64 N):=aa hE 1;have HV:=uH (rQ P n cap k yw Q N w0 (hF.below vm) (hO.below vm));have PX:=uH (fun W (hW:Below w.heap.size w W)=>nP W (zE.same (hW.block 0 vl)) (uO vl hW.size));have HE:=uH hE;have HG:=uH hG;have PY:=uH Cj;have DR:=uH zE;have wj:=uH vm;have HO:=uH hO;have HIO:=uH vZ;clear hE hG Cj zE vm hF hO vZ;go_enter Tryz.func7,Tryz.ntmps7;go_upto_region 1 with(fail);rw[<-PY.out];go_upto_region 3 with(first
  |(go_at_call 9;refine(HV.out).mono ?_;rintro e w1 ⟨bv,rfl,Wo,vk⟩;have vq:=uH (wj.out.trans (vk.mono vQ));have xf:=uH ((vk.block _ l0).trans HE.out);have NT:=uH ((vk.block _ l00).trans HG.out);have HB01:=uH vk;have z0:w1.cell? ⟨w.heap.size+1,0,none⟩=some (.int .i64 kd):=aa NT.out 0;have z9:w1.cell? ⟨w.heap.size+1,9,none⟩=some (.slice A q cq):=aa NT.out 9;clear vk)
  |(go_at_call 10;refine(PX.out _ vq.out).mono ?_;rintro e w2 ⟨rfl,vs⟩)
  |fail)
 all_goals try(go_ret;exact⟨rfl,vq.out.trans (vs.mono vq.out.size)⟩)
 have TJ:bv=false:=Bool.eq_false_iff.2 (by assumption);obtain⟨hk80,hN,l,vZ⟩:=Wo TJ;have vI:=vq.out.size;have l1:w.heap.size<w1.heap.size:=(uG xf.out).1;have l11:w.heap.size+1<w1.heap.size:=(uG NT.out).1;have y0:w1.cell? ⟨w.heap.size,0,none⟩=some (.slice P n cap):=aa xf.out 0;have y1:w1.cell? ⟨w.heap.size,1,none⟩=some (.int .i64 N):=aa xf.out 1;obtain⟨ops,OG,GR⟩:=HO.out.2 (by omega);have Qj:=uH GR;have Zz:=uH OG;have ZP:=uH vZ;clear Wo TJ vZ GR OG x0 x1 z0 z9;have xp:=uH (ZP.out.below HB01.out);have LA:DB w1:=DR.out.same (vq.out.block 0 vl);have h01:0<w1.heap.size:=(by omega);by_cases yu:(newM [aB] 0 l).1≠0\/N<1
 ·have HBG:=uH (tW P n cap N l w1 xp.out hN yu LA h01);clear yu LA;go_wp2_with (first
   |(go_at_call 11;refine(HBG.out).mono ?_;rintro e w2 ⟨rfl,vs⟩;have xd:=uH (vq.out.trans (vs.mono vI));clear vs)
   |(go_at_call 10;refine(PX.out _ xd.out).mono ?_;rintro e w3 ⟨rfl,vG⟩)
   |fail)
  go_ret;exact⟨rfl,xd.out.trans (vG.mono xd.out.size)⟩
 obtain⟨nf,rfl⟩: ∃nf:Nat,N=(nf:Int):=⟨N.toNat,by omega⟩;have HBG:=uH (rE P n cap nf l w1 xp.out (by omega) (by omega) (uV fun h=>yu (.inl h)) LA h01);clear yu LA;go_upto_region 4 with(first
  |(go_at_call 11;refine(HBG.out).mono ?_;rintro e w2 ⟨B,hb,a,c,fs,m,S,rfl,xm,hse,vs,hB,hBo,hoS,hom,hoc⟩;have xd:=uH (vq.out.trans (vs.mono vI));have KB:=uH ((vs.block _ l11).trans NT.out);clear vs)
  |fail)
 have OY:Hou w2 hb B c a fs m S (dr l) 0 (fresh nf) [] [] none 0 (([]:List SpM).map (·.s)):=Hou.start hse xm hBo hoS hom hoc;have VQ:Hid (At11 w2 hb B c a fs m (dr l) nf 0 w2):=uH ⟨S,0,fresh nf,[],[],none,0,OY,by simp,Int.le_refl _,Int.le_refl _,rfl,vg _ _⟩;have Bg:w.heap.size<=B:=(by omega);have hEB:w.heap.size+1<B:=(by omega);have hBw2:=OY.hse.home.base;clear xm hse OY hoS hom hoc y0 y1;go_wp2_with fail;go_loopw [9] (fun i wr=> ∃j:Nat,i= .int .i64 (j:Int)/\j<=k/\At11 w2 hb B c a fs m (dr l) nf j wr) (fun i _ =>k-(intOf i).toNat)
 case atStart=>exact⟨0,rfl,vd _,VQ.out⟩
 case round=>
  obtain⟨j,rfl,hj,wC⟩:=hrel;have DT:=uH wC
  clear VQ;by_cases yY:j<k
  ·obtain⟨o,ho⟩: ∃o,ops[j]? =some o:=⟨_,uN (by rw[Zz.out];exact yY)⟩;have KQ:Below w.heap.size w wr:=xd.out.trans ((by obtain⟨_,_,_,_,_,_,_,_,_,_,_,_,BG⟩:=wC;exact BG:Below B w2 wr).mono Bg);obtain⟨b,off,Ao,co,rfl,⟨e0,e1,e2,e3,e4,e5,e6,e7,e8,e9⟩,Te⟩:=Qj.out.at_ KQ Bg ho;obtain⟨kd2,sI2,r2,Nw,n2,q2,d2⟩:=o;have hdo:=wC.does (by omega) Te;have ZV:=uH hdo;have xR:(j:Int)<(k:Int):=(by omega);clear hdo Te KQ wC ho;go_wp2_with (first
    |(go_at_call 15;refine(ZV.out).mono ?_;rintro e w3 ⟨Rb,kk,cp,er,rfl,Ms⟩)
    |fail)
   go_roundw
   case rel=>exact⟨j+1,by go_num,by omega,Ms.out⟩
   case measure=>(simp[intOf];omega)
  ·obtain rfl:j=k:=(by omega);obtain⟨S1,UC,p1,L1,l1,R1,cr1,OZ,xX,Nk,xw,hpn,BG⟩:=wC
   have hzr:=BG.size;have e1:wr.cell? ⟨w.heap.size+1,1,none⟩=some (.int .i64 sI):=aa ((BG.block _ hEB).trans KB.out) 1;have o3:=OZ.cells.2;have Jc:=fun dd os=>Calls.regrown_of ((kK sI l1.length (by omega) (grow (redrawn wr dd) os)).mono fun e w' ⟨h1,h2⟩=>⟨h1,h2▸vg (grow (redrawn wr dd) os).heap.size (grow (redrawn wr dd) os)⟩);have f1: ∀dd os,(grow (redrawn wr dd) os).cell? ⟨w.heap.size+1,1,none⟩=some (.int .i64 sI):=fun dd os=>cell_regrown e1 dd os;have f3: ∀dd os,(grow (redrawn wr dd) os).cell? ⟨hb,3,none⟩=some (.slice R1 l1.length cr1):=fun dd os=>cell_regrown o3 dd os;have Qm:=uH Jc;have GI:=uH OZ;have WG:=uH (xd.out.trans (BG.mono Bg));have NS:=uH ((BG.block _ hEB).trans KB.out);clear OZ BG DT Jc e1 o3;go_upto_region 10 with(fail);refine wp_region_quiet_below (by kernel_rfl) (by kernel_rfl) ?_;(repeat(go_big_quiet_step ((exact Qm.out _ _))));refine wpQuiet_nil ?_;intro _ xt;obtain⟨⟨dq,osq⟩,hw''⟩:=xt;subst hw'';have we:=below_regrown (wr) dq osq;generalize grow (redrawn (wr) dq) osq=wq at we⊢;clear f1 f3;have Af:=uH (GI.out.below we);have zZ:=uH (WG.out.trans (we.mono WG.out.size));have HGQ:=uH ((we.block _ (uG NS.out).1).trans NS.out);clear we;by_cases Cc:l1.length=0
   ·have hn:numI sI l1.length= -1:=(by unfold numI;rw[if_pos Cc]);rw[hn];clear hn Cc;go_wp2_with (first
     |(go_at_call 10;refine(PX.out _ zZ.out).mono ?_;rintro e w3 ⟨rfl,vG⟩)
     |fail)
    go_ret;exact⟨rfl,zZ.out.trans (vG.mono zZ.out.size)⟩
   obtain⟨u,RH,DF⟩:=sX sI (n:=l1.length) (by omega);obtain⟨x,hx⟩: ∃x,l1[u]? =some x:=⟨_,uN RH⟩;rw[DF];have VX: ¬((u:Int)<0):=(by omega);have Ni:decide ((u:Int)<0)=false:=uX VX;have xk:(u:Int)<(l1.length:Int):=(by omega);obtain⟨o1,o3⟩:=Af.out.cells;obtain⟨gR,rfl,JI⟩:=Af.out.at_ hx;have Kl:=uH DF;have HX:=uH hx;have xV:=uH (Af.out.tableAt hx);clear DF hx;cases hT:x.T with
   |none=>
    rw[hT]at xV;have LX:Hid (Calls Tryz.prog 33 #[.pointer (some ⟨x.s,0,none⟩)] wq fun e w'=>e= .returned (.pointer none)/\wq=w'):=xV;clear hT xV;go_wp2_with (first
     |(go_at_call 33;refine(LX.out).mono ?_;rintro e w3 ⟨rfl,rfl⟩)
     |(go_at_call 10;refine(PX.out _ zZ.out).mono ?_;rintro e w3 ⟨rfl,vG⟩)
     |fail)
    go_ret;exact⟨rfl,zZ.out.trans (vG.mono zZ.out.size)⟩
   |some T=>
    rw[hT]at xV;have LX:Hid (Calls Tryz.prog 33 #[.pointer (some ⟨x.s,0,none⟩)] wq fun e w'=>e= .returned (.pointer (some ⟨x.t,0,none⟩))/\wq=w'):=xV;have Ny:=uH hT;have Qg:=uH (Af.out.regionsAt HX.out hT);clear hT xV;go_upto_region 13 with(first
     |(go_at_call 33;refine(LX.out).mono ?_;rintro e w3 ⟨rfl,rfl⟩)
     |fail)
    go_upto_region 14 with(first
     |(go_at_call 17;refine(Qg.out).mono ?_;rintro e w3 ⟨A3,c3,rfl,AZ,vG⟩)
     |fail)
    clear o1 o3 JI LX Ni VX;have GH:=uH (Af.out.below vG);have Kn:Hid (Calls Tryz.prog 33 #[.pointer (some ⟨x.s,0,none⟩)] w3 fun e w'=>e= .returned (.pointer (some ⟨x.t,0,none⟩))/\w3=w'):=uH (by have h9:=GH.out.tableAt HX.out;rw[Ny.out]at h9;exact h9);have Ms:=uH (GH.out.allAt HX.out Ny.out);have o3:=GH.out.cells.2;obtain⟨gR',e9,JI⟩:=GH.out.at_ HX.out;injection e9 with e9;injection e9 with e9;subst e9;have FM:=uH AZ;have yh:=uH vG;clear AZ vG;go_upto_region 15 with(first
     |(go_at_call 33;refine(Kn.out).mono ?_;rintro e w4 ⟨rfl,rfl⟩)
     |(go_at_call 34;refine(Ms.out).mono ?_;rintro e w4 ⟨A4,c4,rfl,yW,vD⟩)
     |fail)
    clear o3 JI;have Kz:=uH (GH.out.below vD);have o1:=Kz.out.cells.1;have BW:=uH Kz.out.poolAt;have xv:=uH yW;have wu:=uH vD;clear yW vD;go_upto_region 16 with(first
     |(go_at_call 23;refine(BW.out).mono ?_;rintro e w9 ⟨rfl,rfl⟩)
     |fail)
    have Hx:=zZ.out.size;have xq:=yh.out.size;have AN:=wu.out.size;have hGq:=(uG HGQ.out).1;have LG:Below wq.heap.size wq w4:=yh.out.trans (wu.out.mono xq);have Kd:=(LG.block _ hGq).trans HGQ.out;have e0:w4.cell? ⟨w.heap.size+1,0,none⟩=some (.int .i64 kd):=aa Kd 0;have e1:w4.cell? ⟨w.heap.size+1,1,none⟩=some (.int .i64 sI):=aa Kd 1;have e2:w4.cell? ⟨w.heap.size+1,2,none⟩=some (.int .u64 r.fr):=aa Kd 2;have e3:w4.cell? ⟨w.heap.size+1,3,none⟩=some (.int .u64 r.to):=aa Kd 3;have e4:w4.cell? ⟨w.heap.size+1,4,none⟩=some (.int .u8 r.prot):=aa Kd 4;have e5:w4.cell? ⟨w.heap.size+1,5,none⟩=some (.int .i64 r.ino):=aa Kd 5;have e6:w4.cell? ⟨w.heap.size+1,6,none⟩=some (.int .u64 r.off):=aa Kd 6;have e7:w4.cell? ⟨w.heap.size+1,7,none⟩=some (.int .u64 (addr:Int)):=aa Kd 7;have e8:w4.cell? ⟨w.heap.size+1,8,none⟩=some (.int .i64 nn):=aa Kd 8;have e9:w4.cell? ⟨w.heap.size+1,9,none⟩=some (.slice A q cq):=aa Kd 9;have Ux:Below w.heap.size w w4:=zZ.out.trans (LG.mono Hx);have ZV:=uH (kT hb B c a fs m S1 (dr l) UC p1 L1 l1 _ A cr1 cq kd sI r addr q nn d w4 Kz.out xX ⟨Nk,by omega⟩ (HIO.out w4 Ux B Bg));have aa3:=uH LG;clear o1 Kd LG Ux;go_upto_region 17 with(first
     |(go_at_call 15;refine(ZV.out).mono ?_;rintro e w5 ⟨Rb,kk,cp,er,clk5,S5,p5,L5,l5,R5,cr5,rfl,g1,g2,g3,g4,g5,g6,g7⟩)
     |fail)
    have It:=g5.size;have hlF:=fun b e=>Af.out.ltF b e;have JO:Below w.heap.size w4 w5:=g5.below (fun b e=>ve Bg (Kz.out.lowF b e)) (by omega);have Im:Below w.heap.size w w5:=(zZ.out.trans (aa3.out.mono Hx)).trans JO;obtain⟨w6,GM⟩: ∃w6,w6=w5.alloc (.cells #[.slice Rb kk cp, .int .i64 er] 41):=⟨_,rfl⟩;rw[<-GM];have Fz:Below w5.heap.size w5 w6:=(by rw[GM];exact uJ);have ht6:w6.heap[w5.heap.size]? =some (.cells #[.slice Rb kk cp, .int .i64 er] 41 (0,0)):=(by rw[GM];exact ab w5 _);have t1:w6.cell? ⟨w5.heap.size,1,none⟩=some (.int .i64 er):=aa ht6 1;have Ga:=uH (Im.trans (Fz.mono (by omega)));have HW6:=uH GM;have DD:=uH Fz;have BV:=uH g5;have Fa:=uH (g1.below Fz);have NY:=uH g7;have FQ:=uH hlF;clear ht6 GM Fz Im JO g1 g5 g6 g7 hlF e0 e1 e2 e3 e4 e5 e6 e7 e8 e9;by_cases h0:er=0
    ·subst h0;go_wp2_with (first
      |(go_at_call 10;refine(PX.out _ Ga.out).mono ?_;rintro e w7 ⟨rfl,AR⟩)
      |fail)
     go_ret;exact⟨rfl,Ga.out.trans (AR.mono Ga.out.size)⟩
    have q0:(er==0)=false:=(by rw[uW];exact h0);by_cases h4:er=4
    ·subst h4;go_wp2_with (first
      |(go_at_call 10;refine(PX.out _ Ga.out).mono ?_;rintro e w7 ⟨rfl,AR⟩)
      |fail)
     go_ret;exact⟨rfl,Ga.out.trans (AR.mono Ga.out.size)⟩
    have q4:(er==4)=false:=(by rw[uW];exact h4);obtain⟨rfl,rfl,rfl⟩:=NY.out.still h0 h4 Kl.out HX.out Ny.out;clear h0 h4 NY;have o3:=Fa.out.cells.2;obtain⟨g6,rfl,JI⟩:=Fa.out.at_ HX.out;have Zl:Hid (Calls Tryz.prog 33 #[.pointer (some ⟨x.s,0,none⟩)] w6 fun e w'=>e= .returned (.pointer (some ⟨x.t,0,none⟩))/\w6=w'):=uH (by have h9:=Fa.out.tableAt HX.out;rw[Ny.out]at h9;exact h9);have HA6:=uH (Fa.out.allAt HX.out Ny.out);go_upto_region 20 with(first
     |(go_at_call 33;refine(Zl.out).mono ?_;rintro e w7 ⟨rfl,rfl⟩)
     |(go_at_call 34;refine(HA6.out).mono ?_;rintro e w7 ⟨A7,c7,rfl,MJ,AR⟩)
     |fail)
    clear o3 JI t1 q0 q4;have hz56:=DD.out.size;have Od:=AR.size;have AE: ∀b,wq.heap.size<=b->b<w4.heap.size->w7.heap[b]? =w4.heap[b]? :=fun b h1 h2=>(AR.block b (by omega)).trans ((DD.out.block b (by omega)).trans (BV.out.block b h2 (fun e=>by have:=FQ.out b e;omega)));have PH:OwnP w7 w3.heap.size A4 c4 T.puts:=xv.out.same fun g hg=>by
     rcases xv.out.form with⟨e,_⟩|⟨g',e,h1,h2,_⟩
     ·rw[e]at hg;cases hg
     ·rw[e]at hg;injection hg with hg;injection hg with hg;subst hg;exact AE _ (by omega) h2
    have BZ:x.rl.length<=1000000:=(by have:=(cN (Fa.out.hse.live HX.out Ny.out).rgs.right).2;omega);have Hi:RSl w7 w7.heap.size A3 x.rl.length c3 x.rl:=((((FM.out.rsl BZ).mod (X:=fun _ =>False) (Mod.of wu.out) (fun _ _ e=>e.elim)).mod BV.out (fun ad e1 e2=>by
     have h8:=FM.out.row ad.block (by rw[e1];rfl);have h9:=FQ.out _ e2;omega)).mod (X:=fun _ =>False) (Mod.of DD.out) (fun _ _ e=>e.elim)).mod (X:=fun _ =>False) (Mod.of AR) (fun _ _ e=>e.elim)
    have KZ:=uH (Fa.out.below AR);have Qf:=uH Hi;have EW:=uH PH;have Kt:=uH MJ;have FZ:=uH (Ga.out.trans (AR.mono Ga.out.size));have UU:=uH (KZ.out.regionsAt HX.out Ny.out);clear AE PH Hi MJ AR;have o3:=KZ.out.cells.2;obtain⟨g7,e7,JI⟩:=KZ.out.at_ HX.out;injection e7 with e7;injection e7 with e7;subst e7;go_upto_region 22 with(first
     |(go_at_call 17;refine(UU.out).mono ?_;rintro e w8 ⟨A8,c8,rfl,Ei,QW⟩;have HRS:=uH (sz A8 A3 x.rl.length c8 c3 w8 x.rl (Ei.rsl BZ) (Qf.out.mod (X:=fun _ =>False) (Mod.of QW) (fun _ _ e=>e.elim)));have HB8:=uH QW;clear Ei QW)
     |(go_at_call 19;refine(HRS.out).mono ?_;rintro e w9 ⟨rfl,BG⟩;have Hv:=uH (HB8.out.trans (BG.mono HB8.out.size));have ZR:=uH (KZ.out.below Hv.out).poolAt;have o1:=(KZ.out.below Hv.out).cells.1;clear BG)
     |(go_at_call 23;refine(ZR.out).mono ?_;rintro e w10 ⟨rfl,rfl⟩)
     |fail)
    clear o1 o3 JI;have HP9:=uH (EW.out.kept Hv.out);have NJ:=uH (Kt.out.kept Hv.out);have VI:=uH (FZ.out.trans (Hv.out.mono FZ.out.size));have OE:=KZ.out.putsFew HX.out Ny.out;have VV:=Hv.out.size;have AJ:=NJ.out.form;have Gr:=HP9.out.form;go_wp2_with fail;go_loopw [17] (fun i wx=> ∃j:Nat,i= .int .i64 (j:Int)/\j<=T.puts.length/\Below w9.heap.size w9 wx) (fun i _ =>T.puts.length-(intOf i).toNat)
    case atStart=>exact⟨0,rfl,vd _,vg _ _⟩
    case round=>
     obtain⟨j,rfl,hj,hb⟩:=hrel;have HB:=uH hb;clear hb;by_cases vo:j<T.puts.length
     ·obtain⟨y,hy⟩: ∃y,T.puts[j]? =some y:=⟨T.puts[j],uN vo⟩;rcases AJ with⟨_,e,_⟩|⟨u1,e1,_,xH,xw⟩
      ·rw[e]at vo;cases vo
      rcases Gr with⟨_,e,_⟩|⟨u2,e2,_,xu,zl⟩
      ·rw[e]at vo;cases vo
      subst e1 e2;obtain⟨a0,a1,a2,a3⟩:=(NJ.out.kept HB.out).elem hy;obtain⟨b0,b1,b2,b3⟩:=(HP9.out.kept HB.out).elem hy;obtain⟨x1,yp⟩: ∃v,v=((y.1*4096:Nat):Int):=⟨_,rfl⟩;rw[<-yp]at a0 b0;have d0: ∀d os,(grow (redrawn wr d) os).cell? ⟨u1,j*4,none⟩=some (.int .u64 x1):=fun d os=>cell_regrown a0 d os;have d1: ∀d os,(grow (redrawn wr d) os).cell? ⟨u1,j*4+1,none⟩=some (.int .i64 (y.2.frame:Int)):=fun d os=>cell_regrown a1 d os;have d2: ∀d os,(grow (redrawn wr d) os).cell? ⟨u1,j*4+2,none⟩=some (.int .u8 (y.2.prot:Int)):=fun d os=>cell_regrown a2 d os;have d3: ∀d os,(grow (redrawn wr d) os).cell? ⟨u1,j*4+3,none⟩=some (.bool y.2.copy):=fun d os=>cell_regrown a3 d os;have f0: ∀d os,(grow (redrawn wr d) os).cell? ⟨u2,j*4,none⟩=some (.int .u64 x1):=fun d os=>cell_regrown b0 d os;have f1: ∀d os,(grow (redrawn wr d) os).cell? ⟨u2,j*4+1,none⟩=some (.int .i64 (y.2.frame:Int)):=fun d os=>cell_regrown b1 d os;have f2: ∀d os,(grow (redrawn wr d) os).cell? ⟨u2,j*4+2,none⟩=some (.int .u8 (y.2.prot:Int)):=fun d os=>cell_regrown b2 d os;have f3: ∀d os,(grow (redrawn wr d) os).cell? ⟨u2,j*4+3,none⟩=some (.bool y.2.copy):=fun d os=>cell_regrown b3 d os;have xR:(j:Int)<(T.puts.length:Int):=(by omega);clear hy yp a0 a1 a2 a3 b0 b1 b2 b3;go_upto_region 25 with(fail);refine wp_region_quiet_below (by kernel_rfl) (by kernel_rfl) ?_;(repeat(go_big_quiet_step ((fail))));refine wpQuiet_nil ?_;intro _ xt;obtain⟨⟨dq,osq⟩,hw''⟩:=xt;subst hw'';have Yp:=below_regrown (wr) dq osq;generalize grow (redrawn (wr) dq) osq=wn at Yp⊢;go_wp2_with fail;go_roundw
      case rel=>exact⟨j+1,by go_num,by omega,HB.out.trans (Yp.mono HB.out.size)⟩
      case measure=>(simp[intOf];omega)
     ·obtain rfl:j=T.puts.length:=(by omega);have YT:Below w.heap.size w wr:=VI.out.trans (HB.out.mono VI.out.size);go_wp2_with (first
       |(go_at_call 10;refine(PX.out _ YT).mono ?_;rintro e w11 ⟨rfl,Yy⟩)
       |fail)
      go_ret;exact⟨rfl,YT.trans (Yy.mono YT.size)⟩
end
section
open Go.ChangeShapes Go.WideShapes Go.ChangeAt Go.RowKit Go.Joins
def OpIs (w:World) (o:O11) (A:Option Addr) (cq:Nat):Prop:=o.r.Ok/\o.addr<18446744073709551616/\o.q<=140737488355328/\o.q<=cq/\au w A o.q o.d/\ ∀j,o.d j<256
section
variable {H:Type} {enc:TypeId×Value->H} {w:World} {base:Nat} {spare:Nat->Bool} {held:Bool}
theorem qP {b0:Nat} {v:Value} {d:DataW H} {p:List MemPlace} (hv:Value.okWide Tryz.prog w .any b0 47 v) (h:DataW.Trod enc Tryz.prog w base spare held 47 v d p) (hR: ∀x∈d.weights Tryz.prog 47,x<=reachBytes):
  ∃(kd sI:Int) (r:Reg) (addr:Nat) (n:Int) (q:Nat) (dd:Nat->Nat) (A:Option Addr) (cq:Nat),OpIs w ⟨kd,sI,r,addr,n,q,dd⟩ A cq/\v= .agg #[.int .i64 kd, .int .i64 sI, .int .u64 r.fr, .int .u64 r.to, .int .u8 r.prot, .int .i64 r.ino, .int .u64 r.off, .int .u64 (addr:Int), .int .i64 n, .slice A q cq]:=by
 obtain⟨cs,rfl,IF⟩:=okWide_struct Tryz.underlying47 hv;obtain⟨fuel,hf⟩:=h;obtain⟨⟨kd,sI,r,addr,n,q,dd⟩,A,cq,e,h1,h2,h3,h4,h5,h6⟩:=iF hf;refine⟨kd,sI,r,addr,n,q,dd,A,cq,⟨h1,h2,?_,h3,h4,h5⟩,?_⟩
 ·rcases h6 with h6|⟨s,h6⟩
  ·have h7:q=0:=h6;show q<=_;omega
  ·have h7:=hR _ h6;rw[pu,Nat.mul_one]at h7;have h8:reachBytes<=140737488355328:=(by decide);exact ve (Nat.le_add_right _ _) (ve h7 h8)
 ·have e2:cs.toList=(opV ⟨kd,sI,r,addr,n,q,dd⟩ A cq).toList:=(by simpa [Value.cells]using e);rw[Array.toList_inj.1 e2];rfl
end
theorem OpIs.into {w:World} {o:O11} {A:Option Addr} {cq:Nat} (h:OpIs w o A cq): ∀W,Below w.heap.size w W-> ∀B,w.heap.size<=B->mm W B o A cq:=fun W hW B hB=>
 mm.of hB hW h.1 h.2.1 h.2.2.1 h.2.2.2.1 h.2.2.2.2.1 h.2.2.2.2.2
end
