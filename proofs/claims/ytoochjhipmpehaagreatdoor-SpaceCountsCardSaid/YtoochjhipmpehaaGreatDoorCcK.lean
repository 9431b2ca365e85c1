/- The spaces' laws: each frame is counted just by what points to it. SpaceCounts, its walk. -/
import Derived.Test.YtoochjhipmpehaaGreatDoorFrK
import Derived.Test.YtoochjhipmpehaaGreatDoorScK
set_option linter.unusedVariables false
set_option linter.unusedSimpArgs false
set_option maxRecDepth 100000
set_option maxHeartbeats 8000000
namespace Go.Proofs.YtoochjhipmpehaaGreatDoor
section
open Go.RowKit Go.Sort
variable {w w':World} {hb B c a fs m:Nat} {S S':Nat->Prop} {F:List Nd} {clock vQ:Int} {p p':Pool} {L L':List Slot} {l l':List SpM} {R R':Option Addr} {cr:Nat} {ls:List Nat} {k:Nat} {x:SpM} {T:Tab}
theorem gY.keysSmall (h:gY F p L) (hF:F.length<=1000):kG L:=fun s hs=>by
 obtain⟨_,h1,h2,h3⟩:=h s hs;have h4:0<=s.ino/\s.ino<F.length:=by
  unfold dm im at h1;by_cases e:s.ino<0\/(F.length:Int)<=s.ino
  ·rw[if_pos e]at h1;cases h1
  ·omega
 exact⟨by unfold small;omega,by unfold small;omega⟩
theorem qL (s:Slot) (L:List Slot) (x:Nat):aq (s::L) x=aq L x+if s.frame=x then 1 else 0:=by
 unfold aq;rw[List.countP_cons];simp
def mI (f:Nat->Nat):Nat->Nat
 |0=>0
 |n+1=>mI f n+f n
theorem sH (j n:Nat) (f g:Nat->Nat) (h: ∀x,f x=g x+if j=x then 1 else 0):mI f n=mI g n+if j<n then 1 else 0:=by
 induction n with
 |zero=>rfl
 |succ n ih=>
  show mI f n+f n=mI g n+g n+_;rw[ih,h n];by_cases e:j=n
  ·subst e;rw[if_neg (Nat.lt_irrefl _),if_pos rfl,if_pos (Nat.lt_succ_self _)];omega
  ·rw[if_neg e];by_cases e2:j<n
   ·rw[if_pos e2,if_pos (by omega)];omega
   ·rw[if_neg e2,if_neg (by omega)];omega
theorem mO (n:Nat): ∀L:List Slot,(∀s∈L,s.frame<n)->L.length=mI (aq L) n
 | [],_ =>by
  have: ∀k,mI (aq []) k=0:=fun k=>by induction k with|zero=>rfl|succ k ih=>exact(congrArg (· +_) ih)
  rw[this];rfl
 |s::L,h=>by
  rw[sH s.frame n (aq (s::L)) (aq L) (qL s L),if_pos (h s vK),vC,mO n L fun t ht=>h t (vJ _ ht)]
theorem pG {f:Nat->Nat} (h: ∀x,f x<=1): ∀n,mI f n<=n
 |0=>vs _
 |n+1=>Nat.add_le_add (pG h n) (h n)
variable {Ts:List (Option Tab)}
theorem Hs.slotsFew (h:Hs F p L Ts):L.length<=1024:=by
 rw[mO p.n L h.slow];exact vM (pG h.once _) h.few
def vf (w:World) (g n:Nat) (c:Nat->Nat):Prop:=w.heap[g]? =some (.cells (rowV n fun i=> .int .i64 (c i:Int)) 3 (0,0))
theorem tX:(Tryz.prog.info? 3).map (fun i=>(i.zero,i.size,i.bytes))=some (some (.int .i64 0),1,8):=by kernel_rfl
theorem rr (n:Nat) (hn:n<=1000000) (W:World):(Instr.makeSlice 131 (.int .i64 (n:Int)) (.int .i64 (n:Int))).run Tryz.prog W= .ok (.slice (some ⟨W.heap.size,0,none⟩) n n) (W.alloc (.cells (rowV n fun _ => .int .i64 0) 3)):=by
 obtain⟨i0,yj,wM,wF,wL⟩:=info_parts tX;have h:=run_make (P:=Tryz.prog) W 131 3 i0 (.int .i64 0) Tryz.underlying131 yj wM .i64 .i64 (n:Int) (n:Int) (by omega) (by omega) (by rw[wL];omega) (by omega);rw[h,wF];simp[Value.cells,jR]
structure eO (w:World) (E n:Nat) (c:Nat->Nat):Prop where
 row:vf w E n c
 sl:w.heap[E+1]? =some (.cells #[.slice (some ⟨E,0,none⟩) n n] 131 (0,0))
 ok:w.heap[E+2]? =some (.cells #[.bool true] 4 (0,0))
variable {E n:Nat} {d:Nat->Nat}
theorem eO.congr {c:Nat->Nat} (h:eO w E n c) (e: ∀i,i<n->c i=d i):eO w E n d:=by
 refine⟨?_,h.sl,h.ok⟩;have h1:=h.row;unfold vf at h1⊢;rw[bm (h:=fun i=> .int .i64 (d i:Int)) (fun i hi=>by rw[e i hi])]at h1;exact h1
theorem eO.same {c:Nat->Nat} {X:Nat->Prop} (h:eO w E n c) (hm:Mod X w w') (hX: ∀b,X b->b<E\/E+2<b):eO w' E n c:=by
 have l0:=(vo h.row).1;have l1:=(vo h.sl).1;have l2:=(vo h.ok).1;exact⟨(hm.block _ l0 fun e=>by have:=hX _ e;omega).trans h.row,(hm.block _ l1 fun e=>by have:=hX _ e;omega).trans h.sl,(hm.block _ l2 fun e=>by have:=hX _ e;omega).trans h.ok⟩
theorem iA (E n f:Nat) (c:Nat->Nat) (w:World) (h:eO w E n c) (hf:f<n) (hc:c f<=1000000000):
  Calls Tryz.prog 78 #[.int .i64 (f:Int), .pointer (some ⟨E+1,0,none⟩), .pointer (some ⟨E+2,0,none⟩)] w fun e w'=>e= .returned (.tuple #[])/\eO w' E n (upd c f (c f+1))/\Mod (fun b=>b=E) w w':=by
 have c0:w.cell? ⟨E,f,none⟩=some (.int .i64 (c f:Int)):=aL h.row hf;have c1:w.frozen? ⟨E,f,none⟩=false:=ae h.row f;have c2:w.cell? ⟨E+1,0,none⟩=some (.slice (some ⟨E,0,none⟩) n n):=aa h.sl 0;obtain⟨x,hx⟩: ∃x,x=c f:=⟨_,rfl⟩;rw[<-hx]at c0 hc⊢;have hm:=aj (S:=fun b=>b=E) (w:=w) (b:=E) rfl f (.int .i64 ((x:Int)+1));have wi:eO (w.setCell ⟨E,f,none⟩ (.int .i64 ((x:Int)+1))) E n (upd c f (x+1)):=by
  have l1:=(vo h.sl).1;have l2:=(vo h.ok).1;refine⟨?_,(hm.block _ l1 (by omega)).trans h.sl,(hm.block _ l2 (by omega)).trans h.ok⟩;have h1:=h.row;unfold vf at h1⊢;rw[Joins.block_setCell (i:=f) h1 (.int .i64 ((x:Int)+1)),cX];rw[show(Value.int .i64 ((x:Int)+1))=Value.int .i64 ((x+1:Nat):Int) by rfl,gB n (fun y:Nat=>Value.int .i64 (y:Int)) c f (x+1)]
 have hi:(f:Int)<(n:Int):=(by omega);have wP:=vp wi;have HM:=vp hm;clear hx wi h hm;go_enter Tryz.func78,Tryz.ntmps78;go_wp2_with fail;go_end0;exact⟨rfl,wP.out,HM.out⟩
variable {q:Nat}
theorem sF {l:List (Nat×Leaf)} {y:Nat×Leaf} (h:l[q]? =some y) (f:Nat):(l.take (q+1)).countP (fun z=>z.2.frame==f)=(l.take q).countP (fun z=>z.2.frame==f)+if y.2.frame=f then 1 else 0:=by
 rw[cN h,List.countP_append,List.countP_singleton];simp
variable {y:Nat}
theorem sG {l:List Nat} (h:l[q]? =some y) (f:Nat):(l.take (q+1)).count f=(l.take q).count f+if y=f then 1 else 0:=by
 rw[cN h,List.count_append,List.count_singleton];by_cases e:y=f
 ·subst e;simp
 ·simp[e]
theorem sE {l:List Slot} {y:Slot} (h:l[q]? =some y) (f:Nat):aq (l.take (q+1)) f=aq (l.take q) f+if y.frame=f then 1 else 0:=by
 unfold aq;rw[cN h,List.countP_append,List.countP_singleton];simp
theorem sD {o:Option Tab} (h:Ts[q]? =some o) (f:Nat):tnS (Ts.take (q+1)) f=tnS (Ts.take q) f+tnO o f:=by
 rw[cN h,dR,bP,eX,Nat.add_zero]
theorem ll {c:Nat->Nat} (h: ∀f,d f=c f+if y=f then 1 else 0):upd c y (c y+1)=d:=by
 funext f;by_cases e:f=y
 ·subst e;rw[af,h,if_pos rfl]
 ·rw[ag _ _ e,h,if_neg (fun e1=>e e1.symm)];rfl
structure RowsOf (n:Nat) (T:Tab) (P:List (Nat×Leaf)) (N:List Nat):Prop where
 lowP: ∀y∈P,y.2.frame<n
 lowN: ∀f∈N,f<n
 lenP:P.length<=1000000
 lenN:N.length<=1000000
 cnt: ∀f,P.countP (fun z=>z.2.frame==f)+N.count f=tn T f
theorem Hou.rowsOf (h:Hou w hb B c a fs m S F clock p L l R cr ls) (hk:l[k]? =some x) (hT:x.T=some T):RowsOf p.n T T.puts ((T.evs 4 0).flatMap Ev.ns):=by
 have hg:=(h.hse.sp hk hT).good;have yg:=hg.ok.short;refine⟨fun y hy=>?_,fun f hf=>?_,?_,?_,fun f=>?_⟩
 ·obtain⟨pg,l⟩:=y;exact(hg.but.leaf pg l (T.evs_sound pg l 4 0 hy)).2.2
 ·have h9:0<((T.evs 4 0).flatMap Ev.ns).count f:=List.count_pos_iff.2 hf;rw[hg.ok.nodes_cnt]at h9;by_cases e:an T f
  ·obtain⟨lv,q,hq⟩:=e;exact(hg.node hq).1
  ·rw[aD e]at h9;omega
 ·have f1:=qg (F:=Ev.ls) (fun e=>by cases e<;>simp[Ev.ls]) (T.evs 4 0);unfold Tab.puts;omega
 ·have f2:=qg (F:=Ev.ns) (fun e=>by cases e<;>simp[Ev.ns]) (T.evs 4 0);omega
 ·unfold Tab.puts tn;rw[hg.ok.leaves_cnt,hg.ok.nodes_cnt]
theorem oX (w:World) (h:Hou w hb B c a fs m S F clock p L l R cr (l.map (·.s))) (hF:F.length<=1000) (yU:l.length<=6):
  Calls Tryz.prog 35 #[.pointer (some ⟨hb,0,none⟩)] w fun e w'=>e= .returned (.bool true)/\Below w.heap.size w w':=by
 have hn:=h.hse.hs.few;have Ie:=tw a w S p h.hse.home.cache.pool;have Ff:=fun W=>rr p.n (by omega) W;obtain⟨n,Pv⟩: ∃n,n=p.n:=⟨_,rfl⟩;rw[<-Pv]at Ie Ff hn;have o1:=h.cells.1;have HSZ:=vp Ie;have HH:=vp h;have HN:=vp Pv;clear h Ie Pv;go_enter Tryz.func35,Tryz.ntmps35;go_upto_region 4 with(first
  |(go_at_call 77;refine(HSZ.out).mono ?_;rintro e w1 ⟨rfl,rfl⟩)
  |fail)
 obtain⟨w4,yE⟩: ∃w4,w4=((w.alloc (.cells (rowV n fun _ => .int .i64 0) 3)).alloc (.cells #[.slice (some ⟨w.heap.size,0,none⟩) n n] 131)).alloc (.cells #[.bool true] 4):=⟨_,rfl⟩;rw[<-yE];obtain⟨E,hE⟩: ∃E,E=w.heap.size:=⟨_,rfl⟩;rw[<-hE];have wA:Below w.heap.size w w4:=(by rw[yE];exact(vr.alloc (by simp) _).alloc (by simp;omega) _);have AZ:w4.heap.size=E+3:=(by rw[yE,hE];simp);have NY:eO w4 E n (fun _ =>0):=by
  rw[yE,hE];refine⟨?_,?_,?_⟩
  ·exact(vt _ _ _ (by simp;omega)).trans ((vt _ _ _ (by simp)).trans (ab w _))
  ·have h9:=ab (w.alloc (.cells (rowV n fun _ => .int .i64 0) 3)) (.cells #[.slice (some ⟨w.heap.size,0,none⟩) n n] 131);exact(vt _ _ _ (by simp)).trans (by simpa using h9)
  ·have h9:=ab ((w.alloc (.cells (rowV n fun _ => .int .i64 0) 3)).alloc (.cells #[.slice (some ⟨w.heap.size,0,none⟩) n n] 131)) (.cells #[.bool true] 4);simpa using h9
 have Li:=vp (HH.out.below wA);have KV:=vp (sO c a fs m clock w4 L Li.out.hse.home.cache.self Li.out.hse.home.cache.slots (by have:=HH.out.hse.hs.slotsFew;omega) (HH.out.hse.hs.filled.keysSmall hF));have o2:w4.cell? ⟨hb,2,none⟩=some (.pointer (some ⟨c,0,none⟩)):=aa Li.out.self 2;have BO:=vp NY;have xj:=vp wA;have HE:=vp hE;clear yE NY wA o1 Ff hE;go_upto_region 5 with(first
  |(go_at_call 79;refine(KV.out).mono ?_;rintro e w5 ⟨A5,c5,L5,rfl,IC,RH,_,zi⟩)
  |fail)
 have Jm:=zi.size;have Ww:=vp (Li.out.below zi);have Ga:=vp (BO.out.same (X:=fun _ =>False) (Mod.of zi) (fun _ e=>e.elim));have zq:=vp (xj.out.trans (zi.mono xj.out.size));have BM:=vp IC;have HPS:=vp (show∀f,aq L5 f=aq L f from fun f=>RH.countP_eq _);have Rc:=vp (show∀x∈L5,x.frame<n from fun x hx=>by rw[HN.out];exact HH.out.hse.hs.slow x (RH.mem_iff.1 hx));have Fm:L5.length<=1024:=(by rw[RH.length_eq];exact HH.out.hse.hs.slotsFew);have HNE:=vp (show iR S B c m hb R l E from HH.out.mine (wq:=w5) zq.out.size (Out.refl _ _) (cQ.refl _ _) (Nat.le_of_eq HE.out.symm) (by omega));have HNE2:=vp (show iR S B c m hb R l (E+2)from HH.out.mine (wq:=w5) zq.out.size (Out.refl _ _) (cQ.refl _ _) (by rw[HE.out];omega) (by omega));clear IC RH zi o2 KV;go_wp2_with fail;go_loopw [7] (fun i wx=> ∃q:Nat,i= .int .i64 (q:Int)/\q<=L5.length/\eO wx E n (fun f=>aq (L5.take q) f)/\Mod (fun b=>b=E) w5 wx) (fun i _ =>L5.length-(intOf i).toNat)
 case atStart=>exact⟨0,rfl,vL _,Ga.out,Mod.refl _ _⟩
 case round=>
  obtain⟨q,rfl,hq,wz,zg⟩:=hrel;have xz:=vp wz;have Bp:=vp zg;clear wz zg;by_cases If:q<L5.length
  ·obtain⟨y,hy⟩: ∃y,L5[q]? =some y:=⟨L5[q],vv If⟩;have Ss:=Rc.out y (vA hy);rcases BM.out.form with⟨_,h2,_⟩|⟨g7,cur,yc,yi,AV,Aq,Df,_⟩
   ·rw[h2]at If;exact absurd If (Nat.not_lt_zero _)
   have wo:wr.cell? ⟨g7,q*3+2,none⟩=some (.int .i64 (y.frame:Int)):=by
    have h9:=BM.out;rw[yc]at h9;have h8:w5.cell? ⟨g7,q*3+2,none⟩=some (.int .i64 (y.frame:Int)):=h9.cell (k:=q) (j:=2) (by omega) hy;have h7:=Bp.out.block g7 AV (by omega);rw[<-h8];simp only[World.cell?,h7]
   have HM:=vp (iA E n y.frame _ wr xz.out Ss (vM (show aq _ _ <=_ from List.countP_le_length) (by rw[List.length_take];omega)));have GG:=vp (ll (fun f=>sE hy f));subst yc;have DG:q<c5:=(by omega);clear hy;go_wp2_with (first
    |(go_at_call 78;refine(HM.out).mono ?_;rintro e wy ⟨rfl,EY,wk⟩;have Bo:=vp EY;have CP:=vp wk;clear EY wk)
    |fail)
   go_roundw
   case rel=>exact⟨q+1,by go_num,by omega,Bo.out.congr fun f _ =>congrFun GG.out f,Bp.out.trans (Out.refl _ _) CP.out⟩
   case measure=>(simp[intOf];omega)
  ·obtain rfl:q=L5.length:=(by omega);have Ot:=vp (show eO wr E n (fun f=>aq L f+tnS ((l.map (·.T)).take 0) f)from xz.out.congr fun f _ =>by rw[List.take_length,HPS.out,List.take_zero,eX];rfl);have OB:=vp Bp.out;clear xz Bp;go_wp2_with fail;go_loopw [8] (fun i wx=> ∃q:Nat,i= .int .i64 (q:Int)/\q<=l.length/\eO wx E n (fun f=>aq L f+tnS ((l.map (·.T)).take q) f)/\Mod (fun b=>b=E) w5 wx) (fun i _ =>l.length-(intOf i).toNat)
   case atStart=>exact⟨0,rfl,vL _,Ot.out,OB.out⟩
   case round=>
    obtain⟨q,rfl,hq,wz,zg⟩:=hrel;have xz:=vp wz;have Bp:=vp zg;obtain⟨wl,rfl⟩: ∃wl:World,wl=wr:=⟨_,rfl⟩;have Wu:=vp (Ww.out.aside zg (fun b e=>by rw[e];exact HNE.out));have o3:=Wu.out.cells.2;clear wz zg Ot OB;by_cases If:q<l.length
    ·obtain⟨x,hx⟩: ∃x,l[q]? =some x:=⟨_,vv If⟩;have hTq:(l.map (·.T))[q]? =some x.T:=(by rw[vI,hx];rfl);have VH:=vp (fun f=>sD hTq f);have HT:=vp (Wu.out.tableAt hx);obtain⟨gR,rfl,UE⟩:=Wu.out.at_ hx;have yG:(q:Int)<(l.length:Int):=(by omega);have HX:=vp hx;clear hx hTq;cases hT:x.T with
     |none=>
      rw[hT]at HT VH;have QO:Hid (Calls Tryz.prog 33 #[.pointer (some ⟨x.s,0,none⟩)] wl fun e w'=>e= .returned (.pointer none)/\wl=w'):=HT;clear HT hT;go_wp2_with (first
       |(go_at_call 33;refine(QO.out).mono ?_;rintro e w6 ⟨rfl,rfl⟩)
       |fail)
      go_roundw
      case rel=>exact⟨q+1,by go_num,by omega,xz.out.congr fun f _ =>by show _ =aq L f+_;rw[VH.out f];rfl,Bp.out⟩
      case measure=>(simp[intOf];omega)
     |some T=>
      have LG:=vp (Wu.out.rowsOf HX.out hT);have HA:=vp (Wu.out.allAt HX.out hT);have HTT:=vp hT;rw[hT]at HT VH;have QO:Hid (Calls Tryz.prog 33 #[.pointer (some ⟨x.s,0,none⟩)] wl fun e w'=>e= .returned (.pointer (some ⟨x.t,0,none⟩))/\wl=w'):=HT;obtain⟨b0,vU⟩: ∃b0:Nat->Nat,b0=fun f=>aq L f+tnS ((l.map (·.T)).take q) f:=⟨_,rfl⟩;rw[<-vU]at xz;have xe:=vp (show∀f,b0 f+tn T f=aq L f+tnS ((l.map (·.T)).take (q+1)) f from fun f=>by rw[VH.out f,vU];show _ +_ +_ =_ +(_ +tn T f);omega);have WN:=vp (show∀f,b0 f<=4000000 from fun f=>by
       rw[vU];have h1:=HH.out.hse.hs.once f;have h2:tnS ((l.map (·.T)).take q) f<=525313*((l.map (·.T)).take q).length:=og 525313 f _ fun j U hj=>by
        have Ly:(l.map (·.T))[j]? =some (some U):=by
         rw[List.getElem?_take]at hj;split at hj
         ·exact hj
         ·cases hj
        rw[vI]at Ly;obtain⟨z,hz,e⟩:=Option.map_eq_some_iff.1 Ly;exact(HH.out.hse.sp hz e).tn_cap f
       rw[List.length_take]at h2;show aq L f+_ <=_;have h3:min q (l.map (·.T)).length<=6:=(by omega);have h4:=Nat.mul_le_mul_left 525313 h3;omega)
      clear HT hT vU VH;go_upto_region 15 with(first
       |(go_at_call 33;refine(QO.out).mono ?_;rintro e w6 ⟨rfl,rfl⟩)
       |(go_at_call 34;refine(HA.out).mono ?_;rintro e w6 ⟨A6,c6,rfl,Dm,Az⟩)
       |fail)
      have OP:=Az.size;have XQ:=Bp.out.size;have ON:=vp (xz.out.same (X:=fun _ =>False) (Mod.of Az) (fun _ e=>e.elim));have Jg:=vp (show Mod (fun b=>b=E) w5 w6 from Bp.out.trans (Out.refl _ _) (Mod.of Az));have Lb:=vp Dm;obtain⟨P,hP⟩: ∃P,P=T.puts:=⟨_,rfl⟩;rw[<-hP]at Lb LG⊢;have hlP:=LG.out.lenP;have hlN:=LG.out.lenN;clear Dm Az hP o3 UE;go_wp2_with fail;go_loopw [11] (fun i wx=> ∃j:Nat,i= .int .i64 (j:Int)/\j<=P.length/\eO wx E n (fun f=>b0 f+(P.take j).countP (fun z=>z.2.frame==f))/\Mod (fun b=>b=E) w6 wx) (fun i _ =>P.length-(intOf i).toNat)
      case atStart=>exact⟨0,rfl,vL _,ON.out.congr fun f _ =>by simp,Mod.refl _ _⟩
      case round=>
       obtain⟨j,rfl,hj,wz,zg⟩:=hrel;have xz:=vp wz;have Ld:=vp zg;clear wz zg;by_cases Aa:j<P.length
       ·obtain⟨y,hy⟩: ∃y,P[j]? =some y:=⟨P[j],vv Aa⟩;have Ss:y.2.frame<n:=(by rw[HN.out];exact LG.out.lowP y (vA hy));rcases Lb.out.form with⟨_,h2,_⟩|⟨g7,yc,yi,AV,Aq⟩
        ·rw[h2]at Aa;exact absurd Aa (Nat.not_lt_zero _)
        have wo:wr.cell? ⟨g7,j*4+1,none⟩=some (.int .i64 (y.2.frame:Int)):=by
         have h9:=Lb.out;rw[yc]at h9;have h8:OwnP wr wl.heap.size (some ⟨g7,0,none⟩) c6 P:=h9.same fun x hx=>by
          injection hx with hx;injection hx with hx;subst hx;exact Ld.out.block _ AV (by omega)
         exact(h8.elem hy).2.1
        have HM:=vp (iA E n y.2.frame _ wr xz.out Ss (by
         have h1:=WN.out y.2.frame;have h2:(P.take j).countP (fun z=>z.2.frame==y.2.frame)<=(P.take j).length:=List.countP_le_length;have h3:=LG.out.lenP;rw[List.length_take]at h2;show b0 _ +_ <=_;omega))
        have GG:=vp (ll (c:=fun f=>b0 f+(P.take j).countP (fun z=>z.2.frame==f)) (d:=fun f=>b0 f+(P.take (j+1)).countP (fun z=>z.2.frame==f)) (y:=y.2.frame) (fun f=>by show _ +_ =_ +_ +_;rw[sF hy f];omega));subst yc;have DG:j<c6:=(by omega);clear hy;go_wp2_with (first
         |(go_at_call 78;refine(HM.out).mono ?_;rintro e wy ⟨rfl,EY,wk⟩;have Bo:=vp EY;have CP:=vp wk;clear EY wk)
         |fail)
        go_roundw
        case rel=>exact⟨j+1,by go_num,by omega,Bo.out.congr fun f _ =>congrFun GG.out f,Ld.out.trans (Out.refl _ _) CP.out⟩
        case measure=>(simp[intOf];omega)
       ·obtain rfl:j=P.length:=(by omega);obtain⟨wm,rfl⟩: ∃wm:World,wm=wr:=⟨_,rfl⟩;have PB:Mod (fun b=>b=E) w5 wm:=Jg.out.trans (Out.refl _ _) Ld.out;have XL:=vp (Ww.out.aside PB (fun b e=>by rw[e];exact HNE.out));have ze:=vp (qC x.t c a x.root wm S p T _ 0 XL.out.hse.home.cache.pool (XL.out.hse.live HX.out HTT.out).one.tab (XL.out.hse.sp HX.out HTT.out).good (XL.out.hse.live HX.out HTT.out).root);have CO:=vp PB;have VR:=vp xz.out;obtain⟨NN,hNN⟩: ∃NN,NN=(T.evs 4 0).flatMap Ev.ns:=⟨_,rfl⟩;rw[<-hNN]at ze LG hlN;clear PB xz ON hNN;go_upto_region 20 with(first
         |(go_at_call 80;refine(ze.out).mono ?_;rintro e w8 ⟨A8,c8,rfl,Of,Qk⟩)
         |fail)
        have Nf:=Qk.size;have hzm:=CO.out.size;have HC8:=vp (VR.out.same (X:=fun _ =>False) (Mod.of Qk) (fun _ e=>e.elim));have FF:=vp (show Mod (fun b=>b=E) w5 w8 from CO.out.trans (Out.refl _ _) (Mod.of Qk));have HO8:=vp Of;clear Of Qk;go_wp2_with fail;go_loopw [13] (fun i wx=> ∃j:Nat,i= .int .i64 (j:Int)/\j<=NN.length/\eO wx E n (fun f=>b0 f+P.countP (fun z=>z.2.frame==f)+(NN.take j).count f)/\Mod (fun b=>b=E) w8 wx) (fun i _ =>NN.length-(intOf i).toNat)
        case atStart=>exact⟨0,rfl,vL _,HC8.out.congr fun f _ =>by rw[List.take_length];simp,Mod.refl _ _⟩
        case round=>
         obtain⟨j,rfl,hj,wz,zg⟩:=hrel;have xz:=vp wz;have Hy:=vp zg;clear wz zg;by_cases Aa:j<NN.length
         ·obtain⟨y,hy⟩: ∃y,NN[j]? =some y:=⟨NN[j],vv Aa⟩;have Ss:y<n:=(by rw[HN.out];exact LG.out.lowN y (vA hy));rcases HO8.out.form with⟨_,h2,_⟩|⟨g7,yc,yi,AV,Aq⟩
          ·rw[h2]at Aa;exact absurd Aa (Nat.not_lt_zero _)
          have wo:wr.cell? ⟨g7,j,none⟩=some (.int .i64 (y:Int)):=by
           have h9:=HO8.out;rw[yc]at h9;have h8:OwnN wr wm.heap.size (some ⟨g7,0,none⟩) c8 NN:=h9.same fun x hx=>by
            injection hx with hx;injection hx with hx;subst hx;exact Hy.out.block _ AV (by omega)
           exact h8.elem hy
          have HM:=vp (iA E n y _ wr xz.out Ss (by
           have h1:=WN.out y;have h2:P.countP (fun z=>z.2.frame==y)<=P.length:=List.countP_le_length;have h3:(NN.take j).count y<=(NN.take j).length:=List.count_le_length;have h4:=LG.out.lenP;have h5:=LG.out.lenN;rw[List.length_take]at h3;show b0 _ +_ +_ <=_;omega))
          have GG:=vp (ll (c:=fun f=>b0 f+P.countP (fun z=>z.2.frame==f)+(NN.take j).count f) (d:=fun f=>b0 f+P.countP (fun z=>z.2.frame==f)+(NN.take (j+1)).count f) (y:=y) (fun f=>by show _ +_ =_ +_ +_;rw[sG hy f];omega));subst yc;have DG:j<c8:=(by omega);clear hy;go_wp2_with (first
           |(go_at_call 78;refine(HM.out).mono ?_;rintro e wy ⟨rfl,EY,wk⟩;have Bo:=vp EY;have CP:=vp wk;clear EY wk)
           |fail)
          go_roundw
          case rel=>exact⟨j+1,by go_num,by omega,Bo.out.congr fun f _ =>congrFun GG.out f,Hy.out.trans (Out.refl _ _) CP.out⟩
          case measure=>(simp[intOf];omega)
         ·obtain rfl:j=NN.length:=(by omega);have Rm:=vp (show eO wr E n (fun f=>aq L f+tnS ((l.map (·.T)).take (q+1)) f)from xz.out.congr fun f _ =>by
           rw[List.take_length,<-xe.out f,<-LG.out.cnt f];show b0 f+_ +_ =b0 f+(_ +_);omega)
          have HMM:=vp (FF.out.trans (Out.refl _ _) Hy.out);clear xz Hy;go_wp2_with fail;go_roundw
          case rel=>exact⟨q+1,by go_num,by omega,Rm.out,HMM.out⟩
          case measure=>(simp[intOf];omega)
    ·obtain rfl:q=l.length:=(by omega);have FJ:=vp (show eO wl E n p.cnt from xz.out.congr fun f hf=>by
      have h1:=HH.out.hse.hs.cnt f (by rw[<-HN.out];exact hf);rw[List.take_of_length_le (by rw[List.length_map];exact vs _),h1];exact Nat.add_comm _ _)
     have HMF:=vp (show Mod (fun b=>b=E\/b=E+2) w5 wl from Bp.out.sub fun b e=> .inl e);clear xz Bp;go_wp2_with fail;go_loopw [14] (fun i wx=> ∃j:Nat,i= .int .i64 (j:Int)/\j<=n/\eO wx E n p.cnt/\Mod (fun b=>b=E\/b=E+2) w5 wx) (fun i _ =>n-(intOf i).toNat)
     case atStart=>exact⟨0,rfl,vL _,FJ.out,HMF.out⟩
     case round=>
      obtain⟨j,rfl,hj,wz,zg⟩:=hrel;have HHX:=vp (Ww.out.aside zg (fun b e=>by rcases e with e|e;(rw[e];exact HNE.out);(rw[e];exact HNE2.out)));have e1:wr.cell? ⟨E+1,0,none⟩=some (.slice (some ⟨E,0,none⟩) n n):=aa wz.sl 0;have e2:wr.cell? ⟨E+1+1,0,none⟩=some (.bool true):=aa wz.ok 0;have e3:wr.frozen? ⟨E+1+1,0,none⟩=false:=ae wz.ok 0;have o1:=HHX.out.cells.1;have xz:=vp wz;have Bp:=vp zg;clear wz zg;by_cases Aa:j<n
      ·have e0:wr.cell? ⟨E,j,none⟩=some (.int .i64 (p.cnt j:Int)):=aL xz.out.row Aa;have Iw:=fm a (j:Int) wr.drew S p HHX.out.hse.home.cache.pool.drew;rw[aM (by rw[<-HN.out];exact Aa)]at Iw;have CY:=vp Iw;have hjn:(j:Int)<(n:Int):=(by omega);obtain⟨z,hz⟩: ∃z,z=p.cnt j:=⟨_,rfl⟩;rw[<-hz]at e0 CY;clear Iw hz;go_upto_region 27 with(fail);refine wp_region_still_tail 14 (by kernel_rfl) (by kernel_rfl) ?_;simp only[List.take_succ_cons,List.take_zero,List.drop_succ_cons,List.drop_zero]
       repeat still_step
       refine wpStill_step (fun K hK=>?_)
       go_simp
       refine⟨_,(CY.out).mono (fun e w' ⟨h1,h2⟩=>⟨h1,h2.symm⟩),hK _ ?_⟩;clear hK K
       repeat still_step
       refine wpStill_nil ?_;change wpList _ _ _ _ _ wr.drew;have Ik:eO (wr.drew.setCell ⟨E+1+1,0,none⟩ (.bool true)) E n p.cnt/\Mod (fun b=>b=E\/b=E+2) w5 (wr.drew.setCell ⟨E+1+1,0,none⟩ (.bool true)):=by
        have hm:=aj (S:=fun b=>b=E+2) (w:=wr.drew) (b:=E+2) rfl 0 (.bool true);have hr:=xz.out;have l0:=(vo hr.row).1;have l1:=(vo hr.sl).1;have xk:wr.drew.heap[E+2]? =some (.cells #[.bool true] 4 (0,0)):=hr.ok;refine⟨⟨(hm.block _ l0 (by omega)).trans hr.row,(hm.block _ l1 (by omega)).trans hr.sl,by have h9:=Joins.block_setCell (i:=0) xk (.bool true);simpa using h9⟩,Bp.out.trans (Out.refl _ _) ((Mod.of (S:=fun b=>b=E\/b=E+2) ((vO wr.heap.size wr).drew)).trans (Out.refl _ _) (hm.sub fun b e=> .inr e))⟩
       have HNX:=vp Ik;clear Ik;go_wp2_with fail;go_roundw
       case rel=>exact⟨j+1,by go_num,by omega,HNX.out.1,HNX.out.2⟩
       case measure=>(simp[intOf];omega)
      ·obtain rfl:j=n:=(by omega);go_wp2_with fail;go_ret;exact⟨rfl,zq.out.trans (Bp.out.below (fun b e=>by have:=HE.out;omega) zq.out.size)⟩
end
section
open Go.RowKit Go.Sort
theorem nI (P Q:Option Addr) (n cap k zk:Nat) (N:Int) (w:World) (hF:iT w P n cap) (hO:kE w Q k zk) (Ay:DB w) (vT:0<w.heap.size):
  Calls Tryz.prog 8 #[.agg #[.slice P n cap, .int .i64 N], .slice Q k zk] w (ve w):=by
 obtain⟨w0,Dz⟩: ∃w0,w0=w.alloc (.cells #[.slice P n cap, .int .i64 N] 24):=⟨_,rfl⟩;have vU:Below w.heap.size w w0:=(by rw[Dz];exact vr);have hE:w0.heap[w.heap.size]? =some (.cells #[.slice P n cap, .int .i64 N] 24 (0,0)):=(by rw[Dz];exact ab w _);have wM:=vU.size;have l0:w.heap.size<w0.heap.size:=(vo hE).1;have x0:w0.cell? ⟨w.heap.size,0,none⟩=some (.slice P n cap):=aa hE 0;have x1:w0.cell? ⟨w.heap.size,1,none⟩=some (.int .i64 N):=aa hE 1;have HV:=vp (sk P n cap k zk Q N w0 (hF.below vU) (hO.below vU));have HWK:=vp (fun W (hW:Below w.heap.size w W)=>nU W (Ay.same (hW.block 0 vT)) (vw vT hW.size));have HE:=vp hE;have QJ:=vp Dz;have EK:=vp Ay;have xe:=vp vU;have HO:=vp hO;clear hE Dz Ay vU hF hO;go_enter Tryz.func8,Tryz.ntmps8;go_upto_region 1 with(fail);rw[<-QJ.out];go_upto_region 3 with(first
  |(go_at_call 9;refine(HV.out).mono ?_;rintro e w1 ⟨bv,rfl,Xt,vS⟩;have vY:=vp (xe.out.trans (vS.mono wM));have xV:=vp ((vS.block _ l0).trans HE.out);have HB01:=vp vS;clear vS)
  |(go_at_call 10;refine(HWK.out _ vY.out).mono ?_;rintro e w2 ⟨rfl,wb⟩)
  |fail)
 ·go_ret;exact⟨rfl,vY.out.trans (wb.mono vY.out.size)⟩
 have UH:bv=false:=(by assumption);obtain⟨hk80,hN,l,wX⟩:=Xt UH;have wF:=vY.out.size;have l1:w.heap.size<w1.heap.size:=(vo xV.out).1;have y0:w1.cell? ⟨w.heap.size,0,none⟩=some (.slice P n cap):=aa xV.out 0;have y1:w1.cell? ⟨w.heap.size,1,none⟩=some (.int .i64 N):=aa xV.out 1;obtain⟨ops,Pr,Ii⟩:=HO.out.2 (by omega);have QW:=vp Ii;have HOL:=vp Pr;have HIN0:=vp wX;clear Xt UH wX Ii Pr x0 x1;have xZ:=vp (HIN0.out.below HB01.out);have Mn:DB w1:=EK.out.same (vY.out.block 0 vT);have h01:0<w1.heap.size:=(by omega);by_cases zh:(newM [aB] 0 l).1≠0\/N<1
 ·have HBG:=vp (uF P n cap N l w1 xZ.out hN zh Mn h01);clear zh Mn;go_wp2_with (first
   |(go_at_call 11;refine(HBG.out).mono ?_;rintro e w2 ⟨rfl,wb⟩;have xF:=vp (vY.out.trans (wb.mono wF));clear wb)
   |(go_at_call 10;refine(HWK.out _ xF.out).mono ?_;rintro e w3 ⟨rfl,wG⟩)
   |fail)
  go_ret;exact⟨rfl,xF.out.trans (wG.mono xF.out.size)⟩
 obtain⟨nf,rfl⟩: ∃nf:Nat,N=(nf:Int):=⟨N.toNat,by omega⟩;have HBG:=vp (rX P n cap nf l w1 xZ.out (by omega) (by omega) (vD fun h=>zh (.inl h)) Mn h01);clear zh Mn;go_upto_region 4 with(first
  |(go_at_call 11;refine(HBG.out).mono ?_;rintro e w2 ⟨B,hb,a,c,fs,m,S,rfl,xv,hse,wb,hB,hBo,hoS,hom,hoc⟩;have xF:=vp (vY.out.trans (wb.mono wF));have HE2:=vp ((wb.block _ l1).trans xV.out);clear wb)
  |fail)
 have PL:Hou w2 hb B c a fs m S (cI l) 0 (fresh nf) [] [] none 0 (([]:List SpM).map (·.s)):=Hou.start hse xv hBo hoS hom hoc;have Xb:Hid (At11 w2 hb B c a fs m (cI l) nf 0 w2):=vp ⟨S,0,fresh nf,[],[],none,0,PL,by simp,Int.le_refl _,Int.le_refl _,rfl,vO _ _⟩;have Dp:w.heap.size<=B:=(by omega);have hBw2:=PL.hse.home.base;clear xv hse PL hoS hom hoc y0 y1;have XM:=vp (oS (l:=l) (by have:=xZ.out.len;have:=xZ.out.few;omega));go_wp2_with fail;go_loopw [7] (fun i wr=> ∃j:Nat,i= .int .i64 (j:Int)/\j<=k/\At11 w2 hb B c a fs m (cI l) nf j wr) (fun i _ =>k-(intOf i).toNat)
 case atStart=>exact⟨0,rfl,vL _,Xb.out⟩
 case round=>
  obtain⟨j,rfl,hj,xi⟩:=hrel;have IX:Below w.heap.size w wr:=xF.out.trans ((by obtain⟨_,_,_,_,_,_,_,_,_,_,_,_,Hk⟩:=xi;exact Hk:Below B w2 wr).mono Dp);have Lo:=vp IX;clear Xb;by_cases zP:j<k
  ·obtain⟨o,ho⟩: ∃o,ops[j]? =some o:=⟨_,vv (by rw[HOL.out];exact zP)⟩;obtain⟨b,off,Ao,co,rfl,⟨e0,e1,e2,e3,e4,e5,e6,e7,e8,e9⟩,Ua⟩:=QW.out.at_ IX Dp ho;obtain⟨kd2,sI2,r2,addr2,n2,q2,d2⟩:=o;have hdo:=xi.does (by omega) Ua;have HDO:=vp hdo;have yG:(j:Int)<(k:Int):=(by omega);clear hdo Ua IX xi ho;go_upto_region 10 with(first
    |(go_at_call 15;refine(HDO.out).mono ?_;rintro e w3 ⟨Rb,kk,cp,er,rfl,Ru⟩)
    |fail)
   obtain⟨S3,clk3,p3,L3,l3,R3,cr3,h3,XD,h3a,h3b,h3n,h3w⟩:=Ru.out;have HCN:=vp (oX w3 h3 XM.out XD);have H3:=vp h3;have H3W:=vp h3w;have H3N:=vp h3n;clear e0 e1 e2 e3 e4 e5 e6 e7 e8 e9 h3 h3w h3n;go_wp2_with (first
    |(go_at_call 35;refine(HCN.out).mono ?_;rintro e w4 ⟨rfl,wA⟩;have HA4:=vp (show At11 w2 hb B c a fs m (cI l) nf (j+1) w4 from⟨S3,clk3,p3,L3,l3,R3,cr3,H3.out.below wA,XD,h3a,h3b,H3N.out,H3W.out.trans (wA.mono H3.out.hse.home.base)⟩);clear wA)
    |fail)
   go_roundw
   case rel=>exact⟨j+1,by go_num,by omega,HA4.out⟩
   case measure=>(simp[intOf];omega)
  ·obtain rfl:j=k:=(by omega);clear IX xi
   go_wp2_with (first
    |(go_at_call 10;refine(HWK.out _ Lo.out).mono ?_;rintro e w4 ⟨rfl,wA⟩)
    |fail)
   go_ret;exact⟨rfl,Lo.out.trans (wA.mono Lo.out.size)⟩
end
