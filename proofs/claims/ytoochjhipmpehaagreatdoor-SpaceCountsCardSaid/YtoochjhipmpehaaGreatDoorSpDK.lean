/- Spaces: bring. -/
import Derived.Test.YtoochjhipmpehaaGreatDoorSbK
set_option linter.unusedVariables false
set_option linter.unusedSimpArgs false
set_option maxRecDepth 100000
set_option maxHeartbeats 8000000
namespace Go.Proofs.YtoochjhipmpehaaGreatDoor
section
open Go.RowKit Go.Sort
theorem iN (v:Value) (w:World) (n:Nat) (hn:n=Tryz.prog.types.size+Made.depth):(method n 248 v "hostel/space.leaf").run Tryz.prog w= .ok (231,v) w:=by
 subst hn;kernel_rfl
theorem iP (v:Value) (w:World) (n:Nat) (hn:n=Tryz.prog.types.size+Made.depth):(method n 244 v "hostel/space.leaf").run Tryz.prog w= .ok (230,v) w:=by
 subst hn;kernel_rfl
theorem uh (v:Value) (n:Nat) (W:World):(nilAhead (n+1) 248 v "hostel/space.leaf").run Tryz.prog W= .ok (some false) W:=by kernel_rfl
theorem uC (v:Value) (n:Nat) (W:World):(nilAhead (n+1) 244 v "hostel/space.leaf").run Tryz.prog W= .ok (some false) W:=by kernel_rfl
theorem kg (v x:Value) (w:World):(callFunc 231 #[v,x]).run Tryz.prog w= .ok (.enter 231 #[v,x]) w:=by kernel_rfl
theorem kh (v x:Value) (w:World):(callFunc 230 #[v,x]).run Tryz.prog w= .ok (.enter 230 #[v,x]) w:=by kernel_rfl
variable {w w':World}
theorem bq {b i:Nat} (h:w'.heap[b]? =w.heap[b]?):w'.cell? ⟨b,i,none⟩=w.cell? ⟨b,i,none⟩:=by unfold World.cell?;simp only[h]
def vm (w:World) (S:Nat->Prop) (c a fs m:Nat) (F:List Nd) (clock:Int) (p:Pool) (L:List Slot) (T:Tab) (hold:Nat->Nat) (r:Reg) (pg:Nat) (e:Ending) (w':World):Prop:=
 ∃er l p' L' T' vQ S',e= .returned (.tuple #[.agg (ap l), .int .i64 er])/\au w' S' c a fs m vQ p' L'/\Mod (aw S c m) w w'/\Out S S' w/\clock<=vQ/\vQ<=clock+1/\aV F hold r pg p L T er l p' L' T'
variable {p:Pool} {L:List Slot} {f:Nat}
theorem dz.clock {ino page r0:Int} {k:Nat} {d:Nat->Nat} {p':Pool} {L':List Slot} {clock vQ r:Int} (h:dz ino page r0 k d p L clock r f p' L' vQ):clock<=vQ/\vQ<=clock+1:=by
 cases h<;>constructor<;>omega
variable {B c a m s t root n cap:Nat} {S X:Nat->Prop} {A:Option Addr} {rl:List Reg}
theorem One.mod (h:One w B c a m S s t root A n cap rl) (hm:Mod X w w') (hX: ∀b,X b->b≠s/\b≠t/\ ∀ad,A=some ad->ad.block≠b):One w' B c a m S s t root A n cap rl:=
 ⟨(
  hm.block s h.lts.1 (fun e=>(hX s e).1 rfl)).trans h.self,(hm.block t h.lts.2.1 (fun e=>(hX t e).2.1 rfl)).trans h.tab,h.row.mod hm (fun ad e x=>(hX _ x).2.2 ad e rfl),h.noS,h.noT,fun ad e=>by
  obtain⟨n1,n2,n3,n4,n5,n6,n7⟩:=h.noR ad e;have:=hm.size;exact⟨n1,n2,n3,n4,n5,n6,by omega⟩⟩
variable {w4 w5:World} {fs:Nat} {S1:Nat->Prop} {F:List Nd} {vX:Int} {p1:Pool} {L1:List Slot}
theorem kZ {Wc w6:World} {clock:Int}
  (hH:Home w4 B c a fs m S F clock p L) (hO:One w4 B c a m S s t root A n cap rl) (hB:Below w.heap.size w w4) (hz:w.heap.size<=w4.heap.size) (Mb: ∀b,w.heap.size<=b-> ¬aw S c m b) (hb:Below w4.heap.size w4 Wc)
  (hC:au w5 S1 c a fs m vX p1 L1) (xu:Mod (aw S c m) Wc w5) (yX:Out S S1 Wc) (zO:Mod (fun b=>w4.heap.size<=b/\b<Wc.heap.size) w5 w6):
  Home w6 B c a fs m S1 F vX p1 L1/\One w6 B c a m S1 s t root A n cap rl/\(∀b,w.heap.size<=b->b<w4.heap.size->w6.heap[b]? =w4.heap[b]?)/\Mod (aw S c m) w w6/\Out S S1 w/\(∀b,w.heap.size<=b->b<Wc.heap.size-> ¬S1 b):=by
 have h1:=(hH.below hb).step hC xu yX;have h2:=(hO.below hb).foot xu yX;have hzb:=hb.size;have wE: ∀b,w.heap.size<=b->b<Wc.heap.size-> ¬S1 b:=fun b vS wb e=>by
  rcases yX b e with e|e
  ·exact Mb b vS (.inl e)
  ·omega
 have hl:=hH.lts;have wS:=hO.lts;have hBz:=hH.base;have Jm:=xu.size;have OP:=zO.size;refine⟨h1.mod zO (fun b hb=>⟨wE b (by omega) hb.2,by omega,by omega,by omega⟩),h2.mod zO (fun b hb=>⟨by omega,by omega,fun ad e=>by have:=(hO.noR ad e).2.2.2.2.2.2;omega⟩),fun b vS wb=>(zO.block b (by omega) (by omega)).trans ((xu.block b (by omega) (Mb b vS)).trans (hb.block b wb)),?_,fun b e=>(yX b e).imp id (fun e=>by omega),wE⟩;have h3:Mod (fun b=>aw S c m b\/w.heap.size<=b) w w6:=((Mod.of (hB.trans (hb.mono hz))).trans (Out.refl _ _) (xu.sub fun b e=> .inl e)).trans (Out.refl _ _) (zO.sub fun b e=> .inr (by omega));exact h3.own fun b e=>e
def pp (w w4:World) (B c a fs m s t root:Nat) (A:Option Addr) (n cap:Nat) (rl:List Reg) (S:Nat->Prop) (F:List Nd) (clock:Int) (p:Pool) (L:List Slot) (r:Reg) (pg:Nat) (o1 o2:Nat×Obj) (b tk er:Value) (wx:World):Prop:=
 ∃(bb f:Nat) (e1:Int) (tkB:Bool) (p1:Pool) (L1:List Slot) (vX:Int) (S1:Nat->Prop),b= .pointer (some ⟨bb,0,none⟩)/\tk= .bool tkB/\er= .int .i64 e1/\wx.heap[bb]? =some (.cells #[.int .i64 (f:Int), .int .u8 0, .bool (!tkB)] 83 (0,0))/\w4.heap.size<=bb/\ ¬S1 bb/\ ¬S1 w.heap.size/\
  Home wx B c a fs m S1 F vX p1 L1/\One wx B c a m S1 s t root A n cap rl/\wx.heap[o1.1]? =some o1.2/\wx.heap[o2.1]? =some o2.2/\Mod (aw S c m) w wx/\Out S S1 w/\clock<=vX/\vX<=clock+1/\
  ((tkB=false/\dw r pg=true/\GetF F r.ino (srcK r pg) p L clock e1 f p1 L1 vX)\/(tkB=true/\dw r pg=false/\vX=clock/\ax p L e1 f p1 L1))
theorem fo {wx:World} (hH:Home wx B c a fs m S1 F vX p1 L1) (hm:Mod (aw S c m) w wx) (hX:Mod X wx w') (hXn: ∀b,X b->w.heap.size<=b/\ ¬S1 b) (hw:c<w.heap.size/\m<w.heap.size/\B<=w.heap.size):
  Home w' B c a fs m S1 F vX p1 L1/\Mod (aw S c m) w w':=
 ⟨hH.mod hX (fun b hb=>by obtain⟨h1,h2⟩:=hXn b hb;exact⟨h2,by omega,by omega,by omega⟩),((hm.sub (T:=fun b=>aw S c m b\/w.heap.size<=b) fun b e=> .inl e).trans (Out.refl _ _) (hX.sub fun b hb=> .inr (hXn b hb).1)).own fun b e=>e⟩
variable {w3:World} {pg:Nat} {r:Reg} {e1:Int} {o1 o2:Obj} {tkB:Bool}
theorem pW {clock:Int} {o:Obj}
  (hH:Home w4 B c a fs m S F clock p L) (hO:One w4 B c a m S s t root A n cap rl) (hB:Below w.heap.size w w4) (hz:w.heap.size<=w4.heap.size) (Mb: ∀b,w.heap.size<=b-> ¬aw S c m b)
  (hC:au w5 S1 c a fs m vX p1 L1) (xu:Mod (aw S c m) (w4.drew.alloc o) w5) (yX:Out S S1 (w4.drew.alloc o)) (h1:w4.heap[w.heap.size]? =some o1) (h2:w4.heap[w3.heap.size]? =some o2) (yk:w.heap.size<w3.heap.size) (AZ:w3.heap.size<w4.heap.size)
  (hx:w5.heap[w4.heap.size]? =some (.cells #[.int .i64 0, .int .u8 0, .bool false] 83 (0,0))) (Ar:clock<=vX/\vX<=clock+1)
  (wi:(tkB=false/\dw r pg=true/\GetF F r.ino (srcK r pg) p L clock e1 f p1 L1 vX)\/(tkB=true/\dw r pg=false/\vX=clock/\ax p L e1 f p1 L1)):
  pp w w4 B c a fs m s t root A n cap rl S F clock p L r pg (w.heap.size,o1) (w3.heap.size,o2) (.pointer (some ⟨w4.heap.size,0,none⟩)) (.bool tkB) (.int .i64 e1) (((w5.setCell ⟨w4.heap.size,0,none⟩ (.int .i64 (f:Int))).setCell ⟨w4.heap.size,1,none⟩ (.int .u8 0)).setCell ⟨w4.heap.size,2,none⟩ (.bool (!tkB))):=by
 have hb:Below w4.heap.size w4 (w4.drew.alloc o):=((vO w4.heap.size w4).drew).alloc (by simp) _;have Nc:(w4.drew.alloc o).heap.size=w4.heap.size+1:=(by simp);obtain⟨a1,a2,a3,a4,a5,a6⟩:=kZ hH hO hB hz Mb hb hC xu yX ((bg (w:=w5) (b:=w4.heap.size) (.int .i64 (f:Int)) (.int .u8 0) (.bool (!tkB))).sub fun b e=>⟨by omega,by omega⟩);exact⟨_,f,e1,tkB,p1,L1,vX,S1,rfl,rfl,rfl,sx hx,vs _,a6 _ hz (by omega),a6 _ (vs _) (by omega),a1,a2,(a3 _ (vs _) (by omega)).trans h1,(a3 _ (by omega) AZ).trans h2,a4,a5,Ar.1,Ar.2,wi⟩
theorem pX {clock:Int}
  (hH:Home w4 B c a fs m S F clock p L) (hO:One w4 B c a m S s t root A n cap rl) (hB:Below w.heap.size w w4) (hz:w.heap.size<=w4.heap.size) (Mb: ∀b,w.heap.size<=b-> ¬aw S c m b)
  (hC:au w5 S1 c a fs m vX p1 L1) (xu:Mod (aw S c m) w4.drew w5) (yX:Out S S1 w4.drew) (h1:w4.heap[w.heap.size]? =some o1) (h2:w4.heap[w3.heap.size]? =some o2) (yk:w.heap.size<w3.heap.size) (AZ:w3.heap.size<w4.heap.size) (Ar:clock<=vX/\vX<=clock+1)
  (wi:(tkB=false/\dw r pg=true/\GetF F r.ino (srcK r pg) p L clock e1 f p1 L1 vX)\/(tkB=true/\dw r pg=false/\vX=clock/\ax p L e1 f p1 L1)):
  pp w w4 B c a fs m s t root A n cap rl S F clock p L r pg (w.heap.size,o1) (w3.heap.size,o2) (.pointer (some ⟨w5.heap.size,0,none⟩)) (.bool tkB) (.int .i64 e1) (w5.alloc (.cells #[.int .i64 (f:Int), .int .u8 0, .bool (!tkB)] 83)):=by
 have hb:Below w4.heap.size w4 w4.drew:=(vO w4.heap.size w4).drew;obtain⟨a1,a2,a3,a4,a5,a6⟩:=kZ hH hO hB hz Mb hb hC xu yX (Mod.of ((vO w5.heap.size w5).alloc (vs _) (.cells #[.int .i64 (f:Int), .int .u8 0, .bool (!tkB)] 83)));exact⟨_,f,e1,tkB,p1,L1,vX,S1,rfl,rfl,rfl,ab _ _,xu.size,(fun e=>by have:=hC.pool.low _ e;omega),a6 _ (vs _) (by show _ <w4.heap.size;omega),a1,a2,(a3 _ (vs _) (by omega)).trans h1,(a3 _ (by omega) AZ).trans h2,a4,a5,Ar.1,Ar.2,wi⟩
theorem nK (B c a fs m s t root n cap pg:Nat) (A:Option Addr) (rl:List Reg) (r:Reg) (clock Ap:Int) (w:World) (S:Nat->Prop) (F:List Nd) (p:Pool) (L:List Slot) (T:Tab) (hold:Nat->Nat)
  (hH:Home w B c a fs m S F clock p L) (hO:One w B c a m S s t root A n cap rl) (yA:Sp F hold p L T) (ho:Own p T) (hr:T.nd 4 0=some root) (hq:Ask F rl r pg) (hA:Ap=(pg:Int)*4096) (xn: ∀f,hold f<=100000000000) (Ar:0<=clock/\clock<1000000):
  Calls Tryz.prog 121 #[.pointer (some ⟨s,0,none⟩), .int .u64 Ap] w (vm w S c a fs m F clock p L T hold r pg):=by
 obtain⟨q1,q2,q3,q4,q5,q6,q7⟩:=hq.facts;have zj:0<=Ap:=(by omega);have hA9:Ap<140737488355328:=(by omega);obtain⟨w0,vT⟩: ∃w0,w0=w.alloc (.cells #[.int .i64 0, .int .u8 0, .bool false] 83):=⟨_,rfl⟩;have vU:Below w.heap.size w w0:=(by rw[vT];exact vr);have zp:w0.heap[w.heap.size]? =some (.cells #[.int .i64 0, .int .u8 0, .bool false] 83 (0,0)):=(by rw[vT];exact ab w _);have AW:=hO.below vU;have EJ:=hH.below vU;have s2:w0.cell? ⟨s,2,none⟩=some (.pointer (some ⟨t,0,none⟩)):=aa AW.self 2;have Kp:=sz t c a root Ap w0 S p T EJ.cache.pool AW.tab AW.lts.2.1 (yA.good.tree hr) zj;obtain⟨fl,yM⟩: ∃fl,fl=cH T Ap:=⟨_,rfl⟩;rw[<-yM]at Kp;have OI:=vp Kp;have XM:=vp yM;have wD:=vp vT;have xe:=vp vU;have DS:=vp zp;have HO:=vp hO;have HH:=vp hH;have yP:=vp yA;have zl:=vp ho;have HR:=vp hr;have HQ:=vp hq;have HA:=vp hA;have zA:=hO.lts;clear Kp yM vT vU zp hO hH AW EJ yA ho hr hq hA;go_enter Tryz.func121,Tryz.ntmps121;go_upto_region 1 with(fail);rw[<-wD.out];have Bb:Ap.toNat/4096=pg:=(by have:=HA.out;omega);cases wV:T.lf pg with
 |some l=>
  have PR:fl=(l,0):=by
   rw[XM.out];unfold cH;rw[if_neg (by omega),Bb,wV]
  subst PR;have Jh:=vp wV;clear wV;go_wp2_with (first
   |(go_at_call 156;refine(OI.out).mono ?_;rintro e w1 ⟨rfl,vS⟩;have AO:=(vS.block w.heap.size (vo DS.out).1).trans DS.out;have Kb:w.heap.size<w1.heap.size:=(vo AO).1;have z0:w1.cell? ⟨w.heap.size,0,none⟩=some (.int .i64 0):=aa AO 0;have z1:w1.cell? ⟨w.heap.size,1,none⟩=some (.int .u8 0):=aa AO 1;have z2:w1.cell? ⟨w.heap.size,2,none⟩=some (.bool false):=aa AO 2;have zf0:=ae AO 0;have zf1:=ae AO 1;have zf2:=ae AO 2;unfold ap)
   |fail)
  have hB:=(((xe.out.trans (vS.mono xe.out.size)).setCell (p:=⟨w.heap.size,0,none⟩) (vs _) (.int .i64 (l.frame:Int))).setCell (p:=⟨w.heap.size,1,none⟩) (vs _) (.int .u8 (l.prot:Int))).setCell (p:=⟨w.heap.size,2,none⟩) (vs _) (.bool l.copy);have xD:=hB.alloc hB.size (.cells #[.int .i64 (l.frame:Int), .int .u8 (l.prot:Int), .bool l.copy] 83);exact bodyPost_ret (v:= .tuple #[.agg (ap l), .int .i64 0]) (by simp[results,Tryz.results121,go_sem,Kb,z0,z1,z2,zf0,zf1,zf2,ap]) rfl ⟨0,l,p,L,T,clock,S,rfl,(HH.out.below xD).cache,Mod.of xD,Out.refl _ _,Int.le_refl _,by omega,aV.there yP.out zl.out Jh.out⟩
 |none=>
  have PR:fl=(noLeaf,6):=by
   rw[XM.out];unfold cH;rw[if_neg (by omega),Bb,wV]
  subst PR;have Jh:=vp wV;clear wV;have Tj: ∀W,Below w.heap.size w W->Calls Tryz.prog 114 #[.slice A n cap, .int .u64 Ap] W fun e w'=>e= .returned (.tuple #[.agg #[.int .u64 (r).fr, .int .u64 (r).to, .int .u8 (r).prot, .int .i64 (r).ino, .int .u64 (r).off], .bool true])/\Below W.heap.size W w':=fun W hW=>by
   have h1:=lU A n cap Ap W rl (HO.out.below hW).row;rw[HA.out,HQ.out.find]at h1;rw[HA.out];exact h1
  have xv: ∀W,Below w.heap.size w W-> ∀i v,w.cell? ⟨s,i,none⟩=some v->W.cell? ⟨s,i,none⟩=some v:=fun W hW i v h=>(hW.cell (p:=⟨s,i,none⟩) zA.1).trans h;have HREG:=vp Tj;have Hu:=vp xv;clear Tj xv;go_upto_region 4 with(first
   |(go_at_call 156;refine(OI.out).mono ?_;rintro e w1 ⟨rfl,vS⟩;unfold ap noLeaf)
   |fail)
  obtain⟨w2,wO⟩: ∃w2,w2=w1.alloc (.cells #[.int .i64 0, .int .u8 0, .bool false] 83):=⟨_,rfl⟩;rw[<-wO];have xD:Below w.heap.size w w2:=(by rw[wO];exact(xe.out.trans (vS.mono xe.out.size)).alloc (xe.out.trans (vS.mono xe.out.size)).size _);have s3:w2.cell? ⟨s,3,none⟩=some (.slice A n cap):=Hu.out w2 xD 3 _ (aa HO.out.self 3);have MV:=vp (HREG.out w2 xD);have xF:=vp xD;have yt:w2.heap[w.heap.size]? =some (.cells #[.int .i64 0, .int .u8 0, .bool false] 83 (0,0)):=by
   have hl:=(vo DS.out).1;have:=vS.size;rw[wO];exact((vt _ _ _ (by omega)).trans (vS.block _ hl)).trans DS.out
  have Bo:=vp yt;clear wO vS xD yt s2;go_upto_region 5 with(first
   |(go_at_call 114;refine(MV.out).mono ?_;rintro e w3 ⟨rfl,wG⟩)
   |fail)
  obtain⟨w4,yE⟩: ∃w4,w4=w3.alloc (.cells #[.int .u64 r.fr, .int .u64 r.to, .int .u8 r.prot, .int .i64 r.ino, .int .u64 r.off] 45):=⟨_,rfl⟩;rw[<-yE];have BZ:Below w.heap.size w w4:=(by rw[yE];exact(xF.out.trans (wG.mono xF.out.size)).alloc (xF.out.trans (wG.mono xF.out.size)).size _);have RZ:w4.heap[w.heap.size]? =some (.cells #[.int .i64 0, .int .u8 0, .bool false] 83 (0,0)):=by
   have hl:=(vo Bo.out).1;have:=wG.size;rw[yE];exact((vt _ _ _ (by omega)).trans (wG.block _ hl)).trans Bo.out
  have Hm:w4.heap[w3.heap.size]? =some (.cells #[.int .u64 r.fr, .int .u64 r.to, .int .u8 r.prot, .int .i64 r.ino, .int .u64 r.off] 45 (0,0)):=(by rw[yE];exact ab w3 _);have LN:w3.heap.size<w4.heap.size:=(by rw[yE];simp);have yk:w.heap.size<w3.heap.size:=by
   have hl:=(vo Bo.out).1;have:=wG.size;omega
  have xj:=vp BZ;have Ou:=vp RZ;have HR4lt:=vp (show w.heap.size<w4.heap.size from(vo RZ).1);have AY:=vp Hm;have x0:w4.cell? ⟨w3.heap.size,0,none⟩=some (.int .u64 r.fr):=aa Hm 0;have x3:w4.cell? ⟨w3.heap.size,3,none⟩=some (.int .i64 r.ino):=aa Hm 3;have x4:w4.cell? ⟨w3.heap.size,4,none⟩=some (.int .u64 r.off):=aa Hm 4;have Yg:IntKind.u64.wrap (r.off+Ap)=r.off+Ap:=(by rw[IntKind.wrap_u64];omega);have Yf:IntKind.u64.wrap (r.off+Ap-r.fr)=r.off+Ap-r.fr:=(by have:=HA.out;have:=HQ.out.lo;rw[IntKind.wrap_u64];omega);obtain⟨k,hk⟩: ∃k,(r.off+Ap-r.fr)/4096=k:=⟨_,rfl⟩;have Dd:k=srcK r pg:=(by rw[<-hk,HA.out];rfl);have FY:=vp Dd;have zc:0<=k:=(by rw[Dd];exact q7);have Bz:k<1000000000000:=(by omega);have s0:w4.cell? ⟨s,0,none⟩=some (.pointer (some ⟨c,0,none⟩)):=Hu.out w4 BZ 0 _ (aa HO.out.self 0);clear yE wG BZ RZ Hm Dd s3;have Mb: ∀b,w.heap.size<=b-> ¬aw S c m b:=fun b hb e=>by
   have h1:=HH.out.lts;rcases e with e|e|e
   ·have:=h1.2.2 b e;omega
   ·omega
   ·omega
  have Oz:=vp Mb;have Ib:w.heap.size<=w4.heap.size:=xj.out.size;have Xj: ¬aw S c m s:=fun e=>by
   have h1:=HO.out.noS;exact e.elim h1.1 fun e=>e.elim h1.2.1 h1.2.2.1
  have Yy:s<w4.heap.size:=(by omega);have SY:s≠w4.heap.size:=(by omega);clear Mb;have Li:=vp (HH.out.below xj.out);have yl:=vp (HO.out.below xj.out);go_upto_region 7 with(fail);rw[hk];clear hk Yg Yf x0 x4;go_cut [52]from 46 to 52 (fun v wx=>wx=w4/\v= .bool (dw r pg))
  case first=>
   by_cases yj:0<=r.ino
   ·by_cases YW:k<16
    ·go_wp2_with fail
     go_meet
     exact⟨rfl,congrArg Value.bool (vG (p:=0<=r.ino/\srcK r pg<16) (by have:=FY.out;omega)).symm⟩
    ·go_wp2_with fail
     go_meet
     exact⟨rfl,congrArg Value.bool (vF (p:=0<=r.ino/\srcK r pg<16) (by have:=FY.out;omega)).symm⟩
   ·go_wp2_with fail
    go_meet
    exact⟨rfl,congrArg Value.bool (vF (p:=0<=r.ino/\srcK r pg<16) (by have:=FY.out;omega)).symm⟩
  case rest=>
  obtain⟨LP,rfl⟩:=hcut;rw[LP];clear LP wc;go_upto_if 52 with(fail);go_cut [10,52]from 53 to 58 (fun v v52 wx=>wx=w4/\((dw r pg=true/\v= .iface 248 (.agg #[.int .i64 r.ino, .int .i64 k]))\/(dw r pg=false/\v= .iface 244 (.agg #[]))))
  case first=>
   cases Ek:dw r pg with
   |true=>
    have YW:k<16:=(by have h1:=vH Ek;have:=FY.out;omega);have hwk:IntKind.i64.wrap k=k:=(by rw[IntKind.wrap_i64];omega);go_wp2_with fail
    go_meet
    exact⟨rfl, .inl ⟨Ek,rfl⟩⟩
   |false=>
    go_wp2_with fail
    go_meet
    exact⟨rfl, .inr ⟨Ek,rfl⟩⟩
  case rest=>
  obtain⟨LP,yL⟩:=hcut;rw[LP];clear LP wc;have VL:=vp yL;clear yL;go_upto_region 9 with(fail);go_cut [12,13,14]from 59 to 71 (fun b tk er wx=>pp w w4 B c a fs m s t root A n cap rl S F clock p L r pg (w.heap.size, .cells #[.int .i64 0, .int .u8 0, .bool false] 83 (0,0)) (w3.heap.size, .cells #[.int .u64 r.fr, .int .u64 r.to, .int .u8 r.prot, .int .i64 r.ino, .int .u64 r.off] 45 (0,0)) b tk er wx)
  case first=>
   rcases VL.out with⟨Ek,rfl⟩|⟨Ek,rfl⟩
   ·have OJ:=vp Ek;have Ee:=uh (.agg #[.int .i64 r.ino, .int .i64 k]);have Fk: ∀W,Below w.heap.size w W->Calls Tryz.prog 231 #[.agg #[.int .i64 r.ino, .int .i64 k], .pointer (some ⟨c,0,none⟩)] W (nO W S c a fs m F r.ino k clock p L):=fun W hW=>
     rM B c a fs m r.ino k clock W S F p L (HH.out.below hW) (by have h0:=(vH Ek).1;have h1:=HQ.out.ok.ino1;simp only[Lit.wf,Bool.and_eq_true,decide_eq_true_eq];exact⟨Int.le_trans (by decide) h0,Int.le_trans h1 (by decide)⟩) Ar
    have FH:=vp Fk;clear Fk Ek;go_region_held3 (fun w'=>w'.cell? ⟨s,0,none⟩=some (.pointer (some ⟨c,0,none⟩)))
     (first|exact s5|exact s0|exact(bq ((bg _ _ _).block s Lt SY)).trans s5|go_keep)
     ((first
     |(go_simp;rw[iN _ _ _ (by kernel_rfl)];simp only[Result.andThen];rw[kg,Oper.upon_enter];refine(FH.out w4.drew xj.out.drew).mono ?_;rintro e w5 ⟨er,f,p1,L1,vX,S1,rfl,Dn,xu,yX,Df⟩;unfold ap;have s5:w5.cell? ⟨s,0,none⟩=some (.pointer (some ⟨c,0,none⟩)):=(bq (xu.block s (by simp;omega) Xj)).trans (s0);have Lt:s<w5.heap.size:=World.block_lt_of_cell? _ _ s5;have Ga:=vp Dn;have CO:=vp xu;have BM:=vp yX;have GP:=vp Df;have Kc:=vp Dn.pool.low;clear Dn yX Df)
     |(go_simp;rw[iN _ _ _ (by kernel_rfl)];simp only[Result.andThen];rw[kg,Oper.upon_enter];refine(FH.out (w4.drew.alloc _) (xj.out.drew.alloc xj.out.drew.size _)).mono ?_;rintro e w5 ⟨er,f,p1,L1,vX,S1,rfl,Dn,xu,yX,Df⟩;unfold ap;have s5:w5.cell? ⟨s,0,none⟩=some (.pointer (some ⟨c,0,none⟩)):=(bq (xu.block s (by simp;omega) Xj)).trans ((ko (vt _ _ _ (by simp;omega)) 0).trans s0);have Lt:s<w5.heap.size:=World.block_lt_of_cell? _ _ s5;have Ga:=vp Dn;have CO:=vp xu;have BM:=vp yX;have GP:=vp Df;have Kc:=vp Dn.pool.low;clear Dn yX Df;have xx:w5.heap[w4.heap.size]? =some (.cells #[.int .i64 0, .int .u8 0, .bool false] 83 (0,0)):=(xu.block w4.heap.size (by simp) (Oz.out w4.heap.size Ib)).trans (ab w4.drew _);have k0:w5.cell? ⟨w4.heap.size,0,none⟩=some (.int .i64 0):=aa xx 0;have k1:w5.cell? ⟨w4.heap.size,1,none⟩=some (.int .u8 0):=aa xx 1;have k2:w5.cell? ⟨w4.heap.size,2,none⟩=some (.bool false):=aa xx 2;have kf0:w5.frozen? ⟨w4.heap.size,0,none⟩=false:=ae xx 0;have kf1:w5.frozen? ⟨w4.heap.size,1,none⟩=false:=ae xx 1;have kf2:w5.frozen? ⟨w4.heap.size,2,none⟩=false:=ae xx 2)))
    all_goals
     go_wp2_with fail
     go_meet
     first
     |exact pW Li.out yl.out xj.out Ib Oz.out Ga.out CO.out BM.out Ou.out AY.out yk LN xx (dz.clock GP.out) (.inl ⟨rfl,OJ.out,by rw[<-FY.out];exact GP.out⟩)
     |exact pX Li.out yl.out xj.out Ib Oz.out Ga.out CO.out BM.out Ou.out AY.out yk LN (dz.clock GP.out) (.inl ⟨rfl,OJ.out,by rw[<-FY.out];exact GP.out⟩)
   ·have OJ:=vp Ek;have Ee:=uC (.agg #[]);have Fk: ∀W,Below w.heap.size w W->Calls Tryz.prog 230 #[.agg #[], .pointer (some ⟨c,0,none⟩)] W (nR W S c a fs m clock p L):=fun W hW=>
     rV B c a fs m clock W S F p L (HH.out.below hW)
    have FH:=vp Fk;clear Fk Ek;go_region_held3 (fun w'=>w'.cell? ⟨s,0,none⟩=some (.pointer (some ⟨c,0,none⟩)))
     (first|exact s5|exact s0|exact(bq ((bg _ _ _).block s Lt SY)).trans s5|go_keep)
     ((first
     |(go_simp;rw[iP _ _ _ (by kernel_rfl)];simp only[Result.andThen];rw[kh,Oper.upon_enter];refine(FH.out w4.drew xj.out.drew).mono ?_;rintro e w5 ⟨er,f,p1,L1,S1,rfl,Dn,xu,yX,Df⟩;unfold ap;have s5:w5.cell? ⟨s,0,none⟩=some (.pointer (some ⟨c,0,none⟩)):=(bq (xu.block s (by simp;omega) Xj)).trans (s0);have Lt:s<w5.heap.size:=World.block_lt_of_cell? _ _ s5;have Ga:=vp Dn;have CO:=vp xu;have BM:=vp yX;have GP:=vp Df;have Kc:=vp Dn.pool.low;clear Dn yX Df)
     |(go_simp;rw[iP _ _ _ (by kernel_rfl)];simp only[Result.andThen];rw[kh,Oper.upon_enter];refine(FH.out (w4.drew.alloc _) (xj.out.drew.alloc xj.out.drew.size _)).mono ?_;rintro e w5 ⟨er,f,p1,L1,S1,rfl,Dn,xu,yX,Df⟩;unfold ap;have s5:w5.cell? ⟨s,0,none⟩=some (.pointer (some ⟨c,0,none⟩)):=(bq (xu.block s (by simp;omega) Xj)).trans ((ko (vt _ _ _ (by simp;omega)) 0).trans s0);have Lt:s<w5.heap.size:=World.block_lt_of_cell? _ _ s5;have Ga:=vp Dn;have CO:=vp xu;have BM:=vp yX;have GP:=vp Df;have Kc:=vp Dn.pool.low;clear Dn yX Df;have xx:w5.heap[w4.heap.size]? =some (.cells #[.int .i64 0, .int .u8 0, .bool false] 83 (0,0)):=(xu.block w4.heap.size (by simp) (Oz.out w4.heap.size Ib)).trans (ab w4.drew _);have k0:w5.cell? ⟨w4.heap.size,0,none⟩=some (.int .i64 0):=aa xx 0;have k1:w5.cell? ⟨w4.heap.size,1,none⟩=some (.int .u8 0):=aa xx 1;have k2:w5.cell? ⟨w4.heap.size,2,none⟩=some (.bool false):=aa xx 2;have kf0:w5.frozen? ⟨w4.heap.size,0,none⟩=false:=ae xx 0;have kf1:w5.frozen? ⟨w4.heap.size,1,none⟩=false:=ae xx 1;have kf2:w5.frozen? ⟨w4.heap.size,2,none⟩=false:=ae xx 2)))
    all_goals
     go_wp2_with fail
     go_meet
     first
     |exact pW Li.out yl.out xj.out Ib Oz.out Ga.out CO.out BM.out Ou.out AY.out yk LN xx ⟨Int.le_refl _,by omega⟩ (.inr ⟨rfl,OJ.out,rfl,GP.out⟩)
     |exact pX Li.out yl.out xj.out Ib Oz.out Ga.out CO.out BM.out Ou.out AY.out yk LN ⟨Int.le_refl _,by omega⟩ (.inr ⟨rfl,OJ.out,rfl,GP.out⟩)
  case rest=>
  obtain⟨bb,f,e1,tkB,p1,L1,vX,S1,rfl,rfl,rfl,RU,Iz,IA,KG,Ve,Dm,Hp,Sd,zO,Cm,yr,Au,wi⟩:=hcut;dsimp only at Hp Sd;have IG:=vp RU;have MT:=vp Ve;have Lb:=vp Dm;have HR6:=vp Hp;have Ri:=vp Sd;have Jg:=vp zO;have KT:=vp Cm;have wP:=vp wi;have OU:w.heap.size<wc.heap.size:=(vo Hp).1;have z0:wc.cell? ⟨w.heap.size,0,none⟩=some (.int .i64 0):=aa Hp 0;have z1:wc.cell? ⟨w.heap.size,1,none⟩=some (.int .u8 0):=aa Hp 1;have z2:wc.cell? ⟨w.heap.size,2,none⟩=some (.bool false):=aa Hp 2;have zf0:=ae Hp 0;have zf1:=ae Hp 1;have zf2:=ae Hp 2;have zd:bb≠w.heap.size:=(by omega);clear RU Ve Dm Hp Sd zO Cm wi VL;by_cases he:e1=0
  rotate_left
  ·have wg:(e1 != 0)=true:=(by rw[bne_iff_ne];exact he);have HE:=vp he;clear he;go_wp2_with fail;refine bodyPost_ret (v:= .tuple #[.agg (ap ⟨0,0,false⟩), .int .i64 e1]) (by simp[results,Tryz.results121,go_sem,OU,z0,z1,z2,zf0,zf1,zf2,ap]) rfl ?_;have wE:e1=4/\p1=p/\L1=L/\ax p L 4 0 p L:=by
    rcases wP.out with⟨_,h2,h3⟩|⟨_,h2,_,h3⟩
    ·have h4:=vH h2;obtain⟨y,hy,Mj⟩:=HQ.out.file h4.1;exact dz.four h3 q7 h4.2 (rd h4.1 hy Mj) HE.out
    ·rcases h3.two with e|⟨e,e2,e3,e4⟩
     ·exact absurd e HE.out
     ·subst e e2 e3 e4;exact⟨rfl,rfl,rfl,h3⟩
   obtain⟨rfl,rfl,rfl,ht⟩:=wE;obtain⟨b1,b2⟩:=fo MT.out Jg.out (bg (w:=wc) (b:=w.heap.size) (.int .i64 0) (.int .u8 0) (.bool false)) (fun b hb=>⟨by omega,by rw[hb];exact KG⟩) ⟨HH.out.lts.1,HH.out.lts.2.1,HH.out.base⟩;exact⟨4,⟨0,0,false⟩,_,_,T,vX,S1,rfl,b1.cache,b2,KT.out,yr,Au,aV.no yP.out zl.out Jh.out (yP.out.full ht)⟩
  subst he;cases tkB with
  |false=>
   obtain⟨_,Ek,De⟩:false=false/\dw r pg=true/\GetF F r.ino (srcK r pg) p L clock 0 f p1 L1 vX:=wP.out.resolve_right (fun e=>by cases e.1);obtain⟨a1,a2,a3,a4,a5⟩:=yP.out.get De;obtain⟨yM,c2,c3,BV,c5,c6⟩:=a5 rfl;have WA:=vp De;have OJ:=vp Ek;have g2:wc.cell? ⟨w3.heap.size,2,none⟩=some (.int .u8 r.prot):=aa Ri.out 2;have x1:wc.cell? ⟨bb,1,none⟩=some (.int .u8 0):=aa IG.out 1;have xf1:=ae IG.out 1;go_upto_region 13 with(fail);obtain⟨w7,yv⟩: ∃w7,w7=wc.setCell ⟨bb,1,none⟩ (.int .u8 r.prot):=⟨_,rfl⟩;rw[<-yv];have xw:Mod (fun b=>b=bb) wc w7:=(by rw[yv];exact aj (S:=fun b=>b=bb) rfl 1 _);have CU:w7.heap[bb]? =some (.cells #[.int .i64 (f:Int), .int .u8 r.prot, .bool true] 83 (0,0)):=by
    rw[yv];have:=Joins.block_setCell (i:=1) IG.out (.int .u8 r.prot);simpa using this
   obtain⟨Qy,Og⟩:=fo MT.out Jg.out xw (fun b hb=>⟨by omega,by rw[hb];exact IA⟩) ⟨HH.out.lts.1,HH.out.lts.2.1,HH.out.base⟩;have DM:One w7 B c a m S1 s t root A n cap rl:=Lb.out.mod xw (fun b hb=>⟨by omega,by omega,fun ad e=>by have:=(HO.out.noR ad e).2.2.2.2.2.2;omega⟩);have LB:=(xw.block w.heap.size OU (by omega)).trans HR6.out;have Jr:w.heap.size<w7.heap.size:=(vo LB).1;have KA:bb<w7.heap.size:=(vo CU).1;have CT:=HH.out.lts;have Gw:bb≠m:=(by omega);have Yh:w.heap.size≠m:=(by omega);have hP:(r.prot.toNat:Int)=r.prot:=(by omega);have s2:w7.cell? ⟨s,2,none⟩=some (.pointer (some ⟨t,0,none⟩)):=aa DM.self 2;have b0:w7.cell? ⟨bb,0,none⟩=some (.int .i64 (f:Int)):=aa CU 0;have b1:w7.cell? ⟨bb,1,none⟩=some (.int .u8 r.prot):=aa CU 1;have b2:w7.cell? ⟨bb,2,none⟩=some (.bool true):=aa CU 2;have Sk:Hid (T.lf (Ap.toNat/4096)=none):=vp (by rw[Bb];exact Jh.out);have hmap:=lp t c a root fs m vX Ap (f:Int) r.prot true w7.drew S1 p1 T L1 hold 0 ⟨f,r.prot.toNat,true⟩ (Qy.cache.below (vO w7.heap.size w7).drew) DM.tab DM.noT.1 DM.noT.2.1 a1.good HR.out zj hA9 (by have:=HA.out;omega) (by omega) (by rw[aM yM];omega) (by rw[Sk.out];rfl) rfl hP.symm rfl yM BV (by show p1.cnt f+1<1000000000000;have:=a1.cap yM;have:=xn f;omega);rw[Bb]at hmap;clear a1 a2 a3 a4 a5 De Ek c2 c3 c5 c6;have GL:=vp hmap;have HH7:=vp Qy;have MN:=vp DM;have IL:=vp Og;have Ht:=vp CU;have VX:=vp LB;clear hmap Qy DM Og CU LB yv xw g2 x1 xf1 z0 z1 z2 zf0 zf1 zf2 Bb
   go_still_tail 6,(by kernel_rfl)
   go_wp2_with fail;refine(GL.out).mono ?_;rintro e w8 ⟨er2,p2,T2,L2,S2,rfl,Vm,zz,Ha,EW,Ac⟩;have zb:=zz.undrew;have Gm: ∀b,b<w7.heap.size-> ¬S1 b-> ¬S2 b:=fun b hb h1 e=>(Ha b e).elim h1 (fun e=>by have:w7.heap.size<=b:=e;omega);have Od:=(zb.block bb KA (fun e=>e.elim IA Gw)).trans Ht.out;have Oe:=(zb.block w.heap.size Jr (fun e=>e.elim KG Yh)).trans VX.out;have OW:w.heap.size<w8.heap.size:=(vo Oe).1;have Qg:bb<w8.heap.size:=(vo Od).1;have Vd:=HH7.out.step Vm (zb.sub fun b hb=>hb.elim .inl fun e=> .inr (.inl e)) Ha;have Va:Mod (aw S c m) w w8:=IL.out.trans (fun b e=>by
    rcases e with e|e|e
    ·exact(KT.out b e).imp .inl id
    ·exact .inl (.inr (.inl e))
    ·exact .inl (.inr (.inr e))) (zb.sub (T:=aw S1 c m) fun b hb=>hb.elim .inl fun e=> .inr (.inl e))
   have Of:Out S S2 w:=fun b e=>(Ha b e).elim (fun e=>KT.out b e) (fun e=> .inr (by have:w7.heap.size<=b:=e;omega));have UT:=Gm bb KA IA;have Mw:=Gm w.heap.size Jr KG;have Oy:=vp (MN.out.foot (zb.sub fun b hb=>hb.elim .inl fun e=> .inr (.inl e)) Ha);have Wv:=vp Vd;have FF:=vp Va;have MC:=vp Of;have KY:=vp EW;have Ll:=vp Ac;have Om:=vp Od;have FV:=vp Oe;clear Vm zz Ha EW Ac zb Gm Vd Va Of s2 b0 b1 b2;have k0:w8.cell? ⟨bb,0,none⟩=some (.int .i64 (f:Int)):=aa Om.out 0;have k1:w8.cell? ⟨bb,1,none⟩=some (.int .u8 r.prot):=aa Om.out 1;have k2:w8.cell? ⟨bb,2,none⟩=some (.bool true):=aa Om.out 2;have z0:w8.cell? ⟨w.heap.size,0,none⟩=some (.int .i64 0):=aa FV.out 0;have z1:w8.cell? ⟨w.heap.size,1,none⟩=some (.int .u8 0):=aa FV.out 1;have z2:w8.cell? ⟨w.heap.size,2,none⟩=some (.bool false):=aa FV.out 2;have zf0:=ae FV.out 0;have zf1:=ae FV.out 1;have zf2:=ae FV.out 2;go_wp2_with fail;refine bodyPost_ret (v:= .tuple #[.agg (ap ⟨f,r.prot.toNat,true⟩), .int .i64 er2]) (by simp[results,Tryz.results121,go_sem,OW,Qg,z0,z1,z2,zf0,zf1,zf2,ap,hP]) rfl ?_;obtain⟨e1,e2⟩:=fo Wv.out FF.out (bg (w:=w8) (b:=w.heap.size) (.int .i64 (f:Int)) (.int .u8 r.prot) (.bool true)) (fun b hb=>⟨by omega,by rw[hb];exact Mw⟩) ⟨HH.out.lts.1,HH.out.lts.2.1,HH.out.base⟩;exact⟨er2,_,p2,L2,T2,vX,S2,rfl,e1.cache,e2,MC.out,yr,Au,aV.filed (ino:=r.ino) (clock:=clock) yP.out zl.out (by show pg<68719476736;omega) Jh.out OJ.out WA.out rfl KY.out Ll.out⟩
  |true=>
   obtain⟨_,Ek,Zw,De⟩:true=true/\dw r pg=false/\vX=clock/\ax p L 0 f p1 L1:=wP.out.resolve_left (fun e=>by cases e.1);obtain⟨a1,a2,a3,a4,a5⟩:=yP.out.take De;have yM:f<p1.n:=(by rw[(a2 fun _ =>False).n];exact a5.lt);have BV:1<=p1.cnt f:=(by rw[a5.one];exact vs _);have WA:=vp De;have OJ:=vp Ek;have g2:wc.cell? ⟨w3.heap.size,2,none⟩=some (.int .u8 r.prot):=aa Ri.out 2;have x1:wc.cell? ⟨bb,1,none⟩=some (.int .u8 0):=aa IG.out 1;have xf1:=ae IG.out 1;go_upto_region 13 with(fail);obtain⟨w7,yv⟩: ∃w7,w7=wc.setCell ⟨bb,1,none⟩ (.int .u8 r.prot):=⟨_,rfl⟩;rw[<-yv];have xw:Mod (fun b=>b=bb) wc w7:=(by rw[yv];exact aj (S:=fun b=>b=bb) rfl 1 _);have CU:w7.heap[bb]? =some (.cells #[.int .i64 (f:Int), .int .u8 r.prot, .bool false] 83 (0,0)):=by
    rw[yv];have:=Joins.block_setCell (i:=1) IG.out (.int .u8 r.prot);simpa using this
   obtain⟨Qy,Og⟩:=fo MT.out Jg.out xw (fun b hb=>⟨by omega,by rw[hb];exact IA⟩) ⟨HH.out.lts.1,HH.out.lts.2.1,HH.out.base⟩;have DM:One w7 B c a m S1 s t root A n cap rl:=Lb.out.mod xw (fun b hb=>⟨by omega,by omega,fun ad e=>by have:=(HO.out.noR ad e).2.2.2.2.2.2;omega⟩);have LB:=(xw.block w.heap.size OU (by omega)).trans HR6.out;have Jr:w.heap.size<w7.heap.size:=(vo LB).1;have KA:bb<w7.heap.size:=(vo CU).1;have CT:=HH.out.lts;have Gw:bb≠m:=(by omega);have Yh:w.heap.size≠m:=(by omega);have hP:(r.prot.toNat:Int)=r.prot:=(by omega);have s2:w7.cell? ⟨s,2,none⟩=some (.pointer (some ⟨t,0,none⟩)):=aa DM.self 2;have b0:w7.cell? ⟨bb,0,none⟩=some (.int .i64 (f:Int)):=aa CU 0;have b1:w7.cell? ⟨bb,1,none⟩=some (.int .u8 r.prot):=aa CU 1;have b2:w7.cell? ⟨bb,2,none⟩=some (.bool false):=aa CU 2;have Sk:Hid (T.lf (Ap.toNat/4096)=none):=vp (by rw[Bb];exact Jh.out);have hmap:=lp t c a root fs m vX Ap (f:Int) r.prot false w7.drew S1 p1 T L1 (upd hold f 1) 0 ⟨f,r.prot.toNat,false⟩ (Qy.cache.below (vO w7.heap.size w7).drew) DM.tab DM.noT.1 DM.noT.2.1 a1.good HR.out zj hA9 (by have:=HA.out;omega) (by omega) (by rw[aM yM];omega) (by rw[Sk.out];rfl) rfl hP.symm rfl yM BV (by show p1.cnt f+1<1000000000000;rw[a5.one];decide);rw[Bb]at hmap;clear a1 a2 a3 a4 a5 De Ek;have GL:=vp hmap;have HH7:=vp Qy;have MN:=vp DM;have IL:=vp Og;have Ht:=vp CU;have VX:=vp LB;clear hmap Qy DM Og CU LB yv xw g2 x1 xf1 z0 z1 z2 zf0 zf1 zf2 Bb
   go_still_tail 6,(by kernel_rfl)
   go_wp2_with fail;refine(GL.out).mono ?_;rintro e w8 ⟨er2,p2,T2,L2,S2,rfl,Vm,zz,Ha,EW,Ac⟩;have zb:=zz.undrew;have Gm: ∀b,b<w7.heap.size-> ¬S1 b-> ¬S2 b:=fun b hb h1 e=>(Ha b e).elim h1 (fun e=>by have:w7.heap.size<=b:=e;omega);have Od:=(zb.block bb KA (fun e=>e.elim IA Gw)).trans Ht.out;have Oe:=(zb.block w.heap.size Jr (fun e=>e.elim KG Yh)).trans VX.out;have OW:w.heap.size<w8.heap.size:=(vo Oe).1;have Qg:bb<w8.heap.size:=(vo Od).1;have Vd:=HH7.out.step Vm (zb.sub fun b hb=>hb.elim .inl fun e=> .inr (.inl e)) Ha;have Va:Mod (aw S c m) w w8:=IL.out.trans (fun b e=>by
    rcases e with e|e|e
    ·exact(KT.out b e).imp .inl id
    ·exact .inl (.inr (.inl e))
    ·exact .inl (.inr (.inr e))) (zb.sub (T:=aw S1 c m) fun b hb=>hb.elim .inl fun e=> .inr (.inl e))
   have Of:Out S S2 w:=fun b e=>(Ha b e).elim (fun e=>KT.out b e) (fun e=> .inr (by have:w7.heap.size<=b:=e;omega));have UT:=Gm bb KA IA;have Mw:=Gm w.heap.size Jr KG;have Oy:=vp (MN.out.foot (zb.sub fun b hb=>hb.elim .inl fun e=> .inr (.inl e)) Ha);have Wv:=vp Vd;have FF:=vp Va;have MC:=vp Of;have KY:=vp EW;have Ll:=vp Ac;have Om:=vp Od;have FV:=vp Oe;clear Vm zz Ha EW Ac zb Gm Vd Va Of s2 b0 b1 b2;rcases wP.out with⟨hf9,_⟩|⟨_,Ek,_,De⟩
   ·exact absurd hf9 (by decide)
   have IX:=aV.blank yP.out zl.out (by show pg<68719476736;omega) Jh.out Ek De rfl KY.out Ll.out;have Mm:=cZ a f w8.drew S2 p2 Wv.out.cache.pool.drew IX.2.1 IX.2.2;have k0:w8.cell? ⟨bb,0,none⟩=some (.int .i64 (f:Int)):=aa Om.out 0;have s1:w8.cell? ⟨s,1,none⟩=some (.pointer (some ⟨a,0,none⟩)):=aa Oy.out.self 1;have Lo:=vp IX;have WJ:=vp Mm;clear Ek De IX Mm;go_upto_region 15 with(fail)
   go_still_tail 6,(by kernel_rfl)
   go_wp2_with fail;refine(WJ.out).mono ?_;rintro e w9 ⟨rfl,KH,Mg⟩;have zy:=Mg.undrew;have RT:=(zy.block bb Qg UT).trans Om.out;have RY:=(zy.block w.heap.size OW Mw).trans FV.out;have OV:w.heap.size<w9.heap.size:=(vo RY).1;have Zz:bb<w9.heap.size:=(vo RT).1;have hC9:=Wv.out.cache.turn zy KH (Out.refl _ _);have HH9:=vp (Wv.out.step hC9 (zy.sub fun b hb=> .inl hb) (Out.refl _ _));have HM9:Hid (Mod (aw S c m) w w9):=vp (FF.out.trans (fun b e=>(MC.out b e).imp .inl id) zy);have QI:=vp RT;have Si:=vp RY;clear zy Mg RT RY hC9 KH k0 s1;have k0:w9.cell? ⟨bb,0,none⟩=some (.int .i64 (f:Int)):=aa QI.out 0;have k1:w9.cell? ⟨bb,1,none⟩=some (.int .u8 r.prot):=aa QI.out 1;have k2:w9.cell? ⟨bb,2,none⟩=some (.bool false):=aa QI.out 2;have z0:w9.cell? ⟨w.heap.size,0,none⟩=some (.int .i64 0):=aa Si.out 0;have z1:w9.cell? ⟨w.heap.size,1,none⟩=some (.int .u8 0):=aa Si.out 1;have z2:w9.cell? ⟨w.heap.size,2,none⟩=some (.bool false):=aa Si.out 2;have zf0:=ae Si.out 0;have zf1:=ae Si.out 1;have zf2:=ae Si.out 2;go_wp2_with fail;refine bodyPost_ret (v:= .tuple #[.agg (ap ⟨f,r.prot.toNat,false⟩), .int .i64 er2]) (by simp[results,Tryz.results121,go_sem,OV,Zz,z0,z1,z2,zf0,zf1,zf2,ap,hP]) rfl ?_;obtain⟨e1,e2⟩:=fo HH9.out HM9.out (bg (w:=w9) (b:=w.heap.size) (.int .i64 (f:Int)) (.int .u8 r.prot) (.bool false)) (fun b hb=>⟨by omega,by rw[hb];exact Mw⟩) ⟨HH.out.lts.1,HH.out.lts.2.1,HH.out.base⟩;exact⟨er2,_,p2.down f,L2,T2,vX,S2,rfl,e1.cache,e2,MC.out,yr,Au,Lo.out.1⟩
end
