/- Spaces: bring. -/
import Derived.Test.YtoochjhipmpehaaGreatDoorSbK
set_option linter.unusedVariables false
set_option linter.unusedSimpArgs false
set_option maxRecDepth 100000
set_option maxHeartbeats 8000000
namespace Go.Proofs.YtoochjhipmpehaaGreatDoor
section
open Go.RowKit Go.Sort
theorem iL (v:Value) (w:World) (n:Nat) (hn:n=Tryz.prog.types.size+Made.depth):(method n 248 v "hostel/space.leaf").run Tryz.prog w= .ok (231,v) w:=by
 subst hn;kernel_rfl
theorem iM (v:Value) (w:World) (n:Nat) (hn:n=Tryz.prog.types.size+Made.depth):(method n 244 v "hostel/space.leaf").run Tryz.prog w= .ok (230,v) w:=by
 subst hn;kernel_rfl
theorem tE (v:Value) (n:Nat) (W:World):(nilAhead (n+1) 248 v "hostel/space.leaf").run Tryz.prog W= .ok (some false) W:=by kernel_rfl
theorem tT (v:Value) (n:Nat) (W:World):(nilAhead (n+1) 244 v "hostel/space.leaf").run Tryz.prog W= .ok (some false) W:=by kernel_rfl
theorem jX (v x:Value) (w:World):(callFunc 231 #[v,x]).run Tryz.prog w= .ok (.enter 231 #[v,x]) w:=by kernel_rfl
theorem jY (v x:Value) (w:World):(callFunc 230 #[v,x]).run Tryz.prog w= .ok (.enter 230 #[v,x]) w:=by kernel_rfl
variable {w w':World}
theorem bA {b i:Nat} (h:w'.heap[b]? =w.heap[b]?):w'.cell? ⟨b,i,none⟩=w.cell? ⟨b,i,none⟩:=by unfold World.cell?;simp only[h]
def uH (w:World) (S:Nat->Prop) (c a fs m:Nat) (F:List Nd) (clock:Int) (p:Pool) (L:List Slot) (T:Tab) (hold:Nat->Nat) (r:Reg) (pg:Nat) (e:Ending) (w':World):Prop:=
 ∃er l p' L' T' vm S',e= .returned (.tuple #[.agg (aq l), .int .i64 er])/\ap w' S' c a fs m vm p' L'/\Mod (av S c m) w w'/\Out S S' w/\clock<=vm/\vm<=clock+1/\aZ F hold r pg p L T er l p' L' T'
variable {p:Pool} {L:List Slot} {f:Nat}
theorem dF.clock {ino page r0:Int} {k:Nat} {d:Nat->Nat} {p':Pool} {L':List Slot} {clock vm r:Int} (h:dF ino page r0 k d p L clock r f p' L' vm):clock<=vm/\vm<=clock+1:=by
 cases h<;>constructor<;>omega
variable {B c a m s t root n cap:Nat} {S X:Nat->Prop} {A:Option Addr} {rl:List Reg}
theorem One.mod (h:One w B c a m S s t root A n cap rl) (hm:Mod X w w') (hX: ∀b,X b->b≠s/\b≠t/\ ∀ad,A=some ad->ad.block≠b):One w' B c a m S s t root A n cap rl:=
 ⟨(
  hm.block s h.lts.1 (fun e=>(hX s e).1 rfl)).trans h.self,(hm.block t h.lts.2.1 (fun e=>(hX t e).2.1 rfl)).trans h.tab,h.row.mod hm (fun ad e x=>(hX _ x).2.2 ad e rfl),h.noS,h.noT,fun ad e=>by
  obtain⟨n1,n2,n3,n4,n5,n6,n7⟩:=h.noR ad e;have:=hm.size;exact⟨n1,n2,n3,n4,n5,n6,by omega⟩⟩
variable {w4 w5:World} {fs:Nat} {S1:Nat->Prop} {F:List Nd} {vt:Int} {p1:Pool} {L1:List Slot}
theorem kQ {Wc w6:World} {clock:Int}
  (hH:Home w4 B c a fs m S F clock p L) (hO:One w4 B c a m S s t root A n cap rl) (hB:Below w.heap.size w w4) (hz:w.heap.size<=w4.heap.size) (Me: ∀b,w.heap.size<=b-> ¬av S c m b) (hb:Below w4.heap.size w4 Wc)
  (hC:ap w5 S1 c a fs m vt p1 L1) (wy:Mod (av S c m) Wc w5) (xW:Out S S1 Wc) (zN:Mod (fun b=>w4.heap.size<=b/\b<Wc.heap.size) w5 w6):
  Home w6 B c a fs m S1 F vt p1 L1/\One w6 B c a m S1 s t root A n cap rl/\(∀b,w.heap.size<=b->b<w4.heap.size->w6.heap[b]? =w4.heap[b]?)/\Mod (av S c m) w w6/\Out S S1 w/\(∀b,w.heap.size<=b->b<Wc.heap.size-> ¬S1 b):=by
 have h1:=(hH.below hb).step hC wy xW;have h2:=(hO.below hb).foot wy xW;have hzb:=hb.size;have vL: ∀b,w.heap.size<=b->b<Wc.heap.size-> ¬S1 b:=fun b vl vs e=>by
  rcases xW b e with e|e
  ·exact Me b vl (.inl e)
  ·omega
 have hl:=hH.lts;have wk:=hO.lts;have hBz:=hH.base;have Lw:=wy.size;have Rf:=zN.size;refine⟨h1.mod zN (fun b hb=>⟨vL b (by omega) hb.2,by omega,by omega,by omega⟩),h2.mod zN (fun b hb=>⟨by omega,by omega,fun ad e=>by have:=(hO.noR ad e).2.2.2.2.2.2;omega⟩),fun b vl vs=>(zN.block b (by omega) (by omega)).trans ((wy.block b (by omega) (Me b vl)).trans (hb.block b vs)),?_,fun b e=>(xW b e).imp id (fun e=>by omega),vL⟩;have h3:Mod (fun b=>av S c m b\/w.heap.size<=b) w w6:=((Mod.of (hB.trans (hb.mono hz))).trans (Out.refl _ _) (wy.sub fun b e=> .inl e)).trans (Out.refl _ _) (zN.sub fun b e=> .inr (by omega));exact h3.own fun b e=>e
def pp (w w4:World) (B c a fs m s t root:Nat) (A:Option Addr) (n cap:Nat) (rl:List Reg) (S:Nat->Prop) (F:List Nd) (clock:Int) (p:Pool) (L:List Slot) (r:Reg) (pg:Nat) (o1 o2:Nat×Obj) (b tk er:Value) (wx:World):Prop:=
 ∃(bb f:Nat) (e1:Int) (tkB:Bool) (p1:Pool) (L1:List Slot) (vt:Int) (S1:Nat->Prop),b= .pointer (some ⟨bb,0,none⟩)/\tk= .bool tkB/\er= .int .i64 e1/\wx.heap[bb]? =some (.cells #[.int .i64 (f:Int), .int .u8 0, .bool (!tkB)] 83 (0,0))/\w4.heap.size<=bb/\ ¬S1 bb/\ ¬S1 w.heap.size/\
  Home wx B c a fs m S1 F vt p1 L1/\One wx B c a m S1 s t root A n cap rl/\wx.heap[o1.1]? =some o1.2/\wx.heap[o2.1]? =some o2.2/\Mod (av S c m) w wx/\Out S S1 w/\clock<=vt/\vt<=clock+1/\
  ((tkB=false/\dA r pg=true/\GetF F r.ino (srcK r pg) p L clock e1 f p1 L1 vt)\/(tkB=true/\dA r pg=false/\vt=clock/\ax p L e1 f p1 L1))
theorem fo {wx:World} (hH:Home wx B c a fs m S1 F vt p1 L1) (hm:Mod (av S c m) w wx) (hX:Mod X wx w') (hXn: ∀b,X b->w.heap.size<=b/\ ¬S1 b) (hw:c<w.heap.size/\m<w.heap.size/\B<=w.heap.size):
  Home w' B c a fs m S1 F vt p1 L1/\Mod (av S c m) w w':=
 ⟨hH.mod hX (fun b hb=>by obtain⟨h1,h2⟩:=hXn b hb;exact⟨h2,by omega,by omega,by omega⟩),((hm.sub (T:=fun b=>av S c m b\/w.heap.size<=b) fun b e=> .inl e).trans (Out.refl _ _) (hX.sub fun b hb=> .inr (hXn b hb).1)).own fun b e=>e⟩
variable {w3:World} {pg:Nat} {r:Reg} {e1:Int} {o1 o2:Obj} {tkB:Bool}
theorem pV {clock:Int} {o:Obj}
  (hH:Home w4 B c a fs m S F clock p L) (hO:One w4 B c a m S s t root A n cap rl) (hB:Below w.heap.size w w4) (hz:w.heap.size<=w4.heap.size) (Me: ∀b,w.heap.size<=b-> ¬av S c m b)
  (hC:ap w5 S1 c a fs m vt p1 L1) (wy:Mod (av S c m) (w4.drew.alloc o) w5) (xW:Out S S1 (w4.drew.alloc o)) (h1:w4.heap[w.heap.size]? =some o1) (h2:w4.heap[w3.heap.size]? =some o2) (xI:w.heap.size<w3.heap.size) (AU:w3.heap.size<w4.heap.size)
  (hx:w5.heap[w4.heap.size]? =some (.cells #[.int .i64 0, .int .u8 0, .bool false] 83 (0,0))) (Al:clock<=vt/\vt<=clock+1)
  (vD:(tkB=false/\dA r pg=true/\GetF F r.ino (srcK r pg) p L clock e1 f p1 L1 vt)\/(tkB=true/\dA r pg=false/\vt=clock/\ax p L e1 f p1 L1)):
  pp w w4 B c a fs m s t root A n cap rl S F clock p L r pg (w.heap.size,o1) (w3.heap.size,o2) (.pointer (some ⟨w4.heap.size,0,none⟩)) (.bool tkB) (.int .i64 e1) (((w5.setCell ⟨w4.heap.size,0,none⟩ (.int .i64 (f:Int))).setCell ⟨w4.heap.size,1,none⟩ (.int .u8 0)).setCell ⟨w4.heap.size,2,none⟩ (.bool (!tkB))):=by
 have hb:Below w4.heap.size w4 (w4.drew.alloc o):=((vj w4.heap.size w4).drew).alloc (by simp) _;have Nc:(w4.drew.alloc o).heap.size=w4.heap.size+1:=(by simp);obtain⟨a1,a2,a3,a4,a5,a6⟩:=kQ hH hO hB hz Me hb hC wy xW ((bu (w:=w5) (b:=w4.heap.size) (.int .i64 (f:Int)) (.int .u8 0) (.bool (!tkB))).sub fun b e=>⟨by omega,by omega⟩);exact⟨_,f,e1,tkB,p1,L1,vt,S1,rfl,rfl,rfl,sb hx,uN _,a6 _ hz (by omega),a6 _ (uN _) (by omega),a1,a2,(a3 _ (uN _) (by omega)).trans h1,(a3 _ (by omega) AU).trans h2,a4,a5,Al.1,Al.2,vD⟩
theorem pW {clock:Int}
  (hH:Home w4 B c a fs m S F clock p L) (hO:One w4 B c a m S s t root A n cap rl) (hB:Below w.heap.size w w4) (hz:w.heap.size<=w4.heap.size) (Me: ∀b,w.heap.size<=b-> ¬av S c m b)
  (hC:ap w5 S1 c a fs m vt p1 L1) (wy:Mod (av S c m) w4.drew w5) (xW:Out S S1 w4.drew) (h1:w4.heap[w.heap.size]? =some o1) (h2:w4.heap[w3.heap.size]? =some o2) (xI:w.heap.size<w3.heap.size) (AU:w3.heap.size<w4.heap.size) (Al:clock<=vt/\vt<=clock+1)
  (vD:(tkB=false/\dA r pg=true/\GetF F r.ino (srcK r pg) p L clock e1 f p1 L1 vt)\/(tkB=true/\dA r pg=false/\vt=clock/\ax p L e1 f p1 L1)):
  pp w w4 B c a fs m s t root A n cap rl S F clock p L r pg (w.heap.size,o1) (w3.heap.size,o2) (.pointer (some ⟨w5.heap.size,0,none⟩)) (.bool tkB) (.int .i64 e1) (w5.alloc (.cells #[.int .i64 (f:Int), .int .u8 0, .bool (!tkB)] 83)):=by
 have hb:Below w4.heap.size w4 w4.drew:=(vj w4.heap.size w4).drew;obtain⟨a1,a2,a3,a4,a5,a6⟩:=kQ hH hO hB hz Me hb hC wy xW (Mod.of ((vj w5.heap.size w5).alloc (uN _) (.cells #[.int .i64 (f:Int), .int .u8 0, .bool (!tkB)] 83)));exact⟨_,f,e1,tkB,p1,L1,vt,S1,rfl,rfl,rfl,ab _ _,wy.size,(fun e=>by have:=hC.pool.low _ e;omega),a6 _ (uN _) (by show _ <w4.heap.size;omega),a1,a2,(a3 _ (uN _) (by omega)).trans h1,(a3 _ (by omega) AU).trans h2,a4,a5,Al.1,Al.2,vD⟩
theorem nM (B c a fs m s t root n cap pg:Nat) (A:Option Addr) (rl:List Reg) (r:Reg) (clock Ap:Int) (w:World) (S:Nat->Prop) (F:List Nd) (p:Pool) (L:List Slot) (T:Tab) (hold:Nat->Nat)
  (hH:Home w B c a fs m S F clock p L) (hO:One w B c a m S s t root A n cap rl) (yw:Sp F hold p L T) (ho:Own p T) (hr:T.nd 4 0=some root) (hq:Ask F rl r pg) (hA:Ap=(pg:Int)*4096) (wT: ∀f,hold f<=100000000000) (Al:0<=clock/\clock<1000000):
  Calls Tryz.prog 121 #[.pointer (some ⟨s,0,none⟩), .int .u64 Ap] w (uH w S c a fs m F clock p L T hold r pg):=by
 obtain⟨q1,q2,q3,q4,q5,q6,q7⟩:=hq.facts;have yY:0<=Ap:=(by omega);have Zm:Ap<140737488355328:=(by omega);obtain⟨w0,vo⟩: ∃w0,w0=w.alloc (.cells #[.int .i64 0, .int .u8 0, .bool false] 83):=⟨_,rfl⟩;have vp:Below w.heap.size w w0:=(by rw[vo];exact uM);have zn:w0.heap[w.heap.size]? =some (.cells #[.int .i64 0, .int .u8 0, .bool false] 83 (0,0)):=(by rw[vo];exact ab w _);have AP:=hO.below vp;have EC:=hH.below vp;have s2:w0.cell? ⟨s,2,none⟩=some (.pointer (some ⟨t,0,none⟩)):=aa AP.self 2;have Ku:=se t c a root Ap w0 S p T EC.cache.pool AP.tab AP.lts.2.1 (yw.good.tree hr) yY;obtain⟨fl,yL⟩: ∃fl,fl=cQ T Ap:=⟨_,rfl⟩;rw[<-yL]at Ku;have OD:=uK Ku;have HFL:=uK yL;have vR:=uK vo;have wI:=uK vp;have DI:=uK zn;have HO:=uK hO;have HH:=uK hH;have yQ:=uK yw;have zj:=uK ho;have HR:=uK hr;have HQ:=uK hq;have HA:=uK hA;have zA:=hO.lts;clear Ku yL vo vp zn hO hH AP EC yw ho hr hq hA;go_enter Tryz.func121,Tryz.ntmps121;go_upto_region 1 with(fail);rw[<-vR.out];have AW:Ap.toNat/4096=pg:=(by have:=HA.out;omega);cases vP:T.lf pg with
 |some l=>
  have PI:fl=(l,0):=by
   rw[HFL.out];unfold cQ;rw[if_neg (by omega),AW,vP]
  subst PI;have Az:=uK vP;clear vP;go_wp2_with (first
   |(go_at_call 156;refine(OD.out).mono ?_;rintro e w1 ⟨rfl,vl⟩;have AI:=(vl.block w.heap.size (uJ DI.out).1).trans DI.out;have Kf:w.heap.size<w1.heap.size:=(uJ AI).1;have z0:w1.cell? ⟨w.heap.size,0,none⟩=some (.int .i64 0):=aa AI 0;have z1:w1.cell? ⟨w.heap.size,1,none⟩=some (.int .u8 0):=aa AI 1;have z2:w1.cell? ⟨w.heap.size,2,none⟩=some (.bool false):=aa AI 2;have zf0:=ae AI 0;have zf1:=ae AI 1;have zf2:=ae AI 2;unfold aq)
   |fail)
  have hB:=(((wI.out.trans (vl.mono wI.out.size)).setCell (p:=⟨w.heap.size,0,none⟩) (uN _) (.int .i64 (l.frame:Int))).setCell (p:=⟨w.heap.size,1,none⟩) (uN _) (.int .u8 (l.prot:Int))).setCell (p:=⟨w.heap.size,2,none⟩) (uN _) (.bool l.copy);have wW:=hB.alloc hB.size (.cells #[.int .i64 (l.frame:Int), .int .u8 (l.prot:Int), .bool l.copy] 83);exact bodyPost_ret (v:= .tuple #[.agg (aq l), .int .i64 0]) (by simp[results,Tryz.results121,go_sem,Kf,z0,z1,z2,zf0,zf1,zf2,aq]) rfl ⟨0,l,p,L,T,clock,S,rfl,(HH.out.below wW).cache,Mod.of wW,Out.refl _ _,Int.le_refl _,by omega,aZ.there yQ.out zj.out Az.out⟩
 |none=>
  have PI:fl=(noLeaf,6):=by
   rw[HFL.out];unfold cQ;rw[if_neg (by omega),AW,vP]
  subst PI;have Az:=uK vP;clear vP;have SD: ∀W,Below w.heap.size w W->Calls Tryz.prog 114 #[.slice A n cap, .int .u64 Ap] W fun e w'=>e= .returned (.tuple #[.agg #[.int .u64 (r).fr, .int .u64 (r).to, .int .u8 (r).prot, .int .i64 (r).ino, .int .u64 (r).off], .bool true])/\Below W.heap.size W w':=fun W hW=>by
   have h1:=lL A n cap Ap W rl (HO.out.below hW).row;rw[HA.out,HQ.out.find]at h1;rw[HA.out];exact h1
  have xO: ∀W,Below w.heap.size w W-> ∀i v,w.cell? ⟨s,i,none⟩=some v->W.cell? ⟨s,i,none⟩=some v:=fun W hW i v h=>(hW.cell (p:=⟨s,i,none⟩) zA.1).trans h;have ZE:=uK SD;have Ic:=uK xO;clear SD xO;go_upto_region 4 with(first
   |(go_at_call 156;refine(OD.out).mono ?_;rintro e w1 ⟨rfl,vl⟩;unfold aq noLeaf)
   |fail)
  obtain⟨w2,we⟩: ∃w2,w2=w1.alloc (.cells #[.int .i64 0, .int .u8 0, .bool false] 83):=⟨_,rfl⟩;rw[<-we];have wW:Below w.heap.size w w2:=(by rw[we];exact(wI.out.trans (vl.mono wI.out.size)).alloc (wI.out.trans (vl.mono wI.out.size)).size _);have s3:w2.cell? ⟨s,3,none⟩=some (.slice A n cap):=Ic.out w2 wW 3 _ (aa HO.out.self 3);have MX:=uK (ZE.out w2 wW);have xi:=uK wW;have yo:w2.heap[w.heap.size]? =some (.cells #[.int .i64 0, .int .u8 0, .bool false] 83 (0,0)):=by
   have hl:=(uJ DI.out).1;have:=vl.size;rw[we];exact((uO _ _ _ (by omega)).trans (vl.block _ hl)).trans DI.out
  have Dj:=uK yo;clear we vl wW yo s2;go_upto_region 5 with(first
   |(go_at_call 114;refine(MX.out).mono ?_;rintro e w3 ⟨rfl,vx⟩)
   |fail)
  obtain⟨w4,zc⟩: ∃w4,w4=w3.alloc (.cells #[.int .u64 r.fr, .int .u64 r.to, .int .u8 r.prot, .int .i64 r.ino, .int .u64 r.off] 45):=⟨_,rfl⟩;rw[<-zc];have Dg:Below w.heap.size w w4:=(by rw[zc];exact(xi.out.trans (vx.mono xi.out.size)).alloc (xi.out.trans (vx.mono xi.out.size)).size _);have RG:w4.heap[w.heap.size]? =some (.cells #[.int .i64 0, .int .u8 0, .bool false] 83 (0,0)):=by
   have hl:=(uJ Dj.out).1;have:=vx.size;rw[zc];exact((uO _ _ _ (by omega)).trans (vx.block _ hl)).trans Dj.out
  have Ft:w4.heap[w3.heap.size]? =some (.cells #[.int .u64 r.fr, .int .u64 r.to, .int .u8 r.prot, .int .i64 r.ino, .int .u64 r.off] 45 (0,0)):=(by rw[zc];exact ab w3 _);have LR:w3.heap.size<w4.heap.size:=(by rw[zc];simp);have xI:w.heap.size<w3.heap.size:=by
   have hl:=(uJ Dj.out).1;have:=vx.size;omega
  have wQ:=uK Dg;have Oo:=uK RG;have HR4lt:=uK (show w.heap.size<w4.heap.size from(uJ RG).1);have AS:=uK Ft;have x0:w4.cell? ⟨w3.heap.size,0,none⟩=some (.int .u64 r.fr):=aa Ft 0;have x3:w4.cell? ⟨w3.heap.size,3,none⟩=some (.int .i64 r.ino):=aa Ft 3;have x4:w4.cell? ⟨w3.heap.size,4,none⟩=some (.int .u64 r.off):=aa Ft 4;have Xn:IntKind.u64.wrap (r.off+Ap)=r.off+Ap:=(by rw[IntKind.wrap_u64];omega);have Xm:IntKind.u64.wrap (r.off+Ap-r.fr)=r.off+Ap-r.fr:=(by have:=HA.out;have:=HQ.out.lo;rw[IntKind.wrap_u64];omega);obtain⟨k,hk⟩: ∃k,(r.off+Ap-r.fr)/4096=k:=⟨_,rfl⟩;have FP:k=srcK r pg:=(by rw[<-hk,HA.out];rfl);have FW:=uK FP;have zb:0<=k:=(by rw[FP];exact q7);have Bq:k<1000000000000:=(by omega);have s0:w4.cell? ⟨s,0,none⟩=some (.pointer (some ⟨c,0,none⟩)):=Ic.out w4 Dg 0 _ (aa HO.out.self 0);clear zc vx Dg RG Ft FP s3;have Me: ∀b,w.heap.size<=b-> ¬av S c m b:=fun b hb e=>by
   have h1:=HH.out.lts;rcases e with e|e|e
   ·have:=h1.2.2 b e;omega
   ·omega
   ·omega
  have Ov:=uK Me;have Ip:w.heap.size<=w4.heap.size:=wQ.out.size;have Wq: ¬av S c m s:=fun e=>by
   have h1:=HO.out.noS;exact e.elim h1.1 fun e=>e.elim h1.2.1 h1.2.2.1
  have XG:s<w4.heap.size:=(by omega);have Ss:s≠w4.heap.size:=(by omega);clear Me;have OA:=uK (HH.out.below wQ.out);have yp:=uK (HO.out.below wQ.out);go_upto_region 7 with(fail);rw[hk];clear hk Xn Xm x0 x4;go_cut [52]from 46 to 52 (fun v wx=>wx=w4/\v= .bool (dA r pg))
  case first=>
   by_cases yn:0<=r.ino
   ·by_cases Yh:k<16
    ·go_wp2_with fail
     go_meet
     exact⟨rfl,congrArg Value.bool (vb (p:=0<=r.ino/\srcK r pg<16) (by have:=FW.out;omega)).symm⟩
    ·go_wp2_with fail
     go_meet
     exact⟨rfl,congrArg Value.bool (va (p:=0<=r.ino/\srcK r pg<16) (by have:=FW.out;omega)).symm⟩
   ·go_wp2_with fail
    go_meet
    exact⟨rfl,congrArg Value.bool (va (p:=0<=r.ino/\srcK r pg<16) (by have:=FW.out;omega)).symm⟩
  case rest=>
  obtain⟨LU,rfl⟩:=hcut;rw[LU];clear LU wc;go_upto_if 52 with(fail);go_cut [10,52]from 53 to 58 (fun v v52 wx=>wx=w4/\((dA r pg=true/\v= .iface 248 (.agg #[.int .i64 r.ino, .int .i64 k]))\/(dA r pg=false/\v= .iface 244 (.agg #[]))))
  case first=>
   cases Ea:dA r pg with
   |true=>
    have Yh:k<16:=(by have h1:=vc Ea;have:=FW.out;omega);have Xs:IntKind.i64.wrap k=k:=(by rw[IntKind.wrap_i64];omega);go_wp2_with fail
    go_meet
    exact⟨rfl, .inl ⟨Ea,rfl⟩⟩
   |false=>
    go_wp2_with fail
    go_meet
    exact⟨rfl, .inr ⟨Ea,rfl⟩⟩
  case rest=>
  obtain⟨LU,yJ⟩:=hcut;rw[LU];clear LU wc;have Vc:=uK yJ;clear yJ;go_upto_region 9 with(fail);go_cut [12,13,14]from 59 to 71 (fun b tk er wx=>pp w w4 B c a fs m s t root A n cap rl S F clock p L r pg (w.heap.size, .cells #[.int .i64 0, .int .u8 0, .bool false] 83 (0,0)) (w3.heap.size, .cells #[.int .u64 r.fr, .int .u64 r.to, .int .u8 r.prot, .int .i64 r.ino, .int .u64 r.off] 45 (0,0)) b tk er wx)
  case first=>
   rcases Vc.out with⟨Ea,rfl⟩|⟨Ea,rfl⟩
   ·have OE:=uK Ea;have DT:=tE (.agg #[.int .i64 r.ino, .int .i64 k]);have Fb: ∀W,Below w.heap.size w W->Calls Tryz.prog 231 #[.agg #[.int .i64 r.ino, .int .i64 k], .pointer (some ⟨c,0,none⟩)] W (nR W S c a fs m F r.ino k clock p L):=fun W hW=>
     rp B c a fs m r.ino k clock W S F p L (HH.out.below hW) (by have h0:=(vc Ea).1;have h1:=HQ.out.ok.ino1;simp only[Lit.wf,Bool.and_eq_true,decide_eq_true_eq];exact⟨Int.le_trans (by decide) h0,Int.le_trans h1 (by decide)⟩) Al
    have FD:=uK Fb;clear Fb Ea;go_region_held3 (fun w'=>w'.cell? ⟨s,0,none⟩=some (.pointer (some ⟨c,0,none⟩)))
     (first|exact s5|exact s0|exact(bA ((bu _ _ _).block s JJ Ss)).trans s5|go_keep)
     ((first
     |(go_simp;rw[iL _ _ _ (by kernel_rfl)];simp only[Result.andThen];rw[jX,Oper.upon_enter];refine(FD.out w4.drew wQ.out.drew).mono ?_;rintro e w5 ⟨er,f,p1,L1,vt,S1,rfl,Ct,wy,xW,Dx⟩;unfold aq;have s5:w5.cell? ⟨s,0,none⟩=some (.pointer (some ⟨c,0,none⟩)):=(bA (wy.block s (by simp;omega) Wq)).trans (s0);have JJ:s<w5.heap.size:=World.block_lt_of_cell? _ _ s5;have Im:=uK Ct;have DM:=uK wy;have CS:=uK xW;have GV:=uK Dx;have Kg:=uK Ct.pool.low;clear Ct xW Dx)
     |(go_simp;rw[iL _ _ _ (by kernel_rfl)];simp only[Result.andThen];rw[jX,Oper.upon_enter];refine(FD.out (w4.drew.alloc _) (wQ.out.drew.alloc wQ.out.drew.size _)).mono ?_;rintro e w5 ⟨er,f,p1,L1,vt,S1,rfl,Ct,wy,xW,Dx⟩;unfold aq;have s5:w5.cell? ⟨s,0,none⟩=some (.pointer (some ⟨c,0,none⟩)):=(bA (wy.block s (by simp;omega) Wq)).trans ((ke (uO _ _ _ (by simp;omega)) 0).trans s0);have JJ:s<w5.heap.size:=World.block_lt_of_cell? _ _ s5;have Im:=uK Ct;have DM:=uK wy;have CS:=uK xW;have GV:=uK Dx;have Kg:=uK Ct.pool.low;clear Ct xW Dx;have xk:w5.heap[w4.heap.size]? =some (.cells #[.int .i64 0, .int .u8 0, .bool false] 83 (0,0)):=(wy.block w4.heap.size (by simp) (Ov.out w4.heap.size Ip)).trans (ab w4.drew _);have k0:w5.cell? ⟨w4.heap.size,0,none⟩=some (.int .i64 0):=aa xk 0;have k1:w5.cell? ⟨w4.heap.size,1,none⟩=some (.int .u8 0):=aa xk 1;have k2:w5.cell? ⟨w4.heap.size,2,none⟩=some (.bool false):=aa xk 2;have kf0:w5.frozen? ⟨w4.heap.size,0,none⟩=false:=ae xk 0;have kf1:w5.frozen? ⟨w4.heap.size,1,none⟩=false:=ae xk 1;have kf2:w5.frozen? ⟨w4.heap.size,2,none⟩=false:=ae xk 2)))
    all_goals
     go_wp2_with fail
     go_meet
     first
     |exact pV OA.out yp.out wQ.out Ip Ov.out Im.out DM.out CS.out Oo.out AS.out xI LR xk (dF.clock GV.out) (.inl ⟨rfl,OE.out,by rw[<-FW.out];exact GV.out⟩)
     |exact pW OA.out yp.out wQ.out Ip Ov.out Im.out DM.out CS.out Oo.out AS.out xI LR (dF.clock GV.out) (.inl ⟨rfl,OE.out,by rw[<-FW.out];exact GV.out⟩)
   ·have OE:=uK Ea;have DT:=tT (.agg #[]);have Fb: ∀W,Below w.heap.size w W->Calls Tryz.prog 230 #[.agg #[], .pointer (some ⟨c,0,none⟩)] W (nU W S c a fs m clock p L):=fun W hW=>
     rD B c a fs m clock W S F p L (HH.out.below hW)
    have FD:=uK Fb;clear Fb Ea;go_region_held3 (fun w'=>w'.cell? ⟨s,0,none⟩=some (.pointer (some ⟨c,0,none⟩)))
     (first|exact s5|exact s0|exact(bA ((bu _ _ _).block s JJ Ss)).trans s5|go_keep)
     ((first
     |(go_simp;rw[iM _ _ _ (by kernel_rfl)];simp only[Result.andThen];rw[jY,Oper.upon_enter];refine(FD.out w4.drew wQ.out.drew).mono ?_;rintro e w5 ⟨er,f,p1,L1,S1,rfl,Ct,wy,xW,Dx⟩;unfold aq;have s5:w5.cell? ⟨s,0,none⟩=some (.pointer (some ⟨c,0,none⟩)):=(bA (wy.block s (by simp;omega) Wq)).trans (s0);have JJ:s<w5.heap.size:=World.block_lt_of_cell? _ _ s5;have Im:=uK Ct;have DM:=uK wy;have CS:=uK xW;have GV:=uK Dx;have Kg:=uK Ct.pool.low;clear Ct xW Dx)
     |(go_simp;rw[iM _ _ _ (by kernel_rfl)];simp only[Result.andThen];rw[jY,Oper.upon_enter];refine(FD.out (w4.drew.alloc _) (wQ.out.drew.alloc wQ.out.drew.size _)).mono ?_;rintro e w5 ⟨er,f,p1,L1,S1,rfl,Ct,wy,xW,Dx⟩;unfold aq;have s5:w5.cell? ⟨s,0,none⟩=some (.pointer (some ⟨c,0,none⟩)):=(bA (wy.block s (by simp;omega) Wq)).trans ((ke (uO _ _ _ (by simp;omega)) 0).trans s0);have JJ:s<w5.heap.size:=World.block_lt_of_cell? _ _ s5;have Im:=uK Ct;have DM:=uK wy;have CS:=uK xW;have GV:=uK Dx;have Kg:=uK Ct.pool.low;clear Ct xW Dx;have xk:w5.heap[w4.heap.size]? =some (.cells #[.int .i64 0, .int .u8 0, .bool false] 83 (0,0)):=(wy.block w4.heap.size (by simp) (Ov.out w4.heap.size Ip)).trans (ab w4.drew _);have k0:w5.cell? ⟨w4.heap.size,0,none⟩=some (.int .i64 0):=aa xk 0;have k1:w5.cell? ⟨w4.heap.size,1,none⟩=some (.int .u8 0):=aa xk 1;have k2:w5.cell? ⟨w4.heap.size,2,none⟩=some (.bool false):=aa xk 2;have kf0:w5.frozen? ⟨w4.heap.size,0,none⟩=false:=ae xk 0;have kf1:w5.frozen? ⟨w4.heap.size,1,none⟩=false:=ae xk 1;have kf2:w5.frozen? ⟨w4.heap.size,2,none⟩=false:=ae xk 2)))
    all_goals
     go_wp2_with fail
     go_meet
     first
     |exact pV OA.out yp.out wQ.out Ip Ov.out Im.out DM.out CS.out Oo.out AS.out xI LR xk ⟨Int.le_refl _,by omega⟩ (.inr ⟨rfl,OE.out,rfl,GV.out⟩)
     |exact pW OA.out yp.out wQ.out Ip Ov.out Im.out DM.out CS.out Oo.out AS.out xI LR ⟨Int.le_refl _,by omega⟩ (.inr ⟨rfl,OE.out,rfl,GV.out⟩)
  case rest=>
  obtain⟨bb,f,e1,tkB,p1,L1,vt,S1,rfl,rfl,rfl,RC,IM,IN,KO,UA,EA,Hz,RJ,zN,BZ,xY,Am,vD⟩:=hcut;dsimp only at Hz RJ;have IU:=uK RC;have MV:=uK UA;have QG:=uK EA;have HR6:=uK Hz;have QN:=uK RJ;have LN:=uK zN;have Lb:=uK BZ;have wi:=uK vD;have OP:w.heap.size<wc.heap.size:=(uJ Hz).1;have z0:wc.cell? ⟨w.heap.size,0,none⟩=some (.int .i64 0):=aa Hz 0;have z1:wc.cell? ⟨w.heap.size,1,none⟩=some (.int .u8 0):=aa Hz 1;have z2:wc.cell? ⟨w.heap.size,2,none⟩=some (.bool false):=aa Hz 2;have zf0:=ae Hz 0;have zf1:=ae Hz 1;have zf2:=ae Hz 2;have zm:bb≠w.heap.size:=(by omega);clear RC UA EA Hz RJ zN BZ vD Vc;by_cases he:e1=0
  rotate_left
  ·have vB:(e1 != 0)=true:=(by rw[bne_iff_ne];exact he);have HE:=uK he;clear he;go_wp2_with fail;refine bodyPost_ret (v:= .tuple #[.agg (aq ⟨0,0,false⟩), .int .i64 e1]) (by simp[results,Tryz.results121,go_sem,OP,z0,z1,z2,zf0,zf1,zf2,aq]) rfl ?_;have vL:e1=4/\p1=p/\L1=L/\ax p L 4 0 p L:=by
    rcases wi.out with⟨_,h2,h3⟩|⟨_,h2,_,h3⟩
    ·have h4:=vc h2;obtain⟨y,hy,Mn⟩:=HQ.out.file h4.1;exact dF.four h3 q7 h4.2 (qN h4.1 hy Mn) HE.out
    ·rcases h3.two with e|⟨e,e2,e3,e4⟩
     ·exact absurd e HE.out
     ·subst e e2 e3 e4;exact⟨rfl,rfl,rfl,h3⟩
   obtain⟨rfl,rfl,rfl,ht⟩:=vL;obtain⟨b1,b2⟩:=fo MV.out LN.out (bu (w:=wc) (b:=w.heap.size) (.int .i64 0) (.int .u8 0) (.bool false)) (fun b hb=>⟨by omega,by rw[hb];exact KO⟩) ⟨HH.out.lts.1,HH.out.lts.2.1,HH.out.base⟩;exact⟨4,⟨0,0,false⟩,_,_,T,vt,S1,rfl,b1.cache,b2,Lb.out,xY,Am,aZ.no yQ.out zj.out Az.out (yQ.out.full ht)⟩
  subst he;cases tkB with
  |false=>
   obtain⟨_,Ea,Da⟩:false=false/\dA r pg=true/\GetF F r.ino (srcK r pg) p L clock 0 f p1 L1 vt:=wi.out.resolve_right (fun e=>by cases e.1);obtain⟨a1,a2,a3,a4,a5⟩:=yQ.out.get Da;obtain⟨yL,c2,c3,xM,c5,c6⟩:=a5 rfl;have VM:=uK Da;have OE:=uK Ea;have g2:wc.cell? ⟨w3.heap.size,2,none⟩=some (.int .u8 r.prot):=aa QN.out 2;have x1:wc.cell? ⟨bb,1,none⟩=some (.int .u8 0):=aa IU.out 1;have xf1:=ae IU.out 1;go_upto_region 13 with(fail);obtain⟨w7,yq⟩: ∃w7,w7=wc.setCell ⟨bb,1,none⟩ (.int .u8 r.prot):=⟨_,rfl⟩;rw[<-yq];have xj:Mod (fun b=>b=bb) wc w7:=(by rw[yq];exact al (S:=fun b=>b=bb) rfl 1 _);have CP:w7.heap[bb]? =some (.cells #[.int .i64 (f:Int), .int .u8 r.prot, .bool true] 83 (0,0)):=by
    rw[yq];have:=Joins.block_setCell (i:=1) IU.out (.int .u8 r.prot);simpa using this
   obtain⟨Qn,Oe⟩:=fo MV.out LN.out xj (fun b hb=>⟨by omega,by rw[hb];exact IN⟩) ⟨HH.out.lts.1,HH.out.lts.2.1,HH.out.base⟩;have DE:One w7 B c a m S1 s t root A n cap rl:=QG.out.mod xj (fun b hb=>⟨by omega,by omega,fun ad e=>by have:=(HO.out.noR ad e).2.2.2.2.2.2;omega⟩);have LF:=(xj.block w.heap.size OP (by omega)).trans HR6.out;have Jy:w.heap.size<w7.heap.size:=(uJ LF).1;have KF:bb<w7.heap.size:=(uJ CP).1;have CN:=HH.out.lts;have Gu:bb≠m:=(by omega);have Xo:w.heap.size≠m:=(by omega);have hP:(r.prot.toNat:Int)=r.prot:=(by omega);have s2:w7.cell? ⟨s,2,none⟩=some (.pointer (some ⟨t,0,none⟩)):=aa DE.self 2;have b0:w7.cell? ⟨bb,0,none⟩=some (.int .i64 (f:Int)):=aa CP 0;have b1:w7.cell? ⟨bb,1,none⟩=some (.int .u8 r.prot):=aa CP 1;have b2:w7.cell? ⟨bb,2,none⟩=some (.bool true):=aa CP 2;have RQ:Hid (T.lf (Ap.toNat/4096)=none):=uK (by rw[AW];exact Az.out);have hmap:=kX t c a root fs m vt Ap (f:Int) r.prot true w7.drew S1 p1 T L1 hold 0 ⟨f,r.prot.toNat,true⟩ (Qn.cache.below (vj w7.heap.size w7).drew) DE.tab DE.noT.1 DE.noT.2.1 a1.good HR.out yY Zm (by have:=HA.out;omega) (by omega) (by rw[aW yL];omega) (by rw[RQ.out];rfl) rfl hP.symm rfl yL xM (by show p1.cnt f+1<1000000000000;have:=a1.cap yL;have:=wT f;omega);rw[AW]at hmap;clear a1 a2 a3 a4 a5 Da Ea c2 c3 c5 c6;have GO:=uK hmap;have HH7:=uK Qn;have MP:=uK DE;have IY:=uK Oe;have Ib:=uK CP;have Vo:=uK LF;clear hmap Qn DE Oe CP LF yq xj g2 x1 xf1 z0 z1 z2 zf0 zf1 zf2 AW
   go_still_tail 6,(by kernel_rfl)
   go_wp2_with fail;refine(GO.out).mono ?_;rintro e w8 ⟨er2,p2,T2,L2,S2,rfl,UI,zz,Hh,EP,zX⟩;have za:=zz.undrew;have Gi: ∀b,b<w7.heap.size-> ¬S1 b-> ¬S2 b:=fun b hb h1 e=>(Hh b e).elim h1 (fun e=>by have:w7.heap.size<=b:=e;omega);have Oc:=(za.block bb KF (fun e=>e.elim IN Gu)).trans Ib.out;have Od:=(za.block w.heap.size Jy (fun e=>e.elim KO Xo)).trans Vo.out;have OR:w.heap.size<w8.heap.size:=(uJ Od).1;have PW:bb<w8.heap.size:=(uJ Oc).1;have Uz:=HH7.out.step UI (za.sub fun b hb=>hb.elim .inl fun e=> .inr (.inl e)) Hh;have Uw:Mod (av S c m) w w8:=IY.out.trans (fun b e=>by
    rcases e with e|e|e
    ·exact(Lb.out b e).imp .inl id
    ·exact .inl (.inr (.inl e))
    ·exact .inl (.inr (.inr e))) (za.sub (T:=av S1 c m) fun b hb=>hb.elim .inl fun e=> .inr (.inl e))
   have Ut:Out S S2 w:=fun b e=>(Hh b e).elim (fun e=>Lb.out b e) (fun e=> .inr (by have:w7.heap.size<=b:=e;omega));have Up:=Gi bb KF IN;have MB:=Gi w.heap.size Jy KO;have Ou:=uK (MP.out.foot (za.sub fun b hb=>hb.elim .inl fun e=> .inr (.inl e)) Hh);have VJ:=uK Uz;have GP:=uK Uw;have MG:=uK Ut;have Lg:=uK EP;have Lq:=uK zX;have Oi:=uK Oc;have FT:=uK Od;clear UI zz Hh EP zX za Gi Uz Uw Ut s2 b0 b1 b2;have k0:w8.cell? ⟨bb,0,none⟩=some (.int .i64 (f:Int)):=aa Oi.out 0;have k1:w8.cell? ⟨bb,1,none⟩=some (.int .u8 r.prot):=aa Oi.out 1;have k2:w8.cell? ⟨bb,2,none⟩=some (.bool true):=aa Oi.out 2;have z0:w8.cell? ⟨w.heap.size,0,none⟩=some (.int .i64 0):=aa FT.out 0;have z1:w8.cell? ⟨w.heap.size,1,none⟩=some (.int .u8 0):=aa FT.out 1;have z2:w8.cell? ⟨w.heap.size,2,none⟩=some (.bool false):=aa FT.out 2;have zf0:=ae FT.out 0;have zf1:=ae FT.out 1;have zf2:=ae FT.out 2;go_wp2_with fail;refine bodyPost_ret (v:= .tuple #[.agg (aq ⟨f,r.prot.toNat,true⟩), .int .i64 er2]) (by simp[results,Tryz.results121,go_sem,OR,PW,z0,z1,z2,zf0,zf1,zf2,aq,hP]) rfl ?_;obtain⟨e1,e2⟩:=fo VJ.out GP.out (bu (w:=w8) (b:=w.heap.size) (.int .i64 (f:Int)) (.int .u8 r.prot) (.bool true)) (fun b hb=>⟨by omega,by rw[hb];exact MB⟩) ⟨HH.out.lts.1,HH.out.lts.2.1,HH.out.base⟩;exact⟨er2,_,p2,L2,T2,vt,S2,rfl,e1.cache,e2,MG.out,xY,Am,aZ.filed (ino:=r.ino) (clock:=clock) yQ.out zj.out (by show pg<68719476736;omega) Az.out OE.out VM.out rfl Lg.out Lq.out⟩
  |true=>
   obtain⟨_,Ea,hcc,Da⟩:true=true/\dA r pg=false/\vt=clock/\ax p L 0 f p1 L1:=wi.out.resolve_left (fun e=>by cases e.1);obtain⟨a1,a2,a3,a4,a5⟩:=yQ.out.take Da;have yL:f<p1.n:=(by rw[(a2 fun _ =>False).n];exact a5.lt);have xM:1<=p1.cnt f:=(by rw[a5.one];exact uN _);have VM:=uK Da;have OE:=uK Ea;have g2:wc.cell? ⟨w3.heap.size,2,none⟩=some (.int .u8 r.prot):=aa QN.out 2;have x1:wc.cell? ⟨bb,1,none⟩=some (.int .u8 0):=aa IU.out 1;have xf1:=ae IU.out 1;go_upto_region 13 with(fail);obtain⟨w7,yq⟩: ∃w7,w7=wc.setCell ⟨bb,1,none⟩ (.int .u8 r.prot):=⟨_,rfl⟩;rw[<-yq];have xj:Mod (fun b=>b=bb) wc w7:=(by rw[yq];exact al (S:=fun b=>b=bb) rfl 1 _);have CP:w7.heap[bb]? =some (.cells #[.int .i64 (f:Int), .int .u8 r.prot, .bool false] 83 (0,0)):=by
    rw[yq];have:=Joins.block_setCell (i:=1) IU.out (.int .u8 r.prot);simpa using this
   obtain⟨Qn,Oe⟩:=fo MV.out LN.out xj (fun b hb=>⟨by omega,by rw[hb];exact IN⟩) ⟨HH.out.lts.1,HH.out.lts.2.1,HH.out.base⟩;have DE:One w7 B c a m S1 s t root A n cap rl:=QG.out.mod xj (fun b hb=>⟨by omega,by omega,fun ad e=>by have:=(HO.out.noR ad e).2.2.2.2.2.2;omega⟩);have LF:=(xj.block w.heap.size OP (by omega)).trans HR6.out;have Jy:w.heap.size<w7.heap.size:=(uJ LF).1;have KF:bb<w7.heap.size:=(uJ CP).1;have CN:=HH.out.lts;have Gu:bb≠m:=(by omega);have Xo:w.heap.size≠m:=(by omega);have hP:(r.prot.toNat:Int)=r.prot:=(by omega);have s2:w7.cell? ⟨s,2,none⟩=some (.pointer (some ⟨t,0,none⟩)):=aa DE.self 2;have b0:w7.cell? ⟨bb,0,none⟩=some (.int .i64 (f:Int)):=aa CP 0;have b1:w7.cell? ⟨bb,1,none⟩=some (.int .u8 r.prot):=aa CP 1;have b2:w7.cell? ⟨bb,2,none⟩=some (.bool false):=aa CP 2;have RQ:Hid (T.lf (Ap.toNat/4096)=none):=uK (by rw[AW];exact Az.out);have hmap:=kX t c a root fs m vt Ap (f:Int) r.prot false w7.drew S1 p1 T L1 (upd hold f 1) 0 ⟨f,r.prot.toNat,false⟩ (Qn.cache.below (vj w7.heap.size w7).drew) DE.tab DE.noT.1 DE.noT.2.1 a1.good HR.out yY Zm (by have:=HA.out;omega) (by omega) (by rw[aW yL];omega) (by rw[RQ.out];rfl) rfl hP.symm rfl yL xM (by show p1.cnt f+1<1000000000000;rw[a5.one];decide);rw[AW]at hmap;clear a1 a2 a3 a4 a5 Da Ea;have GO:=uK hmap;have HH7:=uK Qn;have MP:=uK DE;have IY:=uK Oe;have Ib:=uK CP;have Vo:=uK LF;clear hmap Qn DE Oe CP LF yq xj g2 x1 xf1 z0 z1 z2 zf0 zf1 zf2 AW
   go_still_tail 6,(by kernel_rfl)
   go_wp2_with fail;refine(GO.out).mono ?_;rintro e w8 ⟨er2,p2,T2,L2,S2,rfl,UI,zz,Hh,EP,zX⟩;have za:=zz.undrew;have Gi: ∀b,b<w7.heap.size-> ¬S1 b-> ¬S2 b:=fun b hb h1 e=>(Hh b e).elim h1 (fun e=>by have:w7.heap.size<=b:=e;omega);have Oc:=(za.block bb KF (fun e=>e.elim IN Gu)).trans Ib.out;have Od:=(za.block w.heap.size Jy (fun e=>e.elim KO Xo)).trans Vo.out;have OR:w.heap.size<w8.heap.size:=(uJ Od).1;have PW:bb<w8.heap.size:=(uJ Oc).1;have Uz:=HH7.out.step UI (za.sub fun b hb=>hb.elim .inl fun e=> .inr (.inl e)) Hh;have Uw:Mod (av S c m) w w8:=IY.out.trans (fun b e=>by
    rcases e with e|e|e
    ·exact(Lb.out b e).imp .inl id
    ·exact .inl (.inr (.inl e))
    ·exact .inl (.inr (.inr e))) (za.sub (T:=av S1 c m) fun b hb=>hb.elim .inl fun e=> .inr (.inl e))
   have Ut:Out S S2 w:=fun b e=>(Hh b e).elim (fun e=>Lb.out b e) (fun e=> .inr (by have:w7.heap.size<=b:=e;omega));have Up:=Gi bb KF IN;have MB:=Gi w.heap.size Jy KO;have Ou:=uK (MP.out.foot (za.sub fun b hb=>hb.elim .inl fun e=> .inr (.inl e)) Hh);have VJ:=uK Uz;have GP:=uK Uw;have MG:=uK Ut;have Lg:=uK EP;have Lq:=uK zX;have Oi:=uK Oc;have FT:=uK Od;clear UI zz Hh EP zX za Gi Uz Uw Ut s2 b0 b1 b2;rcases wi.out with⟨hf9,_⟩|⟨_,Ea,_,Da⟩
   ·exact absurd hf9 (by decide)
   have DA:=aZ.blank yQ.out zj.out (by show pg<68719476736;omega) Az.out Ea Da rfl Lg.out Lq.out;have Mq:=cj a f w8.drew S2 p2 VJ.out.cache.pool.drew DA.2.1 DA.2.2;have k0:w8.cell? ⟨bb,0,none⟩=some (.int .i64 (f:Int)):=aa Oi.out 0;have s1:w8.cell? ⟨s,1,none⟩=some (.pointer (some ⟨a,0,none⟩)):=aa Ou.out.self 1;have QX:=uK DA;have QR:=uK Mq;clear Ea Da DA Mq;go_upto_region 15 with(fail)
   go_still_tail 6,(by kernel_rfl)
   go_wp2_with fail;refine(QR.out).mono ?_;rintro e w9 ⟨rfl,KP,Mj⟩;have zy:=Mj.undrew;have RB:=(zy.block bb PW Up).trans Oi.out;have RF:=(zy.block w.heap.size OR MB).trans FT.out;have OQ:w.heap.size<w9.heap.size:=(uJ RF).1;have YH:bb<w9.heap.size:=(uJ RB).1;have hC9:=VJ.out.cache.turn zy KP (Out.refl _ _);have HH9:=uK (VJ.out.step hC9 (zy.sub fun b hb=> .inl hb) (Out.refl _ _));have HM9:Hid (Mod (av S c m) w w9):=uK (GP.out.trans (fun b e=>(MG.out b e).imp .inl id) zy);have Qx:=uK RB;have RO:=uK RF;clear zy Mj RB RF hC9 KP k0 s1;have k0:w9.cell? ⟨bb,0,none⟩=some (.int .i64 (f:Int)):=aa Qx.out 0;have k1:w9.cell? ⟨bb,1,none⟩=some (.int .u8 r.prot):=aa Qx.out 1;have k2:w9.cell? ⟨bb,2,none⟩=some (.bool false):=aa Qx.out 2;have z0:w9.cell? ⟨w.heap.size,0,none⟩=some (.int .i64 0):=aa RO.out 0;have z1:w9.cell? ⟨w.heap.size,1,none⟩=some (.int .u8 0):=aa RO.out 1;have z2:w9.cell? ⟨w.heap.size,2,none⟩=some (.bool false):=aa RO.out 2;have zf0:=ae RO.out 0;have zf1:=ae RO.out 1;have zf2:=ae RO.out 2;go_wp2_with fail;refine bodyPost_ret (v:= .tuple #[.agg (aq ⟨f,r.prot.toNat,false⟩), .int .i64 er2]) (by simp[results,Tryz.results121,go_sem,OQ,YH,z0,z1,z2,zf0,zf1,zf2,aq,hP]) rfl ?_;obtain⟨e1,e2⟩:=fo HH9.out HM9.out (bu (w:=w9) (b:=w.heap.size) (.int .i64 (f:Int)) (.int .u8 r.prot) (.bool false)) (fun b hb=>⟨by omega,by rw[hb];exact MB⟩) ⟨HH.out.lts.1,HH.out.lts.2.1,HH.out.base⟩;exact⟨er2,_,p2.down f,L2,T2,vt,S2,rfl,e1.cache,e2,MG.out,xY,Am,QX.out.1⟩
end
