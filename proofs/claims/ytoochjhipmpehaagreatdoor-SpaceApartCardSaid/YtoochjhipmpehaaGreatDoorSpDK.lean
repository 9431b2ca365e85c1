/- Spaces: bring. -/
import Derived.Test.YtoochjhipmpehaaGreatDoorSbK
set_option linter.unusedVariables false
set_option linter.unusedSimpArgs false
set_option maxRecDepth 100000
set_option maxHeartbeats 8000000
namespace Go.Proofs.YtoochjhipmpehaaGreatDoor
section
open Go.RowKit Go.Sort
theorem iT (v:Value) (w:World) (n:Nat) (hn:n=Tryz.prog.types.size+Made.depth):(method n 248 v "hostel/space.leaf").run Tryz.prog w= .ok (231,v) w:=by
 subst hn;kernel_rfl
theorem iU (v:Value) (w:World) (n:Nat) (hn:n=Tryz.prog.types.size+Made.depth):(method n 244 v "hostel/space.leaf").run Tryz.prog w= .ok (230,v) w:=by
 subst hn;kernel_rfl
theorem tU (v:Value) (n:Nat) (W:World):(nilAhead (n+1) 248 v "hostel/space.leaf").run Tryz.prog W= .ok (some false) W:=by kernel_rfl
theorem um (v:Value) (n:Nat) (W:World):(nilAhead (n+1) 244 v "hostel/space.leaf").run Tryz.prog W= .ok (some false) W:=by kernel_rfl
theorem km (v x:Value) (w:World):(callFunc 231 #[v,x]).run Tryz.prog w= .ok (.enter 231 #[v,x]) w:=by kernel_rfl
theorem ko (v x:Value) (w:World):(callFunc 230 #[v,x]).run Tryz.prog w= .ok (.enter 230 #[v,x]) w:=by kernel_rfl
variable {w w':World}
theorem aS {b i:Nat} (h:w'.heap[b]? =w.heap[b]?):w'.cell? ⟨b,i,none⟩=w.cell? ⟨b,i,none⟩:=by unfold World.cell?;simp only[h]
def uX (w:World) (S:Nat->Prop) (c a fs m:Nat) (F:List Nd) (clock:Int) (p:Pool) (L:List Slot) (T:Tab) (hold:Nat->Nat) (r:Reg) (pg:Nat) (e:Ending) (w':World):Prop:=
 ∃er l p' L' T' vB S',e= .returned (.tuple #[.agg (ap l), .int .i64 er])/\ar w' S' c a fs m vB p' L'/\Mod (aw S c m) w w'/\Out S S' w/\clock<=vB/\vB<=clock+1/\aX F hold r pg p L T er l p' L' T'
variable {p:Pool} {L:List Slot} {f:Nat}
theorem dC.clock {ino page r0:Int} {k:Nat} {d:Nat->Nat} {p':Pool} {L':List Slot} {clock vB r:Int} (h:dC ino page r0 k d p L clock r f p' L' vB):clock<=vB/\vB<=clock+1:=by
 cases h<;>constructor<;>omega
variable {B c a m s t root n cap:Nat} {S X:Nat->Prop} {A:Option Addr} {rl:List Reg}
theorem One.mod (h:One w B c a m S s t root A n cap rl) (hm:Mod X w w') (hX: ∀b,X b->b≠s/\b≠t/\ ∀ad,A=some ad->ad.block≠b):One w' B c a m S s t root A n cap rl:=
 ⟨(
  hm.block s h.lts.1 (fun e=>(hX s e).1 rfl)).trans h.self,(hm.block t h.lts.2.1 (fun e=>(hX t e).2.1 rfl)).trans h.tab,h.row.mod hm (fun ad e x=>(hX _ x).2.2 ad e rfl),h.noS,h.noT,fun ad e=>by
  obtain⟨n1,n2,n3,n4,n5,n6,n7⟩:=h.noR ad e;have:=hm.size;exact⟨n1,n2,n3,n4,n5,n6,by omega⟩⟩
variable {w4 w5:World} {fs:Nat} {S1:Nat->Prop} {F:List Nd} {vI:Int} {p1:Pool} {L1:List Slot}
theorem li {Wc w6:World} {clock:Int}
  (hH:Home w4 B c a fs m S F clock p L) (hO:One w4 B c a m S s t root A n cap rl) (hB:Below w.heap.size w w4) (hz:w.heap.size<=w4.heap.size) (LU: ∀b,w.heap.size<=b-> ¬aw S c m b) (hb:Below w4.heap.size w4 Wc)
  (hC:ar w5 S1 c a fs m vI p1 L1) (xf:Mod (aw S c m) Wc w5) (yG:Out S S1 Wc) (yU:Mod (fun b=>w4.heap.size<=b/\b<Wc.heap.size) w5 w6):
  Home w6 B c a fs m S1 F vI p1 L1/\One w6 B c a m S1 s t root A n cap rl/\(∀b,w.heap.size<=b->b<w4.heap.size->w6.heap[b]? =w4.heap[b]?)/\Mod (aw S c m) w w6/\Out S S1 w/\(∀b,w.heap.size<=b->b<Wc.heap.size-> ¬S1 b):=by
 have h1:=(hH.below hb).step hC xf yG;have h2:=(hO.below hb).foot xf yG;have hzb:=hb.size;have vW: ∀b,w.heap.size<=b->b<Wc.heap.size-> ¬S1 b:=fun b vD vM e=>by
  rcases yG b e with e|e
  ·exact LU b vD (.inl e)
  ·omega
 have hl:=hH.lts;have wE:=hO.lts;have hBz:=hH.base;have Lh:=xf.size;have OF:=yU.size;refine⟨h1.mod yU (fun b hb=>⟨vW b (by omega) hb.2,by omega,by omega,by omega⟩),h2.mod yU (fun b hb=>⟨by omega,by omega,fun ad e=>by have:=(hO.noR ad e).2.2.2.2.2.2;omega⟩),fun b vD vM=>(yU.block b (by omega) (by omega)).trans ((xf.block b (by omega) (LU b vD)).trans (hb.block b vM)),?_,fun b e=>(yG b e).imp id (fun e=>by omega),vW⟩;have h3:Mod (fun b=>aw S c m b\/w.heap.size<=b) w w6:=((Mod.of (hB.trans (hb.mono hz))).trans (Out.refl _ _) (xf.sub fun b e=> .inl e)).trans (Out.refl _ _) (yU.sub fun b e=> .inr (by omega));exact h3.own fun b e=>e
def pz (w w4:World) (B c a fs m s t root:Nat) (A:Option Addr) (n cap:Nat) (rl:List Reg) (S:Nat->Prop) (F:List Nd) (clock:Int) (p:Pool) (L:List Slot) (r:Reg) (pg:Nat) (o1 o2:Nat×Obj) (b tk er:Value) (wx:World):Prop:=
 ∃(bb f:Nat) (e1:Int) (tkB:Bool) (p1:Pool) (L1:List Slot) (vI:Int) (S1:Nat->Prop),b= .pointer (some ⟨bb,0,none⟩)/\tk= .bool tkB/\er= .int .i64 e1/\wx.heap[bb]? =some (.cells #[.int .i64 (f:Int), .int .u8 0, .bool (!tkB)] 83 (0,0))/\w4.heap.size<=bb/\ ¬S1 bb/\ ¬S1 w.heap.size/\
  Home wx B c a fs m S1 F vI p1 L1/\One wx B c a m S1 s t root A n cap rl/\wx.heap[o1.1]? =some o1.2/\wx.heap[o2.1]? =some o2.2/\Mod (aw S c m) w wx/\Out S S1 w/\clock<=vI/\vI<=clock+1/\
  ((tkB=false/\dx r pg=true/\GetF F r.ino (srcK r pg) p L clock e1 f p1 L1 vI)\/(tkB=true/\dx r pg=false/\vI=clock/\ax p L e1 f p1 L1))
theorem fj {wx:World} (hH:Home wx B c a fs m S1 F vI p1 L1) (hm:Mod (aw S c m) w wx) (hX:Mod X wx w') (hXn: ∀b,X b->w.heap.size<=b/\ ¬S1 b) (hw:c<w.heap.size/\m<w.heap.size/\B<=w.heap.size):
  Home w' B c a fs m S1 F vI p1 L1/\Mod (aw S c m) w w':=
 ⟨hH.mod hX (fun b hb=>by obtain⟨h1,h2⟩:=hXn b hb;exact⟨h2,by omega,by omega,by omega⟩),((hm.sub (T:=fun b=>aw S c m b\/w.heap.size<=b) fun b e=> .inl e).trans (Out.refl _ _) (hX.sub fun b hb=> .inr (hXn b hb).1)).own fun b e=>e⟩
variable {w3:World} {pg:Nat} {r:Reg} {e1:Int} {o1 o2:Obj} {tkB:Bool}
theorem qe {clock:Int} {o:Obj}
  (hH:Home w4 B c a fs m S F clock p L) (hO:One w4 B c a m S s t root A n cap rl) (hB:Below w.heap.size w w4) (hz:w.heap.size<=w4.heap.size) (LU: ∀b,w.heap.size<=b-> ¬aw S c m b)
  (hC:ar w5 S1 c a fs m vI p1 L1) (xf:Mod (aw S c m) (w4.drew.alloc o) w5) (yG:Out S S1 (w4.drew.alloc o)) (h1:w4.heap[w.heap.size]? =some o1) (h2:w4.heap[w3.heap.size]? =some o2) (xR:w.heap.size<w3.heap.size) (AX:w3.heap.size<w4.heap.size)
  (hx:w5.heap[w4.heap.size]? =some (.cells #[.int .i64 0, .int .u8 0, .bool false] 83 (0,0))) (yA:clock<=vI/\vI<=clock+1)
  (vO:(tkB=false/\dx r pg=true/\GetF F r.ino (srcK r pg) p L clock e1 f p1 L1 vI)\/(tkB=true/\dx r pg=false/\vI=clock/\ax p L e1 f p1 L1)):
  pz w w4 B c a fs m s t root A n cap rl S F clock p L r pg (w.heap.size,o1) (w3.heap.size,o2) (.pointer (some ⟨w4.heap.size,0,none⟩)) (.bool tkB) (.int .i64 e1) (((w5.setCell ⟨w4.heap.size,0,none⟩ (.int .i64 (f:Int))).setCell ⟨w4.heap.size,1,none⟩ (.int .u8 0)).setCell ⟨w4.heap.size,2,none⟩ (.bool (!tkB))):=by
 have hb:Below w4.heap.size w4 (w4.drew.alloc o):=((vz w4.heap.size w4).drew).alloc (by simp) _;have MY:(w4.drew.alloc o).heap.size=w4.heap.size+1:=(by simp);obtain⟨a1,a2,a3,a4,a5,a6⟩:=li hH hO hB hz LU hb hC xf yG ((bq (w:=w5) (b:=w4.heap.size) (.int .i64 (f:Int)) (.int .u8 0) (.bool (!tkB))).sub fun b e=>⟨by omega,by omega⟩);exact⟨_,f,e1,tkB,p1,L1,vI,S1,rfl,rfl,rfl,sk hx,vd _,a6 _ hz (by omega),a6 _ (vd _) (by omega),a1,a2,(a3 _ (vd _) (by omega)).trans h1,(a3 _ (by omega) AX).trans h2,a4,a5,yA.1,yA.2,vO⟩
theorem qg {clock:Int}
  (hH:Home w4 B c a fs m S F clock p L) (hO:One w4 B c a m S s t root A n cap rl) (hB:Below w.heap.size w w4) (hz:w.heap.size<=w4.heap.size) (LU: ∀b,w.heap.size<=b-> ¬aw S c m b)
  (hC:ar w5 S1 c a fs m vI p1 L1) (xf:Mod (aw S c m) w4.drew w5) (yG:Out S S1 w4.drew) (h1:w4.heap[w.heap.size]? =some o1) (h2:w4.heap[w3.heap.size]? =some o2) (xR:w.heap.size<w3.heap.size) (AX:w3.heap.size<w4.heap.size) (yA:clock<=vI/\vI<=clock+1)
  (vO:(tkB=false/\dx r pg=true/\GetF F r.ino (srcK r pg) p L clock e1 f p1 L1 vI)\/(tkB=true/\dx r pg=false/\vI=clock/\ax p L e1 f p1 L1)):
  pz w w4 B c a fs m s t root A n cap rl S F clock p L r pg (w.heap.size,o1) (w3.heap.size,o2) (.pointer (some ⟨w5.heap.size,0,none⟩)) (.bool tkB) (.int .i64 e1) (w5.alloc (.cells #[.int .i64 (f:Int), .int .u8 0, .bool (!tkB)] 83)):=by
 have hb:Below w4.heap.size w4 w4.drew:=(vz w4.heap.size w4).drew;obtain⟨a1,a2,a3,a4,a5,a6⟩:=li hH hO hB hz LU hb hC xf yG (Mod.of ((vz w5.heap.size w5).alloc (vd _) (.cells #[.int .i64 (f:Int), .int .u8 0, .bool (!tkB)] 83)));exact⟨_,f,e1,tkB,p1,L1,vI,S1,rfl,rfl,rfl,ab _ _,xf.size,(fun e=>by have:=hC.pool.low _ e;omega),a6 _ (vd _) (by show _ <w4.heap.size;omega),a1,a2,(a3 _ (vd _) (by omega)).trans h1,(a3 _ (by omega) AX).trans h2,a4,a5,yA.1,yA.2,vO⟩
theorem nS (B c a fs m s t root n cap pg:Nat) (A:Option Addr) (rl:List Reg) (r:Reg) (clock Ap:Int) (w:World) (S:Nat->Prop) (F:List Nd) (p:Pool) (L:List Slot) (T:Tab) (hold:Nat->Nat)
  (hH:Home w B c a fs m S F clock p L) (hO:One w B c a m S s t root A n cap rl) (ya:Sp F hold p L T) (ho:Own p T) (hr:T.nd 4 0=some root) (hq:Ask F rl r pg) (hA:Ap=(pg:Int)*4096) (wY: ∀f,hold f<=100000000000) (yA:0<=clock/\clock<1000000):
  Calls Tryz.prog 121 #[.pointer (some ⟨s,0,none⟩), .int .u64 Ap] w (uX w S c a fs m F clock p L T hold r pg):=by
 obtain⟨q1,q2,q3,q4,q5,q6,q7⟩:=hq.facts;have yW:0<=Ap:=(by omega);have hA9:Ap<140737488355328:=(by omega);obtain⟨w0,vE⟩: ∃w0,w0=w.alloc (.cells #[.int .i64 0, .int .u8 0, .bool false] 83):=⟨_,rfl⟩;have vF:Below w.heap.size w w0:=(by rw[vE];exact vc);have zb:w0.heap[w.heap.size]? =some (.cells #[.int .i64 0, .int .u8 0, .bool false] 83 (0,0)):=(by rw[vE];exact ab w _);have AI:=hO.below vF;have En:=hH.below vF;have s2:w0.cell? ⟨s,2,none⟩=some (.pointer (some ⟨t,0,none⟩)):=aa AI.self 2;have Kf:=sm t c a root Ap w0 S p T En.cache.pool AI.tab AI.lts.2.1 (ya.good.tree hr) yW;obtain⟨fl,yz⟩: ∃fl,fl=cM T Ap:=⟨_,rfl⟩;rw[<-yz]at Kf;have Oy:=va Kf;have HFL:=va yz;have vY:=va vE;have wO:=va vF;have Ds:=va zb;have HO:=va hO;have HH:=va hH;have yo:=va ya;have yX:=va ho;have HR:=va hr;have HQ:=va hq;have HA:=va hA;have zk:=hO.lts;clear Kf yz vE vF zb hO hH AI En ya ho hr hq hA;go_enter Tryz.func121,Tryz.ntmps121;go_upto_region 1 with(fail);rw[<-vY.out];have AN:Ap.toNat/4096=pg:=(by have:=HA.out;omega);cases wH:T.lf pg with
 |some l=>
  have PG:fl=(l,0):=by
   rw[HFL.out];unfold cM;rw[if_neg (by omega),AN,wH]
  subst PG;have IW:=va wH;clear wH;go_wp2_with (first
   |(go_at_call 156;refine(Oy.out).mono ?_;rintro e w1 ⟨rfl,vD⟩;have Ax:=(vD.block w.heap.size (uZ Ds.out).1).trans Ds.out;have JR:w.heap.size<w1.heap.size:=(uZ Ax).1;have z0:w1.cell? ⟨w.heap.size,0,none⟩=some (.int .i64 0):=aa Ax 0;have z1:w1.cell? ⟨w.heap.size,1,none⟩=some (.int .u8 0):=aa Ax 1;have z2:w1.cell? ⟨w.heap.size,2,none⟩=some (.bool false):=aa Ax 2;have zf0:=ae Ax 0;have zf1:=ae Ax 1;have zf2:=ae Ax 2;unfold ap)
   |fail)
  have hB:=(((wO.out.trans (vD.mono wO.out.size)).setCell (p:=⟨w.heap.size,0,none⟩) (vd _) (.int .i64 (l.frame:Int))).setCell (p:=⟨w.heap.size,1,none⟩) (vd _) (.int .u8 (l.prot:Int))).setCell (p:=⟨w.heap.size,2,none⟩) (vd _) (.bool l.copy);have xE:=hB.alloc hB.size (.cells #[.int .i64 (l.frame:Int), .int .u8 (l.prot:Int), .bool l.copy] 83);exact bodyPost_ret (v:= .tuple #[.agg (ap l), .int .i64 0]) (by simp[results,Tryz.results121,go_sem,JR,z0,z1,z2,zf0,zf1,zf2,ap]) rfl ⟨0,l,p,L,T,clock,S,rfl,(HH.out.below xE).cache,Mod.of xE,Out.refl _ _,Int.le_refl _,by omega,aX.there yo.out yX.out IW.out⟩
 |none=>
  have PG:fl=(noLeaf,6):=by
   rw[HFL.out];unfold cM;rw[if_neg (by omega),AN,wH]
  subst PG;have IW:=va wH;clear wH;have SU: ∀W,Below w.heap.size w W->Calls Tryz.prog 114 #[.slice A n cap, .int .u64 Ap] W fun e w'=>e= .returned (.tuple #[.agg #[.int .u64 (r).fr, .int .u64 (r).to, .int .u8 (r).prot, .int .i64 (r).ino, .int .u64 (r).off], .bool true])/\Below W.heap.size W w':=fun W hW=>by
   have h1:=lZ A n cap Ap W rl (HO.out.below hW).row;rw[HA.out,HQ.out.find]at h1;rw[HA.out];exact h1
  have xL: ∀W,Below w.heap.size w W-> ∀i v,w.cell? ⟨s,i,none⟩=some v->W.cell? ⟨s,i,none⟩=some v:=fun W hW i v h=>(hW.cell (p:=⟨s,i,none⟩) zk.1).trans h;have HREG:=va SU;have Hf:=va xL;clear SU xL;go_upto_region 4 with(first
   |(go_at_call 156;refine(Oy.out).mono ?_;rintro e w1 ⟨rfl,vD⟩;unfold ap noLeaf)
   |fail)
  obtain⟨w2,wD⟩: ∃w2,w2=w1.alloc (.cells #[.int .i64 0, .int .u8 0, .bool false] 83):=⟨_,rfl⟩;rw[<-wD];have xE:Below w.heap.size w w2:=(by rw[wD];exact(wO.out.trans (vD.mono wO.out.size)).alloc (wO.out.trans (vD.mono wO.out.size)).size _);have s3:w2.cell? ⟨s,3,none⟩=some (.slice A n cap):=Hf.out w2 xE 3 _ (aa HO.out.self 3);have MP:=va (HREG.out w2 xE);have xC:=va xE;have yc:w2.heap[w.heap.size]? =some (.cells #[.int .i64 0, .int .u8 0, .bool false] 83 (0,0)):=by
   have hl:=(uZ Ds.out).1;have:=vD.size;rw[wD];exact((ve _ _ _ (by omega)).trans (vD.block _ hl)).trans Ds.out
  have CU:=va yc;clear wD vD xE yc s2;go_upto_region 5 with(first
   |(go_at_call 114;refine(MP.out).mono ?_;rintro e w3 ⟨rfl,vX⟩)
   |fail)
  obtain⟨w4,yR⟩: ∃w4,w4=w3.alloc (.cells #[.int .u64 r.fr, .int .u64 r.to, .int .u8 r.prot, .int .i64 r.ino, .int .u64 r.off] 45):=⟨_,rfl⟩;rw[<-yR];have CR:Below w.heap.size w w4:=(by rw[yR];exact(xC.out.trans (vX.mono xC.out.size)).alloc (xC.out.trans (vX.mono xC.out.size)).size _);have RJ:w4.heap[w.heap.size]? =some (.cells #[.int .i64 0, .int .u8 0, .bool false] 83 (0,0)):=by
   have hl:=(uZ CU.out).1;have:=vX.size;rw[yR];exact((ve _ _ _ (by omega)).trans (vX.block _ hl)).trans CU.out
  have GX:w4.heap[w3.heap.size]? =some (.cells #[.int .u64 r.fr, .int .u64 r.to, .int .u8 r.prot, .int .i64 r.ino, .int .u64 r.off] 45 (0,0)):=(by rw[yR];exact ab w3 _);have LJ:w3.heap.size<w4.heap.size:=(by rw[yR];simp);have xR:w.heap.size<w3.heap.size:=by
   have hl:=(uZ CU.out).1;have:=vX.size;omega
  have wV:=va CR;have LA:=va RJ;have HR4lt:=va (show w.heap.size<w4.heap.size from(uZ RJ).1);have AK:=va GX;have x0:w4.cell? ⟨w3.heap.size,0,none⟩=some (.int .u64 r.fr):=aa GX 0;have x3:w4.cell? ⟨w3.heap.size,3,none⟩=some (.int .i64 r.ino):=aa GX 3;have x4:w4.cell? ⟨w3.heap.size,4,none⟩=some (.int .u64 r.off):=aa GX 4;have XX:IntKind.u64.wrap (r.off+Ap)=r.off+Ap:=(by rw[IntKind.wrap_u64];omega);have XW:IntKind.u64.wrap (r.off+Ap-r.fr)=r.off+Ap-r.fr:=(by have:=HA.out;have:=HQ.out.lo;rw[IntKind.wrap_u64];omega);obtain⟨k,hk⟩: ∃k,(r.off+Ap-r.fr)/4096=k:=⟨_,rfl⟩;have FA:k=srcK r pg:=(by rw[<-hk,HA.out];rfl);have FF:=va FA;have yJ:0<=k:=(by rw[FA];exact q7);have Bh:k<1000000000000:=(by omega);have s0:w4.cell? ⟨s,0,none⟩=some (.pointer (some ⟨c,0,none⟩)):=Hf.out w4 CR 0 _ (aa HO.out.self 0);clear yR vX CR RJ GX FA s3;have LU: ∀b,w.heap.size<=b-> ¬aw S c m b:=fun b hb e=>by
   have h1:=HH.out.lts;rcases e with e|e|e
   ·have:=h1.2.2 b e;omega
   ·omega
   ·omega
  have Oo:=va LU;have Ho:w.heap.size<=w4.heap.size:=wV.out.size;have WZ: ¬aw S c m s:=fun e=>by
   have h1:=HO.out.noS;exact e.elim h1.1 fun e=>e.elim h1.2.1 h1.2.2.1
  have Yp:s<w4.heap.size:=(by omega);have SH:s≠w4.heap.size:=(by omega);clear LU;have Sc:=va (HH.out.below wV.out);have yd:=va (HO.out.below wV.out);go_upto_region 7 with(fail);rw[hk];clear hk XX XW x0 x4;go_cut [52]from 46 to 52 (fun v wx=>wx=w4/\v= .bool (dx r pg))
  case first=>
   by_cases yb:0<=r.ino
   ·by_cases YT:k<16
    ·go_wp2_with fail
     go_meet
     exact⟨rfl,congrArg Value.bool (vr (p:=0<=r.ino/\srcK r pg<16) (by have:=FF.out;omega)).symm⟩
    ·go_wp2_with fail
     go_meet
     exact⟨rfl,congrArg Value.bool (vq (p:=0<=r.ino/\srcK r pg<16) (by have:=FF.out;omega)).symm⟩
   ·go_wp2_with fail
    go_meet
    exact⟨rfl,congrArg Value.bool (vq (p:=0<=r.ino/\srcK r pg<16) (by have:=FF.out;omega)).symm⟩
  case rest=>
  obtain⟨LL,rfl⟩:=hcut;rw[LL];clear LL wc;go_upto_if 52 with(fail);go_cut [10,52]from 53 to 58 (fun v v52 wx=>wx=w4/\((dx r pg=true/\v= .iface 248 (.agg #[.int .i64 r.ino, .int .i64 k]))\/(dx r pg=false/\v= .iface 244 (.agg #[]))))
  case first=>
   cases DM:dx r pg with
   |true=>
    have YT:k<16:=(by have h1:=vs DM;have:=FF.out;omega);have hwk:IntKind.i64.wrap k=k:=(by rw[IntKind.wrap_i64];omega);go_wp2_with fail
    go_meet
    exact⟨rfl, .inl ⟨DM,rfl⟩⟩
   |false=>
    go_wp2_with fail
    go_meet
    exact⟨rfl, .inr ⟨DM,rfl⟩⟩
  case rest=>
  obtain⟨LL,yy⟩:=hcut;rw[LL];clear LL wc;have VB:=va yy;clear yy;go_upto_region 9 with(fail);go_cut [12,13,14]from 59 to 71 (fun b tk er wx=>pz w w4 B c a fs m s t root A n cap rl S F clock p L r pg (w.heap.size, .cells #[.int .i64 0, .int .u8 0, .bool false] 83 (0,0)) (w3.heap.size, .cells #[.int .u64 r.fr, .int .u64 r.to, .int .u8 r.prot, .int .i64 r.ino, .int .u64 r.off] 45 (0,0)) b tk er wx)
  case first=>
   rcases VB.out with⟨DM,rfl⟩|⟨DM,rfl⟩
   ·have Oz:=va DM;have DG:=tU (.agg #[.int .i64 r.ino, .int .i64 k]);have ET: ∀W,Below w.heap.size w W->Calls Tryz.prog 231 #[.agg #[.int .i64 r.ino, .int .i64 k], .pointer (some ⟨c,0,none⟩)] W (nY W S c a fs m F r.ino k clock p L):=fun W hW=>
     rG B c a fs m r.ino k clock W S F p L (HH.out.below hW) (by have h0:=(vs DM).1;have h1:=HQ.out.ok.ino1;simp only[Lit.wf,Bool.and_eq_true,decide_eq_true_eq];exact⟨Int.le_trans (by decide) h0,Int.le_trans h1 (by decide)⟩) yA
    have Fq:=va ET;clear ET DM;go_region_held3 (fun w'=>w'.cell? ⟨s,0,none⟩=some (.pointer (some ⟨c,0,none⟩)))
     (first|exact s5|exact s0|exact(aS ((bq _ _ _).block s Lk SH)).trans s5|go_keep)
     ((first
     |(go_simp;rw[iT _ _ _ (by kernel_rfl)];simp only[Result.andThen];rw[km,Oper.upon_enter];refine(Fq.out w4.drew wV.out.drew).mono ?_;rintro e w5 ⟨er,f,p1,L1,vI,S1,rfl,CQ,xf,yG,Cb⟩;unfold ap;have s5:w5.cell? ⟨s,0,none⟩=some (.pointer (some ⟨c,0,none⟩)):=(aS (xf.block s (by simp;omega) WZ)).trans (s0);have Lk:s<w5.heap.size:=World.block_lt_of_cell? _ _ s5;have Hm:=va CQ;have Dw:=va xf;have CE:=va yG;have Gy:=va Cb;have JS:=va CQ.pool.low;clear CQ yG Cb)
     |(go_simp;rw[iT _ _ _ (by kernel_rfl)];simp only[Result.andThen];rw[km,Oper.upon_enter];refine(Fq.out (w4.drew.alloc _) (wV.out.drew.alloc wV.out.drew.size _)).mono ?_;rintro e w5 ⟨er,f,p1,L1,vI,S1,rfl,CQ,xf,yG,Cb⟩;unfold ap;have s5:w5.cell? ⟨s,0,none⟩=some (.pointer (some ⟨c,0,none⟩)):=(aS (xf.block s (by simp;omega) WZ)).trans ((kz (ve _ _ _ (by simp;omega)) 0).trans s0);have Lk:s<w5.heap.size:=World.block_lt_of_cell? _ _ s5;have Hm:=va CQ;have Dw:=va xf;have CE:=va yG;have Gy:=va Cb;have JS:=va CQ.pool.low;clear CQ yG Cb;have xi:w5.heap[w4.heap.size]? =some (.cells #[.int .i64 0, .int .u8 0, .bool false] 83 (0,0)):=(xf.block w4.heap.size (by simp) (Oo.out w4.heap.size Ho)).trans (ab w4.drew _);have k0:w5.cell? ⟨w4.heap.size,0,none⟩=some (.int .i64 0):=aa xi 0;have k1:w5.cell? ⟨w4.heap.size,1,none⟩=some (.int .u8 0):=aa xi 1;have k2:w5.cell? ⟨w4.heap.size,2,none⟩=some (.bool false):=aa xi 2;have kf0:w5.frozen? ⟨w4.heap.size,0,none⟩=false:=ae xi 0;have kf1:w5.frozen? ⟨w4.heap.size,1,none⟩=false:=ae xi 1;have kf2:w5.frozen? ⟨w4.heap.size,2,none⟩=false:=ae xi 2)))
    all_goals
     go_wp2_with fail
     go_meet
     first
     |exact qe Sc.out yd.out wV.out Ho Oo.out Hm.out Dw.out CE.out LA.out AK.out xR LJ xi (dC.clock Gy.out) (.inl ⟨rfl,Oz.out,by rw[<-FF.out];exact Gy.out⟩)
     |exact qg Sc.out yd.out wV.out Ho Oo.out Hm.out Dw.out CE.out LA.out AK.out xR LJ (dC.clock Gy.out) (.inl ⟨rfl,Oz.out,by rw[<-FF.out];exact Gy.out⟩)
   ·have Oz:=va DM;have DG:=um (.agg #[]);have ET: ∀W,Below w.heap.size w W->Calls Tryz.prog 230 #[.agg #[], .pointer (some ⟨c,0,none⟩)] W (oc W S c a fs m clock p L):=fun W hW=>
     rO B c a fs m clock W S F p L (HH.out.below hW)
    have Fq:=va ET;clear ET DM;go_region_held3 (fun w'=>w'.cell? ⟨s,0,none⟩=some (.pointer (some ⟨c,0,none⟩)))
     (first|exact s5|exact s0|exact(aS ((bq _ _ _).block s Lk SH)).trans s5|go_keep)
     ((first
     |(go_simp;rw[iU _ _ _ (by kernel_rfl)];simp only[Result.andThen];rw[ko,Oper.upon_enter];refine(Fq.out w4.drew wV.out.drew).mono ?_;rintro e w5 ⟨er,f,p1,L1,S1,rfl,CQ,xf,yG,Cb⟩;unfold ap;have s5:w5.cell? ⟨s,0,none⟩=some (.pointer (some ⟨c,0,none⟩)):=(aS (xf.block s (by simp;omega) WZ)).trans (s0);have Lk:s<w5.heap.size:=World.block_lt_of_cell? _ _ s5;have Hm:=va CQ;have Dw:=va xf;have CE:=va yG;have Gy:=va Cb;have JS:=va CQ.pool.low;clear CQ yG Cb)
     |(go_simp;rw[iU _ _ _ (by kernel_rfl)];simp only[Result.andThen];rw[ko,Oper.upon_enter];refine(Fq.out (w4.drew.alloc _) (wV.out.drew.alloc wV.out.drew.size _)).mono ?_;rintro e w5 ⟨er,f,p1,L1,S1,rfl,CQ,xf,yG,Cb⟩;unfold ap;have s5:w5.cell? ⟨s,0,none⟩=some (.pointer (some ⟨c,0,none⟩)):=(aS (xf.block s (by simp;omega) WZ)).trans ((kz (ve _ _ _ (by simp;omega)) 0).trans s0);have Lk:s<w5.heap.size:=World.block_lt_of_cell? _ _ s5;have Hm:=va CQ;have Dw:=va xf;have CE:=va yG;have Gy:=va Cb;have JS:=va CQ.pool.low;clear CQ yG Cb;have xi:w5.heap[w4.heap.size]? =some (.cells #[.int .i64 0, .int .u8 0, .bool false] 83 (0,0)):=(xf.block w4.heap.size (by simp) (Oo.out w4.heap.size Ho)).trans (ab w4.drew _);have k0:w5.cell? ⟨w4.heap.size,0,none⟩=some (.int .i64 0):=aa xi 0;have k1:w5.cell? ⟨w4.heap.size,1,none⟩=some (.int .u8 0):=aa xi 1;have k2:w5.cell? ⟨w4.heap.size,2,none⟩=some (.bool false):=aa xi 2;have kf0:w5.frozen? ⟨w4.heap.size,0,none⟩=false:=ae xi 0;have kf1:w5.frozen? ⟨w4.heap.size,1,none⟩=false:=ae xi 1;have kf2:w5.frozen? ⟨w4.heap.size,2,none⟩=false:=ae xi 2)))
    all_goals
     go_wp2_with fail
     go_meet
     first
     |exact qe Sc.out yd.out wV.out Ho Oo.out Hm.out Dw.out CE.out LA.out AK.out xR LJ xi ⟨Int.le_refl _,by omega⟩ (.inr ⟨rfl,Oz.out,rfl,Gy.out⟩)
     |exact qg Sc.out yd.out wV.out Ho Oo.out Hm.out Dw.out CE.out LA.out AK.out xR LJ ⟨Int.le_refl _,by omega⟩ (.inr ⟨rfl,Oz.out,rfl,Gy.out⟩)
  case rest=>
  obtain⟨bb,f,e1,tkB,p1,L1,vI,S1,rfl,rfl,rfl,RE,Im,Ir,Kx,UU,Em,Hb,RN,yU,BU,xU,zM,vO⟩:=hcut;dsimp only at Hb RN;have Iw:=va RE;have MN:=va UU;have QH:=va Em;have XA:=va Hb;have QR:=va RN;have Hk:=va yU;have KK:=va BU;have wC:=va vO;have OK:w.heap.size<wc.heap.size:=(uZ Hb).1;have z0:wc.cell? ⟨w.heap.size,0,none⟩=some (.int .i64 0):=aa Hb 0;have z1:wc.cell? ⟨w.heap.size,1,none⟩=some (.int .u8 0):=aa Hb 1;have z2:wc.cell? ⟨w.heap.size,2,none⟩=some (.bool false):=aa Hb 2;have zf0:=ae Hb 0;have zf1:=ae Hb 1;have zf2:=ae Hb 2;have za:bb≠w.heap.size:=(by omega);clear RE UU Em Hb RN yU BU vO VB;by_cases he:e1=0
  rotate_left
  ·have vK:(e1 != 0)=true:=(by rw[bne_iff_ne];exact he);have HE:=va he;clear he;go_wp2_with fail;refine bodyPost_ret (v:= .tuple #[.agg (ap ⟨0,0,false⟩), .int .i64 e1]) (by simp[results,Tryz.results121,go_sem,OK,z0,z1,z2,zf0,zf1,zf2,ap]) rfl ?_;have vW:e1=4/\p1=p/\L1=L/\ax p L 4 0 p L:=by
    rcases wC.out with⟨_,h2,h3⟩|⟨_,h2,_,h3⟩
    ·have h4:=vs h2;obtain⟨y,hy,If⟩:=HQ.out.file h4.1;exact dC.four h3 q7 h4.2 (ra h4.1 hy If) HE.out
    ·rcases h3.two with e|⟨e,e2,e3,e4⟩
     ·exact absurd e HE.out
     ·subst e e2 e3 e4;exact⟨rfl,rfl,rfl,h3⟩
   obtain⟨rfl,rfl,rfl,ht⟩:=vW;obtain⟨b1,b2⟩:=fj MN.out Hk.out (bq (w:=wc) (b:=w.heap.size) (.int .i64 0) (.int .u8 0) (.bool false)) (fun b hb=>⟨by omega,by rw[hb];exact Kx⟩) ⟨HH.out.lts.1,HH.out.lts.2.1,HH.out.base⟩;exact⟨4,⟨0,0,false⟩,_,_,T,vI,S1,rfl,b1.cache,b2,KK.out,xU,zM,aX.no yo.out yX.out IW.out (yo.out.full ht)⟩
  subst he;cases tkB with
  |false=>
   obtain⟨_,DM,CI⟩:false=false/\dx r pg=true/\GetF F r.ino (srcK r pg) p L clock 0 f p1 L1 vI:=wC.out.resolve_right (fun e=>by cases e.1);obtain⟨a1,a2,a3,a4,a5⟩:=yo.out.get CI;obtain⟨yz,c2,c3,AH,c5,c6⟩:=a5 rfl;have Wk:=va CI;have Oz:=va DM;have g2:wc.cell? ⟨w3.heap.size,2,none⟩=some (.int .u8 r.prot):=aa QR.out 2;have x1:wc.cell? ⟨bb,1,none⟩=some (.int .u8 0):=aa Iw.out 1;have xf1:=ae Iw.out 1;go_upto_region 13 with(fail);obtain⟨w7,yg⟩: ∃w7,w7=wc.setCell ⟨bb,1,none⟩ (.int .u8 r.prot):=⟨_,rfl⟩;rw[<-yg];have xh:Mod (fun b=>b=bb) wc w7:=(by rw[yg];exact aj (S:=fun b=>b=bb) rfl 1 _);have CA:w7.heap[bb]? =some (.cells #[.int .i64 (f:Int), .int .u8 r.prot, .bool true] 83 (0,0)):=by
    rw[yg];have:=Joins.block_setCell (i:=1) Iw.out (.int .u8 r.prot);simpa using this
   obtain⟨Qk,Ob⟩:=fj MN.out Hk.out xh (fun b hb=>⟨by omega,by rw[hb];exact Ir⟩) ⟨HH.out.lts.1,HH.out.lts.2.1,HH.out.base⟩;have Dl:One w7 B c a m S1 s t root A n cap rl:=QH.out.mod xh (fun b hb=>⟨by omega,by omega,fun ad e=>by have:=(HO.out.noR ad e).2.2.2.2.2.2;omega⟩);have Lt:=(xh.block w.heap.size OK (by omega)).trans XA.out;have Jg:w.heap.size<w7.heap.size:=(uZ Lt).1;have Kq:bb<w7.heap.size:=(uZ CA).1;have Cx:=HH.out.lts;have Ge:bb≠m:=(by omega);have XY:w.heap.size≠m:=(by omega);have hP:(r.prot.toNat:Int)=r.prot:=(by omega);have s2:w7.cell? ⟨s,2,none⟩=some (.pointer (some ⟨t,0,none⟩)):=aa Dl.self 2;have b0:w7.cell? ⟨bb,0,none⟩=some (.int .i64 (f:Int)):=aa CA 0;have b1:w7.cell? ⟨bb,1,none⟩=some (.int .u8 r.prot):=aa CA 1;have b2:w7.cell? ⟨bb,2,none⟩=some (.bool true):=aa CA 2;have RZ:Hid (T.lf (Ap.toNat/4096)=none):=va (by rw[AN];exact IW.out);have hmap:=lz t c a root fs m vI Ap (f:Int) r.prot true w7.drew S1 p1 T L1 hold 0 ⟨f,r.prot.toNat,true⟩ (Qk.cache.below (vz w7.heap.size w7).drew) Dl.tab Dl.noT.1 Dl.noT.2.1 a1.good HR.out yW hA9 (by have:=HA.out;omega) (by omega) (by rw[aR yz];omega) (by rw[RZ.out];rfl) rfl hP.symm rfl yz AH (by show p1.cnt f+1<1000000000000;have:=a1.cap yz;have:=wY f;omega);rw[AN]at hmap;clear a1 a2 a3 a4 a5 CI DM c2 c3 c5 c6;have Gu:=va hmap;have HH7:=va Qk;have MI:=va Dl;have IB:=va Ob;have He:=va CA;have VL:=va Lt;clear hmap Qk Dl Ob CA Lt yg xh g2 x1 xf1 z0 z1 z2 zf0 zf1 zf2 AN
   go_still_tail 6,(by kernel_rfl)
   go_wp2_with fail;refine(Gu.out).mono ?_;rintro e w8 ⟨er2,p2,T2,L2,S2,rfl,Vd,zj,GI,EF,zK⟩;have yO:=zj.undrew;have FU: ∀b,b<w7.heap.size-> ¬S1 b-> ¬S2 b:=fun b hb h1 e=>(GI b e).elim h1 (fun e=>by have:w7.heap.size<=b:=e;omega);have NZ:=(yO.block bb Kq (fun e=>e.elim Ir Ge)).trans He.out;have Oa:=(yO.block w.heap.size Jg (fun e=>e.elim Kx XY)).trans VL.out;have OM:w.heap.size<w8.heap.size:=(uZ Oa).1;have PU:bb<w8.heap.size:=(uZ NZ).1;have UT:=HH7.out.step Vd (yO.sub fun b hb=>hb.elim .inl fun e=> .inr (.inl e)) GI;have UQ:Mod (aw S c m) w w8:=IB.out.trans (fun b e=>by
    rcases e with e|e|e
    ·exact(KK.out b e).imp .inl id
    ·exact .inl (.inr (.inl e))
    ·exact .inl (.inr (.inr e))) (yO.sub (T:=aw S1 c m) fun b hb=>hb.elim .inl fun e=> .inr (.inl e))
   have UN:Out S S2 w:=fun b e=>(GI b e).elim (fun e=>KK.out b e) (fun e=> .inr (by have:w7.heap.size<=b:=e;omega));have UJ:=FU bb Kq Ir;have Mr:=FU w.heap.size Jg Kx;have On:=va (MI.out.foot (yO.sub fun b hb=>hb.elim .inl fun e=> .inr (.inl e)) GI);have Wh:=va UT;have Ep:=va UQ;have Mx:=va UN;have KO:=va EF;have La:=va zK;have Og:=va NZ;have DY:=va Oa;clear Vd zj GI EF zK yO FU UT UQ UN s2 b0 b1 b2;have k0:w8.cell? ⟨bb,0,none⟩=some (.int .i64 (f:Int)):=aa Og.out 0;have k1:w8.cell? ⟨bb,1,none⟩=some (.int .u8 r.prot):=aa Og.out 1;have k2:w8.cell? ⟨bb,2,none⟩=some (.bool true):=aa Og.out 2;have z0:w8.cell? ⟨w.heap.size,0,none⟩=some (.int .i64 0):=aa DY.out 0;have z1:w8.cell? ⟨w.heap.size,1,none⟩=some (.int .u8 0):=aa DY.out 1;have z2:w8.cell? ⟨w.heap.size,2,none⟩=some (.bool false):=aa DY.out 2;have zf0:=ae DY.out 0;have zf1:=ae DY.out 1;have zf2:=ae DY.out 2;go_wp2_with fail;refine bodyPost_ret (v:= .tuple #[.agg (ap ⟨f,r.prot.toNat,true⟩), .int .i64 er2]) (by simp[results,Tryz.results121,go_sem,OM,PU,z0,z1,z2,zf0,zf1,zf2,ap,hP]) rfl ?_;obtain⟨e1,e2⟩:=fj Wh.out Ep.out (bq (w:=w8) (b:=w.heap.size) (.int .i64 (f:Int)) (.int .u8 r.prot) (.bool true)) (fun b hb=>⟨by omega,by rw[hb];exact Mr⟩) ⟨HH.out.lts.1,HH.out.lts.2.1,HH.out.base⟩;exact⟨er2,_,p2,L2,T2,vI,S2,rfl,e1.cache,e2,Mx.out,xU,zM,aX.filed (ino:=r.ino) (clock:=clock) yo.out yX.out (by show pg<68719476736;omega) IW.out Oz.out Wk.out rfl KO.out La.out⟩
  |true=>
   obtain⟨_,DM,Zs,CI⟩:true=true/\dx r pg=false/\vI=clock/\ax p L 0 f p1 L1:=wC.out.resolve_left (fun e=>by cases e.1);obtain⟨a1,a2,a3,a4,a5⟩:=yo.out.take CI;have yz:f<p1.n:=(by rw[(a2 fun _ =>False).n];exact a5.lt);have AH:1<=p1.cnt f:=(by rw[a5.one];exact vd _);have Wk:=va CI;have Oz:=va DM;have g2:wc.cell? ⟨w3.heap.size,2,none⟩=some (.int .u8 r.prot):=aa QR.out 2;have x1:wc.cell? ⟨bb,1,none⟩=some (.int .u8 0):=aa Iw.out 1;have xf1:=ae Iw.out 1;go_upto_region 13 with(fail);obtain⟨w7,yg⟩: ∃w7,w7=wc.setCell ⟨bb,1,none⟩ (.int .u8 r.prot):=⟨_,rfl⟩;rw[<-yg];have xh:Mod (fun b=>b=bb) wc w7:=(by rw[yg];exact aj (S:=fun b=>b=bb) rfl 1 _);have CA:w7.heap[bb]? =some (.cells #[.int .i64 (f:Int), .int .u8 r.prot, .bool false] 83 (0,0)):=by
    rw[yg];have:=Joins.block_setCell (i:=1) Iw.out (.int .u8 r.prot);simpa using this
   obtain⟨Qk,Ob⟩:=fj MN.out Hk.out xh (fun b hb=>⟨by omega,by rw[hb];exact Ir⟩) ⟨HH.out.lts.1,HH.out.lts.2.1,HH.out.base⟩;have Dl:One w7 B c a m S1 s t root A n cap rl:=QH.out.mod xh (fun b hb=>⟨by omega,by omega,fun ad e=>by have:=(HO.out.noR ad e).2.2.2.2.2.2;omega⟩);have Lt:=(xh.block w.heap.size OK (by omega)).trans XA.out;have Jg:w.heap.size<w7.heap.size:=(uZ Lt).1;have Kq:bb<w7.heap.size:=(uZ CA).1;have Cx:=HH.out.lts;have Ge:bb≠m:=(by omega);have XY:w.heap.size≠m:=(by omega);have hP:(r.prot.toNat:Int)=r.prot:=(by omega);have s2:w7.cell? ⟨s,2,none⟩=some (.pointer (some ⟨t,0,none⟩)):=aa Dl.self 2;have b0:w7.cell? ⟨bb,0,none⟩=some (.int .i64 (f:Int)):=aa CA 0;have b1:w7.cell? ⟨bb,1,none⟩=some (.int .u8 r.prot):=aa CA 1;have b2:w7.cell? ⟨bb,2,none⟩=some (.bool false):=aa CA 2;have RZ:Hid (T.lf (Ap.toNat/4096)=none):=va (by rw[AN];exact IW.out);have hmap:=lz t c a root fs m vI Ap (f:Int) r.prot false w7.drew S1 p1 T L1 (upd hold f 1) 0 ⟨f,r.prot.toNat,false⟩ (Qk.cache.below (vz w7.heap.size w7).drew) Dl.tab Dl.noT.1 Dl.noT.2.1 a1.good HR.out yW hA9 (by have:=HA.out;omega) (by omega) (by rw[aR yz];omega) (by rw[RZ.out];rfl) rfl hP.symm rfl yz AH (by show p1.cnt f+1<1000000000000;rw[a5.one];decide);rw[AN]at hmap;clear a1 a2 a3 a4 a5 CI DM;have Gu:=va hmap;have HH7:=va Qk;have MI:=va Dl;have IB:=va Ob;have He:=va CA;have VL:=va Lt;clear hmap Qk Dl Ob CA Lt yg xh g2 x1 xf1 z0 z1 z2 zf0 zf1 zf2 AN
   go_still_tail 6,(by kernel_rfl)
   go_wp2_with fail;refine(Gu.out).mono ?_;rintro e w8 ⟨er2,p2,T2,L2,S2,rfl,Vd,zj,GI,EF,zK⟩;have yO:=zj.undrew;have FU: ∀b,b<w7.heap.size-> ¬S1 b-> ¬S2 b:=fun b hb h1 e=>(GI b e).elim h1 (fun e=>by have:w7.heap.size<=b:=e;omega);have NZ:=(yO.block bb Kq (fun e=>e.elim Ir Ge)).trans He.out;have Oa:=(yO.block w.heap.size Jg (fun e=>e.elim Kx XY)).trans VL.out;have OM:w.heap.size<w8.heap.size:=(uZ Oa).1;have PU:bb<w8.heap.size:=(uZ NZ).1;have UT:=HH7.out.step Vd (yO.sub fun b hb=>hb.elim .inl fun e=> .inr (.inl e)) GI;have UQ:Mod (aw S c m) w w8:=IB.out.trans (fun b e=>by
    rcases e with e|e|e
    ·exact(KK.out b e).imp .inl id
    ·exact .inl (.inr (.inl e))
    ·exact .inl (.inr (.inr e))) (yO.sub (T:=aw S1 c m) fun b hb=>hb.elim .inl fun e=> .inr (.inl e))
   have UN:Out S S2 w:=fun b e=>(GI b e).elim (fun e=>KK.out b e) (fun e=> .inr (by have:w7.heap.size<=b:=e;omega));have UJ:=FU bb Kq Ir;have Mr:=FU w.heap.size Jg Kx;have On:=va (MI.out.foot (yO.sub fun b hb=>hb.elim .inl fun e=> .inr (.inl e)) GI);have Wh:=va UT;have Ep:=va UQ;have Mx:=va UN;have KO:=va EF;have La:=va zK;have Og:=va NZ;have DY:=va Oa;clear Vd zj GI EF zK yO FU UT UQ UN s2 b0 b1 b2;rcases wC.out with⟨hf9,_⟩|⟨_,DM,_,CI⟩
   ·exact absurd hf9 (by decide)
   have FB:=aX.blank yo.out yX.out (by show pg<68719476736;omega) IW.out DM CI rfl KO.out La.out;have Mg:=cZ a f w8.drew S2 p2 Wh.out.cache.pool.drew FB.2.1 FB.2.2;have k0:w8.cell? ⟨bb,0,none⟩=some (.int .i64 (f:Int)):=aa Og.out 0;have s1:w8.cell? ⟨s,1,none⟩=some (.pointer (some ⟨a,0,none⟩)):=aa On.out.self 1;have Hn:=va FB;have Wu:=va Mg;clear DM CI FB Mg;go_upto_region 15 with(fail)
   go_still_tail 6,(by kernel_rfl)
   go_wp2_with fail;refine(Wu.out).mono ?_;rintro e w9 ⟨rfl,Ky,Ma⟩;have zi:=Ma.undrew;have RD:=(zi.block bb PU UJ).trans Og.out;have RI:=(zi.block w.heap.size OM Mr).trans DY.out;have OL:w.heap.size<w9.heap.size:=(uZ RI).1;have Zw:bb<w9.heap.size:=(uZ RD).1;have hC9:=Wh.out.cache.turn zi Ky (Out.refl _ _);have HH9:=va (Wh.out.step hC9 (zi.sub fun b hb=> .inl hb) (Out.refl _ _));have HM9:Hid (Mod (aw S c m) w w9):=va (Ep.out.trans (fun b e=>(Mx.out b e).imp .inl id) zi);have Qu:=va RD;have RW:=va RI;clear zi Ma RD RI hC9 Ky k0 s1;have k0:w9.cell? ⟨bb,0,none⟩=some (.int .i64 (f:Int)):=aa Qu.out 0;have k1:w9.cell? ⟨bb,1,none⟩=some (.int .u8 r.prot):=aa Qu.out 1;have k2:w9.cell? ⟨bb,2,none⟩=some (.bool false):=aa Qu.out 2;have z0:w9.cell? ⟨w.heap.size,0,none⟩=some (.int .i64 0):=aa RW.out 0;have z1:w9.cell? ⟨w.heap.size,1,none⟩=some (.int .u8 0):=aa RW.out 1;have z2:w9.cell? ⟨w.heap.size,2,none⟩=some (.bool false):=aa RW.out 2;have zf0:=ae RW.out 0;have zf1:=ae RW.out 1;have zf2:=ae RW.out 2;go_wp2_with fail;refine bodyPost_ret (v:= .tuple #[.agg (ap ⟨f,r.prot.toNat,false⟩), .int .i64 er2]) (by simp[results,Tryz.results121,go_sem,OL,Zw,z0,z1,z2,zf0,zf1,zf2,ap,hP]) rfl ?_;obtain⟨e1,e2⟩:=fj HH9.out HM9.out (bq (w:=w9) (b:=w.heap.size) (.int .i64 (f:Int)) (.int .u8 r.prot) (.bool false)) (fun b hb=>⟨by omega,by rw[hb];exact Mr⟩) ⟨HH.out.lts.1,HH.out.lts.2.1,HH.out.base⟩;exact⟨er2,_,p2.down f,L2,T2,vI,S2,rfl,e1.cache,e2,Mx.out,xU,zM,Hn.out.1⟩
end
