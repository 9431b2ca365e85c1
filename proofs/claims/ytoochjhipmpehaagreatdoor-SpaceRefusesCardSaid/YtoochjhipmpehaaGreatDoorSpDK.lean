/- Spaces: bring. -/
import Derived.Test.YtoochjhipmpehaaGreatDoorSbK
set_option linter.unusedVariables false
set_option linter.unusedSimpArgs false
set_option maxRecDepth 100000
set_option maxHeartbeats 8000000
namespace Go.Proofs.YtoochjhipmpehaaGreatDoor
section
open Go.RowKit Go.Sort
theorem iK (v:Value) (w:World) (n:Nat) (hn:n=Tryz.prog.types.size+Made.depth):(method n 248 v "hostel/space.leaf").run Tryz.prog w= .ok (231,v) w:=by
 subst hn;kernel_rfl
theorem iL (v:Value) (w:World) (n:Nat) (hn:n=Tryz.prog.types.size+Made.depth):(method n 244 v "hostel/space.leaf").run Tryz.prog w= .ok (230,v) w:=by
 subst hn;kernel_rfl
theorem tD (v:Value) (n:Nat) (W:World):(nilAhead (n+1) 248 v "hostel/space.leaf").run Tryz.prog W= .ok (some false) W:=by kernel_rfl
theorem tT (v:Value) (n:Nat) (W:World):(nilAhead (n+1) 244 v "hostel/space.leaf").run Tryz.prog W= .ok (some false) W:=by kernel_rfl
theorem jX (v x:Value) (w:World):(callFunc 231 #[v,x]).run Tryz.prog w= .ok (.enter 231 #[v,x]) w:=by kernel_rfl
theorem jY (v x:Value) (w:World):(callFunc 230 #[v,x]).run Tryz.prog w= .ok (.enter 230 #[v,x]) w:=by kernel_rfl
variable {w w':World}
theorem bn {b i:Nat} (h:w'.heap[b]? =w.heap[b]?):w'.cell? ⟨b,i,none⟩=w.cell? ⟨b,i,none⟩:=by unfold World.cell?;simp only[h]
def uE (w:World) (S:Nat->Prop) (c a fs m:Nat) (F:List Nd) (clock:Int) (p:Pool) (L:List Slot) (T:Tab) (hold:Nat->Nat) (r:Reg) (pg:Nat) (e:Ending) (w':World):Prop:=
 ∃er l p' L' T' vi S',e= .returned (.tuple #[.agg (ap l), .int .i64 er])/\ar w' S' c a fs m vi p' L'/\Mod (av S c m) w w'/\Out S S' w/\clock<=vi/\vi<=clock+1/\aU F hold r pg p L T er l p' L' T'
variable {p:Pool} {L:List Slot} {f:Nat}
theorem dx.clock {ino page r0:Int} {k:Nat} {d:Nat->Nat} {p':Pool} {L':List Slot} {clock vi r:Int} (h:dx ino page r0 k d p L clock r f p' L' vi):clock<=vi/\vi<=clock+1:=by
 cases h<;>constructor<;>omega
variable {B c a m s t root n cap:Nat} {S X:Nat->Prop} {A:Option Addr} {rl:List Reg}
theorem One.mod (h:One w B c a m S s t root A n cap rl) (hm:Mod X w w') (hX: ∀b,X b->b≠s/\b≠t/\ ∀ad,A=some ad->ad.block≠b):One w' B c a m S s t root A n cap rl:=
 ⟨(
  hm.block s h.lts.1 (fun e=>(hX s e).1 rfl)).trans h.self,(hm.block t h.lts.2.1 (fun e=>(hX t e).2.1 rfl)).trans h.tab,h.row.mod hm (fun ad e x=>(hX _ x).2.2 ad e rfl),h.noS,h.noT,fun ad e=>by
  obtain⟨n1,n2,n3,n4,n5,n6,n7⟩:=h.noR ad e;have:=hm.size;exact⟨n1,n2,n3,n4,n5,n6,by omega⟩⟩
variable {w4 w5:World} {fs:Nat} {S1:Nat->Prop} {F:List Nd} {vp:Int} {p1:Pool} {L1:List Slot}
theorem kU {Wc w6:World} {clock:Int}
  (hH:Home w4 B c a fs m S F clock p L) (hO:One w4 B c a m S s t root A n cap rl) (hB:Below w.heap.size w w4) (hz:w.heap.size<=w4.heap.size) (Lo: ∀b,w.heap.size<=b-> ¬av S c m b) (hb:Below w4.heap.size w4 Wc)
  (hC:ar w5 S1 c a fs m vp p1 L1) (wH:Mod (av S c m) Wc w5) (yt:Out S S1 Wc) (yX:Mod (fun b=>w4.heap.size<=b/\b<Wc.heap.size) w5 w6):
  Home w6 B c a fs m S1 F vp p1 L1/\One w6 B c a m S1 s t root A n cap rl/\(∀b,w.heap.size<=b->b<w4.heap.size->w6.heap[b]? =w4.heap[b]?)/\Mod (av S c m) w w6/\Out S S1 w/\(∀b,w.heap.size<=b->b<Wc.heap.size-> ¬S1 b):=by
 have h1:=(hH.below hb).step hC wH yt;have h2:=(hO.below hb).foot wH yt;have hzb:=hb.size;have vE: ∀b,w.heap.size<=b->b<Wc.heap.size-> ¬S1 b:=fun b vk vs e=>by
  rcases yt b e with e|e
  ·exact Lo b vk (.inl e)
  ·omega
 have hl:=hH.lts;have vV:=hO.lts;have hBz:=hH.base;have It:=wH.size;have QG:=yX.size;refine⟨h1.mod yX (fun b hb=>⟨vE b (by omega) hb.2,by omega,by omega,by omega⟩),h2.mod yX (fun b hb=>⟨by omega,by omega,fun ad e=>by have:=(hO.noR ad e).2.2.2.2.2.2;omega⟩),fun b vk vs=>(yX.block b (by omega) (by omega)).trans ((wH.block b (by omega) (Lo b vk)).trans (hb.block b vs)),?_,fun b e=>(yt b e).imp id (fun e=>by omega),vE⟩;have h3:Mod (fun b=>av S c m b\/w.heap.size<=b) w w6:=((Mod.of (hB.trans (hb.mono hz))).trans (Out.refl _ _) (wH.sub fun b e=> .inl e)).trans (Out.refl _ _) (yX.sub fun b e=> .inr (by omega));exact h3.own fun b e=>e
def pi (w w4:World) (B c a fs m s t root:Nat) (A:Option Addr) (n cap:Nat) (rl:List Reg) (S:Nat->Prop) (F:List Nd) (clock:Int) (p:Pool) (L:List Slot) (r:Reg) (pg:Nat) (o1 o2:Nat×Obj) (b tk er:Value) (wx:World):Prop:=
 ∃(bb f:Nat) (e1:Int) (tkB:Bool) (p1:Pool) (L1:List Slot) (vp:Int) (S1:Nat->Prop),b= .pointer (some ⟨bb,0,none⟩)/\tk= .bool tkB/\er= .int .i64 e1/\wx.heap[bb]? =some (.cells #[.int .i64 (f:Int), .int .u8 0, .bool (!tkB)] 83 (0,0))/\w4.heap.size<=bb/\ ¬S1 bb/\ ¬S1 w.heap.size/\
  Home wx B c a fs m S1 F vp p1 L1/\One wx B c a m S1 s t root A n cap rl/\wx.heap[o1.1]? =some o1.2/\wx.heap[o2.1]? =some o2.2/\Mod (av S c m) w wx/\Out S S1 w/\clock<=vp/\vp<=clock+1/\
  ((tkB=false/\dt r pg=true/\GetF F r.ino (srcK r pg) p L clock e1 f p1 L1 vp)\/(tkB=true/\dt r pg=false/\vp=clock/\aw p L e1 f p1 L1))
theorem fd {wx:World} (hH:Home wx B c a fs m S1 F vp p1 L1) (hm:Mod (av S c m) w wx) (hX:Mod X wx w') (hXn: ∀b,X b->w.heap.size<=b/\ ¬S1 b) (hw:c<w.heap.size/\m<w.heap.size/\B<=w.heap.size):
  Home w' B c a fs m S1 F vp p1 L1/\Mod (av S c m) w w':=
 ⟨hH.mod hX (fun b hb=>by obtain⟨h1,h2⟩:=hXn b hb;exact⟨h2,by omega,by omega,by omega⟩),((hm.sub (T:=fun b=>av S c m b\/w.heap.size<=b) fun b e=> .inl e).trans (Out.refl _ _) (hX.sub fun b hb=> .inr (hXn b hb).1)).own fun b e=>e⟩
variable {w3:World} {pg:Nat} {r:Reg} {e1:Int} {o1 o2:Obj} {tkB:Bool}
theorem pP {clock:Int} {o:Obj}
  (hH:Home w4 B c a fs m S F clock p L) (hO:One w4 B c a m S s t root A n cap rl) (hB:Below w.heap.size w w4) (hz:w.heap.size<=w4.heap.size) (Lo: ∀b,w.heap.size<=b-> ¬av S c m b)
  (hC:ar w5 S1 c a fs m vp p1 L1) (wH:Mod (av S c m) (w4.drew.alloc o) w5) (yt:Out S S1 (w4.drew.alloc o)) (h1:w4.heap[w.heap.size]? =some o1) (h2:w4.heap[w3.heap.size]? =some o2) (xq:w.heap.size<w3.heap.size) (AN:w3.heap.size<w4.heap.size)
  (hx:w5.heap[w4.heap.size]? =some (.cells #[.int .i64 0, .int .u8 0, .bool false] 83 (0,0))) (zy:clock<=vp/\vp<=clock+1)
  (vw:(tkB=false/\dt r pg=true/\GetF F r.ino (srcK r pg) p L clock e1 f p1 L1 vp)\/(tkB=true/\dt r pg=false/\vp=clock/\aw p L e1 f p1 L1)):
  pi w w4 B c a fs m s t root A n cap rl S F clock p L r pg (w.heap.size,o1) (w3.heap.size,o2) (.pointer (some ⟨w4.heap.size,0,none⟩)) (.bool tkB) (.int .i64 e1) (((w5.setCell ⟨w4.heap.size,0,none⟩ (.int .i64 (f:Int))).setCell ⟨w4.heap.size,1,none⟩ (.int .u8 0)).setCell ⟨w4.heap.size,2,none⟩ (.bool (!tkB))):=by
 have hb:Below w4.heap.size w4 (w4.drew.alloc o):=((vg w4.heap.size w4).drew).alloc (by simp) _;have Mt:(w4.drew.alloc o).heap.size=w4.heap.size+1:=(by simp);obtain⟨a1,a2,a3,a4,a5,a6⟩:=kU hH hO hB hz Lo hb hC wH yt ((bg (w:=w5) (b:=w4.heap.size) (.int .i64 (f:Int)) (.int .u8 0) (.bool (!tkB))).sub fun b e=>⟨by omega,by omega⟩);exact⟨_,f,e1,tkB,p1,L1,vp,S1,rfl,rfl,rfl,rY hx,uK _,a6 _ hz (by omega),a6 _ (uK _) (by omega),a1,a2,(a3 _ (uK _) (by omega)).trans h1,(a3 _ (by omega) AN).trans h2,a4,a5,zy.1,zy.2,vw⟩
theorem pQ {clock:Int}
  (hH:Home w4 B c a fs m S F clock p L) (hO:One w4 B c a m S s t root A n cap rl) (hB:Below w.heap.size w w4) (hz:w.heap.size<=w4.heap.size) (Lo: ∀b,w.heap.size<=b-> ¬av S c m b)
  (hC:ar w5 S1 c a fs m vp p1 L1) (wH:Mod (av S c m) w4.drew w5) (yt:Out S S1 w4.drew) (h1:w4.heap[w.heap.size]? =some o1) (h2:w4.heap[w3.heap.size]? =some o2) (xq:w.heap.size<w3.heap.size) (AN:w3.heap.size<w4.heap.size) (zy:clock<=vp/\vp<=clock+1)
  (vw:(tkB=false/\dt r pg=true/\GetF F r.ino (srcK r pg) p L clock e1 f p1 L1 vp)\/(tkB=true/\dt r pg=false/\vp=clock/\aw p L e1 f p1 L1)):
  pi w w4 B c a fs m s t root A n cap rl S F clock p L r pg (w.heap.size,o1) (w3.heap.size,o2) (.pointer (some ⟨w5.heap.size,0,none⟩)) (.bool tkB) (.int .i64 e1) (w5.alloc (.cells #[.int .i64 (f:Int), .int .u8 0, .bool (!tkB)] 83)):=by
 have hb:Below w4.heap.size w4 w4.drew:=(vg w4.heap.size w4).drew;obtain⟨a1,a2,a3,a4,a5,a6⟩:=kU hH hO hB hz Lo hb hC wH yt (Mod.of ((vg w5.heap.size w5).alloc (uK _) (.cells #[.int .i64 (f:Int), .int .u8 0, .bool (!tkB)] 83)));exact⟨_,f,e1,tkB,p1,L1,vp,S1,rfl,rfl,rfl,ab _ _,wH.size,(fun e=>by have:=hC.pool.low _ e;omega),a6 _ (uK _) (by show _ <w4.heap.size;omega),a1,a2,(a3 _ (uK _) (by omega)).trans h1,(a3 _ (by omega) AN).trans h2,a4,a5,zy.1,zy.2,vw⟩
theorem nE (B c a fs m s t root n cap pg:Nat) (A:Option Addr) (rl:List Reg) (r:Reg) (clock Ap:Int) (w:World) (S:Nat->Prop) (F:List Nd) (p:Pool) (L:List Slot) (T:Tab) (hold:Nat->Nat)
  (hH:Home w B c a fs m S F clock p L) (hO:One w B c a m S s t root A n cap rl) (xM:Sp F hold p L T) (ho:Own p T) (hr:T.nd 4 0=some root) (hq:Ask F rl r pg) (hA:Ap=(pg:Int)*4096) (wB: ∀f,hold f<=100000000000) (zy:0<=clock/\clock<1000000):
  Calls Tryz.prog 121 #[.pointer (some ⟨s,0,none⟩), .int .u64 Ap] w (uE w S c a fs m F clock p L T hold r pg):=by
 obtain⟨q1,q2,q3,q4,q5,q6,q7⟩:=hq.facts;have yv:0<=Ap:=(by omega);have YY:Ap<140737488355328:=(by omega);obtain⟨w0,vl⟩: ∃w0,w0=w.alloc (.cells #[.int .i64 0, .int .u8 0, .bool false] 83):=⟨_,rfl⟩;have vm:Below w.heap.size w w0:=(by rw[vl];exact uJ);have yB:w0.heap[w.heap.size]? =some (.cells #[.int .i64 0, .int .u8 0, .bool false] 83 (0,0)):=(by rw[vl];exact ab w _);have Ac:=hO.below vm;have DP:=hH.below vm;have s2:w0.cell? ⟨s,2,none⟩=some (.pointer (some ⟨t,0,none⟩)):=aa Ac.self 2;have JA:=sa t c a root Ap w0 S p T DP.cache.pool Ac.tab Ac.lts.2.1 (xM.good.tree hr) yv;obtain⟨fl,xY⟩: ∃fl,fl=cH T Ap:=⟨_,rfl⟩;rw[<-xY]at JA;have NU:=uH JA;have HFL:=uH xY;have vF:=uH vl;have wj:=uH vm;have CS:=uH yB;have HO:=uH hO;have HH:=uH hH;have yc:=uH xM;have yx:=uH ho;have HR:=uH hr;have HQ:=uH hq;have HA:=uH hA;have yK:=hO.lts;clear JA xY vl vm yB hO hH Ac DP xM ho hr hq hA;go_enter Tryz.func121,Tryz.ntmps121;go_upto_region 1 with(fail);rw[<-vF.out];have Ah:Ap.toNat/4096=pg:=(by have:=HA.out;omega);cases vY:T.lf pg with
 |some l=>
  have Pe:fl=(l,0):=by
   rw[HFL.out];unfold cH;rw[if_neg (by omega),Ah,vY]
  subst Pe;have FQ:=uH vY;clear vY;go_wp2_with (first
   |(go_at_call 156;refine(NU.out).mono ?_;rintro e w1 ⟨rfl,vk⟩;have zT:=(vk.block w.heap.size (uG CS.out).1).trans CS.out;have Jl:w.heap.size<w1.heap.size:=(uG zT).1;have z0:w1.cell? ⟨w.heap.size,0,none⟩=some (.int .i64 0):=aa zT 0;have z1:w1.cell? ⟨w.heap.size,1,none⟩=some (.int .u8 0):=aa zT 1;have z2:w1.cell? ⟨w.heap.size,2,none⟩=some (.bool false):=aa zT 2;have zf0:=ae zT 0;have zf1:=ae zT 1;have zf2:=ae zT 2;unfold ap)
   |fail)
  have hB:=(((wj.out.trans (vk.mono wj.out.size)).setCell (p:=⟨w.heap.size,0,none⟩) (uK _) (.int .i64 (l.frame:Int))).setCell (p:=⟨w.heap.size,1,none⟩) (uK _) (.int .u8 (l.prot:Int))).setCell (p:=⟨w.heap.size,2,none⟩) (uK _) (.bool l.copy);have xe:=hB.alloc hB.size (.cells #[.int .i64 (l.frame:Int), .int .u8 (l.prot:Int), .bool l.copy] 83);exact bodyPost_ret (v:= .tuple #[.agg (ap l), .int .i64 0]) (by simp[results,Tryz.results121,go_sem,Jl,z0,z1,z2,zf0,zf1,zf2,ap]) rfl ⟨0,l,p,L,T,clock,S,rfl,(HH.out.below xe).cache,Mod.of xe,Out.refl _ _,Int.le_refl _,by omega,aU.there yc.out yx.out FQ.out⟩
 |none=>
  have Pe:fl=(noLeaf,6):=by
   rw[HFL.out];unfold cH;rw[if_neg (by omega),Ah,vY]
  subst Pe;have FQ:=uH vY;clear vY;have Sl: ∀W,Below w.heap.size w W->Calls Tryz.prog 114 #[.slice A n cap, .int .u64 Ap] W fun e w'=>e= .returned (.tuple #[.agg #[.int .u64 (r).fr, .int .u64 (r).to, .int .u8 (r).prot, .int .i64 (r).ino, .int .u64 (r).off], .bool true])/\Below W.heap.size W w':=fun W hW=>by
   have h1:=lQ A n cap Ap W rl (HO.out.below hW).row;rw[HA.out,HQ.out.find]at h1;rw[HA.out];exact h1
  have xm: ∀W,Below w.heap.size w W-> ∀i v,w.cell? ⟨s,i,none⟩=some v->W.cell? ⟨s,i,none⟩=some v:=fun W hW i v h=>(hW.cell (p:=⟨s,i,none⟩) yK.1).trans h;have Zt:=uH Sl;have GB:=uH xm;clear Sl xm;go_upto_region 4 with(first
   |(go_at_call 156;refine(NU.out).mono ?_;rintro e w1 ⟨rfl,vk⟩;unfold ap noLeaf)
   |fail)
  obtain⟨w2,vU⟩: ∃w2,w2=w1.alloc (.cells #[.int .i64 0, .int .u8 0, .bool false] 83):=⟨_,rfl⟩;rw[<-vU];have xe:Below w.heap.size w w2:=(by rw[vU];exact(wj.out.trans (vk.mono wj.out.size)).alloc (wj.out.trans (vk.mono wj.out.size)).size _);have s3:w2.cell? ⟨s,3,none⟩=some (.slice A n cap):=GB.out w2 xe 3 _ (aa HO.out.self 3);have Ml:=uH (Zt.out w2 xe);have xd:=uH xe;have xE:w2.heap[w.heap.size]? =some (.cells #[.int .i64 0, .int .u8 0, .bool false] 83 (0,0)):=by
   have hl:=(uG CS.out).1;have:=vk.size;rw[vU];exact((uL _ _ _ (by omega)).trans (vk.block _ hl)).trans CS.out
  have Cw:=uH xE;clear vU vk xe xE s2;go_upto_region 5 with(first
   |(go_at_call 114;refine(Ml.out).mono ?_;rintro e w3 ⟨rfl,vG⟩)
   |fail)
  obtain⟨w4,yq⟩: ∃w4,w4=w3.alloc (.cells #[.int .u64 r.fr, .int .u64 r.to, .int .u8 r.prot, .int .i64 r.ino, .int .u64 r.off] 45):=⟨_,rfl⟩;rw[<-yq];have Ct:Below w.heap.size w w4:=(by rw[yq];exact(xd.out.trans (vG.mono xd.out.size)).alloc (xd.out.trans (vG.mono xd.out.size)).size _);have Rf:w4.heap[w.heap.size]? =some (.cells #[.int .i64 0, .int .u8 0, .bool false] 83 (0,0)):=by
   have hl:=(uG Cw.out).1;have:=vG.size;rw[yq];exact((uL _ _ _ (by omega)).trans (vG.block _ hl)).trans Cw.out
  have Gt:w4.heap[w3.heap.size]? =some (.cells #[.int .u64 r.fr, .int .u64 r.to, .int .u8 r.prot, .int .i64 r.ino, .int .u64 r.off] 45 (0,0)):=(by rw[yq];exact ab w3 _);have Lc:w3.heap.size<w4.heap.size:=(by rw[yq];simp);have xq:w.heap.size<w3.heap.size:=by
   have hl:=(uG Cw.out).1;have:=vG.size;omega
  have wu:=uH Ct;have NC:=uH Rf;have HR4lt:=uH (show w.heap.size<w4.heap.size from(uG Rf).1);have Ae:=uH Gt;have x0:w4.cell? ⟨w3.heap.size,0,none⟩=some (.int .u64 r.fr):=aa Gt 0;have x3:w4.cell? ⟨w3.heap.size,3,none⟩=some (.int .i64 r.ino):=aa Gt 3;have x4:w4.cell? ⟨w3.heap.size,4,none⟩=some (.int .u64 r.off):=aa Gt 4;have WX:IntKind.u64.wrap (r.off+Ap)=r.off+Ap:=(by rw[IntKind.wrap_u64];omega);have WW:IntKind.u64.wrap (r.off+Ap-r.fr)=r.off+Ap-r.fr:=(by have:=HA.out;have:=HQ.out.lo;rw[IntKind.wrap_u64];omega);obtain⟨k,hk⟩: ∃k,(r.off+Ap-r.fr)/4096=k:=⟨_,rfl⟩;have Am:k=srcK r pg:=(by rw[<-hk,HA.out];rfl);have EZ:=uH Am;have yn:0<=k:=(by rw[Am];exact q7);have AF:k<1000000000000:=(by omega);have s0:w4.cell? ⟨s,0,none⟩=some (.pointer (some ⟨c,0,none⟩)):=GB.out w4 Ct 0 _ (aa HO.out.self 0);clear yq vG Ct Rf Gt Am s3;have Lo: ∀b,w.heap.size<=b-> ¬av S c m b:=fun b hb e=>by
   have h1:=HH.out.lts;rcases e with e|e|e
   ·have:=h1.2.2 b e;omega
   ·omega
   ·omega
  have NK:=uH Lo;have GK:w.heap.size<=w4.heap.size:=wu.out.size;have Wa: ¬av S c m s:=fun e=>by
   have h1:=HO.out.noS;exact e.elim h1.1 fun e=>e.elim h1.2.1 h1.2.2.1
  have Xo:s<w4.heap.size:=(by omega);have Sa:s≠w4.heap.size:=(by omega);clear Lo;have Kz:=uH (HH.out.below wu.out);have xv:=uH (HO.out.below wu.out);go_upto_region 7 with(fail);rw[hk];clear hk WX WW x0 x4;go_cut [52]from 46 to 52 (fun v wx=>wx=w4/\v= .bool (dt r pg))
  case first=>
   by_cases xD:0<=r.ino
   ·by_cases XO:k<16
    ·go_wp2_with fail
     go_meet
     exact⟨rfl,congrArg Value.bool (uY (p:=0<=r.ino/\srcK r pg<16) (by have:=EZ.out;omega)).symm⟩
    ·go_wp2_with fail
     go_meet
     exact⟨rfl,congrArg Value.bool (uX (p:=0<=r.ino/\srcK r pg<16) (by have:=EZ.out;omega)).symm⟩
   ·go_wp2_with fail
    go_meet
    exact⟨rfl,congrArg Value.bool (uX (p:=0<=r.ino/\srcK r pg<16) (by have:=EZ.out;omega)).symm⟩
  case rest=>
  obtain⟨Le,rfl⟩:=hcut;rw[Le];clear Le wc;go_upto_if 52 with(fail);go_cut [10,52]from 53 to 58 (fun v v52 wx=>wx=w4/\((dt r pg=true/\v= .iface 248 (.agg #[.int .i64 r.ino, .int .i64 k]))\/(dt r pg=false/\v= .iface 244 (.agg #[]))))
  case first=>
   cases Dm:dt r pg with
   |true=>
    have XO:k<16:=(by have h1:=uZ Dm;have:=EZ.out;omega);have hwk:IntKind.i64.wrap k=k:=(by rw[IntKind.wrap_i64];omega);go_wp2_with fail
    go_meet
    exact⟨rfl, .inl ⟨Dm,rfl⟩⟩
   |false=>
    go_wp2_with fail
    go_meet
    exact⟨rfl, .inr ⟨Dm,rfl⟩⟩
  case rest=>
  obtain⟨Le,xW⟩:=hcut;rw[Le];clear Le wc;have UL:=uH xW;clear xW;go_upto_region 9 with(fail);go_cut [12,13,14]from 59 to 71 (fun b tk er wx=>pi w w4 B c a fs m s t root A n cap rl S F clock p L r pg (w.heap.size, .cells #[.int .i64 0, .int .u8 0, .bool false] 83 (0,0)) (w3.heap.size, .cells #[.int .u64 r.fr, .int .u64 r.to, .int .u8 r.prot, .int .i64 r.ino, .int .u64 r.off] 45 (0,0)) b tk er wx)
  case first=>
   rcases UL.out with⟨Dm,rfl⟩|⟨Dm,rfl⟩
   ·have NV:=uH Dm;have De:=tD (.agg #[.int .i64 r.ino, .int .i64 k]);have Er: ∀W,Below w.heap.size w W->Calls Tryz.prog 231 #[.agg #[.int .i64 r.ino, .int .i64 k], .pointer (some ⟨c,0,none⟩)] W (nJ W S c a fs m F r.ino k clock p L):=fun W hW=>
     rp B c a fs m r.ino k clock W S F p L (HH.out.below hW) (by have h0:=(uZ Dm).1;have h1:=HQ.out.ok.ino1;simp only[Lit.wf,Bool.and_eq_true,decide_eq_true_eq];exact⟨Int.le_trans (by decide) h0,Int.le_trans h1 (by decide)⟩) zy
    have EL:=uH Er;clear Er Dm;go_region_held3 (fun w'=>w'.cell? ⟨s,0,none⟩=some (.pointer (some ⟨c,0,none⟩)))
     (first|exact s5|exact s0|exact(bn ((bg _ _ _).block s KJ Sa)).trans s5|go_keep)
     ((first
     |(go_simp;rw[iK _ _ _ (by kernel_rfl)];simp only[Result.andThen];rw[jX,Oper.upon_enter];refine(EL.out w4.drew wu.out.drew).mono ?_;rintro e w5 ⟨er,f,p1,L1,vp,S1,rfl,Cs,wH,yt,CH⟩;unfold ap;have s5:w5.cell? ⟨s,0,none⟩=some (.pointer (some ⟨c,0,none⟩)):=(bn (wH.block s (by simp;omega) Wa)).trans (s0);have KJ:s<w5.heap.size:=World.block_lt_of_cell? _ _ s5;have GJ:=uH Cs;have BV:=uH wH;have Ch:=uH yt;have FU:=uH CH;have Jm:=uH Cs.pool.low;clear Cs yt CH)
     |(go_simp;rw[iK _ _ _ (by kernel_rfl)];simp only[Result.andThen];rw[jX,Oper.upon_enter];refine(EL.out (w4.drew.alloc _) (wu.out.drew.alloc wu.out.drew.size _)).mono ?_;rintro e w5 ⟨er,f,p1,L1,vp,S1,rfl,Cs,wH,yt,CH⟩;unfold ap;have s5:w5.cell? ⟨s,0,none⟩=some (.pointer (some ⟨c,0,none⟩)):=(bn (wH.block s (by simp;omega) Wa)).trans ((ki (uL _ _ _ (by simp;omega)) 0).trans s0);have KJ:s<w5.heap.size:=World.block_lt_of_cell? _ _ s5;have GJ:=uH Cs;have BV:=uH wH;have Ch:=uH yt;have FU:=uH CH;have Jm:=uH Cs.pool.low;clear Cs yt CH;have wJ:w5.heap[w4.heap.size]? =some (.cells #[.int .i64 0, .int .u8 0, .bool false] 83 (0,0)):=(wH.block w4.heap.size (by simp) (NK.out w4.heap.size GK)).trans (ab w4.drew _);have k0:w5.cell? ⟨w4.heap.size,0,none⟩=some (.int .i64 0):=aa wJ 0;have k1:w5.cell? ⟨w4.heap.size,1,none⟩=some (.int .u8 0):=aa wJ 1;have k2:w5.cell? ⟨w4.heap.size,2,none⟩=some (.bool false):=aa wJ 2;have kf0:w5.frozen? ⟨w4.heap.size,0,none⟩=false:=ae wJ 0;have kf1:w5.frozen? ⟨w4.heap.size,1,none⟩=false:=ae wJ 1;have kf2:w5.frozen? ⟨w4.heap.size,2,none⟩=false:=ae wJ 2)))
    all_goals
     go_wp2_with fail
     go_meet
     first
     |exact pP Kz.out xv.out wu.out GK NK.out GJ.out BV.out Ch.out NC.out Ae.out xq Lc wJ (dx.clock FU.out) (.inl ⟨rfl,NV.out,by rw[<-EZ.out];exact FU.out⟩)
     |exact pQ Kz.out xv.out wu.out GK NK.out GJ.out BV.out Ch.out NC.out Ae.out xq Lc (dx.clock FU.out) (.inl ⟨rfl,NV.out,by rw[<-EZ.out];exact FU.out⟩)
   ·have NV:=uH Dm;have De:=tT (.agg #[]);have Er: ∀W,Below w.heap.size w W->Calls Tryz.prog 230 #[.agg #[], .pointer (some ⟨c,0,none⟩)] W (nM W S c a fs m clock p L):=fun W hW=>
     rC B c a fs m clock W S F p L (HH.out.below hW)
    have EL:=uH Er;clear Er Dm;go_region_held3 (fun w'=>w'.cell? ⟨s,0,none⟩=some (.pointer (some ⟨c,0,none⟩)))
     (first|exact s5|exact s0|exact(bn ((bg _ _ _).block s KJ Sa)).trans s5|go_keep)
     ((first
     |(go_simp;rw[iL _ _ _ (by kernel_rfl)];simp only[Result.andThen];rw[jY,Oper.upon_enter];refine(EL.out w4.drew wu.out.drew).mono ?_;rintro e w5 ⟨er,f,p1,L1,S1,rfl,Cs,wH,yt,CH⟩;unfold ap;have s5:w5.cell? ⟨s,0,none⟩=some (.pointer (some ⟨c,0,none⟩)):=(bn (wH.block s (by simp;omega) Wa)).trans (s0);have KJ:s<w5.heap.size:=World.block_lt_of_cell? _ _ s5;have GJ:=uH Cs;have BV:=uH wH;have Ch:=uH yt;have FU:=uH CH;have Jm:=uH Cs.pool.low;clear Cs yt CH)
     |(go_simp;rw[iL _ _ _ (by kernel_rfl)];simp only[Result.andThen];rw[jY,Oper.upon_enter];refine(EL.out (w4.drew.alloc _) (wu.out.drew.alloc wu.out.drew.size _)).mono ?_;rintro e w5 ⟨er,f,p1,L1,S1,rfl,Cs,wH,yt,CH⟩;unfold ap;have s5:w5.cell? ⟨s,0,none⟩=some (.pointer (some ⟨c,0,none⟩)):=(bn (wH.block s (by simp;omega) Wa)).trans ((ki (uL _ _ _ (by simp;omega)) 0).trans s0);have KJ:s<w5.heap.size:=World.block_lt_of_cell? _ _ s5;have GJ:=uH Cs;have BV:=uH wH;have Ch:=uH yt;have FU:=uH CH;have Jm:=uH Cs.pool.low;clear Cs yt CH;have wJ:w5.heap[w4.heap.size]? =some (.cells #[.int .i64 0, .int .u8 0, .bool false] 83 (0,0)):=(wH.block w4.heap.size (by simp) (NK.out w4.heap.size GK)).trans (ab w4.drew _);have k0:w5.cell? ⟨w4.heap.size,0,none⟩=some (.int .i64 0):=aa wJ 0;have k1:w5.cell? ⟨w4.heap.size,1,none⟩=some (.int .u8 0):=aa wJ 1;have k2:w5.cell? ⟨w4.heap.size,2,none⟩=some (.bool false):=aa wJ 2;have kf0:w5.frozen? ⟨w4.heap.size,0,none⟩=false:=ae wJ 0;have kf1:w5.frozen? ⟨w4.heap.size,1,none⟩=false:=ae wJ 1;have kf2:w5.frozen? ⟨w4.heap.size,2,none⟩=false:=ae wJ 2)))
    all_goals
     go_wp2_with fail
     go_meet
     first
     |exact pP Kz.out xv.out wu.out GK NK.out GJ.out BV.out Ch.out NC.out Ae.out xq Lc wJ ⟨Int.le_refl _,by omega⟩ (.inr ⟨rfl,NV.out,rfl,FU.out⟩)
     |exact pQ Kz.out xv.out wu.out GK NK.out GJ.out BV.out Ch.out NC.out Ae.out xq Lc ⟨Int.le_refl _,by omega⟩ (.inr ⟨rfl,NV.out,rfl,FU.out⟩)
  case rest=>
  obtain⟨bb,f,e1,tkB,p1,L1,vp,S1,rfl,rfl,rfl,QZ,He,Hh,JW,Ue,DO,Gx,Rk,yX,Bs,xw,zl,vw⟩:=hcut;dsimp only at Gx Rk;have Hn:=uH QZ;have Fa:=uH Ue;have Ql:=uH DO;have HR6:=uH Gx;have Qt:=uH Rk;have KX:=uH yX;have Kk:=uH Bs;have vT:=uH vw;have Oi:w.heap.size<wc.heap.size:=(uG Gx).1;have z0:wc.cell? ⟨w.heap.size,0,none⟩=some (.int .i64 0):=aa Gx 0;have z1:wc.cell? ⟨w.heap.size,1,none⟩=some (.int .u8 0):=aa Gx 1;have z2:wc.cell? ⟨w.heap.size,2,none⟩=some (.bool false):=aa Gx 2;have zf0:=ae Gx 0;have zf1:=ae Gx 1;have zf2:=ae Gx 2;have yA:bb≠w.heap.size:=(by omega);clear QZ Ue DO Gx Rk yX Bs vw UL;by_cases he:e1=0
  rotate_left
  ·have vu:(e1 != 0)=true:=(by rw[bne_iff_ne];exact he);have HE:=uH he;clear he;go_wp2_with fail;refine bodyPost_ret (v:= .tuple #[.agg (ap ⟨0,0,false⟩), .int .i64 e1]) (by simp[results,Tryz.results121,go_sem,Oi,z0,z1,z2,zf0,zf1,zf2,ap]) rfl ?_;have vE:e1=4/\p1=p/\L1=L/\aw p L 4 0 p L:=by
    rcases vT.out with⟨_,h2,h3⟩|⟨_,h2,_,h3⟩
    ·have h4:=uZ h2;obtain⟨y,hy,Lw⟩:=HQ.out.file h4.1;exact dx.four h3 q7 h4.2 (qM h4.1 hy Lw) HE.out
    ·rcases h3.two with e|⟨e,e2,e3,e4⟩
     ·exact absurd e HE.out
     ·subst e e2 e3 e4;exact⟨rfl,rfl,rfl,h3⟩
   obtain⟨rfl,rfl,rfl,ht⟩:=vE;obtain⟨b1,b2⟩:=fd Fa.out KX.out (bg (w:=wc) (b:=w.heap.size) (.int .i64 0) (.int .u8 0) (.bool false)) (fun b hb=>⟨by omega,by rw[hb];exact JW⟩) ⟨HH.out.lts.1,HH.out.lts.2.1,HH.out.base⟩;exact⟨4,⟨0,0,false⟩,_,_,T,vp,S1,rfl,b1.cache,b2,Kk.out,xw,zl,aU.no yc.out yx.out FQ.out (yc.out.full ht)⟩
  subst he;cases tkB with
  |false=>
   obtain⟨_,Dm,Cm⟩:false=false/\dt r pg=true/\GetF F r.ino (srcK r pg) p L clock 0 f p1 L1 vp:=vT.out.resolve_right (fun e=>by cases e.1);obtain⟨a1,a2,a3,a4,a5⟩:=yc.out.get Cm;obtain⟨xY,c2,c3,AJ,c5,c6⟩:=a5 rfl;have Vs:=uH Cm;have NV:=uH Dm;have g2:wc.cell? ⟨w3.heap.size,2,none⟩=some (.int .u8 r.prot):=aa Qt.out 2;have x1:wc.cell? ⟨bb,1,none⟩=some (.int .u8 0):=aa Hn.out 1;have xf1:=ae Hn.out 1;go_upto_region 13 with(fail);obtain⟨w7,xG⟩: ∃w7,w7=wc.setCell ⟨bb,1,none⟩ (.int .u8 r.prot):=⟨_,rfl⟩;rw[<-xG];have wI:Mod (fun b=>b=bb) wc w7:=(by rw[xG];exact aj (S:=fun b=>b=bb) rfl 1 _);have Ce:w7.heap[bb]? =some (.cells #[.int .i64 (f:Int), .int .u8 r.prot, .bool true] 83 (0,0)):=by
    rw[xG];have:=Joins.block_setCell (i:=1) Hn.out (.int .u8 r.prot);simpa using this
   obtain⟨PM,Nr⟩:=fd Fa.out KX.out wI (fun b hb=>⟨by omega,by rw[hb];exact Hh⟩) ⟨HH.out.lts.1,HH.out.lts.2.1,HH.out.base⟩;have CL:One w7 B c a m S1 s t root A n cap rl:=Ql.out.mod wI (fun b hb=>⟨by omega,by omega,fun ad e=>by have:=(HO.out.noR ad e).2.2.2.2.2.2;omega⟩);have Hi:=(wI.block w.heap.size Oi (by omega)).trans HR6.out;have Iy:w.heap.size<w7.heap.size:=(uG Hi).1;have JN:bb<w7.heap.size:=(uG Ce).1;have Cb:=HH.out.lts;have Fy:bb≠m:=(by omega);have WY:w.heap.size≠m:=(by omega);have hP:(r.prot.toNat:Int)=r.prot:=(by omega);have s2:w7.cell? ⟨s,2,none⟩=some (.pointer (some ⟨t,0,none⟩)):=aa CL.self 2;have b0:w7.cell? ⟨bb,0,none⟩=some (.int .i64 (f:Int)):=aa Ce 0;have b1:w7.cell? ⟨bb,1,none⟩=some (.int .u8 r.prot):=aa Ce 1;have b2:w7.cell? ⟨bb,2,none⟩=some (.bool true):=aa Ce 2;have Ru:Hid (T.lf (Ap.toNat/4096)=none):=uH (by rw[Ah];exact FQ.out);have hmap:=lh t c a root fs m vp Ap (f:Int) r.prot true w7.drew S1 p1 T L1 hold 0 ⟨f,r.prot.toNat,true⟩ (PM.cache.below (vg w7.heap.size w7).drew) CL.tab CL.noT.1 CL.noT.2.1 a1.good HR.out yv YY (by have:=HA.out;omega) (by omega) (by rw[aQ xY];omega) (by rw[Ru.out];rfl) rfl hP.symm rfl xY AJ (by show p1.cnt f+1<1000000000000;have:=a1.cap xY;have:=wB f;omega);rw[Ah]at hmap;clear a1 a2 a3 a4 a5 Cm Dm c2 c3 c5 c6;have FN:=uH hmap;have KZ:=uH PM;have Kt:=uH CL;have Ht:=uH Nr;have GA:=uH Ce;have Qf:=uH Hi;clear hmap PM CL Nr Ce Hi xG wI g2 x1 xf1 z0 z1 z2 zf0 zf1 zf2 Ah
   go_still_tail 6,(by kernel_rfl)
   go_wp2_with fail;refine(FN.out).mono ?_;rintro e w8 ⟨er2,p2,T2,L2,S2,rfl,Um,yJ,Ei,Ed,zj⟩;have ym:=yJ.undrew;have Fo: ∀b,b<w7.heap.size-> ¬S1 b-> ¬S2 b:=fun b hb h1 e=>(Ei b e).elim h1 (fun e=>by have:w7.heap.size<=b:=e;omega);have Np:=(ym.block bb JN (fun e=>e.elim Hh Fy)).trans GA.out;have Nq:=(ym.block w.heap.size Iy (fun e=>e.elim JW WY)).trans Qf.out;have Ol:w.heap.size<w8.heap.size:=(uG Nq).1;have Pu:bb<w8.heap.size:=(uG Np).1;have Ud:=KZ.out.step Um (ym.sub fun b hb=>hb.elim .inl fun e=> .inr (.inl e)) Ei;have Ua:Mod (av S c m) w w8:=Ht.out.trans (fun b e=>by
    rcases e with e|e|e
    ·exact(Kk.out b e).imp .inl id
    ·exact .inl (.inr (.inl e))
    ·exact .inl (.inr (.inr e))) (ym.sub (T:=av S1 c m) fun b hb=>hb.elim .inl fun e=> .inr (.inl e))
   have TX:Out S S2 w:=fun b e=>(Ei b e).elim (fun e=>Kk.out b e) (fun e=> .inr (by have:w7.heap.size<=b:=e;omega));have TT:=Fo bb JN Hh;have LM:=Fo w.heap.size Iy JW;have NI:=uH (Kt.out.foot (ym.sub fun b hb=>hb.elim .inl fun e=> .inr (.inl e)) Ei);have Vp:=uH Ud;have FO:=uH Ua;have LR:=uH TX;have Kq:=uH Ed;have KD:=uH zj;have Nx:=uH Np;have EV:=uH Nq;clear Um yJ Ei Ed zj ym Fo Ud Ua TX s2 b0 b1 b2;have k0:w8.cell? ⟨bb,0,none⟩=some (.int .i64 (f:Int)):=aa Nx.out 0;have k1:w8.cell? ⟨bb,1,none⟩=some (.int .u8 r.prot):=aa Nx.out 1;have k2:w8.cell? ⟨bb,2,none⟩=some (.bool true):=aa Nx.out 2;have z0:w8.cell? ⟨w.heap.size,0,none⟩=some (.int .i64 0):=aa EV.out 0;have z1:w8.cell? ⟨w.heap.size,1,none⟩=some (.int .u8 0):=aa EV.out 1;have z2:w8.cell? ⟨w.heap.size,2,none⟩=some (.bool false):=aa EV.out 2;have zf0:=ae EV.out 0;have zf1:=ae EV.out 1;have zf2:=ae EV.out 2;go_wp2_with fail;refine bodyPost_ret (v:= .tuple #[.agg (ap ⟨f,r.prot.toNat,true⟩), .int .i64 er2]) (by simp[results,Tryz.results121,go_sem,Ol,Pu,z0,z1,z2,zf0,zf1,zf2,ap,hP]) rfl ?_;obtain⟨e1,e2⟩:=fd Vp.out FO.out (bg (w:=w8) (b:=w.heap.size) (.int .i64 (f:Int)) (.int .u8 r.prot) (.bool true)) (fun b hb=>⟨by omega,by rw[hb];exact LM⟩) ⟨HH.out.lts.1,HH.out.lts.2.1,HH.out.base⟩;exact⟨er2,_,p2,L2,T2,vp,S2,rfl,e1.cache,e2,LR.out,xw,zl,aU.filed (ino:=r.ino) (clock:=clock) yc.out yx.out (by show pg<68719476736;omega) FQ.out NV.out Vs.out rfl Kq.out KD.out⟩
  |true=>
   obtain⟨_,Dm,Ym,Cm⟩:true=true/\dt r pg=false/\vp=clock/\aw p L 0 f p1 L1:=vT.out.resolve_left (fun e=>by cases e.1);obtain⟨a1,a2,a3,a4,a5⟩:=yc.out.take Cm;have xY:f<p1.n:=(by rw[(a2 fun _ =>False).n];exact a5.lt);have AJ:1<=p1.cnt f:=(by rw[a5.one];exact uK _);have Vs:=uH Cm;have NV:=uH Dm;have g2:wc.cell? ⟨w3.heap.size,2,none⟩=some (.int .u8 r.prot):=aa Qt.out 2;have x1:wc.cell? ⟨bb,1,none⟩=some (.int .u8 0):=aa Hn.out 1;have xf1:=ae Hn.out 1;go_upto_region 13 with(fail);obtain⟨w7,xG⟩: ∃w7,w7=wc.setCell ⟨bb,1,none⟩ (.int .u8 r.prot):=⟨_,rfl⟩;rw[<-xG];have wI:Mod (fun b=>b=bb) wc w7:=(by rw[xG];exact aj (S:=fun b=>b=bb) rfl 1 _);have Ce:w7.heap[bb]? =some (.cells #[.int .i64 (f:Int), .int .u8 r.prot, .bool false] 83 (0,0)):=by
    rw[xG];have:=Joins.block_setCell (i:=1) Hn.out (.int .u8 r.prot);simpa using this
   obtain⟨PM,Nr⟩:=fd Fa.out KX.out wI (fun b hb=>⟨by omega,by rw[hb];exact Hh⟩) ⟨HH.out.lts.1,HH.out.lts.2.1,HH.out.base⟩;have CL:One w7 B c a m S1 s t root A n cap rl:=Ql.out.mod wI (fun b hb=>⟨by omega,by omega,fun ad e=>by have:=(HO.out.noR ad e).2.2.2.2.2.2;omega⟩);have Hi:=(wI.block w.heap.size Oi (by omega)).trans HR6.out;have Iy:w.heap.size<w7.heap.size:=(uG Hi).1;have JN:bb<w7.heap.size:=(uG Ce).1;have Cb:=HH.out.lts;have Fy:bb≠m:=(by omega);have WY:w.heap.size≠m:=(by omega);have hP:(r.prot.toNat:Int)=r.prot:=(by omega);have s2:w7.cell? ⟨s,2,none⟩=some (.pointer (some ⟨t,0,none⟩)):=aa CL.self 2;have b0:w7.cell? ⟨bb,0,none⟩=some (.int .i64 (f:Int)):=aa Ce 0;have b1:w7.cell? ⟨bb,1,none⟩=some (.int .u8 r.prot):=aa Ce 1;have b2:w7.cell? ⟨bb,2,none⟩=some (.bool false):=aa Ce 2;have Ru:Hid (T.lf (Ap.toNat/4096)=none):=uH (by rw[Ah];exact FQ.out);have hmap:=lh t c a root fs m vp Ap (f:Int) r.prot false w7.drew S1 p1 T L1 (upd hold f 1) 0 ⟨f,r.prot.toNat,false⟩ (PM.cache.below (vg w7.heap.size w7).drew) CL.tab CL.noT.1 CL.noT.2.1 a1.good HR.out yv YY (by have:=HA.out;omega) (by omega) (by rw[aQ xY];omega) (by rw[Ru.out];rfl) rfl hP.symm rfl xY AJ (by show p1.cnt f+1<1000000000000;rw[a5.one];decide);rw[Ah]at hmap;clear a1 a2 a3 a4 a5 Cm Dm;have FN:=uH hmap;have KZ:=uH PM;have Kt:=uH CL;have Ht:=uH Nr;have GA:=uH Ce;have Qf:=uH Hi;clear hmap PM CL Nr Ce Hi xG wI g2 x1 xf1 z0 z1 z2 zf0 zf1 zf2 Ah
   go_still_tail 6,(by kernel_rfl)
   go_wp2_with fail;refine(FN.out).mono ?_;rintro e w8 ⟨er2,p2,T2,L2,S2,rfl,Um,yJ,Ei,Ed,zj⟩;have ym:=yJ.undrew;have Fo: ∀b,b<w7.heap.size-> ¬S1 b-> ¬S2 b:=fun b hb h1 e=>(Ei b e).elim h1 (fun e=>by have:w7.heap.size<=b:=e;omega);have Np:=(ym.block bb JN (fun e=>e.elim Hh Fy)).trans GA.out;have Nq:=(ym.block w.heap.size Iy (fun e=>e.elim JW WY)).trans Qf.out;have Ol:w.heap.size<w8.heap.size:=(uG Nq).1;have Pu:bb<w8.heap.size:=(uG Np).1;have Ud:=KZ.out.step Um (ym.sub fun b hb=>hb.elim .inl fun e=> .inr (.inl e)) Ei;have Ua:Mod (av S c m) w w8:=Ht.out.trans (fun b e=>by
    rcases e with e|e|e
    ·exact(Kk.out b e).imp .inl id
    ·exact .inl (.inr (.inl e))
    ·exact .inl (.inr (.inr e))) (ym.sub (T:=av S1 c m) fun b hb=>hb.elim .inl fun e=> .inr (.inl e))
   have TX:Out S S2 w:=fun b e=>(Ei b e).elim (fun e=>Kk.out b e) (fun e=> .inr (by have:w7.heap.size<=b:=e;omega));have TT:=Fo bb JN Hh;have LM:=Fo w.heap.size Iy JW;have NI:=uH (Kt.out.foot (ym.sub fun b hb=>hb.elim .inl fun e=> .inr (.inl e)) Ei);have Vp:=uH Ud;have FO:=uH Ua;have LR:=uH TX;have Kq:=uH Ed;have KD:=uH zj;have Nx:=uH Np;have EV:=uH Nq;clear Um yJ Ei Ed zj ym Fo Ud Ua TX s2 b0 b1 b2;rcases vT.out with⟨hf9,_⟩|⟨_,Dm,_,Cm⟩
   ·exact absurd hf9 (by decide)
   have KQ:=aU.blank yc.out yx.out (by show pg<68719476736;omega) FQ.out Dm Cm rfl Kq.out KD.out;have Lz:=cV a f w8.drew S2 p2 Vp.out.cache.pool.drew KQ.2.1 KQ.2.2;have k0:w8.cell? ⟨bb,0,none⟩=some (.int .i64 (f:Int)):=aa Nx.out 0;have s1:w8.cell? ⟨s,1,none⟩=some (.pointer (some ⟨a,0,none⟩)):=aa NI.out.self 1;have QC:=uH KQ;have NY:=uH Lz;clear Dm Cm KQ Lz;go_upto_region 15 with(fail)
   go_still_tail 6,(by kernel_rfl)
   go_wp2_with fail;refine(NY.out).mono ?_;rintro e w9 ⟨rfl,JX,Ls⟩;have yI:=Ls.undrew;have QY:=(yI.block bb Pu TT).trans Nx.out;have Re:=(yI.block w.heap.size Ol LM).trans EV.out;have Oj:w.heap.size<w9.heap.size:=(uG Re).1;have Yq:bb<w9.heap.size:=(uG QY).1;have hC9:=Vp.out.cache.turn yI JX (Out.refl _ _);have HH9:=uH (Vp.out.step hC9 (yI.sub fun b hb=> .inl hb) (Out.refl _ _));have HM9:Hid (Mod (av S c m) w w9):=uH (FO.out.trans (fun b e=>(LR.out b e).imp .inl id) yI);have PW:=uH QY;have Rs:=uH Re;clear yI Ls QY Re hC9 JX k0 s1;have k0:w9.cell? ⟨bb,0,none⟩=some (.int .i64 (f:Int)):=aa PW.out 0;have k1:w9.cell? ⟨bb,1,none⟩=some (.int .u8 r.prot):=aa PW.out 1;have k2:w9.cell? ⟨bb,2,none⟩=some (.bool false):=aa PW.out 2;have z0:w9.cell? ⟨w.heap.size,0,none⟩=some (.int .i64 0):=aa Rs.out 0;have z1:w9.cell? ⟨w.heap.size,1,none⟩=some (.int .u8 0):=aa Rs.out 1;have z2:w9.cell? ⟨w.heap.size,2,none⟩=some (.bool false):=aa Rs.out 2;have zf0:=ae Rs.out 0;have zf1:=ae Rs.out 1;have zf2:=ae Rs.out 2;go_wp2_with fail;refine bodyPost_ret (v:= .tuple #[.agg (ap ⟨f,r.prot.toNat,false⟩), .int .i64 er2]) (by simp[results,Tryz.results121,go_sem,Oj,Yq,z0,z1,z2,zf0,zf1,zf2,ap,hP]) rfl ?_;obtain⟨e1,e2⟩:=fd HH9.out HM9.out (bg (w:=w9) (b:=w.heap.size) (.int .i64 (f:Int)) (.int .u8 r.prot) (.bool false)) (fun b hb=>⟨by omega,by rw[hb];exact LM⟩) ⟨HH.out.lts.1,HH.out.lts.2.1,HH.out.base⟩;exact⟨er2,_,p2.down f,L2,T2,vp,S2,rfl,e1.cache,e2,LR.out,xw,zl,QC.out.1⟩
end
