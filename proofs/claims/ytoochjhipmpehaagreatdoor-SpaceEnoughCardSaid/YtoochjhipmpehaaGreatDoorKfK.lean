/- Spaces: bring. -/
import Derived.Test.YtoochjhipmpehaaGreatDoorKeK
set_option linter.unusedVariables false
set_option linter.unusedSimpArgs false
set_option maxRecDepth 100000
set_option maxHeartbeats 8000000
namespace Go.Proofs.YtoochjhipmpehaaGreatDoor
open Go.Proofs.Tryz
section
open Go.RowKit Go.Sort
theorem jB (v:Value)(w:World)(n:Nat)(hn:n=prog.types.size+Made.depth):(method n 248 v "hostel/space.leaf").run prog w= .ok (231,v) w:=by
 subst hn;kernel_rfl
theorem jC (v:Value)(w:World)(n:Nat)(hn:n=prog.types.size+Made.depth):(method n 244 v "hostel/space.leaf").run prog w= .ok (230,v) w:=by
 subst hn;kernel_rfl
theorem vB (v:Value)(n:Nat)(W:World):(nilAhead (n+1) 248 v "hostel/space.leaf").run prog W= .ok (some false) W:=k_
theorem vT (v:Value)(n:Nat)(W:World):(nilAhead (n+1) 244 v "hostel/space.leaf").run prog W= .ok (some false) W:=k_
theorem kX (v x:Value)(w:World):(callFunc 231 #[v,x]).run prog w= .ok (.enter 231 #[v,x]) w:=k_
theorem kY (v x:Value)(w:World):(callFunc 230 #[v,x]).run prog w= .ok (.enter 230 #[v,x]) w:=k_
variable {w w':World}
theorem bI {b i:Nat}(h:w'.heap[b]? =w.heap[b]?):w'.cell? ⟨b,i,none⟩=w.cell? ⟨b,i,none⟩:=by unfold World.cell?;simp only[h]
def wM (w:World)(S:Nat->Prop)(c a fs m:Nat)(F:List Nd)(clock:Int)(p:Pool)(L:List Slot)(T:Tab)(hold:Nat->Nat)(r:Reg)(pg:Nat)(e:Ending)(w':World):Prop:=
 ∃er l p' L' T' xr S',e= .returned (.tuple #[.agg (aq l),.int .i64 er])/\au w' S' c a fs m xr p' L'/\Mod (av S c m) w w'/\Out S S' w/\clock<=xr/\xr<=clock+1/\aX F hold r pg p L T er l p' L' T'
variable {p:Pool}{L:List Slot}{f:Nat}
theorem dU.clock {ino page r0:Int}{k:Nat}{d:Nat->Nat}{p':Pool}{L':List Slot}{clock xr r:Int}(h:dU ino page r0 k d p L clock r f p' L' xr):clock<=xr/\xr<=clock+1:=by
 cases h<;>constructor<;>omega
variable {B c a m s t root n cap:Nat}{S X:Nat->Prop}{A:Option Addr}{rl:List Reg}
theorem One.mod (h:One w B c a m S s t root A n cap rl)(hm:Mod X w w')(hX: ∀b,X b->b≠s/\b≠t/\ ∀ad,A=some ad->ad.block≠b):One w' B c a m S s t root A n cap rl:=
 ⟨(
  hm.block s h.lts.1 (fun e=>(hX s e).1 rfl)).trans h.self,(hm.block t h.lts.2.1 (fun e=>(hX t e).2.1 rfl)).trans h.tab,h.row.mod hm (fun ad e x=>(hX _ x).2.2 ad e rfl),h.noS,h.noT,fun ad e=>by
  obtain⟨n1,n2,n3,n4,n5,n6,n7⟩:=h.noR ad e;have:=hm.size;exact⟨n1,n2,n3,n4,n5,n6,o_⟩⟩
variable {w4 w5:World}{fs:Nat}{S1:Nat->Prop}{F:List Nd}{xy:Int}{p1:Pool}{L1:List Slot}
theorem mf {Wc w6:World}{clock:Int}
  (hH:Home w4 B c a fs m S F clock p L)(hO:One w4 B c a m S s t root A n cap rl)(hB:Below w.heap.size w w4)(hz:w.heap.size<=w4.heap.size)(NL: ∀b,w.heap.size<=b-> ¬av S c m b)(hb:Below w4.heap.size w4 Wc)
  (hC:au w5 S1 c a fs m xy p1 L1)(yK:Mod (av S c m) Wc w5)(zE:Out S S1 Wc)(BO:Mod (fun b=>w4.heap.size<=b/\b<Wc.heap.size) w5 w6):
  Home w6 B c a fs m S1 F xy p1 L1/\One w6 B c a m S1 s t root A n cap rl/\(∀b,w.heap.size<=b->b<w4.heap.size->w6.heap[b]? =w4.heap[b]?)/\Mod (av S c m) w w6/\Out S S1 w/\(∀b,w.heap.size<=b->b<Wc.heap.size-> ¬S1 b):=by
 have h1:=(hH.below hb).step hC yK zE;have h2:=(hO.below hb).foot yK zE;have hzb:=hb.size;have xL: ∀b,w.heap.size<=b->b<Wc.heap.size-> ¬S1 b:=fun b xu xx e=>by
  rcases zE b e with e|e
  ·exact NL b xu (.inl e)
  ·omega
 have hl:=hH.lts;have xW:=hO.lts;have hBz:=hH.base;have Iw:=yK.size;have NI:=BO.size;refine⟨h1.mod BO (fun b hb=>⟨xL b o_ hb.2,o_,o_,o_⟩),h2.mod BO (fun b hb=>⟨o_,o_,fun ad e=>by have:=(hO.noR ad e).2.2.2.2.2.2;omega⟩),fun b xu xx=>(BO.block b o_ o_).trans ((yK.block b o_ (NL b xu)).trans (hb.block b xx)),?_,fun b e=>(zE b e).imp id (fun e=>o_),xL⟩;have h3:Mod (fun b=>av S c m b\/w.heap.size<=b) w w6:=((Mod.of (hB.trans (hb.mono hz))).trans (Out.refl _ _) (yK.sub fun b e=> .inl e)).trans (Out.refl _ _) (BO.sub fun b e=> .inr o_);exact h3.own fun b e=>e
def qF (w w4:World)(B c a fs m s t root:Nat)(A:Option Addr)(n cap:Nat)(rl:List Reg)(S:Nat->Prop)(F:List Nd)(clock:Int)(p:Pool)(L:List Slot)(r:Reg)(pg:Nat)(o1 o2:Nat×Obj)(b tk er:Value)(wx:World):Prop:=
 ∃(bb f:Nat) (e1:Int) (tkB:Bool) (p1:Pool) (L1:List Slot) (xy:Int) (S1:Nat->Prop),b= .pointer (some ⟨bb,0,none⟩)/\tk= .bool tkB/\er= .int .i64 e1/\wx.heap[bb]? =some (.cells #[.int .i64 (f:Int),.int .u8 0,.bool (!tkB)] 83 (0,0))/\w4.heap.size<=bb/\ ¬S1 bb/\ ¬S1 w.heap.size/\
  Home wx B c a fs m S1 F xy p1 L1/\One wx B c a m S1 s t root A n cap rl/\wx.heap[o1.1]? =some o1.2/\wx.heap[o2.1]? =some o2.2/\Mod (av S c m) w wx/\Out S S1 w/\clock<=xy/\xy<=clock+1/\
  ((tkB=false/\dK r pg=true/\GetF F r.ino (srcK r pg) p L clock e1 f p1 L1 xy)\/(tkB=true/\dK r pg=false/\xy=clock/\aw p L e1 f p1 L1))
theorem fM {wx:World}(hH:Home wx B c a fs m S1 F xy p1 L1)(hm:Mod (av S c m) w wx)(hX:Mod X wx w')(hXn: ∀b,X b->w.heap.size<=b/\ ¬S1 b)(hw:c<w.heap.size/\m<w.heap.size/\B<=w.heap.size):
  Home w' B c a fs m S1 F xy p1 L1/\Mod (av S c m) w w':=
 ⟨hH.mod hX (fun b hb=>by obtain⟨h1,h2⟩:=hXn b hb;exact⟨h2,o_,o_,o_⟩),((hm.sub (T:=fun b=>av S c m b\/w.heap.size<=b) fun b e=> .inl e).trans (Out.refl _ _) (hX.sub fun b hb=> .inr (hXn b hb).1)).own fun b e=>e⟩
variable {w3:World}{pg:Nat}{r:Reg}{e1:Int}{o1 o2:Obj}{tkB:Bool}
theorem rt {clock:Int}{o:Obj}
  (hH:Home w4 B c a fs m S F clock p L)(hO:One w4 B c a m S s t root A n cap rl)(hB:Below w.heap.size w w4)(hz:w.heap.size<=w4.heap.size)(NL: ∀b,w.heap.size<=b-> ¬av S c m b)
  (hC:au w5 S1 c a fs m xy p1 L1)(yK:Mod (av S c m) (w4.drew.alloc o) w5)(zE:Out S S1 (w4.drew.alloc o))(h1:w4.heap[w.heap.size]? =some o1)(h2:w4.heap[w3.heap.size]? =some o2)(zy:w.heap.size<w3.heap.size)(CU:w3.heap.size<w4.heap.size)
  (hx:w5.heap[w4.heap.size]? =some (.cells #[.int .i64 0, .int .u8 0, .bool false] 83 (0,0)))(BU:clock<=xy/\xy<=clock+1)
  (xJ:(tkB=false/\dK r pg=true/\GetF F r.ino (srcK r pg) p L clock e1 f p1 L1 xy)\/(tkB=true/\dK r pg=false/\xy=clock/\aw p L e1 f p1 L1)):
  qF w w4 B c a fs m s t root A n cap rl S F clock p L r pg (w.heap.size,o1) (w3.heap.size,o2) (.pointer (some ⟨w4.heap.size,0,none⟩)) (.bool tkB) (.int .i64 e1) (((w5.setCell ⟨w4.heap.size,0,none⟩ (.int .i64 (f:Int))).setCell ⟨w4.heap.size,1,none⟩ (.int .u8 0)).setCell ⟨w4.heap.size,2,none⟩ (.bool (!tkB))):=by
 have hb:Below w4.heap.size w4 (w4.drew.alloc o):=((xp w4.heap.size w4).drew).alloc s_ _;have Px:(w4.drew.alloc o).heap.size=w4.heap.size+1:=s_;obtain⟨a1,a2,a3,a4,a5,a6⟩:=mf hH hO hB hz NL hb hC yK zE ((bm (w:=w5) (b:=w4.heap.size) (.int .i64 (f:Int)) (.int .u8 0) (.bool (!tkB))).sub fun b e=>⟨o_,o_⟩);exact⟨_,f,e1,tkB,p1,L1,xy,S1,rfl,rfl,rfl,uc hx,wS _,a6 _ hz o_,a6 _ (wS _) o_,a1,a2,(a3 _ (wS _) o_).trans h1,(a3 _ o_ CU).trans h2,a4,a5,BU.1,BU.2,xJ⟩
theorem ru {clock:Int}
  (hH:Home w4 B c a fs m S F clock p L)(hO:One w4 B c a m S s t root A n cap rl)(hB:Below w.heap.size w w4)(hz:w.heap.size<=w4.heap.size)(NL: ∀b,w.heap.size<=b-> ¬av S c m b)
  (hC:au w5 S1 c a fs m xy p1 L1)(yK:Mod (av S c m) w4.drew w5)(zE:Out S S1 w4.drew)(h1:w4.heap[w.heap.size]? =some o1)(h2:w4.heap[w3.heap.size]? =some o2)(zy:w.heap.size<w3.heap.size)(CU:w3.heap.size<w4.heap.size)(BU:clock<=xy/\xy<=clock+1)
  (xJ:(tkB=false/\dK r pg=true/\GetF F r.ino (srcK r pg) p L clock e1 f p1 L1 xy)\/(tkB=true/\dK r pg=false/\xy=clock/\aw p L e1 f p1 L1)):
  qF w w4 B c a fs m s t root A n cap rl S F clock p L r pg (w.heap.size,o1) (w3.heap.size,o2) (.pointer (some ⟨w5.heap.size,0,none⟩)) (.bool tkB) (.int .i64 e1) (w5.alloc (.cells #[.int .i64 (f:Int),.int .u8 0,.bool (!tkB)] 83)):=by
 have hb:Below w4.heap.size w4 w4.drew:=(xp w4.heap.size w4).drew;obtain⟨a1,a2,a3,a4,a5,a6⟩:=mf hH hO hB hz NL hb hC yK zE (Mod.of ((xp w5.heap.size w5).alloc (wS _) (.cells #[.int .i64 (f:Int),.int .u8 0,.bool (!tkB)] 83)));exact⟨_,f,e1,tkB,p1,L1,xy,S1,rfl,rfl,rfl,ab _ _,yK.size,(fun e=>by have:=hC.pool.low _ e;omega),a6 _ (wS _) (by show _ <w4.heap.size;omega),a1,a2,(a3 _ (wS _) o_).trans h1,(a3 _ o_ CU).trans h2,a4,a5,BU.1,BU.2,xJ⟩
theorem pd (B c a fs m s t root n cap pg:Nat)(A:Option Addr)(rl:List Reg)(r:Reg)(clock Ap:Int)(w:World)(S:Nat->Prop)(F:List Nd)(p:Pool)(L:List Slot)(T:Tab)(hold:Nat->Nat)
  (hH:Home w B c a fs m S F clock p L)(hO:One w B c a m S s t root A n cap rl)(zZ:Sp F hold p L T)(ho:Own p T)(hr:T.nd 4 0=some root)(hq:Ask F rl r pg)(hA:Ap=(pg:Int)*4096)(yA: ∀f,hold f<=100000000000)(BU:0<=clock/\clock<1000000):
  Calls prog 121 #[.pointer (some ⟨s,0,none⟩),.int .u64 Ap] w (wM w S c a fs m F clock p L T hold r pg):=by
 obtain⟨q1,q2,q3,q4,q5,q6,q7⟩:=hq.facts;have AQ:0<=Ap:=o_;have hA9:Ap<140737488355328:=o_;obtain⟨w0,xv⟩:=e_ (w.alloc (.cells #[.int .i64 0,.int .u8 0,.bool false] 83));have xz:Below w.heap.size w w0:=(by rw[xv];exact wR);have AI:w0.heap[w.heap.size]? =some (.cells #[.int .i64 0,.int .u8 0,.bool false] 83 (0,0)):=(by rw[xv];exact ab w _);have CB:=hO.below xz;have Gv:=hH.below xz;have s2:w0.cell? ⟨s,2,none⟩=some (.pointer (some ⟨t,0,none⟩)):=aa CB.self 2;have My:=uf t c a root Ap w0 S p T Gv.cache.pool CB.tab CB.lts.2.1 (zZ.good.tree hr) AQ;obtain⟨fl,yO⟩:=e_ (cX T Ap);rw[<-yO]at My;obtain⟨QS,ZV,xU,yd,Gf,HO,HH,AA⟩:=zh8 My yO xv xz AI hO hH zZ;obtain⟨AS,HR,HQ,HA⟩:=zh4 ho hr hq hA;have BP:=hO.lts;clear My yO xv xz AI hO hH CB Gv zZ ho hr hq hA;go_enter func121,ntmps121;go_upto_region 1 with(fail);rw[<-xU.o];have CL:Ap.toNat/4096=pg:=(by have:=HA.o;omega);cases ye:T.lf pg with
 |some l=>
  have RZ:fl=(l,0):=by
   rw[ZV.o];unfold cX;rw[if_neg o_,CL,ye]
  subst RZ;have Lo:=wP ye;clear ye;go_wp2_with (first
   |(go_at_call 156;refine(QS.o).mono ?_;rintro e w1⟨rfl,xu⟩;have Dn:=(xu.block w.heap.size (wO Gf.o).1).trans Gf.o;have DY:w.heap.size<w1.heap.size:=(wO Dn).1;have z0:w1.cell? ⟨w.heap.size,0,none⟩=some (.int .i64 0):=aa Dn 0;have z1:w1.cell? ⟨w.heap.size,1,none⟩=some (.int .u8 0):=aa Dn 1;have z2:w1.cell? ⟨w.heap.size,2,none⟩=some (.bool false):=aa Dn 2;have zf0:=ae Dn 0;have zf1:=ae Dn 1;have zf2:=ae Dn 2;unfold aq)
   |fail)
  have hB:=(((yd.o.trans (xu.mono yd.o.size)).setCell (p:=⟨w.heap.size,0,none⟩) (wS _) (.int .i64 (l.frame:Int))).setCell (p:=⟨w.heap.size,1,none⟩) (wS _) (.int .u8 (l.prot:Int))).setCell (p:=⟨w.heap.size,2,none⟩) (wS _) (.bool l.copy);have yw:=hB.alloc hB.size (.cells #[.int .i64 (l.frame:Int),.int .u8 (l.prot:Int),.bool l.copy] 83);exact bodyPost_ret (v:= .tuple #[.agg (aq l),.int .i64 0]) (by simp[results,results121,go_sem,DY,z0,z1,z2,zf0,zf1,zf2,aq]) rfl ⟨0,l,p,L,T,clock,S,rfl,(HH.o.below yw).cache,Mod.of yw,Out.refl _ _,Int.le_refl _,o_,aX.there AA.o AS.o Lo.o⟩
 |none=>
  have RZ:fl=(noLeaf,6):=by
   rw[ZV.o];unfold cX;rw[if_neg o_,CL,ye]
  subst RZ;have Lo:=wP ye;clear ye;have Vy: ∀W,Below w.heap.size w W->Calls prog 114 #[.slice A n cap,.int .u64 Ap] W fun e w'=>e= .returned (.tuple #[.agg #[.int .u64 (r).fr,.int .u64 (r).to,.int .u8 (r).prot,.int .i64 (r).ino,.int .u64 (r).off],.bool true])/\Below W.heap.size W w':=fun W hW=>by
   have h1:=mW A n cap Ap W rl (HO.o.below hW).row;rw[HA.o,HQ.o.find]at h1;rw[HA.o];exact h1
  have zj: ∀W,Below w.heap.size w W-> ∀i v,w.cell? ⟨s,i,none⟩=some v->W.cell? ⟨s,i,none⟩=some v:=fun W hW i v h=>(hW.cell (p:=⟨s,i,none⟩) BP.1).trans h;obtain⟨HREG,JY⟩:=zh2 Vy zj;clear Vy zj;go_upto_region 4 with(first
   |(go_at_call 156;refine(QS.o).mono ?_;rintro e w1⟨rfl,xu⟩;unfold aq noLeaf)
   |fail)
  obtain⟨w2,yl⟩:=e_ (w1.alloc (.cells #[.int .i64 0,.int .u8 0,.bool false] 83));rw[<-yl];have yw:Below w.heap.size w w2:=(by rw[yl];exact(yd.o.trans (xu.mono yd.o.size)).alloc (yd.o.trans (xu.mono yd.o.size)).size _);have s3:w2.cell? ⟨s,3,none⟩=some (.slice A n cap):=JY.o w2 yw 3 _ (aa HO.o.self 3);obtain⟨Hz,yW⟩:=zh2 (HREG.o w2 yw) yw;have Aj:w2.heap[w.heap.size]? =some (.cells #[.int .i64 0,.int .u8 0,.bool false] 83 (0,0)):=by
   have hl:=(wO Gf.o).1;have:=xu.size;rw[yl];exact((wT _ _ _ o_).trans (xu.block _ hl)).trans Gf.o
  have EZ:=wP Aj;clear yl xu yw Aj s2;go_upto_region 5 with(first
   |(go_at_call 114;refine(Hz.o).mono ?_;rintro e w3⟨rfl,xE⟩)
   |fail)
  obtain⟨w4,zV⟩:=e_ (w3.alloc (.cells #[.int .u64 r.fr,.int .u64 r.to,.int .u8 r.prot,.int .i64 r.ino,.int .u64 r.off] 45));rw[<-zV];have Eo:Below w.heap.size w w4:=(by rw[zV];exact(yW.o.trans (xE.mono yW.o.size)).alloc (yW.o.trans (xE.mono yW.o.size)).size _);have Uh:w4.heap[w.heap.size]? =some (.cells #[.int .i64 0,.int .u8 0,.bool false] 83 (0,0)):=by
   have hl:=(wO EZ.o).1;have:=xE.size;rw[zV];exact((wT _ _ _ o_).trans (xE.block _ hl)).trans EZ.o
  have JR:w4.heap[w3.heap.size]? =some (.cells #[.int .u64 r.fr,.int .u64 r.to,.int .u8 r.prot,.int .i64 r.ino,.int .u64 r.off] 45 (0,0)):=(by rw[zV];exact ab w3 _);have Og:w3.heap.size<w4.heap.size:=(by rw[zV];simp);have zy:w.heap.size<w3.heap.size:=by
   have hl:=(wO EZ.o).1;have:=xE.size;omega
  obtain⟨Ax,QD,HR4lt,CE⟩:=zh4 Eo Uh (show w.heap.size<w4.heap.size from(wO Uh).1) JR;have x0:w4.cell? ⟨w3.heap.size,0,none⟩=some (.int .u64 r.fr):=aa JR 0;have x3:w4.cell? ⟨w3.heap.size,3,none⟩=some (.int .i64 r.ino):=aa JR 3;have x4:w4.cell? ⟨w3.heap.size,4,none⟩=some (.int .u64 r.off):=aa JR 4;have hwr1:IntKind.u64.wrap (r.off+Ap)=r.off+Ap:=v_;have hwr2:IntKind.u64.wrap (r.off+Ap-r.fr)=r.off+Ap-r.fr:=(by have:=HA.o;have:=HQ.o.lo;rw[IntKind.wrap_u64];omega);obtain⟨k,hk⟩: ∃k,(r.off+Ap-r.fr)/4096=k:=⟨_,rfl⟩;have Ec:k=srcK r pg:=(by rw[<-hk,HA.o];rfl);have It:=wP Ec;have zh:0<=k:=(by rw[Ec];exact q7);have Di:k<1000000000000:=o_;have s0:w4.cell? ⟨s,0,none⟩=some (.pointer (some ⟨c,0,none⟩)):=JY.o w4 Eo 0 _ (aa HO.o.self 0);clear zV xE Eo Uh JR Ec s3;have NL: ∀b,w.heap.size<=b-> ¬av S c m b:=fun b hb e=>by
   have h1:=HH.o.lts;rcases e with e|e|e
   ·have:=h1.2.2 b e;omega
   ·omega
   ·omega
  have QJ:=wP NL;have Kf:w.heap.size<=w4.heap.size:=Ax.o.size;have Zq: ¬av S c m s:=fun e=>by
   have h1:=HO.o.noS;exact e.elim h1.1 fun e=>e.elim h1.2.1 h1.2.2.1
  have hs4:s<w4.heap.size:=o_;have Vl:s≠w4.heap.size:=o_;clear NL;obtain⟨UE,Ct⟩:=zh2 (HH.o.below Ax.o) (HO.o.below Ax.o);go_upto_region 7 with(fail);rw[hk];clear hk hwr1 hwr2 x0 x4;go_cut [52]from 46 to 52 (fun v wx=>wx=w4/\v= .bool (dK r pg))
  case first=>
   by_cases zx:0<=r.ino
   ·by_cases hk16:k<16
    ·go_wp2_with fail
     go_meet
     exact⟨rfl,congrArg Value.bool (xh (p:=0<=r.ino/\srcK r pg<16) (by have:=It.o;omega)).symm⟩
    ·go_wp2_with fail
     go_meet
     exact⟨rfl,congrArg Value.bool (xg (p:=0<=r.ino/\srcK r pg<16) (by have:=It.o;omega)).symm⟩
   ·go_wp2_with fail
    go_meet
    exact⟨rfl,congrArg Value.bool (xg (p:=0<=r.ino/\srcK r pg<16) (by have:=It.o;omega)).symm⟩
  case rest=>
  obtain⟨Oi,rfl⟩:=hcut;rw[Oi];clear Oi wc;go_upto_if 52 with(fail);go_cut [10,52]from 53 to 58 (fun v v52 wx=>wx=w4/\((dK r pg=true/\v= .iface 248 (.agg #[.int .i64 r.ino,.int .i64 k]))\/(dK r pg=false/\v= .iface 244 (.agg #[]))))
  case first=>
   cases Fo:dK r pg with
   |true=>
    have hk16:k<16:=(by have h1:=xi Fo;have:=It.o;omega);have hwk:IntKind.i64.wrap k=k:=(by rw[IntKind.wrap_i64];omega);go_wp2_with fail
    go_meet
    exact⟨rfl,.inl ⟨Fo,rfl⟩⟩
   |false=>
    go_wp2_with fail
    go_meet
    exact⟨rfl,.inr ⟨Fo,rfl⟩⟩
  case rest=>
  obtain⟨Oi,Ae⟩:=hcut;rw[Oi];clear Oi wc;have Yc:=wP Ae;clear Ae;go_upto_region 9 with(fail);go_cut [12,13,14]from 59 to 71 (fun b tk er wx=>qF w w4 B c a fs m s t root A n cap rl S F clock p L r pg (w.heap.size,.cells #[.int .i64 0,.int .u8 0,.bool false] 83 (0,0)) (w3.heap.size,.cells #[.int .u64 r.fr,.int .u64 r.to,.int .u8 r.prot,.int .i64 r.ino,.int .u64 r.off] 45 (0,0)) b tk er wx)
  case first=>
   rcases Yc.o with⟨Fo,rfl⟩|⟨Fo,rfl⟩
   ·have QT:=wP Fo;have Du:=vB (.agg #[.int .i64 r.ino,.int .i64 k]);have GV: ∀W,Below w.heap.size w W->Calls prog 231 #[.agg #[.int .i64 r.ino,.int .i64 k],.pointer (some ⟨c,0,none⟩)] W (pn W S c a fs m F r.ino k clock p L):=fun W hW=>
     tp B c a fs m r.ino k clock W S F p L (HH.o.below hW) (by have h0:=(xi Fo).1;have h1:=HQ.o.ok.ino1;simp only[Lit.wf,Bool.and_eq_true,decide_eq_true_eq];exact⟨Int.le_trans d_ h0,Int.le_trans h1 d_⟩) BU
    have Hx:=wP GV;clear GV Fo;go_region_held3 (fun w'=>w'.cell? ⟨s,0,none⟩=some (.pointer (some ⟨c,0,none⟩)))
     (first|exact s5|exact s0|exact(bI ((bm _ _ _).block s NJ Vl)).trans s5|go_keep)
     ((first
     |(go_simp;rw[jB _ _ _ k_];simp only[Result.andThen];rw[kX,Oper.upon_enter];refine(Hx.o w4.drew Ax.o.drew).mono ?_;rintro e w5⟨er,f,p1,L1,xy,S1,rfl,EW,yK,zE,BS⟩;unfold aq;have s5:w5.cell? ⟨s,0,none⟩=some (.pointer (some ⟨c,0,none⟩)):=(bI (yK.block s t_ Zq)).trans (s0);have NJ:s<w5.heap.size:=World.block_lt_of_cell? _ _ s5;obtain⟨Ke,Eu,Dr,Jt,Mk⟩:=zh5 EW yK zE BS EW.pool.low;clear EW zE BS)
     |(go_simp;rw[jB _ _ _ k_];simp only[Result.andThen];rw[kX,Oper.upon_enter];refine(Hx.o (w4.drew.alloc _) (Ax.o.drew.alloc Ax.o.drew.size _)).mono ?_;rintro e w5⟨er,f,p1,L1,xy,S1,rfl,EW,yK,zE,BS⟩;unfold aq;have s5:w5.cell? ⟨s,0,none⟩=some (.pointer (some ⟨c,0,none⟩)):=(bI (yK.block s t_ Zq)).trans ((lj (wT _ _ _ t_) 0).trans s0);have NJ:s<w5.heap.size:=World.block_lt_of_cell? _ _ s5;obtain⟨Ke,Eu,Dr,Jt,Mk⟩:=zh5 EW yK zE BS EW.pool.low;clear EW zE BS;have BA:w5.heap[w4.heap.size]? =some (.cells #[.int .i64 0,.int .u8 0,.bool false] 83 (0,0)):=(yK.block w4.heap.size s_ (QJ.o w4.heap.size Kf)).trans (ab w4.drew _);have k0:w5.cell? ⟨w4.heap.size,0,none⟩=some (.int .i64 0):=aa BA 0;have k1:w5.cell? ⟨w4.heap.size,1,none⟩=some (.int .u8 0):=aa BA 1;have k2:w5.cell? ⟨w4.heap.size,2,none⟩=some (.bool false):=aa BA 2;have kf0:w5.frozen? ⟨w4.heap.size,0,none⟩=false:=ae BA 0;have kf1:w5.frozen? ⟨w4.heap.size,1,none⟩=false:=ae BA 1;have kf2:w5.frozen? ⟨w4.heap.size,2,none⟩=false:=ae BA 2)))
    all_goals
     go_wp2_with fail
     go_meet
     first
     |exact rt UE.o Ct.o Ax.o Kf QJ.o Ke.o Eu.o Dr.o QD.o CE.o zy Og BA (dU.clock Jt.o) (.inl ⟨rfl,QT.o,by rw[<-It.o];exact Jt.o⟩)
     |exact ru UE.o Ct.o Ax.o Kf QJ.o Ke.o Eu.o Dr.o QD.o CE.o zy Og (dU.clock Jt.o) (.inl ⟨rfl,QT.o,by rw[<-It.o];exact Jt.o⟩)
   ·have QT:=wP Fo;have Du:=vT (.agg #[]);have GV: ∀W,Below w.heap.size w W->Calls prog 230 #[.agg #[],.pointer (some ⟨c,0,none⟩)] W (pq W S c a fs m clock p L):=fun W hW=>
     tE B c a fs m clock W S F p L (HH.o.below hW)
    have Hx:=wP GV;clear GV Fo;go_region_held3 (fun w'=>w'.cell? ⟨s,0,none⟩=some (.pointer (some ⟨c,0,none⟩)))
     (first|exact s5|exact s0|exact(bI ((bm _ _ _).block s NJ Vl)).trans s5|go_keep)
     ((first
     |(go_simp;rw[jC _ _ _ k_];simp only[Result.andThen];rw[kY,Oper.upon_enter];refine(Hx.o w4.drew Ax.o.drew).mono ?_;rintro e w5⟨er,f,p1,L1,S1,rfl,EW,yK,zE,BS⟩;unfold aq;have s5:w5.cell? ⟨s,0,none⟩=some (.pointer (some ⟨c,0,none⟩)):=(bI (yK.block s t_ Zq)).trans (s0);have NJ:s<w5.heap.size:=World.block_lt_of_cell? _ _ s5;obtain⟨Ke,Eu,Dr,Jt,Mk⟩:=zh5 EW yK zE BS EW.pool.low;clear EW zE BS)
     |(go_simp;rw[jC _ _ _ k_];simp only[Result.andThen];rw[kY,Oper.upon_enter];refine(Hx.o (w4.drew.alloc _) (Ax.o.drew.alloc Ax.o.drew.size _)).mono ?_;rintro e w5⟨er,f,p1,L1,S1,rfl,EW,yK,zE,BS⟩;unfold aq;have s5:w5.cell? ⟨s,0,none⟩=some (.pointer (some ⟨c,0,none⟩)):=(bI (yK.block s t_ Zq)).trans ((lj (wT _ _ _ t_) 0).trans s0);have NJ:s<w5.heap.size:=World.block_lt_of_cell? _ _ s5;obtain⟨Ke,Eu,Dr,Jt,Mk⟩:=zh5 EW yK zE BS EW.pool.low;clear EW zE BS;have BA:w5.heap[w4.heap.size]? =some (.cells #[.int .i64 0,.int .u8 0,.bool false] 83 (0,0)):=(yK.block w4.heap.size s_ (QJ.o w4.heap.size Kf)).trans (ab w4.drew _);have k0:w5.cell? ⟨w4.heap.size,0,none⟩=some (.int .i64 0):=aa BA 0;have k1:w5.cell? ⟨w4.heap.size,1,none⟩=some (.int .u8 0):=aa BA 1;have k2:w5.cell? ⟨w4.heap.size,2,none⟩=some (.bool false):=aa BA 2;have kf0:w5.frozen? ⟨w4.heap.size,0,none⟩=false:=ae BA 0;have kf1:w5.frozen? ⟨w4.heap.size,1,none⟩=false:=ae BA 1;have kf2:w5.frozen? ⟨w4.heap.size,2,none⟩=false:=ae BA 2)))
    all_goals
     go_wp2_with fail
     go_meet
     first
     |exact rt UE.o Ct.o Ax.o Kf QJ.o Ke.o Eu.o Dr.o QD.o CE.o zy Og BA ⟨Int.le_refl _,o_⟩ (.inr ⟨rfl,QT.o,rfl,Jt.o⟩)
     |exact ru UE.o Ct.o Ax.o Kf QJ.o Ke.o Eu.o Dr.o QD.o CE.o zy Og ⟨Int.le_refl _,o_⟩ (.inr ⟨rfl,QT.o,rfl,Jt.o⟩)
  case rest=>
  obtain⟨bb,f,e1,tkB,p1,L1,xy,S1,rfl,rfl,rfl,Uc,KG,KI,MP,Xv,Gt,JU,Ul,BO,Bq,zT,Ar,xJ⟩:=hcut;dsimp only at JU Ul;obtain⟨KN,Ps,Tl,HR6,Tu,Oa,Na,yc⟩:=zh8 Uc Xv Gt JU Ul BO Bq xJ;have Rj:w.heap.size<wc.heap.size:=(wO JU).1;have z0:wc.cell? ⟨w.heap.size,0,none⟩=some (.int .i64 0):=aa JU 0;have z1:wc.cell? ⟨w.heap.size,1,none⟩=some (.int .u8 0):=aa JU 1;have z2:wc.cell? ⟨w.heap.size,2,none⟩=some (.bool false):=aa JU 2;have zf0:=ae JU 0;have zf1:=ae JU 1;have zf2:=ae JU 2;have AO:bb≠w.heap.size:=o_;clear Uc Xv Gt JU Ul BO Bq xJ Yc;by_cases he:e1=0
  rotate_left
  ·have xA:(e1 != 0)=true:=(by rw[bne_iff_ne];exact he);have HE:=wP he;clear he;go_wp2_with fail;refine bodyPost_ret (v:= .tuple #[.agg (aq ⟨0,0,false⟩),.int .i64 e1]) (by simp[results,results121,go_sem,Rj,z0,z1,z2,zf0,zf1,zf2,aq]) rfl ?_;have xL:e1=4/\p1=p/\L1=L/\aw p L 4 0 p L:=by
    rcases yc.o with⟨_,h2,h3⟩|⟨_,h2,_,h3⟩
    ·have h4:=xi h2;obtain⟨y,hy,Ha⟩:=HQ.o.file h4.1;exact dU.four h3 q7 h4.2 (sK h4.1 hy Ha) HE.o
    ·rcases h3.two with e|⟨e,e2,e3,e4⟩
     ·exact absurd e HE.o
     ·subst e e2 e3 e4;exact⟨rfl,rfl,rfl,h3⟩
   obtain⟨rfl,rfl,rfl,ht⟩:=xL;obtain⟨b1,b2⟩:=fM Ps.o Oa.o (bm (w:=wc) (b:=w.heap.size) (.int .i64 0) (.int .u8 0) (.bool false)) (fun b hb=>⟨o_,by rw[hb];exact MP⟩) ⟨HH.o.lts.1,HH.o.lts.2.1,HH.o.base⟩;exact⟨4,⟨0,0,false⟩,_,_,T,xy,S1,rfl,b1.cache,b2,Na.o,zT,Ar,aX.no AA.o AS.o Lo.o (AA.o.full ht)⟩
  subst he;cases tkB with
  |false=>
   obtain⟨_,Fo,ET⟩:false=false/\dK r pg=true/\GetF F r.ino (srcK r pg) p L clock 0 f p1 L1 xy:=yc.o.resolve_right (fun e=>by cases e.1);obtain⟨a1,a2,a3,a4,a5⟩:=AA.o.get ET;obtain⟨yO,c2,c3,DH,c5,c6⟩:=a5 rfl;obtain⟨YH,QT⟩:=zh2 ET Fo;have g2:wc.cell? ⟨w3.heap.size,2,none⟩=some (.int .u8 r.prot):=aa Tu.o 2;have x1:wc.cell? ⟨bb,1,none⟩=some (.int .u8 0):=aa KN.o 1;have xf1:=ae KN.o 1;go_upto_region 13 with(fail);obtain⟨w7,zu⟩:=e_ (wc.setCell ⟨bb,1,none⟩ (.int .u8 r.prot));rw[<-zu];have yY:Mod (fun b=>b=bb) wc w7:=(by rw[zu];exact aj (S:=fun b=>b=bb) rfl 1 _);have ED:w7.heap[bb]? =some (.cells #[.int .i64 (f:Int),.int .u8 r.prot,.bool true] 83 (0,0)):=by
    rw[zu];have:=Joins.block_setCell (i:=1) KN.o (.int .u8 r.prot);simpa using this
   obtain⟨SL,Qs⟩:=fM Ps.o Oa.o yY (fun b hb=>⟨o_,by rw[hb];exact KI⟩) ⟨HH.o.lts.1,HH.o.lts.2.1,HH.o.base⟩;have Fq:One w7 B c a m S1 s t root A n cap rl:=Tl.o.mod yY (fun b hb=>⟨o_,o_,fun ad e=>by have:=(HO.o.noR ad e).2.2.2.2.2.2;omega⟩);have NU:=(yY.block w.heap.size Rj o_).trans HR6.o;have Lu:w.heap.size<w7.heap.size:=(wO NU).1;have MK:bb<w7.heap.size:=(wO ED).1;have EC:=HH.o.lts;have Ja:bb≠m:=o_;have hwm:w.heap.size≠m:=o_;have hP:(r.prot.toNat:Int)=r.prot:=o_;have s2:w7.cell? ⟨s,2,none⟩=some (.pointer (some ⟨t,0,none⟩)):=aa Fq.self 2;have b0:w7.cell? ⟨bb,0,none⟩=some (.int .i64 (f:Int)):=aa ED 0;have b1:w7.cell? ⟨bb,1,none⟩=some (.int .u8 r.prot):=aa ED 1;have b2:w7.cell? ⟨bb,2,none⟩=some (.bool true):=aa ED 2;have QM:Hid (T.lf (Ap.toNat/4096)=none):=wP (by rw[CL];exact Lo.o);have hmap:=mq t c a root fs m xy Ap (f:Int) r.prot true w7.drew S1 p1 T L1 hold 0 ⟨f,r.prot.toNat,true⟩ (SL.cache.below (xp w7.heap.size w7).drew) Fq.tab Fq.noT.1 Fq.noT.2.1 a1.good HR.o AQ hA9 (by have:=HA.o;omega) o_ (by rw[aO yO];omega) (by rw[QM.o];rfl) rfl hP.symm rfl yO DH (by show p1.cnt f+1<1000000000000;have:=a1.cap yO;have:=yA f;omega);rw[CL]at hmap;clear a1 a2 a3 a4 a5 ET Fo c2 c3 c5 c6;obtain⟨Jn,HH7,Kb,KR,EY,Ym⟩:=zh6 hmap SL Fq Qs ED NU;clear hmap SL Fq Qs ED NU zu yY g2 x1 xf1 z0 z1 z2 zf0 zf1 zf2 CL
   go_still_tail 6,k_
   go_wp2_with fail;refine(Jn.o).mono ?_;rintro e w8⟨er2,p2,T2,L2,S2,rfl,XD,Bb,EN,GJ,BC⟩;have zW:=Bb.undrew;have IK: ∀b,b<w7.heap.size-> ¬S1 b-> ¬S2 b:=fun b hb h1 e=>(EN b e).elim h1 (fun e=>by have:w7.heap.size<=b:=e;omega);have Qq:=(zW.block bb MK (fun e=>e.elim KI Ja)).trans EY.o;have Qr:=(zW.block w.heap.size Lu (fun e=>e.elim MP hwm)).trans Ym.o;have Rl:w.heap.size<w8.heap.size:=(wO Qr).1;have Sm:bb<w8.heap.size:=(wO Qq).1;have Xu:=HH7.o.step XD (zW.sub fun b hb=>hb.elim .inl fun e=> .inr (.inl e)) EN;have Xr:Mod (av S c m) w w8:=KR.o.trans (fun b e=>by
    rcases e with e|e|e
    ·exact(Na.o b e).imp .inl id
    ·exact .inl (.inr (.inl e))
    ·exact .inl (.inr (.inr e))) (zW.sub (T:=av S1 c m) fun b hb=>hb.elim .inl fun e=> .inr (.inl e))
   have Xo:Out S S2 w:=fun b e=>(EN b e).elim (fun e=>Na.o b e) (fun e=> .inr (by have:w7.heap.size<=b:=e;omega));have Xk:=IK bb MK KI;have OT:=IK w.heap.size Lu MP;obtain⟨QG,YD,Jo,Pb,Ni,Nz,Qy,Ir⟩:=zh8 (Kb.o.foot (zW.sub fun b hb=>hb.elim .inl fun e=> .inr (.inl e)) EN) Xu Xr Xo GJ BC Qq Qr;clear XD Bb EN GJ BC zW IK Xu Xr Xo s2 b0 b1 b2;have k0:w8.cell? ⟨bb,0,none⟩=some (.int .i64 (f:Int)):=aa Qy.o 0;have k1:w8.cell? ⟨bb,1,none⟩=some (.int .u8 r.prot):=aa Qy.o 1;have k2:w8.cell? ⟨bb,2,none⟩=some (.bool true):=aa Qy.o 2;have z0:w8.cell? ⟨w.heap.size,0,none⟩=some (.int .i64 0):=aa Ir.o 0;have z1:w8.cell? ⟨w.heap.size,1,none⟩=some (.int .u8 0):=aa Ir.o 1;have z2:w8.cell? ⟨w.heap.size,2,none⟩=some (.bool false):=aa Ir.o 2;have zf0:=ae Ir.o 0;have zf1:=ae Ir.o 1;have zf2:=ae Ir.o 2;go_wp2_with fail;refine bodyPost_ret (v:= .tuple #[.agg (aq ⟨f,r.prot.toNat,true⟩),.int .i64 er2]) (by simp[results,results121,go_sem,Rl,Sm,z0,z1,z2,zf0,zf1,zf2,aq,hP]) rfl ?_;obtain⟨e1,e2⟩:=fM YD.o Jo.o (bm (w:=w8) (b:=w.heap.size) (.int .i64 (f:Int)) (.int .u8 r.prot) (.bool true)) (fun b hb=>⟨o_,by rw[hb];exact OT⟩) ⟨HH.o.lts.1,HH.o.lts.2.1,HH.o.base⟩;exact⟨er2,_,p2,L2,T2,xy,S2,rfl,e1.cache,e2,Pb.o,zT,Ar,aX.filed (ino:=r.ino) (clock:=clock) AA.o AS.o (by show pg<68719476736;omega) Lo.o QT.o YH.o rfl Ni.o Nz.o⟩
  |true=>
   obtain⟨_,Fo,hcc,ET⟩:true=true/\dK r pg=false/\xy=clock/\aw p L 0 f p1 L1:=yc.o.resolve_left (fun e=>by cases e.1);obtain⟨a1,a2,a3,a4,a5⟩:=AA.o.take ET;have yO:f<p1.n:=(by rw[(a2 fun _ =>False).n];exact a5.lt);have DH:1<=p1.cnt f:=(by rw[a5.one];exact wS _);obtain⟨YH,QT⟩:=zh2 ET Fo;have g2:wc.cell? ⟨w3.heap.size,2,none⟩=some (.int .u8 r.prot):=aa Tu.o 2;have x1:wc.cell? ⟨bb,1,none⟩=some (.int .u8 0):=aa KN.o 1;have xf1:=ae KN.o 1;go_upto_region 13 with(fail);obtain⟨w7,zu⟩:=e_ (wc.setCell ⟨bb,1,none⟩ (.int .u8 r.prot));rw[<-zu];have yY:Mod (fun b=>b=bb) wc w7:=(by rw[zu];exact aj (S:=fun b=>b=bb) rfl 1 _);have ED:w7.heap[bb]? =some (.cells #[.int .i64 (f:Int),.int .u8 r.prot,.bool false] 83 (0,0)):=by
    rw[zu];have:=Joins.block_setCell (i:=1) KN.o (.int .u8 r.prot);simpa using this
   obtain⟨SL,Qs⟩:=fM Ps.o Oa.o yY (fun b hb=>⟨o_,by rw[hb];exact KI⟩) ⟨HH.o.lts.1,HH.o.lts.2.1,HH.o.base⟩;have Fq:One w7 B c a m S1 s t root A n cap rl:=Tl.o.mod yY (fun b hb=>⟨o_,o_,fun ad e=>by have:=(HO.o.noR ad e).2.2.2.2.2.2;omega⟩);have NU:=(yY.block w.heap.size Rj o_).trans HR6.o;have Lu:w.heap.size<w7.heap.size:=(wO NU).1;have MK:bb<w7.heap.size:=(wO ED).1;have EC:=HH.o.lts;have Ja:bb≠m:=o_;have hwm:w.heap.size≠m:=o_;have hP:(r.prot.toNat:Int)=r.prot:=o_;have s2:w7.cell? ⟨s,2,none⟩=some (.pointer (some ⟨t,0,none⟩)):=aa Fq.self 2;have b0:w7.cell? ⟨bb,0,none⟩=some (.int .i64 (f:Int)):=aa ED 0;have b1:w7.cell? ⟨bb,1,none⟩=some (.int .u8 r.prot):=aa ED 1;have b2:w7.cell? ⟨bb,2,none⟩=some (.bool false):=aa ED 2;have QM:Hid (T.lf (Ap.toNat/4096)=none):=wP (by rw[CL];exact Lo.o);have hmap:=mq t c a root fs m xy Ap (f:Int) r.prot false w7.drew S1 p1 T L1 (upd hold f 1) 0 ⟨f,r.prot.toNat,false⟩ (SL.cache.below (xp w7.heap.size w7).drew) Fq.tab Fq.noT.1 Fq.noT.2.1 a1.good HR.o AQ hA9 (by have:=HA.o;omega) o_ (by rw[aO yO];omega) (by rw[QM.o];rfl) rfl hP.symm rfl yO DH (by show p1.cnt f+1<1000000000000;rw[a5.one];decide);rw[CL]at hmap;clear a1 a2 a3 a4 a5 ET Fo;obtain⟨Jn,HH7,Kb,KR,EY,Ym⟩:=zh6 hmap SL Fq Qs ED NU;clear hmap SL Fq Qs ED NU zu yY g2 x1 xf1 z0 z1 z2 zf0 zf1 zf2 CL
   go_still_tail 6,k_
   go_wp2_with fail;refine(Jn.o).mono ?_;rintro e w8⟨er2,p2,T2,L2,S2,rfl,XD,Bb,EN,GJ,BC⟩;have zW:=Bb.undrew;have IK: ∀b,b<w7.heap.size-> ¬S1 b-> ¬S2 b:=fun b hb h1 e=>(EN b e).elim h1 (fun e=>by have:w7.heap.size<=b:=e;omega);have Qq:=(zW.block bb MK (fun e=>e.elim KI Ja)).trans EY.o;have Qr:=(zW.block w.heap.size Lu (fun e=>e.elim MP hwm)).trans Ym.o;have Rl:w.heap.size<w8.heap.size:=(wO Qr).1;have Sm:bb<w8.heap.size:=(wO Qq).1;have Xu:=HH7.o.step XD (zW.sub fun b hb=>hb.elim .inl fun e=> .inr (.inl e)) EN;have Xr:Mod (av S c m) w w8:=KR.o.trans (fun b e=>by
    rcases e with e|e|e
    ·exact(Na.o b e).imp .inl id
    ·exact .inl (.inr (.inl e))
    ·exact .inl (.inr (.inr e))) (zW.sub (T:=av S1 c m) fun b hb=>hb.elim .inl fun e=> .inr (.inl e))
   have Xo:Out S S2 w:=fun b e=>(EN b e).elim (fun e=>Na.o b e) (fun e=> .inr (by have:w7.heap.size<=b:=e;omega));have Xk:=IK bb MK KI;have OT:=IK w.heap.size Lu MP;obtain⟨QG,YD,Jo,Pb,Ni,Nz,Qy,Ir⟩:=zh8 (Kb.o.foot (zW.sub fun b hb=>hb.elim .inl fun e=> .inr (.inl e)) EN) Xu Xr Xo GJ BC Qq Qr;clear XD Bb EN GJ BC zW IK Xu Xr Xo s2 b0 b1 b2;rcases yc.o with⟨hf9,_⟩|⟨_,Fo,_,ET⟩
   ·exact absurd hf9 d_
   have BF:=aX.blank AA.o AS.o (by show pg<68719476736;omega) Lo.o Fo ET rfl Ni.o Nz.o;have OG:=du a f w8.drew S2 p2 YD.o.cache.pool.drew BF.2.1 BF.2.2;have k0:w8.cell? ⟨bb,0,none⟩=some (.int .i64 (f:Int)):=aa Qy.o 0;have s1:w8.cell? ⟨s,1,none⟩=some (.pointer (some ⟨a,0,none⟩)):=aa QG.o.self 1;obtain⟨Gx,YQ⟩:=zh2 BF OG;clear Fo ET BF OG;go_upto_region 15 with(fail)
   go_still_tail 6,k_
   go_wp2_with fail;refine(YQ.o).mono ?_;rintro e w9⟨rfl,MQ,OB⟩;have Ba:=OB.undrew;have Ub:=(Ba.block bb Sm Xk).trans Qy.o;have Ug:=(Ba.block w.heap.size Rl OT).trans Ir.o;have Rk:w.heap.size<w9.heap.size:=(wO Ug).1;have hbl9:bb<w9.heap.size:=(wO Ub).1;have hC9:=YD.o.cache.turn Ba MQ (Out.refl _ _);have HH9:=wP (YD.o.step hC9 (Ba.sub fun b hb=> .inl hb) (Out.refl _ _));have HM9:Hid (Mod (av S c m) w w9):=wP (Jo.o.trans (fun b e=>(Pb.o b e).imp .inl id) Ba);obtain⟨SX,Uw⟩:=zh2 Ub Ug;clear Ba OB Ub Ug hC9 MQ k0 s1;have k0:w9.cell? ⟨bb,0,none⟩=some (.int .i64 (f:Int)):=aa SX.o 0;have k1:w9.cell? ⟨bb,1,none⟩=some (.int .u8 r.prot):=aa SX.o 1;have k2:w9.cell? ⟨bb,2,none⟩=some (.bool false):=aa SX.o 2;have z0:w9.cell? ⟨w.heap.size,0,none⟩=some (.int .i64 0):=aa Uw.o 0;have z1:w9.cell? ⟨w.heap.size,1,none⟩=some (.int .u8 0):=aa Uw.o 1;have z2:w9.cell? ⟨w.heap.size,2,none⟩=some (.bool false):=aa Uw.o 2;have zf0:=ae Uw.o 0;have zf1:=ae Uw.o 1;have zf2:=ae Uw.o 2;go_wp2_with fail;refine bodyPost_ret (v:= .tuple #[.agg (aq ⟨f,r.prot.toNat,false⟩),.int .i64 er2]) (by simp[results,results121,go_sem,Rk,hbl9,z0,z1,z2,zf0,zf1,zf2,aq,hP]) rfl ?_;obtain⟨e1,e2⟩:=fM HH9.o HM9.o (bm (w:=w9) (b:=w.heap.size) (.int .i64 (f:Int)) (.int .u8 r.prot) (.bool false)) (fun b hb=>⟨o_,by rw[hb];exact OT⟩) ⟨HH.o.lts.1,HH.o.lts.2.1,HH.o.base⟩;exact⟨er2,_,p2.down f,L2,T2,xy,S2,rfl,e1.cache,e2,Pb.o,zT,Ar,Gx.o.1⟩
end
section
open Go.RowKit Go.Sort
structure Run (w W:World)(G K:Nat->Prop)(B c a fs m s t root:Nat)(A:Option Addr)(n cap:Nat)(rl:List Reg)(S0 S:Nat->Prop)(F:List Nd)(clock:Int)(p:Pool)(L:List Slot):Prop where
 home:Home W B c a fs m S F clock p L
 one:One W B c a m S s t root A n cap rl
 mod:Mod G w W
 o:Out S0 S w
 foot: ∀b,av S0 c m b->G b
 low:c<w.heap.size/\m<w.heap.size/\s<w.heap.size/\t<w.heap.size/\B<=w.heap.size
 own: ∀b,K b-> ¬S b/\w.heap.size<=b/\b<W.heap.size
 row: ∀ad,A=some ad-> ¬K ad.block
variable {w W W':World}{G K:Nat->Prop}{B c a fs m s t root:Nat}{A:Option Addr}{n cap:Nat}{rl:List Reg}{S0 S S':Nat->Prop}{F:List Nd}{clock xr:Int}{p p':Pool}{L L':List Slot}
theorem Run.start (hH:Home w B c a fs m S F clock p L)(hO:One w B c a m S s t root A n cap rl)(hG: ∀b,av S c m b->G b):Run w w G (fun _ =>False) B c a fs m s t root A n cap rl S S F clock p L:=
 ⟨hH,hO,Mod.refl _ _,Out.refl _ _,hG,⟨hH.lts.1,hH.lts.2.1,hO.lts.1,hO.lts.2.1,hH.base⟩,fun _ h=>h.elim,fun _ _ h=>h⟩
theorem Run.sub {K':Nat->Prop}(h:Run w W G K B c a fs m s t root A n cap rl S0 S F clock p L)(hK: ∀b,K' b->K b):Run w W G K' B c a fs m s t root A n cap rl S0 S F clock p L:=
 ⟨h.home,h.one,h.mod,h.o,h.foot,h.low,fun b hb=>h.own b (hK b hb),fun ad e x=>h.row ad e (hK _ x)⟩
theorem Run.size (h:Run w W G K B c a fs m s t root A n cap rl S0 S F clock p L):w.heap.size<=W.heap.size:=h.mod.size
theorem Run.below (h:Run w W G K B c a fs m s t root A n cap rl S0 S F clock p L)(hb:Below W.heap.size W W'):Run w W' G (fun b=>K b\/(W.heap.size<=b/\b<W'.heap.size)) B c a fs m s t root A n cap rl S0 S F clock p L:=by
 have hz:=h.mod.size;have xX:=hb.size;refine⟨h.home.below hb,h.one.below hb,(h.mod.trans (Out.refl _ _) (Mod.of hb)),h.o,h.foot,h.low,fun b hb=>?_,fun ad e hk=>?_⟩
 ·rcases hb with hb|hb
  ·obtain⟨h1,h2,h3⟩:=h.own b hb;exact⟨h1,h2,o_⟩
  ·exact⟨fun e=>by have:=h.home.lts.2.2 b e;omega,o_,hb.2⟩
 ·rcases hk with hk|hk
  ·exact h.row ad e hk
  ·have:=(h.one.noR ad e).2.2.2.2.2.2;omega
theorem Run.call (h:Run w W G K B c a fs m s t root A n cap rl S0 S F clock p L)(hC:au W' S' c a fs m xr p' L')(hm:Mod (av S c m) W W')(ho:Out S S' W):Run w W' G K B c a fs m s t root A n cap rl S0 S' F xr p' L'/\ ∀b,K b->W'.heap[b]? =W.heap[b]? :=by
 have hz:=h.mod.size;have xX:=hm.size;obtain⟨l1,l2,l3,l4,l5⟩:=h.low;have key: ∀b,K b-> ¬av S c m b:=fun b hb e=>by
  obtain⟨h1,h2,h3⟩:=h.own b hb;rcases e with e|e|e
  ·exact h1 e
  ·omega
  ·omega
 refine⟨⟨h.home.step hC hm ho,h.one.foot hm ho,?_,h.o.trans ho hz,h.foot,h.low,fun b hb=>?_,h.row⟩,fun b hb=>hm.block b (h.own b hb).2.2 (key b hb)⟩
 ·exact((h.mod.sub (T:=fun b=>G b\/w.heap.size<=b) fun b e=> .inl e).trans (Out.refl _ _) (hm.sub fun b e=>by
   rcases e with e|e|e
   ·exact(h.o b e).imp (fun e=>h.foot b (.inl e)) id
   ·exact .inl (h.foot b (.inr (.inl e)))
   ·exact .inl (h.foot b (.inr (.inr e))))).own fun b e=>e
 ·obtain⟨h1,h2,h3⟩:=h.own b hb;exact⟨fun e=>(ho b e).elim h1 (fun e=>o_),h2,o_⟩
theorem Run.pool (h:Run w W G K B c a fs m s t root A n cap rl S0 S F clock p L)(hP:am W' S a p')(hm:Mod S W W'):Run w W' G K B c a fs m s t root A n cap rl S0 S F clock p' L/\ ∀b,K b->W'.heap[b]? =W.heap[b]? :=
 h.call (h.home.cache.turn hm hP (Out.refl _ _)) (hm.sub fun b hb=> .inl hb) (Out.refl _ _)
theorem Run.set {X:Nat->Prop}(h:Run w W G K B c a fs m s t root A n cap rl S0 S F clock p L)(hm:Mod X W W')(hX: ∀b,X b->K b):Run w W' G K B c a fs m s t root A n cap rl S0 S F clock p L:=by
 have hz:=h.mod.size;have xX:=hm.size;obtain⟨l1,l2,l3,l4,l5⟩:=h.low;refine⟨h.home.mod hm (fun b hb=>?_),h.one.mod hm (fun b hb=>?_),?_,h.o,h.foot,h.low,fun b hb=>?_,h.row⟩
 ·obtain⟨h1,h2,h3⟩:=h.own b (hX b hb);exact⟨h1,o_,o_,o_⟩
 ·obtain⟨h1,h2,h3⟩:=h.own b (hX b hb);exact⟨o_,o_,fun ad e x=>h.row ad e (x▸hX b hb)⟩
 ·exact((h.mod.sub (T:=fun b=>G b\/w.heap.size<=b) fun b e=> .inl e).trans (Out.refl _ _) (hm.sub fun b e=> .inr (h.own b (hX b e)).2.1)).own fun b e=>e
 ·obtain⟨h1,h2,h3⟩:=h.own b hb;exact⟨h1,h2,o_⟩
def OwnPost (w:World)(S:Nat->Prop)(c a fs m:Nat)(F:List Nd)(clock:Int)(p:Pool)(L:List Slot)(T:Tab)(hold:Nat->Nat)(r:Reg)(pg:Nat)(e:Ending)(w':World):Prop:=
 ∃er l p' L' T' xr S',e= .returned (.tuple #[.agg (aq l),.int .i64 er])/\au w' S' c a fs m xr p' L'/\Mod (av S c m) w w'/\Out S S' w/\clock<=xr/\xr<=clock+1/\eH F hold r pg p L T er l p' L' T'
theorem Sp.node1 {F:List Nd}{hold:Nat->Nat}{p:Pool}{L:List Slot}{T:Tab}(h:Sp F hold p L T){pg:Nat}{l:Leaf}(hl:T.lf pg=some l): ∃g,T.nd 1 (part pg 1)=some g:=by
 have:=(h.good.ok.leaf pg l hl).1;exact Option.isSome_iff_exists.1 this
def Box3 (w:World)(b:Nat)(x y z:Value):Prop:=(w.cell? ⟨b,0,none⟩=some x/\w.cell? ⟨b,1,none⟩=some y/\w.cell? ⟨b,2,none⟩=some z)/\(w.frozen? ⟨b,0,none⟩=false/\w.frozen? ⟨b,1,none⟩=false/\w.frozen? ⟨b,2,none⟩=false)/\b<w.heap.size
theorem box3 {w:World}{b:Nat}{x y z:Value}{t:TypeId}(h:w.heap[b]? =some (.cells #[x,y,z] t (0,0))):Box3 w b x y z:=
 ⟨⟨aa h 0,aa h 1,aa h 2⟩,⟨ae h 0,ae h 1,ae h 2⟩,(wO h).1⟩
theorem sown_any (B c a fs m s t root n cap pg:Nat)(A:Option Addr)(rl:List Reg)(r:Reg)(clock Ap:Int)(w:World)(S:Nat->Prop)(F:List Nd)(p:Pool)(L:List Slot)(T:Tab)(hold:Nat->Nat)
  (hH:Home w B c a fs m S F clock p L)(hO:One w B c a m S s t root A n cap rl)(zZ:Sp F hold p L T)(ho:Own p T)(hr:T.nd 4 0=some root)(hq:Ask F rl r pg)(hA:Ap=(pg:Int)*4096)(yA: ∀f,hold f<=100000000000)(BU:0<=clock/\clock<1000000):
  Calls prog 123 #[.pointer (some ⟨s,0,none⟩),.int .u64 Ap] w (OwnPost w S c a fs m F clock p L T hold r pg):=by
 obtain⟨q1,q2,q3,q4,q5,q6,q7⟩:=hq.facts;have AQ:0<=Ap:=o_;have hA9:Ap<140737488355328:=o_;obtain⟨w0,xv⟩:=e_ (w.alloc (.cells #[.int .i64 0,.int .u8 0,.bool false] 83));have xz:Below w.heap.size w w0:=(by rw[xv];exact wR);have CK:w0.heap.size=w.heap.size+1:=(by rw[xv];simp);have AI:w0.heap[w.heap.size]? =some (.cells #[.int .i64 0,.int .u8 0,.bool false] 83 (0,0)):=(by rw[xv];exact ab w _);have AG:Run w w0 (av S c m) (fun b=>b=w.heap.size) B c a fs m s t root A n cap rl S S F clock p L:=((Run.start hH hO (fun _ e=>e)).below xz).sub (fun b e=> .inr ⟨o_,o_⟩);have BF:=pd B c a fs m s t root n cap pg A rl r clock Ap w0 S F p L T hold AG.home AG.one zZ ho hr hq hA yA BU;obtain⟨Gx,xU,Gf,Av,HR,HA,hzw⟩:=zh7 BF xv AI AG hr hA CK;clear BF xv xz AI AG hO hH zZ ho hr hq hA CK;go_enter func123,ntmps123;go_upto_region 1 with(fail);rw[<-xU.o];go_upto_region 2 with(first
  |(go_at_call 121;refine(Gx.o).mono ?_;rintro e w1⟨er,⟨fr,pr,cp⟩,p1,L1,T1,xy,S1,rfl,JW,zn,yJ,zT,Ar,xJ⟩;unfold aq)
  |fail)
 obtain⟨w2,yl⟩:=e_ (w1.alloc (.cells #[.int .i64 (fr:Int),.int .u8 (pr:Int),.bool cp] 83));rw[<-yl];obtain⟨xM,Ha⟩:=Av.o.call JW zn yJ;have xx:Below w1.heap.size w1 w2:=(by rw[yl];exact wR);have xX:w2.heap.size=w1.heap.size+1:=(by rw[yl];simp);have xF:Run w w2 (av S c m) (fun b=>b=w.heap.size\/b=w1.heap.size) B c a fs m s t root A n cap rl S S1 F xy p1 L1:=(xM.below xx).sub (fun b e=>e.imp id fun e=>⟨o_,o_⟩);have Dn:=(Ha _ rfl).trans Gf.o;have hwl1:w.heap.size<w1.heap.size:=(wO Dn).1;have Aj:=(xx.block _ hwl1).trans Dn;have Xi:w2.heap[w1.heap.size]? =some (.cells #[.int .i64 (fr:Int),.int .u8 (pr:Int),.bool cp] 83 (0,0)):=(by rw[yl];exact ab w1 _);obtain⟨⟨z0,z1,z2⟩,⟨zf0,zf1,zf2⟩,Oh⟩:=box3 Aj;obtain⟨⟨x0,x1,x2⟩,⟨xf0,xf1,xf2⟩,hxl2⟩:=box3 Xi;have xA:w1.heap.size≠w.heap.size:=o_;obtain⟨yh,EZ,Fu,yc⟩:=zh4 xF Aj Xi xJ;clear JW zn yJ xM Ha xx xF Dn Aj Xi xJ yl xX;by_cases he:er=0
 rotate_left
 ·have xA:(er != 0)=true:=(by rw[bne_iff_ne];exact he);have HE:=wP he;clear he;go_wp2_with fail;refine bodyPost_ret (v:= .tuple #[.agg (aq ⟨fr,pr,cp⟩),.int .i64 er]) (by simp[results,results123,go_sem,Oh,z0,z1,z2,zf0,zf1,zf2,aq]) rfl ?_;have yx:=yh.o.set (bm (w:=w2) (b:=w.heap.size) (.int .i64 (fr:Int)) (.int .u8 (pr:Int)) (.bool cp)) (fun b e=> .inl e);exact⟨er,⟨fr,pr,cp⟩,p1,L1,T1,xy,S1,rfl,yx.home.cache,yx.mod,yx.o,zT,Ar,eH.err' yc.o HE.o⟩
 subst he;cases cp with
 |false=>
  go_wp2_with fail;refine bodyPost_ret (v:= .tuple #[.agg (aq ⟨fr,pr,false⟩),.int .i64 0]) (by simp[results,results123,go_sem,Oh,z0,z1,z2,zf0,zf1,zf2,aq]) rfl ?_;have yx:=yh.o.set (bm (w:=w2) (b:=w.heap.size) (.int .i64 (fr:Int)) (.int .u8 (pr:Int)) (.bool false)) (fun b e=> .inl e);exact⟨0,⟨fr,pr,false⟩,p1,L1,T1,xy,S1,rfl,yx.home.cache,yx.mod,yx.o,zT,Ar,eH.alone yc.o rfl⟩
 |true=>
  go_upto_region 5 with(fail);obtain⟨w3,yU⟩:=e_ (w2.setCell ⟨w1.heap.size,2,none⟩ (.bool false));rw[<-yU];have zF:Mod (fun b=>b=w1.heap.size) w2 w3:=(by rw[yU];exact aj (S:=fun b=>b=w1.heap.size) rfl 2 _);have Sy:w3.heap[w1.heap.size]? =some (.cells #[.int .i64 (fr:Int),.int .u8 (pr:Int),.bool false] 83 (0,0)):=by
   rw[yU];have:=Joins.block_setCell (i:=2) Fu.o (.bool false);simpa using this
  have FW:=(zF.block _ Oh o_).trans EZ.o;have yx:=yh.o.set zF (fun b e=> .inr e);clear yU zF z0 z1 z2 zf0 zf1 zf2 x0 x1 x2 xf0 xf1 xf2 hxl2 Oh;obtain⟨g1,g2⟩:=yc.o.got rfl;obtain⟨g,hg⟩:=yc.o.kept.sp.node1 g1;obtain⟨c1,c2,c3,c4,c5,c6⟩:=yc.o.kept.sp.leaf g1;dsimp only at c2 c3 c4 c5 c6;have yD:=yc.o.kept.root _ HR.o;have s1: ∀d os,(grow (redrawn w3 d) os).cell? ⟨s,1,none⟩=some (.pointer (some ⟨a,0,none⟩)):=fun d os=>cell_regrown (aa yx.one.self 1) d os;have x0: ∀d os,(grow (redrawn w3 d) os).cell? ⟨w1.heap.size,0,none⟩=some (.int .i64 (fr:Int)):=fun d os=>cell_regrown (aa Sy 0) d os;have hC:=fun d os=>Calls.regrown_of ((iG a (fr:Int) (grow (redrawn w3 d) os) S1 p1 (yx.home.cache.pool.below (below_regrown w3 d os))).mono fun _ _ ⟨h1,h2⟩=>⟨h1,h2▸xp _ _⟩);rw[aO c3]at hC;obtain⟨HCC,Yh,CF,KQ,HG,HG1,Fy,Ke⟩:=zh8 hC yx Sy FW hg g1 yD c5;obtain⟨YV,zU,Jv,Ey,Fe⟩:=zh5 c6 c2 c3 c4 c1;clear hC yx Sy FW hg g1 g2 yD c5 c6 c2 c3 c4 c1;refine wp_region_quiet_below k_ k_ ?_;(repeat(go_big_quiet_step ((first|exact HCC.o _ _))));refine wpQuiet_nil ?_;intro _ yX;obtain⟨⟨dq,osq⟩,hw''⟩:=yX;subst hw'';have xR:=below_regrown (w3) dq osq;generalize grow (redrawn (w3) dq) osq=wq at xR⊢;clear s1 x0;have Ib:=xR.size;have hwl3:w.heap.size<w3.heap.size:=(wO KQ.o).1;have hxl3:w1.heap.size<w3.heap.size:=(wO CF.o).1;have Cd:=(Yh.o.below xR).sub (K':=fun b=>b=w.heap.size\/b=w1.heap.size) (fun b e=> .inl e);have ZE:=(xR.block _ hxl3).trans CF.o;have hRq:=(xR.block _ hwl3).trans KQ.o;obtain⟨yk,HRQ,Nf⟩:=zh3 ZE hRq Cd;have CL:Ap.toNat/4096=pg:=(by have:=HA.o;omega);by_cases h1:p1.cnt fr=1
  ·have WS:(((p1.cnt fr:Nat):Int)==1)=true:=(by rw[h1];rfl);have yq:=ia t c a root 0 Ap ⟨fr,pr,false⟩ wq.drew S1 p1 T1 (held L1 hold) Cd.home.cache.pool.drew Cd.one.tab Cd.one.noT.1 yc.o.kept.sp.good Fy.o AQ zU.o Jv.o Ey.o (by show p1.cnt fr+1<1000000000000;rw[h1];decide) (fr:Int) (pr:Int) rfl rfl;have AF:Calls prog 69 #[.pointer (some ⟨t,0,none⟩),.int .u64 Ap,.agg #[.int .i64 (fr:Int),.int .u8 (pr:Int),.bool false]] wq.drew fun e W=>e= .returned (.int .i64 0)/\Hid (am W S1 a (bc p1 ⟨fr,pr,true⟩ ⟨fr,pr,false⟩ g pg))/\Hid (Mod S1 wq W)/\Box3 W w1.heap.size (.int .i64 (fr:Int)) (.int .u8 (pr:Int)) (.bool false)/\Box3 W w.heap.size (.int .i64 0) (.int .u8 0) (.bool false):=by
    refine yq.mono ?_;rw[fW (was:=⟨fr,pr,true⟩) (g:=g) HA.o q1 (by have:=zU.o;omega) (by rw[aO Jv.o];have:=Ey.o;omega) HG1.o HG.o];rintro e W⟨rfl,hP,Dw⟩;have hm:=Dw.undrew;obtain⟨_,hk⟩:=Nf.o.pool (by simpa using hP) hm;exact⟨rfl,wP (by simpa using hP),wP hm,box3 ((hk _ (.inr rfl)).trans yk.o),box3 ((hk _ (.inl rfl)).trans HRQ.o)⟩
   obtain⟨Ge,H1⟩:=zh2 AF h1;have s2:wq.cell? ⟨s,2,none⟩=some (.pointer (some ⟨t,0,none⟩)):=aa Cd.one.self 2;obtain⟨⟨x0,x1,x2⟩,_,_⟩:=box3 ZE;clear yq AF h1 Cd ZE hRq;go_upto_region 6 with(fail);go_region_with ((first
    |(go_at_call 69;refine(Ge.o).mono ?_;rintro e w4⟨rfl,Pj,Hw,⟨⟨y0,y1,y2⟩,⟨yf0,yf1,yf2⟩,TL⟩,⟨⟨z0,z1,z2⟩,⟨zf0,zf1,zf2⟩,hzl⟩⟩)))
   all_goals
    go_wp2_with fail;refine bodyPost_ret (v:= .tuple #[.agg (aq ⟨fr,pr,false⟩),.int .i64 0]) (by simp[results,results123,go_sem,hzl,z0,z1,z2,zf0,zf1,zf2,aq]) rfl ?_;have yg:=((Nf.o.pool Pj.o Hw.o).1).set (bm (w:=w4) (b:=w.heap.size) (.int .i64 (fr:Int)) (.int .u8 (pr:Int)) (.bool false)) (fun b e=> .inl e);exact⟨0,⟨fr,pr,false⟩,_,L1,_,xy,S1,rfl,yg.home.cache,yg.mod,yg.o,zT,Ar,eH.mark yc.o H1.o HG.o⟩
  ·have WS:(((p1.cnt fr:Nat):Int)==1)=false:=(by rw[xf];omega);have s0:wq.cell? ⟨s,0,none⟩=some (.pointer (some ⟨c,0,none⟩)):=aa Cd.one.self 0;have hT:=fL c a fs m xy wq S1 p1 L1 Cd.home.cache;have Yb:=wP hT;clear hT Cd ZE hRq h1;go_upto_region 8 with(first
    |(go_at_call 97;refine(Yb.o).mono ?_;rintro e w4⟨e4,f,p2,L2,S2,rfl,Fs,zl,AY,Dd⟩)
    |fail)
   obtain⟨yg,Dj⟩:=Nf.o.call Fs (zl.sub fun b e=>e.elim .inl fun e=> .inr (.inl e)) AY;have JR:=(Dj _ (.inr rfl)).trans yk.o;have Uh:=(Dj _ (.inl rfl)).trans HRQ.o;obtain⟨zd,CE,QD,JZ⟩:=zh4 yg JR Uh Dd;clear Fs zl AY yg Dj JR Uh Dd s0;rcases JZ.o.two with h4|⟨h4,Sc,hp2,Lk⟩
   rotate_left
   ·subst h4 Sc hp2 Lk;obtain⟨⟨z0,z1,z2⟩,⟨zf0,zf1,zf2⟩,hwl4⟩:=box3 QD.o;obtain⟨⟨x0,x1,x2⟩,⟨xf0,xf1,xf2⟩,hxl4⟩:=box3 CE.o;go_wp2_with fail;refine bodyPost_ret (v:= .tuple #[.agg (aq ⟨fr,pr,false⟩),.int .i64 4]) (by simp[results,results123,go_sem,hwl4,z0,z1,z2,zf0,zf1,zf2,aq]) rfl ?_;have xK:=zd.o.set (bm (w:=w4) (b:=w.heap.size) (.int .i64 (fr:Int)) (.int .u8 (pr:Int)) (.bool false)) (fun b e=> .inl e);exact⟨4,⟨fr,pr,false⟩,_,_,T1,xy,S2,rfl,xK.home.cache,xK.mod,xK.o,zT,Ar,eH.no yc.o (yc.o.kept.sp.full JZ.o)⟩
   subst h4;obtain⟨a1,a2,a3,a4,a5⟩:=yc.o.kept.sp.take JZ.o;have DW:p2.n=p1.n:=(a2 fun _ =>False).n;have OD:fr<p2.n:=(by rw[DW];exact Jv.o);have KA:f<p2.n:=(by rw[DW];exact a5.lt);have TX:p2.cnt f=1:=a5.one;have hcfr:1<=p2.cnt fr:=(a1.leaf HG1.o).2.2.2.1;obtain⟨Zj,HA5s,HA5n⟩:=zh3 a1 a5.slot a5.node;clear a1 a2 a3 a4 a5;have hload:=gl a fr 0 4096 w4.drew S2 p2 zd.o.home.cache.pool.drew OD hcfr d_ d_;have DZ:Calls prog 122 #[.pointer (some ⟨a,0,none⟩),.int .i64 (fr:Int),.int .i64 0,.int .i64 4096] w4.drew fun e W=>e= .returned (.tuple #[.slice (some ⟨w4.heap.size,0,none⟩) 4096 4096,.int .i64 0])/\Hid (aT W w4.heap.size 4096 (fun i=>p2.dat fr (0+i)))/\Hid (Below w4.heap.size w4 W)/\Box3 W w1.heap.size (.int .i64 (fr:Int)) (.int .u8 (pr:Int)) (.bool false):=by
    refine hload.mono ?_;rintro e W⟨rfl,hB,hz,Le⟩;have hb:=bw Le;exact⟨rfl,wP hB,wP hb,box3 ((hb.block _ (wO CE.o).1).trans CE.o)⟩
   have Nq:=wP DZ;have s1:w4.cell? ⟨s,1,none⟩=some (.pointer (some ⟨a,0,none⟩)):=aa zd.o.one.self 1;obtain⟨⟨x0,x1,x2⟩,_,_⟩:=box3 CE.o;clear hload DZ;go_upto_region 10 with(fail);go_cut [9]from 56 to 64 (fun b wx=>b= .slice (some ⟨w4.heap.size,0,none⟩) 4096 4096/\aT wx w4.heap.size 4096 (fun i=>p2.dat fr (0+i))/\Below w4.heap.size w4 wx)
   case first=>
    go_region_with ((first
     |(go_at_call 122;refine(Nq.o).mono ?_;rintro e w5⟨rfl,CH,Eu,⟨⟨y0,y1,y2⟩,⟨yf0,yf1,yf2⟩,TL⟩⟩)))
    all_goals
     go_wp2_with fail
     go_meet
     exact⟨rfl,CH.o,Eu.o⟩
   case rest=>
   obtain⟨rfl,OY,MR⟩:=hcut;have xK:=(zd.o.below MR).sub (K':=fun b=>b=w.heap.size\/b=w1.heap.size) (fun b e=> .inl e);have hX5:=(MR.block _ (wO CE.o).1).trans CE.o;have hR5:=(MR.block _ (wO QD.o).1).trans QD.o;have AK: ∀x i,p2.dat x i<256:=(by obtain⟨⟨_,_,_,_,_,h,_⟩,_,_,_⟩:=xK.home.cache.pool;exact h.small);have hstore:=ie a f 0 4096 4096 _ _ wc S2 p2 xK.home.cache.pool KA o_ d_ d_ OY.v (fun j=>AK _ _);obtain⟨Tf,Gb,HR5,Cr⟩:=zh4 hstore hX5 hR5 xK;clear hstore hX5 hR5 OY MR;have s1:wc.cell? ⟨s,1,none⟩=some (.pointer (some ⟨a,0,none⟩)):=aa xK.one.self 1;clear xK AK;go_upto_region 12 with(first
    |(go_at_call 124;refine(Tf.o).mono ?_;rintro e w6⟨rfl,FX,BO⟩)
    |fail)
   obtain⟨zp,EP⟩:=Cr.o.pool FX BO;have Uc:=(EP _ (.inr rfl)).trans Gb.o;have JU:=(EP _ (.inl rfl)).trans HR5.o;obtain⟨d,hd⟩:=e_ (laid (p2.dat f) (fun i=>p2.dat fr (0+i)) 0 4096);rw[<-hd]at zp;have MC: ∀i,i<4096->d i=p2.dat fr i:=fun i hi=>by rw[hd];unfold laid;rw[if_pos o_];simp
   obtain⟨zB,CA,SG,hO4,NV⟩:=eH.copied yc.o JZ.o HG.o d MC;have b1:Sp F (upd hold f 1) (p2.store f d) L2 T1:=Zj.o.storeH (by rw[af];omega) HA5s.o d;obtain⟨⟨x0,x1,x2⟩,⟨xf0,xf1,xf2⟩,hxl6⟩:=box3 Uc;go_upto_region 13 with(fail);obtain⟨w7,zu⟩:=e_ (w6.setCell ⟨w1.heap.size,0,none⟩ (.int .i64 (f:Int)));rw[<-zu];have yY:Mod (fun b=>b=w1.heap.size) w6 w7:=(by rw[zu];exact aj (S:=fun b=>b=w1.heap.size) rfl 0 _);have ED:w7.heap[w1.heap.size]? =some (.cells #[.int .i64 (f:Int),.int .u8 (pr:Int),.bool false] 83 (0,0)):=by
    rw[zu];have:=Joins.block_setCell (i:=0) Uc (.int .i64 (f:Int));simpa using this
   have NU:=(yY.block _ (wO JU).1 o_).trans JU;have Db:=zp.set yY (fun b e=> .inr e);have yq:=ia t c a root 0 Ap ⟨f,pr,false⟩ w7.drew S2 (p2.store f d) T1 (held L2 (upd hold f 1)) Db.home.cache.pool.drew Db.one.tab Db.one.noT.1 b1.good Fy.o AQ zU.o CA (by rw[SG];decide) (by show(p2.store f d).cnt f+1<1000000000000;rw[SG];decide) (f:Int) (pr:Int) rfl rfl;rw[fW (was:=⟨fr,pr,true⟩) (g:=g) HA.o q1 (by have:=zU.o;omega) (by rw[aO CA,SG];decide) HG1.o HG.o]at yq;have s2:w7.cell? ⟨s,2,none⟩=some (.pointer (some ⟨t,0,none⟩)):=aa Db.one.self 2;obtain⟨Ge,EY,Ym,Yg,yB⟩:=zh5 yq ED NU Db zB;clear yq ED NU Db zB FX BO zp EP Uc JU hd MC b1 yY zu x0 x1 x2 xf0 xf1 xf2 hxl6 s1;obtain⟨⟨x0,x1,x2⟩,⟨xf0,xf1,xf2⟩,hxl7⟩:=box3 EY.o
   go_still_tail 6,k_
   go_wp2_with fail;refine(Ge.o).mono ?_;rintro e w8⟨rfl,hP8,Bb⟩;have zW:=Bb.undrew;simp only[Int.toNat_natCast]at hP8;obtain⟨Da,Be⟩:=Yg.o.pool hP8 zW;have Qq:=(Be _ (.inr rfl)).trans EY.o;have Qr:=(Be _ (.inl rfl)).trans Ym.o;have OG:=du a f w8 S2 _ Da.home.cache.pool hO4 NV;have s1:w8.cell? ⟨s,1,none⟩=some (.pointer (some ⟨a,0,none⟩)):=aa Da.one.self 1;obtain⟨YQ,Qy,Ir,Yf⟩:=zh4 OG Qq Qr Da;clear OG Qq Qr Da Be hP8 zW Bb x0 x1 x2 xf0 xf1 xf2 hxl7 s2;go_upto_region 15 with(first
    |(go_at_call 59;refine(YQ.o).mono ?_;rintro e w9⟨rfl,MQ,Ba⟩)
    |fail)
   obtain⟨Fj,Di⟩:=Yf.o.pool MQ Ba;have Ub:=(Di _ (.inr rfl)).trans Qy.o;have Ug:=(Di _ (.inl rfl)).trans Ir.o;obtain⟨⟨z0,z1,z2⟩,⟨zf0,zf1,zf2⟩,Rk⟩:=box3 Ug;obtain⟨⟨x0,x1,x2⟩,⟨xf0,xf1,xf2⟩,hxl9⟩:=box3 Ub;have LJ:=Fj.set (bm (w:=w9) (b:=w.heap.size) (.int .i64 (f:Int)) (.int .u8 (pr:Int)) (.bool false)) (fun b e=> .inl e);have Ji:=wP LJ;clear Fj Di Ub Ug MQ Ba LJ;go_wp2_with fail;refine bodyPost_ret (v:= .tuple #[.agg (aq ⟨f,pr,false⟩),.int .i64 0]) (by simp[results,results123,go_sem,Rk,z0,z1,z2,zf0,zf1,zf2,aq]) rfl ?_;exact⟨0,⟨f,pr,false⟩,_,L2,_,xy,S2,rfl,Ji.o.home.cache,Ji.o.mod,Ji.o.o,zT,Ar,yB.o⟩
end
section
open Go.RowKit Go.Sort
attribute [local go_sem] Oper.semAt_some
theorem bF.below {w w':World}{P:Option Addr}(h:bF w P)(hb:Below w.heap.size w w'):bF w' P:=by
 cases P with
 |none=>trivial
 |some ad=>
  obtain⟨s,rfl,hc⟩:=h;exact⟨s,rfl,(hb.cell (World.block_lt_of_cell? _ _ hc)).trans hc⟩
theorem sk (P:Option Addr)(addr len want:Value)(w:World)(h:bF w P):
  Calls prog 70 #[.pointer P,addr,len,want] w fun e w'=>e= .returned (.tuple #[.slice none 0 0,.int .i64 2])/\Below w.heap.size w w':=by
 refine(callsIn_wide (n:=9)).1 ?_;refine callsIn_of_wp_marks func70 rfl trivial ?_;simp only[ntmps70,List.size_toArray,xd,List.length_nil,Nat.reduceAdd,Nat.reduceSub,Array.replicate_succ,Array.replicate_zero,List.push_toArray,List.append_toArray,List.nil_append,List.cons_append];obtain⟨w0,xv⟩:=e_ (((w.alloc (.cells #[.pointer P] 60)).alloc (.cells #[.slice none 0 0] 39)).alloc (.cells #[.int .i64 0] 32));have xT:w0.heap.size=w.heap.size+1+1+1:=(by rw[xv];simp);have xz:Below w.heap.size w w0:=(by rw[xv];exact(wR.alloc s_ _).alloc t_ _);have Hq:w0.heap[w.heap.size+1+1]? =some (.cells #[.int .i64 0] 32 (0,0)):=by
  rw[xv];have:=ab ((w.alloc (.cells #[.pointer P] 60)).alloc (.cells #[.slice none 0 0] 39)) (.cells #[.int .i64 0] 32)
  rwa [World.size_alloc,World.size_alloc]at this
 have Lj:w0.heap[w.heap.size+1]? =some (.cells #[.slice none 0 0] 39 (0,0)):=by
  rw[xv];have:=ab (w.alloc (.cells #[.pointer P] 60)) (.cells #[.slice none 0 0] 39);rw[World.size_alloc]at this;exact(wT _ _ _ s_).trans this
 have s0:w0.cell? ⟨w.heap.size,0,none⟩=some (.pointer P):=by
  rw[xv];exact aa ((wT _ _ _ t_).trans ((wT _ _ _ s_).trans (ab w _))) 0
 have n0:w0.cell? ⟨w.heap.size+1,0,none⟩=some (.slice none 0 0):=aa Lj 0;have nf0:=ae Lj 0;have e0:w0.cell? ⟨w.heap.size+1+1,0,none⟩=some (.int .i64 0):=aa Hq 0;have ef0:=ae Hq 0;have IJ:w.heap.size+1<w0.heap.size:=o_;have Ed:w.heap.size+1+1<w0.heap.size:=o_;obtain⟨yu,xU,yd⟩:=zh3 (dB P w0 (h.below xz)) xv xz;clear xv xz Hq Lj xT h;gi_wp2_with (first
  |(refine⟨trivial,?_⟩;rw[<-xU.o];refine(callsIn_wide.2 yu.o).mono ?_;rintro e w1⟨rfl,rfl⟩)
  |fail)
 exact⟨.tuple #[.slice none 0 0,.int .i64 2],by simp[results,results70,go_sem,n0,e0,nf0,ef0,IJ,Ed],rfl,((yd.o).setCell (p:=⟨w.heap.size+1,0,none⟩) s_ _).setCell (p:=⟨w.heap.size+1+1,0,none⟩) (by show w.heap.size<=w.heap.size+1+1;omega) _⟩
theorem pG (P:Option Addr)(addr want:Value)(A:Option Addr)(n cap:Nat)(w:World)(h:bF w P):
  Calls prog 71 #[.pointer P,addr,.slice A n cap,want] w fun e w'=>e= .returned (.int .i64 2)/\Below w.heap.size w w':=by
 refine(callsIn_wide (n:=9)).1 ?_;refine callsIn_of_wp_marks func71 rfl trivial ?_;simp only[ntmps71,List.size_toArray,xd,List.length_nil,Nat.reduceAdd,Nat.reduceSub,Array.replicate_succ,Array.replicate_zero,List.push_toArray,List.append_toArray,List.nil_append,List.cons_append];obtain⟨w0,xv⟩:=e_ (((w.alloc (.cells #[.pointer P] 60)).alloc (.cells #[.slice A n cap] 39)).alloc (.cells #[.int .i64 0] 32));have xT:w0.heap.size=w.heap.size+1+1+1:=(by rw[xv];simp);have xz:Below w.heap.size w w0:=(by rw[xv];exact(wR.alloc s_ _).alloc t_ _);have Hq:w0.heap[w.heap.size+1+1]? =some (.cells #[.int .i64 0] 32 (0,0)):=by
  rw[xv];have:=ab ((w.alloc (.cells #[.pointer P] 60)).alloc (.cells #[.slice A n cap] 39)) (.cells #[.int .i64 0] 32)
  rwa [World.size_alloc,World.size_alloc]at this
 have s0:w0.cell? ⟨w.heap.size,0,none⟩=some (.pointer P):=by
  rw[xv];exact aa ((wT _ _ _ t_).trans ((wT _ _ _ s_).trans (ab w _))) 0
 have e0:w0.cell? ⟨w.heap.size+1+1,0,none⟩=some (.int .i64 0):=aa Hq 0;have ef0:=ae Hq 0;have Ed:w.heap.size+1+1<w0.heap.size:=o_;obtain⟨yu,xU,yd⟩:=zh3 (dB P w0 (h.below xz)) xv xz;clear xv xz Hq xT h;gi_wp2_with (first
  |(refine⟨trivial,?_⟩;rw[<-xU.o];refine(callsIn_wide.2 yu.o).mono ?_;rintro e w1⟨rfl,rfl⟩)
  |fail)
 exact⟨.int .i64 2,by simp[results,results71,go_sem,e0,ef0,Ed],rfl,(yd.o).setCell (p:=⟨w.heap.size+1+1,0,none⟩) (by show w.heap.size<=w.heap.size+1+1;omega) _⟩
theorem um (P:Option Addr)(r:Reg)(w:World)(h:bF w P):
  Calls prog 25 #[.pointer P,.agg #[.int .u64 (r).fr,.int .u64 (r).to,.int .u8 (r).prot,.int .i64 (r).ino,.int .u64 (r).off]] w fun e w'=>e= .returned (.int .i64 2)/\Below w.heap.size w w':=by
 refine(callsIn_wide (n:=9)).1 ?_;refine callsIn_of_wp_marks func25 rfl trivial ?_;simp only[ntmps25,List.size_toArray,xd,List.length_nil,Nat.reduceAdd,Nat.reduceSub,Array.replicate_succ,Array.replicate_zero,List.push_toArray,List.append_toArray,List.nil_append,List.cons_append];obtain⟨w0,xv⟩:=e_ ((w.alloc (.cells #[.pointer P] 60)).alloc (.cells #[.int .u64 r.fr,.int .u64 r.to,.int .u8 r.prot,.int .i64 r.ino,.int .u64 r.off] 45));have xz:Below w.heap.size w w0:=(by rw[xv];exact wR.alloc s_ _);have s0:w0.cell? ⟨w.heap.size,0,none⟩=some (.pointer P):=by
  rw[xv];exact aa ((wT _ _ _ s_).trans (ab w _)) 0
 obtain⟨yu,xU,yd⟩:=zh3 (dB P w0 (h.below xz)) xv xz;clear xv xz h;gi_wp2_with (first
  |(refine⟨trivial,?_⟩;rw[<-xU.o];refine(callsIn_wide.2 yu.o).mono ?_;rintro e w1⟨rfl,rfl⟩)
  |fail)
 exact⟨.int .i64 2,by simp[results,results25,go_sem],rfl,yd.o⟩
theorem pE (P:Option Addr)(x y:Value)(w:World)(h:bF w P):
  Calls prog 26 #[.pointer P,x,y] w fun e w'=>e= .returned (.int .i64 2)/\Below w.heap.size w w':=by
 refine(callsIn_wide (n:=9)).1 ?_;refine callsIn_of_wp_marks func26 rfl trivial ?_;simp only[ntmps26,List.size_toArray,xd,List.length_nil,Nat.reduceAdd,Nat.reduceSub,Array.replicate_succ,Array.replicate_zero,List.push_toArray,List.append_toArray,List.nil_append,List.cons_append];obtain⟨w0,xv⟩:=e_ (w.alloc (.cells #[.pointer P] 60));have xz:Below w.heap.size w w0:=(by rw[xv];exact wR);have s0:w0.cell? ⟨w.heap.size,0,none⟩=some (.pointer P):=(by rw[xv];exact aa (ab w _) 0);obtain⟨yu,xU,yd⟩:=zh3 (dB P w0 (h.below xz)) xv xz;clear xv xz h;gi_wp2_with (first
  |(refine⟨trivial,?_⟩;rw[<-xU.o];refine(callsIn_wide.2 yu.o).mono ?_;rintro e w1⟨rfl,rfl⟩)
  |fail)
 exact⟨.int .i64 2,by simp[results,results26,go_sem],rfl,yd.o⟩
theorem mu (P:Option Addr)(x y:Value)(z:Int)(w:World)(h:bF w P):
  Calls prog 27 #[.pointer P,x,y,.int .u8 z] w fun e w'=>e= .returned (.int .i64 2)/\Below w.heap.size w w':=by
 refine(callsIn_wide (n:=9)).1 ?_;refine callsIn_of_wp_marks func27 rfl trivial ?_;simp only[ntmps27,List.size_toArray,xd,List.length_nil,Nat.reduceAdd,Nat.reduceSub,Array.replicate_succ,Array.replicate_zero,List.push_toArray,List.append_toArray,List.nil_append,List.cons_append];obtain⟨w0,xv⟩:=e_ ((w.alloc (.cells #[.pointer P] 60)).alloc (.cells #[.int .u8 z] 5));have xz:Below w.heap.size w w0:=(by rw[xv];exact wR.alloc s_ _);have s0:w0.cell? ⟨w.heap.size,0,none⟩=some (.pointer P):=(by rw[xv];exact aa ((wT _ _ _ s_).trans (ab w _)) 0);obtain⟨yu,xU,yd⟩:=zh3 (dB P w0 (h.below xz)) xv xz;clear xv xz h;gi_wp2_with (first
  |(refine⟨trivial,?_⟩;rw[<-xU.o];refine(callsIn_wide.2 yu.o).mono ?_;rintro e w1⟨rfl,rfl⟩)
  |fail)
 exact⟨.int .i64 2,by simp[results,results27,go_sem],rfl,yd.o⟩
theorem sm (P:Option Addr)(w:World)(h:bF w P):Calls prog 32 #[.pointer P] w fun e w'=>e= .returned (.tuple #[.pointer none,.int .i64 2])/\w=w':=by
 have HG:=wP (dB P w h);clear h;go_enter func32,ntmps32;go_wp2_with (first|(refine(HG.o).mono ?_;rintro e w1⟨rfl,rfl⟩)|fail);go_ret2;exact⟨rfl,rfl⟩
theorem sl (P:Option Addr)(w:World)(h:bF w P):Calls prog 21 #[.pointer P] w fun e w'=>e= .returned (.tuple #[])/\w=w':=by
 have HG:=wP (dB P w h);clear h;go_enter func21,ntmps21;go_wp2_with (first|(refine(HG.o).mono ?_;rintro e w1⟨rfl,rfl⟩)|fail);refine bodyPost_ret (results_none rfl _ _ _) rfl ?_;exact⟨rfl,rfl⟩
theorem jK (P addr len:Value)(w:World)(Post:Ending->World->Prop)(h:Calls prog 70 #[P,addr,len, .int .u8 4] w fun e w'=>(∃x y,e= .returned (.tuple #[x,y]))/\Post e w'):Calls prog 28 #[P,addr,len] w Post:=by
 have H:=wP h;clear h;go_enter func28,ntmps28;go_wp2_with (first|(refine(H.o).mono ?_;rintro e w1⟨⟨x,y,rfl⟩,hp⟩)|fail);exact hp
theorem sPeek_of (P addr len:Value)(w:World)(Post:Ending->World->Prop)(h:Calls prog 70 #[P,addr,len, .int .u8 0] w fun e w'=>(∃x y,e= .returned (.tuple #[x,y]))/\Post e w'):Calls prog 29 #[P,addr,len] w Post:=by
 have H:=wP h;clear h;go_enter func29,ntmps29;go_wp2_with (first|(refine(H.o).mono ?_;rintro e w1⟨⟨x,y,rfl⟩,hp⟩)|fail);exact hp
theorem nY (P addr b:Value)(w:World)(Post:Ending->World->Prop)(h:Calls prog 71 #[P,addr,b, .int .u8 2] w fun e w'=>(∃x,e= .returned (.int .i64 x))/\Post e w'):Calls prog 30 #[P,addr,b] w Post:=by
 have H:=wP h;clear h;go_enter func30,ntmps30;go_wp2_with (first|(refine(H.o).mono ?_;rintro e w1⟨⟨x,rfl⟩,hp⟩)|fail);exact hp
theorem sPoke_of (P addr b:Value)(w:World)(Post:Ending->World->Prop)(h:Calls prog 71 #[P,addr,b, .int .u8 0] w fun e w'=>(∃x,e= .returned (.int .i64 x))/\Post e w'):Calls prog 31 #[P,addr,b] w Post:=by
 have H:=wP h;clear h;go_enter func31,ntmps31;go_wp2_with (first|(refine(H.o).mono ?_;rintro e w1⟨⟨x,rfl⟩,hp⟩)|fail);exact hp
def wC (w:World)(S:Nat->Prop)(s t a:Nat)(p:Pool)(L:List Nat)(e:Ending)(w':World):Prop:=
 e= .returned (.tuple #[])/\am w' S a (cD p L)/\Mod (fun b=>S b\/b=t\/b=s) w w'/\w'.cell? ⟨s,2,none⟩=some (.pointer none)
theorem uv (s c a t n cap root:Nat)(A:Option Addr)(w:World)(S:Nat->Prop)(p:Pool)(T:Tab)(rest:Nat->Nat)(pg0:Nat)(zj:dP w s c a t A n cap)(h:am w S a p)(ht:al w t c a root)(Cc: ¬S t)(TO:t≠0)(hsS: ¬S s)(CK:s≠0)(yi:s≠t)(hg:T.Good p rest pg0 4)(hr:T.nd 4 0=some root):
  Calls prog 21 #[.pointer (some ⟨s,0,none⟩)] w (wC w S s t a p ((T.evs 4 0).flatMap Ev.fs)):=by
 obtain⟨HG,HF⟩:=zh2 (eO s c a t n cap A w zj) (nO t c a root w S p T rest pg0 h ht Cc TO hg hr);have c2:w.cell? ⟨s,2,none⟩=some (.pointer (some ⟨t,0,none⟩)):=aa zj 2;have HS:=wP zj;have PF:s<w.heap.size:=(wO zj).1;clear h zj ht hg hr;go_enter func21,ntmps21;go_wp2_with (first
  |(go_at_call 56;refine(HG.o).mono ?_;rintro e w1⟨rfl,rfl⟩)
  |(go_at_call 58;refine(HF.o).mono ?_;rintro e w1⟨rfl,EF,zn,CX⟩;have EE:=(zn.block s PF (fun e=>e.elim hsS yi)).trans HS.o;obtain⟨Gg,Jp,Ye⟩:=zh3 EF zn EE;clear EF zn CX;have d2:w1.cell? ⟨s,2,none⟩=some (.pointer (some ⟨t,0,none⟩)):=aa EE 2;have df2:=ae EE 2;clear EE)
  |fail)
 go_end0;have xS:Mod (fun b=>b=s) w1 (w1.setCell ⟨s,2,none⟩ (.pointer none)):=aj (S:=fun b=>b=s) rfl 2 _;refine⟨rfl,Gg.o.mod xS (fun b hb e=>by subst e;exact hsS hb) (fun e=>CK e.symm),(Jp.o.sub fun b hb=>hb.imp id .inl).trans (Out.refl _ _) (xS.sub fun b hb=> .inr (.inr hb)),?_⟩;have h9:=Joins.block_setCell (i:=2) Ye.o (.pointer none);exact aa (cs:= #[.pointer (some ⟨c,0,none⟩),.pointer (some ⟨a,0,none⟩),.pointer none,.slice A n cap]) (by simpa using h9) 2
def ww (w:World)(S:Nat->Prop)(c a fs m:Nat)(clock:Int)(p:Pool)(L:List Slot)(e:Ending)(w':World):Prop:=
 (∃f p' L' S' t,e= .returned (.tuple #[.pointer (some ⟨t,0,none⟩),.int .i64 0])/\au w' S' c a fs m clock p' L'/\al w' t c a f/\Mod (Both S m) w w'/\Out S S' w/\w.heap.size<=t/\t<w'.heap.size/\ ¬S' t/\aw p L 0 f p' L')\/
 (∃f p' L' S',e= .returned (.tuple #[.pointer none,.int .i64 4])/\au w' S' c a fs m clock p' L'/\Mod (Both S m) w w'/\Out S S' w/\aw p L 4 f p' L'/\p'=p/\L'=L)
theorem qO (c a fs m:Nat)(clock:Int)(w:World)(S:Nat->Prop)(p:Pool)(L:List Slot)(h:au w S c a fs m clock p L):
  Calls prog 60 #[.pointer (some ⟨c,0,none⟩)] w (ww w S c a fs m clock p L):=by
 have Hi:=fL c a fs m clock w S p L h;have HC:=wP Hi;clear h Hi;go_enter func60,ntmps60;go_wp2_with fail;refine HC.o.mono ?_;rintro e w1⟨r,f,p',L',S',rfl,h1,h2,h3,h4⟩;obtain⟨H1,H2,H3⟩:=zh3 h1 h2 h3;rcases h4.two with rfl|⟨rfl,rfl,rfl,rfl⟩
 ·have H4:=wP h4;clear h1 h2 h3 h4;go_wp2_with fail;refine(oZ c a fs m clock _ H1.o.self).mono ?_;rintro e w2⟨rfl,rfl⟩;go_wp2_with fail;go_ret2;exact(.inl ⟨f,p',L',S',w1.heap.size,rfl,H1.o.below wR,ab _ _,H2.o.trans (fun b hb=> .inr hb) (Mod.of wR),H3.o,H2.o.size,s_,fun e=>by have:=H1.o.pool.low _ e;omega,H4.o⟩)
 ·have H4:=wP h4;clear h1 h2 h3 h4;go_wp2_with fail;go_ret2;exact(.inr ⟨0,p',L',S',rfl,H1.o,H2.o,H3.o,H4.o,rfl,rfl⟩)
def SNewPost (w:World)(S:Nat->Prop)(c a fs m:Nat)(clock:Int)(p:Pool)(L:List Slot)(e:Ending)(w':World):Prop:=
 (∃f p' L' S' s t,e= .returned (.tuple #[.pointer (some ⟨s,0,none⟩),.int .i64 0])/\au w' S' c a fs m clock p' L'/\dP w' s c a t none 0 0/\al w' t c a f/\Mod (Both S m) w w'/\Out S S' w/\w.heap.size<=t/\t<s/\s<w'.heap.size/\ ¬S' t/\ ¬S' s/\aw p L 0 f p' L')\/
 (∃f p' L' S',e= .returned (.tuple #[.pointer none,.int .i64 4])/\au w' S' c a fs m clock p' L'/\Mod (Both S m) w w'/\Out S S' w/\aw p L 4 f p' L'/\p'=p/\L'=L)
theorem snew_any (c a fs m:Nat)(clock:Int)(w:World)(S:Nat->Prop)(p:Pool)(L:List Slot)(h:au w S c a fs m clock p L):
  Calls prog 24 #[.pointer (some ⟨c,0,none⟩)] w (SNewPost w S c a fs m clock p L):=by
 have Hi:=qO c a fs m clock w S p L h;have HC:=wP Hi;clear h Hi;go_enter func24,ntmps24;go_wp2_with fail;refine HC.o.mono ?_;rintro e w1 (⟨f,p',L',S',t,rfl,h1,h2,h3,h4,h5,h6,h7,h8⟩|⟨f,p',L',S',rfl,h1,h2,h3,h4,h5,h6⟩)
 ·obtain⟨H1,H2,H3,H4,H8⟩:=zh5 h1 h2 h3 h4 h8;clear h1 h2 h3 h4 h8;go_wp2_with (first
   |(refine(oZ c a fs m clock _ H1.o.self).mono ?_;rintro e w2⟨rfl,rfl⟩)
   |fail)
  go_ret2;have hb:=(xp w1.heap.size w1).alloc (wS _) (.cells #[.pointer (some ⟨c,0,none⟩),.pointer (some ⟨a,0,none⟩),.pointer (some ⟨t,0,none⟩),.slice none 0 0] 122);exact .inl ⟨f,p',L',S',w1.heap.size,t,rfl,H1.o.below hb,ab _ _,(hb.block t h6).trans H2.o,H3.o.trans (fun b hb=> .inr hb) (Mod.of hb),H4.o,h5,h6,s_,h7,fun e=>by have:=H1.o.pool.low _ e;omega,H8.o⟩
 ·obtain⟨H1,H2,H3,H4⟩:=zh4 h1 h2 h3 h4;clear h1 h2 h3 h4;go_wp2_with fail;go_ret2;exact .inr ⟨f,p',L',S',rfl,H1.o,H2.o,H3.o,H4.o,h5,h6⟩
end
