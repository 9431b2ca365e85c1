/- The spaces' laws: a house begun. -/
import Derived.Test.YtoochjhipmpehaaGreatDoorHrEK
import Derived.Test.YtoochjhipmpehaaGreatDoorTw11K
import Derived.Test.YtoochjhipmpehaaGreatDoorWbK
set_option linter.unusedVariables false
set_option linter.unusedSimpArgs false
set_option maxRecDepth 100000
set_option maxHeartbeats 4000000
namespace Go.Proofs.YtoochjhipmpehaaGreatDoor
section
open Go.RowKit Go.Sort
structure In11 (w:World) (P:Option Addr) (n cap:Nat) (l:List Ent):Prop where
 ents:eU w P l
 len:n=l.length
 few:n<=64
 cap:n<=cap
 small: ∀x∈l,x.n<=524288/\x.path.size<=524288/\x.to.size<=524288
theorem eU.bytes11 {w:World} {P:Option Addr} {l:List Ent} (h:eU w P l): ∀x∈l,∀i,x.dat i<256:=fun x hx=>by
 obtain⟨j,hj,e⟩:=List.mem_iff_getElem.1 hx;obtain⟨b,off,A,c,h1,h2,h3,h4,h5⟩:=h j x (by rw[vg hj,e]);exact h5.dat
theorem mZ (P:Option Addr) (n cap:Nat) (l:List Ent) (w:World) (hl:eU w P l) (hn:n=l.length) (wY:n<=cap) (Dp:n<=64) (yM: ∀x∈l,x.n<=524288/\x.path.size<=524288/\x.to.size<=524288) (hr:(newM [aC] 0 l).1=0):
  Calls Tryz.prog 12 #[.slice P n cap] w fun e w'=> ∃q,e= .returned (.tuple #[.pointer (some ⟨q,0,none⟩), .int .i64 0, .int .i64 0])/\(∃R vA L,fv w' w.heap.size q R vA L (cV l))/\Below w.heap.size w w':=
 (pU P n cap l w hl hn wY (by omega) yM).mono fun e w' h=>by
  obtain⟨h1,h2⟩:=h;rw[if_neg (by omega),if_neg (fun e=>e hr)]at h1;obtain⟨q,R,vA,L,h3,h4⟩:=h1;exact⟨q,h3,⟨R,vA,L,h4⟩,h2⟩
theorem rnew_bad (P:Option Addr) (n cap:Nat) (l:List Ent) (w:World) (hl:eU w P l) (hn:n=l.length) (wY:n<=cap) (Dp:n<=64) (yM: ∀x∈l,x.n<=524288/\x.path.size<=524288/\x.to.size<=524288) (hr:(newM [aC] 0 l).1≠0):
  Calls Tryz.prog 12 #[.slice P n cap] w fun e w'=> ∃i,e= .returned (.tuple #[.pointer none, .int .i64 (newM [aC] 0 l).1, .int .i64 i])/\Below w.heap.size w w':=
 (pU P n cap l w hl hn wY (by omega) yM).mono fun e w' h=>by
  obtain⟨h1,h2⟩:=h;rw[if_neg (by omega),if_pos hr]at h1;exact⟨_,h1,h2⟩
theorem vnew_err (P:Option Addr) (cap:Nat) (l:List Ent) (w:World) (hl:fU w P l) (wY:l.length<=cap) (Dp:l.length<=64) (hr:(newM [aC] 0 l).1≠0):
  Calls Tryz.prog 37 #[.slice P l.length cap] w fun e w'=> ∃q,e= .returned (.tuple #[.pointer none, .int .i64 (newM [aC] 0 l).1, .int .i64 q])/\Below w.heap.size w w':=by
 refine(pG P l.length cap l w hl rfl wY (by omega)).mono fun e w' h=>?_;unfold dA at h;rw[if_neg (by omega),if_pos hr]at h;exact⟨_,h.1,h.2⟩
def gY (w:World) (o fs a c:Nat) (H:Option Addr) (k ch:Nat):Prop:=w.heap[o]? =some (.cells #[.pointer (some ⟨fs,0,none⟩), .pointer (some ⟨a,0,none⟩), .pointer (some ⟨c,0,none⟩), .slice H k ch] 58 (0,0))
def uY (w:World) (nf:Nat) (l:List Ent) (e:Ending) (w':World):Prop:=
 ∃B o a c fs m S,e= .returned (.tuple #[.pointer (some ⟨o,0,none⟩), .bool true])/\gY w' o fs a c none 0 0/\Hse w' B c a fs m S (cV l) 0 (fresh nf) [] []/\Below w.heap.size w w'/\w.heap.size<=B/\B<=o/\ ¬S o/\o≠m/\o≠c
theorem rQ (P:Option Addr) (n cap nf:Nat) (l:List Ent) (w:World) (wI:In11 w P n cap l) (h1:1<=nf) (h2:nf<=1024) (hr:(newM [aC] 0 l).1=0) (Ah:DB w) (vE:0<w.heap.size):
  Calls Tryz.prog 11 #[.agg #[.slice P n cap, .int .i64 (nf:Int)]] w (uY w nf l):=by
 obtain⟨w0,zR⟩: ∃w0,w0=w.alloc (.cells #[.slice P n cap, .int .i64 (nf:Int)] 24):=⟨_,rfl⟩;have vF:Below w.heap.size w w0:=(by rw[zR];exact vc);have Cj:w0.heap[w.heap.size]? =some (.cells #[.slice P n cap, .int .i64 (nf:Int)] 24 (0,0)):=(by rw[zR];exact ab w _);have wT:=pH P n cap l w0 (wI.ents.below vF) wI.len wI.few wI.small;have wz:=vF.size;have x0:w0.cell? ⟨w.heap.size,0,none⟩=some (.slice P n cap):=aa Cj 0;have Kb:l.length<=64:=(by rw[<-wI.len];exact wI.few);have Rz:=gQ wI.ents.bytes11;have hp1:(1:Int)<=(nf:Int):=(by omega);have hp2:(nf:Int)<=1024:=(by omega);have HTW:=va wT;have vY:=va zR;have wO:=va vF;have Gp:=va Cj;have Es:=va Ah;have MJ:=va Kb;have xQ:=va wI;have HR:=va hr;have WC:=va Rz
 clear wT zR vF Cj Ah wI Kb hr Rz
 go_enter Tryz.func11,Tryz.ntmps11;go_upto_region 1 with(fail);rw[<-vY.out];go_wp2_with (first
  |(go_at_call 40;refine(HTW.out).mono ?_;rintro e w1 ⟨R,cp,rfl,hE,xK,vD⟩;have HE:=va hE;have QW:=va xK;have vJ:=va (wO.out.trans (vD.mono wz));have AA:=va ((vD.block _ (uZ Gp.out).1).trans Gp.out);clear hE xK vD)
  |(go_at_call 37;refine(jy R cp l _ HE.out QW.out MJ.out HR.out).mono ?_;rintro e w2 ⟨fs,rfl,hF,vM⟩;have wg:=vJ.out.size;have xC:=va (vJ.out.trans (vM.mono wg));have AW:=va ((vM.block _ (uZ AA.out).1).trans AA.out);have x2:w2.cell? ⟨w.heap.size,0,none⟩=some (.slice P n cap):=aa AW.out 0;have HF:=va hF;have wm:=xC.out.size;clear hF vM)
  |(go_at_call 12;refine(mZ P n cap l _ (xQ.out.ents.below xC.out) xQ.out.len xQ.out.cap xQ.out.few xQ.out.small HR.out).mono ?_;rintro e w3 ⟨q,rfl,_,vX⟩;have MW:=va vX;have yH:=va (xC.out.trans (vX.mono wm));have AV:=va ((vX.block _ (uZ AW.out).1).trans AW.out);have x3:w3.cell? ⟨w.heap.size,1,none⟩=some (.int .i64 (nf:Int)):=aa AV.out 1;have QV:=va (Es.out.same (yH.out.block 0 vE));have xR:=yH.out.size;have XJ:=MW.out.size;clear vX)
  |(go_at_call 38;refine(lY nf _ h1 h2 QV.out (by omega)).mono ?_;rintro e w4 ⟨a,S,rfl,hP,vZ,hS4⟩;have HP:=va hP;have HS4:=va hS4;have HB34:=va vZ;have AK:=va ((vZ.block _ (uZ AV.out).1).trans AV.out);have x4:w4.cell? ⟨w.heap.size,1,none⟩=some (.int .i64 (nf:Int)):=aa AK.out 1;have AX:=vZ.size;clear hP vZ hS4)
  |(go_at_call 39;refine(qo a fs _ S (fresh nf) HP.out).mono ?_;rintro e w5 ⟨c,m,rfl,hC,zZ,hc5,xf⟩;have HC:=va hC;have HB45:=va zZ;have Lh:=zZ.size;clear hC zZ)
  |fail)
 go_ret2;obtain⟨nb,c2,adf,mpf,hF⟩:=HF.out;have UB:Below w2.heap.size w2 w5:=(MW.out.trans (HB34.out.mono XJ)).trans (HB45.out.mono (by omega));have hse:=nI hF UB HC.out WC.out (fun b e=>by have:=HS4.out b e;omega) (by omega) (by omega) (by omega) h2;have Uy:=(vz w5.heap.size w5).alloc (vd _) (.cells #[.pointer (some ⟨fs,0,none⟩), .pointer (some ⟨a,0,none⟩), .pointer (some ⟨c,0,none⟩), .slice none 0 0] 58);have GM:=hse.home.lts;exact⟨w2.heap.size,w5.heap.size,a,c,fs,m,S,rfl,ab _ _,hse.below Uy,(xC.out.trans (UB.mono wm)).trans (Uy.mono (by omega)),wm,by omega,fun e=>by have:=GM.2.2 _ e;omega,by omega,by omega⟩
theorem fnew11 (N:Int) (w:World) (hN:N<=1024) (Ah:DB w) (vE:0<w.heap.size):
  Calls Tryz.prog 38 #[.int .i64 N] w fun e w'=> ∃v h,e= .returned (.tuple #[.pointer v, .int .i64 h])/\(h=0↔1<=N)/\Below w.heap.size w w':=by
 by_cases h:N<1
 ·exact(tS N w h).mono fun e w' ⟨h1,h2⟩=>⟨_,_,h1,⟨fun e=>absurd e (by decide),fun e=>by omega⟩,h2▸vz _ _⟩
 ·obtain⟨n,rfl⟩: ∃n:Nat,N=(n:Int):=⟨N.toNat,by omega⟩;exact(lY n w (by omega) (by omega) Ah vE).mono fun e w' ⟨a,S,h1,h2,h3,_⟩=>⟨_,_,h1,⟨fun _ =>by omega,fun _ =>rfl⟩,h3⟩
end
