/- The spaces' laws: a house begun. -/
import Derived.Test.YtoochjhipmpehaaGreatDoorDrK
import Derived.Test.YtoochjhipmpehaaGreatDoorTw11K
import Derived.Test.YtoochjhipmpehaaGreatDoorWbK
set_option linter.unusedVariables false
set_option linter.unusedSimpArgs false
set_option maxRecDepth 100000
set_option maxHeartbeats 4000000
namespace Go.Proofs.YtoochjhipmpehaaGreatDoor
section
open Go.RowKit Go.Sort
structure In11 (w:World) (P:Option Addr) (n cap:Nat) (l:List Ent):Prop where
 ents:eS w P l
 len:n=l.length
 few:n<=64
 cap:n<=cap
 small: ∀x∈l,x.n<=524288/\x.path.size<=524288/\x.to.size<=524288
theorem eS.bytes11 {w:World} {P:Option Addr} {l:List Ent} (h:eS w P l): ∀x∈l,∀i,x.dat i<256:=fun x hx=>by
 obtain⟨j,hj,e⟩:=List.mem_iff_getElem.1 hx;obtain⟨b,off,A,c,h1,h2,h3,h4,h5⟩:=h j x (by rw[vv hj,e]);exact h5.dat
theorem mV (P:Option Addr) (n cap:Nat) (l:List Ent) (w:World) (hl:eS w P l) (hn:n=l.length) (xn:n<=cap) (DP:n<=64) (yS: ∀x∈l,x.n<=524288/\x.path.size<=524288/\x.to.size<=524288) (hr:(newM [aB] 0 l).1=0):
  Calls Tryz.prog 12 #[.slice P n cap] w fun e w'=> ∃q,e= .returned (.tuple #[.pointer (some ⟨q,0,none⟩), .int .i64 0, .int .i64 0])/\(∃R vP L,fy w' w.heap.size q R vP L (cI l))/\Below w.heap.size w w':=
 (pM P n cap l w hl hn xn (by omega) yS).mono fun e w' h=>by
  obtain⟨h1,h2⟩:=h;rw[if_neg (by omega),if_neg (fun e=>e hr)]at h1;obtain⟨q,R,vP,L,h3,h4⟩:=h1;exact⟨q,h3,⟨R,vP,L,h4⟩,h2⟩
theorem rnew_bad (P:Option Addr) (n cap:Nat) (l:List Ent) (w:World) (hl:eS w P l) (hn:n=l.length) (xn:n<=cap) (DP:n<=64) (yS: ∀x∈l,x.n<=524288/\x.path.size<=524288/\x.to.size<=524288) (hr:(newM [aB] 0 l).1≠0):
  Calls Tryz.prog 12 #[.slice P n cap] w fun e w'=> ∃i,e= .returned (.tuple #[.pointer none, .int .i64 (newM [aB] 0 l).1, .int .i64 i])/\Below w.heap.size w w':=
 (pM P n cap l w hl hn xn (by omega) yS).mono fun e w' h=>by
  obtain⟨h1,h2⟩:=h;rw[if_neg (by omega),if_pos hr]at h1;exact⟨_,h1,h2⟩
theorem vnew_err (P:Option Addr) (cap:Nat) (l:List Ent) (w:World) (hl:fW w P l) (xn:l.length<=cap) (DP:l.length<=64) (hr:(newM [aB] 0 l).1≠0):
  Calls Tryz.prog 37 #[.slice P l.length cap] w fun e w'=> ∃q,e= .returned (.tuple #[.pointer none, .int .i64 (newM [aB] 0 l).1, .int .i64 q])/\Below w.heap.size w w':=by
 refine(py P l.length cap l w hl rfl xn (by omega)).mono fun e w' h=>?_;unfold dx at h;rw[if_neg (by omega),if_pos hr]at h;exact⟨_,h.1,h.2⟩
def gW (w:World) (o fs a c:Nat) (H:Option Addr) (k ch:Nat):Prop:=w.heap[o]? =some (.cells #[.pointer (some ⟨fs,0,none⟩), .pointer (some ⟨a,0,none⟩), .pointer (some ⟨c,0,none⟩), .slice H k ch] 58 (0,0))
def vn (w:World) (nf:Nat) (l:List Ent) (e:Ending) (w':World):Prop:=
 ∃B o a c fs m S,e= .returned (.tuple #[.pointer (some ⟨o,0,none⟩), .bool true])/\gW w' o fs a c none 0 0/\Hse w' B c a fs m S (cI l) 0 (fresh nf) [] []/\Below w.heap.size w w'/\w.heap.size<=B/\B<=o/\ ¬S o/\o≠m/\o≠c
theorem rX (P:Option Addr) (n cap nf:Nat) (l:List Ent) (w:World) (wX:In11 w P n cap l) (h1:1<=nf) (h2:nf<=1024) (hr:(newM [aB] 0 l).1=0) (Ay:DB w) (vT:0<w.heap.size):
  Calls Tryz.prog 11 #[.agg #[.slice P n cap, .int .i64 (nf:Int)]] w (vn w nf l):=by
 obtain⟨w0,Ai⟩: ∃w0,w0=w.alloc (.cells #[.slice P n cap, .int .i64 (nf:Int)] 24):=⟨_,rfl⟩;have vU:Below w.heap.size w w0:=(by rw[Ai];exact vr);have CA:w0.heap[w.heap.size]? =some (.cells #[.slice P n cap, .int .i64 (nf:Int)] 24 (0,0)):=(by rw[Ai];exact ab w _);have xf:=pz P n cap l w0 (wX.ents.below vU) wX.len wX.few wX.small;have wM:=vU.size;have x0:w0.cell? ⟨w.heap.size,0,none⟩=some (.slice P n cap):=aa CA 0;have Kl:l.length<=64:=(by rw[<-wX.len];exact wX.few);have RQ:=gP wX.ents.bytes11;have hp1:(1:Int)<=(nf:Int):=(by omega);have hp2:(nf:Int)<=1024:=(by omega);have HTW:=vp xf;have wD:=vp Ai;have xe:=vp vU;have GF:=vp CA;have EK:=vp Ay;have MO:=vp Kl;have xZ:=vp wX;have HR:=vp hr;have WR:=vp RQ
 clear xf Ai vU CA Ay wX Kl hr RQ
 go_enter Tryz.func11,Tryz.ntmps11;go_upto_region 1 with(fail);rw[<-wD.out];go_wp2_with (first
  |(go_at_call 40;refine(HTW.out).mono ?_;rintro e w1 ⟨R,cp,rfl,hE,xY,vS⟩;have HE:=vp hE;have Ro:=vp xY;have vY:=vp (xe.out.trans (vS.mono wM));have AS:=vp ((vS.block _ (vo GF.out).1).trans GF.out);clear hE xY vS)
  |(go_at_call 37;refine(jr R cp l _ HE.out Ro.out MO.out HR.out).mono ?_;rintro e w2 ⟨fs,rfl,hF,wb⟩;have wF:=vY.out.size;have xF:=vp (vY.out.trans (wb.mono wF));have Bn:=vp ((wb.block _ (vo AS.out).1).trans AS.out);have x2:w2.cell? ⟨w.heap.size,0,none⟩=some (.slice P n cap):=aa Bn.out 0;have HF:=vp hF;have wL:=xF.out.size;clear hF wb)
  |(go_at_call 12;refine(mV P n cap l _ (xZ.out.ents.below xF.out) xZ.out.len xZ.out.cap xZ.out.few xZ.out.small HR.out).mono ?_;rintro e w3 ⟨q,rfl,_,wG⟩;have WU:=vp wG;have zm:=vp (xF.out.trans (wG.mono wL));have Bm:=vp ((wG.block _ (vo Bn.out).1).trans Bn.out);have x3:w3.cell? ⟨w.heap.size,1,none⟩=some (.int .i64 (nf:Int)):=aa Bm.out 1;have Rn:=vp (EK.out.same (zm.out.block 0 vT));have yk:=zm.out.size;have XS:=WU.out.size;clear wG)
  |(go_at_call 38;refine(lT nf _ h1 h2 Rn.out (by omega)).mono ?_;rintro e w4 ⟨a,S,rfl,hP,wA,hS4⟩;have HP:=vp hP;have HS4:=vp hS4;have HB34:=vp wA;have AY:=vp ((wA.block _ (vo Bm.out).1).trans Bm.out);have x4:w4.cell? ⟨w.heap.size,1,none⟩=some (.int .i64 (nf:Int)):=aa AY.out 1;have AZ:=wA.size;clear hP wA hS4)
  |(go_at_call 39;refine(qj a fs _ S (fresh nf) HP.out).mono ?_;rintro e w5 ⟨c,m,rfl,hC,zi,hc5,xu⟩;have HC:=vp hC;have HB45:=vp zi;have Jm:=zi.size;clear hC zi)
  |fail)
 go_ret2;obtain⟨nb,c2,adf,mpf,hF⟩:=HF.out;have UL:Below w2.heap.size w2 w5:=(WU.out.trans (HB34.out.mono XS)).trans (HB45.out.mono (by omega));have hse:=nA hF UL HC.out WR.out (fun b e=>by have:=HS4.out b e;omega) (by omega) (by omega) (by omega) h2;have UJ:=(vO w5.heap.size w5).alloc (vs _) (.cells #[.pointer (some ⟨fs,0,none⟩), .pointer (some ⟨a,0,none⟩), .pointer (some ⟨c,0,none⟩), .slice none 0 0] 58);have Fm:=hse.home.lts;exact⟨w2.heap.size,w5.heap.size,a,c,fs,m,S,rfl,ab _ _,hse.below UJ,(xF.out.trans (UL.mono wL)).trans (UJ.mono (by omega)),wL,by omega,fun e=>by have:=Fm.2.2 _ e;omega,by omega,by omega⟩
theorem fnew11 (N:Int) (w:World) (hN:N<=1024) (Ay:DB w) (vT:0<w.heap.size):
  Calls Tryz.prog 38 #[.int .i64 N] w fun e w'=> ∃v h,e= .returned (.tuple #[.pointer v, .int .i64 h])/\(h=0↔1<=N)/\Below w.heap.size w w':=by
 by_cases h:N<1
 ·exact(uf N w h).mono fun e w' ⟨h1,h2⟩=>⟨_,_,h1,⟨fun e=>absurd e (by decide),fun e=>by omega⟩,h2▸vO _ _⟩
 ·obtain⟨n,rfl⟩: ∃n:Nat,N=(n:Int):=⟨N.toNat,by omega⟩;exact(lT n w (by omega) (by omega) Ay vT).mono fun e w' ⟨a,S,h1,h2,h3,_⟩=>⟨_,_,h1,⟨fun _ =>by omega,fun _ =>rfl⟩,h3⟩
end
