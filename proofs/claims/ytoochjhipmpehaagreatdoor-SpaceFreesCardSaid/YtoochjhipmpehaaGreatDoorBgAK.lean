/- The spaces' laws: a house begun. -/
import Derived.Test.YtoochjhipmpehaaGreatDoorHrEK
import Derived.Test.YtoochjhipmpehaaGreatDoorTw11K
import Derived.Test.YtoochjhipmpehaaGreatDoorWkBK
set_option linter.unusedVariables false
set_option linter.unusedSimpArgs false
set_option maxRecDepth 100000
set_option maxHeartbeats 4000000
namespace Go.Proofs.YtoochjhipmpehaaGreatDoor
section
open Go.RowKit Go.Sort
structure In11 (w:World) (P:Option Addr) (n cap:Nat) (l:List Ent):Prop where
 ents:eY w P l
 len:n=l.length
 few:n<=64
 cap:n<=cap
 small: ∀x∈l,x.n<=524288/\x.path.size<=524288/\x.to.size<=524288
theorem eY.bytes11 {w:World} {P:Option Addr} {l:List Ent} (h:eY w P l): ∀x∈l,∀i,x.dat i<256:=fun x hx=>by
 obtain⟨j,hj,e⟩:=List.mem_iff_getElem.1 hx;obtain⟨b,off,A,c,h1,h2,h3,h4,h5⟩:=h j x (by rw[uQ hj,e]);exact h5.dat
theorem mL (P:Option Addr) (n cap:Nat) (l:List Ent) (w:World) (hl:eY w P l) (hn:n=l.length) (wT:n<=cap) (DF:n<=64) (yd: ∀x∈l,x.n<=524288/\x.path.size<=524288/\x.to.size<=524288) (hr:(newM [aD] 0 l).1=0):
  Calls Tryz.prog 12 #[.slice P n cap] w fun e w'=> ∃q,e= .returned (.tuple #[.pointer (some ⟨q,0,none⟩), .int .i64 0, .int .i64 0])/\(∃R vk L,fy w' w.heap.size q R vk L (dz l))/\Below w.heap.size w w':=
 (pM P n cap l w hl hn wT (by omega) yd).mono fun e w' h=>by
  obtain⟨h1,h2⟩:=h;rw[if_neg (by omega),if_neg (fun e=>e hr)]at h1;obtain⟨q,R,vk,L,h3,h4⟩:=h1;exact⟨q,h3,⟨R,vk,L,h4⟩,h2⟩
theorem rnew_bad (P:Option Addr) (n cap:Nat) (l:List Ent) (w:World) (hl:eY w P l) (hn:n=l.length) (wT:n<=cap) (DF:n<=64) (yd: ∀x∈l,x.n<=524288/\x.path.size<=524288/\x.to.size<=524288) (hr:(newM [aD] 0 l).1≠0):
  Calls Tryz.prog 12 #[.slice P n cap] w fun e w'=> ∃i,e= .returned (.tuple #[.pointer none, .int .i64 (newM [aD] 0 l).1, .int .i64 i])/\Below w.heap.size w w':=
 (pM P n cap l w hl hn wT (by omega) yd).mono fun e w' h=>by
  obtain⟨h1,h2⟩:=h;rw[if_neg (by omega),if_pos hr]at h1;exact⟨_,h1,h2⟩
theorem vnew_err (P:Option Addr) (cap:Nat) (l:List Ent) (w:World) (hl:fV w P l) (wT:l.length<=cap) (DF:l.length<=64) (hr:(newM [aD] 0 l).1≠0):
  Calls Tryz.prog 37 #[.slice P l.length cap] w fun e w'=> ∃q,e= .returned (.tuple #[.pointer none, .int .i64 (newM [aD] 0 l).1, .int .i64 q])/\Below w.heap.size w w':=by
 refine(py P l.length cap l w hl rfl wT (by omega)).mono fun e w' h=>?_;unfold dB at h;rw[if_neg (by omega),if_pos hr]at h;exact⟨_,h.1,h.2⟩
def fv (w:World) (o fs a c:Nat) (H:Option Addr) (k ch:Nat):Prop:=w.heap[o]? =some (.cells #[.pointer (some ⟨fs,0,none⟩), .pointer (some ⟨a,0,none⟩), .pointer (some ⟨c,0,none⟩), .slice H k ch] 58 (0,0))
def uI (w:World) (nf:Nat) (l:List Ent) (e:Ending) (w':World):Prop:=
 ∃B o a c fs m S,e= .returned (.tuple #[.pointer (some ⟨o,0,none⟩), .bool true])/\fv w' o fs a c none 0 0/\Hse w' B c a fs m S (dz l) 0 (fresh nf) [] []/\Below w.heap.size w w'/\w.heap.size<=B/\B<=o/\ ¬S o/\o≠m/\o≠c
theorem rF (P:Option Addr) (n cap nf:Nat) (l:List Ent) (w:World) (wz:In11 w P n cap l) (h1:1<=nf) (h2:nf<=1024) (hr:(newM [aD] 0 l).1=0) (Au:DB w) (vo:0<w.heap.size):
  Calls Tryz.prog 11 #[.agg #[.slice P n cap, .int .i64 (nf:Int)]] w (uI w nf l):=by
 obtain⟨w0,Ae⟩: ∃w0,w0=w.alloc (.cells #[.slice P n cap, .int .i64 (nf:Int)] 24):=⟨_,rfl⟩;have vp:Below w.heap.size w w0:=(by rw[Ae];exact uM);have vO:w0.heap[w.heap.size]? =some (.cells #[.slice P n cap, .int .i64 (nf:Int)] 24 (0,0)):=(by rw[Ae];exact ab w _);have vT:=pz P n cap l w0 (wz.ents.below vp) wz.len wz.few wz.small;have wb:=vp.size;have x0:w0.cell? ⟨w.heap.size,0,none⟩=some (.slice P n cap):=aa vO 0;have Kq:l.length<=64:=(by rw[<-wz.len];exact wz.few);have Ry:=gP wz.ents.bytes11;have hp1:(1:Int)<=(nf:Int):=(by omega);have hp2:(nf:Int)<=1024:=(by omega);have Zy:=uK vT;have vR:=uK Ae;have wI:=uK vp;have GC:=uK vO;have EE:=uK Au;have MQ:=uK Kq;have xU:=uK wz;have HR:=uK hr;have VZ:=uK Ry
 clear vT Ae vp vO Au wz Kq hr Ry
 go_enter Tryz.func11,Tryz.ntmps11;go_upto_region 1 with(fail);rw[<-vR.out];go_wp2_with (first
  |(go_at_call 40;refine(Zy.out).mono ?_;rintro e w1 ⟨R,cp,rfl,hE,xN,vl⟩;have HE:=uK hE;have QT:=uK xN;have vu:=uK (wI.out.trans (vl.mono wb));have AL:=uK ((vl.block _ (uJ GC.out).1).trans GC.out);clear hE xN vl)
  |(go_at_call 37;refine(jo R cp l _ HE.out QT.out MQ.out HR.out).mono ?_;rintro e w2 ⟨fs,rfl,hF,vs⟩;have vz:=vu.out.size;have xi:=uK (vu.out.trans (vs.mono vz));have Bf:=uK ((vs.block _ (uJ AL.out).1).trans AL.out);have x2:w2.cell? ⟨w.heap.size,0,none⟩=some (.slice P n cap):=aa Bf.out 0;have HF:=uK hF;have vS:=xi.out.size;clear hF vs)
  |(go_at_call 12;refine(mL P n cap l _ (xU.out.ents.below xi.out) xU.out.len xU.out.cap xU.out.few xU.out.small HR.out).mono ?_;rintro e w3 ⟨q,rfl,_,vx⟩;have Wd:=uK vx;have yT:=uK (xi.out.trans (vx.mono vS));have Be:=uK ((vx.block _ (uJ Bf.out).1).trans Bf.out);have x3:w3.cell? ⟨w.heap.size,1,none⟩=some (.int .i64 (nf:Int)):=aa Be.out 1;have QS:=uK (EE.out.same (yT.out.block 0 vo));have xI:=yT.out.size;have WZ:=Wd.out.size;clear vx)
  |(go_at_call 38;refine(lK nf _ h1 h2 QS.out (by omega)).mono ?_;rintro e w4 ⟨a,S,rfl,hP,vN,hS4⟩;have HP:=uK hP;have ZA:=uK hS4;have HB34:=uK vN;have AS:=uK ((vN.block _ (uJ Be.out).1).trans Be.out);have x4:w4.cell? ⟨w.heap.size,1,none⟩=some (.int .i64 (nf:Int)):=aa AS.out 1;have AU:=vN.size;clear hP vN hS4)
  |(go_at_call 39;refine(qg a fs _ S (fresh nf) HP.out).mono ?_;rintro e w5 ⟨c,m,rfl,hC,Ao,hc5,wy⟩;have HC:=uK hC;have HB45:=uK Ao;have Lw:=Ao.size;clear hC Ao)
  |fail)
 go_ret2;obtain⟨nb,c2,adf,mpf,hF⟩:=HF.out;have Uh:Below w2.heap.size w2 w5:=(Wd.out.trans (HB34.out.mono WZ)).trans (HB45.out.mono (by omega));have hse:=np hF Uh HC.out VZ.out (fun b e=>by have:=ZA.out b e;omega) (by omega) (by omega) (by omega) h2;have Uf:=(vj w5.heap.size w5).alloc (uN _) (.cells #[.pointer (some ⟨fs,0,none⟩), .pointer (some ⟨a,0,none⟩), .pointer (some ⟨c,0,none⟩), .slice none 0 0] 58);have Hl:=hse.home.lts;exact⟨w2.heap.size,w5.heap.size,a,c,fs,m,S,rfl,ab _ _,hse.below Uf,(xi.out.trans (Uh.mono vS)).trans (Uf.mono (by omega)),vS,by omega,fun e=>by have:=Hl.2.2 _ e;omega,by omega,by omega⟩
theorem fnew11 (N:Int) (w:World) (hN:N<=1024) (Au:DB w) (vo:0<w.heap.size):
  Calls Tryz.prog 38 #[.int .i64 N] w fun e w'=> ∃v h,e= .returned (.tuple #[.pointer v, .int .i64 h])/\(h=0↔1<=N)/\Below w.heap.size w w':=by
 by_cases h:N<1
 ·exact(tC N w h).mono fun e w' ⟨h1,h2⟩=>⟨_,_,h1,⟨fun e=>absurd e (by decide),fun e=>by omega⟩,h2▸vj _ _⟩
 ·obtain⟨n,rfl⟩: ∃n:Nat,N=(n:Int):=⟨N.toNat,by omega⟩;exact(lK n w (by omega) (by omega) Au vo).mono fun e w' ⟨a,S,h1,h2,h3,_⟩=>⟨_,_,h1,⟨fun _ =>by omega,fun _ =>rfl⟩,h3⟩
end
