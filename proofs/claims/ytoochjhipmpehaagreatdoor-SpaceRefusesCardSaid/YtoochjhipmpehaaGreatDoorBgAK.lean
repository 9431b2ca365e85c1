/- The spaces' laws: a house begun. -/
import Derived.Test.YtoochjhipmpehaaGreatDoorHrEK
import Derived.Test.YtoochjhipmpehaaGreatDoorTw11K
import Derived.Test.YtoochjhipmpehaaGreatDoorWkBK
set_option linter.unusedVariables false
set_option linter.unusedSimpArgs false
set_option maxRecDepth 100000
set_option maxHeartbeats 4000000
namespace Go.Proofs.YtoochjhipmpehaaGreatDoor
section
open Go.RowKit Go.Sort
structure In11 (w:World) (P:Option Addr) (n cap:Nat) (l:List Ent):Prop where
 ents:eM w P l
 len:n=l.length
 few:n<=64
 cap:n<=cap
 small: ∀x∈l,x.n<=524288/\x.path.size<=524288/\x.to.size<=524288
theorem eM.bytes11 {w:World} {P:Option Addr} {l:List Ent} (h:eM w P l): ∀x∈l,∀i,x.dat i<256:=fun x hx=>by
 obtain⟨j,hj,e⟩:=List.mem_iff_getElem.1 hx;obtain⟨b,off,A,c,h1,h2,h3,h4,h5⟩:=h j x (by rw[uN hj,e]);exact h5.dat
theorem mO (P:Option Addr) (n cap:Nat) (l:List Ent) (w:World) (hl:eM w P l) (hn:n=l.length) (wB:n<=cap) (CP:n<=64) (yC: ∀x∈l,x.n<=524288/\x.path.size<=524288/\x.to.size<=524288) (hr:(newM [aB] 0 l).1=0):
  Calls Tryz.prog 12 #[.slice P n cap] w fun e w'=> ∃q,e= .returned (.tuple #[.pointer (some ⟨q,0,none⟩), .int .i64 0, .int .i64 0])/\(∃R vh L,fj w' w.heap.size q R vh L (dr l))/\Below w.heap.size w w':=
 (pG P n cap l w hl hn wB (by omega) yC).mono fun e w' h=>by
  obtain⟨h1,h2⟩:=h;rw[if_neg (by omega),if_neg (fun e=>e hr)]at h1;obtain⟨q,R,vh,L,h3,h4⟩:=h1;exact⟨q,h3,⟨R,vh,L,h4⟩,h2⟩
theorem rnew_bad (P:Option Addr) (n cap:Nat) (l:List Ent) (w:World) (hl:eM w P l) (hn:n=l.length) (wB:n<=cap) (CP:n<=64) (yC: ∀x∈l,x.n<=524288/\x.path.size<=524288/\x.to.size<=524288) (hr:(newM [aB] 0 l).1≠0):
  Calls Tryz.prog 12 #[.slice P n cap] w fun e w'=> ∃i,e= .returned (.tuple #[.pointer none, .int .i64 (newM [aB] 0 l).1, .int .i64 i])/\Below w.heap.size w w':=
 (pG P n cap l w hl hn wB (by omega) yC).mono fun e w' h=>by
  obtain⟨h1,h2⟩:=h;rw[if_neg (by omega),if_pos hr]at h1;exact⟨_,h1,h2⟩
theorem vnew_err (P:Option Addr) (cap:Nat) (l:List Ent) (w:World) (hl:fQ w P l) (wB:l.length<=cap) (CP:l.length<=64) (hr:(newM [aB] 0 l).1≠0):
  Calls Tryz.prog 37 #[.slice P l.length cap] w fun e w'=> ∃q,e= .returned (.tuple #[.pointer none, .int .i64 (newM [aB] 0 l).1, .int .i64 q])/\Below w.heap.size w w':=by
 refine(pq P l.length cap l w hl rfl wB (by omega)).mono fun e w' h=>?_;unfold dv at h;rw[if_neg (by omega),if_pos hr]at h;exact⟨_,h.1,h.2⟩
def gT (w:World) (o fs a c:Nat) (H:Option Addr) (k ch:Nat):Prop:=w.heap[o]? =some (.cells #[.pointer (some ⟨fs,0,none⟩), .pointer (some ⟨a,0,none⟩), .pointer (some ⟨c,0,none⟩), .slice H k ch] 58 (0,0))
def uF (w:World) (nf:Nat) (l:List Ent) (e:Ending) (w':World):Prop:=
 ∃B o a c fs m S,e= .returned (.tuple #[.pointer (some ⟨o,0,none⟩), .bool true])/\gT w' o fs a c none 0 0/\Hse w' B c a fs m S (dr l) 0 (fresh nf) [] []/\Below w.heap.size w w'/\w.heap.size<=B/\B<=o/\ ¬S o/\o≠m/\o≠c
theorem rE (P:Option Addr) (n cap nf:Nat) (l:List Ent) (w:World) (vZ:In11 w P n cap l) (h1:1<=nf) (h2:nf<=1024) (hr:(newM [aB] 0 l).1=0) (zE:DB w) (vl:0<w.heap.size):
  Calls Tryz.prog 11 #[.agg #[.slice P n cap, .int .i64 (nf:Int)]] w (uF w nf l):=by
 obtain⟨w0,zr⟩: ∃w0,w0=w.alloc (.cells #[.slice P n cap, .int .i64 (nf:Int)] 24):=⟨_,rfl⟩;have vm:Below w.heap.size w w0:=(by rw[zr];exact uJ);have BI:w0.heap[w.heap.size]? =some (.cells #[.slice P n cap, .int .i64 (nf:Int)] 24 (0,0)):=(by rw[zr];exact ab w _);have wv:=pv P n cap l w0 (vZ.ents.below vm) vZ.len vZ.few vZ.small;have vQ:=vm.size;have x0:w0.cell? ⟨w.heap.size,0,none⟩=some (.slice P n cap):=aa BI 0;have Jv:l.length<=64:=(by rw[<-vZ.len];exact vZ.few);have QU:=gL vZ.ents.bytes11;have hp1:(1:Int)<=(nf:Int):=(by omega);have hp2:(nf:Int)<=1024:=(by omega);have Zk:=uH wv;have vF:=uH zr;have wj:=uH vm;have FH:=uH BI;have DR:=uH zE;have Mf:=uH Jv;have xp:=uH vZ;have HR:=uH hr;have VF:=uH QU
 clear wv zr vm BI zE vZ Jv hr QU
 go_enter Tryz.func11,Tryz.ntmps11;go_upto_region 1 with(fail);rw[<-vF.out];go_wp2_with (first
  |(go_at_call 40;refine(Zk.out).mono ?_;rintro e w1 ⟨R,cp,rfl,hE,xl,vk⟩;have HE:=uH hE;have Qy:=uH xl;have vq:=uH (wj.out.trans (vk.mono vQ));have zX:=uH ((vk.block _ (uG FH.out).1).trans FH.out);clear hE xl vk)
  |(go_at_call 37;refine(jn R cp l _ HE.out Qy.out Mf.out HR.out).mono ?_;rintro e w2 ⟨fs,rfl,hF,vs⟩;have vI:=vq.out.size;have xd:=uH (vq.out.trans (vs.mono vI));have At:=uH ((vs.block _ (uG zX.out).1).trans zX.out);have x2:w2.cell? ⟨w.heap.size,0,none⟩=some (.slice P n cap):=aa At.out 0;have HF:=uH hF;have vO:=xd.out.size;clear hF vs)
  |(go_at_call 12;refine(mO P n cap l _ (xp.out.ents.below xd.out) xp.out.len xp.out.cap xp.out.few xp.out.small HR.out).mono ?_;rintro e w3 ⟨q,rfl,_,vG⟩;have VJ:=uH vG;have yh:=uH (xd.out.trans (vG.mono vO));have As:=uH ((vG.block _ (uG At.out).1).trans At.out);have x3:w3.cell? ⟨w.heap.size,1,none⟩=some (.int .i64 (nf:Int)):=aa As.out 1;have Qx:=uH (DR.out.same (yh.out.block 0 vl));have xq:=yh.out.size;have WI:=VJ.out.size;clear vG)
  |(go_at_call 38;refine(lP nf _ h1 h2 Qx.out (by omega)).mono ?_;rintro e w4 ⟨a,S,rfl,hP,vD,hS4⟩;have HP:=uH hP;have HS4:=uH hS4;have HB34:=uH vD;have Ae:=uH ((vD.block _ (uG As.out).1).trans As.out);have x4:w4.cell? ⟨w.heap.size,1,none⟩=some (.int .i64 (nf:Int)):=aa Ae.out 1;have AN:=vD.size;clear hP vD hS4)
  |(go_at_call 39;refine(pY a fs _ S (fresh nf) HP.out).mono ?_;rintro e w5 ⟨c,m,rfl,hC,zQ,hc5,wH⟩;have HC:=uH hC;have HB45:=uH zQ;have It:=zQ.size;clear hC zQ)
  |fail)
 go_ret2;obtain⟨nb,c2,adf,mpf,hF⟩:=HF.out;have TL:Below w2.heap.size w2 w5:=(VJ.out.trans (HB34.out.mono WI)).trans (HB45.out.mono (by omega));have hse:=nt hF TL HC.out VF.out (fun b e=>by have:=HS4.out b e;omega) (by omega) (by omega) (by omega) h2;have Fz:=(vg w5.heap.size w5).alloc (uK _) (.cells #[.pointer (some ⟨fs,0,none⟩), .pointer (some ⟨a,0,none⟩), .pointer (some ⟨c,0,none⟩), .slice none 0 0] 58);have Gi:=hse.home.lts;exact⟨w2.heap.size,w5.heap.size,a,c,fs,m,S,rfl,ab _ _,hse.below Fz,(xd.out.trans (TL.mono vO)).trans (Fz.mono (by omega)),vO,by omega,fun e=>by have:=Gi.2.2 _ e;omega,by omega,by omega⟩
theorem fnew11 (N:Int) (w:World) (hN:N<=1024) (zE:DB w) (vl:0<w.heap.size):
  Calls Tryz.prog 38 #[.int .i64 N] w fun e w'=> ∃v h,e= .returned (.tuple #[.pointer v, .int .i64 h])/\(h=0↔1<=N)/\Below w.heap.size w w':=by
 by_cases h:N<1
 ·exact(tB N w h).mono fun e w' ⟨h1,h2⟩=>⟨_,_,h1,⟨fun e=>absurd e (by decide),fun e=>by omega⟩,h2▸vg _ _⟩
 ·obtain⟨n,rfl⟩: ∃n:Nat,N=(n:Int):=⟨N.toNat,by omega⟩;exact(lP n w (by omega) (by omega) zE vl).mono fun e w' ⟨a,S,h1,h2,h3,_⟩=>⟨_,_,h1,⟨fun _ =>by omega,fun _ =>rfl⟩,h3⟩
end
