/- The spaces' laws: a house begun. -/
import Derived.Test.YtoochjhipmpehaaGreatDoorAbK
import Derived.Test.YtoochjhipmpehaaGreatDoorHrEK
import Derived.Test.YtoochjhipmpehaaGreatDoorTw11K
import Derived.Test.YtoochjhipmpehaaGreatDoorWkBK
set_option linter.unusedVariables false
set_option linter.unusedSimpArgs false
set_option maxRecDepth 100000
set_option maxHeartbeats 4000000
namespace Go.Proofs.YtoochjhipmpehaaGreatDoor
section
open Go.RowKit Go.Sort
structure In11 (w:World) (P:Option Addr) (n cap:Nat) (l:List Ent):Prop where
 ents:EntsIn w P l
 len:n=l.length
 few:n≤64
 cap:n≤cap
 small: ∀x∈l,x.n≤524288∧x.path.size≤524288∧x.to.size≤524288
theorem EntsIn.bytes11 {w:World} {P:Option Addr} {l:List Ent} (h:EntsIn w P l): ∀x∈l,∀i,x.dat i<256:=fun x hx=>by
 obtain⟨j,hj,e⟩:=List.mem_iff_getElem.1 hx
 obtain⟨b,off,A,c,h1,h2,h3,h4,h5⟩:=h j x (by rw[List.getElem?_eq_getElem hj,e])
 exact h5.dat
theorem rnew_good (P:Option Addr) (n cap:Nat) (l:List Ent) (w:World) (hl:EntsIn w P l) (hn:n=l.length) (hcap:n≤cap) (h64:n≤64) (hsm: ∀x∈l,x.n≤524288∧x.path.size≤524288∧x.to.size≤524288) (hr:(newM [rootNd] 0 l).1=0):
  Calls Tryz.prog 12 #[.slice P n cap] w fun e w'=> ∃q,e= .returned (.tuple #[.pointer (some ⟨q,0,none⟩), .int .i64 0, .int .i64 0])∧(∃R cap' L,DocFs w' w.heap.size q R cap' L (filesOf l))∧Below w.heap.size w w':=
 (rnew_any P n cap l w hl hn hcap (by omega) hsm).mono fun e w' h=>by
  obtain⟨h1,h2⟩:=h
  rw[if_neg (by omega),if_neg (fun e=>e hr)]at h1
  obtain⟨q,R,cap',L,h3,h4⟩:=h1
  exact⟨q,h3,⟨R,cap',L,h4⟩,h2⟩
def HouseSelf (w:World) (o fs a c:Nat) (H:Option Addr) (k ch:Nat):Prop:=w.heap[o]? =some (.cells #[.pointer (some ⟨fs,0,none⟩), .pointer (some ⟨a,0,none⟩), .pointer (some ⟨c,0,none⟩), .slice H k ch] 58 (0,0))
def BegunPost (w:World) (nf:Nat) (l:List Ent) (e:Ending) (w':World):Prop:=
 ∃B o a c fs m S,e= .returned (.tuple #[.pointer (some ⟨o,0,none⟩), .bool true])∧HouseSelf w' o fs a c none 0 0∧Hse w' B c a fs m S (filesOf l) 0 (fresh nf) [] []∧Below w.heap.size w w'∧w.heap.size≤B∧B≤o∧ ¬S o∧o≠m∧o≠c
theorem begun_good (P:Option Addr) (n cap nf:Nat) (l:List Ent) (w:World) (hin:In11 w P n cap l) (h1:1≤nf) (h2:nf≤1024) (hr:(newM [rootNd] 0 l).1=0) (hdb:DB w) (hw0:0<w.heap.size):
  Calls Tryz.prog 11 #[.agg #[.slice P n cap, .int .i64 (nf:Int)]] w (BegunPost w nf l):=by
 obtain⟨w0,hw0'⟩: ∃w0,w0=w.alloc (.cells #[.slice P n cap, .int .i64 (nf:Int)] 24):=⟨_,rfl⟩
 have hb0:Below w.heap.size w w0:=by rw[hw0'];exact(Below.refl _ _).alloc (Nat.le_refl _) _
 have hX0:w0.heap[w.heap.size]? =some (.cells #[.slice P n cap, .int .i64 (nf:Int)] 24 (0,0)):=by rw[hw0'];exact ab w _
 have htw:=tw11_any P n cap l w0 (hin.ents.below hb0) hin.len hin.few hin.small
 have hz0:=hb0.size
 have x0:w0.cell? ⟨w.heap.size,0,none⟩=some (.slice P n cap):=aa hX0 0
 have hl64:l.length≤64:=by rw[←hin.len];exact hin.few
 have hby:=filesOf_bytes hin.ents.bytes11
 have hp1:(1:Int)≤(nf:Int):=by omega
 have hp2:(nf:Int)≤1024:=by omega
 have HTW:=ae htw
 have HW0:=ae hw0'
 have HB0:=ae hb0
 have HX0:=ae hX0
 have HDB:=ae hdb
 have HL64:=ae hl64
 have HIN:=ae hin
 have HR:=ae hr
 have HBY:=ae hby
 clear htw hw0' hb0 hX0 hdb hin hl64 hr hby
 go_enter Tryz.func11,Tryz.ntmps11
 go_upto_region 1 with(fail)
 rw[←HW0.out]
 go_wp2_with (first
  |(go_at_call 40;refine(HTW.out).mono ?_;rintro e w1 ⟨R,cp,rfl,hE,hcp,hb1⟩;have HE:=ae hE;have HCP:=ae hcp;have HB1:=ae (HB0.out.trans (hb1.mono hz0));have HX1:=ae ((hb1.block _ (ac HX0.out).1).trans HX0.out);clear hE hcp hb1)
  |(go_at_call 37;refine(vnew_good R cp l _ HE.out HCP.out HL64.out HR.out).mono ?_;rintro e w2 ⟨fs,rfl,hF,hb2⟩;have hz1:=HB1.out.size;have HB2:=ae (HB1.out.trans (hb2.mono hz1));have HX2:=ae ((hb2.block _ (ac HX1.out).1).trans HX1.out);have x2:w2.cell? ⟨w.heap.size,0,none⟩=some (.slice P n cap):=aa HX2.out 0;have HF:=ae hF;have hz2:=HB2.out.size;clear hF hb2)
  |(go_at_call 12;refine(rnew_good P n cap l _ (HIN.out.ents.below HB2.out) HIN.out.len HIN.out.cap HIN.out.few HIN.out.small HR.out).mono ?_;rintro e w3 ⟨q,rfl,_,hb3⟩;have HB23:=ae hb3;have HB3:=ae (HB2.out.trans (hb3.mono hz2));have HX3:=ae ((hb3.block _ (ac HX2.out).1).trans HX2.out);have x3:w3.cell? ⟨w.heap.size,1,none⟩=some (.int .i64 (nf:Int)):=aa HX3.out 1;have HDB3:=ae (HDB.out.same (HB3.out.block 0 hw0));have hz3:=HB3.out.size;have hz23:=HB23.out.size;clear hb3)
  |(go_at_call 38;refine(fnew_any nf _ h1 h2 HDB3.out (by omega)).mono ?_;rintro e w4 ⟨a,S,rfl,hP,hb4,hS4⟩;have HP:=ae hP;have HS4:=ae hS4;have HB34:=ae hb4;have HX4:=ae ((hb4.block _ (ac HX3.out).1).trans HX3.out);have x4:w4.cell? ⟨w.heap.size,1,none⟩=some (.int .i64 (nf:Int)):=aa HX4.out 1;have hz4:=hb4.size;clear hP hb4 hS4)
  |(go_at_call 39;refine(cnew_any a fs _ S (fresh nf) HP.out).mono ?_;rintro e w5 ⟨c,m,rfl,hC,hb5,hc5,hm5⟩;have HC:=ae hC;have HB45:=ae hb5;have hz5:=hb5.size;clear hC hb5)
  |fail)
 go_ret2
 obtain⟨nb,c2,adf,mpf,hF⟩:=HF.out
 have hb25:Below w2.heap.size w2 w5:=(HB23.out.trans (HB34.out.mono hz23)).trans (HB45.out.mono (by omega))
 have hse:=hse_start hF hb25 HC.out HBY.out (fun b e=>by have:=HS4.out b e;omega) (by omega) (by omega) (by omega) h2
 have hb56:=(Below.refl w5.heap.size w5).alloc (Nat.le_refl _) (.cells #[.pointer (some ⟨fs,0,none⟩), .pointer (some ⟨a,0,none⟩), .pointer (some ⟨c,0,none⟩), .slice none 0 0] 58)
 have hl5:=hse.home.lts
 exact⟨w2.heap.size,w5.heap.size,a,c,fs,m,S,rfl,ab _ _,hse.below hb56,(HB2.out.trans (hb25.mono hz2)).trans (hb56.mono (by omega)),hz2,by omega,fun e=>by have:=hl5.2.2 _ e;omega,by omega,by omega⟩
end
end Go.Proofs.YtoochjhipmpehaaGreatDoor
