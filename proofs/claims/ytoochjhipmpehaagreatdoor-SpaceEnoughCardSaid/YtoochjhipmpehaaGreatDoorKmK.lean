/- Rows of bytes as generic rows. -/
import Derived.Test.YtoochjhipmpehaaGreatDoorKjK
import Derived.Test.YtoochjhipmpehaaGreatDoorKkK
import Derived.Laws.ResultCell
set_option linter.unusedVariables false
set_option linter.unusedSimpArgs false
set_option maxRecDepth 100000
set_option maxHeartbeats 8000000
namespace Go.Proofs.YtoochjhipmpehaaGreatDoor
open Go.Proofs.Tryz
section
open Go.RowKit Go.Sort
def byC (x:Nat):List Value:=[.int .u8 (x:Int)]
theorem nt:Elem 39 5 1 1 (.int .u8 0) byC:=
 ⟨underlying39,k_,rfl,d_,d_,fun _ =>rfl,fun x v hv=>by simp[byC]at hv;subst hv;rfl⟩
theorem qj (n:Nat)(d:Nat->Nat):((List.range n).map d).flatMap byC=(List.range n).map fun j=>Value.int .u8 (d j:Int):=by
 induction List.range n with
 |nil=>rfl
 |cons x l ih=>rw[List.map_cons,xo,ih];rfl
variable {w:World}{base cap n:Nat}{R:Option Addr}{d:Nat->Nat}
theorem OwnB.toG (h:OwnB w base R cap n d):OwnG 5 1 byC w base R cap ((List.range n).map d):=by
 unfold OwnG;rw[qj,List.length_map,List.length_range];exact h
theorem OwnB.ofG (h:OwnG 5 1 byC w base R cap ((List.range n).map d)):OwnB w base R cap n d:=by
 unfold OwnG at h;rw[qj,List.length_map,List.length_range]at h;exact h
variable {A:Option Addr}
theorem OwnB.formA (h:OwnB w base A cap n d):(A=none/\n=0)\/ ∃g,A=some ⟨g,0,none⟩/\base<=g/\g<w.heap.size:=by
 rcases h.toG.form with⟨h1,h2,_⟩|⟨g,h1,h2,h3,_⟩
 ·exact .inl ⟨h1,by simpa using congrArg List.length h2⟩
 ·exact .inr ⟨g,h1,h2,h3⟩
theorem OwnB.vAny (h:OwnB w base A cap n d):ap w A n d:=by
 rcases h.formA with⟨_,e⟩|⟨g,rfl,_⟩
 ·intro h0;omega
 ·exact h.v
theorem nr (h:ap w A n d):0<n-> ∃x,A=some x/\ ∀(j:Nat) u,(((List.range n).map d).flatMap byC)[j]? =some u->w.cell? (x.add j)=some u:=fun h0=>by
 obtain⟨x,e,hx⟩:=h h0;refine⟨x,e,fun j u hu=>?_⟩;rw[qj,xj]at hu;obtain⟨i,hi,rfl⟩:=Option.map_eq_some_iff.1 hu;obtain⟨h1,h2⟩:=List.getElem?_eq_some_iff.1 hi;rw[List.length_range]at h1;rw[List.getElem_range]at h2;subst h2;exact hx j h1
end
section
open Go.RowKit Go.Sort
theorem qM (P:Option Addr)(n cap:Nat)(l:List Ent)(w:World)(hl:fp w P l)(hn:n=l.length)(DW:n<=64)(AK: ∀x∈l,x.n<=524288/\x.path.size<=524288/\x.to.size<=524288):
  Calls prog 40 #[.slice P n cap] w (wt w l):=by
 obtain⟨Jr,HN,Ur⟩:=zh3 hl hn AK;clear hl hn AK;go_enter func40,ntmps40;go_wp2_with fail;go_loopw [3,4] (fun sv i wr=> ∃(k:Nat) (R:Option Addr) (cp:Nat) (L:List EntR),k<=n/\i= .int .i64 (k:Int)/\sv= .slice R k cp/\L.map EntR.ent=l.take k/\k=L.length/\OwnE wr w.heap.size R cp L/\(∀r∈L,TwOk wr r)/\Below w.heap.size w wr) (fun _ i _ =>n-(intOf i).toNat)
 case atStart=>exact⟨0,none,0,[],o_,rfl,rfl,rfl,rfl,World.ownsRow_nil w _ _ 7,(fun r hr=>by cases hr),xp _ _⟩
 case round=>
  obtain⟨k,R,cp,L,hk,rfl,rfl,hLt,hkL,hO,hT,zI⟩:=hrel;obtain⟨UA,YA,HO,HT,AD⟩:=zh5 hLt hkL hO hT zI;have Ri:=zI.size;clear hLt hkL hO hT zI;by_cases xw:k<n
  ·obtain⟨x,hx⟩: ∃x,l[k]? =some x:=⟨_,wV (by rw[<-HN.o];exact xw)⟩;have PD:l.take (k+1)=l.take k++[x]:=by
    rw[List.take_add_one,hx];rfl
   have Ic:=Ur.o x (xb hx);obtain⟨bb,off,A,c,rfl,⟨c0,c1,c2,c3,c4,c5,c6⟩,hA,MX,FQ⟩:=(Jr.o.below AD.o) k x hx;obtain⟨w1,Ad⟩:=e_ (wr.alloc (.cells #[.string x.path,.int .u8 (x.kind:Int),.int .u16 (x.mode:Int),.int .u32 (x.uid:Int),.int .u32 (x.gid:Int),.slice A x.n c,.string x.to] 93));have zY:w1.heap[wr.heap.size]? =some (.cells #[.string x.path,.int .u8 (x.kind:Int),.int .u16 (x.mode:Int),.int .u32 (x.uid:Int),.int .u32 (x.gid:Int),.slice A x.n c,.string x.to] 93 (0,0)):=(by rw[Ad];exact ab wr _);have xu:Below wr.heap.size wr w1:=(by rw[Ad];exact wR);have Ls:wr.heap.size<w1.heap.size:=(wO zY).1;obtain⟨Gd,DC,xI,Ll,HA⟩:=zh5 Ad zY xu PD (hA.kept xu);have JI:(k:Int)<(n:Int):=o_;clear hx PD Ad zY xu hA FQ;go_upto_region 6 with(fail);rw[<-Gd.o];clear c0 c1 c2 c3 c4 c5 c6;have x5:w1.cell? ⟨wr.heap.size,5,none⟩=some (.slice A x.n c):=aa DC.o 5;have WX:Below w1.heap.size w1 (w1.alloc (.cells #[] 5)):=wR;have YZ:=wP WX;clear WX;by_cases h0:0<x.n
   ·obtain⟨ad,rfl⟩: ∃ad,A=some ad:=(by obtain⟨ad,e,_⟩:=HA.o h0;exact⟨ad,e⟩);have TI:=wP (HA.o.kept YZ.o);go_upto_region 7 with(first
     |(at_builtin;refine ph rfl (.tmp 16) (.tmp 18) rfl w1.heap.size (some ⟨w1.heap.size,0,none⟩) 0 0 (fun _ =>0) rfl (OwnB.none_made w1) ad x.n c x.dat rfl TI.o h0 o_ s_ ?_;intro g2 cp2 w3 ho hg yr hlt3;have Co:Below w1.heap.size w1 w3:=wR.grown hg s_ (fun k hk=>by simp at hk;omega);have y5:=(Co.cell (p:=⟨wr.heap.size,5,none⟩) Ls).trans x5;have yf:=ae ((Co.block _ Ls).trans DC.o) 5;have Fa:=wP ho;clear ho hg yr)
     |fail)
    have Gx:Hid (cj w3 (some ⟨g2,0,none⟩) x.n cp2 x.dat):=wP (by
     have h9:=Fa.o;rw[Nat.zero_add]at h9;exact(h9.congr (fun i _ =>s_)).byteRow)
    clear y5 yf x5;have EJ:=(Co.block _ Ls).trans DC.o;have Bm:(w3.setCell ⟨wr.heap.size,5,none⟩ (.slice (some ⟨g2,0,none⟩) x.n (cp2))).heap[wr.heap.size]? =some (.cells (entC ⟨x,some ⟨g2,0,none⟩,cp2⟩).toArray 93 (0,0)):=(by
     have h9:=Joins.block_setCell (i:=5) EJ (.slice (some ⟨g2,0,none⟩) x.n (cp2));simpa [entC]using h9)
    have IQ:=aj (S:=fun b=>b=wr.heap.size) (w:=w3) (b:=wr.heap.size) rfl 5 (.slice (some ⟨g2,0,none⟩) x.n (cp2));have aa3:=Co.size;obtain⟨w4,zV⟩:=e_ (w3.setCell ⟨wr.heap.size,5,none⟩ (.slice (some ⟨g2,0,none⟩) x.n (cp2)));rw[<-zV]at Bm IQ⊢;have Eh:Below wr.heap.size wr w3:=xI.o.trans (Co.mono o_);have FR:Below wr.heap.size wr w4:=(by rw[zV];exact Eh.setCell (p:=⟨wr.heap.size,5,none⟩) (wS _) _);have MW:cj w4 (some ⟨g2,0,none⟩) x.n (cp2) x.dat:=Gx.o.keep (fun g cs f hg=>IQ.block g (wO hg).1 (fun e=>(by
     rw[e,EJ]at hg;injection hg with hg;injection hg with _ e2 _;exact absurd e2 d_)))
    have y0:w4.cell? ⟨wr.heap.size,0,none⟩=some (.string x.path):=aa Bm 0;have y1:w4.cell? ⟨wr.heap.size,1,none⟩=some (.int .u8 (x.kind:Int)):=aa Bm 1;have y2:w4.cell? ⟨wr.heap.size,2,none⟩=some (.int .u16 (x.mode:Int)):=aa Bm 2;have y3:w4.cell? ⟨wr.heap.size,3,none⟩=some (.int .u32 (x.uid:Int)):=aa Bm 3;have y4:w4.cell? ⟨wr.heap.size,4,none⟩=some (.int .u32 (x.gid:Int)):=aa Bm 4;have y5:w4.cell? ⟨wr.heap.size,5,none⟩=some (.slice (some ⟨g2,0,none⟩) x.n (cp2)):=aa Bm 5;have y6:w4.cell? ⟨wr.heap.size,6,none⟩=some (.string x.to):=aa Bm 6;have Ct:=wP (HO.o.kept FR);have NZ:Hid (∀r∈L++[⟨x,some ⟨g2,0,none⟩,cp2⟩],TwOk w4 r):=wP (fun r hr=>(by
     rcases List.mem_append.1 hr with h9|h9
     ·exact(HT.o r h9).below FR
     ·rw[List.mem_singleton]at h9;subst h9;exact MW))
    have IZ:Below w.heap.size w w4:=AD.o.trans (FR.mono Ri);have CU:=IZ.size;have TC:=wP IZ;clear EJ Bm IQ zV Eh FR MW IZ;go_wp2_with (first
     |(at_builtin;refine wm rfl (.tmp 21) (.tmp 23) rfl w.heap.size R cp k L YA.o rfl (World.ownsRow.alloc Ct.o _) ⟨x,some ⟨g2,0,none⟩,cp2⟩ w4.heap.size 1 rfl (ab _ _) o_ t_ ?_;intro g5 cp5 w5 zE BS Hm Mj;obtain⟨Dr,Jt⟩:=zh2 zE BS;clear zE BS Hm)
     |fail)
    go_roundw
    case rel=>
     refine⟨k+1,some ⟨g5,0,none⟩,cp5,L++[⟨x,some ⟨g2,0,none⟩,cp2⟩],o_,by go_num,rfl,by rw[List.map_append,UA.o,Ll.o];rfl,by rw[wU,<-YA.o];rfl,Dr.o,fun r hr=>?_,?_⟩
     ·refine(NZ.o r hr).keep fun g cs f hg=>?_;refine(Jt.o.block g (by have:=(wO hg).1;simp;omega) (fun e=>?_)).trans (wT _ _ _ (wO hg).1);cases hR:R with
      |none=>rw[hR]at e;cases e
      |some ad2=>
       have SF:=Ct.o;rw[hR]at e SF;rcases SF.form with⟨e9,_⟩|⟨g9,e9,_⟩
       ·cases e9
       ·injection e9 with e9;subst e9;obtain⟨cur,e8,_⟩:=SF.block;simp at e;rw[e,e8]at hg;injection hg with hg;injection hg with _ e2 _;exact absurd e2 d_
     ·refine(TC.o.alloc CU _).grown Jt.o t_ fun k' FN=>?_;rcases Ct.o.form with⟨e9,_⟩|⟨g9,e9,h9,_⟩
      ·rw[e9]at FN;cases FN
      ·rw[e9]at FN;simp at FN;omega
    case measure=>simp[intOf];omega
   ·have QK:=wP (show x.n=0 by omega);obtain⟨w3,yU⟩:=e_ (w1.alloc (.cells #[] 5));have Co:Below w1.heap.size w1 w3:=(by rw[yU];exact YZ.o);have Rh:=(Co.block _ Ls).trans DC.o;have z5:w3.cell? ⟨wr.heap.size,5,none⟩=some (.slice A x.n c):=aa Rh 5;have zf:=ae Rh 5;have Gx:Hid (cj w3 (some ⟨w1.heap.size,0,none⟩) x.n 0 x.dat):=wP (by
     rw[QK.o,yU];exact⟨(fun h=>o_),(OwnB.none_made w1).byteRow.2.1,wS _,fun e=>by cases e⟩)
    have Fw:=wP yU;clear yU Rh;go_upto_region 7 with(first
     |(at_builtin;rw[<-Fw.o];refine app_zero rfl (.tmp 16) (.tmp 18) rfl (some ⟨w1.heap.size,0,none⟩) x.n 0 QK.o rfl A c rfl ?_)
     |fail)
    clear z5 zf x5;have EJ:=(Co.block _ Ls).trans DC.o;have Bm:(w3.setCell ⟨wr.heap.size,5,none⟩ (.slice (some ⟨w1.heap.size,0,none⟩) x.n (0))).heap[wr.heap.size]? =some (.cells (entC ⟨x,some ⟨w1.heap.size,0,none⟩,0⟩).toArray 93 (0,0)):=(by
     have h9:=Joins.block_setCell (i:=5) EJ (.slice (some ⟨w1.heap.size,0,none⟩) x.n (0));simpa [entC]using h9)
    have IQ:=aj (S:=fun b=>b=wr.heap.size) (w:=w3) (b:=wr.heap.size) rfl 5 (.slice (some ⟨w1.heap.size,0,none⟩) x.n (0));have aa3:=Co.size;obtain⟨w4,zV⟩:=e_ (w3.setCell ⟨wr.heap.size,5,none⟩ (.slice (some ⟨w1.heap.size,0,none⟩) x.n (0)));rw[<-zV]at Bm IQ⊢;have Eh:Below wr.heap.size wr w3:=xI.o.trans (Co.mono o_);have FR:Below wr.heap.size wr w4:=(by rw[zV];exact Eh.setCell (p:=⟨wr.heap.size,5,none⟩) (wS _) _);have MW:cj w4 (some ⟨w1.heap.size,0,none⟩) x.n (0) x.dat:=Gx.o.keep (fun g cs f hg=>IQ.block g (wO hg).1 (fun e=>(by
     rw[e,EJ]at hg;injection hg with hg;injection hg with _ e2 _;exact absurd e2 d_)))
    have y0:w4.cell? ⟨wr.heap.size,0,none⟩=some (.string x.path):=aa Bm 0;have y1:w4.cell? ⟨wr.heap.size,1,none⟩=some (.int .u8 (x.kind:Int)):=aa Bm 1;have y2:w4.cell? ⟨wr.heap.size,2,none⟩=some (.int .u16 (x.mode:Int)):=aa Bm 2;have y3:w4.cell? ⟨wr.heap.size,3,none⟩=some (.int .u32 (x.uid:Int)):=aa Bm 3;have y4:w4.cell? ⟨wr.heap.size,4,none⟩=some (.int .u32 (x.gid:Int)):=aa Bm 4;have y5:w4.cell? ⟨wr.heap.size,5,none⟩=some (.slice (some ⟨w1.heap.size,0,none⟩) x.n (0)):=aa Bm 5;have y6:w4.cell? ⟨wr.heap.size,6,none⟩=some (.string x.to):=aa Bm 6;have Ct:=wP (HO.o.kept FR);have NZ:Hid (∀r∈L++[⟨x,some ⟨w1.heap.size,0,none⟩,0⟩],TwOk w4 r):=wP (fun r hr=>(by
     rcases List.mem_append.1 hr with h9|h9
     ·exact(HT.o r h9).below FR
     ·rw[List.mem_singleton]at h9;subst h9;exact MW))
    have IZ:Below w.heap.size w w4:=AD.o.trans (FR.mono Ri);have CU:=IZ.size;have TC:=wP IZ;clear EJ Bm IQ zV Eh FR MW IZ;go_wp2_with (first
     |(at_builtin;refine wm rfl (.tmp 21) (.tmp 23) rfl w.heap.size R cp k L YA.o rfl (World.ownsRow.alloc Ct.o _) ⟨x,some ⟨w1.heap.size,0,none⟩,0⟩ w4.heap.size 1 rfl (ab _ _) o_ t_ ?_;intro g5 cp5 w5 zE BS Hm Mj;obtain⟨Dr,Jt⟩:=zh2 zE BS;clear zE BS Hm)
     |fail)
    go_roundw
    case rel=>
     refine⟨k+1,some ⟨g5,0,none⟩,cp5,L++[⟨x,some ⟨w1.heap.size,0,none⟩,0⟩],o_,by go_num,rfl,by rw[List.map_append,UA.o,Ll.o];rfl,by rw[wU,<-YA.o];rfl,Dr.o,fun r hr=>?_,?_⟩
     ·refine(NZ.o r hr).keep fun g cs f hg=>?_;refine(Jt.o.block g (by have:=(wO hg).1;simp;omega) (fun e=>?_)).trans (wT _ _ _ (wO hg).1);cases hR:R with
      |none=>rw[hR]at e;cases e
      |some ad2=>
       have SF:=Ct.o;rw[hR]at e SF;rcases SF.form with⟨e9,_⟩|⟨g9,e9,_⟩
       ·cases e9
       ·injection e9 with e9;subst e9;obtain⟨cur,e8,_⟩:=SF.block;simp at e;rw[e,e8]at hg;injection hg with hg;injection hg with _ e2 _;exact absurd e2 d_
     ·refine(TC.o.alloc CU _).grown Jt.o t_ fun k' FN=>?_;rcases Ct.o.form with⟨e9,_⟩|⟨g9,e9,h9,_⟩
      ·rw[e9]at FN;cases FN
      ·rw[e9]at FN;simp at FN;omega
    case measure=>simp[intOf];omega
  ·obtain rfl:k=n:=o_;have HLT2:Hid (L.map EntR.ent=l):=wP (by rw[UA.o,List.take_of_length_le (by rw[HN.o];exact wS _)]);go_wp2_with fail;go_ret;have yA:l.length<=cp:=by
    rw[<-HN.o,YA.o];rcases HO.o.form with⟨_,e,e2⟩|⟨g,_,_,_,e⟩
    ·rw[e];exact xm _
    ·exact e
   exact⟨R,cp,by rw[<-HN.o];rfl,sb HLT2.o HO.o HT.o Ur.o,yA,AD.o⟩
end
section
open Go.RowKit Go.Sort
structure In11 (w:World)(P:Option Addr)(n cap:Nat)(l:List Ent):Prop where
 ents:fp w P l
 len:n=l.length
 few:n<=64
 cap:n<=cap
 small: ∀x∈l,x.n<=524288/\x.path.size<=524288/\x.to.size<=524288
theorem fp.bytes11 {w:World}{P:Option Addr}{l:List Ent}(h:fp w P l): ∀x∈l,∀i,x.dat i<256:=fun x hx=>by
 obtain⟨j,hj,e⟩:=List.mem_iff_getElem.1 hx;obtain⟨b,off,A,c,h1,h2,h3,h4,h5⟩:=h j x (by rw[wV hj,e]);exact h5.dat
theorem og (P:Option Addr)(n cap:Nat)(l:List Ent)(w:World)(hl:fp w P l)(hn:n=l.length)(yA:n<=cap)(CD:n<=64)(AK: ∀x∈l,x.n<=524288/\x.path.size<=524288/\x.to.size<=524288)(hr:(newM [aD] 0 l).1=0):
  Calls prog 12 #[.slice P n cap] w fun e w'=> ∃q,e= .returned (.tuple #[.pointer (some ⟨q,0,none⟩),.int .i64 0,.int .i64 0])/\(∃R xq L,dx w' w.heap.size q R xq L (dn l))/\Below w.heap.size w w':=
 (mx P n cap l w hl hn yA o_ AK).mono fun e w' h=>by
  obtain⟨h1,h2⟩:=h;rw[if_neg o_,if_neg (fun e=>e hr)]at h1;obtain⟨q,R,xq,L,h3,h4⟩:=h1;exact⟨q,h3,⟨R,xq,L,h4⟩,h2⟩
theorem rnew_bad (P:Option Addr)(n cap:Nat)(l:List Ent)(w:World)(hl:fp w P l)(hn:n=l.length)(yA:n<=cap)(CD:n<=64)(AK: ∀x∈l,x.n<=524288/\x.path.size<=524288/\x.to.size<=524288)(hr:(newM [aD] 0 l).1≠0):
  Calls prog 12 #[.slice P n cap] w fun e w'=> ∃i,e= .returned (.tuple #[.pointer none,.int .i64 (newM [aD] 0 l).1,.int .i64 i])/\Below w.heap.size w w':=
 (mx P n cap l w hl hn yA o_ AK).mono fun e w' h=>by
  obtain⟨h1,h2⟩:=h;rw[if_neg o_,if_pos hr]at h1;exact⟨_,h1,h2⟩
theorem vnew_err (P:Option Addr)(cap:Nat)(l:List Ent)(w:World)(hl:gH w P l)(yA:l.length<=cap)(CD:l.length<=64)(hr:(newM [aD] 0 l).1≠0):
  Calls prog 37 #[.slice P l.length cap] w fun e w'=> ∃q,e= .returned (.tuple #[.pointer none,.int .i64 (newM [aD] 0 l).1,.int .i64 q])/\Below w.heap.size w w':=by
 refine(qL P l.length cap l w hl rfl yA o_).mono fun e w' h=>?_;unfold dO at h;rw[if_neg o_,if_pos hr]at h;exact⟨_,h.1,h.2⟩
def iK (w:World)(o fs a c:Nat)(H:Option Addr)(k ch:Nat):Prop:=w.heap[o]? =some (.cells #[.pointer (some ⟨fs,0,none⟩),.pointer (some ⟨a,0,none⟩),.pointer (some ⟨c,0,none⟩),.slice H k ch] 58 (0,0))
def wN (w:World)(nf:Nat)(l:List Ent)(e:Ending)(w':World):Prop:=
 ∃B o a c fs m S,e= .returned (.tuple #[.pointer (some ⟨o,0,none⟩),.bool true])/\iK w' o fs a c none 0 0/\Hse w' B c a fs m S (dn l) 0 (fresh nf) [] []/\Below w.heap.size w w'/\w.heap.size<=B/\B<=o/\ ¬S o/\o≠m/\o≠c
theorem tG (P:Option Addr)(n cap nf:Nat)(l:List Ent)(w:World)(ym:In11 w P n cap l)(h1:1<=nf)(h2:nf<=1024)(hr:(newM [aD] 0 l).1=0)(BD:DB w)(xv:0<w.heap.size):
  Calls prog 11 #[.agg #[.slice P n cap,.int .i64 (nf:Int)]] w (wN w nf l):=by
 obtain⟨w0,BK⟩:=e_ (w.alloc (.cells #[.slice P n cap,.int .i64 (nf:Int)] 24));have xz:Below w.heap.size w w0:=(by rw[BK];exact wR);have Ej:w0.heap[w.heap.size]? =some (.cells #[.slice P n cap,.int .i64 (nf:Int)] 24 (0,0)):=(by rw[BK];exact ab w _);have yC:=qM P n cap l w0 (ym.ents.below xz) ym.len ym.few ym.small;have xT:=xz.size;have x0:w0.cell? ⟨w.heap.size,0,none⟩=some (.slice P n cap):=aa Ej 0;have Ms:l.length<=64:=(by rw[<-ym.len];exact ym.few);have TY:=iB ym.ents.bytes11;have hp1:(1:Int)<=(nf:Int):=o_;have hp2:(nf:Int)<=1024:=o_;obtain⟨HTW,xU,yd,Fv,Oc,Po,yQ,HR⟩:=zh8 yC BK xz Ej BD Ms ym hr;have YX:=wP TY
 clear yC BK xz Ej BD ym Ms hr TY
 go_enter func11,ntmps11;go_upto_region 1 with(fail);rw[<-xU.o];go_wp2_with (first
  |(go_at_call 40;refine(HTW.o).mono ?_;rintro e w1⟨R,cp,rfl,hE,zm,xu⟩;obtain⟨HE,Oe,xI,DC⟩:=zh4 hE zm (yd.o.trans (xu.mono xT)) ((xu.block _ (wO Fv.o).1).trans Fv.o);clear hE zm xu)
  |(go_at_call 37;refine(kg R cp l _ HE.o Oe.o Po.o HR.o).mono ?_;rintro e w2⟨fs,rfl,hF,xx⟩;have xQ:=xI.o.size;obtain⟨yW,Fu⟩:=zh2 (xI.o.trans (xx.mono xQ)) ((xx.block _ (wO DC.o).1).trans DC.o);have x2:w2.cell? ⟨w.heap.size,0,none⟩=some (.slice P n cap):=aa Fu.o 0;have HF:=wP hF;have xX:=yW.o.size;clear hF xx)
  |(go_at_call 12;refine(og P n cap l _ (yQ.o.ents.below yW.o) yQ.o.len yQ.o.cap yQ.o.few yQ.o.small HR.o).mono ?_;rintro e w3⟨q,rfl,_,xE⟩;obtain⟨Za,yZ,CF⟩:=zh3 xE (yW.o.trans (xE.mono xX)) ((xE.block _ (wO Fu.o).1).trans Fu.o);have x3:w3.cell? ⟨w.heap.size,1,none⟩=some (.int .i64 (nf:Int)):=aa CF.o 1;have Ty:=wP (Oc.o.same (yZ.o.block 0 xv));have zy:=yZ.o.size;have aa0:=Za.o.size;clear xE)
  |(go_at_call 38;refine(mV nf _ h1 h2 Ty.o o_).mono ?_;rintro e w4⟨a,S,rfl,hP,yG,hS4⟩;obtain⟨HP,HS4,HB34,CE⟩:=zh4 hP hS4 yG ((yG.block _ (wO CF.o).1).trans CF.o);have x4:w4.cell? ⟨w.heap.size,1,none⟩=some (.int .i64 (nf:Int)):=aa CE.o 1;have CU:=yG.size;clear hP yG hS4)
  |(go_at_call 39;refine(rH a fs _ S (fresh nf) HP.o).mono ?_;rintro e w5⟨c,m,rfl,hC,zJ,hc5,yK⟩;obtain⟨HC,HB45⟩:=zh2 hC zJ;have Iw:=zJ.size;clear hC zJ)
  |fail)
 go_ret2;obtain⟨nb,c2,adf,mpf,hF⟩:=HF.o;have Xb:Below w2.heap.size w2 w5:=(Za.o.trans (HB34.o.mono aa0)).trans (HB45.o.mono o_);have hse:=oN hF Xb HC.o YX.o (fun b e=>by have:=HS4.o b e;omega) o_ o_ o_ h2;have WY:=(xp w5.heap.size w5).alloc (wS _) (.cells #[.pointer (some ⟨fs,0,none⟩),.pointer (some ⟨a,0,none⟩),.pointer (some ⟨c,0,none⟩),.slice none 0 0] 58);have GX:=hse.home.lts;exact⟨w2.heap.size,w5.heap.size,a,c,fs,m,S,rfl,ab _ _,hse.below WY,(yW.o.trans (Xb.mono xX)).trans (WY.mono o_),xX,o_,fun e=>by have:=GX.2.2 _ e;omega,o_,o_⟩
theorem fnew11 (N:Int)(w:World)(hN:N<=1024)(BD:DB w)(xv:0<w.heap.size):
  Calls prog 38 #[.int .i64 N] w fun e w'=> ∃v h,e= .returned (.tuple #[.pointer v,.int .i64 h])/\(h=0↔1<=N)/\Below w.heap.size w w':=by
 by_cases h:N<1
 ·exact(vx N w h).mono fun e w' ⟨h1,h2⟩=>⟨_,_,h1,⟨fun e=>absurd e d_,fun e=>o_⟩,h2▸xp _ _⟩
 ·obtain⟨n,rfl⟩: ∃n:Nat,N=(n:Int):=⟨N.toNat,o_⟩;exact(mV n w o_ o_ BD xv).mono fun e w' ⟨a,S,h1,h2,h3,_⟩=>⟨_,_,h1,⟨fun _ =>o_,fun _ =>rfl⟩,h3⟩
end
section
open Go.RowKit Go.Sort
def ptrC (s:Nat):List Value:=[.pointer (some ⟨s,0,none⟩)]
theorem mB:Elem 56 60 1 8 (.pointer none) ptrC:=
 ⟨underlying56,k_,rfl,d_,d_,fun _ =>rfl,fun x v hv=>by simp[ptrC]at hv;subst hv;rfl⟩
variable {w w' w1 w3 w4:World}{hb B c a fs m:Nat}{S S':Nat->Prop}{F:List Nd}{clock xr:Int}{p p':Pool}{L L':List Slot}{l l':List SpM}{R:Option Addr}{cr:Nat}{ls:List Nat}
variable {X:Nat->Prop}
theorem Hse.aside (h:Hse w B c a fs m S F clock p L l)(hm:Mod X w w')(hX: ∀b,X b-> ¬av S c m b/\B<=b/\ ∀(k:Nat) (x:SpM),l[k]? =some x->b≠x.s/\b≠x.t/\ ∀ad,x.A=some ad->ad.block≠b):Hse w' B c a fs m S F clock p L l:=
 ⟨h.home.mod hm (fun b e=>⟨fun e2=>(hX b e).1 (.inl e2),fun e2=>(hX b e).1 (.inr (.inr e2)),fun e2=>(hX b e).1 (.inr (.inl e2)),(hX b e).2.1⟩),h.hs,
  fun j y hj=>(h.each j y hj).keep (h.lt j y hj) hm (fun b e=> .inr (.inr ((hX b e).2.2 j y hj))) (Out.refl _ _),h.apart,fun j y hj=>(h.lt j y hj).more hm.size⟩
structure Hou (w:World)(hb B c a fs m:Nat)(S:Nat->Prop)(F:List Nd)(clock:Int)(p:Pool)(L:List Slot)(l:List SpM)(R:Option Addr)(cr:Nat)(ls:List Nat):Prop where
 hse:Hse w B c a fs m S F clock p L l
 self:iK w hb fs a c R ls.length cr
 row:OwnG 60 1 ptrC w B R cr ls
 hbB:B<=hb
 no: ¬av S c m hb
 sp: ∀(k:Nat) (x:SpM),l[k]? =some x->hb≠x.s/\hb≠x.t/\ ∀ad,x.A=some ad->ad.block≠hb
 noR: ∀g,R=some ⟨g,0,none⟩->g≠hb/\ ¬av S c m g/\ ∀(k:Nat) (x:SpM),l[k]? =some x->g≠x.s/\g≠x.t/\ ∀ad,x.A=some ad->ad.block≠g
 tl: ∀(k:Nat) (x:SpM),l[k]? =some x->B<=x.t
theorem Hou.lt (h:Hou w hb B c a fs m S F clock p L l R cr ls):hb<w.heap.size:=(wO h.self).1
theorem av.o {b:Nat}(ho:Out S S' w)(hb:b<w.heap.size)(h: ¬av S c m b): ¬av S' c m b:=fun e=>by
 rcases e with e|e
 ·exact(ho b e).elim (fun e=>h (.inl e)) (fun e=>o_)
 ·exact h (.inr e)
theorem Hou.next (h:Hou w hb B c a fs m S F clock p L l R cr ls)(hh:Hse w' B c a fs m S' F xr p' L' l')(hm:Mod X w w')(hX: ∀b,X b->av S c m b\/w.heap.size<=b\/ ∃(k:Nat) (x:SpM),l[k]? =some x/\(b=x.s\/b=x.t))(ho:Out S S' w)
  (hn: ∀(k:Nat) (y:SpM),l'[k]? =some y->(∃(j:Nat) (x:SpM),l[j]? =some x/\y.s=x.s/\y.t=x.t/\ ∀ad,y.A=some ad->x.A=some ad\/w.heap.size<=ad.block)\/(w.heap.size<=y.s/\w.heap.size<=y.t/\ ∀ad,y.A=some ad->w.heap.size<=ad.block)):
  Hou w' hb B c a fs m S' F xr p' L' l' R cr ls:=by
 have xw:=h.lt;have keep: ∀g,g<w.heap.size-> ¬av S c m g->(∀(k:Nat) (x:SpM),l[k]? =some x->g≠x.s/\g≠x.t/\ ∀ad,x.A=some ad->ad.block≠g)->w'.heap[g]? =w.heap[g]? :=fun g hg h1 h2=>hm.block g hg fun e=>by
  rcases hX g e with e|e|⟨k,x,h3,h4⟩
  ·exact h1 e
  ·omega
  ·exact h4.elim (h2 k x h3).1 (h2 k x h3).2.1
 have far: ∀g,g<w.heap.size->(∀(k:Nat) (x:SpM),l[k]? =some x->g≠x.s/\g≠x.t/\ ∀ad,x.A=some ad->ad.block≠g)-> ∀(k:Nat) (y:SpM),l'[k]? =some y->g≠y.s/\g≠y.t/\ ∀ad,y.A=some ad->ad.block≠g:=fun g hg h2 k y hy=>by
  rcases hn k y hy with⟨j,x,h3,h4,h5,h6⟩|⟨h3,h4,h5⟩
  ·obtain⟨e1,e2,e3⟩:=h2 j x h3;exact⟨by rw[h4];exact e1,by rw[h5];exact e2,fun ad e=>(h6 ad e).elim (e3 ad) (fun e=>o_)⟩
  ·exact⟨o_,o_,fun ad e=>by have:=h5 ad e;omega⟩
 refine⟨hh,(keep hb xw h.no h.sp).trans h.self,h.row.same fun g hg=>keep g (h.row.lt g hg).2 (h.noR g hg).2.1 (h.noR g hg).2.2,h.hbB,av.o ho xw h.no,far hb xw h.sp,
  fun g hg=>⟨(h.noR g hg).1,av.o ho (h.row.lt g hg).2 (h.noR g hg).2.1,far g (h.row.lt g hg).2 (h.noR g hg).2.2⟩,fun k y hy=>?_⟩
 have DK:=h.hse.home.base;rcases hn k y hy with⟨j,x,h3,h4,h5,h6⟩|⟨h3,h4,h5⟩
 ·rw[h5];exact h.tl j x h3
 ·omega
theorem Hou.old (h:Hou w hb B c a fs m S F clock p L l R cr ls): ∀(k:Nat) (y:SpM),l[k]? =some y->(∃(j:Nat) (x:SpM),l[j]? =some x/\y.s=x.s/\y.t=x.t/\ ∀ad,y.A=some ad->x.A=some ad\/w.heap.size<=ad.block)\/(w.heap.size<=y.s/\w.heap.size<=y.t/\ ∀ad,y.A=some ad->w.heap.size<=ad.block):=fun k y hy=> .inl ⟨k,y,hy,rfl,rfl,fun _ e=> .inl e⟩
theorem Hou.below (h:Hou w hb B c a fs m S F clock p L l R cr ls)(Cz:Below w.heap.size w w'):Hou w' hb B c a fs m S F clock p L l R cr ls:=
 h.next (X:=fun _ =>False) (h.hse.below Cz) (Mod.of Cz) (fun _ e=>e.elim) (Out.refl _ _) h.old
def dR (S:Nat->Prop)(B c m hb:Nat)(R:Option Addr)(l:List SpM)(b:Nat):Prop:= ¬av S c m b/\B<=b/\b≠hb/\R≠some ⟨b,0,none⟩/\ ∀(k:Nat) (x:SpM),l[k]? =some x->b≠x.s/\b≠x.t/\ ∀ad,x.A=some ad->ad.block≠b
theorem Hou.aside (h:Hou w hb B c a fs m S F clock p L l R cr ls)(hm:Mod X w w')(hX: ∀b,X b->dR S B c m hb R l b):Hou w' hb B c a fs m S F clock p L l R cr ls:=
 ⟨h.hse.aside hm (fun b e=>⟨(hX b e).1,(hX b e).2.1,(hX b e).2.2.2.2⟩),(hm.block hb h.lt (fun e=>(hX hb e).2.2.1 rfl)).trans h.self,h.row.same fun x hx=>hm.block x (h.row.lt x hx).2 (fun e=>(hX x e).2.2.2.1 hx),h.hbB,h.no,h.sp,h.noR,h.tl⟩
theorem Hou.far (h:Hou w hb B c a fs m S F clock p L l R cr ls)(xE:Below w.heap.size w w3)(DG:w3.grownBy w4 (R.map (·.block))):w4.heap[hb]? =w.heap[hb]? :=by
 have hh:=h.lt;have zy:=xE.size;refine(DG.block hb o_ (fun e=>?_)).trans (xE.block hb hh);rcases h.row.form with⟨h9,_⟩|⟨g,h9,_⟩
 ·rw[h9]at e;cases e
 ·rw[h9]at e;simp only[Option.map_some,Option.some.injEq]at e;exact(h.noR g h9).1 e.symm
theorem Hou.push {s g xq:Nat}(h:Hou w hb B c a fs m S F clock p L l R cr ls)(xE:Below w.heap.size w w3)(AY:OwnG 60 1 ptrC w4 B (some ⟨g,0,none⟩) xq (ls++[s]))(DG:w3.grownBy w4 (R.map (·.block)))(yr:R.map (·.block)=some g\/g=w3.heap.size)(xw:g<w4.heap.size):
  Hou (w4.setCell ⟨hb,3,none⟩ (.slice (some ⟨g,0,none⟩) (ls.length+1) xq)) hb B c a fs m S F clock p L l (some ⟨g,0,none⟩) xq (ls++[s])/\Mod (fun b=>R=some ⟨b,0,none⟩\/b=hb) w (w4.setCell ⟨hb,3,none⟩ (.slice (some ⟨g,0,none⟩) (ls.length+1) xq))/\(R=some ⟨g,0,none⟩\/w.heap.size<=g):=by
 have PK: ∀k,R.map (·.block)=some k->R=some ⟨k,0,none⟩:=fun k e=>by
  rcases h.row.form with⟨h9,_⟩|⟨g,h9,_⟩
  ·rw[h9]at e;cases e
  ·rw[h9]at e;simp only[Option.map_some,Option.some.injEq]at e;rw[h9,e]
 have hh:=h.lt;have zy:=xE.size;have hl:=h.hse.home.lts;have DK:=h.hse.home.base;have zl:Mod (fun b=>R.map (·.block)=some b\/b=hb) w w4:=(Mod.of xE).trans (Out.refl _ _) ((cO DG).sub fun b e=> .inl e);have yK:Mod (fun b=>R.map (·.block)=some b\/b=hb) w (w4.setCell ⟨hb,3,none⟩ (.slice (some ⟨g,0,none⟩) (ls.length+1) xq)):=zl.trans (Out.refl _ _) ((aj (S:=fun b=>b=hb) rfl 3 _).sub fun b e=> .inr e);have zj:w4.heap[hb]? =w.heap[hb]? :=(DG.block hb o_ (fun e=>(h.noR hb (PK hb e.symm)).1 rfl)).trans (xE.block hb hh);have Rv:=zj.trans h.self;have Qb:(R=some ⟨g,0,none⟩)\/w.heap.size<=g:=yr.imp (PK g) fun e=>by omega
 have Ws:g≠hb:=Qb.elim (fun e=>(h.noR g e).1) (fun e=>o_);refine⟨⟨h.hse.aside yK fun b e=>?_,?_,AY.same fun x hx=>?_,h.hbB,h.no,h.sp,fun x hx=>?_,h.tl⟩,yK.sub fun b e=>e.imp (PK b) id,Qb⟩
 ·rcases e with e|e
  ·exact⟨(h.noR b (PK b e)).2.1,(h.row.lt b (PK b e)).1,(h.noR b (PK b e)).2.2⟩
  ·subst e;exact⟨h.no,h.hbB,h.sp⟩
 ·have h9:=Joins.block_setCell (i:=3) Rv (.slice (some ⟨g,0,none⟩) (ls.length+1) xq);unfold iK;rw[h9,wU,xc];rfl
 ·injection hx with hx;injection hx with hx;subst hx;exact(aj (S:=fun b=>b=hb) (w:=w4) (b:=hb) rfl 3 _).block g xw Ws
 ·injection hx with hx;injection hx with hx;subst hx;rcases Qb with e|e
  ·exact h.noR g e
  ·exact⟨Ws,fun e2=>by have:=hl.2.2;rcases e2 with e2|e2|e2;(have:=hl.2.2 g e2;omega);omega;omega,fun k x hk=>by have h5:=h.hse.lt k x hk;have h6:=h5.s;have h7:=h5.t;exact⟨o_,o_,fun ad e=>by have:=h5.r ad e;omega⟩⟩
def numI (s:Int)(n:Nat):Int:=if n=0 then-1 else if s.tmod n<0 then s.tmod n+n else s.tmod n
variable {n:Nat}
theorem qR (s:Int)(hn:0<n): -(n:Int)<s.tmod n:=by
 rcases Int.le_total 0 s with h|h
 ·have:=Int.tmod_nonneg (n:Int) h;omega
 ·have h3:=Int.tmod_lt_of_pos (-s) (show(0:Int)<n by omega);rw[Int.neg_tmod]at h3;omega
theorem uZ (s:Int)(hn:0<n): ∃j,j<n/\numI s n=(j:Int):=by
 have h1:=Int.tmod_lt_of_pos s (show(0:Int)<n by omega);have h2:=qR s hn;refine⟨(numI s n).toNat,?_,?_⟩<;>(unfold numI;rw[if_neg o_];split<;>omega)
theorem lM (s:Int)(n:Nat)(hn:n<=1000)(w:World):Calls prog 16 #[.int .i64 s,.int .i64 (n:Int)] w fun e w'=>e= .returned (.int .i64 (numI s n))/\w=w':=by
 by_cases h0:n=0
 ·subst h0;go_enter func16,ntmps16;go_wp2_with fail;go_ret;exact⟨rfl,rfl⟩
 ·have hz:((n:Int)==0)=false:=(by rw[xf];omega);have h1:=Int.tmod_lt_of_pos s (show(0:Int)<n by omega);have h2:=qR s (n:=n) o_;by_cases Kq:s.tmod n<0
  ·have hd:decide (s.tmod n<0)=true:=xh Kq;have hr:Hid (numI s n=s.tmod n+n):=wP (by unfold numI;rw[if_neg h0,if_pos Kq]);go_enter func16,ntmps16;go_wp2_with fail;go_ret;exact⟨by rw[hr.o];rfl,rfl⟩
  ·have hd:decide (s.tmod n<0)=false:=xg Kq;have hr:Hid (numI s n=s.tmod n):=wP (by unfold numI;rw[if_neg h0,if_neg Kq]);go_enter func16,ntmps16;go_wp2_with fail;go_ret;exact⟨by rw[hr.o];rfl,rfl⟩
theorem sq (A1 A2:Option Addr)(n c1 c2:Nat)(d0:Nat->Nat)(w:World)(h1:ap w A1 n d0)(h2:ap w A2 n d0)(hn:n<=140737488355328)(zT:n<=c1)(Ar:n<=c2):
  Calls prog 20 #[.slice A1 n c1,.slice A2 n c2] w fun e w'=>e= .returned (.bool true)/\Below w.heap.size w w':=by
 obtain⟨H1,H2⟩:=zh2 h1 h2;clear h1 h2;go_enter func20,ntmps20;go_wp2_with fail;go_loopw [5] (fun i wr=> ∃(k:Nat),i= .int .i64 (k:Int)/\k<=n/\Below w.heap.size w wr) (fun i _ =>n-(intOf i).toNat)
 case atStart=>exact⟨0,rfl,xm _,xp _ _⟩
 case round=>
  obtain⟨k,rfl,hk,zI⟩:=hrel;by_cases xw:k<n
  ·obtain⟨a1,rfl,g1⟩:=H1.o o_;obtain⟨a2,rfl,g2⟩:=H2.o o_;have e1:=(zI.cell (World.block_lt_of_cell? _ _ (g1 k xw))).trans (g1 k xw);have e2:=(zI.cell (World.block_lt_of_cell? _ _ (g2 k xw))).trans (g2 k xw);have f1: ∀d os,(grow (redrawn wr d) os).cell? (a1.add k)=some (.int .u8 ((d0 k:Nat):Int)):=fun d os=>cell_regrown e1 d os;have f2: ∀d os,(grow (redrawn wr d) os).cell? (a2.add k)=some (.int .u8 ((d0 k:Nat):Int)):=fun d os=>cell_regrown e2 d os;have zz:(k:Int)<(n:Int):=o_;have HB:=wP zI;clear e1 e2 g1 g2 zI;go_upto_region 6 with(fail);refine wp_region_quiet_below k_ k_ ?_;(repeat(go_big_quiet_step ((fail))));refine wpQuiet_nil ?_;intro _ yX;obtain⟨⟨dq,osq⟩,hw''⟩:=yX;subst hw'';have xR:=below_regrown (wr) dq osq;generalize grow (redrawn (wr) dq) osq=wq at xR⊢;go_wp2_with fail;go_roundw
   case rel=>exact⟨k+1,by go_num,o_,HB.o.trans (xR.mono HB.o.size)⟩
   case measure=>(simp[intOf];omega)
  ·obtain rfl:k=n:=o_;go_wp2_with fail;go_ret;exact⟨rfl,zI⟩
end
section
open Go.RowKit Go.Sort
structure O11 where
 kd:Int
 sI:Int
 r:Reg
 addr:Nat
 n:Int
 q:Nat
 d:Nat->Nat
def wu (F:List Nd)(rl:List Reg)(o:O11)(er:Int):Prop:=(o.kd=0/\er=di F rl o.r)\/(o.kd=1/\er=(Rg.cut rl o.r.fr o.r.to).2)\/(o.kd=2/\ ∃q:Nat,o.r.prot=(q:Int)/\er=(Rg.protect rl o.r.fr o.r.to q).2)
def gy (o:O11)(n:Nat):Prop:=(o.kd=9/\n<6)\/(0<n/\0<=o.kd/\o.kd<=8/\(o.kd=7->n<6))
inductive Do11 (F:List Nd)(p:Pool)(L:List Slot)(l:List SpM)(o:O11):Int->Pool->List Slot->List SpM->Prop
 |idle: ¬gy o l.length->Do11 F p L l o 0 p L l
 |new (s t f:Nat) (p':Pool) (L':List Slot):o.kd=9->aw p L 0 f p' L'->Do11 F p L l o 0 p' L' (l++[⟨s,t,f,none,0,0,[],some (aH f)⟩])
 |newNo (f:Nat):o.kd=9->aw p L 4 f p L->Do11 F p L l o 4 p L l
 |gone (k:Nat) (x:SpM) (er:Int):o.kd≠9->numI o.sI l.length=k->l[k]? =some x->x.T=none->er=0\/er=2->Do11 F p L l o er p L l
 |no (k:Nat) (x:SpM) (T:Tab) (er:Int):wu F x.rl o er->numI o.sI l.length=k->l[k]? =some x->x.T=some T->er≠0->Do11 F p L l o er p L l
 |map (k:Nat) (x:SpM) (T:Tab) (A':Option Addr) (xq:Nat) (p':Pool) (T':Tab):o.kd=0->numI o.sI l.length=k->l[k]? =some x->x.T=some T->0=di F x.rl o.r->dk F (tnS ((l.map (·.T)).set k none)) o.r.fr o.r.to p L T T.puts.length p' T'->Do11 F p L l o 0 p' L (l.set k (x.withR A' xq (Rg.put x.rl o.r).1 T'))
 |unmap (k:Nat) (x:SpM) (T:Tab) (A':Option Addr) (xq:Nat) (p':Pool) (T':Tab):o.kd=1->numI o.sI l.length=k->l[k]? =some x->x.T=some T->0=(Rg.cut x.rl o.r.fr o.r.to).2->dk F (tnS ((l.map (·.T)).set k none)) o.r.fr o.r.to p L T T.puts.length p' T'->Do11 F p L l o 0 p' L (l.set k (x.withR A' xq (Rg.cut x.rl o.r.fr o.r.to).1 T'))
 |prot (k:Nat) (x:SpM) (T:Tab) (A':Option Addr) (xq:Nat) (p':Pool) (T':Tab) (q:Nat):o.kd=2->numI o.sI l.length=k->l[k]? =some x->x.T=some T->o.r.prot=(q:Int)->0=(Rg.protect x.rl o.r.fr o.r.to q).2->bO F (tnS ((l.map (·.T)).set k none)) (prt q) o.r.fr o.r.to p L T T.puts.length p' T'->Do11 F p L l o 0 p' L (l.set k (x.withR A' xq (Rg.protect x.rl o.r.fr o.r.to q).1 T'))
 |load (k:Nat) (x:SpM) (T:Tab) (want er:Int) (kk:Nat) (d:Nat->Nat) (p':Pool) (L':List Slot) (T':Tab):(o.kd=3/\want=4)\/(o.kd=5/\want=0)->numI o.sI l.length=k->l[k]? =some x->x.T=some T->ff F (tnS ((l.map (·.T)).set k none)) x.rl p L T o.addr o.n want er kk d p' L' T'->Do11 F p L l o er p' L' (l.set k (x.withT T'))
 |store (k:Nat) (x:SpM) (T:Tab) (want er:Int) (p':Pool) (L':List Slot) (T':Tab):(o.kd=4/\want=2)\/(o.kd=6/\want=0)->numI o.sI l.length=k->l[k]? =some x->x.T=some T->eh F (tnS ((l.map (·.T)).set k none)) x.rl p L T o.addr o.q o.d want er p' L' T'->Do11 F p L l o er p' L' (l.set k (x.withT T'))
 |forkNo (k:Nat) (x:SpM) (T:Tab) (p':Pool) (L':List Slot):o.kd=7->numI o.sI l.length=k->l[k]? =some x->x.T=some T->rR F (tnS ((l.map (·.T)).set k none)) p L T p' L'->l.length<6->Do11 F p L l o 4 p' L' l
 |fork (k:Nat) (x:SpM) (T:Tab) (s2 t2 f:Nat) (A':Option Addr) (xq:Nat) (p':Pool) (L':List Slot) (T' T2:Tab):o.kd=7->numI o.sI l.length=k->l[k]? =some x->x.T=some T->iL F (tnS ((l.map (·.T)).set k none)) p L T p' L' T' T2->Do11 F p L l o 0 p' L' (l.set k (x.withT T')++[⟨s2,t2,f,A',x.n,xq,x.rl,some T2⟩])
 |free (k:Nat) (x:SpM) (T:Tab):o.kd=8->numI o.sI l.length=k->l[k]? =some x->x.T=some T->Do11 F p L l o 0 (cD p ((T.evs 4 0).flatMap Ev.fs)) L (l.set k x.dead)
def houF (S:Nat->Prop)(c m hb:Nat)(R:Option Addr)(l:List SpM):Nat->Prop:=fun b=>av S c m b\/b=hb\/R=some ⟨b,0,none⟩\/ ∃(k:Nat) (x:SpM),l[k]? =some x/\(b=x.s\/b=x.t)
variable {w w':World}{hb B c a fs m:Nat}{S S':Nat->Prop}{F:List Nd}{clock xr:Int}{p p':Pool}{L L':List Slot}{l l':List SpM}{R R':Option Addr}{cr:Nat}{ls:List Nat}
theorem Hou.lowF (h:Hou w hb B c a fs m S F clock p L l R cr ls): ∀b,houF S c m hb R l b->B<=b:=fun b e=>by
 rcases e with e|e|e|⟨k,x,hk,e⟩
 ·exact h.hse.footLow b e
 ·rw[e];exact h.hbB
 ·exact(h.row.lt b e).1
 ·rcases e with e|e
  ·rw[e];have h1:=h.hse.each k x hk;cases hT:x.T with
   |none=>exact(h1.dead hT).noS.2.2.2
   |some T=>exact(h1.live hT).one.noS.2.2.2
  ·rw[e];exact h.tl k x hk
theorem rB (ho:Out S S' w)
  (hn: ∀(k:Nat) (y:SpM),l'[k]? =some y->(∃(j:Nat) (x:SpM),l[j]? =some x/\y.s=x.s/\y.t=x.t/\ ∀ad,y.A=some ad->x.A=some ad\/w.heap.size<=ad.block)\/(w.heap.size<=y.s/\w.heap.size<=y.t/\ ∀ad,y.A=some ad->w.heap.size<=ad.block))
  (hR: ∀g,R'=some ⟨g,0,none⟩->R=some ⟨g,0,none⟩\/w.heap.size<=g):Out (houF S c m hb R l) (houF S' c m hb R' l') w:=fun b e=>by
 rcases e with(e|e|e)|e|e|⟨k,y,hk,e⟩
 ·exact(ho b e).imp (fun e=> .inl (.inl e)) id
 ·exact .inl (.inl (.inr (.inl e)))
 ·exact .inl (.inl (.inr (.inr e)))
 ·exact .inl (.inr (.inl e))
 ·exact(hR b e).imp (fun e=> .inr (.inr (.inl e))) id
 ·rcases hn k y hk with⟨j,x,h3,h4,h5,_⟩|⟨h3,h4,_⟩
  ·exact .inl (.inr (.inr (.inr ⟨j,x,h3,by rw[<-h4,<-h5];exact e⟩)))
  ·exact .inr (e.elim (fun e=>o_) (fun e=>o_))
def cI (w:World)(l l':List SpM):Prop:= ∀(k:Nat) (y:SpM),l'[k]? =some y->(∃(j:Nat) (x:SpM),l[j]? =some x/\y.s=x.s/\y.t=x.t/\ ∀ad,y.A=some ad->x.A=some ad\/w.heap.size<=ad.block)\/(w.heap.size<=y.s/\w.heap.size<=y.t/\ ∀ad,y.A=some ad->w.heap.size<=ad.block)
theorem cI.refl (w:World)(l:List SpM):cI w l l:=fun k y hy=> .inl ⟨k,y,hy,rfl,rfl,fun _ e=> .inl e⟩
variable {y:SpM}
theorem cI.set {k:Nat}{x:SpM}(hk:l[k]? =some x)(hs:y.s=x.s)(ht:y.t=x.t)(hA: ∀ad,y.A=some ad->x.A=some ad\/w.heap.size<=ad.block):cI w l (l.set k y):=fun j z hj=>by
 rcases bJ hj with⟨_,rfl,_⟩|⟨_,hj⟩
 ·exact .inl ⟨k,x,hk,hs,ht,hA⟩
 ·exact .inl ⟨j,z,hj,rfl,rfl,fun _ e=> .inl e⟩
theorem cI.snoc (h:cI w l l')(hy:w.heap.size<=y.s/\w.heap.size<=y.t/\ ∀ad,y.A=some ad->w.heap.size<=ad.block):cI w l (l'++[y]):=fun j z hj=>by
 rcases Nat.lt_or_ge j l'.length with h1|h1
 ·rw[wZ h1]at hj;exact h j z hj
 ·rw[wY h1]at hj;have:=xb hj;rw[List.mem_singleton]at this;subst this;exact .inr hy
theorem fE {k:Nat}{x:SpM}(hk:l[k]? =some x)(hs:y.s=x.s):(l.set k y).map (·.s)=l.map (·.s):=by
 rw[List.map_set,hs];exact fV (by rw[xj,hk];rfl)
variable {wq:World}{b:Nat}
theorem Hou.mine (h:Hou w hb B c a fs m S F clock p L l R cr ls)(hz:w.heap.size<=wq.heap.size)(ho:Out S S' wq)(hn:cI wq l l')(h2:w.heap.size<=b)(h3:b<wq.heap.size):dR S' B c m hb R l' b:=by
 have hl:=h.hse.home.lts;refine⟨fun e=>?_,xn h.hse.home.base h2,fun e=>by have:=h.lt;omega,fun e=>by have:=(h.row.lt b e).2;omega,fun k y hy=>?_⟩
 ·rcases e with e|e|e
  ·exact(ho b e).elim (fun e=>by have:=hl.2.2 b e;omega) (fun e=>o_)
  ·omega
  ·omega
 ·rcases hn k y hy with⟨j,x,e1,e2,e3,e4⟩|⟨e1,e2,e3⟩
  ·have h5:=h.hse.lt j x e1;have h6:=h5.s;have h7:=h5.t;exact⟨o_,o_,fun ad e=>(e4 ad e).elim (fun e=>by have:=h5.r ad e;omega) (fun e=>o_)⟩
  ·exact⟨o_,o_,fun ad e=>by have:=e3 ad e;omega⟩
variable {w1:World}{X Y:Nat->Prop}
theorem Hou.ends {wf:World}(h:Hou w hb B c a fs m S F clock p L l R cr (l.map (·.s)))(xR:Below w.heap.size w wq)(h1:Hse w1 B c a fs m S' F xr p' L' l')(hm:Mod X wq w1)(hX: ∀b,X b->av S c m b\/ ∃(k:Nat) (x:SpM),l[k]? =some x/\(b=x.s\/b=x.t))(ho:Out S S' wq)(hn:cI wq l l')(hs:l'.map (·.s)=l.map (·.s))(hY:Mod Y w1 wf)(Lf: ∀b,Y b->w.heap.size<=b/\(b<wq.heap.size\/dR S' B c m hb R l' b)):
  Hou wf hb B c a fs m S' F xr p' L' l' R cr (l'.map (·.s))/\Mod (houF S c m hb R l) w wf/\Out (houF S c m hb R l) (houF S' c m hb R l') w/\cI w l l':=by
 have hz:=xR.size;have hq:=h.below xR;have Ad:=hq.next h1 hm (fun b e=>(hX b e).imp id .inr) ho hn;have hXF: ∀b,X b->houF S c m hb R l b:=fun b e=>(hX b e).elim .inl fun e=> .inr (.inr (.inr e));have Kq:cI w l l':=fun k y hy=>by
  rcases hn k y hy with⟨j,x,e1,e2,e3,e4⟩|⟨e1,e2,e3⟩
  ·exact .inl ⟨j,x,e1,e2,e3,fun ad e=>(e4 ad e).imp id (fun e=>o_)⟩
  ·exact .inr ⟨o_,o_,fun ad e=>by have:=e3 ad e;omega⟩
 refine⟨by rw[hs];exact Ad.aside hY fun b e=>(Lf b e).2.elim (fun e2=>h.mine hz ho hn (Lf b e).1 e2) id,?_,rB (fun b e=>(ho b e).imp id (fun e=>o_)) Kq (fun g e=> .inl e),Kq⟩;exact((((Mod.of xR).trans (Out.refl _ _) ((hm.sub hXF).sub (T:=fun b=>houF S c m hb R l b\/w.heap.size<=b) fun b e=> .inl e)).trans (Out.refl _ _) (hY.sub fun b e=> .inr (Lf b e).1))).own fun b e=>e
def po (w:World)(hb B c a fs m:Nat)(S:Nat->Prop)(F:List Nd)(clock:Int)(p:Pool)(L:List Slot)(l:List SpM)(R:Option Addr)(o:O11)(e:Ending)(w':World):Prop:=
 ∃(Rb:Option Addr) (kk cp:Nat) (er xr:Int) (S':Nat->Prop) (p':Pool) (L':List Slot) (l':List SpM) (R':Option Addr) (cr':Nat),e= .returned (.tuple #[.agg #[.slice Rb kk cp,.int .i64 er],.bool true])/\Hou w' hb B c a fs m S' F xr p' L' l' R' cr' (l'.map (·.s))/\l'.length<=6/\clock<=xr/\xr<=clock+32/\Mod (houF S c m hb R l) w w'/\Out (houF S c m hb R l) (houF S' c m hb R' l') w/\Do11 F p L l o er p' L' l'/\cI w l l'
structure pl (w:World)(B:Nat)(o:O11)(A:Option Addr)(cq:Nat):Prop where
 ok:o.r.Ok
 addr:o.addr<18446744073709551616
 q:o.q<=140737488355328
 cap:o.q<=cq
 bytes:ap w A o.q o.d
 small: ∀j,o.d j<256
 low: ∀ad,A=some ad->0<o.q->ad.block<B
def opV (o:O11)(A:Option Addr)(cq:Nat):Array Value:= #[.int .i64 o.kd,.int .i64 o.sI,.int .u64 o.r.fr,.int .u64 o.r.to,.int .u8 o.r.prot,.int .i64 o.r.ino,.int .u64 o.r.off,.int .u64 (o.addr:Int),.int .i64 o.n,.slice A o.q cq]
structure Bx (w:World)(E:Nat)(op:Array Value):Prop where
 op:w.heap[E]? =some (.cells op 47 (0,0))
 res:w.heap[E+1]? =some (.cells #[.slice none 0 0,.int .i64 0] 41 (0,0))
 x:w.heap[E+2]? =some (.cells #[.slice none 0 0,.int .i64 0] 41 (0,0))
variable {E:Nat}{op:Array Value}
theorem Bx.mod (h:Bx w E op)(hm:Mod X w w')(hX: ∀b,X b->b<E\/w.heap.size<=b):Bx w' E op:=by
 have k: ∀(b:Nat) (ob:Obj),E<=b->w.heap[b]? =some ob->w'.heap[b]? =some ob:=fun b ob hE hb=>by
  have h1:=(wO hb).1;exact(hm.block b h1 (fun e=>by have:=hX b e;omega)).trans hb
 exact⟨k _ _ o_ h.op,k _ _ o_ h.res,k _ _ o_ h.x⟩
theorem Bx.below (h:Bx w E op)(Cz:Below w.heap.size w w'):Bx w' E op:=h.mod (X:=fun _ =>False) (Mod.of Cz) (fun _ e=>e.elim)
structure Op1 (wq:World)(B c a fs m:Nat)(S:Nat->Prop)(F:List Nd)(clock:Int)(p:Pool)(L:List Slot)(l:List SpM)(oq:O11)(er:Int)(X:Nat->Prop)(S':Nat->Prop)(xr:Int)(p':Pool)(L':List Slot)(l':List SpM)(w1:World):Prop where
 hse:Hse w1 B c a fs m S' F xr p' L' l'
 mod:Mod X wq w1
 foot: ∀b,X b->av S c m b\/ ∃(k:Nat) (x:SpM),l[k]? =some x/\(b=x.s\/b=x.t)
 o:Out S S' wq
 next:cI wq l l'
 same:l'.map (·.s)=l.map (·.s)
 lo:clock<=xr
 hi:xr<=clock+32
 done:Do11 F p L l oq er p' L' l'
def cG (wq:World)(B c a fs m:Nat)(S:Nat->Prop)(F:List Nd)(clock:Int)(p:Pool)(L:List Slot)(l:List SpM)(o:O11)(er:Int)(w1:World):Prop:= ∃X S' xr p' L' l',Op1 wq B c a fs m S F clock p L l o er X S' xr p' L' l' w1
variable {o:O11}{k:Nat}{x:SpM}
variable {er:Int}
theorem cG.idle (h:Hse w B c a fs m S F clock p L l)(hb:Below w.heap.size w w')(hd:Do11 F p L l o er p L l):cG w B c a fs m S F clock p L l o er w':=
 ⟨fun _ =>False,S,clock,p,L,l,h.below hb,Mod.of hb,fun _ e=>e.elim,Out.refl _ _,cI.refl _ _,rfl,Int.le_refl _,o_,hd⟩
theorem Hse.goneOf (h:Hse w B c a fs m S F clock p L l)(hk:l[k]? =some x)(hT:x.T=none):bF w (some ⟨x.s,0,none⟩):=⟨x.s,rfl,((h.each k x hk).dead hT).cell⟩
def Err1 (w:World)(B c a fs m:Nat)(S:Nat->Prop)(F:List Nd)(clock:Int)(p:Pool)(L:List Slot)(l:List SpM)(o:O11)(e:Ending)(w':World):Prop:= ∃er,e= .returned (.int .i64 er)/\Hid (cG w B c a fs m S F clock p L l o er w')
variable {xq:Nat}
theorem cG.turn {res:List Reg}{A':Option Addr}{T':Tab}(h:Hse w B c a fs m S F clock p L l)(hk:l[k]? =some x)(h2:Hse w' B c a fs m S F clock p' L (l.set k (x.withR A' xq res T')))(hm:Mod (fun b=>av S c m b\/b=x.s) w w')(hA: ∀ad,A'=some ad->x.A=some ad\/w.heap.size<=ad.block)(hd:Do11 F p L l o er p' L (l.set k (x.withR A' xq res T'))):cG w B c a fs m S F clock p L l o er w':=
 ⟨_,S,clock,p',L,_,h2,hm,fun b e=>e.imp id fun e=>⟨k,x,hk,.inl e⟩,Out.refl _ _,cI.set hk rfl rfl hA,fE hk rfl,Int.le_refl _,o_,hd⟩
theorem k_map (h:Hse w B c a fs m S F clock p L l)(hk:l[k]? =some x)(hn:numI o.sI l.length=k)(AN:o.kd=0)(BZ:o.r.Ok):Calls prog 25 #[.pointer (some ⟨x.s,0,none⟩),.agg #[.int .u64 (o.r).fr,.int .u64 (o.r).to,.int .u8 (o.r).prot,.int .i64 (o.r).ino,.int .u64 (o.r).off]] w (Err1 w B c a fs m S F clock p L l o):=by
 cases hT:x.T with
 |none=>
  refine(um _ o.r w (h.goneOf hk hT)).mono ?_;rintro e w'⟨rfl,hb⟩;exact⟨2,rfl,wP (.idle h hb (.gone k x 2 o_ hn hk hT (.inr rfl)))⟩
 |some T=>
  refine(hmap' h hk hT o.r BZ).mono ?_;rintro e w' (⟨er,rfl,h1,h2,h3,h4⟩|⟨rfl,h0,A',xq,p',T',h4,hm,hA,hr⟩)
  ·exact⟨er,rfl,wP (.idle h h3 (.no k x T er (.inl ⟨AN,h2⟩) hn hk hT h1))⟩
  ·exact⟨0,rfl,wP (.turn h hk h4 hm (fun ad e=> .inr (hA ad e)) (.map k x T A' xq p' T' AN hn hk hT h0 hr))⟩
theorem k_unmap (h:Hse w B c a fs m S F clock p L l)(hk:l[k]? =some x)(hn:numI o.sI l.length=k)(AN:o.kd=1)(BZ:o.r.Ok):Calls prog 26 #[.pointer (some ⟨x.s,0,none⟩),.int .u64 o.r.fr,.int .u64 o.r.to] w (Err1 w B c a fs m S F clock p L l o):=by
 cases hT:x.T with
 |none=>
  refine(pE _ _ _ w (h.goneOf hk hT)).mono ?_;rintro e w'⟨rfl,hb⟩;exact⟨2,rfl,wP (.idle h hb (.gone k x 2 o_ hn hk hT (.inr rfl)))⟩
 |some T=>
  refine(hunmap h hk hT o.r.fr o.r.to BZ.fr0 BZ.fr1 BZ.to0 BZ.to1).mono ?_;rintro e w' (⟨er,rfl,h1,h2,h3,h4⟩|⟨rfl,h0,A',xq,p',T',h4,hm,hA,hr⟩)
  ·exact⟨er,rfl,wP (.idle h h3 (.no k x T er (.inr (.inl ⟨AN,h2⟩)) hn hk hT h1))⟩
  ·exact⟨0,rfl,wP (.turn h hk h4 hm (fun ad e=> .inr (hA ad e)) (.unmap k x T A' xq p' T' AN hn hk hT h0 hr))⟩
theorem vm (h:Hse w B c a fs m S F clock p L l)(hk:l[k]? =some x)(hl:l.length<=100)(hn:numI o.sI l.length=k)(AN:o.kd=2)(BZ:o.r.Ok):Calls prog 27 #[.pointer (some ⟨x.s,0,none⟩),.int .u64 o.r.fr,.int .u64 o.r.to,.int .u8 o.r.prot] w (Err1 w B c a fs m S F clock p L l o):=by
 cases hT:x.T with
 |none=>
  refine(mu _ _ _ _ w (h.goneOf hk hT)).mono ?_;rintro e w'⟨rfl,hb⟩;exact⟨2,rfl,wP (.idle h hb (.gone k x 2 o_ hn hk hT (.inr rfl)))⟩
 |some T=>
  obtain⟨q,hq⟩: ∃q:Nat,o.r.prot=(q:Int):=⟨o.r.prot.toNat,by have:=BZ.prot0;omega⟩;rw[hq];refine(hprotect h hk hT hl o.r.fr o.r.to q BZ.fr0 BZ.fr1 BZ.to0 BZ.to1).mono ?_;rintro e w' (⟨er,rfl,h1,h2,h3,h4⟩|⟨rfl,h0,A',xq,p',T',h4,hm,hA,hr⟩)
  ·exact⟨er,rfl,wP (.idle h h3 (.no k x T er (.inr (.inr ⟨AN,q,hq,h2⟩)) hn hk hT h1))⟩
  ·exact⟨0,rfl,wP (.turn h hk h4 hm (fun ad e=> .inr (hA ad e)) (.prot k x T A' xq p' T' q AN hn hk hT hq h0 hr))⟩
variable {want:Int}
theorem vl {Ab:Option Addr}{cq:Nat}(h:Hse w B c a fs m S F clock p L l)(hk:l[k]? =some x)(hl:l.length<=100)(hn:numI o.sI l.length=k)(AN:(o.kd=4/\want=2)\/(o.kd=6/\want=0))(Bh:o.addr<18446744073709551616)(BU:0<=clock/\clock+32<1000000)(hq:o.q<=140737488355328)(Ot:o.q<=cq)(hb:ap w Ab o.q o.d)(hd: ∀j,o.d j<256)(Gw: ∀ad,Ab=some ad->ad.block<w.heap.size/\ ¬av S c m ad.block):
  Calls prog 71 #[.pointer (some ⟨x.s,0,none⟩),.int .u64 (o.addr:Int),.slice Ab o.q cq,.int .u8 want] w fun e w'=> ∃er,e= .returned (.int .i64 er)/\Hid (cG w B c a fs m S F clock p L l o er w')/\Hid (ap w' Ab o.q o.d):=by
 cases hT:x.T with
 |none=>
  refine(pG _ _ _ Ab o.q cq w (h.goneOf hk hT)).mono ?_;rintro e w'⟨rfl,Le⟩;exact⟨2,rfl,wP (.idle h Le (.gone k x 2 o_ hn hk hT (.inr rfl))),wP (hb.kept Le)⟩
 |some T=>
  refine(oM h hk hT hl o.addr o.q cq want Ab o.d Bh BU o_ Ot hb hd Gw).mono ?_;rintro e w'⟨er,p',L',T',xr,S',rfl,h2,hm,ho,zT,Ar,xJ⟩;exact⟨er,rfl,wP ⟨_,S',xr,p',L',_,h2,hm,fun b e=> .inl e,ho,cI.set hk rfl rfl (fun ad e=> .inl e),fE hk rfl,zT,Ar,.store k x T want er p' L' T' AN hn hk hT xJ⟩,wP (hb.run hm Gw)⟩
theorem k_free (h:Hse w B c a fs m S F clock p L l)(hk:l[k]? =some x)(hn:numI o.sI l.length=k)(AN:o.kd=8):Calls prog 21 #[.pointer (some ⟨x.s,0,none⟩)] w fun e w'=>e= .returned (.tuple #[])/\Hid (cG w B c a fs m S F clock p L l o 0 w'):=by
 cases hT:x.T with
 |none=>
  refine(sl _ w (h.goneOf hk hT)).mono ?_;rintro e w'⟨rfl,rfl⟩;exact⟨rfl,wP (.idle h (xp _ _) (.gone k x 0 o_ hn hk hT (.inl rfl)))⟩
 |some T=>
  refine(qg h hk hT).mono ?_;rintro e w'⟨rfl,h2,hm⟩;exact⟨rfl,wP ⟨_,S,clock,_,L,_,h2,hm,fun b e=>e.imp id fun e=>⟨k,x,hk,e⟩,Out.refl _ _,cI.set hk rfl rfl (fun ad e=> .inl e),fE hk rfl,Int.le_refl _,o_,.free k x T AN hn hk hT⟩⟩
theorem k_load (h:Hse w B c a fs m S F clock p L l)(hk:l[k]? =some x)(hl:l.length<=100)(hn:numI o.sI l.length=k)(AN:(o.kd=3/\want=4)\/(o.kd=5/\want=0))(Bh:o.addr<18446744073709551616)(BU:0<=clock/\clock+32<1000000):
  Calls prog 70 #[.pointer (some ⟨x.s,0,none⟩),.int .u64 (o.addr:Int),.int .i64 o.n,.int .u8 want] w fun e w'=> ∃Rb kk cp er d X S' xr p' L' l',e= .returned (.tuple #[.slice Rb kk cp,.int .i64 er])/\Hid (Op1 w B c a fs m S F clock p L l o er X S' xr p' L' l' w')/\Hid (OwnB w' w.heap.size Rb cp kk d)/\Hid (∀g,Rb.map (·.block)=some g-> ¬S' g)/\Hid (∀(j:Nat) (y:SpM),l'[j]? =some y->LtW w y)/\Hid (kk<=65536):=by
 cases hT:x.T with
 |none=>
  refine(sk _ _ _ _ w (h.goneOf hk hT)).mono ?_;rintro e w'⟨rfl,hb⟩;exact⟨none,0,0,2,fun _ =>0,fun _ =>False,S,clock,p,L,l,rfl,wP ⟨h.below hb,Mod.of hb,fun _ e=>e.elim,Out.refl _ _,cI.refl _ _,rfl,Int.le_refl _,o_,.gone k x 2 o_ hn hk hT (.inr rfl)⟩,wP (OwnB.nilB _ _ _),wP (fun g e=>by cases e),wP h.lt,wP o_⟩
 |some T=>
  refine(kR h hk hT hl o.addr o.n want Bh BU).mono ?_;rintro e w'⟨er,Rb,kk,cp,d,p',L',T',xr,S',rfl,h2,hm,ho,zT,Ar,xC,⟨Me,zo⟩,xJ⟩;exact⟨Rb,kk,cp,er,d,_,S',xr,p',L',_,rfl,wP ⟨h2,hm,fun b e=> .inl e,ho,cI.set hk rfl rfl (fun ad e=> .inl e),fE hk rfl,zT,Ar,.load k x T want er kk d p' L' T' AN hn hk hT xJ⟩,wP xC,wP Me,wP (fun j y hj=>by
   rcases bJ hj with⟨_,rfl,_⟩|⟨_,hj⟩
   ·exact(h.lt k x hk).withT
   ·exact h.lt j y hj),wP zo⟩
theorem k_new (h:Hse w B c a fs m S F clock p L l)(AN:o.kd=9):Calls prog 24 #[.pointer (some ⟨c,0,none⟩)] w fun e w'=>
  (∃s t f p' L' S',e= .returned (.tuple #[.pointer (some ⟨s,0,none⟩),.int .i64 0])/\Hid (Hse w' B c a fs m S' F clock p' L' (l++[⟨s,t,f,none,0,0,[],some (aH f)⟩]))/\Hid (Mod (av S c m) w w')/\Hid (Out S S' w)/\Hid (w.heap.size<=s/\w.heap.size<=t)/\Hid (Do11 F p L l o 0 p' L' (l++[⟨s,t,f,none,0,0,[],some (aH f)⟩])))\/
  (e= .returned (.tuple #[.pointer none,.int .i64 4])/\Hid (cG w B c a fs m S F clock p L l o 4 w')):=by
 refine(hnew h).mono ?_;rintro e w' (⟨s,t,f,p',L',S',rfl,h2,hm,ho,yi,ht⟩|⟨f,p',L',S',rfl,h2,hm,ho,ht,rfl,rfl⟩)
 ·exact .inl ⟨s,t,f,p',L',S',rfl,wP h2,wP hm,wP ho,wP yi,wP (.new s t f p' L' AN ht)⟩
 ·exact .inr ⟨rfl,wP ⟨_,S',clock,_,_,l,h2,hm,fun b e=> .inl e,ho,cI.refl _ _,rfl,Int.le_refl _,o_,.newNo f AN ht⟩⟩
def SpM.twin (x:SpM)(s t f:Nat)(A:Option Addr)(cap:Nat)(T:Tab):SpM:=⟨s,t,f,A,x.n,cap,x.rl,some T⟩
theorem k_fork (h:Hse w B c a fs m S F clock p L l)(hk:l[k]? =some x)(hl:l.length<6)(hn:numI o.sI l.length=k)(AN:o.kd=7):Calls prog 32 #[.pointer (some ⟨x.s,0,none⟩)] w fun e w'=>
  (∃s t f A' xq p' L' T' T2 S',e= .returned (.tuple #[.pointer (some ⟨s,0,none⟩),.int .i64 0])/\Hid (Hse w' B c a fs m S' F clock p' L' (l.set k (x.withT T')++[x.twin s t f A' xq T2]))/\Hid (Mod (av S c m) w w')/\Hid (Out S S' w)/\Hid (w.heap.size<=s/\w.heap.size<=t/\ ∀ad,A'=some ad->w.heap.size<=ad.block)/\Hid (Do11 F p L l o 0 p' L' (l.set k (x.withT T')++[x.twin s t f A' xq T2])))\/
  (∃er,e= .returned (.tuple #[.pointer none,.int .i64 er])/\er≠0/\Hid (cG w B c a fs m S F clock p L l o er w')):=by
 cases hT:x.T with
 |none=>
  refine(sm _ w (h.goneOf hk hT)).mono ?_;rintro e w'⟨rfl,rfl⟩;exact .inr ⟨2,rfl,d_,wP (.idle h (xp _ _) (.gone k x 2 o_ hn hk hT (.inr rfl)))⟩
 |some T=>
  have yM:=(h.live hk hT).rgs.right;have Mf:x.n<900000:=by
   have h1:=(h.live hk hT).one.row.len;have h2:=(ck yM).2;omega
  refine(hfork h hk hT o_ Mf).mono ?_;rintro e w' (⟨p',L',S',rfl,h2,hm,ho,xL⟩|⟨s2,t2,f,A',xq,p',L',T',T2,S',rfl,h2,hm,ho,hs,hd⟩)
  ·exact .inr ⟨4,rfl,d_,wP ⟨_,S',clock,p',L',l,h2,hm,fun b e=> .inl e,ho,cI.refl _ _,rfl,Int.le_refl _,o_,.forkNo k x T p' L' AN hn hk hT xL hl⟩⟩
  ·exact .inl ⟨s2,t2,f,A',xq,p',L',T',T2,S',rfl,wP h2,wP hm,wP ho,wP hs,wP (.fork k x T s2 t2 f A' xq p' L' T' T2 AN hn hk hT hd)⟩
theorem Op1.bx (h:Hou w hb B c a fs m S F clock p L l R cr ls)(h1:Op1 wq B c a fs m S F clock p L l o er X S' xr p' L' l' w1)(hx:Bx wq w.heap.size op):Bx w1 w.heap.size op:=
 hx.mod h1.mod fun b e=> .inl (by
  have hl:=h.hse.home.lts;rcases h1.foot b e with e|⟨k,x,hk,e⟩
  ·rcases e with e|e|e
   ·exact hl.2.2 b e
   ·omega
   ·omega
  ·have h5:=h.hse.lt k x hk;have:=h5.s;have:=h5.t;omega)
variable {W:World}
theorem Bx.facts (h:Bx W E op):W.cell? ⟨E+1+1,0,none⟩=some (.slice none 0 0)/\W.cell? ⟨E+1+1,1,none⟩=some (.int .i64 0)/\W.frozen? ⟨E+1+1,0,none⟩=false/\W.frozen? ⟨E+1+1,1,none⟩=false/\W.frozen? ⟨E+1,0,none⟩=false/\W.frozen? ⟨E+1,1,none⟩=false/\W.cell? ⟨E+1,0,none⟩=some (.slice none 0 0)/\W.cell? ⟨E+1,1,none⟩=some (.int .i64 0):=
 ⟨aa h.x 0,aa h.x 1,ae h.x 0,ae h.x 1,ae h.res 0,ae h.res 1,aa h.res 0,aa h.res 1⟩
theorem cG.bx (h:Hou w hb B c a fs m S F clock p L l R cr ls)(h1:cG wq B c a fs m S F clock p L l o er w1)(hx:Bx wq w.heap.size op):Bx w1 w.heap.size op:=by
 obtain⟨X,S',xr,p',L',l',h1⟩:=h1;exact h1.bx h hx
theorem Hou.footLt (h:Hou w hb B c a fs m S F clock p L l R cr ls)(e:av S c m b\/ ∃(k:Nat) (x:SpM),l[k]? =some x/\(b=x.s\/b=x.t)):B<=b/\b<w.heap.size:=by
 have hl:=h.hse.home.lts;refine⟨h.lowF b (e.imp id fun e=> .inr (.inr e)),?_⟩;rcases e with e|⟨k,x,hk,e⟩
 ·rcases e with e|e|e
  ·exact hl.2.2 b e
  ·omega
  ·omega
 ·have h5:=h.hse.lt k x hk;have:=h5.s;have:=h5.t;omega
variable {d:Nat->Nat}
theorem ap.run0 {G:Nat->Prop}{Z:Option Addr}{n:Nat}(h:ap w Z n d)(hm:Mod G w W)(hZ: ∀ad,Z=some ad->0<n->ad.block<w.heap.size/\ ¬G ad.block):ap W Z n d:=fun h0=>h.run hm (fun ad e=>hZ ad e h0) h0
variable {u v:Value}
theorem mn {x y:Value}{T:TypeId}(h:W.heap[E]? =some (.cells #[x,y] T (0,0))):((W.setCell ⟨E,0,none⟩ u).setCell ⟨E,1,none⟩ v).cell? ⟨E,0,none⟩=some u/\((W.setCell ⟨E,0,none⟩ u).setCell ⟨E,1,none⟩ v).cell? ⟨E,1,none⟩=some v/\Mod (fun b=>b=E) W ((W.setCell ⟨E,0,none⟩ u).setCell ⟨E,1,none⟩ v):=by
 have h1:=Joins.block_setCell (i:=0) h u;have h2:=Joins.block_setCell (i:=1) h1 v;exact⟨aa h2 0,aa h2 1,(aj (S:=fun b=>b=E) rfl 0 _).trans (Out.refl _ _) (aj (S:=fun b=>b=E) rfl 1 _)⟩
theorem jo (E:Nat)(tmps:Array Value)(v0 v1:Value)(w:World)(ht:tmps.getD 4 undef= .pointer (some ⟨E,0,none⟩))(h0:w.cell? ⟨E,0,none⟩=some v0)(h1:w.cell? ⟨E,1,none⟩=some v1):
  (results Tryz.f15 tmps).run prog w= .ok (.tuple #[.agg #[v0,v1],tmps.getD 5 undef]) w:=by
 rw[results_cell_tmp rfl,ht];simp[go_sem,h0,h1]
variable {tmps:Array Value}{Rb:Option Addr}{kk cp:Nat}
theorem iD (h:Hou w hb B c a fs m S F clock p L l R cr (l.map (·.s)))(zG:l.length<=6)(xR:Below w.heap.size w wq)(Ib:w.heap.size+3<=wq.heap.size)(h1:Op1 wq B c a fs m S F clock p L l o er X S' xr p' L' l' w1)(hY:Mod Y w1 W)(Lf: ∀b,Y b->w.heap.size<=b/\(b<wq.heap.size\/dR S' B c m hb R l' b))
  (hr:W.heap[w.heap.size+1]? =some (.cells #[.slice none 0 0, .int .i64 0] 41 (0,0)))(ht:tmps.getD 4 undef= .pointer (some ⟨w.heap.size+1,0,none⟩))(h5:tmps.getD 5 undef= .bool true):
  bodyPost prog Tryz.f15 (po w hb B c a fs m S F clock p L l R o) .ret ⟨tmps,[]⟩ ((W.setCell ⟨w.heap.size+1,0,none⟩ (.slice Rb kk cp)).setCell ⟨w.heap.size+1,1,none⟩ (.int .i64 er)):=by
 obtain⟨c0,c1,hm⟩:=mn (u:= .slice Rb kk cp) (v:= .int .i64 er) hr;refine bodyPost_ret (jo (w.heap.size+1) _ _ _ _ ht c0 c1) rfl ?_;have ZD:Mod (fun b=>Y b\/b=w.heap.size+1) w1 ((W.setCell ⟨w.heap.size+1,0,none⟩ (.slice Rb kk cp)).setCell ⟨w.heap.size+1,1,none⟩ (.int .i64 er)):=(hY.sub fun b e=> .inl e).trans (Out.refl _ _) (hm.sub fun b e=> .inr e);obtain⟨a1,a2,a3,a4⟩:=h.ends xR h1.hse h1.mod h1.foot h1.o h1.next h1.same ZD (fun b e=>e.elim (Lf b) (fun e=>⟨o_,.inl o_⟩));have hlen:l'.length=l.length:=(by have:=congrArg List.length h1.same;simpa using this);exact⟨Rb,kk,cp,er,xr,S',p',L',l',R,cr,by rw[h5],a1,o_,h1.lo,h1.hi,a2,a3,h1.done,a4⟩
theorem cY (h:Hou w hb B c a fs m S F clock p L l R cr (l.map (·.s)))(zG:l.length<=6)(xR:Below w.heap.size w wq)(Ib:w.heap.size+3<=wq.heap.size)(hx:Bx wq w.heap.size op)(h1:cG wq B c a fs m S F clock p L l o er w1)(ht:tmps.getD 4 undef= .pointer (some ⟨w.heap.size+1,0,none⟩))(h5:tmps.getD 5 undef= .bool true):
  bodyPost prog Tryz.f15 (po w hb B c a fs m S F clock p L l R o) .ret ⟨tmps,[]⟩ ((w1.setCell ⟨w.heap.size+1,0,none⟩ (.slice none 0 0)).setCell ⟨w.heap.size+1,1,none⟩ (.int .i64 er)):=by
 obtain⟨X,S',xr,p',L',l',h1⟩:=h1;exact iD h zG xR Ib h1 (Mod.refl (fun _ =>False) _) (fun _ e=>e.elim) (h1.bx h hx).res ht h5
theorem jg (h:Hou w hb B c a fs m S F clock p L l R cr (l.map (·.s)))(zG:l.length<=6)(xR:Below w.heap.size w wq)(Ib:w.heap.size+3<=wq.heap.size)(hx:Bx wq w.heap.size op)(h1:cG wq B c a fs m S F clock p L l o er w1)(ht:tmps.getD 4 undef= .pointer (some ⟨w.heap.size+1,0,none⟩))(h5:tmps.getD 5 undef= .bool true):
  bodyPost prog Tryz.f15 (po w hb B c a fs m S F clock p L l R o) .ret ⟨tmps,[]⟩ (((w1.setCell ⟨w.heap.size+1+1,1,none⟩ (.int .i64 er)).setCell ⟨w.heap.size+1,0,none⟩ (.slice none 0 0)).setCell ⟨w.heap.size+1,1,none⟩ (.int .i64 er)):=by
 obtain⟨X,S',xr,p',L',l',h1⟩:=h1;have zY:=h1.bx h hx;have hm:=aj (S:=fun b=>b=w.heap.size+1+1) (w:=w1) (b:=w.heap.size+1+1) rfl 1 (.int .i64 er);exact iD h zG xR Ib h1 hm (fun b e=>⟨o_,.inl o_⟩) ((hm.block _ (wO zY.res).1 o_).trans zY.res) ht h5
variable {w7:World}
theorem Hou.bx7 (h:Hou w hb B c a fs m S F clock p L l R cr ls)(hx:Bx wq w.heap.size op)(hm:Mod (av S c m) wq w1)(yY:Mod (fun b=>R=some ⟨b,0,none⟩\/b=hb) w1 w7):Bx w7 w.heap.size op:=by
 have hl:=h.hse.home.lts;have hhb:=h.lt;exact(hx.mod hm fun b e=> .inl (by
  rcases e with e|e|e
  ·exact hl.2.2 b e
  ·omega
  ·omega)).mod yY fun b e=> .inl (e.elim (fun e=>(h.row.lt b e).2) (fun e=>o_))
variable {g:Nat}
theorem ma {l1:List SpM}(h:Hou w hb B c a fs m S F clock p L l R cr (l.map (·.s)))(zG:l.length<6)(xR:Below w.heap.size w wq)(Ib:w.heap.size+3<=wq.heap.size)(hx:Bx wq w.heap.size op)
  (hm:Mod (av S c m) wq w1)(ho:Out S S' wq)(hn:cI wq l (l1++[y]))(hs:l1.map (·.s)=l.map (·.s))(h7:Hou w7 hb B c a fs m S' F clock p' L' (l1++[y]) (some ⟨g,0,none⟩) xq (l.map (·.s)++[y.s]))(yY:Mod (fun b=>R=some ⟨b,0,none⟩\/b=hb) w1 w7)(hg:R=some ⟨g,0,none⟩\/w1.heap.size<=g)(hd:Do11 F p L l o 0 p' L' (l1++[y]))(ht:tmps.getD 4 undef= .pointer (some ⟨w.heap.size+1,0,none⟩))(h5:tmps.getD 5 undef= .bool true):
  bodyPost prog Tryz.f15 (po w hb B c a fs m S F clock p L l R o) .ret ⟨tmps,[]⟩ ((w7.setCell ⟨w.heap.size+1,0,none⟩ (.slice none 0 0)).setCell ⟨w.heap.size+1,1,none⟩ (.int .i64 0)):=by
 have hl:=h.hse.home.lts;have hz:=hm.size;have TJ:=yY.size;have hhb:=h.lt;have hR: ∀b,R=some ⟨b,0,none⟩->b<w.heap.size:=fun b e=>(h.row.lt b e).2;have Ix:Bx w7 w.heap.size op:=(hx.mod hm fun b e=> .inl (by
  rcases e with e|e|e
  ·exact hl.2.2 b e
  ·omega
  ·omega)).mod yY fun b e=> .inl (e.elim (hR b) (fun e=>o_))
 obtain⟨c0,c1,Ch⟩:=mn (u:= .slice none 0 0) (v:= .int .i64 0) Ix.res;refine bodyPost_ret (jo (w.heap.size+1) _ _ _ _ ht c0 c1) rfl ?_;have hlen:l1.length=l.length:=(by have:=congrArg List.length hs;simpa using this);have hE:=h.mine (b:=w.heap.size+1) o_ ho hn o_ o_;have hN:dR S' B c m hb (some ⟨g,0,none⟩) (l1++[y]) (w.heap.size+1):=⟨hE.1,hE.2.1,hE.2.2.1,fun e=>by
  injection e with e;injection e with e;rcases hg with hg|hg
  ·have:=hR g hg;omega
  ·omega,hE.2.2.2.2⟩
 have VH:cI w l (l1++[y]):=fun k z hz=>(hn k z hz).imp (fun⟨j,x,e1,e2,e3,e4⟩=>⟨j,x,e1,e2,e3,fun ad e=>(e4 ad e).imp id (fun e=>o_)⟩) (fun⟨e1,e2,e3⟩=>⟨o_,o_,fun ad e=>by have:=e3 ad e;omega⟩);refine⟨none,0,0,0,clock,S',p',L',l1++[y],some ⟨g,0,none⟩,xq,by rw[h5],?_,by rw[wU,xc];omega,Int.le_refl _,o_,?_,?_,hd,VH⟩
 ·rw[List.map_append,hs];exact h7.aside Ch fun b e=>by subst e;exact hN
 ·exact((((Mod.of xR).trans (Out.refl _ _) (hm.sub (T:=fun b=>houF S c m hb R l b\/w.heap.size<=b) fun b e=> .inl (.inl e))).trans (Out.refl _ _) (yY.sub fun b e=> .inl (e.elim (fun e=> .inr (.inr (.inl e))) (fun e=> .inr (.inl e))))).trans (Out.refl _ _) (Ch.sub fun b e=> .inr o_)).own fun b e=>e
 ·refine rB (fun b e=>(ho b e).imp id (fun e=>o_)) VH (fun g' e=>?_);injection e with e;injection e with e;subst e;exact hg.imp id (fun e=>o_)
def RowJ (w:World)(base:Nat)(Rb:Option Addr)(cp kk:Nat):Prop:= ∃d,OwnB w base Rb cp kk d
theorem RowJ.some_of {base:Nat}(h:RowJ w base Rb cp kk)(h0:0<kk): ∃g,Rb=some ⟨g,0,none⟩:=by
 obtain⟨d,h⟩:=h;exact h.some_of h0
structure nC (E:Nat)(wq w1:World)(Rb:Option Addr)(cp kk:Nat)(u v:Value)(wr:World):Prop where
 row:RowJ wr wq.heap.size Rb cp kk
 mod:Mod (fun b=>b=E+1+1\/Rb=some ⟨b,0,none⟩) w1 wr
 x:wr.heap[E+1+1]? =some (.cells #[u,v] 41 (0,0))
 res:wr.heap[E+1]? =some (.cells #[.slice none 0 0,.int .i64 0] 41 (0,0))
variable {wr:World}
theorem nC.put {j y:Nat}(h:nC E wq w1 (some ⟨g,0,none⟩) cp kk u v wr)(hj:j<kk)(hE:E+1+1<wq.heap.size):nC E wq w1 (some ⟨g,0,none⟩) cp kk u v (wr.setCell ⟨g,j,none⟩ (.int .u8 (y:Int))):=by
 obtain⟨⟨d,h1⟩,h2,h3,h4⟩:=h;have hm:=aj (S:=fun b=>b=g) (w:=wr) (b:=g) rfl j (.int .u8 (y:Int));have hg:=h1.form;exact⟨⟨_,h1.put hj⟩,h2.trans (Out.refl _ _) (hm.sub fun b e=> .inr (by rw[e])),(hm.block _ (wO h3).1 o_).trans h3,(hm.block _ (wO h4).1 o_).trans h4⟩
theorem nC.foot (hJ:nC w.heap.size wq w1 Rb cp kk u v wr)(h:Hou w hb B c a fs m S F clock p L l R cr ls)(Ib:w.heap.size+3<=wq.heap.size)(hz:w.heap.size<=wq.heap.size)(xC:OwnB w1 wq.heap.size Rb cp kk d)(Me: ∀g,Rb.map (·.block)=some g-> ¬S' g)(xw: ∀(j:Nat) (y:SpM),l'[j]? =some y->LtW wq y):
  ∀b,(b=w.heap.size+1+1\/Rb=some ⟨b,0,none⟩)->w.heap.size<=b/\(b<wq.heap.size\/dR S' B c m hb R l' b):=fun b e=>by
 rcases e with e|e
 ·exact⟨o_,.inl o_⟩
 ·have h1:=(xC.blk b (by rw[e];rfl)).1;have hl:=h.hse.home.lts;have hB:=h.hse.home.base;have hhb:=h.lt;refine⟨o_,.inr ⟨fun e2=>?_,o_,o_,fun e2=>by have:=(h.row.lt b e2).2;omega,fun k y hk=>?_⟩⟩
  ·rcases e2 with e2|e2|e2
   ·exact Me b (by rw[e];rfl) e2
   ·omega
   ·omega
  ·have h5:=xw k y hk;have h6:=h5.s;have h7:=h5.t;exact⟨o_,o_,fun ad e3=>by have:=h5.r ad e3;omega⟩
theorem Bx.lt (h:Bx w E op):E+1+1<w.heap.size:=(wO h.x).1
end
section
open Go.RowKit Go.Sort
theorem tz (hb B c a fs m:Nat)(S:Nat->Prop)(F:List Nd)(clock:Int)(p:Pool)(L:List Slot)(l:List SpM)(R A:Option Addr)(cr cq:Nat)(kd sI:Int)(r:Reg)(addr q:Nat)(n:Int)(d:Nat->Nat)(w:World)(h:Hou w hb B c a fs m S F clock p L l R cr (l.map (·.s)))(zG:l.length<=6)(BU:0<=clock/\clock+32<1000000)(ym:pl w B ⟨kd,sI,r,addr,n,q,d⟩ A cq):
  Calls prog 15 #[.pointer (some ⟨hb,0,none⟩),.agg #[.int .i64 kd,.int .i64 sI,.int .u64 r.fr,.int .u64 r.to,.int .u8 r.prot,.int .i64 r.ino,.int .u64 r.off,.int .u64 (addr:Int),.int .i64 n,.slice A q cq]] w (po w hb B c a fs m S F clock p L l R ⟨kd,sI,r,addr,n,q,d⟩):=by
 obtain⟨w0,xv⟩:=e_ (((w.alloc (.cells #[.int .i64 kd,.int .i64 sI,.int .u64 r.fr,.int .u64 r.to,.int .u8 r.prot,.int .i64 r.ino,.int .u64 r.off,.int .u64 (addr:Int),.int .i64 n,.slice A q cq] 47)).alloc (.cells #[.slice none 0 0,.int .i64 0] 41)).alloc (.cells #[.slice none 0 0,.int .i64 0] 41));have xz:Below w.heap.size w w0:=(by rw[xv];exact(wR.alloc s_ _).alloc t_ _);have xT:w0.heap.size=w.heap.size+3:=(by rw[xv];simp);have EA:Bx w0 w.heap.size (opV ⟨kd,sI,r,addr,n,q,d⟩ A cq):=by
  rw[xv];refine⟨?_,?_,?_⟩
  ·exact(wT _ _ _ t_).trans ((wT _ _ _ s_).trans (ab w _))
  ·have h9:=ab (w.alloc (.cells #[.int .i64 kd,.int .i64 sI,.int .u64 r.fr,.int .u64 r.to,.int .u8 r.prot,.int .i64 r.ino,.int .u64 r.off,.int .u64 (addr:Int),.int .i64 n,.slice A q cq] 47)) (.cells #[.slice none 0 0,.int .i64 0] 41);exact(wT _ _ _ s_).trans (by simpa using h9)
  ·have h9:=ab ((w.alloc (.cells #[.int .i64 kd,.int .i64 sI,.int .u64 r.fr,.int .u64 r.to,.int .u8 r.prot,.int .i64 r.ino,.int .u64 r.off,.int .u64 (addr:Int),.int .i64 n,.slice A q cq] 47)).alloc (.cells #[.slice none 0 0,.int .i64 0] 41)) (.cells #[.slice none 0 0,.int .i64 0] 41);simpa using h9
 have Ky:=h.below xz;have e0:w0.cell? ⟨w.heap.size,0,none⟩=some (.int .i64 kd):=aa EA.op 0;have e1:w0.cell? ⟨w.heap.size,1,none⟩=some (.int .i64 sI):=aa EA.op 1;have o2:w0.cell? ⟨hb,2,none⟩=some (.pointer (some ⟨c,0,none⟩)):=aa Ky.self 2;have o3:w0.cell? ⟨hb,3,none⟩=some (.slice R l.length cr):=by
  have h9:=Ky.self;rw[List.length_map]at h9;exact aa h9 3
 have hhb:=h.lt;obtain⟨xU,yd,Fv,Fc,HH,yQ⟩:=zh6 xv xz EA Ky h ym;have Wg:(l.length:Int)<=6:=o_;clear xv xz EA Ky ym h;by_cases h9:kd=9
 ·subst h9;by_cases Mz:(6:Int)<=(l.length:Int)
  ·have OI:decide ((6:Int)<=(l.length:Int))=true:=xh Mz;obtain⟨y0,y1,y2,y3,y4,y5,y6,y7⟩:=Fv.o.facts;go_enter func15,ntmps15;go_upto_region 2 with(fail);rw[<-xU.o];go_wp2_with fail;exact cY HH.o zG yd.o o_ Fv.o (.idle Fc.o.hse (xp _ _) (.idle (by unfold gy;dsimp only;omega))) rfl rfl
  have OI:decide ((6:Int)<=(l.length:Int))=false:=xg Mz;have HK:=wP (k_new (o:=⟨9,sI,r,addr,n,q,d⟩) Fc.o.hse rfl);have BI:=Fc;have hz0':=xT;go_enter func15,ntmps15;go_upto_region 2 with(fail);rw[<-xU.o];go_upto_region 6 with(first
   |(go_at_call 24;refine(HK.o).mono ?_;rintro e w1 (⟨s1,t1,f1,p1,L1,S1,rfl,Ye,Jp,yB,UF,Od⟩|⟨rfl,HP⟩))
   |fail)
  rotate_left
  ·obtain⟨y0,y1,y2,y3,y4,y5,y6,y7⟩:=(HP.o.bx HH.o Fv.o).facts;clear e0 e1 o2 o3;go_wp2_with fail;exact cY HH.o zG yd.o o_ Fv.o HP.o rfl rfl
  clear e0 e1 o2 o3 OI;have xT:w.heap.size+3<=w0.heap.size:=o_;have Jl:Hid (cI w0 l (l++[⟨s1,t1,f1,none,0,0,[],some (aH f1)⟩])):=wP ((cI.refl _ _).snoc ⟨UF.o.1,UF.o.2,fun ad e=>by cases e⟩);have Gd:=wP (BI.o.next Ye.o (X:=av S c m) Jp.o (fun b e=> .inl e) yB.o Jl.o);have hp3:w1.cell? ⟨hb,3,none⟩=some (.slice R l.length cr):=by
   have h9:=Gd.o.self;rw[List.length_map]at h9;exact aa h9 3
  have IF:=Gd.o.lt;have OW:=Gd.o.hse.home.base;have NF:=wP (show Below w1.heap.size w1 (w1.alloc (.cells #[.pointer (some ⟨s1,0,none⟩)] 60))from wR);go_upto_region 8 with(first
   |(at_builtin;refine jj mB rfl (.tmp 42) (.tmp 44) rfl B R cr l.length (l.map (·.s)) (by rw[List.length_map]) rfl (Gd.o.row.alloc _) s1 w1.heap.size 1 rfl (ab _ _) o_ t_ ?_;intro g6 Bi w6 Bq Cy Bw Bc;have FX:=Gd.o.push NF.o Bq Cy Bw Bc;have Gt:w6.heap[hb]? =w1.heap[hb]? :=(Gd.o.far NF.o Cy);have p1:w6.cell? ⟨hb,3,none⟩=some (.slice R l.length cr):=(bI Gt).trans hp3;have p2:w6.frozen? ⟨hb,3,none⟩=false:=ae (Gt.trans Gd.o.self) 3;rw[List.length_map]at FX;have Jj:=wP FX;clear FX Gt Bq Cy Bw Bc)
   |fail)
  obtain⟨w7,zu⟩:=e_ (w6.setCell ⟨hb,3,none⟩ (.slice (some ⟨g6,0,none⟩) (l.length+1) Bi));rw[<-zu];have Cs:=Jj;rw[<-zu]at Cs;obtain⟨y0,y1,y2,y3,y4,y5,y6,y7⟩:=(HH.o.bx7 Fv.o Jp.o Cs.o.2.1).facts;clear zu Jj p1 p2 hp3;go_wp2_with fail;exact ma HH.o o_ yd.o xT Fv.o Jp.o yB.o Jl.o rfl Cs.o.1 Cs.o.2.1 Cs.o.2.2 Od.o rfl rfl
 have k9:(kd==9)=false:=(by rw[xf];exact h9);have Mc:=fun dd os=>Calls.regrown_of ((lM sI l.length o_ (grow (redrawn w0 dd) os)).mono fun e w' ⟨h1,h2⟩=>⟨h1,h2▸xp (grow (redrawn w0 dd) os).heap.size (grow (redrawn w0 dd) os)⟩);have f1: ∀dd os,(grow (redrawn w0 dd) os).cell? ⟨w.heap.size,1,none⟩=some (.int .i64 sI):=fun dd os=>cell_regrown e1 dd os;have f3: ∀dd os,(grow (redrawn w0 dd) os).cell? ⟨hb,3,none⟩=some (.slice R l.length cr):=fun dd os=>cell_regrown o3 dd os;have Tm:=wP Mc;clear Mc;go_enter func15,ntmps15;go_upto_region 2 with(fail);rw[<-xU.o];go_upto_region 9 with(fail);refine wp_region_quiet_below k_ k_ ?_;(repeat(go_big_quiet_step ((exact Tm.o _ _))));refine wpQuiet_nil ?_;intro _ yX;obtain⟨⟨dq,osq⟩,hw''⟩:=yX;subst hw'';have xR:=below_regrown (w0) dq osq;generalize grow (redrawn (w0) dq) osq=wq at xR⊢;clear e0 e1 o2 o3 f1 f3 k9;have Wq:=Fc.o.below xR;have UJ:=Fv.o.below xR;have xT:w.heap.size+3<=wq.heap.size:=(by have:=xR.size;omega);have XJ:Below w.heap.size w wq:=yd.o.trans (xR.mono yd.o.size);obtain⟨BI,yk,Cb⟩:=zh3 Wq UJ XJ;clear Wq UJ XJ xR;by_cases AM:l.length=0
 ·have hn:numI sI l.length= -1:=(by unfold numI;rw[if_pos AM]);rw[hn];obtain⟨y0,y1,y2,y3,y4,y5,y6,y7⟩:=yk.o.facts;have Tn:=wP (show¬gy ⟨kd,sI,r,addr,n,q,d⟩ l.length from by unfold gy;dsimp only;omega);clear hn AM;go_wp2_with fail;exact cY HH.o zG Cb.o xT yk.o (.idle BI.o.hse (xp _ _) (.idle Tn.o)) rfl rfl
 obtain⟨k,zz,JI⟩:=uZ sI (n:=l.length) o_;obtain⟨x,hx⟩: ∃x,l[k]? =some x:=⟨_,wV zz⟩;have Ic:(l.map (·.s))[k]? =some x.s:=(by rw[xj,hx];rfl);obtain⟨gR,rfl⟩: ∃g,R=some ⟨g,0,none⟩:=by
  rcases BI.o.row.form with⟨_,e,_⟩|⟨g,e,_⟩
  ·exact absurd (by have:=congrArg List.length e;simpa using this) AM
  ·exact⟨g,e⟩
 have o3:wq.cell? ⟨hb,3,none⟩=some (.slice (some ⟨gR,0,none⟩) l.length cr):=by
  have h9:=BI.o.self;rw[List.length_map]at h9;exact aa h9 3
 have WU:wq.cell? ⟨gR,k,none⟩=some (.pointer (some ⟨x.s,0,none⟩)):=by
  have h8:=BI.o.row.cell mB Ic 0 o_;rw[Nat.mul_one,Nat.add_zero]at h8;rw[h8];rfl
 have zo:(k:Int)<(l.length:Int):=o_;have zh: ¬((k:Int)<0):=o_;have Qk:decide ((k:Int)<0)=false:=xg zh;rw[JI];have e0:wq.cell? ⟨w.heap.size,0,none⟩=some (.int .i64 kd):=aa yk.o.op 0;obtain⟨FC,HX⟩:=zh2 JI hx;clear JI hx Ic AM;go_upto_region 14 with(fail);clear o3 WU zh Qk zo e0;by_cases k0:kd=0
 ·subst k0;have HK:=wP (k_map (o:=⟨0,sI,r,addr,n,q,d⟩) BI.o.hse HX.o FC.o rfl yQ.o.ok);have e2:wq.cell? ⟨w.heap.size,2,none⟩=some (.int .u64 r.fr):=aa yk.o.op 2;have e3:wq.cell? ⟨w.heap.size,3,none⟩=some (.int .u64 r.to):=aa yk.o.op 3;have e4:wq.cell? ⟨w.heap.size,4,none⟩=some (.int .u8 r.prot):=aa yk.o.op 4;have e5:wq.cell? ⟨w.heap.size,5,none⟩=some (.int .i64 r.ino):=aa yk.o.op 5;have e6:wq.cell? ⟨w.heap.size,6,none⟩=some (.int .u64 r.off):=aa yk.o.op 6;go_wp2_with (first
   |(go_at_call 25;refine(HK.o).mono ?_;rintro e w1⟨er,rfl,HP⟩;obtain⟨y0,y1,y2,y3,y4,y5,y6,y7⟩:=(HP.o.bx HH.o yk.o).facts)
   |fail)
  exact jg HH.o zG Cb.o xT yk.o HP.o rfl rfl
 by_cases k1:kd=1
 ·subst k1;have HK:=wP (k_unmap (o:=⟨1,sI,r,addr,n,q,d⟩) BI.o.hse HX.o FC.o rfl yQ.o.ok);have e2:wq.cell? ⟨w.heap.size,2,none⟩=some (.int .u64 r.fr):=aa yk.o.op 2;have e3:wq.cell? ⟨w.heap.size,3,none⟩=some (.int .u64 r.to):=aa yk.o.op 3;go_wp2_with (first
   |(go_at_call 26;refine(HK.o).mono ?_;rintro e w1⟨er,rfl,HP⟩;obtain⟨y0,y1,y2,y3,y4,y5,y6,y7⟩:=(HP.o.bx HH.o yk.o).facts)
   |fail)
  exact jg HH.o zG Cb.o xT yk.o HP.o rfl rfl
 by_cases k2:kd=2
 ·subst k2;have HK:=wP (vm (o:=⟨2,sI,r,addr,n,q,d⟩) BI.o.hse HX.o o_ FC.o rfl yQ.o.ok);have e2:wq.cell? ⟨w.heap.size,2,none⟩=some (.int .u64 r.fr):=aa yk.o.op 2;have e3:wq.cell? ⟨w.heap.size,3,none⟩=some (.int .u64 r.to):=aa yk.o.op 3;have e4:wq.cell? ⟨w.heap.size,4,none⟩=some (.int .u8 r.prot):=aa yk.o.op 4;go_wp2_with (first
   |(go_at_call 27;refine(HK.o).mono ?_;rintro e w1⟨er,rfl,HP⟩;obtain⟨y0,y1,y2,y3,y4,y5,y6,y7⟩:=(HP.o.bx HH.o yk.o).facts)
   |fail)
  exact jg HH.o zG Cb.o xT yk.o HP.o rfl rfl
 by_cases k7:kd=7
 ·subst k7;have o3:wq.cell? ⟨hb,3,none⟩=some (.slice (some ⟨gR,0,none⟩) l.length cr):=by
   have h9:=BI.o.self;rw[List.length_map]at h9;exact aa h9 3
  by_cases Mz:(6:Int)<=(l.length:Int)
  ·have OI:decide ((6:Int)<=(l.length:Int))=true:=xh Mz;obtain⟨y0,y1,y2,y3,y4,y5,y6,y7⟩:=yk.o.facts;go_wp2_with fail;exact cY HH.o zG Cb.o xT yk.o (.idle BI.o.hse (xp _ _) (.idle (by unfold gy;dsimp only;omega))) rfl rfl
  have OI:decide ((6:Int)<=(l.length:Int))=false:=xg Mz;have HK:=wP (k_fork (o:=⟨7,sI,r,addr,n,q,d⟩) BI.o.hse HX.o o_ FC.o rfl);go_upto_region 46 with(fail);clear o3 OI;go_upto_region 47 with(first
   |(go_at_call 32;refine(HK.o).mono ?_;rintro e w1 (⟨s1,t1,f1,A1,xt,p1,L1,T1,U1,S1,rfl,Ye,Jp,yB,UF,Od⟩|⟨er,rfl,Bs,HP⟩))
   |fail)
  rotate_left
  ·have q1:(er==0)=false:=(by rw[xf];exact Bs);have q2:(er != 0)=true:=(by rw[bne_iff_ne];exact Bs);obtain⟨y0,y1,y2,y3,y4,y5,y6,y7⟩:=(HP.o.bx HH.o yk.o).facts;go_wp2_with fail;exact cY HH.o zG Cb.o xT yk.o HP.o rfl rfl
  have Jl:Hid (cI wq l (l.set k (x.withT T1)++[x.twin s1 t1 f1 A1 xt U1])):=wP ((cI.set (y:=x.withT T1) HX.o rfl rfl (fun ad e=> .inl e)).snoc UF.o);have Gd:=wP (BI.o.next Ye.o (X:=av S c m) Jp.o (fun b e=> .inl e) yB.o Jl.o);have hp3:w1.cell? ⟨hb,3,none⟩=some (.slice (some ⟨gR,0,none⟩) l.length cr):=by
   have h9:=Gd.o.self;rw[List.length_map]at h9;exact aa h9 3
  have IF:=Gd.o.lt;have OW:=Gd.o.hse.home.base;have NF:=wP (show Below w1.heap.size w1 (w1.alloc (.cells #[.pointer (some ⟨s1,0,none⟩)] 60))from wR);go_upto_region 49 with(first
   |(at_builtin;refine jj mB rfl (.tmp 205) (.tmp 207) rfl B (some ⟨gR,0,none⟩) cr l.length (l.map (·.s)) (by rw[List.length_map]) rfl (Gd.o.row.alloc _) s1 w1.heap.size 1 rfl (ab _ _) o_ t_ ?_;intro g6 Bi w6 Bq Cy Bw Bc;have FX:=Gd.o.push NF.o Bq Cy Bw Bc;have Gt:w6.heap[hb]? =w1.heap[hb]? :=(Gd.o.far NF.o Cy);have p1:w6.cell? ⟨hb,3,none⟩=some (.slice (some ⟨gR,0,none⟩) l.length cr):=(bI Gt).trans hp3;have p2:w6.frozen? ⟨hb,3,none⟩=false:=ae (Gt.trans Gd.o.self) 3;rw[List.length_map]at FX;have Jj:=wP FX;clear FX Gt Bq Cy Bw Bc)
   |fail)
  obtain⟨w7,zu⟩:=e_ (w6.setCell ⟨hb,3,none⟩ (.slice (some ⟨g6,0,none⟩) (l.length+1) Bi));rw[<-zu];have Cs:=Jj;rw[<-zu]at Cs;obtain⟨y0,y1,y2,y3,y4,y5,y6,y7⟩:=(HH.o.bx7 yk.o Jp.o Cs.o.2.1).facts;clear zu Jj p1 p2 hp3;go_wp2_with fail;exact ma HH.o o_ Cb.o xT yk.o Jp.o yB.o Jl.o (fE HX.o rfl) Cs.o.1 Cs.o.2.1 Cs.o.2.2 Od.o rfl rfl
 by_cases k8:kd=8
 ·subst k8;have HK:=wP (k_free (o:=⟨8,sI,r,addr,n,q,d⟩) BI.o.hse HX.o FC.o rfl);go_wp2_with (first
   |(go_at_call 21;refine(HK.o).mono ?_;rintro e w1⟨rfl,HP⟩;obtain⟨y0,y1,y2,y3,y4,y5,y6,y7⟩:=(HP.o.bx HH.o yk.o).facts)
   |fail)
  exact cY HH.o zG Cb.o xT yk.o HP.o rfl rfl
 by_cases k35:kd=3\/kd=5
 ·rcases k35 with rfl|rfl;have HK:=wP (jK (.pointer (some ⟨x.s,0,none⟩)) (.int .u64 (addr:Int)) (.int .i64 n) wq (fun e w'=> ∃Rb kk cp er d1 X S' xr p' L' l',e= .returned (.tuple #[.slice Rb kk cp,.int .i64 er])/\Hid (Op1 wq B c a fs m S F clock p L l ⟨3,sI,r,addr,n,q,d⟩ er X S' xr p' L' l' w')/\Hid (OwnB w' wq.heap.size Rb cp kk d1)/\Hid (∀g,Rb.map (·.block)=some g-> ¬S' g)/\Hid (∀(j:Nat) (y:SpM),l'[j]? =some y->LtW wq y)/\Hid (kk<=65536)) ((k_load (o:=⟨3,sI,r,addr,n,q,d⟩) (want:=4) BI.o.hse HX.o o_ FC.o (.inl ⟨rfl,rfl⟩) yQ.o.addr BU).mono fun e w' ⟨Rb,kk,cp,er,d1,X,S',xr,p',L',l',h1,h2⟩=>⟨⟨_,_,h1⟩,Rb,kk,cp,er,d1,X,S',xr,p',L',l',h1,h2⟩));have e0:wq.cell? ⟨w.heap.size,0,none⟩=some (.int .i64 3):=aa yk.o.op 0
  rotate_left
  have HK:=wP (sPeek_of (.pointer (some ⟨x.s,0,none⟩)) (.int .u64 (addr:Int)) (.int .i64 n) wq (fun e w'=> ∃Rb kk cp er d1 X S' xr p' L' l',e= .returned (.tuple #[.slice Rb kk cp,.int .i64 er])/\Hid (Op1 wq B c a fs m S F clock p L l ⟨5,sI,r,addr,n,q,d⟩ er X S' xr p' L' l' w')/\Hid (OwnB w' wq.heap.size Rb cp kk d1)/\Hid (∀g,Rb.map (·.block)=some g-> ¬S' g)/\Hid (∀(j:Nat) (y:SpM),l'[j]? =some y->LtW wq y)/\Hid (kk<=65536)) ((k_load (o:=⟨5,sI,r,addr,n,q,d⟩) (want:=0) BI.o.hse HX.o o_ FC.o (.inr ⟨rfl,rfl⟩) yQ.o.addr BU).mono fun e w' ⟨Rb,kk,cp,er,d1,X,S',xr,p',L',l',h1,h2⟩=>⟨⟨_,_,h1⟩,Rb,kk,cp,er,d1,X,S',xr,p',L',l',h1,h2⟩));have e0:wq.cell? ⟨w.heap.size,0,none⟩=some (.int .i64 5):=aa yk.o.op 0
  all_goals
   have e7:wq.cell? ⟨w.heap.size,7,none⟩=some (.int .u64 (addr:Int)):=aa yk.o.op 7;have e8:wq.cell? ⟨w.heap.size,8,none⟩=some (.int .i64 n):=aa yk.o.op 8;go_upto_region 26 with(first
    |(go_at_call 28;refine(HK.o).mono ?_;rintro e w1⟨Rb,kk,cp,er,d1,X,S1,xy,p1,L1,l1,rfl,HP,QH,Pn,UA,Tq⟩;obtain⟨y0,y1,y2,y3,y4,y5,y6,y7⟩:=(HP.o.bx HH.o yk.o).facts)
    |(go_at_call 29;refine(HK.o).mono ?_;rintro e w1⟨Rb,kk,cp,er,d1,X,S1,xy,p1,L1,l1,rfl,HP,QH,Pn,UA,Tq⟩;obtain⟨y0,y1,y2,y3,y4,y5,y6,y7⟩:=(HP.o.bx HH.o yk.o).facts)
    |fail)
   have DC:=wP (HP.o.bx HH.o yk.o);obtain⟨w2,yl⟩:=e_ (w1.setCell ⟨w.heap.size+1+1,1,none⟩ (.int .i64 er));rw[<-yl];have xS:Mod (fun b=>b=w.heap.size+1+1) w1 w2:=(by rw[yl];exact aj (S:=fun b=>b=w.heap.size+1+1) rfl 1 _);have Ak:w2.heap[w.heap.size+1+1]? =some (.cells #[.slice none 0 0,.int .i64 er] 41 (0,0)):=by
    rw[yl];have h9:=Joins.block_setCell (i:=1) DC.o.x (.int .i64 er);simpa using h9
   have hzq1:=HP.o.mod.size;have SE:OwnB w2 wq.heap.size Rb cp kk d1:=QH.o.sameR fun g e=>xS.block g (QH.o.blk g (by rw[e];rfl)).2 (by have:=(QH.o.blk g (by rw[e];rfl)).1;omega);have z0:w2.cell? ⟨w.heap.size+1+1,0,none⟩=some (.slice none 0 0):=aa Ak 0;have zf:=ae Ak 0;have ZX:w.heap.size+1+1<w2.heap.size:=(wO Ak).1;have GK:=nr SE.vAny;have zo:=Tq.o;obtain⟨Ex,Fu,HOB2,KP⟩:=zh4 xS Ak SE GK;clear yl xS Ak SE GK y0 y1 y2 y3 y4 y5 y6 y7 e0 e7 e8;go_upto_region 27 with(first
    |(at_builtin;refine nw nt rfl (.tmp 135) (.tmp 136) rfl w2.heap.size none 0 0 kk [] ((List.range kk).map d1) rfl s_ rfl (OwnG.nil _ _) Rb cp rfl KP.o o_ (wS _) ?_;intro R3 zQ w3 Am xE;have z1:w3.cell? ⟨w.heap.size+1+1,0,none⟩=some (.slice none 0 0):=(xE.cell ZX).trans z0;have zf1:w3.frozen? ⟨w.heap.size+1+1,0,none⟩=false:=ae ((xE.block _ ZX).trans Fu.o) 0;have yZ:=wP xE;clear xE Am)
    |fail)
   obtain⟨w4,zV⟩:=e_ (w3.setCell ⟨w.heap.size+1+1,0,none⟩ (.slice R3 kk zQ));rw[<-zV];have Bm:w4.heap[w.heap.size+1+1]? =some (.cells #[.slice R3 kk zQ,.int .i64 er] 41 (0,0)):=by
    rw[zV];have h9:=Joins.block_setCell (i:=0) ((yZ.o.block _ ZX).trans Fu.o) (.slice R3 kk zQ);simpa using h9
   have zl:Mod (fun b=>b=w.heap.size+1+1) w1 w4:=(Ex.o.trans (Out.refl _ _) (Mod.of yZ.o)).trans (Out.refl _ _) (by rw[zV];exact aj (S:=fun b=>b=w.heap.size+1+1) rfl 0 _);have Kv:nC w.heap.size wq w1 Rb cp kk (.slice R3 kk zQ) (.int .i64 er) w4:=⟨⟨d1,QH.o.sameR fun g e=>zl.block g (QH.o.blk g (by rw[e];rfl)).2 (by have:=(QH.o.blk g (by rw[e];rfl)).1;omega)⟩,zl.sub fun b e=> .inl e,Bm,(zl.block _ (wO DC.o.res).1 o_).trans DC.o.res⟩;have UD:=wP Kv;clear zV Bm zl Kv z0 zf z1 zf1;go_wp2_with fail;go_loopw [12] (fun i wr=> ∃j:Nat,i= .int .i64 (j:Int)/\j<=kk/\nC w.heap.size wq w1 Rb cp kk (.slice R3 kk zQ) (.int .i64 er) wr) (fun i _ =>kk-(intOf i).toNat)
   case atStart=>exact⟨0,rfl,xm _,UD.o⟩
   case round=>
    obtain⟨j,rfl,hj,hJ⟩:=hrel;by_cases CR:j<kk
    ·obtain⟨g,rfl⟩:=hJ.row.some_of o_;obtain⟨dj,xG⟩:=hJ.row;have b1:=xG.cell CR;have b2:wr.frozen? ⟨g,j,none⟩=false:=OwnG.free xG.toG j;have zz:(j:Int)<(kk:Int):=o_;have HJ:=wP hJ;clear xG hJ;go_wp2_with fail;go_roundw
     case rel=>exact⟨j+1,by go_num,o_,HJ.o.put (y:=238) CR yk.o.lt⟩
     case measure=>(simp[intOf];omega)
    ·obtain rfl:j=kk:=o_;have c0:wr.cell? ⟨w.heap.size+1+1,0,none⟩=some (.slice R3 j zQ):=aa hJ.x 0;have c1:wr.cell? ⟨w.heap.size+1+1,1,none⟩=some (.int .i64 er):=aa hJ.x 1;have c2:wr.frozen? ⟨w.heap.size+1,0,none⟩=false:=ae hJ.res 0;have c3:wr.frozen? ⟨w.heap.size+1,1,none⟩=false:=ae hJ.res 1;have c4:wr.cell? ⟨w.heap.size+1,0,none⟩=some (.slice none 0 0):=aa hJ.res 0;have c5:wr.cell? ⟨w.heap.size+1,1,none⟩=some (.int .i64 0):=aa hJ.res 1;have HJ:=wP hJ;clear hJ;go_wp2_with fail;exact iD HH.o zG Cb.o xT HP.o HJ.o.mod (HJ.o.foot HH.o xT Cb.o.size QH.o Pn.o UA.o) HJ.o.res rfl rfl
 have k3: ¬kd=3:=fun e=>k35 (.inl e);have k5: ¬kd=5:=fun e=>k35 (.inr e);by_cases k46:kd=4\/kd=6
 ·rcases k46 with rfl|rfl;have e0:wq.cell? ⟨w.heap.size,0,none⟩=some (.int .i64 4):=aa yk.o.op 0
  rotate_left
  have e0:wq.cell? ⟨w.heap.size,0,none⟩=some (.int .i64 6):=aa yk.o.op 0
  all_goals
   have e9:wq.cell? ⟨w.heap.size,9,none⟩=some (.slice A q cq):=aa yk.o.op 9;have Ae:ap wq A q d:=yQ.o.bytes.kept Cb.o;have Su:Below wq.heap.size wq (wq.alloc (.cells #[] 5)):=wR;have KP:=wP (nr (Ae.kept Su));have e9a:(wq.alloc (.cells #[] 5)).cell? ⟨w.heap.size,9,none⟩=some (.slice A q cq):=(Su.cell (p:=⟨w.heap.size,9,none⟩) (by show w.heap.size<wq.heap.size;omega)).trans e9;have TE:=wP Su;have hq6:=yQ.o.q;dsimp only at hq6;clear Ae Su;go_upto_region 34 with(first
    |(at_builtin;refine nw nt rfl (.tmp 151) (.tmp 153) rfl wq.heap.size (some ⟨wq.heap.size,0,none⟩) 0 0 q [] ((List.range q).map d) rfl s_ rfl (OwnB.toG (d:=fun _ =>0) (OwnB.none_made wq)) A cq rfl KP.o o_ s_ ?_;intro R3 zQ w1 yJ xu;have yB:Hid (OwnB w1 wq.heap.size R3 zQ q d):=wP (OwnB.ofG yJ);have xI:=wP (TE.o.trans xu);clear yJ xu)
    |fail)
   have xQ:=xI.o.size;obtain⟨DC,Nu,TD⟩:=zh3 (yk.o.below xI.o) (BI.o.below xI.o) (Cb.o.trans (xI.o.mono Cb.o.size));have BP:=BI.o.hse.home.lts;have FW: ∀ad,R3=some ad->wq.heap.size<=ad.block/\ad.block<w1.heap.size:=fun ad e=>by
    rcases yB.o.formA with⟨e2,_⟩|⟨g,e2,h1,h2⟩
    ·rw[e2]at e;cases e
    ·rw[e2]at e;injection e with e;subst e;exact⟨h1,h2⟩
   have WS:q<=zQ:=by
    rcases yB.o.toG.form with⟨_,e2,_⟩|⟨g,_,_,_,e2⟩
    ·have:q=0:=(by simpa using congrArg List.length e2);omega
    ·simpa using e2
  have HK:=wP (sPoke_of (.pointer (some ⟨x.s,0,none⟩)) (.int .u64 (addr:Int)) (.slice R3 q zQ) w1 (fun e w'=> ∃er,e= .returned (.int .i64 er)/\Hid (cG w1 B c a fs m S F clock p L l ⟨6,sI,r,addr,n,q,d⟩ er w')/\Hid (ap w' R3 q d)) ((vl (o:=⟨6,sI,r,addr,n,q,d⟩) (want:=0) (Ab:=R3) (cq:=zQ) Nu.o.hse HX.o o_ FC.o (.inr ⟨rfl,rfl⟩) yQ.o.addr BU hq6 WS yB.o.vAny yQ.o.small (fun ad e=>⟨(FW ad e).2,fun e2=>by have h1:=(FW ad e).1;rcases e2 with e2|e2|e2;(have:=BP.2.2 _ e2;omega);omega;omega⟩)).mono fun e w' ⟨er,h1,h2⟩=>⟨⟨_,h1⟩,er,h1,h2⟩));have f0:w1.cell? ⟨w.heap.size,0,none⟩=some (.int .i64 6):=aa DC.o.op 0
  rotate_left
  have HK:=wP (nY (.pointer (some ⟨x.s,0,none⟩)) (.int .u64 (addr:Int)) (.slice R3 q zQ) w1 (fun e w'=> ∃er,e= .returned (.int .i64 er)/\Hid (cG w1 B c a fs m S F clock p L l ⟨4,sI,r,addr,n,q,d⟩ er w')/\Hid (ap w' R3 q d)) ((vl (o:=⟨4,sI,r,addr,n,q,d⟩) (want:=2) (Ab:=R3) (cq:=zQ) Nu.o.hse HX.o o_ FC.o (.inl ⟨rfl,rfl⟩) yQ.o.addr BU hq6 WS yB.o.vAny yQ.o.small (fun ad e=>⟨(FW ad e).2,fun e2=>by have h1:=(FW ad e).1;rcases e2 with e2|e2|e2;(have:=BP.2.2 _ e2;omega);omega;omega⟩)).mono fun e w' ⟨er,h1,h2⟩=>⟨⟨_,h1⟩,er,h1,h2⟩));have f0:w1.cell? ⟨w.heap.size,0,none⟩=some (.int .i64 4):=aa DC.o.op 0
  all_goals
   have f7:w1.cell? ⟨w.heap.size,7,none⟩=some (.int .u64 (addr:Int)):=aa DC.o.op 7;clear e0 e9 e9a;go_upto_region 37 with(first
    |(go_at_call 30;refine(HK.o).mono ?_;rintro e w2⟨er,rfl,Uy,YX⟩;obtain⟨y0,y1,y2,y3,y4,y5,y6,y7⟩:=(Uy.o.bx (HH.o) (DC.o)).facts)
    |(go_at_call 31;refine(HK.o).mono ?_;rintro e w2⟨er,rfl,Uy,YX⟩;obtain⟨y0,y1,y2,y3,y4,y5,y6,y7⟩:=(Uy.o.bx (HH.o) (DC.o)).facts)
    |fail)
   obtain⟨X,S1,xy,p1,L1,l1,Ig⟩:=Uy.o;obtain⟨HP,Fu⟩:=zh2 Ig (Ig.bx HH.o DC.o);have Xh: ∀b,X b->B<=b/\b<w.heap.size:=fun b e=>HH.o.footLt (Ig.foot b e);obtain⟨w3,yU⟩:=e_ (w2.setCell ⟨w.heap.size+1+1,1,none⟩ (.int .i64 er));rw[<-yU];have zF:Mod (fun b=>b=w.heap.size+1+1) w2 w3:=(by rw[yU];exact aj (S:=fun b=>b=w.heap.size+1+1) rfl 1 _);have EJ:w3.heap[w.heap.size+1+1]? =some (.cells #[.slice none 0 0,.int .i64 er] 41 (0,0)):=by
    rw[yU];have h9:=Joins.block_setCell (i:=1) Fu.o.x (.int .i64 er);simpa using h9
   have SG:OwnB w3 wq.heap.size R3 zQ q d:=yB.o.sameR fun g e=>by
    have h1:=FW _ e;dsimp only at h1;exact(zF.block g (by have:=Ig.mod.size;omega) o_).trans (Ig.mod.block g h1.2 (fun e2=>by have:=Xh g e2;omega))
   have Qw:ap w3 A q d:=(yQ.o.bytes.kept TD.o).run0 (((Ig.mod.sub (T:=fun b=>X b\/b=w.heap.size+1+1) fun b e=> .inl e)).trans (Out.refl _ _) (zF.sub fun b e=> .inr e)) fun ad e h0=>by
    have h1:=yQ.o.low ad e h0;have h2:=HH.o.hse.home.base;exact⟨by have:=TD.o.size;omega,fun e2=>e2.elim (fun e2=>by have:=Xh _ e2;omega) (fun e2=>o_)⟩
   have AK:=sq R3 A q zQ cq d w3 SG.vAny Qw o_ WS yQ.o.cap;have g9:w3.cell? ⟨w.heap.size,9,none⟩=some (.slice A q cq):=(bI (zF.block _ (wO Fu.o.op).1 o_)).trans (aa Fu.o.op 9);obtain⟨Ur,Jk,Ew,CF,KQ⟩:=zh5 AK SG zF EJ ((zF.block _ (wO Fu.o.res).1 o_).trans Fu.o.res);clear yU zF EJ SG Qw AK Ig f0 f7 y0 y1 y2 y3 y4 y5 y6 y7;go_upto_region 38 with(first
    |(go_at_call 20;refine(Ur.o).mono ?_;rintro e w4⟨rfl,yG⟩;have Ax:=wP yG;clear yG)
    |fail)
   have Kv:nC w.heap.size wq w2 R3 zQ q (.slice none 0 0) (.int .i64 er) w4:=⟨⟨d,Jk.o.sameR fun g e=>Ax.o.block g (Jk.o.blk g (by rw[e];rfl)).2⟩,(Ew.o.sub fun b e=> .inl e).trans (Out.refl _ _) (Mod.of Ax.o),(Ax.o.block _ (wO CF.o).1).trans CF.o,(Ax.o.block _ (wO KQ.o).1).trans KQ.o⟩;have UD:=wP Kv;clear Kv g9;go_wp2_with fail;go_loopw [15] (fun i wr=> ∃j:Nat,i= .int .i64 (j:Int)/\j<=q/\nC w.heap.size wq w2 R3 zQ q (.slice none 0 0) (.int .i64 er) wr) (fun i _ =>q-(intOf i).toNat)
   case atStart=>exact⟨0,rfl,xm _,UD.o⟩
   case round=>
    obtain⟨j,rfl,hj,hJ⟩:=hrel;by_cases CR:j<q
    ·obtain⟨g,rfl⟩:=hJ.row.some_of o_;obtain⟨dj,xG⟩:=hJ.row;have b1:=xG.cell CR;have b2:wr.frozen? ⟨g,j,none⟩=false:=OwnG.free xG.toG j;have zz:(j:Int)<(q:Int):=o_;have HJ:=wP hJ;clear xG hJ;go_wp2_with fail;go_roundw
     case rel=>exact⟨j+1,by go_num,o_,HJ.o.put (y:=237) CR yk.o.lt⟩
     case measure=>(simp[intOf];omega)
    ·obtain rfl:j=q:=o_;have c0:wr.cell? ⟨w.heap.size+1+1,0,none⟩=some (.slice none 0 0):=aa hJ.x 0;have c1:wr.cell? ⟨w.heap.size+1+1,1,none⟩=some (.int .i64 er):=aa hJ.x 1;have c2:wr.frozen? ⟨w.heap.size+1,0,none⟩=false:=ae hJ.res 0;have c3:wr.frozen? ⟨w.heap.size+1,1,none⟩=false:=ae hJ.res 1;have c4:wr.cell? ⟨w.heap.size+1,0,none⟩=some (.slice none 0 0):=aa hJ.res 0;have c5:wr.cell? ⟨w.heap.size+1,1,none⟩=some (.int .i64 0):=aa hJ.res 1;have HJ:=wP hJ;clear hJ;go_wp2_with fail;exact iD HH.o zG TD.o o_ HP.o HJ.o.mod (fun b e=>e.elim (fun e=>⟨o_,.inl o_⟩) (fun e=>by have h1:=FW _ e;dsimp only at h1;exact⟨o_,.inl h1.2⟩)) HJ.o.res rfl rfl
 have k4: ¬kd=4:=fun e=>k46 (.inl e);have k6: ¬kd=6:=fun e=>k46 (.inr e);have b0:(kd==0)=false:=(by rw[xf];exact k0);have b1:(kd==1)=false:=(by rw[xf];exact k1);have b2:(kd==2)=false:=(by rw[xf];exact k2);have b3:(kd==3)=false:=(by rw[xf];exact k3);have b4:(kd==4)=false:=(by rw[xf];exact k4);have b5:(kd==5)=false:=(by rw[xf];exact k5);have b6:(kd==6)=false:=(by rw[xf];exact k6);have b7:(kd==7)=false:=(by rw[xf];exact k7);have b8:(kd==8)=false:=(by rw[xf];exact k8);have Tn:=wP (show¬gy ⟨kd,sI,r,addr,n,q,d⟩ l.length from by unfold gy;dsimp only;omega);clear k35 k46 k0 k1 k2 k3 k4 k5 k6 k7 k8 h9;obtain⟨y0,y1,y2,y3,y4,y5,y6,y7⟩:=yk.o.facts;go_wp2_with fail;exact cY HH.o zG Cb.o xT yk.o (.idle BI.o.hse (xp _ _) (.idle Tn.o)) rfl rfl
end
