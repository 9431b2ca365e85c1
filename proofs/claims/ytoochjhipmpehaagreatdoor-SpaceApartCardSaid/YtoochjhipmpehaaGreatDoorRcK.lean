/- Regions: done of the program; Regions: joined, few, sorted, without of the references. Regions: own of the statements; Regions: without of the references. Regions: the search for a region's place. -/
import Derived.Test.YtoochjhipmpehaaGreatDoorRbK
set_option linter.unusedVariables false
set_option linter.unusedSimpArgs false
set_option maxRecDepth 100000
set_option maxHeartbeats 2000000
namespace Go.Proofs.YtoochjhipmpehaaGreatDoor
section
open Go.RowKit Go.Sort
def Rg.push (acc:List Reg) (r:Reg):List Reg:=match acc.getLast? with
 |none=>acc++[r]
 |some p=>if Rg.joins p r=true then acc.set (acc.length-1) ⟨p.fr,r.to,p.prot,p.ino,p.off⟩else acc++[r]
def Rg.joined (l:List Reg):List Reg:=l.foldl Rg.push []
def Rg.few (l:List Reg):List Reg×Int:=if 64<l.length then([],15)else(l,0)
variable {l:List Reg} {r:Reg}
theorem oT {k:Nat} (hr:l[k]? =some r):Rg.joined (l.take (k+1))=Rg.push (Rg.joined (l.take k)) r:=by
 rw[List.take_add_one,hr];simp[Rg.joined,List.foldl_append]
theorem push_len (acc:List Reg) (r:Reg):(Rg.push acc r).length<=acc.length+1:=by
 unfold Rg.push;split
 ·simp
 ·split<;>simp
theorem rt (l:List Reg):(Rg.joined l).length<=l.length:=by
 have h: ∀(l acc:List Reg),(l.foldl Rg.push acc).length<=acc.length+l.length:=by
  intro l
  induction l with
  |nil=>intro acc;simp
  |cons r l ih=>
   intro acc;have h1:=ih (Rg.push acc r);have h2:=push_len acc r;simp only[List.foldl_cons,vn];omega
 have:=h l [];simpa [Rg.joined]using this
theorem push_nil (r:Reg):Rg.push [] r=[r]:=rfl
variable {acc:List Reg} {j:Nat} {p:Reg}
theorem push_yes (hm:acc.length=j+1) (hp:acc[j]? =some p) (hj:Rg.joins p r=true):Rg.push acc r=acc.set j ⟨p.fr,r.to,p.prot,p.ino,p.off⟩:=by
 unfold Rg.push;have:acc.getLast? =some p:=(by rw[List.getLast?_eq_getElem?,hm];exact hp);rw[this];simp[hj,hm]
theorem push_no (hm:acc.length=j+1) (hp:acc[j]? =some p) (hj:Rg.joins p r=false):Rg.push acc r=acc++[r]:=by
 unfold Rg.push;have:acc.getLast? =some p:=(by rw[List.getLast?_eq_getElem?,hm];exact hp);rw[this];simp[hj]
theorem qT (hp:l[j]? =some p) (t:Int):(rcs l).set (j*5+1) (.int .u64 t)=rcs (l.set j ⟨p.fr,t,p.prot,p.ino,p.off⟩):=by
 induction l generalizing j with
 |nil=>simp at hp
 |cons x l ih=>
  cases j with
  |zero=>
   simp at hp;subst hp;simp[rcs,rc]
  |succ j=>
   simp at hp;have e:=ih hp;have e0:(j+1)*5=j*5+1+1+1+1+1:=(by omega);simp only[rcs,rc,List.cons_append,List.nil_append,List.set_cons_succ]at e⊢;rw[e0];simp only[List.set_cons_succ];rw[<-e]
variable {w:World} {base g cap:Nat}
theorem OwnR.setTo (h:OwnR w base (some ⟨g,0,none⟩) cap l) (hp:l[j]? =some p) (t:Int):
  OwnR (w.setCell ⟨g,j*5+1,none⟩ (.int .u64 t)) base (some ⟨g,0,none⟩) cap (l.set j ⟨p.fr,t,p.prot,p.ino,p.off⟩):=by
 unfold OwnR at *
 rw[List.length_set,<-qT hp t];exact(h.stored (j*5+1) _).1
theorem OwnR.elem (h:OwnR w base (some ⟨g,0,none⟩) cap l) (hp:l[j]? =some p):kG w g (j*5) p:=by
 have hk:j<l.length:=(List.getElem?_eq_some_iff.1 hp).1;have e: ∀i,i<5->w.cell? ⟨g,j*5+i,none⟩=(rc p)[i]? :=fun i hi=>by
  rw[World.ownsRow.cellAt h (j*5+i) (by omega),oH hp i hi]
 exact⟨e 0 (by omega),e 1 (by omega),e 2 (by omega),e 3 (by omega),e 4 (by omega)⟩
theorem kA {X w2:World} {A:Option Addr} (hb:Below base w X) (vR:OwnR X base A cap l) (hg:X.grownBy w2 (A.map (·.block))) (vQ:base<=X.heap.size):Below base w w2:=
 hb.grown hg vQ fun k hk=>(vR.row k hk).1
theorem mf (A:Option Addr) (n cap:Nat) (w:World) (l:List Reg) (hl:RSl w w.heap.size A n cap l) (hf:n<=1000):
  Calls Tryz.prog 104 #[.slice A n cap] w
   fun e w'=> ∃A' vA,e= .returned (.tuple #[.slice A' (Rg.few (Rg.joined l)).1.length vA, .int .i64 (Rg.few (Rg.joined l)).2])/\OwnR w' w.heap.size A' vA (Rg.few (Rg.joined l)).1/\Below w.heap.size w w':=by
 have DI:=va hl.len;go_enter Tryz.func104,Tryz.ntmps104;go_wp2;go_loopw [4,10] (fun v i wr=> ∃k:Nat,k<=n/\i= .int .i64 k/\Below w.heap.size w wr/\ ∃A cap,v= .slice A (Rg.joined (l.take k)).length cap/\OwnR wr w.heap.size A cap (Rg.joined (l.take k))) (fun _ i _ =>n-(intOf i).toNat)
 case atStart=>exact⟨0,vw _,rfl,vz _ _,none,0,rfl,OwnR.nil _ _⟩
 case round=>
  obtain⟨k,hk,rfl,hB,A1,c1,rfl,ho⟩:=hrel;have RO:=hB.size;have Bq:=rt (l.take k);have zJ:(l.take k).length<=1000:=(by rw[List.length_take];omega);by_cases vH:k<n
  ·obtain⟨r,hr⟩: ∃r,l[k]? =some r:=⟨_,vg (by have:=DI.out;omega)⟩;obtain⟨b,off,rfl,hb,yT⟩:=hl.at_ k r hr;obtain⟨h0,h1,h2,h3,h4⟩:=yT.below hB hb;have HR:=va hr;have yB:=oa.new wr r;have b0:=fun d os=>(yB.re d os).c0;have b1:=fun d os=>(yB.re d os).c1;have b2:=fun d os=>(yB.re d os).c2;have b3:=fun d os=>(yB.re d os).c3;have b4:=fun d os=>(yB.re d os).c4;have HT:=va (oT hr);generalize Mq:Rg.joined (l.take k)=acc at *
   have wb:acc.length<1000000:=(by omega);generalize hm:acc.length=m at *
   have HM:=va hm;have HO:=va ho;clear hr yT yB ho Mq hm;rcases Nat.eq_zero_or_pos m with rfl|JO
   ·have DG:acc=[]:=List.eq_nil_of_length_eq_zero HM.out;have HN:=va DG;clear DG;go_wp2;refine wp_region_quiet_below (by kernel_rfl) (by kernel_rfl) ?_;(repeat(go_big_quiet_step (fail)));refine wpQuiet_nil ?_;intro _ xI;obtain⟨⟨dq,osq⟩,hw''⟩:=xI;subst hw'';have wM:=below_regrown (wr.alloc (.cells #[.int .u64 r.fr, .int .u64 r.to, .int .u8 r.prot, .int .i64 r.ino, .int .u64 r.off] 45)) dq osq;generalize grow (redrawn (wr.alloc (.cells #[.int .u64 r.fr, .int .u64 r.to, .int .u8 r.prot, .int .i64 r.ino, .int .u64 r.off] 45)) dq) osq=wq at wM⊢;have Ll:=wM.size;simp at Ll;have q0:wq.cell? ⟨wr.heap.size,0,none⟩=some (.int .u64 r.fr):=(wM.cell (p:=⟨wr.heap.size,0,none⟩) (by simp)).trans (by simp);have q1:wq.cell? ⟨wr.heap.size,1,none⟩=some (.int .u64 r.to):=(wM.cell (p:=⟨wr.heap.size,1,none⟩) (by simp)).trans (by simp);have q2:wq.cell? ⟨wr.heap.size,2,none⟩=some (.int .u8 r.prot):=(wM.cell (p:=⟨wr.heap.size,2,none⟩) (by simp)).trans (by simp);have q3:wq.cell? ⟨wr.heap.size,3,none⟩=some (.int .i64 r.ino):=(wM.cell (p:=⟨wr.heap.size,3,none⟩) (by simp)).trans (by simp);have q4:wq.cell? ⟨wr.heap.size,4,none⟩=some (.int .u64 r.off):=(wM.cell (p:=⟨wr.heap.size,4,none⟩) (by simp)).trans (by simp);clear b0 b1 b2 b3 b4;go_wp2_with (at_builtin;refine pp rfl (.tmp 33) (.tmp 35) rfl (w.heap.size) A1 c1 acc (by rw[HM.out];rfl) ((((HO.out).alloc _).below wM (by simp)).alloc _) r (wq.heap.size) 1 rfl (heap_alloc_new wq _) (by rw[HM.out];omega) (by simp;omega) ?_;rw[HM.out];intro g' vA w2 BD xT xA JQ;have xE:=kA (w:=w) (by exact vb) ((((HO.out).alloc _).below wM (by simp)).alloc _) xT (by simp;omega));have wU:Rg.joined (l.take (k+1))=acc++[r]:=(by rw[HT.out,HN.out];rfl);go_roundw
    case rel=>exact⟨k+1,by omega,by go_num,xE,some ⟨g',0,none⟩,vA,by rw[wU];simp[HN.out],by rw[wU];exact BD⟩
    case measure=>simp[intOf];omega
   ·obtain⟨j,rfl⟩: ∃j,m=j+1:=⟨m-1,by omega⟩;obtain⟨g,rfl,ym,xT,Zd⟩:=(HO.out.form).resolve_left (by rintro⟨_,h,_⟩;have:=HM.out;rw[h]at this;simp at this);rw[HM.out]at Zd;obtain⟨p,hp⟩: ∃p,acc[j]? =some p:=⟨_,vg (by have:=HM.out;omega)⟩;have yZ:=(HO.out.elem hp).alloc (.cells #[.int .u64 r.fr, .int .u64 r.to, .int .u8 r.prot, .int .i64 r.ino, .int .u64 r.off] 45);have p0:=fun d os=>(yZ.re d os).c0;have p1:=fun d os=>(yZ.re d os).c1;have p2:=fun d os=>(yZ.re d os).c2;have p3:=fun d os=>(yZ.re d os).c3;have p4:=fun d os=>(yZ.re d os).c4;have HP:=va hp;clear hp yZ;have cJ:=fun d os=>tH (W:=wr.alloc (.cells #[.int .u64 r.fr, .int .u64 r.to, .int .u8 r.prot, .int .i64 r.ino, .int .u64 r.off] 45)) p r d os;cases hj:Rg.joins p r with
    |true=>
     rw[hj]at cJ;have CJ:=va cJ;have wU:=va (HT.out.trans (push_yes HM.out HP.out hj));clear cJ hj;go_wp2;refine wp_region_quiet_below (by kernel_rfl) (by kernel_rfl) ?_;(repeat(go_big_quiet_step (exact CJ.out _ _)));refine wpQuiet_nil ?_;intro _ xI;obtain⟨⟨dq,osq⟩,hw''⟩:=xI;subst hw'';have wM:=below_regrown (wr.alloc (.cells #[.int .u64 r.fr, .int .u64 r.to, .int .u8 r.prot, .int .i64 r.ino, .int .u64 r.off] 45)) dq osq;generalize grow (redrawn (wr.alloc (.cells #[.int .u64 r.fr, .int .u64 r.to, .int .u8 r.prot, .int .i64 r.ino, .int .u64 r.off] 45)) dq) osq=wq at wM⊢;have Ll:=wM.size;simp at Ll;have q1:wq.cell? ⟨wr.heap.size,1,none⟩=some (.int .u64 r.to):=(wM.cell (p:=⟨wr.heap.size,1,none⟩) (by simp)).trans (by simp);have Xc:=((HO.out).alloc (.cells #[.int .u64 r.fr, .int .u64 r.to, .int .u8 r.prot, .int .i64 r.ino, .int .u64 r.off] 45)).below wM (by simp);have qa:=(Xc.elem HP.out).c1;have qf:=World.ownsRow.frozenAt Xc (j*5+1);have xy:=va (Xc.setTo HP.out r.to);clear b0 b1 b2 b3 b4 p0 p1 p2 p3 p4 Xc;go_wp2;have wE:(acc.set j ⟨p.fr,r.to,p.prot,p.ino,p.off⟩).length=j+1:=(by rw[List.length_set,HM.out]);have zH:=xy.out;go_roundw
     case rel=>exact⟨k+1,by omega,by go_num,by exact vb,some ⟨g,0,none⟩,c1,by rw[wU.out,wE],by rw[wU.out];exact zH⟩
     case measure=>simp[intOf];omega
    |false=>
     rw[hj]at cJ;have CJ:=va cJ;have wU:=va (HT.out.trans (push_no HM.out HP.out hj));clear cJ hj;go_wp2;refine wp_region_quiet_below (by kernel_rfl) (by kernel_rfl) ?_;(repeat(go_big_quiet_step (exact CJ.out _ _)));refine wpQuiet_nil ?_;intro _ xI;obtain⟨⟨dq,osq⟩,hw''⟩:=xI;subst hw'';have wM:=below_regrown (wr.alloc (.cells #[.int .u64 r.fr, .int .u64 r.to, .int .u8 r.prot, .int .i64 r.ino, .int .u64 r.off] 45)) dq osq;generalize grow (redrawn (wr.alloc (.cells #[.int .u64 r.fr, .int .u64 r.to, .int .u8 r.prot, .int .i64 r.ino, .int .u64 r.off] 45)) dq) osq=wq at wM⊢;have Ll:=wM.size;simp at Ll;have q0:wq.cell? ⟨wr.heap.size,0,none⟩=some (.int .u64 r.fr):=(wM.cell (p:=⟨wr.heap.size,0,none⟩) (by simp)).trans (by simp);have q1:wq.cell? ⟨wr.heap.size,1,none⟩=some (.int .u64 r.to):=(wM.cell (p:=⟨wr.heap.size,1,none⟩) (by simp)).trans (by simp);have q2:wq.cell? ⟨wr.heap.size,2,none⟩=some (.int .u8 r.prot):=(wM.cell (p:=⟨wr.heap.size,2,none⟩) (by simp)).trans (by simp);have q3:wq.cell? ⟨wr.heap.size,3,none⟩=some (.int .i64 r.ino):=(wM.cell (p:=⟨wr.heap.size,3,none⟩) (by simp)).trans (by simp);have q4:wq.cell? ⟨wr.heap.size,4,none⟩=some (.int .u64 r.off):=(wM.cell (p:=⟨wr.heap.size,4,none⟩) (by simp)).trans (by simp);clear b0 b1 b2 b3 b4 p0 p1 p2 p3 p4;go_wp2_with (at_builtin;refine pp rfl (.tmp 33) (.tmp 35) rfl (w.heap.size) (some ⟨g,0,none⟩) c1 acc (by rw[HM.out];rfl) ((((HO.out).alloc _).below wM (by simp)).alloc _) r (wq.heap.size) 1 rfl (heap_alloc_new wq _) (by rw[HM.out];omega) (by simp;omega) ?_;rw[HM.out];intro g' vA w2 BD xT xA JQ;have xE:=kA (w:=w) (by exact vb) ((((HO.out).alloc _).below wM (by simp)).alloc _) xT (by simp;omega));have wE:(acc++[r]).length=j+1+1:=(by rw[vf,HM.out];rfl);go_roundw
     case rel=>exact⟨k+1,by omega,by go_num,xE,some ⟨g',0,none⟩,vA,by rw[wU.out,wE],by rw[wU.out];exact BD⟩
     case measure=>simp[intOf];omega
  ·have ht:l.take k=l:=List.take_of_length_le (by have:=DI.out;omega);have HT:=va ht;generalize Mq:Rg.joined (l.take k)=acc at *
   have HA:=va Mq;have HO:=va ho;clear ht Mq ho;by_cases Dp:64<acc.length
   ·have TY:Rg.few (Rg.joined l)=([],15):=(by rw[<-HT.out,HA.out];simp[Rg.few,Dp]);have HF:=va TY;clear TY;go_wp2;go_ret2;refine⟨none,0,?_,?_,hB⟩
    ·rw[HF.out];rfl
    ·rw[HF.out];exact OwnR.nil _ _
   ·have TY:Rg.few (Rg.joined l)=(acc,0):=(by rw[<-HT.out,HA.out];simp[Rg.few,Dp]);have HF:=va TY;clear TY;go_wp2;go_ret2;refine⟨A1,c1,?_,?_,hB⟩
    ·rw[HF.out];rfl
    ·rw[HF.out];exact HO.out
end
section
open Go.RowKit Go.Sort
def Rg.ins:List Reg->Reg->List Reg
 | [],r=>[r]
 |x::l,r=>if r.fr<x.fr then r::x::l else x::Rg.ins l r
theorem ins_len (l:List Reg) (r:Reg):(Rg.ins l r).length=l.length+1:=by
 induction l with
 |nil=>rfl
 |cons x l ih=>simp only[Rg.ins];split<;>simp[ih]
end
section
open Go.RowKit Go.Sort
theorem RSl.more {w:World} {B B':Nat} {A:Option Addr} {n cap:Nat} {l:List Reg} (h:RSl w B A n cap l) (hB:B<=B'):RSl w B' A n cap l:=
 ⟨h.len,h.cap,h.few,fun k r hr=>by
  obtain⟨b,off,e,hb,yT⟩:=h.at_ k r hr;exact⟨b,off,e,by omega,yT⟩⟩
def r5:Reg:=⟨5,0,0,0,0⟩
end
section
open Go.RowKit Go.Sort
def Rg.wo1 (f t:Int) (r:Reg):List Reg:=if r.to<=f\/t<=r.fr then [r]else(if r.fr<f then [Rg.rpart r r.fr f]else [])++(if t<r.to then [Rg.rpart r t r.to]else [])
def Rg.without (l:List Reg) (f t:Int):List Reg:=l.flatMap (Rg.wo1 f t)
theorem wo1_len (f t:Int) (r:Reg):(Rg.wo1 f t r).length<=2:=by
 unfold Rg.wo1;split
 ·simp
 ·rw[vf];split<;>split<;>simp
theorem om (l:List Reg) (f t:Int):(Rg.without l f t).length<=2*l.length:=by
 induction l with
 |nil=>simp[Rg.without]
 |cons r l ih=>
  have h1:=wo1_len f t r;simp only[Rg.without,vy,vf,vn]at *
  omega
theorem fm {w:World} {b:Nat} {r:Reg} (h:w.heap[b]? =some (.cells #[.int .u64 r.fr, .int .u64 r.to, .int .u8 r.prot, .int .i64 r.ino, .int .u64 r.off] 45 (0,0))):oa w b r:=
 ⟨ai h 0,ai h 1,ai h 2,ai h 3,ai h 4⟩
end
section
open Go.RowKit Go.Sort
structure Srch (w:World) (go gr:Nat) (A:Option Addr) (cap:Nat) (out:List Reg) (r:Reg) (B:Nat):Prop where
 cell:w.cell? ⟨go,0,none⟩=some (.slice A out.length cap)
 goB:go<B
 box:w.cell? ⟨gr,0,none⟩=some (.int .u64 r.fr)
 grB:gr<B
 rows: ∀k x,out[k]? =some x-> ∃g,A=some ⟨g,0,none⟩/\g<B/\w.cell? ⟨g,k*5,none⟩=some (.int .u64 x.fr)
variable {r:Reg}
theorem Srch.below {w w':World} {go gr:Nat} {A:Option Addr} {cap:Nat} {out:List Reg} {B:Nat} (h:Srch w go gr A cap out r B) (hb:Below B w w'):Srch w' go gr A cap out r B:=
 ⟨(
  hb.cell (p:=⟨go,0,none⟩) h.goB).trans h.cell,h.goB,(hb.cell (p:=⟨gr,0,none⟩) h.grB).trans h.box,h.grB,fun k x hx=>by
  obtain⟨g,e,hg,hc⟩:=h.rows k x hx;exact⟨g,e,hg,(hb.cell (p:=⟨g,k*5,none⟩) hg).trans hc⟩⟩
theorem putf_any (go gr:Nat) (A:Option Addr) (cap:Nat) (out:List Reg) (r x:Reg) (B k:Nat) (w:World) (h:Srch w go gr A cap out r B) (hx:out[k]? =some x) (hf:out.length<=100000):
  Calls Tryz.prog 103 #[.int .i64 k, .pointer (some ⟨go,0,none⟩), .pointer (some ⟨gr,0,none⟩)] w fun e w'=>e= .returned (.bool (decide (r.fr<x.fr)))/\Below w.heap.size w w':=by
 obtain⟨g,rfl,hg,hc⟩:=h.rows k x hx;have h0:=h.cell;have h1:=h.box;have hk:k<out.length:=(List.getElem?_eq_some_iff.1 hx).1;clear h hx;generalize out.length=n at *
 have yJ:(0:Int)<=(k:Int):=(by omega);have If:(k:Int)<(n:Int):=(by omega);go_enter Tryz.func103,Tryz.ntmps103;go_wp2;go_quiet (fail);go_wp2;go_ret;exact⟨rfl,by exact vb⟩
def js (l:List Reg):Prop:= ∀(i j:Nat) (a b:Reg),i<j->l[i]? =some a->l[j]? =some b->a.fr<=b.fr
def cO (l:List Reg) (r:Reg) (i j:Nat):Prop:=(∀(k:Nat) (a:Reg),k<i->l[k]? =some a->a.fr<=r.fr)/\(∀(k:Nat) (a:Reg),j<=k->l[k]? =some a->r.fr<a.fr)
theorem cO.start (l:List Reg) (r:Reg):cO l r 0 l.length:=⟨fun k a h=>by omega,fun k a h e=>by
 have:=(List.getElem?_eq_some_iff.1 e).1;omega⟩
variable {l:List Reg} {x:Reg} {i j h:Nat}
theorem cO.up (hs:js l) (H:cO l r i j) (hx:l[h]? =some x) (vH: ¬r.fr<x.fr):cO l r (h+1) j:=
 ⟨fun k a hk e=>by
  by_cases c:k=h
  ·subst c;rw[hx]at e;injection e with e;subst e;omega
  ·have:=hs k h a x (by omega) e hx;omega,H.2⟩
theorem cO.down (hs:js l) (H:cO l r i j) (hx:l[h]? =some x) (vH:r.fr<x.fr):cO l r i h:=
 ⟨H.1,fun k a hk e=>by
  by_cases c:k=h
  ·subst c;rw[hx]at e;injection e with e;subst e;omega
  ·have:=hs h k x a (by omega) hx e;omega⟩
theorem qO (go gr:Nat) (A:Option Addr) (cap:Nat) (out:List Reg) (r:Reg) (w:World) (h:Srch w go gr A cap out r w.heap.size) (hf:out.length<=100000) (hs:js out):
  Calls Tryz.prog 102 #[.int .i64 out.length, .func (.func 103) #[] #[.pointer (some ⟨go,0,none⟩), .pointer (some ⟨gr,0,none⟩)]] w
   fun e w'=>(∃i:Nat,i<=out.length/\e= .returned (.int .i64 i)/\cO out r i i)/\Below w.heap.size w w':=by
 have H:=va h;have HS:=va hs;have xo:=va (cO.start out r);have hn:Hid (out.length=out.length):=va rfl;clear h hs;go_enter Tryz.func102,Tryz.ntmps102;go_wp2;go_loopw [5,6] (fun i j wr=> ∃a b:Nat,a<=b/\b<=out.length/\i= .int .i64 a/\j= .int .i64 b/\Below w.heap.size w wr/\cO out r a b) (fun i j _ =>(intOf j).toNat-(intOf i).toNat)
 case atStart=>exact⟨0,out.length,by omega,vd _,rfl,rfl,vz _ _,xo.out⟩
 case round=>
  obtain⟨a,b,RB,Dj,rfl,rfl,hB,ya⟩:=hrel;have SP:=va ya;clear ya;by_cases vH:a<b
  ·obtain⟨m,hm⟩: ∃m,m=(a+b)/2:=⟨_,rfl⟩;obtain⟨x,hx⟩: ∃x,out[m]? =some x:=⟨_,vg (by omega)⟩;have JO:m<b:=(by omega);have xJ:a<=m:=(by omega);have he:Hid (((a:Int)+(b:Int))/2=(m:Int)):=va (by omega);have vT:(m:Int)<100000:=(by omega);have HX:=va hx;have xE:=hB.size;have hP:=putf_any go gr A cap out r x w.heap.size m wr (H.out.below hB) hx hf;clear hx hm;cases hd:decide (r.fr<x.fr)with
   |true=>
    rw[hd]at hP;have HP:=va hP;have wU:=va (SP.out.down HS.out HX.out (by simpa using hd));clear hP hd;go_wp2_with fail;rw[he.out];refine(HP.out).mono ?_;rintro e w1 ⟨rfl,vD⟩;go_wp2_with fail;go_roundw
    case rel=>exact⟨a,m,by omega,by omega,rfl,rfl,by exact vb,wU.out⟩
    case measure=>simp[intOf];omega
   |false=>
    rw[hd]at hP;have HP:=va hP;have wU:=va (SP.out.up HS.out HX.out (by simpa using hd));clear hP hd;go_wp2_with fail;rw[he.out];refine(HP.out).mono ?_;rintro e w1 ⟨rfl,vD⟩;go_wp2_with fail;go_roundw
    case rel=>exact⟨m+1,b,by omega,by omega,by go_num,rfl,by exact vb,wU.out⟩
    case measure=>simp[intOf];omega
  ·have UF:b=a:=(by omega);have wU:Hid (cO out r a a):=va (by have:=SP.out;rw[UF]at this;exact this);clear UF;go_wp2;go_ret;exact⟨⟨a,by omega,rfl,wU.out⟩,hB⟩
end
