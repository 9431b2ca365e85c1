/- Regions: done of the program; Regions: joined, few, sorted, without of the references. Regions: own of the statements; Regions: without of the references. Regions: the search for a region's place. -/
import Derived.Test.YtoochjhipmpehaaGreatDoorRbK
set_option linter.unusedVariables false
set_option linter.unusedSimpArgs false
set_option maxRecDepth 100000
set_option maxHeartbeats 2000000
namespace Go.Proofs.YtoochjhipmpehaaGreatDoor
section
open Go.RowKit Go.Sort
def Rg.push (acc:List Reg) (r:Reg):List Reg:=match acc.getLast? with
 |none=>acc++[r]
 |some p=>if Rg.joins p r=true then acc.set (acc.length-1) ⟨p.fr,r.to,p.prot,p.ino,p.off⟩else acc++[r]
def Rg.joined (l:List Reg):List Reg:=l.foldl Rg.push []
def Rg.few (l:List Reg):List Reg×Int:=if 64<l.length then([],15)else(l,0)
variable {l:List Reg} {r:Reg}
theorem oM {k:Nat} (hr:l[k]? =some r):Rg.joined (l.take (k+1))=Rg.push (Rg.joined (l.take k)) r:=by
 rw[List.take_add_one,hr];simp[Rg.joined,List.foldl_append]
theorem push_len (acc:List Reg) (r:Reg):(Rg.push acc r).length<=acc.length+1:=by
 unfold Rg.push;split
 ·simp
 ·split<;>simp
theorem rD (l:List Reg):(Rg.joined l).length<=l.length:=by
 have h: ∀(l acc:List Reg),(l.foldl Rg.push acc).length<=acc.length+l.length:=by
  intro l
  induction l with
  |nil=>intro acc;simp
  |cons r l ih=>
   intro acc;have h1:=ih (Rg.push acc r);have h2:=push_len acc r;simp only[List.foldl_cons,vC];omega
 have:=h l [];simpa [Rg.joined]using this
theorem push_nil (r:Reg):Rg.push [] r=[r]:=rfl
variable {acc:List Reg} {j:Nat} {p:Reg}
theorem push_yes (hm:acc.length=j+1) (hp:acc[j]? =some p) (hj:Rg.joins p r=true):Rg.push acc r=acc.set j ⟨p.fr,r.to,p.prot,p.ino,p.off⟩:=by
 unfold Rg.push;have:acc.getLast? =some p:=(by rw[List.getLast?_eq_getElem?,hm];exact hp);rw[this];simp[hj,hm]
theorem push_no (hm:acc.length=j+1) (hp:acc[j]? =some p) (hj:Rg.joins p r=false):Rg.push acc r=acc++[r]:=by
 unfold Rg.push;have:acc.getLast? =some p:=(by rw[List.getLast?_eq_getElem?,hm];exact hp);rw[this];simp[hj]
theorem qU (hp:l[j]? =some p) (t:Int):(rcs l).set (j*5+1) (.int .u64 t)=rcs (l.set j ⟨p.fr,t,p.prot,p.ino,p.off⟩):=by
 induction l generalizing j with
 |nil=>simp at hp
 |cons x l ih=>
  cases j with
  |zero=>
   simp at hp;subst hp;simp[rcs,rc]
  |succ j=>
   simp at hp;have e:=ih hp;have e0:(j+1)*5=j*5+1+1+1+1+1:=(by omega);simp only[rcs,rc,List.cons_append,List.nil_append,List.set_cons_succ]at e⊢;rw[e0];simp only[List.set_cons_succ];rw[<-e]
variable {w:World} {base g cap:Nat}
theorem OwnR.setTo (h:OwnR w base (some ⟨g,0,none⟩) cap l) (hp:l[j]? =some p) (t:Int):
  OwnR (w.setCell ⟨g,j*5+1,none⟩ (.int .u64 t)) base (some ⟨g,0,none⟩) cap (l.set j ⟨p.fr,t,p.prot,p.ino,p.off⟩):=by
 unfold OwnR at *
 rw[List.length_set,<-qU hp t];exact(h.stored (j*5+1) _).1
theorem OwnR.elem (h:OwnR w base (some ⟨g,0,none⟩) cap l) (hp:l[j]? =some p):kA w g (j*5) p:=by
 have hk:j<l.length:=(List.getElem?_eq_some_iff.1 hp).1;have e: ∀i,i<5->w.cell? ⟨g,j*5+i,none⟩=(rc p)[i]? :=fun i hi=>by
  rw[World.ownsRow.cellAt h (j*5+i) (by omega),oB hp i hi]
 exact⟨e 0 (by omega),e 1 (by omega),e 2 (by omega),e 3 (by omega),e 4 (by omega)⟩
theorem kq {X w2:World} {A:Option Addr} (hb:Below base w X) (wh:OwnR X base A cap l) (hg:X.grownBy w2 (A.map (·.block))) (wv:base<=X.heap.size):Below base w w2:=
 hb.grown hg wv fun k hk=>(wh.row k hk).1
theorem lX (A:Option Addr) (n cap:Nat) (w:World) (l:List Reg) (hl:RSl w w.heap.size A n cap l) (hf:n<=1000):
  Calls Tryz.prog 104 #[.slice A n cap] w
   fun e w'=> ∃A' vP,e= .returned (.tuple #[.slice A' (Rg.few (Rg.joined l)).1.length vP, .int .i64 (Rg.few (Rg.joined l)).2])/\OwnR w' w.heap.size A' vP (Rg.few (Rg.joined l)).1/\Below w.heap.size w w':=by
 have Eg:=vp hl.len;go_enter Tryz.func104,Tryz.ntmps104;go_wp2;go_loopw [4,10] (fun v i wr=> ∃k:Nat,k<=n/\i= .int .i64 k/\Below w.heap.size w wr/\ ∃A cap,v= .slice A (Rg.joined (l.take k)).length cap/\OwnR wr w.heap.size A cap (Rg.joined (l.take k))) (fun _ i _ =>n-(intOf i).toNat)
 case atStart=>exact⟨0,vL _,rfl,vO _ _,none,0,rfl,OwnR.nil _ _⟩
 case round=>
  obtain⟨k,hk,rfl,hB,A1,c1,rfl,ho⟩:=hrel;have Vn:=hB.size;have Aa:=rD (l.take k);have zY:(l.take k).length<=1000:=(by rw[List.length_take];omega);by_cases vW:k<n
  ·obtain⟨r,hr⟩: ∃r,l[k]? =some r:=⟨_,vv (by have:=Eg.out;omega)⟩;obtain⟨b,off,rfl,hb,Aj⟩:=hl.at_ k r hr;obtain⟨h0,h1,h2,h3,h4⟩:=Aj.below hB hb;have HR:=vp hr;have yH:=nQ.new wr r;have b0:=fun d os=>(yH.re d os).c0;have b1:=fun d os=>(yH.re d os).c1;have b2:=fun d os=>(yH.re d os).c2;have b3:=fun d os=>(yH.re d os).c3;have b4:=fun d os=>(yH.re d os).c4;have HT:=vp (oM hr);generalize Mv:Rg.joined (l.take k)=acc at *
   have wC:acc.length<1000000:=(by omega);generalize hm:acc.length=m at *
   have HM:=vp hm;have HO:=vp ho;clear hr Aj yH ho Mv hm;rcases Nat.eq_zero_or_pos m with rfl|JY
   ·have Ee:acc=[]:=List.eq_nil_of_length_eq_zero HM.out;have HN:=vp Ee;clear Ee;go_wp2;refine wp_region_quiet_below (by kernel_rfl) (by kernel_rfl) ?_;(repeat(go_big_quiet_step (fail)));refine wpQuiet_nil ?_;intro _ yq;obtain⟨⟨dq,osq⟩,hw''⟩:=yq;subst hw'';have xc:=below_regrown (wr.alloc (.cells #[.int .u64 r.fr, .int .u64 r.to, .int .u8 r.prot, .int .i64 r.ino, .int .u64 r.off] 45)) dq osq;generalize grow (redrawn (wr.alloc (.cells #[.int .u64 r.fr, .int .u64 r.to, .int .u8 r.prot, .int .i64 r.ino, .int .u64 r.off] 45)) dq) osq=wq at xc⊢;have Lu:=xc.size;simp at Lu;have q0:wq.cell? ⟨wr.heap.size,0,none⟩=some (.int .u64 r.fr):=(xc.cell (p:=⟨wr.heap.size,0,none⟩) (by simp)).trans (by simp);have q1:wq.cell? ⟨wr.heap.size,1,none⟩=some (.int .u64 r.to):=(xc.cell (p:=⟨wr.heap.size,1,none⟩) (by simp)).trans (by simp);have q2:wq.cell? ⟨wr.heap.size,2,none⟩=some (.int .u8 r.prot):=(xc.cell (p:=⟨wr.heap.size,2,none⟩) (by simp)).trans (by simp);have q3:wq.cell? ⟨wr.heap.size,3,none⟩=some (.int .i64 r.ino):=(xc.cell (p:=⟨wr.heap.size,3,none⟩) (by simp)).trans (by simp);have q4:wq.cell? ⟨wr.heap.size,4,none⟩=some (.int .u64 r.off):=(xc.cell (p:=⟨wr.heap.size,4,none⟩) (by simp)).trans (by simp);clear b0 b1 b2 b3 b4;go_wp2_with (at_builtin;refine pi rfl (.tmp 33) (.tmp 35) rfl (w.heap.size) A1 c1 acc (by rw[HM.out];rfl) ((((HO.out).alloc _).below xc (by simp)).alloc _) r (wq.heap.size) 1 rfl (heap_alloc_new wq _) (by rw[HM.out];omega) (by simp;omega) ?_;rw[HM.out];intro g' vP w2 BR yi xR Ka;have xD:=kq (w:=w) (by exact vq) ((((HO.out).alloc _).below xc (by simp)).alloc _) yi (by simp;omega));have xl:Rg.joined (l.take (k+1))=acc++[r]:=(by rw[HT.out,HN.out];rfl);go_roundw
    case rel=>exact⟨k+1,by omega,by go_num,xD,some ⟨g',0,none⟩,vP,by rw[xl];simp[HN.out],by rw[xl];exact BR⟩
    case measure=>simp[intOf];omega
   ·obtain⟨j,rfl⟩: ∃j,m=j+1:=⟨m-1,by omega⟩;obtain⟨g,rfl,yc,yi,Zh⟩:=(HO.out.form).resolve_left (by rintro⟨_,h,_⟩;have:=HM.out;rw[h]at this;simp at this);rw[HM.out]at Zh;obtain⟨p,hp⟩: ∃p,acc[j]? =some p:=⟨_,vv (by have:=HM.out;omega)⟩;have zo:=(HO.out.elem hp).alloc (.cells #[.int .u64 r.fr, .int .u64 r.to, .int .u8 r.prot, .int .i64 r.ino, .int .u64 r.off] 45);have p0:=fun d os=>(zo.re d os).c0;have p1:=fun d os=>(zo.re d os).c1;have p2:=fun d os=>(zo.re d os).c2;have p3:=fun d os=>(zo.re d os).c3;have p4:=fun d os=>(zo.re d os).c4;have HP:=vp hp;clear hp zo;have cJ:=fun d os=>tV (W:=wr.alloc (.cells #[.int .u64 r.fr, .int .u64 r.to, .int .u8 r.prot, .int .i64 r.ino, .int .u64 r.off] 45)) p r d os;cases hj:Rg.joins p r with
    |true=>
     rw[hj]at cJ;have CJ:=vp cJ;have xl:=vp (HT.out.trans (push_yes HM.out HP.out hj));clear cJ hj;go_wp2;refine wp_region_quiet_below (by kernel_rfl) (by kernel_rfl) ?_;(repeat(go_big_quiet_step (exact CJ.out _ _)));refine wpQuiet_nil ?_;intro _ yq;obtain⟨⟨dq,osq⟩,hw''⟩:=yq;subst hw'';have xc:=below_regrown (wr.alloc (.cells #[.int .u64 r.fr, .int .u64 r.to, .int .u8 r.prot, .int .i64 r.ino, .int .u64 r.off] 45)) dq osq;generalize grow (redrawn (wr.alloc (.cells #[.int .u64 r.fr, .int .u64 r.to, .int .u8 r.prot, .int .i64 r.ino, .int .u64 r.off] 45)) dq) osq=wq at xc⊢;have Lu:=xc.size;simp at Lu;have q1:wq.cell? ⟨wr.heap.size,1,none⟩=some (.int .u64 r.to):=(xc.cell (p:=⟨wr.heap.size,1,none⟩) (by simp)).trans (by simp);have Xm:=((HO.out).alloc (.cells #[.int .u64 r.fr, .int .u64 r.to, .int .u8 r.prot, .int .i64 r.ino, .int .u64 r.off] 45)).below xc (by simp);have qa:=(Xm.elem HP.out).c1;have qf:=World.ownsRow.frozenAt Xm (j*5+1);have yh:=vp (Xm.setTo HP.out r.to);clear b0 b1 b2 b3 b4 p0 p1 p2 p3 p4 Xm;go_wp2;have wS:(acc.set j ⟨p.fr,r.to,p.prot,p.ino,p.off⟩).length=j+1:=(by rw[List.length_set,HM.out]);have zW:=yh.out;go_roundw
     case rel=>exact⟨k+1,by omega,by go_num,by exact vq,some ⟨g,0,none⟩,c1,by rw[xl.out,wS],by rw[xl.out];exact zW⟩
     case measure=>simp[intOf];omega
    |false=>
     rw[hj]at cJ;have CJ:=vp cJ;have xl:=vp (HT.out.trans (push_no HM.out HP.out hj));clear cJ hj;go_wp2;refine wp_region_quiet_below (by kernel_rfl) (by kernel_rfl) ?_;(repeat(go_big_quiet_step (exact CJ.out _ _)));refine wpQuiet_nil ?_;intro _ yq;obtain⟨⟨dq,osq⟩,hw''⟩:=yq;subst hw'';have xc:=below_regrown (wr.alloc (.cells #[.int .u64 r.fr, .int .u64 r.to, .int .u8 r.prot, .int .i64 r.ino, .int .u64 r.off] 45)) dq osq;generalize grow (redrawn (wr.alloc (.cells #[.int .u64 r.fr, .int .u64 r.to, .int .u8 r.prot, .int .i64 r.ino, .int .u64 r.off] 45)) dq) osq=wq at xc⊢;have Lu:=xc.size;simp at Lu;have q0:wq.cell? ⟨wr.heap.size,0,none⟩=some (.int .u64 r.fr):=(xc.cell (p:=⟨wr.heap.size,0,none⟩) (by simp)).trans (by simp);have q1:wq.cell? ⟨wr.heap.size,1,none⟩=some (.int .u64 r.to):=(xc.cell (p:=⟨wr.heap.size,1,none⟩) (by simp)).trans (by simp);have q2:wq.cell? ⟨wr.heap.size,2,none⟩=some (.int .u8 r.prot):=(xc.cell (p:=⟨wr.heap.size,2,none⟩) (by simp)).trans (by simp);have q3:wq.cell? ⟨wr.heap.size,3,none⟩=some (.int .i64 r.ino):=(xc.cell (p:=⟨wr.heap.size,3,none⟩) (by simp)).trans (by simp);have q4:wq.cell? ⟨wr.heap.size,4,none⟩=some (.int .u64 r.off):=(xc.cell (p:=⟨wr.heap.size,4,none⟩) (by simp)).trans (by simp);clear b0 b1 b2 b3 b4 p0 p1 p2 p3 p4;go_wp2_with (at_builtin;refine pi rfl (.tmp 33) (.tmp 35) rfl (w.heap.size) (some ⟨g,0,none⟩) c1 acc (by rw[HM.out];rfl) ((((HO.out).alloc _).below xc (by simp)).alloc _) r (wq.heap.size) 1 rfl (heap_alloc_new wq _) (by rw[HM.out];omega) (by simp;omega) ?_;rw[HM.out];intro g' vP w2 BR yi xR Ka;have xD:=kq (w:=w) (by exact vq) ((((HO.out).alloc _).below xc (by simp)).alloc _) yi (by simp;omega));have wS:(acc++[r]).length=j+1+1:=(by rw[vu,HM.out];rfl);go_roundw
     case rel=>exact⟨k+1,by omega,by go_num,xD,some ⟨g',0,none⟩,vP,by rw[xl.out,wS],by rw[xl.out];exact BR⟩
     case measure=>simp[intOf];omega
  ·have ht:l.take k=l:=List.take_of_length_le (by have:=Eg.out;omega);have HT:=vp ht;generalize Mv:Rg.joined (l.take k)=acc at *
   have HA:=vp Mv;have HO:=vp ho;clear ht Mv ho;by_cases DP:64<acc.length
   ·have Uo:Rg.few (Rg.joined l)=([],15):=(by rw[<-HT.out,HA.out];simp[Rg.few,DP]);have HF:=vp Uo;clear Uo;go_wp2;go_ret2;refine⟨none,0,?_,?_,hB⟩
    ·rw[HF.out];rfl
    ·rw[HF.out];exact OwnR.nil _ _
   ·have Uo:Rg.few (Rg.joined l)=(acc,0):=(by rw[<-HT.out,HA.out];simp[Rg.few,DP]);have HF:=vp Uo;clear Uo;go_wp2;go_ret2;refine⟨A1,c1,?_,?_,hB⟩
    ·rw[HF.out];rfl
    ·rw[HF.out];exact HO.out
end
section
open Go.RowKit Go.Sort
def Rg.ins:List Reg->Reg->List Reg
 | [],r=>[r]
 |x::l,r=>if r.fr<x.fr then r::x::l else x::Rg.ins l r
theorem ins_len (l:List Reg) (r:Reg):(Rg.ins l r).length=l.length+1:=by
 induction l with
 |nil=>rfl
 |cons x l ih=>simp only[Rg.ins];split<;>simp[ih]
end
section
open Go.RowKit Go.Sort
theorem RSl.more {w:World} {B B':Nat} {A:Option Addr} {n cap:Nat} {l:List Reg} (h:RSl w B A n cap l) (hB:B<=B'):RSl w B' A n cap l:=
 ⟨h.len,h.cap,h.few,fun k r hr=>by
  obtain⟨b,off,e,hb,Aj⟩:=h.at_ k r hr;exact⟨b,off,e,by omega,Aj⟩⟩
def r5:Reg:=⟨5,0,0,0,0⟩
end
section
open Go.RowKit Go.Sort
def Rg.wo1 (f t:Int) (r:Reg):List Reg:=if r.to<=f\/t<=r.fr then [r]else(if r.fr<f then [Rg.rpart r r.fr f]else [])++(if t<r.to then [Rg.rpart r t r.to]else [])
def Rg.without (l:List Reg) (f t:Int):List Reg:=l.flatMap (Rg.wo1 f t)
theorem wo1_len (f t:Int) (r:Reg):(Rg.wo1 f t r).length<=2:=by
 unfold Rg.wo1;split
 ·simp
 ·rw[vu];split<;>split<;>simp
theorem nY (l:List Reg) (f t:Int):(Rg.without l f t).length<=2*l.length:=by
 induction l with
 |nil=>simp[Rg.without]
 |cons r l ih=>
  have h1:=wo1_len f t r;simp only[Rg.without,vN,vu,vC]at *
  omega
theorem fp {w:World} {b:Nat} {r:Reg} (h:w.heap[b]? =some (.cells #[.int .u64 r.fr, .int .u64 r.to, .int .u8 r.prot, .int .i64 r.ino, .int .u64 r.off] 45 (0,0))):nQ w b r:=
 ⟨ai h 0,ai h 1,ai h 2,ai h 3,ai h 4⟩
end
section
open Go.RowKit Go.Sort
structure Srch (w:World) (go gr:Nat) (A:Option Addr) (cap:Nat) (out:List Reg) (r:Reg) (B:Nat):Prop where
 cell:w.cell? ⟨go,0,none⟩=some (.slice A out.length cap)
 goB:go<B
 box:w.cell? ⟨gr,0,none⟩=some (.int .u64 r.fr)
 grB:gr<B
 rows: ∀k x,out[k]? =some x-> ∃g,A=some ⟨g,0,none⟩/\g<B/\w.cell? ⟨g,k*5,none⟩=some (.int .u64 x.fr)
variable {r:Reg}
theorem Srch.below {w w':World} {go gr:Nat} {A:Option Addr} {cap:Nat} {out:List Reg} {B:Nat} (h:Srch w go gr A cap out r B) (hb:Below B w w'):Srch w' go gr A cap out r B:=
 ⟨(
  hb.cell (p:=⟨go,0,none⟩) h.goB).trans h.cell,h.goB,(hb.cell (p:=⟨gr,0,none⟩) h.grB).trans h.box,h.grB,fun k x hx=>by
  obtain⟨g,e,hg,hc⟩:=h.rows k x hx;exact⟨g,e,hg,(hb.cell (p:=⟨g,k*5,none⟩) hg).trans hc⟩⟩
theorem putf_any (go gr:Nat) (A:Option Addr) (cap:Nat) (out:List Reg) (r x:Reg) (B k:Nat) (w:World) (h:Srch w go gr A cap out r B) (hx:out[k]? =some x) (hf:out.length<=100000):
  Calls Tryz.prog 103 #[.int .i64 k, .pointer (some ⟨go,0,none⟩), .pointer (some ⟨gr,0,none⟩)] w fun e w'=>e= .returned (.bool (decide (r.fr<x.fr)))/\Below w.heap.size w w':=by
 obtain⟨g,rfl,hg,hc⟩:=h.rows k x hx;have h0:=h.cell;have h1:=h.box;have hk:k<out.length:=(List.getElem?_eq_some_iff.1 hx).1;clear h hx;generalize out.length=n at *
 have zc:(0:Int)<=(k:Int):=(by omega);have Mj:(k:Int)<(n:Int):=(by omega);go_enter Tryz.func103,Tryz.ntmps103;go_wp2;go_quiet (fail);go_wp2;go_ret;exact⟨rfl,by exact vq⟩
def jk (l:List Reg):Prop:= ∀(i j:Nat) (a b:Reg),i<j->l[i]? =some a->l[j]? =some b->a.fr<=b.fr
def cM (l:List Reg) (r:Reg) (i j:Nat):Prop:=(∀(k:Nat) (a:Reg),k<i->l[k]? =some a->a.fr<=r.fr)/\(∀(k:Nat) (a:Reg),j<=k->l[k]? =some a->r.fr<a.fr)
theorem cM.start (l:List Reg) (r:Reg):cM l r 0 l.length:=⟨fun k a h=>by omega,fun k a h e=>by
 have:=(List.getElem?_eq_some_iff.1 e).1;omega⟩
variable {l:List Reg} {x:Reg} {i j h:Nat}
theorem cM.up (hs:jk l) (H:cM l r i j) (hx:l[h]? =some x) (vW: ¬r.fr<x.fr):cM l r (h+1) j:=
 ⟨fun k a hk e=>by
  by_cases c:k=h
  ·subst c;rw[hx]at e;injection e with e;subst e;omega
  ·have:=hs k h a x (by omega) e hx;omega,H.2⟩
theorem cM.down (hs:jk l) (H:cM l r i j) (hx:l[h]? =some x) (vW:r.fr<x.fr):cM l r i h:=
 ⟨H.1,fun k a hk e=>by
  by_cases c:k=h
  ·subst c;rw[hx]at e;injection e with e;subst e;omega
  ·have:=hs h k x a (by omega) hx e;omega⟩
theorem qP (go gr:Nat) (A:Option Addr) (cap:Nat) (out:List Reg) (r:Reg) (w:World) (h:Srch w go gr A cap out r w.heap.size) (hf:out.length<=100000) (hs:jk out):
  Calls Tryz.prog 102 #[.int .i64 out.length, .func (.func 103) #[] #[.pointer (some ⟨go,0,none⟩), .pointer (some ⟨gr,0,none⟩)]] w
   fun e w'=>(∃i:Nat,i<=out.length/\e= .returned (.int .i64 i)/\cM out r i i)/\Below w.heap.size w w':=by
 have H:=vp h;have HS:=vp hs;have xX:=vp (cM.start out r);have hn:Hid (out.length=out.length):=vp rfl;clear h hs;go_enter Tryz.func102,Tryz.ntmps102;go_wp2;go_loopw [5,6] (fun i j wr=> ∃a b:Nat,a<=b/\b<=out.length/\i= .int .i64 a/\j= .int .i64 b/\Below w.heap.size w wr/\cM out r a b) (fun i j _ =>(intOf j).toNat-(intOf i).toNat)
 case atStart=>exact⟨0,out.length,by omega,vs _,rfl,rfl,vO _ _,xX.out⟩
 case round=>
  obtain⟨a,b,RS,hbn,rfl,rfl,hB,yA⟩:=hrel;have SP:=vp yA;clear yA;by_cases vW:a<b
  ·obtain⟨m,hm⟩: ∃m,m=(a+b)/2:=⟨_,rfl⟩;obtain⟨x,hx⟩: ∃x,out[m]? =some x:=⟨_,vv (by omega)⟩;have JY:m<b:=(by omega);have xE:a<=m:=(by omega);have he:Hid (((a:Int)+(b:Int))/2=(m:Int)):=vp (by omega);have wk:(m:Int)<100000:=(by omega);have HX:=vp hx;have xD:=hB.size;have hP:=putf_any go gr A cap out r x w.heap.size m wr (H.out.below hB) hx hf;clear hx hm;cases hd:decide (r.fr<x.fr)with
   |true=>
    rw[hd]at hP;have HP:=vp hP;have xl:=vp (SP.out.down HS.out HX.out (by simpa using hd));clear hP hd;go_wp2_with fail;rw[he.out];refine(HP.out).mono ?_;rintro e w1 ⟨rfl,vS⟩;go_wp2_with fail;go_roundw
    case rel=>exact⟨a,m,by omega,by omega,rfl,rfl,by exact vq,xl.out⟩
    case measure=>simp[intOf];omega
   |false=>
    rw[hd]at hP;have HP:=vp hP;have xl:=vp (SP.out.up HS.out HX.out (by simpa using hd));clear hP hd;go_wp2_with fail;rw[he.out];refine(HP.out).mono ?_;rintro e w1 ⟨rfl,vS⟩;go_wp2_with fail;go_roundw
    case rel=>exact⟨m+1,b,by omega,by omega,by go_num,rfl,by exact vq,xl.out⟩
    case measure=>simp[intOf];omega
  ·have UP:b=a:=(by omega);have xl:Hid (cM out r a a):=vp (by have:=SP.out;rw[UP]at this;exact this);clear UP;go_wp2;go_ret;exact⟨⟨a,by omega,rfl,xl.out⟩,hB⟩
end
