/- The cache's laws, plain: each frame is counted by the slots that point to it and by who holds it; -/
import Derived.Test.YtoochjhipmpehaaGreatDoorVpZK
set_option linter.unusedVariables false
set_option linter.unusedSimpArgs false
set_option maxRecDepth 100000
namespace Go.Proofs.YtoochjhipmpehaaGreatDoor
section
def Even (p:Pool) (L:List Slot) (hold:Nat->Nat):Prop:= ∀f,f<p.n->p.cnt f=ay L f+hold f
structure Took8 (p:Pool) (L:List Slot) (hold:Nat->Nat) (f:Nat) (p':Pool) (L':List Slot):Prop where
 even:Even p' L' (upd hold f 1)
 lt:f<p.n
 n:p'.n=p.n
 none:hold f=0
 zero:p'.dat f=fun _ =>0
 dat: ∀x,x≠f->p'.dat x=p.dat x
 sole:Sole L'
 one:p'.cnt f=1
 cnt: ∀x,x≠f->p'.cnt x=p.cnt x
 noSlot:ay L' f=0
 sub:L'.Sublist L
 keep: ∀s∈L,2<=p.cnt s.frame->s∈L'
variable {p p':Pool} {L L':List Slot} {hold:Nat->Nat} {f:Nat}
theorem Even.take (h:Even p L hold) (hS:Sole L) (ht:ax p L 0 f p' L'):Took8 p L hold f p' L':=by
 have Ez:=ht.sub;cases ht with
 |free _ hl=>
  obtain⟨h1,h2,h3⟩:=cG hl;have hc:=h f h1;refine⟨fun g hg=>?_,h1,rfl,by omega,af _ _ _,fun x hx=>ag _ _ hx,hS,af _ _ _,fun x hx=>ag _ _ hx,by omega,Ez,fun s hs _ =>hs⟩;by_cases e:g=f
  ·subst e;rw[af];show upd p.cnt g 1 g=_;rw[af];omega
  ·rw[ag _ _ e];show upd p.cnt f 1 g=_;rw[ag _ _ e];exact h g hg
 |loose s hl hs FK h1 Ib=>
  have hc:=h s.frame FK;have hp:=aU hs;have hd:=ip hS hs;have NT:=hd s.frame;rw[if_pos rfl]at NT;refine⟨fun g hg=>?_,FK,rfl,by omega,af _ _ _,fun x hx=>ag _ _ hx,hS.drop _,af _ _ _,fun x hx=>?_,by omega,Ez,fun t ht h2=>?_⟩
  ·by_cases e:g=s.frame
   ·subst e;rw[af];show upd (upd p.cnt s.frame _) s.frame 1 s.frame=_;rw[af];omega
   ·rw[ag _ _ e];show upd (upd p.cnt s.frame _) s.frame 1 g=_;rw[ag _ _ e,ag _ _ e];have h2:=hd g;rw[if_neg (fun e1=>e e1.symm)]at h2;rw[h g hg];omega
  ·show upd (upd p.cnt s.frame _) s.frame 1 x=p.cnt x;rw[ag _ _ hx,ag _ _ hx]
  ·refine List.mem_filter.2 ⟨ht,?_⟩;cases hq:Slot.at s.ino s.page t with
   |false=>rfl
   |true=>
    exfalso;have e:=Slot.at_iff.1 hq;have e2:=hS.eq ht hs e;subst e2;omega
def dF (F:List Nd) (ino page:Int):Int×Nat×(Nat->Nat):=ja F ino (page*4096).toNat
def np (F:List Nd) (ino page:Int):Nat->Nat:=laid (fun _ =>0) (dF F ino page).2.2 0 (dF F ino page).2.1
def kK (F:List Nd) (p:Pool) (L:List Slot):Prop:= ∀s∈L,p.dat s.frame=np F s.ino s.page/\(dF F s.ino s.page).1=0/\0<=s.page/\s.page<16
abbrev GetF (F:List Nd) (ino page:Int) (p:Pool) (L:List Slot) (clock:Int) (r:Int) (f:Nat) (p':Pool) (L':List Slot) (vB:Int):Prop:=
 dC ino page (dF F ino page).1 (dF F ino page).2.1 (dF F ino page).2.2 p L clock r f p' L' vB
theorem io (h:ay L f=0): ∀s∈L,s.frame≠f:=fun s hs e=>by
 have:=aU hs;rw[e]at this;omega
variable {F:List Nd}
theorem Took8.filled (h:Took8 p L hold f p' L') (hf:kK F p L):kK F p' L':=fun s hs=>by
 rw[h.dat _ (io h.noSlot s hs)];exact hf s (h.sub.subset hs)
structure Got8 (F:List Nd) (ino page:Int) (p:Pool) (L:List Slot) (hold:Nat->Nat) (r:Int) (f:Nat) (p':Pool) (L':List Slot):Prop where
 even:Even p' L' hold
 n:p'.n=p.n
 sole:Sole L'
 filled:kK F p' L'
 there:r=0->f<p.n/\1<=p'.cnt f/\(∃s∈L',s.ino=ino/\s.page=page/\s.frame=f)/\(dF F ino page).1=0/\0<=page/\page<16
 keep: ∀s∈L,2<=p.cnt s.frame-> ∃t∈L',t.ino=s.ino/\t.page=s.page/\t.frame=s.frame
 cntk: ∀s∈L,2<=p.cnt s.frame->p'.cnt s.frame=p.cnt s.frame/\p'.dat s.frame=p.dat s.frame
variable {s:Slot}
theorem jG :s∈dO L s:=by
 unfold dO;split
 ·next h=>
  obtain⟨x,hx,yY⟩:=List.any_eq_true.1 h;exact List.mem_map.2 ⟨x,hx,by rw[if_pos yY]⟩
 ·exact List.mem_append_right _ (List.mem_singleton.2 rfl)
theorem kR {t:Slot} (ht:t∈L):t∈dO L s\/(Slot.at s.ino s.page t=true):=by
 by_cases hc:Slot.at s.ino s.page t=true
 ·exact .inr hc
 ·left;unfold dO;split
  ·exact List.mem_map.2 ⟨t,ht,by rw[if_neg hc]⟩
  ·exact List.mem_append_left _ ht
theorem Even.get {ino page:Int} {clock vB r:Int} (h:Even p L hold) (hS:Sole L) (yz:kK F p L) (vH: ∀s∈L,s.frame<p.n) (hg:GetF F ino page p L clock r f p' L' vB):
  Got8 F ino page p L hold r f p' L':=by
 cases hg with
 |bad h1=>exact⟨h,rfl,hS,yz,(fun e=>by cases e),fun s hs _ =>⟨s,hs,rfl,rfl,rfl⟩,fun s hs _ =>⟨rfl,rfl⟩⟩
 |err h1 h2 h3=>exact⟨h,rfl,hS,yz,fun e=>absurd e h3,fun s hs _ =>⟨s,hs,rfl,rfl,rfl⟩,fun s hs _ =>⟨rfl,rfl⟩⟩
 |hit s h0 h1 hr hs=>
  obtain⟨hs,hi,hp⟩:=dL hs;refine⟨fun g hg=>?_,rfl,kQ hS _,fun t ht=>?_,fun _ =>⟨vH s hs,?_,⟨_,jG,rfl,rfl,rfl⟩,hr,h0,h1⟩,fun t ht _ =>?_,fun t ht _ =>⟨rfl,rfl⟩⟩
  ·rw[jE (s0:=s) (s:=⟨ino,page,s.frame,clock+1⟩) hS hs hi hp rfl];exact h g hg
  ·rcases gy ht with e|e
   ·exact yz t e
   ·subst e;have:=yz s hs;rw[hi,hp]at this;exact this
  ·have:=h s.frame (vH s hs);have:=aU hs;omega
  ·rcases kR (s:=⟨ino,page,s.frame,clock+1⟩) ht with e|e
   ·exact⟨t,e,rfl,rfl,rfl⟩
   ·have e1:=Slot.at_iff.1 e;have e2:=hS.eq ht hs ⟨e1.1.trans hi.symm,e1.2.trans hp.symm⟩;subst e2;exact⟨_,jG,hi.symm,hp.symm,rfl⟩
 |full h0 h1 hr hn ht=>exact⟨h,rfl,hS,yz,(fun e=>by cases e),fun s hs _ =>⟨s,hs,rfl,rfl,rfl⟩,fun s hs _ =>⟨rfl,rfl⟩⟩
 |miss f p1 L1 h0 h1 hr hn ht=>
  have hT:=h.take hS ht;have vW:=lQ (eH hn) ht.sub;refine⟨fun g hg=>?_,hT.n,kQ hT.sole _,fun t DC=>?_,fun _ =>⟨hT.lt,?_,⟨_,jG,rfl,rfl,rfl⟩,hr,h0,h1⟩,fun t DC h2=>?_,fun t DC h2=>?_⟩
  ·rw[jF (s:=⟨ino,page,f,clock+1⟩) vW];have h3:=hT.even g hg;have h4:=hT.none;show p1.cnt g=_;by_cases e:g=f
   ·subst e;rw[af]at h3;rw[if_pos rfl];omega
   ·rw[ag _ _ e]at h3;rw[if_neg (fun e1=>e e1.symm)];omega
  ·rcases gy DC with e|e
   ·have h9:=hT.filled yz t e;exact⟨(ag _ _ (io hT.noSlot t e)).trans h9.1,h9.2⟩
   ·subst e;refine⟨?_,hr,h0,h1⟩;show upd p1.dat f _ f=_;rw[af,hT.zero];rfl
  ·show 1<=p1.cnt f;rw[hT.one];omega
  ·have hk:=hT.keep t DC h2;rcases kR (s:=⟨ino,page,f,clock+1⟩) hk with e|e
   ·exact⟨t,e,rfl,rfl,rfl⟩
   ·exfalso;have:=List.any_eq_false.1 vW t hk;exact this e
  ·have hk:=hT.keep t DC h2;have vK:=io hT.noSlot t hk;exact⟨hT.cnt _ vK,(ag _ _ vK).trans (hT.dat _ vK)⟩
end
