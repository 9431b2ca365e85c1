/- The cache's laws, plain: each frame is counted by the slots that point to it and by who holds it; -/
import Derived.Test.YtoochjhipmpehaaGreatDoorVpZK
set_option linter.unusedVariables false
set_option linter.unusedSimpArgs false
set_option maxRecDepth 100000
namespace Go.Proofs.YtoochjhipmpehaaGreatDoor
section
def Even (p:Pool) (L:List Slot) (hold:Nat->Nat):Prop:= ∀f,f<p.n->p.cnt f=ax L f+hold f
structure Took8 (p:Pool) (L:List Slot) (hold:Nat->Nat) (f:Nat) (p':Pool) (L':List Slot):Prop where
 even:Even p' L' (upd hold f 1)
 lt:f<p.n
 n:p'.n=p.n
 none:hold f=0
 zero:p'.dat f=fun _ =>0
 dat: ∀x,x≠f->p'.dat x=p.dat x
 sole:Sole L'
 one:p'.cnt f=1
 cnt: ∀x,x≠f->p'.cnt x=p.cnt x
 noSlot:ax L' f=0
 sub:L'.Sublist L
 keep: ∀s∈L,2<=p.cnt s.frame->s∈L'
variable {p p':Pool} {L L':List Slot} {hold:Nat->Nat} {f:Nat}
theorem Even.take (h:Even p L hold) (hS:Sole L) (ht:aw p L 0 f p' L'):Took8 p L hold f p' L':=by
 have DX:=ht.sub;cases ht with
 |free _ hl=>
  obtain⟨h1,h2,h3⟩:=cB hl;have hc:=h f h1;refine⟨fun g hg=>?_,h1,rfl,by omega,af _ _ _,fun x hx=>ag _ _ hx,hS,af _ _ _,fun x hx=>ag _ _ hx,by omega,DX,fun s hs _ =>hs⟩;by_cases e:g=f
  ·subst e;rw[af];show upd p.cnt g 1 g=_;rw[af];omega
  ·rw[ag _ _ e];show upd p.cnt f 1 g=_;rw[ag _ _ e];exact h g hg
 |loose s hl hs Ia h1 GW=>
  have hc:=h s.frame Ia;have hp:=aS hs;have hd:=ie hS hs;have Ni:=hd s.frame;rw[if_pos rfl]at Ni;refine⟨fun g hg=>?_,Ia,rfl,by omega,af _ _ _,fun x hx=>ag _ _ hx,hS.drop _,af _ _ _,fun x hx=>?_,by omega,DX,fun t ht h2=>?_⟩
  ·by_cases e:g=s.frame
   ·subst e;rw[af];show upd (upd p.cnt s.frame _) s.frame 1 s.frame=_;rw[af];omega
   ·rw[ag _ _ e];show upd (upd p.cnt s.frame _) s.frame 1 g=_;rw[ag _ _ e,ag _ _ e];have h2:=hd g;rw[if_neg (fun e1=>e e1.symm)]at h2;rw[h g hg];omega
  ·show upd (upd p.cnt s.frame _) s.frame 1 x=p.cnt x;rw[ag _ _ hx,ag _ _ hx]
  ·refine List.mem_filter.2 ⟨ht,?_⟩;cases hq:Slot.at s.ino s.page t with
   |false=>rfl
   |true=>
    exfalso;have e:=Slot.at_iff.1 hq;have e2:=hS.eq ht hs e;subst e2;omega
def dz (F:List Nd) (ino page:Int):Int×Nat×(Nat->Nat):=iR F ino (page*4096).toNat
def mU (F:List Nd) (ino page:Int):Nat->Nat:=laid (fun _ =>0) (dz F ino page).2.2 0 (dz F ino page).2.1
def ky (F:List Nd) (p:Pool) (L:List Slot):Prop:= ∀s∈L,p.dat s.frame=mU F s.ino s.page/\(dz F s.ino s.page).1=0/\0<=s.page/\s.page<16
abbrev GetF (F:List Nd) (ino page:Int) (p:Pool) (L:List Slot) (clock:Int) (r:Int) (f:Nat) (p':Pool) (L':List Slot) (vi:Int):Prop:=
 dx ino page (dz F ino page).1 (dz F ino page).2.1 (dz F ino page).2.2 p L clock r f p' L' vi
theorem ic (h:ax L f=0): ∀s∈L,s.frame≠f:=fun s hs e=>by
 have:=aS hs;rw[e]at this;omega
variable {F:List Nd}
theorem Took8.filled (h:Took8 p L hold f p' L') (hf:ky F p L):ky F p' L':=fun s hs=>by
 rw[h.dat _ (ic h.noSlot s hs)];exact hf s (h.sub.subset hs)
structure Got8 (F:List Nd) (ino page:Int) (p:Pool) (L:List Slot) (hold:Nat->Nat) (r:Int) (f:Nat) (p':Pool) (L':List Slot):Prop where
 even:Even p' L' hold
 n:p'.n=p.n
 sole:Sole L'
 filled:ky F p' L'
 there:r=0->f<p.n/\1<=p'.cnt f/\(∃s∈L',s.ino=ino/\s.page=page/\s.frame=f)/\(dz F ino page).1=0/\0<=page/\page<16
 keep: ∀s∈L,2<=p.cnt s.frame-> ∃t∈L',t.ino=s.ino/\t.page=s.page/\t.frame=s.frame
 cntk: ∀s∈L,2<=p.cnt s.frame->p'.cnt s.frame=p.cnt s.frame/\p'.dat s.frame=p.dat s.frame
variable {s:Slot}
theorem jw :s∈dH L s:=by
 unfold dH;split
 ·next h=>
  obtain⟨x,hx,yy⟩:=List.any_eq_true.1 h;exact List.mem_map.2 ⟨x,hx,by rw[if_pos yy]⟩
 ·exact List.mem_append_right _ (List.mem_singleton.2 rfl)
theorem kG {t:Slot} (ht:t∈L):t∈dH L s\/(Slot.at s.ino s.page t=true):=by
 by_cases hc:Slot.at s.ino s.page t=true
 ·exact .inr hc
 ·left;unfold dH;split
  ·exact List.mem_map.2 ⟨t,ht,by rw[if_neg hc]⟩
  ·exact List.mem_append_left _ ht
theorem Even.get {ino page:Int} {clock vi r:Int} (h:Even p L hold) (hS:Sole L) (xY:ky F p L) (vo: ∀s∈L,s.frame<p.n) (hg:GetF F ino page p L clock r f p' L' vi):
  Got8 F ino page p L hold r f p' L':=by
 cases hg with
 |bad h1=>exact⟨h,rfl,hS,xY,(fun e=>by cases e),fun s hs _ =>⟨s,hs,rfl,rfl,rfl⟩,fun s hs _ =>⟨rfl,rfl⟩⟩
 |err h1 h2 h3=>exact⟨h,rfl,hS,xY,fun e=>absurd e h3,fun s hs _ =>⟨s,hs,rfl,rfl,rfl⟩,fun s hs _ =>⟨rfl,rfl⟩⟩
 |hit s h0 h1 hr hs=>
  obtain⟨hs,hi,hp⟩:=dE hs;refine⟨fun g hg=>?_,rfl,kF hS _,fun t ht=>?_,fun _ =>⟨vo s hs,?_,⟨_,jw,rfl,rfl,rfl⟩,hr,h0,h1⟩,fun t ht _ =>?_,fun t ht _ =>⟨rfl,rfl⟩⟩
  ·rw[ju (s0:=s) (s:=⟨ino,page,s.frame,clock+1⟩) hS hs hi hp rfl];exact h g hg
  ·rcases gu ht with e|e
   ·exact xY t e
   ·subst e;have:=xY s hs;rw[hi,hp]at this;exact this
  ·have:=h s.frame (vo s hs);have:=aS hs;omega
  ·rcases kG (s:=⟨ino,page,s.frame,clock+1⟩) ht with e|e
   ·exact⟨t,e,rfl,rfl,rfl⟩
   ·have e1:=Slot.at_iff.1 e;have e2:=hS.eq ht hs ⟨e1.1.trans hi.symm,e1.2.trans hp.symm⟩;subst e2;exact⟨_,jw,hi.symm,hp.symm,rfl⟩
 |full h0 h1 hr hn ht=>exact⟨h,rfl,hS,xY,(fun e=>by cases e),fun s hs _ =>⟨s,hs,rfl,rfl,rfl⟩,fun s hs _ =>⟨rfl,rfl⟩⟩
 |miss f p1 L1 h0 h1 hr hn ht=>
  have hT:=h.take hS ht;have vE:=lH (eB hn) ht.sub;refine⟨fun g hg=>?_,hT.n,kF hT.sole _,fun t DG=>?_,fun _ =>⟨hT.lt,?_,⟨_,jw,rfl,rfl,rfl⟩,hr,h0,h1⟩,fun t DG h2=>?_,fun t DG h2=>?_⟩
  ·rw[jv (s:=⟨ino,page,f,clock+1⟩) vE];have h3:=hT.even g hg;have h4:=hT.none;show p1.cnt g=_;by_cases e:g=f
   ·subst e;rw[af]at h3;rw[if_pos rfl];omega
   ·rw[ag _ _ e]at h3;rw[if_neg (fun e1=>e e1.symm)];omega
  ·rcases gu DG with e|e
   ·have h9:=hT.filled xY t e;exact⟨(ag _ _ (ic hT.noSlot t e)).trans h9.1,h9.2⟩
   ·subst e;refine⟨?_,hr,h0,h1⟩;show upd p1.dat f _ f=_;rw[af,hT.zero];rfl
  ·show 1<=p1.cnt f;rw[hT.one];omega
  ·have hk:=hT.keep t DG h2;rcases kG (s:=⟨ino,page,f,clock+1⟩) hk with e|e
   ·exact⟨t,e,rfl,rfl,rfl⟩
   ·exfalso;have:=List.any_eq_false.1 vE t hk;exact this e
  ·have hk:=hT.keep t DG h2;have vu:=ic hT.noSlot t hk;exact⟨hT.cnt _ vu,(ag _ _ vu).trans (hT.dat _ vu)⟩
end
