/- Regions: the plain laws of Cut and Protect. Regions: Cut and Protect, of the program and of the references. Regions: Protect, of the program and of the references. Regions: what each address has: the plain laws under RegionsFollow. Regions: what Put, Cut, Protect do to each address. -/
import Derived.Test.YtoochjhipmpehaaGreatDoorReK
set_option linter.unusedVariables false
set_option linter.unusedSimpArgs false
set_option maxRecDepth 100000
set_option maxHeartbeats 4000000
namespace Go.Proofs.YtoochjhipmpehaaGreatDoor
section
open Go.RowKit Go.Sort
def Rg.stretch (l:List Reg) (f t:Int):Bool:=Rg.right l&&Rg.one ⟨f,t,0, -1,0⟩
def Rg.cut (l:List Reg) (f t:Int):List Reg×Int:=if Rg.stretch l f t=true then Rg.few (Rg.without l f t)else([],1)
variable {l:List Reg} {f t:Int}
theorem cj (h:Rg.stretch l f t=true):Rg.right l=true/\f<t/\t<=140737488355328:=by
 unfold Rg.stretch at h;rw[Bool.and_eq_true]at h;have:=aC h.2;exact⟨h.1,this.1,this.2.1⟩
def cO (l:List Reg):Prop:=l.Pairwise (fun a b=>Rg.joins a b=false)
theorem oq (h:Rg.right l=true):cO l:=by
 have Bd:=df h;unfold cO;rw[List.pairwise_iff_getElem];intro i j hi hj Cl;by_cases e:j=i+1
 ·subst e;exact(ig h (uN hi) (uN hj)).2
 ·have h1:=List.pairwise_iff_getElem.1 Bd.1 i (i+1) hi (by omega) (by omega);have h2:=List.pairwise_iff_getElem.1 Bd.1 (i+1) j (by omega) hj (by omega);have h3:=Bd.2 (l[i+1]'(by omega)) (List.getElem_mem _);unfold Rg.joins;simp;omega
variable {x r:Reg}
theorem jQ {y p:Reg} (wY:f<t) (hx:x.Ok) (hy:y.Ok) (QJ:x.fr<x.to) (QI:y.fr<y.to) (hxy:x.to<=y.fr) (hp:p∈Rg.wo1 f t x) (hr:r∈Rg.wo1 f t y) (hj:Rg.joins p r=true):Rg.joins x y=true:=by
 have hp1:=mv wY QJ hp;have Dc:=mv wY QI hr;have hj':p.to=r.fr/\p.prot=r.prot/\p.ino=r.ino/\(p.ino= -1\/r.off=w64 (p.off+w64 (p.to-p.fr))):=(by simpa [Rg.joins]using hj);have kp:p.prot=x.prot/\p.ino=x.ino/\(p.ino= -1\/p.off=w64 (x.off+w64 (p.fr-x.fr))):=by
  unfold Rg.wo1 at hp;split at hp
  ·simp at hp;subst hp;refine⟨rfl,rfl, .inr ?_⟩;rw[Int.sub_self,iB (x:=0) (by omega) (by omega),Int.add_zero,iB hx.off0 hx.off1]
  ·rw[List.mem_append]at hp;rcases hp with hp|hp<;>split at hp
   ·simp at hp;subst hp;refine⟨rfl,rfl,?_⟩;simp only[Rg.rpart];by_cases c:x.ino= -1
    ·exact .inl c
    ·rw[if_neg c];exact .inr rfl
   ·simp at hp
   ·simp at hp;subst hp;refine⟨rfl,rfl,?_⟩;simp only[Rg.rpart];by_cases c:x.ino= -1
    ·exact .inl c
    ·rw[if_neg c];exact .inr rfl
   ·simp at hp
 have kr:r.prot=y.prot/\r.ino=y.ino/\(r.ino= -1\/r.off=w64 (y.off+w64 (r.fr-y.fr))):=by
  unfold Rg.wo1 at hr;split at hr
  ·simp at hr;subst hr;refine⟨rfl,rfl, .inr ?_⟩;rw[Int.sub_self,iB (x:=0) (by omega) (by omega),Int.add_zero,iB hy.off0 hy.off1]
  ·rw[List.mem_append]at hr;rcases hr with hr|hr<;>split at hr
   ·simp at hr;subst hr;refine⟨rfl,rfl,?_⟩;simp only[Rg.rpart];by_cases c:y.ino= -1
    ·exact .inl c
    ·rw[if_neg c];exact .inr rfl
   ·simp at hr
   ·simp at hr;subst hr;refine⟨rfl,rfl,?_⟩;simp only[Rg.rpart];by_cases c:y.ino= -1
    ·exact .inl c
    ·rw[if_neg c];exact .inr rfl
   ·simp at hr
 obtain⟨j1,j2,j3,j4⟩:=hj';obtain⟨a1,a2,a3⟩:=kp;obtain⟨b1,b2,b3⟩:=kr;have e1:p.to=x.to:=(by omega);have e2:y.fr=r.fr:=(by omega);have hoy:=hy.off0;have Xs:=hy.off1;simp only[Rg.joins,decide_eq_true_eq];refine⟨by omega,by omega,by omega,?_⟩;by_cases c:x.ino= -1
 ·exact .inl c
 ·right;have j5:=j4.resolve_left (by omega);have a5:=a3.resolve_left (by omega);have b5:=b3.resolve_left (by omega);rw[<-e2,Int.sub_self,iB (x:=0) (by omega) (by omega),Int.add_zero,iB hoy Xs]at b5;rw[<-b5,j5,a5,e1];simp only[jm];omega
theorem rM (wY:f<t):(Rg.wo1 f t x).Pairwise (fun a b=>Rg.joins a b=false):=by
 unfold Rg.wo1;split
 ·simp
 ·split<;>split<;>simp[Rg.rpart,Rg.joins]
  omega
theorem gk (h:Rg.right l=true) (wz:dy l) (wY:f<t):cO (Rg.without l f t):=by
 have Bd:=df h;have MS:=oq h;unfold cO Rg.without;rw[List.pairwise_flatMap];refine⟨fun x hx=>rM wY,?_⟩;have TH:l.Pairwise (fun a b=>a.to<=b.fr/\Rg.joins a b=false):=by
  rw[List.pairwise_and_iff];exact⟨Bd.1,MS⟩
 refine List.Pairwise.imp_of_mem (fun {a b} ha hb QX p hp r hr=>?_) TH;cases hj:Rg.joins p r with
 |false=>rfl
 |true=>
  have:=jQ wY (wz a ha) (wz b hb) (Bd.2 a ha) (Bd.2 b hb) QX.1 hp hr hj;rw[QX.2]at this;cases this
theorem qJ {acc:List Reg} (h: ∀p∈acc,Rg.joins p r=false):Rg.push acc r=acc++[r]:=by
 unfold Rg.push;split
 ·rfl
 ·rename_i p hp;rw[if_neg (by rw[h p (List.mem_of_getLast? hp)];simp)]
theorem nl (h:cO l):Rg.joined l=l:=by
 have key: ∀(l acc:List Reg),cO (acc++l)->l.foldl Rg.push acc=acc++l:=by
  intro l
  induction l with
  |nil=>intro acc _;simp
  |cons r l ih=>
   intro acc ha;have h1: ∀p∈acc,Rg.joins p r=false:=fun p hp=>by
    have:=(List.pairwise_append.1 ha).2.2 p hp r (by simp);exact this
   rw[List.foldl_cons,qJ h1,ih (acc++[r]) (by simpa using ha)];simp
 simpa [Rg.joined]using key l [] (by simpa using h)
theorem cut_law (h:Rg.right l=true) (wz:dy l) (wY:f<t):Rg.joined (Rg.run f t bM l)=Rg.without l f t:=by
 rw[pE (dQ h) wz wY,nl (gk h wz wY)]
def Rg.mid (f t p:Int) (x:Reg):Reg:=⟨max x.fr f,min x.to t,p,x.ino,(Rg.rpart x (max x.fr f) (min x.to t)).off⟩
variable {p:Int}
theorem mid_pc (h:Rg.one x=true) (vo:max x.fr f<min x.to t):Rg.pc (aI p x).1 (max x.fr f) (min x.to t) (aI p x).2=[Rg.mid f t p x]:=by
 have:=dU h (max x.fr f) (min x.to t);simp only[aI,gB vo,Rg.mid,<-this];rfl
theorem jy (h:Rg.one x=true) (wz:x.Ok) (wY:f<t):
  Rg.run1 f t (aI p) x=(if x.to<=f\/t<=x.fr then [x]else(if x.fr<f then [Rg.rpart x x.fr f]else [])++(Rg.mid f t p x::(if t<x.to then [Rg.rpart x t x.to]else []))):=by
 have vo:=(aC h).1;unfold Rg.run1;by_cases c1:x.to<=f
 ·have e1:Rg.pc (aI p x).1 (max x.fr f) (min x.to t) (aI p x).2=[]:=kA (by omega);rw[if_pos (.inl c1),e1,Int.min_eq_left c1,gB vo,Int.max_eq_right (by omega),kA (by omega),gC h wz];rfl
 ·by_cases c2:t<=x.fr
  ·have e1:Rg.pc (aI p x).1 (max x.fr f) (min x.to t) (aI p x).2=[]:=kA (by omega);rw[if_pos (.inr c2),e1,Int.min_eq_right (by omega),kA (by omega),Int.max_eq_left (by omega),gB vo,gC h wz];rfl
  ·rw[if_neg (by omega),mid_pc h (by omega),Int.min_eq_right (a:=x.to) (b:=f) (by omega),Int.max_eq_right (a:=x.fr) (b:=t) (by omega)];congr 1
   ·split
    ·rename_i d;rw[gB d,dU h]
    ·rename_i d;rw[kA d]
   ·rw[List.cons_append,List.nil_append];congr 1;split
    ·rename_i d;rw[gB d,dU h]
    ·rename_i d;rw[kA d]
def Rg.cov:List Reg->Int->Int->Bool
 | [],a,t=>decide (t<=a)
 |r::l,a,t=>if a<t then(if r.fr<=a/\a<r.to then Rg.cov l r.to t else Rg.cov l a t)else true
variable {a:Int}
theorem lY (h:t<=a):Rg.cov l a t=true:=by
 cases l with
 |nil=>simp[Rg.cov,h]
 |cons r l=>simp only[Rg.cov,if_neg (show¬a<t by omega)]
theorem cov_none (h:a<t) (hn:l.find? (Rg.holds · a)=none):Rg.cov l a t=false:=by
 induction l with
 |nil=>simp[Rg.cov];omega
 |cons r l ih=>
  rw[List.find?_cons]at hn;split at hn
  ·cases hn
  ·rename_i hr;have: ¬(r.fr<=a/\a<r.to):=(by simpa [Rg.holds]using hr);rw[Rg.cov,if_pos h,if_neg this];exact ih hn
theorem cov_step (Bd:ga l) (h:a<t) (hf:l.find? (Rg.holds · a)=some r):Rg.cov l a t=Rg.cov l r.to t:=by
 induction l with
 |nil=>simp at hf
 |cons x l ih=>
  have JT:ga l:=⟨(List.pairwise_cons.1 Bd.1).2,fun y hy=>Bd.2 y (by simp[hy])⟩;rw[List.find?_cons]at hf;split at hf
  ·rename_i hx;injection hf with hf;subst hf;have Ix:x.fr<=a/\a<x.to:=(by simpa [Rg.holds]using hx);rw[Rg.cov,if_pos h,if_pos Ix,Rg.cov];by_cases c:x.to<t
   ·rw[if_pos c,if_neg (by omega)]
   ·rw[if_neg c];exact lY (by omega)
  ·rename_i hx;have Ix: ¬(x.fr<=a/\a<x.to):=(by simpa [Rg.holds]using hx);have hr:=List.mem_of_find?_eq_some hf;have h1:=(List.pairwise_cons.1 Bd.1).1 r hr;have h2:=JT.2 r hr;rw[Rg.cov,if_pos h,if_neg Ix,ih JT hf,Rg.cov];by_cases c:r.to<t
   ·rw[if_pos c,if_neg (by omega)]
   ·rw[if_neg c];exact lY (by omega)
def Rg.protect (l:List Reg) (f t p:Int):List Reg×Int:=if Rg.stretch l f t=true/\p<=7 then(if Rg.cov l f t=true then Rg.few (Rg.joined (Rg.run f t (aI p) l))else([],6))else([],1)
end
section
open Go.RowKit Go.Sort
theorem str_ok {f t:Int} (h0:0<=f) (h1:f<=18446744073709551615) (h2:0<=t) (h3:t<=18446744073709551615):Reg.Ok ⟨f,t,0, -1,0⟩:=
 ⟨h0,h1,h2,h3,by simp,by simp,by simp,by simp,by simp,by simp⟩
theorem jr (A:Option Addr) (n cap:Nat) (f t:Int) (w:World) (l:List Reg) (hl:RSl w w.heap.size A n cap l) (wz:dy l) (h0:0<=f) (h1:f<=18446744073709551615) (h2:0<=t) (h3:t<=18446744073709551615):
  Calls Tryz.prog 113 #[.slice A n cap, .int .u64 f, .int .u64 t] w fun e w'=>e= .returned (.bool (Rg.stretch l f t))/\Below w.heap.size w w':=by
 have hR:=mP A n cap w l hl wz;cases BZ:Rg.right l with
 |false=>
  have HH:Hid (Rg.stretch l f t=false):=uH (by simp[Rg.stretch,BZ]);rw[BZ]at hR;have HR:=uH hR;clear hR BZ;go_enter Tryz.func113,Tryz.ntmps113;go_wp2_with (go_at_call 98;refine(HR.out).mono ?_;rintro e w1 ⟨rfl,vk⟩);go_ret;exact⟨dg (by rw[HH.out]),vk⟩
 |true=>
  have hM:=fun W=>lJ ⟨f,t,0, -1,0⟩ W (str_ok h0 h1 h2 h3);have HH:Hid (Rg.stretch l f t=Rg.one ⟨f,t,0, -1,0⟩):=uH (by simp[Rg.stretch,BZ]);rw[BZ]at hR;have HR:=uH hR;have HM:=uH hM;clear hR BZ hM;generalize Rg.one ⟨f,t,0, -1,0⟩=b at *
  go_enter Tryz.func113,Tryz.ntmps113;go_wp2_with (first
   |(go_at_call 98;refine(HR.out).mono ?_;rintro e w1 ⟨rfl,vk⟩;have vI:=vk.size)
   |(go_at_call 99;refine(HM.out _).mono ?_;rintro e w2 ⟨rfl,vs⟩))
  go_ret;exact⟨dg (by rw[HH.out]),by exact uI⟩
def jh (w:World) (p:List Reg×Int) (e:Ending) (w':World):Prop:=
 ∃A' vh,e= .returned (.tuple #[.slice A' p.1.length vh, .int .i64 p.2])/\OwnR w' w.heap.size A' vh p.1/\Below w.heap.size w w'
theorem cut_any (A:Option Addr) (n cap:Nat) (f t:Int) (w:World) (l:List Reg) (hl:RSl w w.heap.size A n cap l) (wz:dy l) (h0:0<=f) (h1:f<=18446744073709551615) (h2:0<=t) (h3:t<=18446744073709551615):
  Calls Tryz.prog 67 #[.slice A n cap, .int .u64 f, .int .u64 t] w (jh w (Rg.cut l f t)):=by
 have hS:=jr A n cap f t w l hl wz h0 h1 h2 h3;have Dh:=uH hl.len;cases xi:Rg.stretch l f t with
 |false=>
  have HP:Hid (Rg.cut l f t=([],1)):=uH (by simp[Rg.cut,xi]);rw[xi]at hS;have HS:=uH hS;clear hS xi;go_enter Tryz.func67,Tryz.ntmps67;go_wp2_with (go_at_call 113;refine(HS.out).mono ?_;rintro e w1 ⟨rfl,vk⟩);go_ret2;rw[HP.out];exact⟨none,0,rfl,OwnR.nil _ _,vk⟩
 |true=>
  obtain⟨hr,wY,_⟩:=cj xi;have CP:=(cN hr).2;have HP:Hid (Rg.cut l f t=Rg.few (Rg.joined (Rg.run f t bM l))):=uH (by simp[Rg.cut,xi,cut_law hr wz wY]);have BZ:=lp f t bM l;rw[xi]at hS;have HS:=uH hS;clear hS xi hr;generalize Sg:Rg.run f t bM l=rn at *
  have HRN:=uH Sg;clear Sg;go_enter Tryz.func67,Tryz.ntmps67;go_wp2_with fail;refine(HS.out).mono ?_;rintro e w1 ⟨rfl,vk⟩;have vI:=vk.size;have wM:=(hl.below vk (uK _)).more vk.size;go_wp2_with fail;refine(iE f t A n cap w1 l wM (by have:=Dh.out;omega)).mono ?_;rintro e w2 ⟨A2,c2,rfl,Ba,vs⟩;rw[HRN.out]at Ba⊢;have vO:=vs.size;have Oy:=Ba.rsl (by omega);go_wp2_with fail;refine(lT A2 _ c2 w2 _ Oy (by omega)).mono ?_;rintro e w3 ⟨A3,c3,rfl,AZ,vG⟩;go_wp2_with fail;go_ret2;rw[HP.out];refine⟨A3,c3,rfl,AZ.lower (by omega),?_⟩;exact(vk.trans (vs.mono (by omega))).trans (vG.mono (by omega))
end
section
open Go.RowKit Go.Sort
theorem kR (l:List Reg) (a:Int):(l.find? (Rg.holds · a)=none/\Rg.find l a=(aX,false))\/ ∃r,l.find? (Rg.holds · a)=some r/\Rg.find l a=(r,true)/\r∈l/\r.fr<=a/\a<r.to:=by
 cases h:l.find? (Rg.holds · a)with
 |none=>exact .inl ⟨rfl,by simp[Rg.find,h]⟩
 |some r=>
  have h1:=List.find?_some h;simp[Rg.holds]at h1;exact .inr ⟨r,rfl,by simp[Rg.find,h],List.mem_of_find?_eq_some h,h1.1,h1.2⟩
theorem ow (A:Option Addr) (n cap:Nat) (f t p:Int) (w:World) (l:List Reg) (hl:RSl w w.heap.size A n cap l) (wz:dy l) (h0:0<=f) (h1:f<=18446744073709551615) (h2:0<=t) (h3:t<=18446744073709551615):
  Calls Tryz.prog 68 #[.slice A n cap, .int .u64 f, .int .u64 t, .int .u8 p] w (jh w (Rg.protect l f t p)):=by
 have Dh:=uH hl.len;have wR:Below w.heap.size w (w.alloc (.cells #[.int .u8 p] 5)):=by exact uI
 have Cc:=(hl.below wR (uK _)).more (B':=(w.alloc (.cells #[.int .u8 p] 5)).heap.size) (by simp);have hS:=jr A n cap f t _ l Cc wz h0 h1 h2 h3;cases xi:Rg.stretch l f t with
 |false=>
  have HP:Hid (Rg.protect l f t p=([],1)):=uH (by simp[Rg.protect,xi]);rw[xi]at hS;have HS:=uH hS;clear hS xi hl Cc wR;go_enter Tryz.func68,Tryz.ntmps68;go_wp2_with (go_at_call 113;refine(HS.out).mono ?_;rintro e w1 ⟨rfl,vk⟩);have hz:=vk.size;simp at hz;go_ret2;rw[HP.out];exact⟨none,0,rfl,OwnR.nil _ _,by exact uI⟩
 |true=>
  obtain⟨hr,wY,_⟩:=cj xi;have CP:=(cN hr).2;have Bd:=df hr;rw[xi]at hS;have HS:=uH hS;by_cases hp:p<=7
  ·have HP:Hid (Rg.protect l f t p=if Rg.cov l f t=true then Rg.few (Rg.joined (Rg.run f t (aI p) l))else([],6)):=uH (by simp[Rg.protect,xi,hp]);have BZ:=lp f t (aI p) l;have HAP:=uH Bd;clear hS xi hr Bd hl wR;go_enter Tryz.func68,Tryz.ntmps68;go_wp2_with (go_at_call 113;refine(HS.out).mono ?_;rintro e w1 ⟨rfl,vk⟩;have vI:=vk.size;simp at vI;have q0:w1.cell? ⟨w.heap.size,0,none⟩=some (.int .u8 p):=((vk.cell (p:=⟨w.heap.size,0,none⟩) (by simp)).trans (by simp)));have wM:=(Cc.below vk (uK _)).more (B':=w1.heap.size) vk.size;have LP:Below w.heap.size w w1:=by exact uI
   have Q0:=uH q0;clear q0 Cc;go_loopw [10] (fun v wr=> ∃a:Int,v= .int .u64 a/\f<=a/\Below w1.heap.size w1 wr/\Rg.cov l a t=Rg.cov l f t) (fun v _ =>(t-intOf v).toNat)
   case atStart=>exact⟨f,rfl,by omega,vg _ _,rfl⟩
   case round=>
    obtain⟨a,rfl,Wk,hB,Wm⟩:=hrel;have Rl:=hB.size;have CV:=uH Wm;have SR:=(wM.below hB (uK _)).more (B':=wr.heap.size) Rl;have PO:=lQ A n cap a wr l SR;have Lt:w.heap.size<w1.heap.size:=(by omega);have q0:=(hB.cell (p:=⟨w.heap.size,0,none⟩) Lt).trans Q0.out;have XE:w.heap.size<wr.heap.size:=(by omega);clear Wm;by_cases wC:a<t
    ·rcases kR l a with⟨e1,e2⟩|⟨r,e1,e2,hrm,Dc,MF⟩
     ·rw[e2]at PO;have HF:=uH PO;have wy:Hid (Rg.protect l f t p=([],6)):=uH (by rw[HP.out,<-CV.out,cov_none wC e1];simp);clear PO e1 e2 SR;go_wp2_with (go_at_call 114;refine(HF.out).mono ?_;rintro e w2 ⟨rfl,vs⟩);go_ret2;rw[wy.out];have vO:=vs.size;have q2:Below w.heap.size w w2:=(LP.trans (hB.mono (by omega))).trans (vs.mono (by omega));exact⟨none,0,rfl,OwnR.nil _ _,by exact uI⟩
     ·rw[e2]at PO;have HF:=uH PO;have vJ:=uH ((cov_step HAP.out wC e1).symm.trans CV.out);clear PO e1 e2 SR hrm;go_wp2_with (go_at_call 114;refine(HF.out).mono ?_;rintro e w2 ⟨rfl,vs⟩;have vO:=vs.size);go_roundw
      case rel=>exact⟨r.to,rfl,by omega,(hB.trans (vs.mono (by omega))).alloc (by omega) _,vJ.out⟩
      case measure=>simp[intOf];omega
    ·have TF:Rg.cov l f t=true:=(by rw[<-CV.out];exact lY (by omega));have Eg:Hid (Rg.protect l f t p=Rg.few (Rg.joined (Rg.run f t (aI p) l))):=uH (by rw[HP.out,if_pos TF]);have hRn:=mM p w.heap.size f t A n cap wr l SR (by have:=Dh.out;omega) q0 XE;have HRn:=uH hRn;generalize Sg:Rg.run f t (aI p) l=rn at *
     have HRN:=uH Sg;clear Sg hRn TF PO SR;go_wp2_with fail;refine(HRn.out).mono ?_;rintro e w2 ⟨A2,c2,rfl,Ba,vs⟩;have vO:=vs.size;have Oy:=Ba.rsl (by omega);go_wp2_with fail;refine(lT A2 _ c2 w2 _ Oy (by omega)).mono ?_;rintro e w3 ⟨A3,c3,rfl,AZ,vG⟩;go_wp2_with fail;go_ret2;rw[Eg.out];refine⟨A3,c3,rfl,AZ.lower (by omega),?_⟩;exact((LP.trans (hB.mono (by omega))).trans (vs.mono (by omega))).trans (vG.mono (by omega))
  ·have HP:Hid (Rg.protect l f t p=([],1)):=uH (by simp[Rg.protect,hp]);clear hS xi hr Bd hl Cc wR;go_enter Tryz.func68,Tryz.ntmps68;go_wp2_with (go_at_call 113;refine(HS.out).mono ?_;rintro e w1 ⟨rfl,vk⟩;have vI:=vk.size;simp at vI;have q0:w1.cell? ⟨w.heap.size,0,none⟩=some (.int .u8 p):=((vk.cell (p:=⟨w.heap.size,0,none⟩) (by simp)).trans (by simp)));go_ret2;rw[HP.out];exact⟨none,0,rfl,OwnR.nil _ _,by exact uI⟩
end
section
def Rg.hit (a:Int) (r:Reg):Reg:=⟨0,0,r.prot,r.ino,if r.ino= -1 then r.off else w64 (r.off+w64 (a-r.fr))⟩
def Rg.ats (l:List Reg) (a:Int):List Reg:=(l.filter (Rg.holds · a)).map (Rg.hit a)
theorem aH (l k:List Reg) (a:Int):Rg.ats (l++k) a=Rg.ats l a++Rg.ats k a:=by simp[Rg.ats]
theorem oT (a:Int):Rg.ats [] a=[]:=rfl
theorem aA (x:Reg) (l:List Reg) (a:Int):Rg.ats (x::l) a=(if x.fr<=a/\a<x.to then [Rg.hit a x]else [])++Rg.ats l a:=by
 unfold Rg.ats;by_cases h:x.fr<=a/\a<x.to
 ·simp[List.filter_cons,Rg.holds,h]
 ·have h':decide (x.fr<=a/\a<x.to)=false:=(by simpa using h);simp only[List.filter_cons,Rg.holds,h',if_neg h];simp
variable {x:Reg} {f a:Int}
theorem jS {g:Int} (hf:x.fr<=f) (ha:f<=a):Rg.hit a (Rg.rpart x f g)=Rg.hit a x:=by
 unfold Rg.hit Rg.rpart;simp only[Reg.mk.injEq,true_and];by_cases h:x.ino= -1
 ·simp[h]
 ·simp only[if_neg h,jm];omega
variable {t:Int}
theorem tX (wY:f<t) (hx:x.fr<x.to):Rg.ats (Rg.wo1 f t x) a=if f<=a/\a<t then []else Rg.ats [x] a:=by
 unfold Rg.wo1;by_cases h:x.to<=f\/t<=x.fr
 ·rw[if_pos h];by_cases vZ:f<=a/\a<t
  ·rw[if_pos vZ,aA,if_neg (by omega)];rfl
  ·rw[if_neg vZ]
 ·rw[if_neg h,aH];by_cases vZ:f<=a/\a<t
  ·rw[if_pos vZ];have e1:Rg.ats (if x.fr<f then [Rg.rpart x x.fr f]else []) a=[]:=by
    split
    ·rw[aA,if_neg (by simp only[Rg.rpart];omega)];rfl
    ·rfl
   have e2:Rg.ats (if t<x.to then [Rg.rpart x t x.to]else []) a=[]:=by
    split
    ·rw[aA,if_neg (by simp only[Rg.rpart];omega)];rfl
    ·rfl
   rw[e1,e2];rfl
  ·rw[if_neg vZ];by_cases hl:a<f
   ·have e2:Rg.ats (if t<x.to then [Rg.rpart x t x.to]else []) a=[]:=by
     split
     ·rw[aA,if_neg (by simp only[Rg.rpart];omega)];rfl
     ·rfl
    rw[e2,List.append_nil];split
    ·rw[aA,aA];by_cases hh:x.fr<=a
     ·rw[if_pos (by simp only[Rg.rpart];omega),if_pos (by omega),jS (Int.le_refl _) hh]
     ·rw[if_neg (by simp only[Rg.rpart];omega),if_neg (by omega)]
    ·rw[aA,if_neg (by omega)];rfl
   ·have e1:Rg.ats (if x.fr<f then [Rg.rpart x x.fr f]else []) a=[]:=by
     split
     ·rw[aA,if_neg (by simp only[Rg.rpart];omega)];rfl
     ·rfl
    rw[e1,List.nil_append];split
    ·rw[aA,aA];by_cases hh:a<x.to
     ·rw[if_pos (by simp only[Rg.rpart];omega),if_pos (by omega),jS (by omega) (by omega)]
     ·rw[if_neg (by simp only[Rg.rpart];omega),if_neg (by omega)]
    ·rw[aA,if_neg (by omega)];rfl
variable {l:List Reg}
theorem km (wY:f<t) (hl: ∀x∈l,x.fr<x.to):Rg.ats (Rg.without l f t) a=if f<=a/\a<t then []else Rg.ats l a:=by
 induction l with
 |nil=>simp[Rg.without,Rg.ats]
 |cons x l ih=>
  have e:Rg.without (x::l) f t=Rg.wo1 f t x++Rg.without l f t:=(by simp[Rg.without]);rw[e,aH,tX wY (hl x (by simp)),ih (fun y hy=>hl y (by simp[hy]))];by_cases vZ:f<=a/\a<t
  ·simp[if_pos vZ]
  ·simp only[if_neg vZ];rw[aA x l,aA x [],oT,List.append_nil]
structure fh (l:List Reg):Prop where
 apart:ga l
 one: ∀x∈l,Rg.one x=true
 ok:dy l
theorem sJ (A:List Reg) (p r:Reg):Rg.push (A++[p]) r=if Rg.joins p r=true then A++[⟨p.fr,r.to,p.prot,p.ino,p.off⟩]else A++[p]++[r]:=by
 unfold Rg.push;simp only[List.getLast?_append,List.getLast?_singleton,Option.some_or];split
 ·simp
 ·rfl
theorem kO {a b:Reg} (h:Rg.joins a b=true):a.to=b.fr/\a.prot=b.prot/\a.ino=b.ino/\(a.ino= -1\/b.off=w64 (a.off+w64 (a.to-a.fr))):=by
 simpa [Rg.joins]using h
variable {A:List Reg} {r:Reg}
theorem iy :ga (A++[r])↔ga A/\(∀x∈A,x.to<=r.fr)/\r.fr<r.to:=by
 unfold ga;rw[List.pairwise_append];constructor
 ·rintro⟨⟨h1,_,h2⟩,h3⟩;exact⟨⟨h1,fun x hx=>h3 x (by simp[hx])⟩,fun x hx=>h2 x hx r (by simp),h3 r (by simp)⟩
 ·rintro⟨⟨h1,h3⟩,h2,h4⟩;refine⟨⟨h1,by simp,fun x hx y hy=>by simp at hy;subst hy;exact h2 x hx⟩,fun x hx=>?_⟩;simp at hx;rcases hx with hx|rfl
  ·exact h3 x hx
  ·exact h4
theorem io :cO (A++[r])↔cO A/\ ∀x∈A,Rg.joins x r=false:=by
 unfold cO;rw[List.pairwise_append];constructor
 ·rintro⟨h1,_,h2⟩;exact⟨h1,fun x hx=>h2 x hx r (by simp)⟩
 ·rintro⟨h1,h2⟩;exact⟨h1,by simp,fun x hx y hy=>by simp at hy;subst hy;exact h2 x hx⟩
variable {p:Reg}
theorem qT (hp:Rg.one p=true) (hr:Rg.one r=true) (EP:p.Ok) (zD:r.Ok) (hj:Rg.joins p r=true):Rg.one ⟨p.fr,r.to,p.prot,p.ino,p.off⟩=true/\Reg.Ok ⟨p.fr,r.to,p.prot,p.ino,p.off⟩:=by
 obtain⟨h1,h2,h3,h4⟩:=kO hj;have a:=aC hp;have b:=aC hr;obtain⟨f0,f1,t0,t1,p0,p1,i0,i1,o0,o1⟩:=EP;obtain⟨f0',f1',t0',t1',p0',p1',i0',i1',o0',o1'⟩:=zD;rw[jm,jm]at h4;refine⟨?_,⟨f0,f1,t0',t1',p0,p1,i0,i1,o0,o1⟩⟩;unfold Rg.one;simp only[decide_eq_true_eq];refine⟨by omega,by omega,by omega,by omega,by omega,?_⟩;rcases a.2.2.2.2.2 with h|h
 ·exact .inl h
 ·refine .inr ⟨h.1,h.2.1,?_⟩;rcases b.2.2.2.2.2 with h'|h'
  ·omega
  ·omega
theorem qU (hp:Rg.one p=true) (hr:Rg.one r=true) (hj:Rg.joins p r=true) (a:Int):Rg.ats [⟨p.fr,r.to,p.prot,p.ino,p.off⟩] a=Rg.ats ([p]++[r]) a:=by
 obtain⟨h1,h2,h3,h4⟩:=kO hj;have x:=aC hp;have y:=aC hr;rw[aH,aA,aA,aA,oT];simp only[List.append_nil];by_cases c1:p.fr<=a/\a<p.to
 ·rw[if_pos (by omega),if_pos c1,if_neg (by omega),List.append_nil];simp only[Rg.hit]
 ·by_cases c2:r.fr<=a/\a<r.to
  ·rw[if_pos (by omega),if_neg c1,if_pos c2,List.nil_append];simp only[Rg.hit,h2,h3];by_cases hi:r.ino= -1
   ·have e1:p.off=0:=by rcases x.2.2.2.2.2 with h|h<;>omega
    have e2:r.off=0:=by rcases y.2.2.2.2.2 with h|h<;>omega
    simp[hi,e1,e2]
   ·rcases h4 with h4|h4
    ·omega
    ·simp only[if_neg hi,h4,jm];have:(p.off+(a-p.fr) % 18446744073709551616) % 18446744073709551616=((p.off+(p.to-p.fr) % 18446744073709551616) % 18446744073709551616+(a-r.fr) % 18446744073709551616) % 18446744073709551616:=(by omega);rw[this]
  ·rw[if_neg (by omega),if_neg c1,if_neg c2];rfl
theorem push_law (hs:fh A) (hl:cO A) (hr:Rg.one r=true) (zD:r.Ok) (vo: ∀x∈A,x.to<=r.fr):
  fh (Rg.push A r)/\cO (Rg.push A r)/\(∀x∈Rg.push A r,x.to<=r.to)/\ ∀a,Rg.ats (Rg.push A r) a=Rg.ats (A++[r]) a:=by
 have hrr:=aC hr;rcases List.eq_nil_or_concat A with rfl|⟨B,p,rfl⟩
 ·rw[push_nil];exact⟨⟨⟨by simp,by simp;omega⟩,by simp[hr],by intro x hx;simp at hx;subst hx;exact zD⟩,by simp[cO],by simp,fun a=>rfl⟩
 ·rw[List.concat_eq_append]at *
  have hp:=hs.one p (by simp);have EP:=hs.ok p (by simp);have hpp:=aC hp;obtain⟨ha,hb,hc⟩:=iy.1 hs.apart;obtain⟨la,lb⟩:=io.1 hl;have hpr:=vo p (by simp);rw[sJ];by_cases hj:Rg.joins p r=true
  ·rw[if_pos hj];obtain⟨m1,m2⟩:=qT hp hr EP zD hj;refine⟨⟨iy.2 ⟨ha,hb,by show p.fr<r.to;omega⟩,?_,?_⟩,io.2 ⟨la,fun x hx=>?_⟩,?_,fun a=>?_⟩
   ·intro x hx;simp at hx;rcases hx with hx|rfl
    ·exact hs.one x (by simp[hx])
    ·exact m1
   ·intro x hx;simp at hx;rcases hx with hx|rfl
    ·exact hs.ok x (by simp[hx])
    ·exact m2
   ·have:=lb x hx;simpa [Rg.joins]using this
   ·intro x hx;simp at hx;rcases hx with hx|rfl
    ·have:=hb x hx;omega
    ·exact Int.le_refl _
   ·rw[aH,qU hp hr hj,aH,aH,aH,List.append_assoc]
  ·rw[if_neg hj];refine⟨⟨iy.2 ⟨hs.apart,vo,hrr.1⟩,?_,?_⟩,io.2 ⟨hl,fun x hx=>?_⟩,?_,fun a=>rfl⟩
   ·intro x hx;rw[List.mem_append]at hx;rcases hx with hx|hx
    ·exact hs.one x hx
    ·simp at hx;subst hx;exact hr
   ·intro x hx;rw[List.mem_append]at hx;rcases hx with hx|hx
    ·exact hs.ok x hx
    ·simp at hx;subst hx;exact zD
   ·rw[List.mem_append]at hx;rcases hx with hx|hx
    ·have h1:=hb x hx;unfold Rg.joins;simp;omega
    ·simp at hx;subst hx;simpa using hj
   ·intro x hx;rw[List.mem_append]at hx;rcases hx with hx|hx
    ·have:=vo x hx;omega
    ·simp at hx;subst hx;exact Int.le_refl _
theorem kP (hs:fh l):fh (Rg.joined l)/\cO (Rg.joined l)/\ ∀a,Rg.ats (Rg.joined l) a=Rg.ats l a:=by
 have key: ∀(l A:List Reg),fh A->cO A->fh l->(∀x∈A,∀y∈l,x.to<=y.fr)->fh (l.foldl Rg.push A)/\cO (l.foldl Rg.push A)/\ ∀a,Rg.ats (l.foldl Rg.push A) a=Rg.ats (A++l) a:=by
  intro l
  induction l with
  |nil=>intro A h1 h2 _ _;exact⟨h1,h2,fun a=>by simp⟩
  |cons r l ih=>
   intro A h1 h2 h3 h4;obtain⟨q1,q2,q3,q4⟩:=push_law h1 h2 (h3.one r (by simp)) (h3.ok r (by simp)) (fun x hx=>h4 x hx r (by simp));have hc:=List.pairwise_cons.1 h3.apart.1;obtain⟨z1,z2,z3⟩:=ih (Rg.push A r) q1 q2 ⟨⟨hc.2,fun x hx=>h3.apart.2 x (by simp[hx])⟩,fun x hx=>h3.one x (by simp[hx]),fun x hx=>h3.ok x (by simp[hx])⟩ (fun x hx y hy=>by have:=q3 x hx;have:=hc.1 y hy;omega);refine⟨z1,z2,fun a=>?_⟩;rw[List.foldl_cons,z3 a,aH,q4 a,aH,aH,List.append_assoc,<-aH];rfl
 have:=key l [] ⟨⟨by simp,by simp⟩,by simp,by intro x hx;simp at hx⟩ (by simp[cO]) hs (by simp);simpa [Rg.joined]using this
theorem lq (hs:fh l) (hl:cO l) (hn:l.length<=64):Rg.right l=true:=by
 unfold Rg.right;rw[Bool.and_eq_true,List.all_eq_true];refine⟨fun k hk=>?_,by simpa using hn⟩;have Di:k<l.length:=List.mem_range.1 hk;have e:=uN Di;cases k with
 |zero=>
  unfold Rg.okAt;rw[e];simp[hs.one _ (List.getElem_mem Di)]
 |succ j=>
  have e2:=uN (show j<l.length by omega);rw[eS e e2,hs.one _ (List.getElem_mem Di)];have h1:=List.pairwise_iff_getElem.1 hs.apart.1 j (j+1) (by omega) Di (by omega);have h2:=List.pairwise_iff_getElem.1 hl j (j+1) (by omega) Di (by omega);simp[h1,h2]
end
section
variable {B:List Reg} {r x:Reg}
theorem lI :x∈Rg.ins B r↔x=r\/x∈B:=by
 induction B with
 |nil=>simp[Rg.ins]
 |cons y B ih=>
  unfold Rg.ins;split
  ·simp
  ·simp only[List.mem_cons,ih];constructor
   ·rintro(h|h|h)<;>simp[h]
   ·rintro(h|h|h)<;>simp[h]
theorem uh (hB:ga B) (hr:r.fr<r.to) (h: ∀x∈B,x.to<=r.fr\/r.to<=x.fr):ga (Rg.ins B r):=by
 refine⟨?_,fun x hx=>by rcases lI.1 hx with rfl|hx;exact hr;exact hB.2 x hx⟩
 induction B with
 |nil=>simp[Rg.ins]
 |cons y B ih=>
  have hc:=List.pairwise_cons.1 hB.1;have hy:=h y (by simp);have QI:=hB.2 y (by simp);unfold Rg.ins;split
  ·refine List.pairwise_cons.2 ⟨fun x hx=>?_,hB.1⟩;simp at hx;rcases hx with rfl|hx
   ·omega
   ·have:=hc.1 x hx;omega
  ·refine List.pairwise_cons.2 ⟨fun x hx=>?_,ih ⟨hc.2,fun x hx=>hB.2 x (by simp[hx])⟩ (fun x hx=>h x (by simp[hx]))⟩;rcases lI.1 hx with rfl|hx
   ·omega
   ·exact hc.1 x hx
variable {a:Int}
theorem oU (h: ¬(r.fr<=a/\a<r.to)):Rg.ats (Rg.ins B r) a=Rg.ats B a:=by
 induction B with
 |nil=>simp only[Rg.ins];rw[aA,if_neg h];rfl
 |cons y B ih=>
  unfold Rg.ins;split
  ·rw[aA r,if_neg h];rfl
  ·rw[aA y,aA y,ih]
theorem rF (h:r.fr<=a/\a<r.to) (hB:Rg.ats B a=[]):Rg.ats (Rg.ins B r) a=Rg.ats [r] a:=by
 induction B with
 |nil=>rfl
 |cons y B ih=>
  rw[aA,List.append_eq_nil_iff]at hB;unfold Rg.ins;split
  ·rw[aA r,aA r,aA y,hB.1,hB.2];rfl
  ·rw[aA y,hB.1,ih hB.2];rfl
variable {f t:Int} {y:Reg}
theorem wo1_out (wY:f<t) (h:y∈Rg.wo1 f t x):y.to<=f\/t<=y.fr:=by
 unfold Rg.wo1 at h;split at h
 ·simp at h;subst h;assumption
 ·rw[List.mem_append]at h;rcases h with h|h
  ·split at h
   ·simp at h;subst h;exact .inl (Int.le_refl _)
   ·simp at h
  ·split at h
   ·simp at h;subst h;exact .inr (Int.le_refl _)
   ·simp at h
theorem da {g:Int} (h:Rg.one x=true) (wz:x.Ok) (h1:x.fr<=f) (h2:f<g) (h3:g<=x.to) (h4:f % 4096=0) (h5:g % 4096=0):Rg.one (Rg.rpart x f g)=true/\(Rg.rpart x f g).Ok:=by
 have a:=aC h;obtain⟨f0,f1,t0,t1,p0,p1,i0,i1,o0,o1⟩:=wz;by_cases hi:x.ino= -1
 ·have e:x.off=0:=by rcases a.2.2.2.2.2 with h|h<;>omega
  have er:Rg.rpart x f g=⟨f,g,x.prot, -1,0⟩:=(by unfold Rg.rpart;simp[hi,e]);rw[er];refine⟨?_,?_⟩
  ·unfold Rg.one;simp only[decide_eq_true_eq];exact⟨h2,by omega,h4,h5,by omega, .inl ⟨trivial,trivial⟩⟩
  ·constructor<;>(simp only;omega)
 ·have b:0<=x.ino/\x.off % 4096=0/\x.off+(x.to-x.fr)<=281474976710656:=(by rcases a.2.2.2.2.2 with h|h;omega;exact h);have e:w64 (x.off+w64 (f-x.fr))=x.off+(f-x.fr):=(by rw[jm,jm];omega);refine⟨?_,?_⟩
  ·unfold Rg.one Rg.rpart;simp only[if_neg hi,decide_eq_true_eq,e];omega
  ·unfold Rg.rpart;simp only[if_neg hi,e];constructor<;>(simp only;omega)
theorem mu (h:Rg.one x=true) (wz:x.Ok) (hf:f % 4096=0) (ht:t % 4096=0) (hy:y∈Rg.wo1 f t x):Rg.one y=true/\y.Ok:=by
 have a:=aC h;unfold Rg.wo1 at hy;split at hy
 ·simp at hy;subst hy;exact⟨h,wz⟩
 ·rw[List.mem_append]at hy;rcases hy with hy|hy
  ·split at hy
   ·simp at hy;subst hy;exact da h wz (Int.le_refl _) (by assumption) (by omega) (by omega) hf
   ·simp at hy
  ·split at hy
   ·simp at hy;subst hy;exact da h wz (by omega) (by assumption) (Int.le_refl _) ht (by omega)
   ·simp at hy
variable {l:List Reg}
theorem gj (hs:fh l) (wY:f<t) (hf:f % 4096=0) (ht:t % 4096=0):fh (Rg.without l f t):=by
 refine⟨gl hs.apart wY,fun y hy=>?_,fun y hy=>?_⟩
 ·obtain⟨x,hx,hy⟩:=List.mem_flatMap.1 hy;exact(mu (hs.one x hx) (hs.ok x hx) hf ht hy).1
 ·obtain⟨x,hx,hy⟩:=List.mem_flatMap.1 hy;exact(mu (hs.one x hx) (hs.ok x hx) hf ht hy).2
theorem fT (h:Rg.right l=true) (wz:dy l):fh l:=⟨df h,dQ h,wz⟩
variable {out:List Reg}
theorem lS (h:Rg.few l=(out,0)):out=l/\l.length<=64:=by
 unfold Rg.few at h;split at h
 ·simp at h
 ·simp at h;exact⟨h.symm,by omega⟩
theorem put_fits (wz:dy l) (zD:r.Ok) (h:Rg.put l r=(out,0)):
  Rg.right out=true/\dy out/\ ∀a,Rg.ats out a=if r.fr<=a/\a<r.to then Rg.ats [r] a else Rg.ats l a:=by
 unfold Rg.put at h;split at h
 ·rename_i hc;obtain⟨hr,h1⟩:=hc;obtain⟨rfl,hn⟩:=lS h;have a:=aC h1;have hs:=fT hr wz;have hw:=gj hs a.1 a.2.2.1 a.2.2.2.1;have St: ∀x∈Rg.without l r.fr r.to,x.to<=r.fr\/r.to<=x.fr:=fun y hy=>by
   obtain⟨x,hx,hy⟩:=List.mem_flatMap.1 hy;exact wo1_out a.1 hy
  have hi:fh (Rg.ins (Rg.without l r.fr r.to) r):=⟨uh hw.apart a.1 St,fun x hx=>by rcases lI.1 hx with rfl|hx;exact h1;exact hw.one x hx,fun x hx=>by rcases lI.1 hx with rfl|hx;exact zD;exact hw.ok x hx⟩;obtain⟨j1,j2,j3⟩:=kP hi;refine⟨lq j1 j2 hn,j1.ok,fun b=>?_⟩;rw[j3 b];have vU:=km (a:=b) a.1 hs.apart.2;by_cases hb:r.fr<=b/\b<r.to
  ·rw[if_pos hb]at vU⊢;exact rF hb vU
  ·rw[if_neg hb]at vU⊢;rw[oU hb,vU]
 ·simp at h
theorem iD (h:Rg.stretch l f t=true):f % 4096=0/\t % 4096=0:=by
 unfold Rg.stretch at h;rw[Bool.and_eq_true]at h;have:=aC h.2;exact⟨this.2.2.1,this.2.2.2.1⟩
theorem cut_fits (wz:dy l) (h:Rg.cut l f t=(out,0)):
  Rg.right out=true/\dy out/\ ∀a,Rg.ats out a=if f<=a/\a<t then []else Rg.ats l a:=by
 unfold Rg.cut at h;split at h
 ·rename_i hc;obtain⟨rfl,hn⟩:=lS h;obtain⟨hr,wY,_⟩:=cj hc;obtain⟨m1,m2⟩:=iD hc;have hs:=fT hr wz;have hw:=gj hs wY m1 m2;exact⟨lq hw (gk hr wz wY) hn,hw.ok,fun a=>km wY hs.apart.2⟩
 ·simp at h
def Reg.withProt (p:Int) (x:Reg):Reg:=⟨x.fr,x.to,p,x.ino,x.off⟩
variable {p:Int}
theorem oo (h:Rg.one x=true) (wz:x.Ok) (wY:f<t) (hf:f % 4096=0) (ht:t % 4096=0) (hp0:0<=p) (hp:p<=7) (hy:y∈Rg.run1 f t (aI p) x):
  x.fr<=y.fr/\y.fr<y.to/\y.to<=x.to/\Rg.one y=true/\y.Ok:=by
 have a:=aC h;rw[jy h wz wY]at hy;split at hy
 ·simp at hy;subst hy;exact⟨Int.le_refl _,a.1,Int.le_refl _,h,wz⟩
 ·rename_i hc;rw[List.mem_append,List.mem_cons]at hy;rcases hy with hy|hy|hy
  ·split at hy
   ·rename_i d;simp at hy;subst hy;have q:=da h wz (Int.le_refl _) d (by omega) a.2.2.1 hf;exact⟨Int.le_refl _,d,by simp only[Rg.rpart];omega,q⟩
   ·simp at hy
  ·subst hy;have q:=da (f:=max x.fr f) (g:=min x.to t) h wz (by omega) (by omega) (by omega) (by omega) (by omega);have b:=aC q.1;obtain⟨f0,f1,t0,t1,p0,p1,i0,i1,o0,o1⟩:=q.2;refine⟨by simp only[Rg.mid];omega,by simp only[Rg.mid];omega,by simp only[Rg.mid];omega,?_,?_⟩
   ·unfold Rg.one Rg.mid;simp only[decide_eq_true_eq];simp only[Rg.rpart]at b;simp only[Rg.rpart];refine⟨b.1,b.2.1,b.2.2.1,b.2.2.2.1,hp,b.2.2.2.2.2⟩
   ·exact⟨f0,f1,t0,t1,hp0,by simp only[Rg.mid];omega,i0,i1,o0,o1⟩
  ·split at hy
   ·rename_i d;simp at hy;subst hy;have q:=da h wz (by omega) d (Int.le_refl _) ht a.2.2.2.1;exact⟨by simp only[Rg.rpart];omega,d,Int.le_refl _,q⟩
   ·simp at hy
theorem qC (h:Rg.one x=true) (wz:x.Ok) (wY:f<t):(Rg.run1 f t (aI p) x).Pairwise (fun a b=>a.to<=b.fr):=by
 rw[jy h wz wY];have a:=aC h;split
 ·simp
 ·split<;>split<;>simp[Rg.rpart,Rg.mid]<;>omega
theorem sw (hs:fh l) (wY:f<t) (hf:f % 4096=0) (ht:t % 4096=0) (hp0:0<=p) (hp:p<=7):fh (Rg.run f t (aI p) l):=by
 have key: ∀y∈Rg.run f t (aI p) l,∃x∈l,x.fr<=y.fr/\y.fr<y.to/\y.to<=x.to/\Rg.one y=true/\y.Ok:=fun y hy=>by
  obtain⟨x,hx,hy⟩:=List.mem_flatMap.1 hy;exact⟨x,hx,oo (hs.one x hx) (hs.ok x hx) wY hf ht hp0 hp hy⟩
 refine⟨⟨?_,fun y hy=>?_⟩,fun y hy=>?_,fun y hy=>?_⟩
 ·clear key
  induction l with
  |nil=>simp[Rg.run]
  |cons x l ih=>
   have hc:=List.pairwise_cons.1 hs.apart.1;have MC:fh l:=⟨⟨hc.2,fun y hy=>hs.apart.2 y (by simp[hy])⟩,fun y hy=>hs.one y (by simp[hy]),fun y hy=>hs.ok y (by simp[hy])⟩;have e:Rg.run f t (aI p) (x::l)=Rg.run1 f t (aI p) x++Rg.run f t (aI p) l:=(by simp[Rg.run]);rw[e,List.pairwise_append];refine⟨qC (hs.one x (by simp)) (hs.ok x (by simp)) wY,ih MC,fun u hu v hv=>?_⟩;obtain⟨z,hz,hv⟩:=List.mem_flatMap.1 hv;have h1:=oo (hs.one x (by simp)) (hs.ok x (by simp)) wY hf ht hp0 hp hu;have h2:=oo (hs.one z (by simp[hz])) (hs.ok z (by simp[hz])) wY hf ht hp0 hp hv;have h3:=hc.1 z hz;omega
 ·obtain⟨x,_,_,h,_⟩:=key y hy;exact h
 ·obtain⟨x,_,_,_,_,h,_⟩:=key y hy;exact h
 ·obtain⟨x,_,_,_,_,_,h⟩:=key y hy;exact h
theorem hit_mid (h1:max x.fr f<=a):Rg.hit a (Rg.mid f t p x)=(Rg.hit a x).withProt p:=by
 have e:=jS (x:=x) (f:=max x.fr f) (g:=min x.to t) (a:=a) (by omega) h1;have e2:(Rg.hit a (Rg.mid f t p x)).off=(Rg.hit a (Rg.rpart x (max x.fr f) (min x.to t))).off:=rfl;rw[e]at e2;have e3:Rg.hit a (Rg.mid f t p x)=⟨0,0,p,x.ino,(Rg.hit a (Rg.mid f t p x)).off⟩:=(by simp only[Rg.hit,Rg.mid]);rw[e3,e2];simp only[Reg.withProt,Rg.hit]
theorem ats_run1 (h:Rg.one x=true) (wz:x.Ok) (wY:f<t):Rg.ats (Rg.run1 f t (aI p) x) a=if f<=a/\a<t then(Rg.ats [x] a).map (Reg.withProt p)else Rg.ats [x] a:=by
 have b:=aC h;have hw:=tX (a:=a) wY b.1;rw[jy h wz wY];unfold Rg.wo1 at hw;by_cases hc:x.to<=f\/t<=x.fr
 ·rw[if_pos hc]at hw⊢;by_cases vZ:f<=a/\a<t
  ·rw[if_pos vZ]at hw⊢;rw[hw];rfl
  ·rw[if_neg vZ]
 ·rw[if_neg hc]at hw⊢;rw[aH]at hw;generalize(if t<x.to then [Rg.rpart x t x.to]else [])=R at hw⊢;generalize(if x.fr<f then [Rg.rpart x x.fr f]else [])=L at hw⊢;rw[aH,aA];by_cases vZ:f<=a/\a<t
  ·rw[if_pos vZ]at hw⊢;rw[List.append_eq_nil_iff]at hw;rw[hw.1,hw.2,aA,oT];by_cases hh:x.fr<=a/\a<x.to
   ·rw[if_pos hh,if_pos (by simp only[Rg.mid];omega),hit_mid (by omega)];rfl
   ·rw[if_neg hh,if_neg (by simp only[Rg.mid];omega)];rfl
  ·rw[if_neg vZ]at hw⊢;rw[if_neg (by simp only[Rg.mid];omega),List.nil_append];exact hw
theorem ats_run (hs:fh l) (wY:f<t):Rg.ats (Rg.run f t (aI p) l) a=if f<=a/\a<t then(Rg.ats l a).map (Reg.withProt p)else Rg.ats l a:=by
 induction l with
 |nil=>simp[Rg.run,Rg.ats]
 |cons x l ih=>
  have hc:=List.pairwise_cons.1 hs.apart.1;have MC:fh l:=⟨⟨hc.2,fun y hy=>hs.apart.2 y (by simp[hy])⟩,fun y hy=>hs.one y (by simp[hy]),fun y hy=>hs.ok y (by simp[hy])⟩;have e:Rg.run f t (aI p) (x::l)=Rg.run1 f t (aI p) x++Rg.run f t (aI p) l:=(by simp[Rg.run]);have e2:Rg.ats (x::l) a=Rg.ats [x] a++Rg.ats l a:=aH [x] l a;rw[e,aH,ats_run1 (hs.one x (by simp)) (hs.ok x (by simp)) wY,ih MC,e2];split<;>simp
theorem cov_at (Bd:ga l) (h:Rg.cov l f t=true) (h1:f<=a) (h2:a<t):Rg.ats l a≠[]:=by
 induction l generalizing f with
 |nil=>simp[Rg.cov]at h;omega
 |cons x l ih=>
  have JT:ga l:=⟨(List.pairwise_cons.1 Bd.1).2,fun y hy=>Bd.2 y (by simp[hy])⟩;rw[aA];rw[Rg.cov,if_pos (by omega)]at h;by_cases hh:x.fr<=a/\a<x.to
  ·rw[if_pos hh];simp
  ·rw[if_neg hh,List.nil_append];split at h
   ·exact ih JT h (by omega)
   ·exact ih JT h h1
theorem mR (wz:dy l) (hp0:0<=p) (h:Rg.protect l f t p=(out,0)):
  Rg.right out=true/\dy out/\(∀a,Rg.ats out a=if f<=a/\a<t then(Rg.ats l a).map (Reg.withProt p)else Rg.ats l a)/\ ∀a,f<=a->a<t->Rg.ats l a≠[]:=by
 unfold Rg.protect at h;split at h
 ·rename_i hc;obtain⟨xi,hp⟩:=hc;split at h
  ·rename_i Wm;obtain⟨rfl,hn⟩:=lS h;obtain⟨hr,wY,_⟩:=cj xi;obtain⟨m1,m2⟩:=iD xi;have hs:=fT hr wz;have hw:=sw hs wY m1 m2 hp0 hp;obtain⟨j1,j2,j3⟩:=kP hw;exact⟨lq j1 j2 hn,j1.ok,fun a=>by rw[j3 a];exact ats_run hs wY,fun a h1 h2=>cov_at hs.apart Wm h1 h2⟩
  ·simp at h
 ·simp at h
end
