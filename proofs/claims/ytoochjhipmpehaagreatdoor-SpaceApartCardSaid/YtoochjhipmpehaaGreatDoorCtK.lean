/- Regions: the plain laws of Cut and Protect. Regions: Cut and Protect, of the program and of the references. Regions: Protect, of the program and of the references. Regions: what each address has: the plain laws under RegionsFollow. Regions: what Put, Cut, Protect do to each address. -/
import Derived.Test.YtoochjhipmpehaaGreatDoorReK
set_option linter.unusedVariables false
set_option linter.unusedSimpArgs false
set_option maxRecDepth 100000
set_option maxHeartbeats 4000000
namespace Go.Proofs.YtoochjhipmpehaaGreatDoor
section
open Go.RowKit Go.Sort
def Rg.stretch (l:List Reg) (f t:Int):Bool:=Rg.right l&&Rg.one ⟨f,t,0, -1,0⟩
def Rg.cut (l:List Reg) (f t:Int):List Reg×Int:=if Rg.stretch l f t=true then Rg.few (Rg.without l f t)else([],1)
variable {l:List Reg} {f t:Int}
theorem cu (h:Rg.stretch l f t=true):Rg.right l=true/\f<t/\t<=140737488355328:=by
 unfold Rg.stretch at h;rw[Bool.and_eq_true]at h;have:=aD h.2;exact⟨h.1,this.1,this.2.1⟩
def cT (l:List Reg):Prop:=l.Pairwise (fun a b=>Rg.joins a b=false)
theorem oG (h:Rg.right l=true):cT l:=by
 have BG:=dk h;unfold cT;rw[List.pairwise_iff_getElem];intro i j hi hj CH;by_cases e:j=i+1
 ·subst e;exact(ir h (vg hi) (vg hj)).2
 ·have h1:=List.pairwise_iff_getElem.1 BG.1 i (i+1) hi (by omega) (by omega);have h2:=List.pairwise_iff_getElem.1 BG.1 (i+1) j (by omega) hj (by omega);have h3:=BG.2 (l[i+1]'(by omega)) (List.getElem_mem _);unfold Rg.joins;simp;omega
variable {x r:Reg}
theorem ke {y p:Reg} (xu:f<t) (hx:x.Ok) (hy:y.Ok) (Rm:x.fr<x.to) (Rl:y.fr<y.to) (hxy:x.to<=y.fr) (hp:p∈Rg.wo1 f t x) (hr:r∈Rg.wo1 f t y) (hj:Rg.joins p r=true):Rg.joins x y=true:=by
 have hp1:=mF xu Rm hp;have AM:=mF xu Rl hr;have hj':p.to=r.fr/\p.prot=r.prot/\p.ino=r.ino/\(p.ino= -1\/r.off=w64 (p.off+w64 (p.to-p.fr))):=(by simpa [Rg.joins]using hj);have kp:p.prot=x.prot/\p.ino=x.ino/\(p.ino= -1\/p.off=w64 (x.off+w64 (p.fr-x.fr))):=by
  unfold Rg.wo1 at hp;split at hp
  ·simp at hp;subst hp;refine⟨rfl,rfl, .inr ?_⟩;rw[Int.sub_self,iL (x:=0) (by omega) (by omega),Int.add_zero,iL hx.off0 hx.off1]
  ·rw[List.mem_append]at hp;rcases hp with hp|hp<;>split at hp
   ·simp at hp;subst hp;refine⟨rfl,rfl,?_⟩;simp only[Rg.rpart];by_cases c:x.ino= -1
    ·exact .inl c
    ·rw[if_neg c];exact .inr rfl
   ·simp at hp
   ·simp at hp;subst hp;refine⟨rfl,rfl,?_⟩;simp only[Rg.rpart];by_cases c:x.ino= -1
    ·exact .inl c
    ·rw[if_neg c];exact .inr rfl
   ·simp at hp
 have kr:r.prot=y.prot/\r.ino=y.ino/\(r.ino= -1\/r.off=w64 (y.off+w64 (r.fr-y.fr))):=by
  unfold Rg.wo1 at hr;split at hr
  ·simp at hr;subst hr;refine⟨rfl,rfl, .inr ?_⟩;rw[Int.sub_self,iL (x:=0) (by omega) (by omega),Int.add_zero,iL hy.off0 hy.off1]
  ·rw[List.mem_append]at hr;rcases hr with hr|hr<;>split at hr
   ·simp at hr;subst hr;refine⟨rfl,rfl,?_⟩;simp only[Rg.rpart];by_cases c:y.ino= -1
    ·exact .inl c
    ·rw[if_neg c];exact .inr rfl
   ·simp at hr
   ·simp at hr;subst hr;refine⟨rfl,rfl,?_⟩;simp only[Rg.rpart];by_cases c:y.ino= -1
    ·exact .inl c
    ·rw[if_neg c];exact .inr rfl
   ·simp at hr
 obtain⟨j1,j2,j3,j4⟩:=hj';obtain⟨a1,a2,a3⟩:=kp;obtain⟨b1,b2,b3⟩:=kr;have e1:p.to=x.to:=(by omega);have e2:y.fr=r.fr:=(by omega);have hoy:=hy.off0;have Yx:=hy.off1;simp only[Rg.joins,decide_eq_true_eq];refine⟨by omega,by omega,by omega,?_⟩;by_cases c:x.ino= -1
 ·exact .inl c
 ·right;have j5:=j4.resolve_left (by omega);have a5:=a3.resolve_left (by omega);have b5:=b3.resolve_left (by omega);rw[<-e2,Int.sub_self,iL (x:=0) (by omega) (by omega),Int.add_zero,iL hoy Yx]at b5;rw[<-b5,j5,a5,e1];simp only[jx];omega
theorem rY (xu:f<t):(Rg.wo1 f t x).Pairwise (fun a b=>Rg.joins a b=false):=by
 unfold Rg.wo1;split
 ·simp
 ·split<;>split<;>simp[Rg.rpart,Rg.joins]
  omega
theorem gq (h:Rg.right l=true) (wW:dD l) (xu:f<t):cT (Rg.without l f t):=by
 have BG:=dk h;have NB:=oG h;unfold cT Rg.without;rw[List.pairwise_flatMap];refine⟨fun x hx=>rY xu,?_⟩;have Us:l.Pairwise (fun a b=>a.to<=b.fr/\Rg.joins a b=false):=by
  rw[List.pairwise_and_iff];exact⟨BG.1,NB⟩
 refine List.Pairwise.imp_of_mem (fun {a b} ha hb RB p hp r hr=>?_) Us;cases hj:Rg.joins p r with
 |false=>rfl
 |true=>
  have:=ke xu (wW a ha) (wW b hb) (BG.2 a ha) (BG.2 b hb) RB.1 hp hr hj;rw[RB.2]at this;cases this
theorem qW {acc:List Reg} (h: ∀p∈acc,Rg.joins p r=false):Rg.push acc r=acc++[r]:=by
 unfold Rg.push;split
 ·rfl
 ·rename_i p hp;rw[if_neg (by rw[h p (List.mem_of_getLast? hp)];simp)]
theorem nF (h:cT l):Rg.joined l=l:=by
 have key: ∀(l acc:List Reg),cT (acc++l)->l.foldl Rg.push acc=acc++l:=by
  intro l
  induction l with
  |nil=>intro acc _;simp
  |cons r l ih=>
   intro acc ha;have h1: ∀p∈acc,Rg.joins p r=false:=fun p hp=>by
    have:=(List.pairwise_append.1 ha).2.2 p hp r (by simp);exact this
   rw[List.foldl_cons,qW h1,ih (acc++[r]) (by simpa using ha)];simp
 simpa [Rg.joined]using key l [] (by simpa using h)
theorem cut_law (h:Rg.right l=true) (wW:dD l) (xu:f<t):Rg.joined (Rg.run f t bP l)=Rg.without l f t:=by
 rw[pS (di h) wW xu,nF (gq h wW xu)]
def Rg.mid (f t p:Int) (x:Reg):Reg:=⟨max x.fr f,min x.to t,p,x.ino,(Rg.rpart x (max x.fr f) (min x.to t)).off⟩
variable {p:Int}
theorem mid_pc (h:Rg.one x=true) (vH:max x.fr f<min x.to t):Rg.pc (aJ p x).1 (max x.fr f) (min x.to t) (aJ p x).2=[Rg.mid f t p x]:=by
 have:=ed h (max x.fr f) (min x.to t);simp only[aJ,gG vH,Rg.mid,<-this];rfl
theorem jI (h:Rg.one x=true) (wW:x.Ok) (xu:f<t):
  Rg.run1 f t (aJ p) x=(if x.to<=f\/t<=x.fr then [x]else(if x.fr<f then [Rg.rpart x x.fr f]else [])++(Rg.mid f t p x::(if t<x.to then [Rg.rpart x t x.to]else []))):=by
 have vH:=(aD h).1;unfold Rg.run1;by_cases c1:x.to<=f
 ·have e1:Rg.pc (aJ p x).1 (max x.fr f) (min x.to t) (aJ p x).2=[]:=kL (by omega);rw[if_pos (.inl c1),e1,Int.min_eq_left c1,gG vH,Int.max_eq_right (by omega),kL (by omega),gH h wW];rfl
 ·by_cases c2:t<=x.fr
  ·have e1:Rg.pc (aJ p x).1 (max x.fr f) (min x.to t) (aJ p x).2=[]:=kL (by omega);rw[if_pos (.inr c2),e1,Int.min_eq_right (by omega),kL (by omega),Int.max_eq_left (by omega),gG vH,gH h wW];rfl
  ·rw[if_neg (by omega),mid_pc h (by omega),Int.min_eq_right (a:=x.to) (b:=f) (by omega),Int.max_eq_right (a:=x.fr) (b:=t) (by omega)];congr 1
   ·split
    ·rename_i d;rw[gG d,ed h]
    ·rename_i d;rw[kL d]
   ·rw[List.cons_append,List.nil_append];congr 1;split
    ·rename_i d;rw[gG d,ed h]
    ·rename_i d;rw[kL d]
def Rg.cov:List Reg->Int->Int->Bool
 | [],a,t=>decide (t<=a)
 |r::l,a,t=>if a<t then(if r.fr<=a/\a<r.to then Rg.cov l r.to t else Rg.cov l a t)else true
variable {a:Int}
theorem ml (h:t<=a):Rg.cov l a t=true:=by
 cases l with
 |nil=>simp[Rg.cov,h]
 |cons r l=>simp only[Rg.cov,if_neg (show¬a<t by omega)]
theorem cov_none (h:a<t) (hn:l.find? (Rg.holds · a)=none):Rg.cov l a t=false:=by
 induction l with
 |nil=>simp[Rg.cov];omega
 |cons r l ih=>
  rw[List.find?_cons]at hn;split at hn
  ·cases hn
  ·rename_i hr;have: ¬(r.fr<=a/\a<r.to):=(by simpa [Rg.holds]using hr);rw[Rg.cov,if_pos h,if_neg this];exact ih hn
theorem cov_step (BG:gl l) (h:a<t) (hf:l.find? (Rg.holds · a)=some r):Rg.cov l a t=Rg.cov l r.to t:=by
 induction l with
 |nil=>simp at hf
 |cons x l ih=>
  have Kv:gl l:=⟨(List.pairwise_cons.1 BG.1).2,fun y hy=>BG.2 y (by simp[hy])⟩;rw[List.find?_cons]at hf;split at hf
  ·rename_i hx;injection hf with hf;subst hf;have Jf:x.fr<=a/\a<x.to:=(by simpa [Rg.holds]using hx);rw[Rg.cov,if_pos h,if_pos Jf,Rg.cov];by_cases c:x.to<t
   ·rw[if_pos c,if_neg (by omega)]
   ·rw[if_neg c];exact ml (by omega)
  ·rename_i hx;have Jf: ¬(x.fr<=a/\a<x.to):=(by simpa [Rg.holds]using hx);have hr:=List.mem_of_find?_eq_some hf;have h1:=(List.pairwise_cons.1 BG.1).1 r hr;have h2:=Kv.2 r hr;rw[Rg.cov,if_pos h,if_neg Jf,ih Kv hf,Rg.cov];by_cases c:r.to<t
   ·rw[if_pos c,if_neg (by omega)]
   ·rw[if_neg c];exact ml (by omega)
def Rg.protect (l:List Reg) (f t p:Int):List Reg×Int:=if Rg.stretch l f t=true/\p<=7 then(if Rg.cov l f t=true then Rg.few (Rg.joined (Rg.run f t (aJ p) l))else([],6))else([],1)
end
section
open Go.RowKit Go.Sort
theorem str_ok {f t:Int} (h0:0<=f) (h1:f<=18446744073709551615) (h2:0<=t) (h3:t<=18446744073709551615):Reg.Ok ⟨f,t,0, -1,0⟩:=
 ⟨h0,h1,h2,h3,by simp,by simp,by simp,by simp,by simp,by simp⟩
theorem jB (A:Option Addr) (n cap:Nat) (f t:Int) (w:World) (l:List Reg) (hl:RSl w w.heap.size A n cap l) (wW:dD l) (h0:0<=f) (h1:f<=18446744073709551615) (h2:0<=t) (h3:t<=18446744073709551615):
  Calls Tryz.prog 113 #[.slice A n cap, .int .u64 f, .int .u64 t] w fun e w'=>e= .returned (.bool (Rg.stretch l f t))/\Below w.heap.size w w':=by
 have hR:=nc A n cap w l hl wW;cases DE:Rg.right l with
 |false=>
  have HH:Hid (Rg.stretch l f t=false):=va (by simp[Rg.stretch,DE]);rw[DE]at hR;have HR:=va hR;clear hR DE;go_enter Tryz.func113,Tryz.ntmps113;go_wp2_with (go_at_call 98;refine(HR.out).mono ?_;rintro e w1 ⟨rfl,vD⟩);go_ret;exact⟨dl (by rw[HH.out]),vD⟩
 |true=>
  have hM:=fun W=>lS ⟨f,t,0, -1,0⟩ W (str_ok h0 h1 h2 h3);have HH:Hid (Rg.stretch l f t=Rg.one ⟨f,t,0, -1,0⟩):=va (by simp[Rg.stretch,DE]);rw[DE]at hR;have HR:=va hR;have HM:=va hM;clear hR DE hM;generalize Rg.one ⟨f,t,0, -1,0⟩=b at *
  go_enter Tryz.func113,Tryz.ntmps113;go_wp2_with (first
   |(go_at_call 98;refine(HR.out).mono ?_;rintro e w1 ⟨rfl,vD⟩;have wg:=vD.size)
   |(go_at_call 99;refine(HM.out _).mono ?_;rintro e w2 ⟨rfl,vM⟩))
  go_ret;exact⟨dl (by rw[HH.out]),by exact vb⟩
def jt (w:World) (p:List Reg×Int) (e:Ending) (w':World):Prop:=
 ∃A' vA,e= .returned (.tuple #[.slice A' p.1.length vA, .int .i64 p.2])/\OwnR w' w.heap.size A' vA p.1/\Below w.heap.size w w'
theorem cut_any (A:Option Addr) (n cap:Nat) (f t:Int) (w:World) (l:List Reg) (hl:RSl w w.heap.size A n cap l) (wW:dD l) (h0:0<=f) (h1:f<=18446744073709551615) (h2:0<=t) (h3:t<=18446744073709551615):
  Calls Tryz.prog 67 #[.slice A n cap, .int .u64 f, .int .u64 t] w (jt w (Rg.cut l f t)):=by
 have hS:=jB A n cap f t w l hl wW h0 h1 h2 h3;have DI:=va hl.len;cases xo:Rg.stretch l f t with
 |false=>
  have HP:Hid (Rg.cut l f t=([],1)):=va (by simp[Rg.cut,xo]);rw[xo]at hS;have HS:=va hS;clear hS xo;go_enter Tryz.func67,Tryz.ntmps67;go_wp2_with (go_at_call 113;refine(HS.out).mono ?_;rintro e w1 ⟨rfl,vD⟩);go_ret2;rw[HP.out];exact⟨none,0,rfl,OwnR.nil _ _,vD⟩
 |true=>
  obtain⟨hr,xu,_⟩:=cu xo;have Dp:=(bY hr).2;have HP:Hid (Rg.cut l f t=Rg.few (Rg.joined (Rg.run f t bP l))):=va (by simp[Rg.cut,xo,cut_law hr wW xu]);have DE:=lE f t bP l;rw[xo]at hS;have HS:=va hS;clear hS xo hr;generalize OZ:Rg.run f t bP l=rn at *
  have HRN:=va OZ;clear OZ;go_enter Tryz.func67,Tryz.ntmps67;go_wp2_with fail;refine(HS.out).mono ?_;rintro e w1 ⟨rfl,vD⟩;have wg:=vD.size;have xm:=(hl.below vD (vd _)).more vD.size;go_wp2_with fail;refine(iO f t A n cap w1 l xm (by have:=DI.out;omega)).mono ?_;rintro e w2 ⟨A2,c2,rfl,BD,vM⟩;rw[HRN.out]at BD⊢;have wm:=vM.size;have OX:=BD.rsl (by omega);go_wp2_with fail;refine(mf A2 _ c2 w2 _ OX (by omega)).mono ?_;rintro e w3 ⟨A3,c3,rfl,AF,vX⟩;go_wp2_with fail;go_ret2;rw[HP.out];refine⟨A3,c3,rfl,AF.lower (by omega),?_⟩;exact(vD.trans (vM.mono (by omega))).trans (vX.mono (by omega))
end
section
open Go.RowKit Go.Sort
theorem ld (l:List Reg) (a:Int):(l.find? (Rg.holds · a)=none/\Rg.find l a=(bc,false))\/ ∃r,l.find? (Rg.holds · a)=some r/\Rg.find l a=(r,true)/\r∈l/\r.fr<=a/\a<r.to:=by
 cases h:l.find? (Rg.holds · a)with
 |none=>exact .inl ⟨rfl,by simp[Rg.find,h]⟩
 |some r=>
  have h1:=List.find?_some h;simp[Rg.holds]at h1;exact .inr ⟨r,rfl,by simp[Rg.find,h],List.mem_of_find?_eq_some h,h1.1,h1.2⟩
theorem oJ (A:Option Addr) (n cap:Nat) (f t p:Int) (w:World) (l:List Reg) (hl:RSl w w.heap.size A n cap l) (wW:dD l) (h0:0<=f) (h1:f<=18446744073709551615) (h2:0<=t) (h3:t<=18446744073709551615):
  Calls Tryz.prog 68 #[.slice A n cap, .int .u64 f, .int .u64 t, .int .u8 p] w (jt w (Rg.protect l f t p)):=by
 have DI:=va hl.len;have xr:Below w.heap.size w (w.alloc (.cells #[.int .u8 p] 5)):=by exact vb
 have Cy:=(hl.below xr (vd _)).more (B':=(w.alloc (.cells #[.int .u8 p] 5)).heap.size) (by simp);have hS:=jB A n cap f t _ l Cy wW h0 h1 h2 h3;cases xo:Rg.stretch l f t with
 |false=>
  have HP:Hid (Rg.protect l f t p=([],1)):=va (by simp[Rg.protect,xo]);rw[xo]at hS;have HS:=va hS;clear hS xo hl Cy xr;go_enter Tryz.func68,Tryz.ntmps68;go_wp2_with (go_at_call 113;refine(HS.out).mono ?_;rintro e w1 ⟨rfl,vD⟩);have hz:=vD.size;simp at hz;go_ret2;rw[HP.out];exact⟨none,0,rfl,OwnR.nil _ _,by exact vb⟩
 |true=>
  obtain⟨hr,xu,_⟩:=cu xo;have Dp:=(bY hr).2;have BG:=dk hr;rw[xo]at hS;have HS:=va hS;by_cases hp:p<=7
  ·have HP:Hid (Rg.protect l f t p=if Rg.cov l f t=true then Rg.few (Rg.joined (Rg.run f t (aJ p) l))else([],6)):=va (by simp[Rg.protect,xo,hp]);have DE:=lE f t (aJ p) l;have HAP:=va BG;clear hS xo hr BG hl xr;go_enter Tryz.func68,Tryz.ntmps68;go_wp2_with (go_at_call 113;refine(HS.out).mono ?_;rintro e w1 ⟨rfl,vD⟩;have wg:=vD.size;simp at wg;have q0:w1.cell? ⟨w.heap.size,0,none⟩=some (.int .u8 p):=((vD.cell (p:=⟨w.heap.size,0,none⟩) (by simp)).trans (by simp)));have xm:=(Cy.below vD (vd _)).more (B':=w1.heap.size) vD.size;have Mu:Below w.heap.size w w1:=by exact vb
   have Q0:=va q0;clear q0 Cy;go_loopw [10] (fun v wr=> ∃a:Int,v= .int .u64 a/\f<=a/\Below w1.heap.size w1 wr/\Rg.cov l a t=Rg.cov l f t) (fun v _ =>(t-intOf v).toNat)
   case atStart=>exact⟨f,rfl,by omega,vz _ _,rfl⟩
   case round=>
    obtain⟨a,rfl,Xj,hB,Xl⟩:=hrel;have RO:=hB.size;have CV:=va Xl;have TA:=(xm.below hB (vd _)).more (B':=wr.heap.size) RO;have Qm:=lZ A n cap a wr l TA;have Mb:w.heap.size<w1.heap.size:=(by omega);have q0:=(hB.cell (p:=⟨w.heap.size,0,none⟩) Mb).trans Q0.out;have YJ:w.heap.size<wr.heap.size:=(by omega);clear Xl;by_cases wK:a<t
    ·rcases ld l a with⟨e1,e2⟩|⟨r,e1,e2,hrm,AM,FP⟩
     ·rw[e2]at Qm;have HF:=va Qm;have wU:Hid (Rg.protect l f t p=([],6)):=va (by rw[HP.out,<-CV.out,cov_none wK e1];simp);clear Qm e1 e2 TA;go_wp2_with (go_at_call 114;refine(HF.out).mono ?_;rintro e w2 ⟨rfl,vM⟩);go_ret2;rw[wU.out];have wm:=vM.size;have q2:Below w.heap.size w w2:=(Mu.trans (hB.mono (by omega))).trans (vM.mono (by omega));exact⟨none,0,rfl,OwnR.nil _ _,by exact vb⟩
     ·rw[e2]at Qm;have HF:=va Qm;have wh:=va ((cov_step HAP.out wK e1).symm.trans CV.out);clear Qm e1 e2 TA hrm;go_wp2_with (go_at_call 114;refine(HF.out).mono ?_;rintro e w2 ⟨rfl,vM⟩;have wm:=vM.size);go_roundw
      case rel=>exact⟨r.to,rfl,by omega,(hB.trans (vM.mono (by omega))).alloc (by omega) _,wh.out⟩
      case measure=>simp[intOf];omega
    ·have Um:Rg.cov l f t=true:=(by rw[<-CV.out];exact ml (by omega));have EI:Hid (Rg.protect l f t p=Rg.few (Rg.joined (Rg.run f t (aJ p) l))):=va (by rw[HP.out,if_pos Um]);have hRn:=mW p w.heap.size f t A n cap wr l TA (by have:=DI.out;omega) q0 YJ;have HRn:=va hRn;generalize OZ:Rg.run f t (aJ p) l=rn at *
     have HRN:=va OZ;clear OZ hRn Um Qm TA;go_wp2_with fail;refine(HRn.out).mono ?_;rintro e w2 ⟨A2,c2,rfl,BD,vM⟩;have wm:=vM.size;have OX:=BD.rsl (by omega);go_wp2_with fail;refine(mf A2 _ c2 w2 _ OX (by omega)).mono ?_;rintro e w3 ⟨A3,c3,rfl,AF,vX⟩;go_wp2_with fail;go_ret2;rw[EI.out];refine⟨A3,c3,rfl,AF.lower (by omega),?_⟩;exact((Mu.trans (hB.mono (by omega))).trans (vM.mono (by omega))).trans (vX.mono (by omega))
  ·have HP:Hid (Rg.protect l f t p=([],1)):=va (by simp[Rg.protect,hp]);clear hS xo hr BG hl Cy xr;go_enter Tryz.func68,Tryz.ntmps68;go_wp2_with (go_at_call 113;refine(HS.out).mono ?_;rintro e w1 ⟨rfl,vD⟩;have wg:=vD.size;simp at wg;have q0:w1.cell? ⟨w.heap.size,0,none⟩=some (.int .u8 p):=((vD.cell (p:=⟨w.heap.size,0,none⟩) (by simp)).trans (by simp)));go_ret2;rw[HP.out];exact⟨none,0,rfl,OwnR.nil _ _,by exact vb⟩
end
section
def Rg.hit (a:Int) (r:Reg):Reg:=⟨0,0,r.prot,r.ino,if r.ino= -1 then r.off else w64 (r.off+w64 (a-r.fr))⟩
def Rg.ats (l:List Reg) (a:Int):List Reg:=(l.filter (Rg.holds · a)).map (Rg.hit a)
theorem aI (l k:List Reg) (a:Int):Rg.ats (l++k) a=Rg.ats l a++Rg.ats k a:=by simp[Rg.ats]
theorem pl (a:Int):Rg.ats [] a=[]:=rfl
theorem aB (x:Reg) (l:List Reg) (a:Int):Rg.ats (x::l) a=(if x.fr<=a/\a<x.to then [Rg.hit a x]else [])++Rg.ats l a:=by
 unfold Rg.ats;by_cases h:x.fr<=a/\a<x.to
 ·simp[List.filter_cons,Rg.holds,h]
 ·have h':decide (x.fr<=a/\a<x.to)=false:=(by simpa using h);simp only[List.filter_cons,Rg.holds,h',if_neg h];simp
variable {x:Reg} {f a:Int}
theorem kg {g:Int} (hf:x.fr<=f) (ha:f<=a):Rg.hit a (Rg.rpart x f g)=Rg.hit a x:=by
 unfold Rg.hit Rg.rpart;simp only[Reg.mk.injEq,true_and];by_cases h:x.ino= -1
 ·simp[h]
 ·simp only[if_neg h,jx];omega
variable {t:Int}
theorem ur (xu:f<t) (hx:x.fr<x.to):Rg.ats (Rg.wo1 f t x) a=if f<=a/\a<t then []else Rg.ats [x] a:=by
 unfold Rg.wo1;by_cases h:x.to<=f\/t<=x.fr
 ·rw[if_pos h];by_cases wI:f<=a/\a<t
  ·rw[if_pos wI,aB,if_neg (by omega)];rfl
  ·rw[if_neg wI]
 ·rw[if_neg h,aI];by_cases wI:f<=a/\a<t
  ·rw[if_pos wI];have e1:Rg.ats (if x.fr<f then [Rg.rpart x x.fr f]else []) a=[]:=by
    split
    ·rw[aB,if_neg (by simp only[Rg.rpart];omega)];rfl
    ·rfl
   have e2:Rg.ats (if t<x.to then [Rg.rpart x t x.to]else []) a=[]:=by
    split
    ·rw[aB,if_neg (by simp only[Rg.rpart];omega)];rfl
    ·rfl
   rw[e1,e2];rfl
  ·rw[if_neg wI];by_cases hl:a<f
   ·have e2:Rg.ats (if t<x.to then [Rg.rpart x t x.to]else []) a=[]:=by
     split
     ·rw[aB,if_neg (by simp only[Rg.rpart];omega)];rfl
     ·rfl
    rw[e2,List.append_nil];split
    ·rw[aB,aB];by_cases hh:x.fr<=a
     ·rw[if_pos (by simp only[Rg.rpart];omega),if_pos (by omega),kg (Int.le_refl _) hh]
     ·rw[if_neg (by simp only[Rg.rpart];omega),if_neg (by omega)]
    ·rw[aB,if_neg (by omega)];rfl
   ·have e1:Rg.ats (if x.fr<f then [Rg.rpart x x.fr f]else []) a=[]:=by
     split
     ·rw[aB,if_neg (by simp only[Rg.rpart];omega)];rfl
     ·rfl
    rw[e1,List.nil_append];split
    ·rw[aB,aB];by_cases hh:a<x.to
     ·rw[if_pos (by simp only[Rg.rpart];omega),if_pos (by omega),kg (by omega) (by omega)]
     ·rw[if_neg (by simp only[Rg.rpart];omega),if_neg (by omega)]
    ·rw[aB,if_neg (by omega)];rfl
variable {l:List Reg}
theorem kC (xu:f<t) (hl: ∀x∈l,x.fr<x.to):Rg.ats (Rg.without l f t) a=if f<=a/\a<t then []else Rg.ats l a:=by
 induction l with
 |nil=>simp[Rg.without,Rg.ats]
 |cons x l ih=>
  have e:Rg.without (x::l) f t=Rg.wo1 f t x++Rg.without l f t:=(by simp[Rg.without]);rw[e,aI,ur xu (hl x (by simp)),ih (fun y hy=>hl y (by simp[hy]))];by_cases wI:f<=a/\a<t
  ·simp[if_pos wI]
  ·simp only[if_neg wI];rw[aB x l,aB x [],pl,List.append_nil]
structure ft (l:List Reg):Prop where
 apart:gl l
 one: ∀x∈l,Rg.one x=true
 ok:dD l
theorem sW (A:List Reg) (p r:Reg):Rg.push (A++[p]) r=if Rg.joins p r=true then A++[⟨p.fr,r.to,p.prot,p.ino,p.off⟩]else A++[p]++[r]:=by
 unfold Rg.push;simp only[List.getLast?_append,List.getLast?_singleton,Option.some_or];split
 ·simp
 ·rfl
theorem kY {a b:Reg} (h:Rg.joins a b=true):a.to=b.fr/\a.prot=b.prot/\a.ino=b.ino/\(a.ino= -1\/b.off=w64 (a.off+w64 (a.to-a.fr))):=by
 simpa [Rg.joins]using h
variable {A:List Reg} {r:Reg}
theorem iI :gl (A++[r])↔gl A/\(∀x∈A,x.to<=r.fr)/\r.fr<r.to:=by
 unfold gl;rw[List.pairwise_append];constructor
 ·rintro⟨⟨h1,_,h2⟩,h3⟩;exact⟨⟨h1,fun x hx=>h3 x (by simp[hx])⟩,fun x hx=>h2 x hx r (by simp),h3 r (by simp)⟩
 ·rintro⟨⟨h1,h3⟩,h2,h4⟩;refine⟨⟨h1,by simp,fun x hx y hy=>by simp at hy;subst hy;exact h2 x hx⟩,fun x hx=>?_⟩;simp at hx;rcases hx with hx|rfl
  ·exact h3 x hx
  ·exact h4
theorem iA :cT (A++[r])↔cT A/\ ∀x∈A,Rg.joins x r=false:=by
 unfold cT;rw[List.pairwise_append];constructor
 ·rintro⟨h1,_,h2⟩;exact⟨h1,fun x hx=>h2 x hx r (by simp)⟩
 ·rintro⟨h1,h2⟩;exact⟨h1,by simp,fun x hx y hy=>by simp at hy;subst hy;exact h2 x hx⟩
variable {p:Reg}
theorem ri (hp:Rg.one p=true) (hr:Rg.one r=true) (Fw:p.Ok) (Af:r.Ok) (hj:Rg.joins p r=true):Rg.one ⟨p.fr,r.to,p.prot,p.ino,p.off⟩=true/\Reg.Ok ⟨p.fr,r.to,p.prot,p.ino,p.off⟩:=by
 obtain⟨h1,h2,h3,h4⟩:=kY hj;have a:=aD hp;have b:=aD hr;obtain⟨f0,f1,t0,t1,p0,p1,i0,i1,o0,o1⟩:=Fw;obtain⟨f0',f1',t0',t1',p0',p1',i0',i1',o0',o1'⟩:=Af;rw[jx,jx]at h4;refine⟨?_,⟨f0,f1,t0',t1',p0,p1,i0,i1,o0,o1⟩⟩;unfold Rg.one;simp only[decide_eq_true_eq];refine⟨by omega,by omega,by omega,by omega,by omega,?_⟩;rcases a.2.2.2.2.2 with h|h
 ·exact .inl h
 ·refine .inr ⟨h.1,h.2.1,?_⟩;rcases b.2.2.2.2.2 with h'|h'
  ·omega
  ·omega
theorem rj (hp:Rg.one p=true) (hr:Rg.one r=true) (hj:Rg.joins p r=true) (a:Int):Rg.ats [⟨p.fr,r.to,p.prot,p.ino,p.off⟩] a=Rg.ats ([p]++[r]) a:=by
 obtain⟨h1,h2,h3,h4⟩:=kY hj;have x:=aD hp;have y:=aD hr;rw[aI,aB,aB,aB,pl];simp only[List.append_nil];by_cases c1:p.fr<=a/\a<p.to
 ·rw[if_pos (by omega),if_pos c1,if_neg (by omega),List.append_nil];simp only[Rg.hit]
 ·by_cases c2:r.fr<=a/\a<r.to
  ·rw[if_pos (by omega),if_neg c1,if_pos c2,List.nil_append];simp only[Rg.hit,h2,h3];by_cases hi:r.ino= -1
   ·have e1:p.off=0:=by rcases x.2.2.2.2.2 with h|h<;>omega
    have e2:r.off=0:=by rcases y.2.2.2.2.2 with h|h<;>omega
    simp[hi,e1,e2]
   ·rcases h4 with h4|h4
    ·omega
    ·simp only[if_neg hi,h4,jx];have:(p.off+(a-p.fr) % 18446744073709551616) % 18446744073709551616=((p.off+(p.to-p.fr) % 18446744073709551616) % 18446744073709551616+(a-r.fr) % 18446744073709551616) % 18446744073709551616:=(by omega);rw[this]
  ·rw[if_neg (by omega),if_neg c1,if_neg c2];rfl
theorem push_law (hs:ft A) (hl:cT A) (hr:Rg.one r=true) (Af:r.Ok) (vH: ∀x∈A,x.to<=r.fr):
  ft (Rg.push A r)/\cT (Rg.push A r)/\(∀x∈Rg.push A r,x.to<=r.to)/\ ∀a,Rg.ats (Rg.push A r) a=Rg.ats (A++[r]) a:=by
 have hrr:=aD hr;rcases List.eq_nil_or_concat A with rfl|⟨B,p,rfl⟩
 ·rw[push_nil];exact⟨⟨⟨by simp,by simp;omega⟩,by simp[hr],by intro x hx;simp at hx;subst hx;exact Af⟩,by simp[cT],by simp,fun a=>rfl⟩
 ·rw[List.concat_eq_append]at *
  have hp:=hs.one p (by simp);have Fw:=hs.ok p (by simp);have hpp:=aD hp;obtain⟨ha,hb,hc⟩:=iI.1 hs.apart;obtain⟨la,lb⟩:=iA.1 hl;have hpr:=vH p (by simp);rw[sW];by_cases hj:Rg.joins p r=true
  ·rw[if_pos hj];obtain⟨m1,m2⟩:=ri hp hr Fw Af hj;refine⟨⟨iI.2 ⟨ha,hb,by show p.fr<r.to;omega⟩,?_,?_⟩,iA.2 ⟨la,fun x hx=>?_⟩,?_,fun a=>?_⟩
   ·intro x hx;simp at hx;rcases hx with hx|rfl
    ·exact hs.one x (by simp[hx])
    ·exact m1
   ·intro x hx;simp at hx;rcases hx with hx|rfl
    ·exact hs.ok x (by simp[hx])
    ·exact m2
   ·have:=lb x hx;simpa [Rg.joins]using this
   ·intro x hx;simp at hx;rcases hx with hx|rfl
    ·have:=hb x hx;omega
    ·exact Int.le_refl _
   ·rw[aI,rj hp hr hj,aI,aI,aI,List.append_assoc]
  ·rw[if_neg hj];refine⟨⟨iI.2 ⟨hs.apart,vH,hrr.1⟩,?_,?_⟩,iA.2 ⟨hl,fun x hx=>?_⟩,?_,fun a=>rfl⟩
   ·intro x hx;rw[List.mem_append]at hx;rcases hx with hx|hx
    ·exact hs.one x hx
    ·simp at hx;subst hx;exact hr
   ·intro x hx;rw[List.mem_append]at hx;rcases hx with hx|hx
    ·exact hs.ok x hx
    ·simp at hx;subst hx;exact Af
   ·rw[List.mem_append]at hx;rcases hx with hx|hx
    ·have h1:=hb x hx;unfold Rg.joins;simp;omega
    ·simp at hx;subst hx;simpa using hj
   ·intro x hx;rw[List.mem_append]at hx;rcases hx with hx|hx
    ·have:=vH x hx;omega
    ·simp at hx;subst hx;exact Int.le_refl _
theorem kZ (hs:ft l):ft (Rg.joined l)/\cT (Rg.joined l)/\ ∀a,Rg.ats (Rg.joined l) a=Rg.ats l a:=by
 have key: ∀(l A:List Reg),ft A->cT A->ft l->(∀x∈A,∀y∈l,x.to<=y.fr)->ft (l.foldl Rg.push A)/\cT (l.foldl Rg.push A)/\ ∀a,Rg.ats (l.foldl Rg.push A) a=Rg.ats (A++l) a:=by
  intro l
  induction l with
  |nil=>intro A h1 h2 _ _;exact⟨h1,h2,fun a=>by simp⟩
  |cons r l ih=>
   intro A h1 h2 h3 h4;obtain⟨q1,q2,q3,q4⟩:=push_law h1 h2 (h3.one r (by simp)) (h3.ok r (by simp)) (fun x hx=>h4 x hx r (by simp));have hc:=List.pairwise_cons.1 h3.apart.1;obtain⟨z1,z2,z3⟩:=ih (Rg.push A r) q1 q2 ⟨⟨hc.2,fun x hx=>h3.apart.2 x (by simp[hx])⟩,fun x hx=>h3.one x (by simp[hx]),fun x hx=>h3.ok x (by simp[hx])⟩ (fun x hx y hy=>by have:=q3 x hx;have:=hc.1 y hy;omega);refine⟨z1,z2,fun a=>?_⟩;rw[List.foldl_cons,z3 a,aI,q4 a,aI,aI,List.append_assoc,<-aI];rfl
 have:=key l [] ⟨⟨by simp,by simp⟩,by simp,by intro x hx;simp at hx⟩ (by simp[cT]) hs (by simp);simpa [Rg.joined]using this
theorem lF (hs:ft l) (hl:cT l) (hn:l.length<=64):Rg.right l=true:=by
 unfold Rg.right;rw[Bool.and_eq_true,List.all_eq_true];refine⟨fun k hk=>?_,by simpa using hn⟩;have DJ:k<l.length:=List.mem_range.1 hk;have e:=vg DJ;cases k with
 |zero=>
  unfold Rg.okAt;rw[e];simp[hs.one _ (List.getElem_mem DJ)]
 |succ j=>
  have e2:=vg (show j<l.length by omega);rw[fa e e2,hs.one _ (List.getElem_mem DJ)];have h1:=List.pairwise_iff_getElem.1 hs.apart.1 j (j+1) (by omega) DJ (by omega);have h2:=List.pairwise_iff_getElem.1 hl j (j+1) (by omega) DJ (by omega);simp[h1,h2]
end
section
variable {B:List Reg} {r x:Reg}
theorem lR :x∈Rg.ins B r↔x=r\/x∈B:=by
 induction B with
 |nil=>simp[Rg.ins]
 |cons y B ih=>
  unfold Rg.ins;split
  ·simp
  ·simp only[List.mem_cons,ih];constructor
   ·rintro(h|h|h)<;>simp[h]
   ·rintro(h|h|h)<;>simp[h]
theorem uC (hB:gl B) (hr:r.fr<r.to) (h: ∀x∈B,x.to<=r.fr\/r.to<=x.fr):gl (Rg.ins B r):=by
 refine⟨?_,fun x hx=>by rcases lR.1 hx with rfl|hx;exact hr;exact hB.2 x hx⟩
 induction B with
 |nil=>simp[Rg.ins]
 |cons y B ih=>
  have hc:=List.pairwise_cons.1 hB.1;have hy:=h y (by simp);have Rl:=hB.2 y (by simp);unfold Rg.ins;split
  ·refine List.pairwise_cons.2 ⟨fun x hx=>?_,hB.1⟩;simp at hx;rcases hx with rfl|hx
   ·omega
   ·have:=hc.1 x hx;omega
  ·refine List.pairwise_cons.2 ⟨fun x hx=>?_,ih ⟨hc.2,fun x hx=>hB.2 x (by simp[hx])⟩ (fun x hx=>h x (by simp[hx]))⟩;rcases lR.1 hx with rfl|hx
   ·omega
   ·exact hc.1 x hx
variable {a:Int}
theorem pn (h: ¬(r.fr<=a/\a<r.to)):Rg.ats (Rg.ins B r) a=Rg.ats B a:=by
 induction B with
 |nil=>simp only[Rg.ins];rw[aB,if_neg h];rfl
 |cons y B ih=>
  unfold Rg.ins;split
  ·rw[aB r,if_neg h];rfl
  ·rw[aB y,aB y,ih]
theorem rR (h:r.fr<=a/\a<r.to) (hB:Rg.ats B a=[]):Rg.ats (Rg.ins B r) a=Rg.ats [r] a:=by
 induction B with
 |nil=>rfl
 |cons y B ih=>
  rw[aB,List.append_eq_nil_iff]at hB;unfold Rg.ins;split
  ·rw[aB r,aB r,aB y,hB.1,hB.2];rfl
  ·rw[aB y,hB.1,ih hB.2];rfl
variable {f t:Int} {y:Reg}
theorem wo1_out (xu:f<t) (h:y∈Rg.wo1 f t x):y.to<=f\/t<=y.fr:=by
 unfold Rg.wo1 at h;split at h
 ·simp at h;subst h;assumption
 ·rw[List.mem_append]at h;rcases h with h|h
  ·split at h
   ·simp at h;subst h;exact .inl (Int.le_refl _)
   ·simp at h
  ·split at h
   ·simp at h;subst h;exact .inr (Int.le_refl _)
   ·simp at h
theorem dg {g:Int} (h:Rg.one x=true) (wW:x.Ok) (h1:x.fr<=f) (h2:f<g) (h3:g<=x.to) (h4:f % 4096=0) (h5:g % 4096=0):Rg.one (Rg.rpart x f g)=true/\(Rg.rpart x f g).Ok:=by
 have a:=aD h;obtain⟨f0,f1,t0,t1,p0,p1,i0,i1,o0,o1⟩:=wW;by_cases hi:x.ino= -1
 ·have e:x.off=0:=by rcases a.2.2.2.2.2 with h|h<;>omega
  have er:Rg.rpart x f g=⟨f,g,x.prot, -1,0⟩:=(by unfold Rg.rpart;simp[hi,e]);rw[er];refine⟨?_,?_⟩
  ·unfold Rg.one;simp only[decide_eq_true_eq];exact⟨h2,by omega,h4,h5,by omega, .inl ⟨trivial,trivial⟩⟩
  ·constructor<;>(simp only;omega)
 ·have b:0<=x.ino/\x.off % 4096=0/\x.off+(x.to-x.fr)<=281474976710656:=(by rcases a.2.2.2.2.2 with h|h;omega;exact h);have e:w64 (x.off+w64 (f-x.fr))=x.off+(f-x.fr):=(by rw[jx,jx];omega);refine⟨?_,?_⟩
  ·unfold Rg.one Rg.rpart;simp only[if_neg hi,decide_eq_true_eq,e];omega
  ·unfold Rg.rpart;simp only[if_neg hi,e];constructor<;>(simp only;omega)
theorem mD (h:Rg.one x=true) (wW:x.Ok) (hf:f % 4096=0) (ht:t % 4096=0) (hy:y∈Rg.wo1 f t x):Rg.one y=true/\y.Ok:=by
 have a:=aD h;unfold Rg.wo1 at hy;split at hy
 ·simp at hy;subst hy;exact⟨h,wW⟩
 ·rw[List.mem_append]at hy;rcases hy with hy|hy
  ·split at hy
   ·simp at hy;subst hy;exact dg h wW (Int.le_refl _) (by assumption) (by omega) (by omega) hf
   ·simp at hy
  ·split at hy
   ·simp at hy;subst hy;exact dg h wW (by omega) (by assumption) (Int.le_refl _) ht (by omega)
   ·simp at hy
variable {l:List Reg}
theorem gn (hs:ft l) (xu:f<t) (hf:f % 4096=0) (ht:t % 4096=0):ft (Rg.without l f t):=by
 refine⟨gt hs.apart xu,fun y hy=>?_,fun y hy=>?_⟩
 ·obtain⟨x,hx,hy⟩:=List.mem_flatMap.1 hy;exact(mD (hs.one x hx) (hs.ok x hx) hf ht hy).1
 ·obtain⟨x,hx,hy⟩:=List.mem_flatMap.1 hy;exact(mD (hs.one x hx) (hs.ok x hx) hf ht hy).2
theorem fX (h:Rg.right l=true) (wW:dD l):ft l:=⟨dk h,di h,wW⟩
variable {out:List Reg}
theorem mc (h:Rg.few l=(out,0)):out=l/\l.length<=64:=by
 unfold Rg.few at h;split at h
 ·simp at h
 ·simp at h;exact⟨h.symm,by omega⟩
theorem put_fits (wW:dD l) (Af:r.Ok) (h:Rg.put l r=(out,0)):
  Rg.right out=true/\dD out/\ ∀a,Rg.ats out a=if r.fr<=a/\a<r.to then Rg.ats [r] a else Rg.ats l a:=by
 unfold Rg.put at h;split at h
 ·rename_i hc;obtain⟨hr,h1⟩:=hc;obtain⟨rfl,hn⟩:=mc h;have a:=aD h1;have hs:=fX hr wW;have hw:=gn hs a.1 a.2.2.1 a.2.2.2.1;have Tc: ∀x∈Rg.without l r.fr r.to,x.to<=r.fr\/r.to<=x.fr:=fun y hy=>by
   obtain⟨x,hx,hy⟩:=List.mem_flatMap.1 hy;exact wo1_out a.1 hy
  have hi:ft (Rg.ins (Rg.without l r.fr r.to) r):=⟨uC hw.apart a.1 Tc,fun x hx=>by rcases lR.1 hx with rfl|hx;exact h1;exact hw.one x hx,fun x hx=>by rcases lR.1 hx with rfl|hx;exact Af;exact hw.ok x hx⟩;obtain⟨j1,j2,j3⟩:=kZ hi;refine⟨lF j1 j2 hn,j1.ok,fun b=>?_⟩;rw[j3 b];have wD:=kC (a:=b) a.1 hs.apart.2;by_cases hb:r.fr<=b/\b<r.to
  ·rw[if_pos hb]at wD⊢;exact rR hb wD
  ·rw[if_neg hb]at wD⊢;rw[pn hb,wD]
 ·simp at h
theorem iN (h:Rg.stretch l f t=true):f % 4096=0/\t % 4096=0:=by
 unfold Rg.stretch at h;rw[Bool.and_eq_true]at h;have:=aD h.2;exact⟨this.2.2.1,this.2.2.2.1⟩
theorem cut_fits (wW:dD l) (h:Rg.cut l f t=(out,0)):
  Rg.right out=true/\dD out/\ ∀a,Rg.ats out a=if f<=a/\a<t then []else Rg.ats l a:=by
 unfold Rg.cut at h;split at h
 ·rename_i hc;obtain⟨rfl,hn⟩:=mc h;obtain⟨hr,xu,_⟩:=cu hc;obtain⟨m1,m2⟩:=iN hc;have hs:=fX hr wW;have hw:=gn hs xu m1 m2;exact⟨lF hw (gq hr wW xu) hn,hw.ok,fun a=>kC xu hs.apart.2⟩
 ·simp at h
def Reg.withProt (p:Int) (x:Reg):Reg:=⟨x.fr,x.to,p,x.ino,x.off⟩
variable {p:Int}
theorem oF (h:Rg.one x=true) (wW:x.Ok) (xu:f<t) (hf:f % 4096=0) (ht:t % 4096=0) (hp0:0<=p) (hp:p<=7) (hy:y∈Rg.run1 f t (aJ p) x):
  x.fr<=y.fr/\y.fr<y.to/\y.to<=x.to/\Rg.one y=true/\y.Ok:=by
 have a:=aD h;rw[jI h wW xu]at hy;split at hy
 ·simp at hy;subst hy;exact⟨Int.le_refl _,a.1,Int.le_refl _,h,wW⟩
 ·rename_i hc;rw[List.mem_append,List.mem_cons]at hy;rcases hy with hy|hy|hy
  ·split at hy
   ·rename_i d;simp at hy;subst hy;have q:=dg h wW (Int.le_refl _) d (by omega) a.2.2.1 hf;exact⟨Int.le_refl _,d,by simp only[Rg.rpart];omega,q⟩
   ·simp at hy
  ·subst hy;have q:=dg (f:=max x.fr f) (g:=min x.to t) h wW (by omega) (by omega) (by omega) (by omega) (by omega);have b:=aD q.1;obtain⟨f0,f1,t0,t1,p0,p1,i0,i1,o0,o1⟩:=q.2;refine⟨by simp only[Rg.mid];omega,by simp only[Rg.mid];omega,by simp only[Rg.mid];omega,?_,?_⟩
   ·unfold Rg.one Rg.mid;simp only[decide_eq_true_eq];simp only[Rg.rpart]at b;simp only[Rg.rpart];refine⟨b.1,b.2.1,b.2.2.1,b.2.2.2.1,hp,b.2.2.2.2.2⟩
   ·exact⟨f0,f1,t0,t1,hp0,by simp only[Rg.mid];omega,i0,i1,o0,o1⟩
  ·split at hy
   ·rename_i d;simp at hy;subst hy;have q:=dg h wW (by omega) d (Int.le_refl _) ht a.2.2.2.1;exact⟨by simp only[Rg.rpart];omega,d,Int.le_refl _,q⟩
   ·simp at hy
theorem qP (h:Rg.one x=true) (wW:x.Ok) (xu:f<t):(Rg.run1 f t (aJ p) x).Pairwise (fun a b=>a.to<=b.fr):=by
 rw[jI h wW xu];have a:=aD h;split
 ·simp
 ·split<;>split<;>simp[Rg.rpart,Rg.mid]<;>omega
theorem sH (hs:ft l) (xu:f<t) (hf:f % 4096=0) (ht:t % 4096=0) (hp0:0<=p) (hp:p<=7):ft (Rg.run f t (aJ p) l):=by
 have key: ∀y∈Rg.run f t (aJ p) l,∃x∈l,x.fr<=y.fr/\y.fr<y.to/\y.to<=x.to/\Rg.one y=true/\y.Ok:=fun y hy=>by
  obtain⟨x,hx,hy⟩:=List.mem_flatMap.1 hy;exact⟨x,hx,oF (hs.one x hx) (hs.ok x hx) xu hf ht hp0 hp hy⟩
 refine⟨⟨?_,fun y hy=>?_⟩,fun y hy=>?_,fun y hy=>?_⟩
 ·clear key
  induction l with
  |nil=>simp[Rg.run]
  |cons x l ih=>
   have hc:=List.pairwise_cons.1 hs.apart.1;have Nj:ft l:=⟨⟨hc.2,fun y hy=>hs.apart.2 y (by simp[hy])⟩,fun y hy=>hs.one y (by simp[hy]),fun y hy=>hs.ok y (by simp[hy])⟩;have e:Rg.run f t (aJ p) (x::l)=Rg.run1 f t (aJ p) x++Rg.run f t (aJ p) l:=(by simp[Rg.run]);rw[e,List.pairwise_append];refine⟨qP (hs.one x (by simp)) (hs.ok x (by simp)) xu,ih Nj,fun u hu v hv=>?_⟩;obtain⟨z,hz,hv⟩:=List.mem_flatMap.1 hv;have h1:=oF (hs.one x (by simp)) (hs.ok x (by simp)) xu hf ht hp0 hp hu;have h2:=oF (hs.one z (by simp[hz])) (hs.ok z (by simp[hz])) xu hf ht hp0 hp hv;have h3:=hc.1 z hz;omega
 ·obtain⟨x,_,_,h,_⟩:=key y hy;exact h
 ·obtain⟨x,_,_,_,_,h,_⟩:=key y hy;exact h
 ·obtain⟨x,_,_,_,_,_,h⟩:=key y hy;exact h
theorem hit_mid (h1:max x.fr f<=a):Rg.hit a (Rg.mid f t p x)=(Rg.hit a x).withProt p:=by
 have e:=kg (x:=x) (f:=max x.fr f) (g:=min x.to t) (a:=a) (by omega) h1;have e2:(Rg.hit a (Rg.mid f t p x)).off=(Rg.hit a (Rg.rpart x (max x.fr f) (min x.to t))).off:=rfl;rw[e]at e2;have e3:Rg.hit a (Rg.mid f t p x)=⟨0,0,p,x.ino,(Rg.hit a (Rg.mid f t p x)).off⟩:=(by simp only[Rg.hit,Rg.mid]);rw[e3,e2];simp only[Reg.withProt,Rg.hit]
theorem ats_run1 (h:Rg.one x=true) (wW:x.Ok) (xu:f<t):Rg.ats (Rg.run1 f t (aJ p) x) a=if f<=a/\a<t then(Rg.ats [x] a).map (Reg.withProt p)else Rg.ats [x] a:=by
 have b:=aD h;have hw:=ur (a:=a) xu b.1;rw[jI h wW xu];unfold Rg.wo1 at hw;by_cases hc:x.to<=f\/t<=x.fr
 ·rw[if_pos hc]at hw⊢;by_cases wI:f<=a/\a<t
  ·rw[if_pos wI]at hw⊢;rw[hw];rfl
  ·rw[if_neg wI]
 ·rw[if_neg hc]at hw⊢;rw[aI]at hw;generalize(if t<x.to then [Rg.rpart x t x.to]else [])=R at hw⊢;generalize(if x.fr<f then [Rg.rpart x x.fr f]else [])=L at hw⊢;rw[aI,aB];by_cases wI:f<=a/\a<t
  ·rw[if_pos wI]at hw⊢;rw[List.append_eq_nil_iff]at hw;rw[hw.1,hw.2,aB,pl];by_cases hh:x.fr<=a/\a<x.to
   ·rw[if_pos hh,if_pos (by simp only[Rg.mid];omega),hit_mid (by omega)];rfl
   ·rw[if_neg hh,if_neg (by simp only[Rg.mid];omega)];rfl
  ·rw[if_neg wI]at hw⊢;rw[if_neg (by simp only[Rg.mid];omega),List.nil_append];exact hw
theorem ats_run (hs:ft l) (xu:f<t):Rg.ats (Rg.run f t (aJ p) l) a=if f<=a/\a<t then(Rg.ats l a).map (Reg.withProt p)else Rg.ats l a:=by
 induction l with
 |nil=>simp[Rg.run,Rg.ats]
 |cons x l ih=>
  have hc:=List.pairwise_cons.1 hs.apart.1;have Nj:ft l:=⟨⟨hc.2,fun y hy=>hs.apart.2 y (by simp[hy])⟩,fun y hy=>hs.one y (by simp[hy]),fun y hy=>hs.ok y (by simp[hy])⟩;have e:Rg.run f t (aJ p) (x::l)=Rg.run1 f t (aJ p) x++Rg.run f t (aJ p) l:=(by simp[Rg.run]);have e2:Rg.ats (x::l) a=Rg.ats [x] a++Rg.ats l a:=aI [x] l a;rw[e,aI,ats_run1 (hs.one x (by simp)) (hs.ok x (by simp)) xu,ih Nj,e2];split<;>simp
theorem cov_at (BG:gl l) (h:Rg.cov l f t=true) (h1:f<=a) (h2:a<t):Rg.ats l a≠[]:=by
 induction l generalizing f with
 |nil=>simp[Rg.cov]at h;omega
 |cons x l ih=>
  have Kv:gl l:=⟨(List.pairwise_cons.1 BG.1).2,fun y hy=>BG.2 y (by simp[hy])⟩;rw[aB];rw[Rg.cov,if_pos (by omega)]at h;by_cases hh:x.fr<=a/\a<x.to
  ·rw[if_pos hh];simp
  ·rw[if_neg hh,List.nil_append];split at h
   ·exact ih Kv h (by omega)
   ·exact ih Kv h h1
theorem nj (wW:dD l) (hp0:0<=p) (h:Rg.protect l f t p=(out,0)):
  Rg.right out=true/\dD out/\(∀a,Rg.ats out a=if f<=a/\a<t then(Rg.ats l a).map (Reg.withProt p)else Rg.ats l a)/\ ∀a,f<=a->a<t->Rg.ats l a≠[]:=by
 unfold Rg.protect at h;split at h
 ·rename_i hc;obtain⟨xo,hp⟩:=hc;split at h
  ·rename_i Xl;obtain⟨rfl,hn⟩:=mc h;obtain⟨hr,xu,_⟩:=cu xo;obtain⟨m1,m2⟩:=iN xo;have hs:=fX hr wW;have hw:=sH hs xu m1 m2 hp0 hp;obtain⟨j1,j2,j3⟩:=kZ hw;exact⟨lF j1 j2 hn,j1.ok,fun a=>by rw[j3 a];exact ats_run hs xu,fun a h1 h2=>cov_at hs.apart Xl h1 h2⟩
  ·simp at h
 ·simp at h
end
