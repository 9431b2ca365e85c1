/- Regions: the plain laws of Cut and Protect. Regions: Cut and Protect, of the program and of the references. Regions: Protect, of the program and of the references. Regions: what each address has: the plain laws under RegionsFollow. Regions: what Put, Cut, Protect do to each address. -/
import Derived.Test.YtoochjhipmpehaaGreatDoorReK
set_option linter.unusedVariables false
set_option linter.unusedSimpArgs false
set_option maxRecDepth 100000
set_option maxHeartbeats 4000000
namespace Go.Proofs.YtoochjhipmpehaaGreatDoor
section
open Go.RowKit Go.Sort
def Rg.stretch (l:List Reg) (f t:Int):Bool:=Rg.right l&&Rg.one ⟨f,t,0, -1,0⟩
def Rg.cut (l:List Reg) (f t:Int):List Reg×Int:=if Rg.stretch l f t=true then Rg.few (Rg.without l f t)else([],1)
variable {l:List Reg} {f t:Int}
theorem ck (h:Rg.stretch l f t=true):Rg.right l=true/\f<t/\t<=140737488355328:=by
 unfold Rg.stretch at h;rw[Bool.and_eq_true]at h;have:=aC h.2;exact⟨h.1,this.1,this.2.1⟩
def cR (l:List Reg):Prop:=l.Pairwise (fun a b=>Rg.joins a b=false)
theorem oA (h:Rg.right l=true):cR l:=by
 have BW:=di h;unfold cR;rw[List.pairwise_iff_getElem];intro i j hi hj Bg;by_cases e:j=i+1
 ·subst e;exact(ij h (vv hi) (vv hj)).2
 ·have h1:=List.pairwise_iff_getElem.1 BW.1 i (i+1) hi (by omega) (by omega);have h2:=List.pairwise_iff_getElem.1 BW.1 (i+1) j (by omega) hj (by omega);have h3:=BW.2 (l[i+1]'(by omega)) (List.getElem_mem _);unfold Rg.joins;simp;omega
variable {x r:Reg}
theorem jV {y p:Reg} (xQ:f<t) (hx:x.Ok) (hy:y.Ok) (Rz:x.fr<x.to) (Ry:y.fr<y.to) (hxy:x.to<=y.fr) (hp:p∈Rg.wo1 f t x) (hr:r∈Rg.wo1 f t y) (hj:Rg.joins p r=true):Rg.joins x y=true:=by
 have hp1:=mA xQ Rz hp;have Ec:=mA xQ Ry hr;have RK:p.to=r.fr/\p.prot=r.prot/\p.ino=r.ino/\(p.ino= -1\/r.off=w64 (p.off+w64 (p.to-p.fr))):=(by simpa [Rg.joins]using hj);have kp:p.prot=x.prot/\p.ino=x.ino/\(p.ino= -1\/p.off=w64 (x.off+w64 (p.fr-x.fr))):=by
  unfold Rg.wo1 at hp;split at hp
  ·simp at hp;subst hp;refine⟨rfl,rfl, .inr ?_⟩;rw[Int.sub_self,iF (x:=0) (by omega) (by omega),Int.add_zero,iF hx.off0 hx.off1]
  ·rw[List.mem_append]at hp;rcases hp with hp|hp<;>split at hp
   ·simp at hp;subst hp;refine⟨rfl,rfl,?_⟩;simp only[Rg.rpart];by_cases c:x.ino= -1
    ·exact .inl c
    ·rw[if_neg c];exact .inr rfl
   ·simp at hp
   ·simp at hp;subst hp;refine⟨rfl,rfl,?_⟩;simp only[Rg.rpart];by_cases c:x.ino= -1
    ·exact .inl c
    ·rw[if_neg c];exact .inr rfl
   ·simp at hp
 have kr:r.prot=y.prot/\r.ino=y.ino/\(r.ino= -1\/r.off=w64 (y.off+w64 (r.fr-y.fr))):=by
  unfold Rg.wo1 at hr;split at hr
  ·simp at hr;subst hr;refine⟨rfl,rfl, .inr ?_⟩;rw[Int.sub_self,iF (x:=0) (by omega) (by omega),Int.add_zero,iF hy.off0 hy.off1]
  ·rw[List.mem_append]at hr;rcases hr with hr|hr<;>split at hr
   ·simp at hr;subst hr;refine⟨rfl,rfl,?_⟩;simp only[Rg.rpart];by_cases c:y.ino= -1
    ·exact .inl c
    ·rw[if_neg c];exact .inr rfl
   ·simp at hr
   ·simp at hr;subst hr;refine⟨rfl,rfl,?_⟩;simp only[Rg.rpart];by_cases c:y.ino= -1
    ·exact .inl c
    ·rw[if_neg c];exact .inr rfl
   ·simp at hr
 obtain⟨j1,j2,j3,j4⟩:=RK;obtain⟨a1,a2,a3⟩:=kp;obtain⟨b1,b2,b3⟩:=kr;have e1:p.to=x.to:=(by omega);have e2:y.fr=r.fr:=(by omega);have hoy:=hy.off0;have YC:=hy.off1;simp only[Rg.joins,decide_eq_true_eq];refine⟨by omega,by omega,by omega,?_⟩;by_cases c:x.ino= -1
 ·exact .inl c
 ·right;have j5:=j4.resolve_left (by omega);have a5:=a3.resolve_left (by omega);have b5:=b3.resolve_left (by omega);rw[<-e2,Int.sub_self,iF (x:=0) (by omega) (by omega),Int.add_zero,iF hoy YC]at b5;rw[<-b5,j5,a5,e1];simp only[jq];omega
theorem sh (xQ:f<t):(Rg.wo1 f t x).Pairwise (fun a b=>Rg.joins a b=false):=by
 unfold Rg.wo1;split
 ·simp
 ·split<;>split<;>simp[Rg.rpart,Rg.joins]
  omega
theorem gt (h:Rg.right l=true) (xk:dA l) (xQ:f<t):cR (Rg.without l f t):=by
 have BW:=di h;have NF:=oA h;unfold cR Rg.without;rw[List.pairwise_flatMap];refine⟨fun x hx=>sh xQ,?_⟩;have UF:l.Pairwise (fun a b=>a.to<=b.fr/\Rg.joins a b=false):=by
  rw[List.pairwise_and_iff];exact⟨BW.1,NF⟩
 refine List.Pairwise.imp_of_mem (fun {a b} ha hb RS p hp r hr=>?_) UF;cases hj:Rg.joins p r with
 |false=>rfl
 |true=>
  have:=jV xQ (xk a ha) (xk b hb) (BW.2 a ha) (BW.2 b hb) RS.1 hp hr hj;rw[RS.2]at this;cases this
theorem qY {acc:List Reg} (h: ∀p∈acc,Rg.joins p r=false):Rg.push acc r=acc++[r]:=by
 unfold Rg.push;split
 ·rfl
 ·rename_i p hp;rw[if_neg (by rw[h p (List.mem_of_getLast? hp)];simp)]
theorem nw (h:cR l):Rg.joined l=l:=by
 have key: ∀(l acc:List Reg),cR (acc++l)->l.foldl Rg.push acc=acc++l:=by
  intro l
  induction l with
  |nil=>intro acc _;simp
  |cons r l ih=>
   intro acc ha;have h1: ∀p∈acc,Rg.joins p r=false:=fun p hp=>by
    have:=(List.pairwise_append.1 ha).2.2 p hp r (by simp);exact this
   rw[List.foldl_cons,qY h1,ih (acc++[r]) (by simpa using ha)];simp
 simpa [Rg.joined]using key l [] (by simpa using h)
theorem cut_law (h:Rg.right l=true) (xk:dA l) (xQ:f<t):Rg.joined (Rg.run f t bM l)=Rg.without l f t:=by
 rw[pK (dW h) xk xQ,nw (gt h xk xQ)]
def Rg.mid (f t p:Int) (x:Reg):Reg:=⟨max x.fr f,min x.to t,p,x.ino,(Rg.rpart x (max x.fr f) (min x.to t)).off⟩
variable {p:Int}
theorem mid_pc (h:Rg.one x=true) (vW:max x.fr f<min x.to t):Rg.pc (aK p x).1 (max x.fr f) (min x.to t) (aK p x).2=[Rg.mid f t p x]:=by
 have:=ec h (max x.fr f) (min x.to t);simp only[aK,gF vW,Rg.mid,<-this];rfl
theorem jC (h:Rg.one x=true) (xk:x.Ok) (xQ:f<t):
  Rg.run1 f t (aK p) x=(if x.to<=f\/t<=x.fr then [x]else(if x.fr<f then [Rg.rpart x x.fr f]else [])++(Rg.mid f t p x::(if t<x.to then [Rg.rpart x t x.to]else []))):=by
 have vW:=(aC h).1;unfold Rg.run1;by_cases c1:x.to<=f
 ·have e1:Rg.pc (aK p x).1 (max x.fr f) (min x.to t) (aK p x).2=[]:=kF (by omega);rw[if_pos (.inl c1),e1,Int.min_eq_left c1,gF vW,Int.max_eq_right (by omega),kF (by omega),gG h xk];rfl
 ·by_cases c2:t<=x.fr
  ·have e1:Rg.pc (aK p x).1 (max x.fr f) (min x.to t) (aK p x).2=[]:=kF (by omega);rw[if_pos (.inr c2),e1,Int.min_eq_right (by omega),kF (by omega),Int.max_eq_left (by omega),gF vW,gG h xk];rfl
  ·rw[if_neg (by omega),mid_pc h (by omega),Int.min_eq_right (a:=x.to) (b:=f) (by omega),Int.max_eq_right (a:=x.fr) (b:=t) (by omega)];congr 1
   ·split
    ·rename_i d;rw[gF d,ec h]
    ·rename_i d;rw[kF d]
   ·rw[List.cons_append,List.nil_append];congr 1;split
    ·rename_i d;rw[gF d,ec h]
    ·rename_i d;rw[kF d]
def Rg.cov:List Reg->Int->Int->Bool
 | [],a,t=>decide (t<=a)
 |r::l,a,t=>if a<t then(if r.fr<=a/\a<r.to then Rg.cov l r.to t else Rg.cov l a t)else true
variable {a:Int}
theorem mf (h:t<=a):Rg.cov l a t=true:=by
 cases l with
 |nil=>simp[Rg.cov,h]
 |cons r l=>simp only[Rg.cov,if_neg (show¬a<t by omega)]
theorem cov_none (h:a<t) (hn:l.find? (Rg.holds · a)=none):Rg.cov l a t=false:=by
 induction l with
 |nil=>simp[Rg.cov];omega
 |cons r l ih=>
  rw[List.find?_cons]at hn;split at hn
  ·cases hn
  ·rename_i hr;have: ¬(r.fr<=a/\a<r.to):=(by simpa [Rg.holds]using hr);rw[Rg.cov,if_pos h,if_neg this];exact ih hn
theorem cov_step (BW:gn l) (h:a<t) (hf:l.find? (Rg.holds · a)=some r):Rg.cov l a t=Rg.cov l r.to t:=by
 induction l with
 |nil=>simp at hf
 |cons x l ih=>
  have KD:gn l:=⟨(List.pairwise_cons.1 BW.1).2,fun y hy=>BW.2 y (by simp[hy])⟩;rw[List.find?_cons]at hf;split at hf
  ·rename_i hx;injection hf with hf;subst hf;have Jq:x.fr<=a/\a<x.to:=(by simpa [Rg.holds]using hx);rw[Rg.cov,if_pos h,if_pos Jq,Rg.cov];by_cases c:x.to<t
   ·rw[if_pos c,if_neg (by omega)]
   ·rw[if_neg c];exact mf (by omega)
  ·rename_i hx;have Jq: ¬(x.fr<=a/\a<x.to):=(by simpa [Rg.holds]using hx);have hr:=List.mem_of_find?_eq_some hf;have h1:=(List.pairwise_cons.1 BW.1).1 r hr;have h2:=KD.2 r hr;rw[Rg.cov,if_pos h,if_neg Jq,ih KD hf,Rg.cov];by_cases c:r.to<t
   ·rw[if_pos c,if_neg (by omega)]
   ·rw[if_neg c];exact mf (by omega)
def Rg.protect (l:List Reg) (f t p:Int):List Reg×Int:=if Rg.stretch l f t=true/\p<=7 then(if Rg.cov l f t=true then Rg.few (Rg.joined (Rg.run f t (aK p) l))else([],6))else([],1)
end
section
open Go.RowKit Go.Sort
theorem str_ok {f t:Int} (h0:0<=f) (h1:f<=18446744073709551615) (h2:0<=t) (h3:t<=18446744073709551615):Reg.Ok ⟨f,t,0, -1,0⟩:=
 ⟨h0,h1,h2,h3,by simp,by simp,by simp,by simp,by simp,by simp⟩
theorem jv (A:Option Addr) (n cap:Nat) (f t:Int) (w:World) (l:List Reg) (hl:RSl w w.heap.size A n cap l) (xk:dA l) (h0:0<=f) (h1:f<=18446744073709551615) (h2:0<=t) (h3:t<=18446744073709551615):
  Calls Tryz.prog 113 #[.slice A n cap, .int .u64 f, .int .u64 t] w fun e w'=>e= .returned (.bool (Rg.stretch l f t))/\Below w.heap.size w w':=by
 have hR:=mW A n cap w l hl xk;cases DF:Rg.right l with
 |false=>
  have HH:Hid (Rg.stretch l f t=false):=vp (by simp[Rg.stretch,DF]);rw[DF]at hR;have HR:=vp hR;clear hR DF;go_enter Tryz.func113,Tryz.ntmps113;go_wp2_with (go_at_call 98;refine(HR.out).mono ?_;rintro e w1 ⟨rfl,vS⟩);go_ret;exact⟨dk (by rw[HH.out]),vS⟩
 |true=>
  have hM:=fun W=>lN ⟨f,t,0, -1,0⟩ W (str_ok h0 h1 h2 h3);have HH:Hid (Rg.stretch l f t=Rg.one ⟨f,t,0, -1,0⟩):=vp (by simp[Rg.stretch,DF]);rw[DF]at hR;have HR:=vp hR;have HM:=vp hM;clear hR DF hM;generalize Rg.one ⟨f,t,0, -1,0⟩=b at *
  go_enter Tryz.func113,Tryz.ntmps113;go_wp2_with (first
   |(go_at_call 98;refine(HR.out).mono ?_;rintro e w1 ⟨rfl,vS⟩;have wF:=vS.size)
   |(go_at_call 99;refine(HM.out _).mono ?_;rintro e w2 ⟨rfl,wb⟩))
  go_ret;exact⟨dk (by rw[HH.out]),by exact vq⟩
def jm (w:World) (p:List Reg×Int) (e:Ending) (w':World):Prop:=
 ∃A' vP,e= .returned (.tuple #[.slice A' p.1.length vP, .int .i64 p.2])/\OwnR w' w.heap.size A' vP p.1/\Below w.heap.size w w'
theorem cut_any (A:Option Addr) (n cap:Nat) (f t:Int) (w:World) (l:List Reg) (hl:RSl w w.heap.size A n cap l) (xk:dA l) (h0:0<=f) (h1:f<=18446744073709551615) (h2:0<=t) (h3:t<=18446744073709551615):
  Calls Tryz.prog 67 #[.slice A n cap, .int .u64 f, .int .u64 t] w (jm w (Rg.cut l f t)):=by
 have hS:=jv A n cap f t w l hl xk h0 h1 h2 h3;have Eg:=vp hl.len;cases xX:Rg.stretch l f t with
 |false=>
  have HP:Hid (Rg.cut l f t=([],1)):=vp (by simp[Rg.cut,xX]);rw[xX]at hS;have HS:=vp hS;clear hS xX;go_enter Tryz.func67,Tryz.ntmps67;go_wp2_with (go_at_call 113;refine(HS.out).mono ?_;rintro e w1 ⟨rfl,vS⟩);go_ret2;rw[HP.out];exact⟨none,0,rfl,OwnR.nil _ _,vS⟩
 |true=>
  obtain⟨hr,xQ,_⟩:=ck xX;have DP:=(dX hr).2;have HP:Hid (Rg.cut l f t=Rg.few (Rg.joined (Rg.run f t bM l))):=vp (by simp[Rg.cut,xX,cut_law hr xk xQ]);have DF:=ly f t bM l;rw[xX]at hS;have HS:=vp hS;clear hS xX hr;generalize Te:Rg.run f t bM l=rn at *
  have HRN:=vp Te;clear Te;go_enter Tryz.func67,Tryz.ntmps67;go_wp2_with fail;refine(HS.out).mono ?_;rintro e w1 ⟨rfl,vS⟩;have wF:=vS.size;have xB:=(hl.below vS (vs _)).more vS.size;go_wp2_with fail;refine(iI f t A n cap w1 l xB (by have:=Eg.out;omega)).mono ?_;rintro e w2 ⟨A2,c2,rfl,BR,wb⟩;rw[HRN.out]at BR⊢;have wL:=wb.size;have Pk:=BR.rsl (by omega);go_wp2_with fail;refine(lX A2 _ c2 w2 _ Pk (by omega)).mono ?_;rintro e w3 ⟨A3,c3,rfl,Db,wG⟩;go_wp2_with fail;go_ret2;rw[HP.out];refine⟨A3,c3,rfl,Db.lower (by omega),?_⟩;exact(vS.trans (wb.mono (by omega))).trans (wG.mono (by omega))
end
section
open Go.RowKit Go.Sort
theorem kW (l:List Reg) (a:Int):(l.find? (Rg.holds · a)=none/\Rg.find l a=(aY,false))\/ ∃r,l.find? (Rg.holds · a)=some r/\Rg.find l a=(r,true)/\r∈l/\r.fr<=a/\a<r.to:=by
 cases h:l.find? (Rg.holds · a)with
 |none=>exact .inl ⟨rfl,by simp[Rg.find,h]⟩
 |some r=>
  have h1:=List.find?_some h;simp[Rg.holds]at h1;exact .inr ⟨r,rfl,by simp[Rg.find,h],List.mem_of_find?_eq_some h,h1.1,h1.2⟩
theorem oD (A:Option Addr) (n cap:Nat) (f t p:Int) (w:World) (l:List Reg) (hl:RSl w w.heap.size A n cap l) (xk:dA l) (h0:0<=f) (h1:f<=18446744073709551615) (h2:0<=t) (h3:t<=18446744073709551615):
  Calls Tryz.prog 68 #[.slice A n cap, .int .u64 f, .int .u64 t, .int .u8 p] w (jm w (Rg.protect l f t p)):=by
 have Eg:=vp hl.len;have xC:Below w.heap.size w (w.alloc (.cells #[.int .u8 p] 5)):=by exact vq
 have Dc:=(hl.below xC (vs _)).more (B':=(w.alloc (.cells #[.int .u8 p] 5)).heap.size) (by simp);have hS:=jv A n cap f t _ l Dc xk h0 h1 h2 h3;cases xX:Rg.stretch l f t with
 |false=>
  have HP:Hid (Rg.protect l f t p=([],1)):=vp (by simp[Rg.protect,xX]);rw[xX]at hS;have HS:=vp hS;clear hS xX hl Dc xC;go_enter Tryz.func68,Tryz.ntmps68;go_wp2_with (go_at_call 113;refine(HS.out).mono ?_;rintro e w1 ⟨rfl,vS⟩);have hz:=vS.size;simp at hz;go_ret2;rw[HP.out];exact⟨none,0,rfl,OwnR.nil _ _,by exact vq⟩
 |true=>
  obtain⟨hr,xQ,_⟩:=ck xX;have DP:=(dX hr).2;have BW:=di hr;rw[xX]at hS;have HS:=vp hS;by_cases hp:p<=7
  ·have HP:Hid (Rg.protect l f t p=if Rg.cov l f t=true then Rg.few (Rg.joined (Rg.run f t (aK p) l))else([],6)):=vp (by simp[Rg.protect,xX,hp]);have DF:=ly f t (aK p) l;have HAP:=vp BW;clear hS xX hr BW hl xC;go_enter Tryz.func68,Tryz.ntmps68;go_wp2_with (go_at_call 113;refine(HS.out).mono ?_;rintro e w1 ⟨rfl,vS⟩;have wF:=vS.size;simp at wF;have q0:w1.cell? ⟨w.heap.size,0,none⟩=some (.int .u8 p):=((vS.cell (p:=⟨w.heap.size,0,none⟩) (by simp)).trans (by simp)));have xB:=(Dc.below vS (vs _)).more (B':=w1.heap.size) vS.size;have Mz:Below w.heap.size w w1:=by exact vq
   have Q0:=vp q0;clear q0 Dc;go_loopw [10] (fun v wr=> ∃a:Int,v= .int .u64 a/\f<=a/\Below w1.heap.size w1 wr/\Rg.cov l a t=Rg.cov l f t) (fun v _ =>(t-intOf v).toNat)
   case atStart=>exact⟨f,rfl,by omega,vO _ _,rfl⟩
   case round=>
    obtain⟨a,rfl,Xr,hB,Xs⟩:=hrel;have Vn:=hB.size;have CV:=vp Xs;have TO:=(xB.below hB (vs _)).more (B':=wr.heap.size) Vn;have QA:=lU A n cap a wr l TO;have Mh:w.heap.size<w1.heap.size:=(by omega);have q0:=(hB.cell (p:=⟨w.heap.size,0,none⟩) Mh).trans Q0.out;have YM:w.heap.size<wr.heap.size:=(by omega);clear Xs;by_cases xi:a<t
    ·rcases kW l a with⟨e1,e2⟩|⟨r,e1,e2,hrm,Ec,EY⟩
     ·rw[e2]at QA;have HF:=vp QA;have xl:Hid (Rg.protect l f t p=([],6)):=vp (by rw[HP.out,<-CV.out,cov_none xi e1];simp);clear QA e1 e2 TO;go_wp2_with (go_at_call 114;refine(HF.out).mono ?_;rintro e w2 ⟨rfl,wb⟩);go_ret2;rw[xl.out];have wL:=wb.size;have q2:Below w.heap.size w w2:=(Mz.trans (hB.mono (by omega))).trans (wb.mono (by omega));exact⟨none,0,rfl,OwnR.nil _ _,by exact vq⟩
     ·rw[e2]at QA;have HF:=vp QA;have wH:=vp ((cov_step HAP.out xi e1).symm.trans CV.out);clear QA e1 e2 TO hrm;go_wp2_with (go_at_call 114;refine(HF.out).mono ?_;rintro e w2 ⟨rfl,wb⟩;have wL:=wb.size);go_roundw
      case rel=>exact⟨r.to,rfl,by omega,(hB.trans (wb.mono (by omega))).alloc (by omega) _,wH.out⟩
      case measure=>simp[intOf];omega
    ·have UC:Rg.cov l f t=true:=(by rw[<-CV.out];exact mf (by omega));have EZ:Hid (Rg.protect l f t p=Rg.few (Rg.joined (Rg.run f t (aK p) l))):=vp (by rw[HP.out,if_pos UC]);have hRn:=mT p w.heap.size f t A n cap wr l TO (by have:=Eg.out;omega) q0 YM;have HRn:=vp hRn;generalize Te:Rg.run f t (aK p) l=rn at *
     have HRN:=vp Te;clear Te hRn UC QA TO;go_wp2_with fail;refine(HRn.out).mono ?_;rintro e w2 ⟨A2,c2,rfl,BR,wb⟩;have wL:=wb.size;have Pk:=BR.rsl (by omega);go_wp2_with fail;refine(lX A2 _ c2 w2 _ Pk (by omega)).mono ?_;rintro e w3 ⟨A3,c3,rfl,Db,wG⟩;go_wp2_with fail;go_ret2;rw[EZ.out];refine⟨A3,c3,rfl,Db.lower (by omega),?_⟩;exact((Mz.trans (hB.mono (by omega))).trans (wb.mono (by omega))).trans (wG.mono (by omega))
  ·have HP:Hid (Rg.protect l f t p=([],1)):=vp (by simp[Rg.protect,hp]);clear hS xX hr BW hl Dc xC;go_enter Tryz.func68,Tryz.ntmps68;go_wp2_with (go_at_call 113;refine(HS.out).mono ?_;rintro e w1 ⟨rfl,vS⟩;have wF:=vS.size;simp at wF;have q0:w1.cell? ⟨w.heap.size,0,none⟩=some (.int .u8 p):=((vS.cell (p:=⟨w.heap.size,0,none⟩) (by simp)).trans (by simp)));go_ret2;rw[HP.out];exact⟨none,0,rfl,OwnR.nil _ _,by exact vq⟩
end
section
def Rg.hit (a:Int) (r:Reg):Reg:=⟨0,0,r.prot,r.ino,if r.ino= -1 then r.off else w64 (r.off+w64 (a-r.fr))⟩
def Rg.ats (l:List Reg) (a:Int):List Reg:=(l.filter (Rg.holds · a)).map (Rg.hit a)
theorem aI (l k:List Reg) (a:Int):Rg.ats (l++k) a=Rg.ats l a++Rg.ats k a:=by simp[Rg.ats]
theorem pa (a:Int):Rg.ats [] a=[]:=rfl
theorem aA (x:Reg) (l:List Reg) (a:Int):Rg.ats (x::l) a=(if x.fr<=a/\a<x.to then [Rg.hit a x]else [])++Rg.ats l a:=by
 unfold Rg.ats;by_cases h:x.fr<=a/\a<x.to
 ·simp[List.filter_cons,Rg.holds,h]
 ·have h':decide (x.fr<=a/\a<x.to)=false:=(by simpa using h);simp only[List.filter_cons,Rg.holds,h',if_neg h];simp
variable {x:Reg} {f a:Int}
theorem jX {g:Int} (hf:x.fr<=f) (ha:f<=a):Rg.hit a (Rg.rpart x f g)=Rg.hit a x:=by
 unfold Rg.hit Rg.rpart;simp only[Reg.mk.injEq,true_and];by_cases h:x.ino= -1
 ·simp[h]
 ·simp only[if_neg h,jq];omega
variable {t:Int}
theorem uG (xQ:f<t) (hx:x.fr<x.to):Rg.ats (Rg.wo1 f t x) a=if f<=a/\a<t then []else Rg.ats [x] a:=by
 unfold Rg.wo1;by_cases h:x.to<=f\/t<=x.fr
 ·rw[if_pos h];by_cases wX:f<=a/\a<t
  ·rw[if_pos wX,aA,if_neg (by omega)];rfl
  ·rw[if_neg wX]
 ·rw[if_neg h,aI];by_cases wX:f<=a/\a<t
  ·rw[if_pos wX];have e1:Rg.ats (if x.fr<f then [Rg.rpart x x.fr f]else []) a=[]:=by
    split
    ·rw[aA,if_neg (by simp only[Rg.rpart];omega)];rfl
    ·rfl
   have e2:Rg.ats (if t<x.to then [Rg.rpart x t x.to]else []) a=[]:=by
    split
    ·rw[aA,if_neg (by simp only[Rg.rpart];omega)];rfl
    ·rfl
   rw[e1,e2];rfl
  ·rw[if_neg wX];by_cases hl:a<f
   ·have e2:Rg.ats (if t<x.to then [Rg.rpart x t x.to]else []) a=[]:=by
     split
     ·rw[aA,if_neg (by simp only[Rg.rpart];omega)];rfl
     ·rfl
    rw[e2,List.append_nil];split
    ·rw[aA,aA];by_cases hh:x.fr<=a
     ·rw[if_pos (by simp only[Rg.rpart];omega),if_pos (by omega),jX (Int.le_refl _) hh]
     ·rw[if_neg (by simp only[Rg.rpart];omega),if_neg (by omega)]
    ·rw[aA,if_neg (by omega)];rfl
   ·have e1:Rg.ats (if x.fr<f then [Rg.rpart x x.fr f]else []) a=[]:=by
     split
     ·rw[aA,if_neg (by simp only[Rg.rpart];omega)];rfl
     ·rfl
    rw[e1,List.nil_append];split
    ·rw[aA,aA];by_cases hh:a<x.to
     ·rw[if_pos (by simp only[Rg.rpart];omega),if_pos (by omega),jX (by omega) (by omega)]
     ·rw[if_neg (by simp only[Rg.rpart];omega),if_neg (by omega)]
    ·rw[aA,if_neg (by omega)];rfl
variable {l:List Reg}
theorem ku (xQ:f<t) (hl: ∀x∈l,x.fr<x.to):Rg.ats (Rg.without l f t) a=if f<=a/\a<t then []else Rg.ats l a:=by
 induction l with
 |nil=>simp[Rg.without,Rg.ats]
 |cons x l ih=>
  have e:Rg.without (x::l) f t=Rg.wo1 f t x++Rg.without l f t:=(by simp[Rg.without]);rw[e,aI,uG xQ (hl x (by simp)),ih (fun y hy=>hl y (by simp[hy]))];by_cases wX:f<=a/\a<t
  ·simp[if_pos wX]
  ·simp only[if_neg wX];rw[aA x l,aA x [],pa,List.append_nil]
structure fv (l:List Reg):Prop where
 apart:gn l
 one: ∀x∈l,Rg.one x=true
 ok:dA l
theorem tu (A:List Reg) (p r:Reg):Rg.push (A++[p]) r=if Rg.joins p r=true then A++[⟨p.fr,r.to,p.prot,p.ino,p.off⟩]else A++[p]++[r]:=by
 unfold Rg.push;simp only[List.getLast?_append,List.getLast?_singleton,Option.some_or];split
 ·simp
 ·rfl
theorem kT {a b:Reg} (h:Rg.joins a b=true):a.to=b.fr/\a.prot=b.prot/\a.ino=b.ino/\(a.ino= -1\/b.off=w64 (a.off+w64 (a.to-a.fr))):=by
 simpa [Rg.joins]using h
variable {A:List Reg} {r:Reg}
theorem iC :gn (A++[r])↔gn A/\(∀x∈A,x.to<=r.fr)/\r.fr<r.to:=by
 unfold gn;rw[List.pairwise_append];constructor
 ·rintro⟨⟨h1,_,h2⟩,h3⟩;exact⟨⟨h1,fun x hx=>h3 x (by simp[hx])⟩,fun x hx=>h2 x hx r (by simp),h3 r (by simp)⟩
 ·rintro⟨⟨h1,h3⟩,h2,h4⟩;refine⟨⟨h1,by simp,fun x hx y hy=>by simp at hy;subst hy;exact h2 x hx⟩,fun x hx=>?_⟩;simp at hx;rcases hx with hx|rfl
  ·exact h3 x hx
  ·exact h4
theorem ir :cR (A++[r])↔cR A/\ ∀x∈A,Rg.joins x r=false:=by
 unfold cR;rw[List.pairwise_append];constructor
 ·rintro⟨h1,_,h2⟩;exact⟨h1,fun x hx=>h2 x hx r (by simp)⟩
 ·rintro⟨h1,h2⟩;exact⟨h1,by simp,fun x hx y hy=>by simp at hy;subst hy;exact h2 x hx⟩
variable {p:Reg}
theorem rp (hp:Rg.one p=true) (hr:Rg.one r=true) (FN:p.Ok) (Ax:r.Ok) (hj:Rg.joins p r=true):Rg.one ⟨p.fr,r.to,p.prot,p.ino,p.off⟩=true/\Reg.Ok ⟨p.fr,r.to,p.prot,p.ino,p.off⟩:=by
 obtain⟨h1,h2,h3,h4⟩:=kT hj;have a:=aC hp;have b:=aC hr;obtain⟨f0,f1,t0,t1,p0,p1,i0,i1,o0,o1⟩:=FN;obtain⟨f0',f1',t0',t1',p0',p1',i0',i1',o0',o1'⟩:=Ax;rw[jq,jq]at h4;refine⟨?_,⟨f0,f1,t0',t1',p0,p1,i0,i1,o0,o1⟩⟩;unfold Rg.one;simp only[decide_eq_true_eq];refine⟨by omega,by omega,by omega,by omega,by omega,?_⟩;rcases a.2.2.2.2.2 with h|h
 ·exact .inl h
 ·refine .inr ⟨h.1,h.2.1,?_⟩;rcases b.2.2.2.2.2 with h'|h'
  ·omega
  ·omega
theorem rq (hp:Rg.one p=true) (hr:Rg.one r=true) (hj:Rg.joins p r=true) (a:Int):Rg.ats [⟨p.fr,r.to,p.prot,p.ino,p.off⟩] a=Rg.ats ([p]++[r]) a:=by
 obtain⟨h1,h2,h3,h4⟩:=kT hj;have x:=aC hp;have y:=aC hr;rw[aI,aA,aA,aA,pa];simp only[List.append_nil];by_cases c1:p.fr<=a/\a<p.to
 ·rw[if_pos (by omega),if_pos c1,if_neg (by omega),List.append_nil];simp only[Rg.hit]
 ·by_cases c2:r.fr<=a/\a<r.to
  ·rw[if_pos (by omega),if_neg c1,if_pos c2,List.nil_append];simp only[Rg.hit,h2,h3];by_cases hi:r.ino= -1
   ·have e1:p.off=0:=by rcases x.2.2.2.2.2 with h|h<;>omega
    have e2:r.off=0:=by rcases y.2.2.2.2.2 with h|h<;>omega
    simp[hi,e1,e2]
   ·rcases h4 with h4|h4
    ·omega
    ·simp only[if_neg hi,h4,jq];have:(p.off+(a-p.fr) % 18446744073709551616) % 18446744073709551616=((p.off+(p.to-p.fr) % 18446744073709551616) % 18446744073709551616+(a-r.fr) % 18446744073709551616) % 18446744073709551616:=(by omega);rw[this]
  ·rw[if_neg (by omega),if_neg c1,if_neg c2];rfl
theorem push_law (hs:fv A) (hl:cR A) (hr:Rg.one r=true) (Ax:r.Ok) (vW: ∀x∈A,x.to<=r.fr):
  fv (Rg.push A r)/\cR (Rg.push A r)/\(∀x∈Rg.push A r,x.to<=r.to)/\ ∀a,Rg.ats (Rg.push A r) a=Rg.ats (A++[r]) a:=by
 have hrr:=aC hr;rcases List.eq_nil_or_concat A with rfl|⟨B,p,rfl⟩
 ·rw[push_nil];exact⟨⟨⟨by simp,by simp;omega⟩,by simp[hr],by intro x hx;simp at hx;subst hx;exact Ax⟩,by simp[cR],by simp,fun a=>rfl⟩
 ·rw[List.concat_eq_append]at *
  have hp:=hs.one p (by simp);have FN:=hs.ok p (by simp);have hpp:=aC hp;obtain⟨ha,hb,hc⟩:=iC.1 hs.apart;obtain⟨la,lb⟩:=ir.1 hl;have hpr:=vW p (by simp);rw[tu];by_cases hj:Rg.joins p r=true
  ·rw[if_pos hj];obtain⟨m1,m2⟩:=rp hp hr FN Ax hj;refine⟨⟨iC.2 ⟨ha,hb,by show p.fr<r.to;omega⟩,?_,?_⟩,ir.2 ⟨la,fun x hx=>?_⟩,?_,fun a=>?_⟩
   ·intro x hx;simp at hx;rcases hx with hx|rfl
    ·exact hs.one x (by simp[hx])
    ·exact m1
   ·intro x hx;simp at hx;rcases hx with hx|rfl
    ·exact hs.ok x (by simp[hx])
    ·exact m2
   ·have:=lb x hx;simpa [Rg.joins]using this
   ·intro x hx;simp at hx;rcases hx with hx|rfl
    ·have:=hb x hx;omega
    ·exact Int.le_refl _
   ·rw[aI,rq hp hr hj,aI,aI,aI,List.append_assoc]
  ·rw[if_neg hj];refine⟨⟨iC.2 ⟨hs.apart,vW,hrr.1⟩,?_,?_⟩,ir.2 ⟨hl,fun x hx=>?_⟩,?_,fun a=>rfl⟩
   ·intro x hx;rw[List.mem_append]at hx;rcases hx with hx|hx
    ·exact hs.one x hx
    ·simp at hx;subst hx;exact hr
   ·intro x hx;rw[List.mem_append]at hx;rcases hx with hx|hx
    ·exact hs.ok x hx
    ·simp at hx;subst hx;exact Ax
   ·rw[List.mem_append]at hx;rcases hx with hx|hx
    ·have h1:=hb x hx;unfold Rg.joins;simp;omega
    ·simp at hx;subst hx;simpa using hj
   ·intro x hx;rw[List.mem_append]at hx;rcases hx with hx|hx
    ·have:=vW x hx;omega
    ·simp at hx;subst hx;exact Int.le_refl _
theorem kU (hs:fv l):fv (Rg.joined l)/\cR (Rg.joined l)/\ ∀a,Rg.ats (Rg.joined l) a=Rg.ats l a:=by
 have key: ∀(l A:List Reg),fv A->cR A->fv l->(∀x∈A,∀y∈l,x.to<=y.fr)->fv (l.foldl Rg.push A)/\cR (l.foldl Rg.push A)/\ ∀a,Rg.ats (l.foldl Rg.push A) a=Rg.ats (A++l) a:=by
  intro l
  induction l with
  |nil=>intro A h1 h2 _ _;exact⟨h1,h2,fun a=>by simp⟩
  |cons r l ih=>
   intro A h1 h2 h3 h4;obtain⟨q1,q2,q3,q4⟩:=push_law h1 h2 (h3.one r (by simp)) (h3.ok r (by simp)) (fun x hx=>h4 x hx r (by simp));have hc:=List.pairwise_cons.1 h3.apart.1;obtain⟨z1,z2,z3⟩:=ih (Rg.push A r) q1 q2 ⟨⟨hc.2,fun x hx=>h3.apart.2 x (by simp[hx])⟩,fun x hx=>h3.one x (by simp[hx]),fun x hx=>h3.ok x (by simp[hx])⟩ (fun x hx y hy=>by have:=q3 x hx;have:=hc.1 y hy;omega);refine⟨z1,z2,fun a=>?_⟩;rw[List.foldl_cons,z3 a,aI,q4 a,aI,aI,List.append_assoc,<-aI];rfl
 have:=key l [] ⟨⟨by simp,by simp⟩,by simp,by intro x hx;simp at hx⟩ (by simp[cR]) hs (by simp);simpa [Rg.joined]using this
theorem lz (hs:fv l) (hl:cR l) (hn:l.length<=64):Rg.right l=true:=by
 unfold Rg.right;rw[Bool.and_eq_true,List.all_eq_true];refine⟨fun k hk=>?_,by simpa using hn⟩;have Eh:k<l.length:=List.mem_range.1 hk;have e:=vv Eh;cases k with
 |zero=>
  unfold Rg.okAt;rw[e];simp[hs.one _ (List.getElem_mem Eh)]
 |succ j=>
  have e2:=vv (show j<l.length by omega);rw[fa e e2,hs.one _ (List.getElem_mem Eh)];have h1:=List.pairwise_iff_getElem.1 hs.apart.1 j (j+1) (by omega) Eh (by omega);have h2:=List.pairwise_iff_getElem.1 hl j (j+1) (by omega) Eh (by omega);simp[h1,h2]
end
section
variable {B:List Reg} {r x:Reg}
theorem lM :x∈Rg.ins B r↔x=r\/x∈B:=by
 induction B with
 |nil=>simp[Rg.ins]
 |cons y B ih=>
  unfold Rg.ins;split
  ·simp
  ·simp only[List.mem_cons,ih];constructor
   ·rintro(h|h|h)<;>simp[h]
   ·rintro(h|h|h)<;>simp[h]
theorem uQ (hB:gn B) (hr:r.fr<r.to) (h: ∀x∈B,x.to<=r.fr\/r.to<=x.fr):gn (Rg.ins B r):=by
 refine⟨?_,fun x hx=>by rcases lM.1 hx with rfl|hx;exact hr;exact hB.2 x hx⟩
 induction B with
 |nil=>simp[Rg.ins]
 |cons y B ih=>
  have hc:=List.pairwise_cons.1 hB.1;have hy:=h y (by simp);have Ry:=hB.2 y (by simp);unfold Rg.ins;split
  ·refine List.pairwise_cons.2 ⟨fun x hx=>?_,hB.1⟩;simp at hx;rcases hx with rfl|hx
   ·omega
   ·have:=hc.1 x hx;omega
  ·refine List.pairwise_cons.2 ⟨fun x hx=>?_,ih ⟨hc.2,fun x hx=>hB.2 x (by simp[hx])⟩ (fun x hx=>h x (by simp[hx]))⟩;rcases lM.1 hx with rfl|hx
   ·omega
   ·exact hc.1 x hx
variable {a:Int}
theorem pd (h: ¬(r.fr<=a/\a<r.to)):Rg.ats (Rg.ins B r) a=Rg.ats B a:=by
 induction B with
 |nil=>simp only[Rg.ins];rw[aA,if_neg h];rfl
 |cons y B ih=>
  unfold Rg.ins;split
  ·rw[aA r,if_neg h];rfl
  ·rw[aA y,aA y,ih]
theorem rY (h:r.fr<=a/\a<r.to) (hB:Rg.ats B a=[]):Rg.ats (Rg.ins B r) a=Rg.ats [r] a:=by
 induction B with
 |nil=>rfl
 |cons y B ih=>
  rw[aA,List.append_eq_nil_iff]at hB;unfold Rg.ins;split
  ·rw[aA r,aA r,aA y,hB.1,hB.2];rfl
  ·rw[aA y,hB.1,ih hB.2];rfl
variable {f t:Int} {y:Reg}
theorem wo1_out (xQ:f<t) (h:y∈Rg.wo1 f t x):y.to<=f\/t<=y.fr:=by
 unfold Rg.wo1 at h;split at h
 ·simp at h;subst h;assumption
 ·rw[List.mem_append]at h;rcases h with h|h
  ·split at h
   ·simp at h;subst h;exact .inl (Int.le_refl _)
   ·simp at h
  ·split at h
   ·simp at h;subst h;exact .inr (Int.le_refl _)
   ·simp at h
theorem dg {g:Int} (h:Rg.one x=true) (xk:x.Ok) (h1:x.fr<=f) (h2:f<g) (h3:g<=x.to) (h4:f % 4096=0) (h5:g % 4096=0):Rg.one (Rg.rpart x f g)=true/\(Rg.rpart x f g).Ok:=by
 have a:=aC h;obtain⟨f0,f1,t0,t1,p0,p1,i0,i1,o0,o1⟩:=xk;by_cases hi:x.ino= -1
 ·have e:x.off=0:=by rcases a.2.2.2.2.2 with h|h<;>omega
  have er:Rg.rpart x f g=⟨f,g,x.prot, -1,0⟩:=(by unfold Rg.rpart;simp[hi,e]);rw[er];refine⟨?_,?_⟩
  ·unfold Rg.one;simp only[decide_eq_true_eq];exact⟨h2,by omega,h4,h5,by omega, .inl ⟨trivial,trivial⟩⟩
  ·constructor<;>(simp only;omega)
 ·have b:0<=x.ino/\x.off % 4096=0/\x.off+(x.to-x.fr)<=281474976710656:=(by rcases a.2.2.2.2.2 with h|h;omega;exact h);have e:w64 (x.off+w64 (f-x.fr))=x.off+(f-x.fr):=(by rw[jq,jq];omega);refine⟨?_,?_⟩
  ·unfold Rg.one Rg.rpart;simp only[if_neg hi,decide_eq_true_eq,e];omega
  ·unfold Rg.rpart;simp only[if_neg hi,e];constructor<;>(simp only;omega)
theorem mz (h:Rg.one x=true) (xk:x.Ok) (hf:f % 4096=0) (ht:t % 4096=0) (hy:y∈Rg.wo1 f t x):Rg.one y=true/\y.Ok:=by
 have a:=aC h;unfold Rg.wo1 at hy;split at hy
 ·simp at hy;subst hy;exact⟨h,xk⟩
 ·rw[List.mem_append]at hy;rcases hy with hy|hy
  ·split at hy
   ·simp at hy;subst hy;exact dg h xk (Int.le_refl _) (by assumption) (by omega) (by omega) hf
   ·simp at hy
  ·split at hy
   ·simp at hy;subst hy;exact dg h xk (by omega) (by assumption) (Int.le_refl _) ht (by omega)
   ·simp at hy
variable {l:List Reg}
theorem gq (hs:fv l) (xQ:f<t) (hf:f % 4096=0) (ht:t % 4096=0):fv (Rg.without l f t):=by
 refine⟨gu hs.apart xQ,fun y hy=>?_,fun y hy=>?_⟩
 ·obtain⟨x,hx,hy⟩:=List.mem_flatMap.1 hy;exact(mz (hs.one x hx) (hs.ok x hx) hf ht hy).1
 ·obtain⟨x,hx,hy⟩:=List.mem_flatMap.1 hy;exact(mz (hs.one x hx) (hs.ok x hx) hf ht hy).2
theorem fZ (h:Rg.right l=true) (xk:dA l):fv l:=⟨di h,dW h,xk⟩
variable {out:List Reg}
theorem lW (h:Rg.few l=(out,0)):out=l/\l.length<=64:=by
 unfold Rg.few at h;split at h
 ·simp at h
 ·simp at h;exact⟨h.symm,by omega⟩
theorem put_fits (xk:dA l) (Ax:r.Ok) (h:Rg.put l r=(out,0)):
  Rg.right out=true/\dA out/\ ∀a,Rg.ats out a=if r.fr<=a/\a<r.to then Rg.ats [r] a else Rg.ats l a:=by
 unfold Rg.put at h;split at h
 ·rename_i hc;obtain⟨hr,h1⟩:=hc;obtain⟨rfl,hn⟩:=lW h;have a:=aC h1;have hs:=fZ hr xk;have hw:=gq hs a.1 a.2.2.1 a.2.2.2.1;have Tq: ∀x∈Rg.without l r.fr r.to,x.to<=r.fr\/r.to<=x.fr:=fun y hy=>by
   obtain⟨x,hx,hy⟩:=List.mem_flatMap.1 hy;exact wo1_out a.1 hy
  have hi:fv (Rg.ins (Rg.without l r.fr r.to) r):=⟨uQ hw.apart a.1 Tq,fun x hx=>by rcases lM.1 hx with rfl|hx;exact h1;exact hw.one x hx,fun x hx=>by rcases lM.1 hx with rfl|hx;exact Ax;exact hw.ok x hx⟩;obtain⟨j1,j2,j3⟩:=kU hi;refine⟨lz j1 j2 hn,j1.ok,fun b=>?_⟩;rw[j3 b];have wO:=ku (a:=b) a.1 hs.apart.2;by_cases hb:r.fr<=b/\b<r.to
  ·rw[if_pos hb]at wO⊢;exact rY hb wO
  ·rw[if_neg hb]at wO⊢;rw[pd hb,wO]
 ·simp at h
theorem iH (h:Rg.stretch l f t=true):f % 4096=0/\t % 4096=0:=by
 unfold Rg.stretch at h;rw[Bool.and_eq_true]at h;have:=aC h.2;exact⟨this.2.2.1,this.2.2.2.1⟩
theorem cut_fits (xk:dA l) (h:Rg.cut l f t=(out,0)):
  Rg.right out=true/\dA out/\ ∀a,Rg.ats out a=if f<=a/\a<t then []else Rg.ats l a:=by
 unfold Rg.cut at h;split at h
 ·rename_i hc;obtain⟨rfl,hn⟩:=lW h;obtain⟨hr,xQ,_⟩:=ck hc;obtain⟨m1,m2⟩:=iH hc;have hs:=fZ hr xk;have hw:=gq hs xQ m1 m2;exact⟨lz hw (gt hr xk xQ) hn,hw.ok,fun a=>ku xQ hs.apart.2⟩
 ·simp at h
def Reg.withProt (p:Int) (x:Reg):Reg:=⟨x.fr,x.to,p,x.ino,x.off⟩
variable {p:Int}
theorem oz (h:Rg.one x=true) (xk:x.Ok) (xQ:f<t) (hf:f % 4096=0) (ht:t % 4096=0) (hp0:0<=p) (hp:p<=7) (hy:y∈Rg.run1 f t (aK p) x):
  x.fr<=y.fr/\y.fr<y.to/\y.to<=x.to/\Rg.one y=true/\y.Ok:=by
 have a:=aC h;rw[jC h xk xQ]at hy;split at hy
 ·simp at hy;subst hy;exact⟨Int.le_refl _,a.1,Int.le_refl _,h,xk⟩
 ·rename_i hc;rw[List.mem_append,List.mem_cons]at hy;rcases hy with hy|hy|hy
  ·split at hy
   ·rename_i d;simp at hy;subst hy;have q:=dg h xk (Int.le_refl _) d (by omega) a.2.2.1 hf;exact⟨Int.le_refl _,d,by simp only[Rg.rpart];omega,q⟩
   ·simp at hy
  ·subst hy;have q:=dg (f:=max x.fr f) (g:=min x.to t) h xk (by omega) (by omega) (by omega) (by omega) (by omega);have b:=aC q.1;obtain⟨f0,f1,t0,t1,p0,p1,i0,i1,o0,o1⟩:=q.2;refine⟨by simp only[Rg.mid];omega,by simp only[Rg.mid];omega,by simp only[Rg.mid];omega,?_,?_⟩
   ·unfold Rg.one Rg.mid;simp only[decide_eq_true_eq];simp only[Rg.rpart]at b;simp only[Rg.rpart];refine⟨b.1,b.2.1,b.2.2.1,b.2.2.2.1,hp,b.2.2.2.2.2⟩
   ·exact⟨f0,f1,t0,t1,hp0,by simp only[Rg.mid];omega,i0,i1,o0,o1⟩
  ·split at hy
   ·rename_i d;simp at hy;subst hy;have q:=dg h xk (by omega) d (Int.le_refl _) ht a.2.2.2.1;exact⟨by simp only[Rg.rpart];omega,d,Int.le_refl _,q⟩
   ·simp at hy
theorem qQ (h:Rg.one x=true) (xk:x.Ok) (xQ:f<t):(Rg.run1 f t (aK p) x).Pairwise (fun a b=>a.to<=b.fr):=by
 rw[jC h xk xQ];have a:=aC h;split
 ·simp
 ·split<;>split<;>simp[Rg.rpart,Rg.mid]<;>omega
theorem ta (hs:fv l) (xQ:f<t) (hf:f % 4096=0) (ht:t % 4096=0) (hp0:0<=p) (hp:p<=7):fv (Rg.run f t (aK p) l):=by
 have key: ∀y∈Rg.run f t (aK p) l,∃x∈l,x.fr<=y.fr/\y.fr<y.to/\y.to<=x.to/\Rg.one y=true/\y.Ok:=fun y hy=>by
  obtain⟨x,hx,hy⟩:=List.mem_flatMap.1 hy;exact⟨x,hx,oz (hs.one x hx) (hs.ok x hx) xQ hf ht hp0 hp hy⟩
 refine⟨⟨?_,fun y hy=>?_⟩,fun y hy=>?_,fun y hy=>?_⟩
 ·clear key
  induction l with
  |nil=>simp[Rg.run]
  |cons x l ih=>
   have hc:=List.pairwise_cons.1 hs.apart.1;have Nq:fv l:=⟨⟨hc.2,fun y hy=>hs.apart.2 y (by simp[hy])⟩,fun y hy=>hs.one y (by simp[hy]),fun y hy=>hs.ok y (by simp[hy])⟩;have e:Rg.run f t (aK p) (x::l)=Rg.run1 f t (aK p) x++Rg.run f t (aK p) l:=(by simp[Rg.run]);rw[e,List.pairwise_append];refine⟨qQ (hs.one x (by simp)) (hs.ok x (by simp)) xQ,ih Nq,fun u hu v hv=>?_⟩;obtain⟨z,hz,hv⟩:=List.mem_flatMap.1 hv;have h1:=oz (hs.one x (by simp)) (hs.ok x (by simp)) xQ hf ht hp0 hp hu;have h2:=oz (hs.one z (by simp[hz])) (hs.ok z (by simp[hz])) xQ hf ht hp0 hp hv;have h3:=hc.1 z hz;omega
 ·obtain⟨x,_,_,h,_⟩:=key y hy;exact h
 ·obtain⟨x,_,_,_,_,h,_⟩:=key y hy;exact h
 ·obtain⟨x,_,_,_,_,_,h⟩:=key y hy;exact h
theorem hit_mid (h1:max x.fr f<=a):Rg.hit a (Rg.mid f t p x)=(Rg.hit a x).withProt p:=by
 have e:=jX (x:=x) (f:=max x.fr f) (g:=min x.to t) (a:=a) (by omega) h1;have e2:(Rg.hit a (Rg.mid f t p x)).off=(Rg.hit a (Rg.rpart x (max x.fr f) (min x.to t))).off:=rfl;rw[e]at e2;have e3:Rg.hit a (Rg.mid f t p x)=⟨0,0,p,x.ino,(Rg.hit a (Rg.mid f t p x)).off⟩:=(by simp only[Rg.hit,Rg.mid]);rw[e3,e2];simp only[Reg.withProt,Rg.hit]
theorem ats_run1 (h:Rg.one x=true) (xk:x.Ok) (xQ:f<t):Rg.ats (Rg.run1 f t (aK p) x) a=if f<=a/\a<t then(Rg.ats [x] a).map (Reg.withProt p)else Rg.ats [x] a:=by
 have b:=aC h;have hw:=uG (a:=a) xQ b.1;rw[jC h xk xQ];unfold Rg.wo1 at hw;by_cases hc:x.to<=f\/t<=x.fr
 ·rw[if_pos hc]at hw⊢;by_cases wX:f<=a/\a<t
  ·rw[if_pos wX]at hw⊢;rw[hw];rfl
  ·rw[if_neg wX]
 ·rw[if_neg hc]at hw⊢;rw[aI]at hw;generalize(if t<x.to then [Rg.rpart x t x.to]else [])=R at hw⊢;generalize(if x.fr<f then [Rg.rpart x x.fr f]else [])=L at hw⊢;rw[aI,aA];by_cases wX:f<=a/\a<t
  ·rw[if_pos wX]at hw⊢;rw[List.append_eq_nil_iff]at hw;rw[hw.1,hw.2,aA,pa];by_cases hh:x.fr<=a/\a<x.to
   ·rw[if_pos hh,if_pos (by simp only[Rg.mid];omega),hit_mid (by omega)];rfl
   ·rw[if_neg hh,if_neg (by simp only[Rg.mid];omega)];rfl
  ·rw[if_neg wX]at hw⊢;rw[if_neg (by simp only[Rg.mid];omega),List.nil_append];exact hw
theorem ats_run (hs:fv l) (xQ:f<t):Rg.ats (Rg.run f t (aK p) l) a=if f<=a/\a<t then(Rg.ats l a).map (Reg.withProt p)else Rg.ats l a:=by
 induction l with
 |nil=>simp[Rg.run,Rg.ats]
 |cons x l ih=>
  have hc:=List.pairwise_cons.1 hs.apart.1;have Nq:fv l:=⟨⟨hc.2,fun y hy=>hs.apart.2 y (by simp[hy])⟩,fun y hy=>hs.one y (by simp[hy]),fun y hy=>hs.ok y (by simp[hy])⟩;have e:Rg.run f t (aK p) (x::l)=Rg.run1 f t (aK p) x++Rg.run f t (aK p) l:=(by simp[Rg.run]);have e2:Rg.ats (x::l) a=Rg.ats [x] a++Rg.ats l a:=aI [x] l a;rw[e,aI,ats_run1 (hs.one x (by simp)) (hs.ok x (by simp)) xQ,ih Nq,e2];split<;>simp
theorem cov_at (BW:gn l) (h:Rg.cov l f t=true) (h1:f<=a) (h2:a<t):Rg.ats l a≠[]:=by
 induction l generalizing f with
 |nil=>simp[Rg.cov]at h;omega
 |cons x l ih=>
  have KD:gn l:=⟨(List.pairwise_cons.1 BW.1).2,fun y hy=>BW.2 y (by simp[hy])⟩;rw[aA];rw[Rg.cov,if_pos (by omega)]at h;by_cases hh:x.fr<=a/\a<x.to
  ·rw[if_pos hh];simp
  ·rw[if_neg hh,List.nil_append];split at h
   ·exact ih KD h (by omega)
   ·exact ih KD h h1
theorem mX (xk:dA l) (hp0:0<=p) (h:Rg.protect l f t p=(out,0)):
  Rg.right out=true/\dA out/\(∀a,Rg.ats out a=if f<=a/\a<t then(Rg.ats l a).map (Reg.withProt p)else Rg.ats l a)/\ ∀a,f<=a->a<t->Rg.ats l a≠[]:=by
 unfold Rg.protect at h;split at h
 ·rename_i hc;obtain⟨xX,hp⟩:=hc;split at h
  ·rename_i Xs;obtain⟨rfl,hn⟩:=lW h;obtain⟨hr,xQ,_⟩:=ck xX;obtain⟨m1,m2⟩:=iH xX;have hs:=fZ hr xk;have hw:=ta hs xQ m1 m2 hp0 hp;obtain⟨j1,j2,j3⟩:=kU hw;exact⟨lz j1 j2 hn,j1.ok,fun a=>by rw[j3 a];exact ats_run hs xQ,fun a h1 h2=>cov_at hs.apart Xs h1 h2⟩
  ·simp at h
 ·simp at h
end
