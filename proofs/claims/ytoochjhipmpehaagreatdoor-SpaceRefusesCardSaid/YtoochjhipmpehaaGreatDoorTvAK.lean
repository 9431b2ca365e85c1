/- Tables: visit. -/
import Derived.Test.YtoochjhipmpehaaGreatDoorTtZK
set_option linter.unusedVariables false
set_option linter.unusedSimpArgs false
set_option maxRecDepth 100000
set_option maxHeartbeats 40000000
namespace Go.Proofs.YtoochjhipmpehaaGreatDoor
section
open Go.RowKit
def mj (R:World->List Ev->(Nat->Prop)->Prop):Prop:= ∀w w' l X,R w l X->Below w.heap.size w w'->R w' l X
structure eD (R:World->List Ev->(Nat->Prop)->Prop) (S:Nat->Prop) (t:Nat) (w:World) (l:List Ev) (X:Nat->Prop):Prop where
 rel:R w l X
 low: ∀b,X b->b<w.heap.size
 apart: ∀b,S b-> ¬X b
 noT: ¬X t
 no0: ¬X 0
theorem eD.below {R:World->List Ev->(Nat->Prop)->Prop} {S:Nat->Prop} {t:Nat} {w w':World} {l:List Ev} {X:Nat->Prop} (h:eD R S t w l X) (hR:mj R) (hb:Below w.heap.size w w'):eD R S t w' l X:=
 ⟨hR w w' l X h.rel hb,fun b hx=>uO (h.low b hx) hb.size,h.apart,h.noT,h.no0⟩
def du (w:World) (X:Nat->Prop) (R:World->List Ev->(Nat->Prop)->Prop) (S:Nat->Prop) (t:Nat) (l:List Ev) (e:Ending) (w':World):Prop:=
 e= .returned (.tuple #[])/\ ∃X',eD R S t w' l X'/\Mod X w w'/\Out X X' w
variable {i:Nat}
theorem or_at {a b:Nat} (hb:b<2^i) (h:a*2^i+b<18446744073709551616):bits .or .u64 ((a*2^i:Nat):Int) (b:Int)=((a*2^i+b:Nat):Int):=by
 rw[bits_or_u64_nat _ _ (by omega) (by omega)];have:=Nat.two_pow_add_eq_or_of_lt hb a;rw[Nat.mul_comm a (2^i)];exact congrArg _ this.symm
def ph (bo:Nat) (f1:FuncId) (C1:Array Value) (f2:FuncId) (C2:Array Value):Prop:=
 (f1=131/\C1= #[.pointer (some ⟨bo,0,none⟩)]/\f2=132/\C2= #[])\/(f1=75/\C1= #[]/\f2=76/\C2= #[.pointer (some ⟨bo,0,none⟩)])\/(f1=94/\C1= #[.pointer (some ⟨bo,0,none⟩)]/\f2=95/\C2= #[.pointer (some ⟨bo,0,none⟩)])
def qc (f1:FuncId) (C1:Array Value) (f2:FuncId) (C2:Array Value) (LV:Nat) (D:Int):Prop:=
 ∀(t c a root g q:Nat) (R:World->List Ev->(Nat->Prop)->Prop) (w:World) (S:Nat->Prop) (p:Pool) (T:Tab) (rest:Nat->Nat) (pg0:Nat) (X:Nat->Prop) (l:List Ev),al w S a p->am w t c a root->T.Good p rest pg0 4->T.nd LV q=some g->q<512^(4-LV)->
  eD R S t w l X->l.length+(T.evs LV q).length<1000000->mj R->
  (∀(w:World) (l:List Ev) (X:Nat->Prop) (f:Nat),eD R S t w l X->l.length<1000000->Calls Tryz.prog f1 (#[.int .i64 (f:Int)]++C1) w (du w X R S t (l++[.node f])))->
  (∀(w:World) (l:List Ev) (X:Nat->Prop) (pg:Nat) (y:Leaf),eD R S t w l X->l.length<1000000->Calls Tryz.prog f2 (#[.int .u64 ((pg*4096:Nat):Int), .agg #[.int .i64 (y.frame:Int), .int .u8 (y.prot:Int), .bool y.copy]]++C2) w (du w X R S t (l++[.leaf pg y])))->
  ∀fr:Int,fr=((q*512^LV*4096:Nat):Int)->
  Calls Tryz.prog 74 #[.pointer (some ⟨t,0,none⟩), .int .i64 (g:Int), .int .i64 D, .int .u64 fr, .func (.func f1) #[] C1, .func (.func f2) #[] C2] w (du w X R S t (l++T.evs LV q))
variable {LW:Nat}
theorem sV {q k c:Nat} (hi:i=12+9*(LW+1)) (hc:c=512^LW*4096) (hL:LW<4) (hq:q<512^(4-(LW+1))) (hk:k<512):bits .or .u64 ((q*512^(LW+1)*4096:Nat):Int) ((k:Int)*(c:Int))=(((q*512+k)*512^LW*4096:Nat):Int):=by
 have hL':LW=0\/LW=1\/LW=2\/LW=3:=(by omega);have key:q*512^(LW+1)*4096=q*2^i/\(q*512+k)*512^LW*4096=q*2^i+k*c/\k*c<2^i/\q*2^i+k*c<18446744073709551616:=by
  subst hi hc;rcases hL' with rfl|rfl|rfl|rfl<;>(simp only[Nat.reducePow,Nat.reduceSub,Nat.reduceAdd,Nat.reduceMul]at hq⊢;omega)
 obtain⟨e2,e3,b1,b2⟩:=key;rw[show((k:Int)*(c:Int))=((k*c:Nat):Int)from(Int.natCast_mul k c).symm,e2,e3];exact or_at b1 b2
variable {bo:Nat} {f1 f2:FuncId} {C1 C2:Array Value}
theorem vis_leaf (hk:ph bo f1 C1 f2 C2):qc f1 C1 f2 C2 1 3:=by
 intro t c a root g q R w S p T rest pg0 X l h ht vR hq OD hv hlen hR hn hl fr xU;have Pj:=Tab.evs_node hq;obtain⟨g1,g2⟩:=vR.node hq;have Bj:=(vR.but.words _ q g hq).2;have vH:=vR.but.few;have wv:t<w.heap.size:=(uG ht).1;rw[Pj]at hlen⊢;simp only[uU]at hlen;have AA: ∀k,k<512->l.length+(T.upto 0 q k).length+(T.evs 0 (q*512+k)).length+1<1000000:=fun k hk=>by
  have h1:=T.upto_le 0 q (show k+1<=512 by omega);rw[Tab.upto_succ,uM]at h1;omega
 obtain⟨wd,Cj⟩: ∃wd,wd=T.word 1 q:=⟨_,rfl⟩;obtain⟨up,yk⟩: ∃up,up=T.upto 0 q:=⟨_,rfl⟩;have Iz: ∀k,k<512->dp (fun i=>p.dat g (0+i)) (8*k) 8=wd k:=fun k hk=>by
  rw[Cj,<-Bj k hk];unfold word;refine fV fun i _ =>?_;rw[Nat.zero_add]
 have vJ: ∀k,k<512->(wd k=0/\up (k+1)=up k)\/ ∃(y:Leaf) (x:Nat),wd k=x/\x<18446744073709551616/\(bits .and .u64 (x:Int) 1==0)=false/\fJ x=y/\ ∀(w4:World) (X':Nat->Prop),eD R S t w4 (l++ .node g::up k) X'->Calls Tryz.prog f2 (#[.int .u64 (bits .or .u64 fr ((k:Int)*4096)), .agg #[.int .i64 (y.frame:Int), .int .u8 (y.prot:Int), .bool y.copy]]++C2) w4 (du w4 X' R S t (l++ .node g::up (k+1))):=fun k hk=>by
  have hs:=T.upto_succ 0 q k;cases zz:T.lf (q*512+k)with
  |none=>exact .inl ⟨by rw[Cj];unfold Tab.word;rw[if_pos rfl,zz],by rw[yk,hs,Tab.evs_noleaf zz,List.append_nil]⟩
  |some y=>
   obtain⟨p7,pf⟩:=(vR.but.leaf _ y zz).2;have ze:y.pack<18446744073709551616:=(by have:=eu y p7 (by omega);omega);refine .inr ⟨y,y.pack,by rw[Cj];unfold Tab.word;rw[if_pos rfl,zz],ze,fg ze (fx y),eo y p7,fun w4 X' hv4=>?_⟩;have ho:bits .or .u64 ((q*512^1*4096:Nat):Int) ((k:Int)*4096)=(((q*512+k)*4096:Nat):Int):=(sV (LW:=0) (i:=21) (c:=4096) rfl rfl (by omega) OD hk).trans (by rw[Nat.pow_zero,Nat.mul_one]);have h1:=AA k hk;rw[xU,ho,yk,hs,Tab.evs_leaf zz];have h9:=hl w4 (l++ .node g::up k) X' (q*512+k) y hv4 (by rw[yk,uM,uU];omega);rw[yk]at h9;simpa using h9
 have Qb:=uH (show up 0=[] by rw[yk];rfl);rw[<-yk];have HN:=uH (hn w l X g hv (by omega));have HV:=uH hv;have HP:=uH h;have HT:=uH ht;have PY:=uH Iz;have Dw:=uH vJ;clear Pj hq hv h ht hn hl vR Bj xU hlen AA Cj yk Iz vJ OD;rcases hk with⟨rfl,rfl,rfl,rfl⟩|⟨rfl,rfl,rfl,rfl⟩|⟨rfl,rfl,rfl,rfl⟩<;>(
  go_enter Tryz.func74,Tryz.ntmps74;go_wp2_with fail;refine(HN.out).mono ?_;rintro e w1 ⟨rfl,X1,DV,xj,vL⟩;have zS:am w1 t c a root:=(xj.block t wv HV.out.noT).trans HT.out;have AL:al w1 S a p:=HP.out.mod xj HV.out.apart HV.out.no0;have c1:w1.cell? ⟨t,1,none⟩=some (.pointer (some ⟨a,0,none⟩)):=aa zS 1;have xV:=uH zS;have Dy:=uH AL;have Kj:=uH DV;clear zS AL DV;go_wp2_with fail;refine(fA a g 0 4096 w1 S p Dy.out g1 g2 (by omega) (by omega)).mono ?_;rintro e w2 ⟨rfl,xe,vO,vs⟩;have yC: ∀i,p.dat g i<256:=by
   obtain⟨⟨C,B,F,wd,pt,hi,hS⟩,_,_,_⟩:=Dy.out;exact fun i=>hi.small g i
  have YA: ¬X1 w1.heap.size:=fun e=>by have:=Kj.out.low _ e;omega
  have UG:=uH (Kj.out.below hR vs);have vI:=xj.size;have xd:=uH xe;clear xe c1;go_wp2_with fail;go_loopw [30] (fun i wr=> ∃(k:Nat) (X':Nat->Prop),i= .int .i64 (k:Int)/\k<=512/\eD R S t wr (l++ .node g::up k) X'/\Mod X1 w2 wr/\Out X1 X' w2) (fun i _ =>512-(intOf i).toNat)
  case atStart=>exact⟨0,X1,rfl,by omega,by rw[Qb.out];exact UG.out,Mod.refl _ _,Out.refl _ _⟩
  case round=>
   obtain⟨k,X',rfl,hk,RF,Bv,xg⟩:=hrel;have UH:=uH RF;have hz':=Bv.size;clear RF;by_cases vo:k<512
   ·have Uy:aN wr w1.heap.size 4096 (fun i=>p.dat g (0+i)):=(Bv.block _ vO YA).trans xd.out;have Zn:=uH (show am wr t c a root from(Bv.block t (by omega) Kj.out.noT).trans ((vs.block t (by omega)).trans xV.out));have Zy:=uH ((Dy.out.below vs).mod Bv Kj.out.apart Kj.out.no0);go_wp2_with fail;refine(get_8 (8*k) 4096 4096 w1.heap.size (fun i=>p.dat g (0+i)) wr (by omega) (by omega) Uy (fun i=>yC _) (by omega)).mono ?_;rintro e w3 ⟨rfl,vG⟩;rw[PY.out k vo];have xh:Mod X1 w2 w3:=Bv.trans xg (Mod.of vG);have UF:=uH (UH.out.below hR vG);have Md:=uH (Zy.out.below vG);have Kn:=uH ((vG.block t (by omega)).trans Zn.out);have xq:=vG.size;clear Uy;rcases Dw.out k vo with⟨e0,es⟩|⟨y,x,e0,ze,Fl,yk,zk⟩
    ·have ES:=uH es;rw[e0];have hz:=gQ;clear es e0;go_wp2_with fail;go_roundw
     case rel=>exact⟨k+1,X',by go_num,by omega,by rw[ES.out];exact UF.out,xh,xg⟩
     case measure=>(simp[intOf];omega)
    ·rw[e0];have LS:=uH yk;have KF:=uH zk;clear yk zk e0;go_wp2_with fail;refine(ep x w3 ze).mono ?_;rintro e w4 ⟨rfl,vD⟩;rw[LS.out];go_wp2_with fail;refine(KF.out w4 X' (UF.out.below hR vD)).mono ?_;rintro e w5 ⟨rfl,X5,RE,wH,yt⟩;have wP:Mod X1 w2 w4:=xh.trans (fun b hb=>(xg b hb).imp id (fun h=>h)) (Mod.of vD);have OJ:Out X1 X5 w2:=xg.trans yt wP.size;have Eo:=wP.trans xg wH;have Zi:=uH RE;clear RE;go_wp2_with fail;go_roundw
     case rel=>exact⟨k+1,X5,by go_num,by omega,Zi.out,Eo,OJ⟩
     case measure=>(simp[intOf];omega)
   ·obtain rfl:k=512:=(by omega);go_wp2_with fail;go_end0;exact⟨rfl,X',UH.out,xj.trans vL ((Mod.of vs).trans (Out.refl _ _) Bv),vL.trans (fun b hb=>(xg b hb).imp id (fun h=>ve vs.size h)) vI⟩)
theorem jo (hk:ph bo f1 C1 f2 C2) {cc:Nat} {D E:Int} (hc:(LW=1/\D=2/\E=3/\cc=2097152)\/(LW=2/\D=1/\E=2/\cc=1073741824)\/(LW=3/\D=0/\E=1/\cc=549755813888)) (ih:qc f1 C1 f2 C2 LW E):qc f1 C1 f2 C2 (LW+1) D:=by
 intro t c a root g q R w S p T rest pg0 X l h ht vR hq OD hv hlen hR hn hl fr xU;have Pj:=Tab.evs_node hq;obtain⟨g1,g2⟩:=vR.node hq;have Bj:=(vR.but.words _ q g hq).2;have vH:=vR.but.few;have wv:t<w.heap.size:=(uG ht).1;rw[Pj]at hlen⊢;simp only[uU]at hlen;have AA: ∀k,k<512->l.length+(T.upto LW q k).length+(T.evs LW (q*512+k)).length+1<1000000:=fun k hk=>by
  have h1:=T.upto_le LW q (show k+1<=512 by omega);rw[Tab.upto_succ,uM]at h1;omega
 obtain⟨wd,Cj⟩: ∃wd,wd=T.word (LW+1) q:=⟨_,rfl⟩;obtain⟨up,yk⟩: ∃up,up=T.upto LW q:=⟨_,rfl⟩;have Iz: ∀k,k<512->dp (fun i=>p.dat g (0+i)) (8*k) 8=wd k:=fun k hk=>by
  rw[Cj,<-Bj k hk];unfold word;refine fV fun i _ =>?_;rw[Nat.zero_add]
 have Za:1<=LW/\LW<4/\cc=512^LW*4096:=by rcases hc with⟨rfl,_,_,rfl⟩|⟨rfl,_,_,rfl⟩|⟨rfl,_,_,rfl⟩<;>decide
 obtain⟨Za,h4L,Ym⟩:=Za;have vJ: ∀k,k<512->(wd k=0/\up (k+1)=up k)\/ ∃(f x:Nat),wd k=x/\x<18446744073709551616/\(bits .and .u64 (x:Int) 1==0)=false/\((x:Int)/4096)=(f:Int)/\ ∀(w3:World) (X':Nat->Prop),al w3 S a p->am w3 t c a root->eD R S t w3 (l++ .node g::up k) X'->Calls Tryz.prog 74 #[.pointer (some ⟨t,0,none⟩), .int .i64 (f:Int), .int .i64 E, .int .u64 (bits .or .u64 fr ((k:Int)*(cc:Int))), .func (.func f1) #[] C1, .func (.func f2) #[] C2] w3 (du w3 X' R S t (l++ .node g::up (k+1))):=fun k hk=>by
  have hs:=T.upto_succ LW q k;have vl:wd k=match T.nd LW (q*512+k)with|some f=>f*4096+1|none=>0:=by
   rw[Cj];unfold Tab.word;rw[if_neg (by omega)];rfl
  cases zz:T.nd LW (q*512+k)with
  |none=>
   obtain⟨m,rfl⟩: ∃m,LW=m+1:=⟨LW-1,by omega⟩;exact .inl ⟨by rw[vl,zz],by rw[yk,hs,Tab.evs_none zz,List.append_nil]⟩
  |some f=>
   obtain⟨n1,n2⟩:=vR.node zz;have ze:f*4096+1<18446744073709551616:=(by omega);refine .inr ⟨f,f*4096+1,by rw[vl,zz],ze,fg ze (by omega),by omega,fun w3 X' hP hT hv3=>?_⟩;have h1:=AA k hk;have hqk:q*512+k<512^(4-LW):=by
    have e9:512^(4-LW)=512^(4-(LW+1))*512:=(by rw[<-Nat.pow_succ];congr 1;omega);rw[e9];omega
   have h9:=ih t c a root f (q*512+k) R w3 S p T rest pg0 X' (l++ .node g::up k) hP hT vR zz hqk hv3 (by rw[yk,uM,uU];omega) hR hn hl (bits .or .u64 fr ((k:Int)*(cc:Int))) (by rw[xU];exact sV rfl Ym h4L OD hk);have e8:(l++ .node g::up k)++T.evs LW (q*512+k)=l++ .node g::up (k+1):=(by rw[yk,hs];simp);rw[e8]at h9;exact h9
 have Qb:=uH (show up 0=[] by rw[yk];rfl);rw[<-yk];have HN:=uH (hn w l X g hv (by omega));have HV:=uH hv;have HP:=uH h;have HT:=uH ht;have PY:=uH Iz;have Dw:=uH vJ;clear Pj hq hv h ht hn hl vR Bj xU hlen AA Cj yk Iz vJ OD ih Ym Za h4L;rcases hk with⟨rfl,rfl,rfl,rfl⟩|⟨rfl,rfl,rfl,rfl⟩|⟨rfl,rfl,rfl,rfl⟩<;>rcases hc with⟨rfl,rfl,rfl,rfl⟩|⟨rfl,rfl,rfl,rfl⟩|⟨rfl,rfl,rfl,rfl⟩<;>(
  go_enter Tryz.func74,Tryz.ntmps74;go_wp2_with fail;refine(HN.out).mono ?_;rintro e w1 ⟨rfl,X1,DV,xj,vL⟩;have zS:am w1 t c a root:=(xj.block t wv HV.out.noT).trans HT.out;have AL:al w1 S a p:=HP.out.mod xj HV.out.apart HV.out.no0;have c1:w1.cell? ⟨t,1,none⟩=some (.pointer (some ⟨a,0,none⟩)):=aa zS 1;have xV:=uH zS;have Dy:=uH AL;have Kj:=uH DV;clear zS AL DV;go_wp2_with fail;refine(fA a g 0 4096 w1 S p Dy.out g1 g2 (by omega) (by omega)).mono ?_;rintro e w2 ⟨rfl,xe,vO,vs⟩;have yC: ∀i,p.dat g i<256:=by
   obtain⟨⟨C,B,F,wd,pt,hi,hS⟩,_,_,_⟩:=Dy.out;exact fun i=>hi.small g i
  have YA: ¬X1 w1.heap.size:=fun e=>by have:=Kj.out.low _ e;omega
  have UG:=uH (Kj.out.below hR vs);have vI:=xj.size;have xd:=uH xe;clear xe c1;go_wp2_with fail;go_loopw [30] (fun i wr=> ∃(k:Nat) (X':Nat->Prop),i= .int .i64 (k:Int)/\k<=512/\eD R S t wr (l++ .node g::up k) X'/\Mod X1 w2 wr/\Out X1 X' w2) (fun i _ =>512-(intOf i).toNat)
  case atStart=>exact⟨0,X1,rfl,by omega,by rw[Qb.out];exact UG.out,Mod.refl _ _,Out.refl _ _⟩
  case round=>
   obtain⟨k,X',rfl,hk,RF,Bv,xg⟩:=hrel;have UH:=uH RF;have hz':=Bv.size;clear RF;by_cases vo:k<512
   ·have Uy:aN wr w1.heap.size 4096 (fun i=>p.dat g (0+i)):=(Bv.block _ vO YA).trans xd.out;have Zn:=uH (show am wr t c a root from(Bv.block t (by omega) Kj.out.noT).trans ((vs.block t (by omega)).trans xV.out));have Zy:=uH ((Dy.out.below vs).mod Bv Kj.out.apart Kj.out.no0);go_wp2_with fail;refine(get_8 (8*k) 4096 4096 w1.heap.size (fun i=>p.dat g (0+i)) wr (by omega) (by omega) Uy (fun i=>yC _) (by omega)).mono ?_;rintro e w3 ⟨rfl,vG⟩;rw[PY.out k vo];have xh:Mod X1 w2 w3:=Bv.trans xg (Mod.of vG);have UF:=uH (UH.out.below hR vG);have Md:=uH (Zy.out.below vG);have Kn:=uH ((vG.block t (by omega)).trans Zn.out);have xq:=vG.size;clear Uy;rcases Dw.out k vo with⟨e0,es⟩|⟨f,x,e0,ze,Fl,RY,zk⟩
    ·have ES:=uH es;rw[e0];have hz:=gQ;clear es e0;go_wp2_with fail;go_roundw
     case rel=>exact⟨k+1,X',by go_num,by omega,by rw[ES.out];exact UF.out,xh,xg⟩
     case measure=>(simp[intOf];omega)
    ·rw[e0];have Ho:=uH RY;have KF:=uH zk;clear RY zk e0;go_wp2_with fail;rw[Ho.out];refine(KF.out w3 X' Md.out Kn.out UF.out).mono ?_;rintro e w5 ⟨rfl,X5,RE,wH,yt⟩;have OJ:Out X1 X5 w2:=xg.trans yt xh.size;have Eo:=xh.trans xg wH;have Zi:=uH RE;clear RE;go_wp2_with fail;go_roundw
     case rel=>exact⟨k+1,X5,by go_num,by omega,Zi.out,Eo,OJ⟩
     case measure=>(simp[intOf];omega)
   ·obtain rfl:k=512:=(by omega);go_wp2_with fail;go_end0;exact⟨rfl,X',UH.out,xj.trans vL ((Mod.of vs).trans (Out.refl _ _) Bv),vL.trans (fun b hb=>(xg b hb).imp id (fun h=>ve vs.size h)) vI⟩)
theorem rP (hk:ph bo f1 C1 f2 C2):qc f1 C1 f2 C2 4 0:=
 jo hk (.inr (.inr ⟨rfl,rfl,rfl,rfl⟩)) (jo hk (.inr (.inl ⟨rfl,rfl,rfl,rfl⟩)) (jo hk (.inl ⟨rfl,rfl,rfl,rfl⟩) (vis_leaf hk)))
end
section
open Go.RowKit
def pc (x:Nat×Leaf):List Value:=[.int .u64 ((x.1*4096:Nat):Int), .int .i64 (x.2.frame:Int), .int .u8 (x.2.prot:Int), .bool x.2.copy]
def OwnP (w:World) (base:Nat) (A:Option Addr) (cap:Nat) (l:List (Nat×Leaf)):Prop:=w.ownsRow base 85 4 (.slice A l.length cap) l.length (l.flatMap pc)
theorem put_info:(Tryz.prog.info? 85).map (fun i=>(i.zero,i.size,i.bytes))=some (some (.agg #[.int .u64 0, .int .i64 0, .int .u8 0, .bool false]),4,24):=by kernel_rfl
structure ml {α:Type} (Own:World->Nat->Option Addr->Nat->List α->Prop):Prop where
 same: ∀ {w w':World} {base:Nat} {A:Option Addr} {cap:Nat} {l:List α},Own w base A cap l->(∀g,A=some ⟨g,0,none⟩->w'.heap[g]? =w.heap[g]?)->Own w' base A cap l
 form: ∀ {w:World} {base:Nat} {A:Option Addr} {cap:Nat} {l:List α},Own w base A cap l->(A=none/\l=[]/\cap=0)\/ ∃g,A=some ⟨g,0,none⟩/\base<=g/\g<w.heap.size/\l.length<=cap
theorem gw:ml OwnN:=⟨fun h hb=>h.same hb,fun h=>h.form⟩
theorem dC:ml OwnP:=by
 constructor
 ·intro w w' base A cap l h hb;refine⟨h.1,?_⟩;rcases h.2 with h2|⟨g,vh,cur,h1,h2,h3,h4⟩
  ·exact .inl h2
  ·injection h1 with e1 e2 e3;exact .inr ⟨g,vh,cur,by rw[e1,e2,e3],h2,(hb g e1).trans h3,h4⟩
 ·intro w base A cap l h;rcases h.2 with⟨h2,h3⟩|⟨g,vh,cur,h1,h2,h3,h4,_⟩
  ·injection h2 with h4 h5 h6;exact .inl ⟨h4,List.eq_nil_of_length_eq_zero h3,h6⟩
  ·injection h1 with e1 e2 e3;subst e3;exact .inr ⟨g,e1,h2,(uG h3).1,h4⟩
def Pick {α:Type} (Own:World->Nat->Option Addr->Nat->List α->Prop) (ty:TypeId) (F:Ev->List α) (base bo:Nat):World->List Ev->(Nat->Prop)->Prop:=fun w l X=>
 ∃A cap,Own w base A cap (l.flatMap F)/\w.heap[bo]? =some (.cells #[.slice A (l.flatMap F).length cap] ty (0,0))/\(∀g,A=some ⟨g,0,none⟩->g≠bo)/\ ∀b,X b↔b=bo\/A=some ⟨b,0,none⟩
variable {ty:TypeId} {base bo:Nat}
theorem Pick.stays {α:Type} {Own:World->Nat->Option Addr->Nat->List α->Prop} (hO:ml Own) {F:Ev->List α} :mj (Pick Own ty F base bo):=by
 rintro w w' l X ⟨A,cap,h1,h2,h3,h4⟩ hb;refine⟨A,cap,hO.same h1 fun g hg=>?_,(hb.block bo (uG h2).1).trans h2,h3,h4⟩;rcases hO.form h1 with⟨e,_⟩|⟨g',e,_,vo,_⟩
 ·rw[e]at hg;cases hg
 ·rw[e]at hg;injection hg with hg;injection hg with hg;subst hg;exact hb.block _ vo
variable {w:World} {l:List Ev} {X S:Nat->Prop} {e:Ev} {t:Nat}
theorem Pick.pass {α:Type} {Own:World->Nat->Option Addr->Nat->List α->Prop} {F:Ev->List α} (h:eD (Pick Own ty F base bo) S t w l X) (he:F e=[]):
  du w X (Pick Own ty F base bo) S t (l++[e]) (.returned (.tuple #[])) w:=by
 refine⟨rfl,X,⟨?_,h.low,h.apart,h.noT,h.no0⟩,Mod.refl _ _,Out.refl _ _⟩;obtain⟨A,cap,h1,h2,h3,h4⟩:=h.rel;have e1:(l++[e]).flatMap F=l.flatMap F:=(by simp[he]);exact⟨A,cap,by rw[e1];exact h1,by rw[e1];exact h2,h3,h4⟩
theorem Pick.more {α:Type} {Own:World->Nat->Option Addr->Nat->List α->Prop} (hO:ml Own) {F:Ev->List α} {w0 w1 w2:World} {x:α} (h:eD (Pick Own ty F base bo) S t w l X) (he:F e=[x])
  {A:Option Addr} {cap g vh:Nat} (hX: ∀b,X b↔b=bo\/A=some ⟨b,0,none⟩) (hA:Own w base A cap (l.flatMap F)) (vm:Below w.heap.size w w0) (hg:w0.grownBy w1 (A.map (·.block))) (wC:A.map (·.block)=some g\/g=w0.heap.size) (vo:g<w1.heap.size)
  (vA:Own w1 base (some ⟨g,0,none⟩) vh (l.flatMap F++[x])) (DQ: ∀g,A=some ⟨g,0,none⟩->g≠bo) (hbo:bo<w.heap.size) (YB: ∀b,S b->b<base) (MA:t<base) (vk:0<base)
  (h2:w2.heap[bo]? =some (.cells #[.slice (some ⟨g,0,none⟩) (l.flatMap F++[x]).length vh] ty (0,0))) (vy:Mod (fun b=>b=bo) w1 w2) (vO:w2.heap.size=w1.heap.size):
  du w X (Pick Own ty F base bo) S t (l++[e]) (.returned (.tuple #[])) w2:=by
 have wN:=hO.form hA;have vQ:=vm.size;have vI:=hg.size;have XZ:g≠bo:=by
  rcases wC with e|e
  ·rcases wN with⟨e',_⟩|⟨g',e',_,_,_⟩
   ·rw[e']at e;cases e
   ·rw[e']at e;injection e with e;exact e▸DQ g' e'
  ·omega
 have Fu:base<=g:=by
  rcases hO.form vA with⟨e',_⟩|⟨g',e',h9,_,_⟩
  ·cases e'
  ·injection e' with e';injection e' with e';omega
 have hXA: ∀b,A.map (·.block)=some b->X b:=by
  intro b hb;rcases wN with⟨e',_⟩|⟨g',e',_,_,_⟩
  ·rw[e']at hb;cases hb
  ·rw[e']at hb;injection hb with hb;exact(hX b).2 (.inr (hb▸e'))
 have xj:Mod X w0 w1:=⟨hg.os,hg.tape,hg.output,hg.size,fun b hb hn=>hg.block b hb fun e=>hn (hXA b e.symm)⟩;have JV:X bo:=(hX bo).2 (.inl rfl);have XA:Mod X w w2:=((Mod.of vm).trans (Out.refl _ _) xj).trans (Out.refl _ _) (vy.sub fun b hb=>hb▸JV);refine⟨rfl,fun b=>b=bo\/b=g,⟨⟨some ⟨g,0,none⟩,vh,?_,?_,fun g' e'=>?_,fun b=>?_⟩,?_,?_,?_,?_⟩,XA,?_⟩
 ·rw[show(l++[e]).flatMap F=l.flatMap F++[x]from by simp[he]];refine hO.same vA fun g' e'=>?_;injection e' with e';injection e' with e';subst e';exact vy.block g vo XZ
 ·rw[show(l++[e]).flatMap F=l.flatMap F++[x]from by simp[he]];exact h2
 ·injection e' with e';injection e' with e';omega
 ·constructor
  ·rintro(rfl|rfl)
   ·exact .inl rfl
   ·exact .inr rfl
  ·rintro(rfl|e')
   ·exact .inl rfl
   ·injection e' with e';injection e' with e';exact .inr e'.symm
 ·rintro b (rfl|rfl)
  ·omega
  ·omega
 ·intro b hb;have h9:=YB b hb;rintro(rfl|rfl)
  ·exact h.apart _ hb JV
  ·omega
 ·rintro(rfl|rfl)
  ·exact h.noT JV
  ·omega
 ·rintro(e'|e')
  ·exact h.no0 (e'▸JV)
  ·omega
 ·rintro b (rfl|rfl)
  ·exact .inl JV
  ·rcases wC with e'|e'
   ·exact .inl (hXA _ e')
   ·exact .inr (by omega)
theorem Pick.start {α:Type} {Own:World->Nat->Option Addr->Nat->List α->Prop} {F:Ev->List α} (hO:Own w base none 0 []) (hb:w.heap[bo]? =some (.cells #[.slice none 0 0] ty (0,0))) (YB: ∀b,S b->b≠bo) (ht:t≠bo) (h0:bo≠0):
  eD (Pick Own ty F base bo) S t w [] (fun b=>b=bo):=
 ⟨⟨none,0,hO,hb,fun g e=>(by cases e),fun b=>⟨.inl,fun h=>h.elim id (fun e=>by cases e)⟩⟩,fun b e=>e▸(uG hb).1,fun b hs e=>YB b hs e,fun e=>ht e,fun e=>h0 e.symm⟩
end
section
open Go.RowKit
end
section
open Go.RowKit
end
section
open Go.RowKit
theorem cG {α:Type} {F:Ev->List α} (hF: ∀e,(F e).length<=1) (l:List Ev):(l.flatMap F).length<=l.length:=by
 induction l with
 |nil=>simp
 |cons e l ih=>rw[vf,uM,uU];have:=hF e;omega
variable {w:World}
theorem app_put {ops:Array Oper} {rest:List Oper} {o:Oper} {a:Act} {Q:Exit->Act->World->Prop} (xT:o.guard=none) (s x:Operand)
  (ho:o.op= .call { callee:= .builtin .append,args:= #[s,x],argTypes:= #[80,80]})
  (base:Nat) (A:Option Addr) (cap:Nat) (l:List (Nat×Leaf)) (hs:a.eval s= .slice A l.length cap) (vA:OwnP w base A cap l)
  (r:Nat×Leaf) (b c:Nat) (hx:a.eval x= .slice (some ⟨b,0,none⟩) 1 c) (hb:w.heap[b]? =some (.cells #[.int .u64 ((r.1*4096:Nat):Int), .int .i64 (r.2.frame:Int), .int .u8 (r.2.prot:Int), .bool r.2.copy] 85 (0,0)))
  (vH:l.length<1000000) (vC:base<=w.heap.size)
  (h: ∀g vh w',OwnP w' base (some ⟨g,0,none⟩) vh (l++[r])->w.grownBy w' (A.map (·.block))->(A.map (·.block)=some g\/g=w.heap.size)->g<w'.heap.size->wpList Tryz.prog ops Q rest (a.put o.dst (.slice (some ⟨g,0,none⟩) (l.length+1) vh)) w'):
  wpList Tryz.prog ops Q (o::rest) a w:=by
 obtain⟨i0,xD,vQ,vI,vO⟩:=info_parts put_info;refine wpList_append_lies w xT s x 80 ho base 85 i0 _ 4 24 Tryz.underlying80 xD vQ vI vO rfl (by omega) _ l.length (l.flatMap pc) hs vA ⟨b,0,none⟩ 1 c (pc r) hx rfl (World.news_of_block (cs:= #[.int .u64 ((r.1*4096:Nat):Int), .int .i64 (r.2.frame:Int), .int .u8 (r.2.prot:Int), .bool r.2.copy]) hb)
  (by simp[pc,Value.oneCell']) (by omega) (by unfold maxLen;omega) (by omega) vC w.heap.size rfl ?_
 intro g vh w' xg hg wC vo;refine h g vh w' ?_ ?_ ?_ vo
 ·unfold OwnP;rw[List.flatMap_append,uM];simpa [pc]using xg
 ·cases A<;>simpa [Value.ownBlock]using hg
 ·cases A<;>simpa [Value.ownBlock]using wC
theorem Pick.cell {α:Type} {l:List α} {w0 w1:World} {base bo n cap:Nat} {A:Option Addr} {ty:TypeId} (hF:(A=none/\l=[]/\cap=0)\/ ∃g,A=some ⟨g,0,none⟩/\base<=g/\g<w.heap.size/\l.length<=cap) (YX: ∀g,A=some ⟨g,0,none⟩->g≠bo)
  (hB:w.heap[bo]? =some (.cells #[.slice A n cap] ty (0,0))) (hb:Below w.heap.size w w0) (hg:w0.grownBy w1 (A.map (·.block))):w1.heap[bo]? =some (.cells #[.slice A n cap] ty (0,0)):=by
 have yA:=(uG hB).1;refine(hg.block bo (uO yA hb.size) fun e=>?_).trans ((hb.block bo yA).trans hB);rcases hF with⟨e',_⟩|⟨g',e',_,_,_⟩
 ·rw[e']at e;cases e
 ·rw[e']at e;exact YX g' e' (by simpa using e.symm)
theorem bd {b:Nat} {x y:Value} {t:TypeId} (h:w.heap[b]? =some (.cells #[x] t (0,0))):(w.setCell ⟨b,0,none⟩ y).heap[b]? =some (.cells #[y] t (0,0)):=by
 have h1:=Joins.block_setCell (i:=0) h y;simpa using h1
structure nI (S:Nat->Prop) (t base bo:Nat):Prop where
 low: ∀b,S b->b<base
 tab:t<base
 pos:0<base
 box:base<=bo
theorem all1_any (ty:TypeId) (base bo t:Nat) (S:Nat->Prop) (w:World) (l:List Ev) (X:Nat->Prop) (f:Nat) (hv:eD (Pick OwnP ty Ev.ls base bo) S t w l X):
  Calls Tryz.prog 75 (#[.int .i64 (f:Int)]++ #[]) w (du w X (Pick OwnP ty Ev.ls base bo) S t (l++[.node f])):=by
 have hp:=Pick.pass hv (e:= .node f) rfl;have HP:=uH hp;clear hv hp;go_enter Tryz.func75,Tryz.ntmps75;go_wp2_with fail;go_end0;exact HP.out
theorem tx (base bo t:Nat) (S:Nat->Prop) (hp:nI S t base bo) (w:World) (l:List Ev) (X:Nat->Prop) (f:Nat)
  (hv:eD (Pick OwnN 131 Ev.fs base bo) S t w l X) (vH:l.length<1000000):
  Calls Tryz.prog 94 (#[.int .i64 (f:Int)]++ #[.pointer (some ⟨bo,0,none⟩)]) w (du w X (Pick OwnN 131 Ev.fs base bo) S t (l++[.node f])):=by
 obtain⟨A,cap,hO,hB,DQ,hX⟩:=hv.rel;have hlen:=cG (F:=Ev.fs) (fun e=>by cases e<;>simp[Ev.fs]) l;have wN:=gw.form hO;have yA:bo<w.heap.size:=(uG hB).1;have c0:w.cell? ⟨bo,0,none⟩=some (.slice A (l.flatMap Ev.fs).length cap):=aa hB 0;have f0:w.frozen? ⟨bo,0,none⟩=false:=ae hB 0;obtain⟨L,hL⟩: ∃L,L=l.flatMap Ev.fs:=⟨_,rfl⟩;rw[<-hL]at hlen c0;have HV:=uH hv;have HO:=uH hO;have HB:=uH hB;have HX:=uH hX;have Hw:=uH DQ;have HF:=uH wN;have HL:=uH hL;clear hv hO hB hX DQ wN hL;have xZ:=hp.box;have xx:=uH ((vg w.heap.size w).alloc (uK _) (.cells #[.int .i64 (f:Int)] 3));go_enter Tryz.func94,Tryz.ntmps94;go_wp2_with (first
  |(at_builtin;refine oX rfl (.tmp 3) (.tmp 5) rfl base A cap L rfl ((HL.out▸HO.out:OwnN w base A cap L).alloc _) f w.heap.size 1 rfl (ab _ _) (by omega) (by simp;omega) ?_;intro g vh w1 ho hg wC vo;have xe:=Pick.cell HF.out Hw.out HB.out xx.out hg;rw[<-HL.out]at xe;have c1:w1.cell? ⟨bo,0,none⟩=some (.slice A L.length cap):=aa xe 0;have f1:w1.frozen? ⟨bo,0,none⟩=false:=ae xe 0;have vx:=uH ho;have HG:=uH hg;have DT:=uH wC;have xd:=uH xe;clear ho hg wC xe)
  |fail)
 go_end0;exact Pick.more gw HV.out (x:=f) rfl HX.out HO.out xx.out HG.out DT.out vo (HL.out▸vx.out) Hw.out yA hp.low hp.tab hp.pos (by rw[uM,<-HL.out];exact bd xd.out) (aj (S:=fun b=>b=bo) (b:=bo) rfl 0 _) (by simp)
theorem tw (base bo t:Nat) (S:Nat->Prop) (hp:nI S t base bo) (w:World) (l:List Ev) (X:Nat->Prop) (pg:Nat) (y:Leaf)
  (hv:eD (Pick OwnN 131 Ev.fs base bo) S t w l X) (vH:l.length<1000000):
  Calls Tryz.prog 95 (#[.int .u64 ((pg*4096:Nat):Int), .agg #[.int .i64 (y.frame:Int), .int .u8 (y.prot:Int), .bool y.copy]]++ #[.pointer (some ⟨bo,0,none⟩)]) w (du w X (Pick OwnN 131 Ev.fs base bo) S t (l++[.leaf pg y])):=by
 obtain⟨A,cap,hO,hB,DQ,hX⟩:=hv.rel;have hlen:=cG (F:=Ev.fs) (fun e=>by cases e<;>simp[Ev.fs]) l;have wN:=gw.form hO;have yA:bo<w.heap.size:=(uG hB).1;have c0:w.cell? ⟨bo,0,none⟩=some (.slice A (l.flatMap Ev.fs).length cap):=aa hB 0;have f0:w.frozen? ⟨bo,0,none⟩=false:=ae hB 0;obtain⟨L,hL⟩: ∃L,L=l.flatMap Ev.fs:=⟨_,rfl⟩;rw[<-hL]at hlen c0;have HV:=uH hv;have HO:=uH hO;have HB:=uH hB;have HX:=uH hX;have Hw:=uH DQ;have HF:=uH wN;have HL:=uH hL;clear hv hO hB hX DQ wN hL;have xZ:=hp.box;obtain⟨w0,vl⟩: ∃w0,w0=w.alloc (.cells #[.int .i64 (y.frame:Int), .int .u8 (y.prot:Int), .bool y.copy] 83):=⟨_,rfl⟩;have vm:Below w.heap.size w w0:=(by rw[vl];exact uJ);have zV:w0.heap[w.heap.size]? =some (.cells #[.int .i64 (y.frame:Int), .int .u8 (y.prot:Int), .bool y.copy] 83 (0,0)):=(by rw[vl];exact ab _ _);have d0:w0.cell? ⟨w.heap.size,0,none⟩=some (.int .i64 (y.frame:Int)):=aa zV 0;have c0':w0.cell? ⟨bo,0,none⟩=some (.slice A L.length cap):=(vm.cell yA).trans c0;have f0':w0.frozen? ⟨bo,0,none⟩=false:=(vm.frozen yA).trans f0;have vQ:=vm.size;have xx:=uH (vm.alloc vm.size (.cells #[.int .i64 (y.frame:Int)] 3));have Ac:OwnN w0 base A cap L:=(HL.out▸HO.out:OwnN w base A cap L).below vm (uK _);have EX:=uH Ac;have vF:=uH vl;clear vl Ac c0 f0 zV vm;go_enter Tryz.func95,Tryz.ntmps95;go_upto_region 1 with(fail);rw[<-vF.out];go_wp2_with (first
  |(at_builtin;refine oX rfl (.tmp 5) (.tmp 8) rfl base A cap L rfl (EX.out.alloc _) y.frame w0.heap.size 1 rfl (ab _ _) (by omega) (by simp;omega) ?_;intro g vh w1 ho hg wC vo;have xe:=Pick.cell HF.out Hw.out HB.out xx.out hg;rw[<-HL.out]at xe;have c1:w1.cell? ⟨bo,0,none⟩=some (.slice A L.length cap):=aa xe 0;have f1:w1.frozen? ⟨bo,0,none⟩=false:=ae xe 0;have vx:=uH ho;have HG:=uH hg;have DT:=uH wC;have xd:=uH xe;clear ho hg wC xe)
  |fail)
 go_end0;exact Pick.more gw HV.out (x:=y.frame) rfl HX.out HO.out xx.out HG.out DT.out vo (HL.out▸vx.out) Hw.out yA hp.low hp.tab hp.pos (by rw[uM,<-HL.out];exact bd xd.out) (aj (S:=fun b=>b=bo) (b:=bo) rfl 0 _) (by simp)
theorem all2_any (base bo t:Nat) (S:Nat->Prop) (hp:nI S t base bo) (w:World) (l:List Ev) (X:Nat->Prop) (pg:Nat) (y:Leaf)
  (hv:eD (Pick OwnP 80 Ev.ls base bo) S t w l X) (vH:l.length<1000000):
  Calls Tryz.prog 76 (#[.int .u64 ((pg*4096:Nat):Int), .agg #[.int .i64 (y.frame:Int), .int .u8 (y.prot:Int), .bool y.copy]]++ #[.pointer (some ⟨bo,0,none⟩)]) w (du w X (Pick OwnP 80 Ev.ls base bo) S t (l++[.leaf pg y])):=by
 obtain⟨A,cap,hO,hB,DQ,hX⟩:=hv.rel;have hlen:=cG (F:=Ev.ls) (fun e=>by cases e<;>simp[Ev.ls]) l;have wN:=dC.form hO;have yA:bo<w.heap.size:=(uG hB).1;have c0:w.cell? ⟨bo,0,none⟩=some (.slice A (l.flatMap Ev.ls).length cap):=aa hB 0;have f0:w.frozen? ⟨bo,0,none⟩=false:=ae hB 0;obtain⟨L,hL⟩: ∃L,L=l.flatMap Ev.ls:=⟨_,rfl⟩;rw[<-hL]at hlen c0;have HV:=uH hv;have HO:=uH hO;have HB:=uH hB;have HX:=uH hX;have Hw:=uH DQ;have HF:=uH wN;have HL:=uH hL;clear hv hO hB hX DQ wN hL;have xZ:=hp.box;obtain⟨w0,vl⟩: ∃w0,w0=w.alloc (.cells #[.int .i64 (y.frame:Int), .int .u8 (y.prot:Int), .bool y.copy] 83):=⟨_,rfl⟩;have vm:Below w.heap.size w w0:=(by rw[vl];exact uJ);have zV:w0.heap[w.heap.size]? =some (.cells #[.int .i64 (y.frame:Int), .int .u8 (y.prot:Int), .bool y.copy] 83 (0,0)):=(by rw[vl];exact ab _ _);have d0:w0.cell? ⟨w.heap.size,0,none⟩=some (.int .i64 (y.frame:Int)):=aa zV 0;have d1:w0.cell? ⟨w.heap.size,1,none⟩=some (.int .u8 (y.prot:Int)):=aa zV 1;have d2:w0.cell? ⟨w.heap.size,2,none⟩=some (.bool y.copy):=aa zV 2;have c0':w0.cell? ⟨bo,0,none⟩=some (.slice A L.length cap):=(vm.cell yA).trans c0;have f0':w0.frozen? ⟨bo,0,none⟩=false:=(vm.frozen yA).trans f0;have vQ:=vm.size;have xx:=uH (vm.alloc vm.size (.cells #[.int .u64 ((pg*4096:Nat):Int), .int .i64 (y.frame:Int), .int .u8 (y.prot:Int), .bool y.copy] 85));have Ac:OwnP w0 base A cap L:=dC.same (HL.out▸HO.out:OwnP w base A cap L) (fun g hg=>vm.block g (by
  rcases HF.out with⟨e,_⟩|⟨g',e,_,vo,_⟩
  ·rw[e]at hg;cases hg
  ·rw[e]at hg;injection hg with hg;injection hg with hg;omega))
 have EX:=uH Ac;have vF:=uH vl;clear vl Ac c0 f0 zV vm;go_enter Tryz.func76,Tryz.ntmps76;go_upto_region 1 with(fail);rw[<-vF.out];go_wp2_with (first
  |(at_builtin;refine app_put rfl (.tmp 5) (.tmp 9) rfl base A cap L rfl (dC.same EX.out (fun g hg=>uL _ _ _ (by
    rcases dC.form EX.out with⟨e,_⟩|⟨g',e,_,vo,_⟩
    ·rw[e]at hg;cases hg
    ·rw[e]at hg;injection hg with hg;injection hg with hg;omega))) (pg,y) w0.heap.size 1 rfl (ab _ _) (by omega) (by simp;omega) ?_;intro g vh w1 ho hg wC vo;have xe:=Pick.cell HF.out Hw.out HB.out xx.out hg;rw[<-HL.out]at xe;have c1:w1.cell? ⟨bo,0,none⟩=some (.slice A L.length cap):=aa xe 0;have f1:w1.frozen? ⟨bo,0,none⟩=false:=ae xe 0;have vx:=uH ho;have HG:=uH hg;have DT:=uH wC;have xd:=uH xe;clear ho hg wC xe)
  |fail)
 go_end0;exact Pick.more dC HV.out (x:=(pg,y)) rfl HX.out HO.out xx.out HG.out DT.out vo (HL.out▸vx.out) Hw.out yA hp.low hp.tab hp.pos (by rw[uM,<-HL.out];exact bd xd.out) (aj (S:=fun b=>b=bo) (b:=bo) rfl 0 _) (by simp)
end
section
open Go.RowKit Go.Sort
def pj {α:Type} (Own:World->Nat->Option Addr->Nat->List α->Prop) (w:World) (l:List α) (e:Ending) (w':World):Prop:= ∃A cap,e= .returned (.slice A l.length cap)/\Own w' w.heap.size A cap l/\Below w.heap.size w w'
theorem Pick.end {α:Type} {Own:World->Nat->Option Addr->Nat->List α->Prop} {ty:TypeId} {F:Ev->List α} {w w0 w1:World} {S X0:Nat->Prop} {t:Nat} {l:List Ev} {bo:Nat} (hbo:bo=w.heap.size) (vm:Below w.heap.size w w0) (hX: ∀b,X0 b->b=bo) {X1:Nat->Prop} (hv:eD (Pick Own ty F w.heap.size bo) S t w1 l X1) (hm:Mod X0 w0 w1):
  ∃A cap,w1.cell? ⟨bo,0,none⟩=some (.slice A (l.flatMap F).length cap)/\Own w1 w.heap.size A cap (l.flatMap F)/\Below w.heap.size w w1:=by
 obtain⟨A,cap,h1,h2,h3,h4⟩:=hv.rel;refine⟨A,cap,aa h2 0,h1,?_⟩;exact((Mod.of vm).trans (Out.refl _ _) (hm.sub fun b hb=>by have:=hX b hb;omega)).below (S:=fun b=>b=bo) (fun b hb=>by omega) (uK _)
theorem lj (t c a root:Nat) (w:World) (S:Nat->Prop) (p:Pool) (T:Tab) (rest:Nat->Nat) (pg0:Nat) (h:al w S a p) (ht:am w t c a root) (hg:T.Good p rest pg0 4) (hr:T.nd 4 0=some root):
  Calls Tryz.prog 34 #[.pointer (some ⟨t,0,none⟩)] w (pj OwnP w ((T.evs 4 0).flatMap Ev.ls)):=by
 have wv:t<w.heap.size:=(uG ht).1;have vN:=h.pos;have vK:=h.low;have xy:=hg.ok.short;obtain⟨w0,vl⟩: ∃w0,w0=w.alloc (.cells #[.slice none 0 0] 80):=⟨_,rfl⟩;have vm:Below w.heap.size w w0:=(by rw[vl];exact uJ);have wR:w0.heap[w.heap.size]? =some (.cells #[.slice none 0 0] 80 (0,0)):=(by rw[vl];exact ab _ _);have yo:am w0 t c a root:=(vm.block t wv).trans ht;have c2:w0.cell? ⟨t,2,none⟩=some (.int .i64 (root:Int)):=aa yo 2;have hp:nI S t w.heap.size w.heap.size:=⟨vK,wv,vN,uK _⟩;have GN:=rP (bo:=w.heap.size) (.inr (.inl ⟨rfl,rfl,rfl,rfl⟩)) t c a root root 0 (Pick OwnP 80 Ev.ls w.heap.size w.heap.size) w0 S p T rest pg0 (fun b=>b=w.heap.size) [] (h.below vm) yo hg hr (by decide) (Pick.start (World.ownsRow_nil _ _ _ 4) wR (fun b hb=>by have:=vK b hb;omega) (by omega) (by omega)) (by simp;omega) (Pick.stays dC)
  (fun w l X f hv hl=>all1_any _ _ _ _ S w l X f hv) (fun w l X pg y hv hl=>all2_any _ _ _ S hp w l X pg y hv hl) 0 (by simp)
 have HT:=uH ht;have HV:=uH GN;have vF:=uH vl;have HB:=uH vm;clear ht h hg hr GN vl vm yo wR hp vK;go_enter Tryz.func34,Tryz.ntmps34;go_wp2_with fail;refine(cL t c a root _ HT.out).mono ?_;rintro e w1 ⟨rfl,rfl⟩;go_upto_region 4 with(fail);rw[<-vF.out];go_wp2_with fail;refine HV.out.mono ?_;rintro e w1 ⟨rfl,X1,DV,xj,vL⟩;obtain⟨A,cap,d1,wo,AV⟩:=Pick.end rfl HB.out (fun b hb=>hb) DV xj;rw[List.nil_append]at d1 wo;have vx:=uH wo;obtain⟨n,hn⟩: ∃n,n=((T.evs 4 0).flatMap Ev.ls).length:=⟨_,rfl⟩;rw[<-hn]at d1;have HN:=uH hn;clear DV xj vL wo hn;go_wp2_with fail;go_ret;exact⟨A,cap,(by rw[<-HN.out];rfl),vx.out,AV⟩
end
section
open Go.RowKit Go.Sort
def ca (p:Pool) (L:List Nat):Pool:=L.foldl Pool.down p
theorem jZ (p:Pool) (L:List Nat):(ca p L).n=p.n:=by
 induction L generalizing p with
 |nil=>rfl
 |cons f L ih=>exact ih (p.down f)
theorem dZ (p:Pool) (L:List Nat):(ca p L).dat=p.dat:=by
 induction L generalizing p with
 |nil=>rfl
 |cons f L ih=>exact ih (p.down f)
theorem nA (p:Pool) (L:List Nat) (f:Nat):(ca p L).cnt f=p.cnt f-L.count f:=by
 induction L generalizing p with
 |nil=>rfl
 |cons g L ih=>
  show(ca (p.down g) L).cnt f=_;rw[ih,List.count_cons];show upd p.cnt g (p.cnt g-1) f-_ =_;by_cases c:f=g
  ·subst c;rw[af];simp;omega
  ·rw[ag _ _ c];have:(g==f)=false:=(by simpa using fun e=>c e.symm);simp[this]
theorem rt (p:Pool) (L:List Nat) (f:Nat):ca p (L++[f])=(ca p L).down f:=by
 unfold ca;rw[List.foldl_append];rfl
variable {k:Nat}
theorem gq {α:Type} {L:List α} {x:α} (h:L[k]? =some x):L.take (k+1)=L.take k++[x]:=by
 rw[List.take_add_one,h];rfl
theorem lZ {L:List Nat} {f:Nat} (h:L[k]? =some f):(L.take k).count f+1<=L.count f:=by
 have h1:(L.take (k+1)).count f<=L.count f:=(List.take_sublist _ _).count_le f;rw[gq h,List.count_append]at h1;simpa using h1
def FreePost (w:World) (S:Nat->Prop) (t a:Nat) (p:Pool) (L:List Nat) (e:Ending) (w':World):Prop:=
 e= .returned (.tuple #[])/\al w' S a (ca p L)/\Mod (fun b=>S b\/b=t) w w'/\w'.cell? ⟨t,1,none⟩=some (.pointer none)
theorem mA (t c a root:Nat) (w:World) (S:Nat->Prop) (p:Pool) (T:Tab) (rest:Nat->Nat) (pg0:Nat) (h:al w S a p) (ht:am w t c a root) (zJ: ¬S t) (QM:t≠0) (hg:T.Good p rest pg0 4) (hr:T.nd 4 0=some root):
  Calls Tryz.prog 58 #[.pointer (some ⟨t,0,none⟩)] w (FreePost w S t a p ((T.evs 4 0).flatMap Ev.fs)):=by
 have wv:t<w.heap.size:=(uG ht).1;have vN:=h.pos;have vK:=h.low;have xy:=hg.ok.short;have LD: ∀f,f<p.n->((T.evs 4 0).flatMap Ev.fs).count f<=p.cnt f:=fun f hf=>by rw[hg.ok.frames_cnt,hg.cnt f hf];omega
 have vZ: ∀f,f∈(T.evs 4 0).flatMap Ev.fs->f<p.n:=by
  intro f hf;have h1:=List.count_pos_iff.2 hf;rw[hg.ok.frames_cnt]at h1;by_cases c:an T f
  ·obtain⟨l,q,hl⟩:=c;exact(hg.node hl).1
  ·rw[aD c]at h1;have h2:0<ah T f:=(by omega);by_cases c9: ∃i,i<bG/\cA T f i=true
   ·obtain⟨i,_,hi⟩:=c9;unfold cA at hi;cases hl:T.lf i with
    |none=>rw[hl]at hi;cases hi
    |some l=>
     rw[hl]at hi;have e:l.frame=f:=(by simpa using hi);rw[<-e];exact(hg.but.leaf _ l hl).2.2
   ·have:ah T f=0:=ed.2 fun i hi=>by
     by_cases c8:cA T f i=true
     ·exact absurd ⟨i,hi,c8⟩ c9
     ·simpa using c8
    omega
 obtain⟨w0,vl⟩: ∃w0,w0=w.alloc (.cells #[.slice none 0 0] 131):=⟨_,rfl⟩;have vm:Below w.heap.size w w0:=(by rw[vl];exact uJ);have wR:w0.heap[w.heap.size]? =some (.cells #[.slice none 0 0] 131 (0,0)):=(by rw[vl];exact ab _ _);have yo:am w0 t c a root:=(vm.block t wv).trans ht;have c2:w0.cell? ⟨t,2,none⟩=some (.int .i64 (root:Int)):=aa yo 2;have hp:nI S t w.heap.size w.heap.size:=⟨vK,wv,vN,uK _⟩;have GN:=rP (bo:=w.heap.size) (.inr (.inr ⟨rfl,rfl,rfl,rfl⟩)) t c a root root 0 (Pick OwnN 131 Ev.fs w.heap.size w.heap.size) w0 S p T rest pg0 (fun b=>b=w.heap.size) [] (h.below vm) yo hg hr (by decide) (Pick.start (OwnN.nil _ _) wR (fun b hb=>by have:=vK b hb;omega) (by omega) (by omega)) (by simp;omega) (Pick.stays gw)
  (fun w l X f hv hl=>tx _ _ _ S hp w l X f hv hl) (fun w l X pg y hv hl=>tw _ _ _ S hp w l X pg y hv hl) 0 (by simp)
 rw[List.nil_append]at GN;have hlen:=cG (F:=Ev.fs) (fun e=>by cases e<;>simp[Ev.fs]) (T.evs 4 0);obtain⟨L,hL⟩: ∃L,L=(T.evs 4 0).flatMap Ev.fs:=⟨_,rfl⟩;obtain⟨n,hn⟩: ∃n,n=L.length:=⟨_,rfl⟩;rw[<-hL]at LD vZ hlen⊢;have HT:=uH ht;have HV:=uH GN;have vF:=uH vl;have HB:=uH vm;have HP:=uH h;have HL:=uH hL;have HN:=uH hn;have ZX:=uH LD;have xp:=uH vZ;rw[<-hn]at hlen;clear ht h hg hr GN vl vm yo wR hp hL hn LD vZ;go_enter Tryz.func58,Tryz.ntmps58;go_wp2_with fail;refine(cL t c a root _ HT.out).mono ?_;rintro e w1 ⟨rfl,rfl⟩;go_upto_region 2 with(fail);rw[<-vF.out];go_wp2_with fail;refine HV.out.mono ?_;rintro e w1 ⟨rfl,X1,DV,xj,vL⟩;obtain⟨A,cap,d1,wo,AV⟩:=Pick.end rfl HB.out (fun b hb=>hb) DV xj;rw[<-HL.out]at d1 wo;rw[<-HN.out]at d1;have vx:=uH wo;have vq:=uH AV;have vI:=AV.size;clear DV xj vL wo;go_wp2_with fail;go_loopw [17] (fun i wr=> ∃(k:Nat),i= .int .i64 (k:Int)/\k<=n/\al wr S a (ca p (L.take k))/\Mod S w1 wr) (fun i _ =>n-(intOf i).toNat)
 case atStart=>exact⟨0,rfl,by omega,HP.out.below vq.out,Mod.refl _ _⟩
 case round=>
  obtain⟨k,rfl,hk,Ll,Gg⟩:=hrel;have WA:=uH Ll;have ZF:=uH Gg;have hzk:=Gg.size;have Wr:am wr t c a root:=(Gg.block t (by omega) zJ).trans ((vq.out.block t wv).trans HT.out);have d2:wr.cell? ⟨t,1,none⟩=some (.pointer (some ⟨a,0,none⟩)):=aa Wr 1;have d3:wr.frozen? ⟨t,1,none⟩=false:=ae Wr 1;have Ip:=uH Wr;clear Ll Gg Wr d1;by_cases vo:k<n
  ·obtain⟨f,hf⟩: ∃f,L[k]? =some f:=⟨L[k]'(by rw[<-HN.out];exact vo),uN _⟩;have Pd:f∈L:=uS hf;have CI:=xp.out f Pd;have xw:=ZX.out f CI;have zl:=lZ hf;have Yn:=nA p (L.take k) f;have BB:1<=(ca p (L.take k)).cnt f:=(by omega);have El:f<(ca p (L.take k)).n:=(by rw[jZ];exact CI);rcases OwnN.form vx.out with⟨_,e,_⟩|⟨g,e,hbg,Gl,_⟩
   ·rw[e]at hf;cases hf
   have hgS: ¬S g:=fun e'=>by have:=vK g e';omega
   have YJ:OwnN wr w.heap.size A cap L:=vx.out.same fun g' e'=>by
    rw[e]at e';injection e' with e';injection e' with e';subst e';exact ZF.out.block g Gl hgS
   rw[e]at YJ;have d4:=YJ.elem hf;subst e;have HF:=uH hf;have BX:=uH BB;have HN4:=uH El;clear hf Pd CI xw zl Yn BB El YJ;go_wp2_with fail;refine(cV a f _ S _ WA.out HN4.out BX.out).mono ?_;rintro e w2 ⟨rfl,hp2,vy⟩;have NF:=uH hp2;have EK:=uH vy;clear hp2 vy;go_wp2_with fail;go_roundw
   case rel=>exact⟨k+1,by go_num,by omega,by rw[gq HF.out,rt];exact NF.out,ZF.out.trans (Out.refl _ _) EK.out⟩
   case measure=>(simp[intOf];omega)
  ·obtain rfl:k=n:=(by omega);go_wp2_with fail;go_end0;have wQ:L.take k=L:=List.take_of_length_le (by rw[<-HN.out];exact uK _);have Ll:=WA.out;rw[wQ]at Ll;refine⟨rfl,Ll.mod (aj (S:=fun b=>b=t) rfl 1 _) (fun b hb e=>zJ (e▸hb)) (fun e=>QM e.symm),?_,?_⟩
   ·exact((Mod.of vq.out).trans (Out.refl _ _) (ZF.out.sub fun b hb=> .inl hb)).trans (Out.refl _ _) (aj (S:=fun b=>S b\/b=t) (.inr rfl) 1 _)
   ·exact aa (Joins.block_setCell (i:=1) Ip.out (.pointer none)) 1
end
