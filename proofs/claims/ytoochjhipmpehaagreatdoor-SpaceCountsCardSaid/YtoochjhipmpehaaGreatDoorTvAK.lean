/- Tables: visit. -/
import Derived.Test.YtoochjhipmpehaaGreatDoorTtZK
set_option linter.unusedVariables false
set_option linter.unusedSimpArgs false
set_option maxRecDepth 100000
set_option maxHeartbeats 40000000
namespace Go.Proofs.YtoochjhipmpehaaGreatDoor
section
open Go.RowKit
def mq (R:World->List Ev->(Nat->Prop)->Prop):Prop:= ∀w w' l X,R w l X->Below w.heap.size w w'->R w' l X
structure dB (R:World->List Ev->(Nat->Prop)->Prop) (S:Nat->Prop) (t:Nat) (w:World) (l:List Ev) (X:Nat->Prop):Prop where
 rel:R w l X
 low: ∀b,X b->b<w.heap.size
 apart: ∀b,S b-> ¬X b
 noT: ¬X t
 no0: ¬X 0
theorem dB.below {R:World->List Ev->(Nat->Prop)->Prop} {S:Nat->Prop} {t:Nat} {w w':World} {l:List Ev} {X:Nat->Prop} (h:dB R S t w l X) (hR:mq R) (hb:Below w.heap.size w w'):dB R S t w' l X:=
 ⟨hR w w' l X h.rel hb,fun b hx=>vw (h.low b hx) hb.size,h.apart,h.noT,h.no0⟩
def cL (w:World) (X:Nat->Prop) (R:World->List Ev->(Nat->Prop)->Prop) (S:Nat->Prop) (t:Nat) (l:List Ev) (e:Ending) (w':World):Prop:=
 e= .returned (.tuple #[])/\ ∃X',dB R S t w' l X'/\Mod X w w'/\Out X X' w
variable {i:Nat}
theorem or_at {a b:Nat} (hb:b<2^i) (h:a*2^i+b<18446744073709551616):bits .or .u64 ((a*2^i:Nat):Int) (b:Int)=((a*2^i+b:Nat):Int):=by
 rw[bits_or_u64_nat _ _ (by omega) (by omega)];have:=Nat.two_pow_add_eq_or_of_lt hb a;rw[Nat.mul_comm a (2^i)];exact congrArg _ this.symm
def po (bo:Nat) (f1:FuncId) (C1:Array Value) (f2:FuncId) (C2:Array Value):Prop:=
 (f1=131/\C1= #[.pointer (some ⟨bo,0,none⟩)]/\f2=132/\C2= #[])\/(f1=75/\C1= #[]/\f2=76/\C2= #[.pointer (some ⟨bo,0,none⟩)])\/(f1=94/\C1= #[.pointer (some ⟨bo,0,none⟩)]/\f2=95/\C2= #[.pointer (some ⟨bo,0,none⟩)])
def qm (f1:FuncId) (C1:Array Value) (f2:FuncId) (C2:Array Value) (LV:Nat) (D:Int):Prop:=
 ∀(t c a root g q:Nat) (R:World->List Ev->(Nat->Prop)->Prop) (w:World) (S:Nat->Prop) (p:Pool) (T:Tab) (rest:Nat->Nat) (pg0:Nat) (X:Nat->Prop) (l:List Ev),am w S a p->al w t c a root->T.Good p rest pg0 4->T.nd LV q=some g->q<512^(4-LV)->
  dB R S t w l X->l.length+(T.evs LV q).length<1000000->mq R->
  (∀(w:World) (l:List Ev) (X:Nat->Prop) (f:Nat),dB R S t w l X->l.length<1000000->Calls Tryz.prog f1 (#[.int .i64 (f:Int)]++C1) w (cL w X R S t (l++[.node f])))->
  (∀(w:World) (l:List Ev) (X:Nat->Prop) (pg:Nat) (y:Leaf),dB R S t w l X->l.length<1000000->Calls Tryz.prog f2 (#[.int .u64 ((pg*4096:Nat):Int), .agg #[.int .i64 (y.frame:Int), .int .u8 (y.prot:Int), .bool y.copy]]++C2) w (cL w X R S t (l++[.leaf pg y])))->
  ∀fr:Int,fr=((q*512^LV*4096:Nat):Int)->
  Calls Tryz.prog 74 #[.pointer (some ⟨t,0,none⟩), .int .i64 (g:Int), .int .i64 D, .int .u64 fr, .func (.func f1) #[] C1, .func (.func f2) #[] C2] w (cL w X R S t (l++T.evs LV q))
variable {LW:Nat}
theorem tG {q k c:Nat} (hi:i=12+9*(LW+1)) (hc:c=512^LW*4096) (hL:LW<4) (hq:q<512^(4-(LW+1))) (hk:k<512):bits .or .u64 ((q*512^(LW+1)*4096:Nat):Int) ((k:Int)*(c:Int))=(((q*512+k)*512^LW*4096:Nat):Int):=by
 have hL':LW=0\/LW=1\/LW=2\/LW=3:=(by omega);have key:q*512^(LW+1)*4096=q*2^i/\(q*512+k)*512^LW*4096=q*2^i+k*c/\k*c<2^i/\q*2^i+k*c<18446744073709551616:=by
  subst hi hc;rcases hL' with rfl|rfl|rfl|rfl<;>(simp only[Nat.reducePow,Nat.reduceSub,Nat.reduceAdd,Nat.reduceMul]at hq⊢;omega)
 obtain⟨e2,e3,b1,b2⟩:=key;rw[show((k:Int)*(c:Int))=((k*c:Nat):Int)from(Int.natCast_mul k c).symm,e2,e3];exact or_at b1 b2
variable {bo:Nat} {f1 f2:FuncId} {C1 C2:Array Value}
theorem vis_leaf (hk:po bo f1 C1 f2 C2):qm f1 C1 f2 C2 1 3:=by
 intro t c a root g q R w S p T rest pg0 X l h ht wQ hq Pp hv hlen hR hn hl fr yJ;have PV:=Tab.evs_node hq;obtain⟨g1,g2⟩:=wQ.node hq;have Cc:=(wQ.but.words _ q g hq).2;have wC:=wQ.but.few;have xf:t<w.heap.size:=(vo ht).1;rw[PV]at hlen⊢;simp only[vC]at hlen;have Bw: ∀k,k<512->l.length+(T.upto 0 q k).length+(T.evs 0 (q*512+k)).length+1<1000000:=fun k hk=>by
  have h1:=T.upto_le 0 q (show k+1<=512 by omega);rw[Tab.upto_succ,vu]at h1;omega
 obtain⟨wd,Dz⟩: ∃wd,wd=T.word 1 q:=⟨_,rfl⟩;obtain⟨up,yZ⟩: ∃up,up=T.upto 0 q:=⟨_,rfl⟩;have Js: ∀k,k<512->dv (fun i=>p.dat g (0+i)) (8*k) 8=wd k:=fun k hk=>by
  rw[Dz,<-Cc k hk];unfold word;refine gh fun i _ =>?_;rw[Nat.zero_add]
 have wH: ∀k,k<512->(wd k=0/\up (k+1)=up k)\/ ∃(y:Leaf) (x:Nat),wd k=x/\x<18446744073709551616/\(bits .and .u64 (x:Int) 1==0)=false/\fP x=y/\ ∀(w4:World) (X':Nat->Prop),dB R S t w4 (l++ .node g::up k) X'->Calls Tryz.prog f2 (#[.int .u64 (bits .or .u64 fr ((k:Int)*4096)), .agg #[.int .i64 (y.frame:Int), .int .u8 (y.prot:Int), .bool y.copy]]++C2) w4 (cL w4 X' R S t (l++ .node g::up (k+1))):=fun k hk=>by
  have hs:=T.upto_succ 0 q k;cases As:T.lf (q*512+k)with
  |none=>exact .inl ⟨by rw[Dz];unfold Tab.word;rw[if_pos rfl,As],by rw[yZ,hs,Tab.evs_noleaf As,List.append_nil]⟩
  |some y=>
   obtain⟨p7,pf⟩:=(wQ.but.leaf _ y As).2;have zV:y.pack<18446744073709551616:=(by have:=eB y p7 (by omega);omega);refine .inr ⟨y,y.pack,by rw[Dz];unfold Tab.word;rw[if_pos rfl,As],zV,fu zV (fD y),ey y p7,fun w4 X' hv4=>?_⟩;have ho:bits .or .u64 ((q*512^1*4096:Nat):Int) ((k:Int)*4096)=(((q*512+k)*4096:Nat):Int):=(tG (LW:=0) (i:=21) (c:=4096) rfl rfl (by omega) Pp hk).trans (by rw[Nat.pow_zero,Nat.mul_one]);have h1:=Bw k hk;rw[yJ,ho,yZ,hs,Tab.evs_leaf As];have h9:=hl w4 (l++ .node g::up k) X' (q*512+k) y hv4 (by rw[yZ,vu,vC];omega);rw[yZ]at h9;simpa using h9
 have QM:=vp (show up 0=[] by rw[yZ];rfl);rw[<-yZ];have HN:=vp (hn w l X g hv (by omega));have HV:=vp hv;have HP:=vp h;have HT:=vp ht;have QJ:=vp Js;have Eu:=vp wH;clear PV hq hv h ht hn hl wQ Cc yJ hlen Bw Dz yZ Js wH Pp;rcases hk with⟨rfl,rfl,rfl,rfl⟩|⟨rfl,rfl,rfl,rfl⟩|⟨rfl,rfl,rfl,rfl⟩<;>(
  go_enter Tryz.func74,Tryz.ntmps74;go_wp2_with fail;refine(HN.out).mono ?_;rintro e w1 ⟨rfl,X1,DA,xE,wK⟩;have AN:al w1 t c a root:=(xE.block t xf HV.out.noT).trans HT.out;have BF:am w1 S a p:=HP.out.mod xE HV.out.apart HV.out.no0;have c1:w1.cell? ⟨t,1,none⟩=some (.pointer (some ⟨a,0,none⟩)):=aa AN 1;have zG:=vp AN;have Ex:=vp BF;have KS:=vp DA;clear AN BF DA;go_wp2_with fail;refine(fH a g 0 4096 w1 S p Ex.out g1 g2 (by omega) (by omega)).mono ?_;rintro e w2 ⟨rfl,xD,wL,wb⟩;have yS: ∀i,p.dat g i<256:=by
   obtain⟨⟨C,B,F,wd,pt,hi,hS⟩,_,_,_⟩:=Ex.out;exact fun i=>hi.small g i
  have ZI: ¬X1 w1.heap.size:=fun e=>by have:=KS.out.low _ e;omega
  have VF:=vp (KS.out.below hR wb);have wF:=xE.size;have xF:=vp xD;clear xD c1;go_wp2_with fail;go_loopw [30] (fun i wr=> ∃(k:Nat) (X':Nat->Prop),i= .int .i64 (k:Int)/\k<=512/\dB R S t wr (l++ .node g::up k) X'/\Mod X1 w2 wr/\Out X1 X' w2) (fun i _ =>512-(intOf i).toNat)
  case atStart=>exact⟨0,X1,rfl,by omega,by rw[QM.out];exact VF.out,Mod.refl _ _,Out.refl _ _⟩
  case round=>
   obtain⟨k,X',rfl,hk,Sz,Cp,xU⟩:=hrel;have VG:=vp Sz;have hz':=Cp.size;clear Sz;by_cases vW:k<512
   ·have Vy:aP wr w1.heap.size 4096 (fun i=>p.dat g (0+i)):=(Cp.block _ wL ZI).trans xF.out;have QO:=vp (show al wr t c a root from(Cp.block t (by omega) KS.out.noT).trans ((wb.block t (by omega)).trans zG.out));have HP':=vp ((Ex.out.below wb).mod Cp KS.out.apart KS.out.no0);go_wp2_with fail;refine(get_8 (8*k) 4096 4096 w1.heap.size (fun i=>p.dat g (0+i)) wr (by omega) (by omega) Vy (fun i=>yS _) (by omega)).mono ?_;rintro e w3 ⟨rfl,wG⟩;rw[QJ.out k vW];have xW:Mod X1 w2 w3:=Cp.trans xU (Mod.of wG);have VE:=vp (VG.out.below hR wG);have ML:=vp (HP'.out.below wG);have MF:=vp ((wG.block t (by omega)).trans QO.out);have yk:=wG.size;clear Vy;rcases Eu.out k vW with⟨e0,es⟩|⟨y,x,e0,zV,Gk,yZ,Ad⟩
    ·have ES:=vp es;rw[e0];have hz:=gU;clear es e0;go_wp2_with fail;go_roundw
     case rel=>exact⟨k+1,X',by go_num,by omega,by rw[ES.out];exact VE.out,xW,xU⟩
     case measure=>(simp[intOf];omega)
    ·rw[e0];have GG:=vp yZ;have Ln:=vp Ad;clear yZ Ad e0;go_wp2_with fail;refine(ez x w3 zV).mono ?_;rintro e w4 ⟨rfl,wA⟩;rw[GG.out];go_wp2_with fail;refine(Ln.out w4 X' (VE.out.below hR wA)).mono ?_;rintro e w5 ⟨rfl,X5,Sy,xu,yX⟩;have xH:Mod X1 w2 w4:=xW.trans (fun b hb=>(xU b hb).imp id (fun h=>h)) (Mod.of wA);have Pu:Out X1 X5 w2:=xU.trans yX xH.size;have Fi:=xH.trans xU xu;have HV5:=vp Sy;clear Sy;go_wp2_with fail;go_roundw
     case rel=>exact⟨k+1,X5,by go_num,by omega,HV5.out,Fi,Pu⟩
     case measure=>(simp[intOf];omega)
   ·obtain rfl:k=512:=(by omega);go_wp2_with fail;go_end0;exact⟨rfl,X',VG.out,xE.trans wK ((Mod.of wb).trans (Out.refl _ _) Cp),wK.trans (fun b hb=>(xU b hb).imp id (fun h=>vM wb.size h)) wF⟩)
theorem js (hk:po bo f1 C1 f2 C2) {cc:Nat} {D E:Int} (hc:(LW=1/\D=2/\E=3/\cc=2097152)\/(LW=2/\D=1/\E=2/\cc=1073741824)\/(LW=3/\D=0/\E=1/\cc=549755813888)) (ih:qm f1 C1 f2 C2 LW E):qm f1 C1 f2 C2 (LW+1) D:=by
 intro t c a root g q R w S p T rest pg0 X l h ht wQ hq Pp hv hlen hR hn hl fr yJ;have PV:=Tab.evs_node hq;obtain⟨g1,g2⟩:=wQ.node hq;have Cc:=(wQ.but.words _ q g hq).2;have wC:=wQ.but.few;have xf:t<w.heap.size:=(vo ht).1;rw[PV]at hlen⊢;simp only[vC]at hlen;have Bw: ∀k,k<512->l.length+(T.upto LW q k).length+(T.evs LW (q*512+k)).length+1<1000000:=fun k hk=>by
  have h1:=T.upto_le LW q (show k+1<=512 by omega);rw[Tab.upto_succ,vu]at h1;omega
 obtain⟨wd,Dz⟩: ∃wd,wd=T.word (LW+1) q:=⟨_,rfl⟩;obtain⟨up,yZ⟩: ∃up,up=T.upto LW q:=⟨_,rfl⟩;have Js: ∀k,k<512->dv (fun i=>p.dat g (0+i)) (8*k) 8=wd k:=fun k hk=>by
  rw[Dz,<-Cc k hk];unfold word;refine gh fun i _ =>?_;rw[Nat.zero_add]
 have h1L:1<=LW/\LW<4/\cc=512^LW*4096:=by rcases hc with⟨rfl,_,_,rfl⟩|⟨rfl,_,_,rfl⟩|⟨rfl,_,_,rfl⟩<;>decide
 obtain⟨h1L,h4L,Zw⟩:=h1L;have wH: ∀k,k<512->(wd k=0/\up (k+1)=up k)\/ ∃(f x:Nat),wd k=x/\x<18446744073709551616/\(bits .and .u64 (x:Int) 1==0)=false/\((x:Int)/4096)=(f:Int)/\ ∀(w3:World) (X':Nat->Prop),am w3 S a p->al w3 t c a root->dB R S t w3 (l++ .node g::up k) X'->Calls Tryz.prog 74 #[.pointer (some ⟨t,0,none⟩), .int .i64 (f:Int), .int .i64 E, .int .u64 (bits .or .u64 fr ((k:Int)*(cc:Int))), .func (.func f1) #[] C1, .func (.func f2) #[] C2] w3 (cL w3 X' R S t (l++ .node g::up (k+1))):=fun k hk=>by
  have hs:=T.upto_succ LW q k;have vT:wd k=match T.nd LW (q*512+k)with|some f=>f*4096+1|none=>0:=by
   rw[Dz];unfold Tab.word;rw[if_neg (by omega)];rfl
  cases As:T.nd LW (q*512+k)with
  |none=>
   obtain⟨m,rfl⟩: ∃m,LW=m+1:=⟨LW-1,by omega⟩;exact .inl ⟨by rw[vT,As],by rw[yZ,hs,Tab.evs_none As,List.append_nil]⟩
  |some f=>
   obtain⟨n1,n2⟩:=wQ.node As;have zV:f*4096+1<18446744073709551616:=(by omega);refine .inr ⟨f,f*4096+1,by rw[vT,As],zV,fu zV (by omega),by omega,fun w3 X' hP hT hv3=>?_⟩;have h1:=Bw k hk;have hqk:q*512+k<512^(4-LW):=by
    have e9:512^(4-LW)=512^(4-(LW+1))*512:=(by rw[<-Nat.pow_succ];congr 1;omega);rw[e9];omega
   have h9:=ih t c a root f (q*512+k) R w3 S p T rest pg0 X' (l++ .node g::up k) hP hT wQ As hqk hv3 (by rw[yZ,vu,vC];omega) hR hn hl (bits .or .u64 fr ((k:Int)*(cc:Int))) (by rw[yJ];exact tG rfl Zw h4L Pp hk);have e8:(l++ .node g::up k)++T.evs LW (q*512+k)=l++ .node g::up (k+1):=(by rw[yZ,hs];simp);rw[e8]at h9;exact h9
 have QM:=vp (show up 0=[] by rw[yZ];rfl);rw[<-yZ];have HN:=vp (hn w l X g hv (by omega));have HV:=vp hv;have HP:=vp h;have HT:=vp ht;have QJ:=vp Js;have Eu:=vp wH;clear PV hq hv h ht hn hl wQ Cc yJ hlen Bw Dz yZ Js wH Pp ih Zw h1L h4L;rcases hk with⟨rfl,rfl,rfl,rfl⟩|⟨rfl,rfl,rfl,rfl⟩|⟨rfl,rfl,rfl,rfl⟩<;>rcases hc with⟨rfl,rfl,rfl,rfl⟩|⟨rfl,rfl,rfl,rfl⟩|⟨rfl,rfl,rfl,rfl⟩<;>(
  go_enter Tryz.func74,Tryz.ntmps74;go_wp2_with fail;refine(HN.out).mono ?_;rintro e w1 ⟨rfl,X1,DA,xE,wK⟩;have AN:al w1 t c a root:=(xE.block t xf HV.out.noT).trans HT.out;have BF:am w1 S a p:=HP.out.mod xE HV.out.apart HV.out.no0;have c1:w1.cell? ⟨t,1,none⟩=some (.pointer (some ⟨a,0,none⟩)):=aa AN 1;have zG:=vp AN;have Ex:=vp BF;have KS:=vp DA;clear AN BF DA;go_wp2_with fail;refine(fH a g 0 4096 w1 S p Ex.out g1 g2 (by omega) (by omega)).mono ?_;rintro e w2 ⟨rfl,xD,wL,wb⟩;have yS: ∀i,p.dat g i<256:=by
   obtain⟨⟨C,B,F,wd,pt,hi,hS⟩,_,_,_⟩:=Ex.out;exact fun i=>hi.small g i
  have ZI: ¬X1 w1.heap.size:=fun e=>by have:=KS.out.low _ e;omega
  have VF:=vp (KS.out.below hR wb);have wF:=xE.size;have xF:=vp xD;clear xD c1;go_wp2_with fail;go_loopw [30] (fun i wr=> ∃(k:Nat) (X':Nat->Prop),i= .int .i64 (k:Int)/\k<=512/\dB R S t wr (l++ .node g::up k) X'/\Mod X1 w2 wr/\Out X1 X' w2) (fun i _ =>512-(intOf i).toNat)
  case atStart=>exact⟨0,X1,rfl,by omega,by rw[QM.out];exact VF.out,Mod.refl _ _,Out.refl _ _⟩
  case round=>
   obtain⟨k,X',rfl,hk,Sz,Cp,xU⟩:=hrel;have VG:=vp Sz;have hz':=Cp.size;clear Sz;by_cases vW:k<512
   ·have Vy:aP wr w1.heap.size 4096 (fun i=>p.dat g (0+i)):=(Cp.block _ wL ZI).trans xF.out;have QO:=vp (show al wr t c a root from(Cp.block t (by omega) KS.out.noT).trans ((wb.block t (by omega)).trans zG.out));have HP':=vp ((Ex.out.below wb).mod Cp KS.out.apart KS.out.no0);go_wp2_with fail;refine(get_8 (8*k) 4096 4096 w1.heap.size (fun i=>p.dat g (0+i)) wr (by omega) (by omega) Vy (fun i=>yS _) (by omega)).mono ?_;rintro e w3 ⟨rfl,wG⟩;rw[QJ.out k vW];have xW:Mod X1 w2 w3:=Cp.trans xU (Mod.of wG);have VE:=vp (VG.out.below hR wG);have ML:=vp (HP'.out.below wG);have MF:=vp ((wG.block t (by omega)).trans QO.out);have yk:=wG.size;clear Vy;rcases Eu.out k vW with⟨e0,es⟩|⟨f,x,e0,zV,Gk,SV,Ad⟩
    ·have ES:=vp es;rw[e0];have hz:=gU;clear es e0;go_wp2_with fail;go_roundw
     case rel=>exact⟨k+1,X',by go_num,by omega,by rw[ES.out];exact VE.out,xW,xU⟩
     case measure=>(simp[intOf];omega)
    ·rw[e0];have II:=vp SV;have Ln:=vp Ad;clear SV Ad e0;go_wp2_with fail;rw[II.out];refine(Ln.out w3 X' ML.out MF.out VE.out).mono ?_;rintro e w5 ⟨rfl,X5,Sy,xu,yX⟩;have Pu:Out X1 X5 w2:=xU.trans yX xW.size;have Fi:=xW.trans xU xu;have HV5:=vp Sy;clear Sy;go_wp2_with fail;go_roundw
     case rel=>exact⟨k+1,X5,by go_num,by omega,HV5.out,Fi,Pu⟩
     case measure=>(simp[intOf];omega)
   ·obtain rfl:k=512:=(by omega);go_wp2_with fail;go_end0;exact⟨rfl,X',VG.out,xE.trans wK ((Mod.of wb).trans (Out.refl _ _) Cp),wK.trans (fun b hb=>(xU b hb).imp id (fun h=>vM wb.size h)) wF⟩)
theorem nZ (hk:po bo f1 C1 f2 C2):qm f1 C1 f2 C2 4 0:=
 js hk (.inr (.inr ⟨rfl,rfl,rfl,rfl⟩)) (js hk (.inr (.inl ⟨rfl,rfl,rfl,rfl⟩)) (js hk (.inl ⟨rfl,rfl,rfl,rfl⟩) (vis_leaf hk)))
end
section
open Go.RowKit
def pc (x:Nat×Leaf):List Value:=[.int .u64 ((x.1*4096:Nat):Int), .int .i64 (x.2.frame:Int), .int .u8 (x.2.prot:Int), .bool x.2.copy]
def OwnP (w:World) (base:Nat) (A:Option Addr) (cap:Nat) (l:List (Nat×Leaf)):Prop:=w.ownsRow base 85 4 (.slice A l.length cap) l.length (l.flatMap pc)
theorem put_info:(Tryz.prog.info? 85).map (fun i=>(i.zero,i.size,i.bytes))=some (some (.agg #[.int .u64 0, .int .i64 0, .int .u8 0, .bool false]),4,24):=by kernel_rfl
structure mt {α:Type} (Own:World->Nat->Option Addr->Nat->List α->Prop):Prop where
 same: ∀ {w w':World} {base:Nat} {A:Option Addr} {cap:Nat} {l:List α},Own w base A cap l->(∀g,A=some ⟨g,0,none⟩->w'.heap[g]? =w.heap[g]?)->Own w' base A cap l
 form: ∀ {w:World} {base:Nat} {A:Option Addr} {cap:Nat} {l:List α},Own w base A cap l->(A=none/\l=[]/\cap=0)\/ ∃g,A=some ⟨g,0,none⟩/\base<=g/\g<w.heap.size/\l.length<=cap
theorem cY:mt OwnN:=⟨fun h hb=>h.same hb,fun h=>h.form⟩
theorem dF:mt OwnP:=by
 constructor
 ·intro w w' base A cap l h hb;refine⟨h.1,?_⟩;rcases h.2 with h2|⟨g,vP,cur,h1,h2,h3,h4⟩
  ·exact .inl h2
  ·injection h1 with e1 e2 e3;exact .inr ⟨g,vP,cur,by rw[e1,e2,e3],h2,(hb g e1).trans h3,h4⟩
 ·intro w base A cap l h;rcases h.2 with⟨h2,h3⟩|⟨g,vP,cur,h1,h2,h3,h4,_⟩
  ·injection h2 with h4 h5 h6;exact .inl ⟨h4,List.eq_nil_of_length_eq_zero h3,h6⟩
  ·injection h1 with e1 e2 e3;subst e3;exact .inr ⟨g,e1,h2,(vo h3).1,h4⟩
def Pick {α:Type} (Own:World->Nat->Option Addr->Nat->List α->Prop) (ty:TypeId) (F:Ev->List α) (base bo:Nat):World->List Ev->(Nat->Prop)->Prop:=fun w l X=>
 ∃A cap,Own w base A cap (l.flatMap F)/\w.heap[bo]? =some (.cells #[.slice A (l.flatMap F).length cap] ty (0,0))/\(∀g,A=some ⟨g,0,none⟩->g≠bo)/\ ∀b,X b↔b=bo\/A=some ⟨b,0,none⟩
variable {ty:TypeId} {base bo:Nat}
theorem Pick.stays {α:Type} {Own:World->Nat->Option Addr->Nat->List α->Prop} (hO:mt Own) {F:Ev->List α} :mq (Pick Own ty F base bo):=by
 rintro w w' l X ⟨A,cap,h1,h2,h3,h4⟩ hb;refine⟨A,cap,hO.same h1 fun g hg=>?_,(hb.block bo (vo h2).1).trans h2,h3,h4⟩;rcases hO.form h1 with⟨e,_⟩|⟨g',e,_,vW,_⟩
 ·rw[e]at hg;cases hg
 ·rw[e]at hg;injection hg with hg;injection hg with hg;subst hg;exact hb.block _ vW
variable {w:World} {l:List Ev} {X S:Nat->Prop} {e:Ev} {t:Nat}
theorem Pick.pass {α:Type} {Own:World->Nat->Option Addr->Nat->List α->Prop} {F:Ev->List α} (h:dB (Pick Own ty F base bo) S t w l X) (he:F e=[]):
  cL w X (Pick Own ty F base bo) S t (l++[e]) (.returned (.tuple #[])) w:=by
 refine⟨rfl,X,⟨?_,h.low,h.apart,h.noT,h.no0⟩,Mod.refl _ _,Out.refl _ _⟩;obtain⟨A,cap,h1,h2,h3,h4⟩:=h.rel;have e1:(l++[e]).flatMap F=l.flatMap F:=(by simp[he]);exact⟨A,cap,by rw[e1];exact h1,by rw[e1];exact h2,h3,h4⟩
theorem Pick.more {α:Type} {Own:World->Nat->Option Addr->Nat->List α->Prop} (hO:mt Own) {F:Ev->List α} {w0 w1 w2:World} {x:α} (h:dB (Pick Own ty F base bo) S t w l X) (he:F e=[x])
  {A:Option Addr} {cap g vP:Nat} (hX: ∀b,X b↔b=bo\/A=some ⟨b,0,none⟩) (hA:Own w base A cap (l.flatMap F)) (vU:Below w.heap.size w w0) (hg:w0.grownBy w1 (A.map (·.block))) (xi:A.map (·.block)=some g\/g=w0.heap.size) (vW:g<w1.heap.size)
  (wh:Own w1 base (some ⟨g,0,none⟩) vP (l.flatMap F++[x])) (Dq: ∀g,A=some ⟨g,0,none⟩->g≠bo) (hbo:bo<w.heap.size) (ZJ: ∀b,S b->b<base) (Nn:t<base) (vS:0<base)
  (h2:w2.heap[bo]? =some (.cells #[.slice (some ⟨g,0,none⟩) (l.flatMap F++[x]).length vP] ty (0,0))) (wk:Mod (fun b=>b=bo) w1 w2) (wL:w2.heap.size=w1.heap.size):
  cL w X (Pick Own ty F base bo) S t (l++[e]) (.returned (.tuple #[])) w2:=by
 have xo:=hO.form hA;have wM:=vU.size;have wF:=hg.size;have Zi:g≠bo:=by
  rcases xi with e|e
  ·rcases xo with⟨e',_⟩|⟨g',e',_,_,_⟩
   ·rw[e']at e;cases e
   ·rw[e']at e;injection e with e;exact e▸Dq g' e'
  ·omega
 have Gt:base<=g:=by
  rcases hO.form wh with⟨e',_⟩|⟨g',e',h9,_,_⟩
  ·cases e'
  ·injection e' with e';injection e' with e';omega
 have hXA: ∀b,A.map (·.block)=some b->X b:=by
  intro b hb;rcases xo with⟨e',_⟩|⟨g',e',_,_,_⟩
  ·rw[e']at hb;cases hb
  ·rw[e']at hb;injection hb with hb;exact(hX b).2 (.inr (hb▸e'))
 have xE:Mod X w0 w1:=⟨hg.os,hg.tape,hg.output,hg.size,fun b hb hn=>hg.block b hb fun e=>hn (hXA b e.symm)⟩;have KF:X bo:=(hX bo).2 (.inl rfl);have zg:Mod X w w2:=((Mod.of vU).trans (Out.refl _ _) xE).trans (Out.refl _ _) (wk.sub fun b hb=>hb▸KF);refine⟨rfl,fun b=>b=bo\/b=g,⟨⟨some ⟨g,0,none⟩,vP,?_,?_,fun g' e'=>?_,fun b=>?_⟩,?_,?_,?_,?_⟩,zg,?_⟩
 ·rw[show(l++[e]).flatMap F=l.flatMap F++[x]from by simp[he]];refine hO.same wh fun g' e'=>?_;injection e' with e';injection e' with e';subst e';exact wk.block g vW Zi
 ·rw[show(l++[e]).flatMap F=l.flatMap F++[x]from by simp[he]];exact h2
 ·injection e' with e';injection e' with e';omega
 ·constructor
  ·rintro(rfl|rfl)
   ·exact .inl rfl
   ·exact .inr rfl
  ·rintro(rfl|e')
   ·exact .inl rfl
   ·injection e' with e';injection e' with e';exact .inr e'.symm
 ·rintro b (rfl|rfl)
  ·omega
  ·omega
 ·intro b hb;have h9:=ZJ b hb;rintro(rfl|rfl)
  ·exact h.apart _ hb KF
  ·omega
 ·rintro(rfl|rfl)
  ·exact h.noT KF
  ·omega
 ·rintro(e'|e')
  ·exact h.no0 (e'▸KF)
  ·omega
 ·rintro b (rfl|rfl)
  ·exact .inl KF
  ·rcases xi with e'|e'
   ·exact .inl (hXA _ e')
   ·exact .inr (by omega)
theorem Pick.start {α:Type} {Own:World->Nat->Option Addr->Nat->List α->Prop} {F:Ev->List α} (hO:Own w base none 0 []) (hb:w.heap[bo]? =some (.cells #[.slice none 0 0] ty (0,0))) (ZJ: ∀b,S b->b≠bo) (ht:t≠bo) (h0:bo≠0):
  dB (Pick Own ty F base bo) S t w [] (fun b=>b=bo):=
 ⟨⟨none,0,hO,hb,fun g e=>(by cases e),fun b=>⟨.inl,fun h=>h.elim id (fun e=>by cases e)⟩⟩,fun b e=>e▸(vo hb).1,fun b hs e=>ZJ b hs e,fun e=>ht e,fun e=>h0 e.symm⟩
end
section
open Go.RowKit
end
section
open Go.RowKit
end
section
open Go.RowKit
theorem ca {α:Type} {F:Ev->List α} (hF: ∀e,(F e).length<=1) (l:List Ev):(l.flatMap F).length<=l.length:=by
 induction l with
 |nil=>simp
 |cons e l ih=>rw[vN,vu,vC];have:=hF e;omega
variable {w:World}
theorem app_put {ops:Array Oper} {rest:List Oper} {o:Oper} {a:Act} {Q:Exit->Act->World->Prop} (yB:o.guard=none) (s x:Operand)
  (ho:o.op= .call { callee:= .builtin .append,args:= #[s,x],argTypes:= #[80,80]})
  (base:Nat) (A:Option Addr) (cap:Nat) (l:List (Nat×Leaf)) (hs:a.eval s= .slice A l.length cap) (wh:OwnP w base A cap l)
  (r:Nat×Leaf) (b c:Nat) (hx:a.eval x= .slice (some ⟨b,0,none⟩) 1 c) (hb:w.heap[b]? =some (.cells #[.int .u64 ((r.1*4096:Nat):Int), .int .i64 (r.2.frame:Int), .int .u8 (r.2.prot:Int), .bool r.2.copy] 85 (0,0)))
  (wC:l.length<1000000) (wv:base<=w.heap.size)
  (h: ∀g vP w',OwnP w' base (some ⟨g,0,none⟩) vP (l++[r])->w.grownBy w' (A.map (·.block))->(A.map (·.block)=some g\/g=w.heap.size)->g<w'.heap.size->wpList Tryz.prog ops Q rest (a.put o.dst (.slice (some ⟨g,0,none⟩) (l.length+1) vP)) w'):
  wpList Tryz.prog ops Q (o::rest) a w:=by
 obtain⟨i0,yj,wM,wF,wL⟩:=info_parts put_info;refine wpList_append_lies w yB s x 80 ho base 85 i0 _ 4 24 Tryz.underlying80 yj wM wF wL rfl (by omega) _ l.length (l.flatMap pc) hs wh ⟨b,0,none⟩ 1 c (pc r) hx rfl (World.news_of_block (cs:= #[.int .u64 ((r.1*4096:Nat):Int), .int .i64 (r.2.frame:Int), .int .u8 (r.2.prot:Int), .bool r.2.copy]) hb)
  (by simp[pc,Value.oneCell']) (by omega) (by unfold maxLen;omega) (by omega) wv w.heap.size rfl ?_
 intro g vP w' xU hg xi vW;refine h g vP w' ?_ ?_ ?_ vW
 ·unfold OwnP;rw[List.flatMap_append,vu];simpa [pc]using xU
 ·cases A<;>simpa [Value.ownBlock]using hg
 ·cases A<;>simpa [Value.ownBlock]using xi
theorem Pick.cell {α:Type} {l:List α} {w0 w1:World} {base bo n cap:Nat} {A:Option Addr} {ty:TypeId} (hF:(A=none/\l=[]/\cap=0)\/ ∃g,A=some ⟨g,0,none⟩/\base<=g/\g<w.heap.size/\l.length<=cap) (hAB: ∀g,A=some ⟨g,0,none⟩->g≠bo)
  (hB:w.heap[bo]? =some (.cells #[.slice A n cap] ty (0,0))) (hb:Below w.heap.size w w0) (hg:w0.grownBy w1 (A.map (·.block))):w1.heap[bo]? =some (.cells #[.slice A n cap] ty (0,0)):=by
 have zd:=(vo hB).1;refine(hg.block bo (vw zd hb.size) fun e=>?_).trans ((hb.block bo zd).trans hB);rcases hF with⟨e',_⟩|⟨g',e',_,_,_⟩
 ·rw[e']at e;cases e
 ·rw[e']at e;exact hAB g' e' (by simpa using e.symm)
theorem aU {b:Nat} {x y:Value} {t:TypeId} (h:w.heap[b]? =some (.cells #[x] t (0,0))):(w.setCell ⟨b,0,none⟩ y).heap[b]? =some (.cells #[y] t (0,0)):=by
 have h1:=Joins.block_setCell (i:=0) h y;simpa using h1
structure kB (S:Nat->Prop) (t base bo:Nat):Prop where
 low: ∀b,S b->b<base
 tab:t<base
 pos:0<base
 box:base<=bo
theorem rk (base bo t:Nat) (S:Nat->Prop) (hp:kB S t base bo) (w:World) (l:List Ev) (X:Nat->Prop) (f:Nat)
  (hv:dB (Pick OwnN 131 Ev.ns base bo) S t w l X) (wC:l.length<1000000):
  Calls Tryz.prog 131 (#[.int .i64 (f:Int)]++ #[.pointer (some ⟨bo,0,none⟩)]) w (cL w X (Pick OwnN 131 Ev.ns base bo) S t (l++[.node f])):=by
 obtain⟨A,cap,hO,hB,Dq,hX⟩:=hv.rel;have hlen:=ca (F:=Ev.ns) (fun e=>by cases e<;>simp[Ev.ns]) l;have xo:=cY.form hO;have zd:bo<w.heap.size:=(vo hB).1;have c0:w.cell? ⟨bo,0,none⟩=some (.slice A (l.flatMap Ev.ns).length cap):=aa hB 0;have f0:w.frozen? ⟨bo,0,none⟩=false:=ae hB 0;obtain⟨L,hL⟩: ∃L,L=l.flatMap Ev.ns:=⟨_,rfl⟩;rw[<-hL]at hlen c0;have HV:=vp hv;have HO:=vp hO;have HB:=vp hB;have HX:=vp hX;have Gb:=vp Dq;have HF:=vp xo;have HL:=vp hL;clear hv hO hB hX Dq xo hL;have yH:=hp.box;have yd:=vp ((vO w.heap.size w).alloc (vs _) (.cells #[.int .i64 (f:Int)] 3));go_enter Tryz.func131,Tryz.ntmps131;go_wp2_with (first
  |(at_builtin;refine mm rfl (.tmp 3) (.tmp 5) rfl base A cap L rfl ((HL.out▸HO.out:OwnN w base A cap L).alloc _) f w.heap.size 1 rfl (ab _ _) (by omega) (by simp;omega) ?_;intro g vP w1 ho hg xi vW;have xD:=Pick.cell HF.out Gb.out HB.out yd.out hg;rw[<-HL.out]at xD;have c1:w1.cell? ⟨bo,0,none⟩=some (.slice A L.length cap):=aa xD 0;have f1:w1.frozen? ⟨bo,0,none⟩=false:=ae xD 0;have wu:=vp ho;have HG:=vp hg;have EM:=vp xi;have xF:=vp xD;clear ho hg xi xD)
  |fail)
 go_end0;exact Pick.more cY HV.out (x:=f) rfl HX.out HO.out yd.out HG.out EM.out vW (HL.out▸wu.out) Gb.out zd hp.low hp.tab hp.pos (by rw[vu,<-HL.out];exact aU xF.out) (aj (S:=fun b=>b=bo) (b:=bo) rfl 0 _) (by simp)
theorem rj (ty:TypeId) (base bo t:Nat) (S:Nat->Prop) (w:World) (l:List Ev) (X:Nat->Prop) (pg:Nat) (y:Leaf) (hv:dB (Pick OwnN ty Ev.ns base bo) S t w l X):
  Calls Tryz.prog 132 (#[.int .u64 ((pg*4096:Nat):Int), .agg #[.int .i64 (y.frame:Int), .int .u8 (y.prot:Int), .bool y.copy]]++ #[]) w (cL w X (Pick OwnN ty Ev.ns base bo) S t (l++[.leaf pg y])):=by
 have hb:=(vO w.heap.size w).alloc (vs _) (.cells #[.int .i64 (y.frame:Int), .int .u8 (y.prot:Int), .bool y.copy] 83);have hp:=(Pick.pass (dB.below hv (Pick.stays cY) hb) (e:= .leaf pg y) rfl).2;have HP:=vp hp;have HB:=vp hb;clear hv hp hb;go_enter Tryz.func132,Tryz.ntmps132;go_wp2_with fail;go_end0;obtain⟨X',h1,h2,h3⟩:=HP.out;exact⟨rfl,X',h1,(Mod.of HB.out).trans (Out.refl _ _) h2,(Out.refl _ _).trans (fun b hb=>(h3 b hb).imp id (fun h=>vM HB.out.size h)) (vs _)⟩
theorem all1_any (ty:TypeId) (base bo t:Nat) (S:Nat->Prop) (w:World) (l:List Ev) (X:Nat->Prop) (f:Nat) (hv:dB (Pick OwnP ty Ev.ls base bo) S t w l X):
  Calls Tryz.prog 75 (#[.int .i64 (f:Int)]++ #[]) w (cL w X (Pick OwnP ty Ev.ls base bo) S t (l++[.node f])):=by
 have hp:=Pick.pass hv (e:= .node f) rfl;have HP:=vp hp;clear hv hp;go_enter Tryz.func75,Tryz.ntmps75;go_wp2_with fail;go_end0;exact HP.out
theorem uc (base bo t:Nat) (S:Nat->Prop) (hp:kB S t base bo) (w:World) (l:List Ev) (X:Nat->Prop) (f:Nat)
  (hv:dB (Pick OwnN 131 Ev.fs base bo) S t w l X) (wC:l.length<1000000):
  Calls Tryz.prog 94 (#[.int .i64 (f:Int)]++ #[.pointer (some ⟨bo,0,none⟩)]) w (cL w X (Pick OwnN 131 Ev.fs base bo) S t (l++[.node f])):=by
 obtain⟨A,cap,hO,hB,Dq,hX⟩:=hv.rel;have hlen:=ca (F:=Ev.fs) (fun e=>by cases e<;>simp[Ev.fs]) l;have xo:=cY.form hO;have zd:bo<w.heap.size:=(vo hB).1;have c0:w.cell? ⟨bo,0,none⟩=some (.slice A (l.flatMap Ev.fs).length cap):=aa hB 0;have f0:w.frozen? ⟨bo,0,none⟩=false:=ae hB 0;obtain⟨L,hL⟩: ∃L,L=l.flatMap Ev.fs:=⟨_,rfl⟩;rw[<-hL]at hlen c0;have HV:=vp hv;have HO:=vp hO;have HB:=vp hB;have HX:=vp hX;have Gb:=vp Dq;have HF:=vp xo;have HL:=vp hL;clear hv hO hB hX Dq xo hL;have yH:=hp.box;have yd:=vp ((vO w.heap.size w).alloc (vs _) (.cells #[.int .i64 (f:Int)] 3));go_enter Tryz.func94,Tryz.ntmps94;go_wp2_with (first
  |(at_builtin;refine mm rfl (.tmp 3) (.tmp 5) rfl base A cap L rfl ((HL.out▸HO.out:OwnN w base A cap L).alloc _) f w.heap.size 1 rfl (ab _ _) (by omega) (by simp;omega) ?_;intro g vP w1 ho hg xi vW;have xD:=Pick.cell HF.out Gb.out HB.out yd.out hg;rw[<-HL.out]at xD;have c1:w1.cell? ⟨bo,0,none⟩=some (.slice A L.length cap):=aa xD 0;have f1:w1.frozen? ⟨bo,0,none⟩=false:=ae xD 0;have wu:=vp ho;have HG:=vp hg;have EM:=vp xi;have xF:=vp xD;clear ho hg xi xD)
  |fail)
 go_end0;exact Pick.more cY HV.out (x:=f) rfl HX.out HO.out yd.out HG.out EM.out vW (HL.out▸wu.out) Gb.out zd hp.low hp.tab hp.pos (by rw[vu,<-HL.out];exact aU xF.out) (aj (S:=fun b=>b=bo) (b:=bo) rfl 0 _) (by simp)
theorem ub (base bo t:Nat) (S:Nat->Prop) (hp:kB S t base bo) (w:World) (l:List Ev) (X:Nat->Prop) (pg:Nat) (y:Leaf)
  (hv:dB (Pick OwnN 131 Ev.fs base bo) S t w l X) (wC:l.length<1000000):
  Calls Tryz.prog 95 (#[.int .u64 ((pg*4096:Nat):Int), .agg #[.int .i64 (y.frame:Int), .int .u8 (y.prot:Int), .bool y.copy]]++ #[.pointer (some ⟨bo,0,none⟩)]) w (cL w X (Pick OwnN 131 Ev.fs base bo) S t (l++[.leaf pg y])):=by
 obtain⟨A,cap,hO,hB,Dq,hX⟩:=hv.rel;have hlen:=ca (F:=Ev.fs) (fun e=>by cases e<;>simp[Ev.fs]) l;have xo:=cY.form hO;have zd:bo<w.heap.size:=(vo hB).1;have c0:w.cell? ⟨bo,0,none⟩=some (.slice A (l.flatMap Ev.fs).length cap):=aa hB 0;have f0:w.frozen? ⟨bo,0,none⟩=false:=ae hB 0;obtain⟨L,hL⟩: ∃L,L=l.flatMap Ev.fs:=⟨_,rfl⟩;rw[<-hL]at hlen c0;have HV:=vp hv;have HO:=vp hO;have HB:=vp hB;have HX:=vp hX;have Gb:=vp Dq;have HF:=vp xo;have HL:=vp hL;clear hv hO hB hX Dq xo hL;have yH:=hp.box;obtain⟨w0,vT⟩: ∃w0,w0=w.alloc (.cells #[.int .i64 (y.frame:Int), .int .u8 (y.prot:Int), .bool y.copy] 83):=⟨_,rfl⟩;have vU:Below w.heap.size w w0:=(by rw[vT];exact vr);have AQ:w0.heap[w.heap.size]? =some (.cells #[.int .i64 (y.frame:Int), .int .u8 (y.prot:Int), .bool y.copy] 83 (0,0)):=(by rw[vT];exact ab _ _);have d0:w0.cell? ⟨w.heap.size,0,none⟩=some (.int .i64 (y.frame:Int)):=aa AQ 0;have c0':w0.cell? ⟨bo,0,none⟩=some (.slice A L.length cap):=(vU.cell zd).trans c0;have f0':w0.frozen? ⟨bo,0,none⟩=false:=(vU.frozen zd).trans f0;have wM:=vU.size;have yd:=vp (vU.alloc vU.size (.cells #[.int .i64 (y.frame:Int)] 3));have AW:OwnN w0 base A cap L:=(HL.out▸HO.out:OwnN w base A cap L).below vU (vs _);have FW:=vp AW;have wD:=vp vT;clear vT AW c0 f0 AQ vU;go_enter Tryz.func95,Tryz.ntmps95;go_upto_region 1 with(fail);rw[<-wD.out];go_wp2_with (first
  |(at_builtin;refine mm rfl (.tmp 5) (.tmp 8) rfl base A cap L rfl (FW.out.alloc _) y.frame w0.heap.size 1 rfl (ab _ _) (by omega) (by simp;omega) ?_;intro g vP w1 ho hg xi vW;have xD:=Pick.cell HF.out Gb.out HB.out yd.out hg;rw[<-HL.out]at xD;have c1:w1.cell? ⟨bo,0,none⟩=some (.slice A L.length cap):=aa xD 0;have f1:w1.frozen? ⟨bo,0,none⟩=false:=ae xD 0;have wu:=vp ho;have HG:=vp hg;have EM:=vp xi;have xF:=vp xD;clear ho hg xi xD)
  |fail)
 go_end0;exact Pick.more cY HV.out (x:=y.frame) rfl HX.out HO.out yd.out HG.out EM.out vW (HL.out▸wu.out) Gb.out zd hp.low hp.tab hp.pos (by rw[vu,<-HL.out];exact aU xF.out) (aj (S:=fun b=>b=bo) (b:=bo) rfl 0 _) (by simp)
theorem all2_any (base bo t:Nat) (S:Nat->Prop) (hp:kB S t base bo) (w:World) (l:List Ev) (X:Nat->Prop) (pg:Nat) (y:Leaf)
  (hv:dB (Pick OwnP 80 Ev.ls base bo) S t w l X) (wC:l.length<1000000):
  Calls Tryz.prog 76 (#[.int .u64 ((pg*4096:Nat):Int), .agg #[.int .i64 (y.frame:Int), .int .u8 (y.prot:Int), .bool y.copy]]++ #[.pointer (some ⟨bo,0,none⟩)]) w (cL w X (Pick OwnP 80 Ev.ls base bo) S t (l++[.leaf pg y])):=by
 obtain⟨A,cap,hO,hB,Dq,hX⟩:=hv.rel;have hlen:=ca (F:=Ev.ls) (fun e=>by cases e<;>simp[Ev.ls]) l;have xo:=dF.form hO;have zd:bo<w.heap.size:=(vo hB).1;have c0:w.cell? ⟨bo,0,none⟩=some (.slice A (l.flatMap Ev.ls).length cap):=aa hB 0;have f0:w.frozen? ⟨bo,0,none⟩=false:=ae hB 0;obtain⟨L,hL⟩: ∃L,L=l.flatMap Ev.ls:=⟨_,rfl⟩;rw[<-hL]at hlen c0;have HV:=vp hv;have HO:=vp hO;have HB:=vp hB;have HX:=vp hX;have Gb:=vp Dq;have HF:=vp xo;have HL:=vp hL;clear hv hO hB hX Dq xo hL;have yH:=hp.box;obtain⟨w0,vT⟩: ∃w0,w0=w.alloc (.cells #[.int .i64 (y.frame:Int), .int .u8 (y.prot:Int), .bool y.copy] 83):=⟨_,rfl⟩;have vU:Below w.heap.size w w0:=(by rw[vT];exact vr);have AQ:w0.heap[w.heap.size]? =some (.cells #[.int .i64 (y.frame:Int), .int .u8 (y.prot:Int), .bool y.copy] 83 (0,0)):=(by rw[vT];exact ab _ _);have d0:w0.cell? ⟨w.heap.size,0,none⟩=some (.int .i64 (y.frame:Int)):=aa AQ 0;have d1:w0.cell? ⟨w.heap.size,1,none⟩=some (.int .u8 (y.prot:Int)):=aa AQ 1;have d2:w0.cell? ⟨w.heap.size,2,none⟩=some (.bool y.copy):=aa AQ 2;have c0':w0.cell? ⟨bo,0,none⟩=some (.slice A L.length cap):=(vU.cell zd).trans c0;have f0':w0.frozen? ⟨bo,0,none⟩=false:=(vU.frozen zd).trans f0;have wM:=vU.size;have yd:=vp (vU.alloc vU.size (.cells #[.int .u64 ((pg*4096:Nat):Int), .int .i64 (y.frame:Int), .int .u8 (y.prot:Int), .bool y.copy] 85));have AW:OwnP w0 base A cap L:=dF.same (HL.out▸HO.out:OwnP w base A cap L) (fun g hg=>vU.block g (by
  rcases HF.out with⟨e,_⟩|⟨g',e,_,vW,_⟩
  ·rw[e]at hg;cases hg
  ·rw[e]at hg;injection hg with hg;injection hg with hg;omega))
 have FW:=vp AW;have wD:=vp vT;clear vT AW c0 f0 AQ vU;go_enter Tryz.func76,Tryz.ntmps76;go_upto_region 1 with(fail);rw[<-wD.out];go_wp2_with (first
  |(at_builtin;refine app_put rfl (.tmp 5) (.tmp 9) rfl base A cap L rfl (dF.same FW.out (fun g hg=>vt _ _ _ (by
    rcases dF.form FW.out with⟨e,_⟩|⟨g',e,_,vW,_⟩
    ·rw[e]at hg;cases hg
    ·rw[e]at hg;injection hg with hg;injection hg with hg;omega))) (pg,y) w0.heap.size 1 rfl (ab _ _) (by omega) (by simp;omega) ?_;intro g vP w1 ho hg xi vW;have xD:=Pick.cell HF.out Gb.out HB.out yd.out hg;rw[<-HL.out]at xD;have c1:w1.cell? ⟨bo,0,none⟩=some (.slice A L.length cap):=aa xD 0;have f1:w1.frozen? ⟨bo,0,none⟩=false:=ae xD 0;have wu:=vp ho;have HG:=vp hg;have EM:=vp xi;have xF:=vp xD;clear ho hg xi xD)
  |fail)
 go_end0;exact Pick.more dF HV.out (x:=(pg,y)) rfl HX.out HO.out yd.out HG.out EM.out vW (HL.out▸wu.out) Gb.out zd hp.low hp.tab hp.pos (by rw[vu,<-HL.out];exact aU xF.out) (aj (S:=fun b=>b=bo) (b:=bo) rfl 0 _) (by simp)
end
section
open Go.RowKit Go.Sort
def ms {α:Type} (Own:World->Nat->Option Addr->Nat->List α->Prop) (w:World) (l:List α) (e:Ending) (w':World):Prop:= ∃A cap,e= .returned (.slice A l.length cap)/\Own w' w.heap.size A cap l/\Below w.heap.size w w'
theorem Pick.end {α:Type} {Own:World->Nat->Option Addr->Nat->List α->Prop} {ty:TypeId} {F:Ev->List α} {w w0 w1:World} {S X0:Nat->Prop} {t:Nat} {l:List Ev} {bo:Nat} (hbo:bo=w.heap.size) (vU:Below w.heap.size w w0) (hX: ∀b,X0 b->b=bo) {X1:Nat->Prop} (hv:dB (Pick Own ty F w.heap.size bo) S t w1 l X1) (hm:Mod X0 w0 w1):
  ∃A cap,w1.cell? ⟨bo,0,none⟩=some (.slice A (l.flatMap F).length cap)/\Own w1 w.heap.size A cap (l.flatMap F)/\Below w.heap.size w w1:=by
 obtain⟨A,cap,h1,h2,h3,h4⟩:=hv.rel;refine⟨A,cap,aa h2 0,h1,?_⟩;exact((Mod.of vU).trans (Out.refl _ _) (hm.sub fun b hb=>by have:=hX b hb;omega)).below (S:=fun b=>b=bo) (fun b hb=>by omega) (vs _)
theorem qC (t c a root:Nat) (w:World) (S:Nat->Prop) (p:Pool) (T:Tab) (rest:Nat->Nat) (pg0:Nat) (h:am w S a p) (ht:al w t c a root) (hg:T.Good p rest pg0 4) (hr:T.nd 4 0=some root):
  Calls Tryz.prog 80 #[.pointer (some ⟨t,0,none⟩)] w (ms OwnN w ((T.evs 4 0).flatMap Ev.ns)):=by
 have xf:t<w.heap.size:=(vo ht).1;have wJ:=h.pos;have wI:=h.low;have yg:=hg.ok.short;obtain⟨w0,vT⟩: ∃w0,w0=w.alloc (.cells #[.slice none 0 0] 131):=⟨_,rfl⟩;have vU:Below w.heap.size w w0:=(by rw[vT];exact vr);have xC:w0.heap[w.heap.size]? =some (.cells #[.slice none 0 0] 131 (0,0)):=(by rw[vT];exact ab _ _);have yK:al w0 t c a root:=(vU.block t xf).trans ht;have c2:w0.cell? ⟨t,2,none⟩=some (.int .i64 (root:Int)):=aa yK 2;have hp:kB S t w.heap.size w.heap.size:=⟨wI,xf,wJ,vs _⟩;have Ea:=nZ (bo:=w.heap.size) (.inl ⟨rfl,rfl,rfl,rfl⟩) t c a root root 0 (Pick OwnN 131 Ev.ns w.heap.size w.heap.size) w0 S p T rest pg0 (fun b=>b=w.heap.size) [] (h.below vU) yK hg hr (by decide) (Pick.start (OwnN.nil _ _) xC (fun b hb=>by have:=wI b hb;omega) (by omega) (by omega)) (by simp;omega) (Pick.stays cY)
  (fun w l X f hv hl=>rk _ _ _ S hp w l X f hv hl) (fun w l X pg y hv hl=>rj _ _ _ _ S w l X pg y hv) 0 (by simp)
 have HT:=vp ht;have HV:=vp Ea;have wD:=vp vT;have HB:=vp vU;clear ht h hg hr Ea vT vU yK xC hp wI;go_enter Tryz.func80,Tryz.ntmps80;go_wp2_with fail;refine(cn t c a root _ HT.out).mono ?_;rintro e w1 ⟨rfl,rfl⟩;go_upto_region 4 with(fail);rw[<-wD.out];go_wp2_with fail;refine HV.out.mono ?_;rintro e w1 ⟨rfl,X1,DA,xE,wK⟩;obtain⟨A,cap,d1,wZ,Bk⟩:=Pick.end rfl HB.out (fun b hb=>hb) DA xE;rw[List.nil_append]at d1 wZ;have wu:=vp wZ;obtain⟨n,hn⟩: ∃n,n=((T.evs 4 0).flatMap Ev.ns).length:=⟨_,rfl⟩;rw[<-hn]at d1;have HN:=vp hn;clear DA xE wK wZ hn;go_wp2_with fail;go_ret;exact⟨A,cap,(by rw[<-HN.out];rfl),wu.out,Bk⟩
theorem lr (t c a root:Nat) (w:World) (S:Nat->Prop) (p:Pool) (T:Tab) (rest:Nat->Nat) (pg0:Nat) (h:am w S a p) (ht:al w t c a root) (hg:T.Good p rest pg0 4) (hr:T.nd 4 0=some root):
  Calls Tryz.prog 34 #[.pointer (some ⟨t,0,none⟩)] w (ms OwnP w ((T.evs 4 0).flatMap Ev.ls)):=by
 have xf:t<w.heap.size:=(vo ht).1;have wJ:=h.pos;have wI:=h.low;have yg:=hg.ok.short;obtain⟨w0,vT⟩: ∃w0,w0=w.alloc (.cells #[.slice none 0 0] 80):=⟨_,rfl⟩;have vU:Below w.heap.size w w0:=(by rw[vT];exact vr);have xC:w0.heap[w.heap.size]? =some (.cells #[.slice none 0 0] 80 (0,0)):=(by rw[vT];exact ab _ _);have yK:al w0 t c a root:=(vU.block t xf).trans ht;have c2:w0.cell? ⟨t,2,none⟩=some (.int .i64 (root:Int)):=aa yK 2;have hp:kB S t w.heap.size w.heap.size:=⟨wI,xf,wJ,vs _⟩;have Ea:=nZ (bo:=w.heap.size) (.inr (.inl ⟨rfl,rfl,rfl,rfl⟩)) t c a root root 0 (Pick OwnP 80 Ev.ls w.heap.size w.heap.size) w0 S p T rest pg0 (fun b=>b=w.heap.size) [] (h.below vU) yK hg hr (by decide) (Pick.start (World.ownsRow_nil _ _ _ 4) xC (fun b hb=>by have:=wI b hb;omega) (by omega) (by omega)) (by simp;omega) (Pick.stays dF)
  (fun w l X f hv hl=>all1_any _ _ _ _ S w l X f hv) (fun w l X pg y hv hl=>all2_any _ _ _ S hp w l X pg y hv hl) 0 (by simp)
 have HT:=vp ht;have HV:=vp Ea;have wD:=vp vT;have HB:=vp vU;clear ht h hg hr Ea vT vU yK xC hp wI;go_enter Tryz.func34,Tryz.ntmps34;go_wp2_with fail;refine(cn t c a root _ HT.out).mono ?_;rintro e w1 ⟨rfl,rfl⟩;go_upto_region 4 with(fail);rw[<-wD.out];go_wp2_with fail;refine HV.out.mono ?_;rintro e w1 ⟨rfl,X1,DA,xE,wK⟩;obtain⟨A,cap,d1,wZ,Bk⟩:=Pick.end rfl HB.out (fun b hb=>hb) DA xE;rw[List.nil_append]at d1 wZ;have wu:=vp wZ;obtain⟨n,hn⟩: ∃n,n=((T.evs 4 0).flatMap Ev.ls).length:=⟨_,rfl⟩;rw[<-hn]at d1;have HN:=vp hn;clear DA xE wK wZ hn;go_wp2_with fail;go_ret;exact⟨A,cap,(by rw[<-HN.out];rfl),wu.out,Bk⟩
end
section
open Go.RowKit Go.Sort
def ce (p:Pool) (L:List Nat):Pool:=L.foldl Pool.down p
theorem ki (p:Pool) (L:List Nat):(ce p L).n=p.n:=by
 induction L generalizing p with
 |nil=>rfl
 |cons f L ih=>exact ih (p.down f)
theorem el (p:Pool) (L:List Nat):(ce p L).dat=p.dat:=by
 induction L generalizing p with
 |nil=>rfl
 |cons f L ih=>exact ih (p.down f)
theorem nF (p:Pool) (L:List Nat) (f:Nat):(ce p L).cnt f=p.cnt f-L.count f:=by
 induction L generalizing p with
 |nil=>rfl
 |cons g L ih=>
  show(ce (p.down g) L).cnt f=_;rw[ih,List.count_cons];show upd p.cnt g (p.cnt g-1) f-_ =_;by_cases c:f=g
  ·subst c;rw[af];simp;omega
  ·rw[ag _ _ c];have:(g==f)=false:=(by simpa using fun e=>c e.symm);simp[this]
theorem rP (p:Pool) (L:List Nat) (f:Nat):ce p (L++[f])=(ce p L).down f:=by
 unfold ce;rw[List.foldl_append];rfl
variable {k:Nat}
theorem cN {α:Type} {L:List α} {x:α} (h:L[k]? =some x):L.take (k+1)=L.take k++[x]:=by
 rw[List.take_add_one,h];rfl
theorem mg {L:List Nat} {f:Nat} (h:L[k]? =some f):(L.take k).count f+1<=L.count f:=by
 have h1:(L.take (k+1)).count f<=L.count f:=(List.take_sublist _ _).count_le f;rw[cN h,List.count_append]at h1;simpa using h1
def FreePost (w:World) (S:Nat->Prop) (t a:Nat) (p:Pool) (L:List Nat) (e:Ending) (w':World):Prop:=
 e= .returned (.tuple #[])/\am w' S a (ce p L)/\Mod (fun b=>S b\/b=t) w w'/\w'.cell? ⟨t,1,none⟩=some (.pointer none)
theorem mG (t c a root:Nat) (w:World) (S:Nat->Prop) (p:Pool) (T:Tab) (rest:Nat->Nat) (pg0:Nat) (h:am w S a p) (ht:al w t c a root) (AF: ¬S t) (RC:t≠0) (hg:T.Good p rest pg0 4) (hr:T.nd 4 0=some root):
  Calls Tryz.prog 58 #[.pointer (some ⟨t,0,none⟩)] w (FreePost w S t a p ((T.evs 4 0).flatMap Ev.fs)):=by
 have xf:t<w.heap.size:=(vo ht).1;have wJ:=h.pos;have wI:=h.low;have yg:=hg.ok.short;have Mp: ∀f,f<p.n->((T.evs 4 0).flatMap Ev.fs).count f<=p.cnt f:=fun f hf=>by rw[hg.ok.frames_cnt,hg.cnt f hf];omega
 have wX: ∀f,f∈(T.evs 4 0).flatMap Ev.fs->f<p.n:=by
  intro f hf;have h1:=List.count_pos_iff.2 hf;rw[hg.ok.frames_cnt]at h1;by_cases c:an T f
  ·obtain⟨l,q,hl⟩:=c;exact(hg.node hl).1
  ·rw[aD c]at h1;have h2:0<ah T f:=(by omega);by_cases c9: ∃i,i<bG/\cB T f i=true
   ·obtain⟨i,_,hi⟩:=c9;unfold cB at hi;cases hl:T.lf i with
    |none=>rw[hl]at hi;cases hi
    |some l=>
     rw[hl]at hi;have e:l.frame=f:=(by simpa using hi);rw[<-e];exact(hg.but.leaf _ l hl).2.2
   ·have:ah T f=0:=eo.2 fun i hi=>by
     by_cases c8:cB T f i=true
     ·exact absurd ⟨i,hi,c8⟩ c9
     ·simpa using c8
    omega
 obtain⟨w0,vT⟩: ∃w0,w0=w.alloc (.cells #[.slice none 0 0] 131):=⟨_,rfl⟩;have vU:Below w.heap.size w w0:=(by rw[vT];exact vr);have xC:w0.heap[w.heap.size]? =some (.cells #[.slice none 0 0] 131 (0,0)):=(by rw[vT];exact ab _ _);have yK:al w0 t c a root:=(vU.block t xf).trans ht;have c2:w0.cell? ⟨t,2,none⟩=some (.int .i64 (root:Int)):=aa yK 2;have hp:kB S t w.heap.size w.heap.size:=⟨wI,xf,wJ,vs _⟩;have Ea:=nZ (bo:=w.heap.size) (.inr (.inr ⟨rfl,rfl,rfl,rfl⟩)) t c a root root 0 (Pick OwnN 131 Ev.fs w.heap.size w.heap.size) w0 S p T rest pg0 (fun b=>b=w.heap.size) [] (h.below vU) yK hg hr (by decide) (Pick.start (OwnN.nil _ _) xC (fun b hb=>by have:=wI b hb;omega) (by omega) (by omega)) (by simp;omega) (Pick.stays cY)
  (fun w l X f hv hl=>uc _ _ _ S hp w l X f hv hl) (fun w l X pg y hv hl=>ub _ _ _ S hp w l X pg y hv hl) 0 (by simp)
 rw[List.nil_append]at Ea;have hlen:=ca (F:=Ev.fs) (fun e=>by cases e<;>simp[Ev.fs]) (T.evs 4 0);obtain⟨L,hL⟩: ∃L,L=(T.evs 4 0).flatMap Ev.fs:=⟨_,rfl⟩;obtain⟨n,hn⟩: ∃n,n=L.length:=⟨_,rfl⟩;rw[<-hL]at Mp wX hlen⊢;have HT:=vp ht;have HV:=vp Ea;have wD:=vp vT;have HB:=vp vU;have HP:=vp h;have HL:=vp hL;have HN:=vp hn;have HCNT:=vp Mp;have xZ:=vp wX;rw[<-hn]at hlen;clear ht h hg hr Ea vT vU yK xC hp hL hn Mp wX;go_enter Tryz.func58,Tryz.ntmps58;go_wp2_with fail;refine(cn t c a root _ HT.out).mono ?_;rintro e w1 ⟨rfl,rfl⟩;go_upto_region 2 with(fail);rw[<-wD.out];go_wp2_with fail;refine HV.out.mono ?_;rintro e w1 ⟨rfl,X1,DA,xE,wK⟩;obtain⟨A,cap,d1,wZ,Bk⟩:=Pick.end rfl HB.out (fun b hb=>hb) DA xE;rw[<-HL.out]at d1 wZ;rw[<-HN.out]at d1;have wu:=vp wZ;have vY:=vp Bk;have wF:=Bk.size;clear DA xE wK wZ;go_wp2_with fail;go_loopw [17] (fun i wr=> ∃(k:Nat),i= .int .i64 (k:Int)/\k<=n/\am wr S a (ce p (L.take k))/\Mod S w1 wr) (fun i _ =>n-(intOf i).toNat)
 case atStart=>exact⟨0,rfl,by omega,HP.out.below vY.out,Mod.refl _ _⟩
 case round=>
  obtain⟨k,rfl,hk,LY,Ff⟩:=hrel;have XI:=vp LY;have HMK:=vp Ff;have hzk:=Ff.size;have Xw:al wr t c a root:=(Ff.block t (by omega) AF).trans ((vY.out.block t xf).trans HT.out);have d2:wr.cell? ⟨t,1,none⟩=some (.pointer (some ⟨a,0,none⟩)):=aa Xw 1;have d3:wr.frozen? ⟨t,1,none⟩=false:=ae Xw 1;have Jd:=vp Xw;clear LY Ff Xw d1;by_cases vW:k<n
  ·obtain⟨f,hf⟩: ∃f,L[k]? =some f:=⟨L[k]'(by rw[<-HN.out];exact vW),vv _⟩;have PQ:f∈L:=vA hf;have DK:=xZ.out f PQ;have yr:=HCNT.out f DK;have Au:=mg hf;have Zx:=nF p (L.take k) f;have Cu:1<=(ce p (L.take k)).cnt f:=(by omega);have Fe:f<(ce p (L.take k)).n:=(by rw[ki];exact DK);rcases OwnN.form wu.out with⟨_,e,_⟩|⟨g,e,hbg,FQ,_⟩
   ·rw[e]at hf;cases hf
   have hgS: ¬S g:=fun e'=>by have:=wI g e';omega
   have ZR:OwnN wr w.heap.size A cap L:=wu.out.same fun g' e'=>by
    rw[e]at e';injection e' with e';injection e' with e';subst e';exact HMK.out.block g FQ hgS
   rw[e]at ZR;have d4:=ZR.elem hf;subst e;have HF:=vp hf;have BO:=vp Cu;have HN4:=vp Fe;clear hf PQ DK yr Au Zx Cu Fe ZR;go_wp2_with fail;refine(cZ a f _ S _ XI.out HN4.out BO.out).mono ?_;rintro e w2 ⟨rfl,hp2,wk⟩;have Ow:=vp hp2;have CP:=vp wk;clear hp2 wk;go_wp2_with fail;go_roundw
   case rel=>exact⟨k+1,by go_num,by omega,by rw[cN HF.out,rP];exact Ow.out,HMK.out.trans (Out.refl _ _) CP.out⟩
   case measure=>(simp[intOf];omega)
  ·obtain rfl:k=n:=(by omega);go_wp2_with fail;go_end0;have xI:L.take k=L:=List.take_of_length_le (by rw[<-HN.out];exact vs _);have LY:=XI.out;rw[xI]at LY;refine⟨rfl,LY.mod (aj (S:=fun b=>b=t) rfl 1 _) (fun b hb e=>AF (e▸hb)) (fun e=>RC e.symm),?_,?_⟩
   ·exact((Mod.of vY.out).trans (Out.refl _ _) (HMK.out.sub fun b hb=> .inl hb)).trans (Out.refl _ _) (aj (S:=fun b=>S b\/b=t) (.inr rfl) 1 _)
   ·exact aa (Joins.block_setCell (i:=1) Jd.out (.pointer none)) 1
end
