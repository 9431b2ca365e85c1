/- Tables: visit. -/
import Derived.Test.YtoochjhipmpehaaGreatDoorTtZK
set_option linter.unusedVariables false
set_option linter.unusedSimpArgs false
set_option maxRecDepth 100000
set_option maxHeartbeats 40000000
namespace Go.Proofs.YtoochjhipmpehaaGreatDoor
section
open Go.RowKit
def mw (R:World->List Ev->(Nat->Prop)->Prop):Prop:= ∀w w' l X,R w l X->Below w.heap.size w w'->R w' l X
structure eJ (R:World->List Ev->(Nat->Prop)->Prop) (S:Nat->Prop) (t:Nat) (w:World) (l:List Ev) (X:Nat->Prop):Prop where
 rel:R w l X
 low: ∀b,X b->b<w.heap.size
 apart: ∀b,S b-> ¬X b
 noT: ¬X t
 no0: ¬X 0
theorem eJ.below {R:World->List Ev->(Nat->Prop)->Prop} {S:Nat->Prop} {t:Nat} {w w':World} {l:List Ev} {X:Nat->Prop} (h:eJ R S t w l X) (hR:mw R) (hb:Below w.heap.size w w'):eJ R S t w' l X:=
 ⟨hR w w' l X h.rel hb,fun b hx=>vh (h.low b hx) hb.size,h.apart,h.noT,h.no0⟩
def dz (w:World) (X:Nat->Prop) (R:World->List Ev->(Nat->Prop)->Prop) (S:Nat->Prop) (t:Nat) (l:List Ev) (e:Ending) (w':World):Prop:=
 e= .returned (.tuple #[])/\ ∃X',eJ R S t w' l X'/\Mod X w w'/\Out X X' w
variable {i:Nat}
theorem or_at {a b:Nat} (hb:b<2^i) (h:a*2^i+b<18446744073709551616):bits .or .u64 ((a*2^i:Nat):Int) (b:Int)=((a*2^i+b:Nat):Int):=by
 rw[bits_or_u64_nat _ _ (by omega) (by omega)];have:=Nat.two_pow_add_eq_or_of_lt hb a;rw[Nat.mul_comm a (2^i)];exact congrArg _ this.symm
def py (bo:Nat) (f1:FuncId) (C1:Array Value) (f2:FuncId) (C2:Array Value):Prop:=
 (f1=131/\C1= #[.pointer (some ⟨bo,0,none⟩)]/\f2=132/\C2= #[])\/(f1=75/\C1= #[]/\f2=76/\C2= #[.pointer (some ⟨bo,0,none⟩)])\/(f1=94/\C1= #[.pointer (some ⟨bo,0,none⟩)]/\f2=95/\C2= #[.pointer (some ⟨bo,0,none⟩)])
def qr (f1:FuncId) (C1:Array Value) (f2:FuncId) (C2:Array Value) (LV:Nat) (D:Int):Prop:=
 ∀(t c a root g q:Nat) (R:World->List Ev->(Nat->Prop)->Prop) (w:World) (S:Nat->Prop) (p:Pool) (T:Tab) (rest:Nat->Nat) (pg0:Nat) (X:Nat->Prop) (l:List Ev),am w S a p->al w t c a root->T.Good p rest pg0 4->T.nd LV q=some g->q<512^(4-LV)->
  eJ R S t w l X->l.length+(T.evs LV q).length<1000000->mw R->
  (∀(w:World) (l:List Ev) (X:Nat->Prop) (f:Nat),eJ R S t w l X->l.length<1000000->Calls Tryz.prog f1 (#[.int .i64 (f:Int)]++C1) w (dz w X R S t (l++[.node f])))->
  (∀(w:World) (l:List Ev) (X:Nat->Prop) (pg:Nat) (y:Leaf),eJ R S t w l X->l.length<1000000->Calls Tryz.prog f2 (#[.int .u64 ((pg*4096:Nat):Int), .agg #[.int .i64 (y.frame:Int), .int .u8 (y.prot:Int), .bool y.copy]]++C2) w (dz w X R S t (l++[.leaf pg y])))->
  ∀fr:Int,fr=((q*512^LV*4096:Nat):Int)->
  Calls Tryz.prog 74 #[.pointer (some ⟨t,0,none⟩), .int .i64 (g:Int), .int .i64 D, .int .u64 fr, .func (.func f1) #[] C1, .func (.func f2) #[] C2] w (dz w X R S t (l++T.evs LV q))
variable {LW:Nat}
theorem tj {q k c:Nat} (hi:i=12+9*(LW+1)) (hc:c=512^LW*4096) (hL:LW<4) (hq:q<512^(4-(LW+1))) (hk:k<512):bits .or .u64 ((q*512^(LW+1)*4096:Nat):Int) ((k:Int)*(c:Int))=(((q*512+k)*512^LW*4096:Nat):Int):=by
 have hL':LW=0\/LW=1\/LW=2\/LW=3:=(by omega);have key:q*512^(LW+1)*4096=q*2^i/\(q*512+k)*512^LW*4096=q*2^i+k*c/\k*c<2^i/\q*2^i+k*c<18446744073709551616:=by
  subst hi hc;rcases hL' with rfl|rfl|rfl|rfl<;>(simp only[Nat.reducePow,Nat.reduceSub,Nat.reduceAdd,Nat.reduceMul]at hq⊢;omega)
 obtain⟨e2,e3,b1,b2⟩:=key;rw[show((k:Int)*(c:Int))=((k*c:Nat):Int)from(Int.natCast_mul k c).symm,e2,e3];exact or_at b1 b2
variable {bo:Nat} {f1 f2:FuncId} {C1 C2:Array Value}
theorem vis_leaf (hk:py bo f1 C1 f2 C2):qr f1 C1 f2 C2 1 3:=by
 intro t c a root g q R w S p T rest pg0 X l h ht wA hq Pe hv hlen hR hn hl fr yw;have PK:=Tab.evs_node hq;obtain⟨g1,g2⟩:=wA.node hq;have BL:=(wA.but.words _ q g hq).2;have wb:=wA.but.few;have wT:t<w.heap.size:=(uZ ht).1;rw[PK]at hlen⊢;simp only[vn]at hlen;have Be: ∀k,k<512->l.length+(T.upto 0 q k).length+(T.evs 0 (q*512+k)).length+1<1000000:=fun k hk=>by
  have h1:=T.upto_le 0 q (show k+1<=512 by omega);rw[Tab.upto_succ,vf]at h1;omega
 obtain⟨wd,Db⟩: ∃wd,wd=T.word 1 q:=⟨_,rfl⟩;obtain⟨up,yL⟩: ∃up,up=T.upto 0 q:=⟨_,rfl⟩;have Jh: ∀k,k<512->dw (fun i=>p.dat g (0+i)) (8*k) 8=wd k:=fun k hk=>by
  rw[Db,<-BL k hk];unfold word;refine fZ fun i _ =>?_;rw[Nat.zero_add]
 have wh: ∀k,k<512->(wd k=0/\up (k+1)=up k)\/ ∃(y:Leaf) (x:Nat),wd k=x/\x<18446744073709551616/\(bits .and .u64 (x:Int) 1==0)=false/\fO x=y/\ ∀(w4:World) (X':Nat->Prop),eJ R S t w4 (l++ .node g::up k) X'->Calls Tryz.prog f2 (#[.int .u64 (bits .or .u64 fr ((k:Int)*4096)), .agg #[.int .i64 (y.frame:Int), .int .u8 (y.prot:Int), .bool y.copy]]++C2) w4 (dz w4 X' R S t (l++ .node g::up (k+1))):=fun k hk=>by
  have hs:=T.upto_succ 0 q k;cases zW:T.lf (q*512+k)with
  |none=>exact .inl ⟨by rw[Db];unfold Tab.word;rw[if_pos rfl,zW],by rw[yL,hs,Tab.evs_noleaf zW,List.append_nil]⟩
  |some y=>
   obtain⟨p7,pf⟩:=(wA.but.leaf _ y zW).2;have zG:y.pack<18446744073709551616:=(by have:=eB y p7 (by omega);omega);refine .inr ⟨y,y.pack,by rw[Db];unfold Tab.word;rw[if_pos rfl,zW],zG,fp zG (fC y),ey y p7,fun w4 X' hv4=>?_⟩;have ho:bits .or .u64 ((q*512^1*4096:Nat):Int) ((k:Int)*4096)=(((q*512+k)*4096:Nat):Int):=(tj (LW:=0) (i:=21) (c:=4096) rfl rfl (by omega) Pe hk).trans (by rw[Nat.pow_zero,Nat.mul_one]);have h1:=Be k hk;rw[yw,ho,yL,hs,Tab.evs_leaf zW];have h9:=hl w4 (l++ .node g::up k) X' (q*512+k) y hv4 (by rw[yL,vf,vn];omega);rw[yL]at h9;simpa using h9
 have Qy:=va (show up 0=[] by rw[yL];rfl);rw[<-yL];have HN:=va (hn w l X g hv (by omega));have HV:=va hv;have HP:=va h;have HT:=va ht;have Qv:=va Jh;have CD:=va wh;clear PK hq hv h ht hn hl wA BL yw hlen Be Db yL Jh wh Pe;rcases hk with⟨rfl,rfl,rfl,rfl⟩|⟨rfl,rfl,rfl,rfl⟩|⟨rfl,rfl,rfl,rfl⟩<;>(
  go_enter Tryz.func74,Tryz.ntmps74;go_wp2_with fail;refine(HN.out).mono ?_;rintro e w1 ⟨rfl,X1,Ew,xJ,wi⟩;have Aw:al w1 t c a root:=(xJ.block t wT HV.out.noT).trans HT.out;have Bm:am w1 S a p:=HP.out.mod xJ HV.out.apart HV.out.no0;have c1:w1.cell? ⟨t,1,none⟩=some (.pointer (some ⟨a,0,none⟩)):=aa Aw 1;have zr:=va Aw;have DZ:=va Bm;have KJ:=va Ew;clear Aw Bm Ew;go_wp2_with fail;refine(fG a g 0 4096 w1 S p DZ.out g1 g2 (by omega) (by omega)).mono ?_;rintro e w2 ⟨rfl,xE,wm,vM⟩;have yM: ∀i,p.dat g i<256:=by
   obtain⟨⟨C,B,F,wd,pt,hi,hS⟩,_,_,_⟩:=DZ.out;exact fun i=>hi.small g i
  have ZG: ¬X1 w1.heap.size:=fun e=>by have:=KJ.out.low _ e;omega
  have Vw:=va (KJ.out.below hR vM);have wg:=xJ.size;have xC:=va xE;clear xE c1;go_wp2_with fail;go_loopw [30] (fun i wr=> ∃(k:Nat) (X':Nat->Prop),i= .int .i64 (k:Int)/\k<=512/\eJ R S t wr (l++ .node g::up k) X'/\Mod X1 w2 wr/\Out X1 X' w2) (fun i _ =>512-(intOf i).toNat)
  case atStart=>exact⟨0,X1,rfl,by omega,by rw[Qy.out];exact Vw.out,Mod.refl _ _,Out.refl _ _⟩
  case round=>
   obtain⟨k,X',rfl,hk,Sk,BX,xG⟩:=hrel;have Vx:=va Sk;have hz':=BX.size;clear Sk;by_cases vH:k<512
   ·have Vo:aO wr w1.heap.size 4096 (fun i=>p.dat g (0+i)):=(BX.block _ wm ZG).trans xC.out;have HT':=va (show al wr t c a root from(BX.block t (by omega) KJ.out.noT).trans ((vM.block t (by omega)).trans zr.out));have HP':=va ((DZ.out.below vM).mod BX KJ.out.apart KJ.out.no0);go_wp2_with fail;refine(get_8 (8*k) 4096 4096 w1.heap.size (fun i=>p.dat g (0+i)) wr (by omega) (by omega) Vo (fun i=>yM _) (by omega)).mono ?_;rintro e w3 ⟨rfl,vX⟩;rw[Qv.out k vH];have xH:Mod X1 w2 w3:=BX.trans xG (Mod.of vX);have Vv:=va (Vx.out.below hR vX);have MG:=va (HP'.out.below vX);have MA:=va ((vX.block t (by omega)).trans HT'.out);have xR:=vX.size;clear Vo;rcases CD.out k vH with⟨e0,es⟩|⟨y,x,e0,zG,FR,yL,zL⟩
    ·have ES:=va es;rw[e0];have hz:=gW;clear es e0;go_wp2_with fail;go_roundw
     case rel=>exact⟨k+1,X',by go_num,by omega,by rw[ES.out];exact Vv.out,xH,xG⟩
     case measure=>(simp[intOf];omega)
    ·rw[e0];have My:=va yL;have Lc:=va zL;clear yL zL e0;go_wp2_with fail;refine(ez x w3 zG).mono ?_;rintro e w4 ⟨rfl,vZ⟩;rw[My.out];go_wp2_with fail;refine(Lc.out w4 X' (Vv.out.below hR vZ)).mono ?_;rintro e w5 ⟨rfl,X5,Sj,xf,yG⟩;have xq:Mod X1 w2 w4:=xH.trans (fun b hb=>(xG b hb).imp id (fun h=>h)) (Mod.of vZ);have Pk:Out X1 X5 w2:=xG.trans yG xq.size;have EP:=xq.trans xG xf;have HV5:=va Sj;clear Sj;go_wp2_with fail;go_roundw
     case rel=>exact⟨k+1,X5,by go_num,by omega,HV5.out,EP,Pk⟩
     case measure=>(simp[intOf];omega)
   ·obtain rfl:k=512:=(by omega);go_wp2_with fail;go_end0;exact⟨rfl,X',Vx.out,xJ.trans wi ((Mod.of vM).trans (Out.refl _ _) BX),wi.trans (fun b hb=>(xG b hb).imp id (fun h=>vx vM.size h)) wg⟩)
theorem jz (hk:py bo f1 C1 f2 C2) {cc:Nat} {D E:Int} (hc:(LW=1/\D=2/\E=3/\cc=2097152)\/(LW=2/\D=1/\E=2/\cc=1073741824)\/(LW=3/\D=0/\E=1/\cc=549755813888)) (ih:qr f1 C1 f2 C2 LW E):qr f1 C1 f2 C2 (LW+1) D:=by
 intro t c a root g q R w S p T rest pg0 X l h ht wA hq Pe hv hlen hR hn hl fr yw;have PK:=Tab.evs_node hq;obtain⟨g1,g2⟩:=wA.node hq;have BL:=(wA.but.words _ q g hq).2;have wb:=wA.but.few;have wT:t<w.heap.size:=(uZ ht).1;rw[PK]at hlen⊢;simp only[vn]at hlen;have Be: ∀k,k<512->l.length+(T.upto LW q k).length+(T.evs LW (q*512+k)).length+1<1000000:=fun k hk=>by
  have h1:=T.upto_le LW q (show k+1<=512 by omega);rw[Tab.upto_succ,vf]at h1;omega
 obtain⟨wd,Db⟩: ∃wd,wd=T.word (LW+1) q:=⟨_,rfl⟩;obtain⟨up,yL⟩: ∃up,up=T.upto LW q:=⟨_,rfl⟩;have Jh: ∀k,k<512->dw (fun i=>p.dat g (0+i)) (8*k) 8=wd k:=fun k hk=>by
  rw[Db,<-BL k hk];unfold word;refine fZ fun i _ =>?_;rw[Nat.zero_add]
 have h1L:1<=LW/\LW<4/\cc=512^LW*4096:=by rcases hc with⟨rfl,_,_,rfl⟩|⟨rfl,_,_,rfl⟩|⟨rfl,_,_,rfl⟩<;>decide
 obtain⟨h1L,h4L,Zs⟩:=h1L;have wh: ∀k,k<512->(wd k=0/\up (k+1)=up k)\/ ∃(f x:Nat),wd k=x/\x<18446744073709551616/\(bits .and .u64 (x:Int) 1==0)=false/\((x:Int)/4096)=(f:Int)/\ ∀(w3:World) (X':Nat->Prop),am w3 S a p->al w3 t c a root->eJ R S t w3 (l++ .node g::up k) X'->Calls Tryz.prog 74 #[.pointer (some ⟨t,0,none⟩), .int .i64 (f:Int), .int .i64 E, .int .u64 (bits .or .u64 fr ((k:Int)*(cc:Int))), .func (.func f1) #[] C1, .func (.func f2) #[] C2] w3 (dz w3 X' R S t (l++ .node g::up (k+1))):=fun k hk=>by
  have hs:=T.upto_succ LW q k;have vE:wd k=match T.nd LW (q*512+k)with|some f=>f*4096+1|none=>0:=by
   rw[Db];unfold Tab.word;rw[if_neg (by omega)];rfl
  cases zW:T.nd LW (q*512+k)with
  |none=>
   obtain⟨m,rfl⟩: ∃m,LW=m+1:=⟨LW-1,by omega⟩;exact .inl ⟨by rw[vE,zW],by rw[yL,hs,Tab.evs_none zW,List.append_nil]⟩
  |some f=>
   obtain⟨n1,n2⟩:=wA.node zW;have zG:f*4096+1<18446744073709551616:=(by omega);refine .inr ⟨f,f*4096+1,by rw[vE,zW],zG,fp zG (by omega),by omega,fun w3 X' hP hT hv3=>?_⟩;have h1:=Be k hk;have hqk:q*512+k<512^(4-LW):=by
    have e9:512^(4-LW)=512^(4-(LW+1))*512:=(by rw[<-Nat.pow_succ];congr 1;omega);rw[e9];omega
   have h9:=ih t c a root f (q*512+k) R w3 S p T rest pg0 X' (l++ .node g::up k) hP hT wA zW hqk hv3 (by rw[yL,vf,vn];omega) hR hn hl (bits .or .u64 fr ((k:Int)*(cc:Int))) (by rw[yw];exact tj rfl Zs h4L Pe hk);have e8:(l++ .node g::up k)++T.evs LW (q*512+k)=l++ .node g::up (k+1):=(by rw[yL,hs];simp);rw[e8]at h9;exact h9
 have Qy:=va (show up 0=[] by rw[yL];rfl);rw[<-yL];have HN:=va (hn w l X g hv (by omega));have HV:=va hv;have HP:=va h;have HT:=va ht;have Qv:=va Jh;have CD:=va wh;clear PK hq hv h ht hn hl wA BL yw hlen Be Db yL Jh wh Pe ih Zs h1L h4L;rcases hk with⟨rfl,rfl,rfl,rfl⟩|⟨rfl,rfl,rfl,rfl⟩|⟨rfl,rfl,rfl,rfl⟩<;>rcases hc with⟨rfl,rfl,rfl,rfl⟩|⟨rfl,rfl,rfl,rfl⟩|⟨rfl,rfl,rfl,rfl⟩<;>(
  go_enter Tryz.func74,Tryz.ntmps74;go_wp2_with fail;refine(HN.out).mono ?_;rintro e w1 ⟨rfl,X1,Ew,xJ,wi⟩;have Aw:al w1 t c a root:=(xJ.block t wT HV.out.noT).trans HT.out;have Bm:am w1 S a p:=HP.out.mod xJ HV.out.apart HV.out.no0;have c1:w1.cell? ⟨t,1,none⟩=some (.pointer (some ⟨a,0,none⟩)):=aa Aw 1;have zr:=va Aw;have DZ:=va Bm;have KJ:=va Ew;clear Aw Bm Ew;go_wp2_with fail;refine(fG a g 0 4096 w1 S p DZ.out g1 g2 (by omega) (by omega)).mono ?_;rintro e w2 ⟨rfl,xE,wm,vM⟩;have yM: ∀i,p.dat g i<256:=by
   obtain⟨⟨C,B,F,wd,pt,hi,hS⟩,_,_,_⟩:=DZ.out;exact fun i=>hi.small g i
  have ZG: ¬X1 w1.heap.size:=fun e=>by have:=KJ.out.low _ e;omega
  have Vw:=va (KJ.out.below hR vM);have wg:=xJ.size;have xC:=va xE;clear xE c1;go_wp2_with fail;go_loopw [30] (fun i wr=> ∃(k:Nat) (X':Nat->Prop),i= .int .i64 (k:Int)/\k<=512/\eJ R S t wr (l++ .node g::up k) X'/\Mod X1 w2 wr/\Out X1 X' w2) (fun i _ =>512-(intOf i).toNat)
  case atStart=>exact⟨0,X1,rfl,by omega,by rw[Qy.out];exact Vw.out,Mod.refl _ _,Out.refl _ _⟩
  case round=>
   obtain⟨k,X',rfl,hk,Sk,BX,xG⟩:=hrel;have Vx:=va Sk;have hz':=BX.size;clear Sk;by_cases vH:k<512
   ·have Vo:aO wr w1.heap.size 4096 (fun i=>p.dat g (0+i)):=(BX.block _ wm ZG).trans xC.out;have HT':=va (show al wr t c a root from(BX.block t (by omega) KJ.out.noT).trans ((vM.block t (by omega)).trans zr.out));have HP':=va ((DZ.out.below vM).mod BX KJ.out.apart KJ.out.no0);go_wp2_with fail;refine(get_8 (8*k) 4096 4096 w1.heap.size (fun i=>p.dat g (0+i)) wr (by omega) (by omega) Vo (fun i=>yM _) (by omega)).mono ?_;rintro e w3 ⟨rfl,vX⟩;rw[Qv.out k vH];have xH:Mod X1 w2 w3:=BX.trans xG (Mod.of vX);have Vv:=va (Vx.out.below hR vX);have MG:=va (HP'.out.below vX);have MA:=va ((vX.block t (by omega)).trans HT'.out);have xR:=vX.size;clear Vo;rcases CD.out k vH with⟨e0,es⟩|⟨f,x,e0,zG,FR,SF,zL⟩
    ·have ES:=va es;rw[e0];have hz:=gW;clear es e0;go_wp2_with fail;go_roundw
     case rel=>exact⟨k+1,X',by go_num,by omega,by rw[ES.out];exact Vv.out,xH,xG⟩
     case measure=>(simp[intOf];omega)
    ·rw[e0];have Ix:=va SF;have Lc:=va zL;clear SF zL e0;go_wp2_with fail;rw[Ix.out];refine(Lc.out w3 X' MG.out MA.out Vv.out).mono ?_;rintro e w5 ⟨rfl,X5,Sj,xf,yG⟩;have Pk:Out X1 X5 w2:=xG.trans yG xH.size;have EP:=xH.trans xG xf;have HV5:=va Sj;clear Sj;go_wp2_with fail;go_roundw
     case rel=>exact⟨k+1,X5,by go_num,by omega,HV5.out,EP,Pk⟩
     case measure=>(simp[intOf];omega)
   ·obtain rfl:k=512:=(by omega);go_wp2_with fail;go_end0;exact⟨rfl,X',Vx.out,xJ.trans wi ((Mod.of vM).trans (Out.refl _ _) BX),wi.trans (fun b hb=>(xG b hb).imp id (fun h=>vx vM.size h)) wg⟩)
theorem sb (hk:py bo f1 C1 f2 C2):qr f1 C1 f2 C2 4 0:=
 jz hk (.inr (.inr ⟨rfl,rfl,rfl,rfl⟩)) (jz hk (.inr (.inl ⟨rfl,rfl,rfl,rfl⟩)) (jz hk (.inl ⟨rfl,rfl,rfl,rfl⟩) (vis_leaf hk)))
end
section
open Go.RowKit
def pc (x:Nat×Leaf):List Value:=[.int .u64 ((x.1*4096:Nat):Int), .int .i64 (x.2.frame:Int), .int .u8 (x.2.prot:Int), .bool x.2.copy]
def OwnP (w:World) (base:Nat) (A:Option Addr) (cap:Nat) (l:List (Nat×Leaf)):Prop:=w.ownsRow base 85 4 (.slice A l.length cap) l.length (l.flatMap pc)
theorem put_info:(Tryz.prog.info? 85).map (fun i=>(i.zero,i.size,i.bytes))=some (some (.agg #[.int .u64 0, .int .i64 0, .int .u8 0, .bool false]),4,24):=by kernel_rfl
structure mx {α:Type} (Own:World->Nat->Option Addr->Nat->List α->Prop):Prop where
 same: ∀ {w w':World} {base:Nat} {A:Option Addr} {cap:Nat} {l:List α},Own w base A cap l->(∀g,A=some ⟨g,0,none⟩->w'.heap[g]? =w.heap[g]?)->Own w' base A cap l
 form: ∀ {w:World} {base:Nat} {A:Option Addr} {cap:Nat} {l:List α},Own w base A cap l->(A=none/\l=[]/\cap=0)\/ ∃g,A=some ⟨g,0,none⟩/\base<=g/\g<w.heap.size/\l.length<=cap
theorem gC:mx OwnN:=⟨fun h hb=>h.same hb,fun h=>h.form⟩
theorem dJ:mx OwnP:=by
 constructor
 ·intro w w' base A cap l h hb;refine⟨h.1,?_⟩;rcases h.2 with h2|⟨g,vA,cur,h1,h2,h3,h4⟩
  ·exact .inl h2
  ·injection h1 with e1 e2 e3;exact .inr ⟨g,vA,cur,by rw[e1,e2,e3],h2,(hb g e1).trans h3,h4⟩
 ·intro w base A cap l h;rcases h.2 with⟨h2,h3⟩|⟨g,vA,cur,h1,h2,h3,h4,_⟩
  ·injection h2 with h4 h5 h6;exact .inl ⟨h4,List.eq_nil_of_length_eq_zero h3,h6⟩
  ·injection h1 with e1 e2 e3;subst e3;exact .inr ⟨g,e1,h2,(uZ h3).1,h4⟩
def Pick {α:Type} (Own:World->Nat->Option Addr->Nat->List α->Prop) (ty:TypeId) (F:Ev->List α) (base bo:Nat):World->List Ev->(Nat->Prop)->Prop:=fun w l X=>
 ∃A cap,Own w base A cap (l.flatMap F)/\w.heap[bo]? =some (.cells #[.slice A (l.flatMap F).length cap] ty (0,0))/\(∀g,A=some ⟨g,0,none⟩->g≠bo)/\ ∀b,X b↔b=bo\/A=some ⟨b,0,none⟩
variable {ty:TypeId} {base bo:Nat}
theorem Pick.stays {α:Type} {Own:World->Nat->Option Addr->Nat->List α->Prop} (hO:mx Own) {F:Ev->List α} :mw (Pick Own ty F base bo):=by
 rintro w w' l X ⟨A,cap,h1,h2,h3,h4⟩ hb;refine⟨A,cap,hO.same h1 fun g hg=>?_,(hb.block bo (uZ h2).1).trans h2,h3,h4⟩;rcases hO.form h1 with⟨e,_⟩|⟨g',e,_,vH,_⟩
 ·rw[e]at hg;cases hg
 ·rw[e]at hg;injection hg with hg;injection hg with hg;subst hg;exact hb.block _ vH
variable {w:World} {l:List Ev} {X S:Nat->Prop} {e:Ev} {t:Nat}
theorem Pick.pass {α:Type} {Own:World->Nat->Option Addr->Nat->List α->Prop} {F:Ev->List α} (h:eJ (Pick Own ty F base bo) S t w l X) (he:F e=[]):
  dz w X (Pick Own ty F base bo) S t (l++[e]) (.returned (.tuple #[])) w:=by
 refine⟨rfl,X,⟨?_,h.low,h.apart,h.noT,h.no0⟩,Mod.refl _ _,Out.refl _ _⟩;obtain⟨A,cap,h1,h2,h3,h4⟩:=h.rel;have e1:(l++[e]).flatMap F=l.flatMap F:=(by simp[he]);exact⟨A,cap,by rw[e1];exact h1,by rw[e1];exact h2,h3,h4⟩
theorem Pick.more {α:Type} {Own:World->Nat->Option Addr->Nat->List α->Prop} (hO:mx Own) {F:Ev->List α} {w0 w1 w2:World} {x:α} (h:eJ (Pick Own ty F base bo) S t w l X) (he:F e=[x])
  {A:Option Addr} {cap g vA:Nat} (hX: ∀b,X b↔b=bo\/A=some ⟨b,0,none⟩) (hA:Own w base A cap (l.flatMap F)) (vF:Below w.heap.size w w0) (hg:w0.grownBy w1 (A.map (·.block))) (wK:A.map (·.block)=some g\/g=w0.heap.size) (vH:g<w1.heap.size)
  (vR:Own w1 base (some ⟨g,0,none⟩) vA (l.flatMap F++[x])) (Eo: ∀g,A=some ⟨g,0,none⟩->g≠bo) (hbo:bo<w.heap.size) (ZH: ∀b,S b->b<base) (Nh:t<base) (vD:0<base)
  (h2:w2.heap[bo]? =some (.cells #[.slice (some ⟨g,0,none⟩) (l.flatMap F++[x]).length vA] ty (0,0))) (vT:Mod (fun b=>b=bo) w1 w2) (wm:w2.heap.size=w1.heap.size):
  dz w X (Pick Own ty F base bo) S t (l++[e]) (.returned (.tuple #[])) w2:=by
 have xn:=hO.form hA;have wz:=vF.size;have wg:=hg.size;have Ze:g≠bo:=by
  rcases wK with e|e
  ·rcases xn with⟨e',_⟩|⟨g',e',_,_,_⟩
   ·rw[e']at e;cases e
   ·rw[e']at e;injection e with e;exact e▸Eo g' e'
  ·omega
 have FZ:base<=g:=by
  rcases hO.form vR with⟨e',_⟩|⟨g',e',h9,_,_⟩
  ·cases e'
  ·injection e' with e';injection e' with e';omega
 have hXA: ∀b,A.map (·.block)=some b->X b:=by
  intro b hb;rcases xn with⟨e',_⟩|⟨g',e',_,_,_⟩
  ·rw[e']at hb;cases hb
  ·rw[e']at hb;injection hb with hb;exact(hX b).2 (.inr (hb▸e'))
 have xJ:Mod X w0 w1:=⟨hg.os,hg.tape,hg.output,hg.size,fun b hb hn=>hg.block b hb fun e=>hn (hXA b e.symm)⟩;have Kw:X bo:=(hX bo).2 (.inl rfl);have YF:Mod X w w2:=((Mod.of vF).trans (Out.refl _ _) xJ).trans (Out.refl _ _) (vT.sub fun b hb=>hb▸Kw);refine⟨rfl,fun b=>b=bo\/b=g,⟨⟨some ⟨g,0,none⟩,vA,?_,?_,fun g' e'=>?_,fun b=>?_⟩,?_,?_,?_,?_⟩,YF,?_⟩
 ·rw[show(l++[e]).flatMap F=l.flatMap F++[x]from by simp[he]];refine hO.same vR fun g' e'=>?_;injection e' with e';injection e' with e';subst e';exact vT.block g vH Ze
 ·rw[show(l++[e]).flatMap F=l.flatMap F++[x]from by simp[he]];exact h2
 ·injection e' with e';injection e' with e';omega
 ·constructor
  ·rintro(rfl|rfl)
   ·exact .inl rfl
   ·exact .inr rfl
  ·rintro(rfl|e')
   ·exact .inl rfl
   ·injection e' with e';injection e' with e';exact .inr e'.symm
 ·rintro b (rfl|rfl)
  ·omega
  ·omega
 ·intro b hb;have h9:=ZH b hb;rintro(rfl|rfl)
  ·exact h.apart _ hb Kw
  ·omega
 ·rintro(rfl|rfl)
  ·exact h.noT Kw
  ·omega
 ·rintro(e'|e')
  ·exact h.no0 (e'▸Kw)
  ·omega
 ·rintro b (rfl|rfl)
  ·exact .inl Kw
  ·rcases wK with e'|e'
   ·exact .inl (hXA _ e')
   ·exact .inr (by omega)
theorem Pick.start {α:Type} {Own:World->Nat->Option Addr->Nat->List α->Prop} {F:Ev->List α} (hO:Own w base none 0 []) (hb:w.heap[bo]? =some (.cells #[.slice none 0 0] ty (0,0))) (ZH: ∀b,S b->b≠bo) (ht:t≠bo) (h0:bo≠0):
  eJ (Pick Own ty F base bo) S t w [] (fun b=>b=bo):=
 ⟨⟨none,0,hO,hb,fun g e=>(by cases e),fun b=>⟨.inl,fun h=>h.elim id (fun e=>by cases e)⟩⟩,fun b e=>e▸(uZ hb).1,fun b hs e=>ZH b hs e,fun e=>ht e,fun e=>h0 e.symm⟩
end
section
open Go.RowKit
end
section
open Go.RowKit
end
section
open Go.RowKit
theorem cL {α:Type} {F:Ev->List α} (hF: ∀e,(F e).length<=1) (l:List Ev):(l.flatMap F).length<=l.length:=by
 induction l with
 |nil=>simp
 |cons e l ih=>rw[vy,vf,vn];have:=hF e;omega
variable {w:World}
theorem app_put {ops:Array Oper} {rest:List Oper} {o:Oper} {a:Act} {Q:Exit->Act->World->Prop} (yv:o.guard=none) (s x:Operand)
  (ho:o.op= .call { callee:= .builtin .append,args:= #[s,x],argTypes:= #[80,80]})
  (base:Nat) (A:Option Addr) (cap:Nat) (l:List (Nat×Leaf)) (hs:a.eval s= .slice A l.length cap) (vR:OwnP w base A cap l)
  (r:Nat×Leaf) (b c:Nat) (hx:a.eval x= .slice (some ⟨b,0,none⟩) 1 c) (hb:w.heap[b]? =some (.cells #[.int .u64 ((r.1*4096:Nat):Int), .int .i64 (r.2.frame:Int), .int .u8 (r.2.prot:Int), .bool r.2.copy] 85 (0,0)))
  (wb:l.length<1000000) (vQ:base<=w.heap.size)
  (h: ∀g vA w',OwnP w' base (some ⟨g,0,none⟩) vA (l++[r])->w.grownBy w' (A.map (·.block))->(A.map (·.block)=some g\/g=w.heap.size)->g<w'.heap.size->wpList Tryz.prog ops Q rest (a.put o.dst (.slice (some ⟨g,0,none⟩) (l.length+1) vA)) w'):
  wpList Tryz.prog ops Q (o::rest) a w:=by
 obtain⟨i0,yb,wz,wg,wm⟩:=info_parts put_info;refine wpList_append_lies w yv s x 80 ho base 85 i0 _ 4 24 Tryz.underlying80 yb wz wg wm rfl (by omega) _ l.length (l.flatMap pc) hs vR ⟨b,0,none⟩ 1 c (pc r) hx rfl (World.news_of_block (cs:= #[.int .u64 ((r.1*4096:Nat):Int), .int .i64 (r.2.frame:Int), .int .u8 (r.2.prot:Int), .bool r.2.copy]) hb)
  (by simp[pc,Value.oneCell']) (by omega) (by unfold maxLen;omega) (by omega) vQ w.heap.size rfl ?_
 intro g vA w' xG hg wK vH;refine h g vA w' ?_ ?_ ?_ vH
 ·unfold OwnP;rw[List.flatMap_append,vf];simpa [pc]using xG
 ·cases A<;>simpa [Value.ownBlock]using hg
 ·cases A<;>simpa [Value.ownBlock]using wK
theorem Pick.cell {α:Type} {l:List α} {w0 w1:World} {base bo n cap:Nat} {A:Option Addr} {ty:TypeId} (hF:(A=none/\l=[]/\cap=0)\/ ∃g,A=some ⟨g,0,none⟩/\base<=g/\g<w.heap.size/\l.length<=cap) (hAB: ∀g,A=some ⟨g,0,none⟩->g≠bo)
  (hB:w.heap[bo]? =some (.cells #[.slice A n cap] ty (0,0))) (hb:Below w.heap.size w w0) (hg:w0.grownBy w1 (A.map (·.block))):w1.heap[bo]? =some (.cells #[.slice A n cap] ty (0,0)):=by
 have za:=(uZ hB).1;refine(hg.block bo (vh za hb.size) fun e=>?_).trans ((hb.block bo za).trans hB);rcases hF with⟨e',_⟩|⟨g',e',_,_,_⟩
 ·rw[e']at e;cases e
 ·rw[e']at e;exact hAB g' e' (by simpa using e.symm)
theorem bm {b:Nat} {x y:Value} {t:TypeId} (h:w.heap[b]? =some (.cells #[x] t (0,0))):(w.setCell ⟨b,0,none⟩ y).heap[b]? =some (.cells #[y] t (0,0)):=by
 have h1:=Joins.block_setCell (i:=0) h y;simpa using h1
structure nX (S:Nat->Prop) (t base bo:Nat):Prop where
 low: ∀b,S b->b<base
 tab:t<base
 pos:0<base
 box:base<=bo
theorem all1_any (ty:TypeId) (base bo t:Nat) (S:Nat->Prop) (w:World) (l:List Ev) (X:Nat->Prop) (f:Nat) (hv:eJ (Pick OwnP ty Ev.ls base bo) S t w l X):
  Calls Tryz.prog 75 (#[.int .i64 (f:Int)]++ #[]) w (dz w X (Pick OwnP ty Ev.ls base bo) S t (l++[.node f])):=by
 have hp:=Pick.pass hv (e:= .node f) rfl;have HP:=va hp;clear hv hp;go_enter Tryz.func75,Tryz.ntmps75;go_wp2_with fail;go_end0;exact HP.out
theorem tP (base bo t:Nat) (S:Nat->Prop) (hp:nX S t base bo) (w:World) (l:List Ev) (X:Nat->Prop) (f:Nat)
  (hv:eJ (Pick OwnN 131 Ev.fs base bo) S t w l X) (wb:l.length<1000000):
  Calls Tryz.prog 94 (#[.int .i64 (f:Int)]++ #[.pointer (some ⟨bo,0,none⟩)]) w (dz w X (Pick OwnN 131 Ev.fs base bo) S t (l++[.node f])):=by
 obtain⟨A,cap,hO,hB,Eo,hX⟩:=hv.rel;have hlen:=cL (F:=Ev.fs) (fun e=>by cases e<;>simp[Ev.fs]) l;have xn:=gC.form hO;have za:bo<w.heap.size:=(uZ hB).1;have c0:w.cell? ⟨bo,0,none⟩=some (.slice A (l.flatMap Ev.fs).length cap):=aa hB 0;have f0:w.frozen? ⟨bo,0,none⟩=false:=ae hB 0;obtain⟨L,hL⟩: ∃L,L=l.flatMap Ev.fs:=⟨_,rfl⟩;rw[<-hL]at hlen c0;have HV:=va hv;have HO:=va hO;have HB:=va hB;have HX:=va hX;have ID:=va Eo;have HF:=va xn;have HL:=va hL;clear hv hO hB hX Eo xn hL;have yB:=hp.box;have xV:=va ((vz w.heap.size w).alloc (vd _) (.cells #[.int .i64 (f:Int)] 3));go_enter Tryz.func94,Tryz.ntmps94;go_wp2_with (first
  |(at_builtin;refine pq rfl (.tmp 3) (.tmp 5) rfl base A cap L rfl ((HL.out▸HO.out:OwnN w base A cap L).alloc _) f w.heap.size 1 rfl (ab _ _) (by omega) (by simp;omega) ?_;intro g vA w1 ho hg wK vH;have xE:=Pick.cell HF.out ID.out HB.out xV.out hg;rw[<-HL.out]at xE;have c1:w1.cell? ⟨bo,0,none⟩=some (.slice A L.length cap):=aa xE 0;have f1:w1.frozen? ⟨bo,0,none⟩=false:=ae xE 0;have vS:=va ho;have HG:=va hg;have Cv:=va wK;have xC:=va xE;clear ho hg wK xE)
  |fail)
 go_end0;exact Pick.more gC HV.out (x:=f) rfl HX.out HO.out xV.out HG.out Cv.out vH (HL.out▸vS.out) ID.out za hp.low hp.tab hp.pos (by rw[vf,<-HL.out];exact bm xC.out) (aj (S:=fun b=>b=bo) (b:=bo) rfl 0 _) (by simp)
theorem tO (base bo t:Nat) (S:Nat->Prop) (hp:nX S t base bo) (w:World) (l:List Ev) (X:Nat->Prop) (pg:Nat) (y:Leaf)
  (hv:eJ (Pick OwnN 131 Ev.fs base bo) S t w l X) (wb:l.length<1000000):
  Calls Tryz.prog 95 (#[.int .u64 ((pg*4096:Nat):Int), .agg #[.int .i64 (y.frame:Int), .int .u8 (y.prot:Int), .bool y.copy]]++ #[.pointer (some ⟨bo,0,none⟩)]) w (dz w X (Pick OwnN 131 Ev.fs base bo) S t (l++[.leaf pg y])):=by
 obtain⟨A,cap,hO,hB,Eo,hX⟩:=hv.rel;have hlen:=cL (F:=Ev.fs) (fun e=>by cases e<;>simp[Ev.fs]) l;have xn:=gC.form hO;have za:bo<w.heap.size:=(uZ hB).1;have c0:w.cell? ⟨bo,0,none⟩=some (.slice A (l.flatMap Ev.fs).length cap):=aa hB 0;have f0:w.frozen? ⟨bo,0,none⟩=false:=ae hB 0;obtain⟨L,hL⟩: ∃L,L=l.flatMap Ev.fs:=⟨_,rfl⟩;rw[<-hL]at hlen c0;have HV:=va hv;have HO:=va hO;have HB:=va hB;have HX:=va hX;have ID:=va Eo;have HF:=va xn;have HL:=va hL;clear hv hO hB hX Eo xn hL;have yB:=hp.box;obtain⟨w0,vE⟩: ∃w0,w0=w.alloc (.cells #[.int .i64 (y.frame:Int), .int .u8 (y.prot:Int), .bool y.copy] 83):=⟨_,rfl⟩;have vF:Below w.heap.size w w0:=(by rw[vE];exact vc);have Az:w0.heap[w.heap.size]? =some (.cells #[.int .i64 (y.frame:Int), .int .u8 (y.prot:Int), .bool y.copy] 83 (0,0)):=(by rw[vE];exact ab _ _);have d0:w0.cell? ⟨w.heap.size,0,none⟩=some (.int .i64 (y.frame:Int)):=aa Az 0;have c0':w0.cell? ⟨bo,0,none⟩=some (.slice A L.length cap):=(vF.cell za).trans c0;have f0':w0.frozen? ⟨bo,0,none⟩=false:=(vF.frozen za).trans f0;have wz:=vF.size;have xV:=va (vF.alloc vF.size (.cells #[.int .i64 (y.frame:Int)] 3));have AI:OwnN w0 base A cap L:=(HL.out▸HO.out:OwnN w base A cap L).below vF (vd _);have FD:=va AI;have vY:=va vE;clear vE AI c0 f0 Az vF;go_enter Tryz.func95,Tryz.ntmps95;go_upto_region 1 with(fail);rw[<-vY.out];go_wp2_with (first
  |(at_builtin;refine pq rfl (.tmp 5) (.tmp 8) rfl base A cap L rfl (FD.out.alloc _) y.frame w0.heap.size 1 rfl (ab _ _) (by omega) (by simp;omega) ?_;intro g vA w1 ho hg wK vH;have xE:=Pick.cell HF.out ID.out HB.out xV.out hg;rw[<-HL.out]at xE;have c1:w1.cell? ⟨bo,0,none⟩=some (.slice A L.length cap):=aa xE 0;have f1:w1.frozen? ⟨bo,0,none⟩=false:=ae xE 0;have vS:=va ho;have HG:=va hg;have Cv:=va wK;have xC:=va xE;clear ho hg wK xE)
  |fail)
 go_end0;exact Pick.more gC HV.out (x:=y.frame) rfl HX.out HO.out xV.out HG.out Cv.out vH (HL.out▸vS.out) ID.out za hp.low hp.tab hp.pos (by rw[vf,<-HL.out];exact bm xC.out) (aj (S:=fun b=>b=bo) (b:=bo) rfl 0 _) (by simp)
theorem all2_any (base bo t:Nat) (S:Nat->Prop) (hp:nX S t base bo) (w:World) (l:List Ev) (X:Nat->Prop) (pg:Nat) (y:Leaf)
  (hv:eJ (Pick OwnP 80 Ev.ls base bo) S t w l X) (wb:l.length<1000000):
  Calls Tryz.prog 76 (#[.int .u64 ((pg*4096:Nat):Int), .agg #[.int .i64 (y.frame:Int), .int .u8 (y.prot:Int), .bool y.copy]]++ #[.pointer (some ⟨bo,0,none⟩)]) w (dz w X (Pick OwnP 80 Ev.ls base bo) S t (l++[.leaf pg y])):=by
 obtain⟨A,cap,hO,hB,Eo,hX⟩:=hv.rel;have hlen:=cL (F:=Ev.ls) (fun e=>by cases e<;>simp[Ev.ls]) l;have xn:=dJ.form hO;have za:bo<w.heap.size:=(uZ hB).1;have c0:w.cell? ⟨bo,0,none⟩=some (.slice A (l.flatMap Ev.ls).length cap):=aa hB 0;have f0:w.frozen? ⟨bo,0,none⟩=false:=ae hB 0;obtain⟨L,hL⟩: ∃L,L=l.flatMap Ev.ls:=⟨_,rfl⟩;rw[<-hL]at hlen c0;have HV:=va hv;have HO:=va hO;have HB:=va hB;have HX:=va hX;have ID:=va Eo;have HF:=va xn;have HL:=va hL;clear hv hO hB hX Eo xn hL;have yB:=hp.box;obtain⟨w0,vE⟩: ∃w0,w0=w.alloc (.cells #[.int .i64 (y.frame:Int), .int .u8 (y.prot:Int), .bool y.copy] 83):=⟨_,rfl⟩;have vF:Below w.heap.size w w0:=(by rw[vE];exact vc);have Az:w0.heap[w.heap.size]? =some (.cells #[.int .i64 (y.frame:Int), .int .u8 (y.prot:Int), .bool y.copy] 83 (0,0)):=(by rw[vE];exact ab _ _);have d0:w0.cell? ⟨w.heap.size,0,none⟩=some (.int .i64 (y.frame:Int)):=aa Az 0;have d1:w0.cell? ⟨w.heap.size,1,none⟩=some (.int .u8 (y.prot:Int)):=aa Az 1;have d2:w0.cell? ⟨w.heap.size,2,none⟩=some (.bool y.copy):=aa Az 2;have c0':w0.cell? ⟨bo,0,none⟩=some (.slice A L.length cap):=(vF.cell za).trans c0;have f0':w0.frozen? ⟨bo,0,none⟩=false:=(vF.frozen za).trans f0;have wz:=vF.size;have xV:=va (vF.alloc vF.size (.cells #[.int .u64 ((pg*4096:Nat):Int), .int .i64 (y.frame:Int), .int .u8 (y.prot:Int), .bool y.copy] 85));have AI:OwnP w0 base A cap L:=dJ.same (HL.out▸HO.out:OwnP w base A cap L) (fun g hg=>vF.block g (by
  rcases HF.out with⟨e,_⟩|⟨g',e,_,vH,_⟩
  ·rw[e]at hg;cases hg
  ·rw[e]at hg;injection hg with hg;injection hg with hg;omega))
 have FD:=va AI;have vY:=va vE;clear vE AI c0 f0 Az vF;go_enter Tryz.func76,Tryz.ntmps76;go_upto_region 1 with(fail);rw[<-vY.out];go_wp2_with (first
  |(at_builtin;refine app_put rfl (.tmp 5) (.tmp 9) rfl base A cap L rfl (dJ.same FD.out (fun g hg=>ve _ _ _ (by
    rcases dJ.form FD.out with⟨e,_⟩|⟨g',e,_,vH,_⟩
    ·rw[e]at hg;cases hg
    ·rw[e]at hg;injection hg with hg;injection hg with hg;omega))) (pg,y) w0.heap.size 1 rfl (ab _ _) (by omega) (by simp;omega) ?_;intro g vA w1 ho hg wK vH;have xE:=Pick.cell HF.out ID.out HB.out xV.out hg;rw[<-HL.out]at xE;have c1:w1.cell? ⟨bo,0,none⟩=some (.slice A L.length cap):=aa xE 0;have f1:w1.frozen? ⟨bo,0,none⟩=false:=ae xE 0;have vS:=va ho;have HG:=va hg;have Cv:=va wK;have xC:=va xE;clear ho hg wK xE)
  |fail)
 go_end0;exact Pick.more dJ HV.out (x:=(pg,y)) rfl HX.out HO.out xV.out HG.out Cv.out vH (HL.out▸vS.out) ID.out za hp.low hp.tab hp.pos (by rw[vf,<-HL.out];exact bm xC.out) (aj (S:=fun b=>b=bo) (b:=bo) rfl 0 _) (by simp)
end
section
open Go.RowKit Go.Sort
def uO {α:Type} (Own:World->Nat->Option Addr->Nat->List α->Prop) (w:World) (l:List α) (e:Ending) (w':World):Prop:= ∃A cap,e= .returned (.slice A l.length cap)/\Own w' w.heap.size A cap l/\Below w.heap.size w w'
theorem Pick.end {α:Type} {Own:World->Nat->Option Addr->Nat->List α->Prop} {ty:TypeId} {F:Ev->List α} {w w0 w1:World} {S X0:Nat->Prop} {t:Nat} {l:List Ev} {bo:Nat} (hbo:bo=w.heap.size) (vF:Below w.heap.size w w0) (hX: ∀b,X0 b->b=bo) {X1:Nat->Prop} (hv:eJ (Pick Own ty F w.heap.size bo) S t w1 l X1) (hm:Mod X0 w0 w1):
  ∃A cap,w1.cell? ⟨bo,0,none⟩=some (.slice A (l.flatMap F).length cap)/\Own w1 w.heap.size A cap (l.flatMap F)/\Below w.heap.size w w1:=by
 obtain⟨A,cap,h1,h2,h3,h4⟩:=hv.rel;refine⟨A,cap,aa h2 0,h1,?_⟩;exact((Mod.of vF).trans (Out.refl _ _) (hm.sub fun b hb=>by have:=hX b hb;omega)).below (S:=fun b=>b=bo) (fun b hb=>by omega) (vd _)
theorem pO (t c a root:Nat) (w:World) (S:Nat->Prop) (p:Pool) (T:Tab) (rest:Nat->Nat) (pg0:Nat) (h:am w S a p) (ht:al w t c a root) (hg:T.Good p rest pg0 4) (hr:T.nd 4 0=some root):
  Calls Tryz.prog 34 #[.pointer (some ⟨t,0,none⟩)] w (uO OwnP w ((T.evs 4 0).flatMap Ev.ls)):=by
 have wT:t<w.heap.size:=(uZ ht).1;have wo:=h.pos;have wk:=h.low;have yr:=hg.ok.short;obtain⟨w0,vE⟩: ∃w0,w0=w.alloc (.cells #[.slice none 0 0] 80):=⟨_,rfl⟩;have vF:Below w.heap.size w w0:=(by rw[vE];exact vc);have xr:w0.heap[w.heap.size]? =some (.cells #[.slice none 0 0] 80 (0,0)):=(by rw[vE];exact ab _ _);have yP:al w0 t c a root:=(vF.block t wT).trans ht;have c2:w0.cell? ⟨t,2,none⟩=some (.int .i64 (root:Int)):=aa yP 2;have hp:nX S t w.heap.size w.heap.size:=⟨wk,wT,wo,vd _⟩;have Hq:=sb (bo:=w.heap.size) (.inr (.inl ⟨rfl,rfl,rfl,rfl⟩)) t c a root root 0 (Pick OwnP 80 Ev.ls w.heap.size w.heap.size) w0 S p T rest pg0 (fun b=>b=w.heap.size) [] (h.below vF) yP hg hr (by decide) (Pick.start (World.ownsRow_nil _ _ _ 4) xr (fun b hb=>by have:=wk b hb;omega) (by omega) (by omega)) (by simp;omega) (Pick.stays dJ)
  (fun w l X f hv hl=>all1_any _ _ _ _ S w l X f hv) (fun w l X pg y hv hl=>all2_any _ _ _ S hp w l X pg y hv hl) 0 (by simp)
 have HT:=va ht;have HV:=va Hq;have vY:=va vE;have HB:=va vF;clear ht h hg hr Hq vE vF yP xr hp wk;go_enter Tryz.func34,Tryz.ntmps34;go_wp2_with fail;refine(cQ t c a root _ HT.out).mono ?_;rintro e w1 ⟨rfl,rfl⟩;go_upto_region 4 with(fail);rw[<-vY.out];go_wp2_with fail;refine HV.out.mono ?_;rintro e w1 ⟨rfl,X1,Ew,xJ,wi⟩;obtain⟨A,cap,d1,wR,Bv⟩:=Pick.end rfl HB.out (fun b hb=>hb) Ew xJ;rw[List.nil_append]at d1 wR;have vS:=va wR;obtain⟨n,hn⟩: ∃n,n=((T.evs 4 0).flatMap Ev.ls).length:=⟨_,rfl⟩;rw[<-hn]at d1;have HN:=va hn;clear Ew xJ wi wR hn;go_wp2_with fail;go_ret;exact⟨A,cap,(by rw[<-HN.out];rfl),vS.out,Bv⟩
end
section
open Go.RowKit Go.Sort
def cj (p:Pool) (L:List Nat):Pool:=L.foldl Pool.down p
theorem kq (p:Pool) (L:List Nat):(cj p L).n=p.n:=by
 induction L generalizing p with
 |nil=>rfl
 |cons f L ih=>exact ih (p.down f)
theorem dy (p:Pool) (L:List Nat):(cj p L).dat=p.dat:=by
 induction L generalizing p with
 |nil=>rfl
 |cons f L ih=>exact ih (p.down f)
theorem nO (p:Pool) (L:List Nat) (f:Nat):(cj p L).cnt f=p.cnt f-L.count f:=by
 induction L generalizing p with
 |nil=>rfl
 |cons g L ih=>
  show(cj (p.down g) L).cnt f=_;rw[ih,List.count_cons];show upd p.cnt g (p.cnt g-1) f-_ =_;by_cases c:f=g
  ·subst c;rw[af];simp;omega
  ·rw[ag _ _ c];have:(g==f)=false:=(by simpa using fun e=>c e.symm);simp[this]
theorem rJ (p:Pool) (L:List Nat) (f:Nat):cj p (L++[f])=(cj p L).down f:=by
 unfold cj;rw[List.foldl_append];rfl
variable {k:Nat}
theorem dX {α:Type} {L:List α} {x:α} (h:L[k]? =some x):L.take (k+1)=L.take k++[x]:=by
 rw[List.take_add_one,h];rfl
theorem mm {L:List Nat} {f:Nat} (h:L[k]? =some f):(L.take k).count f+1<=L.count f:=by
 have h1:(L.take (k+1)).count f<=L.count f:=(List.take_sublist _ _).count_le f;rw[dX h,List.count_append]at h1;simpa using h1
def FreePost (w:World) (S:Nat->Prop) (t a:Nat) (p:Pool) (L:List Nat) (e:Ending) (w':World):Prop:=
 e= .returned (.tuple #[])/\am w' S a (cj p L)/\Mod (fun b=>S b\/b=t) w w'/\w'.cell? ⟨t,1,none⟩=some (.pointer none)
theorem mL (t c a root:Nat) (w:World) (S:Nat->Prop) (p:Pool) (T:Tab) (rest:Nat->Nat) (pg0:Nat) (h:am w S a p) (ht:al w t c a root) (Am: ¬S t) (Rp:t≠0) (hg:T.Good p rest pg0 4) (hr:T.nd 4 0=some root):
  Calls Tryz.prog 58 #[.pointer (some ⟨t,0,none⟩)] w (FreePost w S t a p ((T.evs 4 0).flatMap Ev.fs)):=by
 have wT:t<w.heap.size:=(uZ ht).1;have wo:=h.pos;have wk:=h.low;have yr:=hg.ok.short;have Gb: ∀f,f<p.n->((T.evs 4 0).flatMap Ev.fs).count f<=p.cnt f:=fun f hf=>by rw[hg.ok.frames_cnt,hg.cnt f hf];omega
 have wI: ∀f,f∈(T.evs 4 0).flatMap Ev.fs->f<p.n:=by
  intro f hf;have h1:=List.count_pos_iff.2 hf;rw[hg.ok.frames_cnt]at h1;by_cases c:an T f
  ·obtain⟨l,q,hl⟩:=c;exact(hg.node hl).1
  ·rw[aE c]at h1;have h2:0<ah T f:=(by omega);by_cases c9: ∃i,i<bz/\cE T f i=true
   ·obtain⟨i,_,hi⟩:=c9;unfold cE at hi;cases hl:T.lf i with
    |none=>rw[hl]at hi;cases hi
    |some l=>
     rw[hl]at hi;have e:l.frame=f:=(by simpa using hi);rw[<-e];exact(hg.but.leaf _ l hl).2.2
   ·have:ah T f=0:=eo.2 fun i hi=>by
     by_cases c8:cE T f i=true
     ·exact absurd ⟨i,hi,c8⟩ c9
     ·simpa using c8
    omega
 obtain⟨w0,vE⟩: ∃w0,w0=w.alloc (.cells #[.slice none 0 0] 131):=⟨_,rfl⟩;have vF:Below w.heap.size w w0:=(by rw[vE];exact vc);have xr:w0.heap[w.heap.size]? =some (.cells #[.slice none 0 0] 131 (0,0)):=(by rw[vE];exact ab _ _);have yP:al w0 t c a root:=(vF.block t wT).trans ht;have c2:w0.cell? ⟨t,2,none⟩=some (.int .i64 (root:Int)):=aa yP 2;have hp:nX S t w.heap.size w.heap.size:=⟨wk,wT,wo,vd _⟩;have Hq:=sb (bo:=w.heap.size) (.inr (.inr ⟨rfl,rfl,rfl,rfl⟩)) t c a root root 0 (Pick OwnN 131 Ev.fs w.heap.size w.heap.size) w0 S p T rest pg0 (fun b=>b=w.heap.size) [] (h.below vF) yP hg hr (by decide) (Pick.start (OwnN.nil _ _) xr (fun b hb=>by have:=wk b hb;omega) (by omega) (by omega)) (by simp;omega) (Pick.stays gC)
  (fun w l X f hv hl=>tP _ _ _ S hp w l X f hv hl) (fun w l X pg y hv hl=>tO _ _ _ S hp w l X pg y hv hl) 0 (by simp)
 rw[List.nil_append]at Hq;have hlen:=cL (F:=Ev.fs) (fun e=>by cases e<;>simp[Ev.fs]) (T.evs 4 0);obtain⟨L,hL⟩: ∃L,L=(T.evs 4 0).flatMap Ev.fs:=⟨_,rfl⟩;obtain⟨n,hn⟩: ∃n,n=L.length:=⟨_,rfl⟩;rw[<-hL]at Gb wI hlen⊢;have HT:=va ht;have HV:=va Hq;have vY:=va vE;have HB:=va vF;have HP:=va h;have HL:=va hL;have HN:=va hn;have QX:=va Gb;have xQ:=va wI;rw[<-hn]at hlen;clear ht h hg hr Hq vE vF yP xr hp hL hn Gb wI;go_enter Tryz.func58,Tryz.ntmps58;go_wp2_with fail;refine(cQ t c a root _ HT.out).mono ?_;rintro e w1 ⟨rfl,rfl⟩;go_upto_region 2 with(fail);rw[<-vY.out];go_wp2_with fail;refine HV.out.mono ?_;rintro e w1 ⟨rfl,X1,Ew,xJ,wi⟩;obtain⟨A,cap,d1,wR,Bv⟩:=Pick.end rfl HB.out (fun b hb=>hb) Ew xJ;rw[<-HL.out]at d1 wR;rw[<-HN.out]at d1;have vS:=va wR;have vJ:=va Bv;have wg:=Bv.size;clear Ew xJ wi wR;go_wp2_with fail;go_loopw [17] (fun i wr=> ∃(k:Nat),i= .int .i64 (k:Int)/\k<=n/\am wr S a (cj p (L.take k))/\Mod S w1 wr) (fun i _ =>n-(intOf i).toNat)
 case atStart=>exact⟨0,rfl,by omega,HP.out.below vJ.out,Mod.refl _ _⟩
 case round=>
  obtain⟨k,rfl,hk,Ht,GK⟩:=hrel;have RY:=va Ht;have HMK:=va GK;have hzk:=GK.size;have Xq:al wr t c a root:=(GK.block t (by omega) Am).trans ((vJ.out.block t wT).trans HT.out);have d2:wr.cell? ⟨t,1,none⟩=some (.pointer (some ⟨a,0,none⟩)):=aa Xq 1;have d3:wr.frozen? ⟨t,1,none⟩=false:=ae Xq 1;have IU:=va Xq;clear Ht GK Xq d1;by_cases vH:k<n
  ·obtain⟨f,hf⟩: ∃f,L[k]? =some f:=⟨L[k]'(by rw[<-HN.out];exact vH),vg _⟩;have PF:f∈L:=vl hf;have Di:=xQ.out f PF;have xU:=QX.out f Di;have zM:=mm hf;have Xm:=nO p (L.take k) f;have Cd:1<=(cj p (L.take k)).cnt f:=(by omega);have EM:f<(cj p (L.take k)).n:=(by rw[kq];exact Di);rcases OwnN.form vS.out with⟨_,e,_⟩|⟨g,e,hbg,GP,_⟩
   ·rw[e]at hf;cases hf
   have hgS: ¬S g:=fun e'=>by have:=wk g e';omega
   have ZP:OwnN wr w.heap.size A cap L:=vS.out.same fun g' e'=>by
    rw[e]at e';injection e' with e';injection e' with e';subst e';exact HMK.out.block g GP hgS
   rw[e]at ZP;have d4:=ZP.elem hf;subst e;have HF:=va hf;have Ct:=va Cd;have HN4:=va EM;clear hf PF Di xU zM Xm Cd EM ZP;go_wp2_with fail;refine(cZ a f _ S _ RY.out HN4.out Ct.out).mono ?_;rintro e w2 ⟨rfl,hp2,vT⟩;have Ol:=va hp2;have Fp:=va vT;clear hp2 vT;go_wp2_with fail;go_roundw
   case rel=>exact⟨k+1,by go_num,by omega,by rw[dX HF.out,rJ];exact Ol.out,HMK.out.trans (Out.refl _ _) Fp.out⟩
   case measure=>(simp[intOf];omega)
  ·obtain rfl:k=n:=(by omega);go_wp2_with fail;go_end0;have xk:L.take k=L:=List.take_of_length_le (by rw[<-HN.out];exact vd _);have Ht:=RY.out;rw[xk]at Ht;refine⟨rfl,Ht.mod (aj (S:=fun b=>b=t) rfl 1 _) (fun b hb e=>Am (e▸hb)) (fun e=>Rp e.symm),?_,?_⟩
   ·exact((Mod.of vJ.out).trans (Out.refl _ _) (HMK.out.sub fun b hb=> .inl hb)).trans (Out.refl _ _) (aj (S:=fun b=>S b\/b=t) (.inr rfl) 1 _)
   ·exact aa (Joins.block_setCell (i:=1) IU.out (.pointer none)) 1
end
