/- Memories that share nothing: what Permits says. -/
import Derived.Test.YtoochjhipmpehaaGreatDoorKmK
set_option linter.unusedVariables false
set_option linter.unusedSimpArgs false
set_option maxRecDepth 100000
set_option maxHeartbeats 4000000
namespace Go.Proofs.YtoochjhipmpehaaGreatDoor
open Go.Proofs.Tryz
section
open Go.RowKit Go.Sort
theorem pst_next {x:Nat×Nat}{k:Nat}(h:0<(pst x k).2):(0<(pst x (k+1)).2/\((pst x k).1/4096+1)*4096=(pst x (k+1)).1)\/((pst x (k+1)).2=0/\x.1+x.2<=((pst x k).1/4096+1)*4096):=by
 have h1:=cA x k;have h2:(pst x (k+1)).1=(pst x k).1+pm (pst x k):=rfl;have h3:(pst x (k+1)).2=(pst x k).2-pm (pst x k):=rfl;have h4:pm (pst x k)=min (pst x k).2 (4096-(pst x k).1 % 4096):=rfl;omega
theorem jA (n cap:Nat)(A:Option Addr)(rl:List Reg)(addr len:Nat)(want:Int)(w:World)(xG:RSl w w.heap.size A n cap rl)(hw:addr<18446744073709551616)(hl:len<9223372036854775808):
  Calls prog 145 #[.slice A n cap,.int .u64 (addr:Int),.int .i64 (len:Int),.int .u8 want] w
   fun e w'=>e= .returned (.bool (df rl (addr,len) want))/\Below w.heap.size w w':=by
 have yl:IntKind.u64.wrap (len:Int)=(len:Int):=v_;have zR:=wP xG;clear xG;by_cases Ag:140737488355328<addr
 ·have Ds:=wP (show df rl (addr,len) want=false from cm (fun h=>by have:=h.1;simp at this;omega));have i0:(140737488355328:Int)<(addr:Int):=o_;go_enter func145,ntmps145;go_wp2_with fail;go_ret;exact⟨by rw[Ds.o];rfl,xp _ _⟩
 have i0: ¬(140737488355328:Int)<(addr:Int):=o_;have yU:IntKind.u64.wrap (140737488355328-(addr:Int))=140737488355328-(addr:Int):=v_;by_cases JF:(140737488355328:Int)-(addr:Int)<(len:Int)
 ·have Ds:=wP (show df rl (addr,len) want=false from cm (fun h=>by have:=h.1;simp at this;omega));go_enter func145,ntmps145;go_wp2_with fail;go_ret;exact⟨by rw[Ds.o];rfl,xp _ _⟩
 have ze:addr+len<=140737488355328:=o_;have zV:IntKind.u64.wrap ((addr:Int)+(len:Int))=(addr:Int)+(len:Int):=v_;obtain⟨P,hP⟩:=e_ (df rl (addr,len) want);rw[<-hP];have HP:=wP hP;clear hP;go_enter func145,ntmps145;go_wp2_with fail;go_loopw [10] (fun i wr=> ∃k a:Nat,i= .int .u64 (a:Int)/\((0<(pst (addr,len) k).2/\a=(pst (addr,len) k).1)\/((pst (addr,len) k).2=0/\addr+len<=a/\a<9223372036854775808))/\(∀j,j<k-> ∃r,Rg.find rl ((pst (addr,len) j).1:Int)=(r,true)/\bits .and .u8 r.prot want=want)/\Below w.heap.size w wr) (fun i _ =>addr+len-(intOf i).toNat)
 case atStart=>
  refine⟨0,addr,rfl,?_,fun j hj=>absurd hj o_,xp _ _⟩;rcases Nat.eq_zero_or_pos len with h0|h0
  ·exact .inr ⟨h0,o_,o_⟩
  ·exact .inl ⟨h0,rfl⟩
 case round=>
  obtain⟨k,a,rfl,yi,ya,hb⟩:=hrel;obtain⟨Hu,HB⟩:=zh2 ya hb;clear ya hb;rcases yi with⟨h0,ha⟩|⟨h0,ha,DI⟩
  ·have CY:=cA (addr,len) k;have Ih:=pst_next h0;have Dz:a<addr+len:=(by simp only at CY;omega);have i1:(a:Int)<(addr:Int)+(len:Int):=o_;have Kz:=om A n cap (a:Int) wr rl ((zR.o.below HB.o (wS _)).more HB.o.size);obtain⟨⟨r,bf⟩,DE⟩: ∃rb,rb=Rg.find rl (a:Int):=⟨_,rfl⟩;rw[<-DE]at Kz;obtain⟨Hz,Uv,HNX,HA,H0⟩:=zh5 Kz DE Ih ha h0;clear Kz DE CY Ih ha h0;have Ah:(bf=false\/bits .and .u8 r.prot want≠want)->P=false:=fun h=>by
    rw[HP.o];refine cm fun h2=>?_;obtain⟨r2,e1,e2⟩:=h2.2 k H0.o;rw[<-HA.o,<-Uv.o]at e1;injection e1 with e1 e3;subst e1;exact h.elim (fun h=>by rw[h]at e3;cases e3) (fun h=>h e2)
   have Jz:=wP Ah;clear Ah;cases bf with
   |false=>
    have HN:=wP (Jz.o (.inl rfl));go_wp2_with (first
     |(go_at_call 166;refine(Hz.o).mono ?_;rintro e w1⟨rfl,xu⟩)
     |fail)
    go_ret;exact⟨by rw[HN.o];rfl,(HB.o.trans (xu.mono HB.o.size)).alloc (xn HB.o.size xu.size) _⟩
   |true=>
    by_cases AP:bits .and .u8 r.prot want=want
    ·have PL:(bits .and .u8 r.prot want != want)=false:=(by rw[AP];simp);have Nm:=wP (show∀j,j<k+1-> ∃r,Rg.find rl ((pst (addr,len) j).1:Int)=(r,true)/\bits .and .u8 r.prot want=want from fun j hj=>by
      rcases Nat.lt_or_ge j k with h1|h1
      ·exact Hu.o j h1
      ·obtain rfl:j=k:=o_;exact⟨r,by rw[<-HA.o,<-Uv.o],AP⟩)
     have i2:(0:Int)<=(a:Int):=o_;have i3:(a:Int).tdiv 4096=((a/4096:Nat):Int):=(by rw[Int.tdiv_eq_ediv_of_nonneg i2];omega);have i4:IntKind.u64.wrap (((a/4096:Nat):Int)+1)=((a/4096:Nat):Int)+1:=v_;have i5:IntKind.u64.wrap ((((a/4096:Nat):Int)+1)*4096)=(((a/4096:Nat):Int)+1)*4096:=v_;have i6:IntKind.u64.wrap ((a/4096:Nat):Int)=((a/4096:Nat):Int):=v_;clear AP;go_wp2_with (first
      |(go_at_call 166;refine(Hz.o).mono ?_;rintro e w1⟨rfl,xu⟩)
      |fail)
     go_roundw
     case rel=>
      have Ih:=HNX.o;rw[<-HA.o]at Ih;refine⟨k+1,(a/4096+1)*4096,by go_num,?_,Nm.o,(HB.o.trans (xu.mono HB.o.size)).alloc (xn HB.o.size xu.size) _⟩;rcases Ih with⟨e1,e2⟩|⟨e1,e2⟩
      ·exact .inl ⟨e1,e2⟩
      ·exact .inr ⟨e1,e2,o_⟩
     case measure=>(simp[intOf];omega)
    ·have HN:=wP (Jz.o (.inr AP));go_wp2_with (first
      |(go_at_call 166;refine(Hz.o).mono ?_;rintro e w1⟨rfl,xu⟩)
      |fail)
     go_ret;exact⟨by rw[HN.o];rfl,(HB.o.trans (xu.mono HB.o.size)).alloc (xn HB.o.size xu.size) _⟩
  ·have SW:=wP (show P=true by
    rw[HP.o];refine fB ⟨ze,fun j hj=>Hu.o j ?_⟩;rcases Nat.lt_or_ge j k with h1|h1
    ·exact h1
    ·have:=eQ h0 (j-k);rw[show k+(j-k)=j by omega]at this;omega)
   have i1: ¬(a:Int)<(addr:Int)+(len:Int):=o_;clear h0;go_wp2_with fail;go_ret;exact⟨by rw[SW.o];rfl,HB.o⟩
end
section
open Go.RowKit Go.Sort
structure ShM where
 ad:Nat
 g:Nat
 cp:Nat
def shC (x:ShM):List Value:=[.int .u64 (x.ad:Int),.slice (some ⟨x.g,0,none⟩) 4096 x.cp]
theorem cy:Elem 115 119 2 32 (.agg #[.int .u64 0,.slice none 0 0]) shC where
 und:=underlying115
 info:=k_
 size:=rfl
 pos:=o_
 small:=o_
 len _ :=rfl
 one x v hv:=by
  simp only[shC,List.mem_cons,List.not_mem_nil,or_false]at hv;rcases hv with rfl|rfl<;>rfl
structure FlM where
 f:Nat
 A:Option Addr
 cap:Nat
 rl:List Reg
 PA:Option Addr
 pc:Nat
 ps:List ShM
 gone:Bool
def flV (q:Nat)(x:FlM):Array Value:= #[.pointer (some ⟨q,0,none⟩),.slice x.A x.rl.length x.cap,.slice x.PA x.ps.length x.pc,.bool x.gone]
def Pg (w:World)(D g cp:Nat):Prop:= ∃d,OwnB w D (some ⟨g,0,none⟩) cp 4096 d
structure az (w:World)(D q:Nat)(x:FlM):Prop where
 self:w.heap[x.f]? =some (.cells (flV q x) 117 (0,0))
 low:D<=x.f
 reg:OwnR w D x.A x.cap x.rl
 row:OwnG 119 2 shC w D x.PA x.pc x.ps
 pages: ∀s∈x.ps,Pg w D s.g s.cp
variable {w w':World}{D q base cap:Nat}{R:Option Addr}{L:List NdR}{F:List Nd}{x:FlM}
theorem az.lt (h:az w D q x):x.f<w.heap.size:=(wO h.self).1
theorem az.c (h:az w D q x):w.cell? ⟨x.f,0,none⟩=some (.pointer (some ⟨q,0,none⟩))/\w.cell? ⟨x.f,1,none⟩=some (.slice x.A x.rl.length x.cap)/\w.cell? ⟨x.f,2,none⟩=some (.slice x.PA x.ps.length x.pc)/\w.cell? ⟨x.f,3,none⟩=some (.bool x.gone):=⟨aa h.self 0,aa h.self 1,aa h.self 2,aa h.self 3⟩
theorem oe (n:Nat)(f:Nat->Value):(rowV n f).toList=(List.range n).map f:=by
 simp[rowV]
theorem uW (w:World)(n:Nat)(hn:n<=1000000)(d:Nat->Nat):OwnB (w.alloc (.cells (rowV n fun i=> .int .u8 (d i:Int)) 5)) w.heap.size (some ⟨w.heap.size,0,none⟩) n n d:=
 ⟨s_,.inr ⟨w.heap.size,n,_,rfl,wS _,ab w _,wS _,xn hn d_,by rw[<-Array.length_toList,oe];simp,by rw[oe,List.take_of_length_le s_]⟩⟩
variable {g cp:Nat}
theorem Pg.kept (h:Pg w D g cp)(hb:Below w.heap.size w w'):Pg w' D g cp:=by
 obtain⟨d,h⟩:=h;exact⟨d,.ofG (h.toG.kept hb)⟩
variable {n:Nat}{d:Nat->Nat}
theorem OwnB.below0 {D:Nat}(h:OwnB w D (some ⟨g,0,none⟩) cp n d)(hb:Below w.heap.size w w'):OwnB w' D (some ⟨g,0,none⟩) cp n d:= .ofG (h.toG.kept hb)
theorem ap.putFar {b i:Nat}{v:Value}(h:ap w (some ⟨g,0,none⟩) n d)(hg:g<w.heap.size)(xA:g≠b):ap (w.setCell ⟨b,i,none⟩ v) (some ⟨g,0,none⟩) n d:=fun h0=>by
 obtain⟨y,e,hy⟩:=h h0;injection e with e;subst e;refine⟨_,rfl,fun j hj=>?_⟩;have:=hy j hj;rw[Addr.add_mid]at this⊢;have h9:=(aj (S:=fun x=>x=b) (w:=w) rfl i v).block g hg xA;unfold World.cell? at this⊢;simpa only[h9]using this
theorem az.kept (h:az w D q x)(hb:Below w.heap.size w w'):az w' D q x:=⟨(hb.block _ h.lt).trans h.self,h.low,h.reg.below hb (wS _),h.row.kept hb,fun s hs=>(h.pages s hs).kept hb⟩
theorem tu (page:Nat)(h:az w D q x)(hF:dx w base q R cap L F)(xD:F.length<=1000)(DE:x.rl.length<=1000000)(hp:page<18446744073709551616):
  Calls prog 167 #[.pointer (some ⟨x.f,0,none⟩),.int .u64 (page:Int)] w fun e w'=> ∃g cp,e= .returned (.slice (some ⟨g,0,none⟩) 4096 cp)/\Pg w' w.heap.size g cp/\Below w.heap.size w w':=by
 obtain⟨w1,Ad⟩:=e_ (w.alloc (.cells (rowV 4096 fun _ => .int .u8 0) 5));have IN:(Instr.makeSlice 39 (.int .i64 4096) (.int .i64 4096)).run prog w= .ok (.slice (some ⟨w.heap.size,0,none⟩) 4096 4096) w1:=(by rw[Ad];exact gj 4096 o_ w);have xu:Below w.heap.size w w1:=(by rw[Ad];exact wR);have xG:OwnB w1 w.heap.size (some ⟨w.heap.size,0,none⟩) 4096 4096 (fun _ =>0):=(by rw[Ad];exact uW w 4096 o_ fun _ =>0);have Ha:=h.kept xu;obtain⟨c0,c1, -, -⟩:=Ha.c;have Kz:=om x.A x.rl.length x.cap (page:Int) w1 x.rl (Ha.reg.rsl DE);obtain⟨⟨r,bf⟩,TQ⟩: ∃rb,rb=Rg.find x.rl (page:Int):=⟨_,rfl⟩;rw[<-TQ]at Kz;obtain⟨Hz,HF,H,xI,zR⟩:=zh5 Kz hF h xu xG;clear Kz TQ hF h xu xG Ad Ha;go_enter func167,ntmps167;cases bf with
 |false=>
  go_wp2_with (first
   |(go_at_call 166;refine(Hz.o).mono ?_;rintro e w2⟨rfl,xx⟩)
   |fail)
  go_ret;exact⟨_,_,rfl,⟨_,zR.o.below0 ((xx.mono (wS _)).alloc xx.size _)⟩,xI.o.trans ((xx.mono xI.o.size).alloc (xn xI.o.size xx.size) _)⟩
 |true=>
  by_cases hi:r.ino<0
  ·go_wp2_with (first
    |(go_at_call 166;refine(Hz.o).mono ?_;rintro e w2⟨rfl,xx⟩)
    |fail)
   go_ret;exact⟨_,_,rfl,⟨_,zR.o.below0 ((xx.mono (wS _)).alloc xx.size _)⟩,xI.o.trans ((xx.mono xI.o.size).alloc (xn xI.o.size xx.size) _)⟩
  ·go_upto_region 5 with(first
    |(go_at_call 166;refine(Hz.o).mono ?_;rintro e w2⟨rfl,xx⟩)
    |fail)
   obtain⟨o,hof⟩: ∃o:Nat,IntKind.u64.wrap (IntKind.u64.wrap (r.off+(page:Int))-r.fr)=(o:Int):=⟨(IntKind.u64.wrap (IntKind.u64.wrap (r.off+(page:Int))-r.fr)).toNat,v_⟩;by_cases ho:65536<=o
   ·have i1:(65536:Int)<=(o:Int):=o_;go_wp2_with fail;go_ret;exact⟨_,_,rfl,⟨_,zR.o.below0 ((xx.mono (wS _)).alloc xx.size _)⟩,xI.o.trans ((xx.mono xI.o.size).alloc (xn xI.o.size xx.size) _)⟩
   ·have i1: ¬(65536:Int)<=(o:Int):=o_;have i2:IntKind.i64.wrap (o:Int)=(o:Int):=(by rw[IntKind.wrap_i64];omega);go_upto_region 8 with fail;obtain⟨W,hW⟩:=e_ (w2.alloc (.cells #[.int .u64 r.fr,.int .u64 r.to,.int .u8 r.prot,.int .i64 r.ino,.int .u64 r.off] 45));rw[<-hW];have KY:w2.heap.size<W.heap.size:=(by rw[hW];simp);have St:Below w1.heap.size w1 W:=(by rw[hW];exact xx.alloc xx.size _);have FT:Below w.heap.size w W:=xI.o.trans (St.mono xI.o.size);have ZB:W.heap[w2.heap.size]? =some (.cells #[.int .u64 r.fr,.int .u64 r.to,.int .u8 r.prot,.int .i64 r.ino,.int .u64 r.off] 45 (0,0)):=(by rw[hW];exact ab w2 _);have b3:W.cell? ⟨w2.heap.size,3,none⟩=some (.int .i64 r.ino):=aa ZB 3;obtain⟨f0, -, -, -⟩:=(H.o.kept FT).c;have yO:=(H.o.kept FT).lt;have ID:=uB r.ino o 4096 (HF.o.kept (FT.trans ((xp W.heap.size W).drew.mono FT.size))) xD o_;obtain⟨KP,QB,Jw⟩:=zh3 ID (zR.o.below0 St) FT;clear ID FT St ZB hW xx;go_region_held3 (fun w'=>w'.cell? ⟨x.f,0,none⟩=some (.pointer (some ⟨q,0,none⟩))/\w'.cell? ⟨w2.heap.size,3,none⟩=some (.int .i64 r.ino))
     (go_keep)
     ((first
     |(go_at_call 190;refine(KP.o).mono ?_;rintro e w3⟨Rb,k,cp,er,d,rfl,hk,KD,Fm,xE⟩;have d0:w3.cell? ⟨x.f,0,none⟩=some (.pointer (some ⟨q,0,none⟩)):=(xE.cell yO).trans f0;have d3:w3.cell? ⟨w2.heap.size,3,none⟩=some (.int .i64 r.ino):=(xE.cell KY).trans b3)))
    all_goals
     have Jb:Below w.heap.size w w3:=Jw.o.trans (((xp W.heap.size W).drew.trans xE).mono Jw.o.size);have hr3:OwnB w3 w.heap.size (some ⟨w.heap.size,0,none⟩) 4096 4096 (fun _ =>0):=QB.o.below0 ((xp W.heap.size W).drew.trans xE);have UL:w.heap.size<W.heap.size:=QB.o.form.2;have Wu: ∀y,Rb=some y-> ∃g,y=⟨g,0,none⟩/\w.heap.size<g:=fun y hy=>by
      obtain⟨g,e1,e2⟩:=Fm y hy;have e3:W.heap.size<=g:=e2;exact⟨g,e1,o_⟩
     obtain⟨KQ,yZ,Iu,HGB⟩:=zh4 hr3 Jb KD Wu;clear xE hr3 Jb KD Fm Wu;go_wp2_with fail;go_loopw [11] (fun i wr=> ∃(j:Nat) (d':Nat->Nat),j<=k/\i= .int .i64 (j:Int)/\OwnB wr w.heap.size (some ⟨w.heap.size,0,none⟩) 4096 4096 d'/\ap wr Rb k d/\Below w.heap.size w wr) (fun i _ =>k-(intOf i).toNat)
     case atStart=>exact⟨0,_,xm _,rfl,KQ.o,Iu.o,yZ.o⟩
     case round=>
      obtain⟨j,d',hj,rfl,hr,hv,hb⟩:=hrel;obtain⟨HR,HV,HB⟩:=zh3 hr hv hb;clear hr hv hb;by_cases xw:j<k
      ·obtain⟨y,rfl,hy⟩:=HV.o o_;obtain⟨gr,rfl,JK⟩:=HGB.o y rfl;have e1:wr.cell? ⟨gr,j,none⟩=some (.int .u8 (d j:Int)):=by
        have:=hy j xw
        rwa [Addr.add_mid,Nat.zero_add]at this
       have e2:=HR.o.cell (show j<4096 by omega);have e3:wr.frozen? ⟨w.heap.size,j,none⟩=false:=World.ownsRow.frozenAt HR.o j;obtain⟨hp,KU,xx⟩:=zh3 (HR.o.put (x:=d j) (show j<4096 by omega)) (HV.o.putFar (b:=w.heap.size) (i:=j) (v:= .int .u8 (d j:Int)) (World.block_lt_of_cell? _ _ e1) o_) (HB.o.setCell (p:=⟨w.heap.size,j,none⟩) (wS _) (.int .u8 (d j:Int)));have i5:j<4096:=o_;clear hy;go_wp2_with fail;go_roundw
       case rel=>exact⟨j+1,_,o_,by go_num,hp.o,KU.o,xx.o⟩
       case measure=>(simp[intOf];omega)
      ·obtain rfl:j=k:=o_;go_wp2_with fail;go_ret;exact⟨_,_,rfl,⟨_,HR.o⟩,HB.o⟩
end
section
open Go.RowKit Go.Sort
def FlB (x:FlM)(b:Nat):Prop:=b=x.f\/x.A=some ⟨b,0,none⟩\/x.PA=some ⟨b,0,none⟩\/ ∃s∈x.ps,b=s.g
structure aU (w:World)(D q:Nat)(x:FlM)(w':World)(x':FlM):Prop where
 is:az w' D q x'
 f:x'.f=x.f
 mod:Mod (FlB x) w w'
 o:Out (FlB x) (FlB x') w
variable {w w' w2:World}{D q base cap:Nat}{R:Option Addr}{L:List NdR}{F:List Nd}{x x' x2:FlM}
section
variable {α:Type}{sT T:TypeId}{k bytes:Nat}{z:Value}{C:α->List Value}
theorem rL (hE:Elem sT T k bytes z C){w:World}{ops:Array Oper}{rest:List Oper}{o:Oper}{a:Act}{Q:Exit->Act->World->Prop}(zH:o.guard=none)(s x:Operand)
  (ho:o.op= .call { callee:= .builtin .append,args:= #[s,x],argTypes:= #[sT,sT]})
  (base:Nat)(R:Option Addr)(cap k1 m:Nat)(L L2:List α)(hk:L.length=k1)(hm:L2.length=m)(hs:a.eval s= .slice R k1 cap)(xC:OwnG T k C w base R cap L)
  (ad:Option Addr)(c:Nat)(hx:a.eval x= .slice ad m c)(hA:0<m-> ∃x,ad=some x/\ ∀j u,(L2.flatMap C)[j]? =some u->w.cell? (x.add j)=some u)(xD:k1+m<=1000000\/(bytes=1/\k1+m<=140737488355328))(xH:base<=w.heap.size)
  (h: ∀R' xq w',OwnG T k C w' base R' xq (L++L2)->Below base w w'->(∀b,b<w.heap.size->R≠some ⟨b,0,none⟩->w'.heap[b]? =w.heap[b]?)->(R'=R\/ ∀b,R'=some ⟨b,0,none⟩->w.heap.size<=b)->wpList prog ops Q rest (a.put o.dst (.slice R' (k1+m) xq)) w'):
  wpList prog ops Q (o::rest) a w:=by
 obtain⟨i0,zx,xT,xQ,xX⟩:=info_parts hE.info;have AK:=hE.small;by_cases GS:m=0
 ·subst GS;have xW:L2=[]:=List.eq_nil_of_length_eq_zero hm;subst xW;refine wpList_plain zH fun K hK=>?_;have hle:k1<=cap:=by
   rcases xC.form with⟨_,e,e2⟩|⟨g,_,_,_,e⟩
   ·rw[e]at hk;simp at hk;omega
   ·omega
  have Ae:Src prog i0.size sT (.slice ad 0 c) 0 [] w:=by
   cases ad with
   |none=>exact Src.ofNil w hE.und c
   |some ad=>exact Src.ofSlice w hE.und ad 0 c [] s_ (fun j u hu=>by simp at hu) (fun u hu=>by cases hu)
  have yL:=run_append_nothing (P:=prog) w sT sT o.type T i0 hE.und zx R k1 cap hle (.slice ad 0 c) Ae;have h9:=h R cap w (by rw[List.append_nil];exact xC) (xp _ _) (fun _ _ _ =>rfl) (.inl rfl);unfold Oper.wp;simp[execOp,ho,resolve,invoke,builtin,hs,hx,yL,Result.andThen];exact hK _ _ h9
 ·obtain⟨xa,rfl,Hr⟩:=hA o_;refine wpList_append_lies w zH s x sT ho base T i0 _ k bytes hE.und zx xT xQ xX hE.size hE.pos _ L.length (L.flatMap C) (by rw[hs,hk]) xC xa m c (L2.flatMap C) hx (by rw[hE.flat,hm]) Hr
   (fun u hu=>by obtain⟨r,_,hr⟩:=List.mem_flatMap.1 hu;exact hE.one r u hr) o_ (by unfold maxLen;omega) (by
    rcases xD with hf|⟨hf,KA⟩
    ·exact xn (Nat.mul_le_mul (show L.length+m<=1000000 by omega) AK) d_
    ·rw[hf,Nat.mul_one];omega) xH w.heap.size rfl ?_
  intro g xq w' zg hg yr xw;rw[hk]at zg⊢;have yE:w.grownBy w' (R.map (·.block)):=by cases R<;>simpa [Value.ownBlock]using hg
  refine h (some ⟨g,0,none⟩) xq w' ?_ ?_ (fun b hb xA=>yE.block b hb (fun e=>by
   rcases xC.form with⟨e1,_⟩|⟨g1,e1,_⟩
   ·rw[e1]at e;cases e
   ·rw[e1]at e xA;simp only[Option.map_some,Option.some.injEq]at e;subst e;exact xA rfl)) ?_
  rotate_left 2
  ·have yn:R.map (·.block)=some g\/g=w.heap.size:=by cases R<;>simpa [Value.ownBlock]using yr
   rcases yn with e|e
   ·rcases xC.form with⟨e1,_⟩|⟨g1,e1,_⟩
    ·rw[e1]at e;cases e
    ·rw[e1]at e;simp only[Option.map_some,Option.some.injEq]at e;exact .inl (by rw[e1,e])
   ·exact .inr fun b e2=>by injection e2 with e2;injection e2 with e2;omega
  ·unfold OwnG;rw[List.flatMap_append,wU,hk,hm];exact zg
  ·exact(xp _ _).grown yE xH (fun b hb=>by
    rcases xC.form with⟨e,_⟩|⟨g,e,h1,_⟩
    ·rw[e]at hb;cases hb
    ·rw[e]at hb;simp at hb;omega)
end
theorem aU.trans {w1:World}{x1:FlM}(h1:aU w D q x w1 x1)(h2:aU w1 D q x1 w' x'):aU w D q x w' x':=
 ⟨h2.is,h2.f.trans h1.f,h1.mod.trans h1.o h2.mod,fun b e=>(h2.o b e).elim (h1.o b) fun e=> .inr (xn h1.mod.size e)⟩
theorem az.lowB (h:az w D q x): ∀b,FlB x b->D<=b/\b<w.heap.size:=fun b e=>by
 rcases e with e|e|e|⟨s,hs,e⟩
 ·rw[e];exact⟨h.low,h.lt⟩
 ·rcases h.reg.form with⟨e1,_⟩|⟨g,e1,e2,e3,_⟩
  ·rw[e1]at e;cases e
  ·rw[e1]at e;injection e with e;injection e with e;omega
 ·exact h.row.lt b e
 ·obtain⟨d,hd⟩:=h.pages s hs;rw[e];exact hd.form
theorem aU.low (h:aU w D q x w' x')(hi:az w D q x)(hD:D<=w.heap.size):Below D w w':=h.mod.below (fun b e=>(hi.lowB b e).1) hD
theorem aU.kept (h:az w D q x)(hb:Below w.heap.size w w'):aU w D q x w' x:=⟨h.kept hb,rfl,Mod.of hb,Out.refl _ _⟩
theorem OwnG.made0 {α:Type}(T:TypeId)(k:Nat)(C:α->List Value)(w:World):OwnG T k C (w.alloc (.cells #[] T)) w.heap.size (some ⟨w.heap.size,0,none⟩) 0 []:=
 ⟨s_,.inr ⟨w.heap.size,0, #[],rfl,wS _,ab w _,wS _,d_,s_,s_⟩⟩
variable {g cp b:Nat}
theorem Pg.set {i:Nat}{v:Value}(h:Pg w D g cp)(xA:g≠b):Pg (w.setCell ⟨b,i,none⟩ v) D g cp:=by
 obtain⟨d,h⟩:=h;refine⟨d,.ofG (h.toG.same fun g' e=>?_)⟩;injection e with e;injection e with e;subst e;exact(aj (S:=fun x=>x=b) (w:=w) rfl i v).block g h.form.2 xA
variable {T:TypeId}
theorem Pg.ne (h:Pg w D g cp){cs:Array Value}{f:Nat×Nat}(hb:w.heap[b]? =some (.cells cs T f))(hT:T≠5):g≠b:=fun e=>by
 obtain⟨d,h⟩:=h;obtain⟨_,_,_,e1,hg⟩:=h.byteRow.2.1 _ rfl;injection e1 with e1;subst e1 e;rw[hb]at hg;injection hg with hg;injection hg with _ hg;exact hT hg
theorem bj {base k n cap:Nat}{R:Option Addr}{l:List Value}(h:w.ownsRow base T k (.slice R n cap) n l)(e:R=some ⟨g,0,none⟩): ∃cur,w.heap[g]? =some (.cells cur T (0,0)):=by
 subst e;rcases h.2 with⟨e,_⟩|⟨g',_,cur,e,_,h2,_⟩
 ·cases e
 ·injection e with e _ _;injection e with e;injection e with e;subst e;exact⟨cur,h2⟩
theorem aZ {U:TypeId}{c1 c2:Array Value}{f1 f2:Nat×Nat}{d:Nat}(h1:w.heap[b]? =some (.cells c1 T f1))(h2:w.heap[d]? =some (.cells c2 U f2))(hT:T≠U):b≠d:=fun e=>by
 subst e;rw[h1]at h2;injection h2 with h2;injection h2 with _ h2;exact hT h2
theorem az.turn {w7:World}{R7:Option Addr}{zC:Nat}{ps:List ShM}(h:az w D q x)(hD:D<=w.heap.size)(hb:Below w.heap.size w w7)(ho:OwnG 119 2 shC w7 w.heap.size R7 zC ps)(Al: ∀s∈ps,s∈x.ps\/Pg w7 w.heap.size s.g s.cp):
  aU w D q x (w7.setCell ⟨x.f,2,none⟩ (.slice R7 ps.length zC)) { x with PA:=R7,pc:=zC,ps:=ps} :=by
 have PH:=(hb.block _ h.lt).trans h.self;have hm:=aj (S:=fun b=>b=x.f) (w:=w7) (b:=x.f) rfl 2 (.slice R7 ps.length zC);have zq: ∀D' g cp,Pg w7 D' g cp->Pg (w7.setCell ⟨x.f,2,none⟩ (.slice R7 ps.length zC)) D' g cp:=fun D' g cp hp=>hp.set (hp.ne PH d_);have xY: ∀ {g cp:Nat},Pg w7 w.heap.size g cp->Pg w7 D g cp:=fun⟨d,hd⟩=>⟨d,hd.lower hD⟩;refine⟨⟨?_,h.low,?_,?_,fun s hs=>zq _ _ _ ((Al s hs).elim (fun e=>(h.pages s e).kept hb) xY)⟩,rfl,((Mod.of hb).trans (Out.refl _ _) (hm.sub fun b e=> .inl e)).sub fun b e=>e,fun b e=>?_⟩
 ·have h9:=Joins.block_setCell (i:=2) PH (.slice R7 ps.length zC);exact h9
 ·have h1:OwnR w7 D x.A x.cap x.rl:=h.reg.below hb (wS _);refine h1.kept (row:=some x.f) ⟨hm.os,hm.tape,hm.output,hm.size,fun b hb xA=>hm.block b hb fun e=>xA (by rw[e])⟩ (.inr fun e=>?_);rcases h1.form with⟨e1,_⟩|⟨g,e1,_⟩
  ·rw[e1]at e;cases e
  ·rw[e1]at e;simp only[Option.map_some,Option.some.injEq]at e;obtain⟨cur,h2⟩:=bj h1 e1;exact aZ h2 PH d_ e
 ·refine(ho.lower hD).same fun g e=>hm.block g (ho.lt g e).2 fun e2=>?_;have h1:=(ho.lt g e).1;have h2:=h.lt;omega
 ·rcases e with e|e|e|⟨s,hs,e⟩
  ·exact .inl (.inl e)
  ·exact .inl (.inr (.inl e))
  ·exact .inr (ho.lt b e).1
  ·rcases Al s hs with h1|⟨d,h1⟩
   ·exact .inl (.inr (.inr (.inr ⟨s,h1,e⟩)))
   ·exact .inr (by rw[e];exact h1.form.1)
def FSheet (w:World)(D q:Nat)(x:FlM)(page:Nat)(e:Ending)(w':World):Prop:= ∃(k:Nat) (s:ShM) (PA:Option Addr) (pc:Nat) (ps:List ShM),e= .returned (.int .i64 (k:Int))/\ps[k]? =some s/\s.ad=page/\(∀s∈x.ps,s∈ps)/\ps.length<=x.ps.length+1/\aU w D q x w' { x with PA:=PA,pc:=pc,ps:=ps}
theorem lU (page:Nat)(h:az w D q x)(hF:dx w base q R cap L F)(xD:F.length<=1000)(DE:x.rl.length<=1000000)(Al:x.ps.length<=100000)(hp:page<18446744073709551616)(hD:D<=w.heap.size):
  Calls prog 146 #[.pointer (some ⟨x.f,0,none⟩),.int .u64 (page:Int)] w (FSheet w D q x page):=by
 obtain⟨c0,c1,c2, -⟩:=h.c;obtain⟨H,HF⟩:=zh2 h hF;have yO:=h.lt;clear h hF;go_enter func146,ntmps146;go_wp2_with fail;go_loopw [5] (fun i wr=> ∃k:Nat,k<=x.ps.length/\i= .int .i64 (k:Int)/\wr=w) (fun i _ =>x.ps.length-(intOf i).toNat)
 case atStart=>exact⟨0,xm _,rfl,rfl⟩
 case round=>
  obtain⟨k,hk,rfl,rfl⟩:=hrel;have yF:(x.PA=none/\x.ps=[]/\x.pc=0)\/ ∃g,x.PA=some ⟨g,0,none⟩/\g<wr.heap.size/\x.ps.length<=x.pc:=by
   rcases H.o.row.form with⟨e1,e2,e3⟩|⟨g,e1,_,e2,e3⟩
   ·exact .inl ⟨e1,e2,e3⟩
   ·exact .inr ⟨g,e1,e2,e3⟩
  have GK: ∀a m,a+m<=x.ps.length->0<m-> ∀W,Below wr.heap.size wr W-> ∃g,x.PA=some ⟨g,0,none⟩/\ ∀j u,(((x.ps.drop a).take m).flatMap shC)[j]? =some u->W.cell? ((⟨g,a*2,none⟩:Addr).add j)=some u:=fun a m h1 h2 W hW=>by
   have hr:=H.o.row.kept hW;rcases yF with⟨_,e,_⟩|⟨g,e,_⟩
   ·rw[e]at h1;simp at h1;omega
   ·rw[e]at hr;exact⟨g,e,hr.part cy a m⟩
  have QC:=wP GK;clear GK;have Bf:(∃g s,x.PA=some ⟨g,0,none⟩/\x.ps[k]? =some s/\k<x.ps.length/\k<x.pc/\x.ps.length<=x.pc/\wr.cell? ⟨g,k*2,none⟩=some (.int .u64 (s.ad:Int)))\/(k=x.ps.length/\ ∃g,x.PA=some ⟨g,0,none⟩/\x.ps.length<=x.pc)\/(x.PA=none/\x.ps=[]/\x.pc=0/\k=0):=by
   rcases yF with⟨e1,e2,e3⟩|⟨g,e1,e2,e3⟩
   ·exact .inr (.inr ⟨e1,e2,e3,by rw[e2]at hk;simpa using hk⟩)
   ·rcases Nat.lt_or_ge k x.ps.length with xw|Zy
    ·obtain⟨s,hs⟩: ∃s,x.ps[k]? =some s:=⟨_,wV xw⟩;have xG:=H.o.row;rw[e1]at xG;exact .inl ⟨g,s,e1,hs,xw,o_,e3,xG.cell cy hs 0 o_⟩
    ·exact .inr (.inl ⟨o_,g,e1,e3⟩)
  clear yF;by_cases za: ∃s,x.ps[k]? =some s/\s.ad<=page
  ·obtain⟨s',Gj,ha⟩:=za;obtain⟨g,s,Gs,hs,xw,i1,i3,d0⟩: ∃g s,x.PA=some ⟨g,0,none⟩/\x.ps[k]? =some s/\k<x.ps.length/\k<x.pc/\x.ps.length<=x.pc/\wr.cell? ⟨g,k*2,none⟩=some (.int .u64 (s.ad:Int)):=by
    rcases Bf with h|⟨h,_⟩|⟨_,h,_⟩
    ·exact h
    ·rw[h,List.getElem?_eq_none (wS _)]at Gj;cases Gj
    ·rw[h]at Gj;simp at Gj
   rw[hs]at Gj;injection Gj with Gj;subst Gj;rw[Gs]at c2;by_cases he:s.ad=page
   ·have b1:((s.ad:Int)==(page:Int))=true:=(by rw[beq_iff_eq,he]);have i2: ¬(s.ad:Int)<(page:Int):=o_;obtain⟨HS,HE,HP⟩:=zh3 hs he Gs;clear hs he Gs Bf;go_wp2_with fail;go_ret;exact⟨k,s,x.PA,x.pc,x.ps,rfl,HS.o,HE.o,fun _ h=>h,o_,H.o,rfl,Mod.refl _ _,Out.refl _ _⟩
   ·have i2:(s.ad:Int)<(page:Int):=o_;clear hs Gs Bf;go_wp2_with fail;go_roundw
    case rel=>exact⟨k+1,o_,by go_num,trivial⟩
    case measure=>(simp[intOf];omega)
  have Nv:=wP za;clear za;have Sj:(∃g s,x.PA=some ⟨g,0,none⟩/\k<x.ps.length/\k<x.pc/\x.ps.length<=x.pc/\wr.cell? ⟨g,k*2,none⟩=some (.int .u64 ((ShM.ad s:Nat):Int))/\ ¬x.pc=k/\ ¬((s.ad:Nat):Int)<(page:Int)/\(((s.ad:Nat):Int)==(page:Int))=false)\/(¬(k:Int)<(x.ps.length:Int)/\ ∃g,x.PA=some ⟨g,0,none⟩/\x.ps.length<=x.pc)\/(¬(k:Int)<(x.ps.length:Int)/\x.PA=none/\x.ps.length<=x.pc):=
   Bf.imp (fun⟨g,s,h1,hs,h2,h3,h4,h5⟩=>⟨g,s,h1,h2,h3,h4,h5,o_,fun e=>Nv.o ⟨s,hs,o_⟩,by rw[xf];exact fun e=>Nv.o ⟨s,hs,o_⟩⟩) (Or.imp (fun⟨h1,h2⟩=>⟨o_,h2⟩) (fun⟨h1,h2,h3,h4⟩=>⟨by rw[h2,h4];simp,h1,by rw[h2];simp⟩))
  clear Bf;rcases Sj with⟨g,s,Gs,xw,i1,i3,d0,i7,i2,b1⟩|⟨Ec,g,Gs,i3⟩|⟨Ec,Gs,i3⟩
  all_goals
   rw[Gs]at c2;go_upto_region 6 with fail;have xu:Below wr.heap.size wr (wr.alloc (.cells #[] 119)):=wR;have e2:=(xu.cell (p:=⟨x.f,2,none⟩) yO).trans c2;have i6:(k:Int)<=(x.pc:Int):=o_;go_upto_region 7 with(first
    |(at_builtin;refine nw cy rfl (.tmp 48) (.tmp 54) rfl wr.heap.size (some ⟨wr.heap.size,0,none⟩) 0 0 k [] (x.ps.take k) rfl (by rw[List.length_take];omega) rfl (OwnG.made0 _ _ _ wr) _ _ rfl (fun h0=>by
      obtain⟨g',e1,e3⟩:=QC.o 0 k o_ h0 _ xu;rw[Gs]at e1
      first
       |cases e1
        rw[List.drop_zero,Nat.zero_mul]at e3;exact⟨_,rfl,e3⟩
       |cases e1) o_ s_ ?_;intro R3 zQ w3 Am xE)
    |fail)
   have Jb:=xu.trans xE;obtain⟨yZ,HFST,Jk⟩:=zh3 Jb (tu page (H.o.kept Jb) (HF.o.kept Jb) xD DE hp) Am;have FW: ∀b,R3.map (·.block)=some b->wr.heap.size<=b/\b<w3.heap.size:=fun b e=>by
    rcases Am.form with⟨e1,_⟩|⟨g',e1,e2,e3,_⟩
    ·rw[e1]at e;cases e
    ·rw[e1]at e;simp only[Option.map_some,Option.some.injEq]at e;omega
   have KQ:=wP FW;clear Am xE Jb xu e2 FW;go_upto_region 8 with(first
    |(go_at_call 167;refine(HFST.o).mono ?_;rintro e w4⟨g4,cp4,rfl,IF,yG⟩)
    |(at_builtin;refine jj cy rfl (.tmp 56) (.tmp 62) rfl wr.heap.size R3 zQ k ([]++x.ps.take k) t_ rfl ((Jk.o.kept yG).alloc _) ⟨page,g4,cp4⟩ w4.heap.size 1 rfl (ab w4 _) o_ (by have:=yZ.o.size;have:=yG.size;simp;omega) ?_;intro g5 Bj w5 zE BS Hm Mj)
    |fail)
   have WA: ∀b,b<wr.heap.size->w5.heap[b]? =wr.heap[b]? :=fun b hb=>by
    have zy:=yZ.o.size;have CU:=yG.size;refine(BS.block b t_ (fun e=>?_)).trans ((wT _ _ _ o_).trans ((yG.block b o_).trans (yZ.o.block b hb)));have:=(KQ.o b e.symm).1;omega
   have zJ:Below wr.heap.size wr w5:=⟨BS.os.trans (yG.os.trans yZ.o.os),BS.tape.trans (yG.tape.trans yZ.o.tape),BS.output.trans (yG.output.trans yZ.o.output),by have:=yZ.o.size;have:=yG.size;have:=BS.size;simp at this;omega,WA⟩;have e5:=(zJ.cell (p:=⟨x.f,2,none⟩) yO).trans c2;have DG:w3.heap.size<=g4/\g4<w4.heap.size:=(by obtain⟨d,hd⟩:=IF;exact hd.form);have hp5:Pg w5 wr.heap.size g4 cp4/\g4≠g5:=by
    obtain⟨d,hd⟩:=IF;refine⟨⟨d,.ofG ((hd.lower yZ.o.size).toG.same fun b e=>?_)⟩,?_⟩
    ·injection e with e;injection e with e;subst e;exact(BS.block g4 t_ (fun e=>by have:=(KQ.o g4 e.symm).2;omega)).trans (wT _ _ _ DG.2)
    ·rcases Hm with e|e
     ·have:=(KQ.o g5 e).2;omega
     ·simp at e;omega
   obtain⟨Dr,CH,HP5⟩:=zh3 zE zJ hp5;have FI:((x.ps.length-k:Nat):Int)=(x.ps.length:Int)-(k:Int):=o_;have i8:(k:Int)<=(x.ps.length:Int):=o_;clear yG IF zE BS zJ hp5 WA Hm Mj DG;go_upto_region 9 with(first
    |(at_builtin;refine rL cy rfl (.tmp 65) (.tmp 71) rfl wr.heap.size (some ⟨g5,0,none⟩) Bj (k+1) (x.ps.length-k) ([]++x.ps.take k++[⟨page,g4,cp4⟩]) (x.ps.drop k) t_ s_ rfl Dr.o _ _ rfl (fun h0=>by
      first
       |(exfalso;omega)
       |obtain⟨g',e1,e3⟩:=QC.o k (x.ps.length-k) o_ h0 _ CH.o
        rw[Gs]at e1;cases e1;rw[List.take_of_length_le s_]at e3;exact⟨_,rfl,e3⟩) o_ (by have:=CH.o.size;omega) ?_;intro R7 zC w7 Ko Bu Ay _;have Sv:=CH.o.trans Bu;have e7:=(Sv.cell (p:=⟨x.f,2,none⟩) yO).trans c2;have z7:w7.frozen? ⟨x.f,2,none⟩=false:=(Sv.frozen (p:=⟨x.f,2,none⟩) yO).trans (ae H.o.self 2))
    |fail)
   all_goals
    have Ov:Pg w7 wr.heap.size g4 cp4:=by
     obtain⟨⟨d,hd⟩,xA⟩:=HP5.o;exact⟨d,.ofG (hd.toG.same fun b e=>by injection e with e;injection e with e;subst e;exact Ay _ hd.form.2 (fun e=>xA (by injection e with e;injection e with e;exact e.symm)))⟩
    have xB:=H.o.turn hD Sv Ko (fun s hs=>by
     simp only[List.nil_append,List.append_assoc,List.singleton_append,List.mem_append,List.mem_cons]at hs;rcases hs with e|e|e
     ·exact .inl (List.mem_of_mem_take e)
     ·subst e;exact .inr Ov
     ·exact .inl (List.mem_of_mem_drop e))
    have hlen:([]++x.ps.take k++[(⟨page,g4,cp4⟩:ShM)]++x.ps.drop k).length=k+1+(x.ps.length-k):=t_;rw[hlen]at xB;have Cu:=wP xB;clear xB Ov hlen;go_wp2_with fail
    all_goals
     go_ret;refine⟨k,⟨page,g4,cp4⟩,R7,zC,_,rfl,?_,rfl,fun s hs=>?_,?_,Cu.o⟩
     ·rw[List.nil_append,List.append_assoc,wY t_];simp[Nat.min_eq_left hk]
     ·have:=List.take_append_drop k x.ps;rw[<-this,List.mem_append]at hs;simp only[List.nil_append,List.append_assoc,List.singleton_append,List.mem_append,List.mem_cons];exact hs.elim .inl (fun e=> .inr (.inr e))
     ·simp;omega
end
section
open Go.RowKit Go.Sort
variable {w w' w2:World}{D q base cap:Nat}{R:Option Addr}{L:List NdR}{F:List Nd}{x x' x2:FlM}
structure Doc (w:World)(D q:Nat)(F:List Nd):Prop where
 ex: ∃base R cap L,dx w base q R cap L F/\(∀b,R=some ⟨b,0,none⟩->b<D)/\ ∀r∈L,∀y,r.A=some y->y.block<D
 q:q<D
 few:F.length<=1000
theorem Doc.kept (h:Doc w D q F)(hb:Below D w w'):Doc w' D q F:=by
 obtain⟨⟨base,R,cap,L,h1,h2,h3⟩,hq,hf⟩:=h;exact⟨⟨base,R,cap,L,⟨h1.map,(hb.block q hq).trans h1.self,h1.row.same fun g e=>hb.block g (h2 g e),fun r hr=>by
  obtain⟨b1,b2,b3,b4⟩:=h1.bytes r hr;refine⟨b1.below hb (h3 r hr),fun y hy=>?_,b3,b4⟩;obtain⟨g,cs,f,e,hg⟩:=b2 y hy;exact⟨g,cs,f,e,(hb.block g (by have:=h3 r hr y hy;rw[e]at this;exact this)).trans hg⟩,h1.low,h1.ne,h1.blow⟩,h2,h3⟩,hq,hf⟩
theorem dL (h:az w D q x):Calls prog 55 #[.pointer (some ⟨x.f,0,none⟩)] w fun e w'=>e= .returned (.bool x.gone)/\w=w':=by
 obtain⟨-, -, -,c3⟩:=h.c;clear h;go_enter func55,ntmps55;go_wp2_with fail;go_ret;exact⟨rfl,rfl⟩
structure gx (w:World)(D q:Nat)(x:FlM)(y:Nat->Nat)(k:Nat)(w':World)(x':FlM):Prop where
 next:aU w D q x w' x'
 rl:x'.rl=x.rl
 gone:x'.gone=x.gone
 same: ∀s∈x.ps,∃s'∈x'.ps,s'.ad=s.ad
 there: ∀j,j<k-> ∃s∈x'.ps,s.ad=y j
 few:x'.ps.length<=x.ps.length+k
theorem gx.start (y:Nat->Nat)(h:az w D q x):gx w D q x y 0 w x:=⟨aU.kept h (xp _ _),rfl,rfl,fun s hs=>⟨s,hs,rfl⟩,fun j hj=>absurd hj o_,o_⟩
variable {w1:World}{x1:FlM}{y:Nat->Nat}{k:Nat}
theorem gx.step {i:Nat}{s:ShM}{PA:Option Addr}{pc:Nat}{ps:List ShM}(h:gx w D q x y k w1 x1)(hs:ps[i]? =some s)(ha:s.ad=y k)(yb: ∀s∈x1.ps,s∈ps)(hl:ps.length<=x1.ps.length+1)(hn:aU w1 D q x1 w' { x1 with PA:=PA,pc:=pc,ps:=ps}):
  gx w D q x y (k+1) w' { x1 with PA:=PA,pc:=pc,ps:=ps} :=
 ⟨h.next.trans hn,h.rl,h.gone,fun t ht=>by obtain⟨t',h1,h2⟩:=h.same t ht;exact⟨t',yb t' h1,h2⟩,fun j hj=>by
  rcases Nat.lt_or_ge j k with h1|h1
  ·obtain⟨t,h2,h3⟩:=h.there j h1;exact⟨t,yb t h2,h3⟩
  ·obtain rfl:j=k:=o_;exact⟨s,xb hs,ha⟩,by have:=h.few;show ps.length<=_;omega⟩
theorem OwnR.sameR2 {A:Option Addr}{cap:Nat}{l:List Reg}(h:OwnR w D A cap l)(hb: ∀g,A=some ⟨g,0,none⟩->w'.heap[g]? =w.heap[g]?):OwnR w' D A cap l:=by
 refine⟨h.1,?_⟩;rcases h.2 with h2|⟨g,cp,cur,h1,h2,h3,h4⟩
 ·exact .inl h2
 ·injection h1 with e1 e2 e3;exact .inr ⟨g,cp,cur,by rw[e1,e3],h2,(hb g e1).trans h3,h4⟩
theorem az.far (h:az w D q x)(hb: ∀b,FlB x b->w'.heap[b]? =w.heap[b]?):az w' D q x:=
 ⟨(
  hb _ (.inl rfl)).trans h.self,h.low,h.reg.sameR2 (fun g e=>hb g (.inr (.inl e))),h.row.same fun g e=>hb g (.inr (.inr (.inl e))),fun s hs=>by
  obtain⟨d,hd⟩:=h.pages s hs;exact⟨d,.ofG (hd.toG.same fun g e=>by injection e with e;injection e with e;subst e;exact hb _ (.inr (.inr (.inr ⟨s,hs,rfl⟩))))⟩⟩
variable {G:Nat->Prop}
theorem aU.aside (h:aU w D q x w1 x1)(hm:Mod G w1 w2)(hG: ∀b,G b->w.heap.size<=b/\ ¬FlB x1 b):aU w D q x w2 x1:=
 ⟨h.is.far fun b e=>hm.block b (h.is.lowB b e).2 fun e2=>(hG b e2).2 e,h.f,(((h.mod.sub fun b e=> .inl e).trans (Out.refl (fun b=>FlB x b\/w.heap.size<=b) _) (hm.sub fun b e=> .inr (hG b e).1)).own fun b e=>e),h.o⟩
theorem gx.aside (h:gx w D q x y k w1 x1)(hm:Mod G w1 w2)(hG: ∀b,G b->w.heap.size<=b/\ ¬FlB x1 b):gx w D q x y k w2 x1:=⟨h.next.aside hm hG,h.rl,h.gone,h.same,h.there,h.few⟩
def pgs (addr n j:Nat):Nat:=(pst (addr,n) j).1/4096*4096
def nD (w:World)(D q:Nat)(x:FlM)(addr:Nat)(n want:Int)(e:Ending)(w':World):Prop:=
 ∃Rb kk cp er x' k,e= .returned (.tuple #[.slice Rb kk cp,.int .i64 er])/\gx w D q x (pgs addr n.toNat) k w' x'/\k<=65536/\(x.gone=false->0<=n->n<=65536->Perm x.rl (addr,n.toNat) want-> ∀j,0<(pst (addr,n.toNat) j).2->j<k)
theorem nD.no {addr:Nat}{n want er:Int}(h:az w D q x)(hb:Below w.heap.size w w')(xL:x.gone=false->0<=n->n<=65536-> ¬Perm x.rl (addr,n.toNat) want):nD w D q x addr n want (.returned (.tuple #[.slice none 0 0,.int .i64 er])) w':=
 ⟨none,0,0,er,x,0,rfl,⟨aU.kept h hb,rfl,rfl,fun s hs=>⟨s,hs,rfl⟩,fun j hj=>absurd hj o_,o_⟩,o_,fun h1 h2 h3 h4=>absurd h4 (xL h1 h2 h3)⟩
theorem uN (y:Nat×Nat)(k:Nat)(h: ∀j,j<k->0<(pst y j).2):k+(pst y k).2<=y.2:=by
 induction k with
 |zero=>show 0+y.2<=_;omega
 |succ k ih=>
  have h1:=ih fun j hj=>h j o_;have h2:=ri (h k o_);have h3:=uP (pst y k);show k+1+((pst y k).2-pm (pst y k))<=_;omega
theorem oS (addr:Nat)(n want:Int)(h:az w D q x)(hF:Doc w D q F)(DE:x.rl.length<=1000000)(Al:x.gone=false->x.ps.length<=30000)(hp:addr<18446744073709551616)(hD:D<=w.heap.size):
  Calls prog 92 #[.pointer (some ⟨x.f,0,none⟩),.int .u64 (addr:Int),.int .i64 n,.int .u8 want] w (nD w D q x addr n want):=by
 have hg:=dL h;obtain⟨-,c1, -, -⟩:=h.c;obtain⟨H,HF,HG⟩:=zh3 h hF hg;clear h hF hg;cases za:x.gone with
 |true=>
  rw[za]at HG;go_enter func92,ntmps92;go_wp2_with (first
   |(go_at_call 55;refine(HG.o).mono ?_;rintro e w1⟨rfl,rfl⟩)
   |fail)
  go_ret2;exact nD.no H.o (xp _ _) fun e=>by rw[za]at e;cases e
 |false=>
  rw[za]at HG;have Al:=Al za;by_cases hn:n<0\/65536<n
  ·have hb:(decide (n<0) || decide (65536<n))=true:=(by simpa using hn);go_enter func92,ntmps92;rcases hn with hn|hn
   ·go_wp2_with (first
     |(go_at_call 55;refine(HG.o).mono ?_;rintro e w1⟨rfl,rfl⟩)
     |fail)
    go_ret2;exact nD.no H.o (xp _ _) fun _ e1 e2=>by omega
   ·have DW: ¬n<0:=o_;go_wp2_with (first
     |(go_at_call 55;refine(HG.o).mono ?_;rintro e w1⟨rfl,rfl⟩)
     |fail)
    go_ret2;exact nD.no H.o (xp _ _) fun _ e1 e2=>by omega
  ·obtain⟨N,rfl⟩: ∃N:Nat,n=(N:Int):=⟨n.toNat,o_⟩;have hN:N<=65536:=o_;have EB: ¬(N:Int)<0:=o_;have DW: ¬(65536:Int)<(N:Int):=o_;have Kj:=jA x.rl.length x.cap x.A x.rl addr N want w (H.o.reg.rsl DE) hp o_;obtain⟨P,hP⟩:=e_ (df x.rl (addr,N) want);rw[<-hP]at Kj;obtain⟨Ka,HP⟩:=zh2 Kj hP;clear Kj hP hn;cases P with
   |false=>
    go_enter func92,ntmps92;go_wp2_with (first
     |(go_at_call 55;refine(HG.o).mono ?_;rintro e w1⟨rfl,rfl⟩)
     |(go_at_call 145;refine(Ka.o).mono ?_;rintro e w1⟨rfl,xu⟩)
     |fail)
    go_ret2;exact nD.no H.o xu fun _ _ _ h4=>by have:=HP.o;rw[Int.toNat_natCast]at h4;rw[fB h4]at this;cases this
   |true=>
    have yy:Perm x.rl (addr,N) want:=xe fun h4=>by have:=HP.o;rw[cm h4]at this;cases this
    have ze:addr+N<=140737488355328:=yy.1;have Ad:IntKind.u64.wrap (N:Int)=(N:Int):=v_;have yl:IntKind.u64.wrap ((addr:Int)+(N:Int))=(addr:Int)+(N:Int):=v_;go_enter func92,ntmps92;go_wp2_with (first
     |(go_at_call 55;refine(HG.o).mono ?_;rintro e w1⟨rfl,rfl⟩)
     |(go_at_call 145;refine(Ka.o).mono ?_;rintro e w1⟨rfl,xu⟩)
     |fail)
    have xI:=wP xu;clear xu;go_loopw [10,12] (fun v i wr=> ∃(k:Nat) (x1:FlM) (Rb:Option Addr) (cb:Nat) (l:List Nat),v= .slice Rb l.length cb/\i= .int .u64 ((pst (addr,N) k).1:Int)/\gx w D q x (pgs addr N) k wr x1/\OwnG 5 1 byC wr w.heap.size Rb cb l/\(∀b,Rb=some ⟨b,0,none⟩-> ¬FlB x1 b)/\l.length+(pst (addr,N) k).2=N/\ ∀j,j<k->0<(pst (addr,N) j).2) (fun _ i _ =>addr+N-(intOf i).toNat)
    case atStart=>exact⟨0,x,none,0,[],rfl,rfl,(gx.start (pgs addr N) H.o).aside (G:=fun _ =>False) (Mod.of xI.o) (fun b e=>e.elim),OwnG.nil _ _,(fun b e=>by cases e),by show 0+N=N;omega,fun j hj=>absurd hj o_⟩
    case round=>
     obtain⟨k,x1,Rb,cb,l,rfl,rfl,RU,xG,xA,hlen,xZ⟩:=hrel;obtain⟨a,ha⟩:=e_ ((pst (addr,N) k).1);obtain⟨r,hr⟩:=e_ ((pst (addr,N) k).2);have PG:=cA (addr,N) k;have IX:=uN (addr,N) k xZ;rw[<-ha,<-hr]at PG;rw[<-hr]at IX hlen;rw[<-ha];simp only at PG IX;obtain⟨HA,HR,FD,zR,HNE,AB,DD⟩:=zh7 ha hr RU xG xA xZ hlen;clear ha hr RU xG xA xZ hlen;by_cases h0:r=0
     ·have i1: ¬(a:Int)<(addr:Int)+(N:Int):=o_;go_wp2_with fail;go_ret2;refine⟨Rb,_,cb,0,x1,k,rfl,FD.o,o_,fun _ _ _ _ j hj=>?_⟩;rcases Nat.lt_or_ge j k with h1|h1
      ·exact h1
      ·have:=eQ (HR.o.symm.trans h0) (j-k);rw[show k+(j-k)=j by omega]at this;rw[Int.toNat_natCast]at hj;omega
     ·have i1:(a:Int)<(addr:Int)+(N:Int):=o_;have zM:a % 4096<4096:=Nat.mod_lt _ o_;obtain⟨fr,WG⟩:=e_ (a % 4096);obtain⟨m,hmq⟩:=e_ (pm (pst (addr,N) k));have zn:m=min r (4096-fr):=(by rw[hmq,WG,HA.o,HR.o];rfl);have GS:0<m:=o_;obtain⟨tt,htt⟩:=e_ (fr+m);have i2:(0:Int)<=(a:Int):=o_;have t1:(a:Int).tdiv 4096=((a/4096:Nat):Int):=(by rw[Int.tdiv_eq_ediv_of_nonneg i2];omega);have t2:(a:Int).tmod 4096=(fr:Int):=(by rw[Int.tmod_eq_emod_of_nonneg i2];omega);have w0:IntKind.u64.wrap ((a/4096:Nat):Int)=((a/4096:Nat):Int):=v_;have w3:IntKind.u64.wrap (((a/4096:Nat):Int)*4096)=((a/4096*4096:Nat):Int):=v_;have w4:IntKind.u64.wrap (fr:Int)=(fr:Int):=v_;have w5:IntKind.i64.wrap (fr:Int)=(fr:Int):=(by rw[IntKind.wrap_i64];omega);have w6:IntKind.u64.wrap ((addr:Int)+(N:Int)-(a:Int))=(r:Int):=v_;have w7:IntKind.i64.wrap (r:Int)=(r:Int):=(by rw[IntKind.wrap_i64];omega);have w8:IntKind.i64.wrap ((fr:Int)+(r:Int))=(fr:Int)+(r:Int):=(by rw[IntKind.wrap_i64];omega);have w9:min (4096:Int) ((fr:Int)+(r:Int))=(tt:Int):=o_;have wa:IntKind.i64.wrap ((tt:Int)-(fr:Int))=(m:Int):=(by rw[IntKind.wrap_i64];omega);have wb:IntKind.u64.wrap (m:Int)=(m:Int):=v_;have wd:IntKind.u64.wrap ((a:Int)+(m:Int))=((a+m:Nat):Int):=v_;obtain⟨bs,Rd,cd,Ld,KC, -, -⟩:=(HF.o.kept (FD.o.next.low H.o hD)).ex;have EK:=lU (a/4096*4096) FD.o.next.is KC HF.o.few (by rw[FD.o.rl];exact DE) (by have:=FD.o.few;omega) o_ (xn hD FD.o.next.mod.size);rw[FD.o.next.f]at EK;obtain⟨Ht,HM,HT,QL⟩:=zh4 EK zn htt hmq;clear EK KC WG hmq zn htt;go_upto_region 14 with(first
       |(go_at_call 146;refine(Ht.o).mono ?_;rintro e w2⟨i,s,PA,pc,ps,rfl,hs,Au,yb,hl,hn⟩)
       |fail)
      obtain⟨gp,rfl,NP,Gk⟩: ∃g,PA=some ⟨g,0,none⟩/\g<w2.heap.size/\ps.length<=pc:=by
       rcases hn.is.row.form with⟨_,e,_⟩|⟨g,e,_,h1,h2⟩
       ·change ps=[]at e;rw[e]at hs;simp at hs
       ·exact⟨g,e,h1,h2⟩
      have Hb:=(List.getElem?_eq_some_iff.1 hs).1;have c2:w2.cell? ⟨x.f,2,none⟩=some (.slice (some ⟨gp,0,none⟩) ps.length pc):=by
       have:=hn.is.c.2.2.1
       rwa [show(FlM.f { x1 with PA:=some ⟨gp,0,none⟩,pc:=pc,ps:=ps})=x.f from FD.o.next.f]at this
      have d1:w2.cell? ⟨gp,i*2+1,none⟩=some (.slice (some ⟨s.g,0,none⟩) 4096 s.cp):=hn.is.row.cell cy hs 1 o_;obtain⟨d,hd⟩:=hn.is.pages s (xb hs);have zm:4096<=s.cp:=hd.byteRow.2.2.1;have hic:i<pc:=o_;have hm:=HM.o;have ht:=HT.o;have i5:(tt:Int)<=(s.cp:Int):=o_;have i6:(fr:Int)<=(tt:Int):=o_;have i7: ¬s.cp=fr:=o_;have i8:tt-fr=m:=o_;clear hm ht;have KD:ap w2 (some ⟨s.g,fr,none⟩) m fun j=>d (fr+j):=fun h0=>by
       obtain⟨y,e,hy⟩:=(hd.v.drop (m:=fr) o_) o_;exact⟨y,e,fun j hj=>hy j o_⟩
      have zk:OwnG 5 1 byC w2 w.heap.size Rb cb l:=zR.o.same fun g e=>hn.mod.block g (zR.o.lt g e).2 (HNE.o g e);have yE:=FD.o.step hs (by rw[Au,HA.o];rfl) yb hl hn;have VM: ∀b,Rb=some ⟨b,0,none⟩-> ¬FlB { x1 with PA:=some ⟨gp,0,none⟩,pc:=pc,ps:=ps} b:=fun b e e2=>(hn.o b e2).elim (HNE.o b e) (fun e3=>by have:=(zR.o.lt b e).2;omega);obtain⟨Iu,Dq,Nw,HNB⟩:=zh4 KD zk yE VM;have Ku:=DD.o;have xX:=yE.next.mod.size;clear KD zk yE VM hn hd yb hl hs;go_upto_region 15 with(first
       |(at_builtin;refine rL nt rfl (.tmp 56) (.tmp 67) rfl w.heap.size Rb cb l.length m l ((List.range m).map fun j=>d (fr+j)) rfl s_ rfl Dq.o _ _ rfl (nr Iu.o) o_ xX ?_;intro R7 zC w8 Ko Bu Ay hr7)
       |fail)
      have zW:Mod (fun b=>Rb=some ⟨b,0,none⟩) w2 w8:=⟨Bu.os,Bu.tape,Bu.output,Bu.size,fun b hb hn=>Ay b hb hn⟩;obtain⟨HG8,To,Kb⟩:=zh3 (Nw.o.aside zW fun b e=>⟨(Dq.o.lt b e).1,HNB.o b e⟩) (show∀b,R7=some ⟨b,0,none⟩-> ¬FlB { x1 with PA:=some ⟨gp,0,none⟩,pc:=pc,ps:=ps} b from fun b e=>hr7.elim (fun e2=>HNB.o b (by rw[<-e2];exact e)) (fun e2 e3=>by have:=(Nw.o.next.is.lowB b e3).2;have:=e2 b e;omega)) Ko;clear zW Ay hr7 Bu Ko c2 d1 i5 i6 i7;go_wp2_with fail;go_roundw
      case rel=>
       have EB:(pst (addr,N) (k+1)).1=a+m:=(by show(pst (addr,N) k).1+pm (pst (addr,N) k)=_;rw[<-HA.o,<-QL.o]);have DW:(pst (addr,N) (k+1)).2=r-m:=(by show(pst (addr,N) k).2-pm (pst (addr,N) k)=_;rw[<-HR.o,<-QL.o]);have IM:=HM.o;refine⟨k+1,_,R7,zC,_,?_,?_,HG8.o,Kb.o,To.o,?_,fun j hj=>?_⟩
       ·simp
       ·rw[EB];go_num
       ·rw[DW];simp;omega
       ·rcases Nat.lt_or_ge j k with h1|h1
        ·exact AB.o j h1
        ·obtain rfl:j=k:=o_;rw[<-HR.o];omega
      case measure=>(simp[intOf];omega)
end
section
open Go.RowKit Go.Sort
variable {w w' w2:World}{D q base cap:Nat}{R:Option Addr}{L:List NdR}{F:List Nd}{x x' x2:FlM}
variable {j v:Nat}
theorem Pg.put {g cp:Nat}(h:Pg w D g cp)(hj:j<4096):Pg (w.setCell ⟨g,j,none⟩ (.int .u8 (v:Int))) D g cp:=by
 obtain⟨d,h⟩:=h;exact⟨_,h.put hj⟩
theorem az.poke {s:ShM}(h:az w D q x)(hs:s∈x.ps)(hj:j<4096):aU w D q x (w.setCell ⟨s.g,j,none⟩ (.int .u8 (v:Int))) x:=by
 have hp:=h.pages s hs;have hm:=aj (S:=fun b=>b=s.g) (w:=w) (b:=s.g) rfl j (.int .u8 (v:Int));have xA: ∀ {T:TypeId} {cs:Array Value} {b:Nat},w.heap[b]? =some (.cells cs T (0,0))->T≠5->(w.setCell ⟨s.g,j,none⟩ (.int .u8 (v:Int))).heap[b]? =w.heap[b]? :=fun hb hT=>hm.block _ (wO hb).1 fun e=>hp.ne hb hT e.symm;refine⟨⟨(xA h.self d_).trans h.self,h.low,h.reg.sameR2 fun g e=>?_,h.row.same fun g e=>?_,fun t ht=>?_⟩,rfl,hm.sub fun b e=> .inr (.inr (.inr ⟨s,hs,e⟩)),Out.refl _ _⟩
 ·obtain⟨cur,h2⟩:=bj h.reg e;exact xA h2 d_
 ·obtain⟨cur,h2⟩:=bj h.row e;exact xA h2 d_
 ·by_cases e:t.g=s.g
  ·have h1:=(h.pages t ht).put (j:=j) (v:=v) hj
   rwa [e]at h1⊢
  ·exact(h.pages t ht).set e
def pgb (addr j:Nat):Nat:=(addr+j)/4096*4096
def jE (w:World)(D q:Nat)(x:FlM)(addr n:Nat)(want:Int)(e:Ending)(w':World):Prop:=
 ∃er x' k,e= .returned (.int .i64 er)/\gx w D q x (pgb addr) k w' x'/\k<=65536/\(x.gone=false->n<=65536->Perm x.rl (addr,n) want->k=n)
variable {n:Nat}
theorem jE.no {addr:Nat}{want er:Int}(h:az w D q x)(hb:Below w.heap.size w w')(xL:x.gone=false->n<=65536-> ¬Perm x.rl (addr,n) want):jE w D q x addr n want (.returned (.int .i64 er)) w':=
 ⟨er,x,0,rfl,⟨aU.kept h hb,rfl,rfl,fun s hs=>⟨s,hs,rfl⟩,fun j hj=>absurd hj o_,o_⟩,o_,fun h1 h2 h3=>absurd h3 (xL h1 h2)⟩
theorem ap.low {A:Option Addr}{d:Nat->Nat}(h:ap w A n d)(hb:Below D w w')(hA: ∀ad,A=some ad->0<n->ad.block<D):ap w' A n d:=fun h0=>by
 obtain⟨ad,e,hc⟩:=h h0;refine⟨ad,e,fun j hj=>((hb.cell (p:=ad.add j) ?_).trans (hc j hj))⟩;have:(ad.add j).block=ad.block:=by unfold Addr.add;split<;>rfl
 rw[this];exact hA ad e h0
theorem lT (addr n cq:Nat)(want:Int)(Ab:Option Addr)(d:Nat->Nat)(h:az w D q x)(hF:Doc w D q F)(DE:x.rl.length<=1000000)(Al:x.gone=false->x.ps.length<=30000)(hp:addr<18446744073709551616)(hD:D<=w.heap.size)(hn:n<9223372036854775808)(KD:ap w Ab n d)(hA: ∀ad,Ab=some ad->0<n->ad.block<D):
  Calls prog 93 #[.pointer (some ⟨x.f,0,none⟩),.int .u64 (addr:Int),.slice Ab n cq,.int .u8 want] w (jE w D q x addr n want):=by
 have hg:=dL h;obtain⟨-,c1, -, -⟩:=h.c;obtain⟨H,HF,HG,Iu,JA⟩:=zh5 h hF hg KD hA;clear h hF hg KD hA;cases za:x.gone with
 |true=>
  rw[za]at HG;go_enter func93,ntmps93;go_wp2_with (first
   |(go_at_call 55;refine(HG.o).mono ?_;rintro e w1⟨rfl,rfl⟩)
   |fail)
  go_ret;exact jE.no H.o (xp _ _) fun e=>by rw[za]at e;cases e
 |false=>
  rw[za]at HG;have Al:=Al za;by_cases hN:n<=65536
  rotate_left
  ·have i1:(65536:Int)<(n:Int):=o_;go_enter func93,ntmps93;go_wp2_with (first
    |(go_at_call 55;refine(HG.o).mono ?_;rintro e w1⟨rfl,rfl⟩)
    |fail)
   go_ret;exact jE.no H.o (xp _ _) fun _ e1=>by omega
  ·have i1: ¬(65536:Int)<(n:Int):=o_;have Kj:=jA x.rl.length x.cap x.A x.rl addr n want w (H.o.reg.rsl DE) hp hn;obtain⟨P,hP⟩:=e_ (df x.rl (addr,n) want);rw[<-hP]at Kj;obtain⟨Ka,HP⟩:=zh2 Kj hP;clear Kj hP hn;cases P with
   |false=>
    go_enter func93,ntmps93;go_wp2_with (first
     |(go_at_call 55;refine(HG.o).mono ?_;rintro e w1⟨rfl,rfl⟩)
     |(go_at_call 145;refine(Ka.o).mono ?_;rintro e w1⟨rfl,xu⟩)
     |fail)
    go_ret;exact jE.no H.o xu fun _ _ h4=>by have:=HP.o;rw[fB h4]at this;cases this
   |true=>
    have yy:Perm x.rl (addr,n) want:=xe fun h4=>by have:=HP.o;rw[cm h4]at this;cases this
    have ze:addr+n<=140737488355328:=yy.1;go_enter func93,ntmps93;go_wp2_with (first
     |(go_at_call 55;refine(HG.o).mono ?_;rintro e w1⟨rfl,rfl⟩)
     |(go_at_call 145;refine(Ka.o).mono ?_;rintro e w1⟨rfl,xu⟩)
     |fail)
    have xI:=wP xu;clear xu;go_loopw [9] (fun i wr=> ∃(k:Nat) (x1:FlM),k<=n/\i= .int .i64 (k:Int)/\gx w D q x (pgb addr) k wr x1) (fun i _ =>n-(intOf i).toNat)
    case atStart=>exact⟨0,x,xm _,rfl,(gx.start (pgb addr) H.o).aside (G:=fun _ =>False) (Mod.of xI.o) (fun b e=>e.elim)⟩
    case round=>
     obtain⟨k,x1,hk,rfl,RU⟩:=hrel;have FD:=wP RU;clear RU;by_cases xw:k<n
     rotate_left
     ·obtain rfl:k=n:=o_;go_wp2_with fail;go_ret;exact⟨0,x1,k,rfl,FD.o,hN,fun _ _ _ =>rfl⟩
     ·have i2:(k:Int)<(n:Int):=o_;obtain⟨a,ha⟩:=e_ (addr+k);have w0:IntKind.u64.wrap (k:Int)=(k:Int):=v_;have w1:IntKind.u64.wrap ((addr:Int)+(k:Int))=(a:Int):=v_;have zq:pgb addr k=a/4096*4096:=(by rw[ha];rfl);have i3:(0:Int)<=(a:Int):=o_;obtain⟨fr,zM⟩:=e_ (a % 4096);have OD:fr<4096:=o_;have t1:(a:Int).tdiv 4096=((a/4096:Nat):Int):=(by rw[Int.tdiv_eq_ediv_of_nonneg i3];omega);have t2:(a:Int).tmod 4096=(fr:Int):=(by rw[Int.tmod_eq_emod_of_nonneg i3];omega);have w2:IntKind.u64.wrap ((a/4096:Nat):Int)=((a/4096:Nat):Int):=v_;have w3:IntKind.u64.wrap (((a/4096:Nat):Int)*4096)=((a/4096*4096:Nat):Int):=v_;have w4:IntKind.u64.wrap (fr:Int)=(fr:Int):=v_;have w5:IntKind.u64.wrap ((a:Int)/4096)=(a:Int)/4096:=v_;have w6:IntKind.u64.wrap ((a:Int)/4096*4096)=((a/4096*4096:Nat):Int):=v_;have w7:(a:Int) % 4096=(fr:Int):=o_;have w8:(fr:Int)<4096:=o_;obtain⟨bs,Rd,cd,Ld,KC, -, -⟩:=(HF.o.kept (FD.o.next.low H.o hD)).ex;have EK:=lU (a/4096*4096) FD.o.next.is KC HF.o.few (by rw[FD.o.rl];exact DE) (by have:=FD.o.few;omega) o_ (xn hD FD.o.next.mod.size);rw[FD.o.next.f]at EK;obtain⟨Ht,Nk⟩:=zh2 EK zq;clear EK KC ha zq zM;go_upto_region 12 with(first
       |(go_at_call 146;refine(Ht.o).mono ?_;rintro e w5⟨i,s,PA,pc,ps,rfl,hs,Au,yb,hl,hn⟩)
       |fail)
      obtain⟨gp,rfl,NP,Gk⟩: ∃g,PA=some ⟨g,0,none⟩/\g<w5.heap.size/\ps.length<=pc:=by
       rcases hn.is.row.form with⟨_,e,_⟩|⟨g,e,_,h1,h2⟩
       ·change ps=[]at e;rw[e]at hs;simp at hs
       ·exact⟨g,e,h1,h2⟩
      have Hb:=(List.getElem?_eq_some_iff.1 hs).1;have c2:w5.cell? ⟨x.f,2,none⟩=some (.slice (some ⟨gp,0,none⟩) ps.length pc):=by
       have:=hn.is.c.2.2.1
       rwa [show(FlM.f { x1 with PA:=some ⟨gp,0,none⟩,pc:=pc,ps:=ps})=x.f from FD.o.next.f]at this
      have d1:w5.cell? ⟨gp,i*2+1,none⟩=some (.slice (some ⟨s.g,0,none⟩) 4096 s.cp):=hn.is.row.cell cy hs 1 o_;have CN:=xb hs;obtain⟨d',hd⟩:=hn.is.pages s CN;have hz:w5.frozen? ⟨s.g,fr,none⟩=false:=World.ownsRow.frozenAt hd fr;have AT:=hd.cell (show fr<4096 by omega);have zm:4096<=s.cp:=hd.byteRow.2.2.1;obtain⟨y,rfl,hy⟩:=(Iu.o.low ((FD.o.next.trans hn).low H.o hD) JA.o) o_;have e1:=hy k xw;have xB:=FD.o.step hs (by rw[Au,Nk.o]) yb hl (hn.trans (hn.is.poke (j:=fr) (v:=d k) CN OD));have Cu:=wP xB;clear xB hy hd CN yb hl hs hn Au;go_region_law (fail)
      all_goals
       go_wp2_with fail;go_roundw
       case rel=>exact⟨k+1,_,o_,by go_num,Cu.o.aside (G:=fun _ =>False) (Mod.of (xp _ _).drew) fun _ e=>e.elim⟩
       case measure=>(simp[intOf];omega)
end
section
open Go.RowKit Go.Sort
variable {w w' w2:World}{D q base cap:Nat}{R:Option Addr}{L:List NdR}{F:List Nd}{x x' x2:FlM}
def ft (fr ot:Int)(ps:List ShM):List ShM:=ps.filter fun s=>decide ((s.ad:Int)<fr) || decide (ot<=(s.ad:Int))
theorem ll (fr ot:Int)(ps:List ShM):(ft fr ot ps).length<=ps.length:=List.length_filter_le _ _
variable {fr ot:Int}
theorem tH {ps:List ShM}{k:Nat}{s:ShM}(hs:ps[k]? =some s):ft fr ot (ps.take (k+1))=ft fr ot (ps.take k)++if(decide ((s.ad:Int)<fr) || decide (ot<=(s.ad:Int)))=true then [s]else []:=by
 rw[List.take_add_one,hs];unfold ft;rw[List.filter_append];congr 1;show List.filter _ [s]=_;rw[List.filter_cons,List.filter_nil]
variable {w1:World}{A':Option Addr}{xq:Nat}{rl':List Reg}
theorem az.list (h:az w D q x)(hD:D<=w.heap.size)(hb:Below w.heap.size w w1)(ho:OwnR w1 w.heap.size A' xq rl'):
  aU w D q x (w1.setCell ⟨x.f,1,none⟩ (.slice A' rl'.length xq)) { x with A:=A',cap:=xq,rl:=rl'} :=by
 have CY:=(hb.block _ h.lt).trans h.self;have hm:=aj (S:=fun b=>b=x.f) (w:=w1) (b:=x.f) rfl 1 (.slice A' rl'.length xq);have hk:=h.kept hb;have yO:=h.lt;have hA: ∀g,A'=some ⟨g,0,none⟩->w.heap.size<=g/\g<w1.heap.size:=fun g e=>by
  rcases ho.form with⟨e1,_⟩|⟨g',e1,e2,e3,_⟩
  ·rw[e1]at e;cases e
  ·rw[e1]at e;injection e with e;injection e with e;omega
 have hoD:OwnR w1 D A' xq rl':=⟨ho.1,ho.2.imp id fun⟨g,cp,cur,e1,e2,e3⟩=>⟨g,cp,cur,e1,xn hD e2,e3⟩⟩;refine⟨⟨?_,h.low,hoD.sameR2 fun g e=>hm.block g (hA g e).2 (by have:=(hA g e).1;omega),hk.row.same fun g e=>?_,fun s hs=>(hk.pages s hs).set ((hk.pages s hs).ne CY d_)⟩,rfl,((Mod.of hb).trans (Out.refl _ _) (hm.sub fun b e=> .inl e)).sub fun b e=>e,fun b e=>?_⟩
 ·have h9:=Joins.block_setCell (i:=1) CY (.slice A' rl'.length xq);exact h9
 ·obtain⟨cur,h2⟩:=bj hk.row e;exact hm.block g (wO h2).1 (aZ h2 CY d_)
 ·rcases e with e|e|e|e
  ·exact .inl (.inl e)
  ·exact .inr (hA b e).1
  ·exact .inl (.inr (.inr (.inl e)))
  ·exact .inl (.inr (.inr (.inr e)))
theorem oT (fr ot:Int)(h:az w D q x)(Al:x.ps.length<=200000)(hD:D<=w.heap.size):
  Calls prog 89 #[.pointer (some ⟨x.f,0,none⟩),.int .u64 fr,.int .u64 ot] w fun e w'=> ∃PA pc,e= .returned (.tuple #[])/\aU w D q x w' { x with PA:=PA,pc:=pc,ps:=ft fr ot x.ps} :=by
 obtain⟨-, -,c2, -⟩:=h.c;have yO:=h.lt;have xX:=ae h.self 2;have H:=wP h;clear h;go_enter func89,ntmps89;go_wp2_with fail;go_loopw [6,7] (fun o i wr=> ∃(k:Nat) (R:Option Addr) (cp:Nat),k<=x.ps.length/\o= .slice R (ft fr ot (x.ps.take k)).length cp/\i= .int .i64 (k:Int)/\OwnG 119 2 shC wr w.heap.size R cp (ft fr ot (x.ps.take k))/\Below w.heap.size w wr) (fun _ i _ =>x.ps.length-(intOf i).toNat)
 case atStart=>exact⟨0,none,0,xm _,rfl,rfl,OwnG.nil _ _,xp _ _⟩
 case round=>
  obtain⟨k,R,cp,hk,rfl,rfl,ho,hb⟩:=hrel;have d2:=(hb.cell (p:=⟨x.f,2,none⟩) yO).trans c2;have dz:=(hb.frozen (p:=⟨x.f,2,none⟩) yO).trans xX;by_cases xw:k<x.ps.length
  rotate_left
  ·obtain rfl:k=x.ps.length:=o_;rw[List.take_length]at ho;have xB:=H.o.turn hD hb ho (fun s hs=> .inl (List.mem_filter.1 hs).1);have Cu:=wP xB;clear xB ho hb;rw[List.take_length];go_wp2_with fail;go_end0;exact⟨_,_,rfl,Cu.o⟩
  ·obtain⟨s,hs⟩: ∃s,x.ps[k]? =some s:=⟨_,wV xw⟩;have xO:=tH (fr:=fr) (ot:=ot) hs;have PX:=ll fr ot (x.ps.take k);have KY:(x.ps.take k).length<=x.ps.length:=(by rw[List.length_take];omega);obtain⟨acc,zP⟩:=e_ (ft fr ot (x.ps.take k));rw[<-zP]at ho xO PX⊢;have hlA:acc.length<=200000:=o_;obtain⟨g,Gs,NP,Gk⟩: ∃g,x.PA=some ⟨g,0,none⟩/\g<w.heap.size/\x.ps.length<=x.pc:=by
    rcases H.o.row.form with⟨_,e,_⟩|⟨g,e,_,h1,h2⟩
    ·rw[e]at xw;simp at xw
    ·exact⟨g,e,h1,h2⟩
   have xG:=H.o.row.kept hb;rw[Gs]at xG d2;have d0:wr.cell? ⟨g,k*2,none⟩=some (.int .u64 (s.ad:Int)):=xG.cell cy hs 0 o_;have d1:wr.cell? ⟨g,k*2+1,none⟩=some (.slice (some ⟨s.g,0,none⟩) 4096 s.cp):=xG.cell cy hs 1 o_;have i1:k<x.pc:=o_;obtain⟨Ac,HO,HB⟩:=zh3 xO ho hb;have LC:=hb.size;clear xO ho hb xG hs zP KY PX;by_cases hc:(s.ad:Int)<fr\/ot<=(s.ad:Int)
   rotate_left
   ·have n1: ¬(s.ad:Int)<fr:=fun e=>hc (.inl e);have n2: ¬ot<=(s.ad:Int):=fun e=>hc (.inr e);have yi:=Ac.o;rw[if_neg (by simp[n1,n2]),List.append_nil]at yi;have Bo:=wP yi;clear yi hc;go_wp2_with fail;go_roundw
    case rel=>exact⟨k+1,R,cp,o_,by rw[Bo.o],by go_num,by rw[Bo.o];exact HO.o,HB.o⟩
    case measure=>(simp[intOf];omega)
   ·have yi:=Ac.o;rw[if_pos (by simpa using hc)]at yi;have Bo:=wP yi;clear yi;have hR: ∀b,R.map (·.block)=some b->w.heap.size<=b:=fun b hb=>by
     rcases HO.o.form with⟨e,_⟩|⟨g,e,h1,_⟩
     ·rw[e]at hb;cases hb
     ·rw[e]at hb;simp only[Option.map_some,Option.some.injEq]at hb;omega
    by_cases n1:(s.ad:Int)<fr
    rotate_left
    all_goals
     first
      |have n2:ot<=(s.ad:Int):=hc.resolve_left n1
      |skip
     clear hc;go_wp2_with (first
      |(at_builtin;refine jj cy rfl (.tmp 39) (.tmp 47) rfl w.heap.size R cp acc.length acc rfl rfl (HO.o.alloc _) s wr.heap.size 1 rfl (ab wr _) o_ t_ ?_;intro g5 Bj w5 zE BS Hm Mj;obtain⟨Dr,CH⟩:=zh2 zE ((HB.o.alloc LC _).grown BS t_ hR);clear zE BS Hm)
      |fail)
     go_roundw
     case rel=>exact⟨k+1,_,_,o_,by rw[Bo.o,wU,xc],by go_num,by rw[Bo.o];exact Dr.o,CH.o⟩
     case measure=>(simp[intOf];omega)
def eK (w:World)(D q:Nat)(x:FlM)(ok:Prop)(rl':List Reg)(P:List ShM->List ShM)(e:Ending)(w':World):Prop:=
 ∃er x',e= .returned (.int .i64 er)/\aU w D q x w' x'/\x'.gone=x.gone/\((x.gone=true\/ ¬ok)/\x'.rl=x.rl/\x'.ps=x.ps\/ok/\x.gone=false/\x'.rl=rl'/\x'.ps=P x.ps)
variable {ok:Prop}{er:Int}
theorem eK.no {P:List ShM->List ShM}(h:az w D q x)(hb:Below w.heap.size w w')(xL:x.gone=true\/ ¬ok):eK w D q x ok rl' P (.returned (.int .i64 er)) w':=
 ⟨er,x,rfl,aU.kept h hb,rfl,.inl ⟨xL,rfl,rfl⟩⟩
theorem eK.yes {w3:World}{PA:Option Addr}{pc:Nat}(hn:aU w D q x w1 { x with A:=A',cap:=xq,rl:=rl'})(h2:aU w1 D q { x with A:=A',cap:=xq,rl:=rl'} w3 { x with A:=A',cap:=xq,rl:=rl',PA:=PA,pc:=pc,ps:=ft fr ot x.ps})(ya:ok)(hg:x.gone=false):eK w D q x ok rl' (ft fr ot) (.returned (.int .i64 er)) w3:=
 ⟨er,_,rfl,hn.trans h2,rfl,.inr ⟨ya,hg,rfl,rfl⟩⟩
theorem th (f t:Int)(h:az w D q x)(DE:x.rl.length<=1000000)(Al:x.gone=false->x.ps.length<=200000)(ya:bG x.rl)(h0:0<=f)(h1:f<=18446744073709551615)(h2:0<=t)(h3:t<=18446744073709551615)(hD:D<=w.heap.size):
  Calls prog 47 #[.pointer (some ⟨x.f,0,none⟩),.int .u64 f,.int .u64 t] w (eK w D q x (0=(Rg.cut x.rl f t).2) (Rg.cut x.rl f t).1 (ft f t)):=by
 have hg:=dL h;have Ip:=rcut_any x.A x.rl.length x.cap f t w x.rl (h.reg.rsl DE) ya h0 h1 h2 h3;obtain⟨⟨rl',er⟩,hr⟩: ∃rb,rb=Rg.cut x.rl f t:=⟨_,rfl⟩;rw[<-hr]at Ip⊢;obtain⟨-,c1, -, -⟩:=h.c;have yO:=h.lt;have xQ:=ae h.self 1;obtain⟨H,HG,Tz⟩:=zh3 h hg Ip;clear h hg Ip hr;cases za:x.gone with
 |true=>
  rw[za]at HG;go_enter func47,ntmps47;go_wp2_with (first
   |(go_at_call 55;refine(HG.o).mono ?_;rintro e w1⟨rfl,rfl⟩)
   |fail)
  go_ret;exact eK.no H.o (xp _ _) (.inl za)
 |false=>
  rw[za]at HG;go_enter func47,ntmps47;go_upto_region 4 with(first
   |(go_at_call 55;refine(HG.o).mono ?_;rintro e w1⟨rfl,rfl⟩)
   |(go_at_call 90;refine(Tz.o).mono ?_;rintro e w1⟨A',xq,rfl,ho,hb⟩)
   |fail)
  by_cases he:er=0
  rotate_left
  ·have b1:(er != 0)=true:=(by rw[bne_iff_ne];exact he);obtain⟨HE,HBN⟩:=zh2 he hb;clear he ho hb;go_wp2_with fail;go_ret;exact eK.no H.o HBN.o (.inr fun e=>HE.o e.symm)
  ·subst he;have hn:=H.o.list hD hb ho;have e1:=(hb.cell (p:=⟨x.f,1,none⟩) yO).trans c1;have z1:=(hb.frozen (p:=⟨x.f,1,none⟩) yO).trans xQ;have BF:=oT f t hn.is (Al za) (xn hD hn.mod.size);obtain⟨HN,Gx⟩:=zh2 hn BF;clear hn BF ho hb;go_wp2_with (first
    |(go_at_call 89;refine(Gx.o).mono ?_;rintro e w3⟨PA,pc,rfl,TU⟩;have Ln:=wP TU;clear TU)
    |fail)
   go_ret;exact eK.yes HN.o Ln.o (by first|rfl|trivial) za
theorem oR (f t p:Int)(h:az w D q x)(DE:x.rl.length<=1000000)(ya:bG x.rl)(h0:0<=f)(h1:f<=18446744073709551615)(h2:0<=t)(h3:t<=18446744073709551615)(hD:D<=w.heap.size):
  Calls prog 48 #[.pointer (some ⟨x.f,0,none⟩),.int .u64 f,.int .u64 t,.int .u8 p] w (eK w D q x (0=(Rg.protect x.rl f t p).2) (Rg.protect x.rl f t p).1 id):=by
 have hg:=dL h;have Ip:=oc x.A x.rl.length x.cap f t p w x.rl (h.reg.rsl DE) ya h0 h1 h2 h3;obtain⟨⟨rl',er⟩,hr⟩: ∃rb,rb=Rg.protect x.rl f t p:=⟨_,rfl⟩;rw[<-hr]at Ip⊢;obtain⟨-,c1, -, -⟩:=h.c;have yO:=h.lt;have xQ:=ae h.self 1;obtain⟨H,HG,Tz⟩:=zh3 h hg Ip;clear h hg Ip hr;cases za:x.gone with
 |true=>
  rw[za]at HG;go_enter func48,ntmps48;go_wp2_with (first
   |(go_at_call 55;refine(HG.o).mono ?_;rintro e w1⟨rfl,rfl⟩)
   |fail)
  go_ret;exact eK.no H.o (xp _ _) (.inl za)
 |false=>
  rw[za]at HG;go_enter func48,ntmps48;go_upto_region 4 with(first
   |(go_at_call 55;refine(HG.o).mono ?_;rintro e w1⟨rfl,rfl⟩)
   |(go_at_call 91;refine(Tz.o).mono ?_;rintro e w1⟨A',xq,rfl,ho,hb⟩)
   |fail)
  by_cases he:er=0
  rotate_left
  ·have b1:(er != 0)=true:=(by rw[bne_iff_ne];exact he);obtain⟨HE,HBN⟩:=zh2 he hb;clear he ho hb;go_wp2_with fail;go_ret;exact eK.no H.o HBN.o (.inr fun e=>HE.o e.symm)
  ·subst he;have hn:=H.o.list hD hb ho;have e1:=(hb.cell (p:=⟨x.f,1,none⟩) yO).trans c1;have z1:=(hb.frozen (p:=⟨x.f,1,none⟩) yO).trans xQ;have HN:=wP hn;clear hn ho hb;go_wp2_with fail;go_ret;exact⟨_,_,rfl,HN.o,rfl,.inr ⟨by first|rfl|trivial,za,rfl,rfl⟩⟩
end
