/- Spaces: load. -/
import Derived.Test.YtoochjhipmpehaaGreatDoorKfK
import Derived.Sort.CutIn
set_option linter.unusedVariables false
set_option linter.unusedSimpArgs false
set_option maxRecDepth 100000
set_option maxHeartbeats 8000000
namespace Go.Proofs.YtoochjhipmpehaaGreatDoor
open Go.Proofs.Tryz
section
open Go.RowKit Go.Sort
attribute [local go_sem] Oper.semAt_some
section
variable {w W W':World}{G K:Nat->Prop}{B c a fs m s t root:Nat}{A:Option Addr}{n cap:Nat}{rl:List Reg}{S0 S S':Nat->Prop}{F:List Nd}{clock xr:Int}{p p':Pool}{L L':List Slot}
theorem Run.grow {X:Nat->Prop}(h:Run w W G K B c a fs m s t root A n cap rl S0 S F clock p L)(hm:Mod X W W')(hX: ∀b,X b->K b):Run w W' G (fun b=>K b\/(W.heap.size<=b/\b<W'.heap.size)) B c a fs m s t root A n cap rl S0 S F clock p L:=by
 have h2:=h.set hm hX;refine⟨h2.home,h2.one,h2.mod,h2.o,h2.foot,h2.low,fun b hb=>?_,fun ad e hk=>?_⟩
 ·rcases hb with hb|hb
  ·exact h2.own b hb
  ·have:=h.size;exact⟨fun e=>by have:=h.home.lts.2.2 b e;omega,o_,hb.2⟩
 ·rcases hk with hk|hk
  ·exact h.row ad e hk
  ·have:=(h.one.noR ad e).2.2.2.2.2.2;omega
end
variable {w w':World}{A:Option Addr}
theorem cO (h:w.grownBy w' (A.map (·.block))):Mod (fun b=>A.map (·.block)=some b) w w':=⟨h.os,h.tape,h.output,h.size,fun b hb hn=>h.block b hb fun e=>hn e.symm⟩
variable {W:World}{x:Nat×Nat}
theorem io {b1 b2:Nat}(h:PgSt W b1 b2 x)(xA:b1≠b2)(y:Nat×Nat):PgSt (cN W b1 b2 y) b1 b2 y/\Mod (fun b=>b=b1\/b=b2) W (cN W b1 b2 y):=by
 have hm:Mod (fun b=>b=b1\/b=b2) W (cN W b1 b2 y):=(aj (S:=fun b=>b=b1\/b=b2) (.inr rfl) 0 _).trans (Out.refl _ _) (aj (.inl rfl) 0 _);refine⟨⟨?_,?_⟩,hm⟩
 ·have h1:=(aj (S:=fun b=>b=b2) (w:=W) rfl 0 (.int .u64 (y.1:Int))).block b1 (wO h.n).1 xA;exact be (h1.trans h.n)
 ·have h1:=be (y:= .int .u64 (y.1:Int)) h.a;exact((aj (S:=fun b=>b=b1) rfl 0 _).block b2 (wO h1).1 (fun e=>xA e.symm)).trans h1
structure LdBox (w W:World)(s ob:Nat)(x:Nat×Nat)(k:Nat)(A':Option Addr)(xq:Nat):Prop where
 pg:PgSt W (ob+2) (ob+1) (pst x k)
 mark:W.heap[ob+3]? =some (.deferred (some []))
 b0:W.heap[w.heap.size]? =some (.cells #[.pointer (some ⟨s,0,none⟩)] 60 (0,0))
 b1:W.heap[w.heap.size+1]? =some (.cells #[.slice none 0 0] 39 (0,0))
 b2:W.heap[w.heap.size+1+1]? =some (.cells #[.int .i64 0] 32 (0,0))
 o:W.heap[ob]? =some (.cells #[.slice A' ((pst x k).1-x.1) xq] 39 (0,0))
theorem LdBox.keep {W':World}{s ob:Nat}{k:Nat}{A':Option Addr}{xq:Nat}(h:LdBox w W s ob x k A' xq)(NK:w.heap.size+3<=ob)(hk: ∀b,w.heap.size<=b->b<ob+4->W'.heap[b]? =W.heap[b]?):LdBox w W' s ob x k A' xq:=
 ⟨⟨(hk _ o_ o_).trans h.pg.n,(hk _ o_ o_).trans h.pg.a⟩,(hk _ o_ o_).trans h.mark,(hk _ o_ o_).trans h.b0,(hk _ o_ o_).trans h.b1,(hk _ o_ o_).trans h.b2,(hk _ o_ o_).trans h.o⟩
def LdK (w:World)(ob:Nat)(A':Option Addr):Nat->Prop:=fun b=>(w.heap.size<=b/\b<ob+5)\/A'.map (·.block)=some b
def LdJ (w:World)(B c a fs m s t root n cap:Nat)(A:Option Addr)(rl:List Reg)(S:Nat->Prop)(F:List Nd)(clock:Int)(p:Pool)(L:List Slot)(T:Tab)(hold:Nat->Nat)(x:Nat×Nat)(ob k:Nat)(W:World):Prop:=
 ∃p' L' T' xr S' A' xq d,Run w W (av S c m) (LdK w ob A') B c a fs m s t root A n cap rl S S' F xr p' L'/\LdBox w W s ob x k A' xq/\OwnB W (ob+5) A' xq ((pst x k).1-x.1) d/\gI F hold rl x k p L T p' L' T'/\clock<=xr/\xr<=clock+k/\(∀i,x.1+i<(pst x k).1->d i=cont F rl p T ((x.1+i)/4096) ((x.1+i) % 4096))/\ ∀j,j<k->0<(pst x j).2
def LdX (w:World)(B c a fs m s t root n cap:Nat)(A:Option Addr)(rl:List Reg)(S:Nat->Prop)(F:List Nd)(clock:Int)(p:Pool)(L:List Slot)(T:Tab)(hold:Nat->Nat)(x:Nat×Nat)(ob:Nat)(W:World):Prop:=
 ∃p' L' T' xr S',Run w W (av S c m) (LdK w ob none) B c a fs m s t root A n cap rl S S' F xr p' L'/\clock<=xr/\xr<=clock+32/\Short F hold rl x p L T p' L' T'/\W.heap[ob+3]? =some (.deferred (some []))/\W.heap[w.heap.size+1]? =some (.cells #[.slice none 0 0] 39 (0,0))/\W.heap[w.heap.size+1+1]? =some (.cells #[.int .i64 4] 32 (0,0))
def ff (F:List Nd)(hold:Nat->Nat)(rl:List Reg)(p:Pool)(L:List Slot)(T:Tab)(addr:Nat)(len want:Int)(er:Int)(k:Nat)(d:Nat->Nat)(p':Pool)(L':List Slot)(T':Tab):Prop:=
 ((len<0\/65536<len)/\er=1/\p'=p/\L'=L/\T'=T)\/
 (0<=len/\len<=65536/\df rl (addr,len.toNat) want=false/\er=6/\p'=p/\L'=L/\T'=T)\/
 (0<=len/\len<=65536/\df rl (addr,len.toNat) want=true/\er=4/\Short F hold rl (addr,len.toNat) p L T p' L' T')\/
 (0<=len/\len<=65536/\df rl (addr,len.toNat) want=true/\er=0/\(k:Int)=len/\(∃j,(pst (addr,len.toNat) j).2=0/\gI F hold rl (addr,len.toNat) j p L T p' L' T')/\ ∀i,i<k->d i=cont F rl p T ((addr+i)/4096) ((addr+i) % 4096))
def rQ (w:World)(S:Nat->Prop)(c a fs m:Nat)(F:List Nd)(rl:List Reg)(clock:Int)(p:Pool)(L:List Slot)(T:Tab)(hold:Nat->Nat)(addr:Nat)(len want:Int)(e:Ending)(w':World):Prop:=
 ∃er R k cp d p' L' T' xr S',e= .returned (.tuple #[.slice R k cp,.int .i64 er])/\au w' S' c a fs m xr p' L'/\Mod (av S c m) w w'/\Out S S' w/\clock<=xr/\xr<=clock+32/\OwnB w' w.heap.size R cp k d/\((∀g,R.map (·.block)=some g-> ¬S' g)/\k<=65536)/\ff F hold rl p L T addr len want er k d p' L' T'
theorem OwnB.nilB (w:World)(base:Nat)(d:Nat->Nat):OwnB w base none 0 0 d:=⟨rfl,.inl ⟨rfl,rfl⟩⟩
variable {base cap n:Nat}{d:Nat->Nat}
theorem OwnB.blk (h:OwnB w base A cap n d): ∀g,A.map (·.block)=some g->base<=g/\g<w.heap.size:=fun g e=>by
 rcases h.2 with⟨h2,_⟩|⟨g',xq,cur,h1,h2,h3,_⟩
 ·injection h2 with e1;rw[e1]at e;cases e
 ·injection h1 with e1;rw[e1]at e;simp at e;subst e;exact⟨h2,(wO h3).1⟩
theorem OwnB.sameR (h:OwnB w base A cap n d)(hb: ∀g,A=some ⟨g,0,none⟩->w'.heap[g]? =w.heap[g]?):OwnB w' base A cap n d:=by
 refine⟨h.1,?_⟩;rcases h.2 with h2|⟨g,xq,cur,h1,h2,h3,h4⟩
 ·exact .inl h2
 ·injection h1 with e1 e2 e3;exact .inr ⟨g,xq,cur,by rw[e1,e2,e3],h2,(hb g e1).trans h3,h4⟩
theorem uq (B c a fs m s t root n cap addr:Nat)(len want:Int)(A:Option Addr)(rl:List Reg)(clock:Int)(w:World)(S:Nat->Prop)(F:List Nd)(p:Pool)(L:List Slot)(T:Tab)(hold:Nat->Nat)
  (hH:Home w B c a fs m S F clock p L)(hO:One w B c a m S s t root A n cap rl)(zZ:Sp F hold p L T)(ho:Own p T)(hr:T.nd 4 0=some root)(hR:Rgs F rl)(Bh:addr<18446744073709551616)(yA: ∀f,hold f<=100000000000)(BU:0<=clock/\clock+32<1000000):
  Calls prog 70 #[.pointer (some ⟨s,0,none⟩),.int .u64 (addr:Int),.int .i64 len,.int .u8 want] w (rQ w S c a fs m F rl clock p L T hold addr len want):=by
 refine(callsIn_wide (n:=9)).1 ?_;refine callsIn_of_wp_marks func70 rfl trivial ?_;simp only[ntmps70,List.size_toArray,xd,List.length_nil,Nat.reduceAdd,Nat.reduceSub,Array.replicate_succ,Array.replicate_zero,List.push_toArray,List.append_toArray,List.nil_append,List.cons_append];obtain⟨w0,xv⟩:=e_ (((w.alloc (.cells #[.pointer (some ⟨s,0,none⟩)] 60)).alloc (.cells #[.slice none 0 0] 39)).alloc (.cells #[.int .i64 0] 32));have xT:w0.heap.size=w.heap.size+1+1+1:=(by rw[xv];simp);have xz:Below w.heap.size w w0:=(by rw[xv];exact(wR.alloc s_ _).alloc t_ _);have Hq:w0.heap[w.heap.size+1+1]? =some (.cells #[.int .i64 0] 32 (0,0)):=by
  rw[xv];have:=ab ((w.alloc (.cells #[.pointer (some ⟨s,0,none⟩)] 60)).alloc (.cells #[.slice none 0 0] 39)) (.cells #[.int .i64 0] 32)
  rwa [World.size_alloc,World.size_alloc]at this
 have Lj:w0.heap[w.heap.size+1]? =some (.cells #[.slice none 0 0] 39 (0,0)):=by
  rw[xv];have:=ab (w.alloc (.cells #[.pointer (some ⟨s,0,none⟩)] 60)) (.cells #[.slice none 0 0] 39);rw[World.size_alloc]at this;exact(wT _ _ _ s_).trans this
 have BH:w0.heap[w.heap.size]? =some (.cells #[.pointer (some ⟨s,0,none⟩)] 60 (0,0)):=by
  rw[xv];exact(wT _ _ _ t_).trans ((wT _ _ _ s_).trans (ab w _))
 have AG:=(Run.start hH hO (fun _ e=>e)).below xz;have s0:w0.cell? ⟨w.heap.size,0,none⟩=some (.pointer (some ⟨s,0,none⟩)):=aa BH 0;have n0:w0.cell? ⟨w.heap.size+1,0,none⟩=some (.slice none 0 0):=aa Lj 0;have nf0:=ae Lj 0;have e0:w0.cell? ⟨w.heap.size+1+1,0,none⟩=some (.int .i64 0):=aa Hq 0;have ef0:=ae Hq 0;have IJ:w.heap.size+1<w0.heap.size:=o_;have Ed:w.heap.size+1+1<w0.heap.size:=o_;obtain⟨xU,EH,YO,QK,Bp,Av,AA,AS⟩:=zh8 xv xT Hq Lj BH AG zZ ho;obtain⟨HR,HRG,yd⟩:=zh3 hr hR xz;have zv:=eO s c a t n cap A w0 AG.one.self;have yu:=wP zv;clear zv xv xT xz Hq Lj BH AG hH hO zZ ho hr hR;have two:=fun(w0:World) (v u:Value)=>((aj (S:=fun b=>b=w.heap.size+1\/b=w.heap.size+1+1) (w:=w0) (.inl rfl) 0 v).trans (Out.refl _ _) (aj (S:=fun b=>b=w.heap.size+1\/b=w.heap.size+1+1) (w:=w0.setCell ⟨w.heap.size+1,0,none⟩ v) (b:=w.heap.size+1+1) (.inr rfl) 0 u));have Pd:=wP two;clear two;by_cases Ah:len<0\/65536<len
 ·have Jz:=wP Ah;have key:rQ w S c a fs m F rl clock p L T hold addr len want (.returned (.tuple #[.slice none 0 0,.int .i64 1])) ((w0.setCell ⟨w.heap.size+1,0,none⟩ (.slice none 0 0)).setCell ⟨w.heap.size+1+1,0,none⟩ (.int .i64 1)):=by
   have xM:=Av.o.set (Pd.o w0 (.slice none 0 0) (.int .i64 1)) (fun b e=> .inr (by have:=EH.o;omega));exact⟨1,none,0,0,fun _ =>0,p,L,T,clock,S,rfl,xM.home.cache,xM.mod,xM.o,Int.le_refl _,o_,OwnB.nilB _ _ _,⟨fun g e=>(by cases e),o_⟩,.inl ⟨Jz.o,rfl,rfl,rfl,rfl⟩⟩
  have KEY:=wP key;clear key;rcases Ah with VL|Ag
  ·gi_wp2_with (first
    |(refine⟨trivial,?_⟩;rw[<-xU.o];refine(callsIn_wide.2 yu.o).mono ?_;rintro e w1⟨rfl,rfl⟩)
    |fail)
   exact⟨.tuple #[.slice none 0 0,.int .i64 1],by simp[results,results70,go_sem,n0,e0,nf0,ef0,IJ,Ed],KEY.o⟩
  ·have VL: ¬len<0:=o_;gi_wp2_with (first
    |(refine⟨trivial,?_⟩;rw[<-xU.o];refine(callsIn_wide.2 yu.o).mono ?_;rintro e w1⟨rfl,rfl⟩)
    |fail)
   exact⟨.tuple #[.slice none 0 0,.int .i64 1],by simp[results,results70,go_sem,n0,e0,nf0,ef0,IJ,Ed],KEY.o⟩
 have VL: ¬len<0:=fun h=>Ah (.inl h);have Ag: ¬65536<len:=fun h=>Ah (.inr h);obtain⟨q,hq⟩: ∃q:Nat,len=(q:Int):=⟨len.toNat,o_⟩;have VA:len.toNat=q:=o_;have Ki:q<=65536:=o_;have yy:=kD s c a t n cap A rl addr q want w0 Av.o.one.self Av.o.one.row Bh o_;rw[<-hq]at yy;cases hpb:df rl (addr,q) want with
 |false=>
  rw[hpb]at yy;obtain⟨Er,Ph,HQ⟩:=zh3 yy hpb hq;clear yy hpb Ah hq;gi_wp2_with (first
   |(refine⟨trivial,?_⟩;rw[<-xU.o];refine(callsIn_wide.2 yu.o).mono ?_;rintro e w1⟨rfl,rfl⟩)
   |(refine⟨trivial,?_⟩;refine(callsIn_wide.2 Er.o).mono ?_;rintro e w1⟨rfl,xu⟩;have Gu:=(xu.block _ IJ).trans QK.o;have yP:=(xu.block _ Ed).trans YO.o;have n1:w1.cell? ⟨w.heap.size+1,0,none⟩=some (.slice none 0 0):=aa Gu 0;have nf1:=ae Gu 0;have e1:w1.cell? ⟨w.heap.size+1+1,0,none⟩=some (.int .i64 0):=aa yP 0;have ef1:=ae yP 0;have VJ:w.heap.size+1<w1.heap.size:=(wO Gu).1;have MB:w.heap.size+1+1<w1.heap.size:=(wO yP).1)
   |fail)
  refine⟨.tuple #[.slice none 0 0,.int .i64 6],by simp[results,results70,go_sem,n1,e1,nf1,ef1,VJ,MB],?_⟩;have xM:=(Av.o.below xu).set (Pd.o w1 (.slice none 0 0) (.int .i64 6)) (fun b e=> .inl (.inr (by have:=EH.o;omega)));exact⟨6,none,0,0,fun _ =>0,p,L,T,clock,S,rfl,xM.home.cache,xM.mod,xM.o,Int.le_refl _,o_,OwnB.nilB _ _ _,⟨fun g e=>(by cases e),o_⟩,.inr (.inl ⟨o_,o_,by rw[VA];exact Ph.o,rfl,rfl,rfl,rfl⟩)⟩
 |true=>
  have Kj:Perm rl (addr,q) want:=by
   unfold df at hpb;exact @xi _ (Classical.propDecidable _) hpb
  rw[hpb]at yy;obtain⟨Er,Ph,HQ,Ka⟩:=zh4 yy hpb hq Kj;clear yy hpb Ah hq Kj;gi_upto_region 8 with(first
   |(refine⟨trivial,?_⟩;rw[<-xU.o];refine(callsIn_wide.2 yu.o).mono ?_;rintro e w1⟨rfl,rfl⟩)
   |(refine⟨trivial,?_⟩;refine(callsIn_wide.2 Er.o).mono ?_;rintro e w1⟨rfl,xu⟩)
   |fail)
  obtain⟨ob,NK⟩: ∃ob,w1.heap.size=ob:=⟨_,rfl⟩;have GM:w.heap.size+3<=ob:=(by have:=xu.size;have:=EH.o;omega);obtain⟨wa,KT⟩:=e_ (w1.alloc (.cells #[.slice none 0 0] 39));rw[<-KT,NK];have Px:wa.heap.size=ob+1:=(by rw[KT];simp[NK]);have TZ:Below w0.heap.size w0 wa:=(by rw[KT];exact xu.alloc xu.size _);have Xn:wa.heap[ob]? =some (.cells #[.slice none 0 0] 39 (0,0)):=(by rw[KT,<-NK];exact ab w1 _);obtain⟨ZT,TE⟩:=zh2 Xn TZ;clear KT TZ Xn xu;gi_wp2_with (first
   |(refine⟨trivial,?_⟩;refine(callsIn_wide.2 (iv (addr:Int) len wa)).mono ?_;rintro e w2⟨rfl,yl⟩)
   |fail)
  have xX:w2.heap.size=ob+3:=(by rw[yl];simp[Px]);have xx:Below wa.heap.size wa w2:=(by rw[yl];exact wR.alloc s_ _);have Hr:w2.heap[ob+1]? =some (.cells #[.int .u64 (addr:Int)] 43 (0,0)):=(by rw[yl,<-Px];exact(wT _ _ _ s_).trans (ab wa _));have Xp:w2.heap[ob+2]? =some (.cells #[.int .i64 len] 3 (0,0)):=by
   rw[yl];have:=ab (wa.alloc (.cells #[.int .u64 (addr:Int)] 43)) (.cells #[.int .i64 len] 3);rw[World.size_alloc,Px]at this;exact this
  obtain⟨yW,TI,AJ,Fa⟩:=zh4 (TE.o.trans (xx.mono (by have:=TE.o.size;omega))) Hr Xp ((xx.block _ o_).trans ZT.o);rw[<-yl];clear yl xx Hr Xp;refine cv rfl o_ (gf:=155) (lb:= #[.pointer (some ⟨ob+1+1,0,none⟩),.pointer (some ⟨ob+1,0,none⟩)]) rfl trivial (enters_of func155 k_ rfl) ?_;rw[xX];intro fn FP rec zr;refine(iw (9-1) o_ (ob+3+1) (ob+1+1) (ob+1) o_ (addr,q) (by have:=Ka.o.1;simp only at this⊢;omega) (fun k W=>LdJ w B c a fs m s t root n cap A rl S F clock p L T hold (addr,q) ob k W/\W.heap[ob+3+1]? =some (.loop (rec .ready none)))
   (fun W=>LdX w B c a fs m s t root n cap A rl S F clock p L T hold (addr,q) ob W/\W.heap[ob+3+1]? =some (.loop (rec .done (some .ret)))) ?_ ?_ _ ?_).mono ?_
  ·rintro k W⟨⟨p',L',T',xr,S',A',xq,d,h1,h2,h3⟩,_⟩;exact h2.pg
  ·rintro k W⟨hJ,hl⟩ xZ;refine bP trivial zr hl rfl ?_;obtain⟨p1,L1,T1,xy,S1,A1,xt,d1,xM,zc,zK,Ei,zT,Ar,Lc,zi⟩:=hJ;obtain⟨x,hx⟩:=e_ ((pst (addr,q) k).1);obtain⟨M,hM⟩:=e_ (pm (pst (addr,q) k));rw[<-hx,<-hM];have xD:=mG (addr,q) k xZ;dsimp only at xD;have hk17:k<=17:=o_;obtain⟨HX,HM,Fx,ND,Et,Aw,Od,YC⟩:=zh8 hx hM xM zc zK Ei Lc zi;obtain⟨AB,Th,HL⟩:=zh3 xZ zr hl;clear hx hM xM zc zK Ei Lc zi xZ zr hl xD
   gi_wp2
   refine⟨HL.o,?_⟩;obtain⟨W2,yo⟩:=e_ (W.putObj (ob+3+1) (.loop (rec .busy none)));rw[<-yo];have xS:Mod (fun b=>b=ob+3+1) W W2:=(by rw[yo];exact aC);have xW:W2.heap[ob+3+1]? =some (.loop (rec .busy none)):=(by rw[yo];exact World.putObj_heap_same (wO HL.o).1);have xF:=Fx.o.set xS (fun b e=> .inl o_);have yV:=ND.o.keep GM (W':=W2) (fun b h1 h2=>by
    rcases Nat.lt_or_ge b W.heap.size with h3|h3
    ·exact xS.block b h3 o_
    ·rw[Array.getElem?_eq_none h3,Array.getElem?_eq_none];rw[yo,World.putObj_size];exact h3)
   have AX:OwnB W2 (ob+5) A1 xt (x-addr) d1:=by
    rw[HX.o];exact Et.o.sameR fun g hg=>xS.block g ((Et.o.blk g (by rw[hg];rfl)).2) (fun e=>by have:=(Et.o.blk g (by rw[hg];rfl)).1;omega)
   obtain⟨r,zM,_⟩:=Ka.o.2 k AB.o;have Jc:Ask F rl r (x/4096):=HRG.o.ask (by rw[HX.o];exact zM);have Ic:x+(pst (addr,q) k).2=addr+q:=(by rw[HX.o];exact cA (addr,q) k);have hxb:x<=140737488355328:=(by have:=Ka.o.1;simp only at this;omega);have Ad:IntKind.u64.wrap ((x:Int)/4096*4096)=(x:Int)/4096*4096:=v_;have Eg:=pd B c a fs m s t root n cap (x/4096) A rl r xy ((x:Int)/4096*4096) W2 S1 F p1 L1 T1 hold xF.home xF.one Aw.o.seen.kept.sp Aw.o.seen.kept.own (Aw.o.seen.kept.root _ HR.o) Jc o_ yA o_;have yI:(Rg.find rl ((((pst (addr,q) k).1/4096:Nat):Int)*4096)).1=r:=(by rw[<-HX.o,Jc.find]);have c0:W2.cell? ⟨w.heap.size,0,none⟩=some (.pointer (some ⟨s,0,none⟩)):=aa yV.b0 0;have hobW:ob+5<=W2.heap.size:=(by have:=(wO xW).1;omega);obtain⟨Jy,Yl,yh,zS,FB,Jq,HXS⟩:=zh7 Eg yI xF yV AX xW Ic;clear Eg yI xF yV AX xW Jc zM Ic xS yo;gi_upto_region 12 with(first
    |(refine⟨trivial,?_⟩;refine(CallsIn.inRound (ob+3+1) (callsIn_wide.2 Jy.o)).mono ?_;rintro e W3⟨er,⟨fr,pr,cp⟩,p3,L3,T3,Ep,S3,rfl,DJ,zF,Am,CS,zX,Eh⟩;unfold aq)
    |fail)
   obtain⟨W4,Gr⟩:=e_ (W3.alloc (.cells #[.int .i64 (fr:Int),.int .u8 (pr:Int),.bool cp] 83));rw[<-Gr];obtain⟨yx,Il⟩:=yh.o.call DJ zF Am;have yG:Below W3.heap.size W3 W4:=(by rw[Gr];exact wR);have CU:W4.heap.size=W3.heap.size+1:=(by rw[Gr];simp);have JR:W4.heap[W3.heap.size]? =some (.cells #[.int .i64 (fr:Int),.int .u8 (pr:Int),.bool cp] 83 (0,0)):=(by rw[Gr];exact ab W3 _);have zy:=zF.size;have yg:=(yx.below yG).sub (K':=LdK w ob A1) (fun b e=> .inl e);have Dj: ∀b,LdK w ob A1 b->W4.heap[b]? =W2.heap[b]? :=fun b hb=>(yG.block b ((yh.o.own b hb).2.2 |> fun h=>o_)).trans (Il b hb);have Aa:=zS.o.keep GM (W':=W4) (fun b h1 h2=>Dj b (.inl o_));have Mt:=(Dj (ob+3+1) (.inl o_)).trans Jq.o;have BB:OwnB W4 (ob+5) A1 xt (x-addr) d1:=FB.o.sameR fun g hg=>Dj g (.inr (by rw[hg];rfl));obtain⟨zd,yp,Pp,Bl,CE,Ff⟩:=zh6 yg Aa Mt BB JR Eh;have UM:w.heap.size<W4.heap.size:=o_;clear yx Il yG JR yg Dj Aa Mt BB Eh DJ zF Am Gr Ad c0 CU zy;have n0:W4.cell? ⟨w.heap.size+1,0,none⟩=some (.slice none 0 0):=aa yp.o.b1 0;have nf0:=ae yp.o.b1 0;have e0:W4.cell? ⟨w.heap.size+1+1,0,none⟩=some (.int .i64 0):=aa yp.o.b2 0;have ef0:=ae yp.o.b2 0;by_cases Bs:er=0
   rotate_left
   ·have xA:(er != 0)=true:=(by rw[bne_iff_ne];exact Bs);obtain⟨MA,Af⟩:=Aw.o.fail AB.o Yl.o (by rw[<-HX.o];exact Ff.o) Bs;subst MA;have Jh:=wP Af;clear Af Bs
    gi_wp2
    have Ch:=Pd.o W4 (.slice none 0 0) (.int .i64 4);have xK:=zd.o.set Ch (fun b e=> .inl o_);have GX:=(Ch.block _ (wO Pp.o).1 o_).trans Pp.o;have yK:=(Ch.block _ (wO yp.o.mark).1 o_).trans yp.o.mark;have JE:((W4.setCell ⟨w.heap.size+1,0,none⟩ (.slice none 0 0)).setCell ⟨w.heap.size+1+1,0,none⟩ (.int .i64 4)).heap[w.heap.size+1]? =some (.cells #[.slice none 0 0] 39 (0,0)):=
     ((aj (S:=fun b=>b=w.heap.size+1+1) rfl 0 _).block _ (by simp;exact(wO yp.o.b1).1) o_).trans (be yp.o.b1)
    have OF:((W4.setCell ⟨w.heap.size+1,0,none⟩ (.slice none 0 0)).setCell ⟨w.heap.size+1+1,0,none⟩ (.int .i64 4)).heap[w.heap.size+1+1]? =some (.cells #[.int .i64 4] 32 (0,0)):=
     be (((aj (S:=fun b=>b=w.heap.size+1) rfl 0 _).block _ (wO yp.o.b2).1 o_).trans yp.o.b2)
    refine⟨GX,.inr ⟨rfl,?_,World.putObj_heap_same (wO GX).1⟩⟩;have Dv:=aC (l:=ob+3+1) (o:= .loop (rec .done (some .ret))) (W:=(W4.setCell ⟨w.heap.size+1,0,none⟩ (.slice none 0 0)).setCell ⟨w.heap.size+1+1,0,none⟩ (.int .i64 4));have zp:=xK.set Dv (fun b e=> .inl o_);have Eb: ∀ {b:Nat} {o:Obj},((W4.setCell ⟨w.heap.size+1,0,none⟩ (.slice none 0 0)).setCell ⟨w.heap.size+1+1,0,none⟩ (.int .i64 4)).heap[b]? =some o->b≠ob+3+1->(((W4.setCell ⟨w.heap.size+1,0,none⟩ (.slice none 0 0)).setCell ⟨w.heap.size+1+1,0,none⟩ (.int .i64 4)).putObj (ob+3+1) (.loop (rec .done (some .ret)))).heap[b]? =some o:=fun h1 h2=>(Dv.block _ (wO h1).1 h2).trans h1;exact⟨p3,L3,T3,Ep,S3,zp.sub (fun b e=>e.elim .inl (fun e=>by cases e)),o_,o_,Jh.o,Eb yK o_,Eb JE o_,Eb OF o_⟩
   subst Bs;obtain⟨g1,g2⟩:=Ff.o.got rfl;obtain⟨v1,v2,v3,v4,v5,v6⟩:=Ff.o.kept.sp.leaf g1;dsimp only at v2 v3 v4 v5 v6;have SH:0<M:=(by rw[HM.o];exact ri AB.o);have EV:M<=4096-x % 4096:=(by rw[HM.o,HX.o];exact Nat.min_le_right _ _);obtain⟨u,hu⟩: ∃u:Int,(x:Int) % 4096=u:=⟨_,rfl⟩;have TN:((x % 4096:Nat):Int)=u:=o_;have hu3:0<=u/\u<4096:=o_;have hut:(x:Int).tmod 4096=u:=(by rw[Int.tmod_eq_emod_of_nonneg o_,hu]);have hwu:IntKind.i64.wrap u=u:=(by rw[IntKind.wrap_i64];omega);have hload:=gl a fr (x % 4096) M W4.drew S3 p3 zd.o.home.cache.pool.drew v3 v4 o_ EV;rw[TN]at hload;have DZ:Calls prog 122 #[.pointer (some ⟨a,0,none⟩),.int .i64 (fr:Int),.int .i64 u,.int .i64 (M:Int)] W4.drew fun e Wx=>e= .returned (.tuple #[.slice (some ⟨W4.heap.size,0,none⟩) M M,.int .i64 0])/\Hid (aT Wx W4.heap.size M (fun i=>p3.dat fr (x % 4096+i)))/\Hid (Below W4.heap.size W4 Wx)/\Hid (W4.heap.size<Wx.heap.size):=by
    refine hload.mono ?_;rintro e Wx⟨rfl,hB,hz,Le⟩;exact⟨rfl,wP hB,wP (bw Le),wP hz⟩
   obtain⟨Nq,HU2,YY⟩:=zh3 DZ TN g1;have c0:W4.cell? ⟨w.heap.size,0,none⟩=some (.pointer (some ⟨s,0,none⟩)):=aa yp.o.b0 0;have s1:W4.cell? ⟨s,1,none⟩=some (.pointer (some ⟨a,0,none⟩)):=aa zd.o.one.self 1;obtain⟨⟨x0,x1,x2⟩,_,_⟩:=box3 CE.o;have VT:prog.follows .mixedOrders=true:=k_;clear hload DZ TN g1 g2 v1 v2 v5 v6;gi_upto_region 14 with(fail);gi_cut [15]from 51 (fun b wx=>b= .slice (some ⟨W4.heap.size,0,none⟩) M M/\aT wx W4.heap.size M (fun i=>p3.dat fr (x % 4096+i))/\Below W4.heap.size W4 wx/\W4.heap.size<wx.heap.size)
   case first=>
    refine cK (fun w'=>w'.cell? ⟨w.heap.size,0,none⟩=some (.pointer (some ⟨s,0,none⟩))/\w'.cell? ⟨s,1,none⟩=some (.pointer (some ⟨a,0,none⟩))/\w'.cell? ⟨W3.heap.size,0,none⟩=some (.int .i64 (fr:Int))) 15 k_ k_ (dS.of 14 k_ k_) ⟨c0,s1,x0⟩ ?_;intro Uz Jg;refine zt 0 ?_;refine zt 1 ?_;refine zt 2 ?_;refine zt 3 ?_;refine zt 4 ?_;refine zt 5 ?_;refine zt 6 ?_;refine zt 7 ?_;refine zt 8 ?_;refine zt 9 ?_;refine bQ 10 k_ rfl (fun K' hK=>?_)
    go_simp
    refine(Nq.o).mono ?_;rintro e W5⟨rfl,CH,Eu,HZ5⟩;have c5:=(Eu.o.cell (p:=⟨w.heap.size,0,none⟩) UM).trans c0;have s5:=(Eu.o.cell (p:=⟨s,1,none⟩) (World.block_lt_of_cell? _ _ s1)).trans s1;have x5:=(Eu.o.cell (p:=⟨W3.heap.size,0,none⟩) (World.block_lt_of_cell? _ _ x0)).trans x0;go_wp2_with fail;refine hK.out _ _ ⟨c5,s5,x5⟩ (fun Jg=>?_);clear hK K'
    try simp only[Act.put,List.setIfInBounds_toArray,List.set_cons_zero,List.set_cons_succ,List.getElem_toArray,List.getElem_cons_succ,List.getElem_cons_zero]
    refine zt 11 ?_;refine zt 12 ?_;refine zt 13 ?_;refine zt 14 ?_;refine cw 15 k_ rfl rfl (fun K' hK=>?_)
    go_simp
    refine hK.out _ _ ?_;clear hK K';refine cx k_ ?_ _;refine bV ?_
    gi_wp2
    gi_meet;exact⟨rfl,CH.o,Eu.o,HZ5.o⟩
   case rest=>
   obtain⟨rfl,OY,MR,hZ5⟩:=hcut;have xK:=(zd.o.below MR).sub (K':=LdK w ob A1) (fun b e=> .inl e);have Ik: ∀b,LdK w ob A1 b->wc.heap[b]? =W4.heap[b]? :=fun b hb=>MR.block b (zd.o.own b hb).2.2;have Bg:=yp.o.keep GM (W':=wc) (fun b h1 h2=>Ik b (.inl o_));have GX:=(Ik (ob+3+1) (.inl o_)).trans Pp.o;have De:OwnB wc (ob+5) A1 xt (x-addr) d1:=Bl.o.sameR fun g hg=>Ik g (.inr (by rw[hg];rfl));have o5:wc.cell? ⟨ob,0,none⟩=some (.slice A1 (x-addr) xt):=(by rw[HX.o];exact aa Bg.o 0);have RD:ob<wc.heap.size:=(wO Bg.o).1;have hxa:addr<=x:=(by have:=oq (addr,q) k;have:=cA (addr,q) k;rw[HX.o];dsimp only at *;omega);have RY:x-addr+M<=10000000:=(by have:=HXS.o;omega);obtain⟨Cr,Cv,HL5,Fz,CH⟩:=zh5 xK Bg GX De OY;have xH:ob+5<=wc.heap.size:=(by have:=(wO GX).1;omega);clear xK Ik Bg GX De OY MR hZ5 c0 s1 x0 x1 x2 n0 nf0 e0 ef0 hut hwu hu;gi_upto_region 15 with(fail);gi_wp2_with (gi_at_builtin;refine qA rfl (.tmp 64) (.tmp 65) rfl (ob+5) A1 xt (x-addr) d1 rfl Fz.o ⟨W4.heap.size,0,none⟩ M M (fun i=>p3.dat fr (x % 4096+i)) rfl CH.o.v SH RY xH ?_;intro g Bi W6 Bq Cy Bw Bc;have Gt:=((cO Cy).block ob RD (fun e=>by have:=(Fz.o.blk ob e).1;omega)).trans Cv.o.o;have o6:=aa Gt 0;have of6:=ae Gt 0);obtain⟨W7,FU⟩:=e_ (W6.setCell ⟨ob,0,none⟩ (.slice (some ⟨g,0,none⟩) (x-addr+M) Bi));rw[<-FU];have yY:Mod (fun b=>b=ob) W6 W7:=(by rw[FU];exact aj (S:=fun b=>b=ob) rfl 0 _);have Fq:W7.heap[ob]? =some (.cells #[.slice (some ⟨g,0,none⟩) (x-addr+M) Bi] 39 (0,0)):=(by rw[FU];exact be Gt);have EP: ∀b,w.heap.size<=b->b<ob+5->W6.heap[b]? =wc.heap[b]? :=fun b h1 h2=>(cO Cy).block b o_ (fun e=>by have:=(Fz.o.blk b e).1;omega);have Ay: ∀b,w.heap.size<=b->b<ob+5->b≠ob->W7.heap[b]? =wc.heap[b]? :=fun b h1 h2 h3=>(yY.block b (by have:=(cO Cy).size;omega) h3).trans (EP b h1 h2);have KZ:=(Ay (ob+3+1) o_ o_ o_).trans HL5.o;have Dv:=aC (l:=ob+3+1) (o:= .loop (rec .ready none)) (W:=W7);have Be: ∀ {b:Nat} {o:Obj},W7.heap[b]? =some o->b≠ob+3+1->(W7.putObj (ob+3+1) (.loop (rec .ready none))).heap[b]? =some o:=fun h1 h2=>(Dv.block _ (wO h1).1 h2).trans h1;have LX:PgSt (W7.putObj (ob+3+1) (.loop (rec .ready none))) (ob+2) (ob+1) (pst (addr,q) k):=⟨Be ((Ay _ o_ o_ o_).trans Cv.o.pg.n) o_,Be ((Ay _ o_ o_ o_).trans Cv.o.pg.a) o_⟩;obtain⟨FK,Ba⟩:=io LX o_ (pst (addr,q) (k+1));have Di: ∀ {b:Nat} {o:Obj},W7.heap[b]? =some o->b≠ob+3+1->b≠ob+1->b≠ob+2->(cN (W7.putObj (ob+3+1) (.loop (rec .ready none))) (ob+2) (ob+1) (pst (addr,q) (k+1))).heap[b]? =some o:=fun h1 h2 h3 h4=>(Ba.block _ (wO (Be h1 h2)).1 o_).trans (Be h1 h2);have zY:(pst (addr,q) (k+1)).1=x+M:=(by rw[HX.o,HM.o];rfl);have Fj:=(((((Cr.o.grow (cO Cy) (fun b e=> .inr e)).sub (K':=LdK w ob (some ⟨g,0,none⟩)) (fun b e=>by
    rcases e with e|e
    ·exact .inl (.inl e)
    ·have e2:b=g:=(by simpa using e.symm);subst e2;rcases Bw with h9|h9
     ·exact .inl (.inr h9)
     ·exact .inr ⟨o_,Bc⟩)).set yY (fun b e=> .inl o_)).set Dv (fun b e=> .inl o_)).set Ba (fun b e=> .inl o_))
   have za:ob+5<=g:=(by rcases Bw with h9|h9;exact(Fz.o.blk g h9).1;omega);have DS:OwnB (cN (W7.putObj (ob+3+1) (.loop (rec .ready none))) (ob+2) (ob+1) (pst (addr,q) (k+1))) (ob+5) (some ⟨g,0,none⟩) Bi ((pst (addr,q) (k+1)).1-addr) (fun i=>if i<x-addr then d1 i else p3.dat fr (x % 4096+(i-(x-addr)))):=by
    rw[zY,show x+M-addr=x-addr+M by omega];refine Bq.sameR fun g' Mw=>?_;injection Mw with Mw;injection Mw with Mw;subst Mw;exact((Ba.block g (by have h1:=Dv.size;have h2:=yY.size;exact wW Bc (xn h2 h1)) o_).trans (Dv.block g (by have h2:=yY.size;omega) o_)).trans (yY.block g Bc o_)
   have OL:=Aw.o.step AB.o Yl.o (by rw[<-HX.o];exact Ff.o);refine⟨KZ,.inl ⟨rfl,LX,⟨p3,L3,T3,Ep,S3,some ⟨g,0,none⟩,Bi,_,Fj,⟨FK,Di ((Ay _ o_ o_ o_).trans Cv.o.mark) o_ o_ o_,Di ((Ay _ o_ o_ o_).trans Cv.o.b0) o_ o_ o_,Di ((Ay _ o_ o_ o_).trans Cv.o.b1) o_ o_ o_,Di ((Ay _ o_ o_ o_).trans Cv.o.b2) o_ o_ o_,?_⟩,DS,OL,o_,o_,fun i hi=>?_,fun j hj=>(by rcases Nat.lt_or_ge j k with h9|h9;exact YC.o j h9;obtain rfl:j=k:=o_;exact AB.o)⟩,?_⟩⟩
   ·rw[zY,show(x+M-(addr,q).1)=x-addr+M by simp only;omega];exact Di Fq o_ o_ o_
   ·rw[zY]at hi;dsimp only at hi⊢;by_cases h1:i<x-addr
    ·rw[if_pos h1];exact Od.o i (by rw[<-HX.o];(try dsimp only);omega)
    ·rw[if_neg h1];have h2:=pst_byte (addr,q) k i AB.o (by rw[<-HX.o];(try dsimp only);omega) (by rw[<-HX.o,<-HM.o];exact hi);rw[<-HX.o]at h2;dsimp only at h2;rw[h2.1,h2.2,<-OL.seen.cont _ _ o_,bq YY.o];congr 1;omega
   ·have Mi:=(wO KZ).1;exact(Ba.block _ (by rw[World.putObj_size];exact Mi) o_).trans (World.putObj_heap_same Mi)
  ·have yG:Below w2.heap.size w2 ((w2.alloc (.deferred (some []))).alloc (.loop (rec .ready none))):=wR.alloc s_ _;have yL:=((Av.o.below yW.o).below yG).sub (K':=LdK w ob none) (fun b e=>by
    rcases e with e|e
    ·rcases Nat.lt_or_ge b w0.heap.size with h1|h1
     ·exact .inl (.inl (.inr ⟨e.1,h1⟩))
     ·rcases Nat.lt_or_ge b w2.heap.size with h2|h2
      ·exact .inl (.inr ⟨h1,h2⟩)
      ·exact .inr ⟨h2,by simp[xX];omega⟩
    ·cases e)
   have AM:w.heap.size+1+1<w0.heap.size:=Ed;have zz: ∀ {b:Nat} {o:Obj},w2.heap[b]? =some o->((w2.alloc (.deferred (some []))).alloc (.loop (rec .ready none))).heap[b]? =some o:=fun h1=>(cn (wO h1).1).trans h1;have zh: ∀ {b:Nat} {o:Obj},w0.heap[b]? =some o->((w2.alloc (.deferred (some []))).alloc (.loop (rec .ready none))).heap[b]? =some o:=fun h1=>zz ((yW.o.block _ (wO h1).1).trans h1);refine⟨⟨p,L,T,clock,S,none,0,fun _ =>0,yL,⟨⟨?_,zz TI.o⟩,?_,zh Bp.o,zh QK.o,zh YO.o,?_⟩,?_,gI.start AA.o AS.o,Int.le_refl _,o_,fun i hi=>absurd hi (by show¬addr+i<addr;omega),fun j hj=>absurd hj o_⟩,?_⟩
   ·have:=AJ.o;rw[HQ.o]at this;exact zz this
   ·have:=ab w2 (.deferred (some []));rw[xX]at this;exact(wT _ _ _ (by simp[xX])).trans this
   ·have:(pst (addr,q) 0).1-(addr,q).1=0:=Nat.sub_self _;rw[this];exact zz Fa.o
   ·have:(pst (addr,q) 0).1-(addr,q).1=0:=Nat.sub_self _;rw[this];exact OwnB.nilB _ _ _
   ·have:=ab (w2.alloc (.deferred (some []))) (.loop (rec .ready none))
    rwa [World.size_alloc,xX]at this
  ·rintro e W⟨hv,⟨k,zh,⟨p1,L1,T1,xy,S1,A1,xt,d1,xM,zc,zK,Ei,zT,Ar,Lc,zi⟩,hl⟩|⟨⟨p1,L1,T1,xy,S1,xM,zT,Ar,Af,IN,hn,he⟩,hl⟩⟩
   ·refine⟨hv,.inl ⟨hl,?_⟩⟩;obtain⟨W2,yo⟩:=e_ (W.putObj (ob+3+1) (.loop (rec .exhausted none)));rw[<-yo];have hk33:k<=32:=by
     rcases k with _ |k
     ·omega
     ·have:=mG (addr,q) k (zi k o_);dsimp only at this;omega
    have ze:=cA (addr,q) k;rw[zh,Nat.add_zero]at ze;dsimp only at ze;have xS:Mod (fun b=>b=ob+3+1) W W2:=(by rw[yo];exact aC);have xF:=xM.set xS (fun b e=> .inl o_);have zo: ∀ {b:Nat} {o:Obj},W.heap[b]? =some o->b≠ob+3+1->W2.heap[b]? =some o:=fun h1 h2=>(xS.block _ (wO h1).1 h2).trans h1;have CA:=zo zc.o o_;have Jd:=zo zc.b1 o_;have NX:=zo zc.b2 o_;have EV:=zo zc.mark o_;have AX:OwnB W2 (ob+5) A1 xt q d1:=by
     have h9:=zK.sameR (w':=W2) fun g hg=>xS.block g ((zK.blk g (by rw[hg];rfl)).2) (fun e=>by have:=(zK.blk g (by rw[hg];rfl)).1;omega)
     rwa [ze,show addr+q-(addr,q).1=q by simp]at h9
    rw[ze,show addr+q-(addr,q).1=q by simp]at CA;have o0:W2.cell? ⟨ob,0,none⟩=some (.slice A1 q xt):=aa CA 0;have n0:W2.cell? ⟨w.heap.size+1,0,none⟩=some (.slice none 0 0):=aa Jd 0;have nf0:=ae Jd 0;have e0:W2.cell? ⟨w.heap.size+1+1,0,none⟩=some (.int .i64 0):=aa NX 0;have ef0:=ae NX 0;obtain⟨yh,Ln,QU,Ew,FA,Ff,HD3,UC⟩:=zh8 xF Jd NX EV AX Ei Lc zh;have KO:=wP ze;clear yo xS xF zo CA Jd NX EV AX xM zc zK Ei Lc zi hl hv zh ze;unfold ec
    gi_wp2
    have Ch:=Pd.o W2 (.slice A1 q xt) (.int .i64 0);have yg:=yh.o.set Ch (fun b e=> .inl o_);obtain⟨W4,Gr⟩:=e_ ((W2.setCell ⟨w.heap.size+1,0,none⟩ (.slice A1 q xt)).setCell ⟨w.heap.size+1+1,0,none⟩ (.int .i64 0));have GP:W4.heap[w.heap.size+1]? =some (.cells #[.slice A1 q xt] 39 (0,0)):=by
     rw[Gr];exact((aj (S:=fun b=>b=w.heap.size+1+1) rfl 0 _).block _ (by simp;exact(wO Ln.o).1) o_).trans (be Ln.o)
    have he4:W4.heap[w.heap.size+1+1]? =some (.cells #[.int .i64 0] 32 (0,0)):=by
     rw[Gr];exact be (((aj (S:=fun b=>b=w.heap.size+1) rfl 0 _).block _ (wO QU.o).1 o_).trans QU.o)
    rw[<-Gr]at Ch yg⊢;have hK:W4.heap[ob+3]? =some (.deferred (some [])):=(Ch.block _ (wO Ew.o).1 o_).trans Ew.o;refine⟨s_,.inl ⟨_,_,rfl,run_takeDeferred hK,?_⟩⟩;have EO:=aC (l:=ob+3) (o:= .deferred none) (W:=W4);have xK:=yg.set EO (fun b e=> .inl o_);have JE:=(EO.block _ (wO GP).1 o_).trans GP;have OF:=(EO.block _ (wO he4).1 o_).trans he4;have c1:=aa JE 0;have c2:=aa OF 0;have De:OwnB (W4.putObj (ob+3) (.deferred none)) (ob+5) A1 xt q d1:=FA.o.sameR fun g hg=>by
     obtain⟨h1,h2⟩:=FA.o.blk g (by rw[hg];rfl);exact(EO.block g (by have:=Ch.size;omega) o_).trans (Ch.block g h2 o_)
    refine⟨.tuple #[.slice A1 q xt,.int .i64 0],by simp[results,results70,go_sem,c1,c2],?_⟩;refine⟨0,A1,q,xt,d1,p1,L1,T1,xy,S1,rfl,xK.home.cache,xK.mod,xK.o,zT,o_,De.lower o_,⟨fun g hg=>(xK.own g (.inr hg)).1,o_⟩,.inr (.inr (.inr ⟨o_,o_,by rw[VA];exact Ph.o,rfl,HQ.o.symm,?_,fun i hi=>HD3.o i (by rw[KO.o];(try dsimp only);omega)⟩))⟩;rw[VA];exact⟨k,UC.o,Ff.o⟩
   ·refine⟨hv,.inr ⟨_,hl,?_⟩⟩;obtain⟨W2,yo⟩:=e_ (W.putObj (ob+3+1) (.loop (rec .exhausted (some .ret))));rw[<-yo];have xS:Mod (fun b=>b=ob+3+1) W W2:=(by rw[yo];exact aC);have xF:=xM.set xS (fun b e=> .inl o_);have zo: ∀ {b:Nat} {o:Obj},W.heap[b]? =some o->b≠ob+3+1->W2.heap[b]? =some o:=fun h1 h2=>(xS.block _ (wO h1).1 h2).trans h1;have Jd:=zo hn o_;have NX:=zo he o_;have EV:=zo IN o_;obtain⟨yh,Ln,QU,Ew,Ht⟩:=zh5 xF Jd NX EV Af;clear yo xS xF zo Jd NX EV xM Af IN hn he hl hv;unfold ec
    gi_wp2
    refine⟨s_,.inl ⟨_,_,rfl,run_takeDeferred Ew.o,?_⟩⟩;have EO:=aC (l:=ob+3) (o:= .deferred none) (W:=W2);have xK:=yh.o.set EO (fun b e=> .inl o_);have JE:=(EO.block _ (wO Ln.o).1 o_).trans Ln.o;have OF:=(EO.block _ (wO QU.o).1 o_).trans QU.o;have c1:=aa JE 0;have c2:=aa OF 0;refine⟨.tuple #[.slice none 0 0,.int .i64 4],by simp[results,results70,go_sem,c1,c2],?_⟩;refine⟨4,none,0,0,fun _ =>0,p1,L1,T1,xy,S1,rfl,xK.home.cache,xK.mod,xK.o,zT,Ar,OwnB.nilB _ _ _,⟨fun g hg=>(by cases hg),o_⟩,.inr (.inr (.inl ⟨o_,o_,by rw[VA];exact Ph.o,rfl,?_⟩))⟩;rw[VA];exact Ht.o
end
section
open Go.RowKit Go.Sort
attribute [local go_sem] Oper.semAt_some
def je (l:Leaf):List Value:=[.int .i64 (l.frame:Int),.int .u8 (l.prot:Int),.bool l.copy]
theorem oH:Elem 209 83 3 16 (.agg #[.int .i64 0,.int .u8 0,.bool false]) je:=
 ⟨underlying209,k_,rfl,d_,d_,fun _ =>rfl,fun x v hv=>by simp[je]at hv;rcases hv with rfl|rfl|rfl<;>rfl⟩
variable {k:Nat}{w:World}
theorem OwnG.blk {α:Type}{T:TypeId}{C:α->List Value}{base cap:Nat}{R:Option Addr}{L:List α}(h:OwnG T k C w base R cap L): ∀g,R.map (·.block)=some g->base<=g/\g<w.heap.size:=fun g e=>by
 rcases h.form with⟨h1,_⟩|⟨g',h1,h2,h3,_⟩
 ·rw[h1]at e;cases e
 ·rw[h1]at e;simp at e;subst e;exact⟨h2,h3⟩
theorem Addr.add_blk (ad:Addr)(j:Nat):(ad.add j).block=ad.block:=by unfold Addr.add;split<;>rfl
variable {W:World}{Z:Option Addr}{n:Nat}{d:Nat->Nat}
theorem ap.run {G:Nat->Prop}(h:ap w Z n d)(hm:Mod G w W)(hZ: ∀ad,Z=some ad->ad.block<w.heap.size/\ ¬G ad.block):ap W Z n d:=fun h0=>by
 obtain⟨ad,e,hc⟩:=h h0;obtain⟨h1,h2⟩:=hZ ad e;exact⟨ad,e,fun j hj=>(World.cell?_of_block (by rw[Addr.add_blk];exact hm.block _ h1 h2)).trans (hc j hj)⟩
theorem ap.cut (h:ap w Z n d)(m:Nat):ap w (Z.map (·.add m)) (n-m) (fun i=>d (m+i)):=fun h0=>by
 obtain⟨ad,e,hc⟩:=h o_;exact⟨ad.add m,by rw[e];rfl,fun j hj=>by rw[Addr.add_add];exact hc _ o_⟩
variable {m:Nat}
theorem ap.head (h:ap w Z n d)(hm:m<=n):ap w Z m d:=fun h0=>by
 obtain⟨ad,e,hc⟩:=h o_;exact⟨ad,e,fun j hj=>hc j o_⟩
structure wA (F:List Nd)(hold:Nat->Nat)(rl:List Reg)(x:Nat×Nat)(p:Pool)(L:List Slot)(T:Tab)(p':Pool)(L':List Slot)(T':Tab):Prop where
 seen:Seen F hold rl p L T p' L' T'
 only: ∀g,T.lf g=none->(∀j,0<(pst x j).2->g≠(pst x j).1/4096)->T'.lf g=none
 full:Full hold p' T'
structure wz (w W:World)(s ob:Nat)(V:Value)(x:Nat×Nat)(k:Nat)(m:Nat)(A':Option Addr)(xq:Nat):Prop where
 pg:PgSt W (ob+2) (ob+1) (pst x k)
 mark:W.heap[ob+3]? =some (.deferred (some []))
 b0:W.heap[w.heap.size]? =some (.cells #[.pointer (some ⟨s,0,none⟩)] 60 (0,0))
 b1:W.heap[w.heap.size+1]? =some (.cells #[V] 39 (0,0))
 b2:W.heap[w.heap.size+1+1]? =some (.cells #[.int .i64 0] 32 (0,0))
 o:W.heap[ob]? =some (.cells #[.slice A' m xq] 209 (0,0))
variable {W':World}{s ob xq:Nat}{V:Value}{x:Nat×Nat}{A':Option Addr}
theorem wz.keep (h:wz w W s ob V x k m A' xq)(NK:w.heap.size+3<=ob)(hk: ∀b,w.heap.size<=b->b<ob+4->W'.heap[b]? =W.heap[b]?):wz w W' s ob V x k m A' xq:=
 ⟨⟨(hk _ o_ o_).trans h.pg.n,(hk _ o_ o_).trans h.pg.a⟩,(hk _ o_ o_).trans h.mark,(hk _ o_ o_).trans h.b0,(hk _ o_ o_).trans h.b1,(hk _ o_ o_).trans h.b2,(hk _ o_ o_).trans h.o⟩
def StJ (w:World)(B c a fs m s t root n cap:Nat)(A:Option Addr)(rl:List Reg)(S:Nat->Prop)(F:List Nd)(clock:Int)(p:Pool)(L:List Slot)(T:Tab)(hold:Nat->Nat)(V:Value)(x:Nat×Nat)(ob k:Nat)(W:World):Prop:=
 ∃p' L' T' xr S' A' xq all,Run w W (av S c m) (LdK w ob A') B c a fs m s t root A n cap rl S S' F xr p' L'/\wz w W s ob V x k k A' xq/\OwnG 83 3 je W (ob+5) A' xq all/\Owns F hold rl x k p L T all p' L' T'/\clock<=xr/\xr<=clock+k/\ ∀j,j<k->0<(pst x j).2
def StX (w:World)(B c a fs m s t root n cap:Nat)(A:Option Addr)(rl:List Reg)(S:Nat->Prop)(F:List Nd)(clock:Int)(p:Pool)(L:List Slot)(T:Tab)(hold:Nat->Nat)(x:Nat×Nat)(ob:Nat)(W:World):Prop:=
 ∃p' L' T' xr S',Run w W (av S c m) (LdK w ob none) B c a fs m s t root A n cap rl S S' F xr p' L'/\clock<=xr/\xr<=clock+32/\wA F hold rl x p L T p' L' T'/\W.heap[ob+3]? =some (.deferred (some []))/\W.heap[w.heap.size+1+1]? =some (.cells #[.int .i64 4] 32 (0,0))
structure rO (w W:World)(s ob kb:Nat)(V:Value)(x:Nat×Nat)(j k1:Nat)(A':Option Addr)(xq:Nat):Prop where
 pg:PgSt W (kb+2) (kb+1) (pst x j)
 mark:W.heap[ob+3]? =some (.deferred (some []))
 mark2:W.heap[kb+3]? =some (.deferred (some []))
 b0:W.heap[w.heap.size]? =some (.cells #[.pointer (some ⟨s,0,none⟩)] 60 (0,0))
 b1:W.heap[w.heap.size+1]? =some (.cells #[V] 39 (0,0))
 b2:W.heap[w.heap.size+1+1]? =some (.cells #[.int .i64 0] 32 (0,0))
 o:W.heap[ob]? =some (.cells #[.slice A' k1 xq] 209 (0,0))
 num:W.heap[kb]? =some (.cells #[.int .i64 (j:Int)] 3 (0,0))
theorem rO.keep {kb j k1:Nat}(h:rO w W s ob kb V x j k1 A' xq)(NK:w.heap.size+3<=ob)(hk: ∀b,(w.heap.size<=b/\b<ob+4)\/(kb<=b/\b<kb+4)->W'.heap[b]? =W.heap[b]?):rO w W' s ob kb V x j k1 A' xq:=
 ⟨⟨(hk _ o_).trans h.pg.n,(hk _ o_).trans h.pg.a⟩,(hk _ o_).trans h.mark,(hk _ o_).trans h.mark2,(hk _ o_).trans h.b0,(hk _ o_).trans h.b1,(hk _ o_).trans h.b2,(hk _ o_).trans h.o,(hk _ o_).trans h.num⟩
def StK (w:World)(ob kb:Nat)(A':Option Addr):Nat->Prop:=fun b=>LdK w ob A' b\/(kb<=b/\b<kb+5)
def StJ2 (w:World)(B c a fs m s t root n cap:Nat)(A:Option Addr)(rl:List Reg)(S0 S:Nat->Prop)(F:List Nd)(clock:Int)(p:Pool)(L:List Slot)(T:Tab)(hold:Nat->Nat)(d:Nat->Nat)(x:Nat×Nat)(ob kb:Nat)(A':Option Addr)(xq:Nat)(all:List Leaf)(j:Nat)(W:World):Prop:=
 ∃p' Z cz,Run w W (av S0 c m) (StK w ob kb A') B c a fs m s t root A n cap rl S0 S F clock p' L/\rO w W s ob kb (.slice Z (pst x j).2 cz) x j all.length A' xq/\OwnG 83 3 je W (ob+5) A' xq all/\Lays F hold rl x d ((pst x j).1-x.1) p L T p'/\ap w Z (pst x j).2 (fun i=>d ((pst x j).1-x.1+i))/\(∀ad,Z=some ad->ad.block<w.heap.size/\ ¬av S0 c m ad.block)/\(pst x j).2<=cz
def eh (F:List Nd)(hold:Nat->Nat)(rl:List Reg)(p:Pool)(L:List Slot)(T:Tab)(addr q:Nat)(d:Nat->Nat)(want:Int)(er:Int)(p':Pool)(L':List Slot)(T':Tab):Prop:=
 (65536<q/\er=1/\p'=p/\L'=L/\T'=T)\/
 (q<=65536/\df rl (addr,q) want=false/\er=6/\p'=p/\L'=L/\T'=T)\/
 (q<=65536/\df rl (addr,q) want=true/\er=4/\wA F hold rl (addr,q) p L T p' L' T')\/
 (q<=65536/\df rl (addr,q) want=true/\er=0/\ ∃j all p1,(pst (addr,q) j).2=0/\Owns F hold rl (addr,q) j p L T all p1 L' T'/\Lays F hold rl (addr,q) d q p1 L' T' p')
def pi (w:World)(S:Nat->Prop)(c a fs m:Nat)(F:List Nd)(rl:List Reg)(clock:Int)(p:Pool)(L:List Slot)(T:Tab)(hold:Nat->Nat)(addr q:Nat)(d:Nat->Nat)(want:Int)(e:Ending)(w':World):Prop:=
 ∃er p' L' T' xr S',e= .returned (.int .i64 er)/\au w' S' c a fs m xr p' L'/\Mod (av S c m) w w'/\Out S S' w/\clock<=xr/\xr<=clock+32/\eh F hold rl p L T addr q d want er p' L' T'
theorem sj (B c a fs m s t root n cap addr q cq:Nat)(want:Int)(A Ab:Option Addr)(d:Nat->Nat)(rl:List Reg)(clock:Int)(w:World)(S:Nat->Prop)(F:List Nd)(p:Pool)(L:List Slot)(T:Tab)(hold:Nat->Nat)
  (hH:Home w B c a fs m S F clock p L)(hO:One w B c a m S s t root A n cap rl)(zZ:Sp F hold p L T)(ho:Own p T)(hr:T.nd 4 0=some root)(hR:Rgs F rl)(Bh:addr<18446744073709551616)(yA: ∀f,hold f<=100000000000)(BU:0<=clock/\clock+32<1000000)
  (hq:q<9223372036854775808)(Ot:q<=cq)(hb:ap w Ab q d)(hd: ∀j,d j<256)(Gw: ∀ad,Ab=some ad->ad.block<w.heap.size/\ ¬av S c m ad.block):
  Calls prog 71 #[.pointer (some ⟨s,0,none⟩),.int .u64 (addr:Int),.slice Ab q cq,.int .u8 want] w (pi w S c a fs m F rl clock p L T hold addr q d want):=by
 refine(callsIn_wide (n:=9)).1 ?_;refine callsIn_of_wp_marks func71 rfl trivial ?_;simp only[ntmps71,List.size_toArray,xd,List.length_nil,Nat.reduceAdd,Nat.reduceSub,Array.replicate_succ,Array.replicate_zero,List.push_toArray,List.append_toArray,List.nil_append,List.cons_append];obtain⟨w0,xv⟩:=e_ (((w.alloc (.cells #[.pointer (some ⟨s,0,none⟩)] 60)).alloc (.cells #[.slice Ab q cq] 39)).alloc (.cells #[.int .i64 0] 32));have xT:w0.heap.size=w.heap.size+1+1+1:=(by rw[xv];simp);have xz:Below w.heap.size w w0:=(by rw[xv];exact(wR.alloc s_ _).alloc t_ _);have Hq:w0.heap[w.heap.size+1+1]? =some (.cells #[.int .i64 0] 32 (0,0)):=by
  rw[xv];have:=ab ((w.alloc (.cells #[.pointer (some ⟨s,0,none⟩)] 60)).alloc (.cells #[.slice Ab q cq] 39)) (.cells #[.int .i64 0] 32)
  rwa [World.size_alloc,World.size_alloc]at this
 have Lj:w0.heap[w.heap.size+1]? =some (.cells #[.slice Ab q cq] 39 (0,0)):=by
  rw[xv];have:=ab (w.alloc (.cells #[.pointer (some ⟨s,0,none⟩)] 60)) (.cells #[.slice Ab q cq] 39);rw[World.size_alloc]at this;exact(wT _ _ _ s_).trans this
 have BH:w0.heap[w.heap.size]? =some (.cells #[.pointer (some ⟨s,0,none⟩)] 60 (0,0)):=by
  rw[xv];exact(wT _ _ _ t_).trans ((wT _ _ _ s_).trans (ab w _))
 have AG:=(Run.start hH hO (fun _ e=>e)).below xz;have s0:w0.cell? ⟨w.heap.size,0,none⟩=some (.pointer (some ⟨s,0,none⟩)):=aa BH 0;have n0:w0.cell? ⟨w.heap.size+1,0,none⟩=some (.slice Ab q cq):=aa Lj 0;have e0:w0.cell? ⟨w.heap.size+1+1,0,none⟩=some (.int .i64 0):=aa Hq 0;have ef0:=ae Hq 0;have IJ:w.heap.size+1<w0.heap.size:=o_;have Ed:w.heap.size+1+1<w0.heap.size:=o_;obtain⟨xU,EH,YO,QK,Bp,Av,AA,AS⟩:=zh8 xv xT Hq Lj BH AG zZ ho;obtain⟨HR,HRG,yd,YX,HD,JA⟩:=zh6 hr hR xz hb hd Gw;have zv:=eO s c a t n cap A w0 AG.one.self;have yu:=wP zv;clear zv xv xT xz Hq Lj BH AG hH hO zZ ho hr hR hb hd Gw;have VW:=fun(w0:World) (u:Value)=>aj (S:=fun b=>b=w.heap.size+1+1) (w:=w0) (b:=w.heap.size+1+1) rfl 0 u;have Jm:=wP VW;clear VW;by_cases Ag:(65536:Int)<(q:Int)
 ·have key:pi w S c a fs m F rl clock p L T hold addr q d want (.returned (.int .i64 1)) (w0.setCell ⟨w.heap.size+1+1,0,none⟩ (.int .i64 1)):=by
   have xM:=Av.o.set (Jm.o w0 (.int .i64 1)) (fun b e=> .inr (by have:=EH.o;omega));exact⟨1,p,L,T,clock,S,rfl,xM.home.cache,xM.mod,xM.o,Int.le_refl _,o_,.inl ⟨o_,rfl,rfl,rfl,rfl⟩⟩
  have KEY:=wP key;clear key;gi_wp2_with (first
   |(refine⟨trivial,?_⟩;rw[<-xU.o];refine(callsIn_wide.2 yu.o).mono ?_;rintro e w1⟨rfl,rfl⟩)
   |fail)
  exact⟨.int .i64 1,by simp[results,results71,go_sem,e0,ef0,Ed],KEY.o⟩
 have Ki:q<=65536:=o_;have yy:=kD s c a t n cap A rl addr q want w0 Av.o.one.self Av.o.one.row Bh o_;cases hpb:df rl (addr,q) want with
 |false=>
  rw[hpb]at yy;obtain⟨Er,Ph⟩:=zh2 yy hpb;clear yy hpb;gi_wp2_with (first
   |(refine⟨trivial,?_⟩;rw[<-xU.o];refine(callsIn_wide.2 yu.o).mono ?_;rintro e w1⟨rfl,rfl⟩)
   |(refine⟨trivial,?_⟩;refine(callsIn_wide.2 Er.o).mono ?_;rintro e w1⟨rfl,xu⟩;have yP:=(xu.block _ Ed).trans YO.o;have e1:w1.cell? ⟨w.heap.size+1+1,0,none⟩=some (.int .i64 0):=aa yP 0;have ef1:=ae yP 0;have MB:w.heap.size+1+1<w1.heap.size:=(wO yP).1)
   |fail)
  refine⟨.int .i64 6,by simp[results,results71,go_sem,e1,ef1,MB],?_⟩;have xM:=(Av.o.below xu).set (Jm.o w1 (.int .i64 6)) (fun b e=> .inl (.inr (by have:=EH.o;omega)));exact⟨6,p,L,T,clock,S,rfl,xM.home.cache,xM.mod,xM.o,Int.le_refl _,o_,.inr (.inl ⟨Ki,Ph.o,rfl,rfl,rfl,rfl⟩)⟩
 |true=>
  have Kj:Perm rl (addr,q) want:=by
   unfold df at hpb;exact @xi _ (Classical.propDecidable _) hpb
  rw[hpb]at yy;obtain⟨Er,Ph,Ka⟩:=zh3 yy hpb Kj;clear yy hpb Kj;gi_upto_region 8 with(first
   |(refine⟨trivial,?_⟩;rw[<-xU.o];refine(callsIn_wide.2 yu.o).mono ?_;rintro e w1⟨rfl,rfl⟩)
   |(refine⟨trivial,?_⟩;refine(callsIn_wide.2 Er.o).mono ?_;rintro e w1⟨rfl,xu⟩;have Gu:=(xu.block _ IJ).trans QK.o;have n1: ∀o,(w1.alloc o).cell? ⟨w.heap.size+1,0,none⟩=some (.slice Ab q cq):=fun o=>aa ((wT _ _ _ (wO Gu).1).trans Gu) 0)
   |fail)
  obtain⟨ob,NK⟩: ∃ob,w1.heap.size=ob:=⟨_,rfl⟩;have GM:w.heap.size+3<=ob:=(by have:=xu.size;have:=EH.o;omega);obtain⟨wa,KT⟩:=e_ (w1.alloc (.cells #[.slice none 0 0] 209));have na:=n1 (.cells #[.slice none 0 0] 209);rw[<-KT]at na;rw[<-KT,NK];have Px:wa.heap.size=ob+1:=(by rw[KT];simp[NK]);have TZ:Below w0.heap.size w0 wa:=(by rw[KT];exact xu.alloc xu.size _);have Xn:wa.heap[ob]? =some (.cells #[.slice none 0 0] 209 (0,0)):=(by rw[KT,<-NK];exact ab w1 _);obtain⟨ZT,TE⟩:=zh2 Xn TZ;clear KT TZ Xn xu n1 Gu;gi_wp2_with (first
   |(refine⟨trivial,?_⟩;refine(callsIn_wide.2 (iv (addr:Int) (q:Int) wa)).mono ?_;rintro e w2⟨rfl,yl⟩)
   |fail)
  have xX:w2.heap.size=ob+3:=(by rw[yl];simp[Px]);have xx:Below wa.heap.size wa w2:=(by rw[yl];exact wR.alloc s_ _);have Hr:w2.heap[ob+1]? =some (.cells #[.int .u64 (addr:Int)] 43 (0,0)):=(by rw[yl,<-Px];exact(wT _ _ _ s_).trans (ab wa _));have Xp:w2.heap[ob+2]? =some (.cells #[.int .i64 (q:Int)] 3 (0,0)):=by
   rw[yl];have:=ab (wa.alloc (.cells #[.int .u64 (addr:Int)] 43)) (.cells #[.int .i64 (q:Int)] 3);rw[World.size_alloc,Px]at this;exact this
  obtain⟨yW,TI,AJ,Fa⟩:=zh4 (TE.o.trans (xx.mono (by have:=TE.o.size;omega))) Hr Xp ((xx.block _ o_).trans ZT.o);rw[<-yl];clear yl xx Hr Xp na;refine cv rfl o_ (gf:=155) (lb:= #[.pointer (some ⟨ob+1+1,0,none⟩),.pointer (some ⟨ob+1,0,none⟩)]) rfl trivial (enters_of func155 k_ rfl) ?_;rw[xX];intro fn FP rec zr;refine(iw (9-1) o_ (ob+3+1) (ob+1+1) (ob+1) o_ (addr,q) (by have:=Ka.o.1;simp only at this⊢;omega) (fun k W=>StJ w B c a fs m s t root n cap A rl S F clock p L T hold (.slice Ab q cq) (addr,q) ob k W/\W.heap[ob+3+1]? =some (.loop (rec .ready none)))
   (fun W=>StX w B c a fs m s t root n cap A rl S F clock p L T hold (addr,q) ob W/\W.heap[ob+3+1]? =some (.loop (rec .done (some .ret)))) ?_ ?_ _ ?_).mono ?_
  ·rintro k W⟨⟨p',L',T',xr,S',A',xq,d,h1,h2,h3⟩,_⟩;exact h2.pg
  ·rintro k W⟨hJ,hl⟩ xZ;refine bP trivial zr hl rfl ?_;obtain⟨p1,L1,T1,xy,S1,A1,xt,all1,xM,zc,zK,Ei,zT,Ar,zi⟩:=hJ;obtain⟨x,hx⟩:=e_ ((pst (addr,q) k).1);obtain⟨M,hM⟩:=e_ (pm (pst (addr,q) k));rw[<-hx,<-hM];have xD:=mG (addr,q) k xZ;dsimp only at xD;have hk17:k<=17:=o_;obtain⟨HX,HM,Fx,ND,Et,Aw,YC,AB⟩:=zh8 hx hM xM zc zK Ei zi xZ;obtain⟨Th,HL⟩:=zh2 zr hl;clear hx hM xM zc zK Ei zi xZ zr hl xD
   gi_wp2
   refine⟨HL.o,?_⟩;obtain⟨W2,yo⟩:=e_ (W.putObj (ob+3+1) (.loop (rec .busy none)));rw[<-yo];have xS:Mod (fun b=>b=ob+3+1) W W2:=(by rw[yo];exact aC);have xW:W2.heap[ob+3+1]? =some (.loop (rec .busy none)):=(by rw[yo];exact World.putObj_heap_same (wO HL.o).1);have xF:=Fx.o.set xS (fun b e=> .inl o_);have yV:=ND.o.keep GM (W':=W2) (fun b h1 h2=>by
    rcases Nat.lt_or_ge b W.heap.size with h3|h3
    ·exact xS.block b h3 o_
    ·rw[Array.getElem?_eq_none h3,Array.getElem?_eq_none];rw[yo,World.putObj_size];exact h3)
   have AX:OwnG 83 3 je W2 (ob+5) A1 xt all1:=
    Et.o.same fun g hg=>xS.block g ((Et.o.blk g (by rw[hg];rfl)).2) (fun e=>by have:=(Et.o.blk g (by rw[hg];rfl)).1;omega)
   obtain⟨r,zM,_⟩:=Ka.o.2 k AB.o;have Jc:Ask F rl r (x/4096):=HRG.o.ask (by rw[HX.o];exact zM);have Ic:x+(pst (addr,q) k).2=addr+q:=(by rw[HX.o];exact cA (addr,q) k);have hxb:x<=140737488355328:=(by have:=Ka.o.1;simp only at this;omega);have Ad:IntKind.u64.wrap ((x:Int)/4096*4096)=(x:Int)/4096*4096:=v_;have Eg:=sown_any B c a fs m s t root n cap (x/4096) A rl r xy ((x:Int)/4096*4096) W2 S1 F p1 L1 T1 hold xF.home xF.one Aw.o.seen.kept.sp Aw.o.seen.kept.own (Aw.o.seen.kept.root _ HR.o) Jc o_ yA o_;have yI:(Rg.find rl ((((pst (addr,q) k).1/4096:Nat):Int)*4096)).1=r:=(by rw[<-HX.o,Jc.find]);have c0:W2.cell? ⟨w.heap.size,0,none⟩=some (.pointer (some ⟨s,0,none⟩)):=aa yV.b0 0;have hobW:ob+5<=W2.heap.size:=(by have:=(wO xW).1;omega);obtain⟨Jy,Yl,yh,zS,FB,Jq,HXS⟩:=zh7 Eg yI xF yV AX xW Ic;clear Eg yI xF yV AX xW Jc zM Ic xS yo;gi_upto_region 11 with(first
    |(refine⟨trivial,?_⟩;refine(CallsIn.inRound (ob+3+1) (callsIn_wide.2 Jy.o)).mono ?_;rintro e W3⟨er,⟨fr,pr,cp⟩,p3,L3,T3,Ep,S3,rfl,DJ,zF,Am,CS,zX,Eh⟩;unfold aq)
    |fail)
   obtain⟨W4,Gr⟩:=e_ (W3.alloc (.cells #[.int .i64 (fr:Int),.int .u8 (pr:Int),.bool cp] 83));rw[<-Gr];obtain⟨yx,Il⟩:=yh.o.call DJ zF Am;have yG:Below W3.heap.size W3 W4:=(by rw[Gr];exact wR);have CU:W4.heap.size=W3.heap.size+1:=(by rw[Gr];simp);have JR:W4.heap[W3.heap.size]? =some (.cells #[.int .i64 (fr:Int),.int .u8 (pr:Int),.bool cp] 83 (0,0)):=(by rw[Gr];exact ab W3 _);have zy:=zF.size;have yg:=(yx.below yG).sub (K':=LdK w ob A1) (fun b e=> .inl e);have Dj: ∀b,LdK w ob A1 b->W4.heap[b]? =W2.heap[b]? :=fun b hb=>(yG.block b ((yh.o.own b hb).2.2 |> fun h=>o_)).trans (Il b hb);have Aa:=zS.o.keep GM (W':=W4) (fun b h1 h2=>Dj b (.inl o_));have Mt:=(Dj (ob+3+1) (.inl o_)).trans Jq.o;have BB:OwnG 83 3 je W4 (ob+5) A1 xt all1:=FB.o.same fun g hg=>Dj g (.inr (by rw[hg];rfl));obtain⟨zd,yp,Pp,Bl,CE,Ff⟩:=zh6 yg Aa Mt BB JR Eh;have UM:w.heap.size<W4.heap.size:=o_;have xH:ob+5<=W4.heap.size:=o_;clear yx Il yG JR yg Dj Aa Mt BB Eh DJ zF Am Gr Ad c0 CU zy;have e0:W4.cell? ⟨w.heap.size+1+1,0,none⟩=some (.int .i64 0):=aa yp.o.b2 0;have ef0:=ae yp.o.b2 0;by_cases Bs:er=0
   rotate_left
   ·have xA:(er != 0)=true:=(by rw[bne_iff_ne];exact Bs);obtain⟨MA,Vj,Vi,Vh⟩:=Aw.o.fail AB.o Yl.o (by rw[<-HX.o];exact Ff.o) Bs;subst MA;have Jh:=wP (wA.mk Vj Vi Vh);clear Vj Vi Vh Bs
    gi_wp2
    have Ch:=Jm.o W4 (.int .i64 4);have xK:=zd.o.set Ch (fun b e=> .inl o_);have GX:=(Ch.block _ (wO Pp.o).1 o_).trans Pp.o;have yK:=(Ch.block _ (wO yp.o.mark).1 o_).trans yp.o.mark;have OF:(W4.setCell ⟨w.heap.size+1+1,0,none⟩ (.int .i64 4)).heap[w.heap.size+1+1]? =some (.cells #[.int .i64 4] 32 (0,0)):=be yp.o.b2;refine⟨GX,.inr ⟨rfl,?_,World.putObj_heap_same (wO GX).1⟩⟩;have Dv:=aC (l:=ob+3+1) (o:= .loop (rec .done (some .ret))) (W:=W4.setCell ⟨w.heap.size+1+1,0,none⟩ (.int .i64 4));have zp:=xK.set Dv (fun b e=> .inl o_);have Eb: ∀ {b:Nat} {o:Obj},(W4.setCell ⟨w.heap.size+1+1,0,none⟩ (.int .i64 4)).heap[b]? =some o->b≠ob+3+1->((W4.setCell ⟨w.heap.size+1+1,0,none⟩ (.int .i64 4)).putObj (ob+3+1) (.loop (rec .done (some .ret)))).heap[b]? =some o:=fun h1 h2=>(Dv.block _ (wO h1).1 h2).trans h1;exact⟨p3,L3,T3,Ep,S3,zp.sub (fun b e=>e.elim .inl (fun e=>by cases e)),o_,o_,Jh.o,Eb yK o_,Eb OF o_⟩
   subst Bs;have hOW:=Ff.o.got rfl;have Dg:k=all1.length:=Aw.o.len.symm;obtain⟨Yx,HOW⟩:=zh2 Dg hOW;obtain⟨⟨x0,x1,x2⟩,_,_⟩:=box3 CE.o;have o4:W4.cell? ⟨ob,0,none⟩=some (.slice A1 k xt):=aa yp.o.o 0;have RD:ob<W4.heap.size:=o_;clear hOW Dg;gi_upto_region 13 with(fail);gi_wp2_with (gi_at_builtin;refine wk oH rfl (.tmp 48) (.tmp 50) rfl (ob+5) A1 xt k all1 Yx.o rfl (Bl.o.alloc _) ⟨fr,pr,cp⟩ W4.heap.size 1 rfl (ab W4 _) o_ t_ ?_;intro g Bi W6 Bq Cy Bw Bc;have Gt:=((cO Cy).block ob t_ (fun e=>by have:=(Bl.o.blk ob e).1;omega)).trans ((wT _ _ _ RD).trans yp.o.o);have o6:=aa Gt 0;have of6:=ae Gt 0);obtain⟨W7,FU⟩:=e_ (W6.setCell ⟨ob,0,none⟩ (.slice (some ⟨g,0,none⟩) (k+1) Bi));rw[<-FU];have yY:Mod (fun b=>b=ob) W6 W7:=(by rw[FU];exact aj (S:=fun b=>b=ob) rfl 0 _);have Fq:W7.heap[ob]? =some (.cells #[.slice (some ⟨g,0,none⟩) (k+1) Bi] 209 (0,0)):=(by rw[FU];exact be Gt);obtain⟨W5,JS⟩:=e_ (W4.alloc (.cells #[.int .i64 (fr:Int),.int .u8 (pr:Int),.bool cp] 83));rw[<-JS]at Cy;have WZ:Below W4.heap.size W4 W5:=(by rw[JS];exact wR);have Iw:W5.heap.size=W4.heap.size+1:=(by rw[JS];simp);have Xd:A1.map (·.block)=some g\/g=W5.heap.size:=(by rw[JS];exact Bw);have NI:=(cO Cy).size;have EP: ∀b,w.heap.size<=b->b<ob+5->W6.heap[b]? =W4.heap[b]? :=fun b h1 h2=>((cO Cy).block b o_ (fun e=>by have:=(Bl.o.blk b e).1;omega)).trans (WZ.block b o_);have Ay: ∀b,w.heap.size<=b->b<ob+5->b≠ob->W7.heap[b]? =W4.heap[b]? :=fun b h1 h2 h3=>(yY.block b o_ h3).trans (EP b h1 h2);have KZ:=(Ay (ob+3+1) o_ o_ o_).trans Pp.o;have Dv:=aC (l:=ob+3+1) (o:= .loop (rec .ready none)) (W:=W7);have Be: ∀ {b:Nat} {o:Obj},W7.heap[b]? =some o->b≠ob+3+1->(W7.putObj (ob+3+1) (.loop (rec .ready none))).heap[b]? =some o:=fun h1 h2=>(Dv.block _ (wO h1).1 h2).trans h1;have LX:PgSt (W7.putObj (ob+3+1) (.loop (rec .ready none))) (ob+2) (ob+1) (pst (addr,q) k):=⟨Be ((Ay _ o_ o_ o_).trans yp.o.pg.n) o_,Be ((Ay _ o_ o_ o_).trans yp.o.pg.a) o_⟩;obtain⟨FK,Ba⟩:=io LX o_ (pst (addr,q) (k+1));have Di: ∀ {b:Nat} {o:Obj},W7.heap[b]? =some o->b≠ob+3+1->b≠ob+1->b≠ob+2->(cN (W7.putObj (ob+3+1) (.loop (rec .ready none))) (ob+2) (ob+1) (pst (addr,q) (k+1))).heap[b]? =some o:=fun h1 h2 h3 h4=>(Ba.block _ (wO (Be h1 h2)).1 o_).trans (Be h1 h2);have Fj:=((((((zd.o.below WZ).grow (cO Cy) (fun b e=> .inl (.inr e))).sub (K':=LdK w ob (some ⟨g,0,none⟩)) (fun b e=>by
    rcases e with e|e
    ·exact .inl (.inl (.inl e))
    ·have e2:b=g:=(by simpa using e.symm);subst e2;rcases Xd with h9|h9
     ·exact .inl (.inl (.inr h9))
     ·exact .inr ⟨o_,Bc⟩)).set yY (fun b e=> .inl o_)).set Dv (fun b e=> .inl o_)).set Ba (fun b e=> .inl o_))
   have za:ob+5<=g:=(by rcases Xd with h9|h9;exact(Bl.o.blk g h9).1;omega);have DS:OwnG 83 3 je (cN (W7.putObj (ob+3+1) (.loop (rec .ready none))) (ob+2) (ob+1) (pst (addr,q) (k+1))) (ob+5) (some ⟨g,0,none⟩) Bi (all1++[⟨fr,pr,cp⟩]):=by
    refine Bq.same fun g' Mw=>?_;injection Mw with Mw;injection Mw with Mw;subst Mw;exact((Ba.block g (by have h1:=Dv.size;have h2:=yY.size;exact wW Bc (xn h2 h1)) o_).trans (Dv.block g (by have h2:=yY.size;omega) o_)).trans (yY.block g Bc o_)
   have OL:=Aw.o.step AB.o Yl.o (by rw[<-HX.o];exact Ff.o);refine⟨KZ,.inl ⟨rfl,LX,⟨p3,L3,T3,Ep,S3,some ⟨g,0,none⟩,Bi,_,Fj,⟨FK,Di ((Ay _ o_ o_ o_).trans yp.o.mark) o_ o_ o_,Di ((Ay _ o_ o_ o_).trans yp.o.b0) o_ o_ o_,Di ((Ay _ o_ o_ o_).trans yp.o.b1) o_ o_ o_,Di ((Ay _ o_ o_ o_).trans yp.o.b2) o_ o_ o_,Di Fq o_ o_ o_⟩,DS,OL,o_,o_,fun j hj=>(by rcases Nat.lt_or_ge j k with h9|h9;exact YC.o j h9;obtain rfl:j=k:=o_;exact AB.o)⟩,?_⟩⟩;have Mi:=(wO KZ).1;exact(Ba.block _ (by rw[World.putObj_size];exact Mi) o_).trans (World.putObj_heap_same Mi)
  ·have yG:Below w2.heap.size w2 ((w2.alloc (.deferred (some []))).alloc (.loop (rec .ready none))):=wR.alloc s_ _;have yL:=((Av.o.below yW.o).below yG).sub (K':=LdK w ob none) (fun b e=>by
    rcases e with e|e
    ·rcases Nat.lt_or_ge b w0.heap.size with h1|h1
     ·exact .inl (.inl (.inr ⟨e.1,h1⟩))
     ·rcases Nat.lt_or_ge b w2.heap.size with h2|h2
      ·exact .inl (.inr ⟨h1,h2⟩)
      ·exact .inr ⟨h2,by simp[xX];omega⟩
    ·cases e)
   have zz: ∀ {b:Nat} {o:Obj},w2.heap[b]? =some o->((w2.alloc (.deferred (some []))).alloc (.loop (rec .ready none))).heap[b]? =some o:=fun h1=>(cn (wO h1).1).trans h1;have zh: ∀ {b:Nat} {o:Obj},w0.heap[b]? =some o->((w2.alloc (.deferred (some []))).alloc (.loop (rec .ready none))).heap[b]? =some o:=fun h1=>zz ((yW.o.block _ (wO h1).1).trans h1);refine⟨⟨p,L,T,clock,S,none,0,[],yL,⟨⟨zz AJ.o,zz TI.o⟩,?_,zh Bp.o,zh QK.o,zh YO.o,zz Fa.o⟩,OwnG.nil _ _,Owns.start AA.o AS.o,Int.le_refl _,o_,fun j hj=>absurd hj o_⟩,?_⟩
   ·have:=ab w2 (.deferred (some []));rw[xX]at this;exact(wT _ _ _ (by simp[xX])).trans this
   ·have:=ab (w2.alloc (.deferred (some []))) (.loop (rec .ready none))
    rwa [World.size_alloc,xX]at this
  ·rintro e W⟨hv,⟨k,zh,⟨p1,L1,T1,xy,S1,A1,xt,all1,xM,zc,zK,Ei,zT,Ar,zi⟩,hl⟩|⟨⟨p1,L1,T1,xy,S1,xM,zT,Ar,Af,IN,he⟩,hl⟩⟩
   rotate_left
   ·refine⟨hv,.inr ⟨_,hl,?_⟩⟩;obtain⟨W2,yo⟩:=e_ (W.putObj (ob+3+1) (.loop (rec .exhausted (some .ret))));rw[<-yo];have xS:Mod (fun b=>b=ob+3+1) W W2:=(by rw[yo];exact aC);have xF:=xM.set xS (fun b e=> .inl o_);have zo: ∀ {b:Nat} {o:Obj},W.heap[b]? =some o->b≠ob+3+1->W2.heap[b]? =some o:=fun h1 h2=>(xS.block _ (wO h1).1 h2).trans h1;have NX:=zo he o_;have EV:=zo IN o_;obtain⟨yh,QU,Ew,Ht⟩:=zh4 xF NX EV Af;clear yo xS xF zo NX EV xM Af IN he hl hv;unfold ec
    gi_wp2
    refine⟨s_,.inl ⟨_,_,rfl,run_takeDeferred Ew.o,?_⟩⟩;have EO:=aC (l:=ob+3) (o:= .deferred none) (W:=W2);have xK:=yh.o.set EO (fun b e=> .inl o_);have OF:=(EO.block _ (wO QU.o).1 o_).trans QU.o;have c2:=aa OF 0;refine⟨.int .i64 4,by simp[results,results71,go_sem,c2],?_⟩;exact⟨4,p1,L1,T1,xy,S1,rfl,xK.home.cache,xK.mod,xK.o,zT,Ar,.inr (.inr (.inl ⟨Ki,Ph.o,rfl,Ht.o⟩))⟩
   ·refine⟨hv,.inl ⟨hl,?_⟩⟩;obtain⟨W2,yo⟩:=e_ (W.putObj (ob+3+1) (.loop (rec .exhausted none)));rw[<-yo];have hk33:k<=32:=by
     rcases k with _ |k
     ·omega
     ·have:=mG (addr,q) k (zi k o_);dsimp only at this;omega
    have xS:Mod (fun b=>b=ob+3+1) W W2:=(by rw[yo];exact aC);have xF:=xM.set xS (fun b e=> .inl o_);have zo: ∀ {b:Nat} {o:Obj},W.heap[b]? =some o->b≠ob+3+1->W2.heap[b]? =some o:=fun h1 h2=>(xS.block _ (wO h1).1 h2).trans h1;have yV:wz w W2 s ob (.slice Ab q cq) (addr,q) k k A1 xt:=⟨⟨zo zc.pg.n o_,zo zc.pg.a o_⟩,zo zc.mark o_,zo zc.b0 o_,zo zc.b1 o_,zo zc.b2 o_,zo zc.o o_⟩;have AX:OwnG 83 3 je W2 (ob+5) A1 xt all1:=zK.same fun g hg=>xS.block g ((zK.blk g (by rw[hg];rfl)).2) (fun e=>by have:=(zK.blk g (by rw[hg];rfl)).1;omega);obtain⟨yh,zS,FB,Aw,UC,Th,HZW2⟩:=zh7 xF yV AX Ei zh zr xX;have n2: ∀o,(W2.alloc o).cell? ⟨w.heap.size+1,0,none⟩=some (.slice Ab q cq):=fun o=>aa ((wT _ _ _ (wO yV.b1).1).trans yV.b1) 0;clear yo xS xF zo yV AX xM zc zK Ei zi hl hv zh zr n0 s0 e0 ef0 xX;unfold ec;gi_upto_region 15 with(fail);obtain⟨kb,Ik⟩: ∃kb,W2.heap.size=kb:=⟨_,rfl⟩;obtain⟨V,hV⟩:=e_ (W2.alloc (.cells #[.int .i64 0] 3));have nV:=n2 (.cells #[.int .i64 0] 3);rw[<-hV]at nV;rw[<-hV,Ik];have Zl:V.heap.size=kb+1:=(by rw[hV];simp[Ik]);have hbV:Below W2.heap.size W2 V:=(by rw[hV];exact wR);have hKV:V.heap[kb]? =some (.cells #[.int .i64 0] 3 (0,0)):=(by rw[hV,<-Ik];exact ab W2 _);have hobk:ob+5<=kb:=(by rw[<-Ik];have:=(yh.o.own (ob+4) (.inl o_)).2.2;omega);obtain⟨HKV,Iu,HKB⟩:=zh3 hKV hbV Ik;clear hV hKV hbV n2 Ik;gi_wp2_with (first
     |(refine⟨trivial,?_⟩;refine(callsIn_wide.2 (iv (addr:Int) (q:Int) V)).mono ?_;rintro e W3⟨rfl,CT⟩)
     |fail)
    have zy:W3.heap.size=kb+3:=(by rw[CT];simp[Zl]);have xE:Below V.heap.size V W3:=(by rw[CT];exact wR.alloc s_ _);have Qw:W3.heap[kb+1]? =some (.cells #[.int .u64 (addr:Int)] 43 (0,0)):=(by rw[CT,<-Zl];exact(wT _ _ _ s_).trans (ab V _));have hN3:W3.heap[kb+2]? =some (.cells #[.int .i64 (q:Int)] 3 (0,0)):=by
     rw[CT];have:=ab (V.alloc (.cells #[.int .u64 (addr:Int)] 43)) (.cells #[.int .i64 (q:Int)] 3);rw[World.size_alloc,Zl]at this;exact this
    obtain⟨yZ,Zi,Ln,Ns⟩:=zh4 (Iu.o.trans (xE.mono (by have:=Iu.o.size;omega))) Qw hN3 ((xE.block _ o_).trans HKV.o);rw[<-CT];clear CT xE Qw hN3 nV Zl;refine cv rfl o_ (gf:=155) (lb:= #[.pointer (some ⟨kb+1+1,0,none⟩),.pointer (some ⟨kb+1,0,none⟩)]) rfl trivial (enters_of func155 k_ rfl) ?_;rw[zy];intro fn2 hfn2 rec2 LP;refine(iw (9-1) o_ (kb+3+1) (kb+1+1) (kb+1) o_ (addr,q) (by have:=Ka.o.1;simp only at this⊢;omega) (fun j W=>StJ2 w B c a fs m s t root n cap A rl S S1 F xy p1 L1 T1 hold d (addr,q) ob kb A1 xt all1 j W/\W.heap[kb+3+1]? =some (.loop (rec2 .ready none)))
     (fun W=>False) ?_ ?_ _ ?_).mono ?_
    ·rintro j W⟨⟨p',Z,cz,h1,h2,h3⟩,_⟩;exact h2.pg
    ·rintro j W⟨hJ,hl⟩ xZ;refine bP trivial LP hl rfl ?_;obtain⟨p4,Z,cz,yg,Aa,BB,Fk,MH,ZC,NT⟩:=hJ;obtain⟨x,hx⟩:=e_ ((pst (addr,q) j).1);obtain⟨M,hM⟩:=e_ (pm (pst (addr,q) j));obtain⟨R,hR⟩:=e_ ((pst (addr,q) j).2);rw[<-hx,<-hM];rw[<-hR]at Aa MH NT;have CR:j<all1.length:=by
      rw[Aw.o.len];rcases Nat.lt_or_ge j k with h9|h9
      ·exact h9
      ·have:=eQ UC.o (j-k);rw[show k+(j-k)=j by omega]at this;omega
     obtain⟨lf,ye⟩: ∃lf,all1[j]? =some lf:=⟨_,wV CR⟩;obtain⟨CX,Cw⟩:=Aw.o.there j lf ye;rw[<-hx]at CX;have hM0:0<M:=(by rw[hM];exact ri xZ);have hMR:M<=R:=(by rw[hM,hR];exact uP _);have EV:M<=4096-x % 4096:=(by rw[hM,hx];exact Nat.min_le_right _ _);obtain⟨HX,HM,HRR,zd,yp,Bl,Nr,TB⟩:=zh8 hx hM hR yg Aa BB Fk MH;obtain⟨XU,Lo,BX,Uq,AB,HL⟩:=zh6 ZC ye CX Cw xZ hl;clear hx hM hR yg Aa BB Fk MH ZC ye CX Cw xZ LP hl
     gi_wp2
     refine⟨HL.o,?_⟩;obtain⟨W5,JS⟩:=e_ (W.putObj (kb+3+1) (.loop (rec2 .busy none)));rw[<-JS];have yK:Mod (fun b=>b=kb+3+1) W W5:=(by rw[JS];exact aC);have GX:W5.heap[kb+3+1]? =some (.loop (rec2 .busy none)):=(by rw[JS];exact World.putObj_heap_same (wO HL.o).1);have xK:=zd.o.set yK (fun b e=> .inr o_);have Bg:=yp.o.keep GM (W':=W5) (fun b h1=>by
      rcases Nat.lt_or_ge b W.heap.size with h3|h3
      ·exact yK.block b h3 o_
      ·rw[Array.getElem?_eq_none h3,Array.getElem?_eq_none];rw[JS,World.putObj_size];exact h3)
     rcases Bl.o.form with⟨_,h0,_⟩|⟨gA,Wy,_⟩
     ·rw[h0]at CR;cases CR
     subst Wy;obtain⟨fr,pr,cp⟩:=lf;have zm:cp=false:=Uq.o;subst zm;have De:OwnG 83 3 je W5 (ob+5) (some ⟨gA,0,none⟩) xt all1:=Bl.o.same fun g hg=>yK.block g ((Bl.o.blk g (by rw[hg];rfl)).2) (fun e=>(zd.o.own g (.inl (.inr (by rw[hg];rfl)))).2.2 |> fun _ =>by
      subst e;have h9:=HL.o;rcases Bl.o.2 with⟨h8,_⟩|⟨g',xq,cur,h7,_,h6,_⟩
      ·cases h8
      ·injection h7 with h7;injection hg with hg;injection h7 with h7;injection h7 with h7;injection hg with hg;rw[<-h7,hg,h9]at h6;cases h6)
     have c0:W5.cell? ⟨w.heap.size,0,none⟩=some (.pointer (some ⟨s,0,none⟩)):=aa Bg.b0 0;have s1:W5.cell? ⟨s,1,none⟩=some (.pointer (some ⟨a,0,none⟩)):=aa xK.one.self 1;have ox:W5.cell? ⟨ob,0,none⟩=some (.slice (some ⟨gA,0,none⟩) all1.length xt):=aa Bg.o 0;have kx:W5.cell? ⟨kb,0,none⟩=some (.int .i64 (j:Int)):=aa Bg.num 0;have bx:W5.cell? ⟨w.heap.size+1,0,none⟩=some (.slice Z R cz):=aa Bg.b1 0;have lx:W5.cell? ⟨gA,j*3,none⟩=some (.int .i64 (fr:Int)):=De.cell oH Lo.o 0 d_;have Kv:(0:Int)<=(j:Int):=o_;have zi:(j:Int)<(all1.length:Int):=o_;have hMz:M<=cz:=o_;have hMz2:(M:Int)<=(cz:Int):=o_;have hM0':(0:Int)<=(M:Int):=o_;obtain⟨u,hu⟩: ∃u:Int,(x:Int) % 4096=u:=⟨_,rfl⟩;have TN:((x % 4096:Nat):Int)=u:=o_;have hut:(x:Int).tmod 4096=u:=(by rw[Int.tmod_eq_emod_of_nonneg o_,hu]);have hwu:IntKind.i64.wrap u=u:=(by rw[IntKind.wrap_i64];omega);have VT:prog.follows .mixedOrders=true:=k_;obtain⟨HU2,Cr,Cv,Fz,HL5⟩:=zh5 TN xK Bg De GX;clear xK Bg De GX yK JS TN;gi_upto_region 18 with(fail);refine cK (fun w'=>w'.cell? ⟨w.heap.size,0,none⟩=some (.pointer (some ⟨s,0,none⟩))/\w'.cell? ⟨s,1,none⟩=some (.pointer (some ⟨a,0,none⟩))/\w'.cell? ⟨ob,0,none⟩=some (.slice (some ⟨gA,0,none⟩) all1.length xt)/\w'.cell? ⟨kb,0,none⟩=some (.int .i64 (j:Int))/\w'.cell? ⟨w.heap.size+1,0,none⟩=some (.slice Z R cz)/\w'.cell? ⟨gA,j*3,none⟩=some (.int .i64 (fr:Int))) 15 k_ k_ (dS.of 14 k_ k_) ⟨c0,s1,ox,kx,bx,lx⟩ ?_;intro Uz Jg;refine zt 0 ?_;refine zt 1 ?_;refine zt 2 ?_;refine zt 3 ?_;refine zt 4 ?_;refine zt 5 ?_;refine zt 6 ?_;refine zt 7 ?_;refine zt 8 ?_;refine zt 9 ?_;refine zt 10 ?_;refine zt 11 ?_;refine zt 12 ?_;refine zt 13 ?_;refine zt 14 ?_;refine cw 15 k_ rfl rfl (fun K' hK=>?_)
     go_simp
     obtain⟨v1,v2,v3,v4,v5,v6⟩:=Nr.o.sp.leaf BX.o;dsimp only at v2 v3 v4 v5 v6;have yi:=ie a fr (x % 4096) M cz Z (fun i=>d (x-addr+i)) W5.drew S1 p4 Cr.o.home.cache.pool.drew v3 v4 o_ EV (((by have h9:=TB.o;rw[<-HX.o]at h9;exact h9:ap w Z R (fun i=>d (x-addr+i))).head hMR).run (Cr.o.mod.trans (Out.refl _ _) (Mod.of ((xp _ _).drew))) XU.o) (fun i=>HD.o _);rw[HU2.o]at yi;have Bo:=wP yi;clear yi v1 v2 v5 v6;refine(Bo.o).mono ?_;rintro e W6⟨rfl,FX,Kt⟩;have BO:=Kt.undrew;obtain⟨zp,EP⟩:=Cr.o.pool FX BO;go_wp2_with fail;refine hK.out _ _ ?_;clear hK K';refine cx k_ ?_ _;refine bV ?_;have yt:=Cv.o.keep GM (W':=W6) (fun b h1=>EP b (h1.elim (fun h=> .inl (.inl o_)) (fun h=> .inr o_)));have zG:=(EP (kb+3+1) (.inr o_)).trans HL5.o;have DT:OwnG 83 3 je W6 (ob+5) (some ⟨gA,0,none⟩) xt all1:=Fz.o.same fun g hg=>EP g (.inl (.inr (by rw[hg];rfl)));have bx6:W6.cell? ⟨w.heap.size+1,0,none⟩=some (.slice Z R cz):=aa yt.b1 0;have bf6:=ae yt.b1 0;have hbl6:w.heap.size+1<W6.heap.size:=(wO yt.b1).1;have hne1:w.heap.size+1≠kb:=o_;obtain⟨Z2,hZ2⟩:=e_ (if cz=M then Z else Z.map (·.add M))
     have kx6:(W6.setCell ⟨w.heap.size+1,0,none⟩ (.slice Z2 (R-M) (cz-M))).cell? ⟨kb,0,none⟩=some (.int .i64 (j:Int)):=aa (((aj (S:=fun b=>b=w.heap.size+1) rfl 0 _).block _ (wO yt.num).1 o_).trans yt.num) 0;have kf6:=ae (((aj (S:=fun b=>b=w.heap.size+1) (w:=W6) rfl 0 (.slice Z2 (R-M) (cz-M))).block _ (wO yt.num).1 o_).trans yt.num) 0;have hwj:IntKind.i64.wrap ((j:Int)+1)=(j:Int)+1:=(by rw[IntKind.wrap_i64];have:=Aw.o.len;omega);obtain⟨QA,yz,UB,Es,HZ2⟩:=zh5 zp yt zG DT hZ2;clear zp yt zG DT EP BO Kt FX c0 s1 ox kx bx lx hu hut hwu Jg hZ2;by_cases Sk:cz=M
     ·have Sx:Z2=Z:=(by rw[HZ2.o,if_pos Sk]);gi_upto_region 20 with(fail);rw[show Value.slice Z (R-M) 0= .slice Z2 (R-M) (cz-M) by rw[Sx,Sk,Nat.sub_self]];obtain⟨HC,HCM⟩:=zh2 Sx Sk;clear Sk Sx;obtain⟨W7,FU⟩:=e_ (W6.setCell ⟨w.heap.size+1,0,none⟩ (.slice Z2 (R-M) (cz-M)));rw[<-FU]at kx6 kf6⊢;have yY:Mod (fun b=>b=w.heap.size+1) W6 W7:=(by rw[FU];exact aj (S:=fun b=>b=w.heap.size+1) rfl 0 _);have XL:W7.heap[w.heap.size+1]? =some (.cells #[.slice Z2 (R-M) (cz-M)] 39 (0,0)):=(by rw[FU];exact be yz.o.b1);obtain⟨KR,QY⟩:=zh2 yY XL;clear FU yY XL
      gi_wp2
      obtain⟨W8,Sz⟩:=e_ (W7.setCell ⟨kb,0,none⟩ (.int .i64 ((j:Int)+1)));rw[<-Sz];have zW:Mod (fun b=>b=kb) W7 W8:=(by rw[Sz];exact aj (S:=fun b=>b=kb) rfl 0 _);have Li:W7.heap[kb]? =some (.cells #[.int .i64 (j:Int)] 3 (0,0)):=(KR.o.block _ (wO yz.o.num).1 o_).trans yz.o.num;have hN8:W8.heap[kb]? =some (.cells #[.int .i64 ((j+1:Nat):Int)] 3 (0,0)):=(by rw[Sz];exact be Li);have Ay: ∀ {b:Nat} {o:Obj},W6.heap[b]? =some o->b≠w.heap.size+1->W7.heap[b]? =some o:=fun h1 h2=>(KR.o.block _ (wO h1).1 h2).trans h1;have Be: ∀ {b:Nat} {o:Obj},W7.heap[b]? =some o->b≠kb->W8.heap[b]? =some o:=fun h1 h2=>(zW.block _ (wO h1).1 h2).trans h1;have KY:=Be (Ay UB.o o_) o_;have Dv:=aC (l:=kb+3+1) (o:= .loop (rec2 .ready none)) (W:=W8);have Di: ∀ {b:Nat} {o:Obj},W8.heap[b]? =some o->b≠kb+3+1->(W8.putObj (kb+3+1) (.loop (rec2 .ready none))).heap[b]? =some o:=fun h1 h2=>(Dv.block _ (wO h1).1 h2).trans h1;have FK:PgSt (W8.putObj (kb+3+1) (.loop (rec2 .ready none))) (kb+2) (kb+1) (pst (addr,q) j):=⟨Di (Be (Ay yz.o.pg.n o_) o_) o_,Di (Be (Ay yz.o.pg.a o_) o_) o_⟩;obtain⟨LY,zL⟩:=io FK o_ (pst (addr,q) (j+1));have GZ: ∀ {b:Nat} {o:Obj},W8.heap[b]? =some o->b≠kb+3+1->b≠kb+1->b≠kb+2->(cN (W8.putObj (kb+3+1) (.loop (rec2 .ready none))) (kb+2) (kb+1) (pst (addr,q) (j+1))).heap[b]? =some o:=fun h1 h2 h3 h4=>(zL.block _ (wO (Di h1 h2)).1 o_).trans (Di h1 h2);have zY:(pst (addr,q) (j+1)).1=x+M:=(by rw[HX.o,HM.o];rfl);have EM:(pst (addr,q) (j+1)).2=R-M:=(by rw[HRR.o,HM.o];rfl);have hxa:addr<=x:=(by have:=oq (addr,q) j;have:=cA (addr,q) j;rw[HX.o];dsimp only at *;omega);have CZ:=((((QA.o.set KR.o (fun b e=> .inl (.inl o_))).set zW (fun b e=> .inr o_)).set Dv (fun b e=> .inr o_)).set zL (fun b e=> .inr o_));have LZ:OwnG 83 3 je (cN (W8.putObj (kb+3+1) (.loop (rec2 .ready none))) (kb+2) (kb+1) (pst (addr,q) (j+1))) (ob+5) (some ⟨gA,0,none⟩) xt all1:=Es.o.same fun g hg=>by
       injection hg with hg;injection hg with hg;subst hg;rcases Es.o.2 with⟨h8,_⟩|⟨g',xq,cur,h7,h70,h6,_⟩
       ·cases h8
       ·injection h7 with h7;injection h7 with h7;injection h7 with h7;subst h7;have EB:gA≠kb:=fun e=>by rw[e,yz.o.num]at h6;injection h6 with h6;injection h6 with _ h6;cases h6
        have DW:gA≠kb+1:=fun e=>by rw[e,yz.o.pg.a]at h6;injection h6 with h6;injection h6 with _ h6;cases h6
        have TU:gA≠kb+2:=fun e=>by rw[e,yz.o.pg.n]at h6;injection h6 with h6;injection h6 with _ h6;cases h6
        have GP:gA≠kb+3+1:=fun e=>by rw[e,UB.o]at h6;cases h6
        rw[h6];exact GZ (Be (Ay h6 o_) EB) GP DW TU
      have GW:=Nr.o.step AB.o (by rw[<-HX.o];exact BX.o) rfl (e:=fun i=>d (x-addr+i)) (fun i hi=>by rw[<-HX.o]);rw[<-HX.o,<-HM.o]at GW;refine⟨KY,rfl,FK,⟨_,Z2,cz-M,CZ,⟨LY,GZ (Be (Ay yz.o.mark o_) o_) o_ o_ o_,GZ (Be (Ay yz.o.mark2 o_) o_) o_ o_ o_,GZ (Be (Ay yz.o.b0 o_) o_) o_ o_ o_,?_,GZ (Be (Ay yz.o.b2 o_) o_) o_ o_ o_,GZ (Be (Ay yz.o.o o_) o_) o_ o_ o_,GZ hN8 o_ o_ o_⟩,LZ,GW,?_,?_,?_⟩,?_⟩
      ·rw[EM];exact GZ (Be QY.o o_) o_ o_ o_
      ·rw[EM,zY,HC.o];intro h0
       first
       |(
         have h9:=(TB.o.cut M) h0;obtain⟨ad,h1,h2⟩:=h9;exact⟨ad,h1,fun i hi=>(h2 i hi).trans (by show some (Value.int .u8 ((d ((pst (addr,q) j).1-(addr,q).1+(M+i)):Nat):Int))=_;rw[<-HX.o,show x-(addr,q).1+(M+i)=x+M-(addr,q).1+i by(dsimp only;omega)])⟩)
       |(exfalso;have:=HCM.o;omega)
      ·rw[HC.o];intro ad hA
       first
       |exact XU.o ad hA
       |(
         cases Z with
         |none=>cases hA
         |some z=>
          injection hA with hA;subst hA;rw[Addr.add_blk];exact XU.o z rfl)
      ·rw[EM];omega
      ·have IT:=(wO KY).1;exact(zL.block _ (by rw[World.putObj_size];exact IT) o_).trans (World.putObj_heap_same IT)
     ·have Sx:Z2=Z.map (·.add M):=(by rw[HZ2.o,if_neg Sk]);gi_upto_region 20 with(fail);rw[show Value.slice (Option.map (fun x=>x.add M) Z) (R-M) (cz-M)= .slice Z2 (R-M) (cz-M) by rw[Sx]];obtain⟨HC,HCM⟩:=zh2 Sx Sk;clear Sk Sx;obtain⟨W7,FU⟩:=e_ (W6.setCell ⟨w.heap.size+1,0,none⟩ (.slice Z2 (R-M) (cz-M)));rw[<-FU]at kx6 kf6⊢;have yY:Mod (fun b=>b=w.heap.size+1) W6 W7:=(by rw[FU];exact aj (S:=fun b=>b=w.heap.size+1) rfl 0 _);have XL:W7.heap[w.heap.size+1]? =some (.cells #[.slice Z2 (R-M) (cz-M)] 39 (0,0)):=(by rw[FU];exact be yz.o.b1);obtain⟨KR,QY⟩:=zh2 yY XL;clear FU yY XL
      gi_wp2
      obtain⟨W8,Sz⟩:=e_ (W7.setCell ⟨kb,0,none⟩ (.int .i64 ((j:Int)+1)));rw[<-Sz];have zW:Mod (fun b=>b=kb) W7 W8:=(by rw[Sz];exact aj (S:=fun b=>b=kb) rfl 0 _);have Li:W7.heap[kb]? =some (.cells #[.int .i64 (j:Int)] 3 (0,0)):=(KR.o.block _ (wO yz.o.num).1 o_).trans yz.o.num;have hN8:W8.heap[kb]? =some (.cells #[.int .i64 ((j+1:Nat):Int)] 3 (0,0)):=(by rw[Sz];exact be Li);have Ay: ∀ {b:Nat} {o:Obj},W6.heap[b]? =some o->b≠w.heap.size+1->W7.heap[b]? =some o:=fun h1 h2=>(KR.o.block _ (wO h1).1 h2).trans h1;have Be: ∀ {b:Nat} {o:Obj},W7.heap[b]? =some o->b≠kb->W8.heap[b]? =some o:=fun h1 h2=>(zW.block _ (wO h1).1 h2).trans h1;have KY:=Be (Ay UB.o o_) o_;have Dv:=aC (l:=kb+3+1) (o:= .loop (rec2 .ready none)) (W:=W8);have Di: ∀ {b:Nat} {o:Obj},W8.heap[b]? =some o->b≠kb+3+1->(W8.putObj (kb+3+1) (.loop (rec2 .ready none))).heap[b]? =some o:=fun h1 h2=>(Dv.block _ (wO h1).1 h2).trans h1;have FK:PgSt (W8.putObj (kb+3+1) (.loop (rec2 .ready none))) (kb+2) (kb+1) (pst (addr,q) j):=⟨Di (Be (Ay yz.o.pg.n o_) o_) o_,Di (Be (Ay yz.o.pg.a o_) o_) o_⟩;obtain⟨LY,zL⟩:=io FK o_ (pst (addr,q) (j+1));have GZ: ∀ {b:Nat} {o:Obj},W8.heap[b]? =some o->b≠kb+3+1->b≠kb+1->b≠kb+2->(cN (W8.putObj (kb+3+1) (.loop (rec2 .ready none))) (kb+2) (kb+1) (pst (addr,q) (j+1))).heap[b]? =some o:=fun h1 h2 h3 h4=>(zL.block _ (wO (Di h1 h2)).1 o_).trans (Di h1 h2);have zY:(pst (addr,q) (j+1)).1=x+M:=(by rw[HX.o,HM.o];rfl);have EM:(pst (addr,q) (j+1)).2=R-M:=(by rw[HRR.o,HM.o];rfl);have hxa:addr<=x:=(by have:=oq (addr,q) j;have:=cA (addr,q) j;rw[HX.o];dsimp only at *;omega);have CZ:=((((QA.o.set KR.o (fun b e=> .inl (.inl o_))).set zW (fun b e=> .inr o_)).set Dv (fun b e=> .inr o_)).set zL (fun b e=> .inr o_));have LZ:OwnG 83 3 je (cN (W8.putObj (kb+3+1) (.loop (rec2 .ready none))) (kb+2) (kb+1) (pst (addr,q) (j+1))) (ob+5) (some ⟨gA,0,none⟩) xt all1:=Es.o.same fun g hg=>by
       injection hg with hg;injection hg with hg;subst hg;rcases Es.o.2 with⟨h8,_⟩|⟨g',xq,cur,h7,h70,h6,_⟩
       ·cases h8
       ·injection h7 with h7;injection h7 with h7;injection h7 with h7;subst h7;have EB:gA≠kb:=fun e=>by rw[e,yz.o.num]at h6;injection h6 with h6;injection h6 with _ h6;cases h6
        have DW:gA≠kb+1:=fun e=>by rw[e,yz.o.pg.a]at h6;injection h6 with h6;injection h6 with _ h6;cases h6
        have TU:gA≠kb+2:=fun e=>by rw[e,yz.o.pg.n]at h6;injection h6 with h6;injection h6 with _ h6;cases h6
        have GP:gA≠kb+3+1:=fun e=>by rw[e,UB.o]at h6;cases h6
        rw[h6];exact GZ (Be (Ay h6 o_) EB) GP DW TU
      have GW:=Nr.o.step AB.o (by rw[<-HX.o];exact BX.o) rfl (e:=fun i=>d (x-addr+i)) (fun i hi=>by rw[<-HX.o]);rw[<-HX.o,<-HM.o]at GW;refine⟨KY,rfl,FK,⟨_,Z2,cz-M,CZ,⟨LY,GZ (Be (Ay yz.o.mark o_) o_) o_ o_ o_,GZ (Be (Ay yz.o.mark2 o_) o_) o_ o_ o_,GZ (Be (Ay yz.o.b0 o_) o_) o_ o_ o_,?_,GZ (Be (Ay yz.o.b2 o_) o_) o_ o_ o_,GZ (Be (Ay yz.o.o o_) o_) o_ o_ o_,GZ hN8 o_ o_ o_⟩,LZ,GW,?_,?_,?_⟩,?_⟩
      ·rw[EM];exact GZ (Be QY.o o_) o_ o_ o_
      ·rw[EM,zY,HC.o];intro h0
       first
       |(
         have h9:=(TB.o.cut M) h0;obtain⟨ad,h1,h2⟩:=h9;exact⟨ad,h1,fun i hi=>(h2 i hi).trans (by show some (Value.int .u8 ((d ((pst (addr,q) j).1-(addr,q).1+(M+i)):Nat):Int))=_;rw[<-HX.o,show x-(addr,q).1+(M+i)=x+M-(addr,q).1+i by(dsimp only;omega)])⟩)
       |(exfalso;have:=HCM.o;omega)
      ·rw[HC.o];intro ad hA
       first
       |exact XU.o ad hA
       |(
         cases Z with
         |none=>cases hA
         |some z=>
          injection hA with hA;subst hA;rw[Addr.add_blk];exact XU.o z rfl)
      ·rw[EM];omega
      ·have IT:=(wO KY).1;exact(zL.block _ (by rw[World.putObj_size];exact IT) o_).trans (World.putObj_heap_same IT)
    ·have yG:Below W3.heap.size W3 ((W3.alloc (.deferred (some []))).alloc (.loop (rec2 .ready none))):=wR.alloc s_ _;have yL:=((yh.o.below yZ.o).below yG).sub (K':=StK w ob kb A1) (fun b e=>by
      rcases e with e|e
      ·exact .inl (.inl e)
      ·rcases Nat.lt_or_ge b W3.heap.size with h1|h1
       ·exact .inl (.inr ⟨by have:=HKB.o;omega,h1⟩)
       ·exact .inr ⟨h1,by simp[zy];omega⟩)
     have zz: ∀ {b:Nat} {o:Obj},W3.heap[b]? =some o->((W3.alloc (.deferred (some []))).alloc (.loop (rec2 .ready none))).heap[b]? =some o:=fun h1=>(cn (wO h1).1).trans h1;have zh: ∀ {b:Nat} {o:Obj},W2.heap[b]? =some o->((W3.alloc (.deferred (some []))).alloc (.loop (rec2 .ready none))).heap[b]? =some o:=fun h1=>zz ((yZ.o.block _ (wO h1).1).trans h1);have xC:OwnG 83 3 je ((W3.alloc (.deferred (some []))).alloc (.loop (rec2 .ready none))) (ob+5) A1 xt all1:=FB.o.same fun g hg=>by
      have h9:=(FB.o.blk g (by rw[hg];rfl)).2;exact(cn (by have:=yZ.o.size;omega)).trans (yZ.o.block g h9)
     have h00:(pst (addr,q) 0).1-(addr,q).1=0:=Nat.sub_self _;refine⟨⟨p1,Ab,cq,yL,⟨⟨zz Ln.o,zz Zi.o⟩,zh zS.o.mark,?_,zh zS.o.b0,zh zS.o.b1,zh zS.o.b2,?_,zz Ns.o⟩,xC,?_,?_,JA.o,Ot⟩,?_⟩
     ·have:=ab W3 (.deferred (some []));rw[zy]at this;exact(wT _ _ _ (by simp[zy])).trans this
     ·rw[Aw.o.len];exact zh zS.o.o
     ·rw[h00];exact Lays.start Aw.o.seen.kept.sp Aw.o.seen.kept.own
     ·rw[h00];have h9:(fun i=>d (0+i))=d:=(by funext i;rw[Nat.zero_add]);rw[h9];exact YX.o
     ·have:=ab (W3.alloc (.deferred (some []))) (.loop (rec2 .ready none))
      rwa [World.size_alloc,zy]at this
    ·rintro e W⟨hv,⟨j,Kv,⟨p4,Z,cz,yg,Aa,BB,Fk,MH,ZC,NT⟩,hl⟩|hF⟩
     rotate_left
     ·exact hF.elim
     refine⟨hv,.inl ⟨hl,?_⟩⟩;obtain⟨W5,JS⟩:=e_ (W.putObj (kb+3+1) (.loop (rec2 .exhausted none)));rw[<-JS];have yK:Mod (fun b=>b=kb+3+1) W W5:=(by rw[JS];exact aC);have xK:=yg.set yK (fun b e=> .inr o_);have zo: ∀ {b:Nat} {o:Obj},W.heap[b]? =some o->b≠kb+3+1->W5.heap[b]? =some o:=fun h1 h2=>(yK.block _ (wO h1).1 h2).trans h1;have XA:=zo Aa.b2 o_;have MR:=zo Aa.mark o_;have hM6:=zo Aa.mark2 o_;have ze:=cA (addr,q) j;rw[Kv,Nat.add_zero]at ze;rw[ze,show(addr,q).1+(addr,q).2-(addr,q).1=q by simp]at Fk;have e0:W5.cell? ⟨w.heap.size+1+1,0,none⟩=some (.int .i64 0):=aa XA 0;have ef0:=ae XA 0;have helt5:w.heap.size+1+1<W5.heap.size:=(wO XA).1;obtain⟨Cr,HE5,Eu,Oa,HLAY⟩:=zh5 xK XA MR hM6 Fk;clear JS yK xK zo XA MR hM6 ze Fk yg Aa BB MH ZC NT hl hv Kv LP;unfold ec
     gi_wp2
     have Ch:=Jm.o W5 (.int .i64 0);have zp:=Cr.o.set Ch (fun b e=> .inl (.inl o_));have he6:(W5.setCell ⟨w.heap.size+1+1,0,none⟩ (.int .i64 0)).heap[w.heap.size+1+1]? =some (.cells #[.int .i64 0] 32 (0,0)):=be HE5.o;have Ca:=(Ch.block _ (wO Oa.o).1 o_).trans Oa.o;have hK1:=(Ch.block _ (wO Eu.o).1 o_).trans Eu.o;refine⟨s_,.inl ⟨_,_,rfl,run_takeDeferred Ca,?_⟩⟩;have EO:=aC (l:=kb+3) (o:= .deferred none) (W:=W5.setCell ⟨w.heap.size+1+1,0,none⟩ (.int .i64 0));have Db:=zp.set EO (fun b e=> .inr o_);have he7:=(EO.block _ (wO he6).1 o_).trans he6;have JV:=(EO.block _ (wO hK1).1 o_).trans hK1;refine⟨s_,.inl ⟨_,_,rfl,run_takeDeferred JV,?_⟩⟩;have Ks:=aC (l:=ob+3) (o:= .deferred none) (W:=(W5.setCell ⟨w.heap.size+1+1,0,none⟩ (.int .i64 0)).putObj (kb+3) (.deferred none));have Da:=Db.set Ks (fun b e=> .inl (.inl o_));have he8:=(Ks.block _ (wO he7).1 o_).trans he7;have c2:=aa he8 0;refine⟨.int .i64 0,by simp[results,results71,go_sem,c2],?_⟩;exact⟨0,p4,L1,T1,xy,S1,rfl,Da.home.cache,Da.mod,Da.o,zT,o_,.inr (.inr (.inr ⟨Ki,Ph.o,rfl,k,all1,p1,UC.o,Aw.o,HLAY.o⟩))⟩
end
