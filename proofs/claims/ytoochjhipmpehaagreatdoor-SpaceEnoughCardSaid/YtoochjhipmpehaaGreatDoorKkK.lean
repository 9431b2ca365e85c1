/- The document's files in memory: copies of bytes, the nodes' row. -/
import Derived.Test.YtoochjhipmpehaaGreatDoorKcK
import Derived.Deep.RegionLaw
set_option linter.unusedVariables false
set_option linter.unusedSimpArgs false
set_option maxRecDepth 100000
set_option maxHeartbeats 8000000
namespace Go.Proofs.YtoochjhipmpehaaGreatDoor
open Go.Proofs.Tryz
section
open Go.RowKit Go.Sort
variable {w:World}
theorem aT.congr9 {b n:Nat}{d e:Nat->Nat}(h:aT w b n d)(he: ∀i,i<n->d i=e i):aT w b n e:=by
 unfold aT at h⊢;rw[h,bH (h:=fun i=> .int .u8 (e i:Int)) (fun i hi=>by rw[he i hi])]
def rV (n:Nat)(d:Nat->Nat)(w:World)(e:Ending)(w':World):Prop:= ∃R cap,e= .returned (.slice R n cap)/\cj w' R n cap d/\(∀x,R=some x->w.heap.size<=x.block)/\Below w.heap.size w w'
theorem oo (A:Option Addr)(n c:Nat)(d:Nat->Nat)(w:World)(hn:n<=600000)(hA:ap w A n d)(SS: ∀x,A=some x->0<n->x.block<w.heap.size):
  Calls prog 44 #[.slice A n c] w (rV n d w):=by
 by_cases h0:n=0
 ·subst h0;clear hA SS;go_enter func44,ntmps44;go_wp2_with fail;go_ret;exact⟨none,0,rfl,⟨(fun h=>o_),(fun x hx=>by cases hx),wS _,fun _ =>⟨rfl,rfl⟩⟩,(fun x hx=>by cases hx),xp _ _⟩
 obtain⟨ad,rfl,xV⟩:=hA o_;have xw:=SS ad rfl o_;have zZ:ad.spot=none:=World.cell?_spot (by have:=xV 0 o_;simpa [Addr.add]using this);obtain⟨b,off,sp⟩:=ad;obtain rfl:sp=none:=zZ;have IU:b<w.heap.size:=xw;have MG: ∀j,j<n->w.cell? ⟨b,off+j,none⟩=some (.int .u8 (d j:Int)):=fun j hj=>by
  have:=xV j hj
  rwa [Addr.add_mid]at this
 have IN:=fun W=>gj n o_ W;obtain⟨g,hg⟩:=e_ w.heap.size;obtain⟨w1,Ad⟩:=e_ (w.alloc (.cells (rowV n fun _ => .int .u8 0) 5));have xu:Below w.heap.size w w1:=(by rw[Ad];exact wR);have AW:aT w1 g n (fun _ =>0):=(by rw[Ad,hg];exact ab w _);have NP:g<w1.heap.size:=(wO AW).1;obtain⟨HC,Gd,xI,Nh,HG⟩:=zh5 MG Ad xu AW hg;have Kq:0<n:=o_;have hnI: ¬(n:Int)=0:=o_;clear hA SS xV MG xw Ad xu AW h0 hg;go_enter func44,ntmps44;go_upto_region 4 with(fail);rw[<-Gd.o,<-HG.o];clear IN;go_wp2_with fail;go_loopw [4] (fun i wr=> ∃k:Nat,k<=n/\i= .int .i64 ((k:Int)-1)/\aT wr g n (fun j=>if j<k then 0 else d j)/\Below w.heap.size w wr) (fun i _ =>(intOf i+1).toNat)
 case atStart=>exact⟨n,wS _,rfl,Nh.o.congr9 fun i hi=>(by rw[if_pos hi]),xI.o⟩
 case round=>
  obtain⟨k,hk,rfl,xG,hb⟩:=hrel;obtain⟨zR,HB⟩:=zh2 xG hb;clear xG hb;by_cases zh:k=0
  ·subst zh;go_wp2_with fail;go_ret;have hr:aT wr g n d:=zR.o.congr9 fun i hi=>by rw[if_neg (Nat.not_lt_zero _)]
   refine⟨some ⟨g,0,none⟩,n,rfl,⟨hr.v,fun x hx=>?_,wS _,fun e=>by cases e⟩,fun x hx=>?_,HB.o⟩
   ·injection hx with hx;subst hx;exact⟨g,_,_,rfl,hr⟩
   ·injection hx with hx;subst hx;have:=HG.o;show w.heap.size<=g;omega
  ·obtain⟨m,rfl⟩: ∃m,k=m+1:=⟨k-1,o_⟩;have e0:wr.cell? ⟨b,off+m,none⟩=some (.int .u8 (d m:Int)):=(HB.o.cell (p:=⟨b,off+m,none⟩) IU).trans (HC.o m o_);have e1:wr.cell? ⟨g,m,none⟩=some (.int .u8 ((0:Nat):Int)):=by
    have:=aW zR.o (show m<n by omega);simpa using this
   have e2:wr.frozen? ⟨g,m,none⟩=false:=ae zR.o m;have Lb:((m+1:Nat):Int)-1=(m:Int):=o_;have yq:aT (wr.setCell ⟨g,m,none⟩ (.int .u8 (d m:Int))) g n (fun j=>if j<m then 0 else d j):=by
    have h9:=zR.o;unfold aT at h9⊢;rw[Joins.block_setCell (i:=m) h9 (.int .u8 (d m:Int)),dX];refine congrArg (fun r=>some (Obj.cells r 5 (0,0))) (bH fun i hi=>?_);by_cases e:i=m
    ·subst e;rw[af];show Value.int .u8 _ =Value.int .u8 ((if i<i then 0 else d i:Nat):Int);rw[if_neg (Nat.lt_irrefl _)]
    ·rw[ah _ _ e];show Value.int .u8 ((if i<m+1 then 0 else d i:Nat):Int)=Value.int .u8 ((if i<m then 0 else d i:Nat):Int);by_cases h:i<m
     ·rw[if_pos h,if_pos o_]
     ·rw[if_neg h,if_neg o_]
   have Ge:=wP yq;have hmn:(m:Int)<(n:Int):=o_;have hbs:Below w.heap.size w (wr.setCell ⟨g,m,none⟩ (.int .u8 (d m:Int))):=HB.o.trans ((aj (S:=fun b=>b=g) rfl m _).below (fun b hb=>by have:=HG.o;omega) HB.o.size);obtain⟨HBS,Tt⟩:=zh2 hbs Lb;have UN:IntKind.i64.wrap ((m:Int)-1)=(m:Int)-1:=(by rw[IntKind.wrap_i64];omega);rw[Tt.o];clear yq hbs Lb;go_wp2_with fail;go_roundw
   case rel=>exact⟨m,o_,rfl,Ge.o,HBS.o⟩
   case measure=>(simp[intOf]<;>omega)
structure NdR where
 nd:Nd
 A:Option Addr
 c:Nat
def ndC (x:NdR):List Value:=[.int .u8 (x.nd.kind:Int),.int .u16 (x.nd.mode:Int),.int .u32 (x.nd.uid:Int),.int .u32 (x.nd.gid:Int),.int .i64 (x.nd.n:Int),.int .i64 (x.nd.up:Int),.string x.nd.name,.slice x.A x.nd.n x.c,.string x.nd.to]
theorem pW:Elem 99 105 9 88 (.agg #[.int .u8 0,.int .u16 0,.int .u32 0,.int .u32 0,.int .i64 0,.int .i64 0,.string ByteArray.empty,.slice none 0 0,.string ByteArray.empty]) ndC where
 und:=underlying99
 info:=k_
 size:=rfl
 pos:=o_
 small:=o_
 len _ :=rfl
 one x v hv:=by
  simp only[ndC,List.mem_cons,List.not_mem_nil,or_false]at hv;rcases hv with rfl|rfl|rfl|rfl|rfl|rfl|rfl|rfl|rfl<;>rfl
structure dx (w:World)(base q:Nat)(R:Option Addr)(cap:Nat)(L:List NdR)(F:List Nd):Prop where
 map:L.map NdR.nd=F
 self:w.heap[q]? =some (.cells #[.slice R L.length cap] 101 (0,0))
 row:OwnG 105 9 ndC w base R cap L
 bytes: ∀r∈L,cj w r.A r.nd.n r.c r.nd.dat
 low:base<=q
 ne:R≠some ⟨q,0,none⟩
 blow: ∀r∈L,∀x,r.A=some x->base<=x.block
variable {base q cap:Nat}{R:Option Addr}{L:List NdR}{F:List Nd}
theorem dx.len (h:dx w base q R cap L F):L.length=F.length:=by rw[<-h.map,List.length_map]
theorem dx.kept {w':World}(h:dx w base q R cap L F)(hb:Below w.heap.size w w'):dx w' base q R cap L F:=
 ⟨h.map,(hb.block q (wO h.self).1).trans h.self,h.row.kept hb,fun r hr=>(h.bytes r hr).keep fun g cs f hg=>hb.block g (wO hg).1,h.low,h.ne,h.blow⟩
theorem dx.at (h:dx w base q R cap L F){i:Nat}{y:Nd}(hy:F[i]? =some y): ∃r g,L[i]? =some r/\r.nd=y/\R=some ⟨g,0,none⟩/\g<w.heap.size/\L.length<=cap/\ ∀j,j<9->w.cell? ⟨g,i*9+j,none⟩=(ndC r)[j]? :=by
 rw[<-h.map,xj]at hy;cases hr:L[i]? with
 |none=>rw[hr]at hy;cases hy
 |some r=>
  rw[hr]at hy;injection hy with hy;rcases h.row.form with⟨_,e,_⟩|⟨g,e,_,hl,hc⟩
  ·rw[e]at hr;simp at hr
  ·subst e;exact⟨r,g,rfl,hy,rfl,hl,hc,fun j hj=>h.row.cell pW hr j hj⟩
def optI:Option Nat->Int
 |some n=>(n:Int)
 |none=> -1
theorem uk {a b:ByteArray}(h:a≠b):(a.toList==b.toList)=false:=by
 rw[xf];intro e;apply h;rw[ByteArray.toList_eq,ByteArray.toList_eq]at e;cases a with|mk a=>cases b with|mk b=>exact congrArg ByteArray.mk (Array.toList_inj.1 e)
theorem sC (base q cap d:Nat)(R:Option Addr)(L:List NdR)(F:List Nd)(x:ByteArray)(w:World)(h:dx w base q R cap L F)(h1:1<=F.length)(xD:F.length<=1000)(hd:d<=1000):
  Calls prog 86 #[.pointer (some ⟨q,0,none⟩),.int .i64 (d:Int),.string x] w fun e w'=>e= .returned (.int .i64 (optI (dm (aI F d) x)))/\w=w':=by
 have q0:w.cell? ⟨q,0,none⟩=some (.slice R L.length cap):=aa h.self 0;have hlen:=h.len;rw[hlen]at q0;have H:=wP h;obtain⟨res,xJ⟩:=e_ (optI (dm (aI F d) x));rw[<-xJ];have yc:=wP xJ;clear h hlen xJ;go_enter func86,ntmps86;go_wp2_with fail;go_loopw [7] (fun i wr=> ∃k:Nat,i= .int .i64 (k:Int)/\1<=k/\k<=F.length/\(∀j,j<k-> ¬gS F d x j)/\w=wr) (fun i _ =>F.length-(intOf i).toNat)
 case atStart=>exact⟨1,rfl,wS _,h1,(fun j hj hc=>by have:=hc.1;omega),rfl⟩
 case round=>
  obtain⟨k,rfl,Ha,hk,xL,rfl⟩:=hrel;have Ds:=wP xL;clear xL;by_cases xw:k<F.length
  ·obtain⟨y,hy⟩: ∃y,F[k]? =some y:=⟨F[k],wV xw⟩;obtain⟨r,g,hr,Vn,hRg,NP,yA,xV⟩:=H.o.at hy;subst hRg;have c5:w.cell? ⟨g,k*9+5,none⟩=some (.int .i64 (y.up:Int)):=(by rw[xV 5 o_,<-Vn];rfl);have c6:w.cell? ⟨g,k*9+6,none⟩=some (.string y.name):=(by rw[xV 6 o_,<-Vn];rfl);have Ku:=H.o.len;have hkc:k<cap:=o_;have HY:=wP hy;clear xV hr Vn hy Ku;by_cases hu:y.up=d
   ·have b1:((y.up:Int)==(d:Int))=true:=(by rw[beq_iff_eq,hu]);by_cases hx:y.name=x
    ·have hc:gS F d x k:=⟨o_,y,HY.o,hu,hx⟩;have HRK:=wP (show res=(k:Int) by rw[yc.o,pY hc Ds.o];rfl);have b2:(y.name.toList==x.toList)=true:=(by rw[hx];exact beq_self_eq_true _);clear hu hx hc;go_wp2_with fail;go_ret;exact⟨by rw[HRK.o];rfl,rfl⟩
    ·have AJ:=wP (show∀j,j<k+1-> ¬gS F d x j from fun j hj hc=>by
      by_cases e:j=k
      ·subst e;obtain⟨_,y',Lr,_,Lt⟩:=hc;rw[HY.o]at Lr;injection Lr with Lr;exact hx (Lr▸Lt)
      ·exact Ds.o j o_ hc)
     have b2:(y.name.toList==x.toList)=false:=uk hx;clear hu hx;go_wp2_with fail;go_roundw
     case rel=>exact⟨k+1,by go_num,o_,o_,AJ.o,trivial⟩
     case measure=>(simp[intOf];omega)
   ·have AJ:=wP (show∀j,j<k+1-> ¬gS F d x j from fun j hj hc=>by
     by_cases e:j=k
     ·subst e;obtain⟨_,y',Lr,hu',_⟩:=hc;rw[HY.o]at Lr;injection Lr with Lr;exact hu (Lr▸hu')
     ·exact Ds.o j o_ hc)
    have b1:((y.up:Int)==(d:Int))=false:=(by rw[xf];omega);clear hu;go_wp2_with fail;go_roundw
    case rel=>exact⟨k+1,by go_num,o_,o_,AJ.o,trivial⟩
    case measure=>(simp[intOf];omega)
  ·obtain rfl:k=F.length:=o_;have HRK:=wP (show res= -1 by rw[yc.o,kM Ds.o];rfl);go_wp2_with fail;go_ret;exact⟨by rw[HRK.o];rfl,rfl⟩
def wv (w:World)(A:Option Addr)(l:List ByteArray):Prop:= ∀j x,l[j]? =some x-> ∃g,A=some ⟨g,0,none⟩/\w.cell? ⟨g,j,none⟩=some (.string x)
theorem OwnS.texts {A:Option Addr}{l:List ByteArray}(h:OwnS w base A cap l)(m:Nat):wv w A (l.take m):=fun j x hx=>by
 rw[List.getElem?_take]at hx;split at hx
 ·rcases h.form with⟨_,e,_⟩|⟨g,e,_⟩
  ·rw[e]at hx;simp at hx
  ·subst e;exact⟨g,rfl,h.elem hx⟩
 ·cases hx
theorem uF (base q cap m c2:Nat)(R A:Option Addr)(L:List NdR)(F:List Nd)(l:List ByteArray)(w:World)(h:dx w base q R cap L F)(hD:eJ F)(h1:1<=F.length)(xD:F.length<=1000)(hl:wv w A l)(hm:l.length=m)(xS:m<=c2)(zF:m<=1000):
  Calls prog 43 #[.pointer (some ⟨q,0,none⟩),.slice A m c2] w fun e w'=>e= .returned (.int .i64 (optI (atM F 0 l)))/\w=w':=by
 have BV:=fun d x (hd:d<=1000)=>sC base q cap d R L F x w h h1 xD hd;obtain⟨YT,HL,HM,HD⟩:=zh4 BV hl hm hD;obtain⟨res,xJ⟩:=e_ (atM F 0 l);rw[<-xJ];have yc:=wP xJ;clear BV hl hm h xJ hD;go_enter func43,ntmps43;go_wp2_with fail;go_loopw [5,6] (fun v i wr=> ∃k:Nat,i= .int .i64 (k:Int)/\k<=m/\w=wr/\((∃u:Nat,v= .int .i64 (u:Int)/\u<F.length/\atM F u (l.drop k)=res)\/(v= .int .i64 (-1)/\res=none))) (fun _ i _ =>m-(intOf i).toNat)
 case atStart=>exact⟨0,rfl,xm _,rfl,.inl ⟨0,rfl,o_,yc.o.symm⟩⟩
 case round=>
  obtain⟨k,rfl,hk,rfl,yi⟩:=hrel;rcases yi with⟨u,rfl,hu,yr⟩|⟨rfl,yr⟩
  ·have Iv:=wP yr
   clear yr
   by_cases xw:k<m
   ·obtain⟨x,hx⟩: ∃x,l[k]? =some x:=⟨_,wV (by rw[HM.o];exact xw)⟩;obtain⟨g,rfl,xV⟩:=HL.o k x hx;have Qe:l.drop k=x::l.drop (k+1):=by
     obtain⟨h2,h3⟩:=List.getElem?_eq_some_iff.1 hx;rw[<-h3];exact List.drop_eq_getElem_cons h2
    have xO:=Iv.o;rw[Qe,HD.o.step u x]at xO;have HC:=wP (YT.o u x o_);have hkc:k<c2:=o_;have hu0:(0:Int)<=(u:Int):=o_;cases Bd:dm (aI F u) x with
    |none=>
     rw[Bd]at xO HC;have Bo:=wP xO;clear xO Qe hx Bd;go_wp2_with (first
      |(go_at_call 86;refine(HC.o).mono ?_;rintro e w1⟨rfl,rfl⟩)
      |fail)
     go_roundw
     case rel=>exact⟨k+1,by go_num,o_,trivial,.inr ⟨rfl,Bo.o.symm⟩⟩
     case measure=>(simp[intOf];omega)
    |some j=>
     rw[Bd]at xO HC;obtain⟨Bo,HJ⟩:=zh2 xO (bA (eC Bd)).1;clear xO Qe hx Bd;go_wp2_with (first
      |(go_at_call 86;refine(HC.o).mono ?_;rintro e w1⟨rfl,rfl⟩)
      |fail)
     go_roundw
     case rel=>exact⟨k+1,by go_num,o_,trivial,.inl ⟨j,rfl,HJ.o,Bo.o⟩⟩
     case measure=>(simp[intOf];omega)
   ·obtain rfl:k=m:=o_;have HR:=wP (show res=some u by rw[<-Iv.o,List.drop_eq_nil_of_le (by rw[HM.o];exact wS _)];rfl);go_wp2_with fail;go_ret;exact⟨by rw[HR.o];rfl,rfl⟩
  ·have HR:=wP yr
   clear yr
   by_cases xw:k<m
   ·go_wp2_with fail;go_ret;exact⟨by rw[HR.o];rfl,rfl⟩
   ·obtain rfl:k=m:=o_;go_wp2_with fail;go_ret;exact⟨by rw[HR.o];rfl,rfl⟩
end
section
open Go.RowKit Go.Sort
variable {w:World}{base q cap:Nat}{R:Option Addr}{L:List NdR}{F:List Nd}
def RMeta (F:List Nd)(ino:Int)(kd md u g n:Nat)(me:Int):Prop:=(me=3/\kd=0/\(ino<0\/(F.length:Int)<=ino))\/(me=0/\0<=ino/\ ∃y,F[ino.toNat]? =some y/\kd=y.kind/\n=y.n)
theorem oh (ino:Int)(h:dx w base q R cap L F)(xD:F.length<=1000):
  ∃kd md u g n me,RMeta F ino kd md u g n me/\Calls prog 88 #[.pointer (some ⟨q,0,none⟩),.int .i64 ino] w fun e w'=>e= .returned (.tuple #[.agg #[.int .u8 (kd:Int),.int .u16 (md:Int),.int .u32 (u:Int),.int .u32 (g:Int),.int .i64 (n:Int)],.int .i64 me])/\Below w.heap.size w w':=by
 obtain⟨w0,xv⟩:=e_ (w.alloc (.cells #[.int .u8 0,.int .u16 0,.int .u32 0,.int .u32 0,.int .i64 0] 103));have xz:Below w.heap.size w w0:=(by rw[xv];exact wR);have hM:w0.heap[w.heap.size]? =some (.cells #[.int .u8 0,.int .u16 0,.int .u32 0,.int .u32 0,.int .i64 0] 103 (0,0)):=(by rw[xv];exact ab w _);have hF:=h.kept xz;have hlen:=hF.len;have q0:w0.cell? ⟨q,0,none⟩=some (.slice R L.length cap):=aa hF.self 0;rw[hlen]at q0;have y0:w0.cell? ⟨w.heap.size,0,none⟩=some (.int .u8 0):=aa hM 0;have y1:w0.cell? ⟨w.heap.size,1,none⟩=some (.int .u16 0):=aa hM 1;have y2:w0.cell? ⟨w.heap.size,2,none⟩=some (.int .u32 0):=aa hM 2;have y3:w0.cell? ⟨w.heap.size,3,none⟩=some (.int .u32 0):=aa hM 3;have y4:w0.cell? ⟨w.heap.size,4,none⟩=some (.int .i64 0):=aa hM 4;have z0:=ae hM 0;have z1:=ae hM 1;have z2:=ae hM 2;have z3:=ae hM 3;have z4:=ae hM 4;have xw:=(wO hM).1;have xU:=wP xv;have xu:w.heap.size<=w.heap.size:=wS _;by_cases hr:ino<0\/(F.length:Int)<=ino
 ·refine⟨0,0,0,0,0,3,.inl ⟨rfl,rfl,hr⟩,?_⟩;clear h hF xv hM;go_enter func88,ntmps88;go_upto_region 1 with(fail);rw[<-xU.o];rcases hr with hr|hr
  ·go_wp2_with fail;exact bodyPost_ret (v:= .tuple #[.agg #[.int .u8 ((0:Nat):Int),.int .u16 ((0:Nat):Int),.int .u32 ((0:Nat):Int),.int .u32 ((0:Nat):Int),.int .i64 ((0:Nat):Int)],.int .i64 3]) (by simp[results,results88,go_sem,xw,y0,y1,y2,y3,y4,z0,z1,z2,z3,z4]) rfl ⟨rfl,((((xz.setCell xu _).setCell xu _).setCell xu _).setCell xu _).setCell xu _⟩
  ·have LR: ¬ino<0:=o_;go_wp2_with fail;exact bodyPost_ret (v:= .tuple #[.agg #[.int .u8 ((0:Nat):Int),.int .u16 ((0:Nat):Int),.int .u32 ((0:Nat):Int),.int .u32 ((0:Nat):Int),.int .i64 ((0:Nat):Int)],.int .i64 3]) (by simp[results,results88,go_sem,xw,y0,y1,y2,y3,y4,z0,z1,z2,z3,z4]) rfl ⟨rfl,((((xz.setCell xu _).setCell xu _).setCell xu _).setCell xu _).setCell xu _⟩
 ·obtain⟨i,rfl⟩: ∃i:Nat,ino=(i:Int):=⟨ino.toNat,o_⟩;have hi:i<F.length:=o_;obtain⟨y,hy⟩: ∃y,F[i]? =some y:=⟨_,wV hi⟩;refine⟨y.kind,y.mode,y.uid,y.gid,y.n,0,.inr ⟨rfl,o_,y,by rw[Int.toNat_natCast];exact hy,rfl,rfl⟩,?_⟩;obtain⟨r,g,Vz,rfl,rfl,hg,yA,hc⟩:=hF.at hy;have c0:w0.cell? ⟨g,i*9,none⟩=some (.int .u8 (r.nd.kind:Int)):=hc 0 o_;have c1:w0.cell? ⟨g,i*9+1,none⟩=some (.int .u16 (r.nd.mode:Int)):=hc 1 o_;have c2:w0.cell? ⟨g,i*9+2,none⟩=some (.int .u32 (r.nd.uid:Int)):=hc 2 o_;have c3:w0.cell? ⟨g,i*9+3,none⟩=some (.int .u32 (r.nd.gid:Int)):=hc 3 o_;have c4:w0.cell? ⟨g,i*9+4,none⟩=some (.int .i64 (r.nd.n:Int)):=hc 4 o_;have Ku:=hF.len;have hic:i<cap:=o_;have Kq: ¬(i:Int)<0:=o_;clear h hF xv hM hc hr hy Vz Ku;go_enter func88,ntmps88;go_upto_region 1 with(fail);rw[<-xU.o];go_wp2_with fail;exact bodyPost_ret (v:= .tuple #[.agg #[.int .u8 (r.nd.kind:Int),.int .u16 (r.nd.mode:Int),.int .u32 (r.nd.uid:Int),.int .u32 (r.nd.gid:Int),.int .i64 (r.nd.n:Int)],.int .i64 0]) (by simp[results,results88,go_sem,xw,y0,y1,y2,y3,y4,z0,z1,z2,z3,z4]) rfl ⟨rfl,((((xz.setCell xu _).setCell xu _).setCell xu _).setCell xu _).setCell xu _⟩
theorem ap.drop {g n m:Nat}{d:Nat->Nat}(h:ap w (some ⟨g,0,none⟩) n d)(hm:m<n):ap w (some ⟨g,m,none⟩) (n-m) fun j=>d (m+j):=fun h0=>by
 obtain⟨y,e,h1⟩:=h o_;injection e with e;subst e;refine⟨_,rfl,fun j hj=>?_⟩;have:=h1 (m+j) o_;rw[Addr.add_mid]at this⊢
 rwa [Nat.zero_add]at this
def RRead (n:Nat)(w:World)(e:Ending)(w':World):Prop:= ∃Rb k cp er d,e= .returned (.tuple #[.slice Rb k cp,.int .i64 er])/\k<=n/\ap w' Rb k d/\(∀y,Rb=some y-> ∃g,y=⟨g,0,none⟩/\w.heap.size<=g)/\Below w.heap.size w w'
theorem uB (ino:Int)(off n:Nat)(h:dx w base q R cap L F)(xD:F.length<=1000)(hn:n<=600000):
  Calls prog 190 #[.pointer (some ⟨q,0,none⟩),.int .i64 ino,.int .i64 (off:Int),.int .i64 (n:Int)] w (RRead n w):=by
 obtain⟨kd,md,u,g,nn,me,Ks,hC⟩:=oh ino h xD;have hoff: ¬(off:Int)<0:=o_;have Zt: ¬(n:Int)<0:=o_;obtain⟨HC,H⟩:=zh2 hC h;clear hC h;rcases Ks with⟨rfl,rfl,_⟩|⟨rfl,h0,y,hy,rfl,rfl⟩
 ·go_enter func190,ntmps190;go_wp2_with (first
   |(go_at_call 88;refine(HC.o).mono ?_;rintro e w1⟨rfl,xu⟩)
   |fail)
  go_ret2;exact⟨none,0,0,3,fun _ =>0,rfl,xm _,(fun h=>o_),(fun y hy=>by cases hy),xu.alloc xu.size _⟩
 ·obtain⟨i,rfl⟩: ∃i:Nat,ino=(i:Int):=⟨ino.toNat,o_⟩;rw[Int.toNat_natCast]at hy;obtain⟨r,g',Vz,rfl,rfl,hg,yA,hc⟩:=H.o.at hy;obtain⟨ZM,hBA,FQ,TP⟩:=H.o.bytes r (xb Vz);have q0:=aa H.o.self 0;have c7:=hc 7 o_;have Ku:=H.o.len;by_cases Ec:r.nd.kind=2
  ·rw[Ec]at HC;go_enter func190,ntmps190;go_wp2_with (first
    |(go_at_call 88;refine(HC.o).mono ?_;rintro e w1⟨rfl,xu⟩)
    |fail)
   go_ret2;exact⟨none,0,0,9,fun _ =>0,rfl,xm _,(fun h=>o_),(fun y hy=>by cases hy),xu.alloc xu.size _⟩
  have b2:((r.nd.kind:Int)==2)=false:=(by rw[xf];omega);by_cases Il:r.nd.kind=3
  ·rw[Il]at HC;go_enter func190,ntmps190;go_wp2_with (first
    |(go_at_call 88;refine(HC.o).mono ?_;rintro e w1⟨rfl,xu⟩)
    |fail)
   go_ret2;exact⟨none,0,0,1,fun _ =>0,rfl,xm _,(fun h=>o_),(fun y hy=>by cases hy),xu.alloc xu.size _⟩
  have b3:((r.nd.kind:Int)==3)=false:=(by rw[xf];omega);obtain⟨HR,Iu⟩:=zh2 H.o ZM;have An:i<cap:=(by have:=(List.getElem?_eq_some_iff.1 hy).1;omega);have hlF:i<L.length:=(by have:=(List.getElem?_eq_some_iff.1 hy).1;omega);have e7: ∀W,Below w.heap.size w W->W.cell? ⟨q,0,none⟩=some (.slice (some ⟨g',0,none⟩) L.length cap)/\W.cell? ⟨g',i*9+7,none⟩=some (.slice r.A r.nd.n r.c):=fun W hW=>⟨(hW.cell (wO H.o.self).1).trans q0,(hW.cell hg).trans c7⟩;have HE:=wP e7;obtain⟨N,hN⟩:=e_ r.nd.n;by_cases ho:r.nd.n<=off
  ·clear ZM hc q0 c7 H Vz hy e7 Ku;go_enter func190,ntmps190;go_upto_region 8 with(first
    |(go_at_call 88;refine(HC.o).mono ?_;rintro e w1⟨rfl,xu⟩)
    |fail)
   obtain⟨W,hW⟩:=e_ (w1.alloc (.cells #[.int .u8 (r.nd.kind:Int),.int .u16 (md:Int),.int .u32 (u:Int),.int .u32 (g:Int),.int .i64 (r.nd.n:Int)] 103));have FT:Below w.heap.size w W:=(by rw[hW];exact xu.alloc xu.size _);rw[<-hW];obtain⟨x0,x7⟩:=HE.o W FT;clear hW;go_wp2_with fail;go_ret2;exact⟨none,0,0,0,fun _ =>0,rfl,xm _,(fun h=>o_),(fun y hy=>by cases hy),FT⟩
  ·have h1:r.nd.n-off>0:=o_;obtain⟨⟨gb,ob,sp⟩,hA,_⟩:=ZM o_;obtain⟨g2,cs,f,e,Aq⟩:=hBA _ hA;injection e with e1 e2 e3;subst e1 e2 e3;rw[hA]at Iu;rw[hA]at HE;have NM:off<r.nd.n:=o_;have Fm:=(wO Aq).1;have hoc:off<=r.c:=o_;have hd:=wP (Iu.o.drop NM);have i1:(off:Int)<=(r.c:Int):=o_;have i2:((r.nd.n:Int)-(off:Int))=((r.nd.n-off:Nat):Int):=o_;have i3:(r.nd.n:Int)<=(r.c:Int):=o_;clear ZM hc q0 c7 H Vz hy e7 Ku hBA TP;go_enter func190,ntmps190;go_upto_region 8 with(first
    |(go_at_call 88;refine(HC.o).mono ?_;rintro e w1⟨rfl,xu⟩)
    |fail)
   obtain⟨W,hW⟩:=e_ (w1.alloc (.cells #[.int .u8 (r.nd.kind:Int),.int .u16 (md:Int),.int .u32 (u:Int),.int .u32 (g:Int),.int .i64 (r.nd.n:Int)] 103));have FT:Below w.heap.size w W:=(by rw[hW];exact xu.alloc xu.size _);rw[<-hW];obtain⟨x0,x7⟩:=HE.o W FT;clear hW;go_upto_region 12 with fail;have zm: ∀(k c2:Nat) (W2:World),k<=n->k<=r.nd.n-off->Below w.heap.size w W2->Calls prog 44 #[.slice (some ⟨gb,off,none⟩) k c2] W2 (rV k (fun j=>r.nd.dat (off+j)) W2):=fun k c2 W2 h1 h2 yo=>oo _ k c2 _ W2 o_ (fun h0=>by
     obtain⟨x,e,hx⟩:=hd.o.kept yo o_;exact⟨x,e,fun j hj=>hx j o_⟩) (fun x e _ =>by injection e with e;subst e;exact wW Fm yo.size)
   have Oe:=wP zm;by_cases AK:n<r.nd.n-off
   ·have i4:(n:Int)<((r.nd.n-off:Nat):Int):=o_;have i5:(n:Int)<=(r.c:Int)-(off:Int):=o_;go_wp2_with (first
     |(go_at_call 44;refine(Oe.o n _ _ (wS _) o_ FT).mono ?_;rintro e w3⟨Rb,cp,rfl,h3,h4,h5⟩)
     |fail)
    go_ret2;exact⟨Rb,n,cp,0,_,rfl,wS _,h3.1,(fun y hy=>by obtain⟨g3,_,_,e,_⟩:=h3.2.1 y hy;subst e;exact⟨g3,rfl,xn FT.size (h4 _ hy)⟩),FT.trans (h5.mono FT.size)⟩
   ·have i4: ¬(n:Int)<((r.nd.n-off:Nat):Int):=o_;go_wp2_with (first
     |(go_at_call 44;refine(Oe.o (r.nd.n-off) _ _ o_ (wS _) FT).mono ?_;rintro e w3⟨Rb,cp,rfl,h3,h4,h5⟩)
     |fail)
    go_ret2;exact⟨Rb,_,cp,0,_,rfl,o_,h3.1,(fun y hy=>by obtain⟨g3,_,_,e,_⟩:=h3.2.1 y hy;subst e;exact⟨g3,rfl,xn FT.size (h4 _ hy)⟩),FT.trans (h5.mono FT.size)⟩
end
section
open Go.RowKit Go.Sort
variable {L:List ByteArray}{q:Nat}
theorem dots_yes (h:L[q]? =some ⟨#[46,46]⟩):dots L=true:=by
 unfold dots;exact List.any_eq_true.2 ⟨_,xb h,rfl⟩
theorem dots_no (h: ∀j y,j<L.length->L[j]? =some y->y≠⟨#[46,46]⟩):dots L=false:=by
 unfold dots;rw[List.any_eq_false];intro x hx;obtain⟨j,hj,e⟩:=List.mem_iff_getElem.1 hx;have h1:=h j x hj (by rw[wV hj,e]);intro e2;apply h1;cases x with
 |mk d=>exact congrArg ByteArray.mk (eq_of_beq e2)
theorem jq {y:ByteArray}(h:y≠⟨#[46,46]⟩):(y.toList==[46,46])=false:=by
 have h1:=uk h;rw[ByteArray.toList_eq (ByteArray.mk #[46,46])]at h1;exact h1
def NoDot (L:List ByteArray)(q:Nat):Prop:= ∀j y,j<q->L[j]? =some y->y≠⟨#[46,46]⟩
theorem tx (h:dots L=false)(hq:L[q]? =some ⟨#[46,46]⟩):False:=by
 rw[dots_yes hq]at h;cases h
theorem vc {m:Nat}(h:m<65536):(bits .and .u16 (m:Int) 2559 != (m:Int))=dF m:=by
 rw[show((2559:Int))=((2559:Nat):Int)from rfl,u16_and_nat m 2559 h o_];cases hc:dF m with
 |false=>
  have:=(rr h).2 hc;rw[this];simp
 |true=>
  rw[bne_iff_ne];intro e;have e2:m&&&2559=m:=o_;rw[(rr h).1 e2]at hc;cases hc
theorem rmay_any (x:Ent)(A:Option Addr)(c:Nat)(w:World)(hp:x.path.size<=1000000000)(ht:x.to.size<=1000000000)(hn:x.n<=9223372036854775807)(hm:x.mode<65536):
  Calls prog 41 #[x.val A c] w fun e w'=>e= .returned (.int .i64 (may x))/\Below w.heap.size w w':=by
 obtain⟨path,kind,mode,uid,gid,n,dat,lk⟩:=x;simp only at hp ht hn hm;obtain⟨K,SI⟩: ∃K:Int,K=(kind:Int):=⟨_,rfl⟩;have ZJ:0<=K:=o_;obtain⟨w0,xv⟩:=e_ (w.alloc (.cells #[.string path,.int .u8 K,.int .u16 (mode:Int),.int .u32 (uid:Int),.int .u32 (gid:Int),.slice A n c,.string lk] 93));have xz:Below w.heap.size w w0:=(by rw[xv];exact wR);have hE:w0.heap[w.heap.size]? =some (.cells #[.string path,.int .u8 K,.int .u16 (mode:Int),.int .u32 (uid:Int),.int .u32 (gid:Int),.slice A n c,.string lk] 93 (0,0)):=(by rw[xv];exact ab w _);have Ci:w.heap.size<w0.heap.size:=(wO hE).1;have d0:w0.cell? ⟨w.heap.size,0,none⟩=some (.string path):=aa hE 0;have d1:w0.cell? ⟨w.heap.size,1,none⟩=some (.int .u8 K):=aa hE 1;have d2:w0.cell? ⟨w.heap.size,2,none⟩=some (.int .u16 (mode:Int)):=aa hE 2;obtain⟨HE,xU⟩:=zh2 hE xv;clear hE xv;unfold Ent.val;simp only;rw[<-SI];obtain⟨mb,Gl⟩:=e_ (dF mode);have Ch:=vc hm;rw[<-Gl]at Ch;obtain⟨ct,Ip⟩:=e_ (chk lk);have BV:=fun W=>mA lk W ht;rw[<-Ip]at BV;have Tz:=wP BV;by_cases hc:chk path=0
 rotate_left
 ·obtain⟨mr,IM⟩:=e_ (may ⟨path,kind,mode,uid,gid,n,dat,lk⟩);have xN:mr=1:=by
   rw[IM];unfold may;simp only;split
   ·rfl
   ·rw[if_pos (.inl hc)]
  rw[<-IM,xN];have Yp:=wP (fun W=>su path W hp hc);have xA:(chk path != 0)=true:=(by rw[bne_iff_ne];exact hc);obtain⟨r,hr⟩:=e_ (chk path);rw[<-hr]at xA Yp;clear IM xN hc hr SI Ip BV Gl;by_cases hk:K=1\/K=2\/K=3
  ·rcases(by cases mb<;>simp:mb=true\/mb=false)with rfl|rfl
   all_goals
    rcases hk with rfl|rfl|rfl
    all_goals
     go_enter func41,ntmps41;go_upto_region 1 with(fail);rw[<-xU.o];go_wp2_with (first
      |(go_at_call 42;refine(Yp.o _).mono ?_;rintro e w1⟨rfl,xu⟩;have xI:=wP (xz.trans (xu.mono xz.size));clear xu)
      |fail)
     go_ret
     first
      |exact⟨rfl,xz⟩
      |exact⟨rfl,xI.o⟩
  ·have k1:(K != 1)=true:=(by rw[bne_iff_ne];omega);have k2:(K != 2)=true:=(by rw[bne_iff_ne];omega);have k3:(K != 3)=true:=(by rw[bne_iff_ne];omega);clear hk;go_enter func41,ntmps41;go_upto_region 1 with(fail);rw[<-xU.o];go_wp2_with fail;go_ret;exact⟨rfl,xz⟩
 have Al:=dv hc;have VC:path.size<=200:=Al.2.1;obtain⟨L,hL⟩:=e_ (ar path);obtain⟨k,hk⟩:=e_ L.length;have hkf:k<=201:=(by rw[hk,hL];have:=bd path;omega);obtain⟨pb,hpb⟩:=e_ (Lib.hasPrefix path.data.toList [47]);obtain⟨tb,PE⟩:=e_ (Lib.hasSuffix path.data.toList [47]);obtain⟨db,BD⟩:=e_ (dots L);have If:=fun W=>od path W hc;unfold cE at If;rw[<-hL,<-hpb,<-hk]at If;have Rp:=fun W=>uA path W o_;rw[<-PE]at Rp;obtain⟨mr,IM⟩:=e_ (may ⟨path,kind,mode,uid,gid,n,dat,lk⟩);rw[<-IM];have xN:mr=if K<1\/3<K\/mb=true then 1 else if pb=false\/k=0\/tb=true\/db=true then 1
   else if(K≠1/\0<n)\/(K≠3/\lk.size≠0)then 1 else if K=3/\ct≠0 then 1 else if 65536<n then 12 else 0:=by
  have i1:(K<1)=(kind<1):=(by apply propext;omega);have i2:(3<K)=(3<kind):=(by apply propext;omega);have i3:(K=1)=(kind=1):=(by apply propext;omega);have i4:(K=3)=(kind=3):=(by apply propext;omega);rw[IM,hpb,hk,PE,BD,Ip,hL,Gl];simp only[i1,i2,i3,i4,ne_eq];unfold may;simp only[hc,ne_eq,not_true_eq_false,false_or,List.length_eq_zero_iff]
 obtain⟨Tj,Te,HK,Oc⟩:=zh4 If Rp hk BD;clear If Rp BV BD hpb PE Ip IM hk hL hc Al SI Gl;by_cases zo:K=1\/K=2\/K=3
 rotate_left
 ·have k1:(K != 1)=true:=(by rw[bne_iff_ne];omega);have k2:(K != 2)=true:=(by rw[bne_iff_ne];omega);have k3:(K != 3)=true:=(by rw[bne_iff_ne];omega);have Ik:K<1\/3<K\/mb=true:=o_;clear zo
  (
   have GA:mr=1:=(by rw[xN,if_pos Ik]);rw[GA];clear xN GA;go_enter func41,ntmps41;go_upto_region 1 with(fail);rw[<-xU.o];go_wp2_with fail;go_ret;exact⟨rfl,xz⟩)
 rcases(by cases mb<;>simp:mb=true\/mb=false)with rfl|rfl
 ·rcases zo with rfl|rfl|rfl
  all_goals(
   have GA:mr=1:=(by rw[xN,if_pos (.inr (.inr rfl))]);rw[GA];clear xN GA;go_enter func41,ntmps41;go_upto_region 1 with(fail);rw[<-xU.o];go_wp2_with fail;go_ret;exact⟨rfl,xz⟩)
 have n1: ¬(K<1\/3<K\/false=true):=t_;rw[if_neg n1]at xN;clear n1;rcases(by cases pb<;>simp:pb=false\/pb=true)with rfl|rfl
 ·rcases zo with rfl|rfl|rfl
  all_goals(
   have GA:mr=1:=(by rw[xN,if_pos (.inl rfl)]);rw[GA];clear xN GA;go_enter func41,ntmps41;go_upto_region 1 with(fail);rw[<-xU.o];go_wp2_with (first
   |(go_at_call 42;refine(Tj.o _).mono ?_;rintro e w1⟨A1,xt,rfl,zB,xu⟩;have yP:=(xu.block _ Ci).trans HE.o;have f0:w1.cell? ⟨w.heap.size,0,none⟩=some (.string path):=aa yP 0;have f1:=aa yP 1;have f5:w1.cell? ⟨w.heap.size,5,none⟩=some (.slice A _ c):=aa yP 5;have yN:w.heap.size<w1.heap.size:=(wO yP).1;have f6:w1.cell? ⟨w.heap.size,6,none⟩=some (.string lk):=aa yP 6;obtain⟨yB,xI⟩:=zh2 zB (xz.trans (xu.mono xz.size));have xQ:=xI.o.size;clear zB xu yP)
   |(go_at_call 83;refine(Te.o _).mono ?_;rintro e w2⟨rfl,rfl⟩)
   |fail)
   go_ret;exact⟨rfl,xI.o⟩)
 by_cases c5:k=0
 ·subst c5;rcases zo with rfl|rfl|rfl
  all_goals(
   have GA:mr=1:=(by rw[xN,if_pos (.inr (.inl rfl))]);rw[GA];clear xN GA;go_enter func41,ntmps41;go_upto_region 1 with(fail);rw[<-xU.o];go_wp2_with (first
   |(go_at_call 42;refine(Tj.o _).mono ?_;rintro e w1⟨A1,xt,rfl,zB,xu⟩;have yP:=(xu.block _ Ci).trans HE.o;have f0:w1.cell? ⟨w.heap.size,0,none⟩=some (.string path):=aa yP 0;have f1:=aa yP 1;have f5:w1.cell? ⟨w.heap.size,5,none⟩=some (.slice A _ c):=aa yP 5;have yN:w.heap.size<w1.heap.size:=(wO yP).1;have f6:w1.cell? ⟨w.heap.size,6,none⟩=some (.string lk):=aa yP 6;obtain⟨yB,xI⟩:=zh2 zB (xz.trans (xu.mono xz.size));have xQ:=xI.o.size;clear zB xu yP)
   |(go_at_call 83;refine(Te.o _).mono ?_;rintro e w2⟨rfl,rfl⟩)
   |fail)
   go_ret;exact⟨rfl,xI.o⟩)
 have zh: ¬(k:Int)=0:=o_;rcases(by cases tb<;>simp:tb=true\/tb=false)with rfl|rfl
 ·rcases zo with rfl|rfl|rfl
  all_goals(
   have GA:mr=1:=(by rw[xN,if_pos (.inr (.inr (.inl rfl)))]);rw[GA];clear xN GA;go_enter func41,ntmps41;go_upto_region 1 with(fail);rw[<-xU.o];go_wp2_with (first
   |(go_at_call 42;refine(Tj.o _).mono ?_;rintro e w1⟨A1,xt,rfl,zB,xu⟩;have yP:=(xu.block _ Ci).trans HE.o;have f0:w1.cell? ⟨w.heap.size,0,none⟩=some (.string path):=aa yP 0;have f1:=aa yP 1;have f5:w1.cell? ⟨w.heap.size,5,none⟩=some (.slice A _ c):=aa yP 5;have yN:w.heap.size<w1.heap.size:=(wO yP).1;have f6:w1.cell? ⟨w.heap.size,6,none⟩=some (.string lk):=aa yP 6;obtain⟨yB,xI⟩:=zh2 zB (xz.trans (xu.mono xz.size));have xQ:=xI.o.size;clear zB xu yP)
   |(go_at_call 83;refine(Te.o _).mono ?_;rintro e w2⟨rfl,rfl⟩)
   |fail)
   go_ret;exact⟨rfl,xI.o⟩)
 rcases(by cases db<;>simp:db=true\/db=false)with rfl|rfl
 ·have GA:mr=1:=(by rw[xN,if_pos (.inr (.inr (.inr rfl)))]);rw[GA];clear xN GA;rcases zo with rfl|rfl|rfl
  all_goals
   (
   go_enter func41,ntmps41;go_upto_region 1 with(fail);rw[<-xU.o];go_upto_region 6 with(first
   |(go_at_call 42;refine(Tj.o _).mono ?_;rintro e w1⟨A1,xt,rfl,zB,xu⟩;have yP:=(xu.block _ Ci).trans HE.o;have f0:w1.cell? ⟨w.heap.size,0,none⟩=some (.string path):=aa yP 0;have f1:=aa yP 1;have f5:w1.cell? ⟨w.heap.size,5,none⟩=some (.slice A _ c):=aa yP 5;have yN:w.heap.size<w1.heap.size:=(wO yP).1;have f6:w1.cell? ⟨w.heap.size,6,none⟩=some (.string lk):=aa yP 6;obtain⟨yB,xI⟩:=zh2 zB (xz.trans (xu.mono xz.size));have xQ:=xI.o.size;clear zB xu yP)
   |(go_at_call 83;refine(Te.o _).mono ?_;rintro e w2⟨rfl,rfl⟩)
   |fail)
   go_wp2_with fail;go_loopw [6] (fun i wr=> ∃q:Nat,i= .int .i64 (q:Int)/\q<=k/\NoDot L q/\w1=wr) (fun i _ =>k-(intOf i).toNat)
   case atStart=>exact⟨0,rfl,xm _,(fun j y hj=>o_),rfl⟩
   case round=>
    obtain⟨q,rfl,hq,xL,rfl⟩:=hrel;have Ds:=wP xL;clear xL;by_cases xw:q<k
    ·obtain⟨y,hy⟩: ∃y,L[q]? =some y:=⟨_,wV (by rw[<-HK.o];exact xw)⟩;rcases yB.o.form with⟨_,h2,_⟩|⟨g,Ck,_,yE,Im⟩
     ·rw[h2]at hy;simp at hy
     subst Ck;have xV:=yB.o.elem hy;have Ot:q<xt:=(by have:=HK.o;omega);by_cases e:y=⟨#[46,46]⟩
     ·have HYY:=wP (show L[q]? =some ⟨#[46,46]⟩from e▸hy);subst e;clear hy
      (go_wp2_with fail;go_ret;exact⟨rfl,xI.o⟩)
     ·have b1:(y.toList==[46,46])=false:=jq e;have AJ:=wP (show NoDot L (q+1)from fun j z hj hz=>by
       by_cases ej:j=q
       ·subst ej;rw[hy]at hz;injection hz with hz;exact hz▸e
       ·exact Ds.o j z o_ hz)
      clear e hy;go_wp2_with fail;go_roundw
      case rel=>exact⟨q+1,by go_num,o_,AJ.o,trivial⟩
      case measure=>(simp[intOf];omega)
    ·obtain rfl:q=k:=o_;exact absurd (dots_no (fun j y hj hy=>Ds.o j y (by rw[HK.o];exact hj) hy)) (by rw[<-Oc.o];decide))
 have n2: ¬(true=false\/k=0\/false=true\/false=true):=t_;rw[if_neg n2]at xN;clear n2;have yb:=ve zo xN;clear xN zo;rcases yb with⟨rfl,t0,hv⟩|⟨rfl,t0,Mf,hv⟩|⟨rfl,t0,Mf,hv⟩|⟨RO,Mf,hv⟩|⟨rfl,rfl,t0,hv⟩|⟨rfl,rfl,t0,hv⟩|⟨rfl,rfl,t0,hv⟩|⟨rfl,rfl,rfl,hv⟩
 rotate_left 3
 rcases RO with rfl|rfl
 all_goals
  rw[hv];clear hv
  first
   |replace t0:=tY t0
   |replace t0:=qN t0
   |(have hct9:(ct != 0)=true:=by rw[bne_iff_ne];exact t0)
   |skip
  (
   go_enter func41,ntmps41;go_upto_region 1 with(fail);rw[<-xU.o];go_upto_region 6 with(first
   |(go_at_call 42;refine(Tj.o _).mono ?_;rintro e w1⟨A1,xt,rfl,zB,xu⟩;have yP:=(xu.block _ Ci).trans HE.o;have f0:w1.cell? ⟨w.heap.size,0,none⟩=some (.string path):=aa yP 0;have f1:=aa yP 1;have f5:w1.cell? ⟨w.heap.size,5,none⟩=some (.slice A _ c):=aa yP 5;have yN:w.heap.size<w1.heap.size:=(wO yP).1;have f6:w1.cell? ⟨w.heap.size,6,none⟩=some (.string lk):=aa yP 6;obtain⟨yB,xI⟩:=zh2 zB (xz.trans (xu.mono xz.size));have xQ:=xI.o.size;clear zB xu yP)
   |(go_at_call 83;refine(Te.o _).mono ?_;rintro e w2⟨rfl,rfl⟩)
   |fail)
   go_wp2_with fail;go_loopw [6] (fun i wr=> ∃q:Nat,i= .int .i64 (q:Int)/\q<=k/\NoDot L q/\w1=wr) (fun i _ =>k-(intOf i).toNat)
   case atStart=>exact⟨0,rfl,xm _,(fun j y hj=>o_),rfl⟩
   case round=>
    obtain⟨q,rfl,hq,xL,rfl⟩:=hrel;have Ds:=wP xL;clear xL;by_cases xw:q<k
    ·obtain⟨y,hy⟩: ∃y,L[q]? =some y:=⟨_,wV (by rw[<-HK.o];exact xw)⟩;rcases yB.o.form with⟨_,h2,_⟩|⟨g,Ck,_,yE,Im⟩
     ·rw[h2]at hy;simp at hy
     subst Ck;have xV:=yB.o.elem hy;have Ot:q<xt:=(by have:=HK.o;omega);by_cases e:y=⟨#[46,46]⟩
     ·have HYY:=wP (show L[q]? =some ⟨#[46,46]⟩from e▸hy);subst e;clear hy;exact(tx Oc.o.symm HYY.o).elim
     ·have b1:(y.toList==[46,46])=false:=jq e;have AJ:=wP (show NoDot L (q+1)from fun j z hj hz=>by
       by_cases ej:j=q
       ·subst ej;rw[hy]at hz;injection hz with hz;exact hz▸e
       ·exact Ds.o j z o_ hz)
      clear e hy;go_wp2_with fail;go_roundw
      case rel=>exact⟨q+1,by go_num,o_,AJ.o,trivial⟩
      case measure=>(simp[intOf];omega)
    ·obtain rfl:q=k:=o_
     (first
     |(go_wp2_with (first|(go_at_call 84;refine(Tz.o _).mono ?_;rintro e w4⟨rfl,yG⟩;have g5:=(yG.cell (p:=⟨w.heap.size,5,none⟩) yN).trans f5)|fail);go_ret;exact⟨rfl,xI.o.trans (yG.mono xQ)⟩)
     |(go_wp2_with fail;go_ret;exact⟨rfl,xI.o⟩)))
end
section
open Go.RowKit Go.Sort
variable {w:World}{base g cap:Nat}
theorem OwnG.blockT {α:Type}{T:TypeId}{k:Nat}{C:α->List Value}{L:List α}(h:OwnG T k C w base (some ⟨g,0,none⟩) cap L): ∃cur,w.heap[g]? =some (.cells cur T (0,0)):=by
 rcases h.2 with⟨h2,_⟩|⟨g',xq,cur,h1,h3,h4,h5,_⟩
 ·injection h2 with h2;cases h2
 ·injection h1 with e1 _ e3;injection e1 with e1;injection e1 with e1;subst e1;exact⟨cur,h4⟩
variable {F:List Nd}
theorem dx.grow {w2:World}{q:Nat}{R:Option Addr}{L:List NdR}{AR:Nat}{r:NdR}
  (h:dx w base q R cap L F)(hr:cj w r.A r.nd.n r.c r.nd.dat)(PK: ∀x,r.A=some x->base<=x.block)(xC:OwnG 105 9 ndC w2 base (some ⟨g,0,none⟩) AR (L++[r]))(hg:w.grownBy w2 (R.map (·.block)))
  (yr:R.map (·.block)=some g\/g=w.heap.size):
  dx (w2.setCell ⟨q,0,none⟩ (.slice (some ⟨g,0,none⟩) (L.length+1) AR)) base q (some ⟨g,0,none⟩) AR (L++[r]) (F++[r.nd]):=by
 have hq:=(wO h.self).1;have hqR:some q≠R.map (·.block):=fun e=>by
  rcases h.row.form with⟨h1,_⟩|⟨g1,h1,_⟩
  ·rw[h1]at e;cases e
  ·rw[h1]at e;simp only[Option.map_some,Option.some.injEq]at e;exact h.ne (by rw[h1,e])
 have hgq:g≠q:=fun e=>by
  rcases yr with h1|h1
  ·exact hqR (by rw[h1,e])
  ·omega
 have EU:=(hg.block q hq hqR).trans h.self;have GY: ∀(b:Nat) (cs:Array Value) (f:Nat×Nat),w.heap[b]? =some (.cells cs 5 f)->(w2.setCell ⟨q,0,none⟩ (.slice (some ⟨g,0,none⟩) (L.length+1) AR)).heap[b]? =w.heap[b]? :=fun b cs f hb=>by
  have Cz:=(wO hb).1;have xR:b≠q:=fun e=>by
   subst e;rw[h.self]at hb;injection hb with hb;injection hb with _ hb;exact absurd hb d_
  have hbR:some b≠R.map (·.block):=fun e=>by
   rcases h.row.form with⟨h1,_⟩|⟨g1,h1,_⟩
   ·rw[h1]at e;cases e
   ·rw[h1]at e;simp only[Option.map_some,Option.some.injEq]at e;subst e;have h9:=h.row;rw[h1]at h9;obtain⟨cur,h8⟩:=h9.blockT;rw[h8]at hb;injection hb with hb;injection hb with _ hb;exact absurd hb d_
  exact((aj (S:=fun b=>b=q) rfl 0 _).block b (by have:=hg.size;omega) xR).trans (hg.block b Cz hbR)
 refine⟨by rw[List.map_append,h.map];rfl,?_,?_,?_,h.low,fun e=>by injection e with e;injection e with e;exact hgq e,fun r1 EM=>(List.mem_append.1 EM).elim (h.blow r1) (fun h1=>by rw[List.mem_singleton]at h1;subst h1;exact PK)⟩
 ·have h9:=Joins.block_setCell (i:=0) EU (.slice (some ⟨g,0,none⟩) (L.length+1) AR);rw[wU];simpa using h9
 ·refine xC.same fun g1 Ck=>?_;injection Ck with Ck;injection Ck with Ck;subst Ck;exact(aj (S:=fun b=>b=q) rfl 0 _).block g xC.formS.2.1 hgq
 ·intro r1 EM;rcases List.mem_append.1 EM with h1|h1
  ·exact(h.bytes r1 h1).keep GY
  ·rw[List.mem_singleton]at h1;subst h1;exact hr.keep GY
theorem rM {x:Ent}(hm:may x≠0):addM F x=(may x,F):=by
 unfold addM;rw[if_pos hm]
theorem tA (w:World):dx (w.alloc (.cells #[.slice none 0 0] 101)) w.heap.size w.heap.size none 0 [] []:=
 ⟨rfl,ab _ _,OwnG.nil _ _,(fun r hr=>by cases hr),wS _,s_,(fun r hr=>by cases hr)⟩
def dw (l:List Ent)(w:World)(e:Ending)(w':World):Prop:=
 (
  if 64<l.length then e= .returned (.tuple #[.pointer none,.int .i64 15,.int .i64 (-1)])
  else if(newM [aD] 0 l).1≠0 then e= .returned (.tuple #[.pointer none,.int .i64 (newM [aD] 0 l).1,.int .i64 (newM [aD] 0 l).2.1])
  else∃q R cap L,e= .returned (.tuple #[.pointer (some ⟨q,0,none⟩),.int .i64 0,.int .i64 0])/\dx w' w.heap.size q R cap L (newM [aD] 0 l).2.2)/\Below w.heap.size w w'
theorem dw.stop {l:List Ent}{w':World}{r i:Int}(CD: ¬64<l.length)(h:newM [aD] 0 l=(r,i,F))(hr:r≠0)(hb:Below w.heap.size w w'):dw l w (.returned (.tuple #[.pointer none,.int .i64 r,.int .i64 i])) w':=by
 refine⟨?_,hb⟩;rw[if_neg CD,h,if_pos hr]
def BoxE (w:World)(b:Nat)(x:Ent)(A:Option Addr)(c:Nat):Prop:=w.heap[b]? =some (.cells #[.string x.path,.int .u8 (x.kind:Int),.int .u16 (x.mode:Int),.int .u32 (x.uid:Int),.int .u32 (x.gid:Int),.slice A x.n c,.string x.to] 93 (0,0))
theorem mx (P:Option Addr)(n cap:Nat)(l:List Ent)(w:World)(hl:fp w P l)(hn:n=l.length)(yA:n<=cap)(Ag:n<=9223372036854775807)(AK: ∀x∈l,x.n<=524288/\x.path.size<=524288/\x.to.size<=524288):
  Calls prog 12 #[.slice P n cap] w (dw l w):=by
 by_cases CD:64<n
 ·have hv: ∀e w',(e= .returned (.tuple #[.pointer none,.int .i64 15,.int .i64 (-1)])/\Below w.heap.size w w')->dw l w e w':=fun e w' h=>by
   unfold dw;rw[if_pos o_];exact h
  have HV:=wP hv;clear hv hl hn AK;go_enter func12,ntmps12;go_wp2_with fail;go_ret3;exact HV.o _ _ ⟨rfl,xp _ _⟩
 obtain⟨q,hq⟩:=e_ w.heap.size;have yD:=tA w;obtain⟨w0,xv⟩:=e_ (w.alloc (.cells #[.slice none 0 0] 101));rw[<-xv]at yD;have xz:Below w.heap.size w w0:=(by rw[xv];exact wR);have q0:w0.cell? ⟨w.heap.size,0,none⟩=some (.slice none 0 0):=aa yD.self 0;have qf:=ae yD.self 0;have qlt:w.heap.size<w0.heap.size:=(wO yD.self).1;have NQ:Hid (some w.heap.size≠(none:Option Addr).map (·.block)):=wP s_;obtain⟨xU,yd,Fy,Gh,Jr,Ur,HQ⟩:=zh7 xv xz yD hn hl AK hq;have xT:=xz.size;clear xz xv yD hn hl AK hq;go_enter func12,ntmps12;go_upto_region 4 with(fail);rw[<-xU.o];go_upto_region 5 with(first
  |(at_builtin;refine jj pW rfl (.tmp 22) (.tmp 25) rfl w.heap.size none 0 0 [] rfl rfl (OwnG.nil _ _) ⟨aD,none,0⟩ w0.heap.size 1 rfl (ab w0 _) o_ t_ ?_;intro g1 xt w1 yJ Ck yH DY;have q1:=(Ck.cell_far ⟨w.heap.size,0,none⟩ t_ NQ.o);have qf1:=Ck.frozen_far ⟨w.heap.size,0,none⟩ t_ NQ.o)
  |fail)
 obtain⟨w2,yl⟩:=e_ (w1.setCell ⟨w.heap.size,0,none⟩ (.slice (some ⟨g1,0,none⟩) 1 xt));have Xy:dx w2 w.heap.size w.heap.size (some ⟨g1,0,none⟩) xt [⟨aD,none,0⟩] [aD]:=by
  rw[yl];exact(Fy.o.kept wR).grow ⟨(fun h=>absurd h d_),(fun x hx=>by cases hx),wS _,fun _ =>⟨rfl,rfl⟩⟩ (fun x hx=>by cases hx) yJ Ck yH
 have xx:Below w.heap.size w w2:=by
  rw[yl];exact(((yd.o.alloc xT _).grown Ck t_ (fun b hb=>by simp at hb))).setCell (wS _) _
 obtain⟨Gc,HF2,yW⟩:=zh3 yl Xy xx;clear yl Xy xx;go_upto_region 6 with(fail);rw[<-Gc.o];clear q0 qf q1 qf1 qlt yJ Ck yH DY;go_wp2_with fail;go_loopw [6] (fun i wr=> ∃k F R cp L,k<=n/\i= .int .i64 ((k:Nat):Int)/\dx wr w.heap.size w.heap.size R cp L F/\FOk F/\eJ F/\newM [aD] 0 l=newM F k (l.drop k)/\F.length=k+1/\Below w.heap.size w wr) (fun i _ =>n-(intOf i).toNat)
 case atStart=>exact⟨0,[aD],_,_,_,o_,rfl,HF2.o,FOk.start,eJ.start,rfl,rfl,yW.o⟩
 case round=>
  obtain⟨k,F,R,cp,L,hk,rfl,hF,ya,Wo,hnew,hlen,zI⟩:=hrel;obtain⟨HF,Hu,Tr,Ai,DD,AD⟩:=zh6 hF ya Wo hnew hlen zI;have Ri:=zI.size;clear hF ya Wo hnew hlen zI;by_cases xw:k<n
  ·obtain⟨x,hx⟩: ∃x,l[k]? =some x:=⟨_,wV (by rw[<-Gh.o];exact xw)⟩;have zb:l.drop k=x::l.drop (k+1):=(List.drop_eq_getElem_cons (by rw[<-Gh.o];exact xw)).trans (by
    obtain⟨h1,h2⟩:=List.getElem?_eq_some_iff.1 hx;rw[h2])
   have Ic:=Ur.o x (xb hx);obtain⟨bb,off,A,c,rfl,⟨c0,c1,c2,c3,c4,c5,c6⟩,hA,MX,FQ⟩:=(Jr.o.below AD.o) k x hx;obtain⟨w3,yU⟩:=e_ (wr.alloc (.cells #[.string x.path,.int .u8 (x.kind:Int),.int .u16 (x.mode:Int),.int .u32 (x.uid:Int),.int .u32 (x.gid:Int),.slice A x.n c,.string x.to] 93));have Sy:BoxE w3 wr.heap.size x A c:=(by rw[yU];exact ab wr _);have xE:Below wr.heap.size wr w3:=(by rw[yU];exact wR);have UK:wr.heap.size<w3.heap.size:=(wO Sy).1;have xN:=rmay_any x A c w3 o_ o_ o_ FQ.mode;unfold Ent.val at xN;obtain⟨r,hr⟩:=e_ (may x);rw[<-hr]at xN;obtain⟨Fw,CF,Ju,Zi⟩:=zh4 yU Sy zb (hA.kept xE);have TH:=wP (show∀a,A=some a->0<x.n->a.block<w3.heap.size from fun a ha h0=>by
    obtain⟨a',e,BE⟩:=hA.kept xE h0;rw[ha]at e;injection e with e;subst e;have:=World.block_lt_of_cell? _ _ (BE 0 h0);have Iq:(a.add 0).block=a.block:=by unfold Addr.add;split<;>rfl
    rwa [Iq]at this)
   obtain⟨Np,YM⟩:=zh2 xN (AD.o.trans (xE.mono Ri));have JI:(k:Int)<(n:Int):=o_;have zy:=xE.size;clear yU Sy zb hx xN hA MX FQ;go_upto_region 9 with(fail);rw[<-Fw.o];clear c0 c1 c2 c3 c4 c5 c6;have x0:w3.cell? ⟨wr.heap.size,0,none⟩=some (.string x.path):=aa CF.o 0;have x1:w3.cell? ⟨wr.heap.size,1,none⟩=some (.int .u8 (x.kind:Int)):=aa CF.o 1;have x2:w3.cell? ⟨wr.heap.size,2,none⟩=some (.int .u16 (x.mode:Int)):=aa CF.o 2;have x3:w3.cell? ⟨wr.heap.size,3,none⟩=some (.int .u32 (x.uid:Int)):=aa CF.o 3;have x4:w3.cell? ⟨wr.heap.size,4,none⟩=some (.int .u32 (x.gid:Int)):=aa CF.o 4;have x5:w3.cell? ⟨wr.heap.size,5,none⟩=some (.slice A x.n c):=aa CF.o 5;have x6:w3.cell? ⟨wr.heap.size,6,none⟩=some (.string x.to):=aa CF.o 6;by_cases DR:r=0
   rotate_left
   ·have xA:(r != 0)=true:=(by rw[bne_iff_ne];exact DR);obtain⟨AJ,Gf⟩:=zh2 (show newM [aD] 0 l=(r,(k:Int),F) by rw[Ai.o,Ju.o,fD (by rw[rM (by rw[<-hr];exact DR)];show may x≠0;rw[<-hr];exact DR),rM (by rw[<-hr];exact DR),hr]) DR;clear hr DR;go_wp2_with (first
     |(go_at_call 41;refine(Np.o).mono ?_;rintro e w4⟨rfl,yG⟩)
     |fail)
    go_ret3;exact dw.stop (by rw[<-Gh.o];exact CD) AJ.o Gf.o (YM.o.trans (yG.mono o_))
   have GS:may x=0:=(by rw[<-hr];exact DR);subst DR;have Yv:=wP GS;clear hr GS;go_upto_region 12 with(first
    |(go_at_call 41;refine(Np.o).mono ?_;rintro e w4⟨rfl,yG⟩)
    |fail)
   have CE:Hid (BoxE w4 wr.heap.size x A c):=wP ((yG.block _ UK).trans CF.o);have hx4l:wr.heap.size<w4.heap.size:=wW UK yG.size;have CU:=yG.size;clear x0 x1 x2 x3 x4 x5 x6;have x0:w4.cell? ⟨wr.heap.size,0,none⟩=some (.string x.path):=aa CE.o 0;obtain⟨Tv,Ax⟩:=zh2 (YM.o.trans (yG.mono o_)) yG;clear yG;have Zu:=eX Yv.o;have hxn:x.n<=65536:=o_;have Kk:=bd x.path;have Al:=(dv Zu.2.2.2.1).2.1;have Kl:=od x.path w4 Zu.2.2.2.1;unfold cE at Kl;obtain⟨pb,hpb⟩:=e_ (Lib.hasPrefix x.path.data.toList [47]);rw[<-hpb]at Kl;obtain⟨T,hT⟩:=e_ (ar x.path);rw[<-hT]at Kl Kk;obtain⟨m,hm⟩: ∃m,m+1=T.length:=⟨T.length-1,by
    have h9:T≠[]:=(by rw[hT];exact Zu.2.2.2.2.2.1);have:=List.length_pos_iff.2 h9;omega⟩
   rw[<-hm]at Kl;have Ba:m+1<=201:=o_;obtain⟨Lm,HM,HT⟩:=zh3 Kl hm hT;obtain⟨d1,Lc⟩:=e_ (atM F 0 T);obtain⟨d2,MC⟩:=e_ (atM F 0 T.dropLast);have yH: ∀W A1 xt base,Below w4.heap.size w4 W->OwnS W base A1 xt T->m+1<=xt->Calls prog 43 #[.pointer (some ⟨w.heap.size,0,none⟩),.slice A1 (m+1) xt] W fun e w'=>e= .returned (.int .i64 (optI d1))/\W=w':=fun W A1 xt base hW hO hc=>by
    rw[Lc];exact uF w.heap.size w.heap.size cp (m+1) xt R A1 L F T W ((HF.o.kept (xE.trans (Ax.o.mono o_))).kept hW) Tr.o (by have:=DD.o;omega) (by have:=DD.o;omega) (by have h9:=hO.texts T.length;rwa [List.take_length]at h9) hm.symm hc o_
   have yn: ∀W A1 xt base,Below w4.heap.size w4 W->OwnS W base A1 xt T->m+1<=xt->Calls prog 43 #[.pointer (some ⟨w.heap.size,0,none⟩),.slice A1 m xt] W fun e w'=>e= .returned (.int .i64 (optI d2))/\W=w':=fun W A1 xt base hW hO hc=>by
    rw[MC];have hdl:T.dropLast.length=m:=(by rw[List.length_dropLast];omega);exact uF w.heap.size w.heap.size cp m xt R A1 L F T.dropLast W ((HF.o.kept (xE.trans (Ax.o.mono o_))).kept hW) Tr.o (by have:=DD.o;omega) (by have:=DD.o;omega) (by have h9:=hO.texts m;rwa [show T.take m=T.dropLast by rw[List.dropLast_eq_take];congr 1;omega]at h9) hdl o_ o_
   obtain⟨Fg,Ez,Od,ZW⟩:=zh4 yH yn Lc MC;clear Zu Kk Al Kl hpb hT hm yH yn Lc MC;go_upto_region 13 with(first
    |(go_at_call 42;refine(Lm.o).mono ?_;rintro e w5⟨A1,xt,rfl,NV,zJ⟩;obtain⟨Dr,CH⟩:=zh2 NV zJ;clear NV zJ)
    |fail)
   have Iw:=CH.o.size;obtain⟨g5,Wy,hg51,hg52,WB⟩: ∃g,A1=some ⟨g,0,none⟩/\w4.heap.size<=g/\g<w5.heap.size/\m+1<=xt:=by
    rcases Dr.o.form with⟨_,e,_⟩|⟨g,e1,e2,e3,e4⟩
    ·exfalso;have:=HM.o;rw[e]at this;cases this
    ·exact⟨g,e1,e2,e3,by have:=HM.o;omega⟩
   subst Wy;obtain⟨Fe,zU⟩:=zh2 (Fg.o w5 _ xt _ CH.o Dr.o WB) (Ez.o w5 _ xt _ CH.o Dr.o WB);have Gb:Hid (BoxE w5 wr.heap.size x A c):=wP ((CH.o.block _ hx4l).trans CE.o);clear x0 Fg Ez;obtain⟨v1,GB⟩:=e_ (optI d1);obtain⟨v2,KU⟩:=e_ (optI d2);rw[<-GB]at Fe;rw[<-KU]at zU;have Ny:=wP (Tv.o.trans (CH.o.mono o_));cases d1 with
   |some j=>
    have Zy:(0:Int)<=v1:=(by rw[GB];show(0:Int)<=(j:Int);omega);have AJ:=wP (show newM [aD] 0 l=(7,(k:Int),F) by
     have h9:=mg Yv.o (show atM F 0 (ar x.path)=some j by rw[<-HT.o];exact Od.o.symm);rw[Ai.o,Ju.o,fD (by rw[h9];show(_ :Int)≠0;simp),h9])
    clear GB KU;go_wp2_with (first
     |(go_at_call 43;refine(Fe.o).mono ?_;rintro e w6⟨rfl,rfl⟩)
     |fail)
    go_ret3;exact dw.stop (by rw[<-Gh.o];exact CD) AJ.o d_ Ny.o
   |none=>
   have hv1':v1= -1:=GB;subst hv1';clear GB;cases d2 with
   |none=>
    have Rn:v2= -1:=KU;subst Rn;have AJ:=wP (show newM [aD] 0 l=(3,(k:Int),F) by
     have h9:=mh Yv.o (show atM F 0 (ar x.path)=none by rw[<-HT.o];exact Od.o.symm) (show atM F 0 (ar x.path).dropLast=none by rw[<-HT.o];exact ZW.o.symm);rw[Ai.o,Ju.o,fD (by rw[h9];show(_ :Int)≠0;simp),h9])
    clear KU;have hmc:(m:Int)<=(xt:Int):=o_;go_upto_region 15 with(first
     |(go_at_call 43;refine(Fe.o).mono ?_;rintro e w6⟨rfl,rfl⟩)
     |fail)
    go_wp2_with (first
     |(go_at_call 43;refine(zU.o).mono ?_;rintro e w6⟨rfl,rfl⟩)
     |fail)
    go_ret3;exact dw.stop (by rw[<-Gh.o];exact CD) AJ.o d_ Ny.o
   |some up=>
   have Rn:v2=(up:Int):=KU;subst Rn;clear KU;have AE:=vZ _ Hu.o.pos ZW.o.symm;obtain⟨y,hy⟩: ∃y,F[up]? =some y:=⟨_,wV AE⟩;have La:=gQ hy;have NA:=wP ((HF.o.kept (xE.trans (Ax.o.mono o_))).kept CH.o);obtain⟨ry,gR,Vn,Vm,hRg,hgRl,hRcap,MF⟩:=NA.o.at hy;have PW:=NA.o.len;have Xz:=DD.o;obtain⟨N,hN⟩:=e_ F.length;have q5:w5.cell? ⟨w.heap.size,0,none⟩=some (.slice R N cp):=(by rw[hN,<-PW];exact aa NA.o.self 0);have qf5:=ae NA.o.self 0;have r5:w5.cell? ⟨gR,up*9,none⟩=some (.int .u8 (y.kind:Int)):=by
    have h9:=MF 0 o_;rw[Nat.add_zero]at h9;rw[h9,<-Vm];rfl
   subst hRg;have hupN:up<N:=o_;have hNc:N<=cp:=o_;have hupI:(up:Int)<(N:Int):=o_;have hmc:(m:Int)<=(xt:Int):=o_;obtain⟨HKI,CG,HYY⟩:=zh3 La hN hy;clear AE Vn Vm MF PW Xz La hN hy;by_cases Ec:y.kind=2
   rotate_left
   ·have xA:((y.kind:Int) != 2)=true:=(by rw[bne_iff_ne];omega);have AJ:=wP (show newM [aD] 0 l=(8,(k:Int),F) by
     have h9:=lq Yv.o (show atM F 0 (ar x.path)=none by rw[<-HT.o];exact Od.o.symm) (show atM F 0 (ar x.path).dropLast=some up by rw[<-HT.o];exact ZW.o.symm) (by rw[HKI.o];exact Ec);rw[Ai.o,Ju.o,fD (by rw[h9];show(_ :Int)≠0;simp),h9])
    clear Ec;go_upto_region 15 with(first
     |(go_at_call 43;refine(Fe.o).mono ?_;rintro e w6⟨rfl,rfl⟩)
     |fail)
    go_wp2_with (first
     |(go_at_call 43;refine(zU.o).mono ?_;rintro e w6⟨rfl,rfl⟩)
     |fail)
    go_ret3;exact dw.stop (by rw[<-Gh.o];exact CD) AJ.o d_ Ny.o
   have hkE:((y.kind:Int) != 2)=false:=(by rw[Ec];rfl);have It:=wP Ec;clear Ec;go_upto_region 15 with(first
     |(go_at_call 43;refine(Fe.o).mono ?_;rintro e w6⟨rfl,rfl⟩)
     |fail)
   go_upto_region 20 with(first
     |(go_at_call 43;refine(zU.o).mono ?_;rintro e w6⟨rfl,rfl⟩)
     |fail)
   obtain⟨t,ht,htL,htD⟩:=oJ HM.o;have g5m:w5.cell? ⟨g5,m,none⟩=some (.string t):=OwnS.elem Dr.o ht;have l1:w.heap.size<w5.heap.size:=(wO NA.o.self).1;have Kg:wr.heap.size<w5.heap.size:=(wO Gb.o).1;have x1:w5.cell? ⟨wr.heap.size,1,none⟩=some (.int .u8 (x.kind:Int)):=aa Gb.o 1;have x2:w5.cell? ⟨wr.heap.size,2,none⟩=some (.int .u16 (x.mode:Int)):=aa Gb.o 2;have x3:w5.cell? ⟨wr.heap.size,3,none⟩=some (.int .u32 (x.uid:Int)):=aa Gb.o 3;have x4:w5.cell? ⟨wr.heap.size,4,none⟩=some (.int .u32 (x.gid:Int)):=aa Gb.o 4;have x5:w5.cell? ⟨wr.heap.size,5,none⟩=some (.slice A x.n c):=aa Gb.o 5;have x6:w5.cell? ⟨wr.heap.size,6,none⟩=some (.string x.to):=aa Gb.o 6;obtain⟨HTL,Oe⟩:=zh2 htL (oo A x.n c x.dat w5.drew o_ ((Zi.o.kept (Ax.o.trans (CH.o.mono o_))).kept (xp _ _).drew) (fun a ha h0=>by have h9:=TH.o a ha h0;show a.block<w5.heap.size;omega));have NR:Hid (some w.heap.size≠(some (⟨gR,0,none⟩:Addr)).map (·.block)):=wP (fun e=>by
    simp only[Option.map_some,Option.some.injEq]at e;exact NA.o.ne (by rw[e]))
   have hmm1:(m:Int)<(m:Int)+1:=o_;have hmcap:m<xt:=o_;have VU:IntKind.i64.wrap (m:Int)=(m:Int):=(by rw[IntKind.wrap_i64];omega);have hm00:(0:Int)<=(m:Int):=o_;have HNL:Hid (N=L.length):=wP (by rw[CG.o];exact NA.o.len.symm);have hNf:N<=65:=(by have:=CG.o;have:=DD.o;omega);have hgRw:=(HF.o.row.lt gR rfl).2;have nx:wr.heap.size≠gR:=o_;have ng:g5≠gR:=o_;have nxq:wr.heap.size≠w.heap.size:=(by have:=(wO HF.o.self).1;omega);have ngq:g5≠w.heap.size:=o_;have nq:w.heap.size≠gR:=fun e=>NA.o.ne (by rw[e]);clear Fe zU ht htL htD r5;refine ka (fun w'=>w'.cell? ⟨wr.heap.size,1,none⟩=some (.int .u8 (x.kind:Int))/\w'.cell? ⟨wr.heap.size,2,none⟩=some (.int .u16 (x.mode:Int))/\w'.cell? ⟨wr.heap.size,3,none⟩=some (.int .u32 (x.uid:Int))/\w'.cell? ⟨wr.heap.size,4,none⟩=some (.int .u32 (x.gid:Int))/\w'.cell? ⟨wr.heap.size,5,none⟩=some (.slice A x.n c)/\w'.cell? ⟨wr.heap.size,6,none⟩=some (.string x.to)/\w'.cell? ⟨w.heap.size,0,none⟩=some (.slice (some ⟨gR,0,none⟩) N cp)/\w'.cell? ⟨g5,m,none⟩=some (.string t)) 34 k_ (dS.of 14 k_ k_) ⟨x1,x2,x3,x4,x5,x6,q5,g5m⟩ ?_;intro Uz Jg;refine zt 0 ?_;refine zt 1 ?_;refine zt 2 ?_;refine zt 3 ?_;refine zt 4 ?_;refine zt 5 ?_;refine zt 6 ?_;refine zt 7 ?_;refine zt 8 ?_;refine zt 9 ?_;refine zt 10 ?_;refine zt 11 ?_;refine zt 12 ?_;refine zt 13 ?_;refine zt 14 ?_;refine zt 15 ?_;refine zt 16 ?_;refine zt 17 ?_;refine zt 18 ?_;refine zt 19 ?_;refine zt 20 ?_;refine zt 21 ?_;refine zt 22 ?_;refine zt 23 ?_;refine zt 24 ?_;refine zt 25 ?_;refine zt 27 ?_;refine zt 28 ?_;refine bQ 26 k_ rfl (fun K' hK=>?_)
   go_simp
   go_at_call 44;refine(Oe.o).mono ?_;rintro e w7⟨A7,zC,rfl,Fq,hL7,Bu⟩;have At:Below w5.heap.size w5 w7:=(xp w5.heap.size w5).drew.trans Bu;have q7:=(At.cell (p:=⟨w.heap.size,0,none⟩) l1).trans q5;have y1:=(At.cell (p:=⟨wr.heap.size,1,none⟩) Kg).trans x1;have y2:=(At.cell (p:=⟨wr.heap.size,2,none⟩) Kg).trans x2;have y3:=(At.cell (p:=⟨wr.heap.size,3,none⟩) Kg).trans x3;have y4:=(At.cell (p:=⟨wr.heap.size,4,none⟩) Kg).trans x4;have y5:=(At.cell (p:=⟨wr.heap.size,5,none⟩) Kg).trans x5;have y6:=(At.cell (p:=⟨wr.heap.size,6,none⟩) Kg).trans x6;have g7m:=(At.cell (p:=⟨g5,m,none⟩) hg52).trans g5m;obtain⟨Kb,QM⟩:=zh2 Fq hL7;clear Fq hL7;go_wp2_with fail;refine hK.out _ _ ⟨y1,y2,y3,y4,y5,y6,q7,g7m⟩ (fun Jg=>?_);clear hK K'
   try simp only[Act.put,List.setIfInBounds_toArray,List.set_cons_zero,List.set_cons_succ,List.getElem_toArray,List.getElem_cons_succ,List.getElem_cons_zero]
   refine zt 29 ?_;refine bQ 30 k_ rfl (fun K' hK=>?_)
   go_simp
   have lx:wr.heap.size<w7.heap.size:=(by have:=At.size;omega);have l7:w.heap.size<w7.heap.size:=(by have:=At.size;omega);have lg:g5<w7.heap.size:=(by have:=At.size;omega);have Dz: ∀b i v o,b<w7.heap.size->w7.cell? ⟨b,i,none⟩=some v->(w7.alloc o).cell? ⟨b,i,none⟩=some v:=fun b i v o h1 h2=>(((xp w7.heap.size w7).alloc (wS _) o).cell (p:=⟨b,i,none⟩) h1).trans h2;refine hK.out _ _ ⟨Dz _ _ _ _ lx y1,Dz _ _ _ _ lx y2,Dz _ _ _ _ lx y3,Dz _ _ _ _ lx y4,Dz _ _ _ _ lx y5,Dz _ _ _ _ lx y6,Dz _ _ _ _ l7 q7,Dz _ _ _ _ lg g7m⟩ (fun Jg=>?_);clear hK K'
   try simp only[Act.put,List.setIfInBounds_toArray,List.set_cons_zero,List.set_cons_succ,List.getElem_toArray,List.getElem_cons_succ,List.getElem_cons_zero]
   refine bQ 31 k_ rfl (fun K' hK=>?_);refine mt pW (by rfl) (.tmp 82) (.tmp 108) (by rfl) w.heap.size (some ⟨gR,0,none⟩) cp N L HNL.o (by rfl) ((NA.o.kept At).row.alloc _) ⟨bB x up t,A7,zC⟩ w7.heap.size 1 (by rfl) (ab w7 _) o_ (by have:=At.size;simp;omega) ?_;intro g8 OZ w8 EN Gp OQ IT;have z8:=(Gp.cell_far ⟨w.heap.size,0,none⟩ (by have:=At.size;simp;omega) NR.o).trans (Dz _ _ _ _ l7 q7);have hz57:=At.size;have yb: ∀b i v,b<w7.heap.size->b≠gR->w7.cell? ⟨b,i,none⟩=some v->w8.cell? ⟨b,i,none⟩=some v:=(fun b i v h1 h2 h3=>(Gp.cell_far ⟨b,i,none⟩ t_ t_).trans (Dz _ _ _ _ h1 h3));have zf8:=(Gp.frozen_far ⟨w.heap.size,0,none⟩ (by have:=At.size;simp;omega) NR.o).trans ((((xp w7.heap.size w7).alloc (wS _) _).frozen (p:=⟨w.heap.size,0,none⟩) l7).trans ((At.frozen (p:=⟨w.heap.size,0,none⟩) l1).trans qf5));refine hK.out _ _ ⟨yb _ _ _ lx nx y1,yb _ _ _ lx nx y2,yb _ _ _ lx nx y3,yb _ _ _ lx nx y4,yb _ _ _ lx nx y5,yb _ _ _ lx nx y6,yb _ _ _ l7 nq q7,yb _ _ _ lg ng g7m⟩ (fun Jg=>?_);clear hK K'
   try simp only[Act.put,List.setIfInBounds_toArray,List.set_cons_zero,List.set_cons_succ,List.getElem_toArray,List.getElem_cons_succ,List.getElem_cons_zero]
   refine zt 32 ?_;refine zt 33 ?_;refine cw 34 k_ rfl rfl (fun K' hK=>?_)
   go_simp
   refine hK.out _ _ ?_;clear hK K';refine cx k_ ?_ _
   all_goals
    have Hp:=(NA.o.kept At).kept ((xp w7.heap.size w7).alloc (wS _) (.cells (ndC ⟨bB x up t,A7,zC⟩).toArray 105));have hF9:=Hp.grow (r:=⟨bB x up t,A7,zC⟩) (Kb.o.keep fun g cs f hg=>wT _ _ _ (wO hg).1) (fun x hx=>xn Ny.o.size (QM.o x hx)) EN Gp OQ;rw[<-HNL.o]at hF9;have TJ:=At.size;have hgRb:=NA.o.row.formS.1;have Gq:Below w.heap.size w (w8.setCell ⟨w.heap.size,0,none⟩ (.slice (some ⟨g8,0,none⟩) (N+1) OZ)):=(((Ny.o.trans (At.mono o_)).alloc o_ _).grown Gp t_ (fun b hb=>by simp at hb;omega)).setCell (wS _) _;obtain⟨HF9,HB9⟩:=zh2 hF9 Gq;have zA:=lr Yv.o (show atM F 0 (ar x.path)=none by rw[<-HT.o];exact Od.o.symm) (show atM F 0 (ar x.path).dropLast=some up by rw[<-HT.o];exact ZW.o.symm) (by rw[HKI.o];exact It.o);rw[<-HT.o,HTL.o]at zA;have DR:(addM F x).1=0:=(by rw[zA]);have HN9:=wP (show newM [aD] 0 l=newM (F++[bB x up t]) (k+1) (l.drop (k+1)) by rw[Ai.o,Ju.o,oA DR,zA]);have RC:=(nz Hu.o DR).1;have RS:=Tr.o.add Hu.o DR;rw[zA]at RC RS;obtain⟨HOK9,HIN9,HL9⟩:=zh3 (show FOk (F++[bB x up t])from RC) (show eJ (F++[bB x up t])from RS) (show(F++[bB x up t]).length=k+1+1 by rw[wU,DD.o];rfl);clear Hp hF9 Gq zA DR RC RS z8 zf8 q7 y1 y2 y3 y4 y5 y6 g7m EN Gp OQ x1 x2 x3 x4 x5 x6 q5 qf5 g5m;go_wp2_with fail;go_roundw
    case rel=>exact⟨k+1,_,_,OZ,_,o_,by go_num,HF9.o,HOK9.o,HIN9.o,HN9.o,HL9.o,HB9.o⟩
    case measure=>(simp[intOf];omega)
  ·obtain rfl:k=n:=o_;have AJ:=wP (show newM [aD] 0 l=(0,0,F) by rw[Ai.o,List.drop_of_length_le (by rw[Gh.o];exact wS _)];rfl);go_wp2_with fail;go_ret3;refine⟨?_,AD.o⟩;rw[if_neg (by rw[<-Gh.o];exact CD),AJ.o,if_neg s_];exact⟨_,R,cp,L,rfl,HF.o⟩
end
