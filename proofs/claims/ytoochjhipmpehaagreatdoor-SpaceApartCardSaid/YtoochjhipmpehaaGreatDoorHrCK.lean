/- The document's files in memory: copies of bytes, the nodes' row; -/
import Derived.Test.YtoochjhipmpehaaGreatDoorEqK
import Derived.Test.YtoochjhipmpehaaGreatDoorGaK
import Derived.Test.YtoochjhipmpehaaGreatDoorHaK
set_option linter.unusedVariables false
set_option linter.unusedSimpArgs false
set_option maxRecDepth 100000
set_option maxHeartbeats 2000000
namespace Go.Proofs.YtoochjhipmpehaaGreatDoor
section
open Go.RowKit Go.Sort
variable {w:World}
theorem aO.congr9 {b n:Nat} {d e:Nat->Nat} (h:aO w b n d) (he: ∀i,i<n->d i=e i):aO w b n e:=by
 unfold aO at h⊢;rw[h,bG (h:=fun i=> .int .u8 (e i:Int)) (fun i hi=>by rw[he i hi])]
def CopyPost (n:Nat) (d:Nat->Nat) (w:World) (e:Ending) (w':World):Prop:= ∃R cap,e= .returned (.slice R n cap)/\bX w' R n cap d/\(∀x,R=some x->w.heap.size<=x.block)/\Below w.heap.size w w'
theorem sP (A:Option Addr) (n c:Nat) (d:Nat->Nat) (w:World) (hn:n<=600000) (hA:au w A n d) (Qq: ∀x,A=some x->0<n->x.block<w.heap.size):
  Calls Tryz.prog 44 #[.slice A n c] w (CopyPost n d w):=by
 by_cases h0:n=0
 ·subst h0;clear hA Qq;go_enter Tryz.func44,Tryz.ntmps44;go_wp2_with fail;go_ret;exact⟨none,0,rfl,⟨(fun h=>by omega),(fun x hx=>by cases hx),vd _,fun _ =>⟨rfl,rfl⟩⟩,(fun x hx=>by cases hx),vz _ _⟩
 obtain⟨ad,rfl,vU⟩:=hA (by omega);have vH:=Qq ad rfl (by omega);have ya:ad.spot=none:=World.cell?_spot (by have:=vU 0 (by omega);simpa [Addr.add]using this);obtain⟨b,off,sp⟩:=ad;obtain rfl:sp=none:=ya;have Mc:b<w.heap.size:=vH;have Km: ∀j,j<n->w.cell? ⟨b,off+j,none⟩=some (.int .u8 (d j:Int)):=fun j hj=>by
  have:=vU j hj
  rwa [Addr.add_mid]at this
 have GK:=fun W=>iz n (by omega) W;obtain⟨g,hg⟩: ∃g,g=w.heap.size:=⟨_,rfl⟩;obtain⟨w1,yS⟩: ∃w1,w1=w.alloc (.cells (rowV n fun _ => .int .u8 0) 5):=⟨_,rfl⟩;have vD:Below w.heap.size w w1:=(by rw[yS];exact vc);have ze:aO w1 g n (fun _ =>0):=(by rw[yS,hg];exact ab w _);have Xh:g<w1.heap.size:=(uZ ze).1;have HC:=va Km;have DW:=va yS;have vJ:=va vD;have VI:=va ze;have HG:=va hg;have JM:0<n:=(by omega);have hnI: ¬(n:Int)=0:=(by omega);clear hA Qq vU Km vH yS vD ze h0 hg;go_enter Tryz.func44,Tryz.ntmps44;go_upto_region 4 with(fail);rw[<-DW.out,<-HG.out];clear GK;go_wp2_with fail;go_loopw [4] (fun i wr=> ∃k:Nat,k<=n/\i= .int .i64 ((k:Int)-1)/\aO wr g n (fun j=>if j<k then 0 else d j)/\Below w.heap.size w wr) (fun i _ =>(intOf i+1).toNat)
 case atStart=>exact⟨n,vd _,rfl,VI.out.congr9 fun i hi=>(by rw[if_pos hi]),vJ.out⟩
 case round=>
  obtain⟨k,hk,rfl,wj,hb⟩:=hrel;have By:=va wj;have HB:=va hb;clear wj hb;by_cases yJ:k=0
  ·subst yJ;go_wp2_with fail;go_ret;have hr:aO wr g n d:=By.out.congr9 fun i hi=>by rw[if_neg (Nat.not_lt_zero _)]
   refine⟨some ⟨g,0,none⟩,n,rfl,⟨hr.v,fun x hx=>?_,vd _,fun e=>by cases e⟩,fun x hx=>?_,HB.out⟩
   ·injection hx with hx;subst hx;exact⟨g,_,_,rfl,hr⟩
   ·injection hx with hx;subst hx;have:=HG.out;show w.heap.size<=g;omega
  ·obtain⟨m,rfl⟩: ∃m,k=m+1:=⟨k-1,by omega⟩;have e0:wr.cell? ⟨b,off+m,none⟩=some (.int .u8 (d m:Int)):=(HB.out.cell (p:=⟨b,off+m,none⟩) Mc).trans (HC.out m (by omega));have e1:wr.cell? ⟨g,m,none⟩=some (.int .u8 ((0:Nat):Int)):=by
    have:=aW By.out (show m<n by omega);simpa using this
   have e2:wr.frozen? ⟨g,m,none⟩=false:=ae By.out m;have PA:((m+1:Nat):Int)-1=(m:Int):=(by omega);have xy:aO (wr.setCell ⟨g,m,none⟩ (.int .u8 (d m:Int))) g n (fun j=>if j<m then 0 else d j):=by
    have h9:=By.out;unfold aO at h9⊢;rw[Joins.block_setCell (i:=m) h9 (.int .u8 (d m:Int)),dI];refine congrArg (fun r=>some (Obj.cells r 5 (0,0))) (bG fun i hi=>?_);by_cases e:i=m
    ·subst e;rw[af];show Value.int .u8 _ =Value.int .u8 ((if i<i then 0 else d i:Nat):Int);rw[if_neg (Nat.lt_irrefl _)]
    ·rw[ag _ _ e];show Value.int .u8 ((if i<m+1 then 0 else d i:Nat):Int)=Value.int .u8 ((if i<m then 0 else d i:Nat):Int);by_cases h:i<m
     ·rw[if_pos h,if_pos (by omega)]
     ·rw[if_neg h,if_neg (by omega)]
   have DX:=va xy;have hmn:(m:Int)<(n:Int):=(by omega);have hbs:Below w.heap.size w (wr.setCell ⟨g,m,none⟩ (.int .u8 (d m:Int))):=HB.out.trans ((aj (S:=fun b=>b=g) rfl m _).below (fun b hb=>by have:=HG.out;omega) HB.out.size);have HBS:=va hbs;have QP:=va PA;have Si:IntKind.i64.wrap ((m:Int)-1)=(m:Int)-1:=(by rw[IntKind.wrap_i64];omega);rw[QP.out];clear xy hbs PA;go_wp2_with fail;go_roundw
   case rel=>exact⟨m,by omega,rfl,DX.out,HBS.out⟩
   case measure=>(simp[intOf]<;>omega)
structure NdR where
 nd:Nd
 A:Option Addr
 c:Nat
def ndC (x:NdR):List Value:=[.int .u8 (x.nd.kind:Int), .int .u16 (x.nd.mode:Int), .int .u32 (x.nd.uid:Int), .int .u32 (x.nd.gid:Int), .int .i64 (x.nd.n:Int), .int .i64 (x.nd.up:Int), .string x.nd.name, .slice x.A x.nd.n x.c, .string x.nd.to]
theorem oO:Elem 99 105 9 88 (.agg #[.int .u8 0, .int .u16 0, .int .u32 0, .int .u32 0, .int .i64 0, .int .i64 0, .string ByteArray.empty, .slice none 0 0, .string ByteArray.empty]) ndC where
 und:=Tryz.underlying99
 info:=by kernel_rfl
 size:=rfl
 pos:=by omega
 small:=by omega
 len _ :=rfl
 one x v hv:=by
  simp only[ndC,List.mem_cons,List.not_mem_nil,or_false]at hv;rcases hv with rfl|rfl|rfl|rfl|rfl|rfl|rfl|rfl|rfl<;>rfl
structure fv (w:World) (base q:Nat) (R:Option Addr) (cap:Nat) (L:List NdR) (F:List Nd):Prop where
 map:L.map NdR.nd=F
 self:w.heap[q]? =some (.cells #[.slice R L.length cap] 101 (0,0))
 row:OwnG 105 9 ndC w base R cap L
 bytes: ∀r∈L,bX w r.A r.nd.n r.c r.nd.dat
 low:base<=q
 ne:R≠some ⟨q,0,none⟩
variable {base q cap:Nat} {R:Option Addr} {L:List NdR} {F:List Nd}
theorem fv.len (h:fv w base q R cap L F):L.length=F.length:=by rw[<-h.map,List.length_map]
theorem fv.kept {w':World} (h:fv w base q R cap L F) (hb:Below w.heap.size w w'):fv w' base q R cap L F:=
 ⟨h.map,(hb.block q (uZ h.self).1).trans h.self,h.row.kept hb,fun r hr=>(h.bytes r hr).keep fun g cs f hg=>hb.block g (uZ hg).1,h.low,h.ne⟩
theorem fv.at (h:fv w base q R cap L F) {i:Nat} {y:Nd} (hy:F[i]? =some y): ∃r g,L[i]? =some r/\r.nd=y/\R=some ⟨g,0,none⟩/\g<w.heap.size/\L.length<=cap/\ ∀j,j<9->w.cell? ⟨g,i*9+j,none⟩=(ndC r)[j]? :=by
 rw[<-h.map,vt]at hy;cases hr:L[i]? with
 |none=>rw[hr]at hy;cases hy
 |some r=>
  rw[hr]at hy;injection hy with hy;rcases h.row.form with⟨_,e,_⟩|⟨g,e,_,hl,hc⟩
  ·rw[e]at hr;simp at hr
  ·subst e;exact⟨r,g,rfl,hy,rfl,hl,hc,fun j hj=>h.row.cell oO hr j hj⟩
def optI:Option Nat->Int
 |some n=>(n:Int)
 |none=> -1
theorem su {a b:ByteArray} (h:a≠b):(a.toList==b.toList)=false:=by
 rw[vp];intro e;apply h;rw[ByteArray.toList_eq,ByteArray.toList_eq]at e;cases a with|mk a=>cases b with|mk b=>exact congrArg ByteArray.mk (Array.toList_inj.1 e)
theorem qU (base q cap d:Nat) (R:Option Addr) (L:List NdR) (F:List Nd) (x:ByteArray) (w:World) (h:fv w base q R cap L F) (h1:1<=F.length) (wb:F.length<=1000) (hd:d<=1000):
  Calls Tryz.prog 86 #[.pointer (some ⟨q,0,none⟩), .int .i64 (d:Int), .string x] w fun e w'=>e= .returned (.int .i64 (optI (cU (aH F d) x)))/\w=w':=by
 have q0:w.cell? ⟨q,0,none⟩=some (.slice R L.length cap):=aa h.self 0;have hlen:=h.len;rw[hlen]at q0;have H:=va h;obtain⟨res,vO⟩: ∃res,res=optI (cU (aH F d) x):=⟨_,rfl⟩;rw[<-vO];have wC:=va vO;clear h hlen vO;go_enter Tryz.func86,Tryz.ntmps86;go_wp2_with fail;go_loopw [7] (fun i wr=> ∃k:Nat,i= .int .i64 (k:Int)/\1<=k/\k<=F.length/\(∀j,j<k-> ¬gh F d x j)/\w=wr) (fun i _ =>F.length-(intOf i).toNat)
 case atStart=>exact⟨1,rfl,vd _,h1,(fun j hj hc=>by have:=hc.1;omega),rfl⟩
 case round=>
  obtain⟨k,rfl,If,hk,vW,rfl⟩:=hrel;have zy:=va vW;clear vW;by_cases vH:k<F.length
  ·obtain⟨y,hy⟩: ∃y,F[k]? =some y:=⟨F[k],vg vH⟩;obtain⟨r,g,hr,SJ,ZK,Xh,wY,vU⟩:=H.out.at hy;subst ZK;have c5:w.cell? ⟨g,k*9+5,none⟩=some (.int .i64 (y.up:Int)):=(by rw[vU 5 (by omega),<-SJ];rfl);have c6:w.cell? ⟨g,k*9+6,none⟩=some (.string y.name):=(by rw[vU 6 (by omega),<-SJ];rfl);have Pu:=H.out.len;have hkc:k<cap:=(by omega);have HY:=va hy;clear vU hr SJ hy Pu;by_cases hu:y.up=d
   ·have b1:((y.up:Int)==(d:Int))=true:=(by rw[beq_iff_eq,hu]);by_cases hx:y.name=x
    ·have hc:gh F d x k:=⟨by omega,y,HY.out,hu,hx⟩;have HRK:=va (show res=(k:Int) by rw[wC.out,oQ hc zy.out];rfl);have b2:(y.name.toList==x.toList)=true:=(by rw[hx];exact beq_self_eq_true _);clear hu hx hc;go_wp2_with fail;go_ret;exact⟨by rw[HRK.out];rfl,rfl⟩
    ·have yj:=va (show∀j,j<k+1-> ¬gh F d x j from fun j hj hc=>by
      by_cases e:j=k
      ·subst e;obtain⟨_,y',Jd,_,Jf⟩:=hc;rw[HY.out]at Jd;injection Jd with Jd;exact hx (Jd▸Jf)
      ·exact zy.out j (by omega) hc)
     have b2:(y.name.toList==x.toList)=false:=su hx;clear hu hx;go_wp2_with fail;go_roundw
     case rel=>exact⟨k+1,by go_num,by omega,by omega,yj.out,trivial⟩
     case measure=>(simp[intOf];omega)
   ·have yj:=va (show∀j,j<k+1-> ¬gh F d x j from fun j hj hc=>by
     by_cases e:j=k
     ·subst e;obtain⟨_,y',Jd,hu',_⟩:=hc;rw[HY.out]at Jd;injection Jd with Jd;exact hu (Jd▸hu')
     ·exact zy.out j (by omega) hc)
    have b1:((y.up:Int)==(d:Int))=false:=(by rw[vp];omega);clear hu;go_wp2_with fail;go_roundw
    case rel=>exact⟨k+1,by go_num,by omega,by omega,yj.out,trivial⟩
    case measure=>(simp[intOf];omega)
  ·obtain rfl:k=F.length:=(by omega);have HRK:=va (show res= -1 by rw[wC.out,jY zy.out];rfl);go_wp2_with fail;go_ret;exact⟨by rw[HRK.out];rfl,rfl⟩
def uH (w:World) (A:Option Addr) (l:List ByteArray):Prop:= ∀j x,l[j]? =some x-> ∃g,A=some ⟨g,0,none⟩/\w.cell? ⟨g,j,none⟩=some (.string x)
theorem OwnS.texts {A:Option Addr} {l:List ByteArray} (h:OwnS w base A cap l) (m:Nat):uH w A (l.take m):=fun j x hx=>by
 rw[List.getElem?_take]at hx;split at hx
 ·rcases h.form with⟨_,e,_⟩|⟨g,e,_⟩
  ·rw[e]at hx;simp at hx
  ·subst e;exact⟨g,rfl,h.elem hx⟩
 ·cases hx
theorem sQ (base q cap m c2:Nat) (R A:Option Addr) (L:List NdR) (F:List Nd) (l:List ByteArray) (w:World) (h:fv w base q R cap L F) (hD:ew F) (h1:1<=F.length) (wb:F.length<=1000) (hl:uH w A l) (hm:l.length=m) (vT:m<=c2) (xH:m<=1000):
  Calls Tryz.prog 43 #[.pointer (some ⟨q,0,none⟩), .slice A m c2] w fun e w'=>e= .returned (.int .i64 (optI (atM F 0 l)))/\w=w':=by
 have zW:=fun d x (hd:d<=1000)=>qU base q cap d R L F x w h h1 wb hd;have Wy:=va zW;have HL:=va hl;have HM:=va hm;have HD:=va hD;obtain⟨res,vO⟩: ∃res,res=atM F 0 l:=⟨_,rfl⟩;rw[<-vO];have wC:=va vO;clear zW hl hm h vO hD;go_enter Tryz.func43,Tryz.ntmps43;go_wp2_with fail;go_loopw [5,6] (fun v i wr=> ∃k:Nat,i= .int .i64 (k:Int)/\k<=m/\w=wr/\((∃u:Nat,v= .int .i64 (u:Int)/\u<F.length/\atM F u (l.drop k)=res)\/(v= .int .i64 (-1)/\res=none))) (fun _ i _ =>m-(intOf i).toNat)
 case atStart=>exact⟨0,rfl,vw _,rfl, .inl ⟨0,rfl,by omega,wC.out.symm⟩⟩
 case round=>
  obtain⟨k,rfl,hk,rfl,xo⟩:=hrel;rcases xo with⟨u,rfl,hu,wK⟩|⟨rfl,wK⟩
  ·have Cv:=va wK
   clear wK
   by_cases vH:k<m
   ·obtain⟨x,hx⟩: ∃x,l[k]? =some x:=⟨_,vg (by rw[HM.out];exact vH)⟩;obtain⟨g,rfl,vU⟩:=HL.out k x hx;have NL:l.drop k=x::l.drop (k+1):=by
     obtain⟨h2,h3⟩:=List.getElem?_eq_some_iff.1 hx;rw[<-h3];exact List.drop_eq_getElem_cons h2
    have wh:=Cv.out;rw[NL,HD.out.step u x]at wh;have HC:=va (Wy.out u x (by omega));have hkc:k<c2:=(by omega);have WW:(0:Int)<=(u:Int):=(by omega);cases zJ:cU (aH F u) x with
    |none=>
     rw[zJ]at wh HC;have CD:=va wh;clear wh NL hx zJ;go_wp2_with (first
      |(go_at_call 86;refine(HC.out).mono ?_;rintro e w1 ⟨rfl,rfl⟩)
      |fail)
     go_roundw
     case rel=>exact⟨k+1,by go_num,by omega,trivial, .inr ⟨rfl,CD.out.symm⟩⟩
     case measure=>(simp[intOf];omega)
    |some j=>
     rw[zJ]at wh HC;have CD:=va wh;have HJ:=va (bC (ei zJ)).1;clear wh NL hx zJ;go_wp2_with (first
      |(go_at_call 86;refine(HC.out).mono ?_;rintro e w1 ⟨rfl,rfl⟩)
      |fail)
     go_roundw
     case rel=>exact⟨k+1,by go_num,by omega,trivial, .inl ⟨j,rfl,HJ.out,CD.out⟩⟩
     case measure=>(simp[intOf];omega)
   ·obtain rfl:k=m:=(by omega);have HR:=va (show res=some u by rw[<-Cv.out,List.drop_eq_nil_of_le (by rw[HM.out];exact vd _)];rfl);go_wp2_with fail;go_ret;exact⟨by rw[HR.out];rfl,rfl⟩
  ·have HR:=va wK
   clear wK
   by_cases vH:k<m
   ·go_wp2_with fail;go_ret;exact⟨by rw[HR.out];rfl,rfl⟩
   ·obtain rfl:k=m:=(by omega);go_wp2_with fail;go_ret;exact⟨by rw[HR.out];rfl,rfl⟩
end
