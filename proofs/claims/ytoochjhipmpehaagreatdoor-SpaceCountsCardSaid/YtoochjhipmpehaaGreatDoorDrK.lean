/- The document's files in memory: copies of bytes, the nodes' row; The document's files: what an entry by itself may not be; The document's files: New. -/
import Derived.Test.YtoochjhipmpehaaGreatDoorEqK
import Derived.Test.YtoochjhipmpehaaGreatDoorGaK
import Derived.Test.YtoochjhipmpehaaGreatDoorHaK
import Derived.Deep.RegionLaw
set_option linter.unusedVariables false
set_option linter.unusedSimpArgs false
set_option maxRecDepth 100000
set_option maxHeartbeats 8000000
namespace Go.Proofs.YtoochjhipmpehaaGreatDoor
section
open Go.RowKit Go.Sort
variable {w:World}
theorem aP.congr9 {b n:Nat} {d e:Nat->Nat} (h:aP w b n d) (he: ∀i,i<n->d i=e i):aP w b n e:=by
 unfold aP at h⊢;rw[h,bm (h:=fun i=> .int .u8 (e i:Int)) (fun i hi=>by rw[he i hi])]
def CopyPost (n:Nat) (d:Nat->Nat) (w:World) (e:Ending) (w':World):Prop:= ∃R cap,e= .returned (.slice R n cap)/\bV w' R n cap d/\(∀x,R=some x->w.heap.size<=x.block)/\Below w.heap.size w w'
theorem th (A:Option Addr) (n c:Nat) (d:Nat->Nat) (w:World) (hn:n<=600000) (hA:av w A n d) (QE: ∀x,A=some x->0<n->x.block<w.heap.size):
  Calls Tryz.prog 44 #[.slice A n c] w (CopyPost n d w):=by
 by_cases h0:n=0
 ·subst h0;clear hA QE;go_enter Tryz.func44,Tryz.ntmps44;go_wp2_with fail;go_ret;exact⟨none,0,rfl,⟨(fun h=>by omega),(fun x hx=>by cases hx),vs _,fun _ =>⟨rfl,rfl⟩⟩,(fun x hx=>by cases hx),vO _ _⟩
 obtain⟨ad,rfl,wo⟩:=hA (by omega);have vW:=QE ad rfl (by omega);have yA:ad.spot=none:=World.cell?_spot (by have:=wo 0 (by omega);simpa [Addr.add]using this);obtain⟨b,off,sp⟩:=ad;obtain rfl:sp=none:=yA;have Mi:b<w.heap.size:=vW;have Kw: ∀j,j<n->w.cell? ⟨b,off+j,none⟩=some (.int .u8 (d j:Int)):=fun j hj=>by
  have:=wo j hj
  rwa [Addr.add_mid]at this
 have Ff:=fun W=>iq n (by omega) W;obtain⟨g,hg⟩: ∃g,g=w.heap.size:=⟨_,rfl⟩;obtain⟨w1,yV⟩: ∃w1,w1=w.alloc (.cells (rowV n fun _ => .int .u8 0) 5):=⟨_,rfl⟩;have vS:Below w.heap.size w w1:=(by rw[yV];exact vr);have zv:aP w1 g n (fun _ =>0):=(by rw[yV,hg];exact ab w _);have Uf:g<w1.heap.size:=(vo zv).1;have HC:=vp Kw;have Et:=vp yV;have vY:=vp vS;have VS:=vp zv;have HG:=vp hg;have JW:0<n:=(by omega);have hnI: ¬(n:Int)=0:=(by omega);clear hA QE wo Kw vW yV vS zv h0 hg;go_enter Tryz.func44,Tryz.ntmps44;go_upto_region 4 with(fail);rw[<-Et.out,<-HG.out];clear Ff;go_wp2_with fail;go_loopw [4] (fun i wr=> ∃k:Nat,k<=n/\i= .int .i64 ((k:Int)-1)/\aP wr g n (fun j=>if j<k then 0 else d j)/\Below w.heap.size w wr) (fun i _ =>(intOf i+1).toNat)
 case atStart=>exact⟨n,vs _,rfl,VS.out.congr9 fun i hi=>(by rw[if_pos hi]),vY.out⟩
 case round=>
  obtain⟨k,hk,rfl,wz,hb⟩:=hrel;have xz:=vp wz;have HB:=vp hb;clear wz hb;by_cases zc:k=0
  ·subst zc;go_wp2_with fail;go_ret;have hr:aP wr g n d:=xz.out.congr9 fun i hi=>by rw[if_neg (Nat.not_lt_zero _)]
   refine⟨some ⟨g,0,none⟩,n,rfl,⟨hr.v,fun x hx=>?_,vs _,fun e=>by cases e⟩,fun x hx=>?_,HB.out⟩
   ·injection hx with hx;subst hx;exact⟨g,_,_,rfl,hr⟩
   ·injection hx with hx;subst hx;have:=HG.out;show w.heap.size<=g;omega
  ·obtain⟨m,rfl⟩: ∃m,k=m+1:=⟨k-1,by omega⟩;have e0:wr.cell? ⟨b,off+m,none⟩=some (.int .u8 (d m:Int)):=(HB.out.cell (p:=⟨b,off+m,none⟩) Mi).trans (HC.out m (by omega));have e1:wr.cell? ⟨g,m,none⟩=some (.int .u8 ((0:Nat):Int)):=by
    have:=aL xz.out (show m<n by omega);simpa using this
   have e2:wr.frozen? ⟨g,m,none⟩=false:=ae xz.out m;have PK:((m+1:Nat):Int)-1=(m:Int):=(by omega);have yh:aP (wr.setCell ⟨g,m,none⟩ (.int .u8 (d m:Int))) g n (fun j=>if j<m then 0 else d j):=by
    have h9:=xz.out;unfold aP at h9⊢;rw[Joins.block_setCell (i:=m) h9 (.int .u8 (d m:Int)),cX];refine congrArg (fun r=>some (Obj.cells r 5 (0,0))) (bm fun i hi=>?_);by_cases e:i=m
    ·subst e;rw[af];show Value.int .u8 _ =Value.int .u8 ((if i<i then 0 else d i:Nat):Int);rw[if_neg (Nat.lt_irrefl _)]
    ·rw[ag _ _ e];show Value.int .u8 ((if i<m+1 then 0 else d i:Nat):Int)=Value.int .u8 ((if i<m then 0 else d i:Nat):Int);by_cases h:i<m
     ·rw[if_pos h,if_pos (by omega)]
     ·rw[if_neg h,if_neg (by omega)]
   have Ew:=vp yh;have hmn:(m:Int)<(n:Int):=(by omega);have hbs:Below w.heap.size w (wr.setCell ⟨g,m,none⟩ (.int .u8 (d m:Int))):=HB.out.trans ((aj (S:=fun b=>b=g) rfl m _).below (fun b hb=>by have:=HG.out;omega) HB.out.size);have HBS:=vp hbs;have Rh:=vp PK;have Sx:IntKind.i64.wrap ((m:Int)-1)=(m:Int)-1:=(by rw[IntKind.wrap_i64];omega);rw[Rh.out];clear yh hbs PK;go_wp2_with fail;go_roundw
   case rel=>exact⟨m,by omega,rfl,Ew.out,HBS.out⟩
   case measure=>(simp[intOf]<;>omega)
structure NdR where
 nd:Nd
 A:Option Addr
 c:Nat
def ndC (x:NdR):List Value:=[.int .u8 (x.nd.kind:Int), .int .u16 (x.nd.mode:Int), .int .u32 (x.nd.uid:Int), .int .u32 (x.nd.gid:Int), .int .i64 (x.nd.n:Int), .int .i64 (x.nd.up:Int), .string x.nd.name, .slice x.A x.nd.n x.c, .string x.nd.to]
theorem oI:Elem 99 105 9 88 (.agg #[.int .u8 0, .int .u16 0, .int .u32 0, .int .u32 0, .int .i64 0, .int .i64 0, .string ByteArray.empty, .slice none 0 0, .string ByteArray.empty]) ndC where
 und:=Tryz.underlying99
 info:=by kernel_rfl
 size:=rfl
 pos:=by omega
 small:=by omega
 len _ :=rfl
 one x v hv:=by
  simp only[ndC,List.mem_cons,List.not_mem_nil,or_false]at hv;rcases hv with rfl|rfl|rfl|rfl|rfl|rfl|rfl|rfl|rfl<;>rfl
structure fy (w:World) (base q:Nat) (R:Option Addr) (cap:Nat) (L:List NdR) (F:List Nd):Prop where
 map:L.map NdR.nd=F
 self:w.heap[q]? =some (.cells #[.slice R L.length cap] 101 (0,0))
 row:OwnG 105 9 ndC w base R cap L
 bytes: ∀r∈L,bV w r.A r.nd.n r.c r.nd.dat
 low:base<=q
 ne:R≠some ⟨q,0,none⟩
variable {base q cap:Nat} {R:Option Addr} {L:List NdR} {F:List Nd}
theorem fy.len (h:fy w base q R cap L F):L.length=F.length:=by rw[<-h.map,List.length_map]
theorem fy.kept {w':World} (h:fy w base q R cap L F) (hb:Below w.heap.size w w'):fy w' base q R cap L F:=
 ⟨h.map,(hb.block q (vo h.self).1).trans h.self,h.row.kept hb,fun r hr=>(h.bytes r hr).keep fun g cs f hg=>hb.block g (vo hg).1,h.low,h.ne⟩
theorem fy.at (h:fy w base q R cap L F) {i:Nat} {y:Nd} (hy:F[i]? =some y): ∃r g,L[i]? =some r/\r.nd=y/\R=some ⟨g,0,none⟩/\g<w.heap.size/\L.length<=cap/\ ∀j,j<9->w.cell? ⟨g,i*9+j,none⟩=(ndC r)[j]? :=by
 rw[<-h.map,vI]at hy;cases hr:L[i]? with
 |none=>rw[hr]at hy;cases hy
 |some r=>
  rw[hr]at hy;injection hy with hy;rcases h.row.form with⟨_,e,_⟩|⟨g,e,_,hl,hc⟩
  ·rw[e]at hr;simp at hr
  ·subst e;exact⟨r,g,rfl,hy,rfl,hl,hc,fun j hj=>h.row.cell oI hr j hj⟩
def optI:Option Nat->Int
 |some n=>(n:Int)
 |none=> -1
theorem sJ {a b:ByteArray} (h:a≠b):(a.toList==b.toList)=false:=by
 rw[vE];intro e;apply h;rw[ByteArray.toList_eq,ByteArray.toList_eq]at e;cases a with|mk a=>cases b with|mk b=>exact congrArg ByteArray.mk (Array.toList_inj.1 e)
theorem qW (base q cap d:Nat) (R:Option Addr) (L:List NdR) (F:List Nd) (x:ByteArray) (w:World) (h:fy w base q R cap L F) (h1:1<=F.length) (wC:F.length<=1000) (hd:d<=1000):
  Calls Tryz.prog 86 #[.pointer (some ⟨q,0,none⟩), .int .i64 (d:Int), .string x] w fun e w'=>e= .returned (.int .i64 (optI (cS (aG F d) x)))/\w=w':=by
 have q0:w.cell? ⟨q,0,none⟩=some (.slice R L.length cap):=aa h.self 0;have hlen:=h.len;rw[hlen]at q0;have H:=vp h;obtain⟨res,wi⟩: ∃res,res=optI (cS (aG F d) x):=⟨_,rfl⟩;rw[<-wi];have wP:=vp wi;clear h hlen wi;go_enter Tryz.func86,Tryz.ntmps86;go_wp2_with fail;go_loopw [7] (fun i wr=> ∃k:Nat,i= .int .i64 (k:Int)/\1<=k/\k<=F.length/\(∀j,j<k-> ¬gk F d x j)/\w=wr) (fun i _ =>F.length-(intOf i).toNat)
 case atStart=>exact⟨1,rfl,vs _,h1,(fun j hj hc=>by have:=hc.1;omega),rfl⟩
 case round=>
  obtain⟨k,rfl,Mj,hk,wE,rfl⟩:=hrel;have ze:=vp wE;clear wE;by_cases vW:k<F.length
  ·obtain⟨y,hy⟩: ∃y,F[k]? =some y:=⟨F[k],vv vW⟩;obtain⟨r,g,hr,Ta,ZM,Uf,xn,wo⟩:=H.out.at hy;subst ZM;have c5:w.cell? ⟨g,k*9+5,none⟩=some (.int .i64 (y.up:Int)):=(by rw[wo 5 (by omega),<-Ta];rfl);have c6:w.cell? ⟨g,k*9+6,none⟩=some (.string y.name):=(by rw[wo 6 (by omega),<-Ta];rfl);have PF:=H.out.len;have hkc:k<cap:=(by omega);have HY:=vp hy;clear wo hr Ta hy PF;by_cases hu:y.up=d
   ·have b1:((y.up:Int)==(d:Int))=true:=(by rw[beq_iff_eq,hu]);by_cases hx:y.name=x
    ·have hc:gk F d x k:=⟨by omega,y,HY.out,hu,hx⟩;have HRK:=vp (show res=(k:Int) by rw[wP.out,oK hc ze.out];rfl);have b2:(y.name.toList==x.toList)=true:=(by rw[hx];exact beq_self_eq_true _);clear hu hx hc;go_wp2_with fail;go_ret;exact⟨by rw[HRK.out];rfl,rfl⟩
    ·have yy:=vp (show∀j,j<k+1-> ¬gk F d x j from fun j hj hc=>by
      by_cases e:j=k
      ·subst e;obtain⟨_,y',Jo,_,Jq⟩:=hc;rw[HY.out]at Jo;injection Jo with Jo;exact hx (Jo▸Jq)
      ·exact ze.out j (by omega) hc)
     have b2:(y.name.toList==x.toList)=false:=sJ hx;clear hu hx;go_wp2_with fail;go_roundw
     case rel=>exact⟨k+1,by go_num,by omega,by omega,yy.out,trivial⟩
     case measure=>(simp[intOf];omega)
   ·have yy:=vp (show∀j,j<k+1-> ¬gk F d x j from fun j hj hc=>by
     by_cases e:j=k
     ·subst e;obtain⟨_,y',Jo,hu',_⟩:=hc;rw[HY.out]at Jo;injection Jo with Jo;exact hu (Jo▸hu')
     ·exact ze.out j (by omega) hc)
    have b1:((y.up:Int)==(d:Int))=false:=(by rw[vE];omega);clear hu;go_wp2_with fail;go_roundw
    case rel=>exact⟨k+1,by go_num,by omega,by omega,yy.out,trivial⟩
    case measure=>(simp[intOf];omega)
  ·obtain rfl:k=F.length:=(by omega);have HRK:=vp (show res= -1 by rw[wP.out,jS ze.out];rfl);go_wp2_with fail;go_ret;exact⟨by rw[HRK.out];rfl,rfl⟩
def uV (w:World) (A:Option Addr) (l:List ByteArray):Prop:= ∀j x,l[j]? =some x-> ∃g,A=some ⟨g,0,none⟩/\w.cell? ⟨g,j,none⟩=some (.string x)
theorem OwnS.texts {A:Option Addr} {l:List ByteArray} (h:OwnS w base A cap l) (m:Nat):uV w A (l.take m):=fun j x hx=>by
 rw[List.getElem?_take]at hx;split at hx
 ·rcases h.form with⟨_,e,_⟩|⟨g,e,_⟩
  ·rw[e]at hx;simp at hx
  ·subst e;exact⟨g,rfl,h.elem hx⟩
 ·cases hx
theorem ti (base q cap m c2:Nat) (R A:Option Addr) (L:List NdR) (F:List Nd) (l:List ByteArray) (w:World) (h:fy w base q R cap L F) (hD:ew F) (h1:1<=F.length) (wC:F.length<=1000) (hl:uV w A l) (hm:l.length=m) (wk:m<=c2) (xW:m<=1000):
  Calls Tryz.prog 43 #[.pointer (some ⟨q,0,none⟩), .slice A m c2] w fun e w'=>e= .returned (.int .i64 (optI (atM F 0 l)))/\w=w':=by
 have As:=fun d x (hd:d<=1000)=>qW base q cap d R L F x w h h1 wC hd;have WM:=vp As;have HL:=vp hl;have HM:=vp hm;have HD:=vp hD;obtain⟨res,wi⟩: ∃res,res=atM F 0 l:=⟨_,rfl⟩;rw[<-wi];have wP:=vp wi;clear As hl hm h wi hD;go_enter Tryz.func43,Tryz.ntmps43;go_wp2_with fail;go_loopw [5,6] (fun v i wr=> ∃k:Nat,i= .int .i64 (k:Int)/\k<=m/\w=wr/\((∃u:Nat,v= .int .i64 (u:Int)/\u<F.length/\atM F u (l.drop k)=res)\/(v= .int .i64 (-1)/\res=none))) (fun _ i _ =>m-(intOf i).toNat)
 case atStart=>exact⟨0,rfl,vL _,rfl, .inl ⟨0,rfl,by omega,wP.out.symm⟩⟩
 case round=>
  obtain⟨k,rfl,hk,rfl,xX⟩:=hrel;rcases xX with⟨u,rfl,hu,xi⟩|⟨rfl,xi⟩
  ·have EM:=vp xi
   clear xi
   by_cases vW:k<m
   ·obtain⟨x,hx⟩: ∃x,l[k]? =some x:=⟨_,vv (by rw[HM.out];exact vW)⟩;obtain⟨g,rfl,wo⟩:=HL.out k x hx;have NP:l.drop k=x::l.drop (k+1):=by
     obtain⟨h2,h3⟩:=List.getElem?_eq_some_iff.1 hx;rw[<-h3];exact List.drop_eq_getElem_cons h2
    have wH:=EM.out;rw[NP,HD.out.step u x]at wH;have HC:=vp (WM.out u x (by omega));have hkc:k<c2:=(by omega);have hu0:(0:Int)<=(u:Int):=(by omega);cases zY:cS (aG F u) x with
    |none=>
     rw[zY]at wH HC;have Eu:=vp wH;clear wH NP hx zY;go_wp2_with (first
      |(go_at_call 86;refine(HC.out).mono ?_;rintro e w1 ⟨rfl,rfl⟩)
      |fail)
     go_roundw
     case rel=>exact⟨k+1,by go_num,by omega,trivial, .inr ⟨rfl,Eu.out.symm⟩⟩
     case measure=>(simp[intOf];omega)
    |some j=>
     rw[zY]at wH HC;have Eu:=vp wH;have HJ:=vp (bA (eh zY)).1;clear wH NP hx zY;go_wp2_with (first
      |(go_at_call 86;refine(HC.out).mono ?_;rintro e w1 ⟨rfl,rfl⟩)
      |fail)
     go_roundw
     case rel=>exact⟨k+1,by go_num,by omega,trivial, .inl ⟨j,rfl,HJ.out,Eu.out⟩⟩
     case measure=>(simp[intOf];omega)
   ·obtain rfl:k=m:=(by omega);have HR:=vp (show res=some u by rw[<-EM.out,List.drop_eq_nil_of_le (by rw[HM.out];exact vs _)];rfl);go_wp2_with fail;go_ret;exact⟨by rw[HR.out];rfl,rfl⟩
  ·have HR:=vp xi
   clear xi
   by_cases vW:k<m
   ·go_wp2_with fail;go_ret;exact⟨by rw[HR.out];rfl,rfl⟩
   ·obtain rfl:k=m:=(by omega);go_wp2_with fail;go_ret;exact⟨by rw[HR.out];rfl,rfl⟩
end
section
open Go.RowKit Go.Sort
variable {L:List ByteArray} {q:Nat}
theorem dots_yes (h:L[q]? =some ⟨#[46,46]⟩):dots L=true:=by
 unfold dots;exact List.any_eq_true.2 ⟨_,vA h,rfl⟩
theorem dots_no (h: ∀j y,j<L.length->L[j]? =some y->y≠⟨#[46,46]⟩):dots L=false:=by
 unfold dots;rw[List.any_eq_false];intro x hx;obtain⟨j,hj,e⟩:=List.mem_iff_getElem.1 hx;have h1:=h j x hj (by rw[vv hj,e]);intro e2;apply h1;cases x with
 |mk d=>exact congrArg ByteArray.mk (eq_of_beq e2)
theorem aQ {y:ByteArray} (h:y≠⟨#[46,46]⟩):(y.toList==[46,46])=false:=by
 have h1:=sJ h;rw[ByteArray.toList_eq (ByteArray.mk #[46,46])]at h1;exact h1
def eu (L:List ByteArray) (q:Nat):Prop:= ∀j y,j<q->L[j]? =some y->y≠⟨#[46,46]⟩
theorem bR (h:dots L=false) (hq:L[q]? =some ⟨#[46,46]⟩):False:=by
 rw[dots_yes hq]at h;cases h
theorem tJ {m:Nat} (h:m<65536):(bits .and .u16 (m:Int) 2559 != (m:Int))=dn m:=by
 rw[show((2559:Int))=((2559:Nat):Int)from rfl,u16_and_nat m 2559 h (by omega)];cases hc:dn m with
 |false=>
  have:=(pV h).2 hc;rw[this];simp
 |true=>
  rw[bne_iff_ne];intro e;have e2:m&&&2559=m:=(by omega);rw[(pV h).1 e2]at hc;cases hc
theorem rmay_any (x:Ent) (A:Option Addr) (c:Nat) (w:World) (hp:x.path.size<=1000000000) (ht:x.to.size<=1000000000) (hn:x.n<=9223372036854775807) (hm:x.mode<65536):
  Calls Tryz.prog 41 #[x.val A c] w fun e w'=>e= .returned (.int .i64 (may x))/\Below w.heap.size w w':=by
 obtain⟨path,kind,mode,uid,gid,n,dat,lk⟩:=x;simp only at hp ht hn hm;obtain⟨K,Qv⟩: ∃K:Int,K=(kind:Int):=⟨_,rfl⟩;have XA:0<=K:=(by omega);obtain⟨w0,vT⟩: ∃w0,w0=w.alloc (.cells #[.string path, .int .u8 K, .int .u16 (mode:Int), .int .u32 (uid:Int), .int .u32 (gid:Int), .slice A n c, .string lk] 93):=⟨_,rfl⟩;have vU:Below w.heap.size w w0:=(by rw[vT];exact vr);have hE:w0.heap[w.heap.size]? =some (.cells #[.string path, .int .u8 K, .int .u16 (mode:Int), .int .u32 (uid:Int), .int .u32 (gid:Int), .slice A n c, .string lk] 93 (0,0)):=(by rw[vT];exact ab w _);have xr:w.heap.size<w0.heap.size:=(vo hE).1;have d0:w0.cell? ⟨w.heap.size,0,none⟩=some (.string path):=aa hE 0;have d1:w0.cell? ⟨w.heap.size,1,none⟩=some (.int .u8 K):=aa hE 1;have d2:w0.cell? ⟨w.heap.size,2,none⟩=some (.int .u16 (mode:Int)):=aa hE 2;have HE:=vp hE;have wD:=vp vT;clear hE vT;unfold Ent.val;simp only;rw[<-Qv];obtain⟨mb,ED⟩: ∃mb,mb=dn mode:=⟨_,rfl⟩;have CS:=tJ hm;rw[<-ED]at CS;obtain⟨ct,Iw⟩: ∃ct,ct=chk lk:=⟨_,rfl⟩;have As:=fun W=>lB lk W ht;rw[<-Iw]at As;have CY:=vp As;by_cases hc:chk path=0
 rotate_left
 ·obtain⟨mr,Hb⟩: ∃mr,mr=may ⟨path,kind,mode,uid,gid,n,dat,lk⟩:=⟨_,rfl⟩;have we:mr=1:=by
   rw[Hb];unfold may;simp only;split
   ·rfl
   ·rw[if_pos (.inl hc)]
  rw[<-Hb,we];have Wb:=vp (fun W=>qR path W hp hc);have wg:(chk path != 0)=true:=(by rw[bne_iff_ne];exact hc);obtain⟨r,hr⟩: ∃r,r=chk path:=⟨_,rfl⟩;rw[<-hr]at wg Wb;clear Hb we hc hr Qv Iw As ED;by_cases hk:K=1\/K=2\/K=3
  ·rcases(by cases mb<;>simp:mb=true\/mb=false)with rfl|rfl
   all_goals
    rcases hk with rfl|rfl|rfl
    all_goals
     go_enter Tryz.func41,Tryz.ntmps41;go_upto_region 1 with(fail);rw[<-wD.out];go_wp2_with (first
      |(go_at_call 42;refine(Wb.out _).mono ?_;rintro e w1 ⟨rfl,vS⟩;have vY:=vp (vU.trans (vS.mono vU.size));clear vS)
      |fail)
     go_ret
     first
      |exact⟨rfl,vU⟩
      |exact⟨rfl,vY.out⟩
  ·have k1:(K != 1)=true:=(by rw[bne_iff_ne];omega);have k2:(K != 2)=true:=(by rw[bne_iff_ne];omega);have k3:(K != 3)=true:=(by rw[bne_iff_ne];omega);clear hk;go_enter Tryz.func41,Tryz.ntmps41;go_upto_region 1 with(fail);rw[<-wD.out];go_wp2_with fail;go_ret;exact⟨rfl,vU⟩
 have DH:=da hc;have Tn:path.size<=200:=DH.2.1;obtain⟨L,hL⟩: ∃L,L=ar path:=⟨_,rfl⟩;obtain⟨k,hk⟩: ∃k,k=L.length:=⟨_,rfl⟩;have hkf:k<=201:=(by rw[hk,hL];have:=bd path;omega);obtain⟨pb,hpb⟩: ∃pb,pb=Lib.hasPrefix path.data.toList [47]:=⟨_,rfl⟩;obtain⟨tb,Nn⟩: ∃tb,tb=Lib.hasSuffix path.data.toList [47]:=⟨_,rfl⟩;obtain⟨db,Ay⟩: ∃db,db=dots L:=⟨_,rfl⟩;have FN:=fun W=>mU path W hc;unfold cf at FN;rw[<-hL,<-hpb,<-hk]at FN;have Pb:=fun W=>td path W (by omega);rw[<-Nn]at Pb;obtain⟨mr,Hb⟩: ∃mr,mr=may ⟨path,kind,mode,uid,gid,n,dat,lk⟩:=⟨_,rfl⟩;rw[<-Hb];have we:mr=if K<1\/3<K\/mb=true then 1 else if pb=false\/k=0\/tb=true\/db=true then 1
   else if(K≠1/\0<n)\/(K≠3/\lk.size≠0)then 1 else if K=3/\ct≠0 then 1 else if 65536<n then 12 else 0:=by
  have i1:(K<1)=(kind<1):=(by apply propext;omega);have i2:(3<K)=(3<kind):=(by apply propext;omega);have i3:(K=1)=(kind=1):=(by apply propext;omega);have i4:(K=3)=(kind=3):=(by apply propext;omega);rw[Hb,hpb,hk,Nn,Ay,Iw,hL,ED];simp only[i1,i2,i3,i4,ne_eq];unfold may;simp only[hc,ne_eq,not_true_eq_false,false_or,List.length_eq_zero_iff]
 have AE:=vp FN;have AD:=vp Pb;have HK:=vp hk;have EK:=vp Ay;clear FN Pb As Ay hpb Nn Iw Hb hk hL hc DH Qv ED;by_cases ya:K=1\/K=2\/K=3
 rotate_left
 ·have k1:(K != 1)=true:=(by rw[bne_iff_ne];omega);have k2:(K != 2)=true:=(by rw[bne_iff_ne];omega);have k3:(K != 3)=true:=(by rw[bne_iff_ne];omega);have Ir:K<1\/3<K\/mb=true:=(by omega);clear ya
  (
   have yz:mr=1:=(by rw[we,if_pos Ir]);rw[yz];clear we yz;go_enter Tryz.func41,Tryz.ntmps41;go_upto_region 1 with(fail);rw[<-wD.out];go_wp2_with fail;go_ret;exact⟨rfl,vU⟩)
 rcases(by cases mb<;>simp:mb=true\/mb=false)with rfl|rfl
 ·rcases ya with rfl|rfl|rfl
  all_goals(
   have yz:mr=1:=(by rw[we,if_pos (.inr (.inr rfl))]);rw[yz];clear we yz;go_enter Tryz.func41,Tryz.ntmps41;go_upto_region 1 with(fail);rw[<-wD.out];go_wp2_with fail;go_ret;exact⟨rfl,vU⟩)
 have n1: ¬(K<1\/3<K\/false=true):=(by simp;omega);rw[if_neg n1]at we;clear n1;rcases(by cases pb<;>simp:pb=false\/pb=true)with rfl|rfl
 ·rcases ya with rfl|rfl|rfl
  all_goals(
   have yz:mr=1:=(by rw[we,if_pos (.inl rfl)]);rw[yz];clear we yz;go_enter Tryz.func41,Tryz.ntmps41;go_upto_region 1 with(fail);rw[<-wD.out];go_wp2_with (first
   |(go_at_call 42;refine(AE.out _).mono ?_;rintro e w1 ⟨A1,vR,rfl,wZ,vS⟩;have vV:=(vS.block _ xr).trans HE.out;have f0:w1.cell? ⟨w.heap.size,0,none⟩=some (.string path):=aa vV 0;have f1:=aa vV 1;have f5:w1.cell? ⟨w.heap.size,5,none⟩=some (.slice A _ c):=aa vV 5;have xB:w.heap.size<w1.heap.size:=(vo vV).1;have f6:w1.cell? ⟨w.heap.size,6,none⟩=some (.string lk):=aa vV 6;have wu:=vp wZ;have vY:=vp (vU.trans (vS.mono vU.size));have wF:=vY.out.size;clear wZ vS vV)
   |(go_at_call 83;refine(AD.out _).mono ?_;rintro e w2 ⟨rfl,rfl⟩)
   |fail)
   go_ret;exact⟨rfl,vY.out⟩)
 by_cases c5:k=0
 ·subst c5;rcases ya with rfl|rfl|rfl
  all_goals(
   have yz:mr=1:=(by rw[we,if_pos (.inr (.inl rfl))]);rw[yz];clear we yz;go_enter Tryz.func41,Tryz.ntmps41;go_upto_region 1 with(fail);rw[<-wD.out];go_wp2_with (first
   |(go_at_call 42;refine(AE.out _).mono ?_;rintro e w1 ⟨A1,vR,rfl,wZ,vS⟩;have vV:=(vS.block _ xr).trans HE.out;have f0:w1.cell? ⟨w.heap.size,0,none⟩=some (.string path):=aa vV 0;have f1:=aa vV 1;have f5:w1.cell? ⟨w.heap.size,5,none⟩=some (.slice A _ c):=aa vV 5;have xB:w.heap.size<w1.heap.size:=(vo vV).1;have f6:w1.cell? ⟨w.heap.size,6,none⟩=some (.string lk):=aa vV 6;have wu:=vp wZ;have vY:=vp (vU.trans (vS.mono vU.size));have wF:=vY.out.size;clear wZ vS vV)
   |(go_at_call 83;refine(AD.out _).mono ?_;rintro e w2 ⟨rfl,rfl⟩)
   |fail)
   go_ret;exact⟨rfl,vY.out⟩)
 have zc: ¬(k:Int)=0:=(by omega);rcases(by cases tb<;>simp:tb=true\/tb=false)with rfl|rfl
 ·rcases ya with rfl|rfl|rfl
  all_goals(
   have yz:mr=1:=(by rw[we,if_pos (.inr (.inr (.inl rfl)))]);rw[yz];clear we yz;go_enter Tryz.func41,Tryz.ntmps41;go_upto_region 1 with(fail);rw[<-wD.out];go_wp2_with (first
   |(go_at_call 42;refine(AE.out _).mono ?_;rintro e w1 ⟨A1,vR,rfl,wZ,vS⟩;have vV:=(vS.block _ xr).trans HE.out;have f0:w1.cell? ⟨w.heap.size,0,none⟩=some (.string path):=aa vV 0;have f1:=aa vV 1;have f5:w1.cell? ⟨w.heap.size,5,none⟩=some (.slice A _ c):=aa vV 5;have xB:w.heap.size<w1.heap.size:=(vo vV).1;have f6:w1.cell? ⟨w.heap.size,6,none⟩=some (.string lk):=aa vV 6;have wu:=vp wZ;have vY:=vp (vU.trans (vS.mono vU.size));have wF:=vY.out.size;clear wZ vS vV)
   |(go_at_call 83;refine(AD.out _).mono ?_;rintro e w2 ⟨rfl,rfl⟩)
   |fail)
   go_ret;exact⟨rfl,vY.out⟩)
 rcases(by cases db<;>simp:db=true\/db=false)with rfl|rfl
 ·have yz:mr=1:=(by rw[we,if_pos (.inr (.inr (.inr rfl)))]);rw[yz];clear we yz;rcases ya with rfl|rfl|rfl
  all_goals
   (
   go_enter Tryz.func41,Tryz.ntmps41;go_upto_region 1 with(fail);rw[<-wD.out];go_upto_region 6 with(first
   |(go_at_call 42;refine(AE.out _).mono ?_;rintro e w1 ⟨A1,vR,rfl,wZ,vS⟩;have vV:=(vS.block _ xr).trans HE.out;have f0:w1.cell? ⟨w.heap.size,0,none⟩=some (.string path):=aa vV 0;have f1:=aa vV 1;have f5:w1.cell? ⟨w.heap.size,5,none⟩=some (.slice A _ c):=aa vV 5;have xB:w.heap.size<w1.heap.size:=(vo vV).1;have f6:w1.cell? ⟨w.heap.size,6,none⟩=some (.string lk):=aa vV 6;have wu:=vp wZ;have vY:=vp (vU.trans (vS.mono vU.size));have wF:=vY.out.size;clear wZ vS vV)
   |(go_at_call 83;refine(AD.out _).mono ?_;rintro e w2 ⟨rfl,rfl⟩)
   |fail)
   go_wp2_with fail;go_loopw [6] (fun i wr=> ∃q:Nat,i= .int .i64 (q:Int)/\q<=k/\eu L q/\w1=wr) (fun i _ =>k-(intOf i).toNat)
   case atStart=>exact⟨0,rfl,vL _,(fun j y hj=>by omega),rfl⟩
   case round=>
    obtain⟨q,rfl,hq,wE,rfl⟩:=hrel;have ze:=vp wE;clear wE;by_cases vW:q<k
    ·obtain⟨y,hy⟩: ∃y,L[q]? =some y:=⟨_,vv (by rw[<-HK.out];exact vW)⟩;rcases wu.out.form with⟨_,h2,_⟩|⟨g,yc,_,yi,AV⟩
     ·rw[h2]at hy;simp at hy
     subst yc;have wo:=wu.out.elem hy;have DG:q<vR:=(by have:=HK.out;omega);by_cases e:y=⟨#[46,46]⟩
     ·have Es:=vp (show L[q]? =some ⟨#[46,46]⟩from e▸hy);subst e;clear hy
      (go_wp2_with fail;go_ret;exact⟨rfl,vY.out⟩)
     ·have b1:(y.toList==[46,46])=false:=aQ e;have yy:=vp (show eu L (q+1)from fun j z hj hz=>by
       by_cases ej:j=q
       ·subst ej;rw[hy]at hz;injection hz with hz;exact hz▸e
       ·exact ze.out j z (by omega) hz)
      clear e hy;go_wp2_with fail;go_roundw
      case rel=>exact⟨q+1,by go_num,by omega,yy.out,trivial⟩
      case measure=>(simp[intOf];omega)
    ·obtain rfl:q=k:=(by omega);exact absurd (dots_no (fun j y hj hy=>ze.out j y (by rw[HK.out];exact hj) hy)) (by rw[<-EK.out];decide))
 have n2: ¬(true=false\/k=0\/false=true\/false=true):=(by simp;omega);rw[if_neg n2]at we;clear n2;rcases ya with rfl|rfl|rfl
 ·by_cases c8:lk.size=0
  rotate_left
  ·have t0:=ln c8
   (
   have yz:mr=1:=(by rw[we,if_pos (.inr ⟨by decide,c8⟩)]);rw[yz];clear we yz
   (
   go_enter Tryz.func41,Tryz.ntmps41;go_upto_region 1 with(fail);rw[<-wD.out];go_upto_region 6 with(first
   |(go_at_call 42;refine(AE.out _).mono ?_;rintro e w1 ⟨A1,vR,rfl,wZ,vS⟩;have vV:=(vS.block _ xr).trans HE.out;have f0:w1.cell? ⟨w.heap.size,0,none⟩=some (.string path):=aa vV 0;have f1:=aa vV 1;have f5:w1.cell? ⟨w.heap.size,5,none⟩=some (.slice A _ c):=aa vV 5;have xB:w.heap.size<w1.heap.size:=(vo vV).1;have f6:w1.cell? ⟨w.heap.size,6,none⟩=some (.string lk):=aa vV 6;have wu:=vp wZ;have vY:=vp (vU.trans (vS.mono vU.size));have wF:=vY.out.size;clear wZ vS vV)
   |(go_at_call 83;refine(AD.out _).mono ?_;rintro e w2 ⟨rfl,rfl⟩)
   |fail)
   go_wp2_with fail;go_loopw [6] (fun i wr=> ∃q:Nat,i= .int .i64 (q:Int)/\q<=k/\eu L q/\w1=wr) (fun i _ =>k-(intOf i).toNat)
   case atStart=>exact⟨0,rfl,vL _,(fun j y hj=>by omega),rfl⟩
   case round=>
    obtain⟨q,rfl,hq,wE,rfl⟩:=hrel;have ze:=vp wE;clear wE;by_cases vW:q<k
    ·obtain⟨y,hy⟩: ∃y,L[q]? =some y:=⟨_,vv (by rw[<-HK.out];exact vW)⟩;rcases wu.out.form with⟨_,h2,_⟩|⟨g,yc,_,yi,AV⟩
     ·rw[h2]at hy;simp at hy
     subst yc;have wo:=wu.out.elem hy;have DG:q<vR:=(by have:=HK.out;omega);by_cases e:y=⟨#[46,46]⟩
     ·have Es:=vp (show L[q]? =some ⟨#[46,46]⟩from e▸hy);subst e;clear hy;exact(bR EK.out.symm Es.out).elim
     ·have b1:(y.toList==[46,46])=false:=aQ e;have yy:=vp (show eu L (q+1)from fun j z hj hz=>by
       by_cases ej:j=q
       ·subst ej;rw[hy]at hz;injection hz with hz;exact hz▸e
       ·exact ze.out j z (by omega) hz)
      clear e hy;go_wp2_with fail;go_roundw
      case rel=>exact⟨q+1,by go_num,by omega,yy.out,trivial⟩
      case measure=>(simp[intOf];omega)
    ·obtain rfl:q=k:=by omega
     (go_wp2_with fail;go_ret;exact⟨rfl,vY.out⟩)))
  have t0:=iW c8;have n3: ¬(((1:Int)≠1/\0<n)\/((1:Int)≠3/\lk.size≠0)):=(by omega);rw[if_neg n3,if_neg (by omega)]at we;clear n3;by_cases c9:65536<n
  ·have Md:(65536:Int)<(n:Int):=by omega
   (
   have yz:mr=12:=(by rw[we,if_pos c9]);rw[yz];clear we yz
   (
   go_enter Tryz.func41,Tryz.ntmps41;go_upto_region 1 with(fail);rw[<-wD.out];go_upto_region 6 with(first
   |(go_at_call 42;refine(AE.out _).mono ?_;rintro e w1 ⟨A1,vR,rfl,wZ,vS⟩;have vV:=(vS.block _ xr).trans HE.out;have f0:w1.cell? ⟨w.heap.size,0,none⟩=some (.string path):=aa vV 0;have f1:=aa vV 1;have f5:w1.cell? ⟨w.heap.size,5,none⟩=some (.slice A _ c):=aa vV 5;have xB:w.heap.size<w1.heap.size:=(vo vV).1;have f6:w1.cell? ⟨w.heap.size,6,none⟩=some (.string lk):=aa vV 6;have wu:=vp wZ;have vY:=vp (vU.trans (vS.mono vU.size));have wF:=vY.out.size;clear wZ vS vV)
   |(go_at_call 83;refine(AD.out _).mono ?_;rintro e w2 ⟨rfl,rfl⟩)
   |fail)
   go_wp2_with fail;go_loopw [6] (fun i wr=> ∃q:Nat,i= .int .i64 (q:Int)/\q<=k/\eu L q/\w1=wr) (fun i _ =>k-(intOf i).toNat)
   case atStart=>exact⟨0,rfl,vL _,(fun j y hj=>by omega),rfl⟩
   case round=>
    obtain⟨q,rfl,hq,wE,rfl⟩:=hrel;have ze:=vp wE;clear wE;by_cases vW:q<k
    ·obtain⟨y,hy⟩: ∃y,L[q]? =some y:=⟨_,vv (by rw[<-HK.out];exact vW)⟩;rcases wu.out.form with⟨_,h2,_⟩|⟨g,yc,_,yi,AV⟩
     ·rw[h2]at hy;simp at hy
     subst yc;have wo:=wu.out.elem hy;have DG:q<vR:=(by have:=HK.out;omega);by_cases e:y=⟨#[46,46]⟩
     ·have Es:=vp (show L[q]? =some ⟨#[46,46]⟩from e▸hy);subst e;clear hy;exact(bR EK.out.symm Es.out).elim
     ·have b1:(y.toList==[46,46])=false:=aQ e;have yy:=vp (show eu L (q+1)from fun j z hj hz=>by
       by_cases ej:j=q
       ·subst ej;rw[hy]at hz;injection hz with hz;exact hz▸e
       ·exact ze.out j z (by omega) hz)
      clear e hy;go_wp2_with fail;go_roundw
      case rel=>exact⟨q+1,by go_num,by omega,yy.out,trivial⟩
      case measure=>(simp[intOf];omega)
    ·obtain rfl:q=k:=by omega
     (go_wp2_with fail;go_ret;exact⟨rfl,vY.out⟩)))
  ·have Md: ¬(65536:Int)<(n:Int):=by omega
   (
   have yz:mr=0:=(by rw[we,if_neg c9]);rw[yz];clear we yz
   (
   go_enter Tryz.func41,Tryz.ntmps41;go_upto_region 1 with(fail);rw[<-wD.out];go_upto_region 6 with(first
   |(go_at_call 42;refine(AE.out _).mono ?_;rintro e w1 ⟨A1,vR,rfl,wZ,vS⟩;have vV:=(vS.block _ xr).trans HE.out;have f0:w1.cell? ⟨w.heap.size,0,none⟩=some (.string path):=aa vV 0;have f1:=aa vV 1;have f5:w1.cell? ⟨w.heap.size,5,none⟩=some (.slice A _ c):=aa vV 5;have xB:w.heap.size<w1.heap.size:=(vo vV).1;have f6:w1.cell? ⟨w.heap.size,6,none⟩=some (.string lk):=aa vV 6;have wu:=vp wZ;have vY:=vp (vU.trans (vS.mono vU.size));have wF:=vY.out.size;clear wZ vS vV)
   |(go_at_call 83;refine(AD.out _).mono ?_;rintro e w2 ⟨rfl,rfl⟩)
   |fail)
   go_wp2_with fail;go_loopw [6] (fun i wr=> ∃q:Nat,i= .int .i64 (q:Int)/\q<=k/\eu L q/\w1=wr) (fun i _ =>k-(intOf i).toNat)
   case atStart=>exact⟨0,rfl,vL _,(fun j y hj=>by omega),rfl⟩
   case round=>
    obtain⟨q,rfl,hq,wE,rfl⟩:=hrel;have ze:=vp wE;clear wE;by_cases vW:q<k
    ·obtain⟨y,hy⟩: ∃y,L[q]? =some y:=⟨_,vv (by rw[<-HK.out];exact vW)⟩;rcases wu.out.form with⟨_,h2,_⟩|⟨g,yc,_,yi,AV⟩
     ·rw[h2]at hy;simp at hy
     subst yc;have wo:=wu.out.elem hy;have DG:q<vR:=(by have:=HK.out;omega);by_cases e:y=⟨#[46,46]⟩
     ·have Es:=vp (show L[q]? =some ⟨#[46,46]⟩from e▸hy);subst e;clear hy;exact(bR EK.out.symm Es.out).elim
     ·have b1:(y.toList==[46,46])=false:=aQ e;have yy:=vp (show eu L (q+1)from fun j z hj hz=>by
       by_cases ej:j=q
       ·subst ej;rw[hy]at hz;injection hz with hz;exact hz▸e
       ·exact ze.out j z (by omega) hz)
      clear e hy;go_wp2_with fail;go_roundw
      case rel=>exact⟨q+1,by go_num,by omega,yy.out,trivial⟩
      case measure=>(simp[intOf];omega)
    ·obtain rfl:q=k:=by omega
     (go_wp2_with fail;go_ret;exact⟨rfl,vY.out⟩)))
 ·by_cases c8:0<n
  ·have Md:(0:Int)<(n:Int):=by omega
   (
   have yz:mr=1:=(by rw[we,if_pos (.inl ⟨by decide,c8⟩)]);rw[yz];clear we yz
   (
   go_enter Tryz.func41,Tryz.ntmps41;go_upto_region 1 with(fail);rw[<-wD.out];go_upto_region 6 with(first
   |(go_at_call 42;refine(AE.out _).mono ?_;rintro e w1 ⟨A1,vR,rfl,wZ,vS⟩;have vV:=(vS.block _ xr).trans HE.out;have f0:w1.cell? ⟨w.heap.size,0,none⟩=some (.string path):=aa vV 0;have f1:=aa vV 1;have f5:w1.cell? ⟨w.heap.size,5,none⟩=some (.slice A _ c):=aa vV 5;have xB:w.heap.size<w1.heap.size:=(vo vV).1;have f6:w1.cell? ⟨w.heap.size,6,none⟩=some (.string lk):=aa vV 6;have wu:=vp wZ;have vY:=vp (vU.trans (vS.mono vU.size));have wF:=vY.out.size;clear wZ vS vV)
   |(go_at_call 83;refine(AD.out _).mono ?_;rintro e w2 ⟨rfl,rfl⟩)
   |fail)
   go_wp2_with fail;go_loopw [6] (fun i wr=> ∃q:Nat,i= .int .i64 (q:Int)/\q<=k/\eu L q/\w1=wr) (fun i _ =>k-(intOf i).toNat)
   case atStart=>exact⟨0,rfl,vL _,(fun j y hj=>by omega),rfl⟩
   case round=>
    obtain⟨q,rfl,hq,wE,rfl⟩:=hrel;have ze:=vp wE;clear wE;by_cases vW:q<k
    ·obtain⟨y,hy⟩: ∃y,L[q]? =some y:=⟨_,vv (by rw[<-HK.out];exact vW)⟩;rcases wu.out.form with⟨_,h2,_⟩|⟨g,yc,_,yi,AV⟩
     ·rw[h2]at hy;simp at hy
     subst yc;have wo:=wu.out.elem hy;have DG:q<vR:=(by have:=HK.out;omega);by_cases e:y=⟨#[46,46]⟩
     ·have Es:=vp (show L[q]? =some ⟨#[46,46]⟩from e▸hy);subst e;clear hy;exact(bR EK.out.symm Es.out).elim
     ·have b1:(y.toList==[46,46])=false:=aQ e;have yy:=vp (show eu L (q+1)from fun j z hj hz=>by
       by_cases ej:j=q
       ·subst ej;rw[hy]at hz;injection hz with hz;exact hz▸e
       ·exact ze.out j z (by omega) hz)
      clear e hy;go_wp2_with fail;go_roundw
      case rel=>exact⟨q+1,by go_num,by omega,yy.out,trivial⟩
      case measure=>(simp[intOf];omega)
    ·obtain rfl:q=k:=by omega
     (go_wp2_with fail;go_ret;exact⟨rfl,vY.out⟩)))
  obtain rfl:n=0:=(by omega);by_cases c9:lk.size=0
  rotate_left
  ·have t0:=ln c9
   (
   have yz:mr=1:=(by rw[we,if_pos (.inr ⟨by decide,c9⟩)]);rw[yz];clear we yz
   (
   go_enter Tryz.func41,Tryz.ntmps41;go_upto_region 1 with(fail);rw[<-wD.out];go_upto_region 6 with(first
   |(go_at_call 42;refine(AE.out _).mono ?_;rintro e w1 ⟨A1,vR,rfl,wZ,vS⟩;have vV:=(vS.block _ xr).trans HE.out;have f0:w1.cell? ⟨w.heap.size,0,none⟩=some (.string path):=aa vV 0;have f1:=aa vV 1;have f5:w1.cell? ⟨w.heap.size,5,none⟩=some (.slice A _ c):=aa vV 5;have xB:w.heap.size<w1.heap.size:=(vo vV).1;have f6:w1.cell? ⟨w.heap.size,6,none⟩=some (.string lk):=aa vV 6;have wu:=vp wZ;have vY:=vp (vU.trans (vS.mono vU.size));have wF:=vY.out.size;clear wZ vS vV)
   |(go_at_call 83;refine(AD.out _).mono ?_;rintro e w2 ⟨rfl,rfl⟩)
   |fail)
   go_wp2_with fail;go_loopw [6] (fun i wr=> ∃q:Nat,i= .int .i64 (q:Int)/\q<=k/\eu L q/\w1=wr) (fun i _ =>k-(intOf i).toNat)
   case atStart=>exact⟨0,rfl,vL _,(fun j y hj=>by omega),rfl⟩
   case round=>
    obtain⟨q,rfl,hq,wE,rfl⟩:=hrel;have ze:=vp wE;clear wE;by_cases vW:q<k
    ·obtain⟨y,hy⟩: ∃y,L[q]? =some y:=⟨_,vv (by rw[<-HK.out];exact vW)⟩;rcases wu.out.form with⟨_,h2,_⟩|⟨g,yc,_,yi,AV⟩
     ·rw[h2]at hy;simp at hy
     subst yc;have wo:=wu.out.elem hy;have DG:q<vR:=(by have:=HK.out;omega);by_cases e:y=⟨#[46,46]⟩
     ·have Es:=vp (show L[q]? =some ⟨#[46,46]⟩from e▸hy);subst e;clear hy;exact(bR EK.out.symm Es.out).elim
     ·have b1:(y.toList==[46,46])=false:=aQ e;have yy:=vp (show eu L (q+1)from fun j z hj hz=>by
       by_cases ej:j=q
       ·subst ej;rw[hy]at hz;injection hz with hz;exact hz▸e
       ·exact ze.out j z (by omega) hz)
      clear e hy;go_wp2_with fail;go_roundw
      case rel=>exact⟨q+1,by go_num,by omega,yy.out,trivial⟩
      case measure=>(simp[intOf];omega)
    ·obtain rfl:q=k:=by omega
     (go_wp2_with fail;go_ret;exact⟨rfl,vY.out⟩)))
  have t0:=iW c9;have n3: ¬(((2:Int)≠1/\0<0)\/((2:Int)≠3/\lk.size≠0)):=(by omega);rw[if_neg n3,if_neg (by omega)]at we;clear n3
  (
   have yz:mr=0:=(by rw[we,if_neg (by omega)]);rw[yz];clear we yz
   (
   go_enter Tryz.func41,Tryz.ntmps41;go_upto_region 1 with(fail);rw[<-wD.out];go_upto_region 6 with(first
   |(go_at_call 42;refine(AE.out _).mono ?_;rintro e w1 ⟨A1,vR,rfl,wZ,vS⟩;have vV:=(vS.block _ xr).trans HE.out;have f0:w1.cell? ⟨w.heap.size,0,none⟩=some (.string path):=aa vV 0;have f1:=aa vV 1;have f5:w1.cell? ⟨w.heap.size,5,none⟩=some (.slice A _ c):=aa vV 5;have xB:w.heap.size<w1.heap.size:=(vo vV).1;have f6:w1.cell? ⟨w.heap.size,6,none⟩=some (.string lk):=aa vV 6;have wu:=vp wZ;have vY:=vp (vU.trans (vS.mono vU.size));have wF:=vY.out.size;clear wZ vS vV)
   |(go_at_call 83;refine(AD.out _).mono ?_;rintro e w2 ⟨rfl,rfl⟩)
   |fail)
   go_wp2_with fail;go_loopw [6] (fun i wr=> ∃q:Nat,i= .int .i64 (q:Int)/\q<=k/\eu L q/\w1=wr) (fun i _ =>k-(intOf i).toNat)
   case atStart=>exact⟨0,rfl,vL _,(fun j y hj=>by omega),rfl⟩
   case round=>
    obtain⟨q,rfl,hq,wE,rfl⟩:=hrel;have ze:=vp wE;clear wE;by_cases vW:q<k
    ·obtain⟨y,hy⟩: ∃y,L[q]? =some y:=⟨_,vv (by rw[<-HK.out];exact vW)⟩;rcases wu.out.form with⟨_,h2,_⟩|⟨g,yc,_,yi,AV⟩
     ·rw[h2]at hy;simp at hy
     subst yc;have wo:=wu.out.elem hy;have DG:q<vR:=(by have:=HK.out;omega);by_cases e:y=⟨#[46,46]⟩
     ·have Es:=vp (show L[q]? =some ⟨#[46,46]⟩from e▸hy);subst e;clear hy;exact(bR EK.out.symm Es.out).elim
     ·have b1:(y.toList==[46,46])=false:=aQ e;have yy:=vp (show eu L (q+1)from fun j z hj hz=>by
       by_cases ej:j=q
       ·subst ej;rw[hy]at hz;injection hz with hz;exact hz▸e
       ·exact ze.out j z (by omega) hz)
      clear e hy;go_wp2_with fail;go_roundw
      case rel=>exact⟨q+1,by go_num,by omega,yy.out,trivial⟩
      case measure=>(simp[intOf];omega)
    ·obtain rfl:q=k:=by omega
     (go_wp2_with fail;go_ret;exact⟨rfl,vY.out⟩)))
 ·by_cases c8:0<n
  ·have Md:(0:Int)<(n:Int):=by omega
   (
   have yz:mr=1:=(by rw[we,if_pos (.inl ⟨by decide,c8⟩)]);rw[yz];clear we yz
   (
   go_enter Tryz.func41,Tryz.ntmps41;go_upto_region 1 with(fail);rw[<-wD.out];go_upto_region 6 with(first
   |(go_at_call 42;refine(AE.out _).mono ?_;rintro e w1 ⟨A1,vR,rfl,wZ,vS⟩;have vV:=(vS.block _ xr).trans HE.out;have f0:w1.cell? ⟨w.heap.size,0,none⟩=some (.string path):=aa vV 0;have f1:=aa vV 1;have f5:w1.cell? ⟨w.heap.size,5,none⟩=some (.slice A _ c):=aa vV 5;have xB:w.heap.size<w1.heap.size:=(vo vV).1;have f6:w1.cell? ⟨w.heap.size,6,none⟩=some (.string lk):=aa vV 6;have wu:=vp wZ;have vY:=vp (vU.trans (vS.mono vU.size));have wF:=vY.out.size;clear wZ vS vV)
   |(go_at_call 83;refine(AD.out _).mono ?_;rintro e w2 ⟨rfl,rfl⟩)
   |fail)
   go_wp2_with fail;go_loopw [6] (fun i wr=> ∃q:Nat,i= .int .i64 (q:Int)/\q<=k/\eu L q/\w1=wr) (fun i _ =>k-(intOf i).toNat)
   case atStart=>exact⟨0,rfl,vL _,(fun j y hj=>by omega),rfl⟩
   case round=>
    obtain⟨q,rfl,hq,wE,rfl⟩:=hrel;have ze:=vp wE;clear wE;by_cases vW:q<k
    ·obtain⟨y,hy⟩: ∃y,L[q]? =some y:=⟨_,vv (by rw[<-HK.out];exact vW)⟩;rcases wu.out.form with⟨_,h2,_⟩|⟨g,yc,_,yi,AV⟩
     ·rw[h2]at hy;simp at hy
     subst yc;have wo:=wu.out.elem hy;have DG:q<vR:=(by have:=HK.out;omega);by_cases e:y=⟨#[46,46]⟩
     ·have Es:=vp (show L[q]? =some ⟨#[46,46]⟩from e▸hy);subst e;clear hy;exact(bR EK.out.symm Es.out).elim
     ·have b1:(y.toList==[46,46])=false:=aQ e;have yy:=vp (show eu L (q+1)from fun j z hj hz=>by
       by_cases ej:j=q
       ·subst ej;rw[hy]at hz;injection hz with hz;exact hz▸e
       ·exact ze.out j z (by omega) hz)
      clear e hy;go_wp2_with fail;go_roundw
      case rel=>exact⟨q+1,by go_num,by omega,yy.out,trivial⟩
      case measure=>(simp[intOf];omega)
    ·obtain rfl:q=k:=by omega
     (go_wp2_with fail;go_ret;exact⟨rfl,vY.out⟩)))
  obtain rfl:n=0:=(by omega);have n3: ¬(((3:Int)≠1/\0<0)\/((3:Int)≠3/\lk.size≠0)):=(by omega);rw[if_neg n3]at we;clear n3;by_cases c9:ct=0
  rotate_left
  ·have hct9:(ct != 0)=true:=by rw[bne_iff_ne];exact c9
   (
   have yz:mr=1:=(by rw[we,if_pos ⟨rfl,c9⟩]);rw[yz];clear we yz
   (
   go_enter Tryz.func41,Tryz.ntmps41;go_upto_region 1 with(fail);rw[<-wD.out];go_upto_region 6 with(first
   |(go_at_call 42;refine(AE.out _).mono ?_;rintro e w1 ⟨A1,vR,rfl,wZ,vS⟩;have vV:=(vS.block _ xr).trans HE.out;have f0:w1.cell? ⟨w.heap.size,0,none⟩=some (.string path):=aa vV 0;have f1:=aa vV 1;have f5:w1.cell? ⟨w.heap.size,5,none⟩=some (.slice A _ c):=aa vV 5;have xB:w.heap.size<w1.heap.size:=(vo vV).1;have f6:w1.cell? ⟨w.heap.size,6,none⟩=some (.string lk):=aa vV 6;have wu:=vp wZ;have vY:=vp (vU.trans (vS.mono vU.size));have wF:=vY.out.size;clear wZ vS vV)
   |(go_at_call 83;refine(AD.out _).mono ?_;rintro e w2 ⟨rfl,rfl⟩)
   |fail)
   go_wp2_with fail;go_loopw [6] (fun i wr=> ∃q:Nat,i= .int .i64 (q:Int)/\q<=k/\eu L q/\w1=wr) (fun i _ =>k-(intOf i).toNat)
   case atStart=>exact⟨0,rfl,vL _,(fun j y hj=>by omega),rfl⟩
   case round=>
    obtain⟨q,rfl,hq,wE,rfl⟩:=hrel;have ze:=vp wE;clear wE;by_cases vW:q<k
    ·obtain⟨y,hy⟩: ∃y,L[q]? =some y:=⟨_,vv (by rw[<-HK.out];exact vW)⟩;rcases wu.out.form with⟨_,h2,_⟩|⟨g,yc,_,yi,AV⟩
     ·rw[h2]at hy;simp at hy
     subst yc;have wo:=wu.out.elem hy;have DG:q<vR:=(by have:=HK.out;omega);by_cases e:y=⟨#[46,46]⟩
     ·have Es:=vp (show L[q]? =some ⟨#[46,46]⟩from e▸hy);subst e;clear hy;exact(bR EK.out.symm Es.out).elim
     ·have b1:(y.toList==[46,46])=false:=aQ e;have yy:=vp (show eu L (q+1)from fun j z hj hz=>by
       by_cases ej:j=q
       ·subst ej;rw[hy]at hz;injection hz with hz;exact hz▸e
       ·exact ze.out j z (by omega) hz)
      clear e hy;go_wp2_with fail;go_roundw
      case rel=>exact⟨q+1,by go_num,by omega,yy.out,trivial⟩
      case measure=>(simp[intOf];omega)
    ·obtain rfl:q=k:=by omega
     (go_wp2_with (first|(go_at_call 84;refine(CY.out _).mono ?_;rintro e w4 ⟨rfl,wA⟩;have g5:=(wA.cell (p:=⟨w.heap.size,5,none⟩) xB).trans f5)|fail);go_ret;exact⟨rfl,vY.out.trans (wA.mono wF)⟩)))
  subst c9;rw[if_neg (by omega)]at we
  (
   have yz:mr=0:=(by rw[we,if_neg (by omega)]);rw[yz];clear we yz
   (
   go_enter Tryz.func41,Tryz.ntmps41;go_upto_region 1 with(fail);rw[<-wD.out];go_upto_region 6 with(first
   |(go_at_call 42;refine(AE.out _).mono ?_;rintro e w1 ⟨A1,vR,rfl,wZ,vS⟩;have vV:=(vS.block _ xr).trans HE.out;have f0:w1.cell? ⟨w.heap.size,0,none⟩=some (.string path):=aa vV 0;have f1:=aa vV 1;have f5:w1.cell? ⟨w.heap.size,5,none⟩=some (.slice A _ c):=aa vV 5;have xB:w.heap.size<w1.heap.size:=(vo vV).1;have f6:w1.cell? ⟨w.heap.size,6,none⟩=some (.string lk):=aa vV 6;have wu:=vp wZ;have vY:=vp (vU.trans (vS.mono vU.size));have wF:=vY.out.size;clear wZ vS vV)
   |(go_at_call 83;refine(AD.out _).mono ?_;rintro e w2 ⟨rfl,rfl⟩)
   |fail)
   go_wp2_with fail;go_loopw [6] (fun i wr=> ∃q:Nat,i= .int .i64 (q:Int)/\q<=k/\eu L q/\w1=wr) (fun i _ =>k-(intOf i).toNat)
   case atStart=>exact⟨0,rfl,vL _,(fun j y hj=>by omega),rfl⟩
   case round=>
    obtain⟨q,rfl,hq,wE,rfl⟩:=hrel;have ze:=vp wE;clear wE;by_cases vW:q<k
    ·obtain⟨y,hy⟩: ∃y,L[q]? =some y:=⟨_,vv (by rw[<-HK.out];exact vW)⟩;rcases wu.out.form with⟨_,h2,_⟩|⟨g,yc,_,yi,AV⟩
     ·rw[h2]at hy;simp at hy
     subst yc;have wo:=wu.out.elem hy;have DG:q<vR:=(by have:=HK.out;omega);by_cases e:y=⟨#[46,46]⟩
     ·have Es:=vp (show L[q]? =some ⟨#[46,46]⟩from e▸hy);subst e;clear hy;exact(bR EK.out.symm Es.out).elim
     ·have b1:(y.toList==[46,46])=false:=aQ e;have yy:=vp (show eu L (q+1)from fun j z hj hz=>by
       by_cases ej:j=q
       ·subst ej;rw[hy]at hz;injection hz with hz;exact hz▸e
       ·exact ze.out j z (by omega) hz)
      clear e hy;go_wp2_with fail;go_roundw
      case rel=>exact⟨q+1,by go_num,by omega,yy.out,trivial⟩
      case measure=>(simp[intOf];omega)
    ·obtain rfl:q=k:=by omega
     (go_wp2_with (first|(go_at_call 84;refine(CY.out _).mono ?_;rintro e w4 ⟨rfl,wA⟩;have g5:=(wA.cell (p:=⟨w.heap.size,5,none⟩) xB).trans f5)|fail);go_ret;exact⟨rfl,vY.out.trans (wA.mono wF)⟩)))
end
section
open Go.RowKit Go.Sort
variable {w:World} {base g cap:Nat}
theorem OwnG.blockT {α:Type} {T:TypeId} {k:Nat} {C:α->List Value} {L:List α} (h:OwnG T k C w base (some ⟨g,0,none⟩) cap L): ∃cur,w.heap[g]? =some (.cells cur T (0,0)):=by
 rcases h.2 with⟨h2,_⟩|⟨g',vP,cur,h1,h3,h4,h5,_⟩
 ·injection h2 with h2;cases h2
 ·injection h1 with e1 _ e3;injection e1 with e1;injection e1 with e1;subst e1;exact⟨cur,h4⟩
variable {F:List Nd}
theorem fy.grow {w2:World} {q:Nat} {R:Option Addr} {L:List NdR} {zk:Nat} {r:NdR}
  (h:fy w base q R cap L F) (hr:bV w r.A r.nd.n r.c r.nd.dat) (wh:OwnG 105 9 ndC w2 base (some ⟨g,0,none⟩) zk (L++[r])) (hg:w.grownBy w2 (R.map (·.block)))
  (xi:R.map (·.block)=some g\/g=w.heap.size):
  fy (w2.setCell ⟨q,0,none⟩ (.slice (some ⟨g,0,none⟩) (L.length+1) zk)) base q (some ⟨g,0,none⟩) zk (L++[r]) (F++[r.nd]):=by
 have hq:=(vo h.self).1;have hqR:some q≠R.map (·.block):=fun e=>by
  rcases h.row.form with⟨h1,_⟩|⟨g1,h1,_⟩
  ·rw[h1]at e;cases e
  ·rw[h1]at e;simp only[Option.map_some,Option.some.injEq]at e;exact h.ne (by rw[h1,e])
 have hgq:g≠q:=fun e=>by
  rcases xi with h1|h1
  ·exact hqR (by rw[h1,e])
  ·omega
 have BE:=(hg.block q hq hqR).trans h.self;have Fo: ∀(b:Nat) (cs:Array Value) (f:Nat×Nat),w.heap[b]? =some (.cells cs 5 f)->(w2.setCell ⟨q,0,none⟩ (.slice (some ⟨g,0,none⟩) (L.length+1) zk)).heap[b]? =w.heap[b]? :=fun b cs f hb=>by
  have BJ:=(vo hb).1;have xc:b≠q:=fun e=>by
   subst e;rw[h.self]at hb;injection hb with hb;injection hb with _ hb;exact absurd hb (by decide)
  have hbR:some b≠R.map (·.block):=fun e=>by
   rcases h.row.form with⟨h1,_⟩|⟨g1,h1,_⟩
   ·rw[h1]at e;cases e
   ·rw[h1]at e;simp only[Option.map_some,Option.some.injEq]at e;subst e;have h9:=h.row;rw[h1]at h9;obtain⟨cur,h8⟩:=h9.blockT;rw[h8]at hb;injection hb with hb;injection hb with _ hb;exact absurd hb (by decide)
  exact((aj (S:=fun b=>b=q) rfl 0 _).block b (by have:=hg.size;omega) xc).trans (hg.block b BJ hbR)
 refine⟨by rw[List.map_append,h.map];rfl,?_,?_,?_,h.low,fun e=>by injection e with e;injection e with e;exact hgq e⟩
 ·have h9:=Joins.block_setCell (i:=0) BE (.slice (some ⟨g,0,none⟩) (L.length+1) zk);rw[vu];simpa using h9
 ·refine wh.same fun g1 yc=>?_;injection yc with yc;injection yc with yc;subst yc;exact(aj (S:=fun b=>b=q) rfl 0 _).block g wh.formS.2.1 hgq
 ·intro r1 Ec;rcases List.mem_append.1 Ec with h1|h1
  ·exact(h.bytes r1 h1).keep Fo
  ·rw[List.mem_singleton]at h1;subst h1;exact hr.keep Fo
theorem ql {x:Ent} (hm:may x≠0):addM F x=(may x,F):=by
 unfold addM;rw[if_pos hm]
theorem rR (w:World):fy (w.alloc (.cells #[.slice none 0 0] 101)) w.heap.size w.heap.size none 0 [] []:=
 ⟨rfl,ab _ _,OwnG.nil _ _,(fun r hr=>by cases hr),vs _,by simp⟩
def de (l:List Ent) (w:World) (e:Ending) (w':World):Prop:=
 (
  if 64<l.length then e= .returned (.tuple #[.pointer none, .int .i64 15, .int .i64 (-1)])
  else if(newM [aB] 0 l).1≠0 then e= .returned (.tuple #[.pointer none, .int .i64 (newM [aB] 0 l).1, .int .i64 (newM [aB] 0 l).2.1])
  else∃q R cap L,e= .returned (.tuple #[.pointer (some ⟨q,0,none⟩), .int .i64 0, .int .i64 0])/\fy w' w.heap.size q R cap L (newM [aB] 0 l).2.2)/\Below w.heap.size w w'
theorem de.stop {l:List Ent} {w':World} {r i:Int} (DP: ¬64<l.length) (h:newM [aB] 0 l=(r,i,F)) (hr:r≠0) (hb:Below w.heap.size w w'):de l w (.returned (.tuple #[.pointer none, .int .i64 r, .int .i64 i])) w':=by
 refine⟨?_,hb⟩;rw[if_neg DP,h,if_pos hr]
def BoxE (w:World) (b:Nat) (x:Ent) (A:Option Addr) (c:Nat):Prop:=w.heap[b]? =some (.cells #[.string x.path, .int .u8 (x.kind:Int), .int .u16 (x.mode:Int), .int .u32 (x.uid:Int), .int .u32 (x.gid:Int), .slice A x.n c, .string x.to] 93 (0,0))
theorem pM (P:Option Addr) (n cap:Nat) (l:List Ent) (w:World) (hl:eS w P l) (hn:n=l.length) (xn:n<=cap) (yN:n<=9223372036854775807) (yS: ∀x∈l,x.n<=524288/\x.path.size<=524288/\x.to.size<=524288):
  Calls Tryz.prog 12 #[.slice P n cap] w (de l w):=by
 by_cases DP:64<n
 ·have hv: ∀e w',(e= .returned (.tuple #[.pointer none, .int .i64 15, .int .i64 (-1)])/\Below w.heap.size w w')->de l w e w':=fun e w' h=>by
   unfold de;rw[if_pos (by omega)];exact h
  have HV:=vp hv;clear hv hl hn yS;go_enter Tryz.func12,Tryz.ntmps12;go_wp2_with fail;go_ret3;exact HV.out _ _ ⟨rfl,vO _ _⟩
 obtain⟨q,hq⟩: ∃q,q=w.heap.size:=⟨_,rfl⟩;have wY:=rR w;obtain⟨w0,vT⟩: ∃w0,w0=w.alloc (.cells #[.slice none 0 0] 101):=⟨_,rfl⟩;rw[<-vT]at wY;have vU:Below w.heap.size w w0:=(by rw[vT];exact vr);have q0:w0.cell? ⟨w.heap.size,0,none⟩=some (.slice none 0 0):=aa wY.self 0;have qf:=ae wY.self 0;have qlt:w.heap.size<w0.heap.size:=(vo wY.self).1;have NQ:Hid (some w.heap.size≠(none:Option Addr).map (·.block)):=vp (by simp);have wD:=vp vT;have xe:=vp vU;have DR:=vp wY;have Ez:=vp hn;have GO:=vp hl;have Oo:=vp yS;have HQ:=vp hq;have wM:=vU.size;clear vU vT wY hn hl yS hq;go_enter Tryz.func12,Tryz.ntmps12;go_upto_region 4 with(fail);rw[<-wD.out];go_upto_region 5 with(first
  |(at_builtin;refine pj oI rfl (.tmp 22) (.tmp 25) rfl w.heap.size none 0 0 [] rfl rfl (OwnG.nil _ _) ⟨aB,none,0⟩ w0.heap.size 1 rfl (ab w0 _) (by omega) (by simp;omega) ?_;intro g1 vR w1 wK yc xt Kb;have q1:=(yc.cell_far ⟨w.heap.size,0,none⟩ (by simp;omega) NQ.out);have qf1:=yc.frozen_far ⟨w.heap.size,0,none⟩ (by simp;omega) NQ.out)
  |fail)
 obtain⟨w2,wO⟩: ∃w2,w2=w1.setCell ⟨w.heap.size,0,none⟩ (.slice (some ⟨g1,0,none⟩) 1 vR):=⟨_,rfl⟩;have Vh:fy w2 w.heap.size w.heap.size (some ⟨g1,0,none⟩) vR [⟨aB,none,0⟩] [aB]:=by
  rw[wO];exact(DR.out.kept vr).grow ⟨(fun h=>absurd h (by decide)),(fun x hx=>by cases hx),vs _,fun _ =>⟨rfl,rfl⟩⟩ wK yc xt
 have wb:Below w.heap.size w w2:=by
  rw[wO];exact(((xe.out.alloc wM _).grown yc (by simp;omega) (fun b hb=>by simp at hb))).setCell (vs _) _
 have Ds:=vp wO;have HF2:=vp Vh;have xF:=vp wb;clear wO Vh wb;go_upto_region 6 with(fail);rw[<-Ds.out];clear q0 qf q1 qf1 qlt wK yc xt Kb;go_wp2_with fail;go_loopw [6] (fun i wr=> ∃k F R cp L,k<=n/\i= .int .i64 ((k:Nat):Int)/\fy wr w.heap.size w.heap.size R cp L F/\FOk F/\ew F/\newM [aB] 0 l=newM F k (l.drop k)/\F.length=k+1/\Below w.heap.size w wr) (fun i _ =>n-(intOf i).toNat)
 case atStart=>exact⟨0,[aB],_,_,_,by omega,rfl,HF2.out,FOk.start,ew.start,rfl,rfl,xF.out⟩
 case round=>
  obtain⟨k,F,R,cp,L,hk,rfl,hF,xk,Uc,hnew,hlen,yd⟩:=hrel;have HF:=vp hF;have QX:=vp xk;have Rf:=vp Uc;have yI:=vp hnew;have Dt:=vp hlen;have yD:=vp yd;have OT:=yd.size;clear hF xk Uc hnew hlen yd;by_cases vW:k<n
  ·obtain⟨x,hx⟩: ∃x,l[k]? =some x:=⟨_,vv (by rw[<-Ez.out];exact vW)⟩;have xM:l.drop k=x::l.drop (k+1):=(List.drop_eq_getElem_cons (by rw[<-Ez.out];exact vW)).trans (by
    obtain⟨h1,h2⟩:=List.getElem?_eq_some_iff.1 hx;rw[h2])
   have GV:=Oo.out x (vA hx);obtain⟨bb,off,A,c,rfl,⟨c0,c1,c2,c3,c4,c5,c6⟩,hA,KO,Ft⟩:=(GO.out.below yD.out) k x hx;obtain⟨w3,xq⟩: ∃w3,w3=wr.alloc (.cells #[.string x.path, .int .u8 (x.kind:Int), .int .u16 (x.mode:Int), .int .u32 (x.uid:Int), .int .u32 (x.gid:Int), .slice A x.n c, .string x.to] 93):=⟨_,rfl⟩;have Qo:BoxE w3 wr.heap.size x A c:=(by rw[xq];exact ab wr _);have wG:Below wr.heap.size wr w3:=(by rw[xq];exact vr);have Sv:wr.heap.size<w3.heap.size:=(vo Qo).1;have we:=rmay_any x A c w3 (by omega) (by omega) (by omega) Ft.mode;unfold Ent.val at we;obtain⟨r,hr⟩: ∃r,r=may x:=⟨_,rfl⟩;rw[<-hr]at we;have CH:=vp xq;have Bm:=vp Qo;have GQ:=vp xM;have Ru:=vp (hA.kept wG);have Rt:=vp (show∀a,A=some a->0<x.n->a.block<w3.heap.size from fun a ha h0=>by
    obtain⟨a',e,Ad⟩:=hA.kept wG h0;rw[ha]at e;injection e with e;subst e;have:=World.block_lt_of_cell? _ _ (Ad 0 h0);have FR:(a.add 0).block=a.block:=by unfold Addr.add;split<;>rfl
    rwa [FR]at this)
   have Le:=vp we;have WE:=vp (yD.out.trans (wG.mono OT));have RJ:(k:Int)<(n:Int):=(by omega);have yk:=wG.size;clear xq Qo xM hx we hA KO Ft;go_upto_region 9 with(fail);rw[<-CH.out];clear c0 c1 c2 c3 c4 c5 c6;have x0:w3.cell? ⟨wr.heap.size,0,none⟩=some (.string x.path):=aa Bm.out 0;have x1:w3.cell? ⟨wr.heap.size,1,none⟩=some (.int .u8 (x.kind:Int)):=aa Bm.out 1;have x2:w3.cell? ⟨wr.heap.size,2,none⟩=some (.int .u16 (x.mode:Int)):=aa Bm.out 2;have x3:w3.cell? ⟨wr.heap.size,3,none⟩=some (.int .u32 (x.uid:Int)):=aa Bm.out 3;have x4:w3.cell? ⟨wr.heap.size,4,none⟩=some (.int .u32 (x.gid:Int)):=aa Bm.out 4;have x5:w3.cell? ⟨wr.heap.size,5,none⟩=some (.slice A x.n c):=aa Bm.out 5;have x6:w3.cell? ⟨wr.heap.size,6,none⟩=some (.string x.to):=aa Bm.out 6;by_cases Ci:r=0
   rotate_left
   ·have wg:(r != 0)=true:=(by rw[bne_iff_ne];exact Ci);have yy:=vp (show newM [aB] 0 l=(r,(k:Int),F) by rw[yI.out,GQ.out,fc (by rw[ql (by rw[<-hr];exact Ci)];show may x≠0;rw[<-hr];exact Ci),ql (by rw[<-hr];exact Ci),hr]);have DS:=vp Ci;clear hr Ci;go_wp2_with (first
     |(go_at_call 41;refine(Le.out).mono ?_;rintro e w4 ⟨rfl,wA⟩)
     |fail)
    go_ret3;exact de.stop (by rw[<-Ez.out];exact DP) yy.out DS.out (WE.out.trans (wA.mono (by omega)))
   have JY:may x=0:=(by rw[<-hr];exact Ci);subst Ci;have Wk:=vp JY;clear hr JY;go_upto_region 12 with(first
    |(go_at_call 41;refine(Le.out).mono ?_;rintro e w4 ⟨rfl,wA⟩)
    |fail)
   have AY:Hid (BoxE w4 wr.heap.size x A c):=vp ((wA.block _ Sv).trans Bm.out);have Yd:wr.heap.size<w4.heap.size:=vw Sv wA.size;have AZ:=wA.size;clear x0 x1 x2 x3 x4 x5 x6;have x0:w4.cell? ⟨wr.heap.size,0,none⟩=some (.string x.path):=aa AY.out 0;have Rj:=vp (WE.out.trans (wA.mono (by omega)));have xj:=vp wA;clear wA;have Xn:=eG Wk.out;have hxn:x.n<=65536:=(by omega);have RF:=bd x.path;have DH:=(da Xn.2.2.2.1).2.1;have Ih:=mU x.path w4 Xn.2.2.2.1;unfold cf at Ih;obtain⟨pb,hpb⟩: ∃pb,pb=Lib.hasPrefix x.path.data.toList [47]:=⟨_,rfl⟩;rw[<-hpb]at Ih;obtain⟨T,hT⟩: ∃T,T=ar x.path:=⟨_,rfl⟩;rw[<-hT]at Ih RF;obtain⟨m,hm⟩: ∃m,m+1=T.length:=⟨T.length-1,by
    have h9:T≠[]:=(by rw[hT];exact Xn.2.2.2.2.2.1);have:=List.length_pos_iff.2 h9;omega⟩
   rw[<-hm]at Ih;have zy:m+1<=201:=(by omega);have KZ:=vp Ih;have HM:=vp hm;have HT:=vp hT;obtain⟨d1,IW⟩: ∃d1,d1=atM F 0 T:=⟨_,rfl⟩;obtain⟨d2,Ks⟩: ∃d2,d2=atM F 0 T.dropLast:=⟨_,rfl⟩;have xt: ∀W A1 vR base,Below w4.heap.size w4 W->OwnS W base A1 vR T->m+1<=vR->Calls Tryz.prog 43 #[.pointer (some ⟨w.heap.size,0,none⟩), .slice A1 (m+1) vR] W fun e w'=>e= .returned (.int .i64 (optI d1))/\W=w':=fun W A1 vR base hW hO hc=>by
    rw[IW];exact ti w.heap.size w.heap.size cp (m+1) vR R A1 L F T W ((HF.out.kept (wG.trans (xj.out.mono (by omega)))).kept hW) Rf.out (by have:=Dt.out;omega) (by have:=Dt.out;omega) (by have h9:=hO.texts T.length;rwa [List.take_length]at h9) hm.symm hc (by omega)
   have xR: ∀W A1 vR base,Below w4.heap.size w4 W->OwnS W base A1 vR T->m+1<=vR->Calls Tryz.prog 43 #[.pointer (some ⟨w.heap.size,0,none⟩), .slice A1 m vR] W fun e w'=>e= .returned (.int .i64 (optI d2))/\W=w':=fun W A1 vR base hW hO hc=>by
    rw[Ks];have hdl:T.dropLast.length=m:=(by rw[List.length_dropLast];omega);exact ti w.heap.size w.heap.size cp m vR R A1 L F T.dropLast W ((HF.out.kept (wG.trans (xj.out.mono (by omega)))).kept hW) Rf.out (by have:=Dt.out;omega) (by have:=Dt.out;omega) (by have h9:=hO.texts m;rwa [show T.take m=T.dropLast by rw[List.dropLast_eq_take];congr 1;omega]at h9) hdl (by omega) (by omega)
   have Dy:=vp xt;have CQ:=vp xR;have LL:=vp IW;have XN:=vp Ks;clear Xn RF DH Ih hpb hT hm xt xR IW Ks;go_upto_region 13 with(first
    |(go_at_call 42;refine(KZ.out).mono ?_;rintro e w5 ⟨A1,vR,rfl,IC,zi⟩;have BM:=vp IC;have zq:=vp zi;clear IC zi)
    |fail)
   have Jm:=zq.out.size;obtain⟨g5,Uj,hg51,Zl,Ul⟩: ∃g,A1=some ⟨g,0,none⟩/\w4.heap.size<=g/\g<w5.heap.size/\m+1<=vR:=by
    rcases BM.out.form with⟨_,e,_⟩|⟨g,e1,e2,e3,e4⟩
    ·exfalso;have:=HM.out;rw[e]at this;cases this
    ·exact⟨g,e1,e2,e3,by have:=HM.out;omega⟩
   subst Uj;have Dw:=vp (Dy.out w5 _ vR _ zq.out BM.out Ul);have yu:=vp (CQ.out w5 _ vR _ zq.out BM.out Ul);have Dr:Hid (BoxE w5 wr.heap.size x A c):=vp ((zq.out.block _ Yd).trans AY.out);clear x0 Dy CQ;obtain⟨v1,DA⟩: ∃v1,v1=optI d1:=⟨_,rfl⟩;obtain⟨v2,Ls⟩: ∃v2,v2=optI d2:=⟨_,rfl⟩;rw[<-DA]at Dw;rw[<-Ls]at yu;have MU:=vp (Rj.out.trans (zq.out.mono (by omega)));cases d1 with
   |some j=>
    have Zg:(0:Int)<=v1:=(by rw[DA];show(0:Int)<=(j:Int);omega);have yy:=vp (show newM [aB] 0 l=(7,(k:Int),F) by
     have h9:=lc Wk.out (show atM F 0 (ar x.path)=some j by rw[<-HT.out];exact LL.out.symm);rw[yI.out,GQ.out,fc (by rw[h9];show(_ :Int)≠0;simp),h9])
    clear DA Ls;go_wp2_with (first
     |(go_at_call 43;refine(Dw.out).mono ?_;rintro e w6 ⟨rfl,rfl⟩)
     |fail)
    go_ret3;exact de.stop (by rw[<-Ez.out];exact DP) yy.out (by decide) MU.out
   |none=>
   have Ym:v1= -1:=DA;subst Ym;clear DA;cases d2 with
   |none=>
    have OZ:v2= -1:=Ls;subst OZ;have yy:=vp (show newM [aB] 0 l=(3,(k:Int),F) by
     have h9:=ld Wk.out (show atM F 0 (ar x.path)=none by rw[<-HT.out];exact LL.out.symm) (show atM F 0 (ar x.path).dropLast=none by rw[<-HT.out];exact XN.out.symm);rw[yI.out,GQ.out,fc (by rw[h9];show(_ :Int)≠0;simp),h9])
    clear Ls;have hmc:(m:Int)<=(vR:Int):=(by omega);go_upto_region 15 with(first
     |(go_at_call 43;refine(Dw.out).mono ?_;rintro e w6 ⟨rfl,rfl⟩)
     |fail)
    go_wp2_with (first
     |(go_at_call 43;refine(yu.out).mono ?_;rintro e w6 ⟨rfl,rfl⟩)
     |fail)
    go_ret3;exact de.stop (by rw[<-Ez.out];exact DP) yy.out (by decide) MU.out
   |some up=>
   have OZ:v2=(up:Int):=Ls;subst OZ;clear Ls;have yZ:=uI _ QX.out.pos XN.out.symm;obtain⟨y,hy⟩: ∃y,F[up]? =some y:=⟨_,vv yZ⟩;have IU:=gj hy;have Lm:=vp ((HF.out.kept (wG.trans (xj.out.mono (by omega)))).kept zq.out);obtain⟨ry,gR,Ta,SZ,ZM,hgRl,hRcap,Kv⟩:=Lm.out.at hy;have NH:=Lm.out.len;have Vi:=Dt.out;obtain⟨N,hN⟩: ∃N,N=F.length:=⟨_,rfl⟩;have q5:w5.cell? ⟨w.heap.size,0,none⟩=some (.slice R N cp):=(by rw[hN,<-NH];exact aa Lm.out.self 0);have qf5:=ae Lm.out.self 0;have r5:w5.cell? ⟨gR,up*9,none⟩=some (.int .u8 (y.kind:Int)):=by
    have h9:=Kv 0 (by omega);rw[Nat.add_zero]at h9;rw[h9,<-SZ];rfl
   subst ZM;have hupN:up<N:=(by omega);have hNc:N<=cp:=(by omega);have hupI:(up:Int)<(N:Int):=(by omega);have hmc:(m:Int)<=(vR:Int):=(by omega);have HKI:=vp IU;have Ey:=vp hN;have Es:=vp hy;clear yZ Ta SZ Kv NH Vi IU hN hy;by_cases Dd:y.kind=2
   rotate_left
   ·have wg:((y.kind:Int) != 2)=true:=(by rw[bne_iff_ne];omega);have yy:=vp (show newM [aB] 0 l=(8,(k:Int),F) by
     have h9:=kw Wk.out (show atM F 0 (ar x.path)=none by rw[<-HT.out];exact LL.out.symm) (show atM F 0 (ar x.path).dropLast=some up by rw[<-HT.out];exact XN.out.symm) (by rw[HKI.out];exact Dd);rw[yI.out,GQ.out,fc (by rw[h9];show(_ :Int)≠0;simp),h9])
    clear Dd;go_upto_region 15 with(first
     |(go_at_call 43;refine(Dw.out).mono ?_;rintro e w6 ⟨rfl,rfl⟩)
     |fail)
    go_wp2_with (first
     |(go_at_call 43;refine(yu.out).mono ?_;rintro e w6 ⟨rfl,rfl⟩)
     |fail)
    go_ret3;exact de.stop (by rw[<-Ez.out];exact DP) yy.out (by decide) MU.out
   have hkE:((y.kind:Int) != 2)=false:=(by rw[Dd];rfl);have FY:=vp Dd;clear Dd;go_upto_region 15 with(first
     |(go_at_call 43;refine(Dw.out).mono ?_;rintro e w6 ⟨rfl,rfl⟩)
     |fail)
   go_upto_region 20 with(first
     |(go_at_call 43;refine(yu.out).mono ?_;rintro e w6 ⟨rfl,rfl⟩)
     |fail)
   obtain⟨t,ht,htL,htD⟩:=nv HM.out;have g5m:w5.cell? ⟨g5,m,none⟩=some (.string t):=OwnS.elem BM.out ht;have l1:w.heap.size<w5.heap.size:=(vo Lm.out.self).1;have Ic:wr.heap.size<w5.heap.size:=(vo Dr.out).1;have x1:w5.cell? ⟨wr.heap.size,1,none⟩=some (.int .u8 (x.kind:Int)):=aa Dr.out 1;have x2:w5.cell? ⟨wr.heap.size,2,none⟩=some (.int .u16 (x.mode:Int)):=aa Dr.out 2;have x3:w5.cell? ⟨wr.heap.size,3,none⟩=some (.int .u32 (x.uid:Int)):=aa Dr.out 3;have x4:w5.cell? ⟨wr.heap.size,4,none⟩=some (.int .u32 (x.gid:Int)):=aa Dr.out 4;have x5:w5.cell? ⟨wr.heap.size,5,none⟩=some (.slice A x.n c):=aa Dr.out 5;have x6:w5.cell? ⟨wr.heap.size,6,none⟩=some (.string x.to):=aa Dr.out 6;have HTL:=vp htL;have Ro:=vp (th A x.n c x.dat w5.drew (by omega) ((Ru.out.kept (xj.out.trans (zq.out.mono (by omega)))).kept (vO _ _).drew) (fun a ha h0=>by have h9:=Rt.out a ha h0;show a.block<w5.heap.size;omega));have NR:Hid (some w.heap.size≠(some (⟨gR,0,none⟩:Addr)).map (·.block)):=vp (fun e=>by
    simp only[Option.map_some,Option.some.injEq]at e;exact Lm.out.ne (by rw[e]))
   have YK:(m:Int)<(m:Int)+1:=(by omega);have hmcap:m<vR:=(by omega);have RI:IntKind.i64.wrap (m:Int)=(m:Int):=(by rw[IntKind.wrap_i64];omega);have hm00:(0:Int)<=(m:Int):=(by omega);have HNL:Hid (N=L.length):=vp (by rw[Ey.out];exact Lm.out.len.symm);have hNf:N<=65:=(by have:=Ey.out;have:=Dt.out;omega);have hgRw:=(HF.out.row.lt gR rfl).2;have nx:wr.heap.size≠gR:=(by omega);have ng:g5≠gR:=(by omega);have nxq:wr.heap.size≠w.heap.size:=(by have:=(vo HF.out.self).1;omega);have ngq:g5≠w.heap.size:=(by omega);have nq:w.heap.size≠gR:=fun e=>Lm.out.ne (by rw[e]);clear Dw yu ht htL htD r5;refine jp (fun w'=>w'.cell? ⟨wr.heap.size,1,none⟩=some (.int .u8 (x.kind:Int))/\w'.cell? ⟨wr.heap.size,2,none⟩=some (.int .u16 (x.mode:Int))/\w'.cell? ⟨wr.heap.size,3,none⟩=some (.int .u32 (x.uid:Int))/\w'.cell? ⟨wr.heap.size,4,none⟩=some (.int .u32 (x.gid:Int))/\w'.cell? ⟨wr.heap.size,5,none⟩=some (.slice A x.n c)/\w'.cell? ⟨wr.heap.size,6,none⟩=some (.string x.to)/\w'.cell? ⟨w.heap.size,0,none⟩=some (.slice (some ⟨gR,0,none⟩) N cp)/\w'.cell? ⟨g5,m,none⟩=some (.string t)) 34 (by kernel_rfl) (cU.of 14 (by kernel_rfl) (by kernel_rfl)) ⟨x1,x2,x3,x4,x5,x6,q5,g5m⟩ ?_;intro QZ Ca;refine zt 0 ?_;refine zt 1 ?_;refine zt 2 ?_;refine zt 3 ?_;refine zt 4 ?_;refine zt 5 ?_;refine zt 6 ?_;refine zt 7 ?_;refine zt 8 ?_;refine zt 9 ?_;refine zt 10 ?_;refine zt 11 ?_;refine zt 12 ?_;refine zt 13 ?_;refine zt 14 ?_;refine zt 15 ?_;refine zt 16 ?_;refine zt 17 ?_;refine zt 18 ?_;refine zt 19 ?_;refine zt 20 ?_;refine zt 21 ?_;refine zt 22 ?_;refine zt 23 ?_;refine zt 24 ?_;refine zt 25 ?_;refine zt 27 ?_;refine zt 28 ?_;refine aS 26 (by kernel_rfl) rfl (fun K' hK=>?_)
   go_simp
   go_at_call 44;refine(Ro.out).mono ?_;rintro e w7 ⟨A7,KR,rfl,DM,_,Hl⟩;have yO:Below w5.heap.size w5 w7:=(vO w5.heap.size w5).drew.trans Hl;have q7:=(yO.cell (p:=⟨w.heap.size,0,none⟩) l1).trans q5;have y1:=(yO.cell (p:=⟨wr.heap.size,1,none⟩) Ic).trans x1;have y2:=(yO.cell (p:=⟨wr.heap.size,2,none⟩) Ic).trans x2;have y3:=(yO.cell (p:=⟨wr.heap.size,3,none⟩) Ic).trans x3;have y4:=(yO.cell (p:=⟨wr.heap.size,4,none⟩) Ic).trans x4;have y5:=(yO.cell (p:=⟨wr.heap.size,5,none⟩) Ic).trans x5;have y6:=(yO.cell (p:=⟨wr.heap.size,6,none⟩) Ic).trans x6;have g7m:=(yO.cell (p:=⟨g5,m,none⟩) Zl).trans g5m;have MN:=vp DM;clear DM;go_wp2_with fail;refine hK.out _ _ ⟨y1,y2,y3,y4,y5,y6,q7,g7m⟩ (fun Ca=>?_);clear hK K'
   try simp only[Act.put,List.setIfInBounds_toArray,List.set_cons_zero,List.set_cons_succ,List.getElem_toArray,List.getElem_cons_succ,List.getElem_cons_zero]
   refine zt 29 ?_;refine aS 30 (by kernel_rfl) rfl (fun K' hK=>?_)
   go_simp
   have lx:wr.heap.size<w7.heap.size:=(by have:=yO.size;omega);have l7:w.heap.size<w7.heap.size:=(by have:=yO.size;omega);have lg:g5<w7.heap.size:=(by have:=yO.size;omega);have Dk: ∀b i v o,b<w7.heap.size->w7.cell? ⟨b,i,none⟩=some v->(w7.alloc o).cell? ⟨b,i,none⟩=some v:=fun b i v o h1 h2=>(((vO w7.heap.size w7).alloc (vs _) o).cell (p:=⟨b,i,none⟩) h1).trans h2;refine hK.out _ _ ⟨Dk _ _ _ _ lx y1,Dk _ _ _ _ lx y2,Dk _ _ _ _ lx y3,Dk _ _ _ _ lx y4,Dk _ _ _ _ lx y5,Dk _ _ _ _ lx y6,Dk _ _ _ _ l7 q7,Dk _ _ _ _ lg g7m⟩ (fun Ca=>?_);clear hK K'
   try simp only[Act.put,List.setIfInBounds_toArray,List.set_cons_zero,List.set_cons_succ,List.getElem_toArray,List.getElem_cons_succ,List.getElem_cons_zero]
   refine aS 31 (by kernel_rfl) rfl (fun K' hK=>?_);refine step_gen oI (by rfl) (.tmp 82) (.tmp 108) (by rfl) w.heap.size (some ⟨gR,0,none⟩) cp N L HNL.out (by rfl) ((Lm.out.kept yO).row.alloc _) ⟨bB x up t,A7,KR⟩ w7.heap.size 1 (by rfl) (ab w7 _) (by omega) (by have:=yO.size;simp;omega) ?_;intro g8 VC w8 Ha RL UN Iq;have z8:=(RL.cell_far ⟨w.heap.size,0,none⟩ (by have:=yO.size;simp;omega) NR.out).trans (Dk _ _ _ _ l7 q7);have hz57:=yO.size;have xI: ∀b i v,b<w7.heap.size->b≠gR->w7.cell? ⟨b,i,none⟩=some v->w8.cell? ⟨b,i,none⟩=some v:=(fun b i v h1 h2 h3=>(RL.cell_far ⟨b,i,none⟩ (by simp;omega) (by simp;omega)).trans (Dk _ _ _ _ h1 h3));have zf8:=(RL.frozen_far ⟨w.heap.size,0,none⟩ (by have:=yO.size;simp;omega) NR.out).trans ((((vO w7.heap.size w7).alloc (vs _) _).frozen (p:=⟨w.heap.size,0,none⟩) l7).trans ((yO.frozen (p:=⟨w.heap.size,0,none⟩) l1).trans qf5));refine hK.out _ _ ⟨xI _ _ _ lx nx y1,xI _ _ _ lx nx y2,xI _ _ _ lx nx y3,xI _ _ _ lx nx y4,xI _ _ _ lx nx y5,xI _ _ _ lx nx y6,xI _ _ _ l7 nq q7,xI _ _ _ lg ng g7m⟩ (fun Ca=>?_);clear hK K'
   try simp only[Act.put,List.setIfInBounds_toArray,List.set_cons_zero,List.set_cons_succ,List.getElem_toArray,List.getElem_cons_succ,List.getElem_cons_zero]
   refine zt 32 ?_;refine zt 33 ?_;refine aZ 34 (by kernel_rfl) rfl rfl (fun K' hK=>?_)
   go_simp
   refine hK.out _ _ ?_;clear hK K';refine ba (by kernel_rfl) ?_ _
   all_goals
    have FD:=(Lm.out.kept yO).kept ((vO w7.heap.size w7).alloc (vs _) (.cells (ndC ⟨bB x up t,A7,KR⟩).toArray 105));have ZX:=FD.grow (r:=⟨bB x up t,A7,KR⟩) (MN.out.keep fun g cs f hg=>vt _ _ _ (vo hg).1) Ha RL UN;rw[<-HNL.out]at ZX;have Rw:=yO.size;have hgRb:=Lm.out.row.formS.1;have Hk:Below w.heap.size w (w8.setCell ⟨w.heap.size,0,none⟩ (.slice (some ⟨g8,0,none⟩) (N+1) VC)):=(((MU.out.trans (yO.mono (by omega))).alloc (by omega) _).grown RL (by simp;omega) (fun b hb=>by simp at hb;omega)).setCell (vs _) _;have HF9:=vp ZX;have HB9:=vp Hk;have yx:=ky Wk.out (show atM F 0 (ar x.path)=none by rw[<-HT.out];exact LL.out.symm) (show atM F 0 (ar x.path).dropLast=some up by rw[<-HT.out];exact XN.out.symm) (by rw[HKI.out];exact FY.out);rw[<-HT.out,HTL.out]at yx;have Ci:(addM F x).1=0:=(by rw[yx]);have HN9:=vp (show newM [aB] 0 l=newM (F++[bB x up t]) (k+1) (l.drop (k+1)) by rw[yI.out,GQ.out,nj Ci,yx]);have Ps:=(mo QX.out Ci).1;have PJ:=Rf.out.add QX.out Ci;rw[yx]at Ps PJ;have HOK9:=vp (show FOk (F++[bB x up t])from Ps);have HIN9:=vp (show ew (F++[bB x up t])from PJ);have HL9:=vp (show(F++[bB x up t]).length=k+1+1 by rw[vu,Dt.out];rfl);clear FD ZX Hk yx Ci Ps PJ z8 zf8 q7 y1 y2 y3 y4 y5 y6 g7m Ha RL UN x1 x2 x3 x4 x5 x6 q5 qf5 g5m;go_wp2_with fail;go_roundw
    case rel=>exact⟨k+1,_,_,VC,_,by omega,by go_num,HF9.out,HOK9.out,HIN9.out,HN9.out,HL9.out,HB9.out⟩
    case measure=>(simp[intOf];omega)
  ·obtain rfl:k=n:=(by omega);have yy:=vp (show newM [aB] 0 l=(0,0,F) by rw[yI.out,List.drop_of_length_le (by rw[Ez.out];exact vs _)];rfl);go_wp2_with fail;go_ret3;refine⟨?_,yD.out⟩;rw[if_neg (by rw[<-Ez.out];exact DP),yy.out,if_neg (by simp)];exact⟨_,R,cp,L,rfl,HF.out⟩
end
