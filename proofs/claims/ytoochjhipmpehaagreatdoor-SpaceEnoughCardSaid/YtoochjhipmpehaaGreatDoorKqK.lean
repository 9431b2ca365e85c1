/- What comes in at the spaces' laws: what is done with a space. -/
import Derived.Test.YtoochjhipmpehaaGreatDoorKmK
import Derived.ChangeSlices
import Derived.LaidMore
import Derived.Lib.LaidTab
import Derived.SizedLaws
import Derived.Stop.Joined
set_option linter.unusedVariables false
set_option linter.unusedSimpArgs false
set_option maxRecDepth 100000
set_option maxHeartbeats 4000000
namespace Go.Proofs.YtoochjhipmpehaaGreatDoor
open Go.Proofs.Tryz
section
open Go.ChangeShapes Go.WideShapes Go.ChangeAt Go.RowKit Go.Deep Go.Joins
theorem own:ownKnob prog.godebug=none:=k_
theorem vk:laidOutB prog=true:=k_
theorem laid_is {H:Type} :(Rows.laid_math_bits_deBruijn64tab:DataW H)=Lib.tabData .u8 (Lib.deBruijn64tab.map Int.ofNat):=rfl
theorem gTab:prog.globalNamed "math/bits.deBruijn64tab" =some 0:=k_
theorem tTab:(prog.globals[0]?).map (·.type)=some 273:=k_
theorem tB {W:World}(h:laidMetH prog [("math/bits.deBruijn64tab",Rows.laid_math_bits_deBruijn64tab)] W):DB W/\0<W.heap.size:=by
 rw[MakeChecks.laidMetH_plain _ _ _ k_,laid_is]at h;have h1:=Lib.tabIs_of_head gTab tTab underlying273 underlying5 k_ k_ h;have h2:DB W:=fun j hj=>by
  have:=h1.cell gTab j (by simpa using hj);rw[this];simp[List.getD,hj]
 exact⟨h2,(World.block_lt_of_cell? _ _ (h2 0 d_):0<W.heap.size)⟩
theorem door_met (os:Os)(args:Array Value):laidMetH prog [("math/bits.deBruijn64tab",Rows.laid_math_bits_deBruijn64tab)] ((World.doorLaid prog 14 os).forCall (fun _ _ =>0) ⟨#[],args,[]⟩).memory:=
 laidMetH_of_parts3 (fuel:=8) (laidMet_of_run' 8 k_ k_) k_ k_
section
variable {H:Type}{enc:TypeId×Value->H}{P:Program}{w:World}{base:Nat}{spare:Nat->Bool}{held:Bool}
theorem se {t:TypeId}{f0 f1 f2 f3 f4:Field}{n:Nat}{c0 c1 c2 c3 c4:Value}{y:DataW H×List MemPlace}(hs:P.underlying t=some (.struct #[f0,f1,f2,f3,f4]))(yv:oneCellFields P #[f0,f1,f2,f3,f4]=true)(h:DataW.trod enc P w base spare held n t [c0,c1,c2,c3,c4]=some y):
  ∃(y0 y1 y2 y3 y4:DataW H×List MemPlace) (n:Nat),DataW.trod enc P w base spare held n f0.type [c0]=some y0/\DataW.trod enc P w base spare held n f1.type [c1]=some y1/\DataW.trod enc P w base spare held n f2.type [c2]=some y2/\DataW.trod enc P w base spare held n f3.type [c3]=some y3/\DataW.trod enc P w base spare held n f4.type [c4]=some y4:=by
 obtain⟨xs,n,_,hx,_,hlen,hg⟩:=DataW.trod_struct hs h;obtain⟨o0,k0⟩:=hone_of yv 0 f0 rfl;obtain⟨o1,k1⟩:=hone_of yv 1 f1 rfl;obtain⟨o2,k2⟩:=hone_of yv 2 f2 rfl;obtain⟨o3,k3⟩:=hone_of yv 3 f3 rfl;obtain⟨o4,k4⟩:=hone_of yv 4 f4 rfl
 match xs,hlen with
 | [y0,y1,y2,y3,y4],_ =>
  exact⟨y0,y1,y2,y3,y4,n,by simpa [o0,k0]using hg 0 f0 rfl,by simpa [o1,k1]using hg 1 f1 rfl,by simpa [o2,k2]using hg 2 f2 rfl,by simpa [o3,k3]using hg 3 f3 rfl,by simpa [o4,k4]using hg 4 f4 rfl⟩
end
section
variable {H:Type}{enc:TypeId×Value->H}{w:World}{base:Nat}{spare:Nat->Bool}{held:Bool}
theorem lL:prog.cellsOf 47=10:=k_
end
end
section
open Go.ChangeShapes Go.WideShapes Go.ChangeAt Go.RowKit Go.Deep Go.Joins
theorem ny {b off i j n:Nat} :(⟨b,off,none⟩:Addr).add (i*n+j)=⟨b,off+i*n+j,none⟩:=by
 unfold Addr.add;split
 ·next h=>
  have h1:i*n=0:=o_;have h2:j=0:=o_;simp[h1,h2]
 ·show(⟨b,off+(i*n+j),none⟩:Addr)=_;rw[Nat.add_assoc]
theorem mP {α:Type}{P:Nat->α->Prop} : ∀n:Nat,(∀i,i<n-> ∃r,P i r)-> ∃l:List α,l.length=n/\ ∀k r,l[k]? =some r->P k r
 |0,_ =>⟨[],rfl,fun k r h=>by simp at h⟩
 |n+1,h=>by
  obtain⟨l,hl,hp⟩:=mP n (fun i hi=>h i o_);obtain⟨r,hr⟩:=h n o_;refine⟨l++[r],by simp[hl],fun k x hx=>?_⟩;by_cases hk:k<l.length
  ·rw[wZ hk]at hx;exact hp k x hx
  ·rw[wY o_]at hx;have h0:k-l.length=0:=by
    have:=(List.getElem?_eq_some_iff.1 hx).1;simp at this;omega
   rw[h0]at hx;simp at hx;subst hx;have:k=n:=o_;rw[this];exact hr
def jG (w:World)(P:Option Addr)(n cap:Nat):Prop:=n<=cap/\n<=9223372036854775807/\(n<=300-> ∃l:List Ent,l.length=n/\fp w P l)
def tM (w:World)(P:Option Addr)(ops:List O11):Prop:= ∀(j:Nat) (o:O11),ops[j]? =some o-> ∃b off A cq,P=some ⟨b,off,none⟩/\b<w.heap.size/\(∀(i:Nat) (v:Value),(opV o A cq)[i]? =some v->w.cell? ⟨b,off+j*10+i,none⟩=some v)/\o.r.Ok/\o.addr<18446744073709551616/\o.q<=140737488355328/\o.q<=cq/\ap w A o.q o.d/\(∀j,o.d j<256)
def lA (w:World)(P:Option Addr)(n cap:Nat):Prop:=n<=9223372036854775807/\(n<=300-> ∃ops:List O11,ops.length=n/\tM w P ops)
section
variable {H:Type}{enc:TypeId×Value->H}{w:World}{base:Nat}{spare:Nat->Bool}{held:Bool}
theorem oV:prog.cellsOf 93=7:=k_
theorem vH:oneCellFields prog (prog.fieldsOf 93)=true:=k_
theorem vG:prog.underlying 93=some (.struct (prog.fieldsOf 93)):=k_
theorem rF:(prog.fieldsOf 93).size=7:=k_
theorem ent_f0:((prog.fieldsOf 93)[0]?).map (·.type)=some 9:=k_
theorem ent_f1:((prog.fieldsOf 93)[1]?).map (fun f=>prog.underlying f.type)=some (some (.int .u8)):=k_
theorem ent_f2:((prog.fieldsOf 93)[2]?).map (fun f=>prog.underlying f.type)=some (some (.int .u16)):=k_
theorem ent_f3:((prog.fieldsOf 93)[3]?).map (fun f=>prog.underlying f.type)=some (some (.int .u32)):=k_
theorem ent_f4:((prog.fieldsOf 93)[4]?).map (fun f=>prog.underlying f.type)=some (some (.int .u32)):=k_
theorem ent_f5:((prog.fieldsOf 93)[5]?).map (·.type)=some 39:=k_
theorem ent_f6:((prog.fieldsOf 93)[6]?).map (·.type)=some 9:=k_
theorem nM:prog.cellsOf 5=1:=k_
variable {n fuel j:Nat}{fs:Array Field}{a:Addr}{ys:List (DataW H×List MemPlace)}
theorem gt {k:IntKind}(hf:(fs[j]?).map (fun f=>prog.underlying f.type)=some (some (.int k)))
  (h: ∀(j:Nat) (f:Field),fs[j]? =some f-> ∃(v:Value) (y:DataW H×List MemPlace),w.cell? (a.add (n+j))=some v/\ys[j]? =some y/\DataW.trod enc prog w base spare held fuel f.type [v]=some y):
  ∃x:Int,w.cell? (a.add (n+j))=some (.int k x)/\(Lit.int k x).wf=true:=by
 obtain⟨f,DH,KA⟩:=Option.map_eq_some_iff.1 hf;obtain⟨v,y,hc,_,Om⟩:=h j f DH;obtain⟨x,hx,_,hw⟩:=DataW.trod_int KA Om;simp at hx;subst hx;exact⟨x,hc,hw⟩
theorem fK (hf:(fs[j]?).map (·.type)=some 9)
  (h: ∀(j:Nat) (f:Field),fs[j]? =some f-> ∃(v:Value) (y:DataW H×List MemPlace),w.cell? (a.add (n+j))=some v/\ys[j]? =some y/\DataW.trod enc prog w base spare held fuel f.type [v]=some y):
  ∃x:ByteArray,w.cell? (a.add (n+j))=some (.string x)/\x.size<=9223372036854775807:=by
 obtain⟨f,DH,KA⟩:=Option.map_eq_some_iff.1 hf;obtain⟨v,y,hc,_,Om⟩:=h j f DH;rw[KA]at Om;obtain⟨x,hx,_,hw⟩:=DataW.trod_string underlying9 Om;simp at hx;subst hx;exact⟨x,hc,by unfold maxLen at hw;omega⟩
theorem ql (hf:(fs[j]?).map (·.type)=some 39)
  (h: ∀(j:Nat) (f:Field),fs[j]? =some f-> ∃(v:Value) (y:DataW H×List MemPlace),w.cell? (a.add (n+j))=some v/\ys[j]? =some y/\DataW.trod enc prog w base spare held fuel f.type [v]=some y):
  ∃(A:Option Addr) (k c:Nat) (dat:Nat->Nat),w.cell? (a.add (n+j))=some (.slice A k c)/\k<=9223372036854775807/\(∀i,dat i<256)/\ap w A k dat/\fd A k c:=by
 obtain⟨f,DH,KA⟩:=Option.map_eq_some_iff.1 hf;obtain⟨v,y,hc,_,Om⟩:=h j f DH;rw[KA]at Om;rcases open_ints underlying39 underlying5 nM Om with⟨hx,_⟩|⟨ad,len,cap,zs,hx,_,hl,hm,hz,_,xV,Ie⟩
 ·simp at hx;subst hx;exact⟨none,0,0,fun _ =>0,hc,o_,fun _ =>by show 0<256;omega,fun h=>o_,fun _ =>⟨rfl,rfl⟩⟩
 ·simp at hx;subst hx;have hr:=range_u8 Ie;have hlz:len<=zs.length:=by rw[hz];split<;>omega
  refine⟨some ad,len,cap,fun i=>(zs[i]?.getD 0).toNat,hc,by unfold maxLen at hm;omega,fun i=>by have:=hr i;show(zs[i]?.getD 0).toNat<256;omega,fun _ =>⟨ad,rfl,fun i hi=>?_⟩,fun e=>by cases e⟩;have:=hr i;rw[xV i o_,List.getD_eq_getElem?_getD];have e9:zs[i]?.getD 0=((zs[i]?.getD 0).toNat:Int):=o_;exact congrArg (fun z=>some (Value.int .u8 z)) e9
variable {len cap:Nat}
theorem kI {a:Option Addr}{x:DataW H×List MemPlace}(hf:DataW.trod enc prog w base spare held fuel 22 [.slice a len cap]=some x):jG w a len cap:=by
 rcases eB underlying22 vG vH (by rw[oV,rF]) hf with⟨Aq,_⟩|⟨x,l,c,m,D,Pl,Aq,_,hl,hm,EC,_,hi⟩
 ·simp at Aq;obtain⟨rfl,rfl,rfl⟩:=Aq;exact⟨wS _,o_,fun _ =>⟨[],rfl,fun j x h=>by simp at h⟩⟩
 ·simp at Aq;obtain⟨rfl,rfl,rfl⟩:=Aq;have hlm:len<=m:=by rw[EC];split<;>omega
  refine⟨hl,by unfold maxLen at hm;omega,fun h300=>?_⟩;rcases Nat.eq_zero_or_pos len with rfl|xZ
  ·exact⟨[],rfl,fun k r h=>by simp at h⟩
  have zZ:x.spot=none:=by
   obtain⟨ys,n,_,_,_,yO⟩:=hi 0 o_;rw[rF]at yO;obtain⟨x0,c0,w0⟩:=fK ent_f0 yO;have h1:=World.cell?_spot c0;simpa [Addr.add]using h1
  have key: ∀i,i<len-> ∃r:Ent,∃b off A c,x=⟨b,off,none⟩/\qI w b (off+i*7) r A c/\ap w A r.n r.dat/\fd A r.n c/\wI r:=by
   intro i Hb;obtain⟨ys,n,_,_,_,yO⟩:=hi i o_;rw[rF]at yO;obtain⟨x0,c0,w0⟩:=fK ent_f0 yO;obtain⟨x1,c1,w1⟩:=gt ent_f1 yO;obtain⟨x2,c2,w2⟩:=gt ent_f2 yO;obtain⟨x3,c3,w3⟩:=gt ent_f3 yO;obtain⟨x4,c4,w4⟩:=gt ent_f4 yO;obtain⟨A,k,cc,dat,c5,hk,hd,hB,ya⟩:=ql ent_f5 yO;obtain⟨x6,c6,w6⟩:=fK ent_f6 yO;obtain⟨b,off,sp⟩:=x;obtain rfl:sp=none:=zZ;rw[ny]at c0 c1 c2 c3 c4 c5 c6;have b1:0<=x1:=(bounds_u8 w1).1;have b2:0<=x2:=(bounds_u16 w2).1;have b3:0<=x3:=(bounds_u32 w3).1;have b4:0<=x4:=(bounds_u32 w4).1;obtain⟨x1,rfl⟩:=Int.eq_ofNat_of_zero_le b1;obtain⟨x2,rfl⟩:=Int.eq_ofNat_of_zero_le b2;obtain⟨x3,rfl⟩:=Int.eq_ofNat_of_zero_le b3;obtain⟨x4,rfl⟩:=Int.eq_ofNat_of_zero_le b4;exact⟨⟨x0,x1,x2,x3,x4,k,dat,x6⟩,b,off,A,cc,rfl,⟨c0,c1,c2,c3,c4,c5,c6⟩,hB,ya,⟨w0,w6,hk,by have:=(bounds_u16 w2).2;show x2<65536;omega,hd⟩⟩
  obtain⟨lst,hlen,yb⟩:=mP (P:=fun i r=> ∃b off A c,x=⟨b,off,none⟩/\qI w b (off+i*7) r A c/\ap w A r.n r.dat/\fd A r.n c/\wI r) len key;refine⟨lst,hlen,fun k r hr=>?_⟩;obtain⟨b,off,A,c,hx,h1,h2,h3,h4⟩:=yb k r hr;exact⟨b,off,A,c,by rw[hx],h1,h2,h3,h4⟩
theorem mX:prog.cellsOf 24=2:=k_
variable {d:DataW H}{p:List MemPlace}
theorem ow {b0:Nat}{v:Value}(hv:Value.okWide prog w .any b0 24 v)(h:DataW.Trod enc prog w base spare held 24 v d p):
  ∃P n cap N,v= .agg #[.slice P n cap,.int .i64 N]/\jG w P n cap:=by
 obtain⟨v0,v1,y0,y1,n,rfl,_,_,e0,e1⟩:=open_agg2 underlying24 k_ mX hv h;obtain⟨x1,h1,_,w1⟩:=DataW.trod_int underlying3 e1;simp at h1;subst h1;rcases eB underlying22 vG vH (by rw[oV,rF]) e0 with⟨Aq,_⟩|⟨x,l,c,m,D,Pl,Aq,_,hl,hm,EC,_,hi⟩
 ·simp at Aq;subst Aq;exact⟨_,_,_,_,rfl,kI e0⟩
 ·simp at Aq;subst Aq;exact⟨_,_,_,_,rfl,kI e0⟩
variable {P:Program}{t:TypeId}{y:DataW H×List MemPlace}
theorem sd {f0 f1 f2 f3 f4 f5:Field}{c0 c1 c2 c3 c4 c5 c6 c7 c8 c9:Value}(hs:P.underlying t=some (.struct #[f0,f1,f2,f3,f4,f5]))(ho:f0.offset=0/\f1.offset=1/\f2.offset=2/\f3.offset=7/\f4.offset=8/\f5.offset=9)
  (hk:P.cellsOf f0.type=1/\P.cellsOf f1.type=1/\P.cellsOf f2.type=5/\P.cellsOf f3.type=1/\P.cellsOf f4.type=1/\P.cellsOf f5.type=1)(h:DataW.trod enc P w base spare held n t [c0,c1,c2,c3,c4,c5,c6,c7,c8,c9]=some y):
  ∃(y0 y1 y2 y3 y4 y5:DataW H×List MemPlace) (n:Nat),y.1= .agg [y0.1,y1.1,y2.1,y3.1,y4.1,y5.1]/\
   DataW.trod enc P w base spare held n f0.type [c0]=some y0/\DataW.trod enc P w base spare held n f1.type [c1]=some y1/\DataW.trod enc P w base spare held n f2.type [c2,c3,c4,c5,c6]=some y2/\DataW.trod enc P w base spare held n f3.type [c7]=some y3/\DataW.trod enc P w base spare held n f4.type [c8]=some y4/\DataW.trod enc P w base spare held n f5.type [c9]=some y5:=by
 obtain⟨xs,n,_,hx,_,hlen,hg⟩:=DataW.trod_struct hs h;obtain⟨o0,o1,o2,o3,o4,o5⟩:=ho;obtain⟨k0,k1,k2,k3,k4,k5⟩:=hk
 match xs,hlen with
 | [y0,y1,y2,y3,y4,y5],_ =>
  exact⟨y0,y1,y2,y3,y4,y5,n,by rw[hx];rfl,by simpa [o0,k0]using hg 0 f0 rfl,by simpa [o1,k1]using hg 1 f1 rfl,by simpa [o2,k2]using hg 2 f2 rfl,by simpa [o3,k3]using hg 3 f3 rfl,by simpa [o4,k4]using hg 4 f4 rfl,by simpa [o5,k5]using hg 5 f5 rfl⟩
variable {cs:List Value}
theorem trod_len (hs:P.underlying t=some (.struct fs))(h:DataW.trod enc P w base spare held n t cs=some y):cs.length=P.cellsOf t:=by
 obtain⟨xs,n,_,hx,hl,_⟩:=DataW.trod_struct hs h;exact hl
theorem gz {e:TypeId}{x:Nat} : ∀ {ds:List (DataW H)},d∈ds->x∈d.weights P e->x∈DataW.weightsAll P e ds
 |d0::ds,hd,hx=>by
  rw[DataW.weightsAll,List.mem_append];rcases List.mem_cons.1 hd with rfl|h
  ·exact .inl hx
  ·exact .inr (gz h hx)
theorem oy (h:DataW.trod enc prog w base spare held n 47 cs=some y):
  ∃(o:O11) (A:Option Addr) (cq:Nat),cs=(opV o A cq).toList/\o.r.Ok/\o.addr<18446744073709551616/\o.q<=cq/\ap w A o.q o.d/\(∀j,o.d j<256)/\(o.q=0\/ ∃s,(o.q+s)*prog.bytesOf 5∈y.1.weights prog 47):=by
 have hl:=(trod_len underlying47 h).trans lL
 match cs,hl with
 | [c0,c1,c2,c3,c4,c5,c6,c7,c8,c9],_ =>
  obtain⟨y0,y1,y2,y3,y4,y5,n,hy,e0,e1,e2,e3,e4,e5⟩:=sd underlying47 ⟨k_,k_,k_,k_,k_,k_⟩ ⟨k_,k_,k_,k_,k_,k_⟩ h;obtain⟨z0,z1,z2,z3,z4,n2,g0,g1,g2,g3,g4⟩:=se underlying45 k_ e2;obtain⟨x0,h0,_,w0⟩:=DataW.trod_int underlying3 e0;obtain⟨x1,h1,_,w1⟩:=DataW.trod_int underlying3 e1;obtain⟨a0,j0,_,v0⟩:=DataW.trod_int underlying43 g0;obtain⟨a1,j1,_,v1⟩:=DataW.trod_int underlying43 g1;obtain⟨a2,j2,_,v2⟩:=DataW.trod_int underlying5 g2;obtain⟨a3,j3,_,v3⟩:=DataW.trod_int underlying3 g3;obtain⟨a4,j4,_,v4⟩:=DataW.trod_int underlying43 g4;obtain⟨x3,h3,_,w3⟩:=DataW.trod_int underlying43 e3;obtain⟨x4,h4,_,w4⟩:=DataW.trod_int underlying3 e4;simp at h0 h1 h3 h4 j0 j1 j2 j3 j4;subst h0 h1 h3 h4 j0 j1 j2 j3 j4;have b3:=bounds_u64 w3;obtain⟨x3,rfl⟩:=Int.eq_ofNat_of_zero_le b3.1;have hr:=reg_ok v0 v1 v2 v3 v4;rcases open_ints underlying39 underlying5 nM e5 with⟨hx,_⟩|⟨ad,len,cap,zs,hx,_,hle,hm,hz,_,xV,Ie⟩
  ·simp at hx;subst hx;exact⟨⟨x0,x1,⟨a0,a1,a2,a3,a4⟩,x3,x4,0,fun _ =>0⟩,none,0,rfl,hr,by show x3<_;omega,wS _,(fun h=>by cases h),(fun _ =>by show 0<256;omega),.inl rfl⟩
  ·simp at hx;subst hx;have GI:=range_u8 Ie;have hlz:len<=zs.length:=by rw[hz];split<;>omega
   refine⟨⟨x0,x1,⟨a0,a1,a2,a3,a4⟩,x3,x4,len,fun i=>(zs[i]?.getD 0).toNat⟩,some ad,cap,rfl,hr,by show x3<_;omega,hle,fun _ =>⟨ad,rfl,fun i hi=>?_⟩,fun i=>by have:=GI i;show(zs[i]?.getD 0).toNat<256;omega,.inr ?_⟩
   ·have:=GI i;have Bn:i<len:=hi;rw[xV i o_,List.getD_eq_getElem?_getD];have e9:zs[i]?.getD 0=((zs[i]?.getD 0).toNat:Int):=o_;exact congrArg (fun z=>some (Value.int .u8 z)) e9
   ·rcases DataW.trod_slice underlying39 e5 with⟨Aq,_⟩|⟨a,len',xq,elems,rest,n3,_,Aq,BA,_,_,_,hel,_⟩
    ·simp at Aq
    ·simp at Aq;obtain⟨_,rfl,_⟩:=Aq;refine⟨rest.length,?_⟩;rw[hy,DataW.weights,underlying47];refine DataW.weights_mem_each (j:=5) rfl rfl _ ?_;rw[BA];show _ ∈DataW.weights prog 39 _;rw[DataW.weights,underlying39];refine List.mem_cons.2 (.inl ?_);rw[List.length_map,List.length_map,hel]
theorem u8_bytes:prog.bytesOf 5=1:=k_
theorem sM {a:Option Addr}(h:DataW.Trod enc prog w base spare held 25 (.slice a len cap) d p)(hR: ∀x∈d.weights prog 25,x<=reachBytes):lA w a len cap:=by
 obtain⟨fuel,hf⟩:=h;rcases open_slice underlying25 hf with⟨Aq,_⟩|⟨x,l,c,m,n,D,Pl,Aq,_,hl,hm,EC,hx,hi⟩
 ·simp[Value.cells]at Aq;obtain⟨rfl,rfl,rfl⟩:=Aq;exact⟨o_,fun _ =>⟨[],rfl,fun j x h=>by simp at h⟩⟩
 ·simp[Value.cells]at Aq;obtain⟨rfl,rfl,rfl⟩:=Aq;have hlm:len<=m:=by rw[EC];split<;>omega
  refine⟨by unfold maxLen at hm;omega,fun h300=>?_⟩;rw[Prod.mk.injEq]at hx;have hd:=hx.1;have key: ∀i,i<len-> ∃o:O11,∃A cq,(∀(j:Nat) (v:Value),(opV o A cq)[j]? =some v->w.cell? (x.add (i*10+j))=some v)/\o.r.Ok/\o.addr<18446744073709551616/\o.q<=140737488355328/\o.q<=cq/\ap w A o.q o.d/\(∀j,o.d j<256):=by
   intro i Hb;obtain⟨cs',hc,ht⟩:=hi i o_;obtain⟨o,A,cq,rfl,h1,h2,h3,h4,h5,h6⟩:=oy ht;rw[lL]at hc;obtain⟨_,BE,yr⟩:=World.cells?_some hc;refine⟨o,A,cq,fun j v hv=>?_,h1,h2,?_,h3,h4,h5⟩
   ·have hj:j<10:=(wO hv).1;rw[<-Go.Deep.add_add,yr j hj];rw[Array.getElem?_toList];exact hv
   ·rcases h6 with h6|⟨s,h6⟩
    ·omega
    ·have h7:(o.q+s)*prog.bytesOf 5<=reachBytes:=by
      refine hR _ ?_;rw[hd,DataW.weights,underlying25];exact List.mem_cons.2 (.inr (List.mem_append.2 (.inl (gz (d:=D i) (List.mem_map.2 ⟨i,List.mem_range.2 Hb,rfl⟩) h6))))
     rw[u8_bytes,Nat.mul_one]at h7;have:reachBytes<=140737488355328:=d_;omega
  rcases Nat.eq_zero_or_pos len with rfl|xZ
  ·exact⟨[],rfl,fun j x h=>by simp at h⟩
  have zZ:x.spot=none:=by
   obtain⟨o,A,cq,h1,_⟩:=key 0 xZ;have h2:=World.cell?_spot (h1 0 _ rfl);simpa [Addr.add]using h2
  obtain⟨ops,hlen,yb⟩:=mP len key;refine⟨ops,hlen,fun k o hk=>?_⟩;obtain⟨A,cq,h1,h2,h3,h4,h5,h6,h7⟩:=yb k o hk;obtain⟨b,off,sp⟩:=x;obtain rfl:sp=none:=zZ;refine⟨b,off,A,cq,rfl,?_,fun i v hv=>?_,h2,h3,h4,h5,h6,h7⟩
  ·have h8:=h1 0 _ rfl;rw[ny]at h8;exact World.block_lt_of_cell? w _ h8
  ·have h8:=h1 i v hv;rw[ny]at h8;exact h8
end
end
section
open Go.RowKit Go.Sort
theorem tM.below {w w':World}{P:Option Addr}{ops:List O11}(h:tM w P ops)(hb:Below w.heap.size w w'):tM w' P ops:=fun j o hj=>by
 obtain⟨b,off,A,cq,h1,h2,h3,h4,h5,h6,h7,h8,h9⟩:=h j o hj;exact⟨b,off,A,cq,h1,wW h2 hb.size,fun i v hv=>(hb.cell (p:=⟨b,off+j*10+i,none⟩) h2).trans (h3 i v hv),h4,h5,h6,h7,h8.kept hb,h9⟩
def VastPost (w:World)(P:Option Addr)(n cap k:Nat)(N:Int)(e:Ending)(w':World):Prop:= ∃b:Bool,e= .returned (.bool b)/\(b=false->(k:Int)<=80/\N<=128/\ ∃l,In11 w P n cap l)/\Below w.heap.size w w'
theorem tT (P:Option Addr)(n cap k AR:Nat)(Q:Option Addr)(N:Int)(w:World)(hF:jG w P n cap)(hO:lA w Q k AR):
  Calls prog 9 #[.agg #[.slice P n cap,.int .i64 N],.slice Q k AR] w (VastPost w P n cap k N):=by
 have xz:Below w.heap.size w (w.alloc (.cells #[.slice P n cap,.int .i64 N] 24)):=wR;have yd:=wP xz;by_cases h1:(80:Int)<(k:Int)
 ·clear hF hO xz;go_enter func9,ntmps9;go_wp2_with fail;go_ret;exact⟨true,rfl,fun e=>(by cases e),yd.o⟩
 by_cases h2:128<N
 ·clear hF hO xz;go_enter func9,ntmps9;go_wp2_with fail;go_ret;exact⟨true,rfl,fun e=>(by cases e),yd.o⟩
 by_cases h3:(64:Int)<(n:Int)
 ·clear hF hO xz;go_enter func9,ntmps9;go_wp2_with fail;go_ret;exact⟨true,rfl,fun e=>(by cases e),yd.o⟩
 obtain⟨l,hl,hE⟩:=hF.2.2 o_;obtain⟨ops,RB,Km⟩:=hO.2 o_;have hg:=vr P n cap l _ (hE.below xz) hl.symm o_;cases JK:gE 0 l with
 |true=>
  rw[JK]at hg;have HG:=wP hg;clear hF hO xz hg hE Km hl RB JK;go_enter func9,ntmps9;go_wp2_with (first
   |(go_at_call 36;refine(HG.o).mono ?_;rintro e w1⟨rfl,xu⟩)
   |fail)
  go_ret;exact⟨true,rfl,fun e=>(by cases e),yd.o.trans (xu.mono yd.o.size)⟩
 |false=>
  rw[JK]at hg;have HG:=wP hg;have yQ:Hid (In11 w P n cap l):=wP ⟨hE,hl.symm,o_,hF.1,fun x hx=>tv (oO JK x hx)⟩;obtain⟨Tk,HOL⟩:=zh2 Km RB;clear hF hO xz hg hE Km hl RB JK;go_enter func9,ntmps9;go_wp2_with (first
   |(go_at_call 36;refine(HG.o).mono ?_;rintro e w1⟨rfl,xu⟩;have xI:=wP (yd.o.trans (xu.mono yd.o.size));clear xu)
   |fail)
  go_loopw [5,6] (fun sv i wr=> ∃j s:Nat,j<=k/\i= .int .i64 (j:Int)/\sv= .int .i64 (s:Int)/\s<=262144/\Below w.heap.size w wr) (fun _ i _ =>k-(intOf i).toNat)
  case atStart=>exact⟨0,0,o_,rfl,rfl,o_,xI.o⟩
  case round=>
   obtain⟨j,s,hj,rfl,rfl,hs,zI⟩:=hrel;have AD:=wP zI;clear zI;by_cases xw:j<k
   ·obtain⟨o,ho⟩: ∃o,ops[j]? =some o:=⟨_,wV (by rw[HOL.o];exact xw)⟩;obtain⟨b,off,A,cq,rfl,Cz,hc,_,_,hq,_⟩:=(Tk.o.below AD.o) j o ho;have c9:wr.cell? ⟨b,off+j*10+9,none⟩=some (.slice A o.q cq):=hc 9 _ rfl;obtain⟨q,hqd⟩:=e_ o.q;rw[<-hqd]at c9 hq;obtain⟨a,ha⟩:=e_ (min q 262144);have DI:a<=262144:=o_;have i1:min (q:Int) 262144=(a:Int):=o_;have CR:(j:Int)<(k:Int):=o_;clear hc ho hqd ha;go_upto_region 8 with(fail);by_cases RU:(262144:Int)<(s:Int)+(a:Int)
    ·go_wp2_with fail;go_ret;exact⟨true,rfl,fun e=>(by cases e),AD.o⟩
    ·go_wp2_with fail;go_roundw
     case rel=>exact⟨j+1,s+a,o_,by go_num,by go_num,o_,AD.o⟩
     case measure=>(simp[intOf];omega)
   ·obtain rfl:j=k:=o_;go_wp2_with fail;go_ret;exact⟨false,rfl,fun _ =>⟨o_,o_,l,yQ.o⟩,AD.o⟩
end
section
open Go.RowKit Go.Sort
def BegunNo (w:World)(e:Ending)(w':World):Prop:=e= .returned (.tuple #[.pointer none,.bool true])/\Below w.heap.size w w'
theorem vW (P:Option Addr)(n cap:Nat)(N:Int)(l:List Ent)(w:World)(ym:In11 w P n cap l)(hN:N<=128)(Ah:(newM [aD] 0 l).1≠0\/N<1)(BD:DB w)(xv:0<w.heap.size):
  Calls prog 11 #[.agg #[.slice P n cap,.int .i64 N]] w (BegunNo w):=by
 obtain⟨w0,BK⟩:=e_ (w.alloc (.cells #[.slice P n cap,.int .i64 N] 24));have xz:Below w.heap.size w w0:=(by rw[BK];exact wR);have Ej:w0.heap[w.heap.size]? =some (.cells #[.slice P n cap,.int .i64 N] 24 (0,0)):=(by rw[BK];exact ab w _);have yC:=qM P n cap l w0 (ym.ents.below xz) ym.len ym.few ym.small;have xT:=xz.size;have x0:w0.cell? ⟨w.heap.size,0,none⟩=some (.slice P n cap):=aa Ej 0;have Ms:l.length<=64:=(by rw[<-ym.len];exact ym.few);obtain⟨HTW,xU,yd,Fv,Oc,Po,yQ,Jz⟩:=zh8 yC BK xz Ej BD Ms ym Ah;clear yC BK xz Ej BD ym Ms Ah;obtain⟨er,Bs⟩:=e_ ((newM [aD] 0 l).1);have Ai:Hid (∀(R:Option Addr) (cp:Nat) (W:World),gH W R l->l.length<=cp->Calls prog 37 #[.slice R l.length cp] W fun e w'=> ∃v q,e= .returned (.tuple #[.pointer v,.int .i64 er,.int .i64 q])/\Below W.heap.size W w'):=wP fun R cp W hE zm=>by
  by_cases h0:er=0
  ·refine(kg R cp l W hE zm Po.o (Bs.symm.trans h0)).mono ?_;rintro e w'⟨fs,rfl,_,hb⟩;exact⟨_,_,by rw[h0],hb⟩
  ·refine(vnew_err R cp l W hE zm Po.o (Bs▸h0)).mono ?_;rintro e w'⟨q,rfl,hb⟩;exact⟨_,_,by rw[Bs],hb⟩
 have HREF:Hid (∀(W:World),Below w.heap.size w W->Calls prog 12 #[.slice P n cap] W fun e w'=> ∃v q,e= .returned (.tuple #[.pointer v,.int .i64 er,.int .i64 q])/\Below W.heap.size W w'):=wP fun W hW=>by
  by_cases h0:er=0
  ·refine(og P n cap l W (yQ.o.ents.below hW) yQ.o.len yQ.o.cap yQ.o.few yQ.o.small (Bs.symm.trans h0)).mono ?_;rintro e w'⟨q,rfl,_,hb⟩;exact⟨_,_,by rw[h0],hb⟩
  ·refine(rnew_bad P n cap l W (yQ.o.ents.below hW) yQ.o.len yQ.o.cap yQ.o.few yQ.o.small (Bs▸h0)).mono ?_;rintro e w'⟨q,rfl,hb⟩;exact⟨_,_,by rw[Bs],hb⟩
 have HB:=wP (show er≠0\/N<1 by rw[Bs];exact Jz.o);have hee:(er != er)=false:=s_;clear Bs Jz;go_enter func11,ntmps11;go_upto_region 1 with(fail);rw[<-xU.o];go_upto_region 3 with(first
  |(go_at_call 40;refine(HTW.o).mono ?_;rintro e w1⟨R,cp,rfl,hE,zm,xu⟩;obtain⟨HE,Oe,xI,DC⟩:=zh4 hE zm (yd.o.trans (xu.mono xT)) ((xu.block _ (wO Fv.o).1).trans Fv.o);clear hE zm xu)
  |(go_at_call 37;refine(Ai.o R cp _ HE.o Oe.o).mono ?_;rintro e w2⟨fs,q1,rfl,xx⟩;have xQ:=xI.o.size;obtain⟨yW,Fu⟩:=zh2 (xI.o.trans (xx.mono xQ)) ((xx.block _ (wO DC.o).1).trans DC.o);have x2:w2.cell? ⟨w.heap.size,0,none⟩=some (.slice P n cap):=aa Fu.o 0;have xX:=yW.o.size;clear xx)
  |(go_at_call 12;refine(HREF.o _ yW.o).mono ?_;rintro e w3⟨v3,q3,rfl,xE⟩;obtain⟨yZ,CF⟩:=zh2 (yW.o.trans (xE.mono xX)) ((xE.block _ (wO Fu.o).1).trans Fu.o);have x3:w3.cell? ⟨w.heap.size,1,none⟩=some (.int .i64 N):=aa CF.o 1;have Ty:=wP (Oc.o.same (yZ.o.block 0 xv));have zy:=yZ.o.size;clear xE)
  |fail)
 have hN4:N<=1024:=o_;have HFN:=wP (fnew11 N w3 hN4 Ty.o o_);by_cases hp:1<=N
 ·have Bs:er≠0:=HB.o.elim id (fun e=>o_);have xA:(er != 0)=true:=(by rw[bne_iff_ne];exact Bs);go_upto_region 4 with(first
   |(go_at_call 38;refine(HFN.o).mono ?_;rintro e w4⟨v4,h4,rfl,hh,yG⟩;have Ax:=wP (yZ.o.trans (yG.mono zy));have x4:w4.cell? ⟨w.heap.size,1,none⟩=some (.int .i64 N):=aa ((yG.block _ (wO CF.o).1).trans CF.o) 1;clear yG)
   |fail)
  obtain rfl:h4=0:=hh.2 hp;clear hh x0 x2 x3;go_wp2_with fail;go_ret2;exact⟨rfl,Ax.o⟩
 ·go_upto_region 4 with(first
   |(go_at_call 38;refine(HFN.o).mono ?_;rintro e w4⟨v4,h4,rfl,hh,yG⟩;have Ax:=wP (yZ.o.trans (yG.mono zy));have x4:w4.cell? ⟨w.heap.size,1,none⟩=some (.int .i64 N):=aa ((yG.block _ (wO CF.o).1).trans CF.o) 1;clear yG)
   |fail)
  have Ky:h4≠0:=fun e=>by have:=hh.1 e;omega
  have hh1:(h4==0)=false:=(by rw[xf];exact Ky);have Zx:(h4 != 0)=true:=(by rw[bne_iff_ne];exact Ky);clear hh x0 x2 x3 Ky;by_cases Bs:er=0
  ·have xA:(er != 0)=false:=(by rw[Bs];rfl);clear Bs;go_wp2_with fail;go_ret2;exact⟨rfl,Ax.o⟩
  ·have xA:(er != 0)=true:=(by rw[bne_iff_ne];exact Bs);clear Bs;go_wp2_with fail;go_ret2;exact⟨rfl,Ax.o⟩
end
section
open Go.RowKit Go.Sort
variable {w w':World}{hb B c a fs m:Nat}{S S':Nat->Prop}{F:List Nd}{clock xr:Int}{p p':Pool}{L L':List Slot}{l l':List SpM}{R R':Option Addr}{cr:Nat}{ls:List Nat}{o:O11}{k:Nat}{x:SpM}
theorem Do11.n {er:Int}(h:Hse w B c a fs m S F clock p L l)(hd:Do11 F p L l o er p' L' l'):p'.n=p.n:=by
 cases hd with
 |idle=>rfl
 |new s t f p' L' _ ht=>exact ht.size.1
 |newNo f _ ht=>rfl
 |gone=>rfl
 |no=>rfl
 |map k x T A' xq p' T' _ _ hk hT _ hr=>exact(hr.far (fun _ =>False)).n
 |unmap k x T A' xq p' T' _ _ hk hT _ hr=>exact(hr.far (fun _ =>False)).n
 |prot k x T A' xq p' T' q _ _ hk hT _ _ hr=>exact(hr.far (fun _ =>False)).n
 |load k x T want er kk d p' L' T' _ _ hk hT hr=>exact((hr.kept (h.sp hk hT) (h.ownT hk hT)).far (fun _ =>False)).n
 |store k x T want er p' L' T' _ _ hk hT hr=>exact((hr.left (h.sp hk hT) (h.ownT hk hT)).2.1 (fun _ =>False)).n
 |forkNo k x T p' L' _ _ hk hT hr=>exact(hr.far (fun _ =>False)).n
 |fork k x T s2 t2 f A' xq p' L' T' T2 _ _ hk hT hr=>exact(hr.far (fun _ =>False)).n
 |free k x T _ _ hk hT=>exact kZ _ _
variable {A:Option Addr}
theorem ap.ltA {n:Nat}{d:Nat->Nat}{ad:Addr}(h:ap w A n d)(e:A=some ad)(h0:0<n):ad.block<w.heap.size:=by
 obtain⟨x,e2,hx⟩:=h h0;rw[e]at e2;injection e2 with e2;subst e2;have h1:=World.block_lt_of_cell? _ _ (hx 0 h0)
 rwa [Addr.add_blk]at h1
theorem pl.of {w0:World}{cq:Nat}(hB:w0.heap.size<=B)(hb:Below w0.heap.size w0 w)(h4:o.r.Ok)(h5:o.addr<18446744073709551616)(h6:o.q<=140737488355328)(h7:o.q<=cq)(h8:ap w0 A o.q o.d)(h9: ∀j,o.d j<256):pl w B o A cq:=
 ⟨h4,h5,h6,h7,h8.kept hb,h9,fun ad e h0=>wW (h8.ltA e h0) hB⟩
end
section
open Go.RowKit Go.Sort
variable {w w':World}{P:Option Addr}{n cap:Nat}
theorem jG.below (h:jG w P n cap)(hb:Below w.heap.size w w'):jG w' P n cap:=
 ⟨h.1,h.2.1,fun h3=>by obtain⟨l,h4,h5⟩:=h.2.2 h3;exact⟨l,h4,h5.below hb⟩⟩
theorem lA.below (h:lA w P n cap)(hb:Below w.heap.size w w'):lA w' P n cap:=
 ⟨h.1,fun h3=>by obtain⟨l,h4,h5⟩:=h.2 h3;exact⟨l,h4,h5.below hb⟩⟩
theorem In11.below {l:List Ent}(h:In11 w P n cap l)(hb:Below w.heap.size w w'):In11 w' P n cap l:=⟨h.ents.below hb,h.len,h.few,h.cap,h.small⟩
def wF (w:World)(e:Ending)(w':World):Prop:=e= .returned (.bool true)/\Below w.heap.size w w'
theorem Hou.start {hb B c a fs m:Nat}{S:Nat->Prop}{F:List Nd}{clock:Int}{p:Pool}(h:Hse w B c a fs m S F clock p [] [])(hs:iK w hb fs a c none 0 0)(hB:B<=hb)(h1: ¬S hb)(h2:hb≠m)(h3:hb≠c):Hou w hb B c a fs m S F clock p [] [] none 0 (([]:List SpM).map (·.s)):=
 ⟨h,hs,OwnG.nil _ _,hB,fun e=>e.elim h1 (fun e=>e.elim h2 h3),fun k x hk=>(by rw[List.getElem?_nil]at hk;cases hk),(fun g e=>by cases e),fun k x hk=>(by rw[List.getElem?_nil]at hk;cases hk)⟩
end
