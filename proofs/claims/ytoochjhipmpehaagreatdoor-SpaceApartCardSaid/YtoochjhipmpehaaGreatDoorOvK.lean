/- What comes in at the spaces' laws: files; The spaces' laws: Vast. -/
import Derived.Test.YtoochjhipmpehaaGreatDoorHmK
import Derived.Test.YtoochjhipmpehaaGreatDoorOpAK
import Derived.ChangeSlices
import Derived.SizedLaws
set_option linter.unusedVariables false
set_option linter.unusedSimpArgs false
set_option maxRecDepth 100000
set_option maxHeartbeats 4000000
namespace Go.Proofs.YtoochjhipmpehaaGreatDoor
section
open Go.ChangeShapes Go.WideShapes Go.ChangeAt Go.RowKit Go.Deep Go.Joins
theorem mu {b off i j n:Nat} :(⟨b,off,none⟩:Addr).add (i*n+j)=⟨b,off+i*n+j,none⟩:=by
 unfold Addr.add;split
 ·next h=>
  have h1:i*n=0:=(by omega);have h2:j=0:=(by omega);simp[h1,h2]
 ·show(⟨b,off+(i*n+j),none⟩:Addr)=_;rw[Nat.add_assoc]
theorem lU {α:Type} {P:Nat->α->Prop} : ∀n:Nat,(∀i,i<n-> ∃r,P i r)-> ∃l:List α,l.length=n/\ ∀k r,l[k]? =some r->P k r
 |0,_ =>⟨[],rfl,fun k r h=>by simp at h⟩
 |n+1,h=>by
  obtain⟨l,hl,hp⟩:=lU n (fun i hi=>h i (by omega));obtain⟨r,hr⟩:=h n (by omega);refine⟨l++[r],by simp[hl],fun k x hx=>?_⟩;by_cases hk:k<l.length
  ·rw[vk hk]at hx;exact hp k x hx
  ·rw[vj (by omega)]at hx;have h0:k-l.length=0:=by
    have:=(List.getElem?_eq_some_iff.1 hx).1;simp at this;omega
   rw[h0]at hx;simp at hx;subst hx;have:k=n:=(by omega);rw[this];exact hr
def iX (w:World) (P:Option Addr) (n cap:Nat):Prop:=n<=cap/\n<=9223372036854775807/\(n<=300-> ∃l:List Ent,l.length=n/\eU w P l)
def rV (w:World) (P:Option Addr) (ops:List O11):Prop:= ∀(j:Nat) (o:O11),ops[j]? =some o-> ∃b off A cq,P=some ⟨b,off,none⟩/\b<w.heap.size/\(∀(i:Nat) (v:Value),(opV o A cq)[i]? =some v->w.cell? ⟨b,off+j*10+i,none⟩=some v)/\o.r.Ok/\o.addr<18446744073709551616/\o.q<=140737488355328/\o.q<=cq/\au w A o.q o.d/\(∀j,o.d j<256)
def ie (w:World) (P:Option Addr) (n cap:Nat):Prop:=n<=9223372036854775807/\(n<=300-> ∃ops:List O11,ops.length=n/\rV w P ops)
section
variable {H:Type} {enc:TypeId×Value->H} {w:World} {base:Nat} {spare:Nat->Bool} {held:Bool}
theorem nN:Tryz.prog.cellsOf 93=7:=by kernel_rfl
theorem tX:oneCellFields Tryz.prog (Tryz.prog.fieldsOf 93)=true:=by kernel_rfl
theorem tW:Tryz.prog.underlying 93=some (.struct (Tryz.prog.fieldsOf 93)):=by kernel_rfl
theorem qn:(Tryz.prog.fieldsOf 93).size=7:=by kernel_rfl
theorem ent_f0:((Tryz.prog.fieldsOf 93)[0]?).map (·.type)=some 9:=by kernel_rfl
theorem ent_f1:((Tryz.prog.fieldsOf 93)[1]?).map (fun f=>Tryz.prog.underlying f.type)=some (some (.int .u8)):=by kernel_rfl
theorem ent_f2:((Tryz.prog.fieldsOf 93)[2]?).map (fun f=>Tryz.prog.underlying f.type)=some (some (.int .u16)):=by kernel_rfl
theorem ent_f3:((Tryz.prog.fieldsOf 93)[3]?).map (fun f=>Tryz.prog.underlying f.type)=some (some (.int .u32)):=by kernel_rfl
theorem ent_f4:((Tryz.prog.fieldsOf 93)[4]?).map (fun f=>Tryz.prog.underlying f.type)=some (some (.int .u32)):=by kernel_rfl
theorem ent_f5:((Tryz.prog.fieldsOf 93)[5]?).map (·.type)=some 39:=by kernel_rfl
theorem ent_f6:((Tryz.prog.fieldsOf 93)[6]?).map (·.type)=some 9:=by kernel_rfl
theorem mI:Tryz.prog.cellsOf 5=1:=by kernel_rfl
variable {n fuel j:Nat} {fs:Array Field} {a:Addr} {ys:List (DataW H×List MemPlace)}
theorem fK {k:IntKind} (hf:(fs[j]?).map (fun f=>Tryz.prog.underlying f.type)=some (some (.int k)))
  (h: ∀(j:Nat) (f:Field),fs[j]? =some f-> ∃(v:Value) (y:DataW H×List MemPlace),w.cell? (a.add (n+j))=some v/\ys[j]? =some y/\DataW.trod enc Tryz.prog w base spare held fuel f.type [v]=some y):
  ∃x:Int,w.cell? (a.add (n+j))=some (.int k x)/\(Lit.int k x).wf=true:=by
 obtain⟨f,AH,IL⟩:=Option.map_eq_some_iff.1 hf;obtain⟨v,y,hc,_,LO⟩:=h j f AH;obtain⟨x,hx,_,hw⟩:=DataW.trod_int IL LO;simp at hx;subst hx;exact⟨x,hc,hw⟩
theorem fh (hf:(fs[j]?).map (·.type)=some 9)
  (h: ∀(j:Nat) (f:Field),fs[j]? =some f-> ∃(v:Value) (y:DataW H×List MemPlace),w.cell? (a.add (n+j))=some v/\ys[j]? =some y/\DataW.trod enc Tryz.prog w base spare held fuel f.type [v]=some y):
  ∃x:ByteArray,w.cell? (a.add (n+j))=some (.string x)/\x.size<=9223372036854775807:=by
 obtain⟨f,AH,IL⟩:=Option.map_eq_some_iff.1 hf;obtain⟨v,y,hc,_,LO⟩:=h j f AH;rw[IL]at LO;obtain⟨x,hx,_,hw⟩:=DataW.trod_string Tryz.underlying9 LO;simp at hx;subst hx;exact⟨x,hc,by unfold maxLen at hw;omega⟩
theorem oZ (hf:(fs[j]?).map (·.type)=some 39)
  (h: ∀(j:Nat) (f:Field),fs[j]? =some f-> ∃(v:Value) (y:DataW H×List MemPlace),w.cell? (a.add (n+j))=some v/\ys[j]? =some y/\DataW.trod enc Tryz.prog w base spare held fuel f.type [v]=some y):
  ∃(A:Option Addr) (k c:Nat) (dat:Nat->Nat),w.cell? (a.add (n+j))=some (.slice A k c)/\k<=9223372036854775807/\(∀i,dat i<256)/\au w A k dat/\eK A k c:=by
 obtain⟨f,AH,IL⟩:=Option.map_eq_some_iff.1 hf;obtain⟨v,y,hc,_,LO⟩:=h j f AH;rw[IL]at LO;rcases open_ints Tryz.underlying39 Tryz.underlying5 mI LO with⟨hx,_⟩|⟨ad,len,cap,zs,hx,_,hl,hm,hz,_,vU,Fv⟩
 ·simp at hx;subst hx;exact⟨none,0,0,fun _ =>0,hc,by omega,fun _ =>by show 0<256;omega,fun h=>by omega,fun _ =>⟨rfl,rfl⟩⟩
 ·simp at hx;subst hx;have hr:=range_u8 Fv;have hlz:len<=zs.length:=by rw[hz];split<;>omega
  refine⟨some ad,len,cap,fun i=>(zs[i]?.getD 0).toNat,hc,by unfold maxLen at hm;omega,fun i=>by have:=hr i;show(zs[i]?.getD 0).toNat<256;omega,fun _ =>⟨ad,rfl,fun i hi=>?_⟩,fun e=>by cases e⟩;have:=hr i;rw[vU i (by omega),List.getD_eq_getElem?_getD];have e9:zs[i]?.getD 0=((zs[i]?.getD 0).toNat:Int):=(by omega);exact congrArg (fun z=>some (Value.int .u8 z)) e9
variable {len cap:Nat}
theorem jV {a:Option Addr} {x:DataW H×List MemPlace} (hf:DataW.trod enc Tryz.prog w base spare held fuel 22 [.slice a len cap]=some x):iX w a len cap:=by
 rcases ee Tryz.underlying22 tW tX (by rw[nN,qn]) hf with⟨yK,_⟩|⟨x,l,c,m,D,Pl,yK,_,hl,hm,Cx,_,hi⟩
 ·simp at yK;obtain⟨rfl,rfl,rfl⟩:=yK;exact⟨vd _,by omega,fun _ =>⟨[],rfl,fun j x h=>by simp at h⟩⟩
 ·simp at yK;obtain⟨rfl,rfl,rfl⟩:=yK;have hlm:len<=m:=by rw[Cx];split<;>omega
  refine⟨hl,by unfold maxLen at hm;omega,fun h300=>?_⟩;rcases Nat.eq_zero_or_pos len with rfl|wo
  ·exact⟨[],rfl,fun k r h=>by simp at h⟩
  have ya:x.spot=none:=by
   obtain⟨ys,n,_,_,_,yz⟩:=hi 0 (by omega);rw[qn]at yz;obtain⟨x0,c0,w0⟩:=fh ent_f0 yz;have h1:=World.cell?_spot c0;simpa [Addr.add]using h1
  have key: ∀i,i<len-> ∃r:Ent,∃b off A c,x=⟨b,off,none⟩/\pD w b (off+i*7) r A c/\au w A r.n r.dat/\eK A r.n c/\uT r:=by
   intro i Ig;obtain⟨ys,n,_,_,_,yz⟩:=hi i (by omega);rw[qn]at yz;obtain⟨x0,c0,w0⟩:=fh ent_f0 yz;obtain⟨x1,c1,w1⟩:=fK ent_f1 yz;obtain⟨x2,c2,w2⟩:=fK ent_f2 yz;obtain⟨x3,c3,w3⟩:=fK ent_f3 yz;obtain⟨x4,c4,w4⟩:=fK ent_f4 yz;obtain⟨A,k,cc,dat,c5,hk,hd,hB,wW⟩:=oZ ent_f5 yz;obtain⟨x6,c6,w6⟩:=fh ent_f6 yz;obtain⟨b,off,sp⟩:=x;obtain rfl:sp=none:=ya;rw[mu]at c0 c1 c2 c3 c4 c5 c6;have b1:0<=x1:=(bounds_u8 w1).1;have b2:0<=x2:=(bounds_u16 w2).1;have b3:0<=x3:=(bounds_u32 w3).1;have b4:0<=x4:=(bounds_u32 w4).1;obtain⟨x1,rfl⟩:=Int.eq_ofNat_of_zero_le b1;obtain⟨x2,rfl⟩:=Int.eq_ofNat_of_zero_le b2;obtain⟨x3,rfl⟩:=Int.eq_ofNat_of_zero_le b3;obtain⟨x4,rfl⟩:=Int.eq_ofNat_of_zero_le b4;exact⟨⟨x0,x1,x2,x3,x4,k,dat,x6⟩,b,off,A,cc,rfl,⟨c0,c1,c2,c3,c4,c5,c6⟩,hB,wW,⟨w0,w6,hk,by have:=(bounds_u16 w2).2;show x2<65536;omega,hd⟩⟩
  obtain⟨lst,hlen,xk⟩:=lU (P:=fun i r=> ∃b off A c,x=⟨b,off,none⟩/\pD w b (off+i*7) r A c/\au w A r.n r.dat/\eK A r.n c/\uT r) len key;refine⟨lst,hlen,fun k r hr=>?_⟩;obtain⟨b,off,A,c,hx,h1,h2,h3,h4⟩:=xk k r hr;exact⟨b,off,A,c,by rw[hx],h1,h2,h3,h4⟩
theorem ma:Tryz.prog.cellsOf 24=2:=by kernel_rfl
variable {d:DataW H} {p:List MemPlace}
theorem nr {b0:Nat} {v:Value} (hv:Value.okWide Tryz.prog w .any b0 24 v) (h:DataW.Trod enc Tryz.prog w base spare held 24 v d p):
  ∃P n cap N,v= .agg #[.slice P n cap, .int .i64 N]/\iX w P n cap:=by
 obtain⟨v0,v1,y0,y1,n,rfl,_,_,e0,e1⟩:=open_agg2 Tryz.underlying24 (by kernel_rfl) ma hv h;obtain⟨x1,h1,_,w1⟩:=DataW.trod_int Tryz.underlying3 e1;simp at h1;subst h1;rcases ee Tryz.underlying22 tW tX (by rw[nN,qn]) e0 with⟨yK,_⟩|⟨x,l,c,m,D,Pl,yK,_,hl,hm,Cx,_,hi⟩
 ·simp at yK;subst yK;exact⟨_,_,_,_,rfl,jV e0⟩
 ·simp at yK;subst yK;exact⟨_,_,_,_,rfl,jV e0⟩
variable {P:Program} {t:TypeId} {y:DataW H×List MemPlace}
theorem qE {f0 f1 f2 f3 f4 f5:Field} {c0 c1 c2 c3 c4 c5 c6 c7 c8 c9:Value} (hs:P.underlying t=some (.struct #[f0,f1,f2,f3,f4,f5])) (ho:f0.offset=0/\f1.offset=1/\f2.offset=2/\f3.offset=7/\f4.offset=8/\f5.offset=9)
  (hk:P.cellsOf f0.type=1/\P.cellsOf f1.type=1/\P.cellsOf f2.type=5/\P.cellsOf f3.type=1/\P.cellsOf f4.type=1/\P.cellsOf f5.type=1) (h:DataW.trod enc P w base spare held n t [c0,c1,c2,c3,c4,c5,c6,c7,c8,c9]=some y):
  ∃(y0 y1 y2 y3 y4 y5:DataW H×List MemPlace) (n:Nat),y.1= .agg [y0.1,y1.1,y2.1,y3.1,y4.1,y5.1]/\
   DataW.trod enc P w base spare held n f0.type [c0]=some y0/\DataW.trod enc P w base spare held n f1.type [c1]=some y1/\DataW.trod enc P w base spare held n f2.type [c2,c3,c4,c5,c6]=some y2/\DataW.trod enc P w base spare held n f3.type [c7]=some y3/\DataW.trod enc P w base spare held n f4.type [c8]=some y4/\DataW.trod enc P w base spare held n f5.type [c9]=some y5:=by
 obtain⟨xs,n,_,hx,_,hlen,hg⟩:=DataW.trod_struct hs h;obtain⟨o0,o1,o2,o3,o4,o5⟩:=ho;obtain⟨k0,k1,k2,k3,k4,k5⟩:=hk
 match xs,hlen with
 | [y0,y1,y2,y3,y4,y5],_ =>
  exact⟨y0,y1,y2,y3,y4,y5,n,by rw[hx];rfl,by simpa [o0,k0]using hg 0 f0 rfl,by simpa [o1,k1]using hg 1 f1 rfl,by simpa [o2,k2]using hg 2 f2 rfl,by simpa [o3,k3]using hg 3 f3 rfl,by simpa [o4,k4]using hg 4 f4 rfl,by simpa [o5,k5]using hg 5 f5 rfl⟩
variable {cs:List Value}
theorem trod_len (hs:P.underlying t=some (.struct fs)) (h:DataW.trod enc P w base spare held n t cs=some y):cs.length=P.cellsOf t:=by
 obtain⟨xs,n,_,hx,hl,_⟩:=DataW.trod_struct hs h;exact hl
theorem fN {e:TypeId} {x:Nat} : ∀ {ds:List (DataW H)},d∈ds->x∈d.weights P e->x∈DataW.weightsAll P e ds
 |d0::ds,hd,hx=>by
  rw[DataW.weightsAll,List.mem_append];rcases List.mem_cons.1 hd with rfl|h
  ·exact .inl hx
  ·exact .inr (fN h hx)
theorem nt (h:DataW.trod enc Tryz.prog w base spare held n 47 cs=some y):
  ∃(o:O11) (A:Option Addr) (cq:Nat),cs=(opV o A cq).toList/\o.r.Ok/\o.addr<18446744073709551616/\o.q<=cq/\au w A o.q o.d/\(∀j,o.d j<256)/\(o.q=0\/ ∃s,(o.q+s)*Tryz.prog.bytesOf 5∈y.1.weights Tryz.prog 47):=by
 have hl:=(trod_len Tryz.underlying47 h).trans kU
 match cs,hl with
 | [c0,c1,c2,c3,c4,c5,c6,c7,c8,c9],_ =>
  obtain⟨y0,y1,y2,y3,y4,y5,n,hy,e0,e1,e2,e3,e4,e5⟩:=qE Tryz.underlying47 ⟨by kernel_rfl,by kernel_rfl,by kernel_rfl,by kernel_rfl,by kernel_rfl,by kernel_rfl⟩ ⟨by kernel_rfl,by kernel_rfl,by kernel_rfl,by kernel_rfl,by kernel_rfl,by kernel_rfl⟩ h;obtain⟨z0,z1,z2,z3,z4,n2,g0,g1,g2,g3,g4⟩:=qF Tryz.underlying45 (by kernel_rfl) e2;obtain⟨x0,h0,_,w0⟩:=DataW.trod_int Tryz.underlying3 e0;obtain⟨x1,h1,_,w1⟩:=DataW.trod_int Tryz.underlying3 e1;obtain⟨a0,j0,_,v0⟩:=DataW.trod_int Tryz.underlying43 g0;obtain⟨a1,j1,_,v1⟩:=DataW.trod_int Tryz.underlying43 g1;obtain⟨a2,j2,_,v2⟩:=DataW.trod_int Tryz.underlying5 g2;obtain⟨a3,j3,_,v3⟩:=DataW.trod_int Tryz.underlying3 g3;obtain⟨a4,j4,_,v4⟩:=DataW.trod_int Tryz.underlying43 g4;obtain⟨x3,h3,_,w3⟩:=DataW.trod_int Tryz.underlying43 e3;obtain⟨x4,h4,_,w4⟩:=DataW.trod_int Tryz.underlying3 e4;simp at h0 h1 h3 h4 j0 j1 j2 j3 j4;subst h0 h1 h3 h4 j0 j1 j2 j3 j4;have b3:=bounds_u64 w3;obtain⟨x3,rfl⟩:=Int.eq_ofNat_of_zero_le b3.1;have hr:=reg_ok v0 v1 v2 v3 v4;rcases open_ints Tryz.underlying39 Tryz.underlying5 mI e5 with⟨hx,_⟩|⟨ad,len,cap,zs,hx,_,hle,hm,hz,_,vU,Fv⟩
  ·simp at hx;subst hx;exact⟨⟨x0,x1,⟨a0,a1,a2,a3,a4⟩,x3,x4,0,fun _ =>0⟩,none,0,rfl,hr,by show x3<_;omega,vd _,(fun h=>by cases h),(fun _ =>by show 0<256;omega), .inl rfl⟩
  ·simp at hx;subst hx;have EE:=range_u8 Fv;have hlz:len<=zs.length:=by rw[hz];split<;>omega
   refine⟨⟨x0,x1,⟨a0,a1,a2,a3,a4⟩,x3,x4,len,fun i=>(zs[i]?.getD 0).toNat⟩,some ad,cap,rfl,hr,by show x3<_;omega,hle,fun _ =>⟨ad,rfl,fun i hi=>?_⟩,fun i=>by have:=EE i;show(zs[i]?.getD 0).toNat<256;omega, .inr ?_⟩
   ·have:=EE i;have Ca:i<len:=hi;rw[vU i (by omega),List.getD_eq_getElem?_getD];have e9:zs[i]?.getD 0=((zs[i]?.getD 0).toNat:Int):=(by omega);exact congrArg (fun z=>some (Value.int .u8 z)) e9
   ·rcases DataW.trod_slice Tryz.underlying39 e5 with⟨yK,_⟩|⟨a,len',vA,elems,rest,n3,_,yK,xi,_,_,_,hel,_⟩
    ·simp at yK
    ·simp at yK;obtain⟨_,rfl,_⟩:=yK;refine⟨rest.length,?_⟩;rw[hy,DataW.weights,Tryz.underlying47];refine DataW.weights_mem_each (j:=5) rfl rfl _ ?_;rw[xi];show _ ∈DataW.weights Tryz.prog 39 _;rw[DataW.weights,Tryz.underlying39];refine List.mem_cons.2 (.inl ?_);rw[List.length_map,List.length_map,hel]
theorem u8_bytes:Tryz.prog.bytesOf 5=1:=by kernel_rfl
theorem kT {a:Option Addr} (h:DataW.Trod enc Tryz.prog w base spare held 25 (.slice a len cap) d p) (hR: ∀x∈d.weights Tryz.prog 25,x<=reachBytes):ie w a len cap:=by
 obtain⟨fuel,hf⟩:=h;rcases open_slice Tryz.underlying25 hf with⟨yK,_⟩|⟨x,l,c,m,n,D,Pl,yK,_,hl,hm,Cx,hx,hi⟩
 ·simp[Value.cells]at yK;obtain⟨rfl,rfl,rfl⟩:=yK;exact⟨by omega,fun _ =>⟨[],rfl,fun j x h=>by simp at h⟩⟩
 ·simp[Value.cells]at yK;obtain⟨rfl,rfl,rfl⟩:=yK;have hlm:len<=m:=by rw[Cx];split<;>omega
  refine⟨by unfold maxLen at hm;omega,fun h300=>?_⟩;rw[Prod.mk.injEq]at hx;have hd:=hx.1;have key: ∀i,i<len-> ∃o:O11,∃A cq,(∀(j:Nat) (v:Value),(opV o A cq)[j]? =some v->w.cell? (x.add (i*10+j))=some v)/\o.r.Ok/\o.addr<18446744073709551616/\o.q<=140737488355328/\o.q<=cq/\au w A o.q o.d/\(∀j,o.d j<256):=by
   intro i Ig;obtain⟨cs',hc,ht⟩:=hi i (by omega);obtain⟨o,A,cq,rfl,h1,h2,h3,h4,h5,h6⟩:=nt ht;rw[kU]at hc;obtain⟨_,zL,wK⟩:=World.cells?_some hc;refine⟨o,A,cq,fun j v hv=>?_,h1,h2,?_,h3,h4,h5⟩
   ·have hj:j<10:=(uZ hv).1;rw[<-Go.Deep.add_add,wK j hj];rw[Array.getElem?_toList];exact hv
   ·rcases h6 with h6|⟨s,h6⟩
    ·omega
    ·have h7:(o.q+s)*Tryz.prog.bytesOf 5<=reachBytes:=by
      refine hR _ ?_;rw[hd,DataW.weights,Tryz.underlying25];exact List.mem_cons.2 (.inr (List.mem_append.2 (.inl (fN (d:=D i) (List.mem_map.2 ⟨i,List.mem_range.2 Ig,rfl⟩) h6))))
     rw[u8_bytes,Nat.mul_one]at h7;have:reachBytes<=140737488355328:=(by decide);omega
  rcases Nat.eq_zero_or_pos len with rfl|wo
  ·exact⟨[],rfl,fun j x h=>by simp at h⟩
  have ya:x.spot=none:=by
   obtain⟨o,A,cq,h1,_⟩:=key 0 wo;have h2:=World.cell?_spot (h1 0 _ rfl);simpa [Addr.add]using h2
  obtain⟨ops,hlen,xk⟩:=lU len key;refine⟨ops,hlen,fun k o hk=>?_⟩;obtain⟨A,cq,h1,h2,h3,h4,h5,h6,h7⟩:=xk k o hk;obtain⟨b,off,sp⟩:=x;obtain rfl:sp=none:=ya;refine⟨b,off,A,cq,rfl,?_,fun i v hv=>?_,h2,h3,h4,h5,h6,h7⟩
  ·have h8:=h1 0 _ rfl;rw[mu]at h8;exact World.block_lt_of_cell? w _ h8
  ·have h8:=h1 i v hv;rw[mu]at h8;exact h8
end
end
section
open Go.RowKit Go.Sort
theorem rV.below {w w':World} {P:Option Addr} {ops:List O11} (h:rV w P ops) (hb:Below w.heap.size w w'):rV w' P ops:=fun j o hj=>by
 obtain⟨b,off,A,cq,h1,h2,h3,h4,h5,h6,h7,h8,h9⟩:=h j o hj;exact⟨b,off,A,cq,h1,vh h2 hb.size,fun i v hv=>(hb.cell (p:=⟨b,off+j*10+i,none⟩) h2).trans (h3 i v hv),h4,h5,h6,h7,h8.kept hb,h9⟩
def VastPost (w:World) (P:Option Addr) (n cap k:Nat) (N:Int) (e:Ending) (w':World):Prop:= ∃b:Bool,e= .returned (.bool b)/\(b=false->(k:Int)<=80/\N<=128/\ ∃l,In11 w P n cap l)/\Below w.heap.size w w'
theorem mG (P:Option Addr) (n cap k xS:Nat) (Q:Option Addr) (N:Int) (w:World) (hF:iX w P n cap) (hO:ie w Q k xS):
  Calls Tryz.prog 9 #[.agg #[.slice P n cap, .int .i64 N], .slice Q k xS] w (VastPost w P n cap k N):=by
 have vF:Below w.heap.size w (w.alloc (.cells #[.slice P n cap, .int .i64 N] 24)):=vc;have wO:=va vF;by_cases h1:(80:Int)<(k:Int)
 ·clear hF hO vF;go_enter Tryz.func9,Tryz.ntmps9;go_wp2_with fail;go_ret;exact⟨true,rfl,fun e=>(by cases e),wO.out⟩
 by_cases h2:128<N
 ·clear hF hO vF;go_enter Tryz.func9,Tryz.ntmps9;go_wp2_with fail;go_ret;exact⟨true,rfl,fun e=>(by cases e),wO.out⟩
 by_cases h3:(64:Int)<(n:Int)
 ·clear hF hO vF;go_enter Tryz.func9,Tryz.ntmps9;go_wp2_with fail;go_ret;exact⟨true,rfl,fun e=>(by cases e),wO.out⟩
 obtain⟨l,hl,hE⟩:=hF.2.2 (by omega);obtain⟨ops,Pg,Hw⟩:=hO.2 (by omega);have hg:=tL P n cap l _ (hE.below vF) hl.symm (by omega);cases Lq:fR 0 l with
 |true=>
  rw[Lq]at hg;have HG:=va hg;clear hF hO vF hg hE Hw hl Pg Lq;go_enter Tryz.func9,Tryz.ntmps9;go_wp2_with (first
   |(go_at_call 36;refine(HG.out).mono ?_;rintro e w1 ⟨rfl,vD⟩)
   |fail)
  go_ret;exact⟨true,rfl,fun e=>(by cases e),wO.out.trans (vD.mono wO.out.size)⟩
 |false=>
  rw[Lq]at hg;have HG:=va hg;have xQ:Hid (In11 w P n cap l):=va ⟨hE,hl.symm,by omega,hF.1,fun x hx=>rI (nJ Lq x hx)⟩;have QF:=va Hw;have HOL:=va Pg;clear hF hO vF hg hE Hw hl Pg Lq;go_enter Tryz.func9,Tryz.ntmps9;go_wp2_with (first
   |(go_at_call 36;refine(HG.out).mono ?_;rintro e w1 ⟨rfl,vD⟩;have vJ:=va (wO.out.trans (vD.mono wO.out.size));clear vD)
   |fail)
  go_loopw [5,6] (fun sv i wr=> ∃j s:Nat,j<=k/\i= .int .i64 (j:Int)/\sv= .int .i64 (s:Int)/\s<=262144/\Below w.heap.size w wr) (fun _ i _ =>k-(intOf i).toNat)
  case atStart=>exact⟨0,0,by omega,rfl,rfl,by omega,vJ.out⟩
  case round=>
   obtain⟨j,s,hj,rfl,rfl,hs,xV⟩:=hrel;have yp:=va xV;clear xV;by_cases vH:j<k
   ·obtain⟨o,ho⟩: ∃o,ops[j]? =some o:=⟨_,vg (by rw[HOL.out];exact vH)⟩;obtain⟨b,off,A,cq,rfl,Br,hc,_,_,hq,_⟩:=(QF.out.below yp.out) j o ho;have c9:wr.cell? ⟨b,off+j*10+9,none⟩=some (.slice A o.q cq):=hc 9 _ rfl;obtain⟨q,hqd⟩: ∃q,q=o.q:=⟨_,rfl⟩;rw[<-hqd]at c9 hq;obtain⟨a,ha⟩: ∃a,a=min q 262144:=⟨_,rfl⟩;have Ci:a<=262144:=(by omega);have i1:min (q:Int) 262144=(a:Int):=(by omega);have zn:(j:Int)<(k:Int):=(by omega);clear hc ho hqd ha;go_upto_region 8 with(fail);by_cases hgt:(262144:Int)<(s:Int)+(a:Int)
    ·go_wp2_with fail;go_ret;exact⟨true,rfl,fun e=>(by cases e),yp.out⟩
    ·go_wp2_with fail;go_roundw
     case rel=>exact⟨j+1,s+a,by omega,by go_num,by go_num,by omega,yp.out⟩
     case measure=>(simp[intOf];omega)
   ·obtain rfl:j=k:=(by omega);go_wp2_with fail;go_ret;exact⟨false,rfl,fun _ =>⟨by omega,by omega,l,xQ.out⟩,yp.out⟩
end
