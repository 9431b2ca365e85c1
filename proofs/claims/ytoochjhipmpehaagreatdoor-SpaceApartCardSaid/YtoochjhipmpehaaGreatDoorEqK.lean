/- The cache: Get at any page of any files. The cache's laws: what comes in: entries; Entries: append of no bytes; The cache's laws: vast; -/
import Derived.Test.YtoochjhipmpehaaGreatDoorVqDK
import Derived.IntWalk
set_option linter.unusedVariables false
set_option linter.unusedSimpArgs false
set_option maxRecDepth 100000
set_option maxHeartbeats 2000000
namespace Go.Proofs.YtoochjhipmpehaaGreatDoor
section
open Go.RowKit Go.Sort
theorem sO (F:List Nd) (ino:Int) (off:Nat):(ja F ino off).2.1<=4096:=by
 unfold ja
 repeat' split
 all_goals(simp only[];omega)
theorem qS {F:List Nd} (hF: ∀(i:Nat) (y:Nd),F[i]? =some y-> ∀j,y.dat j<256) (ino:Int) (off i:Nat):(ja F ino off).2.2 i<256:=by
 have h0:(0:Nat)<256:=(by decide);unfold ja;split
 ·exact h0
 ·split
  ·exact h0
  ·next y hy=>
   split
   ·exact h0
   ·split
    ·exact hF _ y hy _
    ·exact h0
def ib (F:List Nd):Prop:= ∀(i:Nat) (y:Nd),F[i]? =some y-> ∀j,y.dat j<256
theorem cget_any (B1 nb c2 c a fs m:Nat) (ad mp:Nat->Nat) (F:List Nd) (ino page clock:Int) (w:World) (S:Nat->Prop) (p:Pool) (L:List Slot) (h:ar w S c a fs m clock p L) (hF:FsIs w B1 fs nb c2 ad mp F) (Rz:ib F) (hi:(Lit.int .i64 ino).wf=true) (yA:0<=clock/\clock<1000000):
  Calls Tryz.prog 232 #[.pointer (some ⟨c,0,none⟩), .int .i64 ino, .int .i64 page] w (dR w S c a fs m ino page (dF F ino page).1 (dF F ino page).2.1 (dF F ino page).2.2 clock p L):=by
 by_cases hp:page<0\/16<=page
 ·exact get_bad c a fs m _ ino page _ clock _ w S p L h hp
 have IF:=read_is (ino:=ino) (off:=(page*4096).toNat) hF (by omega);rw[show(((page*4096).toNat:Nat):Int)=page*4096 by omega]at IF;have JA:nW w fs ino (page*4096) (dF F ino page).1 (dF F ino page).2.1 (dF F ino page).2.2:=IF;have hk:=sO F ino (page*4096).toNat
 have hd:=qS Rz ino (page*4096).toNat
 have DJ:(dF F ino page).2.1<=4096:=hk;have hd': ∀i,(dF F ino page).2.2 i<256:=hd;clear IF hk hd;generalize dF F ino page=R at JA DJ hd'⊢;by_cases hr:R.1=0
 ·rw[hr]at JA⊢;cases hs:L.find? (Slot.at ino page)with
  |none=>exact get_new c a fs m _ ino page 0 clock _ w S p L h (by omega) (by omega) hi JA hd' DJ yA hs
  |some s=>exact get_hit c a fs m _ ino page 0 clock _ w S p L h (by omega) (by omega) hi JA yA s hs
 ·exact get_err c a fs m _ ino page _ clock _ w S p L h (by omega) (by omega) JA (by rw[bne_iff_ne];exact hr)
end
section
open Go.RowKit Go.Sort
def pD (w:World) (b o:Nat) (x:Ent) (A:Option Addr) (c:Nat):Prop:=
 w.cell? ⟨b,o,none⟩=some (.string x.path)/\w.cell? ⟨b,o+1,none⟩=some (.int .u8 (x.kind:Int))/\w.cell? ⟨b,o+2,none⟩=some (.int .u16 (x.mode:Int))/\w.cell? ⟨b,o+3,none⟩=some (.int .u32 (x.uid:Int))/\
 w.cell? ⟨b,o+4,none⟩=some (.int .u32 (x.gid:Int))/\w.cell? ⟨b,o+5,none⟩=some (.slice A x.n c)/\w.cell? ⟨b,o+6,none⟩=some (.string x.to)
structure uT (x:Ent):Prop where
 path:x.path.size<=9223372036854775807
 link:x.to.size<=9223372036854775807
 n:x.n<=9223372036854775807
 mode:x.mode<65536
 dat: ∀i,x.dat i<256
def eU (w:World) (P:Option Addr) (l:List Ent):Prop:= ∀(j:Nat) (x:Ent),l[j]? =some x-> ∃b off A c,P=some ⟨b,off,none⟩/\pD w b (off+j*7) x A c/\au w A x.n x.dat/\eK A x.n c/\uT x
variable {l:List Ent}
theorem eU.below {w w':World} {P:Option Addr} (h:eU w P l) (hb:Below w.heap.size w w'):eU w' P l:=fun j x hx=>by
 obtain⟨b,off,A,c,h1,⟨c0,c1,c2,c3,c4,c5,c6⟩,h4,h5,h6⟩:=h j x hx;have hl:b<w.heap.size:=World.block_lt_of_cell? _ _ c0;have hc: ∀i,w'.cell? ⟨b,i,none⟩=w.cell? ⟨b,i,none⟩:=fun i=>hb.cell (p:=⟨b,i,none⟩) hl;refine⟨b,off,A,c,h1,⟨?_,?_,?_,?_,?_,?_,?_⟩,h4.kept hb,h5,h6⟩
 all_goals(rw[hc];assumption)
def iH (k:Nat):Nat:=min k 1048576
def entW (x:Ent):Nat:=iH x.n+iH x.path.size+iH x.to.size
def fR:Nat->List Ent->Bool
 |_,[]=>false
 |s,x::l=>if 524288<s+entW x then true else fR (s+entW x) l
theorem nJ : ∀ {s:Nat},fR s l=false-> ∀x∈l,entW x<=524288:=by
 induction l with
 |nil=>intro s _ x hx;cases hx
 |cons y l ih=>
  intro s h x hx;unfold fR at h;split at h
  ·cases h
  ·rcases List.mem_cons.1 hx with rfl|h2
   ·omega
   ·exact ih h x h2
theorem rI {x:Ent} (h:entW x<=524288):x.n<=524288/\x.path.size<=524288/\x.to.size<=524288:=by
 unfold entW iH at h;omega
theorem tL (P:Option Addr) (n cap:Nat) (l:List Ent) (w:World) (hl:eU w P l) (hn:n=l.length) (Fy:n<=128):
  Calls Tryz.prog 36 #[.slice P n cap] w fun e w'=>e= .returned (.bool (fR 0 l))/\Below w.heap.size w w':=by
 obtain⟨gb,FZ⟩: ∃gb,gb=fR 0 l:=⟨_,rfl⟩;rw[<-FZ];have HGB:=va FZ;have Gx:=va hl;have HN:=va hn;clear hl hn FZ;go_enter Tryz.func36,Tryz.ntmps36;go_wp2_with fail;go_loopw [3,4] (fun sv i wr=> ∃k s:Nat,k<=n/\i= .int .i64 (k:Int)/\sv= .int .i64 (s:Int)/\s<=524288/\gb=fR s (l.drop k)/\Below w.heap.size w wr) (fun _ i _ =>n-(intOf i).toNat)
 case atStart=>exact⟨0,0,by omega,rfl,rfl,by omega,HGB.out,vz _ _⟩
 case round=>
  obtain⟨k,s,hk,rfl,rfl,hs,hg,xV⟩:=hrel;have HG:=va hg;have yp:=va xV;clear hg xV;by_cases vH:k<n
  ·obtain⟨x,hx⟩: ∃x,l[k]? =some x:=⟨_,vg (by rw[<-HN.out];exact vH)⟩;have xv:l.drop k=x::l.drop (k+1):=(List.drop_eq_getElem_cons (by rw[<-HN.out];exact vH)).trans (by
    obtain⟨h1,h2⟩:=List.getElem?_eq_some_iff.1 hx;rw[h2])
   obtain⟨bb,off,A,c,rfl,⟨c0,c1,c2,c3,c4,c5,c6⟩,_,_,GS⟩:=(Gx.out.below yp.out) k x hx;have Gz:=va xv;obtain⟨a,ha⟩: ∃a,a=iH x.n:=⟨_,rfl⟩;obtain⟨b,hb⟩: ∃b,b=iH x.path.size:=⟨_,rfl⟩;obtain⟨d,hd⟩: ∃d,d=iH x.to.size:=⟨_,rfl⟩;have Ci:a<=1048576:=(by rw[ha];unfold iH;omega);have vM:b<=1048576:=(by rw[hb];unfold iH;omega);have Ki:d<=1048576:=(by rw[hd];unfold iH;omega);have MB:Hid (s+entW x=s+a+b+d):=va (by unfold entW;omega);have f1:=GS.n;have f2:=GS.path;have f3:=GS.link;have i1:min (x.n:Int) 1048576=(a:Int):=(by rw[ha];unfold iH;omega);have i2:min (x.path.size:Int) 1048576=(b:Int):=(by rw[hb];unfold iH;omega);have i3:min (x.to.size:Int) 1048576=(d:Int):=(by rw[hd];unfold iH;omega);have j1:IntKind.i64.wrap ((s:Int)+(a:Int))=(s:Int)+(a:Int):=IntWalk.i64_in _ (by omega);have j2:IntKind.i64.wrap ((s:Int)+(a:Int)+(b:Int))=(s:Int)+(a:Int)+(b:Int):=IntWalk.i64_in _ (by omega);have j3:IntKind.i64.wrap ((s:Int)+(a:Int)+(b:Int)+(d:Int))=(s:Int)+(a:Int)+(b:Int)+(d:Int):=IntWalk.i64_in _ (by omega);have Rv:(k:Int)<(n:Int):=(by omega);clear c1 c2 c3 c4 hx xv GS ha hb hd;go_upto_region 7 with(fail);go_region_held3 (fun w'=>w'.cell? ⟨bb,off+k*7,none⟩=some (.string x.path)/\w'.cell? ⟨bb,off+k*7+5,none⟩=some (.slice A x.n c)/\w'.cell? ⟨bb,off+k*7+6,none⟩=some (.string x.to)) (go_keep) (fail)
   all_goals
    by_cases hgt:(524288:Int)<(s:Int)+(a:Int)+(b:Int)+(d:Int)
    ·have Ox:Hid (gb=true):=va (by rw[HG.out,Gz.out,fR,if_pos (by rw[MB.out];omega)]);go_wp2_with fail;go_ret;exact⟨by rw[Ox.out];rfl,yp.out.drew⟩
    ·have Ox:Hid (gb=fR (s+a+b+d) (l.drop (k+1))):=va (by rw[HG.out,Gz.out,fR,MB.out,if_neg (by omega)]);go_wp2_with fail;go_roundw
     case rel=>exact⟨k+1,s+a+b+d,by omega,by go_num,by go_num,by omega,Ox.out,yp.out.drew⟩
     case measure=>simp[intOf];omega
  ·obtain rfl:k=n:=(by omega);have Ox:Hid (gb=false):=va (by rw[HG.out,List.drop_of_length_le (by rw[HN.out];exact vd _)];rfl);go_wp2_with fail;go_ret;exact⟨by rw[Ox.out];rfl,yp.out⟩
end
section
open Go.RowKit Go.Sort
variable {w:World} {ops:Array Oper} {rest:List Oper} {o:Oper} {a:Act} {Q:Exit->Act->World->Prop}
theorem app_zero (yv:o.guard=none) (s x:Operand)
  (ho:o.op= .call { callee:= .builtin .append,args:= #[s,x],argTypes:= #[39,39]})
  (A:Option Addr) (m cap:Nat) (hm:m=0) (hs:a.eval s= .slice A 0 cap) (B:Option Addr) (c:Nat) (hx:a.eval x= .slice B m c)
  (h:wpList Tryz.prog ops Q rest (a.put o.dst (.slice A m cap)) w):wpList Tryz.prog ops Q (o::rest) a w:=by
 subst hm;obtain⟨i0,yb,wz,wg,wm⟩:=info_parts jA;refine wpList_plain yv fun K hK=>?_;have yy:Src Tryz.prog i0.size 39 (.slice B 0 c) 0 [] w:=by
  cases B with
  |none=>exact Src.ofNil w Tryz.underlying39 c
  |some ad=>exact Src.ofSlice w Tryz.underlying39 ad 0 c [] (by simp) (fun j u hu=>by simp at hu) (fun u hu=>by cases hu)
 have xz:=run_append_nothing (P:=Tryz.prog) w 39 39 o.type 5 i0 Tryz.underlying39 yb A 0 cap (vw _) (.slice B 0 c) yy;unfold Oper.wp;simp[execOp,ho,resolve,invoke,builtin,hs,hx,xz,Result.andThen];exact hK _ _ h
structure EntR where
 ent:Ent
 A:Option Addr
 c:Nat
def entC (x:EntR):List Value:=[.string x.ent.path, .int .u8 (x.ent.kind:Int), .int .u16 (x.ent.mode:Int), .int .u32 (x.ent.uid:Int), .int .u32 (x.ent.gid:Int), .slice x.A x.ent.n x.c, .string x.ent.to]
def OwnE (w:World) (base:Nat) (R:Option Addr) (cap:Nat) (L:List EntR):Prop:=w.ownsRow base 93 7 (.slice R L.length cap) L.length (L.flatMap entC)
theorem ent_info:(Tryz.prog.info? 93).map (fun i=>(i.zero,i.size,i.bytes))=some (some (.agg #[.string ByteArray.empty, .int .u8 0, .int .u16 0, .int .u32 0, .int .u32 0, .slice none 0 0, .string ByteArray.empty]),7,72):=by kernel_rfl
theorem uB (yv:o.guard=none) (s x:Operand)
  (ho:o.op= .call { callee:= .builtin .append,args:= #[s,x],argTypes:= #[22,22]})
  (base:Nat) (R:Option Addr) (cap m:Nat) (L:List EntR) (hm:m=L.length) (hs:a.eval s= .slice R m cap) (vR:OwnE w base R cap L)
  (r:EntR) (b c:Nat) (hx:a.eval x= .slice (some ⟨b,0,none⟩) 1 c) (hb:w.heap[b]? =some (.cells (entC r).toArray 93 (0,0)))
  (wb:m<1000000) (vQ:base<=w.heap.size)
  (h: ∀g vA w',OwnE w' base (some ⟨g,0,none⟩) vA (L++[r])->w.grownBy w' (R.map (·.block))->(R.map (·.block)=some g\/g=w.heap.size)->g<w'.heap.size->wpList Tryz.prog ops Q rest (a.put o.dst (.slice (some ⟨g,0,none⟩) (m+1) vA)) w'):
  wpList Tryz.prog ops Q (o::rest) a w:=by
 obtain⟨i0,yb,wz,wg,wm⟩:=info_parts ent_info;refine wpList_append_lies w yv s x 22 ho base 93 i0 _ 7 72 Tryz.underlying22 yb wz wg wm rfl (by omega) _ L.length (L.flatMap entC) (by rw[hs,hm]) vR ⟨b,0,none⟩ 1 c (entC r) hx rfl (World.news_of_block (cs:=(entC r).toArray) hb)
  (by simp[entC,Value.oneCell']) (by omega) (by unfold maxLen;omega) (by omega) vQ w.heap.size rfl ?_
 intro g vA w' xG hg wK vH;rw[<-hm]at xG⊢;refine h g vA w' ?_ ?_ ?_ vH
 ·unfold OwnE;rw[List.flatMap_append,vf,vm,<-hm];simpa using xG
 ·cases R<;>simpa [Value.ownBlock]using hg
 ·cases R<;>simpa [Value.ownBlock]using wK
variable {L:List EntR} {k:Nat} {r:EntR}
theorem entC_get (h:L[k]? =some r) (j:Nat) (hj:j<7):(L.flatMap entC)[k*7+j]? =(entC r)[j]? :=by
 induction L generalizing k with
 |nil=>simp at h
 |cons x L ih=>
  rw[vy];cases k with
  |zero=>
   simp at h;subst h;rw[Nat.zero_mul,Nat.zero_add,vk (by simp[entC];omega)]
  |succ k=>
   simp at h;rw[vj (by simp[entC];omega)];have e:(k+1)*7+j-(entC x).length=k*7+j:=(by simp[entC];omega);rw[e];exact ih h
variable {base g cap:Nat}
theorem OwnE.cell (h:OwnE w base (some ⟨g,0,none⟩) cap L) (hr:L[k]? =some r) (j:Nat) (hj:j<7):w.cell? ⟨g,k*7+j,none⟩=(entC r)[j]? :=by
 have hk:k<L.length:=(List.getElem?_eq_some_iff.1 hr).1;rw[World.ownsRow.cellAt h (k*7+j) (by omega),entC_get hr j hj]
def TwOk (w:World) (r:EntR):Prop:=bX w r.A r.ent.n r.c r.ent.dat
variable {w':World}
theorem bX.keep {A:Option Addr} {n:Nat} {d:Nat->Nat} (h:bX w A n cap d) (hk: ∀(g:Nat) (cs:Array Value) (f:Nat×Nat),w.heap[g]? =some (.cells cs 5 f)->w'.heap[g]? =w.heap[g]?):bX w' A n cap d:=by
 obtain⟨h1,h2,h3⟩:=h;refine⟨fun h0=>?_,fun x hx=>?_,h3⟩
 ·obtain⟨x,hx,hc⟩:=h1 h0;obtain⟨g,cs,f,rfl,hg⟩:=h2 x hx;refine⟨_,hx,fun j hj=>?_⟩;have h9:=hc j hj;rw[Addr.add_mid,Nat.zero_add]at h9⊢;rw[<-h9];exact World.cell?_of_block (hk g cs f hg)
 ·obtain⟨g,cs,f,e,hg⟩:=h2 x hx;exact⟨g,cs,f,e,(hk g cs f hg).trans hg⟩
theorem OwnE.block (h:OwnE w base (some ⟨g,0,none⟩) cap L): ∃cur,w.heap[g]? =some (.cells cur 93 (0,0))/\base<=g/\L.length<=cap:=by
 rcases h.2 with⟨h2,_⟩|⟨g',vA,cur,h1,h3,h4,h5,_⟩
 ·injection h2 with h2;cases h2
 ·injection h1 with e1 _ e3;injection e1 with e1;injection e1 with e1;subst e1;exact⟨cur,h4,h3,by omega⟩
variable {R:Option Addr}
theorem OwnE.form (h:OwnE w base R cap L):(R=none/\L=[]/\cap=0)\/ ∃g,R=some ⟨g,0,none⟩/\base<=g/\g<w.heap.size/\L.length<=cap:=by
 rcases h.2 with⟨h2,h3⟩|⟨g,vA,cur,h1,h2,h3,h4,_⟩
 ·injection h2 with e1 e2 e3;exact .inl ⟨e1,by simpa using h3,e3⟩
 ·injection h1 with e1 e2 e3;exact .inr ⟨g,e1,h2,(uZ h3).1,by omega⟩
theorem OwnE.same (h:OwnE w base R cap L) (hb: ∀g,R=some ⟨g,0,none⟩->w'.heap[g]? =w.heap[g]?):OwnE w' base R cap L:=by
 refine⟨h.1,?_⟩;rcases h.2 with h2|⟨g,vA,cur,h1,h2,h3,h4⟩
 ·exact .inl h2
 ·injection h1 with e1 e2 e3;exact .inr ⟨g,vA,cur,by rw[e1,e2,e3],h2,(hb g e1).trans h3,h4⟩
theorem OwnE.kept (h:OwnE w base R cap L) (hb:Below w.heap.size w w'):OwnE w' base R cap L:=h.same fun g hg=>by
 rcases h.form with⟨e,_⟩|⟨g',e,_,h2,_⟩
 ·rw[e]at hg;cases hg
 ·rw[e]at hg;injection hg with hg;injection hg with hg;subst hg;exact hb.block _ h2
end
section
open Go.RowKit Go.Sort Go.Deep
def uG (w:World) (l:List Ent) (e:Ending) (w':World):Prop:= ∃R cap,e= .returned (.slice R l.length cap)/\fU w' R l/\l.length<=cap/\Below w.heap.size w w'
theorem qD {w w':World} {R:Option Addr} {cap:Nat} {L:List EntR} {l:List Ent} (hL:L.map EntR.ent=l) (hO:OwnE w' w.heap.size R cap L) (hT: ∀r∈L,TwOk w' r) (yM: ∀x∈l,x.n<=524288/\x.path.size<=524288/\x.to.size<=524288):fU w' R l:=fun j x hx=>by
 rw[<-hL,vt]at hx;cases hr:L[j]? with
 |none=>rw[hr]at hx;cases hx
 |some r=>
  rw[hr]at hx;injection hx with hx;subst hx;have hm:=yM r.ent (by rw[<-hL];exact List.mem_map.2 ⟨r,vl hr,rfl⟩);obtain⟨t1,t2,t3,t4⟩:=hT r (vl hr);rcases hO.form with⟨_,e,_⟩|⟨g,e,_,hg,_⟩
  ·rw[e]at hr;simp at hr
  ·subst e;refine⟨g,r.A,r.c,rfl,hg,⟨?_,?_,?_,?_,?_,?_,?_⟩,⟨by omega,by omega,by omega,t1,t4⟩⟩
   ·have:=hO.cell hr 0 (by omega);simpa [entC]using this
   ·have:=hO.cell hr 1 (by omega);simpa [entC]using this
   ·have:=hO.cell hr 2 (by omega);simpa [entC]using this
   ·have:=hO.cell hr 3 (by omega);simpa [entC]using this
   ·have:=hO.cell hr 4 (by omega);simpa [entC]using this
   ·have:=hO.cell hr 5 (by omega);simpa [entC]using this
   ·have:=hO.cell hr 6 (by omega);simpa [entC]using this
end
