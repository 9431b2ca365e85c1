/- The cache's laws: what comes in: entries; Entries: append of no bytes; The cache's laws: vast; The cache: Get at any page of any files. -/
import Derived.Test.YtoochjhipmpehaaGreatDoorAbK
import Derived.Test.YtoochjhipmpehaaGreatDoorVpZK
import Derived.Test.YtoochjhipmpehaaGreatDoorVqDK
import Derived.Deep.Upon
import Derived.IntWalk
import Derived.Lib.MinMax
set_option linter.unusedVariables false
set_option linter.unusedSimpArgs false
set_option maxRecDepth 100000
namespace Go.Proofs.YtoochjhipmpehaaGreatDoor
section
open Go.RowKit Go.Sort
def EntCell (w:World) (b o:Nat) (x:Ent) (A:Option Addr) (c:Nat):Prop:=
 w.cell? ⟨b,o,none⟩=some (.string x.path)∧w.cell? ⟨b,o+1,none⟩=some (.int .u8 (x.kind:Int))∧w.cell? ⟨b,o+2,none⟩=some (.int .u16 (x.mode:Int))∧w.cell? ⟨b,o+3,none⟩=some (.int .u32 (x.uid:Int))∧
 w.cell? ⟨b,o+4,none⟩=some (.int .u32 (x.gid:Int))∧w.cell? ⟨b,o+5,none⟩=some (.slice A x.n c)∧w.cell? ⟨b,o+6,none⟩=some (.string x.to)
structure EntFit (x:Ent):Prop where
 path:x.path.size≤9223372036854775807
 link:x.to.size≤9223372036854775807
 n:x.n≤9223372036854775807
 mode:x.mode<65536
 dat: ∀i,x.dat i<256
def EntsIn (w:World) (P:Option Addr) (l:List Ent):Prop:= ∀(j:Nat) (x:Ent),l[j]? =some x→ ∃b off A c,P=some ⟨b,off,none⟩∧EntCell w b (off+j*7) x A c∧BytesV w A x.n x.dat∧SliceOk A x.n c∧EntFit x
theorem EntsIn.below {w w':World} {P:Option Addr} {l:List Ent} (h:EntsIn w P l) (hb:Below w.heap.size w w'):EntsIn w' P l:=fun j x hx=>by
 obtain⟨b,off,A,c,h1,⟨c0,c1,c2,c3,c4,c5,c6⟩,h4,h5,h6⟩:=h j x hx
 have hl:b<w.heap.size:=World.block_lt_of_cell? _ _ c0
 have hc: ∀i,w'.cell? ⟨b,i,none⟩=w.cell? ⟨b,i,none⟩:=fun i=>hb.cell (p:=⟨b,i,none⟩) hl
 refine⟨b,off,A,c,h1,⟨?_,?_,?_,?_,?_,?_,?_⟩,h4.kept hb,h5,h6⟩
 all_goals(rw[hc];assumption)
end
section
open Go.RowKit Go.Sort
theorem app_zero {w:World} {ops:Array Oper} {rest:List Oper} {o:Oper} {a:Act} {Q:Exit→Act→World→Prop} (hgd:o.guard=none) (s x:Operand)
  (ho:o.op= .call { callee:= .builtin .append,args:= #[s,x],argTypes:= #[39,39]})
  (A:Option Addr) (m cap:Nat) (hm:m=0) (hs:a.eval s= .slice A 0 cap) (B:Option Addr) (c:Nat) (hx:a.eval x= .slice B m c)
  (h:wpList Tryz.prog ops Q rest (a.put o.dst (.slice A m cap)) w):wpList Tryz.prog ops Q (o::rest) a w:=by
 subst hm
 obtain⟨i0,hi0,hz0,hz1,hz2⟩:=info_parts u8_info
 refine wpList_plain hgd fun K hK=>?_
 have hsrc:Src Tryz.prog i0.size 39 (.slice B 0 c) 0 [] w:=by
  cases B with
  |none=>exact Src.ofNil w Tryz.underlying39 c
  |some ad=>exact Src.ofSlice w Tryz.underlying39 ad 0 c [] (by simp) (fun j u hu=>by simp at hu) (fun u hu=>by cases hu)
 have hrun:=run_append_nothing (P:=Tryz.prog) w 39 39 o.type 5 i0 Tryz.underlying39 hi0 A 0 cap (Nat.zero_le _) (.slice B 0 c) hsrc
 unfold Oper.wp
 simp[execOp,ho,resolve,invoke,builtin,hs,hx,hrun,Result.andThen]
 exact hK _ _ h
structure EntR where
 ent:Ent
 A:Option Addr
 c:Nat
def entC (x:EntR):List Value:=[.string x.ent.path, .int .u8 (x.ent.kind:Int), .int .u16 (x.ent.mode:Int), .int .u32 (x.ent.uid:Int), .int .u32 (x.ent.gid:Int), .slice x.A x.ent.n x.c, .string x.ent.to]
def OwnE (w:World) (base:Nat) (R:Option Addr) (cap:Nat) (L:List EntR):Prop:=w.ownsRow base 93 7 (.slice R L.length cap) L.length (L.flatMap entC)
theorem ent_info:(Tryz.prog.info? 93).map (fun i=>(i.zero,i.size,i.bytes))=some (some (.agg #[.string ByteArray.empty, .int .u8 0, .int .u16 0, .int .u32 0, .int .u32 0, .slice none 0 0, .string ByteArray.empty]),7,72):=by kernel_rfl
theorem app_ent {w:World} {ops:Array Oper} {rest:List Oper} {o:Oper} {a:Act} {Q:Exit→Act→World→Prop} (hgd:o.guard=none) (s x:Operand)
  (ho:o.op= .call { callee:= .builtin .append,args:= #[s,x],argTypes:= #[22,22]})
  (base:Nat) (R:Option Addr) (cap m:Nat) (L:List EntR) (hm:m=L.length) (hs:a.eval s= .slice R m cap) (hown:OwnE w base R cap L)
  (r:EntR) (b c:Nat) (hx:a.eval x= .slice (some ⟨b,0,none⟩) 1 c) (hb:w.heap[b]? =some (.cells (entC r).toArray 93 (0,0)))
  (hfew:m<1000000) (hbase:base≤w.heap.size)
  (h: ∀g cap' w',OwnE w' base (some ⟨g,0,none⟩) cap' (L++[r])→w.grownBy w' (R.map (·.block))→(R.map (·.block)=some g∨g=w.heap.size)→g<w'.heap.size→wpList Tryz.prog ops Q rest (a.put o.dst (.slice (some ⟨g,0,none⟩) (m+1) cap')) w'):
  wpList Tryz.prog ops Q (o::rest) a w:=by
 obtain⟨i0,hi0,hz0,hz1,hz2⟩:=info_parts ent_info
 refine wpList_append_lies w hgd s x 22 ho base 93 i0 _ 7 72 Tryz.underlying22 hi0 hz0 hz1 hz2 rfl (by omega) _ L.length (L.flatMap entC) (by rw[hs,hm]) hown ⟨b,0,none⟩ 1 c (entC r) hx rfl (World.news_of_block (cs:=(entC r).toArray) hb)
  (by simp[entC,Value.oneCell']) (by omega) (by unfold maxLen;omega) (by omega) hbase w.heap.size rfl ?_
 intro g cap' w' ho' hg hat hlt
 rw[←hm]at ho'⊢
 refine h g cap' w' ?_ ?_ ?_ hlt
 ·unfold OwnE
  rw[List.flatMap_append,List.length_append,List.length_singleton,←hm]
  simpa using ho'
 ·cases R<;>simpa [Value.ownBlock]using hg
 ·cases R<;>simpa [Value.ownBlock]using hat
theorem entC_get {L:List EntR} {k:Nat} {r:EntR} (h:L[k]? =some r) (j:Nat) (hj:j<7):(L.flatMap entC)[k*7+j]? =(entC r)[j]? :=by
 induction L generalizing k with
 |nil=>simp at h
 |cons x L ih=>
  rw[List.flatMap_cons]
  cases k with
  |zero=>
   simp at h
   subst h
   rw[Nat.zero_mul,Nat.zero_add,List.getElem?_append_left (by simp[entC];omega)]
  |succ k=>
   simp at h
   rw[List.getElem?_append_right (by simp[entC];omega)]
   have e:(k+1)*7+j-(entC x).length=k*7+j:=by simp[entC];omega
   rw[e]
   exact ih h
theorem OwnE.cell {w:World} {base g cap:Nat} {L:List EntR} (h:OwnE w base (some ⟨g,0,none⟩) cap L) {k:Nat} {r:EntR} (hr:L[k]? =some r) (j:Nat) (hj:j<7):w.cell? ⟨g,k*7+j,none⟩=(entC r)[j]? :=by
 have hk:k<L.length:=(List.getElem?_eq_some_iff.1 hr).1
 rw[World.ownsRow.cellAt h (k*7+j) (by omega),entC_get hr j hj]
def TwOk (w:World) (r:EntR):Prop:=ByteRow w r.A r.ent.n r.c r.ent.dat
theorem ByteRow.keep {w w':World} {A:Option Addr} {n cap:Nat} {d:Nat→Nat} (h:ByteRow w A n cap d) (hk: ∀(g:Nat) (cs:Array Value) (f:Nat×Nat),w.heap[g]? =some (.cells cs 5 f)→w'.heap[g]? =w.heap[g]?):ByteRow w' A n cap d:=by
 obtain⟨h1,h2,h3⟩:=h
 refine⟨fun h0=>?_,fun x hx=>?_,h3⟩
 ·obtain⟨x,hx,hc⟩:=h1 h0
  obtain⟨g,cs,f,rfl,hg⟩:=h2 x hx
  refine⟨_,hx,fun j hj=>?_⟩
  have h9:=hc j hj
  rw[Addr.add_mid,Nat.zero_add]at h9⊢
  rw[←h9]
  exact World.cell?_of_block (hk g cs f hg)
 ·obtain⟨g,cs,f,e,hg⟩:=h2 x hx
  exact⟨g,cs,f,e,(hk g cs f hg).trans hg⟩
theorem OwnE.block {w:World} {base g cap:Nat} {L:List EntR} (h:OwnE w base (some ⟨g,0,none⟩) cap L): ∃cur,w.heap[g]? =some (.cells cur 93 (0,0))∧base≤g∧L.length≤cap:=by
 rcases h.2 with⟨h2,_⟩|⟨g',cap',cur,h1,h3,h4,h5,_⟩
 ·injection h2 with h2;cases h2
 ·injection h1 with e1 _ e3
  injection e1 with e1
  injection e1 with e1
  subst e1
  exact⟨cur,h4,h3,by omega⟩
theorem OwnE.form {w:World} {base cap:Nat} {R:Option Addr} {L:List EntR} (h:OwnE w base R cap L):(R=none∧L=[]∧cap=0)∨ ∃g,R=some ⟨g,0,none⟩∧base≤g∧g<w.heap.size∧L.length≤cap:=by
 rcases h.2 with⟨h2,h3⟩|⟨g,cap',cur,h1,h2,h3,h4,_⟩
 ·injection h2 with e1 e2 e3
  exact .inl ⟨e1,by simpa using h3,e3⟩
 ·injection h1 with e1 e2 e3
  exact .inr ⟨g,e1,h2,(ac h3).1,by omega⟩
theorem OwnE.same {w w':World} {base cap:Nat} {R:Option Addr} {L:List EntR} (h:OwnE w base R cap L) (hb: ∀g,R=some ⟨g,0,none⟩→w'.heap[g]? =w.heap[g]?):OwnE w' base R cap L:=by
 refine⟨h.1,?_⟩
 rcases h.2 with h2|⟨g,cap',cur,h1,h2,h3,h4⟩
 ·exact .inl h2
 ·injection h1 with e1 e2 e3
  exact .inr ⟨g,cap',cur,by rw[e1,e2,e3],h2,(hb g e1).trans h3,h4⟩
theorem OwnE.kept {w w':World} {base cap:Nat} {R:Option Addr} {L:List EntR} (h:OwnE w base R cap L) (hb:Below w.heap.size w w'):OwnE w' base R cap L:=h.same fun g hg=>by
 rcases h.form with⟨e,_⟩|⟨g',e,_,h2,_⟩
 ·rw[e]at hg;cases hg
 ·rw[e]at hg;injection hg with hg;injection hg with hg;subst hg;exact hb.block _ h2
end
section
open Go.RowKit Go.Sort Go.Deep
def TwinsPost (w:World) (l:List Ent) (e:Ending) (w':World):Prop:= ∃R cap,e= .returned (.slice R l.length cap)∧EntsAt w' R l∧l.length≤cap∧Below w.heap.size w w'
theorem twins_done {w w':World} {R:Option Addr} {cap:Nat} {L:List EntR} {l:List Ent} (hL:L.map EntR.ent=l) (hO:OwnE w' w.heap.size R cap L) (hT: ∀r∈L,TwOk w' r) (hsm: ∀x∈l,x.n≤524288∧x.path.size≤524288∧x.to.size≤524288):EntsAt w' R l:=fun j x hx=>by
 rw[←hL,List.getElem?_map]at hx
 cases hr:L[j]? with
 |none=>rw[hr]at hx;cases hx
 |some r=>
  rw[hr]at hx
  injection hx with hx
  subst hx
  have hm:=hsm r.ent (by rw[←hL];exact List.mem_map.2 ⟨r,List.mem_of_getElem? hr,rfl⟩)
  obtain⟨t1,t2,t3,t4⟩:=hT r (List.mem_of_getElem? hr)
  rcases hO.form with⟨_,e,_⟩|⟨g,e,_,hg,_⟩
  ·rw[e]at hr;simp at hr
  ·subst e
   refine⟨g,r.A,r.c,rfl,hg,⟨?_,?_,?_,?_,?_,?_,?_⟩,⟨by omega,by omega,by omega,t1,t4⟩⟩
   ·have:=hO.cell hr 0 (by omega);simpa [entC]using this
   ·have:=hO.cell hr 1 (by omega);simpa [entC]using this
   ·have:=hO.cell hr 2 (by omega);simpa [entC]using this
   ·have:=hO.cell hr 3 (by omega);simpa [entC]using this
   ·have:=hO.cell hr 4 (by omega);simpa [entC]using this
   ·have:=hO.cell hr 5 (by omega);simpa [entC]using this
   ·have:=hO.cell hr 6 (by omega);simpa [entC]using this
end
section
open Go.RowKit Go.Sort
theorem readR_few (F:List Nd) (ino:Int) (off:Nat):(readR F ino off).2.1≤4096:=by
 unfold readR
 repeat' split
 all_goals(simp only[];omega)
theorem readR_byte {F:List Nd} (hF: ∀(i:Nat) (y:Nd),F[i]? =some y→ ∀j,y.dat j<256) (ino:Int) (off i:Nat):(readR F ino off).2.2 i<256:=by
 have h0:(0:Nat)<256:=by decide
 unfold readR
 split
 ·exact h0
 ·split
  ·exact h0
  ·next y hy=>
   split
   ·exact h0
   ·split
    ·exact hF _ y hy _
    ·exact h0
def BytesF (F:List Nd):Prop:= ∀(i:Nat) (y:Nd),F[i]? =some y→ ∀j,y.dat j<256
theorem cget_any (B1 nb c2 c a fs m:Nat) (ad mp:Nat→Nat) (F:List Nd) (ino page clock:Int) (w:World) (S:Nat→Prop) (p:Pool) (L:List Slot) (h:CacheAt w S c a fs m clock p L) (hF:FsIs w B1 fs nb c2 ad mp F) (hby:BytesF F) (hi:(Lit.int .i64 ino).wf=true) (hck:0≤clock∧clock<1000000):
  Calls Tryz.prog 232 #[.pointer (some ⟨c,0,none⟩), .int .i64 ino, .int .i64 page] w (GetPost w S c a fs m ino page (pageR F ino page).1 (pageR F ino page).2.1 (pageR F ino page).2.2 clock p L):=by
 by_cases hp:page<0∨16≤page
 ·exact get_bad c a fs m _ ino page _ clock _ w S p L h hp
 have hrd:=read_is (ino:=ino) (off:=(page*4096).toNat) hF (by omega)
 rw[show(((page*4096).toNat:Nat):Int)=page*4096 by omega]at hrd
 have hrd':ReadIs w fs ino (page*4096) (pageR F ino page).1 (pageR F ino page).2.1 (pageR F ino page).2.2:=hrd
 have hk:=readR_few F ino (page*4096).toNat
 have hd:=readR_byte hby ino (page*4096).toNat
 have hk':(pageR F ino page).2.1≤4096:=hk
 have hd': ∀i,(pageR F ino page).2.2 i<256:=hd
 clear hrd hk hd
 generalize pageR F ino page=R at hrd' hk' hd'⊢
 by_cases hr:R.1=0
 ·rw[hr]at hrd'⊢
  cases hs:L.find? (Slot.at ino page)with
  |none=>exact get_new c a fs m _ ino page 0 clock _ w S p L h (by omega) (by omega) hi hrd' hd' hk' hck hs
  |some s=>exact get_hit c a fs m _ ino page 0 clock _ w S p L h (by omega) (by omega) hi hrd' hck s hs
 ·exact get_err c a fs m _ ino page _ clock _ w S p L h (by omega) (by omega) hrd' (by rw[bne_iff_ne];exact hr)
end
end Go.Proofs.YtoochjhipmpehaaGreatDoor
