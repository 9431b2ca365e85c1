/- A range over a function, whatever the function keeps: the statement, and a round. Rows of elements of several cells, of whatever type: append, of one or of many; append inside a fence: of bytes, of one element of several cells. A region that draws its order, and whose last operation is a store to a cell that it loads: what holds of the world is asked behind every operation bu A region that draws its order, inside a round of a range over a function: by the plain laws. -/
import Derived.Test.YtoochjhipmpehaaGreatDoorTwAK
import Derived.CallsIn
import Derived.Deep.RegionHeld
import Derived.OrdersHeld
import Derived.OrdersIn
import Derived.OwnWalkIn
import Derived.RangeFuncBound
import Derived.RangeFuncCalls
set_option linter.unusedVariables false
set_option linter.unusedSimpArgs false
set_option maxRecDepth 100000
namespace Go.Proofs.YtoochjhipmpehaaGreatDoor
section
open Go Go.RowKit
variable {F:Fence} {n:Nat} {P:Program}
def iv (fn:FuncId) (tmps:Array Value) (ps:Array Tmp) (assign body:Code) (D:Nat) (st:LoopState) (pe:Option Code):Loop:= { state:=st,pending:=pe,fn:=fn,tmps:=tmps,params:=ps,assign:=assign,body:=body,defers:=D}
def dp (a:Act) (D:Nat):Act:= { a with defers:= { target:= .collected D,args:= #[]} ::a.defers}
variable {g:Operand} {a:Act} {gf l:Nat} {lb:Array Value}
theorem sR (hg:a.eval g= .func (.func gf) #[] lb) (w:World):(resolve a.eval (rangeCall g l) 0).run P w= .ok { target:= .fn (.func gf) lb,args:= #[.func (.yield l) #[] #[]]} w:=by
 simp only[resolve,hg];simp[go_sem]
theorem sS (eg: ∀args w,(callFunc gf args).run P w= .ok (.enter gf args) w) (v:Value) (w:World):(invoke (.fn (.func gf) lb) #[v]).run P w= .ok (.enter gf (#[v]++lb)) w:=by
 simp[invoke,go_sem,eg]
theorem oI (UX:F.fn gf) (v:Value) (w:World): ∀f',Target.leads P w (.fn (.func gf) lb) #[v]=some f'->F.fn f':=by
 intro f' Ii;simp[Target.leads]at Ii;subst Ii;exact UX
variable {ps:Array Tmp} {assign body:Code} {Q:Exit->Act->World->Prop} {w:World}
theorem qy (Af:F.round=none) (h1:1<=n) (hg:a.eval g= .func (.func gf) #[] lb) (UX:F.fn gf)
  (eg: ∀args w,(callFunc gf args).run P w= .ok (.enter gf args) w)
  (h: ∀fn,F.fn fn->CallsIn F (n-1) P gf (#[Value.func (Fn.yield (w.heap.size+1)) #[] #[]]++lb) ((w.alloc (.deferred (some []))).alloc (.loop (iv fn a.tmps ps assign body w.heap.size .ready none)))
   fun e W2=>(∃v,e= .returned v)/\
    (
     (W2.heap[w.heap.size+1]? =some (.loop (iv fn a.tmps ps assign body w.heap.size .ready none))/\Q .normal (dp a w.heap.size) (W2.putObj (w.heap.size+1) (.loop (iv fn a.tmps ps assign body w.heap.size .exhausted none))))\/
     ∃c,W2.heap[w.heap.size+1]? =some (.loop (iv fn a.tmps ps assign body w.heap.size .done (some c)))/\c.wpIn F n P Q (dp a w.heap.size) (W2.putObj (w.heap.size+1) (.loop (iv fn a.tmps ps assign body w.heap.size .exhausted (some c)))))):
  (Code.rangeFunc g ps assign body).wpIn F n P Q a w:=by
 refine wpIn_rangeFunc ?_;intro fn Di;rw[Af];obtain⟨W1,Ai,hC⟩: ∃W1,(Instr.enterLoop fn a.tmps ps assign body none).run P w= .ok (w.heap.size+1,[{ target:= .collected w.heap.size,args:= #[]}]) W1/\CallsIn F (n-1) P gf (#[Value.func (Fn.yield (w.heap.size+1)) #[] #[]]++lb) W1 (rangePost F n P (w.heap.size+1) Q { a with defers:=[{ target:= .collected w.heap.size,args:= #[]}]++a.defers}):=by
  refine⟨_,run_enterLoop_outer _ _ _ _ _,(h fn Di).mono ?_⟩;rintro e W2 ⟨⟨v,rfl⟩,⟨hl,hq⟩|⟨c,hl,hc⟩⟩
  ·exact⟨none,_,run_endLoop hl (by simp[iv]),hq⟩
  ·exact⟨some c,_,run_endLoop hl (by simp[iv]),hc⟩
 clear h;refine⟨w.heap.size+1,[{ target:= .collected w.heap.size,args:= #[]}],W1, { target:= .fn (.func gf) lb,args:= #[Value.func (Fn.yield (w.heap.size+1)) #[] #[]]},W1,gf,
  #[Value.func (Fn.yield (w.heap.size+1)) #[] #[]]++lb,W1,Ai,sR (l:=w.heap.size+1) hg W1,oI UX (.func (.yield (w.heap.size+1)) #[] #[]) W1,sS eg (.func (.yield (w.heap.size+1)) #[] #[]) W1,fun _ =>h1,hC⟩
def pT (l:Nat) (rec:LoopState->Option Code->Loop) (R:Ending->World->Prop):Exit->Act->World->Prop
 | .normal,_,w=>w.heap[l]? =some (.loop (rec .busy none))/\R (.returned (.bool true)) (w.putObj l (.loop (rec .ready none)))
 | .ret,_,w=>w.heap[l]? =some (.loop (rec .busy none))/\R (.returned (.bool false)) (w.putObj l (.loop (rec .done (some .ret))))
 | .exit id,_,w=>w.heap[l]? =some (.loop (rec .busy none))/\R (.returned (.bool false)) (w.putObj l (.loop (rec .done (some (.exit id)))))
 |_,_,_ =>False
variable {fn:FuncId} {tmps args:Array Value} {D:Nat} {W:World} {R:Ending->World->Prop}
theorem od (hF:F.fn fn)
  (hl:W.heap[l]? =some (.loop (iv fn tmps ps assign body D .ready none))) (hs:args.size=ps.size)
  (h:assign.wpIn (F.inRound l) n P (Exit.then (fun a₁ W1=>W1.heap[l]? =some (.loop (iv fn tmps ps assign body D .ready none))/\body.wpIn (F.inRound l) n P (pT l (iv fn tmps ps assign body D) R) a₁ (W1.putObj l (.loop (iv fn tmps ps assign body D .busy none)))) (fun _ _ _ =>False))
   { tmps:=(ps.zip args).foldl (fun t (p,v)=>t.setIfInBounds p v) tmps,defers:=[]} W):
  YieldAt F n P l args W R:=by
 refine⟨fn,_,assign,body,run_yield hl hs,roundIn_of_wpIn hF (wpIn_mono h ?_)⟩;intro e a1 W1 hq;cases e with
 |normal=>
  obtain⟨h1,h2⟩:=hq;refine⟨_,run_beginRound h1 rfl,wpIn_mono h2 ?_⟩;intro e a3 W3 hq;cases e with
  |normal=>exact⟨_,_,run_endRound none hq.1,hq.2⟩
  |ret=>exact⟨_,_,run_endRound (some .ret) hq.1,hq.2⟩
  |exit id=>exact⟨_,_,run_endRound (some (.exit id)) hq.1,hq.2⟩
  |goto t=>exact hq.elim
  |panic ch=>exact hq.elim
  |outgrown=>exact hq.elim
 |exit id=>exact hq.elim
 |goto t=>exact hq.elim
 |ret=>exact hq.elim
 |panic ch=>exact hq.elim
 |outgrown=>exact hq.elim
theorem bK (Af:F.round=none) (h1:1<=n) (hg:a.eval g= .func (.func gf) #[] lb) (UX:F.fn gf)
  (eg: ∀args w,(callFunc gf args).run P w= .ok (.enter gf args) w)
  (h: ∀fn,F.fn fn-> ∀rec,iv fn a.tmps ps assign body w.heap.size=rec->CallsIn F (n-1) P gf (#[Value.func (Fn.yield (w.heap.size+1)) #[] #[]]++lb) ((w.alloc (.deferred (some []))).alloc (.loop (rec .ready none)))
   fun e W2=>(∃v,e= .returned v)/\
    (
     (W2.heap[w.heap.size+1]? =some (.loop (rec .ready none))/\Q .normal (dp a w.heap.size) (W2.putObj (w.heap.size+1) (.loop (rec .exhausted none))))\/
     ∃c,W2.heap[w.heap.size+1]? =some (.loop (rec .done (some c)))/\c.wpIn F n P Q (dp a w.heap.size) (W2.putObj (w.heap.size+1) (.loop (rec .exhausted (some c)))))):
  (Code.rangeFunc g ps assign body).wpIn F n P Q a w:=qy Af h1 hg UX eg fun fn Di=>h fn Di _ rfl
theorem bw {rec:LoopState->Option Code->Loop} (hF:F.fn fn) (xp:iv fn tmps ps assign body D=rec)
  (hl:W.heap[l]? =some (.loop (rec .ready none))) (hs:args.size=ps.size)
  (h:assign.wpIn (F.inRound l) n P (Exit.then (fun a₁ W1=>W1.heap[l]? =some (.loop (rec .ready none))/\body.wpIn (F.inRound l) n P (pT l rec R) a₁ (W1.putObj l (.loop (rec .busy none)))) (fun _ _ _ =>False))
   { tmps:=(ps.zip args).foldl (fun t (p,v)=>t.setIfInBounds p v) tmps,defers:=[]} W):
  YieldAt F n P l args W R:=by
 subst xp;exact od hF hl hs h
end
section
open Go.RowKit Go.Sort
structure Elem {α:Type} (sT T:TypeId) (k bytes:Nat) (z:Value) (C:α->List Value):Prop where
 und:Tryz.prog.underlying sT=some (.slice T)
 info:(Tryz.prog.info? T).map (fun i=>(i.zero,i.size,i.bytes))=some (some z,k,bytes)
 size:z.cells.size=k
 pos:0<k
 small:bytes<=1000
 len: ∀x,(C x).length=k
 one: ∀x,∀v∈C x,v.oneCell'=true
def OwnG {α:Type} (T:TypeId) (k:Nat) (C:α->List Value) (w:World) (base:Nat) (R:Option Addr) (cap:Nat) (L:List α):Prop:=w.ownsRow base T k (.slice R L.length cap) L.length (L.flatMap C)
section
variable {α:Type} {sT T:TypeId} {k bytes:Nat} {z:Value} {C:α->List Value}
theorem Elem.flat (h:Elem sT T k bytes z C) (L:List α):(L.flatMap C).length=L.length*k:=by
 induction L with
 |nil=>simp
 |cons x L ih=>rw[vy,vf,ih,vn,h.len,Nat.add_mul];omega
variable {i:Nat}
theorem Elem.get (h:Elem sT T k bytes z C) {L:List α} {r:α} (hr:L[i]? =some r) (j:Nat) (hj:j<k):(L.flatMap C)[i*k+j]? =(C r)[j]? :=by
 induction L generalizing i with
 |nil=>simp at hr
 |cons x L ih=>
  rw[vy];cases i with
  |zero=>
   simp at hr;subst hr;rw[Nat.zero_mul,Nat.zero_add,vk (by rw[h.len];exact hj)]
  |succ i=>
   simp at hr;rw[vj (by rw[h.len,Nat.add_mul];omega)];have e:(i+1)*k+j-(C x).length=i*k+j:=(by rw[h.len,Nat.add_mul];omega);rw[e];exact ih hr
theorem OwnG.nil (w:World) (base:Nat):OwnG T k C w base none 0 []:=World.ownsRow_nil w base _ k
variable {w:World} {base cap:Nat} {R:Option Addr}
theorem OwnG.form {L:List α} (h:OwnG T k C w base R cap L):(R=none/\L=[]/\cap=0)\/ ∃g,R=some ⟨g,0,none⟩/\base<=g/\g<w.heap.size/\L.length<=cap:=by
 rcases h.2 with⟨h2,h3⟩|⟨g,vA,cur,h1,h2,h3,h4,_⟩
 ·injection h2 with e1 e2 e3;exact .inl ⟨e1,List.eq_nil_of_length_eq_zero h3,e3⟩
 ·injection h1 with e1 e2 e3;exact .inr ⟨g,e1,h2,(uZ h3).1,by omega⟩
variable {g:Nat}
theorem OwnG.formS {L:List α} (h:OwnG T k C w base (some ⟨g,0,none⟩) cap L):base<=g/\g<w.heap.size/\L.length<=cap:=by
 rcases h.form with⟨h1,_⟩|⟨g',h1,h2,h3,h4⟩
 ·cases h1
 ·injection h1 with h1;injection h1 with h1;subst h1;exact⟨h2,h3,h4⟩
variable {w':World}
theorem OwnG.same {L:List α} (h:OwnG T k C w base R cap L) (hb: ∀g,R=some ⟨g,0,none⟩->w'.heap[g]? =w.heap[g]?):OwnG T k C w' base R cap L:=by
 refine⟨h.1,?_⟩;rcases h.2 with h2|⟨g,vA,cur,h1,h2,h3,h4⟩
 ·exact .inl h2
 ·injection h1 with e1 e2 e3;exact .inr ⟨g,vA,cur,by rw[e1,e2,e3],h2,(hb g e1).trans h3,h4⟩
theorem OwnG.lt {L:List α} (h:OwnG T k C w base R cap L): ∀g,R=some ⟨g,0,none⟩->base<=g/\g<w.heap.size:=fun g e=>by
 subst e;exact⟨h.formS.1,h.formS.2.1⟩
theorem OwnG.kept {L:List α} (h:OwnG T k C w base R cap L) (hb:Below w.heap.size w w'):OwnG T k C w' base R cap L:=h.same fun g hg=>hb.block _ (h.lt g hg).2
theorem OwnG.alloc {L:List α} (h:OwnG T k C w base R cap L) (o:Obj):OwnG T k C (w.alloc o) base R cap L:=World.ownsRow.alloc h o
theorem OwnG.cell (hE:Elem sT T k bytes z C) {L:List α} (h:OwnG T k C w base (some ⟨g,0,none⟩) cap L) {r:α} (hr:L[i]? =some r) (j:Nat) (hj:j<k):w.cell? ⟨g,i*k+j,none⟩=(C r)[j]? :=by
 have hk:i<L.length:=(List.getElem?_eq_some_iff.1 hr).1;have vH:i*k+j<L.length*k:=by
  have h1:(i+1)*k<=L.length*k:=Nat.mul_le_mul_right k hk;rw[Nat.add_mul]at h1;omega
 rw[World.ownsRow.cellAt h (i*k+j) vH,hE.get hr j hj]
theorem OwnG.free {L:List α} (h:OwnG T k C w base (some ⟨g,0,none⟩) cap L) (j:Nat):w.frozen? ⟨g,j,none⟩=false:=World.ownsRow.frozenAt h j
variable {ops:Array Oper} {rest:List Oper} {o:Oper} {a:Act} {Q:Exit->Act->World->Prop}
theorem mt (hE:Elem sT T k bytes z C) (yv:o.guard=none) (s x:Operand)
  (ho:o.op= .call { callee:= .builtin .append,args:= #[s,x],argTypes:= #[sT,sT]})
  (base:Nat) (R:Option Addr) (cap m:Nat) (L:List α) (hm:m=L.length) (hs:a.eval s= .slice R m cap) (vR:OwnG T k C w base R cap L)
  (r:α) (b c:Nat) (hx:a.eval x= .slice (some ⟨b,0,none⟩) 1 c) (hb:w.heap[b]? =some (.cells (C r).toArray T (0,0)))
  (wb:m<1000000) (vQ:base<=w.heap.size)
  (h: ∀g vA w',OwnG T k C w' base (some ⟨g,0,none⟩) vA (L++[r])->w.grownBy w' (R.map (·.block))->(R.map (·.block)=some g\/g=w.heap.size)->g<w'.heap.size->wpList Tryz.prog ops Q rest (a.put o.dst (.slice (some ⟨g,0,none⟩) (m+1) vA)) w'):
  wpList Tryz.prog ops Q (o::rest) a w:=by
 obtain⟨i0,yb,wz,wg,wm⟩:=info_parts hE.info;have yM:=hE.small;refine wpList_append_lies w yv s x sT ho base T i0 _ k bytes hE.und yb wz wg wm hE.size hE.pos _ L.length (L.flatMap C) (by rw[hs,hm]) vR ⟨b,0,none⟩ 1 c (C r) hx (by rw[hE.len];omega) (World.news_of_block (cs:=(C r).toArray) hb)
  (hE.one r) (by omega) (by unfold maxLen;omega) (vx (Nat.mul_le_mul (show L.length+1<=1000001 by omega) yM) (by decide)) vQ w.heap.size rfl ?_
 intro g vA w' xG hg wK vH;rw[<-hm]at xG⊢;refine h g vA w' ?_ ?_ ?_ vH
 ·unfold OwnG;rw[List.flatMap_append,vf,vm,<-hm];simpa using xG
 ·cases R<;>simpa [Value.ownBlock]using hg
 ·cases R<;>simpa [Value.ownBlock]using wK
theorem step_gen (hE:Elem sT T k bytes z C) {K:Act->World->Prop} {E:Prop} (yv:o.guard=none) (s x:Operand)
  (ho:o.op= .call { callee:= .builtin .append,args:= #[s,x],argTypes:= #[sT,sT]})
  (base:Nat) (R:Option Addr) (cap m:Nat) (L:List α) (hm:m=L.length) (hs:a.eval s= .slice R m cap) (vR:OwnG T k C w base R cap L)
  (r:α) (b c:Nat) (hx:a.eval x= .slice (some ⟨b,0,none⟩) 1 c) (hb:w.heap[b]? =some (.cells (C r).toArray T (0,0)))
  (wb:m<1000000) (vQ:base<=w.heap.size)
  (h: ∀g vA w',OwnG T k C w' base (some ⟨g,0,none⟩) vA (L++[r])->w.grownBy w' (R.map (·.block))->(R.map (·.block)=some g\/g=w.heap.size)->g<w'.heap.size->K (a.put o.dst (.slice (some ⟨g,0,none⟩) (m+1) vA)) w'):
  if Region.wanted o (yielded ops a.tmps)=true then Oper.wp Tryz.prog o a w K Q else E:=by
 obtain⟨i0,yb,wz,wg,wm⟩:=info_parts hE.info;have yM:=hE.small;refine step_append_lies w yv s x sT ho base T i0 _ k bytes hE.und yb wz wg wm hE.size hE.pos _ L.length (L.flatMap C) (by rw[hs,hm]) vR ⟨b,0,none⟩ 1 c (C r) hx (by rw[hE.len];omega) (World.news_of_block (cs:=(C r).toArray) hb)
  (hE.one r) (by omega) (by unfold maxLen;omega) (vx (Nat.mul_le_mul (show L.length+1<=1000001 by omega) yM) (by decide)) vQ w.heap.size rfl ?_
 intro g vA w' xG hg wK vH;rw[<-hm]at xG⊢;refine h g vA w' ?_ ?_ ?_ vH
 ·unfold OwnG;rw[List.flatMap_append,vf,vm,<-hm];simpa using xG
 ·cases R<;>simpa [Value.ownBlock]using hg
 ·cases R<;>simpa [Value.ownBlock]using wK
theorem jq (hE:Elem sT T k bytes z C) (yv:o.guard=none) (s x:Operand)
  (ho:o.op= .call { callee:= .builtin .append,args:= #[s,x],argTypes:= #[sT,sT]})
  (base:Nat) (R:Option Addr) (cap k1 m:Nat) (L L2:List α) (hk:L.length=k1) (hm:L2.length=m) (hs:a.eval s= .slice R k1 cap) (vR:OwnG T k C w base R cap L)
  (ad:Option Addr) (c:Nat) (hx:a.eval x= .slice ad m c) (hA:0<m-> ∃x,ad=some x/\ ∀j u,(L2.flatMap C)[j]? =some u->w.cell? (x.add j)=some u) (wb:k1+m<=1000000\/(bytes=1/\k1+m<=140737488355328)) (vQ:base<=w.heap.size)
  (h: ∀R' vA w',OwnG T k C w' base R' vA (L++L2)->Below base w w'->wpList Tryz.prog ops Q rest (a.put o.dst (.slice R' (k1+m) vA)) w'):
  wpList Tryz.prog ops Q (o::rest) a w:=by
 obtain⟨i0,yb,wz,wg,wm⟩:=info_parts hE.info;have yM:=hE.small;by_cases JO:m=0
 ·subst JO;have wE:L2=[]:=List.eq_nil_of_length_eq_zero hm;subst wE;refine wpList_plain yv fun K hK=>?_;have hle:k1<=cap:=by
   rcases vR.form with⟨_,e,e2⟩|⟨g,_,_,_,e⟩
   ·rw[e]at hk;simp at hk;omega
   ·omega
  have yy:Src Tryz.prog i0.size sT (.slice ad 0 c) 0 [] w:=by
   cases ad with
   |none=>exact Src.ofNil w hE.und c
   |some ad=>exact Src.ofSlice w hE.und ad 0 c [] (by simp) (fun j u hu=>by simp at hu) (fun u hu=>by cases hu)
  have xz:=run_append_nothing (P:=Tryz.prog) w sT sT o.type T i0 hE.und yb R k1 cap hle (.slice ad 0 c) yy;have h9:=h R cap w (by rw[List.append_nil];exact vR) (vz _ _);unfold Oper.wp;simp[execOp,ho,resolve,invoke,builtin,hs,hx,xz,Result.andThen];exact hK _ _ h9
 ·obtain⟨xa,rfl,Iu⟩:=hA (by omega);refine wpList_append_lies w yv s x sT ho base T i0 _ k bytes hE.und yb wz wg wm hE.size hE.pos _ L.length (L.flatMap C) (by rw[hs,hk]) vR xa m c (L2.flatMap C) hx (by rw[hE.flat,hm]) Iu
   (fun u hu=>by obtain⟨r,_,hr⟩:=List.mem_flatMap.1 hu;exact hE.one r u hr) (by omega) (by unfold maxLen;omega) (by
    rcases wb with hf|⟨hf,IL⟩
    ·exact vx (Nat.mul_le_mul (show L.length+m<=1000000 by omega) yM) (by decide)
    ·rw[hf,Nat.mul_one];omega) vQ w.heap.size rfl ?_
  intro g vA w' xG hg wK vH;rw[hk]at xG⊢;refine h (some ⟨g,0,none⟩) vA w' ?_ ?_
  ·unfold OwnG;rw[List.flatMap_append,vf,hk,hm];exact xG
  ·have xT:w.grownBy w' (R.map (·.block)):=by cases R<;>simpa [Value.ownBlock]using hg
   exact(vz _ _).grown xT vQ (fun b hb=>by
    rcases vR.form with⟨e,_⟩|⟨g,e,h1,_⟩
    ·rw[e]at hb;cases hb
    ·rw[e]at hb;simp at hb;omega)
end
end
section
open Go.RowKit Go.Sort
variable {F:Fence} {n':Nat} {w:World} {ops:Array Oper} {rest:List Oper} {o:Oper} {a:Act} {Q:Exit->Act->World->Prop}
theorem fd {P:Program} (yv:o.guard=none) (s x:Operand) (t:TypeId)
  (ho:o.op= .call { callee:= .builtin .append,args:= #[s,x],argTypes:= #[t,t]})
  (base:Nat) (e:TypeId) (i:TypeInfo) (z:Value) (size bytes:Nat) (ht:P.underlying t=some (.slice e)) (hi:P.info? e=some i) (hz:i.zero=some z)
  (SB:i.size=size) (Rz:i.bytes=bytes) (hzs:z.cells.size=size) (Lj:0<size)
  (v:Value) (n:Nat) (xs:List Value) (hs:a.eval s=v) (vR:w.ownsRow base e size v n xs)
  (ad:Addr) (m c:Nat) (news:List Value) (hx:a.eval x= .slice (some ad) m c) (hl:news.length=m*size) (Tk: ∀j u,news[j]? =some u->w.cell? (ad.add j)=some u) (h1: ∀u∈news,u.oneCell'=true)
  (hm:0<m) (h63:n+m<=maxLen) (zX:(n+m)*bytes<=140737488355328) (vQ:base<=w.heap.size)
  (h: ∀g cap w',w'.ownsRow base e size (.slice (some ⟨g,0,none⟩) (n+m) cap) (n+m) (xs++news)->w.grownBy w' v.ownBlock->(v.ownBlock=some g\/g=w.heap.size)->g<w'.heap.size->wpListIn F n' P ops Q rest (a.put o.dst (.slice (some ⟨g,0,none⟩) (n+m) cap)) w'):wpListIn F n' P ops Q (o::rest) a w:=by
 refine wpListIn_plain yv fun K hK=>?_;obtain⟨g,cap,w',hr,h2,h3,h4,h5⟩:=run_append_lies (P:=P) w t o.type base e i z size bytes ht hi hz SB Rz hzs Lj v n xs vR ad m c news hl Tk h1 hm h63 zX vQ w.heap.size rfl;unfold Oper.wpIn;refine⟨by simp[Oper.about,ho,resolve,Target.leads,Sem.run_pure],?_⟩;rw[Oper.semAt_plain F _ _ (by rw[ho];intro c NV;cases NV)];simp[execOp,ho,resolve,invoke,builtin,hs,hx,hr,Result.andThen];exact hK _ _ (h g cap w' h2 h3 h4 h5)
theorem pu (yv:o.guard=none) (s x:Operand)
  (ho:o.op= .call { callee:= .builtin .append,args:= #[s,x],argTypes:= #[39,39]})
  (base:Nat) (A:Option Addr) (cap k:Nat) (e:Nat->Nat) (hs:a.eval s= .slice A k cap) (vR:OwnB w base A cap k e)
  (ad:Addr) (n c:Nat) (d:Nat->Nat) (hx:a.eval x= .slice (some ad) n c) (hA:au w (some ad) n d) (hn:0<n) (wb:k+n<=10000000) (vQ:base<=w.heap.size)
  (h: ∀g vA w',OwnB w' base (some ⟨g,0,none⟩) vA (k+n) (fun i=>if i<k then e i else d (i-k))->w.grownBy w' (A.map (·.block))->(A.map (·.block)=some g\/g=w.heap.size)->g<w'.heap.size->wpListIn F n' Tryz.prog ops Q rest (a.put o.dst (.slice (some ⟨g,0,none⟩) (k+n) vA)) w'):
  wpListIn F n' Tryz.prog ops Q (o::rest) a w:=by
 obtain⟨i0,yb,wz,wg,wm⟩:=info_parts jA;obtain⟨ad',e',yK⟩:=hA hn;injection e' with e';subst e';refine fd yv s x 39 ho base 5 i0 (.int .u8 0) 1 1 Tryz.underlying39 yb wz wg wm rfl (by decide) _ k _ hs vR ad n c ((List.range n).map fun j=>Value.int .u8 (d j:Int)) hx (by simp) (fun j u hu=>?_) (fun u hu=>?_) hn (by unfold maxLen;omega) (by omega) vQ ?_
 ·have hj:j<n:=by
   have:=(List.getElem?_eq_some_iff.1 hu).1;simpa using this
  rw[vt,List.getElem?_range hj]at hu;simp only[Option.map_some,Option.some.injEq]at hu;subst hu;exact yK j hj
 ·obtain⟨i,_,rfl⟩:=List.mem_map.1 hu;rfl
 ·intro g vA w' xG hg wK vH;refine h g vA w' ?_ ?_ ?_ vH
  ·unfold OwnB;have e2:((List.range (k+n)).map fun j=>Value.int .u8 ((if j<k then e j else d (j-k):Nat):Int))=((List.range k).map fun j=>Value.int .u8 (e j:Int))++((List.range n).map fun j=>Value.int .u8 (d j:Int)):=by
    have e3:((List.range k).map fun j=>Value.int .u8 ((if j<k then e j else d (j-k):Nat):Int))=(List.range k).map fun j=>Value.int .u8 (e j:Int):=List.map_congr_left fun j hj=>by rw[if_pos (List.mem_range.1 hj)]
    have e4:(((List.range n).map (k+ ·)).map fun j=>Value.int .u8 ((if j<k then e j else d (j-k):Nat):Int))=(List.range n).map fun j=>Value.int .u8 (d j:Int):=by
     rw[List.map_map];exact List.map_congr_left fun j hj=>by
      simp only[Function.comp];rw[if_neg (by omega),Nat.add_sub_cancel_left]
    rw[List.range_add,List.map_append,e3,e4]
   rw[e2];exact xG
  ·cases A<;>simpa [Value.ownBlock]using hg
  ·cases A<;>simpa [Value.ownBlock]using wK
theorem uA {α:Type} {sT T:TypeId} {k bytes:Nat} {z:Value} {C:α->List Value} (hE:Elem sT T k bytes z C) (yv:o.guard=none) (s x:Operand)
  (ho:o.op= .call { callee:= .builtin .append,args:= #[s,x],argTypes:= #[sT,sT]})
  (base:Nat) (R:Option Addr) (cap m:Nat) (L:List α) (hm:m=L.length) (hs:a.eval s= .slice R m cap) (vR:OwnG T k C w base R cap L)
  (r:α) (b c:Nat) (hx:a.eval x= .slice (some ⟨b,0,none⟩) 1 c) (hb:w.heap[b]? =some (.cells (C r).toArray T (0,0)))
  (wb:m<1000000) (vQ:base<=w.heap.size)
  (h: ∀g vA w',OwnG T k C w' base (some ⟨g,0,none⟩) vA (L++[r])->w.grownBy w' (R.map (·.block))->(R.map (·.block)=some g\/g=w.heap.size)->g<w'.heap.size->wpListIn F n' Tryz.prog ops Q rest (a.put o.dst (.slice (some ⟨g,0,none⟩) (m+1) vA)) w'):
  wpListIn F n' Tryz.prog ops Q (o::rest) a w:=by
 obtain⟨i0,yb,wz,wg,wm⟩:=info_parts hE.info;have yM:=hE.small;refine fd yv s x sT ho base T i0 _ k bytes hE.und yb wz wg wm hE.size hE.pos _ L.length (L.flatMap C) (by rw[hs,hm]) vR ⟨b,0,none⟩ 1 c (C r) hx (by rw[hE.len];omega) (World.news_of_block (cs:=(C r).toArray) hb)
  (hE.one r) (by omega) (by unfold maxLen;omega) (vx (Nat.mul_le_mul (show L.length+1<=1000001 by omega) yM) (by decide)) vQ ?_
 intro g vA w' xG hg wK vH;rw[<-hm]at xG⊢;refine h g vA w' ?_ ?_ ?_ vH
 ·unfold OwnG;rw[List.flatMap_append,vf,vm,<-hm];simpa using xG
 ·cases R<;>simpa [Value.ownBlock]using hg
 ·cases R<;>simpa [Value.ownBlock]using wK
end
section
open Go
section
variable {P:Program} {ops:Array Oper} {Q:Exit->Act->World->Prop} {md:Region.Mode} {S:World->Prop} {z:Nat}
def cD (P:Program) (md:Region.Mode) (ops:Array Oper) (Q:Exit->Act->World->Prop) (S:World->Prop) (z:Nat):Nat->Array Bool->Act->World->Prop
 |0,listed,a,w=>Region.ready md ops listed=[]/\Q .normal a w
 |n+1,listed,a,w=>(Region.ready md ops listed=[]->Q .normal a w)/\
  ∀i∈Region.ready md ops listed,wpOp P ops Q i (fun a' w'=>(i≠z->S w')/\cD P md ops Q S z n (listed.setIfInBounds i true) a' w') a w
theorem ij: ∀(n:Nat) (listed:Array Bool) (a:Act) (w:World),cD P md ops Q S z n listed a w->wpAny P md ops Q n listed a w
 |0,_,_,_,h=>h
 |n+1,_,_,_,h=>⟨h.1,fun i hi=>wpOp_mono (fun a' w' h'=>ij n _ a' w' h'.2) (h.2 i hi)⟩
def ia (md:Region.Mode) (ops:Array Oper) (listed:Array Bool):Prop:=
 ∀j o,ops[j]? =some o->listed.getD j true=true-> ∀e∈o.after,Region.binds md e=true->listed.getD e.on true=true
variable {listed:Array Bool} {j:Nat}
theorem oX (h:listed.getD j false=true):listed.getD j true=true:=by
 simp only[Array.getD_eq_getD_getElem?]at *
 cases hc:listed[j]? with
 |none=>rfl
 |some b=>rw[hc]at h;simpa using h
variable {i:Nat}
theorem kh (h:listed.getD j true=true):(listed.setIfInBounds i true).getD j true=true:=by
 by_cases e:i=j
 ·subst e;simp only[Array.getD_eq_getD_getElem?,Array.getElem?_setIfInBounds_self];split<;>rfl
 ·rw[getD_set_ne true e];exact h
theorem ia.set (h:ia md ops listed) (hi:i∈Region.ready md ops listed):ia md ops (listed.setIfInBounds i true):=by
 intro j o ho hj e he hb;by_cases Kc:i=j
 ·subst Kc;obtain⟨_,o',xG,xk⟩:=mem_ready.1 hi;rw[ho]at xG;injection xG with xG;subst xG;exact kh (oX (xk e he hb))
 ·rw[getD_set_ne true Kc]at hj;exact kh (h j o ho hj e he hb)
def waits (md:Region.Mode) (ops:Array Oper) (k j:Nat):Bool:=match ops[k]? with|some o=>o.after.toList.any fun e=>Region.binds md e&&e.on==j|none=>false
def back (md:Region.Mode) (ops:Array Oper) (z:Nat):Nat->List Nat
 |0=>(List.range ops.size).filter fun j=>waits md ops z j
 |n+1=>let l:=back md ops z n;(List.range ops.size).filter fun j=>l.contains j || l.any fun k=>waits md ops k j
theorem kP {k:Nat} (h:waits md ops k j=true): ∃o,ops[k]? =some o/\ ∃e∈o.after,Region.binds md e=true/\e.on=j:=by
 unfold waits at h;split at h
 ·next o ho=>
  obtain⟨e,he,hp⟩:=List.any_eq_true.1 h;rw[Bool.and_eq_true,beq_iff_eq]at hp;exact⟨o,ho,e,by simpa using he,hp.1,hp.2⟩
 ·cases h
theorem kB (hc:ia md ops listed) (hz:z∈Region.ready md ops listed): ∀n,∀j∈back md ops z n,listed.getD j true=true
 |0,j,hj=>by
  obtain⟨o,ho,e,he,hb,rfl⟩:=kP (List.mem_filter.1 hj).2;obtain⟨_,o',xG,xk⟩:=mem_ready.1 hz;rw[ho]at xG;injection xG with xG;subst xG;exact oX (xk e he hb)
 |n+1,j,hj=>by
  have h1:=(List.mem_filter.1 hj).2;rw[Bool.or_eq_true]at h1;rcases h1 with h1|h1
  ·exact kB hc hz n j (by simpa using h1)
  ·obtain⟨k,hk,hw⟩:=List.any_eq_true.1 h1;obtain⟨o,ho,e,he,hb,rfl⟩:=kP hw;exact hc k o ho (kB hc hz n k hk) e he hb
def lastB (md:Region.Mode) (ops:Array Oper) (z n:Nat):Bool:=let l:=back md ops z n;(List.range ops.size).all fun j=>j==z || l.contains j
variable {n:Nat}
theorem tC (h:lastB md ops z n=true) (hc:ia md ops listed) (hz:z∈Region.ready md ops listed) (hj:j∈Region.ready md ops listed):j=z:=by
 obtain⟨h1,o,ho,_⟩:=mem_ready.1 hj;have vH:=(uZ ho).1;unfold lastB at h;have h2:=List.all_eq_true.1 h j (List.mem_range.2 vH);rw[Bool.or_eq_true,beq_iff_eq]at h2;rcases h2 with h2|h2
 ·exact h2
 ·have h3:=kB hc hz n j (by simpa using h2);rw[h1]at h3;cases h3
variable {oi:Oper} {v:Value}
theorem mB (hi:ops[i]? =some oi) (SG: ∀(j:Nat) (o:Oper) cs b,ops[j]? =some o->o.op≠ .select cs b)
  (hQ: ∀c a w,Q (.panic c) (a.put oi.dst v) w->Q (.panic c) a w) (hz: ∀listed,ia md ops listed->z∈Region.ready md ops listed-> ∀j∈Region.ready md ops listed,j=z) (Px:i≠z):
  ∀(n:Nat) (listed:Array Bool) (a:Act) (w:World),ia md ops listed->
   (∀j oj,ops[j]? =some oj->j≠i->listed.getD j true=false->(∀e∈oj.after,Region.binds md e=true->e.on≠i)->oi.apart ops oj=true)->
   i∈Region.ready md ops listed->YieldsIf P ops S oi v a->S w->
   cD P md ops Q S z n (listed.setIfInBounds i true) (a.put oi.dst v) w->cD P md ops Q S z (n+1) listed a w:=by
 intro n
 induction n with
 |zero=>
  intro listed a w _ _ hr hy hS H;refine⟨fun h=>(by rw[h]at hr;cases hr),fun j hj=>?_⟩;by_cases Kc:j=i
  ·subst Kc;exact hy.wpOp hi hS ⟨fun _ =>hS,H⟩
  ·have:=ready_mono hj Kc;rw[H.1]at this;cases this
 |succ n ih=>
  intro listed a w zL hfree hr hy hS H;refine⟨fun h=>(by rw[h]at hr;cases hr),fun j hj=>?_⟩;by_cases Kc:j=i
  ·subst Kc;exact hy.wpOp hi hS ⟨fun _ =>hS,H⟩
  have hjz:j≠z:=fun e=>by subst e;exact Px (hz listed zL hj i hr)
  have h1:=H.2 j (ready_mono hj Kc);obtain⟨TJ,oj,Tg,xk⟩:=mem_ready.1 hj;have LS: ∀e∈oj.after,Region.binds md e=true->e.on≠i:=fun e he hb heq=>by
   have h2:=oX (xk e he hb);rw[heq,(mem_ready.1 hr).1]at h2;cases h2
  have h2:=wpOp_putIf Tg (hfree j oj Tg Kc TJ LS) (fun cs b=>SG i oi cs b hi) (fun cs b=>SG j oj cs b Tg) hQ hy h1;refine wpOp_mono (fun a' w' h3=>⟨h3.2.1,ih (listed.setIfInBounds j true) a' w' (zL.set hj) (fun k ok hk IK Ee vW=>?_) (ready_mono hr (Ne.symm Kc)) h3.1 (h3.2.1 hjz) ?_⟩) h2
  ·refine hfree k ok hk IK ?_ vW;by_cases zn:j=k
   ·subst zn;exact TJ
   ·rw[getD_set_ne true zn]at Ee;exact Ee
  ·rw[Array.setIfInBounds_comm _ _ Kc];exact h3.2.2
def pi (md:Region.Mode) (ops:Array Oper) (listed:Array Bool):Bool:=
 (List.range ops.size).all fun j=> !listed.getD j true || match ops[j]? with|some o=>o.after.toList.all fun e=> !Region.binds md e || listed.getD e.on true|none=>true
theorem nR (h:pi md ops listed=true):ia md ops listed:=by
 intro j o ho hj e he hb;have vH:=(uZ ho).1;have h1:=List.all_eq_true.1 h j (List.mem_range.2 vH);rw[hj,ho]at h1;simp only[Bool.not_true,Bool.false_or]at h1;have h2:=List.all_eq_true.1 h1 e (by simpa using he);rw[hb]at h2;simpa using h2
structure cW (md:Region.Mode) (ops:Array Oper) (z:Nat):Prop where
 last: ∀listed,ia md ops listed->z∈Region.ready md ops listed-> ∀j∈Region.ready md ops listed,j=z
 noSel:Region.noSelect ops=true
theorem cW.of (n:Nat) (h:lastB md ops z n=true) (h2:Region.noSelect ops=true):cW md ops z:=⟨fun listed hc hz j hj=>tC h hc hz hj,h2⟩
variable {a:Act} {w:World}
theorem oe (i:Nat) (hl:cW md ops z) (hi:ops[i]? =some oi) (Px:(i==z)=false)
  (hc:pi md ops listed=true) (hf:Region.free md ops listed i=true) (hr:(Region.ready md ops listed).contains i=true)
  (hQ: ∀c a w,Q (.panic c) (a.put oi.dst v) w->Q (.panic c) a w) (hy:YieldsIf P ops S oi v a) (hS:S w)
  (h:cD P md ops Q S z n (listed.setIfInBounds i true) (a.put oi.dst v) w):cD P md ops Q S z (n+1) listed a w:=
 mB hi (Region.noSelect_spec hl.noSel) hQ hl.last (by simpa using Px) n listed a w (nR hc) (Region.free_spec hi hf) (by simpa using hr) hy hS h
theorem zt (i:Nat) {l2:Array Bool} {a2:Act} (h:cD P md ops Q S z n l2 a2 w)
  (hl:cW md ops z:=by assumption) (hi:ops[i]? =some oi:=by rfl) (Px:(i==z)=false:=by rfl)
  (hc:pi md ops listed=true:=by kernel_rfl) (hf:Region.free md ops listed i=true:=by kernel_rfl) (hr:(Region.ready md ops listed).contains i=true:=by kernel_rfl)
  (hQ: ∀c a w,Q (.panic c) (a.put oi.dst v) w->Q (.panic c) a w:=by exact fun _ _ _ h=>h)
  (hy:YieldsIf P ops S oi v a:=by(refine Or.inl ⟨by rfl,?_⟩;intro w hSw;(try dsimp only at hSw);go_simp;all_goals(with_reducible rfl))) (hS:S w:=by assumption)
  (e1:listed.setIfInBounds i true=l2:=by((try simp only[List.setIfInBounds_toArray,List.set_cons_zero,List.set_cons_succ]);exact rfl))
  (e2:a.put oi.dst v=a2:=by((try simp only[Act.put,List.setIfInBounds_toArray,List.set_cons_zero,List.set_cons_succ,List.getElem_toArray,List.getElem_cons_succ,List.getElem_cons_zero]);exact rfl)):
  cD P md ops Q S z (n+1) listed a w:=by
 subst e1 e2;exact oe i hl hi Px hc hf hr hQ hy hS h
variable {o:Oper}
theorem aT (i:Nat) (hr:Region.ready md ops listed=[i]) (ho:ops[i]? =some o)
  (h: ∀K':Act->World->Prop,Shut (∀a w,S w->(S w->cD P md ops Q S z n (listed.setIfInBounds i true) a w)->K' a w)->if Region.wanted o (yielded ops a.tmps)=true then Oper.wp P o a w K' Q else K' (a.put o.dst undef) w):
  cD P md ops Q S z (n+1) listed a w:=by
 refine⟨fun h0=>absurd (hr▸h0) (by simp),fun j hj=>?_⟩;rw[hr,List.mem_singleton]at hj;subst hj;exact wpOp_step ho fun K' hK=>h K' (fun a w hS hW=>hK a w ⟨fun _ =>hS,hW hS⟩)
theorem bd (i:Nat) (hr:Region.ready md ops listed=[i]) (Px:i=z) (ho:ops[i]? =some o)
  (h: ∀K':Act->World->Prop,Shut (∀a w,cD P md ops Q S z n (listed.setIfInBounds i true) a w->K' a w)->if Region.wanted o (yielded ops a.tmps)=true then Oper.wp P o a w K' Q else K' (a.put o.dst undef) w):
  cD P md ops Q S z (n+1) listed a w:=by
 refine⟨fun h0=>absurd (hr▸h0) (by simp),fun j hj=>?_⟩;rw[hr,List.mem_singleton]at hj;subst hj;exact wpOp_step ho fun K' hK=>h K' (fun a w hW=>hK a w ⟨fun e=>absurd Px e,hW⟩)
theorem be (hr:Region.ready md ops listed=[]) (h:Q .normal a w): ∀n,cD P md ops Q S z n listed a w
 |0=>⟨hr,h⟩
 |_ +1=>⟨fun _ =>h,by rw[hr];simp⟩
theorem jw {id:Nat} (S:World->Prop) (z:Nat) (hm:P.follows .mixedOrders=true) (hl:cW .any ops z) (hS:S w.drew)
  (h:cW .any ops z->S w.drew->cD P .any ops Q S z ops.size (Array.replicate ops.size false) a w.drew):(Code.region id ops true).wp P Q a w:=
 wp_region_any hm (ij _ _ _ _ (h hl hS))
end
end
section
open Go
section
variable {P:Program} {ops:Array Oper} {Q:Exit->Act->World->Prop} {md:Region.Mode} {n l:Nat}
def pA (Q:Exit->Act->World->Prop):Exit->Act->World->Prop
 | .outgrown,_,_ =>False
 | .panic _,_,_ =>False
 |e,a,w=>Q e a w
theorem kV: ¬LetsOut (pA Q):=fun⟨_,_,h⟩=>h
variable {a:Act} {w:World}
theorem aQ (h:Q .normal a w):pA Q .normal a w:=h
def jj (ops:Array Oper):Bool:=ops.toList.all fun o=>match o.op with| .defer _ =>false|_ =>true
variable {i:Nat} {o:Oper}
theorem lM (h:jj ops=true) (ho:ops[i]? =some o): ∀c,o.op≠ .defer c:=by
 intro c hc;have hm:o∈ops.toList:=vl (by simpa using ho);have:=List.all_eq_true.1 h o hm;rw[hc]at this;cases this
theorem se {next next':Act->World->Prop} (himp: ∀a w,next a w->next' a w) {r:Result Next} (h:o.upon P a next (pA Q) r):o.uponIn (Fence.wide.inRound l) n P a next' Q r:=by
 cases r with
 |ok nx w=>
  cases nx with
  |value v=>exact himp _ _ h
  |skip=>exact himp _ _ h
  |defer d=>exact himp _ _ h
  |enter f args=>
   refine⟨fun hh=>by simp[Fence.wide]at hh,CallsIn.inRound l (callsIn_wide.2 (Calls.mono h ?_))⟩;intro e w'' hh;cases e with
   |returned v=>exact himp _ _ hh
   |panicked ch=>exact False.elim hh
   |outgrown=>exact(kV hh).elim
  |row x y=>
   refine⟨fun hh=>by simp[Fence.wide]at hh,fun c cs _ =>?_⟩;obtain⟨v,w',h1,h2⟩:=h c cs;exact⟨v,w',himp _ _ h1,stepsIn_wide.2 h2⟩
  |_ =>exact False.elim h
 |halt r w=>
  cases r with
  |panic v=>exact False.elim h
  |_ =>exact False.elim h
theorem rX {K K':Act->World->Prop} (hp:jj ops=true) (himp: ∀a w,K a w->K' a w) (h:wpOp P ops (pA Q) i K a w):wpOpIn (Fence.wide.inRound l) n P ops Q i K' a w:=by
 unfold wpOp at h;unfold wpOpIn;cases ho:ops[i]? with
 |none=>rw[ho]at h;exact himp _ _ h
 |some o=>
  rw[ho]at h;simp only at h⊢;split
  ·rename_i hw;rw[if_pos hw]at h;rcases h with h|⟨_,h⟩
   ·refine⟨fun _ _ =>trivial,?_⟩;rw[Oper.semAt_eq _ _ _ (lM hp ho)];exact se himp h
   ·exact(kV h).elim
  ·rename_i hw;rw[if_neg hw]at h;exact⟨fun _ _ =>trivial,himp _ _ h⟩
theorem kO (hp:jj ops=true): ∀(fuel:Nat) (listed:Array Bool) (a:Act) (w:World),wpAny P md ops (pA Q) fuel listed a w->wpAnyIn (Fence.wide.inRound l) n P md ops Q fuel listed a w
 |0,_,_,_,h=>h
 |fuel+1,listed,_,_,h=>⟨h.1,fun i hi=>rX hp (fun a w h'=>kO hp fuel _ a w h') (h.2 i hi)⟩
theorem bR {id:Nat} (S:World->Prop) (z:Nat) (hm:P.follows .mixedOrders=true) (hp:jj ops=true) (hl:cW .any ops z) (hS:S w.drew)
  (h:cW .any ops z->S w.drew->cD P .any ops (pA Q) S z ops.size (Array.replicate ops.size false) a w.drew):(Code.region id ops true).wpIn (Fence.wide.inRound l) n P Q a w:=
 wpIn_region_any hm (kO hp _ _ _ _ (ij _ _ _ _ (h hl hS)))
end
end
