/- The cache's slots as a row of the call's own; The sort's row and the row of slots; The laying of slices.SortFunc at this translation, in plain words (written by the shelf's own tool lay-plain.mjs). The sort of the slots. The cache's Slots up to the sort: a row that holds the slots in some order. -/
import Derived.Test.YtoochjhipmpehaaGreatDoorCaZK
import Derived.Shelf.GgSortFunc.InsertionK
import Derived.Shelf.SlLaysF0
import Derived.Shelf.SlSortCmp.NoneTotal
import Derived.Sort.Grow
import Derived.Sort.LotA
import Derived.Test.YtoochjhipmpehaaGreatDoorChecked
set_option linter.unusedVariables false
set_option linter.unusedSimpArgs false
set_option maxRecDepth 100000
set_option maxHeartbeats 4000000
namespace Go.Proofs.YtoochjhipmpehaaGreatDoor
section
open Go.RowKit Go.Maps Go.WideMaps Go.Sort
def sl (s:Slot):List Value:=[.int .i64 s.ino, .int .i64 s.page, .int .i64 (s.frame:Int)]
def sls (l:List Slot):List Value:=l.flatMap sl
theorem qK (a b:List Slot):sls (a++b)=sls a++sls b:=List.flatMap_append
theorem sM (s:Slot):sls [s]=sl s:=by simp[sls]
theorem kL (l:List Slot):(sls l).length=l.length*3:=by
 induction l with
 |nil=>rfl
 |cons a l ih=>
  unfold sls at *
  rw[vN,vu,ih,vC];simp[sl];omega
variable {s:Slot}
theorem sN (l:List Slot) (k j:Nat) (hj:j<3) (hk:l[k]? =some s):(sls l)[k*3+j]? =(sl s)[j]? :=by
 induction l generalizing k with
 |nil=>simp at hk
 |cons a l ih=>
  unfold sls at *
  rw[vN];cases k with
  |zero=>
   simp only[List.getElem?_cons_zero,Option.some.injEq]at hk;subst hk;rw[vz (by simp[sl];omega),Nat.zero_mul,Nat.zero_add]
  |succ k=>
   rw[vy (by simp[sl];omega)];have e:(k+1)*3+j-(sl a).length=k*3+j:=(by simp[sl];omega);rw[e];exact ih k (by simpa using hk)
theorem mN (l:List Slot): ∀u∈sls l,u.oneCell'=true:=by
 intro u hu;obtain⟨s,_,h⟩:=List.mem_flatMap.1 hu;simp only[sl,List.mem_cons,List.not_mem_nil,or_false]at h;rcases h with rfl|rfl|rfl<;>rfl
def OwnQ (w:World) (base:Nat) (A:Option Addr) (cap:Nat) (l:List Slot):Prop:=w.ownsRow base 160 3 (.slice A l.length cap) l.length (sls l)
theorem sP:(Tryz.prog.info? 160).map (fun i=>(i.zero,i.size,i.bytes))=some (some (.agg #[.int .i64 0, .int .i64 0, .int .i64 0]),3,24):=by kernel_rfl
theorem OwnQ.nil (w:World) (base:Nat):OwnQ w base none 0 []:=World.ownsRow_nil w base _ 3
variable {w w':World} {base cap:Nat} {A:Option Addr} {l:List Slot}
theorem OwnQ.kept {row:Option Nat} (h:OwnQ w base A cap l) (hg:w.grownBy w' row) (wg:A.map (·.block)=none\/A.map (·.block)≠row):OwnQ w' base A cap l:=
 World.ownsRow.kept h hg (by cases A<;>simp_all [Value.ownBlock])
theorem OwnQ.below {B:Nat} (h:OwnQ w base A cap l) (hb:Below B w w') (hB:w.heap.size<=B):OwnQ w' base A cap l:=
 h.kept (row:=none) ⟨hb.os,hb.tape,hb.output,hb.size,fun k hk _ =>hb.block k (by omega)⟩ (by cases A<;>simp)
theorem OwnQ.form (h:OwnQ w base A cap l):(A=none/\l=[]/\cap=0)\/ ∃g cur,A=some ⟨g,0,none⟩/\base<=g/\g<w.heap.size/\l.length<=cap/\w.heap[g]? =some (.cells cur 160 (0,0))/\cur.size=cap*3/\cur.toList.take (l.length*3)=sls l:=by
 rcases h.2 with⟨h2,h3⟩|⟨g,vP,cur,h1,h2,h3,h4,h5,h6,h7⟩
 ·injection h2 with h4 h5 h6;exact .inl ⟨h4,List.eq_nil_of_length_eq_zero h3,h6⟩
 ·injection h1 with e1 e2 e3;subst e3;exact .inr ⟨g,cur,e1,h2,(vo h3).1,h4,h3,h6,h7⟩
theorem OwnQ.cell {g:Nat} (h:OwnQ w base (some ⟨g,0,none⟩) cap l) {k j:Nat} (hj:j<3) (hk:l[k]? =some s):w.cell? ⟨g,k*3+j,none⟩=(sl s)[j]? :=by
 have Dd:k<l.length:=(List.getElem?_eq_some_iff.1 hk).1;rw[World.ownsRow.cellAt h (k*3+j) (by omega),sN l k j hj hk]
theorem app_slot {ops:Array Oper} {rest:List Oper} {o:Oper} {a:Act} {Q:Exit->Act->World->Prop} (yB:o.guard=none) (s x:Operand)
  (ho:o.op= .call { callee:= .builtin .append,args:= #[s,x],argTypes:= #[157,157]})
  (base:Nat) (A:Option Addr) (cap:Nat) (l:List Slot) (hs:a.eval s= .slice A l.length cap) (wh:OwnQ w base A cap l)
  (r:Slot) (b c:Nat) (hx:a.eval x= .slice (some ⟨b,0,none⟩) 1 c) (hb:w.heap[b]? =some (.cells #[.int .i64 r.ino, .int .i64 r.page, .int .i64 (r.frame:Int)] 160 (0,0)))
  (wC:l.length<1000000) (wv:base<=w.heap.size)
  (h: ∀g vP w',OwnQ w' base (some ⟨g,0,none⟩) vP (l++[r])->w.grownBy w' (A.map (·.block))->(A.map (·.block)=some g\/g=w.heap.size)->g<w'.heap.size->wpList Tryz.prog ops Q rest (a.put o.dst (.slice (some ⟨g,0,none⟩) (l.length+1) vP)) w'):
  wpList Tryz.prog ops Q (o::rest) a w:=by
 obtain⟨i0,yj,wM,wF,wL⟩:=info_parts sP;refine wpList_append_lies w yB s x 157 ho base 160 i0 _ 3 24 Tryz.underlying157 yj wM wF wL rfl (by omega) _ l.length (sls l) hs wh ⟨b,0,none⟩ 1 c (sl r) hx rfl (World.news_of_block (cs:= #[.int .i64 r.ino, .int .i64 r.page, .int .i64 (r.frame:Int)]) hb)
  (by rw[<-sM];exact mN _) (by omega) (by unfold maxLen;omega) (by omega) wv w.heap.size rfl ?_
 intro g vP w' xU hg xi vW;refine h g vP w' ?_ ?_ ?_ vW
 ·unfold OwnQ;rw[qK,sM,vu];exact xU
 ·cases A<;>simpa [Value.ownBlock]using hg
 ·cases A<;>simpa [Value.ownBlock]using xi
def small (i:Int):Int:=i % 4611686018427387904
def sc (s:Slot):List Value:=[.int .i64 (small s.ino), .int .i64 (small s.page), .int .i64 (s.frame:Int)]
def cmpS (x y:Slot):Int:=if small x.ino=small y.ino then small x.page-small y.page else small x.ino-small y.ino
theorem iX (i:Int):0<=small i/\small i<4611686018427387904:=⟨Int.emod_nonneg _ (by decide),Int.emod_lt_of_pos _ (by decide)⟩
theorem cmp_ints (i p f j q g:Int) (hi:0<=i/\i<4611686018427387904) (hp:0<=p/\p<4611686018427387904) (hj:0<=j/\j<4611686018427387904) (hq:0<=q/\q<4611686018427387904) (W:World):
  Calls Tryz.prog 130 #[.agg #[.int .i64 i, .int .i64 p, .int .i64 f], .agg #[.int .i64 j, .int .i64 q, .int .i64 g]] W
   fun e w'=>e= .returned (.int .i64 (if i=j then p-q else i-j))/\ ∃n os,w'=grow (W.drewN n) os:=by
 by_cases h:i=j
 ·subst h;rw[if_pos rfl];have yV:IntKind.i64.wrap (p-q)=p-q:=IntWalk.i64_in _ (by omega);go_enter Tryz.func130,Tryz.ntmps130;go_wp2;go_ret;exact⟨rfl,0,_,by rw[alloc_eq_grow,alloc_eq_grow,grow_grow];rfl⟩
 ·rw[if_neg h];have yV:IntKind.i64.wrap (i-j)=i-j:=IntWalk.i64_in _ (by omega);go_enter Tryz.func130,Tryz.ntmps130;go_wp2;go_ret;exact⟨rfl,0,_,by rw[alloc_eq_grow,alloc_eq_grow,grow_grow];rfl⟩
theorem cmp_any (x y:Slot) (W:World):Calls Tryz.prog 130 #[.agg (sc x).toArray, .agg (sc y).toArray] W
  fun e w'=>e= .returned (.int .i64 (cmpS x y))/\ ∃n os,w'=grow (W.drewN n) os:=
 cmp_ints (small x.ino) (small x.page) x.frame (small y.ino) (small y.page) y.frame (iX _) (iX _) (iX _) (iX _) W
theorem kY {α:Type} : ∀ {l:List α} {j:Nat} {a:α},l[j]? =some a->l.Perm (a::l.eraseIdx j)
 | [],_,_,h=>by simp at h
 |x::l,0,a,h=>by
  simp only[List.getElem?_cons_zero,Option.some.injEq]at h;subst h;exact List.Perm.refl _
 |x::l,j+1,a,h=>by
  have ih:=kY (l:=l) (j:=j) (a:=a) (by simpa using h);rw[List.eraseIdx_cons_succ];exact(List.Perm.cons x ih).trans (List.Perm.swap a x _)
theorem tO {left:List Slot} (h:Sole left) (hs:s∈left):left.Perm (s::left.filter fun x=> !Slot.at s.ino s.page x):=by
 obtain⟨j,hj⟩:=List.mem_iff_getElem?.1 hs;rw[<-iO h hj];exact kY hj
end
section
open Go.RowKit Go.Maps Go.WideMaps Go.Sort
instance:Inhabited Slot:=⟨⟨0,0,0,0⟩⟩
def qo (l:List Slot):Prop:=l.Pairwise fun a b=>a.ino<b.ino\/a.ino=b.ino/\a.page<b.page
def kG (l:List Slot):Prop:= ∀s∈l,small s.ino=s.ino/\small s.page=s.page
variable {l:List Slot}
theorem kG.sc (h:kG l) {s:Slot} (hs:s∈l):sc s=sl s:=by
 unfold Go.Proofs.YtoochjhipmpehaaGreatDoor.sc sl;rw[(h s hs).1,(h s hs).2]
theorem qh (h:kG l) (t:Nat) (ht:t<l.length*3):(sls l)[t]? =some (flatK sc 3 l.toArray)[t]! :=by
 rw[get_flatK _ _ _ _ (by simpa using ht)];have h3:t/3<l.length:=(by omega);have e:l.toArray[t/3]! =l[t/3]:=(by simp[h3]);rw[e,h.sc (List.getElem_mem h3)];have e2:=sN l (t/3) (t % 3) (by omega) (vv h3);rw[show t/3*3+t % 3=t by omega]at e2;rw[e2];have:t % 3<3:=(by omega);generalize t % 3=j at this⊢
 match j,this with
 |0,_ =>rfl
 |1,_ =>rfl
 |2,_ =>rfl
variable {w:World} {base g cap:Nat}
theorem OwnQ.holds (h:OwnQ w base (some ⟨g,0,none⟩) cap l) (hs:kG l):HoldsK sc 3 w g 0 l.toArray:=fun j hj=>by
 rcases h.form with⟨h1,_⟩|⟨g',cur,h1,_,h2,h3,h4,h5,h6⟩
 ·cases h1
 ·injection h1 with h1;injection h1 with h1;subst h1;have RK:j<l.length*3:=(by simpa using hj);have e1:=World.ownsRow.cellAt h j RK;rw[Nat.zero_add,e1];exact⟨qh hs j RK,ae h4 j⟩
theorem OwnQ.sorted {n:Nat} {d:Array Slot} {os:Array Obj} (h:OwnQ w base (some ⟨g,0,none⟩) cap l) (hs:kG d.toList) (hl:d.size=l.length):
  OwnQ (sortWorldK sc 3 w g 0 n d os) base (some ⟨g,0,none⟩) cap d.toList/\Below base w (sortWorldK sc 3 w g 0 n d os):=by
 rcases h.2 with⟨h1,_⟩|⟨g',vP,cur,h1,hb,h3,h4,h5,h6,h7⟩
 ·cases h1
 injection h1 with e1 e2 e3;injection e1 with e1;injection e1 with e1;subst e1;subst e3;have FQ:g<w.heap.size:=(vo h3).1;have Ko:(sortWorldK sc 3 w g 0 n d os).heap=(w.heap.modify g (onCells (putCells id 0 (flatK sc 3 d))))++os:=rfl;constructor
 ·refine⟨kL _, .inr ⟨g,cap,putCells id 0 (flatK sc 3 d) cur,by simp[hl],hb,?_,by simpa [hl]using h4,h5,by simp[putCells,h6],?_⟩⟩
  ·rw[Ko,Array.getElem?_append_left (by simpa using FQ),Array.getElem?_modify,if_pos rfl,h3];rfl
  ·apply List.ext_getElem?;intro t;have QG:l.length*3<=cap*3:=(by omega);by_cases ht:t<d.size*3
   ·rw[List.getElem?_take,if_pos (by simpa using ht),qh hs t (by simpa using ht)];have htc:t<cur.size:=(by omega);simp[putCells,htc,ht]
   ·rw[List.getElem?_take,if_neg (by simpa using ht),List.getElem?_eq_none (by rw[kL];simpa using ht)]
 ·refine⟨rfl,rfl,rfl,by rw[Ko];simp,fun b FT=>?_⟩;rw[Ko,Array.getElem?_append_left (by simp;omega),Array.getElem?_modify,if_neg (by omega)]
theorem uw (x y:Slot):cmpS x y<0↔small x.ino<small y.ino\/small x.ino=small y.ino/\small x.page<small y.page:=by
 unfold cmpS;split<;>omega
theorem te (hs:kG l) (hS:Sole l) (h: ∀i j,(Bg:i<j)->(hj:j<l.length)-> ¬cmpS (l[j]'hj) (l[i]'(by omega))<0):qo l:=by
 unfold qo;rw[List.pairwise_iff_getElem];intro i j hi hj Bg;have h1:=h i j Bg hj;rw[uw]at h1;have h2:=(List.pairwise_iff_getElem.1 hS) i j hi hj Bg;have h3:=hs _ (List.getElem_mem hi);have h4:=hs _ (List.getElem_mem hj);rw[h3.1,h3.2,h4.1,h4.2]at h1;omega
end
end Go.Proofs.YtoochjhipmpehaaGreatDoor
namespace Go.Proofs
open Go.Shelf
def Tryz.slSort_ren:Go.Shelf.Ren:=⟨fun|6=>129|15=>160|14=>159|28=>181|29=>182|20=>173|21=>174|22=>175|23=>176|24=>177|25=>178|26=>179|27=>180|46=>194|47=>195|48=>196|49=>197|50=>198|57=>203|n=>n,fun|22=>157|24=>160|25=>220|3=>3|39=>216|0=>0|53=>91|55=>43|4=>4|46=>263|45=>262|50=>267|5=>5|9=>9|66=>278|70=>282|76=>286|77=>287|n=>n,fun|n=>n⟩
theorem Tryz.slSort:Go.Proofs.SlLaysF0.n6 Tryz.prog Tryz.slSort_ren:= {
 mixed:=by kernel_rfl
 f6:=⟨Tryz.f129.name,by decide,Tryz.func129.trans (congrArg some (by kernel_rfl))⟩
 f14:=⟨Tryz.f159.name,by decide,Tryz.func159.trans (congrArg some (by kernel_rfl))⟩
 f15:=Tryz.func160.trans (congrArg some (by kernel_rfl))
 f20:=⟨Tryz.f173.name,by decide,Tryz.func173.trans (congrArg some (by kernel_rfl))⟩
 f21:=⟨Tryz.f174.name,by decide,Tryz.func174.trans (congrArg some (by kernel_rfl))⟩
 f22:=⟨Tryz.f175.name,by decide,Tryz.func175.trans (congrArg some (by kernel_rfl))⟩
 f23:=⟨Tryz.f176.name,by decide,Tryz.func176.trans (congrArg some (by kernel_rfl))⟩
 f24:=⟨Tryz.f177.name,by decide,Tryz.func177.trans (congrArg some (by kernel_rfl))⟩
 f25:=⟨Tryz.f178.name,by decide,Tryz.func178.trans (congrArg some (by kernel_rfl))⟩
 f26:=⟨Tryz.f179.name,by decide,Tryz.func179.trans (congrArg some (by kernel_rfl))⟩
 f27:=⟨Tryz.f180.name,by decide,Tryz.func180.trans (congrArg some (by kernel_rfl))⟩
 f28:=Tryz.func181.trans (congrArg some (by kernel_rfl))
 f29:=Tryz.func182.trans (congrArg some (by kernel_rfl))
 f46:=⟨Tryz.f194.name,by decide,Tryz.func194.trans (congrArg some (by kernel_rfl))⟩
 f47:=Tryz.func195.trans (congrArg some (by kernel_rfl))
 f48:=Tryz.func196.trans (congrArg some (by kernel_rfl))
 f49:=⟨Tryz.f197.name,by decide,Tryz.func197.trans (congrArg some (by kernel_rfl))⟩
 f50:=⟨Tryz.f198.name,by decide,Tryz.func198.trans (congrArg some (by kernel_rfl))⟩
 f57:=⟨Tryz.f203.name,by decide,Tryz.func203.trans (congrArg some (by kernel_rfl))⟩
 t0:=Tryz.underlying0
 a0:=Tryz.isAgg0
 z0:=Tryz.sizeOf0
 v0:=Tryz.zeroValue0
 t3:=Tryz.underlying3
 a3:=Tryz.isAgg3
 z3:=Tryz.sizeOf3
 v3:=Tryz.zeroValue3
 t4:=Tryz.underlying4
 a4:=Tryz.isAgg4
 z4:=Tryz.sizeOf4
 v4:=Tryz.zeroValue4
 t5:=Tryz.underlying5
 a5:=Tryz.isAgg5
 z5:=Tryz.sizeOf5
 v5:=Tryz.zeroValue5
 t9:=Tryz.underlying9
 a9:=Tryz.isAgg9
 z9:=Tryz.sizeOf9
 v9:=Tryz.zeroValue9
 t22:=Tryz.underlying157
 a22:=Tryz.isAgg157
 z22:=Tryz.sizeOf157
 v22:=Tryz.zeroValue157
 t25:=Tryz.underlying220
 a25:=Tryz.isAgg220
 z25:=Tryz.sizeOf220
 v25:=Tryz.zeroValue220
 t39:=Tryz.underlying216
 a39:=Tryz.isAgg216
 z39:=Tryz.sizeOf216
 v39:=Tryz.zeroValue216
 t45:=Tryz.underlying262
 a45:=Tryz.isAgg262
 z45:=Tryz.sizeOf262
 v45:=Tryz.zeroValue262
 t46:=Tryz.underlying263
 a46:=Tryz.isAgg263
 z46:=Tryz.sizeOf263
 v46:=Tryz.zeroValue263
 t50:=Tryz.underlying267
 a50:=Tryz.isAgg267
 z50:=Tryz.sizeOf267
 v50:=Tryz.zeroValue267
 t53:=Tryz.underlying91
 a53:=Tryz.isAgg91
 z53:=Tryz.sizeOf91
 v53:=Tryz.zeroValue91
 t55:=Tryz.underlying43
 a55:=Tryz.isAgg43
 z55:=Tryz.sizeOf43
 v55:=Tryz.zeroValue43
 t66:=Tryz.underlying278
 a66:=Tryz.isAgg278
 z66:=Tryz.sizeOf278
 v66:=Tryz.zeroValue278
 t70:=Tryz.underlying282
 a70:=Tryz.isAgg282
 z70:=Tryz.sizeOf282
 v70:=Tryz.zeroValue282
 t76:=Tryz.underlying286
 a76:=Tryz.isAgg286
 z76:=Tryz.sizeOf286
 v76:=Tryz.zeroValue286
 t77:=Tryz.underlying287
 a77:=Tryz.isAgg287
 z77:=Tryz.sizeOf287
 v77:=Tryz.zeroValue287}
end Go.Proofs
namespace Go.Proofs.YtoochjhipmpehaaGreatDoor
section
open Go.Shelf Go.RowKit Go.Lib Go.Sort
theorem ux (x y:Slot):ltOf cmpS x y=decide (small x.ino<small y.ino\/small x.ino=small y.ino/\small x.page<small y.page):=by
 unfold ltOf;rw[Bool.eq_iff_iff,decide_eq_true_iff,decide_eq_true_iff];exact uw x y
theorem cmp_swo:SWO (ltOf cmpS) where
 irrefl x:=by rw[ux];simp
 trans x y z h1 h2:=by rw[ux]at *;simp only[decide_eq_true_eq]at *;omega
 ntrans x y z h1 h2:=by rw[ux]at *;simp only[decide_eq_false_iff_not]at *;omega
theorem qJ (A:Option Addr) (cap base:Nat) (l:List Slot) (W:World) (wh:OwnQ W base A cap l) (hS:Sole l) (yS:kG l) (hf:l.length<1000000):
  Calls Tryz.prog 129 #[.slice A l.length cap, .func (.func 130) #[] #[]] W
   fun e w'=>e= .returned (.tuple #[])/\ ∃l',l'.length=l.length/\OwnQ w' base A cap l'/\l'.Perm l/\qo l'/\Below base W w':=by
 rcases wh.form with⟨rfl,rfl,rfl⟩|⟨g,cur,rfl,hb,hg,_⟩
 ·have Bh:=AnyF.slices_SortFunc_none Tryz.slSort none 0 (.func (.func 130) #[] #[]) W;change Calls Tryz.prog 129 _ _ _ at Bh;refine Bh.mono ?_;rintro e w' ⟨rfl,rfl⟩;exact⟨rfl,[],rfl,wh,List.Perm.refl _,List.Pairwise.nil,vO _ _⟩
 ·have eg: ∀args w,(callFunc 130 args).run Tryz.prog w= .ok (.enter 130 args) w:=enters_of Tryz.func130 (by kernel_rfl) rfl;have Bh:=AnyQ.slices_SortFunc Tryz.slSort 3 Tryz.isAgg160 Tryz.sizeOf160 sc (fun _ =>rfl) (fun x v hv=>by simp[sc]at hv;rcases hv with rfl|rfl|rfl<;>rfl) cmpS cmp_swo 130 #[] g 0 cap l.toArray W eg
   (fun _ _ _ _ x y=>cmp_any x y _) (wh.holds yS) hg (by simp;omega)
  change Calls Tryz.prog 129 _ _ _ at Bh;refine Bh.mono ?_;rintro e w' ⟨rfl,d,n,os,⟨hd,_,xL⟩,SL,rfl⟩;have PX:d.size=l.length:=hd;have hp:d.toList.Perm l:=by
   have h1:d.extract 0 l.toArray.size=d:=(by rw[<-hd];exact Array.extract_size);have h2:l.toArray.extract 0 l.toArray.size=l.toArray:=Array.extract_size;rw[h1,h2]at xL;exact xL
  have SM:kG d.toList:=fun s hs=>yS s (hp.mem_iff.1 hs);have hS':Sole d.toList:=hp.symm.pairwise hS fun h e=>h ⟨e.1.symm,e.2.symm⟩;obtain⟨ho,yd⟩:=wh.sorted (n:=n) (os:=os) SM PX;refine⟨rfl,d.toList,by simpa using PX,ho,hp,te SM hS' fun i j Bg hj=>?_,yd⟩;have h3:=SL i j (vL _) Bg (by simp at hj;simpa [PX]using(PX▸hj));unfold ltOf at h3;rw[decide_eq_false_iff_not]at h3;have RK:j<d.size:=(by simpa using hj);rw[getElem!_pos d j RK,getElem!_pos d i (by omega)]at h3;simpa using h3
end
section
open Go.RowKit Go.Maps Go.WideMaps Go.Sort
open Go.ChangeMaps (setBlock)
def uZ (w:World) (L:List Slot) (e:Ending) (w':World):Prop:=
 ∃A cap L',e= .returned (.slice A L'.length cap)/\OwnQ w' w.heap.size A cap L'/\L'.Perm L/\qo L'/\Below w.heap.size w w'
theorem sO (c a fs m:Nat) (clock:Int) (w:World) (L:List Slot) (xv:aH w c a fs m clock) (LX:aN w m L) (wC:L.length<100000) (yS:kG L):
  Calls Tryz.prog 79 #[.pointer (some ⟨c,0,none⟩)] w (uZ w L):=by
 have UA:c<w.heap.size:=(vo xv).1;have RI:=LX.lt;have CB:=LX.sole;have c2:w.cell? ⟨c,2,none⟩=some (.map (some m)):=aa xv 2;have H:=vp xv;have KV:=vp LX;have HF:=vp wC;clear xv LX wC;go_enter Tryz.func79,Tryz.ntmps79;go_wp2_with (first
  |(at_range;refine dC rfl _ rfl m L rfl KV.out ?_;intro w1 Da vS DD;go_frame)
  |fail)
 have vY:=vp vS;have VV:=vp Da;have QQ:=vp DD;clear vS Da DD;go_loopw [3] (fun v wr=> ∃A cap got left,v= .slice A got.length cap/\OwnQ wr w.heap.size A cap got/\aJ wr m w.heap.size L left/\Sole left/\(got++left).Perm L/\Below w.heap.size w wr/\w.heap.size<wr.heap.size/\A≠some ⟨w.heap.size,0,none⟩)
  (fun _ wr=>leftN wr m w.heap.size)
 case atStart=>
  exact⟨none,0,[],L,rfl,OwnQ.nil _ _,VV.out,CB,List.Perm.refl _,vY.out,by have:=QQ.out;omega,by simp⟩
 case round=>
  obtain⟨A,cap,got,left,rfl,wh,CR,Xi,xL,hb,vW,wg⟩:=hrel;have HO:=vp wh;have HP:=vp xL;have HN:=vp wg;have XH:=vp Xi;clear wh xL wg Xi;go_wp2_with (first
   |(at_next;refine dP rfl _ rfl m w.heap.size L left rfl CR ?_ ?_)
   |fail)
  ·intro Dc;subst Dc;have Xl:got.Perm L:=(by have:=HP.out;rwa [List.append_nil]at this);have BD:=qJ A cap w.heap.size got wr HO.out (Xl.symm.pairwise CB fun h e=>h ⟨e.1.symm,e.2.symm⟩) (fun s hs=>yS s (Xl.mem_iff.1 hs)) (by rw[Xl.length_eq];have:=HF.out;omega);have HC:=vp BD;clear BD;go_wp2_with (first
    |(go_at_call 129;refine HC.out.mono ?_;rintro e w5 ⟨rfl,l5,Fm,yX,RH,hr5,zi⟩)
    |fail)
   go_ret;exact⟨A,cap,l5,by rw[Fm];rfl,yX,RH.trans Xl,hr5,hb.trans zi⟩
  ·intro s w1 hs Da xE DD Zq;have QS:=vp Da;have HEN:=vp Zq;have HRGL:=vp CR.leftN;have DF:=CR.lt;have zZ:(left.filter fun x=> !Slot.at s.ino s.page x).length<left.length:=List.length_filter_lt_length_iff_exists.2 ⟨s,hs,by simp[Slot.at]⟩;clear Da CR;go_upto_region 7 with(fail);have vS:Below w.heap.size w w1:=hb.trans (xE.below (fun b e=>by omega) hb.size);obtain⟨w2,wO⟩: ∃w2,w2=(w1.alloc (.cells #[.int .i64 s.ino, .int .i64 s.page] 127)).alloc (.cells #[.int .i64 (s.frame:Int), .int .i64 s.asked] 129):=⟨_,rfl⟩;rw[<-wO];have Di:Below w1.heap.size w1 w2:=(by rw[wO];exact vr.alloc (by simp) _);have xD:Below w.heap.size w w2:=vS.trans (Di.mono vS.size);have Ch:w2.heap.size=wr.heap.size+1+1:=(by rw[wO];simp[DD]);have Dd:w2.heap[wr.heap.size]? =some (.cells #[.int .i64 s.ino, .int .i64 s.page] 127 (0,0)):=(by rw[wO,<-DD];exact(vt _ _ _ (by simp)).trans (ab w1 _));have PM:w2.heap[wr.heap.size+1]? =some (.cells #[.int .i64 (s.frame:Int), .int .i64 s.asked] 129 (0,0)):=by
    rw[wO,<-DD];have e:(w1.alloc (.cells #[.int .i64 s.ino, .int .i64 s.page] 127)).heap.size=w1.heap.size+1:=(by simp);rw[<-e];exact ab _ _
   have JI:aJ w2 m w.heap.size L (left.filter fun x=> !Slot.at s.ino s.page x):=QS.out.same (Di.block m (by omega)) (Di.block _ (by omega));have wZ:OwnQ w1 w.heap.size A cap got:=HO.out.kept (row:=some w.heap.size) ⟨xE.os,xE.tape,xE.output,xE.size,fun b FT hn=>xE.block b FT (fun e=>hn (by rw[e]))⟩ (by
    rcases HO.out.form with⟨rfl,_⟩|⟨g,cur,rfl,_⟩
    ·left;rfl
    ·right;intro e;simp only[Option.map_some,Option.some.injEq]at e;exact HN.out (by rw[e]))
   have zF:OwnQ w2 w.heap.size A cap got:=wZ.below Di (vs _);have k0:w2.cell? ⟨wr.heap.size,0,none⟩=some (.int .i64 s.ino):=aa Dd 0;have k1:w2.cell? ⟨wr.heap.size,1,none⟩=some (.int .i64 s.page):=aa Dd 1;have h0:w2.cell? ⟨wr.heap.size+1,0,none⟩=some (.int .i64 (s.frame:Int)):=aa PM 0;have Uf:got.length<100000:=by
    have:=HP.out.length_eq;rw[vu]at this;have:=HF.out;omega
   have BN:=vp zF;have QR:=vp JI;have xF:=vp xD;have FU:=vp Ch;clear wO Dd PM JI wZ zF xD Ch;have hOw:=fun o=>(BN.out.below ((vO w2.heap.size w2).alloc (vs _) o) (vs _));have HOW:=vp hOw;clear hOw;go_wp2_with (first
    |(at_builtin;refine app_slot rfl (.tmp 18) (.tmp 26) rfl w.heap.size A cap got rfl (HOW.out _) s w2.heap.size 1 rfl (ab w2 _) (by omega) (by simp;have:=FU.out;omega) ?_;intro g' vP w4 zN Aq FA PD)
    |fail)
   have AZ:w2.heap.size+1<=w4.heap.size:=by
    have:=Aq.size;simp at this;omega
   have hA: ∀b,A.map (·.block)=some b->w.heap.size<=b/\b≠w.heap.size:=fun b e=>by
    rcases HO.out.form with⟨rfl,_⟩|⟨g,cur,rfl,h1,_⟩
    ·cases e
    ·simp only[Option.map_some,Option.some.injEq]at e;subst e;exact⟨h1,fun e=>HN.out (by rw[e])⟩
   have Ch:=FU.out;have BZ:Below w.heap.size w w4:=by
    refine⟨Aq.os.trans xF.out.os,Aq.tape.trans xF.out.tape,Aq.output.trans xF.out.output,by have:=xF.out.size;omega,fun b FT=>?_⟩;refine(Aq.block b (by simp;omega) fun e=>?_).trans ((vt _ _ _ (by omega)).trans (xF.out.block b FT));have:=(hA b e.symm).1;omega
   have Ti:aJ w4 m w.heap.size L (left.filter fun x=> !Slot.at s.ino s.page x):=by
    refine QR.out.same ?_ ?_
    ·exact(Aq.block m (by simp;omega) fun e=>by have:=(hA m e.symm).1;omega).trans (vt _ _ _ (by omega))
    ·exact(Aq.block _ (by simp;omega) fun e=>(hA _ e.symm).2 rfl).trans (vt _ _ _ (by omega))
   have Iu:g'≠w.heap.size:=by
    rcases FA with e|e
    ·exact(hA _ e).2
    ·simp at e;omega
   have Lw:w.heap.size<w4.heap.size:=(by omega);have VT:=vp Ti;have yl:=vp zN;have xj:=vp BZ;clear Ti zN BZ AZ Ch Aq FA;go_wp2_with fail;go_roundw
   case rel=>exact⟨some ⟨g',0,none⟩,vP,got++[s],_,by rw[vu];rfl,yl.out,VT.out,XH.out.drop _,by
    rw[List.append_assoc];exact(List.Perm.append_left got (tO XH.out hs).symm).trans HP.out,xj.out,by omega,fun e=>Iu (by injection e with e;injection e)⟩
   case measure=>rw[VT.out.leftN,HRGL.out];exact zZ
end
