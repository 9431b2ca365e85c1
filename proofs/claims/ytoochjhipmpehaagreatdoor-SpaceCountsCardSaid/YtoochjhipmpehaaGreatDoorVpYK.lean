/- Paths as texts: the pieces between slashes, what may be a path, its parts. -/
import Derived.Test.YtoochjhipmpehaaGreatDoorCaAK
import Derived.Test.YtoochjhipmpehaaGreatDoorTwAK
import Derived.Carry
import Derived.Deep.RegionHeld3
import Derived.Laws.RangeAny
import Derived.Lib.Bytealg
import Derived.Lib.DecodeN
import Derived.Lib.IndexBytes
import Derived.Lib.OthersKept
import Derived.Lib.PathFns
import Derived.Lib.Slices
import Derived.Lib.SlicesS
import Derived.Lib.Strings
import Derived.Lib.Walk
import Derived.OwnWalk
import Derived.WideMake
set_option linter.unusedVariables false
set_option linter.unusedSimpArgs false
set_option maxRecDepth 100000
set_option maxHeartbeats 4000000
namespace Go.Proofs.YtoochjhipmpehaaGreatDoor
section
def mc (s:ByteArray):Nat->Nat->Nat->List ByteArray
 |0,_,fr=>[s.extract fr s.size]
 |k+1,pos,fr=>if pos<s.size then(if s.get! pos=47 then s.extract fr pos::mc s k (pos+1) (pos+1)else mc s k (pos+1) fr)else [s.extract fr s.size]
def cuts (s:ByteArray) (pos fr:Nat):List ByteArray:=mc s (s.size-pos) pos fr
def be (s:ByteArray):List ByteArray:=cuts s 0 0
variable {s:ByteArray} {pos fr:Nat}
theorem eI (h: ¬pos<s.size):cuts s pos fr=[s.extract fr s.size]:=by
 unfold cuts;rw[show s.size-pos=0 by omega];rfl
theorem fM (h:pos<s.size) (hs:s.get! pos=47):cuts s pos fr=s.extract fr pos::cuts s (pos+1) (pos+1):=by
 unfold cuts;rw[show s.size-pos=(s.size-(pos+1))+1 by omega,mc,if_pos h,if_pos hs]
theorem iz (h:pos<s.size) (hs:s.get! pos≠47):cuts s pos fr=cuts s (pos+1) fr:=by
 unfold cuts;rw[show s.size-pos=(s.size-(pos+1))+1 by omega,mc,if_pos h,if_neg hs]
theorem nG (d:Nat) (h:pos+d<=s.size) (hs: ∀i,pos<=i->i<pos+d->s.get! i≠47):cuts s pos fr=cuts s (pos+d) fr:=by
 induction d with
 |zero=>rfl
 |succ d ih=>
  rw[ih (by omega) fun i h1 h2=>hs i h1 (by omega),iz (by omega) (hs _ (by omega) (by omega))];rfl
theorem oW (s:ByteArray) (k:Nat): ∀pos fr,s.size-pos<=k->(cuts s pos fr).length<=s.size-pos+1:=by
 induction k with
 |zero=>intro pos fr h;rw[eI (by omega)];simp
 |succ k ih=>
  intro pos fr h;by_cases hp:pos<s.size
  ·by_cases hs:s.get! pos=47
   ·rw[fM hp hs,vC];have:=ih (pos+1) (pos+1) (by omega);omega
   ·rw[iz hp hs];have:=ih (pos+1) fr (by omega);omega
  ·rw[eI hp];simp
theorem cu (s:ByteArray):(be s).length<=s.size+1:=oW s s.size 0 0 (by omega)
theorem qd (s:ByteArray) (i:Nat):s.get! i=47↔(s.get! i).toNat=47:=by
 constructor
 ·intro h;rw[h];rfl
 ·intro h;exact UInt8.toNat_inj.1 h
theorem mS (s:ByteArray) (pos:Nat) (h:pos<s.size):
  1<=(Utf8.decode s pos).2/\pos+(Utf8.decode s pos).2<=s.size/\((Utf8.decode s pos).1=47->s.get! pos=47/\(Utf8.decode s pos).2=1)/\
   ((Utf8.decode s pos).1≠47-> ∀i,pos<=i->i<pos+(Utf8.decode s pos).2->s.get! i≠47):=by
 have key: ∀n b0 b1 b2 b3:Nat,0<n->b0<256->1<=(Lib.decodeN n b0 b1 b2 b3).2/\(Lib.decodeN n b0 b1 b2 b3).2<=n/\((Lib.decodeN n b0 b1 b2 b3).1=47->b0=47/\(Lib.decodeN n b0 b1 b2 b3).2=1)/\
   ((Lib.decodeN n b0 b1 b2 b3).1≠47->b0≠47/\(2<=(Lib.decodeN n b0 b1 b2 b3).2->b1≠47)/\(3<=(Lib.decodeN n b0 b1 b2 b3).2->b2≠47)/\(4<=(Lib.decodeN n b0 b1 b2 b3).2->b3≠47)/\(Lib.decodeN n b0 b1 b2 b3).2<=4):=by
  intro n b0 b1 b2 b3 hn h0;unfold Lib.decodeN
  repeat' split
  all_goals(refine⟨?_,?_,?_,?_⟩<;>first|omega|(intro h;omega)|(intro h;refine⟨?_,?_,?_,?_,?_⟩<;>(try intro h')<;>simp only[]at * <;>omega))
 obtain⟨k1,k2,k3,k4⟩:=key (s.size-pos) (s.get! pos).toNat (s.get! (pos+1)).toNat (s.get! (pos+2)).toNat (s.get! (pos+3)).toNat (by omega) (s.get! pos).toNat_lt;rw[Lib.decode_at];refine⟨k1,by omega,fun e=>⟨(qd s pos).2 (k3 e).1,(k3 e).2⟩,fun e i h1 h2=>?_⟩;obtain⟨a0,a1,a2,a3,a4⟩:=k4 e;intro hc;have Oa:=(qd s i).1 hc;rcases(by omega:i=pos\/i=pos+1\/i=pos+2\/i=pos+3)with rfl|rfl|rfl|rfl
 ·exact a0 Oa
 ·exact a1 (by omega) Oa
 ·exact a2 (by omega) Oa
 ·exact a3 (by omega) Oa
def dL (l:List ByteArray):Bool:=l.any fun x=>decide (32<x.size)
def chk (s:ByteArray):Int:=if s.size=0 then 3 else if 0<=Lib.indexByte s.data.toList 0 then 1 else if 200<s.size then 11 else if dL (be s)=true then 11 else 0
theorem da (h:chk s=0):0<s.size/\s.size<=200/\ ¬0<=Lib.indexByte s.data.toList 0/\dL (be s)=false:=by
 unfold chk at h;split at h
 ·cases h
 split at h
 ·cases h
 split at h
 ·cases h
 split at h
 ·cases h
 next h1 h2 h3 h4=>exact⟨by omega,by omega,h2,by simpa using h4⟩
def aO (x:ByteArray):Bool:= !(x.data== #[] || x.data== #[46])
def ar (s:ByteArray):List ByteArray:=(be s).filter aO
theorem bd (s:ByteArray):(ar s).length<=s.size+1:=vM (List.length_filter_le _ _) (cu s)
end
section
open Go.RowKit
theorem lib_byte (s:ByteArray) (c:Int) (w:World):Calls Tryz.prog 205 #[.string s, .int .u8 c] w fun e w'=>e= .returned (.int .i64 (Lib.indexByte s.data.toList c.toNat.toUInt8))/\w'=w:=by
 go_enter Tryz.func205,Tryz.ntmps205;go_wp2;rw[run_callFunc_extern Tryz.func209 (by kernel_rfl) (by kernel_rfl) (by kernel_rfl) (e:=Extern.BytealgIndexByte.indexByte) (by kernel_rfl),Lib.run_indexByteString];simp only[Result.andThen];rw[Oper.upon_value];go_wp2;go_ret;exact⟨rfl,rfl⟩
theorem rz (s:ByteArray) (c:UInt8) (w:World):Calls Tryz.prog 204 #[.string s, .string ⟨#[c]⟩] w fun e w'=>e= .returned (.int .i64 (Lib.indexByte s.data.toList c))/\w'=w:=by
 go_enter Tryz.func204,Tryz.ntmps204;go_wp2_with (go_at_call 205;refine(lib_byte _ _ _).mono ?_;rintro e w' ⟨rfl,rfl⟩)
 ·have h:([c]==s.toList)=true:=(by assumption);go_ret;refine⟨?_,rfl⟩;have e:s.data.toList=[c]:=(by rw[<-Lib.toList_data];exact(beq_iff_eq.1 h).symm);rw[e];simp[Lib.indexByte]
 ·go_ret;exact⟨rfl,rfl⟩
theorem oL (s:ByteArray) (c:UInt8) (w:World):Calls Tryz.prog 201 #[.string s, .string ⟨#[c]⟩] w fun e w'=>e= .returned (.int .i64 (Lib.indexByte s.data.toList c))/\w'=w:=by
 go_enter Tryz.func201,Tryz.ntmps201;go_wp2_with (go_at_call 204;refine(rz _ _ _).mono ?_;rintro e w' ⟨rfl,rfl⟩);go_ret;exact⟨rfl,rfl⟩
theorem gM (s:ByteArray) (c:UInt8) (w:World):Calls Tryz.prog 188 #[.string s, .string ⟨#[c]⟩] w fun e w'=>e= .returned (.bool (decide (0<=Lib.indexByte s.data.toList c)))/\w'=w:=by
 go_enter Tryz.func188,Tryz.ntmps188;go_wp2_with (go_at_call 201;refine(oL _ _ _).mono ?_;rintro e w' ⟨rfl,rfl⟩);go_ret;exact⟨rfl,rfl⟩
theorem rx (s p:ByteArray) (w:World):Calls Tryz.prog 185 #[.string s, .string p] w fun e w'=>e= .returned (.bool (Lib.hasPrefix s.data.toList p.data.toList))/\w'=w:=by
 rw[<-Lib.hasPrefix_of_take,<-Lib.size_eq,<-Lib.size_eq];go_enter Tryz.func185,Tryz.ntmps185;go_wp2
 ·rename_i h;go_ret;refine⟨?_,rfl⟩;show Ending.returned (Value.bool ((s.extract 0 p.size).toList==p.toList))=_;rw[Lib.extract_toList,Lib.toList_data];simp[h]
 ·rename_i h;go_ret;refine⟨?_,rfl⟩;show Ending.returned (Value.bool false)=_;simp[h]
theorem ru (s p:ByteArray) (w:World) (hs:s.size<=9223372036854775807):Calls Tryz.prog 186 #[.string s, .string p] w fun e w'=>e= .returned (.bool (Lib.hasSuffix s.data.toList p.data.toList))/\w'=w:=by
 rw[<-Lib.hasSuffix_raw];have NF:p.size<=s.size->((s.size:Int)-(p.size:Int)+9223372036854775808) % 18446744073709551616-9223372036854775808=((s.size-p.size:Nat):Int):=fun _ =>by omega
 go_enter Tryz.func186,Tryz.ntmps186;go_wp2
 ·have h:p.size<=s.size:=(by assumption);go_ret;refine⟨?_,rfl⟩;show Ending.returned (Value.bool ((s.extract (s.size-p.size) s.size).toList==p.toList))=_;simp[h]
 ·have h: ¬p.size<=s.size:=(by assumption);go_ret;refine⟨?_,rfl⟩;show Ending.returned (Value.bool false)=_;simp[h]
theorem tail_any (s:ByteArray) (w:World) (hs:s.size<=9223372036854775807):Calls Tryz.prog 162 #[.string s] w fun e w'=>e= .returned (.bool (Lib.hasSuffix s.data.toList [47]))/\w'=w:=by
 go_enter Tryz.func162,Tryz.ntmps162;go_wp2_with (go_at_call 186;refine(ru _ _ _ hs).mono ?_;rintro e w' ⟨rfl,rfl⟩);go_ret;exact⟨rfl,rfl⟩
end
section
open Go.RowKit Go.Sort
def OwnS (w:World) (base:Nat) (A:Option Addr) (cap:Nat) (l:List ByteArray):Prop:=w.ownsRow base 9 1 (.slice A l.length cap) l.length (l.map Value.string)
theorem OwnS.nil (w:World) (base:Nat):OwnS w base none 0 []:=World.ownsRow_nil w base _ 1
variable {w:World} {base cap:Nat} {l:List ByteArray}
theorem OwnS.elem {g:Nat} (h:OwnS w base (some ⟨g,0,none⟩) cap l) {j:Nat} {t:ByteArray} (hp:l[j]? =some t):w.cell? ⟨g,j,none⟩=some (.string t):=by
 have hk:j<l.length:=(List.getElem?_eq_some_iff.1 hp).1;rw[World.ownsRow.cellAt h j (by omega),vI,hp];rfl
variable {w':World}
theorem OwnS.same {A:Option Addr} (h:OwnS w base A cap l) (hb: ∀g,A=some ⟨g,0,none⟩->w'.heap[g]? =w.heap[g]?):OwnS w' base A cap l:=by
 refine⟨h.1,?_⟩;rcases h.2 with h2|⟨g,vP,cur,h1,h2,h3,h4⟩
 ·exact .inl h2
 ·injection h1 with e1 e2 e3;exact .inr ⟨g,vP,cur,by rw[e1,e2,e3],h2,(hb g e1).trans h3,h4⟩
variable {b:Nat}
theorem jB {x y:Value} {t:TypeId} (h:w.heap[b]? =some (.cells #[x] t (0,0))):(w.setCell ⟨b,0,none⟩ y).heap[b]? =some (.cells #[y] t (0,0)):=by
 have h1:=Joins.block_setCell (i:=0) h y;simpa using h1
theorem ko (h:w'.heap[b]? =w.heap[b]?) (i:Nat):w'.cell? ⟨b,i,none⟩=w.cell? ⟨b,i,none⟩:=by simp[World.cell?,h]
theorem str_info:(Tryz.prog.info? 9).map (fun i=>(i.zero,i.size,i.bytes))=some (some (.string ByteArray.empty),1,16):=by kernel_rfl
theorem ml {ops:Array Oper} {rest:List Oper} {o:Oper} {a:Act} {Q:Exit->Act->World->Prop} (yB:o.guard=none) (s x:Operand)
  (ho:o.op= .call { callee:= .builtin .append,args:= #[s,x],argTypes:= #[107,107]})
  (base:Nat) (A:Option Addr) (cap:Nat) (l:List ByteArray) (hs:a.eval s= .slice A l.length cap) (wh:OwnS w base A cap l)
  (t:ByteArray) (b c:Nat) (hx:a.eval x= .slice (some ⟨b,0,none⟩) 1 c) (hb:w.heap[b]? =some (.cells #[.string t] 9 (0,0)))
  (wC:l.length<1000000) (wv:base<=w.heap.size)
  (h: ∀g vP w',OwnS w' base (some ⟨g,0,none⟩) vP (l++[t])->w.grownBy w' (A.map (·.block))->(A.map (·.block)=some g\/g=w.heap.size)->g<w'.heap.size->wpList Tryz.prog ops Q rest (a.put o.dst (.slice (some ⟨g,0,none⟩) (l.length+1) vP)) w'):
  wpList Tryz.prog ops Q (o::rest) a w:=by
 obtain⟨i0,yj,wM,wF,wL⟩:=info_parts str_info;refine wpList_append_lies w yB s x 107 ho base 9 i0 _ 1 16 Tryz.underlying107 yj wM wF wL rfl (by omega) _ l.length (l.map Value.string) hs wh ⟨b,0,none⟩ 1 c [.string t] hx rfl (World.news_of_block (cs:= #[.string t]) hb)
  (by simp[Value.oneCell']) (by omega) (by unfold maxLen;omega) (by omega) wv w.heap.size rfl ?_
 intro g vP w' xU hg xi vW;refine h g vP w' ?_ ?_ ?_ vW
 ·unfold OwnS;rw[List.map_append,vu];exact xU
 ·cases A<;>simpa [Value.ownBlock]using hg
 ·cases A<;>simpa [Value.ownBlock]using xi
theorem ik {fn:Func} {p u v:Tmp} {ty:TypeId} (h:fn.results= #[.cell p ty, .tmp u, .tmp v]) (tmps:Array Value) (P:Program) (w:World):
  (results fn tmps).run P w=
   ((asAddr (tmps.getD p undef)).run P w).andThen fun a w₁=>((loadVar ty a).run P w₁).andThen fun x w₂=> .ok (.tuple #[x,tmps.getD u undef,tmps.getD v undef]) w₂:=by
 simp only[results,h];simp[Sem.run_bind,Result.andThen]
end
section
open Go.RowKit Go.Sort
end
section
open Go.RowKit Go.Sort
theorem pcs_chk (bo:Nat) (s:ByteArray) (w:World) (R:World->List ByteArray->Prop) (go:List ByteArray->Bool) (Ie:s.size<=1000000000)
  (hk: ∀w1 w2 l,R w1 l->Mod (fun b=>b=w.heap.size) w1 w2->w1.heap.size=w2.heap.size->R w2 l)
  (h0:R (w.alloc (.stringIter s 0)) [])
  (xX: ∀w1 l x,l.length<=s.size->x.size<=s.size->w.heap.size<w1.heap.size->R w1 l->Calls Tryz.prog 189 (#[.string x]++ #[.pointer (some ⟨bo,0,none⟩)]) w1 fun e w2=>e= .returned (.bool (go (l++[x])))/\R w2 (l++[x])/\w2.heap[w.heap.size]? =w1.heap[w.heap.size]?):
  Calls Tryz.prog 183 #[.string s, .func (.func 189) #[] #[.pointer (some ⟨bo,0,none⟩)]] w fun e w'=>e= .returned (.tuple #[])/\ ∃l,R w' l/\(l=be s\/ ∃r,l++r=be s/\go l=false):=by
 have Eu:=vp xX;have OC:=vp hk;have H0:=vp h0;clear xX hk h0;go_enter Tryz.func183,Tryz.ntmps183;go_wp2_with fail;go_loopw [4] (fun i wr=> ∃pos fr l,pos<=s.size/\fr<=pos/\i= .int .i64 ((fr:Nat):Int)/\wr.heap[w.heap.size]? =some (.stringIter s pos)/\R wr l/\l++cuts s pos fr=be s) (fun _ wr=>s.size-wr.iterPos w.heap.size)
 case atStart=>exact⟨0,0,[],by omega,by omega,rfl,World.iter_heap w s 0,H0.out,rfl⟩
 case round=>
  obtain⟨pos,fr,l,hp,yJ,rfl,hit,hR,hcut⟩:=hrel;have wJ:=iterPos_of hit;have MS:=vp hit;have HR:=vp hR;have Aw:=vp hcut;clear hit hR hcut;have PF:l.length<=s.size:=by
   have h1:=congrArg List.length Aw.out;have h2:=cu s;have h3:0<(cuts s pos fr).length:=by
    by_cases c:pos<s.size
    ·unfold cuts;cases hz:s.size-pos with
     |zero=>omega
     |succ z=>
      clear h1 h2;have: ∀z pos fr,0<(mc s z pos fr).length:=by
       intro z
       induction z with
       |zero=>intro pos fr;exact Nat.zero_lt_one
       |succ z ih=>
        intro pos fr;unfold mc;split
        ·split
         ·simp
         ·exact ih _ _
        ·exact Nat.zero_lt_one
      exact this _ _ _
    ·rw[eI c];exact Nat.zero_lt_one
   rw[vu]at h1;omega
  have vW:=(vo MS.out).1;by_cases DH:pos<s.size
  ·obtain⟨k1,k2,k3,k4⟩:=mS s pos DH;obtain⟨r,hr⟩: ∃r,r=(Utf8.decode s pos).1:=⟨_,rfl⟩;obtain⟨d,hd⟩: ∃d,d=(Utf8.decode s pos).2:=⟨_,rfl⟩;have Ik:=fun ty=>Go.Lib.run_next_any_at (P:=Tryz.prog) wr w.heap.size s pos ty MS.out DH;rw[<-hr,<-hd]at Ik;rw[<-hr]at k3 k4;rw[<-hd]at k1 k2 k3 k4;have xE:Mod (fun b=>b=w.heap.size) wr (wr.iterAt w.heap.size s (pos+d)):=⟨rfl,rfl,rfl,by rw[Go.Lib.iterAt_size];exact vs _,fun b _ hb=>Go.Lib.iterAt_other wr w.heap.size b s _ hb⟩;have AO:=OC.out _ _ _ HR.out xE (Go.Lib.iterAt_size wr w.heap.size s (pos+d)).symm;have Ej:=Go.Lib.iterAt_heap wr w.heap.size s pos (pos+d) MS.out;have wF:=Go.Lib.iterAt_size wr w.heap.size s (pos+d);obtain⟨w1,hw⟩: ∃w1,w1=wr.iterAt w.heap.size s (pos+d):=⟨_,rfl⟩;rw[<-hw]at AO Ej Ik wF;have Rh:=vp Ej;have VY:=vp AO;have hp1:=iterPos_of Ej;clear Ej AO hw xE hr hd;by_cases Gi:r=47
   ·subst Gi;obtain⟨k5,rfl⟩:=k3 rfl;have yu:=vp (show(l++[s.extract fr pos])++cuts s (pos+1) (pos+1)=be s by rw[List.append_assoc,List.singleton_append,<-fM DH k5];exact Aw.out);have wH:=Eu.out w1 l (s.extract fr pos) PF (by rw[ByteArray.size_extract];omega) (by omega) VY.out;clear k3 k4 k5;cases EF:go (l++[s.extract fr pos])with
    |true=>
     rw[EF]at wH;have zH:=vp wH;have OG:=vp EF;clear wH EF;go_wp2_with (first
      |(go_at_call 189;refine(zH.out).mono ?_;rintro e w2 ⟨rfl,yt,AB⟩;have Bo:=vp yt;have Wt:=vp (AB.trans Rh.out);have hp2:=iterPos_of Wt.out;clear yt AB)
      |fail)
     go_roundw
     case rel=>exact⟨pos+1,pos+1,_,by omega,by omega,by go_num,Wt.out,Bo.out,yu.out⟩
     case measure=>(rw[hp2,wJ];omega)
    |false=>
     rw[EF]at wH;have zH:=vp wH;have OG:=vp EF;clear wH EF;go_wp2_with (first
      |(go_at_call 189;refine(zH.out).mono ?_;rintro e w2 ⟨rfl,yt,AB⟩;have Bo:=vp yt;clear yt AB)
      |fail)
     refine bodyPost_ret (results_none rfl _ _ _) rfl ?_;exact⟨rfl,_,Bo.out, .inr ⟨_,yu.out,OG.out⟩⟩
   ·have wg:(((r:Nat):Int) != 47)=true:=(by rw[bne_iff_ne];omega);have yu:=vp (show l++cuts s (pos+d) fr=be s by rw[<-nG d k2 (k4 Gi)];exact Aw.out);clear k3 k4 Gi;go_wp2_with fail;go_roundw
    case rel=>exact⟨pos+d,fr,l,k2,by omega,rfl,Rh.out,VY.out,yu.out⟩
    case measure=>(rw[hp1,wJ];omega)
  ·have Ik:=fun ty=>Go.Lib.run_next_end_at (P:=Tryz.prog) wr w.heap.size s pos ty MS.out DH;have yu:=vp (show l++[s.extract fr s.size]=be s by rw[<-eI DH];exact Aw.out);have wH:=Eu.out wr l (s.extract fr s.size) PF (by rw[ByteArray.size_extract];omega) vW HR.out;have zH:=vp wH;clear wH;go_wp2_with (first
    |(go_at_call 189;refine(zH.out).mono ?_;rintro e w2 ⟨rfl,yt,AB⟩;have Bo:=vp yt;clear yt AB)
    |fail)
   go_end0;exact⟨rfl,_,Bo.out, .inl yu.out⟩
def errB (b:Bool):Int:=if b=true then 11 else 0
theorem uA (bo:Nat) (x:ByteArray) (b:Bool) (w:World) (hB:w.heap[bo]? =some (.cells #[.int .i64 (errB b)] 32 (0,0))):
  Calls Tryz.prog 189 (#[.string x]++ #[.pointer (some ⟨bo,0,none⟩)]) w fun e w'=>e= .returned (.bool (!(b || decide (32<x.size))))/\w'.heap[bo]? =some (.cells #[.int .i64 (errB (b || decide (32<x.size)))] 32 (0,0))/\Mod (fun j=>j=bo) w w':=by
 have c0:=aa hB 0;have f0:=ae hB 0;have HB:=vp hB;clear hB;by_cases hx:32<x.size
 ·have e1:(b || decide (32<x.size))=true:=(by simp[hx]);rw[e1];have e2:errB true=11:=rfl;rw[e2];clear e1 e2;go_enter Tryz.func189,Tryz.ntmps189;go_wp2_with fail;go_ret;exact⟨rfl,jB HB.out,aj (S:=fun j=>j=bo) rfl 0 _⟩
 ·have e1:(b || decide (32<x.size))=b:=(by simp[hx]);rw[e1];clear e1;cases b
  all_goals
   simp only[errB]at c0 HB⊢;go_enter Tryz.func189,Tryz.ntmps189;go_wp2_with fail;go_ret;exact⟨rfl,HB.out,Mod.refl _ _⟩
theorem fG (l:List ByteArray) (x:ByteArray):dL (l++[x])=(dL l || decide (32<x.size)):=by simp[dL]
theorem np {l r:List ByteArray} (h:dL l=true):dL (l++r)=true:=by unfold dL at h⊢;rw[List.any_append,h];rfl
theorem oZ (s:ByteArray) (w:World) (hs:s.size<=1000000000):Calls Tryz.prog 164 #[.string s] w fun e w'=>e= .returned (.int .i64 (chk s))/\Below w.heap.size w w':=by
 by_cases h0:s.size=0
 ·obtain rfl:s=⟨#[]⟩:=by
   cases s with
   |mk d=>cases d with
    |mk l=>cases l with
     |nil=>rfl
     |cons x l=>simp[ByteArray.size]at h0
  have hc:chk ⟨#[]⟩=3:=rfl;rw[hc];clear hc hs h0;go_enter Tryz.func164,Tryz.ntmps164;go_wp2_with fail;go_ret;exact⟨rfl,vO _ _⟩
 have wg:s.toList.isEmpty=false:=by
  cases hc:s.toList with
  |nil=>
   exfalso;apply h0;have h9:s.data.toList=[]:=(by rw[<-hc];exact(ByteArray.toList_eq s).symm);have h8:s.data.toList.length=0:=(by rw[h9];rfl);exact h8
  |cons x l=>rfl
 by_cases hz:0<=Lib.indexByte s.data.toList 0
 ·have hc:chk s=1:=(by unfold chk;rw[if_neg h0,if_pos hz]);rw[hc];have Bh:=gM s 0 w;rw[vG hz]at Bh;have MW:=vp Bh;clear Bh hz hc;go_enter Tryz.func164,Tryz.ntmps164;go_wp2_with (first
   |(go_at_call 188;refine(MW.out).mono ?_;rintro e w1 ⟨rfl,rfl⟩)
   |fail)
  go_ret;exact⟨rfl,vO _ _⟩
 have Bh:=gM s 0 w;rw[vF hz]at Bh;have MW:=vp Bh;clear Bh;by_cases hl:200<s.size
 ·have hc:chk s=11:=(by unfold chk;rw[if_neg h0,if_neg hz,if_pos hl]);rw[hc];clear hz hc;go_enter Tryz.func164,Tryz.ntmps164;go_wp2_with (first
   |(go_at_call 188;refine(MW.out).mono ?_;rintro e w1 ⟨rfl,rfl⟩)
   |fail)
  go_ret;exact⟨rfl,vO _ _⟩
 have hc:chk s=errB (dL (be s)):=(by unfold chk errB;rw[if_neg h0,if_neg hz,if_neg hl]);rw[hc];obtain⟨w0,vT⟩: ∃w0,w0=w.alloc (.cells #[.int .i64 0] 32):=⟨_,rfl⟩;have vU:Below w.heap.size w w0:=(by rw[vT];exact vr);have hE:w0.heap[w.heap.size]? =some (.cells #[.int .i64 0] 32 (0,0)):=(by rw[vT];exact ab w _);have wM:w0.heap.size=w.heap.size+1:=(by rw[vT];simp);have Ig:=pcs_chk w.heap.size s w0 (fun w1 l=>Below w.heap.size w w1/\w1.heap[w.heap.size]? =some (.cells #[.int .i64 (errB (dL l))] 32 (0,0))) (fun l=> !dL l) hs
  (fun w1 w2 l ⟨h1,h2⟩ hm Ie=>⟨h1.trans (hm.below (fun b hb=>by have:=h1.size;omega) h1.size),(hm.block _ (vo h2).1 (by omega)).trans h2⟩)
  ⟨vU.alloc (by omega) _,(vt _ _ _ (by omega)).trans hE⟩
  (fun w1 l x _ _ hk ⟨h1,h2⟩=>(uA w.heap.size x (dL l) w1 h2).mono fun e w2 ⟨he,h3,h4⟩=>⟨by rw[he,fG],⟨h1.trans (h4.below (fun b hb=>by omega) h1.size),by rw[fG];exact h3⟩,h4.block _ hk (by omega)⟩)
 have wD:=vp vT;have HPC:=vp Ig;clear Ig vT hz hc vU hE;go_enter Tryz.func164,Tryz.ntmps164;go_upto_region 8 with(first
  |(go_at_call 188;refine(MW.out).mono ?_;rintro e w1 ⟨rfl,rfl⟩)
  |fail)
 rw[<-wD.out];go_wp2_with (first
  |(go_at_call 183;refine(HPC.out).mono ?_;rintro e w1 ⟨rfl,l,⟨vS,Bk⟩,xB⟩;have c1:=aa Bk 0;have vY:=vp vS;have HL1:=vp xB;clear vS Bk xB)
  |fail)
 have hlq:dL l=dL (be s):=by
  rcases HL1.out with e1|⟨r,e1,e2⟩
  ·rw[e1]
  ·have e3:dL l=true:=by cases hc:dL l with
    |true=>rfl
    |false=>rw[hc]at e2;cases e2
   rw[<-e1,np e3,e3]
 rw[<-hlq];go_ret;exact⟨rfl,vY.out⟩
end
section
open Go.RowKit Go.Sort
variable {x:ByteArray}
theorem ny (h:aO x=false):x=⟨#[]⟩\/x=⟨#[46]⟩:=by
 unfold aO at h;have h1:(x.data== #[] || x.data== #[46])=true:=by
  cases hc:(x.data== #[] || x.data== #[46])with
  |true=>rfl
  |false=>rw[hc]at h;cases h
 rcases Bool.or_eq_true_iff.1 h1 with e|e
 ·left;cases x with|mk d=>exact congrArg ByteArray.mk (eq_of_beq e)
 ·right;cases x with|mk d=>exact congrArg ByteArray.mk (eq_of_beq e)
theorem iL (h:aO x=true): ¬x.toList=[]/\(!x.toList.isEmpty)=true/\(!x.toList==[46])=true:=by
 have h1: ∀a:List UInt8,x.toList=a->x=⟨a.toArray⟩:=fun a e=>by
  cases x with|mk d=>rw[ByteArray.toList_eq]at e;rw[<-e]
 have n1: ¬x.toList=[]:=fun e=>by rw[h1 _ e]at h;cases h
 refine⟨n1,?_,?_⟩
 ·cases hc:x.toList with
  |nil=>exact absurd hc n1
  |cons a l=>rfl
 ·cases hc:(x.toList==[46])with
  |false=>rfl
  |true=>rw[h1 _ (eq_of_beq hc)]at h;cases h
theorem tC (bo:Nat) (x:ByteArray) (w:World) (h:aO x=false):Calls Tryz.prog 184 (#[.string x]++ #[.pointer (some ⟨bo,0,none⟩)]) w fun e w'=>e= .returned (.bool true)/\w'=w:=by
 rcases ny h with rfl|rfl
 all_goals
  clear h;go_enter Tryz.func184,Tryz.ntmps184;go_wp2_with fail;go_ret;exact⟨rfl,rfl⟩
variable {w:World} {base cap:Nat} {A:Option Addr} {l:List ByteArray}
theorem OwnS.form (h:OwnS w base A cap l):(A=none/\l=[]/\cap=0)\/ ∃g,A=some ⟨g,0,none⟩/\base<=g/\g<w.heap.size/\l.length<=cap:=by
 rcases h.2 with⟨h2,h3⟩|⟨g,vP,cur,h1,h2,h3,h4,_⟩
 ·injection h2 with e1 e2 e3;exact .inl ⟨e1,by simpa using h3,e3⟩
 ·injection h1 with e1 e2 e3;exact .inr ⟨g,e1,h2,(vo h3).1,by omega⟩
theorem OwnS.lower {BG:Nat} (h:OwnS w base A cap l) (hb:BG<=base):OwnS w BG A cap l:=by
 refine⟨h.1,?_⟩;rcases h.2 with h2|⟨g,vP,cur,h1,h2,h3⟩
 ·exact .inl h2
 ·exact .inr ⟨g,vP,cur,h1,by omega,h3⟩
variable {bo:Nat}
theorem StrRow.cell {w0 w1:World} {n:Nat} {ty:TypeId} (hF:(A=none/\l=[]/\cap=0)\/ ∃g,A=some ⟨g,0,none⟩/\base<=g/\g<w.heap.size/\l.length<=cap) (hAB: ∀g,A=some ⟨g,0,none⟩->g≠bo)
  (hB:w.heap[bo]? =some (.cells #[.slice A n cap] ty (0,0))) (hb:Below w.heap.size w w0) (hg:w0.grownBy w1 (A.map (·.block))):w1.heap[bo]? =some (.cells #[.slice A n cap] ty (0,0)):=by
 have zd:=(vo hB).1;refine(hg.block bo (vw zd hb.size) fun e=>?_).trans ((hb.block bo zd).trans hB);rcases hF with⟨e',_⟩|⟨g',e',_,_,_⟩
 ·rw[e']at e;cases e
 ·rw[e']at e;exact hAB g' e' (by simpa using e.symm)
def fN (bo base:Nat) (l:List ByteArray) (w:World):Prop:= ∃A cap,w.heap[bo]? =some (.cells #[.slice A l.length cap] 107 (0,0))/\OwnS w base A cap l/\(∀g,A=some ⟨g,0,none⟩->g≠bo)
theorem ra (bo base:Nat) (x:ByteArray) (l:List ByteArray) (w:World) (h:aO x=true) (hB:fN bo base l w) (wC:l.length<100000) (hbz:base<=w.heap.size):
  Calls Tryz.prog 184 (#[.string x]++ #[.pointer (some ⟨bo,0,none⟩)]) w fun e w'=>e= .returned (.bool true)/\fN bo base (l++[x]) w'/\Mod (fun b=>b=bo\/base<=b) w w':=by
 obtain⟨A,cap,hB,hO,hA⟩:=hB;have c0:w.cell? ⟨bo,0,none⟩=some (.slice A l.length cap):=aa hB 0;have f0:w.frozen? ⟨bo,0,none⟩=false:=ae hB 0;have HB:=vp hB;clear hB;obtain⟨t1,t2,t3⟩:=iL h;have zd:bo<w.heap.size:=(vo HB.out).1;have xo:=OwnS.form hO;obtain⟨k,hk⟩: ∃k,k=l.length:=⟨_,rfl⟩;rw[<-hk]at c0;have yd:=vp ((vO w.heap.size w).alloc (vs _) (.cells #[.string x] 9));have hfew':k<100000:=(by omega);have HF:=vp xo;have Gb:=vp hA;have HO:=vp hO;have HK:=vp hk;clear h hA hO hk xo wC;have HB':Hid (w.heap[bo]? =some (.cells #[.slice A k cap] 107 (0,0))):=(by have:=HB.out;rw[<-HK.out]at this;exact vp this);clear HB;go_enter Tryz.func184,Tryz.ntmps184;go_wp2_with (first
  |(at_builtin;refine ml rfl (.tmp 10) (.tmp 12) rfl base A cap l (HK.out▸rfl) (World.ownsRow.alloc HO.out _) x w.heap.size 1 rfl (ab _ _) (by rw[<-HK.out];omega) (by simp;omega) ?_;intro g vP w1 ho hg xi vW;rw[<-HK.out];have xD:=StrRow.cell HF.out Gb.out HB'.out yd.out hg;have c1:=aa xD 0;have f1:=ae xD 0;have vY:=vp xD;have wu:=vp ho;have HG:=vp hg;have EM:=vp xi;clear xD ho hg xi)
  |fail)
 go_ret;have hg:=HG.out;have hz:=hg.size;have wF:w.heap.size+1<=w1.heap.size:=(by simpa using hz);have Gt:g≠bo:=by
  rcases EM.out with e|e
  ·cases hAA:A with
   |none=>rw[hAA]at e;cases e
   |some ad=>
    rcases HF.out with⟨e',_⟩|⟨g',e',_,_,_⟩
    ·rw[hAA]at e';cases e'
    ·have h1:=Gb.out g' e';rw[e']at e;simp at e;omega
  ·simp at e;omega
 have Zj:base<=g:=by
  rcases EM.out with e|e
  ·rcases HF.out with⟨e',_⟩|⟨g',e',h2,_,_⟩
   ·rw[e']at e;cases e
   ·rw[e']at e;simp at e;omega
  ·simp at e;omega
 have yh:=jB vY.out (y:= .slice (some ⟨g,0,none⟩) (k+1) vP);have hm:=aj (S:=fun b=>b=bo) (w:=w1) (b:=bo) rfl 0 (.slice (some ⟨g,0,none⟩) (k+1) vP);refine⟨rfl,⟨some ⟨g,0,none⟩,vP,by rw[vu,<-HK.out];exact yh,OwnS.same wu.out fun g' e'=>by
  injection e' with e';injection e' with e';exact hm.block g' (e'▸vW) (by omega),fun g' e'=>by
  injection e' with e';injection e' with e';omega⟩,?_⟩
 have vS:Mod (fun b=>b=bo\/base<=b) w w1:=⟨hg.os,hg.tape,hg.output,by omega,fun b hb hn=>(hg.block b (by simp;omega) (fun e=>by
  rcases HF.out with⟨e',_⟩|⟨g',e',h2,_,_⟩
  ·rw[e']at e;cases e
  ·rw[e']at e;simp at e;exact hn (.inr (by omega)))).trans (vt _ _ _ (by omega))⟩
 exact vS.trans (Out.refl _ _) (hm.sub fun b hb=> .inl hb)
theorem fN.mod {w':World} {X:Nat->Prop} (h:fN bo base l w) (hm:Mod X w w') (hX: ¬X bo) (UR: ∀b,base<=b-> ¬X b):fN bo base l w':=by
 obtain⟨A,cap,hB,hO,hA⟩:=h;refine⟨A,cap,(hm.block bo (vo hB).1 hX).trans hB,hO.same fun g hg=>?_,hA⟩;rcases hO.form with⟨e,_⟩|⟨g',e,h1,h2,_⟩
 ·rw[e]at hg;cases hg
 ·rw[e]at hg;injection hg with hg;injection hg with hg;subst hg;exact hm.block _ h2 (UR _ h1)
theorem tA (bo:Nat) (s:ByteArray) (w:World) (R:World->List ByteArray->Prop) (go:List ByteArray->Bool) (Ie:s.size<=1000000000)
  (hk: ∀w1 w2 l,R w1 l->Mod (fun b=>b=w.heap.size) w1 w2->w1.heap.size=w2.heap.size->R w2 l)
  (h0:R (w.alloc (.stringIter s 0)) [])
  (xX: ∀w1 l x,l.length<=s.size->x.size<=s.size->w.heap.size<w1.heap.size->R w1 l->Calls Tryz.prog 184 (#[.string x]++ #[.pointer (some ⟨bo,0,none⟩)]) w1 fun e w2=>e= .returned (.bool (go (l++[x])))/\R w2 (l++[x])/\w2.heap[w.heap.size]? =w1.heap[w.heap.size]?):
  Calls Tryz.prog 183 #[.string s, .func (.func 184) #[] #[.pointer (some ⟨bo,0,none⟩)]] w fun e w'=>e= .returned (.tuple #[])/\ ∃l,R w' l/\(l=be s\/ ∃r,l++r=be s/\go l=false):=by
 have Eu:=vp xX;have OC:=vp hk;have H0:=vp h0;clear xX hk h0;go_enter Tryz.func183,Tryz.ntmps183;go_wp2_with fail;go_loopw [4] (fun i wr=> ∃pos fr l,pos<=s.size/\fr<=pos/\i= .int .i64 ((fr:Nat):Int)/\wr.heap[w.heap.size]? =some (.stringIter s pos)/\R wr l/\l++cuts s pos fr=be s) (fun _ wr=>s.size-wr.iterPos w.heap.size)
 case atStart=>exact⟨0,0,[],by omega,by omega,rfl,World.iter_heap w s 0,H0.out,rfl⟩
 case round=>
  obtain⟨pos,fr,l,hp,yJ,rfl,hit,hR,hcut⟩:=hrel;have wJ:=iterPos_of hit;have MS:=vp hit;have HR:=vp hR;have Aw:=vp hcut;clear hit hR hcut;have PF:l.length<=s.size:=by
   have h1:=congrArg List.length Aw.out;have h2:=cu s;have h3:0<(cuts s pos fr).length:=by
    by_cases c:pos<s.size
    ·unfold cuts;cases hz:s.size-pos with
     |zero=>omega
     |succ z=>
      clear h1 h2;have: ∀z pos fr,0<(mc s z pos fr).length:=by
       intro z
       induction z with
       |zero=>intro pos fr;exact Nat.zero_lt_one
       |succ z ih=>
        intro pos fr;unfold mc;split
        ·split
         ·simp
         ·exact ih _ _
        ·exact Nat.zero_lt_one
      exact this _ _ _
    ·rw[eI c];exact Nat.zero_lt_one
   rw[vu]at h1;omega
  have vW:=(vo MS.out).1;by_cases DH:pos<s.size
  ·obtain⟨k1,k2,k3,k4⟩:=mS s pos DH;obtain⟨r,hr⟩: ∃r,r=(Utf8.decode s pos).1:=⟨_,rfl⟩;obtain⟨d,hd⟩: ∃d,d=(Utf8.decode s pos).2:=⟨_,rfl⟩;have Ik:=fun ty=>Go.Lib.run_next_any_at (P:=Tryz.prog) wr w.heap.size s pos ty MS.out DH;rw[<-hr,<-hd]at Ik;rw[<-hr]at k3 k4;rw[<-hd]at k1 k2 k3 k4;have xE:Mod (fun b=>b=w.heap.size) wr (wr.iterAt w.heap.size s (pos+d)):=⟨rfl,rfl,rfl,by rw[Go.Lib.iterAt_size];exact vs _,fun b _ hb=>Go.Lib.iterAt_other wr w.heap.size b s _ hb⟩;have AO:=OC.out _ _ _ HR.out xE (Go.Lib.iterAt_size wr w.heap.size s (pos+d)).symm;have Ej:=Go.Lib.iterAt_heap wr w.heap.size s pos (pos+d) MS.out;have wF:=Go.Lib.iterAt_size wr w.heap.size s (pos+d);obtain⟨w1,hw⟩: ∃w1,w1=wr.iterAt w.heap.size s (pos+d):=⟨_,rfl⟩;rw[<-hw]at AO Ej Ik wF;have Rh:=vp Ej;have VY:=vp AO;have hp1:=iterPos_of Ej;clear Ej AO hw xE hr hd;by_cases Gi:r=47
   ·subst Gi;obtain⟨k5,rfl⟩:=k3 rfl;have yu:=vp (show(l++[s.extract fr pos])++cuts s (pos+1) (pos+1)=be s by rw[List.append_assoc,List.singleton_append,<-fM DH k5];exact Aw.out);have wH:=Eu.out w1 l (s.extract fr pos) PF (by rw[ByteArray.size_extract];omega) (by omega) VY.out;clear k3 k4 k5;cases EF:go (l++[s.extract fr pos])with
    |true=>
     rw[EF]at wH;have zH:=vp wH;have OG:=vp EF;clear wH EF;go_wp2_with (first
      |(go_at_call 184;refine(zH.out).mono ?_;rintro e w2 ⟨rfl,yt,AB⟩;have Bo:=vp yt;have Wt:=vp (AB.trans Rh.out);have hp2:=iterPos_of Wt.out;clear yt AB)
      |fail)
     go_roundw
     case rel=>exact⟨pos+1,pos+1,_,by omega,by omega,by go_num,Wt.out,Bo.out,yu.out⟩
     case measure=>(rw[hp2,wJ];omega)
    |false=>
     rw[EF]at wH;have zH:=vp wH;have OG:=vp EF;clear wH EF;go_wp2_with (first
      |(go_at_call 184;refine(zH.out).mono ?_;rintro e w2 ⟨rfl,yt,AB⟩;have Bo:=vp yt;clear yt AB)
      |fail)
     refine bodyPost_ret (results_none rfl _ _ _) rfl ?_;exact⟨rfl,_,Bo.out, .inr ⟨_,yu.out,OG.out⟩⟩
   ·have wg:(((r:Nat):Int) != 47)=true:=(by rw[bne_iff_ne];omega);have yu:=vp (show l++cuts s (pos+d) fr=be s by rw[<-nG d k2 (k4 Gi)];exact Aw.out);clear k3 k4 Gi;go_wp2_with fail;go_roundw
    case rel=>exact⟨pos+d,fr,l,k2,by omega,rfl,Rh.out,VY.out,yu.out⟩
    case measure=>(rw[hp1,wJ];omega)
  ·have Ik:=fun ty=>Go.Lib.run_next_end_at (P:=Tryz.prog) wr w.heap.size s pos ty MS.out DH;have yu:=vp (show l++[s.extract fr s.size]=be s by rw[<-eI DH];exact Aw.out);have wH:=Eu.out wr l (s.extract fr s.size) PF (by rw[ByteArray.size_extract];omega) vW HR.out;have zH:=vp wH;clear wH;go_wp2_with (first
    |(go_at_call 184;refine(zH.out).mono ?_;rintro e w2 ⟨rfl,yt,AB⟩;have Bo:=vp yt;clear yt AB)
    |fail)
   go_end0;exact⟨rfl,_,Bo.out, .inl yu.out⟩
theorem fh (l:List ByteArray) (h:aO x=true):(l++[x]).filter aO=l.filter aO++[x]:=by
 rw[List.filter_append,List.filter_cons_of_pos h];rfl
theorem fU (l:List ByteArray) (h:aO x=false):(l++[x]).filter aO=l.filter aO:=by
 rw[List.filter_append,List.filter_cons_of_neg (by rw[h];decide)];simp
theorem fR {tmps:Array Value} {v b r:Value} (h2:tmps.getD 2 undef= .pointer (some ⟨bo,0,none⟩)) (h3:tmps.getD 3 undef=b) (h4:tmps.getD 4 undef=r) (hc:w.cell? ⟨bo,0,none⟩=some v) (hv:v.oneCell'=true):
  (results Tryz.f161 tmps).run Tryz.prog w= .ok (.tuple #[v,b,r]) w:=by
 rw[ik rfl,h2,h3,h4]
 go_simp
theorem tB (s:ByteArray) (w:World) (hs:s.size<=1000000000) (hc:chk s≠0):Calls Tryz.prog 161 #[.string s] w fun e w'=>e= .returned (.tuple #[.slice none 0 0, .bool false, .int .i64 (chk s)])/\Below w.heap.size w w':=by
 have hq:=fun w0=>oZ s w0 hs;obtain⟨r,hr⟩: ∃r,r=chk s:=⟨_,rfl⟩;rw[<-hr]at hq hc⊢;have Dk:=ab w (.cells #[.slice none 0 0] 107);have wg:(r != 0)=true:=(by rw[bne_iff_ne];exact hc);have HQ:=vp hq;have Rt:=vp Dk;clear hq hr hc Dk;go_enter Tryz.func161,Tryz.ntmps161;go_wp2_with (first
  |(go_at_call 164;refine(HQ.out _).mono ?_;rintro e w1 ⟨rfl,vS⟩;have hB:=(vS.block _ (by simp)).trans Rt.out;have c1:=aa hB 0;have f1:=ae hB 0;have HB:=vp hB;clear hB))
 have yh:=jB HB.out (y:= .slice none 0 0);refine bodyPost_ret (v:= .tuple #[.slice none 0 0, .bool false, .int .i64 r]) (fR rfl rfl rfl (aa yh 0) rfl) rfl ?_;exact⟨rfl,(vr.trans (vS.mono (by simp))).setCell (vs _) _⟩
def cf (s:ByteArray) (w:World) (e:Ending) (w':World):Prop:= ∃A cap,e= .returned (.tuple #[.slice A (ar s).length cap, .bool (Lib.hasPrefix s.data.toList [47]), .int .i64 0])/\OwnS w' w.heap.size A cap (ar s)/\Below w.heap.size w w'
theorem parts_ok (s:ByteArray) (w:World) (hc:chk s=0):Calls Tryz.prog 161 #[.string s] w (cf s w):=by
 obtain⟨h1,h2,_,_⟩:=da hc;have hq:=fun w0=>oZ s w0 (by omega);rw[hc]at hq;have Dk:=ab w (.cells #[.slice none 0 0] 107);obtain⟨w0,vT⟩: ∃w0,w0=w.alloc (.cells #[.slice none 0 0] 107):=⟨_,rfl⟩;rw[<-vT]at Dk;have wM:w0.heap.size=w.heap.size+1:=(by rw[vT];simp);have zd:Below w.heap.size w w0:=(by rw[vT];exact vr);have Ig:=fun(w1:World) (hb:Below w0.heap.size w0 w1)=>tA w.heap.size s w1 (fun w2 l=>Below w.heap.size w w2/\w1.heap.size+1<=w2.heap.size/\fN w.heap.size (w1.heap.size+1) (l.filter aO) w2) (fun l=>true) (by omega)
  (fun w2 w3 l ⟨a1,a2,a3⟩ hm Ie=>⟨a1.trans (hm.below (fun b e=>by have:=hb.size;omega) a1.size),by omega,a3.mod hm (by have:=hb.size;omega) (fun b h=>by omega)⟩)
  ⟨(zd.trans (hb.mono (by omega))).alloc (by have:=hb.size;omega) _,by simp,none,0,(vt _ _ _ (by have:=hb.size;omega)).trans ((hb.block _ (by omega)).trans Dk),OwnS.nil _ _,fun g e=>by cases e⟩
  (fun w2 l x hl hx hk ⟨a1,a2,a3⟩=>by
   cases hp:aO x with
   |true=>
    refine(ra w.heap.size (w1.heap.size+1) x (l.filter aO) w2 hp a3 (by have:=List.length_filter_le aO l;omega) a2).mono ?_;rintro e w3 ⟨rfl,b1,b2⟩;rw[fh l hp];exact⟨rfl,⟨a1.trans (b2.below (fun b e=>by have:=hb.size;omega) a1.size),vM a2 b2.size,b1⟩,b2.block _ hk (by have:=hb.size;omega)⟩
   |false=>
    refine(tC w.heap.size x w2 hp).mono ?_;rintro e w3 ⟨rfl,rfl⟩;rw[fU l hp];exact⟨rfl,⟨a1,a2,a3⟩,rfl⟩)
 have To:=fun w0=>rx s ⟨#[47]⟩ w0;obtain⟨pb,hpb⟩: ∃pb,pb=Lib.hasPrefix s.data.toList [47]:=⟨_,rfl⟩;have Nu: ∀w0,Calls Tryz.prog 185 #[.string s, .string ⟨#[47]⟩] w0 fun e w'=>e= .returned (.bool pb)/\w'=w0:=fun w0=>by rw[hpb];exact To w0
 unfold cf;rw[<-hpb];have HQ:=vp hq;have wD:=vp vT;have Rt:=vp Dk;have HPC:=vp Ig;have HPR:=vp Nu;clear hq vT Dk Ig To Nu hpb hc h1;go_enter Tryz.func161,Tryz.ntmps161;go_upto_region 1 with(fail);rw[<-wD.out];go_wp2_with (first
  |(go_at_call 164;refine(HQ.out _).mono ?_;rintro e w1 ⟨rfl,vS⟩)
  |(go_at_call 183;refine(HPC.out w1 vS).mono ?_;rintro e w2 ⟨rfl,l,⟨wb,wL,A,cap,hc,hO,hA⟩,hl⟩;have c1:=aa hc 0;have f1:=ae hc 0;have HC:=vp hc;have HO:=vp hO;have HA:=vp hA;have HL:=vp hl;clear hc hO hA hl))
 go_region_with
  ((
   first
   |(go_at_call 185;refine(HPR.out _).mono ?_;rintro e w3 ⟨rfl,rfl⟩)))
 all_goals
  go_wp2_with fail;have wS:l=be s:=by
   rcases HL.out with e|⟨r,_,e⟩
   ·exact e
   ·cases e
  have yh:=jB HC.out (y:= .slice A (l.filter aO).length cap);have hm:=aj (S:=fun b=>b=w.heap.size) (w:=w2) rfl 0 (.slice A (l.filter aO).length cap);have hz:=wb.size;refine bodyPost_ret (v:= .tuple #[.slice A (ar s).length cap, .bool pb, .int .i64 0]) (fR rfl rfl rfl (by have h9:=aa yh 0;have h8:(ar s).length=(l.filter aO).length:=(congrArg (fun z=>(List.filter aO z).length) wS).symm;rw[h8];exact h9) rfl) rfl ?_;refine⟨A,cap,rfl,?_,?_⟩
  ·have zF:OwnS (w2.setCell ⟨w.heap.size,0,none⟩ (.slice A (l.filter aO).length cap)).drew (w1.heap.size+1) A cap (ar s):=by
    unfold ar;rw[<-wS];refine OwnS.same HO.out fun g hg=>?_;rcases(OwnS.form HO.out)with⟨e,_⟩|⟨g',e,k1,k2,_⟩
    ·rw[e]at hg;cases hg
    ·rw[e]at hg;injection hg with hg;injection hg with hg;subst hg;have:=vS.size;exact hm.block _ k2 (by omega)
   exact zF.lower (by have:=vS.size;omega)
  ·exact((Mod.of wb).trans (Out.refl _ _) hm.drew).below (S:=fun b=>b=w.heap.size) (fun b hb=>by omega) (vs _)
end
section
structure Ent where
 path:ByteArray
 kind:Nat
 mode:Nat
 uid:Nat
 gid:Nat
 n:Nat
 dat:Nat->Nat
 «to»:ByteArray
structure Nd where
 kind:Nat
 mode:Nat
 uid:Nat
 gid:Nat
 n:Nat
 up:Nat
 name:ByteArray
 dat:Nat->Nat
 «to»:ByteArray
def aB:Nd:=⟨2,493,0,0,0,0,⟨#[]⟩,fun _ =>0,⟨#[]⟩⟩
def dn (m:Nat):Bool:=bits .andNot .u16 (m:Int) 2559 != 0
def dots (l:List ByteArray):Bool:=l.any fun x=>x.data== #[46,46]
def may (e:Ent):Int:=
 if e.kind<1\/3<e.kind\/dn e.mode=true then 1
 else if chk e.path≠0\/Lib.hasPrefix e.path.data.toList [47]=false\/ar e.path=[]\/Lib.hasSuffix e.path.data.toList [47]=true\/dots (ar e.path)=true then 1
 else if(e.kind≠1/\0<e.n)\/(e.kind≠3/\e.to.size≠0)then 1
 else if e.kind=3/\chk e.to≠0 then 1
 else if 65536<e.n then 12 else 0
def ak (F:List Nd) (i:Nat):Nat:=match F[i]? with|some y=>y.kind|none=>0
def aG (F:List Nd) (d:Nat):List (ByteArray×Nat):=
 (List.range F.length).filterMap fun i=>match F[i]? with|some y=>if 0<i/\y.up=d then some (y.name,i)else none|none=>none
def cS (l:List (ByteArray×Nat)) (x:ByteArray):Option Nat:=(l.find? fun y=>decide (y.1=x)).map (·.2)
def atM (F:List Nd):Nat->List ByteArray->Option Nat
 |i,[]=>some i
 |i,x::l=>if ak F i=2 then(match cS (aG F i) x with|some j=>atM F j l|none=>none)else none
def bB (e:Ent) (up:Nat) (x:ByteArray):Nd:=⟨e.kind,e.mode,e.uid,e.gid,e.n,up,x,e.dat,e.to⟩
def addM (F:List Nd) (e:Ent):Int×List Nd:=
 if may e≠0 then(may e,F)
 else if(atM F 0 (ar e.path)).isSome=true then(7,F)
 else match atM F 0 (ar e.path).dropLast with
  |none=>(3,F)
  |some up=>if ak F up≠2 then(8,F)else(0,F++[bB e up ((ar e.path).getLastD ⟨#[]⟩)])
def newM (F:List Nd):Nat->List Ent->Int×Int×List Nd
 |_,[]=>(0,0,F)
 |i,e::l=>if(addM F e).1≠0 then((addM F e).1,(i:Int),F)else newM (addM F e).2 (i+1) l
variable {F:List Nd} {i:Nat}
theorem gj {y:Nd} (h:F[i]? =some y):ak F i=y.kind:=by unfold ak;rw[h]
theorem cE (y:Nd) (h:i<F.length):ak (F++[y]) i=ak F i:=by
 unfold ak;rw[vz h]
theorem fV {α β:Type} {f g:α->Option β} : ∀ {l:List α},(∀x∈l,f x=g x)->l.filterMap f=l.filterMap g
 | [],_ =>rfl
 |x::l,h=>by
  rw[List.filterMap_cons,List.filterMap_cons,h x (vK ..),fV fun y hy=>h y (vJ _ hy)]
theorem iJ (F:List Nd) (y:Nd) (d:Nat) (h:0<F.length):aG (F++[y]) d=aG F d++if y.up=d then [(y.name,F.length)]else []:=by
 unfold aG;rw[vu,vB,List.range_succ,List.filterMap_append];congr 1
 ·refine fV fun i hi=>?_;rw[vz (List.mem_range.1 hi)]
 ·simp only[List.filterMap_cons,List.filterMap_nil];rw[vy (vs _)];simp only[Nat.sub_self,List.getElem?_cons_zero];by_cases hu:y.up=d
  ·rw[if_pos hu,if_pos ⟨h,hu⟩]
  ·rw[if_neg hu,if_neg (fun e=>hu e.2)]
theorem bA {d:Nat} {x:ByteArray×Nat} (h:x∈aG F d):x.2<F.length/\0<x.2/\ ∃y,F[x.2]? =some y/\y.up=d/\y.name=x.1:=by
 unfold aG at h;obtain⟨i,hi,h2⟩:=List.mem_filterMap.1 h;have hl:=List.mem_range.1 hi;cases hf:F[i]? with
 |none=>rw[hf]at h2;cases h2
 |some y=>
  rw[hf]at h2;simp only at h2;split at h2
  ·next h3=>
   injection h2 with h2;subst h2;exact⟨hl,h3.1,y,hf,h3.2,rfl⟩
  ·cases h2
variable {x:ByteArray} {j:Nat}
theorem eh {l:List (ByteArray×Nat)} (h:cS l x=some j):(x,j)∈l:=by
 unfold cS at h;cases hf:l.find? (fun y=>decide (y.1=x))with
 |none=>rw[hf]at h;cases h
 |some y=>
  rw[hf]at h;injection h with h;have h1:=List.mem_of_find?_eq_some hf;have h2:=List.find?_some hf;have h3:y.1=x:=(by simpa using h2);rw[<-h3,<-h];exact h1
theorem rt {l:List (ByteArray×Nat)} (h:cS l x=none): ∀y∈l,y.1≠x:=by
 unfold cS at h;intro y hy;have:=List.find?_eq_none.1 (by simpa using h:l.find? (fun y=>decide (y.1=x))=none) y hy;simpa using this
theorem uI (l:List ByteArray): ∀ {i j:Nat},i<F.length->atM F i l=some j->j<F.length:=by
 induction l with
 |nil=>intro i j h1 h2;unfold atM at h2;injection h2 with h2;omega
 |cons x l ih=>
  intro i j h1 h2;unfold atM at h2;split at h2
  ·split at h2
   ·next k hk=>exact ih (bA (eh hk)).1 h2
   ·cases h2
  ·cases h2
variable {l:List ByteArray}
theorem atM_go (h:ak F i=2) (hj:cS (aG F i) x=some j):atM F i (x::l)=atM F j l:=by
 rw[atM,if_pos h,hj]
theorem atM_no (h:ak F i=2) (hj:cS (aG F i) x=none):atM F i (x::l)=none:=by
 rw[atM,if_pos h,hj]
theorem atM_leaf (h:ak F i≠2):atM F i (x::l)=none:=by
 rw[atM,if_neg h]
theorem atM_snoc (l:List ByteArray) (x:ByteArray): ∀i,atM F i (l++[x])=match atM F i l with|some u=>atM F u [x]|none=>none:=by
 induction l with
 |nil=>intro i;rfl
 |cons y l ih=>
  intro i;rw[List.cons_append,atM,atM];split
  ·split
   ·exact ih _
   ·rfl
  ·rfl
structure NdOk (N:Nat) (y:Nd):Prop where
 kind:1<=y.kind/\y.kind<=3
 few:y.n<=65536
 up:y.up<N
structure FOk (F:List Nd):Prop where
 each: ∀(i:Nat) (y:Nd),F[i]? =some y->NdOk F.length y
 root: ∃y,F[0]? =some y/\y.kind=2/\y.up=0
theorem FOk.pos (h:FOk F):0<F.length:=by
 obtain⟨y,hy,_⟩:=h.root;exact(List.getElem?_eq_some_iff.1 hy).1
theorem FOk.start:FOk [aB]:=⟨fun i y h=>by
 cases i with
 |zero=>simp at h;subst h;exact⟨by decide,by decide,by decide⟩
 |succ i=>simp at h,⟨_,rfl,rfl,rfl⟩⟩
variable {e:Ent}
theorem eG (h:may e=0):1<=e.kind/\e.kind<=3/\dn e.mode=false/\chk e.path=0/\Lib.hasPrefix e.path.data.toList [47]=true/\ar e.path≠[]/\Lib.hasSuffix e.path.data.toList [47]=false/\dots (ar e.path)=false/\
  (e.kind=1\/e.n=0)/\(e.kind=3\/e.to.size=0)/\(e.kind=3->chk e.to=0)/\e.n<=65536:=by
 unfold may at h;split at h
 ·cases h
 split at h
 ·cases h
 split at h
 ·cases h
 split at h
 ·cases h
 split at h
 ·cases h
 next h1 h2 h3 h4 h5=>
 have g1:dn e.mode=false:=by
  cases hc:dn e.mode with
  |false=>rfl
  |true=>exact absurd (.inr (.inr hc)) h1
 refine⟨by omega,by omega,g1,?_,?_,?_,?_,?_,by omega,by omega,fun hk=>?_,by omega⟩
 ·by_cases c:chk e.path=0
  ·exact c
  ·exact absurd (.inl c) h2
 ·cases hc:Lib.hasPrefix e.path.data.toList [47]with
  |true=>rfl
  |false=>exact absurd (.inr (.inl hc)) h2
 ·intro hc;exact h2 (.inr (.inr (.inl hc)))
 ·cases hc:Lib.hasSuffix e.path.data.toList [47]with
  |false=>rfl
  |true=>exact absurd (.inr (.inr (.inr (.inl hc)))) h2
 ·cases hc:dots (ar e.path)with
  |false=>rfl
  |true=>exact absurd (.inr (.inr (.inr (.inr hc)))) h2
 ·by_cases c:chk e.to=0
  ·exact c
  ·exact absurd ⟨hk,c⟩ h4
theorem mo (h:FOk F) (h0:(addM F e).1=0):FOk (addM F e).2/\(addM F e).2.length=F.length+1/\may e=0/\ ∃up,atM F 0 (ar e.path)=none/\atM F 0 (ar e.path).dropLast=some up/\ak F up=2/\up<F.length/\(addM F e).2=F++[bB e up ((ar e.path).getLastD ⟨#[]⟩)]:=by
 unfold addM at h0⊢;split at h0
 ·next hm=>exact absurd h0 hm
 next hm=>
 split at h0
 ·cases h0
 next ha=>
 rw[if_neg hm,if_neg ha];split at h0
 ·cases h0
 next up hu=>
 split at h0
 ·cases h0
 next hk=>
 rw[hu];show FOk (if ak F up≠2 then((8:Int),F)else(0,F++[bB e up ((ar e.path).getLastD ⟨#[]⟩)])).2/\_;rw[if_neg hk];have JY:may e=0:=(by omega);have Yp:=uI _ h.pos hu;obtain⟨m1,m2,_,_,_,_,_,_,_,_,_,m3⟩:=eG JY;refine⟨⟨fun i y hy=>?_,?_⟩,by simp,JY,up,by simpa using ha,rfl,by omega,Yp,rfl⟩
 ·rw[vu,vB];by_cases hi:i<F.length
  ·rw[vz hi]at hy;have:=h.each i y hy;exact⟨this.kind,this.few,by have:=this.up;omega⟩
  ·rw[vy (by omega)]at hy;have Cs:i-F.length=0:=by
    rcases Nat.eq_zero_or_pos (i-F.length)with e0|e0
    ·exact e0
    ·rw[List.getElem?_eq_none (by simp;omega)]at hy;cases hy
   rw[Cs]at hy;simp at hy;subst hy;exact⟨⟨m1,m2⟩,m3,by show up<_;omega⟩
 ·obtain⟨y,hy,hr⟩:=h.root;exact⟨y,by rw[vz h.pos];exact hy,hr⟩
end
section
open Go.RowKit Go.Sort
def IdxPost (l:List ByteArray) (w:World) (e:Ending) (w':World):Prop:= ∃i:Int,e= .returned (.int .i64 i)/\w'=w/\dots l=decide (0<=i)
variable {l:List ByteArray}
theorem dots_at {k:Nat} {x:ByteArray} (h:l[k]? =some x) (hx:((ByteArray.mk #[46,46]).toList==x.toList)=true):dots l=true:=by
 unfold dots;refine List.any_eq_true.2 ⟨x,vA h,?_⟩;have e:=eq_of_beq hx;rw[ByteArray.toList_eq,ByteArray.toList_eq]at e;rw[beq_iff_eq];exact(Array.toList_inj.1 e).symm
theorem dots_not (h: ∀k,k<l.length-> ∀x,l[k]? =some x->((ByteArray.mk #[46,46]).toList==x.toList)=false):dots l=false:=by
 unfold dots;rw[List.any_eq_false];intro x hx e;obtain⟨k,hk,e2⟩:=List.getElem_of_mem hx;have h1:=h k hk x (by rw[vv hk,e2]);rw[beq_iff_eq]at e;rw[ByteArray.toList_eq,ByteArray.toList_eq,e]at h1;simp at h1
theorem rG (base cap:Nat) (A:Option Addr) (l:List ByteArray) (w:World) (hO:OwnS w base A cap l) (wC:l.length<100000):
  Calls Tryz.prog 187 #[.slice A l.length cap, .string ⟨#[46,46]⟩] w (IdxPost l w):=by
 have xo:=hO.form;have HO:=vp hO;obtain⟨n,hn⟩: ∃n,n=l.length:=⟨_,rfl⟩;rw[<-hn]at wC xo⊢;obtain⟨s,hs⟩: ∃s:ByteArray,s=⟨#[46,46]⟩:=⟨_,rfl⟩;rw[<-hs];have HN:=vp hn;have HS:=vp hs;clear hO hn hs;go_enter Tryz.func187,Tryz.ntmps187;go_wp2_with fail;go_loop [8] (fun i=> ∃k:Nat,k<=n/\i= .int .i64 (k:Int)/\ ∀j,j<k-> ∀x,l[j]? =some x->(s.toList==x.toList)=false) (fun i=>n-(intOf i).toNat)
 case atStart=>exact⟨0,by omega,rfl,fun j hj=>by omega⟩
 case round=>
  obtain⟨k,hk,rfl,wE⟩:=hrel;have ze:=vp wE;clear wE;by_cases vW:k<n
  ·rcases xo with⟨_,h2,_⟩|⟨g,hA,_,_,xn⟩
   ·exfalso;have:=HN.out;rw[h2]at this;simp at this;omega
   subst hA;obtain⟨x,hx⟩: ∃x,l[k]? =some x:=⟨_,vv (by rw[<-HN.out];exact vW)⟩;have c0:w.cell? ⟨g,k,none⟩=some (.string x):=OwnS.elem HO.out hx;have HX:=vp hx;clear hx;cases hc:(s.toList==x.toList)with
   |true=>
    have HC:=vp hc;go_wp2_with fail;go_ret;exact⟨_,rfl,rfl,by rw[dots_at HX.out (by rw[<-HS.out];exact HC.out)];simp⟩
   |false=>
    have HC:=vp hc;go_wp2_with fail;go_round
    case rel=>
     refine⟨k+1,by omega,by go_num,fun j hj y hy=>?_⟩;rcases Nat.lt_succ_iff_lt_or_eq.1 hj with h1|h1
     ·exact ze.out j h1 y hy
     ·subst h1;rw[HX.out]at hy;injection hy with hy;subst hy;exact HC.out
    case measure=>simp[intOf];omega
  ·obtain rfl:k=n:=(by omega);go_wp2_with fail;go_ret;exact⟨-1,rfl,rfl,by rw[dots_not (fun j hj y hy=>by rw[<-HS.out];exact ze.out j (by rw[HN.out];exact hj) y hy)];rfl⟩
theorem mh (base cap:Nat) (A:Option Addr) (l:List ByteArray) (w:World) (hO:OwnS w base A cap l) (wC:l.length<100000):
  Calls Tryz.prog 163 #[.slice A l.length cap, .string ⟨#[46,46]⟩] w fun e w'=>e= .returned (.bool (dots l))/\w'=w:=by
 have hi:=vp (rG base cap A l w hO wC);cases hd:dots l
 all_goals
  have HD:=vp hd;clear hd hO;go_enter Tryz.func163,Tryz.ntmps163;go_wp2_with (first
   |(go_at_call 187;refine(hi.out).mono ?_;rintro e w3 ⟨i,rfl,rfl,Zr⟩;rw[HD.out]at Zr;have hdi2:=Zr.symm;clear Zr)
   |fail)
  go_ret;exact⟨rfl,rfl⟩
end
section
open Go.RowKit Go.Sort
def Ent.val (e:Ent) (A:Option Addr) (c:Nat):Value:= .agg #[.string e.path, .int .u8 (e.kind:Int), .int .u16 (e.mode:Int), .int .u32 (e.uid:Int), .int .u32 (e.gid:Int), .slice A e.n c, .string e.to]
variable {t:ByteArray}
theorem iW (h:t.size=0):(!t.toList.isEmpty)=false:=by
 have e:t=⟨#[]⟩:=by
  cases t with
  |mk d=>exact congrArg ByteArray.mk (Array.eq_empty_of_size_eq_zero h)
 subst e;rw[ByteArray.toList_eq];rfl
theorem ln (h:t.size≠0):(!t.toList.isEmpty)=true:=by
 cases hc:t.toList with
 |nil=>
  exfalso;apply h;have h9:t.data.toList=[]:=(by rw[<-hc];exact(ByteArray.toList_eq t).symm);have h8:t.data.toList.length=0:=(by rw[h9];rfl);exact h8
 |cons x l=>rfl
theorem OwnS.kept {w w':World} {base:Nat} {A:Option Addr} {cap:Nat} {l:List ByteArray} (h:OwnS w base A cap l) (hb:Below w.heap.size w w'):OwnS w' base A cap l:=h.same fun g hg=>by
 rcases h.form with⟨e,_⟩|⟨g',e,_,h2,_⟩
 ·rw[e]at hg;cases hg
 ·rw[e]at hg;injection hg with hg;injection hg with hg;subst hg;exact hb.block _ h2
def VpPost (mr:Int) (L:List ByteArray) (w:World) (e:Ending) (w':World):Prop:=
 ∃A1 vR l,e= .returned (.tuple #[.slice A1 l.length vR, .int .i64 mr])/\OwnS w' w.heap.size A1 vR l/\Below w.heap.size w w'/\(mr=0->l=L)/\(mr≠0->A1=none/\vR=0/\l=[])
theorem dQ (x:Ent) (A:Option Addr) (c:Nat) (w:World) (hp:x.path.size<=1000000000) (ht:x.to.size<=1000000000) (hn:x.n<=9223372036854775807):
  Calls Tryz.prog 133 #[x.val A c] w (VpPost (may x) (ar x.path) w):=by
 obtain⟨path,kind,mode,uid,gid,n,dat,lk⟩:=x;simp only at hp ht hn;obtain⟨K,Qv⟩: ∃K:Int,K=(kind:Int):=⟨_,rfl⟩;have XA:0<=K:=(by omega);obtain⟨w0,vT⟩: ∃w0,w0=w.alloc (.cells #[.string path, .int .u8 K, .int .u16 (mode:Int), .int .u32 (uid:Int), .int .u32 (gid:Int), .slice A n c, .string lk] 93):=⟨_,rfl⟩;have vU:Below w.heap.size w w0:=(by rw[vT];exact vr);have hE:w0.heap[w.heap.size]? =some (.cells #[.string path, .int .u8 K, .int .u16 (mode:Int), .int .u32 (uid:Int), .int .u32 (gid:Int), .slice A n c, .string lk] 93 (0,0)):=(by rw[vT];exact ab w _);have xr:w.heap.size<w0.heap.size:=(vo hE).1;have d0:w0.cell? ⟨w.heap.size,0,none⟩=some (.string path):=aa hE 0;have HE:=vp hE;have wD:=vp vT;clear hE vT;unfold Ent.val;simp only;rw[<-Qv];by_cases hc:chk path=0
 rotate_left
 ·have Hb:may ⟨path,kind,mode,uid,gid,n,dat,lk⟩=1:=by
   unfold may;simp only;split
   ·rfl
   ·rw[if_pos (.inl hc)]
  rw[Hb];have Wb:=vp (fun W=>tB path W hp hc);have wg:(chk path != 0)=true:=(by rw[bne_iff_ne];exact hc);obtain⟨r,hr⟩: ∃r,r=chk path:=⟨_,rfl⟩;rw[<-hr]at wg Wb;clear Hb hc hr Qv;go_enter Tryz.func133,Tryz.ntmps133;go_upto_region 1 with(fail);rw[<-wD.out];go_wp2_with (first
   |(go_at_call 161;refine(Wb.out _).mono ?_;rintro e w1 ⟨rfl,vS⟩;have vV:=(vS.block _ xr).trans HE.out;have e1:w1.cell? ⟨w.heap.size,1,none⟩=some (.int .u8 K):=aa vV 1;have e2:w1.cell? ⟨w.heap.size,2,none⟩=some (.int .u16 (mode:Int)):=aa vV 2;have xV:=vp vV;have vY:=vp (vU.trans (vS.mono vU.size));clear vV vS)
   |fail)
  all_goals
   go_ret2;exact⟨none,0,[],rfl,OwnS.nil _ _,vY.out,(fun e=>by cases e),fun _ =>⟨rfl,rfl,rfl⟩⟩
 have DH:=da hc;have Tn:path.size<=200:=DH.2.1;obtain⟨L,hL⟩: ∃L,L=ar path:=⟨_,rfl⟩;obtain⟨k,hk⟩: ∃k,k=L.length:=⟨_,rfl⟩;have hkf:k<=201:=(by rw[hk,hL];have:=bd path;omega);obtain⟨pb,hpb⟩: ∃pb,pb=Lib.hasPrefix path.data.toList [47]:=⟨_,rfl⟩;obtain⟨tb,Nn⟩: ∃tb,tb=Lib.hasSuffix path.data.toList [47]:=⟨_,rfl⟩;obtain⟨db,Ay⟩: ∃db,db=dots L:=⟨_,rfl⟩;obtain⟨mb,ED⟩: ∃mb,mb=dn mode:=⟨_,rfl⟩;have FN:=fun W=>parts_ok path W hc;unfold cf at FN;rw[<-hL,<-hpb,<-hk]at FN;have Pb:=fun W=>tail_any path W (by omega);rw[<-Nn]at Pb;have hcd: ∀W base A1 vR,OwnS W base A1 vR L->Calls Tryz.prog 163 #[.slice A1 k vR, .string ⟨#[46,46]⟩] W fun e w'=>e= .returned (.bool db)/\w'=W:=fun W base A1 vR ho=>by
  rw[Ay,hk];exact mh base vR A1 L W ho (by omega)
 obtain⟨ct,Iw⟩: ∃ct,ct=chk lk:=⟨_,rfl⟩;have As:=fun W=>oZ lk W ht;rw[<-Iw]at As;obtain⟨mr,Hb⟩: ∃mr,mr=may ⟨path,kind,mode,uid,gid,n,dat,lk⟩:=⟨_,rfl⟩;rw[<-Hb,<-hL];have we:mr=if K<1\/3<K\/mb=true then 1 else if pb=false\/k=0\/tb=true\/db=true then 1
   else if(K≠1/\0<n)\/(K≠3/\lk.size≠0)then 1 else if K=3/\ct≠0 then 1 else if 65536<n then 12 else 0:=by
  have i1:(K<1)=(kind<1):=(by apply propext;omega);have i2:(3<K)=(3<kind):=(by apply propext;omega);have i3:(K=1)=(kind=1):=(by apply propext;omega);have i4:(K=3)=(kind=3):=(by apply propext;omega);rw[Hb,hpb,hk,Nn,Ay,Iw,hL,ED];simp only[i1,i2,i3,i4,ne_eq];unfold may;simp only[hc,ne_eq,not_true_eq_false,false_or,List.length_eq_zero_iff]
 have hmbt:(bits .andNot .u16 (mode:Int) 2559 != 0)=mb:=ED.symm;have AE:=vp FN;have AD:=vp Pb;have FZ:=vp hcd;have CY:=vp As;have HK:=vp hk;clear FN Pb As hcd Ay hpb Nn Iw Hb hk hL hc DH Qv ED;by_cases c1:K<1
 ·have hm:mr=1:=(by rw[we];exact if_pos (.inl c1));subst hm;clear we;go_enter Tryz.func133,Tryz.ntmps133;go_upto_region 1 with(fail);rw[<-wD.out];go_wp2_with (first
   |(go_at_call 161;refine(AE.out _).mono ?_;rintro e w1 ⟨A1,vR,rfl,wK,vS⟩;have vV:=(vS.block _ xr).trans HE.out;have e0:w1.cell? ⟨w.heap.size,0,none⟩=some (.string path):=aa vV 0;have e1:w1.cell? ⟨w.heap.size,1,none⟩=some (.int .u8 _):=aa vV 1;have e2:w1.cell? ⟨w.heap.size,2,none⟩=some (.int .u16 (mode:Int)):=aa vV 2;have e5:w1.cell? ⟨w.heap.size,5,none⟩=some (.slice A _ c):=aa vV 5;have e6:w1.cell? ⟨w.heap.size,6,none⟩=some (.string lk):=aa vV 6;have xV:=vp vV;have vY:=vp (vU.trans (vS.mono vU.size));have wu:=vp wK;clear vV vS wK)
   |(go_at_call 162;refine(AD.out _).mono ?_;rintro e w2 ⟨rfl,rfl⟩)
   |(go_at_call 163;refine(FZ.out _ _ _ _ wu.out).mono ?_;rintro e w3 ⟨rfl,rfl⟩)
   |(go_at_call 164;refine(CY.out _).mono ?_;rintro e w4 ⟨rfl,wA⟩;have yp:=(wA.block _ (vo xV.out).1).trans xV.out;have f5:w4.cell? ⟨w.heap.size,5,none⟩=some (.slice A _ c):=aa yp 5;have xj:=vp (vY.out.trans (wA.mono vY.out.size));have yl:=vp (OwnS.kept wu.out wA);clear wA yp)
   |fail)
  all_goals
   go_ret2;exact⟨none,0,[],rfl,OwnS.nil _ _,(by first|exact xj.out|exact vY.out),(fun e=>by cases e),fun _ =>⟨rfl,rfl,rfl⟩⟩
 by_cases c2:3<K
 ·have hm:mr=1:=(by rw[we];exact if_pos (.inr (.inl c2)));subst hm;clear we;go_enter Tryz.func133,Tryz.ntmps133;go_upto_region 1 with(fail);rw[<-wD.out];go_wp2_with (first
   |(go_at_call 161;refine(AE.out _).mono ?_;rintro e w1 ⟨A1,vR,rfl,wK,vS⟩;have vV:=(vS.block _ xr).trans HE.out;have e0:w1.cell? ⟨w.heap.size,0,none⟩=some (.string path):=aa vV 0;have e1:w1.cell? ⟨w.heap.size,1,none⟩=some (.int .u8 _):=aa vV 1;have e2:w1.cell? ⟨w.heap.size,2,none⟩=some (.int .u16 (mode:Int)):=aa vV 2;have e5:w1.cell? ⟨w.heap.size,5,none⟩=some (.slice A _ c):=aa vV 5;have e6:w1.cell? ⟨w.heap.size,6,none⟩=some (.string lk):=aa vV 6;have xV:=vp vV;have vY:=vp (vU.trans (vS.mono vU.size));have wu:=vp wK;clear vV vS wK)
   |(go_at_call 162;refine(AD.out _).mono ?_;rintro e w2 ⟨rfl,rfl⟩)
   |(go_at_call 163;refine(FZ.out _ _ _ _ wu.out).mono ?_;rintro e w3 ⟨rfl,rfl⟩)
   |(go_at_call 164;refine(CY.out _).mono ?_;rintro e w4 ⟨rfl,wA⟩;have yp:=(wA.block _ (vo xV.out).1).trans xV.out;have f5:w4.cell? ⟨w.heap.size,5,none⟩=some (.slice A _ c):=aa yp 5;have xj:=vp (vY.out.trans (wA.mono vY.out.size));have yl:=vp (OwnS.kept wu.out wA);clear wA yp)
   |fail)
  all_goals
   go_ret2;exact⟨none,0,[],rfl,OwnS.nil _ _,(by first|exact xj.out|exact vY.out),(fun e=>by cases e),fun _ =>⟨rfl,rfl,rfl⟩⟩
 rcases(by cases mb<;>simp:mb=true\/mb=false)with rfl|rfl
 ·have hm:mr=1:=(by rw[we];exact if_pos (.inr (.inr rfl)));subst hm;clear we;go_enter Tryz.func133,Tryz.ntmps133;go_upto_region 1 with(fail);rw[<-wD.out];go_wp2_with (first
   |(go_at_call 161;refine(AE.out _).mono ?_;rintro e w1 ⟨A1,vR,rfl,wK,vS⟩;have vV:=(vS.block _ xr).trans HE.out;have e0:w1.cell? ⟨w.heap.size,0,none⟩=some (.string path):=aa vV 0;have e1:w1.cell? ⟨w.heap.size,1,none⟩=some (.int .u8 _):=aa vV 1;have e2:w1.cell? ⟨w.heap.size,2,none⟩=some (.int .u16 (mode:Int)):=aa vV 2;have e5:w1.cell? ⟨w.heap.size,5,none⟩=some (.slice A _ c):=aa vV 5;have e6:w1.cell? ⟨w.heap.size,6,none⟩=some (.string lk):=aa vV 6;have xV:=vp vV;have vY:=vp (vU.trans (vS.mono vU.size));have wu:=vp wK;clear vV vS wK)
   |(go_at_call 162;refine(AD.out _).mono ?_;rintro e w2 ⟨rfl,rfl⟩)
   |(go_at_call 163;refine(FZ.out _ _ _ _ wu.out).mono ?_;rintro e w3 ⟨rfl,rfl⟩)
   |(go_at_call 164;refine(CY.out _).mono ?_;rintro e w4 ⟨rfl,wA⟩;have yp:=(wA.block _ (vo xV.out).1).trans xV.out;have f5:w4.cell? ⟨w.heap.size,5,none⟩=some (.slice A _ c):=aa yp 5;have xj:=vp (vY.out.trans (wA.mono vY.out.size));have yl:=vp (OwnS.kept wu.out wA);clear wA yp)
   |fail)
  all_goals
   go_ret2;exact⟨none,0,[],rfl,OwnS.nil _ _,(by first|exact xj.out|exact vY.out),(fun e=>by cases e),fun _ =>⟨rfl,rfl,rfl⟩⟩
 have n1: ¬(K<1\/3<K\/false=true):=(by simp;omega);rw[if_neg n1]at we;clear n1;rcases(by cases pb<;>simp:pb=false\/pb=true)with rfl|rfl
 ·have hm:mr=1:=(by rw[we];exact if_pos (.inl rfl));subst hm;clear we;go_enter Tryz.func133,Tryz.ntmps133;go_upto_region 1 with(fail);rw[<-wD.out];go_wp2_with (first
   |(go_at_call 161;refine(AE.out _).mono ?_;rintro e w1 ⟨A1,vR,rfl,wK,vS⟩;have vV:=(vS.block _ xr).trans HE.out;have e0:w1.cell? ⟨w.heap.size,0,none⟩=some (.string path):=aa vV 0;have e1:w1.cell? ⟨w.heap.size,1,none⟩=some (.int .u8 _):=aa vV 1;have e2:w1.cell? ⟨w.heap.size,2,none⟩=some (.int .u16 (mode:Int)):=aa vV 2;have e5:w1.cell? ⟨w.heap.size,5,none⟩=some (.slice A _ c):=aa vV 5;have e6:w1.cell? ⟨w.heap.size,6,none⟩=some (.string lk):=aa vV 6;have xV:=vp vV;have vY:=vp (vU.trans (vS.mono vU.size));have wu:=vp wK;clear vV vS wK)
   |(go_at_call 162;refine(AD.out _).mono ?_;rintro e w2 ⟨rfl,rfl⟩)
   |(go_at_call 163;refine(FZ.out _ _ _ _ wu.out).mono ?_;rintro e w3 ⟨rfl,rfl⟩)
   |(go_at_call 164;refine(CY.out _).mono ?_;rintro e w4 ⟨rfl,wA⟩;have yp:=(wA.block _ (vo xV.out).1).trans xV.out;have f5:w4.cell? ⟨w.heap.size,5,none⟩=some (.slice A _ c):=aa yp 5;have xj:=vp (vY.out.trans (wA.mono vY.out.size));have yl:=vp (OwnS.kept wu.out wA);clear wA yp)
   |fail)
  all_goals
   go_ret2;exact⟨none,0,[],rfl,OwnS.nil _ _,(by first|exact xj.out|exact vY.out),(fun e=>by cases e),fun _ =>⟨rfl,rfl,rfl⟩⟩
 by_cases c5:k=0
 ·subst c5;have hm:mr=1:=(by rw[we];exact if_pos (.inr (.inl rfl)));subst hm;clear we;go_enter Tryz.func133,Tryz.ntmps133;go_upto_region 1 with(fail);rw[<-wD.out];go_wp2_with (first
   |(go_at_call 161;refine(AE.out _).mono ?_;rintro e w1 ⟨A1,vR,rfl,wK,vS⟩;have vV:=(vS.block _ xr).trans HE.out;have e0:w1.cell? ⟨w.heap.size,0,none⟩=some (.string path):=aa vV 0;have e1:w1.cell? ⟨w.heap.size,1,none⟩=some (.int .u8 _):=aa vV 1;have e2:w1.cell? ⟨w.heap.size,2,none⟩=some (.int .u16 (mode:Int)):=aa vV 2;have e5:w1.cell? ⟨w.heap.size,5,none⟩=some (.slice A _ c):=aa vV 5;have e6:w1.cell? ⟨w.heap.size,6,none⟩=some (.string lk):=aa vV 6;have xV:=vp vV;have vY:=vp (vU.trans (vS.mono vU.size));have wu:=vp wK;clear vV vS wK)
   |(go_at_call 162;refine(AD.out _).mono ?_;rintro e w2 ⟨rfl,rfl⟩)
   |(go_at_call 163;refine(FZ.out _ _ _ _ wu.out).mono ?_;rintro e w3 ⟨rfl,rfl⟩)
   |(go_at_call 164;refine(CY.out _).mono ?_;rintro e w4 ⟨rfl,wA⟩;have yp:=(wA.block _ (vo xV.out).1).trans xV.out;have f5:w4.cell? ⟨w.heap.size,5,none⟩=some (.slice A _ c):=aa yp 5;have xj:=vp (vY.out.trans (wA.mono vY.out.size));have yl:=vp (OwnS.kept wu.out wA);clear wA yp)
   |fail)
  all_goals
   go_ret2;exact⟨none,0,[],rfl,OwnS.nil _ _,(by first|exact xj.out|exact vY.out),(fun e=>by cases e),fun _ =>⟨rfl,rfl,rfl⟩⟩
 rcases(by cases tb<;>simp:tb=true\/tb=false)with rfl|rfl
 ·have hm:mr=1:=(by rw[we];exact if_pos (.inr (.inr (.inl rfl))));subst hm;clear we;go_enter Tryz.func133,Tryz.ntmps133;go_upto_region 1 with(fail);rw[<-wD.out];go_wp2_with (first
   |(go_at_call 161;refine(AE.out _).mono ?_;rintro e w1 ⟨A1,vR,rfl,wK,vS⟩;have vV:=(vS.block _ xr).trans HE.out;have e0:w1.cell? ⟨w.heap.size,0,none⟩=some (.string path):=aa vV 0;have e1:w1.cell? ⟨w.heap.size,1,none⟩=some (.int .u8 _):=aa vV 1;have e2:w1.cell? ⟨w.heap.size,2,none⟩=some (.int .u16 (mode:Int)):=aa vV 2;have e5:w1.cell? ⟨w.heap.size,5,none⟩=some (.slice A _ c):=aa vV 5;have e6:w1.cell? ⟨w.heap.size,6,none⟩=some (.string lk):=aa vV 6;have xV:=vp vV;have vY:=vp (vU.trans (vS.mono vU.size));have wu:=vp wK;clear vV vS wK)
   |(go_at_call 162;refine(AD.out _).mono ?_;rintro e w2 ⟨rfl,rfl⟩)
   |(go_at_call 163;refine(FZ.out _ _ _ _ wu.out).mono ?_;rintro e w3 ⟨rfl,rfl⟩)
   |(go_at_call 164;refine(CY.out _).mono ?_;rintro e w4 ⟨rfl,wA⟩;have yp:=(wA.block _ (vo xV.out).1).trans xV.out;have f5:w4.cell? ⟨w.heap.size,5,none⟩=some (.slice A _ c):=aa yp 5;have xj:=vp (vY.out.trans (wA.mono vY.out.size));have yl:=vp (OwnS.kept wu.out wA);clear wA yp)
   |fail)
  all_goals
   go_ret2;exact⟨none,0,[],rfl,OwnS.nil _ _,(by first|exact xj.out|exact vY.out),(fun e=>by cases e),fun _ =>⟨rfl,rfl,rfl⟩⟩
 rcases(by cases db<;>simp:db=true\/db=false)with rfl|rfl
 ·have hm:mr=1:=(by rw[we];exact if_pos (.inr (.inr (.inr rfl))));subst hm;clear we;go_enter Tryz.func133,Tryz.ntmps133;go_upto_region 1 with(fail);rw[<-wD.out];go_wp2_with (first
   |(go_at_call 161;refine(AE.out _).mono ?_;rintro e w1 ⟨A1,vR,rfl,wK,vS⟩;have vV:=(vS.block _ xr).trans HE.out;have e0:w1.cell? ⟨w.heap.size,0,none⟩=some (.string path):=aa vV 0;have e1:w1.cell? ⟨w.heap.size,1,none⟩=some (.int .u8 _):=aa vV 1;have e2:w1.cell? ⟨w.heap.size,2,none⟩=some (.int .u16 (mode:Int)):=aa vV 2;have e5:w1.cell? ⟨w.heap.size,5,none⟩=some (.slice A _ c):=aa vV 5;have e6:w1.cell? ⟨w.heap.size,6,none⟩=some (.string lk):=aa vV 6;have xV:=vp vV;have vY:=vp (vU.trans (vS.mono vU.size));have wu:=vp wK;clear vV vS wK)
   |(go_at_call 162;refine(AD.out _).mono ?_;rintro e w2 ⟨rfl,rfl⟩)
   |(go_at_call 163;refine(FZ.out _ _ _ _ wu.out).mono ?_;rintro e w3 ⟨rfl,rfl⟩)
   |(go_at_call 164;refine(CY.out _).mono ?_;rintro e w4 ⟨rfl,wA⟩;have yp:=(wA.block _ (vo xV.out).1).trans xV.out;have f5:w4.cell? ⟨w.heap.size,5,none⟩=some (.slice A _ c):=aa yp 5;have xj:=vp (vY.out.trans (wA.mono vY.out.size));have yl:=vp (OwnS.kept wu.out wA);clear wA yp)
   |fail)
  all_goals
   go_ret2;exact⟨none,0,[],rfl,OwnS.nil _ _,(by first|exact xj.out|exact vY.out),(fun e=>by cases e),fun _ =>⟨rfl,rfl,rfl⟩⟩
 have n2: ¬(true=false\/k=0\/false=true\/false=true):=(by simp;omega);rw[if_neg n2]at we;clear n2;rcases(by omega:K=1\/K=2\/K=3)with rfl|rfl|rfl
 ·by_cases c8:lk.size=0
  rotate_left
  ·have t0:=ln c8;have hm:mr=1:=(by rw[we];exact if_pos (.inr ⟨by decide,c8⟩));subst hm;clear we;go_enter Tryz.func133,Tryz.ntmps133;go_upto_region 1 with(fail);rw[<-wD.out];go_wp2_with (first
    |(go_at_call 161;refine(AE.out _).mono ?_;rintro e w1 ⟨A1,vR,rfl,wK,vS⟩;have vV:=(vS.block _ xr).trans HE.out;have e0:w1.cell? ⟨w.heap.size,0,none⟩=some (.string path):=aa vV 0;have e1:w1.cell? ⟨w.heap.size,1,none⟩=some (.int .u8 _):=aa vV 1;have e2:w1.cell? ⟨w.heap.size,2,none⟩=some (.int .u16 (mode:Int)):=aa vV 2;have e5:w1.cell? ⟨w.heap.size,5,none⟩=some (.slice A _ c):=aa vV 5;have e6:w1.cell? ⟨w.heap.size,6,none⟩=some (.string lk):=aa vV 6;have xV:=vp vV;have vY:=vp (vU.trans (vS.mono vU.size));have wu:=vp wK;clear vV vS wK)
    |(go_at_call 162;refine(AD.out _).mono ?_;rintro e w2 ⟨rfl,rfl⟩)
    |(go_at_call 163;refine(FZ.out _ _ _ _ wu.out).mono ?_;rintro e w3 ⟨rfl,rfl⟩)
    |(go_at_call 164;refine(CY.out _).mono ?_;rintro e w4 ⟨rfl,wA⟩;have yp:=(wA.block _ (vo xV.out).1).trans xV.out;have f5:w4.cell? ⟨w.heap.size,5,none⟩=some (.slice A _ c):=aa yp 5;have xj:=vp (vY.out.trans (wA.mono vY.out.size));have yl:=vp (OwnS.kept wu.out wA);clear wA yp)
    |fail)
   all_goals
    go_ret2;exact⟨none,0,[],rfl,OwnS.nil _ _,(by first|exact xj.out|exact vY.out),(fun e=>by cases e),fun _ =>⟨rfl,rfl,rfl⟩⟩
  have t0:=iW c8;have n3: ¬(((1:Int)≠1/\0<n)\/((1:Int)≠3/\lk.size≠0)):=(by omega);rw[if_neg n3,if_neg (by omega)]at we;clear n3;by_cases c9:65536<n
  ·have hm:mr=12:=(by rw[we];exact if_pos c9);subst hm;clear we;go_enter Tryz.func133,Tryz.ntmps133;go_upto_region 1 with(fail);rw[<-wD.out];go_wp2_with (first
    |(go_at_call 161;refine(AE.out _).mono ?_;rintro e w1 ⟨A1,vR,rfl,wK,vS⟩;have vV:=(vS.block _ xr).trans HE.out;have e0:w1.cell? ⟨w.heap.size,0,none⟩=some (.string path):=aa vV 0;have e1:w1.cell? ⟨w.heap.size,1,none⟩=some (.int .u8 _):=aa vV 1;have e2:w1.cell? ⟨w.heap.size,2,none⟩=some (.int .u16 (mode:Int)):=aa vV 2;have e5:w1.cell? ⟨w.heap.size,5,none⟩=some (.slice A _ c):=aa vV 5;have e6:w1.cell? ⟨w.heap.size,6,none⟩=some (.string lk):=aa vV 6;have xV:=vp vV;have vY:=vp (vU.trans (vS.mono vU.size));have wu:=vp wK;clear vV vS wK)
    |(go_at_call 162;refine(AD.out _).mono ?_;rintro e w2 ⟨rfl,rfl⟩)
    |(go_at_call 163;refine(FZ.out _ _ _ _ wu.out).mono ?_;rintro e w3 ⟨rfl,rfl⟩)
    |(go_at_call 164;refine(CY.out _).mono ?_;rintro e w4 ⟨rfl,wA⟩;have yp:=(wA.block _ (vo xV.out).1).trans xV.out;have f5:w4.cell? ⟨w.heap.size,5,none⟩=some (.slice A _ c):=aa yp 5;have xj:=vp (vY.out.trans (wA.mono vY.out.size));have yl:=vp (OwnS.kept wu.out wA);clear wA yp)
    |fail)
   all_goals
    go_ret2;exact⟨none,0,[],rfl,OwnS.nil _ _,(by first|exact xj.out|exact vY.out),(fun e=>by cases e),fun _ =>⟨rfl,rfl,rfl⟩⟩
  have hm:mr=0:=(by rw[we];exact if_neg c9);subst hm;clear we;go_enter Tryz.func133,Tryz.ntmps133;go_upto_region 1 with(fail);rw[<-wD.out];go_wp2_with (first
   |(go_at_call 161;refine(AE.out _).mono ?_;rintro e w1 ⟨A1,vR,rfl,wK,vS⟩;have vV:=(vS.block _ xr).trans HE.out;have e0:w1.cell? ⟨w.heap.size,0,none⟩=some (.string path):=aa vV 0;have e1:w1.cell? ⟨w.heap.size,1,none⟩=some (.int .u8 _):=aa vV 1;have e2:w1.cell? ⟨w.heap.size,2,none⟩=some (.int .u16 (mode:Int)):=aa vV 2;have e5:w1.cell? ⟨w.heap.size,5,none⟩=some (.slice A _ c):=aa vV 5;have e6:w1.cell? ⟨w.heap.size,6,none⟩=some (.string lk):=aa vV 6;have xV:=vp vV;have vY:=vp (vU.trans (vS.mono vU.size));have wu:=vp wK;clear vV vS wK)
   |(go_at_call 162;refine(AD.out _).mono ?_;rintro e w2 ⟨rfl,rfl⟩)
   |(go_at_call 163;refine(FZ.out _ _ _ _ wu.out).mono ?_;rintro e w3 ⟨rfl,rfl⟩)
   |(go_at_call 164;refine(CY.out _).mono ?_;rintro e w4 ⟨rfl,wA⟩;have yp:=(wA.block _ (vo xV.out).1).trans xV.out;have f5:w4.cell? ⟨w.heap.size,5,none⟩=some (.slice A _ c):=aa yp 5;have xj:=vp (vY.out.trans (wA.mono vY.out.size));have yl:=vp (OwnS.kept wu.out wA);clear wA yp)
   |fail)
  all_goals
   go_ret2;exact⟨A1,vR,L,HK.out▸rfl,(by first|exact OwnS.lower yl.out vU.size|exact OwnS.lower wu.out vU.size),(by first|exact xj.out|exact vY.out),(fun _ =>rfl),fun e=>absurd rfl e⟩
 ·by_cases c8:0<n
  ·have hm:mr=1:=(by rw[we];exact if_pos (.inl ⟨by decide,c8⟩));subst hm;clear we;go_enter Tryz.func133,Tryz.ntmps133;go_upto_region 1 with(fail);rw[<-wD.out];go_wp2_with (first
    |(go_at_call 161;refine(AE.out _).mono ?_;rintro e w1 ⟨A1,vR,rfl,wK,vS⟩;have vV:=(vS.block _ xr).trans HE.out;have e0:w1.cell? ⟨w.heap.size,0,none⟩=some (.string path):=aa vV 0;have e1:w1.cell? ⟨w.heap.size,1,none⟩=some (.int .u8 _):=aa vV 1;have e2:w1.cell? ⟨w.heap.size,2,none⟩=some (.int .u16 (mode:Int)):=aa vV 2;have e5:w1.cell? ⟨w.heap.size,5,none⟩=some (.slice A _ c):=aa vV 5;have e6:w1.cell? ⟨w.heap.size,6,none⟩=some (.string lk):=aa vV 6;have xV:=vp vV;have vY:=vp (vU.trans (vS.mono vU.size));have wu:=vp wK;clear vV vS wK)
    |(go_at_call 162;refine(AD.out _).mono ?_;rintro e w2 ⟨rfl,rfl⟩)
    |(go_at_call 163;refine(FZ.out _ _ _ _ wu.out).mono ?_;rintro e w3 ⟨rfl,rfl⟩)
    |(go_at_call 164;refine(CY.out _).mono ?_;rintro e w4 ⟨rfl,wA⟩;have yp:=(wA.block _ (vo xV.out).1).trans xV.out;have f5:w4.cell? ⟨w.heap.size,5,none⟩=some (.slice A _ c):=aa yp 5;have xj:=vp (vY.out.trans (wA.mono vY.out.size));have yl:=vp (OwnS.kept wu.out wA);clear wA yp)
    |fail)
   all_goals
    go_ret2;exact⟨none,0,[],rfl,OwnS.nil _ _,(by first|exact xj.out|exact vY.out),(fun e=>by cases e),fun _ =>⟨rfl,rfl,rfl⟩⟩
  by_cases c9:lk.size=0
  rotate_left
  ·have t0:=ln c9;have hm:mr=1:=(by rw[we];exact if_pos (.inr ⟨by decide,c9⟩));subst hm;clear we;go_enter Tryz.func133,Tryz.ntmps133;go_upto_region 1 with(fail);rw[<-wD.out];go_wp2_with (first
    |(go_at_call 161;refine(AE.out _).mono ?_;rintro e w1 ⟨A1,vR,rfl,wK,vS⟩;have vV:=(vS.block _ xr).trans HE.out;have e0:w1.cell? ⟨w.heap.size,0,none⟩=some (.string path):=aa vV 0;have e1:w1.cell? ⟨w.heap.size,1,none⟩=some (.int .u8 _):=aa vV 1;have e2:w1.cell? ⟨w.heap.size,2,none⟩=some (.int .u16 (mode:Int)):=aa vV 2;have e5:w1.cell? ⟨w.heap.size,5,none⟩=some (.slice A _ c):=aa vV 5;have e6:w1.cell? ⟨w.heap.size,6,none⟩=some (.string lk):=aa vV 6;have xV:=vp vV;have vY:=vp (vU.trans (vS.mono vU.size));have wu:=vp wK;clear vV vS wK)
    |(go_at_call 162;refine(AD.out _).mono ?_;rintro e w2 ⟨rfl,rfl⟩)
    |(go_at_call 163;refine(FZ.out _ _ _ _ wu.out).mono ?_;rintro e w3 ⟨rfl,rfl⟩)
    |(go_at_call 164;refine(CY.out _).mono ?_;rintro e w4 ⟨rfl,wA⟩;have yp:=(wA.block _ (vo xV.out).1).trans xV.out;have f5:w4.cell? ⟨w.heap.size,5,none⟩=some (.slice A _ c):=aa yp 5;have xj:=vp (vY.out.trans (wA.mono vY.out.size));have yl:=vp (OwnS.kept wu.out wA);clear wA yp)
    |fail)
   all_goals
    go_ret2;exact⟨none,0,[],rfl,OwnS.nil _ _,(by first|exact xj.out|exact vY.out),(fun e=>by cases e),fun _ =>⟨rfl,rfl,rfl⟩⟩
  have t0:=iW c9;obtain rfl:n=0:=(by omega);have n3: ¬(((2:Int)≠1/\0<0)\/((2:Int)≠3/\lk.size≠0)):=(by omega);rw[if_neg n3,if_neg (by omega)]at we;clear n3;have hm:mr=0:=(by rw[we];exact if_neg (by omega));subst hm;clear we;go_enter Tryz.func133,Tryz.ntmps133;go_upto_region 1 with(fail);rw[<-wD.out];go_wp2_with (first
   |(go_at_call 161;refine(AE.out _).mono ?_;rintro e w1 ⟨A1,vR,rfl,wK,vS⟩;have vV:=(vS.block _ xr).trans HE.out;have e0:w1.cell? ⟨w.heap.size,0,none⟩=some (.string path):=aa vV 0;have e1:w1.cell? ⟨w.heap.size,1,none⟩=some (.int .u8 _):=aa vV 1;have e2:w1.cell? ⟨w.heap.size,2,none⟩=some (.int .u16 (mode:Int)):=aa vV 2;have e5:w1.cell? ⟨w.heap.size,5,none⟩=some (.slice A _ c):=aa vV 5;have e6:w1.cell? ⟨w.heap.size,6,none⟩=some (.string lk):=aa vV 6;have xV:=vp vV;have vY:=vp (vU.trans (vS.mono vU.size));have wu:=vp wK;clear vV vS wK)
   |(go_at_call 162;refine(AD.out _).mono ?_;rintro e w2 ⟨rfl,rfl⟩)
   |(go_at_call 163;refine(FZ.out _ _ _ _ wu.out).mono ?_;rintro e w3 ⟨rfl,rfl⟩)
   |(go_at_call 164;refine(CY.out _).mono ?_;rintro e w4 ⟨rfl,wA⟩;have yp:=(wA.block _ (vo xV.out).1).trans xV.out;have f5:w4.cell? ⟨w.heap.size,5,none⟩=some (.slice A _ c):=aa yp 5;have xj:=vp (vY.out.trans (wA.mono vY.out.size));have yl:=vp (OwnS.kept wu.out wA);clear wA yp)
   |fail)
  all_goals
   go_ret2;exact⟨A1,vR,L,HK.out▸rfl,(by first|exact OwnS.lower yl.out vU.size|exact OwnS.lower wu.out vU.size),(by first|exact xj.out|exact vY.out),(fun _ =>rfl),fun e=>absurd rfl e⟩
 ·by_cases c8:0<n
  ·have hm:mr=1:=(by rw[we];exact if_pos (.inl ⟨by decide,c8⟩));subst hm;clear we;go_enter Tryz.func133,Tryz.ntmps133;go_upto_region 1 with(fail);rw[<-wD.out];go_wp2_with (first
    |(go_at_call 161;refine(AE.out _).mono ?_;rintro e w1 ⟨A1,vR,rfl,wK,vS⟩;have vV:=(vS.block _ xr).trans HE.out;have e0:w1.cell? ⟨w.heap.size,0,none⟩=some (.string path):=aa vV 0;have e1:w1.cell? ⟨w.heap.size,1,none⟩=some (.int .u8 _):=aa vV 1;have e2:w1.cell? ⟨w.heap.size,2,none⟩=some (.int .u16 (mode:Int)):=aa vV 2;have e5:w1.cell? ⟨w.heap.size,5,none⟩=some (.slice A _ c):=aa vV 5;have e6:w1.cell? ⟨w.heap.size,6,none⟩=some (.string lk):=aa vV 6;have xV:=vp vV;have vY:=vp (vU.trans (vS.mono vU.size));have wu:=vp wK;clear vV vS wK)
    |(go_at_call 162;refine(AD.out _).mono ?_;rintro e w2 ⟨rfl,rfl⟩)
    |(go_at_call 163;refine(FZ.out _ _ _ _ wu.out).mono ?_;rintro e w3 ⟨rfl,rfl⟩)
    |(go_at_call 164;refine(CY.out _).mono ?_;rintro e w4 ⟨rfl,wA⟩;have yp:=(wA.block _ (vo xV.out).1).trans xV.out;have f5:w4.cell? ⟨w.heap.size,5,none⟩=some (.slice A _ c):=aa yp 5;have xj:=vp (vY.out.trans (wA.mono vY.out.size));have yl:=vp (OwnS.kept wu.out wA);clear wA yp)
    |fail)
   all_goals
    go_ret2;exact⟨none,0,[],rfl,OwnS.nil _ _,(by first|exact xj.out|exact vY.out),(fun e=>by cases e),fun _ =>⟨rfl,rfl,rfl⟩⟩
  obtain rfl:n=0:=(by omega);have n3: ¬(((3:Int)≠1/\0<0)\/((3:Int)≠3/\lk.size≠0)):=(by omega);rw[if_neg n3]at we;clear n3;by_cases c9:ct=0
  rotate_left
  ·have Iw:(ct != 0)=true:=(by rw[bne_iff_ne];exact c9);have hm:mr=1:=(by rw[we];exact if_pos ⟨rfl,c9⟩);subst hm;clear we;go_enter Tryz.func133,Tryz.ntmps133;go_upto_region 1 with(fail);rw[<-wD.out];go_wp2_with (first
    |(go_at_call 161;refine(AE.out _).mono ?_;rintro e w1 ⟨A1,vR,rfl,wK,vS⟩;have vV:=(vS.block _ xr).trans HE.out;have e0:w1.cell? ⟨w.heap.size,0,none⟩=some (.string path):=aa vV 0;have e1:w1.cell? ⟨w.heap.size,1,none⟩=some (.int .u8 _):=aa vV 1;have e2:w1.cell? ⟨w.heap.size,2,none⟩=some (.int .u16 (mode:Int)):=aa vV 2;have e5:w1.cell? ⟨w.heap.size,5,none⟩=some (.slice A _ c):=aa vV 5;have e6:w1.cell? ⟨w.heap.size,6,none⟩=some (.string lk):=aa vV 6;have xV:=vp vV;have vY:=vp (vU.trans (vS.mono vU.size));have wu:=vp wK;clear vV vS wK)
    |(go_at_call 162;refine(AD.out _).mono ?_;rintro e w2 ⟨rfl,rfl⟩)
    |(go_at_call 163;refine(FZ.out _ _ _ _ wu.out).mono ?_;rintro e w3 ⟨rfl,rfl⟩)
    |(go_at_call 164;refine(CY.out _).mono ?_;rintro e w4 ⟨rfl,wA⟩;have yp:=(wA.block _ (vo xV.out).1).trans xV.out;have f5:w4.cell? ⟨w.heap.size,5,none⟩=some (.slice A _ c):=aa yp 5;have xj:=vp (vY.out.trans (wA.mono vY.out.size));have yl:=vp (OwnS.kept wu.out wA);clear wA yp)
    |fail)
   all_goals
    go_ret2;exact⟨none,0,[],rfl,OwnS.nil _ _,(by first|exact xj.out|exact vY.out),(fun e=>by cases e),fun _ =>⟨rfl,rfl,rfl⟩⟩
  subst c9;rw[if_neg (by omega)]at we;have hm:mr=0:=(by rw[we];exact if_neg (by omega));subst hm;clear we;go_enter Tryz.func133,Tryz.ntmps133;go_upto_region 1 with(fail);rw[<-wD.out];go_wp2_with (first
   |(go_at_call 161;refine(AE.out _).mono ?_;rintro e w1 ⟨A1,vR,rfl,wK,vS⟩;have vV:=(vS.block _ xr).trans HE.out;have e0:w1.cell? ⟨w.heap.size,0,none⟩=some (.string path):=aa vV 0;have e1:w1.cell? ⟨w.heap.size,1,none⟩=some (.int .u8 _):=aa vV 1;have e2:w1.cell? ⟨w.heap.size,2,none⟩=some (.int .u16 (mode:Int)):=aa vV 2;have e5:w1.cell? ⟨w.heap.size,5,none⟩=some (.slice A _ c):=aa vV 5;have e6:w1.cell? ⟨w.heap.size,6,none⟩=some (.string lk):=aa vV 6;have xV:=vp vV;have vY:=vp (vU.trans (vS.mono vU.size));have wu:=vp wK;clear vV vS wK)
   |(go_at_call 162;refine(AD.out _).mono ?_;rintro e w2 ⟨rfl,rfl⟩)
   |(go_at_call 163;refine(FZ.out _ _ _ _ wu.out).mono ?_;rintro e w3 ⟨rfl,rfl⟩)
   |(go_at_call 164;refine(CY.out _).mono ?_;rintro e w4 ⟨rfl,wA⟩;have yp:=(wA.block _ (vo xV.out).1).trans xV.out;have f5:w4.cell? ⟨w.heap.size,5,none⟩=some (.slice A _ c):=aa yp 5;have xj:=vp (vY.out.trans (wA.mono vY.out.size));have yl:=vp (OwnS.kept wu.out wA);clear wA yp)
   |fail)
  all_goals
   go_ret2;exact⟨A1,vR,L,HK.out▸rfl,(by first|exact OwnS.lower yl.out vU.size|exact OwnS.lower wu.out vU.size),(by first|exact xj.out|exact vY.out),(fun _ =>rfl),fun e=>absurd rfl e⟩
end
section
open Go.RowKit Go.Sort
theorem jw:Tryz.prog.underlying 9=some .string:=by kernel_rfl
theorem rZ (v:Value) (w:World):(Instr.typeAssert (.iface 163 v) 189 163 true).run Tryz.prog w= .ok (.tuple #[v, .bool true]) w:=by kernel_rfl
theorem ph (v:Value) (w:World):(Instr.typeAssert (.iface 225 v) 189 225 true).run Tryz.prog w= .ok (.tuple #[v, .bool true]) w:=by kernel_rfl
end
section
open Go.RowKit Go.Sort
theorem tI:(Tryz.prog.info? 189).map (fun i=>(i.zero,i.size,i.bytes))=some (some .nilIface,1,16):=by kernel_rfl
theorem app_node {w:World} {ops:Array Oper} {rest:List Oper} {o:Oper} {a:Act} {Q:Exit->Act->World->Prop} (yB:o.guard=none) (s x:Operand)
  (ho:o.op= .call { callee:= .builtin .append,args:= #[s,x],argTypes:= #[169,169]})
  (A:Option Addr) (cap:Nat) (l:List Value) (hs:a.eval s= .slice A l.length cap) (wh:w.ownsRow 0 189 1 (.slice A l.length cap) l.length l)
  (t:Value) (ht:t.oneCell'=true) (b c:Nat) (hx:a.eval x= .slice (some ⟨b,0,none⟩) 1 c) (hb:w.heap[b]? =some (.cells #[t] 189 (0,0)))
  (wC:l.length<1000000)
  (h: ∀g vP w',w'.ownsRow 0 189 1 (.slice (some ⟨g,0,none⟩) (l.length+1) vP) (l.length+1) (l++[t])->w.grownBy w' (A.map (·.block))->(A.map (·.block)=some g\/g=w.heap.size)->g<w'.heap.size->wpList Tryz.prog ops Q rest (a.put o.dst (.slice (some ⟨g,0,none⟩) (l.length+1) vP)) w'):
  wpList Tryz.prog ops Q (o::rest) a w:=by
 obtain⟨i0,yj,wM,wF,wL⟩:=info_parts tI;refine wpList_append_lies w yB s x 169 ho 0 189 i0 _ 1 16 Tryz.underlying169 yj wM wF wL rfl (by omega) _ l.length l hs wh ⟨b,0,none⟩ 1 c [t] hx rfl (World.news_of_block (cs:= #[t]) hb)
  (by simpa using ht) (by omega) (by unfold maxLen;omega) (by omega) (vL _) w.heap.size rfl ?_
 intro g vP w' xU hg xi vW;refine h g vP w' xU ?_ ?_ vW
 ·cases A<;>simpa [Value.ownBlock]using hg
 ·cases A<;>simpa [Value.ownBlock]using xi
end
section
open Go.RowKit Go.Sort
end
section
open Go.RowKit Go.Sort
end
section
open Go.RowKit Go.Sort Go.ChangeMaps Go.MapKept
theorem sK {a b:ByteArray} (h:Value.string a=Value.string b):a=b:=by
 injection h
def bF (w:World) (m:Nat) (l:List (ByteArray×Nat)) (V:Nat->Value):Prop:=
 ∃es wW,w.heap[m]? =some (.map es wW)/\Stamped es wW/\es.toList.map (fun e=>(e.key,e.val))=l.map fun x=>(Value.string x.1,V x.2)
variable {w:World} {m:Nat} {l:List (ByteArray×Nat)} {V:Nat->Value}
theorem bF.same {w':World} (h:bF w m l V) (hb:w'.heap[m]? =w.heap[m]?):bF w' m l V:=by
 obtain⟨es,wW,h1,h2,h3⟩:=h;exact⟨es,wW,hb.trans h1,h2,h3⟩
theorem bF.lt (h:bF w m l V):m<w.heap.size:=by
 obtain⟨es,wW,h1,_⟩:=h;exact(vo h1).1
theorem bF.congr {V':Nat->Value} (h:bF w m l V) (hV: ∀x∈l,V' x.2=V x.2):bF w m l V':=by
 obtain⟨es,wW,h1,h2,h3⟩:=h;refine⟨es,wW,h1,h2,h3.trans (List.map_congr_left fun x hx=>?_)⟩;rw[hV x hx]
variable {es:Array MapEntry}
theorem ip (h:es.toList.map (fun e=>(e.key,e.val))=l.map fun x=>(Value.string x.1,V x.2)): ∀e∈es.toList,∃x∈l,e.key= .string x.1/\e.val=V x.2:=fun e he=>by
 have h1:(e.key,e.val)∈l.map fun x=>(Value.string x.1,V x.2):=(by rw[<-h];exact List.mem_map.2 ⟨e,he,rfl⟩);obtain⟨x,hx,h2⟩:=List.mem_map.1 h1;exact⟨x,hx,(congrArg Prod.fst h2).symm,(congrArg Prod.snd h2).symm⟩
theorem jP (h:es.toList.map (fun e=>(e.key,e.val))=l.map fun x=>(Value.string x.1,V x.2)): ∀e∈es.toList,MapKept.IsKey .string e.key:=fun e he=>by
 obtain⟨x,_,h1,_⟩:=ip h e he;rw[h1];trivial
theorem ro (hn:(es.toList.map (·.key)).Nodup) (h:es.toList.map (fun e=>(e.key,e.val))=l.map fun x=>(Value.string x.1,V x.2)):(l.map (·.1)).Nodup:=by
 have e1:es.toList.map (·.key)=l.map fun x=>Value.string x.1:=by
  have:=congrArg (List.map Prod.fst) h;simpa [Function.comp_def]using this
 rw[e1,List.Nodup,List.pairwise_map]at hn;rw[List.Nodup,List.pairwise_map];exact hn.imp fun wg e=>wg (by rw[e])
theorem tL (hn:(l.map (·.1)).Nodup) {x:ByteArray×Nat} (hx:x∈l):cS l x.1=some x.2:=by
 unfold cS
 induction l with
 |nil=>cases hx
 |cons y l ih=>
  have h1:=List.nodup_cons.1 hn;rcases List.mem_cons.1 hx with rfl|h2
  ·rw[List.find?_cons_of_pos (by simp)];rfl
  ·rw[List.find?_cons_of_neg (by
    intro e;have e1:y.1=x.1:=(by simpa using e);have e2:x.1∈l.map (·.1):=List.mem_map.2 ⟨x,h2,rfl⟩;rw[<-e1]at e2;exact h1.1 e2)]
   exact ih h1.2 h2
theorem bF.look (h:bF w m l V) (s:ByteArray):
  (Instr.lookup 166 (.map (some m)) (.string s) true).run Tryz.prog w= .ok (match cS l s with|some j=> .tuple #[V j, .bool true]|none=> .tuple #[.nilIface, .bool false]) w:=by
 obtain⟨es,wW,h1,h2,h3⟩:=h;have hc: ∀b,(Instr.checkKey b 10000 9 (.string s)).run Tryz.prog w= .ok () w:=fun b=>MapKept.run_checkKey (k:= .string s) jw (by simp[MapKept.IsKey]) b 9999;have hz:(zeroValue 189).run Tryz.prog w= .ok .nilIface w:=(by kernel_rfl);rcases MapKept.findNow_spec (d:= .string) (k:= .string s) trivial es.toList 0 (jP h3)with⟨f1,f2⟩|⟨j,e,f1,f2,f3⟩
 ·have wE:cS l s=none:=by
   cases hc:cS l s with
   |none=>rfl
   |some i=>
    exfalso;have hm:(Value.string s,V i)∈es.toList.map (fun e=>(e.key,e.val)):=(by rw[h3];exact List.mem_map.2 ⟨_,eh hc,rfl⟩);obtain⟨e,he,h4⟩:=List.mem_map.1 hm;exact f2 e he (congrArg Prod.fst h4)
  rw[wE];simp[Instr.lookup,run_underlying Tryz.underlying166,MapKept.run_getObj_map h1,hc,MapKept.run_findKey jw f1,hz,Result.andThen]
 ·obtain⟨x,hx,k1,k2⟩:=ip h3 e (vA f2);have k1:=sK (f3.symm.trans k1);have hy:cS l s=some x.2:=(by rw[k1];exact tL (ro h2.2.2 h3) hx);rw[hy];rw[k2]at f1;clear k1 k2 hy h3 hx f2 f3;rw[Nat.zero_add]at f1;show _ =Result.ok (Value.tuple #[V x.2, .bool true]) w;generalize V x.2=v at f1⊢;simp[Instr.lookup,run_underlying Tryz.underlying166,MapKept.run_getObj_map h1,hc,MapKept.run_findKey jw f1,Result.andThen]
theorem bF.put (h:bF w m l V) (s:ByteArray) (j:Nat) (wE: ∀y∈l,y.1≠s):
  ∃w',(Instr.mapUpdate 166 (.map (some m)) (.string s) (V j)).run Tryz.prog w= .ok () w'/\bF w' m (l++[(s,j)]) V/\Mod (fun b=>b=m) w w'/\w'.heap.size=w.heap.size:=by
 obtain⟨es,wW,h1,h2,h3⟩:=h;have hc:(Instr.checkKey false 10000 9 (.string s)).run Tryz.prog w= .ok () w:=MapKept.run_checkKey (k:= .string s) jw (by simp[MapKept.IsKey]) false 9999;have wg: ∀e∈es.toList,e.key≠ .string s:=fun e he e2=>by
  obtain⟨x,hx,k1,_⟩:=ip h3 e he;exact wE x hx (sK (k1.symm.trans e2))
 rcases MapKept.findNow_spec (d:= .string) (k:= .string s) trivial es.toList 0 (jP h3)with⟨f1,f2⟩|⟨j',e,f1,f2,f3⟩
 ·refine⟨setBlock w m (.map (es.push ⟨.string s,V j,wW⟩) (wW+1)),?_,⟨_,_,heap_setBlock_same h1 _,MapKept.stamped_push h2 wg,?_⟩,eY,eA⟩
  ·simp[Instr.mapUpdate,run_underlying Tryz.underlying166,MapKept.run_getObj_map h1,hc,MapKept.run_findKey jw f1,MapKept.run_setObj_map _ h1,Result.andThen,setBlock]
  ·rw[Array.toList_push,List.map_append,List.map_append,h3];rfl
 ·exact absurd f3 (wg e (vA f2))
def tyOf (k:Nat):TypeId:=if k=2 then 163 else if k=1 then 225 else 228
def aX (k a:Nat):Value:= .iface (tyOf k) (.pointer (some ⟨a,0,none⟩))
def eJ (A:Option Addr) (n c:Nat):Prop:=A=none->n=0/\c=0
def eR (w:World) (a i m u:Nat) (y:Nd):Prop:=
 ∃T tail,w.heap[a]? =some (.cells #[.int .u8 (y.kind:Int), .int .u16 (y.mode:Int), .int .u32 (y.uid:Int), .int .u32 (y.gid:Int), .int .i64 (y.n:Int), .int .i64 (i:Int), .pointer (some ⟨u,0,none⟩), .string y.name,tail] T (0,0))/\
  (y.kind=2->T=168/\tail= .map (some m))/\
  (y.kind=1->T=227/\ ∃A cd,tail= .slice A y.n cd/\av w A y.n y.dat/\(∀x,A=some x-> ∃g cs f,x=⟨g,0,none⟩/\w.heap[g]? =some (.cells cs 5 f))/\y.n<=cd/\eJ A y.n cd)/\
  (y.kind=3->T=230/\tail= .string y.to)
structure FsIs (w:World) (B fs nb c2:Nat) (ad mp:Nat->Nat) (F:List Nd):Prop where
 ok:FOk F
 self:w.heap[fs]? =some (.cells #[.slice (some ⟨nb,0,none⟩) F.length c2] 171 (0,0))
 row:w.ownsRow 0 189 1 (.slice (some ⟨nb,0,none⟩) F.length c2) F.length ((List.range F.length).map fun i=>aX (ak F i) (ad i))
 node: ∀(i:Nat) (y:Nd),F[i]? =some y->eR w (ad i) i (mp i) (ad y.up) y
 names: ∀i,ak F i=2->bF w (mp i) (aG F i) (fun j=>aX (ak F j) (ad j))
 sole: ∀i j,ak F i=2->ak F j=2->mp i=mp j->i=j
 base:B<=fs/\B<=nb/\(∀i,i<F.length->B<=ad i)/\ ∀i,ak F i=2->B<=mp i
variable {F:List Nd} {i:Nat}
theorem ei {k:Nat} (h:ak F i=k) (hk:k≠0):i<F.length:=by
 unfold ak at h;cases hf:F[i]? with
 |none=>rw[hf]at h;exact absurd h.symm hk
 |some y=>exact(List.getElem?_eq_some_iff.1 hf).1
theorem kS (h:i<F.length): ∃y,F[i]? =some y/\ak F i=y.kind:=⟨F[i],vv h,by unfold ak;rw[vv h]⟩
variable {B fs nb c2:Nat} {ad mp:Nat->Nat}
theorem FsIs.cell (h:FsIs w B fs nb c2 ad mp F) (hi:i<F.length):w.cell? ⟨nb,i,none⟩=some (aX (ak F i) (ad i)):=by
 rw[World.ownsRow.cellAt h.row i (by omega)];simp[hi]
theorem FsIs.mapCell (h:FsIs w B fs nb c2 ad mp F) (hk:ak F i=2):w.cell? ⟨ad i,8,none⟩=some (.map (some (mp i))):=by
 obtain⟨y,hy,hky⟩:=kS (ei hk (by omega));obtain⟨T,tail,hb,h2,_⟩:=h.node i y hy;rw[(h2 (hky▸hk)).2]at hb;exact aa hb 8
theorem uM (v:Value) (w:World):(Instr.typeAssert (.iface 225 v) 189 163 true).run Tryz.prog w= .ok (.tuple #[.pointer none, .bool false]) w:=by kernel_rfl
theorem uL (v:Value) (w:World):(Instr.typeAssert (.iface 228 v) 189 163 true).run Tryz.prog w= .ok (.tuple #[.pointer none, .bool false]) w:=by kernel_rfl
theorem gm (k a:Nat) (w:World):(Instr.typeAssert (aX k a) 189 163 true).run Tryz.prog w= .ok (.tuple #[if k=2 then .pointer (some ⟨a,0,none⟩)else .pointer none, .bool (decide (k=2))]) w:=by
 unfold aX tyOf;by_cases h2:k=2
 ·subst h2;exact rZ _ w
 ·rw[if_neg h2,if_neg h2,vF h2];by_cases h1:k=1
  ·subst h1;exact uM _ w
  ·rw[if_neg h1];exact uL _ w
def atV (F:List Nd) (ad:Nat->Nat) (o:Option Nat):Value:=match o with|some j=>aX (ak F j) (ad j)|none=> .nilIface
def uX (w:World) (A:Option Addr) (l:List ByteArray):Prop:= ∀(j:Nat) (x:ByteArray),l[j]? =some x-> ∃g,A=some ⟨g,0,none⟩/\w.cell? ⟨g,j,none⟩=some (.string x)
theorem eW (B fs nb c2 n cap:Nat) (ad mp:Nat->Nat) (F:List Nd) (A:Option Addr) (l:List ByteArray) (w:World) (h:FsIs w B fs nb c2 ad mp F) (hl:uX w A l) (hn:n=l.length) (xn:n<=cap) (wC:n<=1000000) (hF:F.length<=1000000):
  Calls Tryz.prog 134 #[.pointer (some ⟨fs,0,none⟩), .slice A n cap] w fun e w'=>e= .returned (atV F ad (atM F 0 l))/\w'=w:=by
 have wJ:=h.ok.pos;have c0:w.cell? ⟨fs,0,none⟩=some (.slice (some ⟨nb,0,none⟩) F.length c2):=aa h.self 0;have c1:w.cell? ⟨nb,0,none⟩=some (aX (ak F 0) (ad 0)):=h.cell wJ;obtain⟨v0,Yn⟩: ∃v0,v0=aX (ak F 0) (ad 0):=⟨_,rfl⟩;rw[<-Yn]at c1;obtain⟨N,hN⟩: ∃N,N=F.length:=⟨_,rfl⟩;rw[<-hN]at c0;have hpos':(0:Int)<(N:Int):=(by omega);obtain⟨res,wi⟩: ∃res,res=atV F ad (atM F 0 l):=⟨_,rfl⟩;rw[<-wi];have wP:=vp wi;have HV0:=vp Yn;have HH:=vp h;have HL:=vp hl;have HN:=vp hn;have Oz:=vp hN;clear h hl hn Yn hN wJ wi;go_enter Tryz.func134,Tryz.ntmps134;go_wp2_with fail;go_loop [5,18] (fun v i=> ∃k x,k<=n/\x<F.length/\i= .int .i64 ((k:Nat):Int)/\v=aX (ak F x) (ad x)/\atM F x (l.drop k)=atM F 0 l) (fun _ i=>n-(intOf i).toNat)
 case atStart=>exact⟨0,0,by omega,by rw[<-Oz.out];omega,rfl,HV0.out,rfl⟩
 case round=>
  obtain⟨k,x,hk,hx,rfl,rfl,xi⟩:=hrel;have EM:=vp xi
  clear xi
  by_cases vW:k<n
  ·obtain⟨s,hs⟩: ∃s,l[k]? =some s:=⟨_,vv (by rw[<-HN.out];exact vW)⟩;obtain⟨g,rfl,hc⟩:=HL.out k s hs;have xM:l.drop k=s::l.drop (k+1):=List.drop_eq_getElem_cons (by rw[<-HN.out];exact vW) |>.trans (by
    obtain⟨h1,h2⟩:=List.getElem?_eq_some_iff.1 hs;rw[h2])
   have GQ:=vp xM;have zT:=gm (ak F x) (ad x) w;by_cases hd:ak F x=2
   ·rw[if_pos hd,vG hd]at zT;have hm:=HH.out.mapCell hd;have zY:=(HH.out.names x hd).look s;obtain⟨v,hv⟩: ∃v,v=aX (ak F x) (ad x):=⟨_,rfl⟩;rw[<-hv]at zT⊢;cases hj:cS (aG F x) s with
    |some j=>
     rw[hj]at zY;have CQ:=vp (show atM F j (l.drop (k+1))=atM F 0 l by rw[<-EM.out,GQ.out,atM_go hd hj]);have Aa:=(bA (eh hj)).1;obtain⟨v2,Ls⟩: ∃v2,v2=aX (ak F j) (ad j):=⟨_,rfl⟩;simp only at zY;rw[<-Ls]at zY;have VF:=vp Ls;clear hv xM hs hd hj Ls;go_wp2_with fail;go_round
     case rel=>exact⟨k+1,j,by omega,Aa,by go_num,VF.out,CQ.out⟩
     case measure=>simp[intOf];omega
    |none=>
     rw[hj]at zY;have HR:=vp (show res= .nilIface by rw[wP.out,<-EM.out,GQ.out,atM_no hd hj];rfl);simp only at zY;clear hv xM hs hd hj;go_wp2_with fail;go_ret;exact⟨by rw[HR.out];rfl,rfl⟩
   ·rw[if_neg hd,vF hd]at zT;have HR:=vp (show res= .nilIface by rw[wP.out,<-EM.out,GQ.out,atM_leaf hd];rfl);obtain⟨v,hv⟩: ∃v,v=aX (ak F x) (ad x):=⟨_,rfl⟩;rw[<-hv]at zT⊢;clear hv xM hs hd;go_wp2_with fail;go_ret;exact⟨by rw[HR.out];rfl,rfl⟩
  ·obtain rfl:k=n:=(by omega);obtain⟨v,hv⟩: ∃v,v=aX (ak F x) (ad x):=⟨_,rfl⟩;have HR:=vp (show res=v by rw[wP.out,<-EM.out,List.drop_of_length_le (by rw[HN.out];exact vs _),hv];rfl);rw[<-hv];clear hv;go_wp2_with fail;go_ret;exact⟨by rw[HR.out];rfl,rfl⟩
end
section
open Go.RowKit Go.Sort
variable {w w':World} {a i m u:Nat} {y:Nd}
theorem eR.keep (h:eR w a i m u y) (hb:w'.heap[a]? =w.heap[a]?) (hz:w.heap.size<=w'.heap.size) (hd: ∀(g:Nat) (cs:Array Value) (f:Nat×Nat),w.heap[g]? =some (.cells cs 5 f)->w'.heap[g]? =w.heap[g]?):eR w' a i m u y:=by
 obtain⟨T,tail,h1,h2,h3,h4⟩:=h;refine⟨T,tail,hb.trans h1,h2,fun hk=>?_,h4⟩;obtain⟨hT,A,cd,e1,e2,e3,e4⟩:=h3 hk;refine⟨hT,A,cd,e1,fun h0=>?_,fun x hx=>?_,e4⟩
 ·obtain⟨x,hx,hc⟩:=e2 h0;obtain⟨g,cs,f,rfl,hg⟩:=e3 x hx;refine⟨_,hx,fun j hj=>?_⟩;have h9:=hc j hj;rw[Addr.add_mid,Nat.zero_add]at h9⊢;rw[<-h9];exact World.cell?_of_block (hd g cs f hg)
 ·obtain⟨g,cs,f,hg,hl⟩:=e3 x hx;exact⟨g,cs,f,hg,(hd g cs f hl).trans hl⟩
theorem eR.lt (h:eR w a i m u y):a<w.heap.size:=by
 obtain⟨T,tail,h1,_⟩:=h;exact(vo h1).1
variable {nb n cap:Nat} {T:TypeId} {xs:List Value}
theorem dV (h:w.ownsRow 0 T 1 (.slice (some ⟨nb,0,none⟩) n cap) n xs): ∃cur,w.heap[nb]? =some (.cells cur T (0,0))/\n<=cap/\cap<=maxLen/\cur.size=cap*1/\cur.toList.take (n*1)=xs:=by
 rcases h.2 with⟨h2,_⟩|⟨g,vP,cur,h1,_,h3,h4,h5,h6,h7⟩
 ·injection h2 with h2;cases h2
 ·injection h1 with e1 e2 e3;injection e1 with e1;injection e1 with e1;subst e1 e3;exact⟨cur,h3,h4,h5,h6,h7⟩
theorem gz (h:w.ownsRow 0 T 1 (.slice (some ⟨nb,0,none⟩) n cap) n xs) (hb:w'.heap[nb]? =w.heap[nb]?):w'.ownsRow 0 T 1 (.slice (some ⟨nb,0,none⟩) n cap) n xs:=by
 obtain⟨cur,h1,h2,h3,h4,h5⟩:=dV h;exact⟨h.1, .inr ⟨nb,cap,cur,rfl,vL _,hb.trans h1,h2,h3,h4,h5⟩⟩
theorem jE (h:w.ownsRow 0 T 1 (.slice (some ⟨nb,0,none⟩) n cap) n xs):nb<w.heap.size:=by
 obtain⟨cur,h1,_⟩:=dV h;exact(vo h1).1
variable {B fs c2:Nat} {ad mp:Nat->Nat} {F:List Nd}
theorem FsIs.below (h:FsIs w B fs nb c2 ad mp F) (hb:Below w.heap.size w w'):FsIs w' B fs nb c2 ad mp F:=
 ⟨h.ok,(hb.block fs (vo h.self).1).trans h.self,gz h.row (hb.block _ (jE h.row)),fun i y hy=>(h.node i y hy).keep (hb.block _ (h.node i y hy).lt) hb.size fun g cs f hc=>hb.block g (vo hc).1,
  fun i hk=>(h.names i hk).same (hb.block _ (h.names i hk).lt),h.sole,h.base⟩
theorem eR.apart {b:Nat} (h:eR w a i m u y) (hk:1<=y.kind/\y.kind<=3) (hb:(∃es wW,w.heap[b]? =some (.map es wW))\/(∃cs f,w.heap[b]? =some (.cells cs 189 f))\/ ∃cs f,w.heap[b]? =some (.cells cs 171 f)):a≠b:=by
 intro e;subst e;obtain⟨T,tail,h1,h2,h3,h4⟩:=h;have hT:T≠189/\T≠171:=by
  rcases(by omega:y.kind=1\/y.kind=2\/y.kind=3)with e|e|e
  ·rw[(h3 e).1];decide
  ·rw[(h2 e).1];decide
  ·rw[(h4 e).1];decide
 rcases hb with⟨es,wW,e⟩|⟨cs,f,e⟩|⟨cs,f,e⟩
 ·rw[h1]at e;cases e
 ·rw[h1]at e;injection e with e;injection e with _ e _;exact hT.1 e
 ·rw[h1]at e;injection e with e;injection e with _ e _;exact hT.2 e
theorem nk (h:FOk F) {d:Nat} (hd:F.length<=d):aG F d=[]:=by
 cases hc:aG F d with
 |nil=>rfl
 |cons x l=>
  exfalso;obtain⟨_,_,y,hy,hu,_⟩:=bA (F:=F) (d:=d) (x:=x) (by rw[hc];exact vK ..);have:=(h.each _ y hy).up;omega
theorem FsIs.mapBlock (h:FsIs w B fs nb c2 ad mp F) (hk:ak F i=2): ∃es wW,w.heap[mp i]? =some (.map es wW):=by
 obtain⟨es,wW,h1,_⟩:=h.names i hk;exact⟨es,wW,h1⟩
theorem FsIs.rowBlock (h:FsIs w B fs nb c2 ad mp F): ∃cs f,w.heap[nb]? =some (.cells cs 189 f):=by
 obtain⟨cur,h1,_⟩:=dV h.row;exact⟨cur,_,h1⟩
theorem lS {w7 w8 w9:World} {m' up g9 c9:Nat} {o:Obj} (hF:FsIs w7 B fs nb c2 ad mp F) (hy:y.up=up) (yZ:up<F.length) (Xp:ak F up=2) (xk:FOk (F++[y]))
  (hN:eR w7 a F.length m' (ad up) y) (LA:a≠fs) (YH:a≠nb) (haB:B<=a) (hm:y.kind=2->(∃wW,w7.heap[m']? =some (.map #[] wW))/\B<=m'/\ ∀i,ak F i=2->m'≠mp i)
  (h8:bF w8 (mp up) (aG F up++[(y.name,F.length)]) (fun j=>aX (ak (F++[y]) j) (upd ad F.length a j))) (zb:Mod (fun b=>b=mp up) w7 w8)
  (EG:(w8.alloc o).grownBy w9 (some nb)) (Ij:w9.ownsRow 0 189 1 (.slice (some ⟨g9,0,none⟩) (F.length+1) c9) (F.length+1) (((List.range F.length).map fun i=>aX (ak F i) (ad i))++[aX y.kind a])) (xi:some nb=some g9\/g9=(w8.alloc o).heap.size):
  FsIs (w9.setCell ⟨fs,0,none⟩ (.slice (some ⟨g9,0,none⟩) (F.length+1) c9)) B fs g9 c9 (upd ad F.length a) (upd mp F.length m') (F++[y])/\Below B w7 (w9.setCell ⟨fs,0,none⟩ (.slice (some ⟨g9,0,none⟩) (F.length+1) c9)):=by
 have wJ:=hF.ok.pos;have hlen:(F++[y]).length=F.length+1:=(by rw[vu,vB]);obtain⟨es1,clk1,ED⟩:=hF.mapBlock Xp;obtain⟨cs1,f1,Fc⟩:=hF.rowBlock;have Fs:=hF.self;have lm:=(vo ED).1;have lnb:=(vo Fc).1;have lfs:=(vo Fs).1;have d1:mp up≠nb:=fun e=>by rw[e,Fc]at ED;cases ED
 have d2:mp up≠fs:=fun e=>by rw[e,Fs]at ED;cases ED
 have d3:nb≠fs:=fun e=>by rw[e,Fs]at Fc;injection Fc with e1;injection e1 with _ e2 _;exact absurd e2 (by decide)
 have Nf:=zb.size;have XR:w8.heap.size+1<=w9.heap.size:=(by simpa using EG.size);have XX:(w9.setCell ⟨fs,0,none⟩ (.slice (some ⟨g9,0,none⟩) (F.length+1) c9)).heap.size=w9.heap.size:=(by simp);have yn:=aj (S:=fun b=>b=fs) (w:=w9) (b:=fs) rfl 0 (.slice (some ⟨g9,0,none⟩) (F.length+1) c9);have TV:=(Ij.lt g9 rfl).2;have Zd:g9≠fs:=by
  rcases xi with h|h
  ·injection h with h;omega
  ·simp at h;omega
 have hgB:B<=g9:=by
  have:=hF.base;rcases xi with h|h
  ·injection h with h;omega
  ·simp at h;omega
 generalize Yl:w9.setCell ⟨fs,0,none⟩ (.slice (some ⟨g9,0,none⟩) (F.length+1) c9)=w10 at XX yn⊢;have keep89: ∀b,b<w8.heap.size->b≠nb->b≠fs->w10.heap[b]? =w8.heap[b]? :=fun b hb h1 h2=>
  (yn.block b (by omega) h2).trans ((EG.block b (by simp;omega) (fun e=>h1 (by injection e))).trans (vt _ _ _ hb))
 have keep: ∀b,b<w7.heap.size->b≠mp up->b≠nb->b≠fs->w10.heap[b]? =w7.heap[b]? :=fun b hb h1 h2 h3=>(keep89 b (by omega) h2 h3).trans (zb.block b hb h1);have keepD: ∀(g:Nat) (cs:Array Value) (f:Nat×Nat),w7.heap[g]? =some (.cells cs 5 f)->w10.heap[g]? =w7.heap[g]? :=fun g cs f hc=>by
  refine keep g (vo hc).1 (fun e=>?_) (fun e=>?_) (fun e=>?_)
  ·subst e;rw[ED]at hc;cases hc
  ·subst e;rw[Fc]at hc;injection hc with e1;injection e1 with _ e2 _;exact absurd e2 (by decide)
  ·subst e;rw[Fs]at hc;injection hc with e1;injection e1 with _ e2 _;exact absurd e2 (by decide)
 have kindN: ∀i,i<F.length->ak (F++[y]) i=ak F i:=fun i hi=>cE y (by omega);have kindL:ak (F++[y]) F.length=y.kind:=by
  unfold ak;rw[vy (vs _)];simp
 have adN: ∀i,i<F.length->upd ad F.length a i=ad i:=fun i hi=>ag _ _ (by omega);have mpN: ∀i,i<F.length->upd mp F.length m' i=mp i:=fun i hi=>ag _ _ (by omega);have each:=hF.ok.each;refine⟨⟨xk,?_,?_,?_,?_,?_,?_⟩,?_⟩
 ·rw[hlen,<-Yl];exact jB (((EG.block fs (by simp;omega) (fun e=>d3 (by injection e with e;exact e.symm))).trans ((vt _ _ _ (by omega)).trans (zb.block fs lfs (fun e=>d2 e.symm)))).trans Fs)
 ·have e:((List.range (F.length+1)).map fun i=>aX (ak (F++[y]) i) (upd ad F.length a i))=((List.range F.length).map fun i=>aX (ak F i) (ad i))++[aX y.kind a]:=by
   rw[List.range_succ,List.map_append];congr 1
   ·refine List.map_congr_left fun i hi=>?_;have hi':=List.mem_range.1 hi;rw[kindN i hi',adN i hi']
   ·simp only[List.map_cons,List.map_nil];rw[kindL,af]
  rw[hlen,e];exact gz Ij (yn.block g9 TV Zd)
 ·intro i y0 hi;by_cases It:i<F.length
  ·rw[vz (by omega)]at hi;have h1:=hF.node i y0 hi;have hk:=(each i y0 hi).kind;rw[adN i It,mpN i It,adN _ (by have:=(each i y0 hi).up;omega)];exact h1.keep (keep _ h1.lt (h1.apart hk (.inl ⟨_,_,ED⟩)) (h1.apart hk (.inr (.inl ⟨_,_,Fc⟩))) (h1.apart hk (.inr (.inr ⟨_,_,Fs⟩)))) (by omega) keepD
  ·have YY:i=F.length:=by
    have:=(List.getElem?_eq_some_iff.1 hi).1;omega
   subst YY;rw[vy (vs _)]at hi;simp at hi;subst hi;rw[af,af,hy,adN up (by omega)];have hk:=(xk.each F.length y (by rw[vy (vs _)];simp)).kind;exact hN.keep (keep _ hN.lt (hN.apart hk (.inl ⟨_,_,ED⟩)) YH LA) (by omega) keepD
 ·intro i hk;by_cases It:i<F.length
  ·rw[kindN i It]at hk;rw[mpN i It,iJ _ _ _ wJ];by_cases hiu:i=up
   ·subst hiu;rw[if_pos hy];exact h8.same (keep89 _ (by omega) d1 d2)
   ·rw[if_neg (by omega),List.append_nil];have h1:=hF.names i hk;obtain⟨es2,clk2,Py⟩:=hF.mapBlock hk;have h2:mp i≠mp up:=fun e=>hiu (hF.sole i up hk Xp e);have h3:mp i≠nb:=fun e=>by rw[e,Fc]at Py;cases Py
    have h4:mp i≠fs:=fun e=>by rw[e,Fs]at Py;cases Py
    refine(h1.same (keep _ h1.lt h2 h3 h4)).congr fun x hx=>?_;have zn:=(bA hx).1;rw[kindN _ (by omega),adN _ (by omega)]
  ·obtain rfl:i=F.length:=(by have:=ei hk (by omega);omega);rw[kindL]at hk;obtain⟨⟨wW,CT⟩,hmB,YJ⟩:=hm hk;rw[af,iJ _ _ _ wJ,if_neg (by omega),nk hF.ok (by omega)];have h2:m'≠mp up:=YJ up Xp;have h3:m'≠nb:=fun e=>by rw[e,Fc]at CT;cases CT
   have h4:m'≠fs:=fun e=>by rw[e,Fs]at CT;cases CT
   exact⟨#[],wW,(keep _ (vo CT).1 h2 h3 h4).trans CT,⟨by simp,by simp,by simp⟩,rfl⟩
 ·intro i j hi hj Bg;have PK:=ei hi (by omega);have xm:=ei hj (by omega);by_cases It:i<F.length
  ·rw[kindN i It]at hi;rw[mpN i It]at Bg;by_cases TY:j<F.length
   ·rw[kindN j TY]at hj;rw[mpN j TY]at Bg;exact hF.sole i j hi hj Bg
   ·obtain rfl:j=F.length:=(by omega);rw[kindL]at hj;rw[af]at Bg;exact absurd Bg.symm ((hm hj).2.2 i hi)
  ·obtain rfl:i=F.length:=(by omega);rw[kindL]at hi;rw[af]at Bg;by_cases TY:j<F.length
   ·rw[kindN j TY]at hj;rw[mpN j TY]at Bg;exact absurd Bg ((hm hi).2.2 j hj)
   ·omega
 ·obtain⟨b1,b2,b3,b4⟩:=hF.base;refine⟨b1,hgB,fun i hi=>?_,fun i hk=>?_⟩
  ·by_cases It:i<F.length
   ·rw[adN i It];exact b3 i (by omega)
   ·have Cs:i=F.length:=(by omega);rw[Cs,af];exact haB
  ·have PK:=ei hk (by omega);by_cases It:i<F.length
   ·rw[kindN i It]at hk;rw[mpN i It];exact b4 i hk
   ·obtain rfl:i=F.length:=(by omega);rw[kindL]at hk;rw[af];exact(hm hk).2.1
 ·obtain⟨b1,b2,b3,b4⟩:=hF.base;refine⟨yn.os.trans (EG.os.trans zb.os),yn.tape.trans (EG.tape.trans zb.tape),yn.output.trans (EG.output.trans zb.output),by omega,fun b hb=>keep b (by omega) (fun e=>by have:=b4 up Xp;omega) (by omega) (by omega)⟩
theorem uN {ops:Array Oper} {rest:List Oper} {o:Oper} {a:Act} {Q:Exit->Act->World->Prop} (yB:o.guard=none) (s x:Operand)
  (ho:o.op= .call { callee:= .builtin .append,args:= #[s,x],argTypes:= #[169,169]})
  (nb c2 N:Nat) (F:List Nd) (ad:Nat->Nat) (hN:N=F.length) (hs:a.eval s= .slice (some ⟨nb,0,none⟩) N c2)
  (wh:w.ownsRow 0 189 1 (.slice (some ⟨nb,0,none⟩) F.length c2) F.length ((List.range F.length).map fun i=>aX (ak F i) (ad i)))
  (t:Value) (ht:t.oneCell'=true) (b c:Nat) (hx:a.eval x= .slice (some ⟨b,0,none⟩) 1 c) (hb:w.heap[b]? =some (.cells #[t] 189 (0,0)))
  (wC:N<1000000)
  (h: ∀g vP w',w'.ownsRow 0 189 1 (.slice (some ⟨g,0,none⟩) (F.length+1) vP) (F.length+1) (((List.range F.length).map fun i=>aX (ak F i) (ad i))++[t])->w.grownBy w' (some nb)->(some nb=some g\/g=w.heap.size)->g<w'.heap.size->wpList Tryz.prog ops Q rest (a.put o.dst (.slice (some ⟨g,0,none⟩) (N+1) vP)) w'):
  wpList Tryz.prog ops Q (o::rest) a w:=by
 have hl:((List.range F.length).map fun i=>aX (ak F i) (ad i)).length=F.length:=(by rw[List.length_map,List.length_range]);refine app_node yB s x ho (some ⟨nb,0,none⟩) c2 _ (by rw[hl,<-hN];exact hs) (by rw[hl];exact wh) t ht b c hx hb (by rw[hl,<-hN];exact wC) ?_;intro g vP w' h1 h2 h3 h4;rw[hl]at h1⊢;rw[<-hN];exact h g vP w' h1 h2 h3 h4
end
