/- Paths as texts: the pieces between slashes, what may be a path, its parts. -/
import Derived.Test.YtoochjhipmpehaaGreatDoorCaAK
import Derived.Test.YtoochjhipmpehaaGreatDoorTwAK
import Derived.Carry
import Derived.Deep.RegionHeld3
import Derived.Laws.RangeAny
import Derived.Lib.Bytealg
import Derived.Lib.DecodeN
import Derived.Lib.IndexBytes
import Derived.Lib.OthersKept
import Derived.Lib.PathFns
import Derived.Lib.Slices
import Derived.Lib.SlicesS
import Derived.Lib.Strings
import Derived.Lib.Walk
import Derived.OwnWalk
import Derived.WideMake
set_option linter.unusedVariables false
set_option linter.unusedSimpArgs false
set_option maxRecDepth 100000
set_option maxHeartbeats 4000000
namespace Go.Proofs.YtoochjhipmpehaaGreatDoor
section
def lX (s:ByteArray):Nat->Nat->Nat->List ByteArray
 |0,_,fr=>[s.extract fr s.size]
 |k+1,pos,fr=>if pos<s.size then(if s.get! pos=47 then s.extract fr pos::lX s k (pos+1) (pos+1)else lX s k (pos+1) fr)else [s.extract fr s.size]
def cuts (s:ByteArray) (pos fr:Nat):List ByteArray:=lX s (s.size-pos) pos fr
def be (s:ByteArray):List ByteArray:=cuts s 0 0
variable {s:ByteArray} {pos fr:Nat}
theorem eC (h: ¬pos<s.size):cuts s pos fr=[s.extract fr s.size]:=by
 unfold cuts;rw[show s.size-pos=0 by omega];rfl
theorem fG (h:pos<s.size) (hs:s.get! pos=47):cuts s pos fr=s.extract fr pos::cuts s (pos+1) (pos+1):=by
 unfold cuts;rw[show s.size-pos=(s.size-(pos+1))+1 by omega,lX,if_pos h,if_pos hs]
theorem iw (h:pos<s.size) (hs:s.get! pos≠47):cuts s pos fr=cuts s (pos+1) fr:=by
 unfold cuts;rw[show s.size-pos=(s.size-(pos+1))+1 by omega,lX,if_pos h,if_neg hs]
theorem nB (d:Nat) (h:pos+d<=s.size) (hs: ∀i,pos<=i->i<pos+d->s.get! i≠47):cuts s pos fr=cuts s (pos+d) fr:=by
 induction d with
 |zero=>rfl
 |succ d ih=>
  rw[ih (by omega) fun i h1 h2=>hs i h1 (by omega),iw (by omega) (hs _ (by omega) (by omega))];rfl
theorem oQ (s:ByteArray) (k:Nat): ∀pos fr,s.size-pos<=k->(cuts s pos fr).length<=s.size-pos+1:=by
 induction k with
 |zero=>intro pos fr h;rw[eC (by omega)];simp
 |succ k ih=>
  intro pos fr h;by_cases hp:pos<s.size
  ·by_cases hs:s.get! pos=47
   ·rw[fG hp hs,uU];have:=ih (pos+1) (pos+1) (by omega);omega
   ·rw[iw hp hs];have:=ih (pos+1) fr (by omega);omega
  ·rw[eC hp];simp
theorem cm (s:ByteArray):(be s).length<=s.size+1:=oQ s s.size 0 0 (by omega)
theorem pV (s:ByteArray) (i:Nat):s.get! i=47↔(s.get! i).toNat=47:=by
 constructor
 ·intro h;rw[h];rfl
 ·intro h;exact UInt8.toNat_inj.1 h
theorem mL (s:ByteArray) (pos:Nat) (h:pos<s.size):
  1<=(Utf8.decode s pos).2/\pos+(Utf8.decode s pos).2<=s.size/\((Utf8.decode s pos).1=47->s.get! pos=47/\(Utf8.decode s pos).2=1)/\
   ((Utf8.decode s pos).1≠47-> ∀i,pos<=i->i<pos+(Utf8.decode s pos).2->s.get! i≠47):=by
 have key: ∀n b0 b1 b2 b3:Nat,0<n->b0<256->1<=(Lib.decodeN n b0 b1 b2 b3).2/\(Lib.decodeN n b0 b1 b2 b3).2<=n/\((Lib.decodeN n b0 b1 b2 b3).1=47->b0=47/\(Lib.decodeN n b0 b1 b2 b3).2=1)/\
   ((Lib.decodeN n b0 b1 b2 b3).1≠47->b0≠47/\(2<=(Lib.decodeN n b0 b1 b2 b3).2->b1≠47)/\(3<=(Lib.decodeN n b0 b1 b2 b3).2->b2≠47)/\(4<=(Lib.decodeN n b0 b1 b2 b3).2->b3≠47)/\(Lib.decodeN n b0 b1 b2 b3).2<=4):=by
  intro n b0 b1 b2 b3 hn h0;unfold Lib.decodeN
  repeat' split
  all_goals(refine⟨?_,?_,?_,?_⟩<;>first|omega|(intro h;omega)|(intro h;refine⟨?_,?_,?_,?_,?_⟩<;>(try intro h')<;>simp only[]at * <;>omega))
 obtain⟨k1,k2,k3,k4⟩:=key (s.size-pos) (s.get! pos).toNat (s.get! (pos+1)).toNat (s.get! (pos+2)).toNat (s.get! (pos+3)).toNat (by omega) (s.get! pos).toNat_lt;rw[Lib.decode_at];refine⟨k1,by omega,fun e=>⟨(pV s pos).2 (k3 e).1,(k3 e).2⟩,fun e i h1 h2=>?_⟩;obtain⟨a0,a1,a2,a3,a4⟩:=k4 e;intro hc;have Nl:=(pV s i).1 hc;rcases(by omega:i=pos\/i=pos+1\/i=pos+2\/i=pos+3)with rfl|rfl|rfl|rfl
 ·exact a0 Nl
 ·exact a1 (by omega) Nl
 ·exact a2 (by omega) Nl
 ·exact a3 (by omega) Nl
def dI (l:List ByteArray):Bool:=l.any fun x=>decide (32<x.size)
def chk (s:ByteArray):Int:=if s.size=0 then 3 else if 0<=Lib.indexByte s.data.toList 0 then 1 else if 200<s.size then 11 else if dI (be s)=true then 11 else 0
theorem cW (h:chk s=0):0<s.size/\s.size<=200/\ ¬0<=Lib.indexByte s.data.toList 0/\dI (be s)=false:=by
 unfold chk at h;split at h
 ·cases h
 split at h
 ·cases h
 split at h
 ·cases h
 split at h
 ·cases h
 next h1 h2 h3 h4=>exact⟨by omega,by omega,h2,by simpa using h4⟩
def aK (x:ByteArray):Bool:= !(x.data== #[] || x.data== #[46])
def aq (s:ByteArray):List ByteArray:=(be s).filter aK
theorem bc (s:ByteArray):(aq s).length<=s.size+1:=ve (List.length_filter_le _ _) (cm s)
end
section
open Go.RowKit
theorem lib_byte (s:ByteArray) (c:Int) (w:World):Calls Tryz.prog 205 #[.string s, .int .u8 c] w fun e w'=>e= .returned (.int .i64 (Lib.indexByte s.data.toList c.toNat.toUInt8))/\w'=w:=by
 go_enter Tryz.func205,Tryz.ntmps205;go_wp2;rw[run_callFunc_extern Tryz.func209 (by kernel_rfl) (by kernel_rfl) (by kernel_rfl) (e:=Extern.BytealgIndexByte.indexByte) (by kernel_rfl),Lib.run_indexByteString];simp only[Result.andThen];rw[Oper.upon_value];go_wp2;go_ret;exact⟨rfl,rfl⟩
theorem qY (s:ByteArray) (c:UInt8) (w:World):Calls Tryz.prog 204 #[.string s, .string ⟨#[c]⟩] w fun e w'=>e= .returned (.int .i64 (Lib.indexByte s.data.toList c))/\w'=w:=by
 go_enter Tryz.func204,Tryz.ntmps204;go_wp2_with (go_at_call 205;refine(lib_byte _ _ _).mono ?_;rintro e w' ⟨rfl,rfl⟩)
 ·have h:([c]==s.toList)=true:=(by assumption);go_ret;refine⟨?_,rfl⟩;have e:s.data.toList=[c]:=(by rw[<-Lib.toList_data];exact(beq_iff_eq.1 h).symm);rw[e];simp[Lib.indexByte]
 ·go_ret;exact⟨rfl,rfl⟩
theorem oF (s:ByteArray) (c:UInt8) (w:World):Calls Tryz.prog 201 #[.string s, .string ⟨#[c]⟩] w fun e w'=>e= .returned (.int .i64 (Lib.indexByte s.data.toList c))/\w'=w:=by
 go_enter Tryz.func201,Tryz.ntmps201;go_wp2_with (go_at_call 204;refine(qY _ _ _).mono ?_;rintro e w' ⟨rfl,rfl⟩);go_ret;exact⟨rfl,rfl⟩
theorem gI (s:ByteArray) (c:UInt8) (w:World):Calls Tryz.prog 188 #[.string s, .string ⟨#[c]⟩] w fun e w'=>e= .returned (.bool (decide (0<=Lib.indexByte s.data.toList c)))/\w'=w:=by
 go_enter Tryz.func188,Tryz.ntmps188;go_wp2_with (go_at_call 201;refine(oF _ _ _).mono ?_;rintro e w' ⟨rfl,rfl⟩);go_ret;exact⟨rfl,rfl⟩
theorem qX (s p:ByteArray) (w:World):Calls Tryz.prog 185 #[.string s, .string p] w fun e w'=>e= .returned (.bool (Lib.hasPrefix s.data.toList p.data.toList))/\w'=w:=by
 rw[<-Lib.hasPrefix_of_take,<-Lib.size_eq,<-Lib.size_eq];go_enter Tryz.func185,Tryz.ntmps185;go_wp2
 ·rename_i h;go_ret;refine⟨?_,rfl⟩;show Ending.returned (Value.bool ((s.extract 0 p.size).toList==p.toList))=_;rw[Lib.extract_toList,Lib.toList_data];simp[h]
 ·rename_i h;go_ret;refine⟨?_,rfl⟩;show Ending.returned (Value.bool false)=_;simp[h]
theorem qW (s p:ByteArray) (w:World) (hs:s.size<=9223372036854775807):Calls Tryz.prog 186 #[.string s, .string p] w fun e w'=>e= .returned (.bool (Lib.hasSuffix s.data.toList p.data.toList))/\w'=w:=by
 rw[<-Lib.hasSuffix_raw];have MS:p.size<=s.size->((s.size:Int)-(p.size:Int)+9223372036854775808) % 18446744073709551616-9223372036854775808=((s.size-p.size:Nat):Int):=fun _ =>by omega
 go_enter Tryz.func186,Tryz.ntmps186;go_wp2
 ·have h:p.size<=s.size:=(by assumption);go_ret;refine⟨?_,rfl⟩;show Ending.returned (Value.bool ((s.extract (s.size-p.size) s.size).toList==p.toList))=_;simp[h]
 ·have h: ¬p.size<=s.size:=(by assumption);go_ret;refine⟨?_,rfl⟩;show Ending.returned (Value.bool false)=_;simp[h]
theorem tail_any (s:ByteArray) (w:World) (hs:s.size<=9223372036854775807):Calls Tryz.prog 162 #[.string s] w fun e w'=>e= .returned (.bool (Lib.hasSuffix s.data.toList [47]))/\w'=w:=by
 go_enter Tryz.func162,Tryz.ntmps162;go_wp2_with (go_at_call 186;refine(qW _ _ _ hs).mono ?_;rintro e w' ⟨rfl,rfl⟩);go_ret;exact⟨rfl,rfl⟩
end
section
open Go.RowKit Go.Sort
def OwnS (w:World) (base:Nat) (A:Option Addr) (cap:Nat) (l:List ByteArray):Prop:=w.ownsRow base 9 1 (.slice A l.length cap) l.length (l.map Value.string)
theorem OwnS.nil (w:World) (base:Nat):OwnS w base none 0 []:=World.ownsRow_nil w base _ 1
variable {w:World} {base cap:Nat} {l:List ByteArray}
theorem OwnS.elem {g:Nat} (h:OwnS w base (some ⟨g,0,none⟩) cap l) {j:Nat} {t:ByteArray} (hp:l[j]? =some t):w.cell? ⟨g,j,none⟩=some (.string t):=by
 have hk:j<l.length:=(List.getElem?_eq_some_iff.1 hp).1;rw[World.ownsRow.cellAt h j (by omega),va,hp];rfl
variable {w':World}
theorem OwnS.same {A:Option Addr} (h:OwnS w base A cap l) (hb: ∀g,A=some ⟨g,0,none⟩->w'.heap[g]? =w.heap[g]?):OwnS w' base A cap l:=by
 refine⟨h.1,?_⟩;rcases h.2 with h2|⟨g,vh,cur,h1,h2,h3,h4⟩
 ·exact .inl h2
 ·injection h1 with e1 e2 e3;exact .inr ⟨g,vh,cur,by rw[e1,e2,e3],h2,(hb g e1).trans h3,h4⟩
variable {b:Nat}
theorem jx {x y:Value} {t:TypeId} (h:w.heap[b]? =some (.cells #[x] t (0,0))):(w.setCell ⟨b,0,none⟩ y).heap[b]? =some (.cells #[y] t (0,0)):=by
 have h1:=Joins.block_setCell (i:=0) h y;simpa using h1
theorem ki (h:w'.heap[b]? =w.heap[b]?) (i:Nat):w'.cell? ⟨b,i,none⟩=w.cell? ⟨b,i,none⟩:=by simp[World.cell?,h]
theorem str_info:(Tryz.prog.info? 9).map (fun i=>(i.zero,i.size,i.bytes))=some (some (.string ByteArray.empty),1,16):=by kernel_rfl
theorem mg {ops:Array Oper} {rest:List Oper} {o:Oper} {a:Act} {Q:Exit->Act->World->Prop} (xT:o.guard=none) (s x:Operand)
  (ho:o.op= .call { callee:= .builtin .append,args:= #[s,x],argTypes:= #[107,107]})
  (base:Nat) (A:Option Addr) (cap:Nat) (l:List ByteArray) (hs:a.eval s= .slice A l.length cap) (vA:OwnS w base A cap l)
  (t:ByteArray) (b c:Nat) (hx:a.eval x= .slice (some ⟨b,0,none⟩) 1 c) (hb:w.heap[b]? =some (.cells #[.string t] 9 (0,0)))
  (vH:l.length<1000000) (vC:base<=w.heap.size)
  (h: ∀g vh w',OwnS w' base (some ⟨g,0,none⟩) vh (l++[t])->w.grownBy w' (A.map (·.block))->(A.map (·.block)=some g\/g=w.heap.size)->g<w'.heap.size->wpList Tryz.prog ops Q rest (a.put o.dst (.slice (some ⟨g,0,none⟩) (l.length+1) vh)) w'):
  wpList Tryz.prog ops Q (o::rest) a w:=by
 obtain⟨i0,xD,vQ,vI,vO⟩:=info_parts str_info;refine wpList_append_lies w xT s x 107 ho base 9 i0 _ 1 16 Tryz.underlying107 xD vQ vI vO rfl (by omega) _ l.length (l.map Value.string) hs vA ⟨b,0,none⟩ 1 c [.string t] hx rfl (World.news_of_block (cs:= #[.string t]) hb)
  (by simp[Value.oneCell']) (by omega) (by unfold maxLen;omega) (by omega) vC w.heap.size rfl ?_
 intro g vh w' xg hg wC vo;refine h g vh w' ?_ ?_ ?_ vo
 ·unfold OwnS;rw[List.map_append,uM];exact xg
 ·cases A<;>simpa [Value.ownBlock]using hg
 ·cases A<;>simpa [Value.ownBlock]using wC
theorem ii {fn:Func} {p u v:Tmp} {ty:TypeId} (h:fn.results= #[.cell p ty, .tmp u, .tmp v]) (tmps:Array Value) (P:Program) (w:World):
  (results fn tmps).run P w=
   ((asAddr (tmps.getD p undef)).run P w).andThen fun a w₁=>((loadVar ty a).run P w₁).andThen fun x w₂=> .ok (.tuple #[x,tmps.getD u undef,tmps.getD v undef]) w₂:=by
 simp only[results,h];simp[Sem.run_bind,Result.andThen]
end
section
open Go.RowKit Go.Sort
end
section
open Go.RowKit Go.Sort
theorem pcs_chk (bo:Nat) (s:ByteArray) (w:World) (R:World->List ByteArray->Prop) (go:List ByteArray->Bool) (IF:s.size<=1000000000)
  (hk: ∀w1 w2 l,R w1 l->Mod (fun b=>b=w.heap.size) w1 w2->w1.heap.size=w2.heap.size->R w2 l)
  (h0:R (w.alloc (.stringIter s 0)) [])
  (xi: ∀w1 l x,l.length<=s.size->x.size<=s.size->w.heap.size<w1.heap.size->R w1 l->Calls Tryz.prog 189 (#[.string x]++ #[.pointer (some ⟨bo,0,none⟩)]) w1 fun e w2=>e= .returned (.bool (go (l++[x])))/\R w2 (l++[x])/\w2.heap[w.heap.size]? =w1.heap[w.heap.size]?):
  Calls Tryz.prog 183 #[.string s, .func (.func 189) #[] #[.pointer (some ⟨bo,0,none⟩)]] w fun e w'=>e= .returned (.tuple #[])/\ ∃l,R w' l/\(l=be s\/ ∃r,l++r=be s/\go l=false):=by
 have Dw:=uH xi;have NM:=uH hk;have H0:=uH h0;clear xi hk h0;go_enter Tryz.func183,Tryz.ntmps183;go_wp2_with fail;go_loopw [4] (fun i wr=> ∃pos fr l,pos<=s.size/\fr<=pos/\i= .int .i64 ((fr:Nat):Int)/\wr.heap[w.heap.size]? =some (.stringIter s pos)/\R wr l/\l++cuts s pos fr=be s) (fun _ wr=>s.size-wr.iterPos w.heap.size)
 case atStart=>exact⟨0,0,[],by omega,by omega,rfl,World.iter_heap w s 0,H0.out,rfl⟩
 case round=>
  obtain⟨pos,fr,l,hp,xU,rfl,hit,hR,hcut⟩:=hrel;have vN:=iterPos_of hit;have Mj:=uH hit;have HR:=uH hR;have zB:=uH hcut;clear hit hR hcut;have OR:l.length<=s.size:=by
   have h1:=congrArg List.length zB.out;have h2:=cm s;have h3:0<(cuts s pos fr).length:=by
    by_cases c:pos<s.size
    ·unfold cuts;cases hz:s.size-pos with
     |zero=>omega
     |succ z=>
      clear h1 h2;have: ∀z pos fr,0<(lX s z pos fr).length:=by
       intro z
       induction z with
       |zero=>intro pos fr;exact Nat.zero_lt_one
       |succ z ih=>
        intro pos fr;unfold lX;split
        ·split
         ·simp
         ·exact ih _ _
        ·exact Nat.zero_lt_one
      exact this _ _ _
    ·rw[eC c];exact Nat.zero_lt_one
   rw[uM]at h1;omega
  have vo:=(uG Mj.out).1;by_cases CE:pos<s.size
  ·obtain⟨k1,k2,k3,k4⟩:=mL s pos CE;obtain⟨r,hr⟩: ∃r,r=(Utf8.decode s pos).1:=⟨_,rfl⟩;obtain⟨d,hd⟩: ∃d,d=(Utf8.decode s pos).2:=⟨_,rfl⟩;have KM:=fun ty=>Go.Lib.run_next_any_at (P:=Tryz.prog) wr w.heap.size s pos ty Mj.out CE;rw[<-hr,<-hd]at KM;rw[<-hr]at k3 k4;rw[<-hd]at k1 k2 k3 k4;have xj:Mod (fun b=>b=w.heap.size) wr (wr.iterAt w.heap.size s (pos+d)):=⟨rfl,rfl,rfl,by rw[Go.Lib.iterAt_size];exact uK _,fun b _ hb=>Go.Lib.iterAt_other wr w.heap.size b s _ hb⟩;have zT:=NM.out _ _ _ HR.out xj (Go.Lib.iterAt_size wr w.heap.size s (pos+d)).symm;have Dk:=Go.Lib.iterAt_heap wr w.heap.size s pos (pos+d) Mj.out;have vI:=Go.Lib.iterAt_size wr w.heap.size s (pos+d);obtain⟨w1,hw⟩: ∃w1,w1=wr.iterAt w.heap.size s (pos+d):=⟨_,rfl⟩;rw[<-hw]at zT Dk KM vI;have Qs:=uH Dk;have Qg:=uH zT;have hp1:=iterPos_of Dk;clear Dk zT hw xj hr hd;by_cases Fj:r=47
   ·subst Fj;obtain⟨k5,rfl⟩:=k3 rfl;have xF:=uH (show(l++[s.extract fr pos])++cuts s (pos+1) (pos+1)=be s by rw[List.append_assoc,List.singleton_append,<-fG CE k5];exact zB.out);have vJ:=Dw.out w1 l (s.extract fr pos) OR (by rw[ByteArray.size_extract];omega) (by omega) Qg.out;clear k3 k4 k5;cases DK:go (l++[s.extract fr pos])with
    |true=>
     rw[DK]at vJ;have yP:=uH vJ;have NP:=uH DK;clear vJ DK;go_wp2_with (first
      |(go_at_call 189;refine(yP.out).mono ?_;rintro e w2 ⟨rfl,xE,zG⟩;have Cw:=uH xE;have Vo:=uH (zG.trans Qs.out);have hp2:=iterPos_of Vo.out;clear xE zG)
      |fail)
     go_roundw
     case rel=>exact⟨pos+1,pos+1,_,by omega,by omega,by go_num,Vo.out,Cw.out,xF.out⟩
     case measure=>(rw[hp2,vN];omega)
    |false=>
     rw[DK]at vJ;have yP:=uH vJ;have NP:=uH DK;clear vJ DK;go_wp2_with (first
      |(go_at_call 189;refine(yP.out).mono ?_;rintro e w2 ⟨rfl,xE,zG⟩;have Cw:=uH xE;clear xE zG)
      |fail)
     refine bodyPost_ret (results_none rfl _ _ _) rfl ?_;exact⟨rfl,_,Cw.out, .inr ⟨_,xF.out,NP.out⟩⟩
   ·have vu:(((r:Nat):Int) != 47)=true:=(by rw[bne_iff_ne];omega);have xF:=uH (show l++cuts s (pos+d) fr=be s by rw[<-nB d k2 (k4 Fj)];exact zB.out);clear k3 k4 Fj;go_wp2_with fail;go_roundw
    case rel=>exact⟨pos+d,fr,l,k2,by omega,rfl,Qs.out,Qg.out,xF.out⟩
    case measure=>(rw[hp1,vN];omega)
  ·have KM:=fun ty=>Go.Lib.run_next_end_at (P:=Tryz.prog) wr w.heap.size s pos ty Mj.out CE;have xF:=uH (show l++[s.extract fr s.size]=be s by rw[<-eC CE];exact zB.out);have vJ:=Dw.out wr l (s.extract fr s.size) OR (by rw[ByteArray.size_extract];omega) vo HR.out;have yP:=uH vJ;clear vJ;go_wp2_with (first
    |(go_at_call 189;refine(yP.out).mono ?_;rintro e w2 ⟨rfl,xE,zG⟩;have Cw:=uH xE;clear xE zG)
    |fail)
   go_end0;exact⟨rfl,_,Cw.out, .inl xF.out⟩
def errB (b:Bool):Int:=if b=true then 11 else 0
theorem tR (bo:Nat) (x:ByteArray) (b:Bool) (w:World) (hB:w.heap[bo]? =some (.cells #[.int .i64 (errB b)] 32 (0,0))):
  Calls Tryz.prog 189 (#[.string x]++ #[.pointer (some ⟨bo,0,none⟩)]) w fun e w'=>e= .returned (.bool (!(b || decide (32<x.size))))/\w'.heap[bo]? =some (.cells #[.int .i64 (errB (b || decide (32<x.size)))] 32 (0,0))/\Mod (fun j=>j=bo) w w':=by
 have c0:=aa hB 0;have f0:=ae hB 0;have HB:=uH hB;clear hB;by_cases hx:32<x.size
 ·have e1:(b || decide (32<x.size))=true:=(by simp[hx]);rw[e1];have e2:errB true=11:=rfl;rw[e2];clear e1 e2;go_enter Tryz.func189,Tryz.ntmps189;go_wp2_with fail;go_ret;exact⟨rfl,jx HB.out,aj (S:=fun j=>j=bo) rfl 0 _⟩
 ·have e1:(b || decide (32<x.size))=b:=(by simp[hx]);rw[e1];clear e1;cases b
  all_goals
   simp only[errB]at c0 HB⊢;go_enter Tryz.func189,Tryz.ntmps189;go_wp2_with fail;go_ret;exact⟨rfl,HB.out,Mod.refl _ _⟩
theorem fz (l:List ByteArray) (x:ByteArray):dI (l++[x])=(dI l || decide (32<x.size)):=by simp[dI]
theorem nc {l r:List ByteArray} (h:dI l=true):dI (l++r)=true:=by unfold dI at h⊢;rw[List.any_append,h];rfl
theorem oS (s:ByteArray) (w:World) (hs:s.size<=1000000000):Calls Tryz.prog 164 #[.string s] w fun e w'=>e= .returned (.int .i64 (chk s))/\Below w.heap.size w w':=by
 by_cases h0:s.size=0
 ·obtain rfl:s=⟨#[]⟩:=by
   cases s with
   |mk d=>cases d with
    |mk l=>cases l with
     |nil=>rfl
     |cons x l=>simp[ByteArray.size]at h0
  have hc:chk ⟨#[]⟩=3:=rfl;rw[hc];clear hc hs h0;go_enter Tryz.func164,Tryz.ntmps164;go_wp2_with fail;go_ret;exact⟨rfl,vg _ _⟩
 have vu:s.toList.isEmpty=false:=by
  cases hc:s.toList with
  |nil=>
   exfalso;apply h0;have h9:s.data.toList=[]:=(by rw[<-hc];exact(ByteArray.toList_eq s).symm);have h8:s.data.toList.length=0:=(by rw[h9];rfl);exact h8
  |cons x l=>rfl
 by_cases hz:0<=Lib.indexByte s.data.toList 0
 ·have hc:chk s=1:=(by unfold chk;rw[if_neg h0,if_pos hz]);rw[hc];have Fv:=gI s 0 w;rw[uY hz]at Fv;have Mm:=uH Fv;clear Fv hz hc;go_enter Tryz.func164,Tryz.ntmps164;go_wp2_with (first
   |(go_at_call 188;refine(Mm.out).mono ?_;rintro e w1 ⟨rfl,rfl⟩)
   |fail)
  go_ret;exact⟨rfl,vg _ _⟩
 have Fv:=gI s 0 w;rw[uX hz]at Fv;have Mm:=uH Fv;clear Fv;by_cases hl:200<s.size
 ·have hc:chk s=11:=(by unfold chk;rw[if_neg h0,if_neg hz,if_pos hl]);rw[hc];clear hz hc;go_enter Tryz.func164,Tryz.ntmps164;go_wp2_with (first
   |(go_at_call 188;refine(Mm.out).mono ?_;rintro e w1 ⟨rfl,rfl⟩)
   |fail)
  go_ret;exact⟨rfl,vg _ _⟩
 have hc:chk s=errB (dI (be s)):=(by unfold chk errB;rw[if_neg h0,if_neg hz,if_neg hl]);rw[hc];obtain⟨w0,vl⟩: ∃w0,w0=w.alloc (.cells #[.int .i64 0] 32):=⟨_,rfl⟩;have vm:Below w.heap.size w w0:=(by rw[vl];exact uJ);have hE:w0.heap[w.heap.size]? =some (.cells #[.int .i64 0] 32 (0,0)):=(by rw[vl];exact ab w _);have vQ:w0.heap.size=w.heap.size+1:=(by rw[vl];simp);have GP:=pcs_chk w.heap.size s w0 (fun w1 l=>Below w.heap.size w w1/\w1.heap[w.heap.size]? =some (.cells #[.int .i64 (errB (dI l))] 32 (0,0))) (fun l=> !dI l) hs
  (fun w1 w2 l ⟨h1,h2⟩ hm IF=>⟨h1.trans (hm.below (fun b hb=>by have:=h1.size;omega) h1.size),(hm.block _ (uG h2).1 (by omega)).trans h2⟩)
  ⟨vm.alloc (by omega) _,(uL _ _ _ (by omega)).trans hE⟩
  (fun w1 l x _ _ hk ⟨h1,h2⟩=>(tR w.heap.size x (dI l) w1 h2).mono fun e w2 ⟨he,h3,h4⟩=>⟨by rw[he,fz],⟨h1.trans (h4.below (fun b hb=>by omega) h1.size),by rw[fz];exact h3⟩,h4.block _ hk (by omega)⟩)
 have vF:=uH vl;have Zx:=uH GP;clear GP vl hz hc vm hE;go_enter Tryz.func164,Tryz.ntmps164;go_upto_region 8 with(first
  |(go_at_call 188;refine(Mm.out).mono ?_;rintro e w1 ⟨rfl,rfl⟩)
  |fail)
 rw[<-vF.out];go_wp2_with (first
  |(go_at_call 183;refine(Zx.out).mono ?_;rintro e w1 ⟨rfl,l,⟨vk,AV⟩,wM⟩;have c1:=aa AV 0;have vq:=uH vk;have HL1:=uH wM;clear vk AV wM)
  |fail)
 have hlq:dI l=dI (be s):=by
  rcases HL1.out with e1|⟨r,e1,e2⟩
  ·rw[e1]
  ·have e3:dI l=true:=by cases hc:dI l with
    |true=>rfl
    |false=>rw[hc]at e2;cases e2
   rw[<-e1,nc e3,e3]
 rw[<-hlq];go_ret;exact⟨rfl,vq.out⟩
end
section
open Go.RowKit Go.Sort
variable {x:ByteArray}
theorem np (h:aK x=false):x=⟨#[]⟩\/x=⟨#[46]⟩:=by
 unfold aK at h;have h1:(x.data== #[] || x.data== #[46])=true:=by
  cases hc:(x.data== #[] || x.data== #[46])with
  |true=>rfl
  |false=>rw[hc]at h;cases h
 rcases Bool.or_eq_true_iff.1 h1 with e|e
 ·left;cases x with|mk d=>exact congrArg ByteArray.mk (eq_of_beq e)
 ·right;cases x with|mk d=>exact congrArg ByteArray.mk (eq_of_beq e)
theorem iI (h:aK x=true): ¬x.toList=[]/\(!x.toList.isEmpty)=true/\(!x.toList==[46])=true:=by
 have h1: ∀a:List UInt8,x.toList=a->x=⟨a.toArray⟩:=fun a e=>by
  cases x with|mk d=>rw[ByteArray.toList_eq]at e;rw[<-e]
 have n1: ¬x.toList=[]:=fun e=>by rw[h1 _ e]at h;cases h
 refine⟨n1,?_,?_⟩
 ·cases hc:x.toList with
  |nil=>exact absurd hc n1
  |cons a l=>rfl
 ·cases hc:(x.toList==[46])with
  |false=>rfl
  |true=>rw[h1 _ (eq_of_beq hc)]at h;cases h
theorem sQ (bo:Nat) (x:ByteArray) (w:World) (h:aK x=false):Calls Tryz.prog 184 (#[.string x]++ #[.pointer (some ⟨bo,0,none⟩)]) w fun e w'=>e= .returned (.bool true)/\w'=w:=by
 rcases np h with rfl|rfl
 all_goals
  clear h;go_enter Tryz.func184,Tryz.ntmps184;go_wp2_with fail;go_ret;exact⟨rfl,rfl⟩
variable {w:World} {base cap:Nat} {A:Option Addr} {l:List ByteArray}
theorem OwnS.form (h:OwnS w base A cap l):(A=none/\l=[]/\cap=0)\/ ∃g,A=some ⟨g,0,none⟩/\base<=g/\g<w.heap.size/\l.length<=cap:=by
 rcases h.2 with⟨h2,h3⟩|⟨g,vh,cur,h1,h2,h3,h4,_⟩
 ·injection h2 with e1 e2 e3;exact .inl ⟨e1,by simpa using h3,e3⟩
 ·injection h1 with e1 e2 e3;exact .inr ⟨g,e1,h2,(uG h3).1,by omega⟩
theorem OwnS.lower {AM:Nat} (h:OwnS w base A cap l) (hb:AM<=base):OwnS w AM A cap l:=by
 refine⟨h.1,?_⟩;rcases h.2 with h2|⟨g,vh,cur,h1,h2,h3⟩
 ·exact .inl h2
 ·exact .inr ⟨g,vh,cur,h1,by omega,h3⟩
variable {bo:Nat}
theorem StrRow.cell {w0 w1:World} {n:Nat} {ty:TypeId} (hF:(A=none/\l=[]/\cap=0)\/ ∃g,A=some ⟨g,0,none⟩/\base<=g/\g<w.heap.size/\l.length<=cap) (YX: ∀g,A=some ⟨g,0,none⟩->g≠bo)
  (hB:w.heap[bo]? =some (.cells #[.slice A n cap] ty (0,0))) (hb:Below w.heap.size w w0) (hg:w0.grownBy w1 (A.map (·.block))):w1.heap[bo]? =some (.cells #[.slice A n cap] ty (0,0)):=by
 have yA:=(uG hB).1;refine(hg.block bo (uO yA hb.size) fun e=>?_).trans ((hb.block bo yA).trans hB);rcases hF with⟨e',_⟩|⟨g',e',_,_,_⟩
 ·rw[e']at e;cases e
 ·rw[e']at e;exact YX g' e' (by simpa using e.symm)
def fH (bo base:Nat) (l:List ByteArray) (w:World):Prop:= ∃A cap,w.heap[bo]? =some (.cells #[.slice A l.length cap] 107 (0,0))/\OwnS w base A cap l/\(∀g,A=some ⟨g,0,none⟩->g≠bo)
theorem qL (bo base:Nat) (x:ByteArray) (l:List ByteArray) (w:World) (h:aK x=true) (hB:fH bo base l w) (vH:l.length<100000) (hbz:base<=w.heap.size):
  Calls Tryz.prog 184 (#[.string x]++ #[.pointer (some ⟨bo,0,none⟩)]) w fun e w'=>e= .returned (.bool true)/\fH bo base (l++[x]) w'/\Mod (fun b=>b=bo\/base<=b) w w':=by
 obtain⟨A,cap,hB,hO,hA⟩:=hB;have c0:w.cell? ⟨bo,0,none⟩=some (.slice A l.length cap):=aa hB 0;have f0:w.frozen? ⟨bo,0,none⟩=false:=ae hB 0;have HB:=uH hB;clear hB;obtain⟨t1,t2,t3⟩:=iI h;have yA:bo<w.heap.size:=(uG HB.out).1;have wN:=OwnS.form hO;obtain⟨k,hk⟩: ∃k,k=l.length:=⟨_,rfl⟩;rw[<-hk]at c0;have xx:=uH ((vg w.heap.size w).alloc (uK _) (.cells #[.string x] 9));have hfew':k<100000:=(by omega);have HF:=uH wN;have Hw:=uH hA;have HO:=uH hO;have HK:=uH hk;clear h hA hO hk wN vH;have HB':Hid (w.heap[bo]? =some (.cells #[.slice A k cap] 107 (0,0))):=(by have:=HB.out;rw[<-HK.out]at this;exact uH this);clear HB;go_enter Tryz.func184,Tryz.ntmps184;go_wp2_with (first
  |(at_builtin;refine mg rfl (.tmp 10) (.tmp 12) rfl base A cap l (HK.out▸rfl) (World.ownsRow.alloc HO.out _) x w.heap.size 1 rfl (ab _ _) (by rw[<-HK.out];omega) (by simp;omega) ?_;intro g vh w1 ho hg wC vo;rw[<-HK.out];have xe:=StrRow.cell HF.out Hw.out HB'.out xx.out hg;have c1:=aa xe 0;have f1:=ae xe 0;have vq:=uH xe;have vx:=uH ho;have HG:=uH hg;have DT:=uH wC;clear xe ho hg wC)
  |fail)
 go_ret;have hg:=HG.out;have hz:=hg.size;have vI:w.heap.size+1<=w1.heap.size:=(by simpa using hz);have Fu:g≠bo:=by
  rcases DT.out with e|e
  ·cases hAA:A with
   |none=>rw[hAA]at e;cases e
   |some ad=>
    rcases HF.out with⟨e',_⟩|⟨g',e',_,_,_⟩
    ·rw[hAA]at e';cases e'
    ·have h1:=Hw.out g' e';rw[e']at e;simp at e;omega
  ·simp at e;omega
 have Ya:base<=g:=by
  rcases DT.out with e|e
  ·rcases HF.out with⟨e',_⟩|⟨g',e',h2,_,_⟩
   ·rw[e']at e;cases e
   ·rw[e']at e;simp at e;omega
  ·simp at e;omega
 have xr:=jx vq.out (y:= .slice (some ⟨g,0,none⟩) (k+1) vh);have hm:=aj (S:=fun b=>b=bo) (w:=w1) (b:=bo) rfl 0 (.slice (some ⟨g,0,none⟩) (k+1) vh);refine⟨rfl,⟨some ⟨g,0,none⟩,vh,by rw[uM,<-HK.out];exact xr,OwnS.same vx.out fun g' e'=>by
  injection e' with e';injection e' with e';exact hm.block g' (e'▸vo) (by omega),fun g' e'=>by
  injection e' with e';injection e' with e';omega⟩,?_⟩
 have vk:Mod (fun b=>b=bo\/base<=b) w w1:=⟨hg.os,hg.tape,hg.output,by omega,fun b hb hn=>(hg.block b (by simp;omega) (fun e=>by
  rcases HF.out with⟨e',_⟩|⟨g',e',h2,_,_⟩
  ·rw[e']at e;cases e
  ·rw[e']at e;simp at e;exact hn (.inr (by omega)))).trans (uL _ _ _ (by omega))⟩
 exact vk.trans (Out.refl _ _) (hm.sub fun b hb=> .inl hb)
theorem fH.mod {w':World} {X:Nat->Prop} (h:fH bo base l w) (hm:Mod X w w') (hX: ¬X bo) (TR: ∀b,base<=b-> ¬X b):fH bo base l w':=by
 obtain⟨A,cap,hB,hO,hA⟩:=h;refine⟨A,cap,(hm.block bo (uG hB).1 hX).trans hB,hO.same fun g hg=>?_,hA⟩;rcases hO.form with⟨e,_⟩|⟨g',e,h1,h2,_⟩
 ·rw[e]at hg;cases hg
 ·rw[e]at hg;injection hg with hg;injection hg with hg;subst hg;exact hm.block _ h2 (TR _ h1)
theorem sO (bo:Nat) (s:ByteArray) (w:World) (R:World->List ByteArray->Prop) (go:List ByteArray->Bool) (IF:s.size<=1000000000)
  (hk: ∀w1 w2 l,R w1 l->Mod (fun b=>b=w.heap.size) w1 w2->w1.heap.size=w2.heap.size->R w2 l)
  (h0:R (w.alloc (.stringIter s 0)) [])
  (xi: ∀w1 l x,l.length<=s.size->x.size<=s.size->w.heap.size<w1.heap.size->R w1 l->Calls Tryz.prog 184 (#[.string x]++ #[.pointer (some ⟨bo,0,none⟩)]) w1 fun e w2=>e= .returned (.bool (go (l++[x])))/\R w2 (l++[x])/\w2.heap[w.heap.size]? =w1.heap[w.heap.size]?):
  Calls Tryz.prog 183 #[.string s, .func (.func 184) #[] #[.pointer (some ⟨bo,0,none⟩)]] w fun e w'=>e= .returned (.tuple #[])/\ ∃l,R w' l/\(l=be s\/ ∃r,l++r=be s/\go l=false):=by
 have Dw:=uH xi;have NM:=uH hk;have H0:=uH h0;clear xi hk h0;go_enter Tryz.func183,Tryz.ntmps183;go_wp2_with fail;go_loopw [4] (fun i wr=> ∃pos fr l,pos<=s.size/\fr<=pos/\i= .int .i64 ((fr:Nat):Int)/\wr.heap[w.heap.size]? =some (.stringIter s pos)/\R wr l/\l++cuts s pos fr=be s) (fun _ wr=>s.size-wr.iterPos w.heap.size)
 case atStart=>exact⟨0,0,[],by omega,by omega,rfl,World.iter_heap w s 0,H0.out,rfl⟩
 case round=>
  obtain⟨pos,fr,l,hp,xU,rfl,hit,hR,hcut⟩:=hrel;have vN:=iterPos_of hit;have Mj:=uH hit;have HR:=uH hR;have zB:=uH hcut;clear hit hR hcut;have OR:l.length<=s.size:=by
   have h1:=congrArg List.length zB.out;have h2:=cm s;have h3:0<(cuts s pos fr).length:=by
    by_cases c:pos<s.size
    ·unfold cuts;cases hz:s.size-pos with
     |zero=>omega
     |succ z=>
      clear h1 h2;have: ∀z pos fr,0<(lX s z pos fr).length:=by
       intro z
       induction z with
       |zero=>intro pos fr;exact Nat.zero_lt_one
       |succ z ih=>
        intro pos fr;unfold lX;split
        ·split
         ·simp
         ·exact ih _ _
        ·exact Nat.zero_lt_one
      exact this _ _ _
    ·rw[eC c];exact Nat.zero_lt_one
   rw[uM]at h1;omega
  have vo:=(uG Mj.out).1;by_cases CE:pos<s.size
  ·obtain⟨k1,k2,k3,k4⟩:=mL s pos CE;obtain⟨r,hr⟩: ∃r,r=(Utf8.decode s pos).1:=⟨_,rfl⟩;obtain⟨d,hd⟩: ∃d,d=(Utf8.decode s pos).2:=⟨_,rfl⟩;have KM:=fun ty=>Go.Lib.run_next_any_at (P:=Tryz.prog) wr w.heap.size s pos ty Mj.out CE;rw[<-hr,<-hd]at KM;rw[<-hr]at k3 k4;rw[<-hd]at k1 k2 k3 k4;have xj:Mod (fun b=>b=w.heap.size) wr (wr.iterAt w.heap.size s (pos+d)):=⟨rfl,rfl,rfl,by rw[Go.Lib.iterAt_size];exact uK _,fun b _ hb=>Go.Lib.iterAt_other wr w.heap.size b s _ hb⟩;have zT:=NM.out _ _ _ HR.out xj (Go.Lib.iterAt_size wr w.heap.size s (pos+d)).symm;have Dk:=Go.Lib.iterAt_heap wr w.heap.size s pos (pos+d) Mj.out;have vI:=Go.Lib.iterAt_size wr w.heap.size s (pos+d);obtain⟨w1,hw⟩: ∃w1,w1=wr.iterAt w.heap.size s (pos+d):=⟨_,rfl⟩;rw[<-hw]at zT Dk KM vI;have Qs:=uH Dk;have Qg:=uH zT;have hp1:=iterPos_of Dk;clear Dk zT hw xj hr hd;by_cases Fj:r=47
   ·subst Fj;obtain⟨k5,rfl⟩:=k3 rfl;have xF:=uH (show(l++[s.extract fr pos])++cuts s (pos+1) (pos+1)=be s by rw[List.append_assoc,List.singleton_append,<-fG CE k5];exact zB.out);have vJ:=Dw.out w1 l (s.extract fr pos) OR (by rw[ByteArray.size_extract];omega) (by omega) Qg.out;clear k3 k4 k5;cases DK:go (l++[s.extract fr pos])with
    |true=>
     rw[DK]at vJ;have yP:=uH vJ;have NP:=uH DK;clear vJ DK;go_wp2_with (first
      |(go_at_call 184;refine(yP.out).mono ?_;rintro e w2 ⟨rfl,xE,zG⟩;have Cw:=uH xE;have Vo:=uH (zG.trans Qs.out);have hp2:=iterPos_of Vo.out;clear xE zG)
      |fail)
     go_roundw
     case rel=>exact⟨pos+1,pos+1,_,by omega,by omega,by go_num,Vo.out,Cw.out,xF.out⟩
     case measure=>(rw[hp2,vN];omega)
    |false=>
     rw[DK]at vJ;have yP:=uH vJ;have NP:=uH DK;clear vJ DK;go_wp2_with (first
      |(go_at_call 184;refine(yP.out).mono ?_;rintro e w2 ⟨rfl,xE,zG⟩;have Cw:=uH xE;clear xE zG)
      |fail)
     refine bodyPost_ret (results_none rfl _ _ _) rfl ?_;exact⟨rfl,_,Cw.out, .inr ⟨_,xF.out,NP.out⟩⟩
   ·have vu:(((r:Nat):Int) != 47)=true:=(by rw[bne_iff_ne];omega);have xF:=uH (show l++cuts s (pos+d) fr=be s by rw[<-nB d k2 (k4 Fj)];exact zB.out);clear k3 k4 Fj;go_wp2_with fail;go_roundw
    case rel=>exact⟨pos+d,fr,l,k2,by omega,rfl,Qs.out,Qg.out,xF.out⟩
    case measure=>(rw[hp1,vN];omega)
  ·have KM:=fun ty=>Go.Lib.run_next_end_at (P:=Tryz.prog) wr w.heap.size s pos ty Mj.out CE;have xF:=uH (show l++[s.extract fr s.size]=be s by rw[<-eC CE];exact zB.out);have vJ:=Dw.out wr l (s.extract fr s.size) OR (by rw[ByteArray.size_extract];omega) vo HR.out;have yP:=uH vJ;clear vJ;go_wp2_with (first
    |(go_at_call 184;refine(yP.out).mono ?_;rintro e w2 ⟨rfl,xE,zG⟩;have Cw:=uH xE;clear xE zG)
    |fail)
   go_end0;exact⟨rfl,_,Cw.out, .inl xF.out⟩
theorem fa (l:List ByteArray) (h:aK x=true):(l++[x]).filter aK=l.filter aK++[x]:=by
 rw[List.filter_append,List.filter_cons_of_pos h];rfl
theorem fO (l:List ByteArray) (h:aK x=false):(l++[x]).filter aK=l.filter aK:=by
 rw[List.filter_append,List.filter_cons_of_neg (by rw[h];decide)];simp
theorem fL {tmps:Array Value} {v b r:Value} (h2:tmps.getD 2 undef= .pointer (some ⟨bo,0,none⟩)) (h3:tmps.getD 3 undef=b) (h4:tmps.getD 4 undef=r) (hc:w.cell? ⟨bo,0,none⟩=some v) (hv:v.oneCell'=true):
  (results Tryz.f161 tmps).run Tryz.prog w= .ok (.tuple #[v,b,r]) w:=by
 rw[ii rfl,h2,h3,h4]
 go_simp
theorem sP (s:ByteArray) (w:World) (hs:s.size<=1000000000) (hc:chk s≠0):Calls Tryz.prog 161 #[.string s] w fun e w'=>e= .returned (.tuple #[.slice none 0 0, .bool false, .int .i64 (chk s)])/\Below w.heap.size w w':=by
 have hq:=fun w0=>oS s w0 hs;obtain⟨r,hr⟩: ∃r,r=chk s:=⟨_,rfl⟩;rw[<-hr]at hq hc⊢;have Cq:=ab w (.cells #[.slice none 0 0] 107);have vu:(r != 0)=true:=(by rw[bne_iff_ne];exact hc);have HQ:=uH hq;have QE:=uH Cq;clear hq hr hc Cq;go_enter Tryz.func161,Tryz.ntmps161;go_wp2_with (first
  |(go_at_call 164;refine(HQ.out _).mono ?_;rintro e w1 ⟨rfl,vk⟩;have hB:=(vk.block _ (by simp)).trans QE.out;have c1:=aa hB 0;have f1:=ae hB 0;have HB:=uH hB;clear hB))
 have xr:=jx HB.out (y:= .slice none 0 0);refine bodyPost_ret (v:= .tuple #[.slice none 0 0, .bool false, .int .i64 r]) (fL rfl rfl rfl (aa xr 0) rfl) rfl ?_;exact⟨rfl,(uJ.trans (vk.mono (by simp))).setCell (uK _) _⟩
def ce (s:ByteArray) (w:World) (e:Ending) (w':World):Prop:= ∃A cap,e= .returned (.tuple #[.slice A (aq s).length cap, .bool (Lib.hasPrefix s.data.toList [47]), .int .i64 0])/\OwnS w' w.heap.size A cap (aq s)/\Below w.heap.size w w'
theorem parts_ok (s:ByteArray) (w:World) (hc:chk s=0):Calls Tryz.prog 161 #[.string s] w (ce s w):=by
 obtain⟨h1,h2,_,_⟩:=cW hc;have hq:=fun w0=>oS s w0 (by omega);rw[hc]at hq;have Cq:=ab w (.cells #[.slice none 0 0] 107);obtain⟨w0,vl⟩: ∃w0,w0=w.alloc (.cells #[.slice none 0 0] 107):=⟨_,rfl⟩;rw[<-vl]at Cq;have vQ:w0.heap.size=w.heap.size+1:=(by rw[vl];simp);have yA:Below w.heap.size w w0:=(by rw[vl];exact uJ);have GP:=fun(w1:World) (hb:Below w0.heap.size w0 w1)=>sO w.heap.size s w1 (fun w2 l=>Below w.heap.size w w2/\w1.heap.size+1<=w2.heap.size/\fH w.heap.size (w1.heap.size+1) (l.filter aK) w2) (fun l=>true) (by omega)
  (fun w2 w3 l ⟨a1,a2,a3⟩ hm IF=>⟨a1.trans (hm.below (fun b e=>by have:=hb.size;omega) a1.size),by omega,a3.mod hm (by have:=hb.size;omega) (fun b h=>by omega)⟩)
  ⟨(yA.trans (hb.mono (by omega))).alloc (by have:=hb.size;omega) _,by simp,none,0,(uL _ _ _ (by have:=hb.size;omega)).trans ((hb.block _ (by omega)).trans Cq),OwnS.nil _ _,fun g e=>by cases e⟩
  (fun w2 l x hl hx hk ⟨a1,a2,a3⟩=>by
   cases hp:aK x with
   |true=>
    refine(qL w.heap.size (w1.heap.size+1) x (l.filter aK) w2 hp a3 (by have:=List.length_filter_le aK l;omega) a2).mono ?_;rintro e w3 ⟨rfl,b1,b2⟩;rw[fa l hp];exact⟨rfl,⟨a1.trans (b2.below (fun b e=>by have:=hb.size;omega) a1.size),ve a2 b2.size,b1⟩,b2.block _ hk (by have:=hb.size;omega)⟩
   |false=>
    refine(sQ w.heap.size x w2 hp).mono ?_;rintro e w3 ⟨rfl,rfl⟩;rw[fO l hp];exact⟨rfl,⟨a1,a2,a3⟩,rfl⟩)
 have Sr:=fun w0=>qX s ⟨#[47]⟩ w0;obtain⟨pb,hpb⟩: ∃pb,pb=Lib.hasPrefix s.data.toList [47]:=⟨_,rfl⟩;have MH: ∀w0,Calls Tryz.prog 185 #[.string s, .string ⟨#[47]⟩] w0 fun e w'=>e= .returned (.bool pb)/\w'=w0:=fun w0=>by rw[hpb];exact Sr w0
 unfold ce;rw[<-hpb];have HQ:=uH hq;have vF:=uH vl;have QE:=uH Cq;have Zx:=uH GP;have HPR:=uH MH;clear hq vl Cq GP Sr MH hpb hc h1;go_enter Tryz.func161,Tryz.ntmps161;go_upto_region 1 with(fail);rw[<-vF.out];go_wp2_with (first
  |(go_at_call 164;refine(HQ.out _).mono ?_;rintro e w1 ⟨rfl,vk⟩)
  |(go_at_call 183;refine(Zx.out w1 vk).mono ?_;rintro e w2 ⟨rfl,l,⟨vs,vO,A,cap,hc,hO,hA⟩,hl⟩;have c1:=aa hc 0;have f1:=ae hc 0;have HC:=uH hc;have HO:=uH hO;have HA:=uH hA;have HL:=uH hl;clear hc hO hA hl))
 go_region_with
  ((
   first
   |(go_at_call 185;refine(HPR.out _).mono ?_;rintro e w3 ⟨rfl,rfl⟩)))
 all_goals
  go_wp2_with fail;have vV:l=be s:=by
   rcases HL.out with e|⟨r,_,e⟩
   ·exact e
   ·cases e
  have xr:=jx HC.out (y:= .slice A (l.filter aK).length cap);have hm:=aj (S:=fun b=>b=w.heap.size) (w:=w2) rfl 0 (.slice A (l.filter aK).length cap);have hz:=vs.size;refine bodyPost_ret (v:= .tuple #[.slice A (aq s).length cap, .bool pb, .int .i64 0]) (fL rfl rfl rfl (by have h9:=aa xr 0;have h8:(aq s).length=(l.filter aK).length:=(congrArg (fun z=>(List.filter aK z).length) vV).symm;rw[h8];exact h9) rfl) rfl ?_;refine⟨A,cap,rfl,?_,?_⟩
  ·have zp:OwnS (w2.setCell ⟨w.heap.size,0,none⟩ (.slice A (l.filter aK).length cap)).drew (w1.heap.size+1) A cap (aq s):=by
    unfold aq;rw[<-vV];refine OwnS.same HO.out fun g hg=>?_;rcases(OwnS.form HO.out)with⟨e,_⟩|⟨g',e,k1,k2,_⟩
    ·rw[e]at hg;cases hg
    ·rw[e]at hg;injection hg with hg;injection hg with hg;subst hg;have:=vk.size;exact hm.block _ k2 (by omega)
   exact zp.lower (by have:=vk.size;omega)
  ·exact((Mod.of vs).trans (Out.refl _ _) hm.drew).below (S:=fun b=>b=w.heap.size) (fun b hb=>by omega) (uK _)
end
section
structure Ent where
 path:ByteArray
 kind:Nat
 mode:Nat
 uid:Nat
 gid:Nat
 n:Nat
 dat:Nat->Nat
 «to»:ByteArray
structure Nd where
 kind:Nat
 mode:Nat
 uid:Nat
 gid:Nat
 n:Nat
 up:Nat
 name:ByteArray
 dat:Nat->Nat
 «to»:ByteArray
def aB:Nd:=⟨2,493,0,0,0,0,⟨#[]⟩,fun _ =>0,⟨#[]⟩⟩
def di (m:Nat):Bool:=bits .andNot .u16 (m:Int) 2559 != 0
def dots (l:List ByteArray):Bool:=l.any fun x=>x.data== #[46,46]
def may (e:Ent):Int:=
 if e.kind<1\/3<e.kind\/di e.mode=true then 1
 else if chk e.path≠0\/Lib.hasPrefix e.path.data.toList [47]=false\/aq e.path=[]\/Lib.hasSuffix e.path.data.toList [47]=true\/dots (aq e.path)=true then 1
 else if(e.kind≠1/\0<e.n)\/(e.kind≠3/\e.to.size≠0)then 1
 else if e.kind=3/\chk e.to≠0 then 1
 else if 65536<e.n then 12 else 0
def ak (F:List Nd) (i:Nat):Nat:=match F[i]? with|some y=>y.kind|none=>0
def aG (F:List Nd) (d:Nat):List (ByteArray×Nat):=
 (List.range F.length).filterMap fun i=>match F[i]? with|some y=>if 0<i/\y.up=d then some (y.name,i)else none|none=>none
def cP (l:List (ByteArray×Nat)) (x:ByteArray):Option Nat:=(l.find? fun y=>decide (y.1=x)).map (·.2)
def atM (F:List Nd):Nat->List ByteArray->Option Nat
 |i,[]=>some i
 |i,x::l=>if ak F i=2 then(match cP (aG F i) x with|some j=>atM F j l|none=>none)else none
def bA (e:Ent) (up:Nat) (x:ByteArray):Nd:=⟨e.kind,e.mode,e.uid,e.gid,e.n,up,x,e.dat,e.to⟩
def addM (F:List Nd) (e:Ent):Int×List Nd:=
 if may e≠0 then(may e,F)
 else if(atM F 0 (aq e.path)).isSome=true then(7,F)
 else match atM F 0 (aq e.path).dropLast with
  |none=>(3,F)
  |some up=>if ak F up≠2 then(8,F)else(0,F++[bA e up ((aq e.path).getLastD ⟨#[]⟩)])
def newM (F:List Nd):Nat->List Ent->Int×Int×List Nd
 |_,[]=>(0,0,F)
 |i,e::l=>if(addM F e).1≠0 then((addM F e).1,(i:Int),F)else newM (addM F e).2 (i+1) l
variable {F:List Nd} {i:Nat}
theorem fW {y:Nd} (h:F[i]? =some y):ak F i=y.kind:=by unfold ak;rw[h]
theorem cD (y:Nd) (h:i<F.length):ak (F++[y]) i=ak F i:=by
 unfold ak;rw[uR h]
theorem fP {α β:Type} {f g:α->Option β} : ∀ {l:List α},(∀x∈l,f x=g x)->l.filterMap f=l.filterMap g
 | [],_ =>rfl
 |x::l,h=>by
  rw[List.filterMap_cons,List.filterMap_cons,h x (vc ..),fP fun y hy=>h y (vb _ hy)]
theorem iG (F:List Nd) (y:Nd) (d:Nat) (h:0<F.length):aG (F++[y]) d=aG F d++if y.up=d then [(y.name,F.length)]else []:=by
 unfold aG;rw[uM,uT,List.range_succ,List.filterMap_append];congr 1
 ·refine fP fun i hi=>?_;rw[uR (List.mem_range.1 hi)]
 ·simp only[List.filterMap_cons,List.filterMap_nil];rw[uQ (uK _)];simp only[Nat.sub_self,List.getElem?_cons_zero];by_cases hu:y.up=d
  ·rw[if_pos hu,if_pos ⟨h,hu⟩]
  ·rw[if_neg hu,if_neg (fun e=>hu e.2)]
theorem bz {d:Nat} {x:ByteArray×Nat} (h:x∈aG F d):x.2<F.length/\0<x.2/\ ∃y,F[x.2]? =some y/\y.up=d/\y.name=x.1:=by
 unfold aG at h;obtain⟨i,hi,h2⟩:=List.mem_filterMap.1 h;have hl:=List.mem_range.1 hi;cases hf:F[i]? with
 |none=>rw[hf]at h2;cases h2
 |some y=>
  rw[hf]at h2;simp only at h2;split at h2
  ·next h3=>
   injection h2 with h2;subst h2;exact⟨hl,h3.1,y,hf,h3.2,rfl⟩
  ·cases h2
variable {x:ByteArray} {j:Nat}
theorem dX {l:List (ByteArray×Nat)} (h:cP l x=some j):(x,j)∈l:=by
 unfold cP at h;cases hf:l.find? (fun y=>decide (y.1=x))with
 |none=>rw[hf]at h;cases h
 |some y=>
  rw[hf]at h;injection h with h;have h1:=List.mem_of_find?_eq_some hf;have h2:=List.find?_some hf;have h3:y.1=x:=(by simpa using h2);rw[<-h3,<-h];exact h1
theorem qV {l:List (ByteArray×Nat)} (h:cP l x=none): ∀y∈l,y.1≠x:=by
 unfold cP at h;intro y hy;have:=List.find?_eq_none.1 (by simpa using h:l.find? (fun y=>decide (y.1=x))=none) y hy;simpa using this
theorem tZ (l:List ByteArray): ∀ {i j:Nat},i<F.length->atM F i l=some j->j<F.length:=by
 induction l with
 |nil=>intro i j h1 h2;unfold atM at h2;injection h2 with h2;omega
 |cons x l ih=>
  intro i j h1 h2;unfold atM at h2;split at h2
  ·split at h2
   ·next k hk=>exact ih (bz (dX hk)).1 h2
   ·cases h2
  ·cases h2
variable {l:List ByteArray}
theorem atM_go (h:ak F i=2) (hj:cP (aG F i) x=some j):atM F i (x::l)=atM F j l:=by
 rw[atM,if_pos h,hj]
theorem atM_no (h:ak F i=2) (hj:cP (aG F i) x=none):atM F i (x::l)=none:=by
 rw[atM,if_pos h,hj]
theorem atM_leaf (h:ak F i≠2):atM F i (x::l)=none:=by
 rw[atM,if_neg h]
theorem atM_snoc (l:List ByteArray) (x:ByteArray): ∀i,atM F i (l++[x])=match atM F i l with|some u=>atM F u [x]|none=>none:=by
 induction l with
 |nil=>intro i;rfl
 |cons y l ih=>
  intro i;rw[List.cons_append,atM,atM];split
  ·split
   ·exact ih _
   ·rfl
  ·rfl
structure NdOk (N:Nat) (y:Nd):Prop where
 kind:1<=y.kind/\y.kind<=3
 few:y.n<=65536
 up:y.up<N
structure FOk (F:List Nd):Prop where
 each: ∀(i:Nat) (y:Nd),F[i]? =some y->NdOk F.length y
 root: ∃y,F[0]? =some y/\y.kind=2/\y.up=0
theorem FOk.pos (h:FOk F):0<F.length:=by
 obtain⟨y,hy,_⟩:=h.root;exact(List.getElem?_eq_some_iff.1 hy).1
theorem FOk.start:FOk [aB]:=⟨fun i y h=>by
 cases i with
 |zero=>simp at h;subst h;exact⟨by decide,by decide,by decide⟩
 |succ i=>simp at h,⟨_,rfl,rfl,rfl⟩⟩
variable {e:Ent}
theorem eA (h:may e=0):1<=e.kind/\e.kind<=3/\di e.mode=false/\chk e.path=0/\Lib.hasPrefix e.path.data.toList [47]=true/\aq e.path≠[]/\Lib.hasSuffix e.path.data.toList [47]=false/\dots (aq e.path)=false/\
  (e.kind=1\/e.n=0)/\(e.kind=3\/e.to.size=0)/\(e.kind=3->chk e.to=0)/\e.n<=65536:=by
 unfold may at h;split at h
 ·cases h
 split at h
 ·cases h
 split at h
 ·cases h
 split at h
 ·cases h
 split at h
 ·cases h
 next h1 h2 h3 h4 h5=>
 have g1:di e.mode=false:=by
  cases hc:di e.mode with
  |false=>rfl
  |true=>exact absurd (.inr (.inr hc)) h1
 refine⟨by omega,by omega,g1,?_,?_,?_,?_,?_,by omega,by omega,fun hk=>?_,by omega⟩
 ·by_cases c:chk e.path=0
  ·exact c
  ·exact absurd (.inl c) h2
 ·cases hc:Lib.hasPrefix e.path.data.toList [47]with
  |true=>rfl
  |false=>exact absurd (.inr (.inl hc)) h2
 ·intro hc;exact h2 (.inr (.inr (.inl hc)))
 ·cases hc:Lib.hasSuffix e.path.data.toList [47]with
  |false=>rfl
  |true=>exact absurd (.inr (.inr (.inr (.inl hc)))) h2
 ·cases hc:dots (aq e.path)with
  |false=>rfl
  |true=>exact absurd (.inr (.inr (.inr (.inr hc)))) h2
 ·by_cases c:chk e.to=0
  ·exact c
  ·exact absurd ⟨hk,c⟩ h4
theorem mi (h:FOk F) (h0:(addM F e).1=0):FOk (addM F e).2/\(addM F e).2.length=F.length+1/\may e=0/\ ∃up,atM F 0 (aq e.path)=none/\atM F 0 (aq e.path).dropLast=some up/\ak F up=2/\up<F.length/\(addM F e).2=F++[bA e up ((aq e.path).getLastD ⟨#[]⟩)]:=by
 unfold addM at h0⊢;split at h0
 ·next hm=>exact absurd h0 hm
 next hm=>
 split at h0
 ·cases h0
 next ha=>
 rw[if_neg hm,if_neg ha];split at h0
 ·cases h0
 next up hu=>
 split at h0
 ·cases h0
 next hk=>
 rw[hu];show FOk (if ak F up≠2 then((8:Int),F)else(0,F++[bA e up ((aq e.path).getLastD ⟨#[]⟩)])).2/\_;rw[if_neg hk];have Ji:may e=0:=(by omega);have RH:=tZ _ h.pos hu;obtain⟨m1,m2,_,_,_,_,_,_,_,_,_,m3⟩:=eA Ji;refine⟨⟨fun i y hy=>?_,?_⟩,by simp,Ji,up,by simpa using ha,rfl,by omega,RH,rfl⟩
 ·rw[uM,uT];by_cases hi:i<F.length
  ·rw[uR hi]at hy;have:=h.each i y hy;exact⟨this.kind,this.few,by have:=this.up;omega⟩
  ·rw[uQ (by omega)]at hy;have Bz:i-F.length=0:=by
    rcases Nat.eq_zero_or_pos (i-F.length)with e0|e0
    ·exact e0
    ·rw[List.getElem?_eq_none (by simp;omega)]at hy;cases hy
   rw[Bz]at hy;simp at hy;subst hy;exact⟨⟨m1,m2⟩,m3,by show up<_;omega⟩
 ·obtain⟨y,hy,hr⟩:=h.root;exact⟨y,by rw[uR h.pos];exact hy,hr⟩
end
section
open Go.RowKit Go.Sort
def IdxPost (l:List ByteArray) (w:World) (e:Ending) (w':World):Prop:= ∃i:Int,e= .returned (.int .i64 i)/\w'=w/\dots l=decide (0<=i)
variable {l:List ByteArray}
theorem dots_at {k:Nat} {x:ByteArray} (h:l[k]? =some x) (hx:((ByteArray.mk #[46,46]).toList==x.toList)=true):dots l=true:=by
 unfold dots;refine List.any_eq_true.2 ⟨x,uS h,?_⟩;have e:=eq_of_beq hx;rw[ByteArray.toList_eq,ByteArray.toList_eq]at e;rw[beq_iff_eq];exact(Array.toList_inj.1 e).symm
theorem dots_not (h: ∀k,k<l.length-> ∀x,l[k]? =some x->((ByteArray.mk #[46,46]).toList==x.toList)=false):dots l=false:=by
 unfold dots;rw[List.any_eq_false];intro x hx e;obtain⟨k,hk,e2⟩:=List.getElem_of_mem hx;have h1:=h k hk x (by rw[uN hk,e2]);rw[beq_iff_eq]at e;rw[ByteArray.toList_eq,ByteArray.toList_eq,e]at h1;simp at h1
theorem rh (base cap:Nat) (A:Option Addr) (l:List ByteArray) (w:World) (hO:OwnS w base A cap l) (vH:l.length<100000):
  Calls Tryz.prog 187 #[.slice A l.length cap, .string ⟨#[46,46]⟩] w (IdxPost l w):=by
 have wN:=hO.form;have HO:=uH hO;obtain⟨n,hn⟩: ∃n,n=l.length:=⟨_,rfl⟩;rw[<-hn]at vH wN⊢;obtain⟨s,hs⟩: ∃s:ByteArray,s=⟨#[46,46]⟩:=⟨_,rfl⟩;rw[<-hs];have HN:=uH hn;have HS:=uH hs;clear hO hn hs;go_enter Tryz.func187,Tryz.ntmps187;go_wp2_with fail;go_loop [8] (fun i=> ∃k:Nat,k<=n/\i= .int .i64 (k:Int)/\ ∀j,j<k-> ∀x,l[j]? =some x->(s.toList==x.toList)=false) (fun i=>n-(intOf i).toNat)
 case atStart=>exact⟨0,by omega,rfl,fun j hj=>by omega⟩
 case round=>
  obtain⟨k,hk,rfl,vE⟩:=hrel;have yT:=uH vE;clear vE;by_cases vo:k<n
  ·rcases wN with⟨_,h2,_⟩|⟨g,hA,_,_,wB⟩
   ·exfalso;have:=HN.out;rw[h2]at this;simp at this;omega
   subst hA;obtain⟨x,hx⟩: ∃x,l[k]? =some x:=⟨_,uN (by rw[<-HN.out];exact vo)⟩;have c0:w.cell? ⟨g,k,none⟩=some (.string x):=OwnS.elem HO.out hx;have HX:=uH hx;clear hx;cases hc:(s.toList==x.toList)with
   |true=>
    have HC:=uH hc;go_wp2_with fail;go_ret;exact⟨_,rfl,rfl,by rw[dots_at HX.out (by rw[<-HS.out];exact HC.out)];simp⟩
   |false=>
    have HC:=uH hc;go_wp2_with fail;go_round
    case rel=>
     refine⟨k+1,by omega,by go_num,fun j hj y hy=>?_⟩;rcases Nat.lt_succ_iff_lt_or_eq.1 hj with h1|h1
     ·exact yT.out j h1 y hy
     ·subst h1;rw[HX.out]at hy;injection hy with hy;subst hy;exact HC.out
    case measure=>simp[intOf];omega
  ·obtain rfl:k=n:=(by omega);go_wp2_with fail;go_ret;exact⟨-1,rfl,rfl,by rw[dots_not (fun j hj y hy=>by rw[<-HS.out];exact yT.out j (by rw[HN.out];exact hj) y hy)];rfl⟩
theorem ma (base cap:Nat) (A:Option Addr) (l:List ByteArray) (w:World) (hO:OwnS w base A cap l) (vH:l.length<100000):
  Calls Tryz.prog 163 #[.slice A l.length cap, .string ⟨#[46,46]⟩] w fun e w'=>e= .returned (.bool (dots l))/\w'=w:=by
 have hi:=uH (rh base cap A l w hO vH);cases hd:dots l
 all_goals
  have HD:=uH hd;clear hd hO;go_enter Tryz.func163,Tryz.ntmps163;go_wp2_with (first
   |(go_at_call 187;refine(hi.out).mono ?_;rintro e w3 ⟨i,rfl,rfl,Yh⟩;rw[HD.out]at Yh;have hdi2:=Yh.symm;clear Yh)
   |fail)
  go_ret;exact⟨rfl,rfl⟩
end
section
open Go.RowKit Go.Sort
def Ent.val (e:Ent) (A:Option Addr) (c:Nat):Value:= .agg #[.string e.path, .int .u8 (e.kind:Int), .int .u16 (e.mode:Int), .int .u32 (e.uid:Int), .int .u32 (e.gid:Int), .slice A e.n c, .string e.to]
variable {t:ByteArray}
theorem iS (h:t.size=0):(!t.toList.isEmpty)=false:=by
 have e:t=⟨#[]⟩:=by
  cases t with
  |mk d=>exact congrArg ByteArray.mk (Array.eq_empty_of_size_eq_zero h)
 subst e;rw[ByteArray.toList_eq];rfl
theorem le (h:t.size≠0):(!t.toList.isEmpty)=true:=by
 cases hc:t.toList with
 |nil=>
  exfalso;apply h;have h9:t.data.toList=[]:=(by rw[<-hc];exact(ByteArray.toList_eq t).symm);have h8:t.data.toList.length=0:=(by rw[h9];rfl);exact h8
 |cons x l=>rfl
theorem OwnS.kept {w w':World} {base:Nat} {A:Option Addr} {cap:Nat} {l:List ByteArray} (h:OwnS w base A cap l) (hb:Below w.heap.size w w'):OwnS w' base A cap l:=h.same fun g hg=>by
 rcases h.form with⟨e,_⟩|⟨g',e,_,h2,_⟩
 ·rw[e]at hg;cases hg
 ·rw[e]at hg;injection hg with hg;injection hg with hg;subst hg;exact hb.block _ h2
def VpPost (mr:Int) (L:List ByteArray) (w:World) (e:Ending) (w':World):Prop:=
 ∃A1 vj l,e= .returned (.tuple #[.slice A1 l.length vj, .int .i64 mr])/\OwnS w' w.heap.size A1 vj l/\Below w.heap.size w w'/\(mr=0->l=L)/\(mr≠0->A1=none/\vj=0/\l=[])
theorem dM (x:Ent) (A:Option Addr) (c:Nat) (w:World) (hp:x.path.size<=1000000000) (ht:x.to.size<=1000000000) (hn:x.n<=9223372036854775807):
  Calls Tryz.prog 133 #[x.val A c] w (VpPost (may x) (aq x.path) w):=by
 obtain⟨path,kind,mode,uid,gid,n,dat,lk⟩:=x;simp only at hp ht hn;obtain⟨K,PJ⟩: ∃K:Int,K=(kind:Int):=⟨_,rfl⟩;have Wt:0<=K:=(by omega);obtain⟨w0,vl⟩: ∃w0,w0=w.alloc (.cells #[.string path, .int .u8 K, .int .u16 (mode:Int), .int .u32 (uid:Int), .int .u32 (gid:Int), .slice A n c, .string lk] 93):=⟨_,rfl⟩;have vm:Below w.heap.size w w0:=(by rw[vl];exact uJ);have hE:w0.heap[w.heap.size]? =some (.cells #[.string path, .int .u8 K, .int .u16 (mode:Int), .int .u32 (uid:Int), .int .u32 (gid:Int), .slice A n c, .string lk] 93 (0,0)):=(by rw[vl];exact ab w _);have wF:w.heap.size<w0.heap.size:=(uG hE).1;have d0:w0.cell? ⟨w.heap.size,0,none⟩=some (.string path):=aa hE 0;have HE:=uH hE;have vF:=uH vl;clear hE vl;unfold Ent.val;simp only;rw[<-PJ];by_cases hc:chk path=0
 rotate_left
 ·have Gf:may ⟨path,kind,mode,uid,gid,n,dat,lk⟩=1:=by
   unfold may;simp only;split
   ·rfl
   ·rw[if_pos (.inl hc)]
  rw[Gf];have UZ:=uH (fun W=>sP path W hp hc);have vu:(chk path != 0)=true:=(by rw[bne_iff_ne];exact hc);obtain⟨r,hr⟩: ∃r,r=chk path:=⟨_,rfl⟩;rw[<-hr]at vu UZ;clear Gf hc hr PJ;go_enter Tryz.func133,Tryz.ntmps133;go_upto_region 1 with(fail);rw[<-vF.out];go_wp2_with (first
   |(go_at_call 161;refine(UZ.out _).mono ?_;rintro e w1 ⟨rfl,vk⟩;have vn:=(vk.block _ wF).trans HE.out;have e1:w1.cell? ⟨w.heap.size,1,none⟩=some (.int .u8 K):=aa vn 1;have e2:w1.cell? ⟨w.heap.size,2,none⟩=some (.int .u16 (mode:Int)):=aa vn 2;have xf:=uH vn;have vq:=uH (vm.trans (vk.mono vm.size));clear vn vk)
   |fail)
  all_goals
   go_ret2;exact⟨none,0,[],rfl,OwnS.nil _ _,vq.out,(fun e=>by cases e),fun _ =>⟨rfl,rfl,rfl⟩⟩
 have CE:=cW hc;have Sq:path.size<=200:=CE.2.1;obtain⟨L,hL⟩: ∃L,L=aq path:=⟨_,rfl⟩;obtain⟨k,hk⟩: ∃k,k=L.length:=⟨_,rfl⟩;have hkf:k<=201:=(by rw[hk,hL];have:=bc path;omega);obtain⟨pb,hpb⟩: ∃pb,pb=Lib.hasPrefix path.data.toList [47]:=⟨_,rfl⟩;obtain⟨tb,MA⟩: ∃tb,tb=Lib.hasSuffix path.data.toList [47]:=⟨_,rfl⟩;obtain⟨db,zE⟩: ∃db,db=dots L:=⟨_,rfl⟩;obtain⟨mb,DI⟩: ∃mb,mb=di mode:=⟨_,rfl⟩;have EP:=fun W=>parts_ok path W hc;unfold ce at EP;rw[<-hL,<-hpb,<-hk]at EP;have On:=fun W=>tail_any path W (by omega);rw[<-MA]at On;have hcd: ∀W base A1 vj,OwnS W base A1 vj L->Calls Tryz.prog 163 #[.slice A1 k vj, .string ⟨#[46,46]⟩] W fun e w'=>e= .returned (.bool db)/\w'=W:=fun W base A1 vj ho=>by
  rw[zE,hk];exact ma base vj A1 L W ho (by omega)
 obtain⟨ct,LC⟩: ∃ct,ct=chk lk:=⟨_,rfl⟩;have zz:=fun W=>oS lk W ht;rw[<-LC]at zz;obtain⟨mr,Gf⟩: ∃mr,mr=may ⟨path,kind,mode,uid,gid,n,dat,lk⟩:=⟨_,rfl⟩;rw[<-Gf,<-hL];have vt:mr=if K<1\/3<K\/mb=true then 1 else if pb=false\/k=0\/tb=true\/db=true then 1
   else if(K≠1/\0<n)\/(K≠3/\lk.size≠0)then 1 else if K=3/\ct≠0 then 1 else if 65536<n then 12 else 0:=by
  have i1:(K<1)=(kind<1):=(by apply propext;omega);have i2:(3<K)=(3<kind):=(by apply propext;omega);have i3:(K=1)=(kind=1):=(by apply propext;omega);have i4:(K=3)=(kind=3):=(by apply propext;omega);rw[Gf,hpb,hk,MA,zE,LC,hL,DI];simp only[i1,i2,i3,i4,ne_eq];unfold may;simp only[hc,ne_eq,not_true_eq_false,false_or,List.length_eq_zero_iff]
 have hmbt:(bits .andNot .u16 (mode:Int) 2559 != 0)=mb:=DI.symm;have zI:=uH EP;have zH:=uH On;have Fb:=uH hcd;have DC:=uH zz;have HK:=uH hk;clear EP On zz hcd zE hpb MA LC Gf hk hL hc CE PJ DI;by_cases c1:K<1
 ·have hm:mr=1:=(by rw[vt];exact if_pos (.inl c1));subst hm;clear vt;go_enter Tryz.func133,Tryz.ntmps133;go_upto_region 1 with(fail);rw[<-vF.out];go_wp2_with (first
   |(go_at_call 161;refine(zI.out _).mono ?_;rintro e w1 ⟨A1,vj,rfl,vL,vk⟩;have vn:=(vk.block _ wF).trans HE.out;have e0:w1.cell? ⟨w.heap.size,0,none⟩=some (.string path):=aa vn 0;have e1:w1.cell? ⟨w.heap.size,1,none⟩=some (.int .u8 _):=aa vn 1;have e2:w1.cell? ⟨w.heap.size,2,none⟩=some (.int .u16 (mode:Int)):=aa vn 2;have e5:w1.cell? ⟨w.heap.size,5,none⟩=some (.slice A _ c):=aa vn 5;have e6:w1.cell? ⟨w.heap.size,6,none⟩=some (.string lk):=aa vn 6;have xf:=uH vn;have vq:=uH (vm.trans (vk.mono vm.size));have vx:=uH vL;clear vn vk vL)
   |(go_at_call 162;refine(zH.out _).mono ?_;rintro e w2 ⟨rfl,rfl⟩)
   |(go_at_call 163;refine(Fb.out _ _ _ _ vx.out).mono ?_;rintro e w3 ⟨rfl,rfl⟩)
   |(go_at_call 164;refine(DC.out _).mono ?_;rintro e w4 ⟨rfl,vD⟩;have xC:=(vD.block _ (uG xf.out).1).trans xf.out;have f5:w4.cell? ⟨w.heap.size,5,none⟩=some (.slice A _ c):=aa xC 5;have wu:=uH (vq.out.trans (vD.mono vq.out.size));have xv:=uH (OwnS.kept vx.out vD);clear vD xC)
   |fail)
  all_goals
   go_ret2;exact⟨none,0,[],rfl,OwnS.nil _ _,(by first|exact wu.out|exact vq.out),(fun e=>by cases e),fun _ =>⟨rfl,rfl,rfl⟩⟩
 by_cases c2:3<K
 ·have hm:mr=1:=(by rw[vt];exact if_pos (.inr (.inl c2)));subst hm;clear vt;go_enter Tryz.func133,Tryz.ntmps133;go_upto_region 1 with(fail);rw[<-vF.out];go_wp2_with (first
   |(go_at_call 161;refine(zI.out _).mono ?_;rintro e w1 ⟨A1,vj,rfl,vL,vk⟩;have vn:=(vk.block _ wF).trans HE.out;have e0:w1.cell? ⟨w.heap.size,0,none⟩=some (.string path):=aa vn 0;have e1:w1.cell? ⟨w.heap.size,1,none⟩=some (.int .u8 _):=aa vn 1;have e2:w1.cell? ⟨w.heap.size,2,none⟩=some (.int .u16 (mode:Int)):=aa vn 2;have e5:w1.cell? ⟨w.heap.size,5,none⟩=some (.slice A _ c):=aa vn 5;have e6:w1.cell? ⟨w.heap.size,6,none⟩=some (.string lk):=aa vn 6;have xf:=uH vn;have vq:=uH (vm.trans (vk.mono vm.size));have vx:=uH vL;clear vn vk vL)
   |(go_at_call 162;refine(zH.out _).mono ?_;rintro e w2 ⟨rfl,rfl⟩)
   |(go_at_call 163;refine(Fb.out _ _ _ _ vx.out).mono ?_;rintro e w3 ⟨rfl,rfl⟩)
   |(go_at_call 164;refine(DC.out _).mono ?_;rintro e w4 ⟨rfl,vD⟩;have xC:=(vD.block _ (uG xf.out).1).trans xf.out;have f5:w4.cell? ⟨w.heap.size,5,none⟩=some (.slice A _ c):=aa xC 5;have wu:=uH (vq.out.trans (vD.mono vq.out.size));have xv:=uH (OwnS.kept vx.out vD);clear vD xC)
   |fail)
  all_goals
   go_ret2;exact⟨none,0,[],rfl,OwnS.nil _ _,(by first|exact wu.out|exact vq.out),(fun e=>by cases e),fun _ =>⟨rfl,rfl,rfl⟩⟩
 rcases(by cases mb<;>simp:mb=true\/mb=false)with rfl|rfl
 ·have hm:mr=1:=(by rw[vt];exact if_pos (.inr (.inr rfl)));subst hm;clear vt;go_enter Tryz.func133,Tryz.ntmps133;go_upto_region 1 with(fail);rw[<-vF.out];go_wp2_with (first
   |(go_at_call 161;refine(zI.out _).mono ?_;rintro e w1 ⟨A1,vj,rfl,vL,vk⟩;have vn:=(vk.block _ wF).trans HE.out;have e0:w1.cell? ⟨w.heap.size,0,none⟩=some (.string path):=aa vn 0;have e1:w1.cell? ⟨w.heap.size,1,none⟩=some (.int .u8 _):=aa vn 1;have e2:w1.cell? ⟨w.heap.size,2,none⟩=some (.int .u16 (mode:Int)):=aa vn 2;have e5:w1.cell? ⟨w.heap.size,5,none⟩=some (.slice A _ c):=aa vn 5;have e6:w1.cell? ⟨w.heap.size,6,none⟩=some (.string lk):=aa vn 6;have xf:=uH vn;have vq:=uH (vm.trans (vk.mono vm.size));have vx:=uH vL;clear vn vk vL)
   |(go_at_call 162;refine(zH.out _).mono ?_;rintro e w2 ⟨rfl,rfl⟩)
   |(go_at_call 163;refine(Fb.out _ _ _ _ vx.out).mono ?_;rintro e w3 ⟨rfl,rfl⟩)
   |(go_at_call 164;refine(DC.out _).mono ?_;rintro e w4 ⟨rfl,vD⟩;have xC:=(vD.block _ (uG xf.out).1).trans xf.out;have f5:w4.cell? ⟨w.heap.size,5,none⟩=some (.slice A _ c):=aa xC 5;have wu:=uH (vq.out.trans (vD.mono vq.out.size));have xv:=uH (OwnS.kept vx.out vD);clear vD xC)
   |fail)
  all_goals
   go_ret2;exact⟨none,0,[],rfl,OwnS.nil _ _,(by first|exact wu.out|exact vq.out),(fun e=>by cases e),fun _ =>⟨rfl,rfl,rfl⟩⟩
 have n1: ¬(K<1\/3<K\/false=true):=(by simp;omega);rw[if_neg n1]at vt;clear n1;rcases(by cases pb<;>simp:pb=false\/pb=true)with rfl|rfl
 ·have hm:mr=1:=(by rw[vt];exact if_pos (.inl rfl));subst hm;clear vt;go_enter Tryz.func133,Tryz.ntmps133;go_upto_region 1 with(fail);rw[<-vF.out];go_wp2_with (first
   |(go_at_call 161;refine(zI.out _).mono ?_;rintro e w1 ⟨A1,vj,rfl,vL,vk⟩;have vn:=(vk.block _ wF).trans HE.out;have e0:w1.cell? ⟨w.heap.size,0,none⟩=some (.string path):=aa vn 0;have e1:w1.cell? ⟨w.heap.size,1,none⟩=some (.int .u8 _):=aa vn 1;have e2:w1.cell? ⟨w.heap.size,2,none⟩=some (.int .u16 (mode:Int)):=aa vn 2;have e5:w1.cell? ⟨w.heap.size,5,none⟩=some (.slice A _ c):=aa vn 5;have e6:w1.cell? ⟨w.heap.size,6,none⟩=some (.string lk):=aa vn 6;have xf:=uH vn;have vq:=uH (vm.trans (vk.mono vm.size));have vx:=uH vL;clear vn vk vL)
   |(go_at_call 162;refine(zH.out _).mono ?_;rintro e w2 ⟨rfl,rfl⟩)
   |(go_at_call 163;refine(Fb.out _ _ _ _ vx.out).mono ?_;rintro e w3 ⟨rfl,rfl⟩)
   |(go_at_call 164;refine(DC.out _).mono ?_;rintro e w4 ⟨rfl,vD⟩;have xC:=(vD.block _ (uG xf.out).1).trans xf.out;have f5:w4.cell? ⟨w.heap.size,5,none⟩=some (.slice A _ c):=aa xC 5;have wu:=uH (vq.out.trans (vD.mono vq.out.size));have xv:=uH (OwnS.kept vx.out vD);clear vD xC)
   |fail)
  all_goals
   go_ret2;exact⟨none,0,[],rfl,OwnS.nil _ _,(by first|exact wu.out|exact vq.out),(fun e=>by cases e),fun _ =>⟨rfl,rfl,rfl⟩⟩
 by_cases c5:k=0
 ·subst c5;have hm:mr=1:=(by rw[vt];exact if_pos (.inr (.inl rfl)));subst hm;clear vt;go_enter Tryz.func133,Tryz.ntmps133;go_upto_region 1 with(fail);rw[<-vF.out];go_wp2_with (first
   |(go_at_call 161;refine(zI.out _).mono ?_;rintro e w1 ⟨A1,vj,rfl,vL,vk⟩;have vn:=(vk.block _ wF).trans HE.out;have e0:w1.cell? ⟨w.heap.size,0,none⟩=some (.string path):=aa vn 0;have e1:w1.cell? ⟨w.heap.size,1,none⟩=some (.int .u8 _):=aa vn 1;have e2:w1.cell? ⟨w.heap.size,2,none⟩=some (.int .u16 (mode:Int)):=aa vn 2;have e5:w1.cell? ⟨w.heap.size,5,none⟩=some (.slice A _ c):=aa vn 5;have e6:w1.cell? ⟨w.heap.size,6,none⟩=some (.string lk):=aa vn 6;have xf:=uH vn;have vq:=uH (vm.trans (vk.mono vm.size));have vx:=uH vL;clear vn vk vL)
   |(go_at_call 162;refine(zH.out _).mono ?_;rintro e w2 ⟨rfl,rfl⟩)
   |(go_at_call 163;refine(Fb.out _ _ _ _ vx.out).mono ?_;rintro e w3 ⟨rfl,rfl⟩)
   |(go_at_call 164;refine(DC.out _).mono ?_;rintro e w4 ⟨rfl,vD⟩;have xC:=(vD.block _ (uG xf.out).1).trans xf.out;have f5:w4.cell? ⟨w.heap.size,5,none⟩=some (.slice A _ c):=aa xC 5;have wu:=uH (vq.out.trans (vD.mono vq.out.size));have xv:=uH (OwnS.kept vx.out vD);clear vD xC)
   |fail)
  all_goals
   go_ret2;exact⟨none,0,[],rfl,OwnS.nil _ _,(by first|exact wu.out|exact vq.out),(fun e=>by cases e),fun _ =>⟨rfl,rfl,rfl⟩⟩
 rcases(by cases tb<;>simp:tb=true\/tb=false)with rfl|rfl
 ·have hm:mr=1:=(by rw[vt];exact if_pos (.inr (.inr (.inl rfl))));subst hm;clear vt;go_enter Tryz.func133,Tryz.ntmps133;go_upto_region 1 with(fail);rw[<-vF.out];go_wp2_with (first
   |(go_at_call 161;refine(zI.out _).mono ?_;rintro e w1 ⟨A1,vj,rfl,vL,vk⟩;have vn:=(vk.block _ wF).trans HE.out;have e0:w1.cell? ⟨w.heap.size,0,none⟩=some (.string path):=aa vn 0;have e1:w1.cell? ⟨w.heap.size,1,none⟩=some (.int .u8 _):=aa vn 1;have e2:w1.cell? ⟨w.heap.size,2,none⟩=some (.int .u16 (mode:Int)):=aa vn 2;have e5:w1.cell? ⟨w.heap.size,5,none⟩=some (.slice A _ c):=aa vn 5;have e6:w1.cell? ⟨w.heap.size,6,none⟩=some (.string lk):=aa vn 6;have xf:=uH vn;have vq:=uH (vm.trans (vk.mono vm.size));have vx:=uH vL;clear vn vk vL)
   |(go_at_call 162;refine(zH.out _).mono ?_;rintro e w2 ⟨rfl,rfl⟩)
   |(go_at_call 163;refine(Fb.out _ _ _ _ vx.out).mono ?_;rintro e w3 ⟨rfl,rfl⟩)
   |(go_at_call 164;refine(DC.out _).mono ?_;rintro e w4 ⟨rfl,vD⟩;have xC:=(vD.block _ (uG xf.out).1).trans xf.out;have f5:w4.cell? ⟨w.heap.size,5,none⟩=some (.slice A _ c):=aa xC 5;have wu:=uH (vq.out.trans (vD.mono vq.out.size));have xv:=uH (OwnS.kept vx.out vD);clear vD xC)
   |fail)
  all_goals
   go_ret2;exact⟨none,0,[],rfl,OwnS.nil _ _,(by first|exact wu.out|exact vq.out),(fun e=>by cases e),fun _ =>⟨rfl,rfl,rfl⟩⟩
 rcases(by cases db<;>simp:db=true\/db=false)with rfl|rfl
 ·have hm:mr=1:=(by rw[vt];exact if_pos (.inr (.inr (.inr rfl))));subst hm;clear vt;go_enter Tryz.func133,Tryz.ntmps133;go_upto_region 1 with(fail);rw[<-vF.out];go_wp2_with (first
   |(go_at_call 161;refine(zI.out _).mono ?_;rintro e w1 ⟨A1,vj,rfl,vL,vk⟩;have vn:=(vk.block _ wF).trans HE.out;have e0:w1.cell? ⟨w.heap.size,0,none⟩=some (.string path):=aa vn 0;have e1:w1.cell? ⟨w.heap.size,1,none⟩=some (.int .u8 _):=aa vn 1;have e2:w1.cell? ⟨w.heap.size,2,none⟩=some (.int .u16 (mode:Int)):=aa vn 2;have e5:w1.cell? ⟨w.heap.size,5,none⟩=some (.slice A _ c):=aa vn 5;have e6:w1.cell? ⟨w.heap.size,6,none⟩=some (.string lk):=aa vn 6;have xf:=uH vn;have vq:=uH (vm.trans (vk.mono vm.size));have vx:=uH vL;clear vn vk vL)
   |(go_at_call 162;refine(zH.out _).mono ?_;rintro e w2 ⟨rfl,rfl⟩)
   |(go_at_call 163;refine(Fb.out _ _ _ _ vx.out).mono ?_;rintro e w3 ⟨rfl,rfl⟩)
   |(go_at_call 164;refine(DC.out _).mono ?_;rintro e w4 ⟨rfl,vD⟩;have xC:=(vD.block _ (uG xf.out).1).trans xf.out;have f5:w4.cell? ⟨w.heap.size,5,none⟩=some (.slice A _ c):=aa xC 5;have wu:=uH (vq.out.trans (vD.mono vq.out.size));have xv:=uH (OwnS.kept vx.out vD);clear vD xC)
   |fail)
  all_goals
   go_ret2;exact⟨none,0,[],rfl,OwnS.nil _ _,(by first|exact wu.out|exact vq.out),(fun e=>by cases e),fun _ =>⟨rfl,rfl,rfl⟩⟩
 have n2: ¬(true=false\/k=0\/false=true\/false=true):=(by simp;omega);rw[if_neg n2]at vt;clear n2;rcases(by omega:K=1\/K=2\/K=3)with rfl|rfl|rfl
 ·by_cases c8:lk.size=0
  rotate_left
  ·have t0:=le c8;have hm:mr=1:=(by rw[vt];exact if_pos (.inr ⟨by decide,c8⟩));subst hm;clear vt;go_enter Tryz.func133,Tryz.ntmps133;go_upto_region 1 with(fail);rw[<-vF.out];go_wp2_with (first
    |(go_at_call 161;refine(zI.out _).mono ?_;rintro e w1 ⟨A1,vj,rfl,vL,vk⟩;have vn:=(vk.block _ wF).trans HE.out;have e0:w1.cell? ⟨w.heap.size,0,none⟩=some (.string path):=aa vn 0;have e1:w1.cell? ⟨w.heap.size,1,none⟩=some (.int .u8 _):=aa vn 1;have e2:w1.cell? ⟨w.heap.size,2,none⟩=some (.int .u16 (mode:Int)):=aa vn 2;have e5:w1.cell? ⟨w.heap.size,5,none⟩=some (.slice A _ c):=aa vn 5;have e6:w1.cell? ⟨w.heap.size,6,none⟩=some (.string lk):=aa vn 6;have xf:=uH vn;have vq:=uH (vm.trans (vk.mono vm.size));have vx:=uH vL;clear vn vk vL)
    |(go_at_call 162;refine(zH.out _).mono ?_;rintro e w2 ⟨rfl,rfl⟩)
    |(go_at_call 163;refine(Fb.out _ _ _ _ vx.out).mono ?_;rintro e w3 ⟨rfl,rfl⟩)
    |(go_at_call 164;refine(DC.out _).mono ?_;rintro e w4 ⟨rfl,vD⟩;have xC:=(vD.block _ (uG xf.out).1).trans xf.out;have f5:w4.cell? ⟨w.heap.size,5,none⟩=some (.slice A _ c):=aa xC 5;have wu:=uH (vq.out.trans (vD.mono vq.out.size));have xv:=uH (OwnS.kept vx.out vD);clear vD xC)
    |fail)
   all_goals
    go_ret2;exact⟨none,0,[],rfl,OwnS.nil _ _,(by first|exact wu.out|exact vq.out),(fun e=>by cases e),fun _ =>⟨rfl,rfl,rfl⟩⟩
  have t0:=iS c8;have n3: ¬(((1:Int)≠1/\0<n)\/((1:Int)≠3/\lk.size≠0)):=(by omega);rw[if_neg n3,if_neg (by omega)]at vt;clear n3;by_cases c9:65536<n
  ·have hm:mr=12:=(by rw[vt];exact if_pos c9);subst hm;clear vt;go_enter Tryz.func133,Tryz.ntmps133;go_upto_region 1 with(fail);rw[<-vF.out];go_wp2_with (first
    |(go_at_call 161;refine(zI.out _).mono ?_;rintro e w1 ⟨A1,vj,rfl,vL,vk⟩;have vn:=(vk.block _ wF).trans HE.out;have e0:w1.cell? ⟨w.heap.size,0,none⟩=some (.string path):=aa vn 0;have e1:w1.cell? ⟨w.heap.size,1,none⟩=some (.int .u8 _):=aa vn 1;have e2:w1.cell? ⟨w.heap.size,2,none⟩=some (.int .u16 (mode:Int)):=aa vn 2;have e5:w1.cell? ⟨w.heap.size,5,none⟩=some (.slice A _ c):=aa vn 5;have e6:w1.cell? ⟨w.heap.size,6,none⟩=some (.string lk):=aa vn 6;have xf:=uH vn;have vq:=uH (vm.trans (vk.mono vm.size));have vx:=uH vL;clear vn vk vL)
    |(go_at_call 162;refine(zH.out _).mono ?_;rintro e w2 ⟨rfl,rfl⟩)
    |(go_at_call 163;refine(Fb.out _ _ _ _ vx.out).mono ?_;rintro e w3 ⟨rfl,rfl⟩)
    |(go_at_call 164;refine(DC.out _).mono ?_;rintro e w4 ⟨rfl,vD⟩;have xC:=(vD.block _ (uG xf.out).1).trans xf.out;have f5:w4.cell? ⟨w.heap.size,5,none⟩=some (.slice A _ c):=aa xC 5;have wu:=uH (vq.out.trans (vD.mono vq.out.size));have xv:=uH (OwnS.kept vx.out vD);clear vD xC)
    |fail)
   all_goals
    go_ret2;exact⟨none,0,[],rfl,OwnS.nil _ _,(by first|exact wu.out|exact vq.out),(fun e=>by cases e),fun _ =>⟨rfl,rfl,rfl⟩⟩
  have hm:mr=0:=(by rw[vt];exact if_neg c9);subst hm;clear vt;go_enter Tryz.func133,Tryz.ntmps133;go_upto_region 1 with(fail);rw[<-vF.out];go_wp2_with (first
   |(go_at_call 161;refine(zI.out _).mono ?_;rintro e w1 ⟨A1,vj,rfl,vL,vk⟩;have vn:=(vk.block _ wF).trans HE.out;have e0:w1.cell? ⟨w.heap.size,0,none⟩=some (.string path):=aa vn 0;have e1:w1.cell? ⟨w.heap.size,1,none⟩=some (.int .u8 _):=aa vn 1;have e2:w1.cell? ⟨w.heap.size,2,none⟩=some (.int .u16 (mode:Int)):=aa vn 2;have e5:w1.cell? ⟨w.heap.size,5,none⟩=some (.slice A _ c):=aa vn 5;have e6:w1.cell? ⟨w.heap.size,6,none⟩=some (.string lk):=aa vn 6;have xf:=uH vn;have vq:=uH (vm.trans (vk.mono vm.size));have vx:=uH vL;clear vn vk vL)
   |(go_at_call 162;refine(zH.out _).mono ?_;rintro e w2 ⟨rfl,rfl⟩)
   |(go_at_call 163;refine(Fb.out _ _ _ _ vx.out).mono ?_;rintro e w3 ⟨rfl,rfl⟩)
   |(go_at_call 164;refine(DC.out _).mono ?_;rintro e w4 ⟨rfl,vD⟩;have xC:=(vD.block _ (uG xf.out).1).trans xf.out;have f5:w4.cell? ⟨w.heap.size,5,none⟩=some (.slice A _ c):=aa xC 5;have wu:=uH (vq.out.trans (vD.mono vq.out.size));have xv:=uH (OwnS.kept vx.out vD);clear vD xC)
   |fail)
  all_goals
   go_ret2;exact⟨A1,vj,L,HK.out▸rfl,(by first|exact OwnS.lower xv.out vm.size|exact OwnS.lower vx.out vm.size),(by first|exact wu.out|exact vq.out),(fun _ =>rfl),fun e=>absurd rfl e⟩
 ·by_cases c8:0<n
  ·have hm:mr=1:=(by rw[vt];exact if_pos (.inl ⟨by decide,c8⟩));subst hm;clear vt;go_enter Tryz.func133,Tryz.ntmps133;go_upto_region 1 with(fail);rw[<-vF.out];go_wp2_with (first
    |(go_at_call 161;refine(zI.out _).mono ?_;rintro e w1 ⟨A1,vj,rfl,vL,vk⟩;have vn:=(vk.block _ wF).trans HE.out;have e0:w1.cell? ⟨w.heap.size,0,none⟩=some (.string path):=aa vn 0;have e1:w1.cell? ⟨w.heap.size,1,none⟩=some (.int .u8 _):=aa vn 1;have e2:w1.cell? ⟨w.heap.size,2,none⟩=some (.int .u16 (mode:Int)):=aa vn 2;have e5:w1.cell? ⟨w.heap.size,5,none⟩=some (.slice A _ c):=aa vn 5;have e6:w1.cell? ⟨w.heap.size,6,none⟩=some (.string lk):=aa vn 6;have xf:=uH vn;have vq:=uH (vm.trans (vk.mono vm.size));have vx:=uH vL;clear vn vk vL)
    |(go_at_call 162;refine(zH.out _).mono ?_;rintro e w2 ⟨rfl,rfl⟩)
    |(go_at_call 163;refine(Fb.out _ _ _ _ vx.out).mono ?_;rintro e w3 ⟨rfl,rfl⟩)
    |(go_at_call 164;refine(DC.out _).mono ?_;rintro e w4 ⟨rfl,vD⟩;have xC:=(vD.block _ (uG xf.out).1).trans xf.out;have f5:w4.cell? ⟨w.heap.size,5,none⟩=some (.slice A _ c):=aa xC 5;have wu:=uH (vq.out.trans (vD.mono vq.out.size));have xv:=uH (OwnS.kept vx.out vD);clear vD xC)
    |fail)
   all_goals
    go_ret2;exact⟨none,0,[],rfl,OwnS.nil _ _,(by first|exact wu.out|exact vq.out),(fun e=>by cases e),fun _ =>⟨rfl,rfl,rfl⟩⟩
  by_cases c9:lk.size=0
  rotate_left
  ·have t0:=le c9;have hm:mr=1:=(by rw[vt];exact if_pos (.inr ⟨by decide,c9⟩));subst hm;clear vt;go_enter Tryz.func133,Tryz.ntmps133;go_upto_region 1 with(fail);rw[<-vF.out];go_wp2_with (first
    |(go_at_call 161;refine(zI.out _).mono ?_;rintro e w1 ⟨A1,vj,rfl,vL,vk⟩;have vn:=(vk.block _ wF).trans HE.out;have e0:w1.cell? ⟨w.heap.size,0,none⟩=some (.string path):=aa vn 0;have e1:w1.cell? ⟨w.heap.size,1,none⟩=some (.int .u8 _):=aa vn 1;have e2:w1.cell? ⟨w.heap.size,2,none⟩=some (.int .u16 (mode:Int)):=aa vn 2;have e5:w1.cell? ⟨w.heap.size,5,none⟩=some (.slice A _ c):=aa vn 5;have e6:w1.cell? ⟨w.heap.size,6,none⟩=some (.string lk):=aa vn 6;have xf:=uH vn;have vq:=uH (vm.trans (vk.mono vm.size));have vx:=uH vL;clear vn vk vL)
    |(go_at_call 162;refine(zH.out _).mono ?_;rintro e w2 ⟨rfl,rfl⟩)
    |(go_at_call 163;refine(Fb.out _ _ _ _ vx.out).mono ?_;rintro e w3 ⟨rfl,rfl⟩)
    |(go_at_call 164;refine(DC.out _).mono ?_;rintro e w4 ⟨rfl,vD⟩;have xC:=(vD.block _ (uG xf.out).1).trans xf.out;have f5:w4.cell? ⟨w.heap.size,5,none⟩=some (.slice A _ c):=aa xC 5;have wu:=uH (vq.out.trans (vD.mono vq.out.size));have xv:=uH (OwnS.kept vx.out vD);clear vD xC)
    |fail)
   all_goals
    go_ret2;exact⟨none,0,[],rfl,OwnS.nil _ _,(by first|exact wu.out|exact vq.out),(fun e=>by cases e),fun _ =>⟨rfl,rfl,rfl⟩⟩
  have t0:=iS c9;obtain rfl:n=0:=(by omega);have n3: ¬(((2:Int)≠1/\0<0)\/((2:Int)≠3/\lk.size≠0)):=(by omega);rw[if_neg n3,if_neg (by omega)]at vt;clear n3;have hm:mr=0:=(by rw[vt];exact if_neg (by omega));subst hm;clear vt;go_enter Tryz.func133,Tryz.ntmps133;go_upto_region 1 with(fail);rw[<-vF.out];go_wp2_with (first
   |(go_at_call 161;refine(zI.out _).mono ?_;rintro e w1 ⟨A1,vj,rfl,vL,vk⟩;have vn:=(vk.block _ wF).trans HE.out;have e0:w1.cell? ⟨w.heap.size,0,none⟩=some (.string path):=aa vn 0;have e1:w1.cell? ⟨w.heap.size,1,none⟩=some (.int .u8 _):=aa vn 1;have e2:w1.cell? ⟨w.heap.size,2,none⟩=some (.int .u16 (mode:Int)):=aa vn 2;have e5:w1.cell? ⟨w.heap.size,5,none⟩=some (.slice A _ c):=aa vn 5;have e6:w1.cell? ⟨w.heap.size,6,none⟩=some (.string lk):=aa vn 6;have xf:=uH vn;have vq:=uH (vm.trans (vk.mono vm.size));have vx:=uH vL;clear vn vk vL)
   |(go_at_call 162;refine(zH.out _).mono ?_;rintro e w2 ⟨rfl,rfl⟩)
   |(go_at_call 163;refine(Fb.out _ _ _ _ vx.out).mono ?_;rintro e w3 ⟨rfl,rfl⟩)
   |(go_at_call 164;refine(DC.out _).mono ?_;rintro e w4 ⟨rfl,vD⟩;have xC:=(vD.block _ (uG xf.out).1).trans xf.out;have f5:w4.cell? ⟨w.heap.size,5,none⟩=some (.slice A _ c):=aa xC 5;have wu:=uH (vq.out.trans (vD.mono vq.out.size));have xv:=uH (OwnS.kept vx.out vD);clear vD xC)
   |fail)
  all_goals
   go_ret2;exact⟨A1,vj,L,HK.out▸rfl,(by first|exact OwnS.lower xv.out vm.size|exact OwnS.lower vx.out vm.size),(by first|exact wu.out|exact vq.out),(fun _ =>rfl),fun e=>absurd rfl e⟩
 ·by_cases c8:0<n
  ·have hm:mr=1:=(by rw[vt];exact if_pos (.inl ⟨by decide,c8⟩));subst hm;clear vt;go_enter Tryz.func133,Tryz.ntmps133;go_upto_region 1 with(fail);rw[<-vF.out];go_wp2_with (first
    |(go_at_call 161;refine(zI.out _).mono ?_;rintro e w1 ⟨A1,vj,rfl,vL,vk⟩;have vn:=(vk.block _ wF).trans HE.out;have e0:w1.cell? ⟨w.heap.size,0,none⟩=some (.string path):=aa vn 0;have e1:w1.cell? ⟨w.heap.size,1,none⟩=some (.int .u8 _):=aa vn 1;have e2:w1.cell? ⟨w.heap.size,2,none⟩=some (.int .u16 (mode:Int)):=aa vn 2;have e5:w1.cell? ⟨w.heap.size,5,none⟩=some (.slice A _ c):=aa vn 5;have e6:w1.cell? ⟨w.heap.size,6,none⟩=some (.string lk):=aa vn 6;have xf:=uH vn;have vq:=uH (vm.trans (vk.mono vm.size));have vx:=uH vL;clear vn vk vL)
    |(go_at_call 162;refine(zH.out _).mono ?_;rintro e w2 ⟨rfl,rfl⟩)
    |(go_at_call 163;refine(Fb.out _ _ _ _ vx.out).mono ?_;rintro e w3 ⟨rfl,rfl⟩)
    |(go_at_call 164;refine(DC.out _).mono ?_;rintro e w4 ⟨rfl,vD⟩;have xC:=(vD.block _ (uG xf.out).1).trans xf.out;have f5:w4.cell? ⟨w.heap.size,5,none⟩=some (.slice A _ c):=aa xC 5;have wu:=uH (vq.out.trans (vD.mono vq.out.size));have xv:=uH (OwnS.kept vx.out vD);clear vD xC)
    |fail)
   all_goals
    go_ret2;exact⟨none,0,[],rfl,OwnS.nil _ _,(by first|exact wu.out|exact vq.out),(fun e=>by cases e),fun _ =>⟨rfl,rfl,rfl⟩⟩
  obtain rfl:n=0:=(by omega);have n3: ¬(((3:Int)≠1/\0<0)\/((3:Int)≠3/\lk.size≠0)):=(by omega);rw[if_neg n3]at vt;clear n3;by_cases c9:ct=0
  rotate_left
  ·have LC:(ct != 0)=true:=(by rw[bne_iff_ne];exact c9);have hm:mr=1:=(by rw[vt];exact if_pos ⟨rfl,c9⟩);subst hm;clear vt;go_enter Tryz.func133,Tryz.ntmps133;go_upto_region 1 with(fail);rw[<-vF.out];go_wp2_with (first
    |(go_at_call 161;refine(zI.out _).mono ?_;rintro e w1 ⟨A1,vj,rfl,vL,vk⟩;have vn:=(vk.block _ wF).trans HE.out;have e0:w1.cell? ⟨w.heap.size,0,none⟩=some (.string path):=aa vn 0;have e1:w1.cell? ⟨w.heap.size,1,none⟩=some (.int .u8 _):=aa vn 1;have e2:w1.cell? ⟨w.heap.size,2,none⟩=some (.int .u16 (mode:Int)):=aa vn 2;have e5:w1.cell? ⟨w.heap.size,5,none⟩=some (.slice A _ c):=aa vn 5;have e6:w1.cell? ⟨w.heap.size,6,none⟩=some (.string lk):=aa vn 6;have xf:=uH vn;have vq:=uH (vm.trans (vk.mono vm.size));have vx:=uH vL;clear vn vk vL)
    |(go_at_call 162;refine(zH.out _).mono ?_;rintro e w2 ⟨rfl,rfl⟩)
    |(go_at_call 163;refine(Fb.out _ _ _ _ vx.out).mono ?_;rintro e w3 ⟨rfl,rfl⟩)
    |(go_at_call 164;refine(DC.out _).mono ?_;rintro e w4 ⟨rfl,vD⟩;have xC:=(vD.block _ (uG xf.out).1).trans xf.out;have f5:w4.cell? ⟨w.heap.size,5,none⟩=some (.slice A _ c):=aa xC 5;have wu:=uH (vq.out.trans (vD.mono vq.out.size));have xv:=uH (OwnS.kept vx.out vD);clear vD xC)
    |fail)
   all_goals
    go_ret2;exact⟨none,0,[],rfl,OwnS.nil _ _,(by first|exact wu.out|exact vq.out),(fun e=>by cases e),fun _ =>⟨rfl,rfl,rfl⟩⟩
  subst c9;rw[if_neg (by omega)]at vt;have hm:mr=0:=(by rw[vt];exact if_neg (by omega));subst hm;clear vt;go_enter Tryz.func133,Tryz.ntmps133;go_upto_region 1 with(fail);rw[<-vF.out];go_wp2_with (first
   |(go_at_call 161;refine(zI.out _).mono ?_;rintro e w1 ⟨A1,vj,rfl,vL,vk⟩;have vn:=(vk.block _ wF).trans HE.out;have e0:w1.cell? ⟨w.heap.size,0,none⟩=some (.string path):=aa vn 0;have e1:w1.cell? ⟨w.heap.size,1,none⟩=some (.int .u8 _):=aa vn 1;have e2:w1.cell? ⟨w.heap.size,2,none⟩=some (.int .u16 (mode:Int)):=aa vn 2;have e5:w1.cell? ⟨w.heap.size,5,none⟩=some (.slice A _ c):=aa vn 5;have e6:w1.cell? ⟨w.heap.size,6,none⟩=some (.string lk):=aa vn 6;have xf:=uH vn;have vq:=uH (vm.trans (vk.mono vm.size));have vx:=uH vL;clear vn vk vL)
   |(go_at_call 162;refine(zH.out _).mono ?_;rintro e w2 ⟨rfl,rfl⟩)
   |(go_at_call 163;refine(Fb.out _ _ _ _ vx.out).mono ?_;rintro e w3 ⟨rfl,rfl⟩)
   |(go_at_call 164;refine(DC.out _).mono ?_;rintro e w4 ⟨rfl,vD⟩;have xC:=(vD.block _ (uG xf.out).1).trans xf.out;have f5:w4.cell? ⟨w.heap.size,5,none⟩=some (.slice A _ c):=aa xC 5;have wu:=uH (vq.out.trans (vD.mono vq.out.size));have xv:=uH (OwnS.kept vx.out vD);clear vD xC)
   |fail)
  all_goals
   go_ret2;exact⟨A1,vj,L,HK.out▸rfl,(by first|exact OwnS.lower xv.out vm.size|exact OwnS.lower vx.out vm.size),(by first|exact wu.out|exact vq.out),(fun _ =>rfl),fun e=>absurd rfl e⟩
end
section
open Go.RowKit Go.Sort
theorem js:Tryz.prog.underlying 9=some .string:=by kernel_rfl
theorem rG (v:Value) (w:World):(Instr.typeAssert (.iface 163 v) 189 163 true).run Tryz.prog w= .ok (.tuple #[v, .bool true]) w:=by kernel_rfl
theorem oV (v:Value) (w:World):(Instr.typeAssert (.iface 225 v) 189 225 true).run Tryz.prog w= .ok (.tuple #[v, .bool true]) w:=by kernel_rfl
end
section
open Go.RowKit Go.Sort
theorem sY:(Tryz.prog.info? 189).map (fun i=>(i.zero,i.size,i.bytes))=some (some .nilIface,1,16):=by kernel_rfl
theorem app_node {w:World} {ops:Array Oper} {rest:List Oper} {o:Oper} {a:Act} {Q:Exit->Act->World->Prop} (xT:o.guard=none) (s x:Operand)
  (ho:o.op= .call { callee:= .builtin .append,args:= #[s,x],argTypes:= #[169,169]})
  (A:Option Addr) (cap:Nat) (l:List Value) (hs:a.eval s= .slice A l.length cap) (vA:w.ownsRow 0 189 1 (.slice A l.length cap) l.length l)
  (t:Value) (ht:t.oneCell'=true) (b c:Nat) (hx:a.eval x= .slice (some ⟨b,0,none⟩) 1 c) (hb:w.heap[b]? =some (.cells #[t] 189 (0,0)))
  (vH:l.length<1000000)
  (h: ∀g vh w',w'.ownsRow 0 189 1 (.slice (some ⟨g,0,none⟩) (l.length+1) vh) (l.length+1) (l++[t])->w.grownBy w' (A.map (·.block))->(A.map (·.block)=some g\/g=w.heap.size)->g<w'.heap.size->wpList Tryz.prog ops Q rest (a.put o.dst (.slice (some ⟨g,0,none⟩) (l.length+1) vh)) w'):
  wpList Tryz.prog ops Q (o::rest) a w:=by
 obtain⟨i0,xD,vQ,vI,vO⟩:=info_parts sY;refine wpList_append_lies w xT s x 169 ho 0 189 i0 _ 1 16 Tryz.underlying169 xD vQ vI vO rfl (by omega) _ l.length l hs vA ⟨b,0,none⟩ 1 c [t] hx rfl (World.news_of_block (cs:= #[t]) hb)
  (by simpa using ht) (by omega) (by unfold maxLen;omega) (by omega) (vd _) w.heap.size rfl ?_
 intro g vh w' xg hg wC vo;refine h g vh w' xg ?_ ?_ vo
 ·cases A<;>simpa [Value.ownBlock]using hg
 ·cases A<;>simpa [Value.ownBlock]using wC
end
section
open Go.RowKit Go.Sort
end
section
open Go.RowKit Go.Sort
end
section
open Go.RowKit Go.Sort Go.ChangeMaps Go.MapKept
theorem sg {a b:ByteArray} (h:Value.string a=Value.string b):a=b:=by
 injection h
def bF (w:World) (m:Nat) (l:List (ByteArray×Nat)) (V:Nat->Value):Prop:=
 ∃es wb,w.heap[m]? =some (.map es wb)/\Stamped es wb/\es.toList.map (fun e=>(e.key,e.val))=l.map fun x=>(Value.string x.1,V x.2)
variable {w:World} {m:Nat} {l:List (ByteArray×Nat)} {V:Nat->Value}
theorem bF.same {w':World} (h:bF w m l V) (hb:w'.heap[m]? =w.heap[m]?):bF w' m l V:=by
 obtain⟨es,wb,h1,h2,h3⟩:=h;exact⟨es,wb,hb.trans h1,h2,h3⟩
theorem bF.lt (h:bF w m l V):m<w.heap.size:=by
 obtain⟨es,wb,h1,_⟩:=h;exact(uG h1).1
theorem bF.congr {V':Nat->Value} (h:bF w m l V) (hV: ∀x∈l,V' x.2=V x.2):bF w m l V':=by
 obtain⟨es,wb,h1,h2,h3⟩:=h;refine⟨es,wb,h1,h2,h3.trans (List.map_congr_left fun x hx=>?_)⟩;rw[hV x hx]
variable {es:Array MapEntry}
theorem il (h:es.toList.map (fun e=>(e.key,e.val))=l.map fun x=>(Value.string x.1,V x.2)): ∀e∈es.toList,∃x∈l,e.key= .string x.1/\e.val=V x.2:=fun e he=>by
 have h1:(e.key,e.val)∈l.map fun x=>(Value.string x.1,V x.2):=(by rw[<-h];exact List.mem_map.2 ⟨e,he,rfl⟩);obtain⟨x,hx,h2⟩:=List.mem_map.1 h1;exact⟨x,hx,(congrArg Prod.fst h2).symm,(congrArg Prod.snd h2).symm⟩
theorem jL (h:es.toList.map (fun e=>(e.key,e.val))=l.map fun x=>(Value.string x.1,V x.2)): ∀e∈es.toList,MapKept.IsKey .string e.key:=fun e he=>by
 obtain⟨x,_,h1,_⟩:=il h e he;rw[h1];trivial
theorem qS (hn:(es.toList.map (·.key)).Nodup) (h:es.toList.map (fun e=>(e.key,e.val))=l.map fun x=>(Value.string x.1,V x.2)):(l.map (·.1)).Nodup:=by
 have e1:es.toList.map (·.key)=l.map fun x=>Value.string x.1:=by
  have:=congrArg (List.map Prod.fst) h;simpa [Function.comp_def]using this
 rw[e1,List.Nodup,List.pairwise_map]at hn;rw[List.Nodup,List.pairwise_map];exact hn.imp fun vu e=>vu (by rw[e])
theorem tc (hn:(l.map (·.1)).Nodup) {x:ByteArray×Nat} (hx:x∈l):cP l x.1=some x.2:=by
 unfold cP
 induction l with
 |nil=>cases hx
 |cons y l ih=>
  have h1:=List.nodup_cons.1 hn;rcases List.mem_cons.1 hx with rfl|h2
  ·rw[List.find?_cons_of_pos (by simp)];rfl
  ·rw[List.find?_cons_of_neg (by
    intro e;have e1:y.1=x.1:=(by simpa using e);have e2:x.1∈l.map (·.1):=List.mem_map.2 ⟨x,h2,rfl⟩;rw[<-e1]at e2;exact h1.1 e2)]
   exact ih h1.2 h2
theorem bF.look (h:bF w m l V) (s:ByteArray):
  (Instr.lookup 166 (.map (some m)) (.string s) true).run Tryz.prog w= .ok (match cP l s with|some j=> .tuple #[V j, .bool true]|none=> .tuple #[.nilIface, .bool false]) w:=by
 obtain⟨es,wb,h1,h2,h3⟩:=h;have hc: ∀b,(Instr.checkKey b 10000 9 (.string s)).run Tryz.prog w= .ok () w:=fun b=>MapKept.run_checkKey (k:= .string s) js (by simp[MapKept.IsKey]) b 9999;have hz:(zeroValue 189).run Tryz.prog w= .ok .nilIface w:=(by kernel_rfl);rcases MapKept.findNow_spec (d:= .string) (k:= .string s) trivial es.toList 0 (jL h3)with⟨f1,f2⟩|⟨j,e,f1,f2,f3⟩
 ·have vE:cP l s=none:=by
   cases hc:cP l s with
   |none=>rfl
   |some i=>
    exfalso;have hm:(Value.string s,V i)∈es.toList.map (fun e=>(e.key,e.val)):=(by rw[h3];exact List.mem_map.2 ⟨_,dX hc,rfl⟩);obtain⟨e,he,h4⟩:=List.mem_map.1 hm;exact f2 e he (congrArg Prod.fst h4)
  rw[vE];simp[Instr.lookup,run_underlying Tryz.underlying166,MapKept.run_getObj_map h1,hc,MapKept.run_findKey js f1,hz,Result.andThen]
 ·obtain⟨x,hx,k1,k2⟩:=il h3 e (uS f2);have k1:=sg (f3.symm.trans k1);have hy:cP l s=some x.2:=(by rw[k1];exact tc (qS h2.2.2 h3) hx);rw[hy];rw[k2]at f1;clear k1 k2 hy h3 hx f2 f3;rw[Nat.zero_add]at f1;show _ =Result.ok (Value.tuple #[V x.2, .bool true]) w;generalize V x.2=v at f1⊢;simp[Instr.lookup,run_underlying Tryz.underlying166,MapKept.run_getObj_map h1,hc,MapKept.run_findKey js f1,Result.andThen]
theorem bF.put (h:bF w m l V) (s:ByteArray) (j:Nat) (vE: ∀y∈l,y.1≠s):
  ∃w',(Instr.mapUpdate 166 (.map (some m)) (.string s) (V j)).run Tryz.prog w= .ok () w'/\bF w' m (l++[(s,j)]) V/\Mod (fun b=>b=m) w w'/\w'.heap.size=w.heap.size:=by
 obtain⟨es,wb,h1,h2,h3⟩:=h;have hc:(Instr.checkKey false 10000 9 (.string s)).run Tryz.prog w= .ok () w:=MapKept.run_checkKey (k:= .string s) js (by simp[MapKept.IsKey]) false 9999;have vu: ∀e∈es.toList,e.key≠ .string s:=fun e he e2=>by
  obtain⟨x,hx,k1,_⟩:=il h3 e he;exact vE x hx (sg (k1.symm.trans e2))
 rcases MapKept.findNow_spec (d:= .string) (k:= .string s) trivial es.toList 0 (jL h3)with⟨f1,f2⟩|⟨j',e,f1,f2,f3⟩
 ·refine⟨setBlock w m (.map (es.push ⟨.string s,V j,wb⟩) (wb+1)),?_,⟨_,_,heap_setBlock_same h1 _,MapKept.stamped_push h2 vu,?_⟩,eQ,et⟩
  ·simp[Instr.mapUpdate,run_underlying Tryz.underlying166,MapKept.run_getObj_map h1,hc,MapKept.run_findKey js f1,MapKept.run_setObj_map _ h1,Result.andThen,setBlock]
  ·rw[Array.toList_push,List.map_append,List.map_append,h3];rfl
 ·exact absurd f3 (vu e (uS f2))
def tyOf (k:Nat):TypeId:=if k=2 then 163 else if k=1 then 225 else 228
def aW (k a:Nat):Value:= .iface (tyOf k) (.pointer (some ⟨a,0,none⟩))
def eE (A:Option Addr) (n c:Nat):Prop:=A=none->n=0/\c=0
def eK (w:World) (a i m u:Nat) (y:Nd):Prop:=
 ∃T tail,w.heap[a]? =some (.cells #[.int .u8 (y.kind:Int), .int .u16 (y.mode:Int), .int .u32 (y.uid:Int), .int .u32 (y.gid:Int), .int .i64 (y.n:Int), .int .i64 (i:Int), .pointer (some ⟨u,0,none⟩), .string y.name,tail] T (0,0))/\
  (y.kind=2->T=168/\tail= .map (some m))/\
  (y.kind=1->T=227/\ ∃A cd,tail= .slice A y.n cd/\au w A y.n y.dat/\(∀x,A=some x-> ∃g cs f,x=⟨g,0,none⟩/\w.heap[g]? =some (.cells cs 5 f))/\y.n<=cd/\eE A y.n cd)/\
  (y.kind=3->T=230/\tail= .string y.to)
structure FsIs (w:World) (B fs nb c2:Nat) (ad mp:Nat->Nat) (F:List Nd):Prop where
 ok:FOk F
 self:w.heap[fs]? =some (.cells #[.slice (some ⟨nb,0,none⟩) F.length c2] 171 (0,0))
 row:w.ownsRow 0 189 1 (.slice (some ⟨nb,0,none⟩) F.length c2) F.length ((List.range F.length).map fun i=>aW (ak F i) (ad i))
 node: ∀(i:Nat) (y:Nd),F[i]? =some y->eK w (ad i) i (mp i) (ad y.up) y
 names: ∀i,ak F i=2->bF w (mp i) (aG F i) (fun j=>aW (ak F j) (ad j))
 sole: ∀i j,ak F i=2->ak F j=2->mp i=mp j->i=j
 base:B<=fs/\B<=nb/\(∀i,i<F.length->B<=ad i)/\ ∀i,ak F i=2->B<=mp i
variable {F:List Nd} {i:Nat}
theorem dY {k:Nat} (h:ak F i=k) (hk:k≠0):i<F.length:=by
 unfold ak at h;cases hf:F[i]? with
 |none=>rw[hf]at h;exact absurd h.symm hk
 |some y=>exact(List.getElem?_eq_some_iff.1 hf).1
theorem kN (h:i<F.length): ∃y,F[i]? =some y/\ak F i=y.kind:=⟨F[i],uN h,by unfold ak;rw[uN h]⟩
variable {B fs nb c2:Nat} {ad mp:Nat->Nat}
theorem FsIs.cell (h:FsIs w B fs nb c2 ad mp F) (hi:i<F.length):w.cell? ⟨nb,i,none⟩=some (aW (ak F i) (ad i)):=by
 rw[World.ownsRow.cellAt h.row i (by omega)];simp[hi]
theorem FsIs.mapCell (h:FsIs w B fs nb c2 ad mp F) (hk:ak F i=2):w.cell? ⟨ad i,8,none⟩=some (.map (some (mp i))):=by
 obtain⟨y,hy,hky⟩:=kN (dY hk (by omega));obtain⟨T,tail,hb,h2,_⟩:=h.node i y hy;rw[(h2 (hky▸hk)).2]at hb;exact aa hb 8
theorem ud (v:Value) (w:World):(Instr.typeAssert (.iface 225 v) 189 163 true).run Tryz.prog w= .ok (.tuple #[.pointer none, .bool false]) w:=by kernel_rfl
theorem uc (v:Value) (w:World):(Instr.typeAssert (.iface 228 v) 189 163 true).run Tryz.prog w= .ok (.tuple #[.pointer none, .bool false]) w:=by kernel_rfl
theorem fZ (k a:Nat) (w:World):(Instr.typeAssert (aW k a) 189 163 true).run Tryz.prog w= .ok (.tuple #[if k=2 then .pointer (some ⟨a,0,none⟩)else .pointer none, .bool (decide (k=2))]) w:=by
 unfold aW tyOf;by_cases h2:k=2
 ·subst h2;exact rG _ w
 ·rw[if_neg h2,if_neg h2,uX h2];by_cases h1:k=1
  ·subst h1;exact ud _ w
  ·rw[if_neg h1];exact uc _ w
def atV (F:List Nd) (ad:Nat->Nat) (o:Option Nat):Value:=match o with|some j=>aW (ak F j) (ad j)|none=> .nilIface
def uq (w:World) (A:Option Addr) (l:List ByteArray):Prop:= ∀(j:Nat) (x:ByteArray),l[j]? =some x-> ∃g,A=some ⟨g,0,none⟩/\w.cell? ⟨g,j,none⟩=some (.string x)
theorem eP (B fs nb c2 n cap:Nat) (ad mp:Nat->Nat) (F:List Nd) (A:Option Addr) (l:List ByteArray) (w:World) (h:FsIs w B fs nb c2 ad mp F) (hl:uq w A l) (hn:n=l.length) (wB:n<=cap) (vH:n<=1000000) (hF:F.length<=1000000):
  Calls Tryz.prog 134 #[.pointer (some ⟨fs,0,none⟩), .slice A n cap] w fun e w'=>e= .returned (atV F ad (atM F 0 l))/\w'=w:=by
 have vN:=h.ok.pos;have c0:w.cell? ⟨fs,0,none⟩=some (.slice (some ⟨nb,0,none⟩) F.length c2):=aa h.self 0;have c1:w.cell? ⟨nb,0,none⟩=some (aW (ak F 0) (ad 0)):=h.cell vN;obtain⟨v0,Xe⟩: ∃v0,v0=aW (ak F 0) (ad 0):=⟨_,rfl⟩;rw[<-Xe]at c1;obtain⟨N,hN⟩: ∃N,N=F.length:=⟨_,rfl⟩;rw[<-hN]at c0;have hpos':(0:Int)<(N:Int):=(by omega);obtain⟨res,vw⟩: ∃res,res=atV F ad (atM F 0 l):=⟨_,rfl⟩;rw[<-vw];have vT:=uH vw;have HV0:=uH Xe;have HH:=uH h;have HL:=uH hl;have HN:=uH hn;have NK:=uH hN;clear h hl hn Xe hN vN vw;go_enter Tryz.func134,Tryz.ntmps134;go_wp2_with fail;go_loop [5,18] (fun v i=> ∃k x,k<=n/\x<F.length/\i= .int .i64 ((k:Nat):Int)/\v=aW (ak F x) (ad x)/\atM F x (l.drop k)=atM F 0 l) (fun _ i=>n-(intOf i).toNat)
 case atStart=>exact⟨0,0,by omega,by rw[<-NK.out];omega,rfl,HV0.out,rfl⟩
 case round=>
  obtain⟨k,x,hk,hx,rfl,rfl,wC⟩:=hrel;have DT:=uH wC
  clear wC
  by_cases vo:k<n
  ·obtain⟨s,hs⟩: ∃s,l[k]? =some s:=⟨_,uN (by rw[<-HN.out];exact vo)⟩;obtain⟨g,rfl,hc⟩:=HL.out k s hs;have wU:l.drop k=s::l.drop (k+1):=List.drop_eq_getElem_cons (by rw[<-HN.out];exact vo) |>.trans (by
    obtain⟨h1,h2⟩:=List.getElem?_eq_some_iff.1 hs;rw[h2])
   have FV:=uH wU;have zc:=fZ (ak F x) (ad x) w;by_cases hd:ak F x=2
   ·rw[if_pos hd,uY hd]at zc;have hm:=HH.out.mapCell hd;have zi:=(HH.out.names x hd).look s;obtain⟨v,hv⟩: ∃v,v=aW (ak F x) (ad x):=⟨_,rfl⟩;rw[<-hv]at zc⊢;cases hj:cP (aG F x) s with
    |some j=>
     rw[hj]at zi;have BY:=uH (show atM F j (l.drop (k+1))=atM F 0 l by rw[<-DT.out,FV.out,atM_go hd hj]);have Ck:=(bz (dX hj)).1;obtain⟨v2,KI⟩: ∃v2,v2=aW (ak F j) (ad j):=⟨_,rfl⟩;simp only at zi;rw[<-KI]at zi;have UG:=uH KI;clear hv wU hs hd hj KI;go_wp2_with fail;go_round
     case rel=>exact⟨k+1,j,by omega,Ck,by go_num,UG.out,BY.out⟩
     case measure=>simp[intOf];omega
    |none=>
     rw[hj]at zi;have HR:=uH (show res= .nilIface by rw[vT.out,<-DT.out,FV.out,atM_no hd hj];rfl);simp only at zi;clear hv wU hs hd hj;go_wp2_with fail;go_ret;exact⟨by rw[HR.out];rfl,rfl⟩
   ·rw[if_neg hd,uX hd]at zc;have HR:=uH (show res= .nilIface by rw[vT.out,<-DT.out,FV.out,atM_leaf hd];rfl);obtain⟨v,hv⟩: ∃v,v=aW (ak F x) (ad x):=⟨_,rfl⟩;rw[<-hv]at zc⊢;clear hv wU hs hd;go_wp2_with fail;go_ret;exact⟨by rw[HR.out];rfl,rfl⟩
  ·obtain rfl:k=n:=(by omega);obtain⟨v,hv⟩: ∃v,v=aW (ak F x) (ad x):=⟨_,rfl⟩;have HR:=uH (show res=v by rw[vT.out,<-DT.out,List.drop_of_length_le (by rw[HN.out];exact uK _),hv];rfl);rw[<-hv];clear hv;go_wp2_with fail;go_ret;exact⟨by rw[HR.out];rfl,rfl⟩
end
section
open Go.RowKit Go.Sort
variable {w w':World} {a i m u:Nat} {y:Nd}
theorem eK.keep (h:eK w a i m u y) (hb:w'.heap[a]? =w.heap[a]?) (hz:w.heap.size<=w'.heap.size) (hd: ∀(g:Nat) (cs:Array Value) (f:Nat×Nat),w.heap[g]? =some (.cells cs 5 f)->w'.heap[g]? =w.heap[g]?):eK w' a i m u y:=by
 obtain⟨T,tail,h1,h2,h3,h4⟩:=h;refine⟨T,tail,hb.trans h1,h2,fun hk=>?_,h4⟩;obtain⟨hT,A,cd,e1,e2,e3,e4⟩:=h3 hk;refine⟨hT,A,cd,e1,fun h0=>?_,fun x hx=>?_,e4⟩
 ·obtain⟨x,hx,hc⟩:=e2 h0;obtain⟨g,cs,f,rfl,hg⟩:=e3 x hx;refine⟨_,hx,fun j hj=>?_⟩;have h9:=hc j hj;rw[Addr.add_mid,Nat.zero_add]at h9⊢;rw[<-h9];exact World.cell?_of_block (hd g cs f hg)
 ·obtain⟨g,cs,f,hg,hl⟩:=e3 x hx;exact⟨g,cs,f,hg,(hd g cs f hl).trans hl⟩
theorem eK.lt (h:eK w a i m u y):a<w.heap.size:=by
 obtain⟨T,tail,h1,_⟩:=h;exact(uG h1).1
variable {nb n cap:Nat} {T:TypeId} {xs:List Value}
theorem dP (h:w.ownsRow 0 T 1 (.slice (some ⟨nb,0,none⟩) n cap) n xs): ∃cur,w.heap[nb]? =some (.cells cur T (0,0))/\n<=cap/\cap<=maxLen/\cur.size=cap*1/\cur.toList.take (n*1)=xs:=by
 rcases h.2 with⟨h2,_⟩|⟨g,vh,cur,h1,_,h3,h4,h5,h6,h7⟩
 ·injection h2 with h2;cases h2
 ·injection h1 with e1 e2 e3;injection e1 with e1;injection e1 with e1;subst e1 e3;exact⟨cur,h3,h4,h5,h6,h7⟩
theorem gv (h:w.ownsRow 0 T 1 (.slice (some ⟨nb,0,none⟩) n cap) n xs) (hb:w'.heap[nb]? =w.heap[nb]?):w'.ownsRow 0 T 1 (.slice (some ⟨nb,0,none⟩) n cap) n xs:=by
 obtain⟨cur,h1,h2,h3,h4,h5⟩:=dP h;exact⟨h.1, .inr ⟨nb,cap,cur,rfl,vd _,hb.trans h1,h2,h3,h4,h5⟩⟩
theorem jA (h:w.ownsRow 0 T 1 (.slice (some ⟨nb,0,none⟩) n cap) n xs):nb<w.heap.size:=by
 obtain⟨cur,h1,_⟩:=dP h;exact(uG h1).1
variable {B fs c2:Nat} {ad mp:Nat->Nat} {F:List Nd}
theorem FsIs.below (h:FsIs w B fs nb c2 ad mp F) (hb:Below w.heap.size w w'):FsIs w' B fs nb c2 ad mp F:=
 ⟨h.ok,(hb.block fs (uG h.self).1).trans h.self,gv h.row (hb.block _ (jA h.row)),fun i y hy=>(h.node i y hy).keep (hb.block _ (h.node i y hy).lt) hb.size fun g cs f hc=>hb.block g (uG hc).1,
  fun i hk=>(h.names i hk).same (hb.block _ (h.names i hk).lt),h.sole,h.base⟩
theorem eK.apart {b:Nat} (h:eK w a i m u y) (hk:1<=y.kind/\y.kind<=3) (hb:(∃es wb,w.heap[b]? =some (.map es wb))\/(∃cs f,w.heap[b]? =some (.cells cs 189 f))\/ ∃cs f,w.heap[b]? =some (.cells cs 171 f)):a≠b:=by
 intro e;subst e;obtain⟨T,tail,h1,h2,h3,h4⟩:=h;have hT:T≠189/\T≠171:=by
  rcases(by omega:y.kind=1\/y.kind=2\/y.kind=3)with e|e|e
  ·rw[(h3 e).1];decide
  ·rw[(h2 e).1];decide
  ·rw[(h4 e).1];decide
 rcases hb with⟨es,wb,e⟩|⟨cs,f,e⟩|⟨cs,f,e⟩
 ·rw[h1]at e;cases e
 ·rw[h1]at e;injection e with e;injection e with _ e _;exact hT.1 e
 ·rw[h1]at e;injection e with e;injection e with _ e _;exact hT.2 e
theorem mX (h:FOk F) {d:Nat} (hd:F.length<=d):aG F d=[]:=by
 cases hc:aG F d with
 |nil=>rfl
 |cons x l=>
  exfalso;obtain⟨_,_,y,hy,hu,_⟩:=bz (F:=F) (d:=d) (x:=x) (by rw[hc];exact vc ..);have:=(h.each _ y hy).up;omega
theorem FsIs.mapBlock (h:FsIs w B fs nb c2 ad mp F) (hk:ak F i=2): ∃es wb,w.heap[mp i]? =some (.map es wb):=by
 obtain⟨es,wb,h1,_⟩:=h.names i hk;exact⟨es,wb,h1⟩
theorem FsIs.rowBlock (h:FsIs w B fs nb c2 ad mp F): ∃cs f,w.heap[nb]? =some (.cells cs 189 f):=by
 obtain⟨cur,h1,_⟩:=dP h.row;exact⟨cur,_,h1⟩
theorem lO {w7 w8 w9:World} {m' up g9 c9:Nat} {o:Obj} (hF:FsIs w7 B fs nb c2 ad mp F) (hy:y.up=up) (yk:up<F.length) (Wg:ak F up=2) (wz:FOk (F++[y]))
  (hN:eK w7 a F.length m' (ad up) y) (KP:a≠fs) (Xy:a≠nb) (haB:B<=a) (hm:y.kind=2->(∃wb,w7.heap[m']? =some (.map #[] wb))/\B<=m'/\ ∀i,ak F i=2->m'≠mp i)
  (h8:bF w8 (mp up) (aG F up++[(y.name,F.length)]) (fun j=>aW (ak (F++[y]) j) (upd ad F.length a j))) (ym:Mod (fun b=>b=mp up) w7 w8)
  (DL:(w8.alloc o).grownBy w9 (some nb)) (GS:w9.ownsRow 0 189 1 (.slice (some ⟨g9,0,none⟩) (F.length+1) c9) (F.length+1) (((List.range F.length).map fun i=>aW (ak F i) (ad i))++[aW y.kind a])) (wC:some nb=some g9\/g9=(w8.alloc o).heap.size):
  FsIs (w9.setCell ⟨fs,0,none⟩ (.slice (some ⟨g9,0,none⟩) (F.length+1) c9)) B fs g9 c9 (upd ad F.length a) (upd mp F.length m') (F++[y])/\Below B w7 (w9.setCell ⟨fs,0,none⟩ (.slice (some ⟨g9,0,none⟩) (F.length+1) c9)):=by
 have vN:=hF.ok.pos;have hlen:(F++[y]).length=F.length+1:=(by rw[uM,uT]);obtain⟨es1,UC,DI⟩:=hF.mapBlock Wg;obtain⟨cs1,f1,Ek⟩:=hF.rowBlock;have Ew:=hF.self;have lm:=(uG DI).1;have lnb:=(uG Ek).1;have lfs:=(uG Ew).1;have d1:mp up≠nb:=fun e=>by rw[e,Ek]at DI;cases DI
 have d2:mp up≠fs:=fun e=>by rw[e,Ew]at DI;cases DI
 have d3:nb≠fs:=fun e=>by rw[e,Ew]at Ek;injection Ek with e1;injection e1 with _ e2 _;exact absurd e2 (by decide)
 have Oc:=ym.size;have VV:w8.heap.size+1<=w9.heap.size:=(by simpa using DL.size);have WN:(w9.setCell ⟨fs,0,none⟩ (.slice (some ⟨g9,0,none⟩) (F.length+1) c9)).heap.size=w9.heap.size:=(by simp);have xA:=aj (S:=fun b=>b=fs) (w:=w9) (b:=fs) rfl 0 (.slice (some ⟨g9,0,none⟩) (F.length+1) c9);have SZ:=(GS.lt g9 rfl).2;have XU:g9≠fs:=by
  rcases wC with h|h
  ·injection h with h;omega
  ·simp at h;omega
 have hgB:B<=g9:=by
  have:=hF.base;rcases wC with h|h
  ·injection h with h;omega
  ·simp at h;omega
 generalize Xc:w9.setCell ⟨fs,0,none⟩ (.slice (some ⟨g9,0,none⟩) (F.length+1) c9)=w10 at WN xA⊢;have keep89: ∀b,b<w8.heap.size->b≠nb->b≠fs->w10.heap[b]? =w8.heap[b]? :=fun b hb h1 h2=>
  (xA.block b (by omega) h2).trans ((DL.block b (by simp;omega) (fun e=>h1 (by injection e))).trans (uL _ _ _ hb))
 have keep: ∀b,b<w7.heap.size->b≠mp up->b≠nb->b≠fs->w10.heap[b]? =w7.heap[b]? :=fun b hb h1 h2 h3=>(keep89 b (by omega) h2 h3).trans (ym.block b hb h1);have keepD: ∀(g:Nat) (cs:Array Value) (f:Nat×Nat),w7.heap[g]? =some (.cells cs 5 f)->w10.heap[g]? =w7.heap[g]? :=fun g cs f hc=>by
  refine keep g (uG hc).1 (fun e=>?_) (fun e=>?_) (fun e=>?_)
  ·subst e;rw[DI]at hc;cases hc
  ·subst e;rw[Ek]at hc;injection hc with e1;injection e1 with _ e2 _;exact absurd e2 (by decide)
  ·subst e;rw[Ew]at hc;injection hc with e1;injection e1 with _ e2 _;exact absurd e2 (by decide)
 have kindN: ∀i,i<F.length->ak (F++[y]) i=ak F i:=fun i hi=>cD y (by omega);have kindL:ak (F++[y]) F.length=y.kind:=by
  unfold ak;rw[uQ (uK _)];simp
 have adN: ∀i,i<F.length->upd ad F.length a i=ad i:=fun i hi=>ag _ _ (by omega);have mpN: ∀i,i<F.length->upd mp F.length m' i=mp i:=fun i hi=>ag _ _ (by omega);have each:=hF.ok.each;refine⟨⟨wz,?_,?_,?_,?_,?_,?_⟩,?_⟩
 ·rw[hlen,<-Xc];exact jx (((DL.block fs (by simp;omega) (fun e=>d3 (by injection e with e;exact e.symm))).trans ((uL _ _ _ (by omega)).trans (ym.block fs lfs (fun e=>d2 e.symm)))).trans Ew)
 ·have e:((List.range (F.length+1)).map fun i=>aW (ak (F++[y]) i) (upd ad F.length a i))=((List.range F.length).map fun i=>aW (ak F i) (ad i))++[aW y.kind a]:=by
   rw[List.range_succ,List.map_append];congr 1
   ·refine List.map_congr_left fun i hi=>?_;have hi':=List.mem_range.1 hi;rw[kindN i hi',adN i hi']
   ·simp only[List.map_cons,List.map_nil];rw[kindL,af]
  rw[hlen,e];exact gv GS (xA.block g9 SZ XU)
 ·intro i y0 hi;by_cases Ha:i<F.length
  ·rw[uR (by omega)]at hi;have h1:=hF.node i y0 hi;have hk:=(each i y0 hi).kind;rw[adN i Ha,mpN i Ha,adN _ (by have:=(each i y0 hi).up;omega)];exact h1.keep (keep _ h1.lt (h1.apart hk (.inl ⟨_,_,DI⟩)) (h1.apart hk (.inr (.inl ⟨_,_,Ek⟩))) (h1.apart hk (.inr (.inr ⟨_,_,Ew⟩)))) (by omega) keepD
  ·have XQ:i=F.length:=by
    have:=(List.getElem?_eq_some_iff.1 hi).1;omega
   subst XQ;rw[uQ (uK _)]at hi;simp at hi;subst hi;rw[af,af,hy,adN up (by omega)];have hk:=(wz.each F.length y (by rw[uQ (uK _)];simp)).kind;exact hN.keep (keep _ hN.lt (hN.apart hk (.inl ⟨_,_,DI⟩)) Xy KP) (by omega) keepD
 ·intro i hk;by_cases Ha:i<F.length
  ·rw[kindN i Ha]at hk;rw[mpN i Ha,iG _ _ _ vN];by_cases hiu:i=up
   ·subst hiu;rw[if_pos hy];exact h8.same (keep89 _ (by omega) d1 d2)
   ·rw[if_neg (by omega),List.append_nil];have h1:=hF.names i hk;obtain⟨es2,clk2,OM⟩:=hF.mapBlock hk;have h2:mp i≠mp up:=fun e=>hiu (hF.sole i up hk Wg e);have h3:mp i≠nb:=fun e=>by rw[e,Ek]at OM;cases OM
    have h4:mp i≠fs:=fun e=>by rw[e,Ew]at OM;cases OM
    refine(h1.same (keep _ h1.lt h2 h3 h4)).congr fun x hx=>?_;have yy:=(bz hx).1;rw[kindN _ (by omega),adN _ (by omega)]
  ·obtain rfl:i=F.length:=(by have:=dY hk (by omega);omega);rw[kindL]at hk;obtain⟨⟨wb,Cb⟩,hmB,XB⟩:=hm hk;rw[af,iG _ _ _ vN,if_neg (by omega),mX hF.ok (by omega)];have h2:m'≠mp up:=XB up Wg;have h3:m'≠nb:=fun e=>by rw[e,Ek]at Cb;cases Cb
   have h4:m'≠fs:=fun e=>by rw[e,Ew]at Cb;cases Cb
   exact⟨#[],wb,(keep _ (uG Cb).1 h2 h3 h4).trans Cb,⟨by simp,by simp,by simp⟩,rfl⟩
 ·intro i j hi hj Cl;have OX:=dY hi (by omega);have wA:=dY hj (by omega);by_cases Ha:i<F.length
  ·rw[kindN i Ha]at hi;rw[mpN i Ha]at Cl;by_cases Tc:j<F.length
   ·rw[kindN j Tc]at hj;rw[mpN j Tc]at Cl;exact hF.sole i j hi hj Cl
   ·obtain rfl:j=F.length:=(by omega);rw[kindL]at hj;rw[af]at Cl;exact absurd Cl.symm ((hm hj).2.2 i hi)
  ·obtain rfl:i=F.length:=(by omega);rw[kindL]at hi;rw[af]at Cl;by_cases Tc:j<F.length
   ·rw[kindN j Tc]at hj;rw[mpN j Tc]at Cl;exact absurd Cl ((hm hi).2.2 j hj)
   ·omega
 ·obtain⟨b1,b2,b3,b4⟩:=hF.base;refine⟨b1,hgB,fun i hi=>?_,fun i hk=>?_⟩
  ·by_cases Ha:i<F.length
   ·rw[adN i Ha];exact b3 i (by omega)
   ·have Bz:i=F.length:=(by omega);rw[Bz,af];exact haB
  ·have OX:=dY hk (by omega);by_cases Ha:i<F.length
   ·rw[kindN i Ha]at hk;rw[mpN i Ha];exact b4 i hk
   ·obtain rfl:i=F.length:=(by omega);rw[kindL]at hk;rw[af];exact(hm hk).2.1
 ·obtain⟨b1,b2,b3,b4⟩:=hF.base;refine⟨xA.os.trans (DL.os.trans ym.os),xA.tape.trans (DL.tape.trans ym.tape),xA.output.trans (DL.output.trans ym.output),by omega,fun b hb=>keep b (by omega) (fun e=>by have:=b4 up Wg;omega) (by omega) (by omega)⟩
theorem ue {ops:Array Oper} {rest:List Oper} {o:Oper} {a:Act} {Q:Exit->Act->World->Prop} (xT:o.guard=none) (s x:Operand)
  (ho:o.op= .call { callee:= .builtin .append,args:= #[s,x],argTypes:= #[169,169]})
  (nb c2 N:Nat) (F:List Nd) (ad:Nat->Nat) (hN:N=F.length) (hs:a.eval s= .slice (some ⟨nb,0,none⟩) N c2)
  (vA:w.ownsRow 0 189 1 (.slice (some ⟨nb,0,none⟩) F.length c2) F.length ((List.range F.length).map fun i=>aW (ak F i) (ad i)))
  (t:Value) (ht:t.oneCell'=true) (b c:Nat) (hx:a.eval x= .slice (some ⟨b,0,none⟩) 1 c) (hb:w.heap[b]? =some (.cells #[t] 189 (0,0)))
  (vH:N<1000000)
  (h: ∀g vh w',w'.ownsRow 0 189 1 (.slice (some ⟨g,0,none⟩) (F.length+1) vh) (F.length+1) (((List.range F.length).map fun i=>aW (ak F i) (ad i))++[t])->w.grownBy w' (some nb)->(some nb=some g\/g=w.heap.size)->g<w'.heap.size->wpList Tryz.prog ops Q rest (a.put o.dst (.slice (some ⟨g,0,none⟩) (N+1) vh)) w'):
  wpList Tryz.prog ops Q (o::rest) a w:=by
 have hl:((List.range F.length).map fun i=>aW (ak F i) (ad i)).length=F.length:=(by rw[List.length_map,List.length_range]);refine app_node xT s x ho (some ⟨nb,0,none⟩) c2 _ (by rw[hl,<-hN];exact hs) (by rw[hl];exact vA) t ht b c hx hb (by rw[hl,<-hN];exact vH) ?_;intro g vh w' h1 h2 h3 h4;rw[hl]at h1⊢;rw[<-hN];exact h g vh w' h1 h2 h3 h4
end
