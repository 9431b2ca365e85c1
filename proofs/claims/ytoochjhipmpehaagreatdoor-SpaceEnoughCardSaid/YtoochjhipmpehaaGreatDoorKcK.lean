/- Paths as texts: the pieces between slashes, what may be a path, its parts. -/
import Derived.Test.YtoochjhipmpehaaGreatDoorKbK
import Derived.IntWalk
import Derived.Laws.RangeAny
import Derived.Lib.Bytealg
import Derived.Lib.DecodeN
import Derived.Lib.IndexAny
import Derived.Lib.IndexBytes
import Derived.Lib.IndexLaws
import Derived.Lib.MinMax
import Derived.Lib.OthersKept
import Derived.Lib.PathFns
import Derived.Lib.Slices
import Derived.Lib.SlicesS
import Derived.Lib.Strings
import Derived.Lib.Walk
import Derived.WideMake
set_option linter.unusedVariables false
set_option linter.unusedSimpArgs false
set_option maxRecDepth 100000
set_option maxHeartbeats 4000000
namespace Go.Proofs.YtoochjhipmpehaaGreatDoor
open Go.Proofs.Tryz
section
def nj (s:ByteArray):Nat->Nat->Nat->List ByteArray
 |0,_,fr=>[s.extract fr s.size]
 |k+1,pos,fr=>if pos<s.size then(if s.get! pos=47 then s.extract fr pos::nj s k (pos+1) (pos+1)else nj s k (pos+1) fr)else [s.extract fr s.size]
def cuts (s:ByteArray)(pos fr:Nat):List ByteArray:=nj s (s.size-pos) pos fr
def bg (s:ByteArray):List ByteArray:=cuts s 0 0
variable {s:ByteArray}{pos fr:Nat}
theorem fa (h: ¬pos<s.size):cuts s pos fr=[s.extract fr s.size]:=by
 unfold cuts;rw[show s.size-pos=0 by omega];rfl
theorem gu (h:pos<s.size)(hs:s.get! pos=47):cuts s pos fr=s.extract fr pos::cuts s (pos+1) (pos+1):=by
 unfold cuts;rw[show s.size-pos=(s.size-(pos+1))+1 by omega,nj,if_pos h,if_pos hs]
theorem jh (h:pos<s.size)(hs:s.get! pos≠47):cuts s pos fr=cuts s (pos+1) fr:=by
 unfold cuts;rw[show s.size-pos=(s.size-(pos+1))+1 by omega,nj,if_pos h,if_neg hs]
theorem oY (d:Nat)(h:pos+d<=s.size)(hs: ∀i,pos<=i->i<pos+d->s.get! i≠47):cuts s pos fr=cuts s (pos+d) fr:=by
 induction d with
 |zero=>rfl
 |succ d ih=>
  rw[ih o_ fun i h1 h2=>hs i h1 o_,jh o_ (hs _ o_ o_)];rfl
theorem qr (s:ByteArray)(k:Nat): ∀pos fr,s.size-pos<=k->(cuts s pos fr).length<=s.size-pos+1:=by
 induction k with
 |zero=>intro pos fr h;rw[fa o_];simp
 |succ k ih=>
  intro pos fr h;by_cases hp:pos<s.size
  ·by_cases hs:s.get! pos=47
   ·rw[gu hp hs,xd];have:=ih (pos+1) (pos+1) o_;omega
   ·rw[jh hp hs];have:=ih (pos+1) fr o_;omega
  ·rw[fa hp];simp
theorem cM (s:ByteArray):(bg s).length<=s.size+1:=qr s s.size 0 0 o_
theorem rD (s:ByteArray)(i:Nat):s.get! i=47↔(s.get! i).toNat=47:=by
 constructor
 ·intro h;rw[h];rfl
 ·intro h;exact UInt8.toNat_inj.1 h
theorem nZ (s:ByteArray)(pos:Nat)(h:pos<s.size):
  1<=(Utf8.decode s pos).2/\pos+(Utf8.decode s pos).2<=s.size/\((Utf8.decode s pos).1=47->s.get! pos=47/\(Utf8.decode s pos).2=1)/\
   ((Utf8.decode s pos).1≠47-> ∀i,pos<=i->i<pos+(Utf8.decode s pos).2->s.get! i≠47):=by
 have key: ∀n b0 b1 b2 b3:Nat,0<n->b0<256->1<=(Lib.decodeN n b0 b1 b2 b3).2/\(Lib.decodeN n b0 b1 b2 b3).2<=n/\((Lib.decodeN n b0 b1 b2 b3).1=47->b0=47/\(Lib.decodeN n b0 b1 b2 b3).2=1)/\
   ((Lib.decodeN n b0 b1 b2 b3).1≠47->b0≠47/\(2<=(Lib.decodeN n b0 b1 b2 b3).2->b1≠47)/\(3<=(Lib.decodeN n b0 b1 b2 b3).2->b2≠47)/\(4<=(Lib.decodeN n b0 b1 b2 b3).2->b3≠47)/\(Lib.decodeN n b0 b1 b2 b3).2<=4):=by
  intro n b0 b1 b2 b3 hn h0;unfold Lib.decodeN
  repeat' split
  all_goals(refine⟨?_,?_,?_,?_⟩<;>first|omega|(intro h;omega)|(intro h;refine⟨?_,?_,?_,?_,?_⟩<;>(try intro h')<;>simp only[]at * <;>omega))
 obtain⟨k1,k2,k3,k4⟩:=key (s.size-pos) (s.get! pos).toNat (s.get! (pos+1)).toNat (s.get! (pos+2)).toNat (s.get! (pos+3)).toNat o_ (s.get! pos).toNat_lt;rw[Lib.decode_at];refine⟨k1,o_,fun e=>⟨(rD s pos).2 (k3 e).1,(k3 e).2⟩,fun e i h1 h2=>?_⟩;obtain⟨a0,a1,a2,a3,a4⟩:=k4 e;intro hc;have Qm:=(rD s i).1 hc;rcases(by omega:i=pos\/i=pos+1\/i=pos+2\/i=pos+3)with rfl|rfl|rfl|rfl
 ·exact a0 Qm
 ·exact a1 o_ Qm
 ·exact a2 o_ Qm
 ·exact a3 o_ Qm
def el (l:List ByteArray):Bool:=l.any fun x=>decide (32<x.size)
def chk (s:ByteArray):Int:=if s.size=0 then 3 else if 0<=Lib.indexByte s.data.toList 0 then 1 else if 200<s.size then 11 else if el (bg s)=true then 11 else 0
theorem dv (h:chk s=0):0<s.size/\s.size<=200/\ ¬0<=Lib.indexByte s.data.toList 0/\el (bg s)=false:=by
 unfold chk at h;split at h
 ·cases h
 split at h
 ·cases h
 split at h
 ·cases h
 split at h
 ·cases h
 next h1 h2 h3 h4=>exact⟨o_,o_,h2,by simpa using h4⟩
def aP (x:ByteArray):Bool:= !(x.data== #[] || x.data== #[46])
def ar (s:ByteArray):List ByteArray:=(bg s).filter aP
theorem bd (s:ByteArray):(ar s).length<=s.size+1:=xn (List.length_filter_le _ _) (cM s)
end
section
open Go.RowKit
theorem lib_byte (s:ByteArray)(c:Int)(w:World):Calls prog 205 #[.string s,.int .u8 c] w fun e w'=>e= .returned (.int .i64 (Lib.indexByte s.data.toList c.toNat.toUInt8))/\w'=w:=by
 go_enter func205,ntmps205;go_wp2;rw[run_callFunc_extern func209 k_ k_ k_ (e:=Extern.BytealgIndexByte.indexByte) k_,Lib.run_indexByteString];simp only[Result.andThen];rw[Oper.upon_value];go_wp2;go_ret;exact⟨rfl,rfl⟩
theorem sY (s:ByteArray)(c:UInt8)(w:World):Calls prog 204 #[.string s,.string ⟨#[c]⟩] w fun e w'=>e= .returned (.int .i64 (Lib.indexByte s.data.toList c))/\w'=w:=by
 go_enter func204,ntmps204;go_wp2_with (go_at_call 205;refine(lib_byte _ _ _).mono ?_;rintro e w'⟨rfl,rfl⟩)
 ·have h:([c]==s.toList)=true:=(by assumption);go_ret;refine⟨?_,rfl⟩;have e:s.data.toList=[c]:=(by rw[<-Lib.toList_data];exact(beq_iff_eq.1 h).symm);rw[e];simp[Lib.indexByte]
 ·go_ret;exact⟨rfl,rfl⟩
theorem pZ (s:ByteArray)(c:UInt8)(w:World):Calls prog 201 #[.string s,.string ⟨#[c]⟩] w fun e w'=>e= .returned (.int .i64 (Lib.indexByte s.data.toList c))/\w'=w:=by
 go_enter func201,ntmps201;go_wp2_with (go_at_call 204;refine(sY _ _ _).mono ?_;rintro e w'⟨rfl,rfl⟩);go_ret;exact⟨rfl,rfl⟩
theorem iy (s:ByteArray)(c:UInt8)(w:World):Calls prog 188 #[.string s,.string ⟨#[c]⟩] w fun e w'=>e= .returned (.bool (decide (0<=Lib.indexByte s.data.toList c)))/\w'=w:=by
 go_enter func188,ntmps188;go_wp2_with (go_at_call 201;refine(pZ _ _ _).mono ?_;rintro e w'⟨rfl,rfl⟩);go_ret;exact⟨rfl,rfl⟩
theorem sX (s p:ByteArray)(w:World):Calls prog 185 #[.string s,.string p] w fun e w'=>e= .returned (.bool (Lib.hasPrefix s.data.toList p.data.toList))/\w'=w:=by
 rw[<-Lib.hasPrefix_of_take,<-Lib.size_eq,<-Lib.size_eq];go_enter func185,ntmps185;go_wp2
 ·rename_i h;go_ret;refine⟨?_,rfl⟩;show Ending.returned (Value.bool ((s.extract 0 p.size).toList==p.toList))=_;rw[Lib.extract_toList,Lib.toList_data];simp[h]
 ·rename_i h;go_ret;refine⟨?_,rfl⟩;show Ending.returned (Value.bool false)=_;simp[h]
theorem sW (s p:ByteArray)(w:World)(hs:s.size<=9223372036854775807):Calls prog 186 #[.string s,.string p] w fun e w'=>e= .returned (.bool (Lib.hasSuffix s.data.toList p.data.toList))/\w'=w:=by
 rw[<-Lib.hasSuffix_raw];have NM:p.size<=s.size->((s.size:Int)-(p.size:Int)+9223372036854775808) % 18446744073709551616-9223372036854775808=((s.size-p.size:Nat):Int):=fun _ =>by omega
 go_enter func186,ntmps186;go_wp2
 ·have h:p.size<=s.size:=(by assumption);go_ret;refine⟨?_,rfl⟩;show Ending.returned (Value.bool ((s.extract (s.size-p.size) s.size).toList==p.toList))=_;simp[h]
 ·have h: ¬p.size<=s.size:=(by assumption);go_ret;refine⟨?_,rfl⟩;show Ending.returned (Value.bool false)=_;simp[h]
theorem tail_any (s:ByteArray)(w:World)(hs:s.size<=9223372036854775807):Calls prog 162 #[.string s] w fun e w'=>e= .returned (.bool (Lib.hasSuffix s.data.toList [47]))/\w'=w:=by
 go_enter func162,ntmps162;go_wp2_with (go_at_call 186;refine(sW _ _ _ hs).mono ?_;rintro e w'⟨rfl,rfl⟩);go_ret;exact⟨rfl,rfl⟩
end
section
open Go.RowKit Go.Sort
def OwnS (w:World)(base:Nat)(A:Option Addr)(cap:Nat)(l:List ByteArray):Prop:=w.ownsRow base 9 1 (.slice A l.length cap) l.length (l.map Value.string)
theorem OwnS.nil (w:World)(base:Nat):OwnS w base none 0 []:=World.ownsRow_nil w base _ 1
variable {w:World}{base cap:Nat}{l:List ByteArray}
theorem OwnS.elem {g:Nat}(h:OwnS w base (some ⟨g,0,none⟩) cap l){j:Nat}{t:ByteArray}(hp:l[j]? =some t):w.cell? ⟨g,j,none⟩=some (.string t):=by
 have hk:j<l.length:=(List.getElem?_eq_some_iff.1 hp).1;rw[World.ownsRow.cellAt h j o_,xj,hp];rfl
variable {w':World}
theorem OwnS.same {A:Option Addr}(h:OwnS w base A cap l)(hb: ∀g,A=some ⟨g,0,none⟩->w'.heap[g]? =w.heap[g]?):OwnS w' base A cap l:=by
 refine⟨h.1,?_⟩;rcases h.2 with h2|⟨g,xq,cur,h1,h2,h3,h4⟩
 ·exact .inl h2
 ·injection h1 with e1 e2 e3;exact .inr ⟨g,xq,cur,by rw[e1,e2,e3],h2,(hb g e1).trans h3,h4⟩
variable {b:Nat}
theorem kw {x y:Value}{t:TypeId}(h:w.heap[b]? =some (.cells #[x] t (0,0))):(w.setCell ⟨b,0,none⟩ y).heap[b]? =some (.cells #[y] t (0,0)):=by
 have h1:=Joins.block_setCell (i:=0) h y;simpa using h1
theorem lj (h:w'.heap[b]? =w.heap[b]?)(i:Nat):w'.cell? ⟨b,i,none⟩=w.cell? ⟨b,i,none⟩:=by simp[World.cell?,h]
theorem str_info:(prog.info? 9).map (fun i=>(i.zero,i.size,i.bytes))=some (some (.string ByteArray.empty),1,16):=k_
theorem nv {ops:Array Oper}{rest:List Oper}{o:Oper}{a:Act}{Q:Exit->Act->World->Prop}(zH:o.guard=none)(s x:Operand)
  (ho:o.op= .call { callee:= .builtin .append,args:= #[s,x],argTypes:= #[107,107]})
  (base:Nat)(A:Option Addr)(cap:Nat)(l:List ByteArray)(hs:a.eval s= .slice A l.length cap)(xC:OwnS w base A cap l)
  (t:ByteArray)(b c:Nat)(hx:a.eval x= .slice (some ⟨b,0,none⟩) 1 c)(hb:w.heap[b]? =some (.cells #[.string t] 9 (0,0)))
  (xD:l.length<1000000)(xH:base<=w.heap.size)
  (h: ∀g xq w',OwnS w' base (some ⟨g,0,none⟩) xq (l++[t])->w.grownBy w' (A.map (·.block))->(A.map (·.block)=some g\/g=w.heap.size)->g<w'.heap.size->wpList prog ops Q rest (a.put o.dst (.slice (some ⟨g,0,none⟩) (l.length+1) xq)) w'):
  wpList prog ops Q (o::rest) a w:=by
 obtain⟨i0,zx,xT,xQ,xX⟩:=info_parts str_info;refine wpList_append_lies w zH s x 107 ho base 9 i0 _ 1 16 underlying107 zx xT xQ xX rfl o_ _ l.length (l.map Value.string) hs xC ⟨b,0,none⟩ 1 c [.string t] hx rfl (World.news_of_block (cs:= #[.string t]) hb)
  (by simp[Value.oneCell']) o_ (by unfold maxLen;omega) o_ xH w.heap.size rfl ?_
 intro g xq w' zg hg yr xw;refine h g xq w' ?_ ?_ ?_ xw
 ·unfold OwnS;rw[List.map_append,wU];exact zg
 ·cases A<;>simpa [Value.ownBlock]using hg
 ·cases A<;>simpa [Value.ownBlock]using yr
theorem iX {fn:Func}{p u v:Tmp}{ty:TypeId}(h:fn.results= #[.cell p ty, .tmp u, .tmp v])(tmps:Array Value)(P:Program)(w:World):
  (results fn tmps).run P w=
   ((asAddr (tmps.getD p undef)).run P w).andThen fun a w₁=>((loadVar ty a).run P w₁).andThen fun x w₂=> .ok (.tuple #[x,tmps.getD u undef,tmps.getD v undef]) w₂:=by
 simp only[results,h];simp[Sem.run_bind,Result.andThen]
end
section
open Go.RowKit Go.Sort
end
section
open Go.RowKit Go.Sort
theorem pcs_chk (bo:Nat)(s:ByteArray)(w:World)(R:World->List ByteArray->Prop)(go:List ByteArray->Bool)(LC:s.size<=1000000000)
  (hk: ∀w1 w2 l,R w1 l->Mod (fun b=>b=w.heap.size) w1 w2->w1.heap.size=w2.heap.size->R w2 l)
  (h0:R (w.alloc (.stringIter s 0)) [])
  (yi: ∀w1 l x,l.length<=s.size->x.size<=s.size->w.heap.size<w1.heap.size->R w1 l->Calls prog 189 (#[.string x]++ #[.pointer (some ⟨bo,0,none⟩)]) w1 fun e w2=>e= .returned (.bool (go (l++[x])))/\R w2 (l++[x])/\w2.heap[w.heap.size]? =w1.heap[w.heap.size]?):
  Calls prog 183 #[.string s,.func (.func 189) #[] #[.pointer (some ⟨bo,0,none⟩)]] w fun e w'=>e= .returned (.tuple #[])/\ ∃l,R w' l/\(l=bg s\/ ∃r,l++r=bg s/\go l=false):=by
 obtain⟨Bo,Tq,H0⟩:=zh3 yi hk h0;clear yi hk h0;go_enter func183,ntmps183;go_wp2_with fail;go_loopw [4] (fun i wr=> ∃pos fr l,pos<=s.size/\fr<=pos/\i= .int .i64 ((fr:Nat):Int)/\wr.heap[w.heap.size]? =some (.stringIter s pos)/\R wr l/\l++cuts s pos fr=bg s) (fun _ wr=>s.size-wr.iterPos w.heap.size)
 case atStart=>exact⟨0,0,[],o_,o_,rfl,World.iter_heap w s 0,H0.o,rfl⟩
 case round=>
  obtain⟨pos,fr,l,hp,zM,rfl,hit,hR,hcut⟩:=hrel;have xZ:=iterPos_of hit;obtain⟨Pr,HR,BY⟩:=zh3 hit hR hcut;clear hit hR hcut;have Ku:l.length<=s.size:=by
   have h1:=congrArg List.length BY.o;have h2:=cM s;have h3:0<(cuts s pos fr).length:=by
    by_cases c:pos<s.size
    ·unfold cuts;cases hz:s.size-pos with
     |zero=>omega
     |succ z=>
      clear h1 h2;have: ∀z pos fr,0<(nj s z pos fr).length:=by
       intro z
       induction z with
       |zero=>intro pos fr;exact Nat.zero_lt_one
       |succ z ih=>
        intro pos fr;unfold nj;split
        ·split
         ·simp
         ·exact ih _ _
        ·exact Nat.zero_lt_one
      exact this _ _ _
    ·rw[fa c];exact Nat.zero_lt_one
   rw[wU]at h1;omega
  have xw:=(wO Pr.o).1;by_cases Al:pos<s.size
  ·obtain⟨k1,k2,k3,k4⟩:=nZ s pos Al;obtain⟨r,hr⟩:=e_ ((Utf8.decode s pos).1);obtain⟨d,hd⟩:=e_ ((Utf8.decode s pos).2);have Ih:=fun ty=>Go.Lib.run_next_any_at (P:=prog) wr w.heap.size s pos ty Pr.o Al;rw[<-hr,<-hd]at Ih;rw[<-hr]at k3 k4;rw[<-hd]at k1 k2 k3 k4;have zn:Mod (fun b=>b=w.heap.size) wr (wr.iterAt w.heap.size s (pos+d)):=⟨rfl,rfl,rfl,by rw[Go.Lib.iterAt_size];exact wS _,fun b _ hb=>Go.Lib.iterAt_other wr w.heap.size b s _ hb⟩;have Dn:=Tq.o _ _ _ HR.o zn (Go.Lib.iterAt_size wr w.heap.size s (pos+d)).symm;have FO:=Go.Lib.iterAt_heap wr w.heap.size s pos (pos+d) Pr.o;have xQ:=Go.Lib.iterAt_size wr w.heap.size s (pos+d);obtain⟨w1,hw⟩:=e_ (wr.iterAt w.heap.size s (pos+d));rw[<-hw]at Dn FO Ih xQ;obtain⟨Tt,Yn⟩:=zh2 FO Dn;have hp1:=iterPos_of FO;clear FO Dn hw zn hr hd;by_cases IE:r=47
   ·subst IE;obtain⟨k5,rfl⟩:=k3 rfl;have zU:=wP (show(l++[s.extract fr pos])++cuts s (pos+1) (pos+1)=bg s by rw[List.append_assoc,List.singleton_append,<-gu Al k5];exact BY.o);have xO:=Bo.o w1 l (s.extract fr pos) Ku (by rw[ByteArray.size_extract];omega) o_ Yn.o;clear k3 k4 k5;cases za:go (l++[s.extract fr pos])with
    |true=>
     rw[za]at xO;obtain⟨Ac,Nv⟩:=zh2 xO za;clear xO za;go_wp2_with (first
      |(go_at_call 189;refine(Ac.o).mono ?_;rintro e w2⟨rfl,Aj,Ca⟩;obtain⟨EZ,Nt⟩:=zh2 Aj (Ca.trans Tt.o);have hp2:=iterPos_of Nt.o;clear Aj Ca)
      |fail)
     go_roundw
     case rel=>exact⟨pos+1,pos+1,_,o_,o_,by go_num,Nt.o,EZ.o,zU.o⟩
     case measure=>(rw[hp2,xZ];omega)
    |false=>
     rw[za]at xO;obtain⟨Ac,Nv⟩:=zh2 xO za;clear xO za;go_wp2_with (first
      |(go_at_call 189;refine(Ac.o).mono ?_;rintro e w2⟨rfl,Aj,Ca⟩;have EZ:=wP Aj;clear Aj Ca)
      |fail)
     refine bodyPost_ret (results_none rfl _ _ _) rfl ?_;exact⟨rfl,_,EZ.o,.inr ⟨_,zU.o,Nv.o⟩⟩
   ·have xA:(((r:Nat):Int) != 47)=true:=(by rw[bne_iff_ne];omega);have zU:=wP (show l++cuts s (pos+d) fr=bg s by rw[<-oY d k2 (k4 IE)];exact BY.o);clear k3 k4 IE;go_wp2_with fail;go_roundw
    case rel=>exact⟨pos+d,fr,l,k2,o_,rfl,Tt.o,Yn.o,zU.o⟩
    case measure=>(rw[hp1,xZ];omega)
  ·have Ih:=fun ty=>Go.Lib.run_next_end_at (P:=prog) wr w.heap.size s pos ty Pr.o Al;have zU:=wP (show l++[s.extract fr s.size]=bg s by rw[<-fa Al];exact BY.o);have xO:=Bo.o wr l (s.extract fr s.size) Ku (by rw[ByteArray.size_extract];omega) xw HR.o;have Ac:=wP xO;clear xO;go_wp2_with (first
    |(go_at_call 189;refine(Ac.o).mono ?_;rintro e w2⟨rfl,Aj,Ca⟩;have EZ:=wP Aj;clear Aj Ca)
    |fail)
   go_end0;exact⟨rfl,_,EZ.o,.inl zU.o⟩
def errB (b:Bool):Int:=if b=true then 11 else 0
theorem vR (bo:Nat)(x:ByteArray)(b:Bool)(w:World)(hB:w.heap[bo]? =some (.cells #[.int .i64 (errB b)] 32 (0,0))):
  Calls prog 189 (#[.string x]++ #[.pointer (some ⟨bo,0,none⟩)]) w fun e w'=>e= .returned (.bool (!(b || decide (32<x.size))))/\w'.heap[bo]? =some (.cells #[.int .i64 (errB (b || decide (32<x.size)))] 32 (0,0))/\Mod (fun j=>j=bo) w w':=by
 have c0:=aa hB 0;have f0:=ae hB 0;have HB:=wP hB;clear hB;by_cases hx:32<x.size
 ·have e1:(b || decide (32<x.size))=true:=(by simp[hx]);rw[e1];have e2:errB true=11:=rfl;rw[e2];clear e1 e2;go_enter func189,ntmps189;go_wp2_with fail;go_ret;exact⟨rfl,kw HB.o,aj (S:=fun j=>j=bo) rfl 0 _⟩
 ·have e1:(b || decide (32<x.size))=b:=(by simp[hx]);rw[e1];clear e1;cases b
  all_goals
   simp only[errB]at c0 HB⊢;go_enter func189,ntmps189;go_wp2_with fail;go_ret;exact⟨rfl,HB.o,Mod.refl _ _⟩
theorem gk (l:List ByteArray)(x:ByteArray):el (l++[x])=(el l || decide (32<x.size)):=by simp[el]
theorem oG {l r:List ByteArray}(h:el l=true):el (l++r)=true:=by unfold el at h⊢;rw[List.any_append,h];rfl
theorem qv (s:ByteArray)(w:World)(hs:s.size<=1000000000):Calls prog 164 #[.string s] w fun e w'=>e= .returned (.int .i64 (chk s))/\Below w.heap.size w w':=by
 by_cases h0:s.size=0
 ·obtain rfl:s=⟨#[]⟩:=by
   cases s with
   |mk d=>cases d with
    |mk l=>cases l with
     |nil=>rfl
     |cons x l=>simp[ByteArray.size]at h0
  have hc:chk ⟨#[]⟩=3:=rfl;rw[hc];clear hc hs h0;go_enter func164,ntmps164;go_wp2_with fail;go_ret;exact⟨rfl,xp _ _⟩
 have xA:s.toList.isEmpty=false:=by
  cases hc:s.toList with
  |nil=>
   exfalso;apply h0;have h9:s.data.toList=[]:=(by rw[<-hc];exact(ByteArray.toList_eq s).symm);have h8:s.data.toList.length=0:=(by rw[h9];rfl);exact h8
  |cons x l=>rfl
 by_cases hz:0<=Lib.indexByte s.data.toList 0
 ·have hc:chk s=1:=(by unfold chk;rw[if_neg h0,if_pos hz]);rw[hc];have IW:=iy s 0 w;rw[xh hz]at IW;have Pt:=wP IW;clear IW hz hc;go_enter func164,ntmps164;go_wp2_with (first
   |(go_at_call 188;refine(Pt.o).mono ?_;rintro e w1⟨rfl,rfl⟩)
   |fail)
  go_ret;exact⟨rfl,xp _ _⟩
 have IW:=iy s 0 w;rw[xg hz]at IW;have Pt:=wP IW;clear IW;by_cases hl:200<s.size
 ·have hc:chk s=11:=(by unfold chk;rw[if_neg h0,if_neg hz,if_pos hl]);rw[hc];clear hz hc;go_enter func164,ntmps164;go_wp2_with (first
   |(go_at_call 188;refine(Pt.o).mono ?_;rintro e w1⟨rfl,rfl⟩)
   |fail)
  go_ret;exact⟨rfl,xp _ _⟩
 have hc:chk s=errB (el (bg s)):=(by unfold chk errB;rw[if_neg h0,if_neg hz,if_neg hl]);rw[hc];obtain⟨w0,xv⟩:=e_ (w.alloc (.cells #[.int .i64 0] 32));have xz:Below w.heap.size w w0:=(by rw[xv];exact wR);have hE:w0.heap[w.heap.size]? =some (.cells #[.int .i64 0] 32 (0,0)):=(by rw[xv];exact ab w _);have xT:w0.heap.size=w.heap.size+1:=(by rw[xv];simp);have Gk:=pcs_chk w.heap.size s w0 (fun w1 l=>Below w.heap.size w w1/\w1.heap[w.heap.size]? =some (.cells #[.int .i64 (errB (el l))] 32 (0,0))) (fun l=> !el l) hs
  (fun w1 w2 l ⟨h1,h2⟩ hm LC=>⟨h1.trans (hm.below (fun b hb=>by have:=h1.size;omega) h1.size),(hm.block _ (wO h2).1 o_).trans h2⟩)
  ⟨xz.alloc o_ _,(wT _ _ _ o_).trans hE⟩
  (fun w1 l x _ _ hk ⟨h1,h2⟩=>(vR w.heap.size x (el l) w1 h2).mono fun e w2 ⟨he,h3,h4⟩=>⟨by rw[he,gk],⟨h1.trans (h4.below (fun b hb=>o_) h1.size),by rw[gk];exact h3⟩,h4.block _ hk o_⟩)
 obtain⟨xU,HPC⟩:=zh2 xv Gk;clear Gk xv hz hc xz hE;go_enter func164,ntmps164;go_upto_region 8 with(first
  |(go_at_call 188;refine(Pt.o).mono ?_;rintro e w1⟨rfl,rfl⟩)
  |fail)
 rw[<-xU.o];go_wp2_with (first
  |(go_at_call 183;refine(HPC.o).mono ?_;rintro e w1⟨rfl,l,⟨xu,Cq⟩,yN⟩;have c1:=aa Cq 0;obtain⟨xI,HL1⟩:=zh2 xu yN;clear xu Cq yN)
  |fail)
 have hlq:el l=el (bg s):=by
  rcases HL1.o with e1|⟨r,e1,e2⟩
  ·rw[e1]
  ·have e3:el l=true:=by cases hc:el l with
    |true=>rfl
    |false=>rw[hc]at e2;cases e2
   rw[<-e1,oG e3,e3]
 rw[<-hlq];go_ret;exact⟨rfl,xI.o⟩
end
section
open Go.RowKit Go.Sort
variable {x:ByteArray}
theorem oL (h:aP x=false):x=⟨#[]⟩\/x=⟨#[46]⟩:=by
 unfold aP at h;have h1:(x.data== #[] || x.data== #[46])=true:=by
  cases hc:(x.data== #[] || x.data== #[46])with
  |true=>rfl
  |false=>rw[hc]at h;cases h
 rcases Bool.or_eq_true_iff.1 h1 with e|e
 ·left;cases x with|mk d=>exact congrArg ByteArray.mk (eq_of_beq e)
 ·right;cases x with|mk d=>exact congrArg ByteArray.mk (eq_of_beq e)
theorem jy (h:aP x=true): ¬x.toList=[]/\(!x.toList.isEmpty)=true/\(!x.toList==[46])=true:=by
 have h1: ∀a:List UInt8,x.toList=a->x=⟨a.toArray⟩:=fun a e=>by
  cases x with|mk d=>rw[ByteArray.toList_eq]at e;rw[<-e]
 have n1: ¬x.toList=[]:=fun e=>by rw[h1 _ e]at h;cases h
 refine⟨n1,?_,?_⟩
 ·cases hc:x.toList with
  |nil=>exact absurd hc n1
  |cons a l=>rfl
 ·cases hc:(x.toList==[46])with
  |false=>rfl
  |true=>rw[h1 _ (eq_of_beq hc)]at h;cases h
theorem uT (bo:Nat)(x:ByteArray)(w:World)(h:aP x=false):Calls prog 184 (#[.string x]++ #[.pointer (some ⟨bo,0,none⟩)]) w fun e w'=>e= .returned (.bool true)/\w'=w:=by
 rcases oL h with rfl|rfl
 all_goals
  clear h;go_enter func184,ntmps184;go_wp2_with fail;go_ret;exact⟨rfl,rfl⟩
variable {w:World}{base cap:Nat}{A:Option Addr}{l:List ByteArray}
theorem OwnS.form (h:OwnS w base A cap l):(A=none/\l=[]/\cap=0)\/ ∃g,A=some ⟨g,0,none⟩/\base<=g/\g<w.heap.size/\l.length<=cap:=by
 rcases h.2 with⟨h2,h3⟩|⟨g,xq,cur,h1,h2,h3,h4,_⟩
 ·injection h2 with e1 e2 e3;exact .inl ⟨e1,by simpa using h3,e3⟩
 ·injection h1 with e1 e2 e3;exact .inr ⟨g,e1,h2,(wO h3).1,o_⟩
theorem OwnS.lower {Bk:Nat}(h:OwnS w base A cap l)(hb:Bk<=base):OwnS w Bk A cap l:=by
 refine⟨h.1,?_⟩;rcases h.2 with h2|⟨g,xq,cur,h1,h2,h3⟩
 ·exact .inl h2
 ·exact .inr ⟨g,xq,cur,h1,o_,h3⟩
variable {bo:Nat}
theorem StrRow.cell {w0 w1:World}{n:Nat}{ty:TypeId}(hF:(A=none/\l=[]/\cap=0)\/ ∃g,A=some ⟨g,0,none⟩/\base<=g/\g<w.heap.size/\l.length<=cap)(hAB: ∀g,A=some ⟨g,0,none⟩->g≠bo)
  (hB:w.heap[bo]? =some (.cells #[.slice A n cap] ty (0,0)))(hb:Below w.heap.size w w0)(hg:w0.grownBy w1 (A.map (·.block))):w1.heap[bo]? =some (.cells #[.slice A n cap] ty (0,0)):=by
 have AO:=(wO hB).1;refine(hg.block bo (wW AO hb.size) fun e=>?_).trans ((hb.block bo AO).trans hB);rcases hF with⟨e',_⟩|⟨g',e',_,_,_⟩
 ·rw[e']at e;cases e
 ·rw[e']at e;exact hAB g' e' (by simpa using e.symm)
def gv (bo base:Nat)(l:List ByteArray)(w:World):Prop:= ∃A cap,w.heap[bo]? =some (.cells #[.slice A l.length cap] 107 (0,0))/\OwnS w base A cap l/\(∀g,A=some ⟨g,0,none⟩->g≠bo)
theorem sJ (bo base:Nat)(x:ByteArray)(l:List ByteArray)(w:World)(h:aP x=true)(hB:gv bo base l w)(xD:l.length<100000)(hbz:base<=w.heap.size):
  Calls prog 184 (#[.string x]++ #[.pointer (some ⟨bo,0,none⟩)]) w fun e w'=>e= .returned (.bool true)/\gv bo base (l++[x]) w'/\Mod (fun b=>b=bo\/base<=b) w w':=by
 obtain⟨A,cap,hB,hO,hA⟩:=hB;have c0:w.cell? ⟨bo,0,none⟩=some (.slice A l.length cap):=aa hB 0;have f0:w.frozen? ⟨bo,0,none⟩=false:=ae hB 0;have HB:=wP hB;clear hB;obtain⟨t1,t2,t3⟩:=jy h;have AO:bo<w.heap.size:=(wO HB.o).1;have yF:=OwnS.form hO;obtain⟨k,hk⟩:=e_ l.length;rw[<-hk]at c0;have zI:=wP ((xp w.heap.size w).alloc (wS _) (.cells #[.string x] 9));have hfew':k<100000:=o_;obtain⟨HF,JA,HO,HK⟩:=zh4 yF hA hO hk;clear h hA hO hk yF xD;have HB':Hid (w.heap[bo]? =some (.cells #[.slice A k cap] 107 (0,0))):=(by have:=HB.o;rw[<-HK.o]at this;exact wP this);clear HB;go_enter func184,ntmps184;go_wp2_with (first
  |(at_builtin;refine nv rfl (.tmp 10) (.tmp 12) rfl base A cap l (HK.o▸rfl) (World.ownsRow.alloc HO.o _) x w.heap.size 1 rfl (ab _ _) (by rw[<-HK.o];omega) t_ ?_;intro g xq w1 ho hg yr xw;rw[<-HK.o];have yw:=StrRow.cell HF.o JA.o HB'.o zI.o hg;have c1:=aa yw 0;have f1:=ae yw 0;obtain⟨xI,yB,HG,Iv⟩:=zh4 yw ho hg yr;clear yw ho hg yr)
  |fail)
 go_ret;have hg:=HG.o;have hz:=hg.size;have xQ:w.heap.size+1<=w1.heap.size:=(by simpa using hz);have Fm:g≠bo:=by
  rcases Iv.o with e|e
  ·cases hAA:A with
   |none=>rw[hAA]at e;cases e
   |some ad=>
    rcases HF.o with⟨e',_⟩|⟨g',e',_,_,_⟩
    ·rw[hAA]at e';cases e'
    ·have h1:=JA.o g' e';rw[e']at e;simp at e;omega
  ·simp at e;omega
 have hgbase:base<=g:=by
  rcases Iv.o with e|e
  ·rcases HF.o with⟨e',_⟩|⟨g',e',h2,_,_⟩
   ·rw[e']at e;cases e
   ·rw[e']at e;simp at e;omega
  ·simp at e;omega
 have yq:=kw xI.o (y:= .slice (some ⟨g,0,none⟩) (k+1) xq);have hm:=aj (S:=fun b=>b=bo) (w:=w1) (b:=bo) rfl 0 (.slice (some ⟨g,0,none⟩) (k+1) xq);refine⟨rfl,⟨some ⟨g,0,none⟩,xq,by rw[wU,<-HK.o];exact yq,OwnS.same yB.o fun g' e'=>by
  injection e' with e';injection e' with e';exact hm.block g' (e'▸xw) o_,fun g' e'=>by
  injection e' with e';injection e' with e';omega⟩,?_⟩
 have xu:Mod (fun b=>b=bo\/base<=b) w w1:=⟨hg.os,hg.tape,hg.output,o_,fun b hb hn=>(hg.block b t_ (fun e=>by
  rcases HF.o with⟨e',_⟩|⟨g',e',h2,_,_⟩
  ·rw[e']at e;cases e
  ·rw[e']at e;simp at e;exact hn (.inr o_))).trans (wT _ _ _ o_)⟩
 exact xu.trans (Out.refl _ _) (hm.sub fun b hb=> .inl hb)
theorem gv.mod {w':World}{X:Nat->Prop}(h:gv bo base l w)(hm:Mod X w w')(hX: ¬X bo)(Xi: ∀b,base<=b-> ¬X b):gv bo base l w':=by
 obtain⟨A,cap,hB,hO,hA⟩:=h;refine⟨A,cap,(hm.block bo (wO hB).1 hX).trans hB,hO.same fun g hg=>?_,hA⟩;rcases hO.form with⟨e,_⟩|⟨g',e,h1,h2,_⟩
 ·rw[e]at hg;cases hg
 ·rw[e]at hg;injection hg with hg;injection hg with hg;subst hg;exact hm.block _ h2 (Xi _ h1)
theorem uR (bo:Nat)(s:ByteArray)(w:World)(R:World->List ByteArray->Prop)(go:List ByteArray->Bool)(LC:s.size<=1000000000)
  (hk: ∀w1 w2 l,R w1 l->Mod (fun b=>b=w.heap.size) w1 w2->w1.heap.size=w2.heap.size->R w2 l)
  (h0:R (w.alloc (.stringIter s 0)) [])
  (yi: ∀w1 l x,l.length<=s.size->x.size<=s.size->w.heap.size<w1.heap.size->R w1 l->Calls prog 184 (#[.string x]++ #[.pointer (some ⟨bo,0,none⟩)]) w1 fun e w2=>e= .returned (.bool (go (l++[x])))/\R w2 (l++[x])/\w2.heap[w.heap.size]? =w1.heap[w.heap.size]?):
  Calls prog 183 #[.string s,.func (.func 184) #[] #[.pointer (some ⟨bo,0,none⟩)]] w fun e w'=>e= .returned (.tuple #[])/\ ∃l,R w' l/\(l=bg s\/ ∃r,l++r=bg s/\go l=false):=by
 obtain⟨Bo,Tq,H0⟩:=zh3 yi hk h0;clear yi hk h0;go_enter func183,ntmps183;go_wp2_with fail;go_loopw [4] (fun i wr=> ∃pos fr l,pos<=s.size/\fr<=pos/\i= .int .i64 ((fr:Nat):Int)/\wr.heap[w.heap.size]? =some (.stringIter s pos)/\R wr l/\l++cuts s pos fr=bg s) (fun _ wr=>s.size-wr.iterPos w.heap.size)
 case atStart=>exact⟨0,0,[],o_,o_,rfl,World.iter_heap w s 0,H0.o,rfl⟩
 case round=>
  obtain⟨pos,fr,l,hp,zM,rfl,hit,hR,hcut⟩:=hrel;have xZ:=iterPos_of hit;obtain⟨Pr,HR,BY⟩:=zh3 hit hR hcut;clear hit hR hcut;have Ku:l.length<=s.size:=by
   have h1:=congrArg List.length BY.o;have h2:=cM s;have h3:0<(cuts s pos fr).length:=by
    by_cases c:pos<s.size
    ·unfold cuts;cases hz:s.size-pos with
     |zero=>omega
     |succ z=>
      clear h1 h2;have: ∀z pos fr,0<(nj s z pos fr).length:=by
       intro z
       induction z with
       |zero=>intro pos fr;exact Nat.zero_lt_one
       |succ z ih=>
        intro pos fr;unfold nj;split
        ·split
         ·simp
         ·exact ih _ _
        ·exact Nat.zero_lt_one
      exact this _ _ _
    ·rw[fa c];exact Nat.zero_lt_one
   rw[wU]at h1;omega
  have xw:=(wO Pr.o).1;by_cases Al:pos<s.size
  ·obtain⟨k1,k2,k3,k4⟩:=nZ s pos Al;obtain⟨r,hr⟩:=e_ ((Utf8.decode s pos).1);obtain⟨d,hd⟩:=e_ ((Utf8.decode s pos).2);have Ih:=fun ty=>Go.Lib.run_next_any_at (P:=prog) wr w.heap.size s pos ty Pr.o Al;rw[<-hr,<-hd]at Ih;rw[<-hr]at k3 k4;rw[<-hd]at k1 k2 k3 k4;have zn:Mod (fun b=>b=w.heap.size) wr (wr.iterAt w.heap.size s (pos+d)):=⟨rfl,rfl,rfl,by rw[Go.Lib.iterAt_size];exact wS _,fun b _ hb=>Go.Lib.iterAt_other wr w.heap.size b s _ hb⟩;have Dn:=Tq.o _ _ _ HR.o zn (Go.Lib.iterAt_size wr w.heap.size s (pos+d)).symm;have FO:=Go.Lib.iterAt_heap wr w.heap.size s pos (pos+d) Pr.o;have xQ:=Go.Lib.iterAt_size wr w.heap.size s (pos+d);obtain⟨w1,hw⟩:=e_ (wr.iterAt w.heap.size s (pos+d));rw[<-hw]at Dn FO Ih xQ;obtain⟨Tt,Yn⟩:=zh2 FO Dn;have hp1:=iterPos_of FO;clear FO Dn hw zn hr hd;by_cases IE:r=47
   ·subst IE;obtain⟨k5,rfl⟩:=k3 rfl;have zU:=wP (show(l++[s.extract fr pos])++cuts s (pos+1) (pos+1)=bg s by rw[List.append_assoc,List.singleton_append,<-gu Al k5];exact BY.o);have xO:=Bo.o w1 l (s.extract fr pos) Ku (by rw[ByteArray.size_extract];omega) o_ Yn.o;clear k3 k4 k5;cases za:go (l++[s.extract fr pos])with
    |true=>
     rw[za]at xO;obtain⟨Ac,Nv⟩:=zh2 xO za;clear xO za;go_wp2_with (first
      |(go_at_call 184;refine(Ac.o).mono ?_;rintro e w2⟨rfl,Aj,Ca⟩;obtain⟨EZ,Nt⟩:=zh2 Aj (Ca.trans Tt.o);have hp2:=iterPos_of Nt.o;clear Aj Ca)
      |fail)
     go_roundw
     case rel=>exact⟨pos+1,pos+1,_,o_,o_,by go_num,Nt.o,EZ.o,zU.o⟩
     case measure=>(rw[hp2,xZ];omega)
    |false=>
     rw[za]at xO;obtain⟨Ac,Nv⟩:=zh2 xO za;clear xO za;go_wp2_with (first
      |(go_at_call 184;refine(Ac.o).mono ?_;rintro e w2⟨rfl,Aj,Ca⟩;have EZ:=wP Aj;clear Aj Ca)
      |fail)
     refine bodyPost_ret (results_none rfl _ _ _) rfl ?_;exact⟨rfl,_,EZ.o,.inr ⟨_,zU.o,Nv.o⟩⟩
   ·have xA:(((r:Nat):Int) != 47)=true:=(by rw[bne_iff_ne];omega);have zU:=wP (show l++cuts s (pos+d) fr=bg s by rw[<-oY d k2 (k4 IE)];exact BY.o);clear k3 k4 IE;go_wp2_with fail;go_roundw
    case rel=>exact⟨pos+d,fr,l,k2,o_,rfl,Tt.o,Yn.o,zU.o⟩
    case measure=>(rw[hp1,xZ];omega)
  ·have Ih:=fun ty=>Go.Lib.run_next_end_at (P:=prog) wr w.heap.size s pos ty Pr.o Al;have zU:=wP (show l++[s.extract fr s.size]=bg s by rw[<-fa Al];exact BY.o);have xO:=Bo.o wr l (s.extract fr s.size) Ku (by rw[ByteArray.size_extract];omega) xw HR.o;have Ac:=wP xO;clear xO;go_wp2_with (first
    |(go_at_call 184;refine(Ac.o).mono ?_;rintro e w2⟨rfl,Aj,Ca⟩;have EZ:=wP Aj;clear Aj Ca)
    |fail)
   go_end0;exact⟨rfl,_,EZ.o,.inl zU.o⟩
theorem fJ (l:List ByteArray)(h:aP x=true):(l++[x]).filter aP=l.filter aP++[x]:=by
 rw[List.filter_append,List.filter_cons_of_pos h];rfl
theorem gF (l:List ByteArray)(h:aP x=false):(l++[x]).filter aP=l.filter aP:=by
 rw[List.filter_append,List.filter_cons_of_neg (by rw[h];decide)];simp
theorem gD {tmps:Array Value}{v b r:Value}(h2:tmps.getD 2 undef= .pointer (some ⟨bo,0,none⟩))(h3:tmps.getD 3 undef=b)(h4:tmps.getD 4 undef=r)(hc:w.cell? ⟨bo,0,none⟩=some v)(hv:v.oneCell'=true):
  (results Tryz.f161 tmps).run prog w= .ok (.tuple #[v,b,r]) w:=by
 rw[iX rfl,h2,h3,h4]
 go_simp
theorem uS (s:ByteArray)(w:World)(hs:s.size<=1000000000)(hc:chk s≠0):Calls prog 161 #[.string s] w fun e w'=>e= .returned (.tuple #[.slice none 0 0,.bool false,.int .i64 (chk s)])/\Below w.heap.size w w':=by
 have hq:=fun w0=>qv s w0 hs;obtain⟨r,hr⟩:=e_ (chk s);rw[<-hr]at hq hc⊢;have Dz:=ab w (.cells #[.slice none 0 0] 107);have xA:(r != 0)=true:=(by rw[bne_iff_ne];exact hc);obtain⟨HQ,TH⟩:=zh2 hq Dz;clear hq hr hc Dz;go_enter func161,ntmps161;go_wp2_with (first
  |(go_at_call 164;refine(HQ.o _).mono ?_;rintro e w1⟨rfl,xu⟩;have hB:=(xu.block _ s_).trans TH.o;have c1:=aa hB 0;have f1:=ae hB 0;have HB:=wP hB;clear hB))
 have yq:=kw HB.o (y:= .slice none 0 0);refine bodyPost_ret (v:= .tuple #[.slice none 0 0,.bool false,.int .i64 r]) (gD rfl rfl rfl (aa yq 0) rfl) rfl ?_;exact⟨rfl,(wR.trans (xu.mono s_)).setCell (wS _) _⟩
def cE (s:ByteArray)(w:World)(e:Ending)(w':World):Prop:= ∃A cap,e= .returned (.tuple #[.slice A (ar s).length cap,.bool (Lib.hasPrefix s.data.toList [47]),.int .i64 0])/\OwnS w' w.heap.size A cap (ar s)/\Below w.heap.size w w'
theorem parts_ok (s:ByteArray)(w:World)(hc:chk s=0):Calls prog 161 #[.string s] w (cE s w):=by
 obtain⟨h1,h2,_,_⟩:=dv hc;have hq:=fun w0=>qv s w0 o_;rw[hc]at hq;have Dz:=ab w (.cells #[.slice none 0 0] 107);obtain⟨w0,xv⟩:=e_ (w.alloc (.cells #[.slice none 0 0] 107));rw[<-xv]at Dz;have xT:w0.heap.size=w.heap.size+1:=(by rw[xv];simp);have AO:Below w.heap.size w w0:=(by rw[xv];exact wR);have Gk:=fun(w1:World) (hb:Below w0.heap.size w0 w1)=>uR w.heap.size s w1 (fun w2 l=>Below w.heap.size w w2/\w1.heap.size+1<=w2.heap.size/\gv w.heap.size (w1.heap.size+1) (l.filter aP) w2) (fun l=>true) o_
  (fun w2 w3 l ⟨a1,a2,a3⟩ hm LC=>⟨a1.trans (hm.below (fun b e=>by have:=hb.size;omega) a1.size),o_,a3.mod hm (by have:=hb.size;omega) (fun b h=>o_)⟩)
  ⟨(AO.trans (hb.mono o_)).alloc (by have:=hb.size;omega) _,s_,none,0,(wT _ _ _ (by have:=hb.size;omega)).trans ((hb.block _ o_).trans Dz),OwnS.nil _ _,fun g e=>by cases e⟩
  (fun w2 l x hl hx hk ⟨a1,a2,a3⟩=>by
   cases hp:aP x with
   |true=>
    refine(sJ w.heap.size (w1.heap.size+1) x (l.filter aP) w2 hp a3 (by have:=List.length_filter_le aP l;omega) a2).mono ?_;rintro e w3⟨rfl,b1,b2⟩;rw[fJ l hp];exact⟨rfl,⟨a1.trans (b2.below (fun b e=>by have:=hb.size;omega) a1.size),xn a2 b2.size,b1⟩,b2.block _ hk (by have:=hb.size;omega)⟩
   |false=>
    refine(uT w.heap.size x w2 hp).mono ?_;rintro e w3⟨rfl,rfl⟩;rw[gF l hp];exact⟨rfl,⟨a1,a2,a3⟩,rfl⟩)
 have VD:=fun w0=>sX s ⟨#[47]⟩ w0;obtain⟨pb,hpb⟩:=e_ (Lib.hasPrefix s.data.toList [47]);have PM: ∀w0,Calls prog 185 #[.string s,.string ⟨#[47]⟩] w0 fun e w'=>e= .returned (.bool pb)/\w'=w0:=fun w0=>by rw[hpb];exact VD w0
 unfold cE;rw[<-hpb];obtain⟨HQ,xU,TH,HPC,HPR⟩:=zh5 hq xv Dz Gk PM;clear hq xv Dz Gk VD PM hpb hc h1;go_enter func161,ntmps161;go_upto_region 1 with(fail);rw[<-xU.o];go_wp2_with (first
  |(go_at_call 164;refine(HQ.o _).mono ?_;rintro e w1⟨rfl,xu⟩)
  |(go_at_call 183;refine(HPC.o w1 xu).mono ?_;rintro e w2⟨rfl,l,⟨xx,xX,A,cap,hc,hO,hA⟩,hl⟩;have c1:=aa hc 0;have f1:=ae hc 0;obtain⟨HC,HO,HA,HL⟩:=zh4 hc hO hA hl;clear hc hO hA hl))
 go_region_with
  ((
   first
   |(go_at_call 185;refine(HPR.o _).mono ?_;rintro e w3⟨rfl,rfl⟩)))
 all_goals
  go_wp2_with fail;have xW:l=bg s:=by
   rcases HL.o with e|⟨r,_,e⟩
   ·exact e
   ·cases e
  have yq:=kw HC.o (y:= .slice A (l.filter aP).length cap);have hm:=aj (S:=fun b=>b=w.heap.size) (w:=w2) rfl 0 (.slice A (l.filter aP).length cap);have hz:=xx.size;refine bodyPost_ret (v:= .tuple #[.slice A (ar s).length cap,.bool pb,.int .i64 0]) (gD rfl rfl rfl (by have h9:=aa yq 0;have h8:(ar s).length=(l.filter aP).length:=(congrArg (fun z=>(List.filter aP z).length) xW).symm;rw[h8];exact h9) rfl) rfl ?_;refine⟨A,cap,rfl,?_,?_⟩
  ·have CA:OwnS (w2.setCell ⟨w.heap.size,0,none⟩ (.slice A (l.filter aP).length cap)).drew (w1.heap.size+1) A cap (ar s):=by
    unfold ar;rw[<-xW];refine OwnS.same HO.o fun g hg=>?_;rcases(OwnS.form HO.o)with⟨e,_⟩|⟨g',e,k1,k2,_⟩
    ·rw[e]at hg;cases hg
    ·rw[e]at hg;injection hg with hg;injection hg with hg;subst hg;have:=xu.size;exact hm.block _ k2 o_
   exact CA.lower (by have:=xu.size;omega)
  ·exact((Mod.of xx).trans (Out.refl _ _) hm.drew).below (S:=fun b=>b=w.heap.size) (fun b hb=>o_) (wS _)
end
section
structure Ent where
 path:ByteArray
 kind:Nat
 mode:Nat
 uid:Nat
 gid:Nat
 n:Nat
 dat:Nat->Nat
 «to»:ByteArray
structure Nd where
 kind:Nat
 mode:Nat
 uid:Nat
 gid:Nat
 n:Nat
 up:Nat
 name:ByteArray
 dat:Nat->Nat
 «to»:ByteArray
def aD:Nd:=⟨2,493,0,0,0,0,⟨#[]⟩,fun _ =>0,⟨#[]⟩⟩
def dF (m:Nat):Bool:=bits .andNot .u16 (m:Int) 2559 != 0
def dots (l:List ByteArray):Bool:=l.any fun x=>x.data== #[46,46]
def may (e:Ent):Int:=
 if e.kind<1\/3<e.kind\/dF e.mode=true then 1
 else if chk e.path≠0\/Lib.hasPrefix e.path.data.toList [47]=false\/ar e.path=[]\/Lib.hasSuffix e.path.data.toList [47]=true\/dots (ar e.path)=true then 1
 else if(e.kind≠1/\0<e.n)\/(e.kind≠3/\e.to.size≠0)then 1
 else if e.kind=3/\chk e.to≠0 then 1
 else if 65536<e.n then 12 else 0
def ak (F:List Nd)(i:Nat):Nat:=match F[i]? with|some y=>y.kind|none=>0
def aI (F:List Nd)(d:Nat):List (ByteArray×Nat):=
 (List.range F.length).filterMap fun i=>match F[i]? with|some y=>if 0<i/\y.up=d then some (y.name,i)else none|none=>none
def dm (l:List (ByteArray×Nat))(x:ByteArray):Option Nat:=(l.find? fun y=>decide (y.1=x)).map (·.2)
def atM (F:List Nd):Nat->List ByteArray->Option Nat
 |i,[]=>some i
 |i,x::l=>if ak F i=2 then(match dm (aI F i) x with|some j=>atM F j l|none=>none)else none
def bB (e:Ent)(up:Nat)(x:ByteArray):Nd:=⟨e.kind,e.mode,e.uid,e.gid,e.n,up,x,e.dat,e.to⟩
def addM (F:List Nd)(e:Ent):Int×List Nd:=
 if may e≠0 then(may e,F)
 else if(atM F 0 (ar e.path)).isSome=true then(7,F)
 else match atM F 0 (ar e.path).dropLast with
  |none=>(3,F)
  |some up=>if ak F up≠2 then(8,F)else(0,F++[bB e up ((ar e.path).getLastD ⟨#[]⟩)])
def newM (F:List Nd):Nat->List Ent->Int×Int×List Nd
 |_,[]=>(0,0,F)
 |i,e::l=>if(addM F e).1≠0 then((addM F e).1,(i:Int),F)else newM (addM F e).2 (i+1) l
variable {F:List Nd}{i:Nat}
theorem gQ {y:Nd}(h:F[i]? =some y):ak F i=y.kind:=by unfold ak;rw[h]
theorem cU (y:Nd)(h:i<F.length):ak (F++[y]) i=ak F i:=by
 unfold ak;rw[wZ h]
theorem gG {α β:Type}{f g:α->Option β} : ∀ {l:List α},(∀x∈l,f x=g x)->l.filterMap f=l.filterMap g
 | [],_ =>rfl
 |x::l,h=>by
  rw[List.filterMap_cons,List.filterMap_cons,h x (xl ..),gG fun y hy=>h y (xk _ hy)]
theorem jv (F:List Nd)(y:Nd)(d:Nat)(h:0<F.length):aI (F++[y]) d=aI F d++if y.up=d then [(y.name,F.length)]else []:=by
 unfold aI;rw[wU,xc,List.range_succ,List.filterMap_append];congr 1
 ·refine gG fun i hi=>?_;rw[wZ (List.mem_range.1 hi)]
 ·simp only[List.filterMap_cons,List.filterMap_nil];rw[wY (wS _)];simp only[Nat.sub_self,List.getElem?_cons_zero];by_cases hu:y.up=d
  ·rw[if_pos hu,if_pos ⟨h,hu⟩]
  ·rw[if_neg hu,if_neg (fun e=>hu e.2)]
theorem bA {d:Nat}{x:ByteArray×Nat}(h:x∈aI F d):x.2<F.length/\0<x.2/\ ∃y,F[x.2]? =some y/\y.up=d/\y.name=x.1:=by
 unfold aI at h;obtain⟨i,hi,h2⟩:=List.mem_filterMap.1 h;have hl:=List.mem_range.1 hi;cases hf:F[i]? with
 |none=>rw[hf]at h2;cases h2
 |some y=>
  rw[hf]at h2;simp only at h2;split at h2
  ·next h3=>
   injection h2 with h2;subst h2;exact⟨hl,h3.1,y,hf,h3.2,rfl⟩
  ·cases h2
variable {x:ByteArray}{j:Nat}
theorem eC {l:List (ByteArray×Nat)}(h:dm l x=some j):(x,j)∈l:=by
 unfold dm at h;cases hf:l.find? (fun y=>decide (y.1=x))with
 |none=>rw[hf]at h;cases h
 |some y=>
  rw[hf]at h;injection h with h;have h1:=List.mem_of_find?_eq_some hf;have h2:=List.find?_some hf;have h3:y.1=x:=(by simpa using h2);rw[<-h3,<-h];exact h1
theorem sV {l:List (ByteArray×Nat)}(h:dm l x=none): ∀y∈l,y.1≠x:=by
 unfold dm at h;intro y hy;have:=List.find?_eq_none.1 (by simpa using h:l.find? (fun y=>decide (y.1=x))=none) y hy;simpa using this
theorem vZ (l:List ByteArray): ∀ {i j:Nat},i<F.length->atM F i l=some j->j<F.length:=by
 induction l with
 |nil=>intro i j h1 h2;unfold atM at h2;injection h2 with h2;omega
 |cons x l ih=>
  intro i j h1 h2;unfold atM at h2;split at h2
  ·split at h2
   ·next k hk=>exact ih (bA (eC hk)).1 h2
   ·cases h2
  ·cases h2
variable {l:List ByteArray}
theorem atM_go (h:ak F i=2)(hj:dm (aI F i) x=some j):atM F i (x::l)=atM F j l:=by
 rw[atM,if_pos h,hj]
theorem atM_no (h:ak F i=2)(hj:dm (aI F i) x=none):atM F i (x::l)=none:=by
 rw[atM,if_pos h,hj]
theorem atM_leaf (h:ak F i≠2):atM F i (x::l)=none:=by
 rw[atM,if_neg h]
theorem atM_snoc (l:List ByteArray)(x:ByteArray): ∀i,atM F i (l++[x])=match atM F i l with|some u=>atM F u [x]|none=>none:=by
 induction l with
 |nil=>intro i;rfl
 |cons y l ih=>
  intro i;rw[List.cons_append,atM,atM];split
  ·split
   ·exact ih _
   ·rfl
  ·rfl
structure NdOk (N:Nat)(y:Nd):Prop where
 kind:1<=y.kind/\y.kind<=3
 few:y.n<=65536
 up:y.up<N
structure FOk (F:List Nd):Prop where
 each: ∀(i:Nat) (y:Nd),F[i]? =some y->NdOk F.length y
 root: ∃y,F[0]? =some y/\y.kind=2/\y.up=0
theorem FOk.pos (h:FOk F):0<F.length:=by
 obtain⟨y,hy,_⟩:=h.root;exact(List.getElem?_eq_some_iff.1 hy).1
theorem FOk.start:FOk [aD]:=⟨fun i y h=>by
 cases i with
 |zero=>simp at h;subst h;exact⟨d_,d_,d_⟩
 |succ i=>simp at h,⟨_,rfl,rfl,rfl⟩⟩
variable {e:Ent}
theorem eX (h:may e=0):1<=e.kind/\e.kind<=3/\dF e.mode=false/\chk e.path=0/\Lib.hasPrefix e.path.data.toList [47]=true/\ar e.path≠[]/\Lib.hasSuffix e.path.data.toList [47]=false/\dots (ar e.path)=false/\
  (e.kind=1\/e.n=0)/\(e.kind=3\/e.to.size=0)/\(e.kind=3->chk e.to=0)/\e.n<=65536:=by
 unfold may at h;split at h
 ·cases h
 split at h
 ·cases h
 split at h
 ·cases h
 split at h
 ·cases h
 split at h
 ·cases h
 next h1 h2 h3 h4 h5=>
 have g1:dF e.mode=false:=by
  cases hc:dF e.mode with
  |false=>rfl
  |true=>exact absurd (.inr (.inr hc)) h1
 refine⟨o_,o_,g1,?_,?_,?_,?_,?_,o_,o_,fun hk=>?_,o_⟩
 ·by_cases c:chk e.path=0
  ·exact c
  ·exact absurd (.inl c) h2
 ·cases hc:Lib.hasPrefix e.path.data.toList [47]with
  |true=>rfl
  |false=>exact absurd (.inr (.inl hc)) h2
 ·intro hc;exact h2 (.inr (.inr (.inl hc)))
 ·cases hc:Lib.hasSuffix e.path.data.toList [47]with
  |false=>rfl
  |true=>exact absurd (.inr (.inr (.inr (.inl hc)))) h2
 ·cases hc:dots (ar e.path)with
  |false=>rfl
  |true=>exact absurd (.inr (.inr (.inr (.inr hc)))) h2
 ·by_cases c:chk e.to=0
  ·exact c
  ·exact absurd ⟨hk,c⟩ h4
theorem nz (h:FOk F)(h0:(addM F e).1=0):FOk (addM F e).2/\(addM F e).2.length=F.length+1/\may e=0/\ ∃up,atM F 0 (ar e.path)=none/\atM F 0 (ar e.path).dropLast=some up/\ak F up=2/\up<F.length/\(addM F e).2=F++[bB e up ((ar e.path).getLastD ⟨#[]⟩)]:=by
 unfold addM at h0⊢;split at h0
 ·next hm=>exact absurd h0 hm
 next hm=>
 split at h0
 ·cases h0
 next ha=>
 rw[if_neg hm,if_neg ha];split at h0
 ·cases h0
 next up hu=>
 split at h0
 ·cases h0
 next hk=>
 rw[hu];show FOk (if ak F up≠2 then((8:Int),F)else(0,F++[bB e up ((ar e.path).getLastD ⟨#[]⟩)])).2/\_;rw[if_neg hk];have GS:may e=0:=o_;have hul:=vZ _ h.pos hu;obtain⟨m1,m2,_,_,_,_,_,_,_,_,_,m3⟩:=eX GS;refine⟨⟨fun i y hy=>?_,?_⟩,s_,GS,up,by simpa using ha,rfl,o_,hul,rfl⟩
 ·rw[wU,xc];by_cases hi:i<F.length
  ·rw[wZ hi]at hy;have:=h.each i y hy;exact⟨this.kind,this.few,by have:=this.up;omega⟩
  ·rw[wY o_]at hy;have Bn:i-F.length=0:=by
    rcases Nat.eq_zero_or_pos (i-F.length)with e0|e0
    ·exact e0
    ·rw[List.getElem?_eq_none t_]at hy;cases hy
   rw[Bn]at hy;simp at hy;subst hy;exact⟨⟨m1,m2⟩,m3,by show up<_;omega⟩
 ·obtain⟨y,hy,hr⟩:=h.root;exact⟨y,by rw[wZ h.pos];exact hy,hr⟩
end
section
open Go.RowKit Go.Sort
def IdxPost (l:List ByteArray)(w:World)(e:Ending)(w':World):Prop:= ∃i:Int,e= .returned (.int .i64 i)/\w'=w/\dots l=decide (0<=i)
variable {l:List ByteArray}
theorem dots_at {k:Nat}{x:ByteArray}(h:l[k]? =some x)(hx:((ByteArray.mk #[46,46]).toList==x.toList)=true):dots l=true:=by
 unfold dots;refine List.any_eq_true.2 ⟨x,xb h,?_⟩;have e:=eq_of_beq hx;rw[ByteArray.toList_eq,ByteArray.toList_eq]at e;rw[beq_iff_eq];exact(Array.toList_inj.1 e).symm
theorem dots_not (h: ∀k,k<l.length-> ∀x,l[k]? =some x->((ByteArray.mk #[46,46]).toList==x.toList)=false):dots l=false:=by
 unfold dots;rw[List.any_eq_false];intro x hx e;obtain⟨k,hk,e2⟩:=List.getElem_of_mem hx;have h1:=h k hk x (by rw[wV hk,e2]);rw[beq_iff_eq]at e;rw[ByteArray.toList_eq,ByteArray.toList_eq,e]at h1;simp at h1
theorem te (base cap:Nat)(A:Option Addr)(l:List ByteArray)(w:World)(hO:OwnS w base A cap l)(xD:l.length<100000):
  Calls prog 187 #[.slice A l.length cap,.string ⟨#[46,46]⟩] w (IdxPost l w):=by
 have yF:=hO.form;have HO:=wP hO;obtain⟨n,hn⟩:=e_ l.length;rw[<-hn]at xD yF⊢;obtain⟨s,hs⟩: ∃s:ByteArray,s=⟨#[46,46]⟩:=⟨_,rfl⟩;rw[<-hs];obtain⟨HN,HS⟩:=zh2 hn hs;clear hO hn hs;go_enter func187,ntmps187;go_wp2_with fail;go_loop [8] (fun i=> ∃k:Nat,k<=n/\i= .int .i64 (k:Int)/\ ∀j,j<k-> ∀x,l[j]? =some x->(s.toList==x.toList)=false) (fun i=>n-(intOf i).toNat)
 case atStart=>exact⟨0,o_,rfl,fun j hj=>o_⟩
 case round=>
  obtain⟨k,hk,rfl,xL⟩:=hrel;have Ds:=wP xL;clear xL;by_cases xw:k<n
  ·rcases yF with⟨_,h2,_⟩|⟨g,hA,_,_,yA⟩
   ·exfalso;have:=HN.o;rw[h2]at this;simp at this;omega
   subst hA;obtain⟨x,hx⟩: ∃x,l[k]? =some x:=⟨_,wV (by rw[<-HN.o];exact xw)⟩;have c0:w.cell? ⟨g,k,none⟩=some (.string x):=OwnS.elem HO.o hx;have HX:=wP hx;clear hx;cases hc:(s.toList==x.toList)with
   |true=>
    have HC:=wP hc;go_wp2_with fail;go_ret;exact⟨_,rfl,rfl,by rw[dots_at HX.o (by rw[<-HS.o];exact HC.o)];simp⟩
   |false=>
    have HC:=wP hc;go_wp2_with fail;go_round
    case rel=>
     refine⟨k+1,o_,by go_num,fun j hj y hy=>?_⟩;rcases Nat.lt_succ_iff_lt_or_eq.1 hj with h1|h1
     ·exact Ds.o j h1 y hy
     ·subst h1;rw[HX.o]at hy;injection hy with hy;subst hy;exact HC.o
    case measure=>simp[intOf];omega
  ·obtain rfl:k=n:=o_;go_wp2_with fail;go_ret;exact⟨-1,rfl,rfl,by rw[dots_not (fun j hj y hy=>by rw[<-HS.o];exact Ds.o j (by rw[HN.o];exact hj) y hy)];rfl⟩
theorem np (base cap:Nat)(A:Option Addr)(l:List ByteArray)(w:World)(hO:OwnS w base A cap l)(xD:l.length<100000):
  Calls prog 163 #[.slice A l.length cap,.string ⟨#[46,46]⟩] w fun e w'=>e= .returned (.bool (dots l))/\w'=w:=by
 have hi:=wP (te base cap A l w hO xD);cases hd:dots l
 all_goals
  have HD:=wP hd;clear hd hO;go_enter func163,ntmps163;go_wp2_with (first
   |(go_at_call 187;refine(hi.o).mono ?_;rintro e w3⟨i,rfl,rfl,hdi⟩;rw[HD.o]at hdi;have hdi2:=hdi.symm;clear hdi)
   |fail)
  go_ret;exact⟨rfl,rfl⟩
end
section
open Go.RowKit Go.Sort
def Ent.val (e:Ent)(A:Option Addr)(c:Nat):Value:= .agg #[.string e.path,.int .u8 (e.kind:Int),.int .u16 (e.mode:Int),.int .u32 (e.uid:Int),.int .u32 (e.gid:Int),.slice A e.n c,.string e.to]
variable {t:ByteArray}
theorem qN (h:t.size=0):(!t.toList.isEmpty)=false:=by
 have e:t=⟨#[]⟩:=by
  cases t with
  |mk d=>exact congrArg ByteArray.mk (Array.eq_empty_of_size_eq_zero h)
 subst e;rw[ByteArray.toList_eq];rfl
theorem tY (h:t.size≠0):(!t.toList.isEmpty)=true:=by
 cases hc:t.toList with
 |nil=>
  exfalso;apply h;have h9:t.data.toList=[]:=(by rw[<-hc];exact(ByteArray.toList_eq t).symm);have h8:t.data.toList.length=0:=(by rw[h9];rfl);exact h8
 |cons x l=>rfl
variable {K mr:Int}
theorem may_head {v:Int}{k:Nat}{mb pb tb db:Bool}(xN:mr=if K<1\/3<K\/mb=true then 1 else if pb=false\/k=0\/tb=true\/db=true then 1 else v):
  (mr=1/\K<1)\/(mr=1/\ ¬K<1/\3<K)\/(mr=1/\(K=1\/K=2\/K=3)/\mb=true)\/(mr=1/\(K=1\/K=2\/K=3)/\mb=false/\pb=false)\/(mr=1/\(K=1\/K=2\/K=3)/\mb=false/\pb=true/\k=0)\/(mr=1/\(K=1\/K=2\/K=3)/\mb=false/\pb=true/\k≠0/\tb=true)\/(mr=1/\(K=1\/K=2\/K=3)/\mb=false/\pb=true/\k≠0/\tb=false/\db=true)\/(mr=v/\(K=1\/K=2\/K=3)/\mb=false/\pb=true/\k≠0/\tb=false/\db=false):=by
 by_cases h1:K<1
 ·rw[if_pos (.inl h1)]at xN;exact .inl ⟨xN,h1⟩
 by_cases h2:3<K
 ·rw[if_pos (.inr (.inl h2))]at xN;exact .inr (.inl ⟨xN,h1,h2⟩)
 have hk:K=1\/K=2\/K=3:=o_;cases mb with
 |true=>rw[if_pos (.inr (.inr rfl))]at xN;exact .inr (.inr (.inl ⟨xN,hk,rfl⟩))
 |false=>
  rw[if_neg (by simp[h1,h2])]at xN;cases pb with
  |false=>rw[if_pos (.inl rfl)]at xN;exact .inr (.inr (.inr (.inl ⟨xN,hk,rfl,rfl⟩)))
  |true=>
   by_cases h3:k=0
   ·rw[if_pos (.inr (.inl h3))]at xN;exact .inr (.inr (.inr (.inr (.inl ⟨xN,hk,rfl,rfl,h3⟩))))
   cases tb with
   |true=>rw[if_pos (.inr (.inr (.inl rfl)))]at xN;exact .inr (.inr (.inr (.inr (.inr (.inl ⟨xN,hk,rfl,rfl,h3,rfl⟩)))))
   |false=>
    cases db with
    |true=>rw[if_pos (.inr (.inr (.inr rfl)))]at xN;exact .inr (.inr (.inr (.inr (.inr (.inr (.inl ⟨xN,hk,rfl,rfl,h3,rfl,rfl⟩))))))
    |false=>rw[if_neg (by simp[h3])]at xN;exact .inr (.inr (.inr (.inr (.inr (.inr (.inr ⟨xN,hk,rfl,rfl,h3,rfl,rfl⟩))))))
theorem ve {ct:Int}{n s:Nat}(zo:K=1\/K=2\/K=3)(xN:mr=if(K≠1/\0<n)\/(K≠3/\s≠0)then 1 else if K=3/\ct≠0 then 1 else if 65536<n then 12 else 0):
 (K=1/\s≠0/\mr=1)\/(K=1/\s=0/\(65536:Int)<(n:Int)/\mr=12)\/(K=1/\s=0/\ ¬(65536:Int)<(n:Int)/\mr=0)\/((K=2\/K=3)/\(0:Int)<(n:Int)/\mr=1)\/(K=2/\n=0/\s≠0/\mr=1)\/(K=2/\n=0/\s=0/\mr=0)\/(K=3/\n=0/\ct≠0/\mr=1)\/(K=3/\n=0/\ct=0/\mr=0):=by
 by_cases h0:0<n
 ·by_cases h1:K=1
  ·subst h1;by_cases hs:s=0
   ·rw[if_neg o_,if_neg o_]at xN;by_cases h:65536<n
    ·rw[if_pos h]at xN;exact .inr (.inl ⟨rfl,hs,o_,xN⟩)
    ·rw[if_neg h]at xN;exact .inr (.inr (.inl ⟨rfl,hs,o_,xN⟩))
   ·rw[if_pos (.inr ⟨d_,hs⟩)]at xN;exact .inl ⟨rfl,hs,xN⟩
  ·rw[if_pos (.inl ⟨h1,h0⟩)]at xN;exact .inr (.inr (.inr (.inl ⟨o_,o_,xN⟩)))
 ·obtain rfl:n=0:=o_;rcases zo with rfl|rfl|rfl
  ·by_cases hs:s=0
   ·rw[if_neg o_,if_neg o_,if_neg o_]at xN;exact .inr (.inr (.inl ⟨rfl,hs,o_,xN⟩))
   ·rw[if_pos (.inr ⟨d_,hs⟩)]at xN;exact .inl ⟨rfl,hs,xN⟩
  ·by_cases hs:s=0
   ·rw[if_neg o_,if_neg o_,if_neg o_]at xN;exact .inr (.inr (.inr (.inr (.inr (.inl ⟨rfl,rfl,hs,xN⟩)))))
   ·rw[if_pos (.inr ⟨d_,hs⟩)]at xN;exact .inr (.inr (.inr (.inr (.inl ⟨rfl,rfl,hs,xN⟩))))
  ·rw[if_neg o_]at xN;by_cases hc:ct=0
   ·rw[if_neg o_,if_neg o_]at xN;exact .inr (.inr (.inr (.inr (.inr (.inr (.inr ⟨rfl,rfl,hc,xN⟩))))))
   ·rw[if_pos ⟨rfl,hc⟩]at xN;exact .inr (.inr (.inr (.inr (.inr (.inr (.inl ⟨rfl,rfl,hc,xN⟩))))))
theorem OwnS.kept {w w':World}{base:Nat}{A:Option Addr}{cap:Nat}{l:List ByteArray}(h:OwnS w base A cap l)(hb:Below w.heap.size w w'):OwnS w' base A cap l:=h.same fun g hg=>by
 rcases h.form with⟨e,_⟩|⟨g',e,_,h2,_⟩
 ·rw[e]at hg;cases hg
 ·rw[e]at hg;injection hg with hg;injection hg with hg;subst hg;exact hb.block _ h2
def VpPost (mr:Int)(L:List ByteArray)(w:World)(e:Ending)(w':World):Prop:=
 ∃A1 xt l,e= .returned (.tuple #[.slice A1 l.length xt,.int .i64 mr])/\OwnS w' w.heap.size A1 xt l/\Below w.heap.size w w'/\(mr=0->l=L)/\(mr≠0->A1=none/\xt=0/\l=[])
theorem et (x:Ent)(A:Option Addr)(c:Nat)(w:World)(hp:x.path.size<=1000000000)(ht:x.to.size<=1000000000)(hn:x.n<=9223372036854775807):
  Calls prog 133 #[x.val A c] w (VpPost (may x) (ar x.path) w):=by
 obtain⟨path,kind,mode,uid,gid,n,dat,lk⟩:=x;simp only at hp ht hn;obtain⟨K,SI⟩: ∃K:Int,K=(kind:Int):=⟨_,rfl⟩;have ZJ:0<=K:=o_;obtain⟨w0,xv⟩:=e_ (w.alloc (.cells #[.string path,.int .u8 K,.int .u16 (mode:Int),.int .u32 (uid:Int),.int .u32 (gid:Int),.slice A n c,.string lk] 93));have xz:Below w.heap.size w w0:=(by rw[xv];exact wR);have hE:w0.heap[w.heap.size]? =some (.cells #[.string path,.int .u8 K,.int .u16 (mode:Int),.int .u32 (uid:Int),.int .u32 (gid:Int),.slice A n c,.string lk] 93 (0,0)):=(by rw[xv];exact ab w _);have Ci:w.heap.size<w0.heap.size:=(wO hE).1;have d0:w0.cell? ⟨w.heap.size,0,none⟩=some (.string path):=aa hE 0;obtain⟨HE,xU⟩:=zh2 hE xv;clear hE xv;unfold Ent.val;simp only;rw[<-SI];by_cases hc:chk path=0
 rotate_left
 ·have IM:may ⟨path,kind,mode,uid,gid,n,dat,lk⟩=1:=by
   unfold may;simp only;split
   ·rfl
   ·rw[if_pos (.inl hc)]
  rw[IM];have Yp:=wP (fun W=>uS path W hp hc);have xA:(chk path != 0)=true:=(by rw[bne_iff_ne];exact hc);obtain⟨r,hr⟩:=e_ (chk path);rw[<-hr]at xA Yp;clear IM hc hr SI;go_enter func133,ntmps133;go_upto_region 1 with(fail);rw[<-xU.o];go_wp2_with (first
   |(go_at_call 161;refine(Yp.o _).mono ?_;rintro e w1⟨rfl,xu⟩;have yP:=(xu.block _ Ci).trans HE.o;have e1:w1.cell? ⟨w.heap.size,1,none⟩=some (.int .u8 K):=aa yP 1;have e2:w1.cell? ⟨w.heap.size,2,none⟩=some (.int .u16 (mode:Int)):=aa yP 2;obtain⟨Lp,xI⟩:=zh2 yP (xz.trans (xu.mono xz.size));clear yP xu)
   |fail)
  all_goals
   go_ret2;exact⟨none,0,[],rfl,OwnS.nil _ _,xI.o,(fun e=>by cases e),fun _ =>⟨rfl,rfl,rfl⟩⟩
 have Al:=dv hc;have VC:path.size<=200:=Al.2.1;obtain⟨L,hL⟩:=e_ (ar path);obtain⟨k,hk⟩:=e_ L.length;have hkf:k<=201:=(by rw[hk,hL];have:=bd path;omega);obtain⟨pb,hpb⟩:=e_ (Lib.hasPrefix path.data.toList [47]);obtain⟨tb,PE⟩:=e_ (Lib.hasSuffix path.data.toList [47]);obtain⟨db,BD⟩:=e_ (dots L);obtain⟨mb,Gl⟩:=e_ (dF mode);have If:=fun W=>parts_ok path W hc;unfold cE at If;rw[<-hL,<-hpb,<-hk]at If;have Rp:=fun W=>tail_any path W o_;rw[<-PE]at Rp;have hcd: ∀W base A1 xt,OwnS W base A1 xt L->Calls prog 163 #[.slice A1 k xt,.string ⟨#[46,46]⟩] W fun e w'=>e= .returned (.bool db)/\w'=W:=fun W base A1 xt ho=>by
  rw[BD,hk];exact np base xt A1 L W ho o_
 obtain⟨ct,Ip⟩:=e_ (chk lk);have BV:=fun W=>qv lk W ht;rw[<-Ip]at BV;obtain⟨mr,IM⟩:=e_ (may ⟨path,kind,mode,uid,gid,n,dat,lk⟩);rw[<-IM,<-hL];have xN:mr=if K<1\/3<K\/mb=true then 1 else if pb=false\/k=0\/tb=true\/db=true then 1
   else if(K≠1/\0<n)\/(K≠3/\lk.size≠0)then 1 else if K=3/\ct≠0 then 1 else if 65536<n then 12 else 0:=by
  have i1:(K<1)=(kind<1):=(by apply propext;omega);have i2:(3<K)=(3<kind):=(by apply propext;omega);have i3:(K=1)=(kind=1):=(by apply propext;omega);have i4:(K=3)=(kind=3):=(by apply propext;omega);rw[IM,hpb,hk,PE,BD,Ip,hL,Gl];simp only[i1,i2,i3,i4,ne_eq];unfold may;simp only[hc,ne_eq,not_true_eq_false,false_or,List.length_eq_zero_iff]
 have hmbt:(bits .andNot .u16 (mode:Int) 2559 != 0)=mb:=Gl.symm;obtain⟨Tj,Te,HCD,Tz,HK⟩:=zh5 If Rp hcd BV hk;clear If Rp BV hcd BD hpb PE Ip IM hk hL hc Al SI Gl;rcases may_head xN with⟨hv,c1⟩|⟨hv,c1,c2⟩|⟨hv,hk,rfl⟩|⟨hv,hk,rfl,rfl⟩|⟨hv,hk,rfl,rfl,rfl⟩|⟨hv,hk,rfl,rfl,c5,rfl⟩|⟨hv,hk,rfl,rfl,c5,rfl,rfl⟩|⟨hv,hk,rfl,rfl,c5,rfl,rfl⟩
 rotate_right
 rcases ve hk hv with⟨rfl,t0,hw⟩|⟨rfl,t0,Mf,hw⟩|⟨rfl,t0,Mf,hw⟩|⟨RO,Mf,hw⟩|⟨rfl,rfl,t0,hw⟩|⟨rfl,rfl,t0,hw⟩|⟨rfl,rfl,t0,hw⟩|⟨rfl,rfl,rfl,hw⟩
 rotate_left 3
 rcases RO with rfl|rfl
 all_goals
  clear xN
  first
   |(clear hv;subst hw)
   |(
     subst hv;have c1: ¬K<1:=o_;have c2: ¬3<K:=o_;clear hk)
   |subst hv
  first
   |replace t0:=tY t0
   |replace t0:=qN t0
   |(have hct9:(ct != 0)=true:=by rw[bne_iff_ne];exact t0)
   |skip
  go_enter func133,ntmps133;go_upto_region 1 with(fail);rw[<-xU.o];go_wp2_with (first
   |(go_at_call 161;refine(Tj.o _).mono ?_;rintro e w1⟨A1,xt,rfl,yJ,xu⟩;have yP:=(xu.block _ Ci).trans HE.o;have e0:w1.cell? ⟨w.heap.size,0,none⟩=some (.string path):=aa yP 0;have e1:w1.cell? ⟨w.heap.size,1,none⟩=some (.int .u8 _):=aa yP 1;have e2:w1.cell? ⟨w.heap.size,2,none⟩=some (.int .u16 (mode:Int)):=aa yP 2;have e5:w1.cell? ⟨w.heap.size,5,none⟩=some (.slice A _ c):=aa yP 5;have e6:w1.cell? ⟨w.heap.size,6,none⟩=some (.string lk):=aa yP 6;obtain⟨Lp,xI,yB⟩:=zh3 yP (xz.trans (xu.mono xz.size)) yJ;clear yP xu yJ)
   |(go_at_call 162;refine(Te.o _).mono ?_;rintro e w2⟨rfl,rfl⟩)
   |(go_at_call 163;refine(HCD.o _ _ _ _ yB.o).mono ?_;rintro e w3⟨rfl,rfl⟩)
   |(go_at_call 164;refine(Tz.o _).mono ?_;rintro e w4⟨rfl,yG⟩;have hE4:=(yG.block _ (wO Lp.o).1).trans Lp.o;have f5:w4.cell? ⟨w.heap.size,5,none⟩=some (.slice A _ c):=aa hE4 5;obtain⟨Ax,Ct⟩:=zh2 (xI.o.trans (yG.mono xI.o.size)) (OwnS.kept yB.o yG);clear yG hE4)
   |fail)
  all_goals
   go_ret2
   (first
    |exact⟨none,0,[],rfl,OwnS.nil _ _,(by first|exact Ax.o|exact xI.o),(fun e=>by cases e),fun _ =>⟨rfl,rfl,rfl⟩⟩
    |exact⟨A1,xt,L,HK.o▸rfl,(by first|exact OwnS.lower Ct.o xz.size|exact OwnS.lower yB.o xz.size),(by first|exact Ax.o|exact xI.o),(fun _ =>rfl),fun e=>absurd rfl e⟩)
end
section
open Go.RowKit Go.Sort
theorem kn:prog.underlying 9=some .string:=k_
theorem tJ (v:Value)(w:World):(Instr.typeAssert (.iface 163 v) 189 163 true).run prog w= .ok (.tuple #[v,.bool true]) w:=k_
theorem qy (v:Value)(w:World):(Instr.typeAssert (.iface 225 v) 189 225 true).run prog w= .ok (.tuple #[v,.bool true]) w:=k_
end
section
open Go.RowKit Go.Sort
theorem va:(prog.info? 189).map (fun i=>(i.zero,i.size,i.bytes))=some (some .nilIface,1,16):=k_
theorem app_node {w:World}{ops:Array Oper}{rest:List Oper}{o:Oper}{a:Act}{Q:Exit->Act->World->Prop}(zH:o.guard=none)(s x:Operand)
  (ho:o.op= .call { callee:= .builtin .append,args:= #[s,x],argTypes:= #[169,169]})
  (A:Option Addr)(cap:Nat)(l:List Value)(hs:a.eval s= .slice A l.length cap)(xC:w.ownsRow 0 189 1 (.slice A l.length cap) l.length l)
  (t:Value)(ht:t.oneCell'=true)(b c:Nat)(hx:a.eval x= .slice (some ⟨b,0,none⟩) 1 c)(hb:w.heap[b]? =some (.cells #[t] 189 (0,0)))
  (xD:l.length<1000000)
  (h: ∀g xq w',w'.ownsRow 0 189 1 (.slice (some ⟨g,0,none⟩) (l.length+1) xq) (l.length+1) (l++[t])->w.grownBy w' (A.map (·.block))->(A.map (·.block)=some g\/g=w.heap.size)->g<w'.heap.size->wpList prog ops Q rest (a.put o.dst (.slice (some ⟨g,0,none⟩) (l.length+1) xq)) w'):
  wpList prog ops Q (o::rest) a w:=by
 obtain⟨i0,zx,xT,xQ,xX⟩:=info_parts va;refine wpList_append_lies w zH s x 169 ho 0 189 i0 _ 1 16 underlying169 zx xT xQ xX rfl o_ _ l.length l hs xC ⟨b,0,none⟩ 1 c [t] hx rfl (World.news_of_block (cs:= #[t]) hb)
  (by simpa using ht) o_ (by unfold maxLen;omega) o_ (xm _) w.heap.size rfl ?_
 intro g xq w' zg hg yr xw;refine h g xq w' zg ?_ ?_ xw
 ·cases A<;>simpa [Value.ownBlock]using hg
 ·cases A<;>simpa [Value.ownBlock]using yr
end
section
open Go.RowKit Go.Sort
end
section
open Go.RowKit Go.Sort
end
section
open Go.RowKit Go.Sort Go.ChangeMaps Go.MapKept
theorem ul {a b:ByteArray}(h:Value.string a=Value.string b):a=b:=by
 injection h
def bL (w:World)(m:Nat)(l:List (ByteArray×Nat))(V:Nat->Value):Prop:=
 ∃es yj,w.heap[m]? =some (.map es yj)/\Stamped es yj/\es.toList.map (fun e=>(e.key,e.val))=l.map fun x=>(Value.string x.1,V x.2)
variable {w:World}{m:Nat}{l:List (ByteArray×Nat)}{V:Nat->Value}
theorem bL.same {w':World}(h:bL w m l V)(hb:w'.heap[m]? =w.heap[m]?):bL w' m l V:=by
 obtain⟨es,yj,h1,h2,h3⟩:=h;exact⟨es,yj,hb.trans h1,h2,h3⟩
theorem bL.lt (h:bL w m l V):m<w.heap.size:=by
 obtain⟨es,yj,h1,_⟩:=h;exact(wO h1).1
theorem bL.congr {V':Nat->Value}(h:bL w m l V)(hV: ∀x∈l,V' x.2=V x.2):bL w m l V':=by
 obtain⟨es,yj,h1,h2,h3⟩:=h;refine⟨es,yj,h1,h2,h3.trans (List.map_congr_left fun x hx=>?_)⟩;rw[hV x hx]
variable {es:Array MapEntry}
theorem jc (h:es.toList.map (fun e=>(e.key,e.val))=l.map fun x=>(Value.string x.1,V x.2)): ∀e∈es.toList,∃x∈l,e.key= .string x.1/\e.val=V x.2:=fun e he=>by
 have h1:(e.key,e.val)∈l.map fun x=>(Value.string x.1,V x.2):=(by rw[<-h];exact List.mem_map.2 ⟨e,he,rfl⟩);obtain⟨x,hx,h2⟩:=List.mem_map.1 h1;exact⟨x,hx,(congrArg Prod.fst h2).symm,(congrArg Prod.snd h2).symm⟩
theorem kK (h:es.toList.map (fun e=>(e.key,e.val))=l.map fun x=>(Value.string x.1,V x.2)): ∀e∈es.toList,MapKept.IsKey .string e.key:=fun e he=>by
 obtain⟨x,_,h1,_⟩:=jc h e he;rw[h1];trivial
theorem sR (hn:(es.toList.map (·.key)).Nodup)(h:es.toList.map (fun e=>(e.key,e.val))=l.map fun x=>(Value.string x.1,V x.2)):(l.map (·.1)).Nodup:=by
 have e1:es.toList.map (·.key)=l.map fun x=>Value.string x.1:=by
  have:=congrArg (List.map Prod.fst) h;simpa [Function.comp_def]using this
 rw[e1,List.Nodup,List.pairwise_map]at hn;rw[List.Nodup,List.pairwise_map];exact hn.imp fun xA e=>xA (by rw[e])
theorem vf (hn:(l.map (·.1)).Nodup){x:ByteArray×Nat}(hx:x∈l):dm l x.1=some x.2:=by
 unfold dm
 induction l with
 |nil=>cases hx
 |cons y l ih=>
  have h1:=List.nodup_cons.1 hn;rcases List.mem_cons.1 hx with rfl|h2
  ·rw[List.find?_cons_of_pos s_];rfl
  ·rw[List.find?_cons_of_neg (by
    intro e;have e1:y.1=x.1:=(by simpa using e);have e2:x.1∈l.map (·.1):=List.mem_map.2 ⟨x,h2,rfl⟩;rw[<-e1]at e2;exact h1.1 e2)]
   exact ih h1.2 h2
theorem bL.look (h:bL w m l V)(s:ByteArray):
  (Instr.lookup 166 (.map (some m)) (.string s) true).run prog w= .ok (match dm l s with|some j=> .tuple #[V j,.bool true]|none=> .tuple #[.nilIface,.bool false]) w:=by
 obtain⟨es,yj,h1,h2,h3⟩:=h;have hc: ∀b,(Instr.checkKey b 10000 9 (.string s)).run prog w= .ok () w:=fun b=>MapKept.run_checkKey (k:= .string s) kn (by simp[MapKept.IsKey]) b 9999;have hz:(zeroValue 189).run prog w= .ok .nilIface w:=k_;rcases MapKept.findNow_spec (d:= .string) (k:= .string s) trivial es.toList 0 (kK h3)with⟨f1,f2⟩|⟨j,e,f1,f2,f3⟩
 ·have xL:dm l s=none:=by
   cases hc:dm l s with
   |none=>rfl
   |some i=>
    exfalso;have hm:(Value.string s,V i)∈es.toList.map (fun e=>(e.key,e.val)):=(by rw[h3];exact List.mem_map.2 ⟨_,eC hc,rfl⟩);obtain⟨e,he,h4⟩:=List.mem_map.1 hm;exact f2 e he (congrArg Prod.fst h4)
  rw[xL];simp[Instr.lookup,run_underlying underlying166,MapKept.run_getObj_map h1,hc,MapKept.run_findKey kn f1,hz,Result.andThen]
 ·obtain⟨x,hx,k1,k2⟩:=jc h3 e (xb f2);have k1:=ul (f3.symm.trans k1);have hy:dm l s=some x.2:=(by rw[k1];exact vf (sR h2.2.2 h3) hx);rw[hy];rw[k2]at f1;clear k1 k2 hy h3 hx f2 f3;rw[Nat.zero_add]at f1;show _ =Result.ok (Value.tuple #[V x.2,.bool true]) w;generalize V x.2=v at f1⊢;simp[Instr.lookup,run_underlying underlying166,MapKept.run_getObj_map h1,hc,MapKept.run_findKey kn f1,Result.andThen]
theorem bL.put (h:bL w m l V)(s:ByteArray)(j:Nat)(xL: ∀y∈l,y.1≠s):
  ∃w',(Instr.mapUpdate 166 (.map (some m)) (.string s) (V j)).run prog w= .ok () w'/\bL w' m (l++[(s,j)]) V/\Mod (fun b=>b=m) w w'/\w'.heap.size=w.heap.size:=by
 obtain⟨es,yj,h1,h2,h3⟩:=h;have hc:(Instr.checkKey false 10000 9 (.string s)).run prog w= .ok () w:=MapKept.run_checkKey (k:= .string s) kn (by simp[MapKept.IsKey]) false 9999;have xA: ∀e∈es.toList,e.key≠ .string s:=fun e he e2=>by
  obtain⟨x,hx,k1,_⟩:=jc h3 e he;exact xL x hx (ul (k1.symm.trans e2))
 rcases MapKept.findNow_spec (d:= .string) (k:= .string s) trivial es.toList 0 (kK h3)with⟨f1,f2⟩|⟨j',e,f1,f2,f3⟩
 ·refine⟨setBlock w m (.map (es.push ⟨.string s,V j,yj⟩) (yj+1)),?_,⟨_,_,heap_setBlock_same h1 _,MapKept.stamped_push h2 xA,?_⟩,fz,eP⟩
  ·simp[Instr.mapUpdate,run_underlying underlying166,MapKept.run_getObj_map h1,hc,MapKept.run_findKey kn f1,MapKept.run_setObj_map _ h1,Result.andThen,setBlock]
  ·rw[Array.toList_push,List.map_append,List.map_append,h3];rfl
 ·exact absurd f3 (xA e (xb f2))
def tyOf (k:Nat):TypeId:=if k=2 then 163 else if k=1 then 225 else 228
def ba (k a:Nat):Value:= .iface (tyOf k) (.pointer (some ⟨a,0,none⟩))
def fd (A:Option Addr)(n c:Nat):Prop:=A=none->n=0/\c=0
def fo (w:World)(a i m u:Nat)(y:Nd):Prop:=
 ∃T tail,w.heap[a]? =some (.cells #[.int .u8 (y.kind:Int),.int .u16 (y.mode:Int),.int .u32 (y.uid:Int),.int .u32 (y.gid:Int),.int .i64 (y.n:Int),.int .i64 (i:Int),.pointer (some ⟨u,0,none⟩),.string y.name,tail] T (0,0))/\
  (y.kind=2->T=168/\tail= .map (some m))/\
  (y.kind=1->T=227/\ ∃A cd,tail= .slice A y.n cd/\ap w A y.n y.dat/\(∀x,A=some x-> ∃g cs f,x=⟨g,0,none⟩/\w.heap[g]? =some (.cells cs 5 f))/\y.n<=cd/\fd A y.n cd)/\
  (y.kind=3->T=230/\tail= .string y.to)
structure FsIs (w:World)(B fs nb c2:Nat)(ad mp:Nat->Nat)(F:List Nd):Prop where
 ok:FOk F
 self:w.heap[fs]? =some (.cells #[.slice (some ⟨nb,0,none⟩) F.length c2] 171 (0,0))
 row:w.ownsRow 0 189 1 (.slice (some ⟨nb,0,none⟩) F.length c2) F.length ((List.range F.length).map fun i=>ba (ak F i) (ad i))
 node: ∀(i:Nat) (y:Nd),F[i]? =some y->fo w (ad i) i (mp i) (ad y.up) y
 names: ∀i,ak F i=2->bL w (mp i) (aI F i) (fun j=>ba (ak F j) (ad j))
 sole: ∀i j,ak F i=2->ak F j=2->mp i=mp j->i=j
 base:B<=fs/\B<=nb/\(∀i,i<F.length->B<=ad i)/\ ∀i,ak F i=2->B<=mp i
variable {F:List Nd}{i:Nat}
theorem eD {k:Nat}(h:ak F i=k)(hk:k≠0):i<F.length:=by
 unfold ak at h;cases hf:F[i]? with
 |none=>rw[hf]at h;exact absurd h.symm hk
 |some y=>exact(List.getElem?_eq_some_iff.1 hf).1
theorem lP (h:i<F.length): ∃y,F[i]? =some y/\ak F i=y.kind:=⟨F[i],wV h,by unfold ak;rw[wV h]⟩
variable {B fs nb c2:Nat}{ad mp:Nat->Nat}
theorem FsIs.cell (h:FsIs w B fs nb c2 ad mp F)(hi:i<F.length):w.cell? ⟨nb,i,none⟩=some (ba (ak F i) (ad i)):=by
 rw[World.ownsRow.cellAt h.row i o_];simp[hi]
theorem FsIs.mapCell (h:FsIs w B fs nb c2 ad mp F)(hk:ak F i=2):w.cell? ⟨ad i,8,none⟩=some (.map (some (mp i))):=by
 obtain⟨y,hy,hky⟩:=lP (eD hk o_);obtain⟨T,tail,hb,h2,_⟩:=h.node i y hy;rw[(h2 (hky▸hk)).2]at hb;exact aa hb 8
theorem wi (v:Value)(w:World):(Instr.typeAssert (.iface 225 v) 189 163 true).run prog w= .ok (.tuple #[.pointer none,.bool false]) w:=k_
theorem wh (v:Value)(w:World):(Instr.typeAssert (.iface 228 v) 189 163 true).run prog w= .ok (.tuple #[.pointer none,.bool false]) w:=k_
theorem gU (k a:Nat)(w:World):(Instr.typeAssert (ba k a) 189 163 true).run prog w= .ok (.tuple #[if k=2 then .pointer (some ⟨a,0,none⟩)else .pointer none,.bool (decide (k=2))]) w:=by
 unfold ba tyOf;by_cases h2:k=2
 ·subst h2;exact tJ _ w
 ·rw[if_neg h2,if_neg h2,xg h2];by_cases h1:k=1
  ·subst h1;exact wi _ w
  ·rw[if_neg h1];exact wh _ w
def atV (F:List Nd)(ad:Nat->Nat)(o:Option Nat):Value:=match o with|some j=>ba (ak F j) (ad j)|none=> .nilIface
def wy (w:World)(A:Option Addr)(l:List ByteArray):Prop:= ∀(j:Nat) (x:ByteArray),l[j]? =some x-> ∃g,A=some ⟨g,0,none⟩/\w.cell? ⟨g,j,none⟩=some (.string x)
theorem fy (B fs nb c2 n cap:Nat)(ad mp:Nat->Nat)(F:List Nd)(A:Option Addr)(l:List ByteArray)(w:World)(h:FsIs w B fs nb c2 ad mp F)(hl:wy w A l)(hn:n=l.length)(yA:n<=cap)(xD:n<=1000000)(hF:F.length<=1000000):
  Calls prog 134 #[.pointer (some ⟨fs,0,none⟩),.slice A n cap] w fun e w'=>e= .returned (atV F ad (atM F 0 l))/\w'=w:=by
 have xZ:=h.ok.pos;have c0:w.cell? ⟨fs,0,none⟩=some (.slice (some ⟨nb,0,none⟩) F.length c2):=aa h.self 0;have c1:w.cell? ⟨nb,0,none⟩=some (ba (ak F 0) (ad 0)):=h.cell xZ;obtain⟨v0,hv0⟩:=e_ (ba (ak F 0) (ad 0));rw[<-hv0]at c1;obtain⟨N,hN⟩:=e_ F.length;rw[<-hN]at c0;have hpos':(0:Int)<(N:Int):=o_;obtain⟨res,xJ⟩:=e_ (atV F ad (atM F 0 l));rw[<-xJ];obtain⟨yc,HV0,HH,HL,HN,QJ⟩:=zh6 xJ hv0 h hl hn hN;clear h hl hn hv0 hN xZ xJ;go_enter func134,ntmps134;go_wp2_with fail;go_loop [5,18] (fun v i=> ∃k x,k<=n/\x<F.length/\i= .int .i64 ((k:Nat):Int)/\v=ba (ak F x) (ad x)/\atM F x (l.drop k)=atM F 0 l) (fun _ i=>n-(intOf i).toNat)
 case atStart=>exact⟨0,0,o_,by rw[<-QJ.o];omega,rfl,HV0.o,rfl⟩
 case round=>
  obtain⟨k,x,hk,hx,rfl,rfl,yr⟩:=hrel;have Iv:=wP yr
  clear yr
  by_cases xw:k<n
  ·obtain⟨s,hs⟩: ∃s,l[k]? =some s:=⟨_,wV (by rw[<-HN.o];exact xw)⟩;obtain⟨g,rfl,hc⟩:=HL.o k s hs;have zb:l.drop k=s::l.drop (k+1):=List.drop_eq_getElem_cons (by rw[<-HN.o];exact xw) |>.trans (by
    obtain⟨h1,h2⟩:=List.getElem?_eq_some_iff.1 hs;rw[h2])
   have Ju:=wP zb;have Au:=gU (ak F x) (ad x) w;by_cases hd:ak F x=2
   ·rw[if_pos hd,xh hd]at Au;have hm:=HH.o.mapCell hd;have Bd:=(HH.o.names x hd).look s;obtain⟨v,hv⟩:=e_ (ba (ak F x) (ad x));rw[<-hv]at Au⊢;cases hj:dm (aI F x) s with
    |some j=>
     rw[hj]at Bd;have Ez:=wP (show atM F j (l.drop (k+1))=atM F 0 l by rw[<-Iv.o,Ju.o,atM_go hd hj]);have Cj:=(bA (eC hj)).1;obtain⟨v2,KU⟩:=e_ (ba (ak F j) (ad j));simp only at Bd;rw[<-KU]at Bd;have XX:=wP KU;clear hv zb hs hd hj KU;go_wp2_with fail;go_round
     case rel=>exact⟨k+1,j,o_,Cj,by go_num,XX.o,Ez.o⟩
     case measure=>simp[intOf];omega
    |none=>
     rw[hj]at Bd;have HR:=wP (show res= .nilIface by rw[yc.o,<-Iv.o,Ju.o,atM_no hd hj];rfl);simp only at Bd;clear hv zb hs hd hj;go_wp2_with fail;go_ret;exact⟨by rw[HR.o];rfl,rfl⟩
   ·rw[if_neg hd,xg hd]at Au;have HR:=wP (show res= .nilIface by rw[yc.o,<-Iv.o,Ju.o,atM_leaf hd];rfl);obtain⟨v,hv⟩:=e_ (ba (ak F x) (ad x));rw[<-hv]at Au⊢;clear hv zb hs hd;go_wp2_with fail;go_ret;exact⟨by rw[HR.o];rfl,rfl⟩
  ·obtain rfl:k=n:=o_;obtain⟨v,hv⟩:=e_ (ba (ak F x) (ad x));have HR:=wP (show res=v by rw[yc.o,<-Iv.o,List.drop_of_length_le (by rw[HN.o];exact wS _),hv];rfl);rw[<-hv];clear hv;go_wp2_with fail;go_ret;exact⟨by rw[HR.o];rfl,rfl⟩
end
section
open Go.RowKit Go.Sort
variable {w w':World}{a i m u:Nat}{y:Nd}
theorem fo.keep (h:fo w a i m u y)(hb:w'.heap[a]? =w.heap[a]?)(hz:w.heap.size<=w'.heap.size)(hd: ∀(g:Nat) (cs:Array Value) (f:Nat×Nat),w.heap[g]? =some (.cells cs 5 f)->w'.heap[g]? =w.heap[g]?):fo w' a i m u y:=by
 obtain⟨T,tail,h1,h2,h3,h4⟩:=h;refine⟨T,tail,hb.trans h1,h2,fun hk=>?_,h4⟩;obtain⟨hT,A,cd,e1,e2,e3,e4⟩:=h3 hk;refine⟨hT,A,cd,e1,fun h0=>?_,fun x hx=>?_,e4⟩
 ·obtain⟨x,hx,hc⟩:=e2 h0;obtain⟨g,cs,f,rfl,hg⟩:=e3 x hx;refine⟨_,hx,fun j hj=>?_⟩;have h9:=hc j hj;rw[Addr.add_mid,Nat.zero_add]at h9⊢;rw[<-h9];exact World.cell?_of_block (hd g cs f hg)
 ·obtain⟨g,cs,f,hg,hl⟩:=e3 x hx;exact⟨g,cs,f,hg,(hd g cs f hl).trans hl⟩
theorem fo.lt (h:fo w a i m u y):a<w.heap.size:=by
 obtain⟨T,tail,h1,_⟩:=h;exact(wO h1).1
variable {nb n cap:Nat}{T:TypeId}{xs:List Value}
theorem ew (h:w.ownsRow 0 T 1 (.slice (some ⟨nb,0,none⟩) n cap) n xs): ∃cur,w.heap[nb]? =some (.cells cur T (0,0))/\n<=cap/\cap<=maxLen/\cur.size=cap*1/\cur.toList.take (n*1)=xs:=by
 rcases h.2 with⟨h2,_⟩|⟨g,xq,cur,h1,_,h3,h4,h5,h6,h7⟩
 ·injection h2 with h2;cases h2
 ·injection h1 with e1 e2 e3;injection e1 with e1;injection e1 with e1;subst e1 e3;exact⟨cur,h3,h4,h5,h6,h7⟩
theorem ik (h:w.ownsRow 0 T 1 (.slice (some ⟨nb,0,none⟩) n cap) n xs)(hb:w'.heap[nb]? =w.heap[nb]?):w'.ownsRow 0 T 1 (.slice (some ⟨nb,0,none⟩) n cap) n xs:=by
 obtain⟨cur,h1,h2,h3,h4,h5⟩:=ew h;exact⟨h.1,.inr ⟨nb,cap,cur,rfl,xm _,hb.trans h1,h2,h3,h4,h5⟩⟩
theorem kz (h:w.ownsRow 0 T 1 (.slice (some ⟨nb,0,none⟩) n cap) n xs):nb<w.heap.size:=by
 obtain⟨cur,h1,_⟩:=ew h;exact(wO h1).1
variable {B fs c2:Nat}{ad mp:Nat->Nat}{F:List Nd}
theorem FsIs.below (h:FsIs w B fs nb c2 ad mp F)(hb:Below w.heap.size w w'):FsIs w' B fs nb c2 ad mp F:=
 ⟨h.ok,(hb.block fs (wO h.self).1).trans h.self,ik h.row (hb.block _ (kz h.row)),fun i y hy=>(h.node i y hy).keep (hb.block _ (h.node i y hy).lt) hb.size fun g cs f hc=>hb.block g (wO hc).1,
  fun i hk=>(h.names i hk).same (hb.block _ (h.names i hk).lt),h.sole,h.base⟩
theorem fo.apart {b:Nat}(h:fo w a i m u y)(hk:1<=y.kind/\y.kind<=3)(hb:(∃es yj,w.heap[b]? =some (.map es yj))\/(∃cs f,w.heap[b]? =some (.cells cs 189 f))\/ ∃cs f,w.heap[b]? =some (.cells cs 171 f)):a≠b:=by
 intro e;subst e;obtain⟨T,tail,h1,h2,h3,h4⟩:=h;have hT:T≠189/\T≠171:=by
  rcases(by omega:y.kind=1\/y.kind=2\/y.kind=3)with e|e|e
  ·rw[(h3 e).1];decide
  ·rw[(h2 e).1];decide
  ·rw[(h4 e).1];decide
 rcases hb with⟨es,yj,e⟩|⟨cs,f,e⟩|⟨cs,f,e⟩
 ·rw[h1]at e;cases e
 ·rw[h1]at e;injection e with e;injection e with _ e _;exact hT.1 e
 ·rw[h1]at e;injection e with e;injection e with _ e _;exact hT.2 e
theorem oC (h:FOk F){d:Nat}(hd:F.length<=d):aI F d=[]:=by
 cases hc:aI F d with
 |nil=>rfl
 |cons x l=>
  exfalso;obtain⟨_,_,y,hy,hu,_⟩:=bA (F:=F) (d:=d) (x:=x) (by rw[hc];exact xl ..);have:=(h.each _ y hy).up;omega
theorem FsIs.mapBlock (h:FsIs w B fs nb c2 ad mp F)(hk:ak F i=2): ∃es yj,w.heap[mp i]? =some (.map es yj):=by
 obtain⟨es,yj,h1,_⟩:=h.names i hk;exact⟨es,yj,h1⟩
theorem FsIs.rowBlock (h:FsIs w B fs nb c2 ad mp F): ∃cs f,w.heap[nb]? =some (.cells cs 189 f):=by
 obtain⟨cur,h1,_⟩:=ew h.row;exact⟨cur,_,h1⟩
theorem mS {w7 w8 w9:World}{m' up g9 c9:Nat}{o:Obj}(hF:FsIs w7 B fs nb c2 ad mp F)(hy:y.up=up)(AE:up<F.length)(Zv:ak F up=2)(ya:FOk (F++[y]))
  (hN:fo w7 a F.length m' (ad up) y)(NS:a≠fs)(TS:a≠nb)(haB:B<=a)(hm:y.kind=2->(∃yj,w7.heap[m']? =some (.map #[] yj))/\B<=m'/\ ∀i,ak F i=2->m'≠mp i)
  (h8:bL w8 (mp up) (aI F up++[(y.name,F.length)]) (fun j=>ba (ak (F++[y]) j) (upd ad F.length a j)))(zW:Mod (fun b=>b=mp up) w7 w8)
  (Gn:(w8.alloc o).grownBy w9 (some nb))(Kn:w9.ownsRow 0 189 1 (.slice (some ⟨g9,0,none⟩) (F.length+1) c9) (F.length+1) (((List.range F.length).map fun i=>ba (ak F i) (ad i))++[ba y.kind a]))(yr:some nb=some g9\/g9=(w8.alloc o).heap.size):
  FsIs (w9.setCell ⟨fs,0,none⟩ (.slice (some ⟨g9,0,none⟩) (F.length+1) c9)) B fs g9 c9 (upd ad F.length a) (upd mp F.length m') (F++[y])/\Below B w7 (w9.setCell ⟨fs,0,none⟩ (.slice (some ⟨g9,0,none⟩) (F.length+1) c9)):=by
 have xZ:=hF.ok.pos;have hlen:(F++[y]).length=F.length+1:=(by rw[wU,xc]);obtain⟨es1,clk1,Gl⟩:=hF.mapBlock Zv;obtain⟨cs1,f1,GO⟩:=hF.rowBlock;have He:=hF.self;have lm:=(wO Gl).1;have lnb:=(wO GO).1;have lfs:=(wO He).1;have d1:mp up≠nb:=fun e=>by rw[e,GO]at Gl;cases Gl
 have d2:mp up≠fs:=fun e=>by rw[e,He]at Gl;cases Gl
 have d3:nb≠fs:=fun e=>by rw[e,He]at GO;injection GO with e1;injection e1 with _ e2 _;exact absurd e2 d_
 have Of:=zW.size;have ZZ:w8.heap.size+1<=w9.heap.size:=(by simpa using Gn.size);have aa5:(w9.setCell ⟨fs,0,none⟩ (.slice (some ⟨g9,0,none⟩) (F.length+1) c9)).heap.size=w9.heap.size:=s_;have zL:=aj (S:=fun b=>b=fs) (w:=w9) (b:=fs) rfl 0 (.slice (some ⟨g9,0,none⟩) (F.length+1) c9);have PX:=(Kn.lt g9 rfl).2;have hgfs:g9≠fs:=by
  rcases yr with h|h
  ·injection h with h;omega
  ·simp at h;omega
 have hgB:B<=g9:=by
  have:=hF.base;rcases yr with h|h
  ·injection h with h;omega
  ·simp at h;omega
 generalize hw10:w9.setCell ⟨fs,0,none⟩ (.slice (some ⟨g9,0,none⟩) (F.length+1) c9)=w10 at aa5 zL⊢;have keep89: ∀b,b<w8.heap.size->b≠nb->b≠fs->w10.heap[b]? =w8.heap[b]? :=fun b hb h1 h2=>
  (zL.block b o_ h2).trans ((Gn.block b t_ (fun e=>h1 (by injection e))).trans (wT _ _ _ hb))
 have keep: ∀b,b<w7.heap.size->b≠mp up->b≠nb->b≠fs->w10.heap[b]? =w7.heap[b]? :=fun b hb h1 h2 h3=>(keep89 b o_ h2 h3).trans (zW.block b hb h1);have keepD: ∀(g:Nat) (cs:Array Value) (f:Nat×Nat),w7.heap[g]? =some (.cells cs 5 f)->w10.heap[g]? =w7.heap[g]? :=fun g cs f hc=>by
  refine keep g (wO hc).1 (fun e=>?_) (fun e=>?_) (fun e=>?_)
  ·subst e;rw[Gl]at hc;cases hc
  ·subst e;rw[GO]at hc;injection hc with e1;injection e1 with _ e2 _;exact absurd e2 d_
  ·subst e;rw[He]at hc;injection hc with e1;injection e1 with _ e2 _;exact absurd e2 d_
 have kindN: ∀i,i<F.length->ak (F++[y]) i=ak F i:=fun i hi=>cU y o_;have kindL:ak (F++[y]) F.length=y.kind:=by
  unfold ak;rw[wY (wS _)];simp
 have adN: ∀i,i<F.length->upd ad F.length a i=ad i:=fun i hi=>ah _ _ o_;have mpN: ∀i,i<F.length->upd mp F.length m' i=mp i:=fun i hi=>ah _ _ o_;have each:=hF.ok.each;refine⟨⟨ya,?_,?_,?_,?_,?_,?_⟩,?_⟩
 ·rw[hlen,<-hw10];exact kw (((Gn.block fs t_ (fun e=>d3 (by injection e with e;exact e.symm))).trans ((wT _ _ _ o_).trans (zW.block fs lfs (fun e=>d2 e.symm)))).trans He)
 ·have e:((List.range (F.length+1)).map fun i=>ba (ak (F++[y]) i) (upd ad F.length a i))=((List.range F.length).map fun i=>ba (ak F i) (ad i))++[ba y.kind a]:=by
   rw[List.range_succ,List.map_append];congr 1
   ·refine List.map_congr_left fun i hi=>?_;have Zw:=List.mem_range.1 hi;rw[kindN i Zw,adN i Zw]
   ·simp only[List.map_cons,List.map_nil];rw[kindL,af]
  rw[hlen,e];exact ik Kn (zL.block g9 PX hgfs)
 ·intro i y0 hi;by_cases Kx:i<F.length
  ·rw[wZ o_]at hi;have h1:=hF.node i y0 hi;have hk:=(each i y0 hi).kind;rw[adN i Kx,mpN i Kx,adN _ (by have:=(each i y0 hi).up;omega)];exact h1.keep (keep _ h1.lt (h1.apart hk (.inl ⟨_,_,Gl⟩)) (h1.apart hk (.inr (.inl ⟨_,_,GO⟩))) (h1.apart hk (.inr (.inr ⟨_,_,He⟩)))) o_ keepD
  ·have hiN2:i=F.length:=by
    have:=(List.getElem?_eq_some_iff.1 hi).1;omega
   subst hiN2;rw[wY (wS _)]at hi;simp at hi;subst hi;rw[af,af,hy,adN up o_];have hk:=(ya.each F.length y (by rw[wY (wS _)];simp)).kind;exact hN.keep (keep _ hN.lt (hN.apart hk (.inl ⟨_,_,Gl⟩)) TS NS) o_ keepD
 ·intro i hk;by_cases Kx:i<F.length
  ·rw[kindN i Kx]at hk;rw[mpN i Kx,jv _ _ _ xZ];by_cases hiu:i=up
   ·subst hiu;rw[if_pos hy];exact h8.same (keep89 _ o_ d1 d2)
   ·rw[if_neg o_,List.append_nil];have h1:=hF.names i hk;obtain⟨es2,clk2,RH⟩:=hF.mapBlock hk;have h2:mp i≠mp up:=fun e=>hiu (hF.sole i up hk Zv e);have h3:mp i≠nb:=fun e=>by rw[e,GO]at RH;cases RH
    have h4:mp i≠fs:=fun e=>by rw[e,He]at RH;cases RH
    refine(h1.same (keep _ h1.lt h2 h3 h4)).congr fun x hx=>?_;have Ak:=(bA hx).1;rw[kindN _ o_,adN _ o_]
  ·obtain rfl:i=F.length:=(by have:=eD hk o_;omega);rw[kindL]at hk;obtain⟨⟨yj,EC⟩,hmB,hmne⟩:=hm hk;rw[af,jv _ _ _ xZ,if_neg o_,oC hF.ok o_];have h2:m'≠mp up:=hmne up Zv;have h3:m'≠nb:=fun e=>by rw[e,GO]at EC;cases EC
   have h4:m'≠fs:=fun e=>by rw[e,He]at EC;cases EC
   exact⟨#[],yj,(keep _ (wO EC).1 h2 h3 h4).trans EC,⟨s_,s_,s_⟩,rfl⟩
 ·intro i j hi hj ER;have Lb:=eD hi o_;have zi:=eD hj o_;by_cases Kx:i<F.length
  ·rw[kindN i Kx]at hi;rw[mpN i Kx]at ER;by_cases Wk:j<F.length
   ·rw[kindN j Wk]at hj;rw[mpN j Wk]at ER;exact hF.sole i j hi hj ER
   ·obtain rfl:j=F.length:=o_;rw[kindL]at hj;rw[af]at ER;exact absurd ER.symm ((hm hj).2.2 i hi)
  ·obtain rfl:i=F.length:=o_;rw[kindL]at hi;rw[af]at ER;by_cases Wk:j<F.length
   ·rw[kindN j Wk]at hj;rw[mpN j Wk]at ER;exact absurd ER ((hm hi).2.2 j hj)
   ·omega
 ·obtain⟨b1,b2,b3,b4⟩:=hF.base;refine⟨b1,hgB,fun i hi=>?_,fun i hk=>?_⟩
  ·by_cases Kx:i<F.length
   ·rw[adN i Kx];exact b3 i o_
   ·have Bn:i=F.length:=o_;rw[Bn,af];exact haB
  ·have Lb:=eD hk o_;by_cases Kx:i<F.length
   ·rw[kindN i Kx]at hk;rw[mpN i Kx];exact b4 i hk
   ·obtain rfl:i=F.length:=o_;rw[kindL]at hk;rw[af];exact(hm hk).2.1
 ·obtain⟨b1,b2,b3,b4⟩:=hF.base;refine⟨zL.os.trans (Gn.os.trans zW.os),zL.tape.trans (Gn.tape.trans zW.tape),zL.output.trans (Gn.output.trans zW.output),o_,fun b hb=>keep b o_ (fun e=>by have:=b4 up Zv;omega) o_ o_⟩
theorem wj {ops:Array Oper}{rest:List Oper}{o:Oper}{a:Act}{Q:Exit->Act->World->Prop}(zH:o.guard=none)(s x:Operand)
  (ho:o.op= .call { callee:= .builtin .append,args:= #[s,x],argTypes:= #[169,169]})
  (nb c2 N:Nat)(F:List Nd)(ad:Nat->Nat)(hN:N=F.length)(hs:a.eval s= .slice (some ⟨nb,0,none⟩) N c2)
  (xC:w.ownsRow 0 189 1 (.slice (some ⟨nb,0,none⟩) F.length c2) F.length ((List.range F.length).map fun i=>ba (ak F i) (ad i)))
  (t:Value)(ht:t.oneCell'=true)(b c:Nat)(hx:a.eval x= .slice (some ⟨b,0,none⟩) 1 c)(hb:w.heap[b]? =some (.cells #[t] 189 (0,0)))
  (xD:N<1000000)
  (h: ∀g xq w',w'.ownsRow 0 189 1 (.slice (some ⟨g,0,none⟩) (F.length+1) xq) (F.length+1) (((List.range F.length).map fun i=>ba (ak F i) (ad i))++[t])->w.grownBy w' (some nb)->(some nb=some g\/g=w.heap.size)->g<w'.heap.size->wpList prog ops Q rest (a.put o.dst (.slice (some ⟨g,0,none⟩) (N+1) xq)) w'):
  wpList prog ops Q (o::rest) a w:=by
 have hl:((List.range F.length).map fun i=>ba (ak F i) (ad i)).length=F.length:=(by rw[List.length_map,List.length_range]);refine app_node zH s x ho (some ⟨nb,0,none⟩) c2 _ (by rw[hl,<-hN];exact hs) (by rw[hl];exact xC) t ht b c hx hb (by rw[hl,<-hN];exact xD) ?_;intro g xq w' h1 h2 h3 h4;rw[hl]at h1⊢;rw[<-hN];exact h g xq w' h1 h2 h3 h4
end
section
open Go.RowKit Go.Sort
theorem ws (x:Nat)(w:World):Calls prog 229 #[.pointer (some ⟨x,0,none⟩)] w fun e w'=>e= .returned (.pointer (some ⟨x,0,none⟩))/\w'=w:=by
 go_enter func229,ntmps229;go_wp2_with fail;go_ret;exact⟨rfl,rfl⟩
theorem qp (v:Value)(w:World):(callFunc 229 #[v]).run prog w= .ok (.enter 229 #[v]) w:=k_
end
section
open Go.RowKit Go.Sort
variable {p p':Pool}{L L':List Slot}{f:Nat}
theorem aw.live (h:aw p L 0 f p' L'):f<p'.n/\p'.cnt f=1/\p'.dat f=fun _ =>0:=by
 cases h with
 |free f h1=>exact⟨(cT h1).1,af _ _ _,af _ _ _⟩
 |loose s h1 h2 h3=>exact⟨h3,af _ _ _,af _ _ _⟩
theorem aw.duo {r:Int}(h:aw p L r f p' L'):r=0\/(r=4/\f=0/\p'=p/\L'=L):=by
 cases h
 ·exact .inl rfl
 ·exact .inl rfl
 ·exact .inr ⟨rfl,rfl,rfl,rfl⟩
theorem jw (w:World)(m:Nat)(o:Obj):Mod (fun b=>b=m) w (Go.ChangeMaps.setBlock w.drew m o):=by
 refine⟨rfl,rfl,rfl,?_,fun b hb xA=>?_⟩
 ·show w.heap.size<=(w.heap.setIfInBounds m o).size;simp
 ·show(w.heap.setIfInBounds m o)[b]? =_;exact Array.getElem?_setIfInBounds_ne (fun e=>xA e.symm)
variable {w:World}{c a fs m:Nat}{clock:Int}
theorem aN.tick {v:Int}(h:aN w c a fs m clock):aN (w.setCell ⟨c,3,none⟩ (.int .i64 v)) c a fs m v:=by
 have h1:=Joins.block_setCell (i:=3) h (.int .i64 v);simpa [aN]using h1
variable {S:Nat->Prop}
theorem au.c0 (h:au w S c a fs m clock p L):c≠0:=by
 intro e;subst e;have h1:=h.pool.tab 0 d_;have h2:w.cell? ⟨0,0,none⟩=some (.pointer (some ⟨a,0,none⟩)):=aa h.self 0;rw[h2]at h1;cases h1
variable {w':World}{n:Nat}{A:Option Addr}{d:Nat->Nat}
theorem ap.kept (h:ap w A n d)(hb:Below w.heap.size w w'):ap w' A n d:=fun h0=>by
 obtain⟨ad,e,hc⟩:=h h0;refine⟨ad,e,fun j hj=>?_⟩;rw[<-hc j hj];exact hb.cell (World.block_lt_of_cell? _ _ (hc j hj))
theorem ap.mod {X:Nat->Prop}(h:ap w A n d)(hm:Mod X w w')(hA: ∀ad,A=some ad->0<n-> ¬X ad.block):ap w' A n d:=fun h0=>by
 obtain⟨ad,e,hc⟩:=h h0;refine⟨ad,e,fun j hj=>?_⟩;rw[<-hc j hj];have hl:=World.block_lt_of_cell? _ _ (hc j hj);have Iq:(ad.add j).block=ad.block:=by unfold Addr.add;split<;>rfl
 rw[Iq]at hl;have hh:w'.heap[(ad.add j).block]? =w.heap[(ad.add j).block]? :=(by rw[Iq];exact hm.block _ hl (hA ad e h0));exact World.cell?_of_block hh
def pj (w:World)(fs:Nat)(ino off r0:Int)(k:Nat)(d:Nat->Nat):Prop:=
 Calls prog 233 #[.pointer (some ⟨fs,0,none⟩),.int .i64 ino,.int .i64 off,.int .i64 4096] w
  fun e w'=> ∃A cap,e= .returned (.tuple #[.slice A k cap,.int .i64 r0])/\ap w' A k d/\(∀ad,A=some ad->0<k->w.heap.size<=ad.block)/\Below w.heap.size w w'
def eo (w:World)(S:Nat->Prop)(c a fs m:Nat)(ino page r0:Int)(k:Nat)(d:Nat->Nat)(clock:Int)(p:Pool)(L:List Slot)(e:Ending)(w':World):Prop:=
 ∃r f p' L' xr S',e= .returned (.tuple #[.int .i64 (f:Nat),.int .i64 r])/\au w' S' c a fs m xr p' L'/\Mod (fun b=>S b\/b=m\/b=c) w w'/\Out S S' w/\dU ino page r0 k d p L clock r f p' L' xr
variable {w3:World}{bh:Nat}
theorem eo.mod (hb:Below w.heap.size w w3)(hm:Mod (fun b=>b=m\/b=c\/b=bh) w3 w')(hz:w.heap.size<=bh):Mod (fun b=>S b\/b=m\/b=c) w w':=by
 have h1:=(Mod.of (S:=fun b=>b=m\/b=c\/b=bh) hb).trans (Out.refl _ _) hm;exact⟨h1.os,h1.tape,h1.output,h1.size,fun b hb hn=>h1.block b hb (fun e=>hn (.inr o_))⟩
theorem eo.mod2 {w4 w5 w6:World}{S1:Nat->Prop}(h3:Below w.heap.size w w3)(h4:Mod (Both S m) w3 w4)(ho:Out S S1 w3)(h5:Mod S1 w4 w5)(h6:Mod (fun b=>b=bh) w5 w6)(h7:Mod (fun b=>b=m\/b=c\/b=bh) w6 w')(hz:w.heap.size<=bh):Mod (fun b=>S b\/b=m\/b=c) w w':=by
 have zy:=h3.size;have h1:Mod (fun b=>S b\/b=m\/b=c\/w.heap.size<=b) w w':=(Mod.of h3).trans (Out.refl _ _) ((h4.sub fun b hb=>hb.elim .inl fun e=> .inr (.inl e)).trans (Out.refl _ _) ((h5.sub fun b hb=>(ho b hb).elim .inl fun e=> .inr (.inr (.inr o_))).trans (Out.refl _ _) ((h6.sub fun b hb=> .inr (.inr (.inr o_))).trans (Out.refl _ _) (h7.sub fun b hb=>by
  rcases hb with e|e|e
  ·exact .inr (.inl e)
  ·exact .inr (.inr (.inl e))
  ·exact .inr (.inr (.inr o_))))))
 exact⟨h1.os,h1.tape,h1.output,h1.size,fun b hb hn=>h1.block b hb (fun e=>hn (by
  rcases e with e|e|e|e
  ·exact .inl e
  ·exact .inr (.inl e)
  ·exact .inr (.inr e)
  ·omega))⟩
theorem get_bad (c a fs m k:Nat)(ino page r0 clock:Int)(d:Nat->Nat)(w:World)(S:Nat->Prop)(p:Pool)(L:List Slot)(h:au w S c a fs m clock p L)(Ah:page<0\/16<=page):
  Calls prog 232 #[.pointer (some ⟨c,0,none⟩),.int .i64 ino,.int .i64 page] w (eo w S c a fs m ino page r0 k d clock p L):=by
 obtain⟨H,HB⟩:=zh2 h Ah;clear h;by_cases h0:page<0
 ·clear Ah;go_enter func232,ntmps232;go_wp2_with fail;go_ret2;exact⟨1,0,p,L,clock,S,rfl,H.o,Mod.refl _ _,Out.refl _ _,.bad HB.o⟩
 ·have h1:16<=page:=o_;clear Ah;go_enter func232,ntmps232;go_wp2_with fail;go_ret2;exact⟨1,0,p,L,clock,S,rfl,H.o,Mod.refl _ _,Out.refl _ _,.bad HB.o⟩
theorem get_err (c a fs m k:Nat)(ino page r0 clock:Int)(d:Nat->Nat)(w:World)(S:Nat->Prop)(p:Pool)(L:List Slot)(h:au w S c a fs m clock p L)(h0:0<=page)(Uo:page<16)(ID:pj w fs ino (page*4096) r0 k d)(hr:(r0 != 0)=true):
  Calls prog 232 #[.pointer (some ⟨c,0,none⟩),.int .i64 ino,.int .i64 page] w (eo w S c a fs m ino page r0 k d clock p L):=by
 have hmul:IntKind.i64.wrap (page*4096)=page*4096:=(by rw[IntKind.wrap_i64];omega);have c1:w.cell? ⟨c,1,none⟩=some (.pointer (some ⟨fs,0,none⟩)):=aa h.self 1;obtain⟨H,KP,HR⟩:=zh3 h ID hr;clear h ID;go_enter func232,ntmps232;go_wp2_with (first
  |(go_at_call 233;refine(KP.o).mono ?_;rintro e w1⟨A,cap,rfl,hA,hAn,xu⟩;have xI:=wP xu;clear hA xu)
  |fail)
 go_ret2;exact⟨r0,0,p,L,clock,S,rfl,H.o.below xI.o,Mod.of xI.o,Out.refl _ _,.err h0 Uo (by simpa using HR.o)⟩
theorem get_hit (c a fs m k:Nat)(ino page r0 clock:Int)(d:Nat->Nat)(w:World)(S:Nat->Prop)(p:Pool)(L:List Slot)(h:au w S c a fs m clock p L)(h0:0<=page)(Uo:page<16)(Mv:(Lit.int .i64 ino).wf=true)(ID:pj w fs ino (page*4096) 0 k d)(BU:0<=clock/\clock<1000000)
  (s:Slot)(hs:L.find? (Slot.at ino page)=some s):
  Calls prog 232 #[.pointer (some ⟨c,0,none⟩),.int .i64 ino,.int .i64 page] w (eo w S c a fs m ino page 0 k d clock p L):=by
 have LS:(Lit.int .i64 page).wf=true:=(by go_wf2);have hmul:IntKind.i64.wrap (page*4096)=page*4096:=(by rw[IntKind.wrap_i64];omega);have c1:w.cell? ⟨c,1,none⟩=some (.pointer (some ⟨fs,0,none⟩)):=aa h.self 1;obtain⟨KP,H,Ut⟩:=zh3 ID h hs;clear ID h hs;go_enter func232,ntmps232;go_upto_region 8 with(first
  |(go_at_call 233;refine(KP.o).mono ?_;rintro e w1⟨A,cap,rfl,hA,hAn,xu⟩;have H1:=wP (H.o.below xu);clear hA)
  |fail)
 obtain⟨w2,yl⟩:=e_ (w1.alloc (.cells #[.int .i64 ino,.int .i64 page] 127));have xx:Below w1.heap.size w1 w2:=(by rw[yl];exact wR);have Ca:w2.heap[w1.heap.size]? =some (.cells #[.int .i64 ino,.int .i64 page] 127 (0,0)):=(by rw[yl];exact ab _ _);have Ft:=H1.o.below xx;have k0:w2.cell? ⟨w1.heap.size,0,none⟩=some (.int .i64 ino):=aa Ca 0;have k1:w2.cell? ⟨w1.heap.size,1,none⟩=some (.int .i64 page):=aa Ca 1;have k2:w2.cell? ⟨c,2,none⟩=some (.map (some m)):=aa Ft.self 2;have Bd: ∀W,W.heap[m]? =w2.heap[m]? ->(Instr.lookup 123 (.map (some m)) (.agg #[.int .i64 ino,.int .i64 page]) true).run prog W= .ok (.tuple #[.agg #[.int .i64 (s.frame:Int),.int .i64 s.asked],.bool true]) W:=by
  intro W hW;obtain⟨es0,clk0,RR⟩:=aR.same (w':=W) Ft.slots hW;have GU:=RR.look (i:=ino) (p:=page) Mv LS true;rw[Ut.o]at GU;exact GU
 have yN:=Bd w2.drew rfl;have xW:=Bd (w2.alloc (.cells #[.int .i64 0,.int .i64 0] 129)).drew (wT _ _ _ Ft.lts.2.1);obtain⟨zU,It,Gc⟩:=zh3 Ft Ca yl;clear Bd Ft Ca yl;go_upto_region 9 with(fail);rw[<-Gc.o];go_region_held3 (fun w'=>w'.cell? ⟨c,2,none⟩=some (.map (some m))/\w'.cell? ⟨w1.heap.size,0,none⟩=some (.int .i64 ino)/\w'.cell? ⟨w1.heap.size,1,none⟩=some (.int .i64 page)) (go_keep) (fail)
 all_goals
  obtain⟨w3,yU⟩:=e_ ((w2.alloc (.cells #[.int .i64 (s.frame:Int),.int .i64 s.asked] 129)).drew);rw[<-yU];have xE:Below w2.heap.size w2 w3:=(by rw[yU];exact wR.drew);have hH3:w3.heap[w2.heap.size]? =some (.cells #[.int .i64 (s.frame:Int),.int .i64 s.asked] 129 (0,0)):=(by rw[yU];exact ab w2 _);have hl2':=zU.o.lts;have RM:=(wO It.o).1;have xQ:=xu.size;have xX:=xx.size;have ZH:=H1.o.pool.low;have hl1':=H1.o.lts;obtain⟨bh,So⟩:=e_ w2.heap.size;obtain⟨bk,Iq⟩:=e_ w1.heap.size;have JV:w3.heap[bk]? =some (.cells #[.int .i64 ino,.int .i64 page] 127 (0,0)):=(by(rw[Iq];exact((xE).block _ RM).trans It.o));have Jf:=hH3;rw[<-So]at Jf⊢;rw[<-Iq];have Ss:bh≠c:=o_;have Ja:bh≠m:=o_;have ON:bk≠bh:=o_;have Sn:bk≠c:=o_;have Xc:bh≠0:=o_;have OO: ¬S bh:=fun e=>by(have:=ZH _ e;omega)
  have DJ:=zU.o.below xE;obtain⟨Jv,QP,Ns,yZ⟩:=zh4 DJ Jf JV (xu.trans ((xx.trans ((xE).mono xX)).mono xQ));have ZN:w.heap.size<=bh:=o_;obtain⟨HBH,HBK⟩:=zh2 So Iq;clear DJ Jf JV So Iq k0 k1 k2 yN xW;clear yU;go_upto_region 16 with(fail);have CC:=Jv.o;have IS:=CC.lts;have kc:w3.cell? ⟨c,3,none⟩=some (.int .i64 clock):=aa CC.self 3;have kf:w3.frozen? ⟨c,3,none⟩=false:=ae CC.self 3;have xz:w3.cell? ⟨bh,0,none⟩=some (.int .i64 (s.frame:Int)):=aa QP.o 0;have xu:w3.cell? ⟨bh,1,none⟩=some (.int .i64 s.asked):=aa QP.o 1;have Sq:w3.frozen? ⟨bh,1,none⟩=false:=ae QP.o 1;have hwr:IntKind.i64.wrap (clock+1)=clock+1:=(by(rw[IntKind.wrap_i64];omega));obtain⟨w20,FH⟩:=e_ (w3.setCell ⟨c,3,none⟩ (.int .i64 (clock+1)));have CQ:Mod (fun b=>b=c) w3 w20:=(by(rw[FH];exact aj (S:=fun b=>b=c) rfl 3 _));have FJ:aN w20 c a fs m (clock+1):=(by(rw[FH];exact CC.self.tick));have RN:=(wO QP.o).1;have En:=(CQ.block bh RN Ss).trans QP.o;have x0:w20.cell? ⟨bh,0,none⟩=some (.int .i64 (s.frame:Int)):=aa En 0;have x1:w20.cell? ⟨bh,1,none⟩=some (.int .i64 s.asked):=aa En 1;have x2:w20.frozen? ⟨bh,1,none⟩=false:=ae En 1;have x3:w20.cell? ⟨c,3,none⟩=some (.int .i64 (clock+1)):=aa FJ 3;obtain⟨w21,FG⟩:=e_ (w20.setCell ⟨bh,1,none⟩ (.int .i64 (clock+1)));have CP:Mod (fun b=>b=bh) w20 w21:=(by(rw[FG];exact aj (S:=fun b=>b=bh) rfl 1 _));have FZ:w21.heap[bh]? =some (.cells #[.int .i64 (s.frame:Int),.int .i64 (clock+1)] 129 (0,0)):=(by(rw[FG];simpa using Joins.block_setCell (i:=1) En (.int .i64 (clock+1))));have Mr:=(wO FJ).1;have IA:aN w21 c a fs m (clock+1):=(CP.block c Mr (fun e=>Ss e.symm)).trans FJ;have Bd:=(wO Ns.o).1;have aa2:=CQ.size;have aa1:=CP.size;have Je:=(CP.block bk o_ ON).trans ((CQ.block bk Bd Sn).trans Ns.o);have GD:aR w21 m L:=(CC.slots.same ((CP.block m o_ (fun e=>Ja e.symm)).trans (CQ.block m IS.2.1 (fun e=>IS.2.2.1 e.symm))));obtain⟨es,yj,Wl⟩:=aR.same (w':=w21.drew) GD rfl;obtain⟨es',Ga,Ij,IV⟩:=Wl.put (s:=⟨ino,page,s.frame,clock+1⟩) Mv LS;obtain⟨w22,FF⟩:=e_ (Go.ChangeMaps.setBlock w21.drew m (.map es' Ga));rw[<-FF]at Ij IV;have IL:(Instr.mapUpdate 123 (.map (some m)) (.agg #[.int .i64 ino,.int .i64 page]) (.agg #[.int .i64 (s.frame:Int),.int .i64 (clock+1)])).run prog w21.drew= .ok () w22:=Ij;have y0:w21.cell? ⟨c,2,none⟩=some (.map (some m)):=aa IA 2;have y1:w21.cell? ⟨bk,0,none⟩=some (.int .i64 ino):=aa Je 0;have y2:w21.cell? ⟨bk,1,none⟩=some (.int .i64 page):=aa Je 1;have y3:w21.cell? ⟨bh,0,none⟩=some (.int .i64 (s.frame:Int)):=aa FZ 0;have y4:w21.cell? ⟨bh,1,none⟩=some (.int .i64 (clock+1)):=aa FZ 1;have FM:Mod (fun b=>b=m) w21 w22:=(by(rw[FF];exact jw _ _ _));have MU:=(FM.block bh o_ Ja).trans FZ;have y5:w22.cell? ⟨bh,0,none⟩=some (.int .i64 (s.frame:Int)):=aa MU 0;have DX:Mod (fun b=>b=m\/b=c\/b=bh) w3 w22:=((CQ.sub fun b hb=> .inr (.inl hb)).trans (Out.refl _ _) ((CP.sub fun b hb=> .inr (.inr hb)).trans (Out.refl _ _) (FM.sub fun b hb=> .inl hb)));have XC:au w22 S c a fs m (clock+1) p (ei L ⟨ino,page,s.frame,clock+1⟩):=⟨CC.pool.mod DX (fun b hb e=>by(rcases e with e|e|e;exact CC.noM (e▸hb);exact CC.noC (e▸hb);exact OO (e▸hb))) (fun e=>by(have h9:=CC.c0;rcases e with e|e|e<;>omega)),(FM.block c o_ IS.2.2.1).trans IA,⟨es',Ga,IV⟩,CC.noC,CC.noM⟩;obtain⟨HCE,HMA,Ta,SZ,HW22⟩:=zh5 XC DX FH FG FF;clear CC FJ En FZ IA Je GD Wl IV Ij CQ CP FM XC DX FH FG FF MU;go_upto_region 17 with(fail);rw[<-Ta.o];go_upto_region 18 with(fail);rw[<-SZ.o];go_region;go_wp2_with fail
  all_goals
   go_ret2;exact⟨0,s.frame,p,_,clock+1,S,rfl,HCE.o,eo.mod yZ.o HMA.o ZN,Out.refl _ _,.hit s h0 Uo rfl Ut.o⟩
theorem get_new (c a fs m k:Nat)(ino page r0 clock:Int)(d:Nat->Nat)(w:World)(S:Nat->Prop)(p:Pool)(L:List Slot)(h:au w S c a fs m clock p L)(h0:0<=page)(Uo:page<16)(Mv:(Lit.int .i64 ino).wf=true)(ID:pj w fs ino (page*4096) 0 k d)(hd: ∀i,d i<256)(hk:k<=4096)(BU:0<=clock/\clock<1000000)
  (hs:L.find? (Slot.at ino page)=none):
  Calls prog 232 #[.pointer (some ⟨c,0,none⟩),.int .i64 ino,.int .i64 page] w (eo w S c a fs m ino page 0 k d clock p L):=by
 have LS:(Lit.int .i64 page).wf=true:=(by go_wf2);have hmul:IntKind.i64.wrap (page*4096)=page*4096:=(by rw[IntKind.wrap_i64];omega);have c1:w.cell? ⟨c,1,none⟩=some (.pointer (some ⟨fs,0,none⟩)):=aa h.self 1;obtain⟨KP,H,Ut⟩:=zh3 ID h hs;clear ID h hs;go_enter func232,ntmps232;go_upto_region 8 with(first
  |(go_at_call 233;refine(KP.o).mono ?_;rintro e w1⟨A,cap,rfl,hA,hAn,xu⟩;obtain⟨HA,H1⟩:=zh2 hA (H.o.below xu);clear hA)
  |fail)
 obtain⟨w2,yl⟩:=e_ (w1.alloc (.cells #[.int .i64 ino,.int .i64 page] 127));have xx:Below w1.heap.size w1 w2:=(by rw[yl];exact wR);have Ca:w2.heap[w1.heap.size]? =some (.cells #[.int .i64 ino,.int .i64 page] 127 (0,0)):=(by rw[yl];exact ab _ _);have Ft:=H1.o.below xx;have k0:w2.cell? ⟨w1.heap.size,0,none⟩=some (.int .i64 ino):=aa Ca 0;have k1:w2.cell? ⟨w1.heap.size,1,none⟩=some (.int .i64 page):=aa Ca 1;have k2:w2.cell? ⟨c,2,none⟩=some (.map (some m)):=aa Ft.self 2;have Bd: ∀W,W.heap[m]? =w2.heap[m]? ->(Instr.lookup 123 (.map (some m)) (.agg #[.int .i64 ino,.int .i64 page]) true).run prog W= .ok (.tuple #[.agg #[.int .i64 0,.int .i64 0],.bool false]) W:=by
  intro W hW;obtain⟨es0,clk0,RR⟩:=aR.same (w':=W) Ft.slots hW;have GU:=RR.look (i:=ino) (p:=page) Mv LS true;rw[Ut.o]at GU;exact GU
 have yN:=Bd w2.drew rfl;have xW:=Bd (w2.alloc (.cells #[.int .i64 0,.int .i64 0] 129)).drew (wT _ _ _ Ft.lts.2.1);obtain⟨zU,It,Gc⟩:=zh3 Ft Ca yl;clear Bd Ft Ca yl;go_upto_region 9 with(fail);rw[<-Gc.o];go_region_held3 (fun w'=>w'.cell? ⟨c,2,none⟩=some (.map (some m))/\w'.cell? ⟨w1.heap.size,0,none⟩=some (.int .i64 ino)/\w'.cell? ⟨w1.heap.size,1,none⟩=some (.int .i64 page)) (go_keep) (fail)
 all_goals
  obtain⟨w3,yU⟩:=e_ ((w2.alloc (.cells #[.int .i64 0,.int .i64 0] 129)).drew);rw[<-yU];have xE:Below w2.heap.size w2 w3:=(by rw[yU];exact wR.drew);have hH3:w3.heap[w2.heap.size]? =some (.cells #[.int .i64 0,.int .i64 0] 129 (0,0)):=(by rw[yU];exact ab w2 _);have hl2':=zU.o.lts;have RM:=(wO It.o).1;have xQ:=xu.size;have xX:=xx.size;have ZH:=H1.o.pool.low;have hl1':=H1.o.lts;obtain⟨bh,So⟩:=e_ w2.heap.size;obtain⟨bk,Iq⟩:=e_ w1.heap.size;have JV:w3.heap[bk]? =some (.cells #[.int .i64 ino,.int .i64 page] 127 (0,0)):=(by(rw[Iq];exact((xE).block _ RM).trans It.o));have Jf:=hH3;rw[<-So]at Jf⊢;rw[<-Iq];have Ss:bh≠c:=o_;have Ja:bh≠m:=o_;have ON:bk≠bh:=o_;have Sn:bk≠c:=o_;have Xc:bh≠0:=o_;have OO: ¬S bh:=fun e=>by(have:=ZH _ e;omega)
  have DJ:=zU.o.below xE;obtain⟨Jv,QP,Ns,yZ⟩:=zh4 DJ Jf JV (xu.trans ((xx.trans ((xE).mono xX)).mono xQ));have ZN:w.heap.size<=bh:=o_;obtain⟨HBH,HBK⟩:=zh2 So Iq;clear DJ Jf JV So Iq k0 k1 k2 yN xW;have zy:=xE.size;have Qw:ap w3 A k d:=HA.o.kept (xx.trans (xE.mono xX));have Zi:=wP Qw;have hbhw:bh<w3.heap.size:=(wO QP.o).1;have hbkw:bk<w3.heap.size:=(wO Ns.o).1;have WW: ¬S bk:=fun e=>by have:=ZH _ e;have:=HBK.o;omega
  have hbkm:bk≠m:=(by have:=HBK.o;omega);have hAk:0<k-> ∃ad,A=some ad/\ad.block<w1.heap.size:=fun h9=>by
   obtain⟨ad,e9,WU⟩:=HA.o h9;exact⟨ad,e9,by have:=World.block_lt_of_cell? _ _ (WU 0 h9);unfold Addr.add at this;split at this<;>exact this⟩
  clear yU Qw;go_wp2_with fail;refine(fL c a fs m clock w3 S p L Jv.o).mono ?_;rintro e w4⟨r,f,p1,L1,S1,rfl,Fs,zl,AY,xJ⟩;have CU:=zl.size;obtain⟨Ey,yc,Hw,Ct⟩:=zh4 Fs xJ zl AY;clear Fs zl AY;rcases xJ.duo with rfl|⟨rfl,rfl,rfl,rfl⟩
  rotate_left
  ·clear xJ;go_wp2_with fail;go_ret2;exact⟨4,0,_,_,clock,S1,rfl,Ey.o,eo.mod2 yZ.o Hw.o Ct.o (Mod.refl _ _) (Mod.refl _ _) (Mod.refl _ _) ZN,fun b hb=>(Ct.o b hb).imp id (fun h=>by have:=yZ.o.size;omega),.full h0 Uo rfl Ut.o yc.o⟩
  clear xJ;obtain⟨f1,f2,f3⟩:=yc.o.live;have hbh4: ¬Both S m bh:=fun e=>e.elim OO Ja;have hbk4: ¬Both S m bk:=fun e=>e.elim WW hbkm;have hH4:=(Hw.o.block bh hbhw hbh4).trans QP.o;have hK4:=(Hw.o.block bk hbkw hbk4).trans Ns.o;have EE: ¬S1 bh:=fun e=>(Ct.o bh e).elim OO o_;have hS1k: ¬S1 bk:=fun e=>(Ct.o bk e).elim WW o_;have hA4:ap w4 A k d:=Zi.o.mod Hw.o (fun ad e h9=>by
   have h8:=hAn ad e h9;exact fun e=>e.elim (fun e=>by have:=H.o.pool.low _ e;omega) (fun e=>by have:=H.o.lts.2.1;omega))
  obtain⟨HA4,UE,HK4⟩:=zh3 hA4 hH4 hK4;clear hA4 hH4 hK4 f3 hAk;have e0:w4.cell? ⟨c,0,none⟩=some (.pointer (some ⟨a,0,none⟩)):=aa Ey.o.self 0;go_upto_region 16 with(first
   |(go_at_call 124;refine(ie a f 0 k cap A d w4 S1 p1 Ey.o.pool f1 (Nat.le_of_eq f2.symm) o_ o_ HA4.o hd).mono ?_;rintro e w5⟨rfl,Lh,yK⟩;obtain⟨Ke,Eu⟩:=zh2 (Ey.o.turn yK Lh (Out.refl _ _)) yK;have Uk:=(yK.block bh o_ EE).trans UE.o;have hK5:=(yK.block bk o_ hS1k).trans HK4.o;obtain⟨HH5,HK5⟩:=zh2 Uk hK5;have g0:=aa Uk 0;have g1:=ae Uk 0;clear Lh yK Uk hK5)
   |fail)
  obtain⟨w6,Zm⟩:=e_ (w5.setCell ⟨bh,0,none⟩ (.int .i64 (f:Int)));rw[<-Zm];have BO:Mod (fun b=>b=bh) w5 w6:=(by rw[Zm];exact aj (S:=fun b=>b=bh) rfl 0 _);have Xv:w6.heap[bh]? =some (.cells #[.int .i64 (f:Int),.int .i64 0] 129 (0,0)):=(by rw[Zm];simpa using Joins.block_setCell (i:=0) HH5.o (.int .i64 (f:Int)));have Iw:=Eu.o.size;have hK6:=(BO.block bk o_ ON).trans HK5.o;have OK:=Ke.o.c0;obtain⟨YV,Ps,HK6,Oa⟩:=zh4 (Ke.o.mod BO (fun b hb e=>EE (e▸hb)) (fun e=>Xc e.symm) (fun e=>Ss e.symm) (fun e=>Ja e.symm)) Xv hK6 BO;clear Zm BO Xv hK6 g0 g1 e0 OO;have OO:=EE;obtain⟨p2,hp2⟩:=e_ (p1.store f (laid (p1.dat f) d 0 k));rw[<-hp2]at YV;have QE:=wP hp2;clear hp2;have CC:=YV.o;have IS:=CC.lts;have kc:w6.cell? ⟨c,3,none⟩=some (.int .i64 clock):=aa CC.self 3;have kf:w6.frozen? ⟨c,3,none⟩=false:=ae CC.self 3;have xz:w6.cell? ⟨bh,0,none⟩=some (.int .i64 (f:Int)):=aa Ps.o 0;have xu:w6.cell? ⟨bh,1,none⟩=some (.int .i64 0):=aa Ps.o 1;have Sq:w6.frozen? ⟨bh,1,none⟩=false:=ae Ps.o 1;have hwr:IntKind.i64.wrap (clock+1)=clock+1:=(by(rw[IntKind.wrap_i64];omega));obtain⟨w20,FH⟩:=e_ (w6.setCell ⟨c,3,none⟩ (.int .i64 (clock+1)));have CQ:Mod (fun b=>b=c) w6 w20:=(by(rw[FH];exact aj (S:=fun b=>b=c) rfl 3 _));have FJ:aN w20 c a fs m (clock+1):=(by(rw[FH];exact CC.self.tick));have RN:=(wO Ps.o).1;have En:=(CQ.block bh RN Ss).trans Ps.o;have x0:w20.cell? ⟨bh,0,none⟩=some (.int .i64 (f:Int)):=aa En 0;have x1:w20.cell? ⟨bh,1,none⟩=some (.int .i64 0):=aa En 1;have x2:w20.frozen? ⟨bh,1,none⟩=false:=ae En 1;have x3:w20.cell? ⟨c,3,none⟩=some (.int .i64 (clock+1)):=aa FJ 3;obtain⟨w21,FG⟩:=e_ (w20.setCell ⟨bh,1,none⟩ (.int .i64 (clock+1)));have CP:Mod (fun b=>b=bh) w20 w21:=(by(rw[FG];exact aj (S:=fun b=>b=bh) rfl 1 _));have FZ:w21.heap[bh]? =some (.cells #[.int .i64 (f:Int),.int .i64 (clock+1)] 129 (0,0)):=(by(rw[FG];simpa using Joins.block_setCell (i:=1) En (.int .i64 (clock+1))));have Mr:=(wO FJ).1;have IA:aN w21 c a fs m (clock+1):=(CP.block c Mr (fun e=>Ss e.symm)).trans FJ;have Bd:=(wO HK6.o).1;have aa2:=CQ.size;have aa1:=CP.size;have Je:=(CP.block bk o_ ON).trans ((CQ.block bk Bd Sn).trans HK6.o);have GD:aR w21 m L1:=(CC.slots.same ((CP.block m o_ (fun e=>Ja e.symm)).trans (CQ.block m IS.2.1 (fun e=>IS.2.2.1 e.symm))));obtain⟨es,yj,Wl⟩:=aR.same (w':=w21.drew) GD rfl;obtain⟨es',Ga,Ij,IV⟩:=Wl.put (s:=⟨ino,page,f,clock+1⟩) Mv LS;obtain⟨w22,FF⟩:=e_ (Go.ChangeMaps.setBlock w21.drew m (.map es' Ga));rw[<-FF]at Ij IV;have IL:(Instr.mapUpdate 123 (.map (some m)) (.agg #[.int .i64 ino,.int .i64 page]) (.agg #[.int .i64 (f:Int),.int .i64 (clock+1)])).run prog w21.drew= .ok () w22:=Ij;have y0:w21.cell? ⟨c,2,none⟩=some (.map (some m)):=aa IA 2;have y1:w21.cell? ⟨bk,0,none⟩=some (.int .i64 ino):=aa Je 0;have y2:w21.cell? ⟨bk,1,none⟩=some (.int .i64 page):=aa Je 1;have y3:w21.cell? ⟨bh,0,none⟩=some (.int .i64 (f:Int)):=aa FZ 0;have y4:w21.cell? ⟨bh,1,none⟩=some (.int .i64 (clock+1)):=aa FZ 1;have FM:Mod (fun b=>b=m) w21 w22:=(by(rw[FF];exact jw _ _ _));have MU:=(FM.block bh o_ Ja).trans FZ;have y5:w22.cell? ⟨bh,0,none⟩=some (.int .i64 (f:Int)):=aa MU 0;have DX:Mod (fun b=>b=m\/b=c\/b=bh) w6 w22:=((CQ.sub fun b hb=> .inr (.inl hb)).trans (Out.refl _ _) ((CP.sub fun b hb=> .inr (.inr hb)).trans (Out.refl _ _) (FM.sub fun b hb=> .inl hb)));have XC:au w22 S1 c a fs m (clock+1) p2 (ei L1 ⟨ino,page,f,clock+1⟩):=⟨CC.pool.mod DX (fun b hb e=>by(rcases e with e|e|e;exact CC.noM (e▸hb);exact CC.noC (e▸hb);exact OO (e▸hb))) (fun e=>by(have h9:=CC.c0;rcases e with e|e|e<;>omega)),(FM.block c o_ IS.2.2.1).trans IA,⟨es',Ga,IV⟩,CC.noC,CC.noM⟩;obtain⟨HCE,HMA,Ta,SZ,HW22⟩:=zh5 XC DX FH FG FF;clear CC FJ En FZ IA Je GD Wl IV Ij CQ CP FM XC DX FH FG FF MU;go_upto_region 17 with(fail);rw[<-Ta.o];go_upto_region 18 with(fail);rw[<-SZ.o];go_region;go_wp2_with fail
  all_goals
   go_ret2;exact⟨0,f,p2,_,clock+1,S1,rfl,HCE.o,eo.mod2 yZ.o Hw.o Ct.o Eu.o Oa.o HMA.o ZN,fun b hb=>(Ct.o b hb).imp id (fun h=>by have:=yZ.o.size;omega),by rw[QE.o];exact .miss f p1 L1 h0 Uo rfl Ut.o yc.o⟩
end
section
open Go.RowKit Go.Sort
def cj (w:World)(A:Option Addr)(n cap:Nat)(d:Nat->Nat):Prop:=
 ap w A n d/\(∀x,A=some x-> ∃(g:Nat) (cs:Array Value) (f:Nat×Nat),x=⟨g,0,none⟩/\w.heap[g]? =some (.cells cs 5 f))/\n<=cap/\fd A n cap
variable {w:World}{base cap n:Nat}{d:Nat->Nat}
theorem OwnB.byteRow {g:Nat}(h:OwnB w base (some ⟨g,0,none⟩) cap n d):cj w (some ⟨g,0,none⟩) n cap d:=by
 refine⟨h.v,fun x hx=>?_,?_,fun e=>by cases e⟩
 ·injection hx with hx;subst hx;rcases h.2 with⟨h2,_⟩|⟨g',xq,cur,h1,_,h3,_⟩
  ·injection h2 with h2;cases h2
  ·injection h1 with e1;injection e1 with e1;injection e1 with e1;subst e1;exact⟨_,_,_,rfl,h3⟩
 ·rcases h.2 with⟨h2,_⟩|⟨g',xq,cur,h1,_,_,h4,_⟩
  ·injection h2 with h2;cases h2
  ·injection h1 with _ _ e3;omega
variable {A:Option Addr}
theorem cj.below {w':World}(h:cj w A n cap d)(hb:Below w.heap.size w w'):cj w' A n cap d:=by
 obtain⟨h1,h2,h3⟩:=h;refine⟨h1.kept hb,fun x hx=>?_,h3⟩;obtain⟨g,cs,f,e,hg⟩:=h2 x hx;exact⟨g,cs,f,e,(hb.block g (wO hg).1).trans hg⟩
theorem ap.lt {ad:Addr}(h:ap w (some ad) n d)(h0:0<n):ad.block<w.heap.size:=by
 obtain⟨x,e,hc⟩:=h h0;injection e with e;subst e;have hl:=World.block_lt_of_cell? _ _ (hc 0 h0);have Iq:(ad.add 0).block=ad.block:=by unfold Addr.add;split<;>rfl
 rw[Iq]at hl;exact hl
def wK (w:World)(n:Nat)(d:Nat->Nat)(e:Ending)(w':World):Prop:= ∃A cap,e= .returned (.slice A n cap)/\cj w' A n cap d/\Below w.heap.size w w'
theorem iH (w:World):Calls prog 135 #[.slice none 0 0] w fun e w'=>e= .returned (.slice none 0 0)/\w'=w:=by
 have Du:=fun(W:World)=>Lib.run_eql_slice_nil (P:=prog) (w:=W) 39 5 none 0 0 0 0 underlying39;go_enter func135,ntmps135;go_wp2_with fail;go_ret;exact⟨rfl,rfl⟩
theorem lh (c:Nat)(ad:Addr)(w:World):Calls prog 135 #[.slice (some ad) 0 c] w fun e w'=>e= .returned (.slice (some ⟨w.heap.size,0,none⟩) 0 0)/\w'=w.alloc (.cells #[] 5):=by
 have Du:=fun(W:World)=>Lib.run_eql_slice_nil (P:=prog) (w:=W) 39 5 (some ad) 0 c 0 0 underlying39;go_enter func135,ntmps135;go_wp2_with fail;go_ret;exact⟨rfl,rfl⟩
theorem vP (A:Option Addr)(n c:Nat)(d:Nat->Nat)(w:World)(ya:fd A n c)(DW:n<=1000000)(hA:ap w A n d):
  Calls prog 135 #[.slice A n c] w (wK w n d):=by
 cases A with
 |none=>
  obtain⟨rfl,rfl⟩:=ya rfl;refine(iH w).mono ?_;rintro e w'⟨rfl,rfl⟩;exact⟨none,0,rfl,⟨(fun h=>o_),(fun x hx=>by cases hx),wS _,fun _ =>⟨rfl,rfl⟩⟩,xp _ _⟩
 |some ad=>
  by_cases h0:0<n
  ·refine(li n c ad d w h0 DW hA (hA.lt h0)).mono ?_;rintro e w'⟨g,cap,rfl,ho,hb⟩;exact⟨_,_,rfl,ho.byteRow,hb⟩
  ·obtain rfl:n=0:=o_;refine(lh c ad w).mono ?_;rintro e w'⟨rfl,rfl⟩;exact⟨_,_,rfl,⟨(fun h=>o_),(fun x hx=>by injection hx with hx;subst hx;exact⟨_,_,_,rfl,ab w _⟩),wS _,fun e=>by cases e⟩,wR⟩
theorem jR (k a:Nat)(W:World):(binOp .neq 189 (ba k a) .nilIface).run prog W= .ok (.bool true) W:=by
 unfold ba tyOf;split
 ·kernel_rfl
 ·split<;>kernel_rfl
theorem jS (k a:Nat)(W:World):(binOp .eql 189 (ba k a) .nilIface).run prog W= .ok (.bool false) W:=by
 unfold ba tyOf;split
 ·kernel_rfl
 ·split<;>kernel_rfl
theorem ix (x y:Operand)(k a:Nat)(W:World):(eqGuard .neq 189 x y (ba k a) .nilIface).run prog W= .ok () W:=rfl
theorem fC (x y:Operand)(k a:Nat)(W:World):(eqGuard .eql 189 x y (ba k a) .nilIface).run prog W= .ok () W:=rfl
def cu (B fs:Nat)(F:List Nd)(x:Ent)(w:World)(e:Ending)(w':World):Prop:=
 e= .returned (.int .i64 (addM F x).1)/\(∃nb c2 ad mp,FsIs w' B fs nb c2 ad mp (addM F x).2)/\Below B w w'
variable {l:List ByteArray}
theorem OwnS.strs (h:OwnS w base A cap l):wy w A l:=fun j x hx=>by
 rcases h.form with⟨_,e,_⟩|⟨g,e,_⟩
 ·rw[e]at hx;simp at hx
 ·subst e;exact⟨g,rfl,h.elem hx⟩
theorem wy.front (h:wy w A l):wy w A l.dropLast:=fun j x hx=>by
 refine h j x ?_;have hl:=(List.getElem?_eq_some_iff.1 hx).1;rw[List.length_dropLast]at hl;rw[List.getElem?_dropLast,if_pos hl]at hx;exact hx
theorem vadd_bad (B fs nb c2 c:Nat)(ad mp:Nat->Nat)(F:List Nd)(x:Ent)(A:Option Addr)(w:World)(h:FsIs w B fs nb c2 ad mp F)(hp:x.path.size<=1000000000)(ht:x.to.size<=1000000000)(hn:x.n<=9223372036854775807)(hB:B<=w.heap.size)(hm:may x≠0):
  Calls prog 82 #[.pointer (some ⟨fs,0,none⟩),x.val A c] w (cu B fs F x w):=by
 have zA:addM F x=(may x,F):=(by unfold addM;rw[if_pos hm]);unfold cu;rw[zA];obtain⟨r,hr⟩:=e_ (may x);have xA:(r != 0)=true:=(by rw[bne_iff_ne,hr];exact hm);have zw:=fun W=>et x A c W hp ht hn;rw[<-hr]at zw⊢;obtain⟨w0,xv⟩:=e_ (w.alloc (.cells #[.string x.path,.int .u8 (x.kind:Int),.int .u16 (x.mode:Int),.int .u32 (x.uid:Int),.int .u32 (x.gid:Int),.slice A x.n c,.string x.to] 93));have xz:Below w.heap.size w w0:=(by rw[xv];exact wR);have hE:w0.heap[w.heap.size]? =some (.cells #[.string x.path,.int .u8 (x.kind:Int),.int .u16 (x.mode:Int),.int .u32 (x.uid:Int),.int .u32 (x.gid:Int),.slice A x.n c,.string x.to] 93 (0,0)):=(by rw[xv];exact ab w _);have d0:w0.cell? ⟨w.heap.size,0,none⟩=some (.string x.path):=aa hE 0;have d1:w0.cell? ⟨w.heap.size,1,none⟩=some (.int .u8 (x.kind:Int)):=aa hE 1;have d2:w0.cell? ⟨w.heap.size,2,none⟩=some (.int .u16 (x.mode:Int)):=aa hE 2;have d3:w0.cell? ⟨w.heap.size,3,none⟩=some (.int .u32 (x.uid:Int)):=aa hE 3;have d4:w0.cell? ⟨w.heap.size,4,none⟩=some (.int .u32 (x.gid:Int)):=aa hE 4;have d5:w0.cell? ⟨w.heap.size,5,none⟩=some (.slice A x.n c):=aa hE 5;have d6:w0.cell? ⟨w.heap.size,6,none⟩=some (.string x.to):=aa hE 6;unfold Ent.val at zw⊢;obtain⟨Lm,xU,HH,HM,HR⟩:=zh5 zw xv h hm hr;clear zw xv h hm hr zA hE;go_enter func82,ntmps82;go_upto_region 1 with(fail);rw[<-xU.o];go_wp2_with (first
  |(go_at_call 133;refine(Lm.o _).mono ?_;rintro e w1⟨A1,xt,l1,rfl,yJ,xu,yN,xW⟩;have xI:=wP xu;clear yJ xu yN xW)
  |fail)
 go_ret;have hb:=xz.trans (xI.o.mono xz.size);exact⟨rfl,⟨nb,c2,ad,mp,HH.o.below hb⟩,hb.mono hB⟩
end
section
open Go.RowKit Go.Sort
variable {F:List Nd}{x:Ent}
theorem mg {j:Nat}(hm:may x=0)(h:atM F 0 (ar x.path)=some j):addM F x=(7,F):=by
 unfold addM;rw[if_neg o_,h];rfl
theorem mh (hm:may x=0)(h:atM F 0 (ar x.path)=none)(h2:atM F 0 (ar x.path).dropLast=none):addM F x=(3,F):=by
 unfold addM;rw[if_neg o_,h,h2];rfl
variable {up:Nat}
theorem lq (hm:may x=0)(h:atM F 0 (ar x.path)=none)(h2:atM F 0 (ar x.path).dropLast=some up)(hk:ak F up≠2):addM F x=(8,F):=by
 unfold addM;rw[if_neg o_,h,h2];show(if ak F up≠2 then((8:Int),F)else(0,F++[bB x up ((ar x.path).getLastD ⟨#[]⟩)]))=(8,F);rw[if_pos hk]
theorem lr (hm:may x=0)(h:atM F 0 (ar x.path)=none)(h2:atM F 0 (ar x.path).dropLast=some up)(hk:ak F up=2):addM F x=(0,F++[bB x up ((ar x.path).getLastD ⟨#[]⟩)]):=by
 unfold addM;rw[if_neg o_,h,h2];show(if ak F up≠2 then((8:Int),F)else(0,F++[bB x up ((ar x.path).getLastD ⟨#[]⟩)]))=_;rw[if_neg o_]
theorem rY (B fs nb c2 c j:Nat)(ad mp:Nat->Nat)(F:List Nd)(x:Ent)(A:Option Addr)(w:World)(h:FsIs w B fs nb c2 ad mp F)(hp:x.path.size<=1000000000)(ht:x.to.size<=1000000000)(hn:x.n<=9223372036854775807)(hB:B<=w.heap.size)(hm:may x=0)(hF:F.length<=1000)
  (ha:atM F 0 (ar x.path)=some j):
  Calls prog 82 #[.pointer (some ⟨fs,0,none⟩),x.val A c] w (cu B fs F x w):=by
 unfold cu;rw[mg hm ha];obtain⟨L,hL⟩:=e_ (ar x.path);obtain⟨_,_,_,zm,_,El,_⟩:=eX hm;have Em:L.length<=201:=(by rw[hL];have h1:=(dv zm).2.1;have:=bd x.path;omega);obtain⟨m,CO⟩: ∃m,m+1=L.length:=⟨L.length-1,by
  have:0<L.length:=List.length_pos_iff.2 (by rw[hL];exact El);omega⟩
 have PR:m<=200:=o_;have zw: ∀W,Calls prog 133 #[x.val A c] W fun e w'=> ∃A1 xt,e= .returned (.tuple #[.slice A1 (m+1) xt,.int .i64 0])/\Hid (OwnS w' W.heap.size A1 xt L)/\Hid (Below W.heap.size W w')/\m+1<=xt:=fun W=>by
  refine(et x A c W hp ht hn).mono ?_;rintro e w'⟨A1,xt,l1,rfl,yJ,xu,yN,xW⟩;have h9:=yN hm;rw[<-hL]at h9;subst h9;refine⟨A1,xt,by rw[hm,CO],wP yJ,wP xu,?_⟩;rcases yJ.form with⟨_,e,_⟩|⟨g,_,_,_,e⟩
  ·rw[e]at CO;cases CO
  ·omega
 obtain⟨w0,xv⟩:=e_ (w.alloc (.cells #[.string x.path,.int .u8 (x.kind:Int),.int .u16 (x.mode:Int),.int .u32 (x.uid:Int),.int .u32 (x.gid:Int),.slice A x.n c,.string x.to] 93));have xz:Below w.heap.size w w0:=(by rw[xv];exact wR);have hE:w0.heap[w.heap.size]? =some (.cells #[.string x.path,.int .u8 (x.kind:Int),.int .u16 (x.mode:Int),.int .u32 (x.uid:Int),.int .u32 (x.gid:Int),.slice A x.n c,.string x.to] 93 (0,0)):=(by rw[xv];exact ab w _);have d0:w0.cell? ⟨w.heap.size,0,none⟩=some (.string x.path):=aa hE 0;have d1:w0.cell? ⟨w.heap.size,1,none⟩=some (.int .u8 (x.kind:Int)):=aa hE 1;have d2:w0.cell? ⟨w.heap.size,2,none⟩=some (.int .u16 (x.mode:Int)):=aa hE 2;have d3:w0.cell? ⟨w.heap.size,3,none⟩=some (.int .u32 (x.uid:Int)):=aa hE 3;have d4:w0.cell? ⟨w.heap.size,4,none⟩=some (.int .u32 (x.gid:Int)):=aa hE 4;have d5:w0.cell? ⟨w.heap.size,5,none⟩=some (.slice A x.n c):=aa hE 5;have d6:w0.cell? ⟨w.heap.size,6,none⟩=some (.string x.to):=aa hE 6;have yH: ∀W A1 xt base,Below w.heap.size w W->Hid (OwnS W base A1 xt L)->m+1<=xt->Calls prog 134 #[.pointer (some ⟨fs,0,none⟩),.slice A1 (m+1) xt] W fun e w'=>e= .returned (atV F ad (atM F 0 L))/\w'=W:=fun W A1 xt base hb ho hc=>
  fy B fs nb c2 (m+1) xt ad mp F A1 L W (h.below hb) ho.o.strs CO hc o_ o_
 have yn: ∀W A1 xt base,Below w.heap.size w W->Hid (OwnS W base A1 xt L)->m+1<=xt->Calls prog 134 #[.pointer (some ⟨fs,0,none⟩),.slice A1 m xt] W fun e w'=>e= .returned (atV F ad (atM F 0 L.dropLast))/\w'=W:=fun W A1 xt base hb ho hc=>
  fy B fs nb c2 m xt ad mp F A1 L.dropLast W (h.below hb) ho.o.strs.front (by rw[List.length_dropLast];omega) o_ o_ o_
 have Oz:=fun k a W=>jR k a W;have OE:=fun k a W=>jS k a W;have JM:=fun x y k a W=>ix x y k a W;have JN:=fun x y k a W=>fC x y k a W;obtain⟨HE,Yt,HL⟩:=zh3 hE CO hL
 (rw[<-hL]at ha;rw[ha]at yH;have yH: ∀W A1 xt base,Below w.heap.size w W->Hid (OwnS W base A1 xt L)->m+1<=xt->Calls prog 134 #[.pointer (some ⟨fs,0,none⟩),.slice A1 (m+1) xt] W fun e w'=>e= .returned (ba (ak F j) (ad j))/\w'=W:=yH;clear ha)
 have BM:=zw;unfold Ent.val at BM⊢;obtain⟨Lm,Fg,Ez,xU,HH,HM⟩:=zh6 BM yH yn xv h hm;clear zw BM yH yn xv h hm hE CO hL zm El Em;go_enter func82,ntmps82;go_upto_region 1 with(fail);rw[<-xU.o];go_wp2_with (first
  |(go_at_call 133;refine(Lm.o _).mono ?_;rintro e w1⟨A1,xt,rfl,yB,xI,zT⟩)
  |(go_at_call 134;refine(Fg.o _ _ _ _ (xz.trans (xI.o.mono xz.size)) yB zT).mono ?_;rintro e w2⟨rfl,rfl⟩)
  |fail)
 go_ret;have hb:=xz.trans (xI.o.mono xz.size);exact⟨rfl,⟨nb,c2,ad,mp,HH.o.below hb⟩,hb.mono hB⟩
theorem rZ (B fs nb c2 c:Nat)(ad mp:Nat->Nat)(F:List Nd)(x:Ent)(A:Option Addr)(w:World)(h:FsIs w B fs nb c2 ad mp F)(hp:x.path.size<=1000000000)(ht:x.to.size<=1000000000)(hn:x.n<=9223372036854775807)(hB:B<=w.heap.size)(hm:may x=0)(hF:F.length<=1000)
  (ha:atM F 0 (ar x.path)=none)(DI:atM F 0 (ar x.path).dropLast=none):
  Calls prog 82 #[.pointer (some ⟨fs,0,none⟩),x.val A c] w (cu B fs F x w):=by
 unfold cu;rw[mh hm ha DI];obtain⟨L,hL⟩:=e_ (ar x.path);obtain⟨_,_,_,zm,_,El,_⟩:=eX hm;have Em:L.length<=201:=(by rw[hL];have h1:=(dv zm).2.1;have:=bd x.path;omega);obtain⟨m,CO⟩: ∃m,m+1=L.length:=⟨L.length-1,by
  have:0<L.length:=List.length_pos_iff.2 (by rw[hL];exact El);omega⟩
 have PR:m<=200:=o_;have zw: ∀W,Calls prog 133 #[x.val A c] W fun e w'=> ∃A1 xt,e= .returned (.tuple #[.slice A1 (m+1) xt,.int .i64 0])/\Hid (OwnS w' W.heap.size A1 xt L)/\Hid (Below W.heap.size W w')/\m+1<=xt:=fun W=>by
  refine(et x A c W hp ht hn).mono ?_;rintro e w'⟨A1,xt,l1,rfl,yJ,xu,yN,xW⟩;have h9:=yN hm;rw[<-hL]at h9;subst h9;refine⟨A1,xt,by rw[hm,CO],wP yJ,wP xu,?_⟩;rcases yJ.form with⟨_,e,_⟩|⟨g,_,_,_,e⟩
  ·rw[e]at CO;cases CO
  ·omega
 obtain⟨w0,xv⟩:=e_ (w.alloc (.cells #[.string x.path,.int .u8 (x.kind:Int),.int .u16 (x.mode:Int),.int .u32 (x.uid:Int),.int .u32 (x.gid:Int),.slice A x.n c,.string x.to] 93));have xz:Below w.heap.size w w0:=(by rw[xv];exact wR);have hE:w0.heap[w.heap.size]? =some (.cells #[.string x.path,.int .u8 (x.kind:Int),.int .u16 (x.mode:Int),.int .u32 (x.uid:Int),.int .u32 (x.gid:Int),.slice A x.n c,.string x.to] 93 (0,0)):=(by rw[xv];exact ab w _);have d0:w0.cell? ⟨w.heap.size,0,none⟩=some (.string x.path):=aa hE 0;have d1:w0.cell? ⟨w.heap.size,1,none⟩=some (.int .u8 (x.kind:Int)):=aa hE 1;have d2:w0.cell? ⟨w.heap.size,2,none⟩=some (.int .u16 (x.mode:Int)):=aa hE 2;have d3:w0.cell? ⟨w.heap.size,3,none⟩=some (.int .u32 (x.uid:Int)):=aa hE 3;have d4:w0.cell? ⟨w.heap.size,4,none⟩=some (.int .u32 (x.gid:Int)):=aa hE 4;have d5:w0.cell? ⟨w.heap.size,5,none⟩=some (.slice A x.n c):=aa hE 5;have d6:w0.cell? ⟨w.heap.size,6,none⟩=some (.string x.to):=aa hE 6;have yH: ∀W A1 xt base,Below w.heap.size w W->Hid (OwnS W base A1 xt L)->m+1<=xt->Calls prog 134 #[.pointer (some ⟨fs,0,none⟩),.slice A1 (m+1) xt] W fun e w'=>e= .returned (atV F ad (atM F 0 L))/\w'=W:=fun W A1 xt base hb ho hc=>
  fy B fs nb c2 (m+1) xt ad mp F A1 L W (h.below hb) ho.o.strs CO hc o_ o_
 have yn: ∀W A1 xt base,Below w.heap.size w W->Hid (OwnS W base A1 xt L)->m+1<=xt->Calls prog 134 #[.pointer (some ⟨fs,0,none⟩),.slice A1 m xt] W fun e w'=>e= .returned (atV F ad (atM F 0 L.dropLast))/\w'=W:=fun W A1 xt base hb ho hc=>
  fy B fs nb c2 m xt ad mp F A1 L.dropLast W (h.below hb) ho.o.strs.front (by rw[List.length_dropLast];omega) o_ o_ o_
 have Oz:=fun k a W=>jR k a W;have OE:=fun k a W=>jS k a W;have JM:=fun x y k a W=>ix x y k a W;have JN:=fun x y k a W=>fC x y k a W;obtain⟨HE,Yt,HL⟩:=zh3 hE CO hL
 (rw[<-hL]at ha DI;rw[ha]at yH;rw[DI]at yn;have yH: ∀W A1 xt base,Below w.heap.size w W->Hid (OwnS W base A1 xt L)->m+1<=xt->Calls prog 134 #[.pointer (some ⟨fs,0,none⟩),.slice A1 (m+1) xt] W fun e w'=>e= .returned .nilIface/\w'=W:=yH;have yn: ∀W A1 xt base,Below w.heap.size w W->Hid (OwnS W base A1 xt L)->m+1<=xt->Calls prog 134 #[.pointer (some ⟨fs,0,none⟩),.slice A1 m xt] W fun e w'=>e= .returned .nilIface/\w'=W:=yn;clear ha DI)
 have BM:=zw;unfold Ent.val at BM⊢;obtain⟨Lm,Fg,Ez,xU,HH,HM⟩:=zh6 BM yH yn xv h hm;clear zw BM yH yn xv h hm hE CO hL zm El Em;go_enter func82,ntmps82;go_upto_region 1 with(fail);rw[<-xU.o];go_upto_region 7 with(first
  |(go_at_call 133;refine(Lm.o _).mono ?_;rintro e w1⟨A1,xt,rfl,yB,xI,zT⟩)
  |(go_at_call 134;refine(Fg.o _ _ _ _ (xz.trans (xI.o.mono xz.size)) yB zT).mono ?_;rintro e w2⟨rfl,rfl⟩)
  |fail)
 go_wp2_with (first
  |(go_at_call 134;refine(Ez.o _ _ _ _ (xz.trans (xI.o.mono xz.size)) yB zT).mono ?_;rintro e w3⟨rfl,rfl⟩)
  |fail)
 go_ret;have hb:=xz.trans (xI.o.mono xz.size);exact⟨rfl,⟨nb,c2,ad,mp,HH.o.below hb⟩,hb.mono hB⟩
theorem pA (B fs nb c2 c up:Nat)(ad mp:Nat->Nat)(F:List Nd)(x:Ent)(A:Option Addr)(w:World)(h:FsIs w B fs nb c2 ad mp F)(hp:x.path.size<=1000000000)(ht:x.to.size<=1000000000)(hn:x.n<=9223372036854775807)(hB:B<=w.heap.size)(hm:may x=0)(hF:F.length<=1000)
  (ha:atM F 0 (ar x.path)=none)(DI:atM F 0 (ar x.path).dropLast=some up)(hk:ak F up≠2):
  Calls prog 82 #[.pointer (some ⟨fs,0,none⟩),x.val A c] w (cu B fs F x w):=by
 unfold cu;rw[lq hm ha DI hk];have OS:=fun W=>gU (ak F up) (ad up) W;rw[if_neg hk,xg hk]at OS;clear hk;obtain⟨L,hL⟩:=e_ (ar x.path);obtain⟨_,_,_,zm,_,El,_⟩:=eX hm;have Em:L.length<=201:=(by rw[hL];have h1:=(dv zm).2.1;have:=bd x.path;omega);obtain⟨m,CO⟩: ∃m,m+1=L.length:=⟨L.length-1,by
  have:0<L.length:=List.length_pos_iff.2 (by rw[hL];exact El);omega⟩
 have PR:m<=200:=o_;have zw: ∀W,Calls prog 133 #[x.val A c] W fun e w'=> ∃A1 xt,e= .returned (.tuple #[.slice A1 (m+1) xt,.int .i64 0])/\Hid (OwnS w' W.heap.size A1 xt L)/\Hid (Below W.heap.size W w')/\m+1<=xt:=fun W=>by
  refine(et x A c W hp ht hn).mono ?_;rintro e w'⟨A1,xt,l1,rfl,yJ,xu,yN,xW⟩;have h9:=yN hm;rw[<-hL]at h9;subst h9;refine⟨A1,xt,by rw[hm,CO],wP yJ,wP xu,?_⟩;rcases yJ.form with⟨_,e,_⟩|⟨g,_,_,_,e⟩
  ·rw[e]at CO;cases CO
  ·omega
 obtain⟨w0,xv⟩:=e_ (w.alloc (.cells #[.string x.path,.int .u8 (x.kind:Int),.int .u16 (x.mode:Int),.int .u32 (x.uid:Int),.int .u32 (x.gid:Int),.slice A x.n c,.string x.to] 93));have xz:Below w.heap.size w w0:=(by rw[xv];exact wR);have hE:w0.heap[w.heap.size]? =some (.cells #[.string x.path,.int .u8 (x.kind:Int),.int .u16 (x.mode:Int),.int .u32 (x.uid:Int),.int .u32 (x.gid:Int),.slice A x.n c,.string x.to] 93 (0,0)):=(by rw[xv];exact ab w _);have d0:w0.cell? ⟨w.heap.size,0,none⟩=some (.string x.path):=aa hE 0;have d1:w0.cell? ⟨w.heap.size,1,none⟩=some (.int .u8 (x.kind:Int)):=aa hE 1;have d2:w0.cell? ⟨w.heap.size,2,none⟩=some (.int .u16 (x.mode:Int)):=aa hE 2;have d3:w0.cell? ⟨w.heap.size,3,none⟩=some (.int .u32 (x.uid:Int)):=aa hE 3;have d4:w0.cell? ⟨w.heap.size,4,none⟩=some (.int .u32 (x.gid:Int)):=aa hE 4;have d5:w0.cell? ⟨w.heap.size,5,none⟩=some (.slice A x.n c):=aa hE 5;have d6:w0.cell? ⟨w.heap.size,6,none⟩=some (.string x.to):=aa hE 6;have yH: ∀W A1 xt base,Below w.heap.size w W->Hid (OwnS W base A1 xt L)->m+1<=xt->Calls prog 134 #[.pointer (some ⟨fs,0,none⟩),.slice A1 (m+1) xt] W fun e w'=>e= .returned (atV F ad (atM F 0 L))/\w'=W:=fun W A1 xt base hb ho hc=>
  fy B fs nb c2 (m+1) xt ad mp F A1 L W (h.below hb) ho.o.strs CO hc o_ o_
 have yn: ∀W A1 xt base,Below w.heap.size w W->Hid (OwnS W base A1 xt L)->m+1<=xt->Calls prog 134 #[.pointer (some ⟨fs,0,none⟩),.slice A1 m xt] W fun e w'=>e= .returned (atV F ad (atM F 0 L.dropLast))/\w'=W:=fun W A1 xt base hb ho hc=>
  fy B fs nb c2 m xt ad mp F A1 L.dropLast W (h.below hb) ho.o.strs.front (by rw[List.length_dropLast];omega) o_ o_ o_
 have Oz:=fun k a W=>jR k a W;have OE:=fun k a W=>jS k a W;have JM:=fun x y k a W=>ix x y k a W;have JN:=fun x y k a W=>fC x y k a W;obtain⟨HE,Yt,HL⟩:=zh3 hE CO hL
 (rw[<-hL]at ha DI;rw[ha]at yH;rw[DI]at yn;have yH: ∀W A1 xt base,Below w.heap.size w W->Hid (OwnS W base A1 xt L)->m+1<=xt->Calls prog 134 #[.pointer (some ⟨fs,0,none⟩),.slice A1 (m+1) xt] W fun e w'=>e= .returned .nilIface/\w'=W:=yH;have yn: ∀W A1 xt base,Below w.heap.size w W->Hid (OwnS W base A1 xt L)->m+1<=xt->Calls prog 134 #[.pointer (some ⟨fs,0,none⟩),.slice A1 m xt] W fun e w'=>e= .returned (ba (ak F up) (ad up))/\w'=W:=yn;clear ha DI)
 have BM:=zw;unfold Ent.val at BM⊢;obtain⟨Lm,Fg,Ez,xU,HH,HM⟩:=zh6 BM yH yn xv h hm;clear zw BM yH yn xv h hm hE CO hL zm El Em;go_enter func82,ntmps82;go_upto_region 1 with(fail);rw[<-xU.o];go_upto_region 7 with(first
  |(go_at_call 133;refine(Lm.o _).mono ?_;rintro e w1⟨A1,xt,rfl,yB,xI,zT⟩)
  |(go_at_call 134;refine(Fg.o _ _ _ _ (xz.trans (xI.o.mono xz.size)) yB zT).mono ?_;rintro e w2⟨rfl,rfl⟩)
  |fail)
 go_wp2_with (first
  |(go_at_call 134;refine(Ez.o _ _ _ _ (xz.trans (xI.o.mono xz.size)) yB zT).mono ?_;rintro e w3⟨rfl,rfl⟩)
  |fail)
 go_ret;have hb:=xz.trans (xI.o.mono xz.size);exact⟨rfl,⟨nb,c2,ad,mp,HH.o.below hb⟩,hb.mono hB⟩
end
section
open Go.RowKit Go.Sort
variable {L:List ByteArray}
theorem oJ {m:Nat}(h:m+1=L.length): ∃s,L[m]? =some s/\L.getLastD ⟨#[]⟩=s/\L=L.dropLast++[s]:=by
 have xA:L≠[]:=fun e=>by rw[e]at h;cases h
 have h1:L=L.dropLast++[L.getLast xA]:=(List.dropLast_concat_getLast xA).symm;refine⟨L.getLast xA,?_,?_,h1⟩
 ·rw[List.getLast_eq_getElem];have:L.length-1=m:=o_;simp only[this];exact wV o_
 ·cases L with
  |nil=>exact absurd rfl xA
  |cons a l=>rfl
theorem vs {F:List Nd}{s:ByteArray}{up:Nat}(hL:L=L.dropLast++[s])(h1:atM F 0 L=none)(h2:atM F 0 L.dropLast=some up)(hk:ak F up=2): ∀y∈aI F up,y.1≠s:=by
 rw[hL,atM_snoc,h2]at h1;simp only at h1;refine sV ?_;cases hc:dm (aI F up) s with
 |none=>rfl
 |some j=>rw[atM_go hk hc]at h1;cases h1
theorem tU (B fs nb c2 c up:Nat)(ad mp:Nat->Nat)(F:List Nd)(x:Ent)(A:Option Addr)(w:World)(h:FsIs w B fs nb c2 ad mp F)(hp:x.path.size<=1000000000)(ht:x.to.size<=1000000000)(hn:x.n<=9223372036854775807)(hB:B<=w.heap.size)(hm:may x=0)(hF:F.length<=1000)
  (hA:ap w A x.n x.dat)(MX:fd A x.n c)
  (ha:atM F 0 (ar x.path)=none)(DI:atM F 0 (ar x.path).dropLast=some up)(hk:ak F up=2):
  Calls prog 82 #[.pointer (some ⟨fs,0,none⟩),x.val A c] w (cu B fs F x w):=by
 have ya:=nz (F:=F) (e:=x) h.ok (by rw[lr hm ha DI hk]);unfold cu;rw[lr hm ha DI hk]at ya⊢;have AE:=vZ _ h.ok.pos DI;have OS:=fun W=>gU (ak F up) (ad up) W;rw[if_pos hk,xh hk]at OS;obtain⟨N,hN⟩:=e_ F.length;have hNf:N<=1000:=o_;obtain⟨V,hV⟩:=e_ (ba (ak F up) (ad up));have xN:=eX hm;obtain⟨L,hL⟩:=e_ (ar x.path);obtain⟨_,_,_,zm,_,El,_⟩:=eX hm;have Em:L.length<=201:=(by rw[hL];have h1:=(dv zm).2.1;have:=bd x.path;omega);obtain⟨m,CO⟩: ∃m,m+1=L.length:=⟨L.length-1,by
  have:0<L.length:=List.length_pos_iff.2 (by rw[hL];exact El);omega⟩
 have PR:m<=200:=o_;have zw: ∀W,Calls prog 133 #[x.val A c] W fun e w'=> ∃A1 xt,e= .returned (.tuple #[.slice A1 (m+1) xt,.int .i64 0])/\Hid (OwnS w' W.heap.size A1 xt L)/\Hid (Below W.heap.size W w')/\m+1<=xt:=fun W=>by
  refine(et x A c W hp ht hn).mono ?_;rintro e w'⟨A1,xt,l1,rfl,yJ,xu,yN,xW⟩;have h9:=yN hm;rw[<-hL]at h9;subst h9;refine⟨A1,xt,by rw[hm,CO],wP yJ,wP xu,?_⟩;rcases yJ.form with⟨_,e,_⟩|⟨g,_,_,_,e⟩
  ·rw[e]at CO;cases CO
  ·omega
 obtain⟨w0,xv⟩:=e_ (w.alloc (.cells #[.string x.path,.int .u8 (x.kind:Int),.int .u16 (x.mode:Int),.int .u32 (x.uid:Int),.int .u32 (x.gid:Int),.slice A x.n c,.string x.to] 93));have xz:Below w.heap.size w w0:=(by rw[xv];exact wR);have hE:w0.heap[w.heap.size]? =some (.cells #[.string x.path,.int .u8 (x.kind:Int),.int .u16 (x.mode:Int),.int .u32 (x.uid:Int),.int .u32 (x.gid:Int),.slice A x.n c,.string x.to] 93 (0,0)):=(by rw[xv];exact ab w _);have d0:w0.cell? ⟨w.heap.size,0,none⟩=some (.string x.path):=aa hE 0;have d1:w0.cell? ⟨w.heap.size,1,none⟩=some (.int .u8 (x.kind:Int)):=aa hE 1;have d2:w0.cell? ⟨w.heap.size,2,none⟩=some (.int .u16 (x.mode:Int)):=aa hE 2;have d3:w0.cell? ⟨w.heap.size,3,none⟩=some (.int .u32 (x.uid:Int)):=aa hE 3;have d4:w0.cell? ⟨w.heap.size,4,none⟩=some (.int .u32 (x.gid:Int)):=aa hE 4;have d5:w0.cell? ⟨w.heap.size,5,none⟩=some (.slice A x.n c):=aa hE 5;have d6:w0.cell? ⟨w.heap.size,6,none⟩=some (.string x.to):=aa hE 6;have yH: ∀W A1 xt base,Below w.heap.size w W->Hid (OwnS W base A1 xt L)->m+1<=xt->Calls prog 134 #[.pointer (some ⟨fs,0,none⟩),.slice A1 (m+1) xt] W fun e w'=>e= .returned (atV F ad (atM F 0 L))/\w'=W:=fun W A1 xt base hb ho hc=>
  fy B fs nb c2 (m+1) xt ad mp F A1 L W (h.below hb) ho.o.strs CO hc o_ o_
 have yn: ∀W A1 xt base,Below w.heap.size w W->Hid (OwnS W base A1 xt L)->m+1<=xt->Calls prog 134 #[.pointer (some ⟨fs,0,none⟩),.slice A1 m xt] W fun e w'=>e= .returned (atV F ad (atM F 0 L.dropLast))/\w'=W:=fun W A1 xt base hb ho hc=>
  fy B fs nb c2 m xt ad mp F A1 L.dropLast W (h.below hb) ho.o.strs.front (by rw[List.length_dropLast];omega) o_ o_ o_
 have Oz:=fun k a W=>jR k a W;have OE:=fun k a W=>jS k a W;have JM:=fun x y k a W=>ix x y k a W;have JN:=fun x y k a W=>fC x y k a W;obtain⟨HE,Yt,HL⟩:=zh3 hE CO hL
 (rw[<-hL]at ha DI;have MN:=yH;rw[ha]at MN;have MM:=yn;rw[DI]at MM;clear yH yn;have yH: ∀W A1 xt base,Below w.heap.size w W->Hid (OwnS W base A1 xt L)->m+1<=xt->Calls prog 134 #[.pointer (some ⟨fs,0,none⟩),.slice A1 (m+1) xt] W fun e w'=>e= .returned .nilIface/\w'=W:=MN;have yn: ∀W A1 xt base,Below w.heap.size w W->Hid (OwnS W base A1 xt L)->m+1<=xt->Calls prog 134 #[.pointer (some ⟨fs,0,none⟩),.slice A1 m xt] W fun e w'=>e= .returned (ba (ak F up) (ad up))/\w'=W:=MM;obtain⟨HAA,HAA2,Is,CG,Hu,Np,Iu,HSO⟩:=zh8 ha DI hk hN ya xN hA MX;have hgeq:=fC;clear ha DI MN MM hk hN ya hV xN hA MX)
 have BM:=zw;unfold Ent.val at BM⊢;obtain⟨Lm,Fg,Ez,xU,HH,HM⟩:=zh6 BM yH yn xv h hm;clear zw BM yH yn xv h hm hE CO hL zm El Em;go_enter func82,ntmps82;go_upto_region 1 with(fail);rw[<-xU.o];go_upto_region 7 with(first
  |(go_at_call 133;refine(Lm.o _).mono ?_;rintro e w1⟨A1,xt,rfl,yB,xI,zT⟩)
  |(go_at_call 134;refine(Fg.o _ _ _ _ (xz.trans (xI.o.mono xz.size)) yB zT).mono ?_;rintro e w2⟨rfl,rfl⟩)
  |fail)
 go_upto_region 13 with(first
  |(go_at_call 134;refine(Ez.o _ _ _ _ (xz.trans (xI.o.mono xz.size)) yB zT).mono ?_;rintro e w3⟨rfl,rfl⟩)
  |fail)
 clear d0 d1 d2 d3 d4 d5 d6;have Ci:w.heap.size<w0.heap.size:=(wO HE.o).1;have AO:Below w.heap.size w w3:=xz.trans (xI.o.mono xz.size);have yP:=(xI.o.block _ Ci).trans HE.o;obtain⟨s,hs,hsL,hsD⟩:=oJ Yt.o;obtain⟨g,Wy,Ck,yE⟩: ∃g,A1=some ⟨g,0,none⟩/\w0.heap.size<=g/\g<w3.heap.size:=by
  rcases yB.o.form with⟨_,e,_⟩|⟨g,e1,e2,e3,_⟩
  ·exfalso;have:=Yt.o;rw[e]at this;cases this
  ·exact⟨g,e1,e2,e3⟩
 subst Wy;have ZL:=HH.o.below AO;have cg:w3.cell? ⟨g,m,none⟩=some (.string s):=OwnS.elem yB.o hs;have e1:w3.cell? ⟨w.heap.size,1,none⟩=some (.int .u8 (x.kind:Int)):=aa yP 1;have e2:w3.cell? ⟨w.heap.size,2,none⟩=some (.int .u16 (x.mode:Int)):=aa yP 2;have e3:w3.cell? ⟨w.heap.size,3,none⟩=some (.int .u32 (x.uid:Int)):=aa yP 3;have e4:w3.cell? ⟨w.heap.size,4,none⟩=some (.int .u32 (x.gid:Int)):=aa yP 4;have e5:w3.cell? ⟨w.heap.size,5,none⟩=some (.slice A x.n c):=aa yP 5;have e8:w3.cell? ⟨fs,0,none⟩=some (.slice (some ⟨nb,0,none⟩) N c2):=(by rw[CG.o];exact aa ZL.self 0);have l1:fs<w3.heap.size:=(wO ZL.self).1;have l2:w.heap.size<w3.heap.size:=(wO yP).1;obtain⟨Lp,Ob,Us,Hy,Jw⟩:=zh5 yP ZL hsL (vs hsD HAA.o HAA2.o Is.o) AO;clear yP ZL hs hsL hsD AO;have hmm1:(m:Int)<(m:Int)+1:=o_;go_region_held3 (fun w'=>w'.cell? ⟨w.heap.size,1,none⟩=some (.int .u8 (x.kind:Int))/\w'.cell? ⟨w.heap.size,2,none⟩=some (.int .u16 (x.mode:Int))/\w'.cell? ⟨w.heap.size,3,none⟩=some (.int .u32 (x.uid:Int))/\w'.cell? ⟨w.heap.size,4,none⟩=some (.int .u32 (x.gid:Int))/\w'.cell? ⟨w.heap.size,5,none⟩=some (.slice A x.n c)/\w'.cell? ⟨fs,0,none⟩=some (.slice (some ⟨nb,0,none⟩) N c2)/\w'.cell? ⟨g,m,none⟩=some (.string s))
  (go_keep)
  (fail)
 go_upto_region 14 with(fail);obtain⟨w4,zV⟩:=e_ ((w3.alloc (.cells #[.int .u8 (x.kind:Int),.int .u16 (x.mode:Int),.int .u32 (x.uid:Int),.int .u32 (x.gid:Int),.int .i64 (x.n:Int),.int .i64 (N:Int),.pointer (some ⟨ad up,0,none⟩),.string s] 165)).drew);rw[<-zV];have Eo:w4.heap[w3.heap.size]? =some (.cells #[.int .u8 (x.kind:Int),.int .u16 (x.mode:Int),.int .u32 (x.uid:Int),.int .u32 (x.gid:Int),.int .i64 (x.n:Int),.int .i64 (N:Int),.pointer (some ⟨ad up,0,none⟩),.string s] 165 (0,0)):=(by rw[zV];exact ab w3 _);have KF:Below w3.heap.size w3 w4:=(by rw[zV];exact wR.drew);have CU:=KF.size;have l3:w3.heap.size<w4.heap.size:=(wO Eo).1;clear e1 e2 e3 e4 e5 e8;have e1:w4.cell? ⟨w.heap.size,1,none⟩=some (.int .u8 (x.kind:Int)):=(KF.cell l2).trans (aa Lp.o 1);have e5:w4.cell? ⟨w.heap.size,5,none⟩=some (.slice A x.n c):=(KF.cell l2).trans (aa Lp.o 5);have e6:w4.cell? ⟨w.heap.size,6,none⟩=some (.string x.to):=(KF.cell l2).trans (aa Lp.o 6);have x0:w4.cell? ⟨w3.heap.size,0,none⟩=some (.int .u8 (x.kind:Int)):=aa Eo 0;have x1:w4.cell? ⟨w3.heap.size,1,none⟩=some (.int .u16 (x.mode:Int)):=aa Eo 1;have x2:w4.cell? ⟨w3.heap.size,2,none⟩=some (.int .u32 (x.uid:Int)):=aa Eo 2;have x3:w4.cell? ⟨w3.heap.size,3,none⟩=some (.int .u32 (x.gid:Int)):=aa Eo 3;have x4:w4.cell? ⟨w3.heap.size,4,none⟩=some (.int .i64 (x.n:Int)):=aa Eo 4;have x5:w4.cell? ⟨w3.heap.size,5,none⟩=some (.int .i64 (N:Int)):=aa Eo 5;have x6:w4.cell? ⟨w3.heap.size,6,none⟩=some (.pointer (some ⟨ad up,0,none⟩)):=aa Eo 6;have x7:w4.cell? ⟨w3.heap.size,7,none⟩=some (.string s):=aa Eo 7;obtain⟨Ax,Pw⟩:=zh2 Eo KF;clear Eo KF zV Oz OE JM JN hgeq OS;have Wi:x.kind=1\/x.kind=2\/x.kind=3:=(by have:=Np.o;omega);have HXK:=wP Wi;clear Wi;rcases HXK.o with CW|CW|CW
 ·have zo:((x.kind:Nat):Int)=1:=o_;have t1:(((x.kind:Nat):Int)==2)=false:=(by rw[zo];decide);have t2:(((x.kind:Nat):Int)==1)=true:=(by rw[zo];decide);have By:=wP CW;have hxn:x.n<=1000000:=(by have:=Np.o;omega);have XI: ∀W,Below w4.heap.size w4 W->ap W A x.n x.dat:=fun W hW=>Iu.o.kept (Jw.o.trans ((Pw.o.trans (hW.mono CU)).mono (by have:=Jw.o.size;omega)));have HBV4:=wP XI;have Ri:w.heap.size<=w4.heap.size:=o_;clear CW zo XI;go_upto_region 20 with(fail);go_region_with
   ((
    first
    |(go_at_call 135;refine(vP A x.n c x.dat _ HSO.o hxn (HBV4.o _ ((xp _ _).drew))).mono ?_;rintro e w6⟨A6,cd,rfl,Bq,Bv⟩;have Dy:Below w4.heap.size w4 w6:=((xp w4.heap.size w4).drew).trans Bv;have y0:=(Dy.cell (p:=⟨w3.heap.size,0,none⟩) l3).trans x0;have y1:=(Dy.cell (p:=⟨w3.heap.size,1,none⟩) l3).trans x1;have y2:=(Dy.cell (p:=⟨w3.heap.size,2,none⟩) l3).trans x2;have y3:=(Dy.cell (p:=⟨w3.heap.size,3,none⟩) l3).trans x3;have y4:=(Dy.cell (p:=⟨w3.heap.size,4,none⟩) l3).trans x4;have y5:=(Dy.cell (p:=⟨w3.heap.size,5,none⟩) l3).trans x5;have y6:=(Dy.cell (p:=⟨w3.heap.size,6,none⟩) l3).trans x6;have y7:=(Dy.cell (p:=⟨w3.heap.size,7,none⟩) l3).trans x7;have Tl:=wP Bq;clear Bq Bv)))
  all_goals
   (
  go_upto_region 21 with(fail);obtain⟨w7,zu⟩:=e_ (w6.alloc (.cells #[.int .u8 (x.kind:Int),.int .u16 (x.mode:Int),.int .u32 (x.uid:Int),.int .u32 (x.gid:Int),.int .i64 (x.n:Int),.int .i64 (N:Int),.pointer (some ⟨ad up,0,none⟩),.string s,.slice A6 x.n cd] 227));rw[<-zu];have NI:=Dy.size;have ED:w7.heap[w6.heap.size]? =some (.cells #[.int .u8 (x.kind:Int),.int .u16 (x.mode:Int),.int .u32 (x.uid:Int),.int .u32 (x.gid:Int),.int .i64 (x.n:Int),.int .i64 (N:Int),.pointer (some ⟨ad up,0,none⟩),.string s,.slice A6 x.n cd] 227 (0,0)):=(by rw[zu];exact ab w6 _);have Hj:Below w4.heap.size w4 w7:=(by rw[zu];exact Dy.alloc NI _);have Kb:=wP (Tl.o.below (w':=w7) (by rw[zu];exact wR));clear zu y0 y1 y2 y3 y4 y5 y6 y7;have TJ:=Hj.size;have Cn:Below w3.heap.size w3 w7:=Pw.o.trans (Hj.mono CU);have Hp:=Ob.o.below Cn;have Li:fo w7 (w6.heap.size) F.length (0) (ad up) (bB x up s):=⟨_,_,(by rw[<-CG.o];exact ED),(fun e=>absurd (show x.kind=2 from e) (by rw[By.o];decide)),(fun _ =>⟨rfl,A6,cd,rfl,Kb.o.1,Kb.o.2.1,Kb.o.2.2⟩),(fun e=>absurd (show x.kind=3 from e) (by rw[By.o];decide))⟩;have WE:=(wO Ob.o.self).1;have VO:=kz Ob.o.row;have hV:(ba (ak (F++[bB x up s]) F.length) (upd ad F.length (w6.heap.size) F.length))= .iface 225 (.pointer (some ⟨w6.heap.size,0,none⟩)):=(by
   rw[af];have e:ak (F++[bB x up s]) F.length=x.kind:=(by
    unfold ak;rw[wY (wS _)];simp[bB])
   rw[e,By.o];rfl)
  have AZ:bL w7.drew (mp up) (aI F up) (fun j=>ba (ak (F++[bB x up s]) j) (upd ad F.length (w6.heap.size) j)):=((Hp.names up Is.o).congr (fun y hy=>(by
   have hl:=(bA hy).1;rw[cU _ hl,ah _ _ o_]))).same rfl
  obtain⟨w8,Ij,OA,Bb,Of⟩:=AZ.put s F.length Hy.o;have zW:Mod (fun b=>b=mp up) w7 w8:=Bb.undrew;have IL:(Instr.mapUpdate 166 (.map (some (mp up))) (.string s) (.iface 225 (.pointer (some ⟨w6.heap.size,0,none⟩)))).run prog w7.drew= .ok () w8:=(by rw[<-hV];exact Ij);have z1:w7.cell? ⟨ad up,8,none⟩=some (.map (some (mp up))):=Hp.mapCell Is.o;have z2:w7.cell? ⟨g,m,none⟩=some (.string s):=(Cn.cell (p:=⟨g,m,none⟩) yE).trans cg;obtain⟨BJ,Ys,To,Jo,Ia⟩:=zh5 Hp Li OA zW Cn;have QL:Hid ((bB x up s).kind=2->(∃yj,w7.heap[0]? =some (.map #[] yj))/\B<=0/\ ∀i,ak F i=2->0≠mp i):=wP (fun e=>absurd (show x.kind=2 from e) (by rw[By.o];decide));have FE:Hid (w6.heap.size≠fs/\w6.heap.size≠nb/\B<=w6.heap.size):=wP (by have:=Jw.o.size;exact⟨o_,o_,o_⟩);clear Hp Li OA zW Bb Cn Ij hV AZ Of;go_upto_region 21 with(fail);go_region
  all_goals
   have s8:=(Jo.o.block fs (by have:=Ia.o.size;omega) (fun e=>by
    obtain⟨es,yj,e1⟩:=BJ.o.mapBlock Is.o;have e2:=BJ.o.self;rw[e,e1]at e2;cases e2)).trans BJ.o.self
   have nm:nb≠mp up:=(fun e=>by
    obtain⟨es,yj,e1⟩:=BJ.o.mapBlock Is.o;obtain⟨cs,f,e2⟩:=BJ.o.rowBlock;rw[e,e1]at e2;cases e2)
   have nf:nb≠fs:=(fun e=>by
    obtain⟨cs,f,e2⟩:=BJ.o.rowBlock;have e3:=BJ.o.self;rw[e,e3]at e2;injection e2 with e2;injection e2 with _ e2 _;exact absurd e2 d_)
   have r8:=ik BJ.o.row (Jo.o.block nb (kz BJ.o.row) nm);have v1:w8.cell? ⟨fs,0,none⟩=some (.slice (some ⟨nb,0,none⟩) N c2):=(by rw[CG.o];exact aa s8 0);have v2:=ae s8 0;have lfs8:=(wO s8).1;have Ql:N<=c2:=(by
    obtain⟨cur,_,e3,_⟩:=ew r8;rw[CG.o];exact e3)
   obtain⟨Yd,Ir⟩:=zh2 s8 r8;clear s8 r8 IL z1 z2;go_wp2_with (first
    |(at_builtin;refine wj rfl (.tmp 102) (.tmp 104) rfl nb c2 N F ad CG.o rfl (World.ownsRow.alloc Ir.o _) (.iface 225 (.pointer (some ⟨w6.heap.size,0,none⟩))) rfl w8.heap.size 1 rfl (ab _ _) o_ ?_;intro g9 c9 w9 Kn Gn Hl Wa;have s9:=(Gn.block fs t_ (by simpa using fun e=>nf (Eq.symm e))).trans ((wT _ _ _ o_).trans Yd.o);have v3:=aa s9 0;have v4:=ae s9 0;obtain⟨HS9,YJ,Yq,NH⟩:=zh4 s9 Gn Kn Hl;clear s9 Gn Kn Hl)
    |fail)
   go_ret;obtain⟨Dl,Dk⟩:=mS (y:=bB x up s) (up:=up) BJ.o rfl AE Is.o (by have h9:=Hu.o.1;rw[<-HL.o,Us.o]at h9;exact h9) Ys.o FE.o.1 FE.o.2.1 FE.o.2.2 QL.o To.o Jo.o YJ.o (by have h9:=Yq.o;have e9:ba (bB x up s).kind (w6.heap.size)= .iface 225 (.pointer (some ⟨w6.heap.size,0,none⟩)):=(by show ba x.kind _ =_;rw[By.o];rfl);rw[e9];exact h9) NH.o;rw[<-CG.o]at Dl Dk;have eL:(ar x.path).getLastD ⟨#[]⟩=s:=(by rw[<-HL.o];exact Us.o);refine⟨rfl,⟨g9,c9,upd ad N (w6.heap.size),upd mp N (0),(by rw[eL];exact Dl)⟩,?_⟩;exact(Jw.o.mono hB).trans ((Ia.o.mono (by have:=Jw.o.size;omega)).trans Dk))
 ·have zo:((x.kind:Nat):Int)=2:=o_;have t1:(((x.kind:Nat):Int)==2)=true:=(by rw[zo];decide);have By:=wP CW;have EC:= @run_makeMap prog;clear CW zo;go_upto_region 21 with(fail);obtain⟨w7,zu⟩:=e_ ((w4.alloc (.map #[] 0)).alloc (.cells #[.int .u8 (x.kind:Int),.int .u16 (x.mode:Int),.int .u32 (x.uid:Int),.int .u32 (x.gid:Int),.int .i64 (x.n:Int),.int .i64 (N:Int),.pointer (some ⟨ad up,0,none⟩),.string s,.map (some w4.heap.size)] 168));rw[<-zu];have ED:w7.heap[w4.heap.size+1]? =some (.cells #[.int .u8 (x.kind:Int),.int .u16 (x.mode:Int),.int .u32 (x.uid:Int),.int .u32 (x.gid:Int),.int .i64 (x.n:Int),.int .i64 (N:Int),.pointer (some ⟨ad up,0,none⟩),.string s,.map (some w4.heap.size)] 168 (0,0)):=by
   rw[zu];have e:(w4.alloc (.map #[] 0)).heap.size=w4.heap.size+1:=s_;rw[<-e];exact ab _ _
  have Qs:w7.heap[w4.heap.size]? =some (.map #[] 0):=(by rw[zu];exact(wT _ _ _ s_).trans (ab _ _));have Hj:Below w4.heap.size w4 w7:=(by rw[zu];exact wR.alloc s_ _);have PU: ∀i,ak F i=2->mp i<w3.heap.size:=fun i hi=>by
   obtain⟨es,yj,e1⟩:=Ob.o.mapBlock hi;exact(wO e1).1
  obtain⟨KR,HMPL⟩:=zh2 Qs PU;clear zu EC Qs PU;have TJ:=Hj.size;have Cn:Below w3.heap.size w3 w7:=Pw.o.trans (Hj.mono CU);have Hp:=Ob.o.below Cn;have Li:fo w7 (w4.heap.size+1) F.length (w4.heap.size) (ad up) (bB x up s):=⟨_,_,(by rw[<-CG.o];exact ED),(fun _ =>⟨rfl,rfl⟩),(fun e=>absurd (show x.kind=1 from e) (by rw[By.o];decide)),(fun e=>absurd (show x.kind=3 from e) (by rw[By.o];decide))⟩;have WE:=(wO Ob.o.self).1;have VO:=kz Ob.o.row;have hV:(ba (ak (F++[bB x up s]) F.length) (upd ad F.length (w4.heap.size+1) F.length))= .iface 163 (.pointer (some ⟨w4.heap.size+1,0,none⟩)):=(by
   rw[af];have e:ak (F++[bB x up s]) F.length=x.kind:=(by
    unfold ak;rw[wY (wS _)];simp[bB])
   rw[e,By.o];rfl)
  have AZ:bL w7.drew (mp up) (aI F up) (fun j=>ba (ak (F++[bB x up s]) j) (upd ad F.length (w4.heap.size+1) j)):=((Hp.names up Is.o).congr (fun y hy=>(by
   have hl:=(bA hy).1;rw[cU _ hl,ah _ _ o_]))).same rfl
  obtain⟨w8,Ij,OA,Bb,Of⟩:=AZ.put s F.length Hy.o;have zW:Mod (fun b=>b=mp up) w7 w8:=Bb.undrew;have IL:(Instr.mapUpdate 166 (.map (some (mp up))) (.string s) (.iface 163 (.pointer (some ⟨w4.heap.size+1,0,none⟩)))).run prog w7.drew= .ok () w8:=(by rw[<-hV];exact Ij);have z1:w7.cell? ⟨ad up,8,none⟩=some (.map (some (mp up))):=Hp.mapCell Is.o;have z2:w7.cell? ⟨g,m,none⟩=some (.string s):=(Cn.cell (p:=⟨g,m,none⟩) yE).trans cg;obtain⟨BJ,Ys,To,Jo,Ia⟩:=zh5 Hp Li OA zW Cn;have QL:Hid ((bB x up s).kind=2->(∃yj,w7.heap[w4.heap.size]? =some (.map #[] yj))/\B<=w4.heap.size/\ ∀i,ak F i=2->w4.heap.size≠mp i):=wP (fun _ =>⟨⟨0,KR.o⟩,(by have:=Jw.o.size;omega),(fun i hi=>by have:=HMPL.o i hi;omega)⟩);have FE:Hid (w4.heap.size+1≠fs/\w4.heap.size+1≠nb/\B<=w4.heap.size+1):=wP (by have:=Jw.o.size;exact⟨o_,o_,o_⟩);clear Hp Li OA zW Bb Cn Ij hV AZ Of;go_upto_region 21 with(fail);go_region
  all_goals
   have s8:=(Jo.o.block fs (by have:=Ia.o.size;omega) (fun e=>by
    obtain⟨es,yj,e1⟩:=BJ.o.mapBlock Is.o;have e2:=BJ.o.self;rw[e,e1]at e2;cases e2)).trans BJ.o.self
   have nm:nb≠mp up:=(fun e=>by
    obtain⟨es,yj,e1⟩:=BJ.o.mapBlock Is.o;obtain⟨cs,f,e2⟩:=BJ.o.rowBlock;rw[e,e1]at e2;cases e2)
   have nf:nb≠fs:=(fun e=>by
    obtain⟨cs,f,e2⟩:=BJ.o.rowBlock;have e3:=BJ.o.self;rw[e,e3]at e2;injection e2 with e2;injection e2 with _ e2 _;exact absurd e2 d_)
   have r8:=ik BJ.o.row (Jo.o.block nb (kz BJ.o.row) nm);have v1:w8.cell? ⟨fs,0,none⟩=some (.slice (some ⟨nb,0,none⟩) N c2):=(by rw[CG.o];exact aa s8 0);have v2:=ae s8 0;have lfs8:=(wO s8).1;have Ql:N<=c2:=(by
    obtain⟨cur,_,e3,_⟩:=ew r8;rw[CG.o];exact e3)
   obtain⟨Yd,Ir⟩:=zh2 s8 r8;clear s8 r8 IL z1 z2;go_wp2_with (first
    |(at_builtin;refine wj rfl (.tmp 102) (.tmp 104) rfl nb c2 N F ad CG.o rfl (World.ownsRow.alloc Ir.o _) (.iface 163 (.pointer (some ⟨w4.heap.size+1,0,none⟩))) rfl w8.heap.size 1 rfl (ab _ _) o_ ?_;intro g9 c9 w9 Kn Gn Hl Wa;have s9:=(Gn.block fs t_ (by simpa using fun e=>nf (Eq.symm e))).trans ((wT _ _ _ o_).trans Yd.o);have v3:=aa s9 0;have v4:=ae s9 0;obtain⟨HS9,YJ,Yq,NH⟩:=zh4 s9 Gn Kn Hl;clear s9 Gn Kn Hl)
    |fail)
   go_ret;obtain⟨Dl,Dk⟩:=mS (y:=bB x up s) (up:=up) BJ.o rfl AE Is.o (by have h9:=Hu.o.1;rw[<-HL.o,Us.o]at h9;exact h9) Ys.o FE.o.1 FE.o.2.1 FE.o.2.2 QL.o To.o Jo.o YJ.o (by have h9:=Yq.o;have e9:ba (bB x up s).kind (w4.heap.size+1)= .iface 163 (.pointer (some ⟨w4.heap.size+1,0,none⟩)):=(by show ba x.kind _ =_;rw[By.o];rfl);rw[e9];exact h9) NH.o;rw[<-CG.o]at Dl Dk;have eL:(ar x.path).getLastD ⟨#[]⟩=s:=(by rw[<-HL.o];exact Us.o);refine⟨rfl,⟨g9,c9,upd ad N (w4.heap.size+1),upd mp N (w4.heap.size),(by rw[eL];exact Dl)⟩,?_⟩;exact(Jw.o.mono hB).trans ((Ia.o.mono (by have:=Jw.o.size;omega)).trans Dk)
 ·have zo:((x.kind:Nat):Int)=3:=o_;have t1:(((x.kind:Nat):Int)==2)=false:=(by rw[zo];decide);have t2:(((x.kind:Nat):Int)==1)=false:=(by rw[zo];decide);have By:=wP CW;clear CW zo;go_upto_region 21 with(fail);obtain⟨w7,zu⟩:=e_ (w4.alloc (.cells #[.int .u8 (x.kind:Int),.int .u16 (x.mode:Int),.int .u32 (x.uid:Int),.int .u32 (x.gid:Int),.int .i64 (x.n:Int),.int .i64 (N:Int),.pointer (some ⟨ad up,0,none⟩),.string s,.string x.to] 230));rw[<-zu];have ED:w7.heap[w4.heap.size]? =some (.cells #[.int .u8 (x.kind:Int),.int .u16 (x.mode:Int),.int .u32 (x.uid:Int),.int .u32 (x.gid:Int),.int .i64 (x.n:Int),.int .i64 (N:Int),.pointer (some ⟨ad up,0,none⟩),.string s,.string x.to] 230 (0,0)):=(by rw[zu];exact ab w4 _);have Hj:Below w4.heap.size w4 w7:=(by rw[zu];exact wR);clear zu;have TJ:=Hj.size;have Cn:Below w3.heap.size w3 w7:=Pw.o.trans (Hj.mono CU);have Hp:=Ob.o.below Cn;have Li:fo w7 (w4.heap.size) F.length (0) (ad up) (bB x up s):=⟨_,_,(by rw[<-CG.o];exact ED),(fun e=>absurd (show x.kind=2 from e) (by rw[By.o];decide)),(fun e=>absurd (show x.kind=1 from e) (by rw[By.o];decide)),(fun _ =>⟨rfl,rfl⟩)⟩;have WE:=(wO Ob.o.self).1;have VO:=kz Ob.o.row;have hV:(ba (ak (F++[bB x up s]) F.length) (upd ad F.length (w4.heap.size) F.length))= .iface 228 (.pointer (some ⟨w4.heap.size,0,none⟩)):=(by
   rw[af];have e:ak (F++[bB x up s]) F.length=x.kind:=(by
    unfold ak;rw[wY (wS _)];simp[bB])
   rw[e,By.o];rfl)
  have AZ:bL w7.drew (mp up) (aI F up) (fun j=>ba (ak (F++[bB x up s]) j) (upd ad F.length (w4.heap.size) j)):=((Hp.names up Is.o).congr (fun y hy=>(by
   have hl:=(bA hy).1;rw[cU _ hl,ah _ _ o_]))).same rfl
  obtain⟨w8,Ij,OA,Bb,Of⟩:=AZ.put s F.length Hy.o;have zW:Mod (fun b=>b=mp up) w7 w8:=Bb.undrew;have IL:(Instr.mapUpdate 166 (.map (some (mp up))) (.string s) (.iface 228 (.pointer (some ⟨w4.heap.size,0,none⟩)))).run prog w7.drew= .ok () w8:=(by rw[<-hV];exact Ij);have z1:w7.cell? ⟨ad up,8,none⟩=some (.map (some (mp up))):=Hp.mapCell Is.o;have z2:w7.cell? ⟨g,m,none⟩=some (.string s):=(Cn.cell (p:=⟨g,m,none⟩) yE).trans cg;obtain⟨BJ,Ys,To,Jo,Ia⟩:=zh5 Hp Li OA zW Cn;have QL:Hid ((bB x up s).kind=2->(∃yj,w7.heap[0]? =some (.map #[] yj))/\B<=0/\ ∀i,ak F i=2->0≠mp i):=wP (fun e=>absurd (show x.kind=2 from e) (by rw[By.o];decide));have FE:Hid (w4.heap.size≠fs/\w4.heap.size≠nb/\B<=w4.heap.size):=wP (by have:=Jw.o.size;exact⟨o_,o_,o_⟩);clear Hp Li OA zW Bb Cn Ij hV AZ Of;go_upto_region 21 with(fail);go_region
  all_goals
   have s8:=(Jo.o.block fs (by have:=Ia.o.size;omega) (fun e=>by
    obtain⟨es,yj,e1⟩:=BJ.o.mapBlock Is.o;have e2:=BJ.o.self;rw[e,e1]at e2;cases e2)).trans BJ.o.self
   have nm:nb≠mp up:=(fun e=>by
    obtain⟨es,yj,e1⟩:=BJ.o.mapBlock Is.o;obtain⟨cs,f,e2⟩:=BJ.o.rowBlock;rw[e,e1]at e2;cases e2)
   have nf:nb≠fs:=(fun e=>by
    obtain⟨cs,f,e2⟩:=BJ.o.rowBlock;have e3:=BJ.o.self;rw[e,e3]at e2;injection e2 with e2;injection e2 with _ e2 _;exact absurd e2 d_)
   have r8:=ik BJ.o.row (Jo.o.block nb (kz BJ.o.row) nm);have v1:w8.cell? ⟨fs,0,none⟩=some (.slice (some ⟨nb,0,none⟩) N c2):=(by rw[CG.o];exact aa s8 0);have v2:=ae s8 0;have lfs8:=(wO s8).1;have Ql:N<=c2:=(by
    obtain⟨cur,_,e3,_⟩:=ew r8;rw[CG.o];exact e3)
   obtain⟨Yd,Ir⟩:=zh2 s8 r8;clear s8 r8 IL z1 z2;go_wp2_with (first
    |(at_builtin;refine wj rfl (.tmp 102) (.tmp 104) rfl nb c2 N F ad CG.o rfl (World.ownsRow.alloc Ir.o _) (.iface 228 (.pointer (some ⟨w4.heap.size,0,none⟩))) rfl w8.heap.size 1 rfl (ab _ _) o_ ?_;intro g9 c9 w9 Kn Gn Hl Wa;have s9:=(Gn.block fs t_ (by simpa using fun e=>nf (Eq.symm e))).trans ((wT _ _ _ o_).trans Yd.o);have v3:=aa s9 0;have v4:=ae s9 0;obtain⟨HS9,YJ,Yq,NH⟩:=zh4 s9 Gn Kn Hl;clear s9 Gn Kn Hl)
    |fail)
   go_ret;obtain⟨Dl,Dk⟩:=mS (y:=bB x up s) (up:=up) BJ.o rfl AE Is.o (by have h9:=Hu.o.1;rw[<-HL.o,Us.o]at h9;exact h9) Ys.o FE.o.1 FE.o.2.1 FE.o.2.2 QL.o To.o Jo.o YJ.o (by have h9:=Yq.o;have e9:ba (bB x up s).kind (w4.heap.size)= .iface 228 (.pointer (some ⟨w4.heap.size,0,none⟩)):=(by show ba x.kind _ =_;rw[By.o];rfl);rw[e9];exact h9) NH.o;rw[<-CG.o]at Dl Dk;have eL:(ar x.path).getLastD ⟨#[]⟩=s:=(by rw[<-HL.o];exact Us.o);refine⟨rfl,⟨g9,c9,upd ad N (w4.heap.size),upd mp N (0),(by rw[eL];exact Dl)⟩,?_⟩;exact(Jw.o.mono hB).trans ((Ia.o.mono (by have:=Jw.o.size;omega)).trans Dk)
end
section
open Go.RowKit Go.Sort
structure wJ (w:World)(x:Ent)(A:Option Addr)(c:Nat):Prop where
 path:x.path.size<=1000000000
 link:x.to.size<=1000000000
 n:x.n<=9223372036854775807
 data:ap w A x.n x.dat
 ok:fd A x.n c
variable {w w':World}{x:Ent}
theorem wJ.below {A:Option Addr}{c:Nat}(h:wJ w x A c)(hb:Below w.heap.size w w'):wJ w' x A c:=
 ⟨h.path,h.link,h.n,h.data.kept hb,h.ok⟩
theorem vadd_any (B fs nb c2 c:Nat)(ad mp:Nat->Nat)(F:List Nd)(x:Ent)(A:Option Addr)(w:World)(h:FsIs w B fs nb c2 ad mp F)(hx:wJ w x A c)(hB:B<=w.heap.size)(hF:F.length<=1000):
  Calls prog 82 #[.pointer (some ⟨fs,0,none⟩),x.val A c] w (cu B fs F x w):=by
 by_cases hm:may x=0
 ·cases ha:atM F 0 (ar x.path)with
  |some j=>exact rY B fs nb c2 c j ad mp F x A w h hx.path hx.link hx.n hB hm hF ha
  |none=>
   cases DI:atM F 0 (ar x.path).dropLast with
   |none=>exact rZ B fs nb c2 c ad mp F x A w h hx.path hx.link hx.n hB hm hF ha DI
   |some up=>
    by_cases hk:ak F up=2
    ·exact tU B fs nb c2 c up ad mp F x A w h hx.path hx.link hx.n hB hm hF hx.data hx.ok ha DI hk
    ·exact pA B fs nb c2 c up ad mp F x A w h hx.path hx.link hx.n hB hm hF ha DI hk
 ·exact vadd_bad B fs nb c2 c ad mp F x A w h hx.path hx.link hx.n hB hm
def EntCells (w:World)(g j:Nat)(x:Ent)(A:Option Addr)(c:Nat):Prop:=
 w.cell? ⟨g,j*7,none⟩=some (.string x.path)/\w.cell? ⟨g,j*7+1,none⟩=some (.int .u8 (x.kind:Int))/\w.cell? ⟨g,j*7+2,none⟩=some (.int .u16 (x.mode:Int))/\w.cell? ⟨g,j*7+3,none⟩=some (.int .u32 (x.uid:Int))/\
 w.cell? ⟨g,j*7+4,none⟩=some (.int .u32 (x.gid:Int))/\w.cell? ⟨g,j*7+5,none⟩=some (.slice A x.n c)/\w.cell? ⟨g,j*7+6,none⟩=some (.string x.to)
def gH (w:World)(P:Option Addr)(l:List Ent):Prop:= ∀(j:Nat) (x:Ent),l[j]? =some x-> ∃g A c,P=some ⟨g,0,none⟩/\g<w.heap.size/\EntCells w g j x A c/\wJ w x A c
variable {l:List Ent}
theorem gH.below {P:Option Addr}(h:gH w P l)(hb:Below w.heap.size w w'):gH w' P l:=fun j x hx=>by
 obtain⟨g,A,c,h1,h2,⟨c0,c1,c2,c3,c4,c5,c6⟩,h4⟩:=h j x hx;have hc: ∀i,w'.cell? ⟨g,i,none⟩=w.cell? ⟨g,i,none⟩:=fun i=>hb.cell (p:=⟨g,i,none⟩) h2;refine⟨g,A,c,h1,wW h2 hb.size,⟨?_,?_,?_,?_,?_,?_,?_⟩,h4.below hb⟩
 all_goals(rw[hc];assumption)
variable {F:List Nd}{i:Nat}
theorem oA (h:(addM F x).1=0):newM F i (x::l)=newM (addM F x).2 (i+1) l:=by
 rw[newM,if_neg o_]
theorem fD (h:(addM F x).1≠0):newM F i (x::l)=((addM F x).1,(i:Int),F):=by
 rw[newM,if_pos h]
def dO (l:List Ent)(w:World)(e:Ending)(w':World):Prop:=
 if 64<l.length then e= .returned (.tuple #[.pointer none,.int .i64 15,.int .i64 (-1)])/\Below w.heap.size w w'
 else if(newM [aD] 0 l).1≠0 then e= .returned (.tuple #[.pointer none,.int .i64 (newM [aD] 0 l).1,.int .i64 (newM [aD] 0 l).2.1])/\Below w.heap.size w w'
 else∃fs nb c2 ad mp,e= .returned (.tuple #[.pointer (some ⟨fs,0,none⟩),.int .i64 0,.int .i64 0])/\FsIs w' w.heap.size fs nb c2 ad mp (newM [aD] 0 l).2.2/\Below w.heap.size w w'
theorem fs_root (w:World):FsIs ((((w.alloc (.map #[] 0)).alloc (.cells #[.int .u8 2,.int .u16 493,.int .u32 0,.int .u32 0,.int .i64 0,.int .i64 0,.pointer (some ⟨w.heap.size+1,0,none⟩),.string ⟨#[]⟩,.map (some w.heap.size)] 168)).alloc (.cells #[.iface 163 (.pointer (some ⟨w.heap.size+1,0,none⟩))] 189)).alloc (.cells #[.slice (some ⟨w.heap.size+1+1,0,none⟩) 1 1] 171))
  w.heap.size (w.heap.size+1+1+1) (w.heap.size+1+1) 1 (fun _ =>w.heap.size+1) (fun _ =>w.heap.size) [aD]:=by
 have k0:ak [aD] 0=2:=rfl;have ks: ∀i,ak [aD] i=2->i=0:=fun i h=>by have:=eD h o_;simp at this;exact this
 obtain⟨w1,Ad⟩:=e_ (w.alloc (.map #[] 0));obtain⟨w2,yl⟩:=e_ (w1.alloc (.cells #[.int .u8 2,.int .u16 493,.int .u32 0,.int .u32 0,.int .i64 0,.int .i64 0,.pointer (some ⟨w.heap.size+1,0,none⟩),.string ⟨#[]⟩,.map (some w.heap.size)] 168));obtain⟨w3,yU⟩:=e_ (w2.alloc (.cells #[.iface 163 (.pointer (some ⟨w.heap.size+1,0,none⟩))] 189));rw[<-Ad,<-yl,<-yU];have z1:w1.heap.size=w.heap.size+1:=(by rw[Ad];simp);have z2:w2.heap.size=w.heap.size+1+1:=(by rw[yl];simp[z1]);have z3:w3.heap.size=w.heap.size+1+1+1:=(by rw[yU];simp[z2]);have p0:w3.heap[w.heap.size]? =some (.map #[] 0):=by
  rw[yU,yl,Ad];exact(wT _ _ _ t_).trans ((wT _ _ _ s_).trans (ab _ _))
 have p1:w3.heap[w.heap.size+1]? =some (.cells #[.int .u8 2,.int .u16 493,.int .u32 0,.int .u32 0,.int .i64 0,.int .i64 0,.pointer (some ⟨w.heap.size+1,0,none⟩),.string ⟨#[]⟩,.map (some w.heap.size)] 168 (0,0)):=by
  have h9:=ab w1 (.cells #[.int .u8 2,.int .u16 493,.int .u32 0,.int .u32 0,.int .i64 0,.int .i64 0,.pointer (some ⟨w.heap.size+1,0,none⟩),.string ⟨#[]⟩,.map (some w.heap.size)] 168);rw[z1,<-yl]at h9;rw[yU];exact(wT _ _ _ o_).trans h9
 have p2:w3.heap[w.heap.size+1+1]? =some (.cells #[.iface 163 (.pointer (some ⟨w.heap.size+1,0,none⟩))] 189 (0,0)):=by
  have h9:=ab w2 (.cells #[.iface 163 (.pointer (some ⟨w.heap.size+1,0,none⟩))] 189);rw[z2,<-yU]at h9;exact h9
 have q: ∀b,b<w3.heap.size->(w3.alloc (.cells #[.slice (some ⟨w.heap.size+1+1,0,none⟩) 1 1] 171)).heap[b]? =w3.heap[b]? :=fun b hb=>wT _ _ _ hb;refine⟨FOk.start,?_,⟨rfl,.inr ⟨w.heap.size+1+1,1,_,rfl,xm _,(q _ o_).trans p2,wS _,d_,rfl,rfl⟩⟩,?_,?_,?_,o_,o_,fun _ _ =>o_,fun _ _ =>o_⟩
 ·rw[<-z3];exact ab _ _
 ·intro i y hy;cases i with
  |zero=>
   simp at hy;subst hy;exact⟨_,_,(q _ o_).trans p1,(fun _ =>⟨rfl,rfl⟩),(fun e=>by cases e),(fun e=>by cases e)⟩
  |succ i=>simp at hy
 ·intro i hi;obtain rfl:=ks i hi;exact⟨#[],0,(q _ o_).trans p0,⟨s_,s_,s_⟩,rfl⟩
 ·intro i j hi hj _;rw[ks i hi,ks j hj]
theorem qL (P:Option Addr)(n cap:Nat)(l:List Ent)(w:World)(hl:gH w P l)(hn:n=l.length)(yA:n<=cap)(Ag:n<=9223372036854775807):
  Calls prog 37 #[.slice P n cap] w (dO l w):=by
 by_cases CD:64<n
 ·have hv: ∀e w',(e= .returned (.tuple #[.pointer none,.int .i64 15,.int .i64 (-1)])/\Below w.heap.size w w')->dO l w e w':=fun e w' h=>by
   unfold dO;rw[if_pos o_];exact h
  have HV:=wP hv;clear hv hl hn;go_enter func37,ntmps37;go_wp2_with fail;go_ret3;exact HV.o _ _ ⟨rfl,xp _ _⟩
 have yD:=fs_root w;obtain⟨w0,xv⟩:=e_ (((((w.alloc (.map #[] 0)).alloc (.cells #[.int .u8 2,.int .u16 493,.int .u32 0,.int .u32 0,.int .i64 0,.int .i64 0,.pointer (some ⟨w.heap.size+1,0,none⟩),.string ⟨#[]⟩,.map (some w.heap.size)] 168)).alloc (.cells #[.iface 163 (.pointer (some ⟨w.heap.size+1,0,none⟩))] 189)).alloc (.cells #[.slice (some ⟨w.heap.size+1+1,0,none⟩) 1 1] 171)));rw[<-xv]at yD;have xz:Below w.heap.size w w0:=by
  rw[xv];exact((wR.alloc s_ _).alloc t_ _).alloc t_ _
 obtain⟨xU,yd,Fy,Gh,Jr⟩:=zh5 xv xz yD hn hl;have EC:= @run_makeMap prog;clear xz xv yD hn hl;go_enter func37,ntmps37;go_upto_region 6 with(fail);rw[<-xU.o];clear EC;go_wp2_with fail;go_loopw [30] (fun i wr=> ∃k F nb c2 ad mp,k<=n/\i= .int .i64 ((k:Nat):Int)/\FsIs wr w.heap.size (w.heap.size+1+1+1) nb c2 ad mp F/\newM [aD] 0 l=newM F k (l.drop k)/\F.length=k+1/\Below w.heap.size w wr) (fun i _ =>n-(intOf i).toNat)
 case atStart=>exact⟨0,[aD],_,_,_,_,o_,rfl,Fy.o,rfl,rfl,yd.o⟩
 case round=>
  obtain⟨k,F,nb,c2,ad,mp,hk,rfl,hF,hnew,hlen,zI⟩:=hrel;obtain⟨HF,Ai,DD,AD⟩:=zh4 hF hnew hlen zI;have Ri:=zI.size;clear hF hnew hlen zI;by_cases xw:k<n
  ·obtain⟨x,hx⟩: ∃x,l[k]? =some x:=⟨_,wV (by rw[<-Gh.o];exact xw)⟩;have zb:l.drop k=x::l.drop (k+1):=(List.drop_eq_getElem_cons (by rw[<-Gh.o];exact xw)).trans (by
    obtain⟨h1,h2⟩:=List.getElem?_eq_some_iff.1 hx;rw[h2])
   obtain⟨g,A,c,rfl,hg,⟨c0,c1,c2',c3,c4,c5,c6⟩,hE⟩:=(Jr.o.below AD.o) k x hx;have Xz:=HF.o.below ((xp wr.heap.size wr).alloc (wS _) (.cells #[.string x.path,.int .u8 (x.kind:Int),.int .u16 (x.mode:Int),.int .u32 (x.uid:Int),.int .u32 (x.gid:Int),.slice A x.n c,.string x.to] 93));have yP:=hE.below ((xp wr.heap.size wr).alloc (wS _) (.cells #[.string x.path,.int .u8 (x.kind:Int),.int .u16 (x.mode:Int),.int .u32 (x.uid:Int),.int .u32 (x.gid:Int),.slice A x.n c,.string x.to] 93));have zA:=vadd_any w.heap.size (w.heap.size+1+1+1) nb c2 c ad mp F x A _ Xz yP t_ (by have:=DD.o;omega);unfold Ent.val cu at zA;obtain⟨r,hr⟩:=e_ ((addM F x).1);rw[<-hr]at zA;obtain⟨Zh,Ju⟩:=zh2 zA zb;have zM:Below w.heap.size w (wr.alloc (.cells #[.string x.path,.int .u8 (x.kind:Int),.int .u16 (x.mode:Int),.int .u32 (x.uid:Int),.int .u32 (x.gid:Int),.slice A x.n c,.string x.to] 93)):=AD.o.alloc Ri _;have FE:=wP zM;by_cases DR:r=0
   ·have TR:(addM F x).1=0:=(by rw[<-hr];exact DR);have Df:=(nz HF.o.ok TR).2.1;obtain⟨AJ,Yw⟩:=zh2 (show newM [aD] 0 l=newM (addM F x).2 (k+1) (l.drop (k+1)) by rw[Ai.o,Ju.o,oA TR]) (show(addM F x).2.length=k+1+1 by rw[Df,DD.o]);subst DR;clear hr TR zA zb hx hE Xz yP zM Df;go_wp2_with (first
     |(go_at_call 82;refine(Zh.o).mono ?_;rintro e w2⟨rfl,⟨nb2,c22,ad2,mp2,Xy⟩,xx⟩;obtain⟨HF2,yW⟩:=zh2 Xy (FE.o.trans xx);clear Xy xx)
     |fail)
    go_roundw
    case rel=>exact⟨k+1,_,nb2,c22,ad2,mp2,o_,by go_num,HF2.o,AJ.o,Yw.o,yW.o⟩
    case measure=>simp[intOf];omega
   ·have TR:(addM F x).1≠0:=(by rw[<-hr];exact DR);have xA:(r != 0)=true:=(by rw[bne_iff_ne];exact DR);obtain⟨AJ,Gf⟩:=zh2 (show newM [aD] 0 l=(r,(k:Int),F) by rw[Ai.o,Ju.o,fD TR,hr]) DR;clear hr TR zA zb hx hE Xz yP zM DR;go_wp2_with (first
     |(go_at_call 82;refine(Zh.o).mono ?_;rintro e w2⟨rfl,_,xx⟩;have yW:=wP (FE.o.trans xx);clear xx)
     |fail)
    go_ret3;unfold dO;rw[if_neg (by rw[<-Gh.o];exact CD),AJ.o,if_pos Gf.o];exact⟨rfl,yW.o⟩
  ·obtain rfl:k=n:=o_;have AJ:=wP (show newM [aD] 0 l=(0,0,F) by rw[Ai.o,List.drop_of_length_le (by rw[Gh.o];exact wS _)];rfl);go_wp2_with fail;go_ret3;unfold dO;rw[if_neg (by rw[<-Gh.o];exact CD),AJ.o,if_neg s_];exact⟨_,nb,c2,ad,mp,rfl,HF.o,AD.o⟩
end
section
open Go.RowKit Go.Sort
theorem fnode_no (B fs nb c2:Nat)(ad mp:Nat->Nat)(F:List Nd)(ino:Int)(w:World)(h:FsIs w B fs nb c2 ad mp F)(hi:ino<0\/(F.length:Int)<=ino):
  Calls prog 106 #[.pointer (some ⟨fs,0,none⟩),.int .i64 ino] w fun e w'=>e= .returned .nilIface/\w'=w:=by
 have c0:w.cell? ⟨fs,0,none⟩=some (.slice (some ⟨nb,0,none⟩) F.length c2):=aa h.self 0;obtain⟨N,hN⟩:=e_ F.length;rw[<-hN]at c0 hi;clear h hN;rcases hi with hi|hi
 ·go_enter func106,ntmps106;go_wp2_with fail;go_ret;exact⟨rfl,rfl⟩
 ·have zx: ¬ino<0:=o_;go_enter func106,ntmps106;go_wp2_with fail;go_ret;exact⟨rfl,rfl⟩
theorem kW (B fs nb c2 i:Nat)(ad mp:Nat->Nat)(F:List Nd)(w:World)(h:FsIs w B fs nb c2 ad mp F)(hi:i<F.length):
  Calls prog 106 #[.pointer (some ⟨fs,0,none⟩),.int .i64 (i:Int)] w fun e w'=>e= .returned (.iface (tyOf (ak F i)) (.pointer (some ⟨ad i,0,none⟩)))/\w'=w:=by
 have c0:w.cell? ⟨fs,0,none⟩=some (.slice (some ⟨nb,0,none⟩) F.length c2):=aa h.self 0;have c1:w.cell? ⟨nb,i,none⟩=some (.iface (tyOf (ak F i)) (.pointer (some ⟨ad i,0,none⟩))):=h.cell hi;obtain⟨v,hv⟩:=e_ (Value.iface (tyOf (ak F i)) (.pointer (some ⟨ad i,0,none⟩)));rw[<-hv]at c1⊢;obtain⟨N,hN⟩:=e_ F.length;rw[<-hN]at c0 hi;have Bn:(i:Int)<(N:Int):=o_;clear h hN hv;go_enter func106,ntmps106;go_wp2_with fail;go_ret;exact⟨rfl,rfl⟩
theorem tL (k a:Nat)(w:World)(n:Nat)(hn:n=prog.types.size+Made.depth):(method n (tyOf k) (.pointer (some ⟨a,0,none⟩)) "hostel/vfs.about").run prog w= .ok (229,.pointer (some ⟨a,0,none⟩)) w:=by
 subst hn;unfold tyOf;split
 ·kernel_rfl
 ·split<;>kernel_rfl
def metaV (y:Nd):Value:= .agg #[.int .u8 (y.kind:Int),.int .u16 (y.mode:Int),.int .u32 (y.uid:Int),.int .u32 (y.gid:Int),.int .i64 (y.n:Int)]
theorem iz (B fs nb c2 i:Nat)(ad mp:Nat->Nat)(F:List Nd)(y:Nd)(w:World)(h:FsIs w B fs nb c2 ad mp F)(hy:F[i]? =some y):
  Calls prog 64 #[.pointer (some ⟨fs,0,none⟩),.int .i64 (i:Int)] w fun e w'=>e= .returned (.tuple #[metaV y,.int .i64 0])/\Below w.heap.size w w':=by
 obtain⟨w0,xv⟩:=e_ (w.alloc (.cells #[.int .u8 0,.int .u16 0,.int .u32 0,.int .u32 0,.int .i64 0] 103));have xz:Below w.heap.size w w0:=(by rw[xv];exact wR);have hM:w0.heap[w.heap.size]? =some (.cells #[.int .u8 0,.int .u16 0,.int .u32 0,.int .u32 0,.int .i64 0] 103 (0,0)):=(by rw[xv];exact ab w _);have hF:=h.below xz;have Hb:=(List.getElem?_eq_some_iff.1 hy).1;obtain⟨T,tail,hN,_⟩:=hF.node i y hy;obtain⟨a,ha⟩:=e_ (ad i);rw[<-ha]at hN;have x0:w0.cell? ⟨a,0,none⟩=some (.int .u8 (y.kind:Int)):=aa hN 0;have x1:w0.cell? ⟨a,1,none⟩=some (.int .u16 (y.mode:Int)):=aa hN 1;have x2:w0.cell? ⟨a,2,none⟩=some (.int .u32 (y.uid:Int)):=aa hN 2;have x3:w0.cell? ⟨a,3,none⟩=some (.int .u32 (y.gid:Int)):=aa hN 3;have x4:w0.cell? ⟨a,4,none⟩=some (.int .i64 (y.n:Int)):=aa hN 4;have y0:w0.cell? ⟨w.heap.size,0,none⟩=some (.int .u8 0):=aa hM 0;have y1:w0.cell? ⟨w.heap.size,1,none⟩=some (.int .u16 0):=aa hM 1;have y2:w0.cell? ⟨w.heap.size,2,none⟩=some (.int .u32 0):=aa hM 2;have y3:w0.cell? ⟨w.heap.size,3,none⟩=some (.int .u32 0):=aa hM 3;have y4:w0.cell? ⟨w.heap.size,4,none⟩=some (.int .i64 0):=aa hM 4;have z0:=ae hM 0;have z1:=ae hM 1;have z2:=ae hM 2;have z3:=ae hM 3;have z4:=ae hM 4;have xw:=(wO hM).1;have Cg: ∀W,W=w0->Calls prog 106 #[.pointer (some ⟨fs,0,none⟩),.int .i64 (i:Int)] W fun e w'=>e= .returned (.iface (tyOf (ak F i)) (.pointer (some ⟨a,0,none⟩)))/\W=w':=fun W hW=>by
  subst hW;rw[ha];exact(kW B fs nb c2 i ad mp F _ hF Hb).mono fun e w' ⟨h1,h2⟩=>⟨h1,h2.symm⟩
 obtain⟨k,hk⟩:=e_ (ak F i);rw[<-hk]at Cg;obtain⟨Hv,xU⟩:=zh2 Cg xv;clear h hF xv hM hN Cg ha hk hy Hb;go_enter func64,ntmps64;go_upto_region 1 with(fail);rw[<-xU.o];go_wp2_with (first
  |(go_at_call 106;refine(Hv.o _ rfl).mono ?_;rintro e w1⟨rfl,rfl⟩)
  |fail)
 rw[tL _ _ _ _ k_];simp only[Result.andThen];rw[qp,Oper.upon_enter];refine(ws a _).mono ?_;rintro e w2⟨rfl,rfl⟩;go_wp2_with fail;have xu:w.heap.size<=w.heap.size:=wS _;exact bodyPost_ret (v:= .tuple #[.agg #[.int .u8 (y.kind:Int),.int .u16 (y.mode:Int),.int .u32 (y.uid:Int),.int .u32 (y.gid:Int),.int .i64 (y.n:Int)],.int .i64 0]) (by simp[results,results64,go_sem,xw,y0,y1,y2,y3,y4,z0,z1,z2,z3,z4]) rfl ⟨rfl,((((xz.setCell xu _).setCell xu _).setCell xu _).setCell xu _).setCell xu _⟩
theorem rE (B fs nb c2:Nat)(ad mp:Nat->Nat)(F:List Nd)(ino:Int)(w:World)(h:FsIs w B fs nb c2 ad mp F)(hi:ino<0\/(F.length:Int)<=ino):
  Calls prog 64 #[.pointer (some ⟨fs,0,none⟩),.int .i64 ino] w fun e w'=>e= .returned (.tuple #[.agg #[.int .u8 0,.int .u16 0,.int .u32 0,.int .u32 0,.int .i64 0],.int .i64 3])/\Below w.heap.size w w':=by
 obtain⟨w0,xv⟩:=e_ (w.alloc (.cells #[.int .u8 0,.int .u16 0,.int .u32 0,.int .u32 0,.int .i64 0] 103));have xz:Below w.heap.size w w0:=(by rw[xv];exact wR);have hM:w0.heap[w.heap.size]? =some (.cells #[.int .u8 0,.int .u16 0,.int .u32 0,.int .u32 0,.int .i64 0] 103 (0,0)):=(by rw[xv];exact ab w _);have hF:=h.below xz;have y0:w0.cell? ⟨w.heap.size,0,none⟩=some (.int .u8 0):=aa hM 0;have y1:w0.cell? ⟨w.heap.size,1,none⟩=some (.int .u16 0):=aa hM 1;have y2:w0.cell? ⟨w.heap.size,2,none⟩=some (.int .u32 0):=aa hM 2;have y3:w0.cell? ⟨w.heap.size,3,none⟩=some (.int .u32 0):=aa hM 3;have y4:w0.cell? ⟨w.heap.size,4,none⟩=some (.int .i64 0):=aa hM 4;have z0:=ae hM 0;have z1:=ae hM 1;have z2:=ae hM 2;have z3:=ae hM 3;have z4:=ae hM 4;have xw:=(wO hM).1;have Cg: ∀W,W=w0->Calls prog 106 #[.pointer (some ⟨fs,0,none⟩),.int .i64 ino] W fun e w'=>e= .returned .nilIface/\W=w':=fun W hW=>by
  subst hW;exact(fnode_no B fs nb c2 ad mp F ino _ hF hi).mono fun e w' ⟨h1,h2⟩=>⟨h1,h2.symm⟩
 obtain⟨Hv,xU⟩:=zh2 Cg xv;clear h hF xv hM Cg hi;go_enter func64,ntmps64;go_upto_region 1 with(fail);rw[<-xU.o];go_wp2_with (first
  |(go_at_call 106;refine(Hv.o _ rfl).mono ?_;rintro e w1⟨rfl,rfl⟩)
  |fail)
 have xu:w.heap.size<=w.heap.size:=wS _;exact bodyPost_ret (v:= .tuple #[.agg #[.int .u8 0,.int .u16 0,.int .u32 0,.int .u32 0,.int .i64 0],.int .i64 3]) (by simp[results,results64,go_sem,xw,y0,y1,y2,y3,y4,z0,z1,z2,z3,z4]) rfl ⟨rfl,((((xz.setCell xu _).setCell xu _).setCell xu _).setCell xu _).setCell xu _⟩
end
section
open Go.RowKit Go.Sort
theorem wg (v:Value)(w:World):(Instr.typeAssert (.iface 163 v) 189 225 true).run prog w= .ok (.tuple #[.pointer none,.bool false]) w:=k_
theorem we (v:Value)(w:World):(Instr.typeAssert (.iface 228 v) 189 225 true).run prog w= .ok (.tuple #[.pointer none,.bool false]) w:=k_
theorem jD (k a:Nat)(w:World):(Instr.typeAssert (.iface (tyOf k) (.pointer (some ⟨a,0,none⟩))) 189 225 true).run prog w= .ok (.tuple #[if k=1 then .pointer (some ⟨a,0,none⟩)else .pointer none,.bool (decide (k=1))]) w:=by
 unfold tyOf;by_cases h2:k=2
 ·subst h2;exact wg _ w
 ·rw[if_neg h2];by_cases h1:k=1
  ·subst h1;exact qy _ w
  ·rw[if_neg h1,if_neg h1,xg h1];exact we _ w
def jJ (F:List Nd)(ino:Int)(off:Nat):Int×Nat×(Nat->Nat):=
 if ino<0\/(F.length:Int)<=ino then(3,0,fun _ =>0)
 else match F[ino.toNat]? with
  |none=>(3,0,fun _ =>0)
  |some y=>if y.kind=2 then(9,0,fun _ =>0)else if y.kind=1 then(0,min 4096 (y.n-off),fun i=>y.dat (off+i))else(1,0,fun _ =>0)
def fe (w:World)(r:Int×Nat×(Nat->Nat))(e:Ending)(w':World):Prop:=
 ∃A cap,e= .returned (.tuple #[.slice A r.2.1 cap,.int .i64 r.1])/\ap w' A r.2.1 r.2.2/\(∀x,A=some x->0<r.2.1->w.heap.size<=x.block)/\Below w.heap.size w w'/\OwnB w' w.heap.size A cap r.2.1 r.2.2
theorem jQ (w:World)(base:Nat)(d:Nat->Nat):OwnB w base none 0 0 d:=⟨rfl,.inl ⟨rfl,rfl⟩⟩
variable {w:World}
theorem uV {base:Nat}(d:Nat->Nat)(h:base<=w.heap.size):OwnB (w.alloc (.cells #[] 5)) base (some ⟨w.heap.size,0,none⟩) 0 0 d:=((OwnB.none_made w).lower h).congr fun i hi=>absurd hi o_
theorem fread_no (B fs nb c2 off:Nat)(ad mp:Nat->Nat)(F:List Nd)(ino:Int)(w:World)(h:FsIs w B fs nb c2 ad mp F)(hi:ino<0\/(F.length:Int)<=ino):
  Calls prog 233 #[.pointer (some ⟨fs,0,none⟩),.int .i64 ino,.int .i64 (off:Int),.int .i64 4096] w (fe w (3,0,fun _ =>0)):=by
 have hm:=rE B fs nb c2 ad mp F ino w h hi;have HM:=wP hm;clear hm h hi;go_enter func233,ntmps233;go_wp2_with fail;refine(HM.o).mono ?_;rintro e w1⟨rfl,xu⟩;go_wp2_with fail;go_ret2;exact⟨none,0,rfl,(fun h=>by cases h),(fun x hx=>by cases hx),xu.trans (wR.mono xu.size),jQ _ _ _⟩
theorem vv (B fs nb c2 off i:Nat)(ad mp:Nat->Nat)(F:List Nd)(y:Nd)(w:World)(h:FsIs w B fs nb c2 ad mp F)(hy:F[i]? =some y)(hk:y.kind=2):
  Calls prog 233 #[.pointer (some ⟨fs,0,none⟩),.int .i64 (i:Int),.int .i64 (off:Int),.int .i64 4096] w (fe w (9,0,fun _ =>0)):=by
 have hm:=iz B fs nb c2 i ad mp F y w h hy;unfold metaV at hm;rw[hk]at hm;have HM:=wP hm;clear hm h hy hk;go_enter func233,ntmps233;go_wp2_with fail;refine(HM.o).mono ?_;rintro e w1⟨rfl,xu⟩;go_wp2_with fail;go_ret2;exact⟨none,0,rfl,(fun h=>by cases h),(fun x hx=>by cases hx),xu.trans (wR.mono xu.size),jQ _ _ _⟩
theorem tj (B fs nb c2 off i:Nat)(ad mp:Nat->Nat)(F:List Nd)(y:Nd)(w:World)(h:FsIs w B fs nb c2 ad mp F)(hy:F[i]? =some y)(hk:y.kind=3):
  Calls prog 233 #[.pointer (some ⟨fs,0,none⟩),.int .i64 (i:Int),.int .i64 (off:Int),.int .i64 4096] w (fe w (1,0,fun _ =>0)):=by
 have Hb:=(List.getElem?_eq_some_iff.1 hy).1;have hm:=iz B fs nb c2 i ad mp F y w h hy;unfold metaV at hm;rw[hk]at hm;have La:=gQ hy;rw[hk]at La;have Zz:=fun W=>jD 3 (ad i) W;have Ii: ∀W,Below w.heap.size w W->Calls prog 106 #[.pointer (some ⟨fs,0,none⟩),.int .i64 (i:Int)] W fun e w'=>e= .returned (.iface (tyOf 3) (.pointer (some ⟨ad i,0,none⟩)))/\w'=W:=fun W hW=>by
  have h9:=kW B fs nb c2 i ad mp F W (h.below hW) Hb;rw[La]at h9;exact h9
 obtain⟨HM,Hv⟩:=zh2 hm Ii;rw[if_neg d_,xg d_]at Zz;clear hm h hy hk Hb Ii La;go_enter func233,ntmps233;go_wp2_with fail;refine(HM.o).mono ?_;rintro e w1⟨rfl,xu⟩;have KG:Below w.heap.size w (w1.alloc (.cells #[.int .u8 3,.int .u16 (y.mode:Int),.int .u32 (y.uid:Int),.int .u32 (y.gid:Int),.int .i64 (y.n:Int)] 103)):=xu.trans (wR.mono xu.size);have Gy:=wP KG;clear KG;go_wp2_with (first
  |(go_at_call 106;refine(Hv.o _ Gy.o).mono ?_;rintro e w3⟨rfl,rfl⟩)
  |fail)
 go_ret2;exact⟨none,0,rfl,(fun h=>by cases h),(fun x hx=>by cases hx),Gy.o,jQ _ _ _⟩
theorem tm (B fs nb c2 off i:Nat)(ad mp:Nat->Nat)(F:List Nd)(y:Nd)(w:World)(h:FsIs w B fs nb c2 ad mp F)(hy:F[i]? =some y)(hk:y.kind=1)(hp:off<=65536):
  Calls prog 233 #[.pointer (some ⟨fs,0,none⟩),.int .i64 (i:Int),.int .i64 (off:Int),.int .i64 4096] w (fe w (0,min 4096 (y.n-off),fun j=>y.dat (off+j))):=by
 have Hb:=(List.getElem?_eq_some_iff.1 hy).1;have hm:=iz B fs nb c2 i ad mp F y w h hy;unfold metaV at hm;rw[hk]at hm;have La:=gQ hy;rw[hk]at La;obtain⟨a,ha⟩:=e_ (ad i);have Zz:=fun W=>jD 1 a W;have Ii: ∀W,Below w.heap.size w W->Calls prog 106 #[.pointer (some ⟨fs,0,none⟩),.int .i64 (i:Int)] W fun e w'=>e= .returned (.iface (tyOf 1) (.pointer (some ⟨a,0,none⟩)))/\w'=W:=fun W hW=>by
  have h9:=kW B fs nb c2 i ad mp F W (h.below hW) Hb;rw[La,<-ha]at h9;exact h9
 have hn:=(h.ok.each i y hy).few;obtain⟨n,Zt⟩:=e_ y.n;obtain⟨T,tail,hN,_,h1,_⟩:=h.node i y hy;obtain⟨_,A,cd,rfl,hA,hAg,FQ,Ru⟩:=h1 hk;rw[<-ha,<-Zt]at hN;rw[<-Zt]at hm hA FQ Ru hn⊢;rw[if_pos rfl,xh rfl]at Zz;have Dz: ∀x,A=some x->x.block<w.heap.size:=fun x hx=>by
  obtain⟨g,cs,f,e,hg⟩:=hAg x hx;subst e;exact(wO hg).1
 have hau:a<w.heap.size:=(wO hN).1;have yF:A=none\/ ∃g,A=some ⟨g,0,none⟩:=by
  cases A with
  |none=>exact .inl rfl
  |some x=>obtain⟨g,cs,f,e,hg⟩:=hAg x rfl;exact .inr ⟨g,by rw[e]⟩
 obtain⟨HM,Hv,HN,HA,TH⟩:=zh5 hm Ii hN hA Dz;clear hm h hy hk Hb Ii La hN hA Dz h1 hAg ha Zt;by_cases Ag:n<=off
 ·have i2:min (off:Int) (n:Int)=(n:Int):=o_;have i3:min (4096:Int) 0=0:=o_;have zh:min 4096 (n-off)=0:=o_;rw[zh];unfold fe;clear zh;go_enter func233,ntmps233;go_wp2_with fail;refine(HM.o).mono ?_;rintro e w1⟨rfl,xu⟩;obtain⟨w2,yl⟩:=e_ (w1.alloc (.cells #[.int .u8 1,.int .u16 (y.mode:Int),.int .u32 (y.uid:Int),.int .u32 (y.gid:Int),.int .i64 (n:Int)] 103));have xx:Below w1.heap.size w1 w2:=(by rw[yl];exact wR);have hM:w2.heap[w1.heap.size]? =some (.cells #[.int .u8 1,.int .u16 (y.mode:Int),.int .u32 (y.uid:Int),.int .u32 (y.gid:Int),.int .i64 (n:Int)] 103 (0,0)):=(by rw[yl];exact ab _ _);have KG:Below w.heap.size w w2:=xu.trans (xx.mono xu.size);have x8:w2.cell? ⟨a,8,none⟩=some (.slice _ n cd):=(KG.cell (p:=⟨a,8,none⟩) hau).trans (aa HN.o 8);have m0:w2.cell? ⟨w1.heap.size,0,none⟩=some (.int .u8 1):=aa hM 0;obtain⟨Gc,Gy⟩:=zh2 yl KG;clear yl hM xx KG;rcases yF with rfl|⟨g,rfl⟩
  ·have Kq:=Ru rfl;have x9:w2.cell? ⟨a,8,none⟩=some (.slice none 0 0):=(by rw[x8,Kq.1,Kq.2]);have i5:min (off:Int) 0=0:=o_;clear x8 Kq i2;go_upto_region 2 with(fail);rw[<-Gc.o];go_wp2_with (first
    |(go_at_call 106;refine(Hv.o _ Gy.o).mono ?_;rintro e w3⟨rfl,rfl⟩)
    |fail)
   go_region_held3 (fun w'=>w'.cell? ⟨a,8,none⟩=some (.slice none 0 0)) (go_keep) (fail);go_wp2_with fail
   all_goals
    refine(iH _).mono ?_;rintro e w5⟨rfl,rfl⟩;go_wp2_with fail;go_ret2;exact⟨none,0,rfl,fun h=>absurd h o_,fun x hx=>(by cases hx),Gy.o.trans (((xp _ _).drew).mono Gy.o.size),jQ _ _ _⟩
  ·go_upto_region 2 with(fail);rw[<-Gc.o];go_wp2_with (first
    |(go_at_call 106;refine(Hv.o _ Gy.o).mono ?_;rintro e w3⟨rfl,rfl⟩)
    |fail)
   go_region_held3 (fun w'=>w'.cell? ⟨a,8,none⟩=some (.slice (some ⟨g,0,none⟩) n cd)) (go_keep) (fail);go_wp2_with fail
   all_goals
    refine(lh _ _ _).mono ?_;rintro e w5⟨rfl,rfl⟩;go_wp2_with fail;go_ret2;exact⟨_,0,rfl,fun h=>absurd h o_,fun x hx h=>absurd h o_,Gy.o.trans (((xp _ _).drew.trans wR).mono Gy.o.size),uV _ Gy.o.size⟩
 ·obtain⟨k,hk⟩: ∃k:Nat,k=min 4096 (n-off):=⟨_,rfl⟩;obtain⟨g,rfl⟩: ∃g,A=some ⟨g,0,none⟩:=by
   rcases yF with rfl|h9
   ·have:=Ru rfl;omega
   ·exact h9
  have zh:0<k:=o_;have hkf:k<=4096:=o_;have i0:(off:Int)<=(n:Int):=o_;have i1:off<cd:=o_;have i2:min (off:Int) (n:Int)=(off:Int):=o_;have i3:min (4096:Int) ((n-off:Nat):Int)=(k:Int):=o_;have i4:(k:Int)<=((n-off:Nat):Int):=o_;unfold fe;rw[<-hk];go_enter func233,ntmps233;go_wp2_with fail;refine(HM.o).mono ?_;rintro e w1⟨rfl,xu⟩;obtain⟨w2,yl⟩:=e_ (w1.alloc (.cells #[.int .u8 1,.int .u16 (y.mode:Int),.int .u32 (y.uid:Int),.int .u32 (y.gid:Int),.int .i64 (n:Int)] 103));have xx:Below w1.heap.size w1 w2:=(by rw[yl];exact wR);have hM:w2.heap[w1.heap.size]? =some (.cells #[.int .u8 1,.int .u16 (y.mode:Int),.int .u32 (y.uid:Int),.int .u32 (y.gid:Int),.int .i64 (n:Int)] 103 (0,0)):=(by rw[yl];exact ab _ _);have KG:Below w.heap.size w w2:=xu.trans (xx.mono xu.size);have x8:w2.cell? ⟨a,8,none⟩=some (.slice _ n cd):=(KG.cell (p:=⟨a,8,none⟩) hau).trans (aa HN.o 8);have m0:w2.cell? ⟨w1.heap.size,0,none⟩=some (.int .u8 1):=aa hM 0;obtain⟨Gc,Gy⟩:=zh2 yl KG;clear yl hM xx KG;have JJ:g<w.heap.size:=TH.o _ rfl;have Wr:g<w2.heap.size:=wW JJ Gy.o.size;have Hr:ap w2 (some ⟨g,off,none⟩) k (fun j=>y.dat (off+j)):=by
   intro _;refine⟨_,rfl,fun j hj=>?_⟩;obtain⟨x,h1,h2⟩:=(HA.o.below Gy.o TH.o) o_;injection h1 with h1;subst h1;have h3:=h2 (off+j) o_;rw[Addr.add_mid]at h3⊢;rw[Nat.zero_add]at h3;exact h3
  have TI:=wP Hr;clear Hr hk yF;go_upto_region 2 with(fail);rw[<-Gc.o];go_wp2_with (first
   |(go_at_call 106;refine(Hv.o _ Gy.o).mono ?_;rintro e w3⟨rfl,rfl⟩)
   |fail)
  go_region_held3 (fun w'=>w'.cell? ⟨a,8,none⟩=some (.slice (some ⟨g,0,none⟩) n cd)) (go_keep) (fail);go_wp2_with fail;have Qe:Below w3.heap.size w3 w3.drew:=(xp _ _).drew;refine(li k (cd-off) ⟨g,off,none⟩ (fun j=>y.dat (off+j)) _ zh o_ (TI.o.below Qe (fun x hx=>by injection hx with hx;subst hx;exact Wr)) Wr).mono ?_;rintro e w5⟨g5,Bj,rfl,zE,zJ⟩;have BS:=zE.form.1;have hg5':w.heap.size<=g5:=xn Gy.o.size BS;have Dr:=wP zE;clear zE BS;go_wp2_with fail;go_ret2;exact⟨_,Bj,rfl,Dr.o.v,(fun x hx _ =>by injection hx with hx;subst hx;exact hg5'),Gy.o.trans ((Qe.trans zJ).mono Gy.o.size),Dr.o.lower Gy.o.size⟩
theorem vw (B fs nb c2 off:Nat)(ad mp:Nat->Nat)(F:List Nd)(ino:Int)(w:World)(h:FsIs w B fs nb c2 ad mp F)(hp:off<=65536):
  Calls prog 233 #[.pointer (some ⟨fs,0,none⟩),.int .i64 ino,.int .i64 (off:Int),.int .i64 4096] w (fe w (jJ F ino off)):=by
 unfold jJ;by_cases hi:ino<0\/(F.length:Int)<=ino
 ·rw[if_pos hi];exact fread_no B fs nb c2 off ad mp F ino w h hi
 ·rw[if_neg hi];obtain⟨i,rfl⟩: ∃i:Nat,ino=(i:Int):=⟨ino.toNat,o_⟩;have Hb:i<F.length:=o_;rw[Int.toNat_natCast];obtain⟨y,hy,_⟩:=lP Hb;rw[hy];have hk:=(h.ok.each i y hy).kind;simp only;rcases(by omega:y.kind=2\/y.kind=1\/y.kind=3)with e|e|e
  ·rw[if_pos e];exact vv B fs nb c2 off i ad mp F y w h hy e
  ·rw[if_neg o_,if_pos e];exact tm B fs nb c2 off i ad mp F y w h hy e hp
  ·rw[if_neg o_,if_neg o_];exact tj B fs nb c2 off i ad mp F y w h hy e
theorem read_is {B fs nb c2 off:Nat}{ad mp:Nat->Nat}{F:List Nd}{ino:Int}(h:FsIs w B fs nb c2 ad mp F)(hp:off<=65536):pj w fs ino (off:Int) (jJ F ino off).1 (jJ F ino off).2.1 (jJ F ino off).2.2:=
 (vw B fs nb c2 off ad mp F ino w h hp).mono fun e w' ⟨A,cap,h1,h2,h3,h4,_⟩=>⟨A,cap,h1,h2,h3,h4⟩
end
section
def Even (p:Pool)(L:List Slot)(hold:Nat->Nat):Prop:= ∀f,f<p.n->p.cnt f=ax L f+hold f
structure Took8 (p:Pool)(L:List Slot)(hold:Nat->Nat)(f:Nat)(p':Pool)(L':List Slot):Prop where
 even:Even p' L' (upd hold f 1)
 lt:f<p.n
 n:p'.n=p.n
 none:hold f=0
 zero:p'.dat f=fun _ =>0
 dat: ∀x,x≠f->p'.dat x=p.dat x
 sole:Sole L'
 one:p'.cnt f=1
 cnt: ∀x,x≠f->p'.cnt x=p.cnt x
 noSlot:ax L' f=0
 sub:L'.Sublist L
 keep: ∀s∈L,2<=p.cnt s.frame->s∈L'
variable {p p':Pool}{L L':List Slot}{hold:Nat->Nat}{f:Nat}
theorem Even.take (h:Even p L hold)(hS:Sole L)(ht:aw p L 0 f p' L'):Took8 p L hold f p' L':=by
 have FI:=ht.sub;cases ht with
 |free _ hl=>
  obtain⟨h1,h2,h3⟩:=cT hl;have hc:=h f h1;refine⟨fun g hg=>?_,h1,rfl,o_,af _ _ _,fun x hx=>ah _ _ hx,hS,af _ _ _,fun x hx=>ah _ _ hx,o_,FI,fun s hs _ =>hs⟩;by_cases e:g=f
  ·subst e;rw[af];show upd p.cnt g 1 g=_;rw[af];omega
  ·rw[ah _ _ e];show upd p.cnt f 1 g=_;rw[ah _ _ e];exact h g hg
 |loose s hl hs KV h1 Kr=>
  have hc:=h s.frame KV;have hp:=aV hs;have hd:=iV hS hs;have Qk:=hd s.frame;rw[if_pos rfl]at Qk;refine⟨fun g hg=>?_,KV,rfl,o_,af _ _ _,fun x hx=>ah _ _ hx,hS.drop _,af _ _ _,fun x hx=>?_,o_,FI,fun t ht h2=>?_⟩
  ·by_cases e:g=s.frame
   ·subst e;rw[af];show upd (upd p.cnt s.frame _) s.frame 1 s.frame=_;rw[af];omega
   ·rw[ah _ _ e];show upd (upd p.cnt s.frame _) s.frame 1 g=_;rw[ah _ _ e,ah _ _ e];have h2:=hd g;rw[if_neg (fun e1=>e e1.symm)]at h2;rw[h g hg];omega
  ·show upd (upd p.cnt s.frame _) s.frame 1 x=p.cnt x;rw[ah _ _ hx,ah _ _ hx]
  ·refine List.mem_filter.2 ⟨ht,?_⟩;cases hq:Slot.at s.ino s.page t with
   |false=>rfl
   |true=>
    exfalso;have e:=Slot.at_iff.1 hq;have e2:=hS.eq ht hs e;subst e2;omega
def dV (F:List Nd)(ino page:Int):Int×Nat×(Nat->Nat):=jJ F ino (page*4096).toNat
def ov (F:List Nd)(ino page:Int):Nat->Nat:=laid (fun _ =>0) (dV F ino page).2.2 0 (dV F ino page).2.1
def lz (F:List Nd)(p:Pool)(L:List Slot):Prop:= ∀s∈L,p.dat s.frame=ov F s.ino s.page/\(dV F s.ino s.page).1=0/\0<=s.page/\s.page<16
abbrev GetF (F:List Nd)(ino page:Int)(p:Pool)(L:List Slot)(clock:Int)(r:Int)(f:Nat)(p':Pool)(L':List Slot)(xr:Int):Prop:=
 dU ino page (dV F ino page).1 (dV F ino page).2.1 (dV F ino page).2.2 p L clock r f p' L' xr
theorem iU (h:ax L f=0): ∀s∈L,s.frame≠f:=fun s hs e=>by
 have:=aV hs;rw[e]at this;omega
variable {F:List Nd}
theorem Took8.filled (h:Took8 p L hold f p' L')(hf:lz F p L):lz F p' L':=fun s hs=>by
 rw[h.dat _ (iU h.noSlot s hs)];exact hf s (h.sub.subset hs)
structure Got8 (F:List Nd)(ino page:Int)(p:Pool)(L:List Slot)(hold:Nat->Nat)(r:Int)(f:Nat)(p':Pool)(L':List Slot):Prop where
 even:Even p' L' hold
 n:p'.n=p.n
 sole:Sole L'
 filled:lz F p' L'
 there:r=0->f<p.n/\1<=p'.cnt f/\(∃s∈L',s.ino=ino/\s.page=page/\s.frame=f)/\(dV F ino page).1=0/\0<=page/\page<16
 keep: ∀s∈L,2<=p.cnt s.frame-> ∃t∈L',t.ino=s.ino/\t.page=s.page/\t.frame=s.frame
 cntk: ∀s∈L,2<=p.cnt s.frame->p'.cnt s.frame=p.cnt s.frame/\p'.dat s.frame=p.dat s.frame
variable {s:Slot}
theorem ku :s∈ei L s:=by
 unfold ei;split
 ·next h=>
  obtain⟨x,hx,Ak⟩:=List.any_eq_true.1 h;exact List.mem_map.2 ⟨x,hx,by rw[if_pos Ak]⟩
 ·exact List.mem_append_right _ (List.mem_singleton.2 rfl)
theorem lJ {t:Slot}(ht:t∈L):t∈ei L s\/(Slot.at s.ino s.page t=true):=by
 by_cases hc:Slot.at s.ino s.page t=true
 ·exact .inr hc
 ·left;unfold ei;split
  ·exact List.mem_map.2 ⟨t,ht,by rw[if_neg hc]⟩
  ·exact List.mem_append_left _ ht
theorem Even.get {ino page:Int}{clock xr r:Int}(h:Even p L hold)(hS:Sole L)(yO:lz F p L)(xw: ∀s∈L,s.frame<p.n)(hg:GetF F ino page p L clock r f p' L' xr):
  Got8 F ino page p L hold r f p' L':=by
 cases hg with
 |bad h1=>exact⟨h,rfl,hS,yO,(fun e=>by cases e),fun s hs _ =>⟨s,hs,rfl,rfl,rfl⟩,fun s hs _ =>⟨rfl,rfl⟩⟩
 |err h1 h2 h3=>exact⟨h,rfl,hS,yO,fun e=>absurd e h3,fun s hs _ =>⟨s,hs,rfl,rfl,rfl⟩,fun s hs _ =>⟨rfl,rfl⟩⟩
 |hit s h0 h1 hr hs=>
  obtain⟨hs,hi,hp⟩:=ed hs;refine⟨fun g hg=>?_,rfl,lI hS _,fun t ht=>?_,fun _ =>⟨xw s hs,?_,⟨_,ku,rfl,rfl,rfl⟩,hr,h0,h1⟩,fun t ht _ =>?_,fun t ht _ =>⟨rfl,rfl⟩⟩
  ·rw[kq (s0:=s) (s:=⟨ino,page,s.frame,clock+1⟩) hS hs hi hp rfl];exact h g hg
  ·rcases ig ht with e|e
   ·exact yO t e
   ·subst e;have:=yO s hs;rw[hi,hp]at this;exact this
  ·have:=h s.frame (xw s hs);have:=aV hs;omega
  ·rcases lJ (s:=⟨ino,page,s.frame,clock+1⟩) ht with e|e
   ·exact⟨t,e,rfl,rfl,rfl⟩
   ·have e1:=Slot.at_iff.1 e;have e2:=hS.eq ht hs ⟨e1.1.trans hi.symm,e1.2.trans hp.symm⟩;subst e2;exact⟨_,ku,hi.symm,hp.symm,rfl⟩
 |full h0 h1 hr hn ht=>exact⟨h,rfl,hS,yO,(fun e=>by cases e),fun s hs _ =>⟨s,hs,rfl,rfl,rfl⟩,fun s hs _ =>⟨rfl,rfl⟩⟩
 |miss f p1 L1 h0 h1 hr hn ht=>
  have hT:=h.take hS ht;have xL:=mL (eZ hn) ht.sub;refine⟨fun g hg=>?_,hT.n,lI hT.sole _,fun t Cw=>?_,fun _ =>⟨hT.lt,?_,⟨_,ku,rfl,rfl,rfl⟩,hr,h0,h1⟩,fun t Cw h2=>?_,fun t Cw h2=>?_⟩
  ·rw[kt (s:=⟨ino,page,f,clock+1⟩) xL];have h3:=hT.even g hg;have h4:=hT.none;show p1.cnt g=_;by_cases e:g=f
   ·subst e;rw[af]at h3;rw[if_pos rfl];omega
   ·rw[ah _ _ e]at h3;rw[if_neg (fun e1=>e e1.symm)];omega
  ·rcases ig Cw with e|e
   ·have h9:=hT.filled yO t e;exact⟨(ah _ _ (iU hT.noSlot t e)).trans h9.1,h9.2⟩
   ·subst e;refine⟨?_,hr,h0,h1⟩;show upd p1.dat f _ f=_;rw[af,hT.zero];rfl
  ·show 1<=p1.cnt f;rw[hT.one];omega
  ·have hk:=hT.keep t Cw h2;rcases lJ (s:=⟨ino,page,f,clock+1⟩) hk with e|e
   ·exact⟨t,e,rfl,rfl,rfl⟩
   ·exfalso;have:=List.any_eq_false.1 xL t hk;exact this e
  ·have hk:=hT.keep t Cw h2;have xA:=iU hT.noSlot t hk;exact⟨hT.cnt _ xA,(ah _ _ xA).trans (hT.dat _ xA)⟩
end
section
open Go.RowKit Go.Sort
theorem uE (F:List Nd)(ino:Int)(off:Nat):(jJ F ino off).2.1<=4096:=by
 unfold jJ
 repeat' split
 all_goals(simp only[];omega)
theorem sz {F:List Nd}(hF: ∀(i:Nat) (y:Nd),F[i]? =some y-> ∀j,y.dat j<256)(ino:Int)(off i:Nat):(jJ F ino off).2.2 i<256:=by
 have h0:(0:Nat)<256:=d_;unfold jJ;split
 ·exact h0
 ·split
  ·exact h0
  ·next y hy=>
   split
   ·exact h0
   ·split
    ·exact hF _ y hy _
    ·exact h0
def iN (F:List Nd):Prop:= ∀(i:Nat) (y:Nd),F[i]? =some y-> ∀j,y.dat j<256
theorem cget_any (B1 nb c2 c a fs m:Nat)(ad mp:Nat->Nat)(F:List Nd)(ino page clock:Int)(w:World)(S:Nat->Prop)(p:Pool)(L:List Slot)(h:au w S c a fs m clock p L)(hF:FsIs w B1 fs nb c2 ad mp F)(TY:iN F)(hi:(Lit.int .i64 ino).wf=true)(BU:0<=clock/\clock<1000000):
  Calls prog 232 #[.pointer (some ⟨c,0,none⟩),.int .i64 ino,.int .i64 page] w (eo w S c a fs m ino page (dV F ino page).1 (dV F ino page).2.1 (dV F ino page).2.2 clock p L):=by
 by_cases hp:page<0\/16<=page
 ·exact get_bad c a fs m _ ino page _ clock _ w S p L h hp
 have ID:=read_is (ino:=ino) (off:=(page*4096).toNat) hF o_;rw[show(((page*4096).toNat:Nat):Int)=page*4096 by omega]at ID;have LQ:pj w fs ino (page*4096) (dV F ino page).1 (dV F ino page).2.1 (dV F ino page).2.2:=ID;have hk:=uE F ino (page*4096).toNat
 have hd:=sz TY ino (page*4096).toNat
 have FN:(dV F ino page).2.1<=4096:=hk;have hd': ∀i,(dV F ino page).2.2 i<256:=hd;clear ID hk hd;generalize dV F ino page=R at LQ FN hd'⊢;by_cases hr:R.1=0
 ·rw[hr]at LQ⊢;cases hs:L.find? (Slot.at ino page)with
  |none=>exact get_new c a fs m _ ino page 0 clock _ w S p L h o_ o_ hi LQ hd' FN BU hs
  |some s=>exact get_hit c a fs m _ ino page 0 clock _ w S p L h o_ o_ hi LQ BU s hs
 ·exact get_err c a fs m _ ino page _ clock _ w S p L h o_ o_ LQ (by rw[bne_iff_ne];exact hr)
end
section
theorem rr {m:Nat}(h:m<65536):(m&&&2559=m)↔dF m=false:=by
 have hb:dF m=false↔m&&&62976=0:=by
  unfold dF;rw[show((2559:Int))=((2559:Nat):Int)from rfl,u16_andNot_nat m 2559 h o_];rw[bne_eq_false_iff_eq];show((m&&&62976:Nat):Int)=0↔_;omega
 rw[hb];have t: ∀i,i<16->Nat.testBit 2559 i= !Nat.testBit 62976 i:=d_;have big: ∀i,16<=i->Nat.testBit m i=false:=fun i hi=>Nat.testBit_lt_two_pow (wW h (by
  have:2^16<=2^i:=Nat.pow_le_pow_right o_ hi;omega))
 constructor
 ·intro e;refine Nat.eq_of_testBit_eq fun i=>?_;rw[Nat.testBit_and,Nat.zero_testBit];by_cases hi:i<16
  ·have h1:=congrArg (fun x=>Nat.testBit x i) e;simp only[Nat.testBit_and,t i hi]at h1;cases ha:Nat.testBit m i<;>cases hc:Nat.testBit 62976 i<;>simp_all
  ·rw[big i o_];rfl
 ·intro e;refine Nat.eq_of_testBit_eq fun i=>?_;rw[Nat.testBit_and];by_cases hi:i<16
  ·have h1:=congrArg (fun x=>Nat.testBit x i) e;simp only[Nat.testBit_and,Nat.zero_testBit]at h1;rw[t i hi];cases ha:Nat.testBit m i<;>cases hc:Nat.testBit 62976 i<;>simp_all
  ·rw[big i o_];rfl
def gS (F:List Nd)(d:Nat)(x:ByteArray)(i:Nat):Prop:=0<i/\ ∃y,F[i]? =some y/\y.up=d/\y.name=x
theorem iA {α β:Type}(f:α->Option β)(p:β->Bool): ∀(l:List α) (k:Nat) (a:α) (b:β),l[k]? =some a->f a=some b->p b=true->(∀j a',j<k->l[j]? =some a'-> ∀b',f a'=some b'->p b'=false)->(l.filterMap f).find? p=some b
 | [],k,a,b,h,_,_,_ =>by simp at h
 |x::l,0,a,b,h,hf,hp,_ =>by
  simp only[List.getElem?_cons_zero,Option.some.injEq]at h;subst h;rw[List.filterMap_cons,hf];simp only;rw[List.find?_cons,hp]
 |x::l,k+1,a,b,h,hf,hp,hn=>by
  rw[List.getElem?_cons_succ]at h;have ih:=iA f p l k a b h hf hp fun j a' hj ha b' hb=>hn (j+1) a' o_ (by simpa using ha) b' hb;rw[List.filterMap_cons];cases hx:f x with
  |none=>exact ih
  |some y=>
   simp only;rw[List.find?_cons,hn 0 x o_ rfl y hx];exact ih
variable {F:List Nd}{d:Nat}{x:ByteArray}
theorem pY {i:Nat}(h:gS F d x i)(hn: ∀j,j<i-> ¬gS F d x j):dm (aI F d) x=some i:=by
 obtain⟨h0,y,hy,hu,hx⟩:=h;have hi:=(List.getElem?_eq_some_iff.1 hy).1;unfold dm aI;rw[iA _ (fun y=>decide (y.1=x)) (List.range F.length) i i (x,i) (by rw[List.getElem?_range hi]) (by rw[hy];simp only;rw[if_pos ⟨h0,hu⟩,hx]) s_ ?_]
 ·rfl
 ·intro j a ha hj b hb;have Cj:j<F.length:=o_;rw[List.getElem?_range Cj]at hj;injection hj with hj;subst hj;cases hf:F[j]? with
  |none=>rw[hf]at hb;cases hb
  |some z=>
   rw[hf]at hb;simp only at hb;split at hb
   ·next h3=>
    injection hb with hb;subst hb;rw[decide_eq_false_iff_not];exact fun e=>hn j ha ⟨h3.1,z,hf,h3.2,e⟩
   ·cases hb
theorem kM (hn: ∀j,j<F.length-> ¬gS F d x j):dm (aI F d) x=none:=by
 cases h:dm (aI F d) x with
 |none=>rfl
 |some j=>
  obtain⟨h1,h2,y,h3,h4,h5⟩:=bA (eC h);exact absurd ⟨h2,y,h3,h4,h5⟩ (hn j h1)
def eJ (F:List Nd):Prop:= ∀(i:Nat) (y:Nd),0<i->F[i]? =some y->ak F y.up=2
theorem eJ.start:eJ [aD]:=fun i y h0 h=>by
 cases i with
 |zero=>omega
 |succ i=>simp at h
theorem eJ.add {e:Ent}(h:eJ F)(hF:FOk F)(h0:(addM F e).1=0):eJ (addM F e).2:=by
 obtain⟨_,_,_,up,_,_,hk,hul,e2⟩:=nz hF h0;rw[e2];intro i y hi hy;by_cases xw:i<F.length
 ·rw[wZ xw]at hy;rw[cU _ (hF.each i y hy).up];exact h i y hi hy
 ·rw[wY o_]at hy;have hm:=xb hy;rw[List.mem_singleton]at hm;subst hm;show ak (F++[_]) up=2;rw[cU _ hul];exact hk
theorem eJ.leaf (h:eJ F)(hk:ak F d≠2)(x:ByteArray):dm (aI F d) x=none:=kM fun j hj hc=>by
 obtain⟨h0,y,hy,hu,_⟩:=hc;exact hk (hu▸h j y h0 hy)
theorem eJ.step (h:eJ F)(d:Nat)(x:ByteArray)(l:List ByteArray):atM F d (x::l)=match dm (aI F d) x with|some j=>atM F j l|none=>none:=by
 rw[atM];by_cases hk:ak F d=2
 ·rw[if_pos hk];try(cases dm (aI F d) x<;>rfl)
 ·rw[if_neg hk,h.leaf hk x]
end
section
open Go.RowKit Go.Sort
variable {s:ByteArray}
theorem rC {i:Nat}(h:i<s.size):s.get! i=s[i]:=by
 cases s with
 |mk d=>
  show d[i]! =d[i];exact getElem!_pos d i h
def PcsPost (l:List ByteArray)(w:World)(e:Ending)(w':World):Prop:= ∃A cap,e= .returned (.slice A l.length cap)/\OwnS w' w.heap.size A cap l/\Below w.heap.size w w'
theorem ky (s:ByteArray)(w:World)(hs:s.size<=200):Calls prog 85 #[.string s] w (PcsPost (bg s) w):=by
 go_enter func85,ntmps85;go_wp2_with fail;go_loopw [3,4,5] (fun v u i wr=> ∃(A:Option Addr) (cap:Nat) (l:List ByteArray) (fr k:Nat),v= .slice A l.length cap/\u= .int .i64 (fr:Int)/\i= .int .i64 (k:Int)/\OwnS wr w.heap.size A cap l/\Below w.heap.size w wr/\l.length<=k/\((fr<=k/\k<=s.size/\l++cuts s k fr=bg s)\/(k=s.size+1/\l=bg s))) (fun _ _ i _ =>s.size+1-(intOf i).toNat)
 case atStart=>exact⟨none,0,[],0,0,rfl,rfl,rfl,OwnS.nil _ _,xp _ _,wS _,.inl ⟨wS _,xm _,rfl⟩⟩
 case round=>
  obtain⟨A,cap,l,fr,k,rfl,rfl,rfl,hO,hb,hlen,hrel⟩:=hrel;obtain⟨HO,HB⟩:=zh2 hO hb;have hzb:=hb.size;clear hO hb;rcases hrel with⟨zM,hk,hcut⟩|⟨hk,hl⟩
  rotate_left
  ·have HL:=wP hl;have FN: ¬(k:Int)<=(s.size:Int):=o_;clear hl hk;go_wp2_with fail;go_ret;exact⟨A,cap,by rw[HL.o];rfl,by rw[<-HL.o];exact HO.o,HB.o⟩
  have Ha:(k:Int)<=(s.size:Int):=o_;have DH:(fr:Int)<=(k:Int):=o_;obtain⟨ZT,BY⟩:=zh2 (HO.o:World.ownsRow _ _ _ _ _ _ _) hcut;clear hcut;by_cases Hf:k=s.size\/(∃h:k<s.size,s[k]=47)
  ·
   have QW:=wP (show(k<s.size/\l++s.extract fr k::cuts s (k+1) (k+1)=bg s)\/(k=s.size/\l++[s.extract fr k]=bg s)from by
    rcases Hf with e|⟨h1,h2⟩
    ·right;refine⟨e,?_⟩;rw[<-BY.o,fa o_,e]
    ·left;refine⟨h1,?_⟩;rw[<-BY.o,gu h1 (by rw[rC h1];exact h2)])
   have Xm: ∀o,OwnS (wr.alloc o) w.heap.size A cap l:=fun o=>World.ownsRow.alloc HO.o o;obtain⟨Pm,HF⟩:=zh2 Xm HO.o.form;clear Xm;have za: ∀(g' xq:Nat) (w4:World),OwnS w4 w.heap.size (some ⟨g',0,none⟩) xq (l++[s.extract fr k])->(wr.alloc (.cells #[.string (s.extract fr k)] 9)).grownBy w4 (A.map (·.block))->Below w.heap.size w w4:=fun g' xq w4 AY DG=>((HB.o.alloc hzb _).grown DG t_ (fun b hb=>by
    rcases HF.o with⟨e,_⟩|⟨g,e,h1,_⟩
    ·rw[e]at hb;cases hb
    ·rw[e]at hb;simp at hb;omega))
   have Nv:=wP za;clear za;rcases Hf with he|⟨h1,h2⟩
   ·have b1:((k:Int)==(s.size:Int))=true:=(by rw[beq_iff_eq];omega);have HE:=wP he;clear he;go_wp2_with (first
     |(at_builtin;refine nv rfl (.tmp 22) (.tmp 27) rfl w.heap.size A cap l rfl (Pm.o _) (s.extract fr k) wr.heap.size 1 rfl (ab _ _) o_ t_ ?_;intro g' xq w4 AY DG KH RK;obtain⟨Ct,Ax⟩:=zh2 AY (Nv.o g' xq w4 AY DG);clear AY DG KH)
     |fail)
    go_roundw
    case rel=>exact⟨some ⟨g',0,none⟩,xq,l++[s.extract fr k],k+1,k+1,by rw[wU];rfl,by go_num,by go_num,Ct.o,Ax.o,by rw[wU,xc];omega,.inr ⟨by have:=HE.o;omega,(QW.o.elim (fun h=>by have:=HE.o;omega) fun h=>h.2)⟩⟩
    case measure=>(simp[intOf];omega)
   ·have b1:((k:Int)==(s.size:Int))=false:=(by rw[xf];omega);have b2:((s[k].toNat:Int)==47)=true:=(by rw[h2];rfl);clear h2;go_wp2_with (first
     |(at_builtin;refine nv rfl (.tmp 22) (.tmp 27) rfl w.heap.size A cap l rfl (Pm.o _) (s.extract fr k) wr.heap.size 1 rfl (ab _ _) o_ t_ ?_;intro g' xq w4 AY DG KH RK;obtain⟨Ct,Ax⟩:=zh2 AY (Nv.o g' xq w4 AY DG);clear AY DG KH)
     |fail)
    go_roundw
    case rel=>exact⟨some ⟨g',0,none⟩,xq,l++[s.extract fr k],k+1,k+1,by rw[wU];rfl,by go_num,by go_num,Ct.o,Ax.o,by rw[wU,xc];omega,.inl ⟨wS _,o_,(QW.o.elim (fun h=>by rw[List.append_assoc];exact h.2) fun h=>o_)⟩⟩
    case measure=>(simp[intOf];omega)
  ·have h1:k<s.size:=by
    rcases Nat.lt_or_ge k s.size with h|h
    ·exact h
    ·exact absurd (.inl o_) Hf
   have h2:s[k]≠47:=fun e=>Hf (.inr ⟨h1,e⟩);have b1:((k:Int)==(s.size:Int))=false:=(by rw[xf];omega);have b2:((s[k].toNat:Int)==47)=false:=by
    rw[xf];intro e;exact h2 (UInt8.toNat_inj.1 (by show s[k].toNat=47;omega))
   have zU:=wP (show l++cuts s (k+1) fr=bg s by rw[<-BY.o,jh h1 (by rw[rC h1];exact h2)]);clear Hf h2;go_wp2_with fail;go_roundw
   case rel=>exact⟨A,cap,l,fr,k+1,rfl,rfl,by go_num,HO.o,HB.o,o_,.inl ⟨o_,o_,zU.o⟩⟩
   case measure=>(simp[intOf];omega)
theorem nR (h:s.size=0):s=⟨#[]⟩:=by
 cases s with
 |mk d=>cases d with
  |mk l=>cases l with
   |nil=>rfl
   |cons x l=>simp[ByteArray.size]at h
theorem str_some (h0:s.size≠0):s.toList.isEmpty=false:=by
 cases hc:s.toList with
 |nil=>
  exfalso;apply h0;have h9:s.data.toList=[]:=(by rw[<-hc];exact(ByteArray.toList_eq s).symm);have h8:s.data.toList.length=0:=(by rw[h9];rfl);exact h8
 |cons x l=>rfl
theorem iF {k:Nat}(h:k<s.size):s.data.toList[k]? =some s[k]:=by
 rw[Array.getElem?_toList];exact Array.getElem?_eq_getElem h
theorem zero_at (h:0<=Lib.indexByte s.data.toList 0): ∃(o:Nat) (h:o<s.size),s[o]=0/\ ∀k (hk:k<s.size),k<o->s[k]≠0:=by
 obtain⟨o,ho⟩:=Int.eq_ofNat_of_zero_le h;obtain⟨h1,h2⟩:=Lib.indexByte_some ho;have h3:=(List.getElem?_eq_some_iff.1 h1).1;have xw:o<s.size:=(by simpa using h3);rw[iF xw]at h1;injection h1 with h1;exact⟨o,xw,h1,fun k hk hko e=>h2 k hko (by rw[iF hk,e])⟩
theorem zero_no (h: ¬0<=Lib.indexByte s.data.toList 0): ∀k (hk:k<s.size),s[k]≠0:=fun k hk e=>by
 have h1:=Lib.indexByte_ge s.data.toList 0;have h2:Lib.indexByte s.data.toList 0= -1:=o_;exact Lib.indexByte_none h2 k (by rw[iF hk,e])
theorem mA (s:ByteArray)(w:World)(hs:s.size<=1000000000):Calls prog 84 #[.string s] w fun e w'=>e= .returned (.int .i64 (chk s))/\Below w.heap.size w w':=by
 by_cases h0:s.size=0
 ·obtain rfl:=nR h0;have hc:chk ⟨#[]⟩=3:=rfl;rw[hc];clear hc hs h0;go_enter func84,ntmps84;go_wp2_with fail;go_ret;exact⟨rfl,xp _ _⟩
 have xA:=str_some h0;have RG: ¬s.toList=[]:=fun e=>by rw[e]at xA;cases xA
 by_cases hz:0<=Lib.indexByte s.data.toList 0
 ·have hc:chk s=1:=(by unfold chk;rw[if_neg h0,if_pos hz]);obtain⟨o,RB,yJ,zD⟩:=zero_at hz;rw[hc];have Fa:=wP zD;have b0:((s[o].toNat:Int)==0)=true:=(by rw[yJ];rfl);clear hc hz yJ zD;go_enter func84,ntmps84;go_wp2_with fail;go_loopw [3] (fun i wr=> ∃k:Nat,i= .int .i64 (k:Int)/\k<=o/\w=wr) (fun i _ =>o-(intOf i).toNat)
  case atStart=>exact⟨0,rfl,xm _,rfl⟩
  case round=>
   obtain⟨k,rfl,hk,rfl⟩:=hrel;by_cases e:k=o
   ·subst e;go_wp2_with fail;go_ret;exact⟨rfl,xp _ _⟩
   ·have zz:k<s.size:=o_;have h9:=Fa.o k zz o_;have b1:((s[k].toNat:Int)==0)=false:=by
     rw[xf];intro e2;exact h9 (UInt8.toNat_inj.1 (by show s[k].toNat=0;omega))
    clear h9;go_wp2_with fail;go_roundw
    case rel=>exact⟨k+1,by go_num,o_,trivial⟩
    case measure=>(simp[intOf];omega)
 have HZ:=wP (zero_no hz);by_cases hl:200<s.size
 ·have hc:chk s=11:=(by unfold chk;rw[if_neg h0,if_neg hz,if_pos hl]);rw[hc];clear hc hz;go_enter func84,ntmps84;go_wp2_with fail;go_loopw [3] (fun i wr=> ∃k:Nat,i= .int .i64 (k:Int)/\k<=s.size/\w=wr) (fun i _ =>s.size-(intOf i).toNat)
  case atStart=>exact⟨0,rfl,xm _,rfl⟩
  case round=>
   obtain⟨k,rfl,hk,rfl⟩:=hrel;by_cases zz:k<s.size
   ·have h9:=HZ.o k zz;have b1:((s[k].toNat:Int)==0)=false:=by
     rw[xf];intro e2;exact h9 (UInt8.toNat_inj.1 (by show s[k].toNat=0;omega))
    clear h9;go_wp2_with fail;go_roundw
    case rel=>exact⟨k+1,by go_num,o_,trivial⟩
    case measure=>(simp[intOf];omega)
   ·obtain rfl:k=s.size:=o_;go_wp2_with fail;go_ret;exact⟨rfl,xp _ _⟩
 have hc:chk s=if el (bg s)=true then 11 else 0:=by unfold chk;rw[if_neg h0,if_neg hz,if_neg hl]
 rw[hc];have HP:=wP (ky s w o_);have Kk:=cM s;obtain⟨l,hle⟩:=e_ (bg s);rw[<-hle]at HP Kk⊢;obtain⟨rv,hrv⟩: ∃rv:Int,rv=if el l=true then 11 else 0:=⟨_,rfl⟩
 rw[<-hrv];have HRV:=wP hrv;clear hc hz hle hrv;go_enter func84,ntmps84;go_wp2_with fail;go_loopw [3] (fun i wr=> ∃k:Nat,i= .int .i64 (k:Int)/\k<=s.size/\w=wr) (fun i _ =>s.size-(intOf i).toNat)
 case atStart=>exact⟨0,rfl,xm _,rfl⟩
 case round=>
  obtain⟨k,rfl,hk,rfl⟩:=hrel;by_cases zz:k<s.size
  ·have h9:=HZ.o k zz;have b1:((s[k].toNat:Int)==0)=false:=by
    rw[xf];intro e2;exact h9 (UInt8.toNat_inj.1 (by show s[k].toNat=0;omega))
   clear h9;go_wp2_with fail;go_roundw
   case rel=>exact⟨k+1,by go_num,o_,trivial⟩
   case measure=>(simp[intOf];omega)
  ·obtain rfl:k=s.size:=o_;go_wp2_with (first
    |(go_at_call 85;refine(HP.o).mono ?_;rintro e w1⟨A,cap,rfl,hO,xu⟩;obtain⟨HO,xI⟩:=zh2 hO xu;clear hO xu)
    |fail)
   go_loopw [5] (fun i wr=> ∃q:Nat,i= .int .i64 (q:Int)/\q<=l.length/\el (l.take q)=false/\w1=wr) (fun i _ =>l.length-(intOf i).toNat)
   case atStart=>exact⟨0,rfl,xm _,rfl,rfl⟩
   case round=>
    obtain⟨q,rfl,hq,JF,rfl⟩:=hrel;have HLG:=wP JF;clear JF;by_cases Oq:q<l.length
    ·obtain⟨x,hx⟩: ∃x,l[q]? =some x:=⟨l[q],wV Oq⟩;rcases HO.o.form with⟨_,h2,_⟩|⟨g,Ck,_,yE,Im⟩
     ·rw[h2]at Oq;exact absurd Oq (Nat.not_lt_zero _)
     subst Ck;have xV:=HO.o.elem hx;have Ol:=ic hx;have Ot:q<cap:=o_;by_cases Ag:32<x.size
     ·have hlp:el l=true:=by
       rw[<-List.take_append_drop (q+1) l];refine oG ?_;rw[Ol,gk];simp[Ag]
      have HLP:=wP (show rv=11 by rw[HRV.o,if_pos hlp]);have Gq:(32:Int)<(x.size:Int):=o_;clear Ol hx hlp;go_wp2_with fail;go_ret;exact⟨by rw[HLP.o];rfl,xI.o⟩
     ·have Jq:=wP (show el (l.take (q+1))=false by rw[Ol,gk,HLG.o];simp;omega);have Gq: ¬(32:Int)<(x.size:Int):=o_;clear Ol hx;go_wp2_with fail;go_roundw
      case rel=>exact⟨q+1,by go_num,o_,Jq.o,trivial⟩
      case measure=>(simp[intOf];omega)
    ·obtain rfl:q=l.length:=o_;have HLP:=wP (show rv=0 by
      have h9:=HLG.o;rw[List.take_length]at h9;rw[HRV.o,h9];rfl)
     go_wp2_with fail;go_ret;exact⟨by rw[HLP.o];rfl,xI.o⟩
theorem pR (h:0<s.size):((s[0].toNat:Int)==47)=Lib.hasPrefix s.data.toList [47]:=by
 unfold Lib.hasPrefix;have h0:=iF h;cases hd:s.data.toList with
 |nil=>rw[hd]at h0;cases h0
 |cons x l=>
  rw[hd]at h0;simp only[List.getElem?_cons_zero,Option.some.injEq]at h0;rw[<-h0];have e:List.isPrefixOf [(47:UInt8)] (x::l)=((47:UInt8)==x):=(by simp[List.isPrefixOf]);rw[e,Bool.eq_iff_iff,beq_iff_eq,beq_iff_eq];constructor
  ·intro hx;exact(UInt8.toNat_inj.1 (by show x.toNat=47;omega)).symm
  ·intro hx;rw[<-hx];rfl
theorem pF (h:0<s.size):((s[s.size-1].toNat:Int)==47)=Lib.hasSuffix s.data.toList [47]:=by
 unfold Lib.hasSuffix;have h0:=iF (show s.size-1<s.size by omega);have hl:s.data.toList.length=s.size:=rfl;have xA:s.data.toList≠[]:=fun e=>by rw[e]at hl;simp at hl;omega
 have Wh:s.data.toList.getLast xA=s[s.size-1]:=by
  rw[List.getLast_eq_getElem];have h1:=wV (show s.data.toList.length-1<s.data.toList.length by omega);have h2:s.data.toList[s.data.toList.length-1]? =some s[s.size-1]:=(by rw[hl];exact h0);rw[h1]at h2;injection h2
 have zZ:=List.dropLast_concat_getLast xA;rw[Wh]at zZ;rw[Bool.eq_iff_iff,beq_iff_eq,List.isSuffixOf_iff_suffix];constructor
 ·intro hx;have h47:s[s.size-1]=47:=UInt8.toNat_inj.1 (by show s[s.size-1].toNat=47;omega);rw[h47]at zZ;exact⟨_,zZ⟩
 ·rintro⟨t,ht⟩;rw[<-ht]at zZ;have:=List.append_inj_right' zZ rfl;simp at this;rw[this];rfl
theorem nQ:Lib.hasSuffix (ByteArray.mk #[]).data.toList [47]=false:=rfl
theorem uA (s:ByteArray)(w:World)(hs:s.size<=1000000000):Calls prog 83 #[.string s] w fun e w'=>e= .returned (.bool (Lib.hasSuffix s.data.toList [47]))/\w=w':=by
 by_cases h0:s.size=0
 ·obtain rfl:=nR h0;rw[nQ];clear hs h0;go_enter func83,ntmps83;go_wp2_with fail;go_ret;exact⟨rfl,rfl⟩
 ·obtain⟨m,hm⟩: ∃m,s.size=m+1:=⟨s.size-1,o_⟩;have hml:m<s.size:=o_;obtain⟨b,hb⟩:=e_ (Lib.hasSuffix s.data.toList [47]);have h1:((s[m].toNat:Int)==47)=b:=by
   rw[hb,<-pF o_];simp only[hm,Nat.add_sub_cancel]
  have i1:(0:Int)<(s.size:Int):=o_;have i2:IntKind.i64.wrap ((s.size:Int)-1)=(m:Int):=(by rw[IntKind.wrap_i64];omega);rw[<-hb];have HM:=wP hm;clear hb hm;go_enter func83,ntmps83;go_wp2_with fail;go_ret;exact⟨rfl,rfl⟩
theorem su (s:ByteArray)(w:World)(hs:s.size<=1000000000)(hc:chk s≠0):Calls prog 42 #[.string s] w fun e w'=>e= .returned (.tuple #[.slice none 0 0,.bool false,.int .i64 (chk s)])/\Below w.heap.size w w':=by
 have HC:=wP (mA s w hs);obtain⟨r,hr⟩:=e_ (chk s);rw[<-hr]at HC hc⊢;have r1:(r != 0)=true:=(by rw[bne_iff_ne];exact hc);clear hc hr;go_enter func42,ntmps42;go_wp2_with (first
  |(go_at_call 84;refine(HC.o).mono ?_;rintro e w1⟨rfl,xu⟩)
  |fail)
 go_ret3;exact⟨rfl,xu⟩
theorem od (s:ByteArray)(w:World)(hc:chk s=0):Calls prog 42 #[.string s] w (cE s w):=by
 obtain⟨z0,z200,_,_⟩:=dv hc;have Si:=mA s w o_;rw[hc]at Si;obtain⟨HC,HP⟩:=zh2 Si (fun W=>ky s W z200);have Kk:=cM s;have hb:=pR z0;obtain⟨pb,hpb⟩:=e_ (Lib.hasPrefix s.data.toList [47]);rw[<-hpb]at hb;obtain⟨l,hl⟩:=e_ (bg s);have If:ar s=l.filter aP:=(by rw[hl];rfl);rw[<-hl]at HP Kk;unfold cE;rw[<-hpb,If];have HB:=wP hb;clear hc Si hb hpb hl If;go_enter func42,ntmps42;go_wp2_with (first
  |(go_at_call 84;refine(HC.o).mono ?_;rintro e w1⟨rfl,xu⟩;have xI:=wP xu;have xQ:=xu.size;clear xu)
  |(go_at_call 85;refine(HP.o _).mono ?_;rintro e w2⟨A2,AR,rfl,CA,xx⟩;obtain⟨Fa,yW⟩:=zh2 CA (xI.o.trans (xx.mono xQ));have xX:=xx.size;clear CA xx)
  |fail)
 go_loopw [6,8] (fun v i wr=> ∃(A:Option Addr) (cap q:Nat),v= .slice A ((l.take q).filter aP).length cap/\i= .int .i64 (q:Int)/\q<=l.length/\OwnS wr w2.heap.size A cap ((l.take q).filter aP)/\Below w2.heap.size w2 wr) (fun _ i _ =>l.length-(intOf i).toNat)
 case atStart=>exact⟨none,0,0,rfl,rfl,xm _,OwnS.nil _ _,xp _ _⟩
 case round=>
  obtain⟨A,cap,q,rfl,rfl,hq,hO,zI⟩:=hrel;obtain⟨HO,AD⟩:=zh2 hO zI;have hzr:=zI.size;clear hO zI;by_cases Oq:q<l.length
  ·obtain⟨x,hx⟩: ∃x,l[q]? =some x:=⟨l[q],wV Oq⟩;have Ol:=ic hx;rcases Fa.o.form with⟨_,h2,_⟩|⟨g,Ck,_,yE,Im⟩
   ·rw[h2]at Oq;exact absurd Oq (Nat.not_lt_zero _)
   have xV:wr.cell? ⟨g,q,none⟩=some (.string x):=by
    have h9:=Fa.o;rw[Ck]at h9;exact(AD.o.cell (p:=⟨g,q,none⟩) yE).trans (h9.elem hx)
   subst Ck;have Ot:q<AR:=o_;have yO:((l.take q).filter aP).length<=300:=xn (List.length_filter_le _ _) (by rw[List.length_take];omega);by_cases hp:aP x=true
   ·obtain⟨t1,t2,t3⟩:=jy hp;have Td:=wP (show(l.take (q+1)).filter aP=(l.take q).filter aP++[x] by rw[Ol,fJ _ hp]);obtain⟨m,hm⟩:=e_ ((l.take q).filter aP);rw[<-hm]at HO yO Td⊢;obtain⟨Pm,HF⟩:=zh2 (fun o=>(World.ownsRow.alloc HO.o o:OwnS (wr.alloc o) w2.heap.size A cap m)) HO.o.form;clear Ol hx hp hm;go_wp2_with (first
     |(at_builtin;refine nv rfl (.tmp 34) (.tmp 39) rfl w2.heap.size A cap m rfl (Pm.o _) x wr.heap.size 1 rfl (ab _ _) o_ t_ ?_;intro g' xq w4 AY DG KH RK;obtain⟨Ct,Ax⟩:=zh2 AY ((AD.o.alloc hzr (.cells #[.string x] 9)).grown DG t_ (fun b hb=>(by rcases HF.o with⟨e,_⟩|⟨g,e,h1,_⟩;(rw[e]at hb;cases hb);(rw[e]at hb;simp at hb;omega))));clear AY DG KH)
     |fail)
    go_roundw
    case rel=>exact⟨some ⟨g',0,none⟩,xq,q+1,by rw[Td.o,wU];rfl,by go_num,o_,by rw[Td.o];exact Ct.o,Ax.o⟩
    case measure=>(simp[intOf];omega)
   ·have hp':aP x=false:=(by simpa using hp);have Td:=wP (show(l.take (q+1)).filter aP=(l.take q).filter aP by rw[Ol,gF _ hp']);have xL:=oL hp';obtain⟨m,hm⟩:=e_ ((l.take q).filter aP);rw[<-hm]at HO yO Td⊢;clear Ol hx hp hp' hm;rcases xL with rfl|rfl
    all_goals
     go_wp2_with fail;go_roundw
     case rel=>exact⟨A,cap,q+1,by rw[Td.o],by go_num,o_,by rw[Td.o];exact HO.o,AD.o⟩
     case measure=>(simp[intOf];omega)
  ·obtain rfl:q=l.length:=o_;have HT:=wP (show l.take l.length=l from List.take_length);obtain⟨l2,xW⟩:=e_ (l.take l.length);rw[<-xW]at HO HT⊢;have Gq:=HB.o;have i0:(0:Int)<(s.size:Int):=o_;clear xW;go_upto_region 11 with(fail);go_region
   all_goals
    go_wp2_with fail;go_ret3;exact⟨A,cap,by rw[HT.o];rfl,by rw[HT.o]at HO;exact(HO.o.lower yW.o.size).kept ((xp _ _).drew),yW.o.trans ((AD.o.drew).mono yW.o.size)⟩
end
section
open Go.RowKit Go.Sort
def qI (w:World)(b o:Nat)(x:Ent)(A:Option Addr)(c:Nat):Prop:=
 w.cell? ⟨b,o,none⟩=some (.string x.path)/\w.cell? ⟨b,o+1,none⟩=some (.int .u8 (x.kind:Int))/\w.cell? ⟨b,o+2,none⟩=some (.int .u16 (x.mode:Int))/\w.cell? ⟨b,o+3,none⟩=some (.int .u32 (x.uid:Int))/\
 w.cell? ⟨b,o+4,none⟩=some (.int .u32 (x.gid:Int))/\w.cell? ⟨b,o+5,none⟩=some (.slice A x.n c)/\w.cell? ⟨b,o+6,none⟩=some (.string x.to)
structure wI (x:Ent):Prop where
 path:x.path.size<=9223372036854775807
 link:x.to.size<=9223372036854775807
 n:x.n<=9223372036854775807
 mode:x.mode<65536
 dat: ∀i,x.dat i<256
def fp (w:World)(P:Option Addr)(l:List Ent):Prop:= ∀(j:Nat) (x:Ent),l[j]? =some x-> ∃b off A c,P=some ⟨b,off,none⟩/\qI w b (off+j*7) x A c/\ap w A x.n x.dat/\fd A x.n c/\wI x
variable {l:List Ent}
theorem fp.below {w w':World}{P:Option Addr}(h:fp w P l)(hb:Below w.heap.size w w'):fp w' P l:=fun j x hx=>by
 obtain⟨b,off,A,c,h1,⟨c0,c1,c2,c3,c4,c5,c6⟩,h4,h5,h6⟩:=h j x hx;have hl:b<w.heap.size:=World.block_lt_of_cell? _ _ c0;have hc: ∀i,w'.cell? ⟨b,i,none⟩=w.cell? ⟨b,i,none⟩:=fun i=>hb.cell (p:=⟨b,i,none⟩) hl;refine⟨b,off,A,c,h1,⟨?_,?_,?_,?_,?_,?_,?_⟩,h4.kept hb,h5,h6⟩
 all_goals(rw[hc];assumption)
def ji (k:Nat):Nat:=min k 1048576
def entW (x:Ent):Nat:=ji x.n+ji x.path.size+ji x.to.size
def gE:Nat->List Ent->Bool
 |_,[]=>false
 |s,x::l=>if 524288<s+entW x then true else gE (s+entW x) l
theorem oO : ∀ {s:Nat},gE s l=false-> ∀x∈l,entW x<=524288:=by
 induction l with
 |nil=>intro s _ x hx;cases hx
 |cons y l ih=>
  intro s h x hx;unfold gE at h;split at h
  ·cases h
  ·rcases List.mem_cons.1 hx with rfl|h2
   ·omega
   ·exact ih h x h2
theorem tv {x:Ent}(h:entW x<=524288):x.n<=524288/\x.path.size<=524288/\x.to.size<=524288:=by
 unfold entW ji at h;omega
theorem vr (P:Option Addr)(n cap:Nat)(l:List Ent)(w:World)(hl:fp w P l)(hn:n=l.length)(DW:n<=128):
  Calls prog 36 #[.slice P n cap] w fun e w'=>e= .returned (.bool (gE 0 l))/\Below w.heap.size w w':=by
 obtain⟨gb,Fm⟩:=e_ (gE 0 l);rw[<-Fm];obtain⟨HGB,Jr,HN⟩:=zh3 Fm hl hn;clear hl hn Fm;go_enter func36,ntmps36;go_wp2_with fail;go_loopw [3,4] (fun sv i wr=> ∃k s:Nat,k<=n/\i= .int .i64 (k:Int)/\sv= .int .i64 (s:Int)/\s<=524288/\gb=gE s (l.drop k)/\Below w.heap.size w wr) (fun _ i _ =>n-(intOf i).toNat)
 case atStart=>exact⟨0,0,o_,rfl,rfl,o_,HGB.o,xp _ _⟩
 case round=>
  obtain⟨k,s,hk,rfl,rfl,hs,hg,zI⟩:=hrel;obtain⟨HG,AD⟩:=zh2 hg zI;clear hg zI;by_cases xw:k<n
  ·obtain⟨x,hx⟩: ∃x,l[k]? =some x:=⟨_,wV (by rw[<-HN.o];exact xw)⟩;have zb:l.drop k=x::l.drop (k+1):=(List.drop_eq_getElem_cons (by rw[<-HN.o];exact xw)).trans (by
    obtain⟨h1,h2⟩:=List.getElem?_eq_some_iff.1 hx;rw[h2])
   obtain⟨bb,off,A,c,rfl,⟨c0,c1,c2,c3,c4,c5,c6⟩,_,_,JO⟩:=(Jr.o.below AD.o) k x hx;have Ju:=wP zb;obtain⟨a,ha⟩:=e_ (ji x.n);obtain⟨b,hb⟩:=e_ (ji x.path.size);obtain⟨d,hd⟩:=e_ (ji x.to.size);have DI:a<=1048576:=(by rw[ha];unfold ji;omega);have xx:b<=1048576:=(by rw[hb];unfold ji;omega);have MC:d<=1048576:=(by rw[hd];unfold ji;omega);have KO:Hid (s+entW x=s+a+b+d):=wP (by unfold entW;omega);have f1:=JO.n;have f2:=JO.path;have f3:=JO.link;have i1:min (x.n:Int) 1048576=(a:Int):=(by rw[ha];unfold ji;omega);have i2:min (x.path.size:Int) 1048576=(b:Int):=(by rw[hb];unfold ji;omega);have i3:min (x.to.size:Int) 1048576=(d:Int):=(by rw[hd];unfold ji;omega);have j1:IntKind.i64.wrap ((s:Int)+(a:Int))=(s:Int)+(a:Int):=IntWalk.i64_in _ o_;have j2:IntKind.i64.wrap ((s:Int)+(a:Int)+(b:Int))=(s:Int)+(a:Int)+(b:Int):=IntWalk.i64_in _ o_;have j3:IntKind.i64.wrap ((s:Int)+(a:Int)+(b:Int)+(d:Int))=(s:Int)+(a:Int)+(b:Int)+(d:Int):=IntWalk.i64_in _ o_;have JI:(k:Int)<(n:Int):=o_;clear c1 c2 c3 c4 hx zb JO ha hb hd;go_upto_region 7 with(fail);go_region_held3 (fun w'=>w'.cell? ⟨bb,off+k*7,none⟩=some (.string x.path)/\w'.cell? ⟨bb,off+k*7+5,none⟩=some (.slice A x.n c)/\w'.cell? ⟨bb,off+k*7+6,none⟩=some (.string x.to)) (go_keep) (fail)
   all_goals
    by_cases RU:(524288:Int)<(s:Int)+(a:Int)+(b:Int)+(d:Int)
    ·have Nw:Hid (gb=true):=wP (by rw[HG.o,Ju.o,gE,if_pos (by rw[KO.o];omega)]);go_wp2_with fail;go_ret;exact⟨by rw[Nw.o];rfl,AD.o.drew⟩
    ·have Nw:Hid (gb=gE (s+a+b+d) (l.drop (k+1))):=wP (by rw[HG.o,Ju.o,gE,KO.o,if_neg o_]);go_wp2_with fail;go_roundw
     case rel=>exact⟨k+1,s+a+b+d,o_,by go_num,by go_num,o_,Nw.o,AD.o.drew⟩
     case measure=>simp[intOf];omega
  ·obtain rfl:k=n:=o_;have Nw:Hid (gb=false):=wP (by rw[HG.o,List.drop_of_length_le (by rw[HN.o];exact wS _)];rfl);go_wp2_with fail;go_ret;exact⟨by rw[Nw.o];rfl,AD.o⟩
end
section
open Go.RowKit Go.Sort
variable {w:World}{ops:Array Oper}{rest:List Oper}{o:Oper}{a:Act}{Q:Exit->Act->World->Prop}
theorem app_zero (zH:o.guard=none)(s x:Operand)
  (ho:o.op= .call { callee:= .builtin .append,args:= #[s,x],argTypes:= #[39,39]})
  (A:Option Addr)(m cap:Nat)(hm:m=0)(hs:a.eval s= .slice A 0 cap)(B:Option Addr)(c:Nat)(hx:a.eval x= .slice B m c)
  (h:wpList prog ops Q rest (a.put o.dst (.slice A m cap)) w):wpList prog ops Q (o::rest) a w:=by
 subst hm;obtain⟨i0,zx,xT,xQ,xX⟩:=info_parts ki;refine wpList_plain zH fun K hK=>?_;have Ae:Src prog i0.size 39 (.slice B 0 c) 0 [] w:=by
  cases B with
  |none=>exact Src.ofNil w underlying39 c
  |some ad=>exact Src.ofSlice w underlying39 ad 0 c [] s_ (fun j u hu=>by simp at hu) (fun u hu=>by cases hu)
 have yL:=run_append_nothing (P:=prog) w 39 39 o.type 5 i0 underlying39 zx A 0 cap (xm _) (.slice B 0 c) Ae;unfold Oper.wp;simp[execOp,ho,resolve,invoke,builtin,hs,hx,yL,Result.andThen];exact hK _ _ h
structure EntR where
 ent:Ent
 A:Option Addr
 c:Nat
def entC (x:EntR):List Value:=[.string x.ent.path,.int .u8 (x.ent.kind:Int),.int .u16 (x.ent.mode:Int),.int .u32 (x.ent.uid:Int),.int .u32 (x.ent.gid:Int),.slice x.A x.ent.n x.c,.string x.ent.to]
def OwnE (w:World)(base:Nat)(R:Option Addr)(cap:Nat)(L:List EntR):Prop:=w.ownsRow base 93 7 (.slice R L.length cap) L.length (L.flatMap entC)
theorem ent_info:(prog.info? 93).map (fun i=>(i.zero,i.size,i.bytes))=some (some (.agg #[.string ByteArray.empty,.int .u8 0,.int .u16 0,.int .u32 0,.int .u32 0,.slice none 0 0,.string ByteArray.empty]),7,72):=k_
theorem wm (zH:o.guard=none)(s x:Operand)
  (ho:o.op= .call { callee:= .builtin .append,args:= #[s,x],argTypes:= #[22,22]})
  (base:Nat)(R:Option Addr)(cap m:Nat)(L:List EntR)(hm:m=L.length)(hs:a.eval s= .slice R m cap)(xC:OwnE w base R cap L)
  (r:EntR)(b c:Nat)(hx:a.eval x= .slice (some ⟨b,0,none⟩) 1 c)(hb:w.heap[b]? =some (.cells (entC r).toArray 93 (0,0)))
  (xD:m<1000000)(xH:base<=w.heap.size)
  (h: ∀g xq w',OwnE w' base (some ⟨g,0,none⟩) xq (L++[r])->w.grownBy w' (R.map (·.block))->(R.map (·.block)=some g\/g=w.heap.size)->g<w'.heap.size->wpList prog ops Q rest (a.put o.dst (.slice (some ⟨g,0,none⟩) (m+1) xq)) w'):
  wpList prog ops Q (o::rest) a w:=by
 obtain⟨i0,zx,xT,xQ,xX⟩:=info_parts ent_info;refine wpList_append_lies w zH s x 22 ho base 93 i0 _ 7 72 underlying22 zx xT xQ xX rfl o_ _ L.length (L.flatMap entC) (by rw[hs,hm]) xC ⟨b,0,none⟩ 1 c (entC r) hx rfl (World.news_of_block (cs:=(entC r).toArray) hb)
  (by simp[entC,Value.oneCell']) o_ (by unfold maxLen;omega) o_ xH w.heap.size rfl ?_
 intro g xq w' zg hg yr xw;rw[<-hm]at zg⊢;refine h g xq w' ?_ ?_ ?_ xw
 ·unfold OwnE;rw[List.flatMap_append,wU,xc,<-hm];simpa using zg
 ·cases R<;>simpa [Value.ownBlock]using hg
 ·cases R<;>simpa [Value.ownBlock]using yr
variable {L:List EntR}{k:Nat}{r:EntR}
theorem entC_get (h:L[k]? =some r)(j:Nat)(hj:j<7):(L.flatMap entC)[k*7+j]? =(entC r)[j]? :=by
 induction L generalizing k with
 |nil=>simp at h
 |cons x L ih=>
  rw[xo];cases k with
  |zero=>
   simp at h;subst h;rw[Nat.zero_mul,Nat.zero_add,wZ (by simp[entC];omega)]
  |succ k=>
   simp at h;rw[wY (by simp[entC];omega)];have e:(k+1)*7+j-(entC x).length=k*7+j:=(by simp[entC];omega);rw[e];exact ih h
variable {base g cap:Nat}
theorem OwnE.cell (h:OwnE w base (some ⟨g,0,none⟩) cap L)(hr:L[k]? =some r)(j:Nat)(hj:j<7):w.cell? ⟨g,k*7+j,none⟩=(entC r)[j]? :=by
 have hk:k<L.length:=(List.getElem?_eq_some_iff.1 hr).1;rw[World.ownsRow.cellAt h (k*7+j) o_,entC_get hr j hj]
def TwOk (w:World)(r:EntR):Prop:=cj w r.A r.ent.n r.c r.ent.dat
variable {w':World}
theorem cj.keep {A:Option Addr}{n:Nat}{d:Nat->Nat}(h:cj w A n cap d)(hk: ∀(g:Nat) (cs:Array Value) (f:Nat×Nat),w.heap[g]? =some (.cells cs 5 f)->w'.heap[g]? =w.heap[g]?):cj w' A n cap d:=by
 obtain⟨h1,h2,h3⟩:=h;refine⟨fun h0=>?_,fun x hx=>?_,h3⟩
 ·obtain⟨x,hx,hc⟩:=h1 h0;obtain⟨g,cs,f,rfl,hg⟩:=h2 x hx;refine⟨_,hx,fun j hj=>?_⟩;have h9:=hc j hj;rw[Addr.add_mid,Nat.zero_add]at h9⊢;rw[<-h9];exact World.cell?_of_block (hk g cs f hg)
 ·obtain⟨g,cs,f,e,hg⟩:=h2 x hx;exact⟨g,cs,f,e,(hk g cs f hg).trans hg⟩
theorem OwnE.block (h:OwnE w base (some ⟨g,0,none⟩) cap L): ∃cur,w.heap[g]? =some (.cells cur 93 (0,0))/\base<=g/\L.length<=cap:=by
 rcases h.2 with⟨h2,_⟩|⟨g',xq,cur,h1,h3,h4,h5,_⟩
 ·injection h2 with h2;cases h2
 ·injection h1 with e1 _ e3;injection e1 with e1;injection e1 with e1;subst e1;exact⟨cur,h4,h3,o_⟩
variable {R:Option Addr}
theorem OwnE.form (h:OwnE w base R cap L):(R=none/\L=[]/\cap=0)\/ ∃g,R=some ⟨g,0,none⟩/\base<=g/\g<w.heap.size/\L.length<=cap:=by
 rcases h.2 with⟨h2,h3⟩|⟨g,xq,cur,h1,h2,h3,h4,_⟩
 ·injection h2 with e1 e2 e3;exact .inl ⟨e1,by simpa using h3,e3⟩
 ·injection h1 with e1 e2 e3;exact .inr ⟨g,e1,h2,(wO h3).1,o_⟩
theorem OwnE.same (h:OwnE w base R cap L)(hb: ∀g,R=some ⟨g,0,none⟩->w'.heap[g]? =w.heap[g]?):OwnE w' base R cap L:=by
 refine⟨h.1,?_⟩;rcases h.2 with h2|⟨g,xq,cur,h1,h2,h3,h4⟩
 ·exact .inl h2
 ·injection h1 with e1 e2 e3;exact .inr ⟨g,xq,cur,by rw[e1,e2,e3],h2,(hb g e1).trans h3,h4⟩
theorem OwnE.kept (h:OwnE w base R cap L)(hb:Below w.heap.size w w'):OwnE w' base R cap L:=h.same fun g hg=>by
 rcases h.form with⟨e,_⟩|⟨g',e,_,h2,_⟩
 ·rw[e]at hg;cases hg
 ·rw[e]at hg;injection hg with hg;injection hg with hg;subst hg;exact hb.block _ h2
end
section
open Go.RowKit Go.Sort Go.Deep
def wt (w:World)(l:List Ent)(e:Ending)(w':World):Prop:= ∃R cap,e= .returned (.slice R l.length cap)/\gH w' R l/\l.length<=cap/\Below w.heap.size w w'
theorem sb {w w':World}{R:Option Addr}{cap:Nat}{L:List EntR}{l:List Ent}(hL:L.map EntR.ent=l)(hO:OwnE w' w.heap.size R cap L)(hT: ∀r∈L,TwOk w' r)(AK: ∀x∈l,x.n<=524288/\x.path.size<=524288/\x.to.size<=524288):gH w' R l:=fun j x hx=>by
 rw[<-hL,xj]at hx;cases hr:L[j]? with
 |none=>rw[hr]at hx;cases hx
 |some r=>
  rw[hr]at hx;injection hx with hx;subst hx;have hm:=AK r.ent (by rw[<-hL];exact List.mem_map.2 ⟨r,xb hr,rfl⟩);obtain⟨t1,t2,t3,t4⟩:=hT r (xb hr);rcases hO.form with⟨_,e,_⟩|⟨g,e,_,hg,_⟩
  ·rw[e]at hr;simp at hr
  ·subst e;refine⟨g,r.A,r.c,rfl,hg,⟨?_,?_,?_,?_,?_,?_,?_⟩,⟨o_,o_,o_,t1,t4⟩⟩
   ·have:=hO.cell hr 0 o_;simpa [entC]using this
   ·have:=hO.cell hr 1 o_;simpa [entC]using this
   ·have:=hO.cell hr 2 o_;simpa [entC]using this
   ·have:=hO.cell hr 3 o_;simpa [entC]using this
   ·have:=hO.cell hr 4 o_;simpa [entC]using this
   ·have:=hO.cell hr 5 o_;simpa [entC]using this
   ·have:=hO.cell hr 6 o_;simpa [entC]using this
end
