/- Paths as texts: the pieces between slashes, what may be a path, its parts. -/
import Derived.Test.YtoochjhipmpehaaGreatDoorCaAK
import Derived.Test.YtoochjhipmpehaaGreatDoorTwAK
import Derived.Carry
import Derived.Deep.RegionHeld3
import Derived.Laws.RangeAny
import Derived.Lib.Bytealg
import Derived.Lib.DecodeN
import Derived.Lib.IndexBytes
import Derived.Lib.OthersKept
import Derived.Lib.PathFns
import Derived.Lib.Slices
import Derived.Lib.SlicesS
import Derived.Lib.Strings
import Derived.Lib.Walk
import Derived.OwnWalk
import Derived.WideMake
set_option linter.unusedVariables false
set_option linter.unusedSimpArgs false
set_option maxRecDepth 100000
set_option maxHeartbeats 4000000
namespace Go.Proofs.YtoochjhipmpehaaGreatDoor
section
def mj (s:ByteArray):Nat->Nat->Nat->List ByteArray
 |0,_,fr=>[s.extract fr s.size]
 |k+1,pos,fr=>if pos<s.size then(if s.get! pos=47 then s.extract fr pos::mj s k (pos+1) (pos+1)else mj s k (pos+1) fr)else [s.extract fr s.size]
def cuts (s:ByteArray) (pos fr:Nat):List ByteArray:=mj s (s.size-pos) pos fr
def bn (s:ByteArray):List ByteArray:=cuts s 0 0
variable {s:ByteArray} {pos fr:Nat}
theorem eI (h: ¬pos<s.size):cuts s pos fr=[s.extract fr s.size]:=by
 unfold cuts;rw[show s.size-pos=0 by omega];rfl
theorem fL (h:pos<s.size) (hs:s.get! pos=47):cuts s pos fr=s.extract fr pos::cuts s (pos+1) (pos+1):=by
 unfold cuts;rw[show s.size-pos=(s.size-(pos+1))+1 by omega,mj,if_pos h,if_pos hs]
theorem iG (h:pos<s.size) (hs:s.get! pos≠47):cuts s pos fr=cuts s (pos+1) fr:=by
 unfold cuts;rw[show s.size-pos=(s.size-(pos+1))+1 by omega,mj,if_pos h,if_neg hs]
theorem nP (d:Nat) (h:pos+d<=s.size) (hs: ∀i,pos<=i->i<pos+d->s.get! i≠47):cuts s pos fr=cuts s (pos+d) fr:=by
 induction d with
 |zero=>rfl
 |succ d ih=>
  rw[ih (by omega) fun i h1 h2=>hs i h1 (by omega),iG (by omega) (hs _ (by omega) (by omega))];rfl
theorem ph (s:ByteArray) (k:Nat): ∀pos fr,s.size-pos<=k->(cuts s pos fr).length<=s.size-pos+1:=by
 induction k with
 |zero=>intro pos fr h;rw[eI (by omega)];simp
 |succ k ih=>
  intro pos fr h;by_cases hp:pos<s.size
  ·by_cases hs:s.get! pos=47
   ·rw[fL hp hs,vn];have:=ih (pos+1) (pos+1) (by omega);omega
   ·rw[iG hp hs];have:=ih (pos+1) fr (by omega);omega
  ·rw[eI hp];simp
theorem cx (s:ByteArray):(bn s).length<=s.size+1:=ph s s.size 0 0 (by omega)
theorem ql (s:ByteArray) (i:Nat):s.get! i=47↔(s.get! i).toNat=47:=by
 constructor
 ·intro h;rw[h];rfl
 ·intro h;exact UInt8.toNat_inj.1 h
theorem mV (s:ByteArray) (pos:Nat) (h:pos<s.size):
  1<=(Utf8.decode s pos).2/\pos+(Utf8.decode s pos).2<=s.size/\((Utf8.decode s pos).1=47->s.get! pos=47/\(Utf8.decode s pos).2=1)/\
   ((Utf8.decode s pos).1≠47-> ∀i,pos<=i->i<pos+(Utf8.decode s pos).2->s.get! i≠47):=by
 have key: ∀n b0 b1 b2 b3:Nat,0<n->b0<256->1<=(Lib.decodeN n b0 b1 b2 b3).2/\(Lib.decodeN n b0 b1 b2 b3).2<=n/\((Lib.decodeN n b0 b1 b2 b3).1=47->b0=47/\(Lib.decodeN n b0 b1 b2 b3).2=1)/\
   ((Lib.decodeN n b0 b1 b2 b3).1≠47->b0≠47/\(2<=(Lib.decodeN n b0 b1 b2 b3).2->b1≠47)/\(3<=(Lib.decodeN n b0 b1 b2 b3).2->b2≠47)/\(4<=(Lib.decodeN n b0 b1 b2 b3).2->b3≠47)/\(Lib.decodeN n b0 b1 b2 b3).2<=4):=by
  intro n b0 b1 b2 b3 hn h0;unfold Lib.decodeN
  repeat' split
  all_goals(refine⟨?_,?_,?_,?_⟩<;>first|omega|(intro h;omega)|(intro h;refine⟨?_,?_,?_,?_,?_⟩<;>(try intro h')<;>simp only[]at * <;>omega))
 obtain⟨k1,k2,k3,k4⟩:=key (s.size-pos) (s.get! pos).toNat (s.get! (pos+1)).toNat (s.get! (pos+2)).toNat (s.get! (pos+3)).toNat (by omega) (s.get! pos).toNat_lt;rw[Lib.decode_at];refine⟨k1,by omega,fun e=>⟨(ql s pos).2 (k3 e).1,(k3 e).2⟩,fun e i h1 h2=>?_⟩;obtain⟨a0,a1,a2,a3,a4⟩:=k4 e;intro hc;have NV:=(ql s i).1 hc;rcases(by omega:i=pos\/i=pos+1\/i=pos+2\/i=pos+3)with rfl|rfl|rfl|rfl
 ·exact a0 NV
 ·exact a1 (by omega) NV
 ·exact a2 (by omega) NV
 ·exact a3 (by omega) NV
def dP (l:List ByteArray):Bool:=l.any fun x=>decide (32<x.size)
def chk (s:ByteArray):Int:=if s.size=0 then 3 else if 0<=Lib.indexByte s.data.toList 0 then 1 else if 200<s.size then 11 else if dP (bn s)=true then 11 else 0
theorem da (h:chk s=0):0<s.size/\s.size<=200/\ ¬0<=Lib.indexByte s.data.toList 0/\dP (bn s)=false:=by
 unfold chk at h;split at h
 ·cases h
 split at h
 ·cases h
 split at h
 ·cases h
 split at h
 ·cases h
 next h1 h2 h3 h4=>exact⟨by omega,by omega,h2,by simpa using h4⟩
def aL (x:ByteArray):Bool:= !(x.data== #[] || x.data== #[46])
def aq (s:ByteArray):List ByteArray:=(bn s).filter aL
theorem bj (s:ByteArray):(aq s).length<=s.size+1:=vx (List.length_filter_le _ _) (cx s)
end
section
open Go.RowKit
theorem lib_byte (s:ByteArray) (c:Int) (w:World):Calls Tryz.prog 205 #[.string s, .int .u8 c] w fun e w'=>e= .returned (.int .i64 (Lib.indexByte s.data.toList c.toNat.toUInt8))/\w'=w:=by
 go_enter Tryz.func205,Tryz.ntmps205;go_wp2;rw[run_callFunc_extern Tryz.func209 (by kernel_rfl) (by kernel_rfl) (by kernel_rfl) (e:=Extern.BytealgIndexByte.indexByte) (by kernel_rfl),Lib.run_indexByteString];simp only[Result.andThen];rw[Oper.upon_value];go_wp2;go_ret;exact⟨rfl,rfl⟩
theorem rp (s:ByteArray) (c:UInt8) (w:World):Calls Tryz.prog 204 #[.string s, .string ⟨#[c]⟩] w fun e w'=>e= .returned (.int .i64 (Lib.indexByte s.data.toList c))/\w'=w:=by
 go_enter Tryz.func204,Tryz.ntmps204;go_wp2_with (go_at_call 205;refine(lib_byte _ _ _).mono ?_;rintro e w' ⟨rfl,rfl⟩)
 ·have h:([c]==s.toList)=true:=(by assumption);go_ret;refine⟨?_,rfl⟩;have e:s.data.toList=[c]:=(by rw[<-Lib.toList_data];exact(beq_iff_eq.1 h).symm);rw[e];simp[Lib.indexByte]
 ·go_ret;exact⟨rfl,rfl⟩
theorem oR (s:ByteArray) (c:UInt8) (w:World):Calls Tryz.prog 201 #[.string s, .string ⟨#[c]⟩] w fun e w'=>e= .returned (.int .i64 (Lib.indexByte s.data.toList c))/\w'=w:=by
 go_enter Tryz.func201,Tryz.ntmps201;go_wp2_with (go_at_call 204;refine(rp _ _ _).mono ?_;rintro e w' ⟨rfl,rfl⟩);go_ret;exact⟨rfl,rfl⟩
theorem gN (s:ByteArray) (c:UInt8) (w:World):Calls Tryz.prog 188 #[.string s, .string ⟨#[c]⟩] w fun e w'=>e= .returned (.bool (decide (0<=Lib.indexByte s.data.toList c)))/\w'=w:=by
 go_enter Tryz.func188,Tryz.ntmps188;go_wp2_with (go_at_call 201;refine(oR _ _ _).mono ?_;rintro e w' ⟨rfl,rfl⟩);go_ret;exact⟨rfl,rfl⟩
theorem ro (s p:ByteArray) (w:World):Calls Tryz.prog 185 #[.string s, .string p] w fun e w'=>e= .returned (.bool (Lib.hasPrefix s.data.toList p.data.toList))/\w'=w:=by
 rw[<-Lib.hasPrefix_of_take,<-Lib.size_eq,<-Lib.size_eq];go_enter Tryz.func185,Tryz.ntmps185;go_wp2
 ·rename_i h;go_ret;refine⟨?_,rfl⟩;show Ending.returned (Value.bool ((s.extract 0 p.size).toList==p.toList))=_;rw[Lib.extract_toList,Lib.toList_data];simp[h]
 ·rename_i h;go_ret;refine⟨?_,rfl⟩;show Ending.returned (Value.bool false)=_;simp[h]
theorem rm (s p:ByteArray) (w:World) (hs:s.size<=9223372036854775807):Calls Tryz.prog 186 #[.string s, .string p] w fun e w'=>e= .returned (.bool (Lib.hasSuffix s.data.toList p.data.toList))/\w'=w:=by
 rw[<-Lib.hasSuffix_raw];have NB:p.size<=s.size->((s.size:Int)-(p.size:Int)+9223372036854775808) % 18446744073709551616-9223372036854775808=((s.size-p.size:Nat):Int):=fun _ =>by omega
 go_enter Tryz.func186,Tryz.ntmps186;go_wp2
 ·have h:p.size<=s.size:=(by assumption);go_ret;refine⟨?_,rfl⟩;show Ending.returned (Value.bool ((s.extract (s.size-p.size) s.size).toList==p.toList))=_;simp[h]
 ·have h: ¬p.size<=s.size:=(by assumption);go_ret;refine⟨?_,rfl⟩;show Ending.returned (Value.bool false)=_;simp[h]
theorem tail_any (s:ByteArray) (w:World) (hs:s.size<=9223372036854775807):Calls Tryz.prog 162 #[.string s] w fun e w'=>e= .returned (.bool (Lib.hasSuffix s.data.toList [47]))/\w'=w:=by
 go_enter Tryz.func162,Tryz.ntmps162;go_wp2_with (go_at_call 186;refine(rm _ _ _ hs).mono ?_;rintro e w' ⟨rfl,rfl⟩);go_ret;exact⟨rfl,rfl⟩
end
section
open Go.RowKit Go.Sort
def OwnS (w:World) (base:Nat) (A:Option Addr) (cap:Nat) (l:List ByteArray):Prop:=w.ownsRow base 9 1 (.slice A l.length cap) l.length (l.map Value.string)
theorem OwnS.nil (w:World) (base:Nat):OwnS w base none 0 []:=World.ownsRow_nil w base _ 1
variable {w:World} {base cap:Nat} {l:List ByteArray}
theorem OwnS.elem {g:Nat} (h:OwnS w base (some ⟨g,0,none⟩) cap l) {j:Nat} {t:ByteArray} (hp:l[j]? =some t):w.cell? ⟨g,j,none⟩=some (.string t):=by
 have hk:j<l.length:=(List.getElem?_eq_some_iff.1 hp).1;rw[World.ownsRow.cellAt h j (by omega),vt,hp];rfl
variable {w':World}
theorem OwnS.same {A:Option Addr} (h:OwnS w base A cap l) (hb: ∀g,A=some ⟨g,0,none⟩->w'.heap[g]? =w.heap[g]?):OwnS w' base A cap l:=by
 refine⟨h.1,?_⟩;rcases h.2 with h2|⟨g,vA,cur,h1,h2,h3,h4⟩
 ·exact .inl h2
 ·injection h1 with e1 e2 e3;exact .inr ⟨g,vA,cur,by rw[e1,e2,e3],h2,(hb g e1).trans h3,h4⟩
variable {b:Nat}
theorem jH {x y:Value} {t:TypeId} (h:w.heap[b]? =some (.cells #[x] t (0,0))):(w.setCell ⟨b,0,none⟩ y).heap[b]? =some (.cells #[y] t (0,0)):=by
 have h1:=Joins.block_setCell (i:=0) h y;simpa using h1
theorem kz (h:w'.heap[b]? =w.heap[b]?) (i:Nat):w'.cell? ⟨b,i,none⟩=w.cell? ⟨b,i,none⟩:=by simp[World.cell?,h]
theorem str_info:(Tryz.prog.info? 9).map (fun i=>(i.zero,i.size,i.bytes))=some (some (.string ByteArray.empty),1,16):=by kernel_rfl
theorem ms {ops:Array Oper} {rest:List Oper} {o:Oper} {a:Act} {Q:Exit->Act->World->Prop} (yv:o.guard=none) (s x:Operand)
  (ho:o.op= .call { callee:= .builtin .append,args:= #[s,x],argTypes:= #[107,107]})
  (base:Nat) (A:Option Addr) (cap:Nat) (l:List ByteArray) (hs:a.eval s= .slice A l.length cap) (vR:OwnS w base A cap l)
  (t:ByteArray) (b c:Nat) (hx:a.eval x= .slice (some ⟨b,0,none⟩) 1 c) (hb:w.heap[b]? =some (.cells #[.string t] 9 (0,0)))
  (wb:l.length<1000000) (vQ:base<=w.heap.size)
  (h: ∀g vA w',OwnS w' base (some ⟨g,0,none⟩) vA (l++[t])->w.grownBy w' (A.map (·.block))->(A.map (·.block)=some g\/g=w.heap.size)->g<w'.heap.size->wpList Tryz.prog ops Q rest (a.put o.dst (.slice (some ⟨g,0,none⟩) (l.length+1) vA)) w'):
  wpList Tryz.prog ops Q (o::rest) a w:=by
 obtain⟨i0,yb,wz,wg,wm⟩:=info_parts str_info;refine wpList_append_lies w yv s x 107 ho base 9 i0 _ 1 16 Tryz.underlying107 yb wz wg wm rfl (by omega) _ l.length (l.map Value.string) hs vR ⟨b,0,none⟩ 1 c [.string t] hx rfl (World.news_of_block (cs:= #[.string t]) hb)
  (by simp[Value.oneCell']) (by omega) (by unfold maxLen;omega) (by omega) vQ w.heap.size rfl ?_
 intro g vA w' xG hg wK vH;refine h g vA w' ?_ ?_ ?_ vH
 ·unfold OwnS;rw[List.map_append,vf];exact xG
 ·cases A<;>simpa [Value.ownBlock]using hg
 ·cases A<;>simpa [Value.ownBlock]using wK
theorem iu {fn:Func} {p u v:Tmp} {ty:TypeId} (h:fn.results= #[.cell p ty, .tmp u, .tmp v]) (tmps:Array Value) (P:Program) (w:World):
  (results fn tmps).run P w=
   ((asAddr (tmps.getD p undef)).run P w).andThen fun a w₁=>((loadVar ty a).run P w₁).andThen fun x w₂=> .ok (.tuple #[x,tmps.getD u undef,tmps.getD v undef]) w₂:=by
 simp only[results,h];simp[Sem.run_bind,Result.andThen]
end
section
open Go.RowKit Go.Sort
end
section
open Go.RowKit Go.Sort
theorem pcs_chk (bo:Nat) (s:ByteArray) (w:World) (R:World->List ByteArray->Prop) (go:List ByteArray->Bool) (Lj:s.size<=1000000000)
  (hk: ∀w1 w2 l,R w1 l->Mod (fun b=>b=w.heap.size) w1 w2->w1.heap.size=w2.heap.size->R w2 l)
  (h0:R (w.alloc (.stringIter s 0)) [])
  (xo: ∀w1 l x,l.length<=s.size->x.size<=s.size->w.heap.size<w1.heap.size->R w1 l->Calls Tryz.prog 189 (#[.string x]++ #[.pointer (some ⟨bo,0,none⟩)]) w1 fun e w2=>e= .returned (.bool (go (l++[x])))/\R w2 (l++[x])/\w2.heap[w.heap.size]? =w1.heap[w.heap.size]?):
  Calls Tryz.prog 183 #[.string s, .func (.func 189) #[] #[.pointer (some ⟨bo,0,none⟩)]] w fun e w'=>e= .returned (.tuple #[])/\ ∃l,R w' l/\(l=bn s\/ ∃r,l++r=bn s/\go l=false):=by
 have CD:=va xo;have Ot:=va hk;have H0:=va h0;clear xo hk h0;go_enter Tryz.func183,Tryz.ntmps183;go_wp2_with fail;go_loopw [4] (fun i wr=> ∃pos fr l,pos<=s.size/\fr<=pos/\i= .int .i64 ((fr:Nat):Int)/\wr.heap[w.heap.size]? =some (.stringIter s pos)/\R wr l/\l++cuts s pos fr=bn s) (fun _ wr=>s.size-wr.iterPos w.heap.size)
 case atStart=>exact⟨0,0,[],by omega,by omega,rfl,World.iter_heap w s 0,H0.out,rfl⟩
 case round=>
  obtain⟨pos,fr,l,hp,yw,rfl,hit,hR,hcut⟩:=hrel;have wo:=iterPos_of hit;have MM:=va hit;have HR:=va hR;have Ad:=va hcut;clear hit hR hcut;have Pu:l.length<=s.size:=by
   have h1:=congrArg List.length Ad.out;have h2:=cx s;have h3:0<(cuts s pos fr).length:=by
    by_cases c:pos<s.size
    ·unfold cuts;cases hz:s.size-pos with
     |zero=>omega
     |succ z=>
      clear h1 h2;have: ∀z pos fr,0<(mj s z pos fr).length:=by
       intro z
       induction z with
       |zero=>intro pos fr;exact Nat.zero_lt_one
       |succ z ih=>
        intro pos fr;unfold mj;split
        ·split
         ·simp
         ·exact ih _ _
        ·exact Nat.zero_lt_one
      exact this _ _ _
    ·rw[eI c];exact Nat.zero_lt_one
   rw[vf]at h1;omega
  have vH:=(uZ MM.out).1;by_cases De:pos<s.size
  ·obtain⟨k1,k2,k3,k4⟩:=mV s pos De;obtain⟨r,hr⟩: ∃r,r=(Utf8.decode s pos).1:=⟨_,rfl⟩;obtain⟨d,hd⟩: ∃d,d=(Utf8.decode s pos).2:=⟨_,rfl⟩;have Ln:=fun ty=>Go.Lib.run_next_any_at (P:=Tryz.prog) wr w.heap.size s pos ty MM.out De;rw[<-hr,<-hd]at Ln;rw[<-hr]at k3 k4;rw[<-hd]at k1 k2 k3 k4;have xJ:Mod (fun b=>b=w.heap.size) wr (wr.iterAt w.heap.size s (pos+d)):=⟨rfl,rfl,rfl,by rw[Go.Lib.iterAt_size];exact vd _,fun b _ hb=>Go.Lib.iterAt_other wr w.heap.size b s _ hb⟩;have Ax:=Ot.out _ _ _ HR.out xJ (Go.Lib.iterAt_size wr w.heap.size s (pos+d)).symm;have DK:=Go.Lib.iterAt_heap wr w.heap.size s pos (pos+d) MM.out;have wg:=Go.Lib.iterAt_size wr w.heap.size s (pos+d);obtain⟨w1,hw⟩: ∃w1,w1=wr.iterAt w.heap.size s (pos+d):=⟨_,rfl⟩;rw[<-hw]at Ax DK Ln wg;have QP:=va DK;have QC:=va Ax;have hp1:=iterPos_of DK;clear DK Ax hw xJ hr hd;by_cases FO:r=47
   ·subst FO;obtain⟨k5,rfl⟩:=k3 rfl;have ye:=va (show(l++[s.extract fr pos])++cuts s (pos+1) (pos+1)=bn s by rw[List.append_assoc,List.singleton_append,<-fL De k5];exact Ad.out);have wh:=CD.out w1 l (s.extract fr pos) Pu (by rw[ByteArray.size_extract];omega) (by omega) QC.out;clear k3 k4 k5;cases Eh:go (l++[s.extract fr pos])with
    |true=>
     rw[Eh]at wh;have zu:=va wh;have Ow:=va Eh;clear wh Eh;go_wp2_with (first
      |(go_at_call 189;refine(zu.out).mono ?_;rintro e w2 ⟨rfl,yc,Aj⟩;have CU:=va yc;have Wg:=va (Aj.trans QP.out);have hp2:=iterPos_of Wg.out;clear yc Aj)
      |fail)
     go_roundw
     case rel=>exact⟨pos+1,pos+1,_,by omega,by omega,by go_num,Wg.out,CU.out,ye.out⟩
     case measure=>(rw[hp2,wo];omega)
    |false=>
     rw[Eh]at wh;have zu:=va wh;have Ow:=va Eh;clear wh Eh;go_wp2_with (first
      |(go_at_call 189;refine(zu.out).mono ?_;rintro e w2 ⟨rfl,yc,Aj⟩;have CU:=va yc;clear yc Aj)
      |fail)
     refine bodyPost_ret (results_none rfl _ _ _) rfl ?_;exact⟨rfl,_,CU.out, .inr ⟨_,ye.out,Ow.out⟩⟩
   ·have vK:(((r:Nat):Int) != 47)=true:=(by rw[bne_iff_ne];omega);have ye:=va (show l++cuts s (pos+d) fr=bn s by rw[<-nP d k2 (k4 FO)];exact Ad.out);clear k3 k4 FO;go_wp2_with fail;go_roundw
    case rel=>exact⟨pos+d,fr,l,k2,by omega,rfl,QP.out,QC.out,ye.out⟩
    case measure=>(rw[hp1,wo];omega)
  ·have Ln:=fun ty=>Go.Lib.run_next_end_at (P:=Tryz.prog) wr w.heap.size s pos ty MM.out De;have ye:=va (show l++[s.extract fr s.size]=bn s by rw[<-eI De];exact Ad.out);have wh:=CD.out wr l (s.extract fr s.size) Pu (by rw[ByteArray.size_extract];omega) vH HR.out;have zu:=va wh;clear wh;go_wp2_with (first
    |(go_at_call 189;refine(zu.out).mono ?_;rintro e w2 ⟨rfl,yc,Aj⟩;have CU:=va yc;clear yc Aj)
    |fail)
   go_end0;exact⟨rfl,_,CU.out, .inl ye.out⟩
def errB (b:Bool):Int:=if b=true then 11 else 0
theorem uk (bo:Nat) (x:ByteArray) (b:Bool) (w:World) (hB:w.heap[bo]? =some (.cells #[.int .i64 (errB b)] 32 (0,0))):
  Calls Tryz.prog 189 (#[.string x]++ #[.pointer (some ⟨bo,0,none⟩)]) w fun e w'=>e= .returned (.bool (!(b || decide (32<x.size))))/\w'.heap[bo]? =some (.cells #[.int .i64 (errB (b || decide (32<x.size)))] 32 (0,0))/\Mod (fun j=>j=bo) w w':=by
 have c0:=aa hB 0;have f0:=ae hB 0;have HB:=va hB;clear hB;by_cases hx:32<x.size
 ·have e1:(b || decide (32<x.size))=true:=(by simp[hx]);rw[e1];have e2:errB true=11:=rfl;rw[e2];clear e1 e2;go_enter Tryz.func189,Tryz.ntmps189;go_wp2_with fail;go_ret;exact⟨rfl,jH HB.out,aj (S:=fun j=>j=bo) rfl 0 _⟩
 ·have e1:(b || decide (32<x.size))=b:=(by simp[hx]);rw[e1];clear e1;cases b
  all_goals
   simp only[errB]at c0 HB⊢;go_enter Tryz.func189,Tryz.ntmps189;go_wp2_with fail;go_ret;exact⟨rfl,HB.out,Mod.refl _ _⟩
theorem fE (l:List ByteArray) (x:ByteArray):dP (l++[x])=(dP l || decide (32<x.size)):=by simp[dP]
theorem nA {l r:List ByteArray} (h:dP l=true):dP (l++r)=true:=by unfold dP at h⊢;rw[List.any_append,h];rfl
theorem pk (s:ByteArray) (w:World) (hs:s.size<=1000000000):Calls Tryz.prog 164 #[.string s] w fun e w'=>e= .returned (.int .i64 (chk s))/\Below w.heap.size w w':=by
 by_cases h0:s.size=0
 ·obtain rfl:s=⟨#[]⟩:=by
   cases s with
   |mk d=>cases d with
    |mk l=>cases l with
     |nil=>rfl
     |cons x l=>simp[ByteArray.size]at h0
  have hc:chk ⟨#[]⟩=3:=rfl;rw[hc];clear hc hs h0;go_enter Tryz.func164,Tryz.ntmps164;go_wp2_with fail;go_ret;exact⟨rfl,vz _ _⟩
 have vK:s.toList.isEmpty=false:=by
  cases hc:s.toList with
  |nil=>
   exfalso;apply h0;have h9:s.data.toList=[]:=(by rw[<-hc];exact(ByteArray.toList_eq s).symm);have h8:s.data.toList.length=0:=(by rw[h9];rfl);exact h8
  |cons x l=>rfl
 by_cases hz:0<=Lib.indexByte s.data.toList 0
 ·have hc:chk s=1:=(by unfold chk;rw[if_neg h0,if_pos hz]);rw[hc];have Ga:=gN s 0 w;rw[vr hz]at Ga;have MQ:=va Ga;clear Ga hz hc;go_enter Tryz.func164,Tryz.ntmps164;go_wp2_with (first
   |(go_at_call 188;refine(MQ.out).mono ?_;rintro e w1 ⟨rfl,rfl⟩)
   |fail)
  go_ret;exact⟨rfl,vz _ _⟩
 have Ga:=gN s 0 w;rw[vq hz]at Ga;have MQ:=va Ga;clear Ga;by_cases hl:200<s.size
 ·have hc:chk s=11:=(by unfold chk;rw[if_neg h0,if_neg hz,if_pos hl]);rw[hc];clear hz hc;go_enter Tryz.func164,Tryz.ntmps164;go_wp2_with (first
   |(go_at_call 188;refine(MQ.out).mono ?_;rintro e w1 ⟨rfl,rfl⟩)
   |fail)
  go_ret;exact⟨rfl,vz _ _⟩
 have hc:chk s=errB (dP (bn s)):=(by unfold chk errB;rw[if_neg h0,if_neg hz,if_neg hl]);rw[hc];obtain⟨w0,vE⟩: ∃w0,w0=w.alloc (.cells #[.int .i64 0] 32):=⟨_,rfl⟩;have vF:Below w.heap.size w w0:=(by rw[vE];exact vc);have hE:w0.heap[w.heap.size]? =some (.cells #[.int .i64 0] 32 (0,0)):=(by rw[vE];exact ab w _);have wz:w0.heap.size=w.heap.size+1:=(by rw[vE];simp);have Hu:=pcs_chk w.heap.size s w0 (fun w1 l=>Below w.heap.size w w1/\w1.heap[w.heap.size]? =some (.cells #[.int .i64 (errB (dP l))] 32 (0,0))) (fun l=> !dP l) hs
  (fun w1 w2 l ⟨h1,h2⟩ hm Lj=>⟨h1.trans (hm.below (fun b hb=>by have:=h1.size;omega) h1.size),(hm.block _ (uZ h2).1 (by omega)).trans h2⟩)
  ⟨vF.alloc (by omega) _,(ve _ _ _ (by omega)).trans hE⟩
  (fun w1 l x _ _ hk ⟨h1,h2⟩=>(uk w.heap.size x (dP l) w1 h2).mono fun e w2 ⟨he,h3,h4⟩=>⟨by rw[he,fE],⟨h1.trans (h4.below (fun b hb=>by omega) h1.size),by rw[fE];exact h3⟩,h4.block _ hk (by omega)⟩)
 have vY:=va vE;have HPC:=va Hu;clear Hu vE hz hc vF hE;go_enter Tryz.func164,Tryz.ntmps164;go_upto_region 8 with(first
  |(go_at_call 188;refine(MQ.out).mono ?_;rintro e w1 ⟨rfl,rfl⟩)
  |fail)
 rw[<-vY.out];go_wp2_with (first
  |(go_at_call 183;refine(HPC.out).mono ?_;rintro e w1 ⟨rfl,l,⟨vD,Bv⟩,xm⟩;have c1:=aa Bv 0;have vJ:=va vD;have HL1:=va xm;clear vD Bv xm)
  |fail)
 have hlq:dP l=dP (bn s):=by
  rcases HL1.out with e1|⟨r,e1,e2⟩
  ·rw[e1]
  ·have e3:dP l=true:=by cases hc:dP l with
    |true=>rfl
    |false=>rw[hc]at e2;cases e2
   rw[<-e1,nA e3,e3]
 rw[<-hlq];go_ret;exact⟨rfl,vJ.out⟩
end
section
open Go.RowKit Go.Sort
variable {x:ByteArray}
theorem nG (h:aL x=false):x=⟨#[]⟩\/x=⟨#[46]⟩:=by
 unfold aL at h;have h1:(x.data== #[] || x.data== #[46])=true:=by
  cases hc:(x.data== #[] || x.data== #[46])with
  |true=>rfl
  |false=>rw[hc]at h;cases h
 rcases Bool.or_eq_true_iff.1 h1 with e|e
 ·left;cases x with|mk d=>exact congrArg ByteArray.mk (eq_of_beq e)
 ·right;cases x with|mk d=>exact congrArg ByteArray.mk (eq_of_beq e)
theorem iR (h:aL x=true): ¬x.toList=[]/\(!x.toList.isEmpty)=true/\(!x.toList==[46])=true:=by
 have h1: ∀a:List UInt8,x.toList=a->x=⟨a.toArray⟩:=fun a e=>by
  cases x with|mk d=>rw[ByteArray.toList_eq]at e;rw[<-e]
 have n1: ¬x.toList=[]:=fun e=>by rw[h1 _ e]at h;cases h
 refine⟨n1,?_,?_⟩
 ·cases hc:x.toList with
  |nil=>exact absurd hc n1
  |cons a l=>rfl
 ·cases hc:(x.toList==[46])with
  |false=>rfl
  |true=>rw[h1 _ (eq_of_beq hc)]at h;cases h
theorem tf (bo:Nat) (x:ByteArray) (w:World) (h:aL x=false):Calls Tryz.prog 184 (#[.string x]++ #[.pointer (some ⟨bo,0,none⟩)]) w fun e w'=>e= .returned (.bool true)/\w'=w:=by
 rcases nG h with rfl|rfl
 all_goals
  clear h;go_enter Tryz.func184,Tryz.ntmps184;go_wp2_with fail;go_ret;exact⟨rfl,rfl⟩
variable {w:World} {base cap:Nat} {A:Option Addr} {l:List ByteArray}
theorem OwnS.form (h:OwnS w base A cap l):(A=none/\l=[]/\cap=0)\/ ∃g,A=some ⟨g,0,none⟩/\base<=g/\g<w.heap.size/\l.length<=cap:=by
 rcases h.2 with⟨h2,h3⟩|⟨g,vA,cur,h1,h2,h3,h4,_⟩
 ·injection h2 with e1 e2 e3;exact .inl ⟨e1,by simpa using h3,e3⟩
 ·injection h1 with e1 e2 e3;exact .inr ⟨g,e1,h2,(uZ h3).1,by omega⟩
theorem OwnS.lower {Bn:Nat} (h:OwnS w base A cap l) (hb:Bn<=base):OwnS w Bn A cap l:=by
 refine⟨h.1,?_⟩;rcases h.2 with h2|⟨g,vA,cur,h1,h2,h3⟩
 ·exact .inl h2
 ·exact .inr ⟨g,vA,cur,h1,by omega,h3⟩
variable {bo:Nat}
theorem StrRow.cell {w0 w1:World} {n:Nat} {ty:TypeId} (hF:(A=none/\l=[]/\cap=0)\/ ∃g,A=some ⟨g,0,none⟩/\base<=g/\g<w.heap.size/\l.length<=cap) (hAB: ∀g,A=some ⟨g,0,none⟩->g≠bo)
  (hB:w.heap[bo]? =some (.cells #[.slice A n cap] ty (0,0))) (hb:Below w.heap.size w w0) (hg:w0.grownBy w1 (A.map (·.block))):w1.heap[bo]? =some (.cells #[.slice A n cap] ty (0,0)):=by
 have za:=(uZ hB).1;refine(hg.block bo (vh za hb.size) fun e=>?_).trans ((hb.block bo za).trans hB);rcases hF with⟨e',_⟩|⟨g',e',_,_,_⟩
 ·rw[e']at e;cases e
 ·rw[e']at e;exact hAB g' e' (by simpa using e.symm)
def fM (bo base:Nat) (l:List ByteArray) (w:World):Prop:= ∃A cap,w.heap[bo]? =some (.cells #[.slice A l.length cap] 107 (0,0))/\OwnS w base A cap l/\(∀g,A=some ⟨g,0,none⟩->g≠bo)
theorem qZ (bo base:Nat) (x:ByteArray) (l:List ByteArray) (w:World) (h:aL x=true) (hB:fM bo base l w) (wb:l.length<100000) (hbz:base<=w.heap.size):
  Calls Tryz.prog 184 (#[.string x]++ #[.pointer (some ⟨bo,0,none⟩)]) w fun e w'=>e= .returned (.bool true)/\fM bo base (l++[x]) w'/\Mod (fun b=>b=bo\/base<=b) w w':=by
 obtain⟨A,cap,hB,hO,hA⟩:=hB;have c0:w.cell? ⟨bo,0,none⟩=some (.slice A l.length cap):=aa hB 0;have f0:w.frozen? ⟨bo,0,none⟩=false:=ae hB 0;have HB:=va hB;clear hB;obtain⟨t1,t2,t3⟩:=iR h;have za:bo<w.heap.size:=(uZ HB.out).1;have xn:=OwnS.form hO;obtain⟨k,hk⟩: ∃k,k=l.length:=⟨_,rfl⟩;rw[<-hk]at c0;have xV:=va ((vz w.heap.size w).alloc (vd _) (.cells #[.string x] 9));have hfew':k<100000:=(by omega);have HF:=va xn;have ID:=va hA;have HO:=va hO;have HK:=va hk;clear h hA hO hk xn wb;have HB':Hid (w.heap[bo]? =some (.cells #[.slice A k cap] 107 (0,0))):=(by have:=HB.out;rw[<-HK.out]at this;exact va this);clear HB;go_enter Tryz.func184,Tryz.ntmps184;go_wp2_with (first
  |(at_builtin;refine ms rfl (.tmp 10) (.tmp 12) rfl base A cap l (HK.out▸rfl) (World.ownsRow.alloc HO.out _) x w.heap.size 1 rfl (ab _ _) (by rw[<-HK.out];omega) (by simp;omega) ?_;intro g vA w1 ho hg wK vH;rw[<-HK.out];have xE:=StrRow.cell HF.out ID.out HB'.out xV.out hg;have c1:=aa xE 0;have f1:=ae xE 0;have vJ:=va xE;have vS:=va ho;have HG:=va hg;have Cv:=va wK;clear xE ho hg wK)
  |fail)
 go_ret;have hg:=HG.out;have hz:=hg.size;have wg:w.heap.size+1<=w1.heap.size:=(by simpa using hz);have FZ:g≠bo:=by
  rcases Cv.out with e|e
  ·cases hAA:A with
   |none=>rw[hAA]at e;cases e
   |some ad=>
    rcases HF.out with⟨e',_⟩|⟨g',e',_,_,_⟩
    ·rw[hAA]at e';cases e'
    ·have h1:=ID.out g' e';rw[e']at e;simp at e;omega
  ·simp at e;omega
 have Zf:base<=g:=by
  rcases Cv.out with e|e
  ·rcases HF.out with⟨e',_⟩|⟨g',e',h2,_,_⟩
   ·rw[e']at e;cases e
   ·rw[e']at e;simp at e;omega
  ·simp at e;omega
 have xy:=jH vJ.out (y:= .slice (some ⟨g,0,none⟩) (k+1) vA);have hm:=aj (S:=fun b=>b=bo) (w:=w1) (b:=bo) rfl 0 (.slice (some ⟨g,0,none⟩) (k+1) vA);refine⟨rfl,⟨some ⟨g,0,none⟩,vA,by rw[vf,<-HK.out];exact xy,OwnS.same vS.out fun g' e'=>by
  injection e' with e';injection e' with e';exact hm.block g' (e'▸vH) (by omega),fun g' e'=>by
  injection e' with e';injection e' with e';omega⟩,?_⟩
 have vD:Mod (fun b=>b=bo\/base<=b) w w1:=⟨hg.os,hg.tape,hg.output,by omega,fun b hb hn=>(hg.block b (by simp;omega) (fun e=>by
  rcases HF.out with⟨e',_⟩|⟨g',e',h2,_,_⟩
  ·rw[e']at e;cases e
  ·rw[e']at e;simp at e;exact hn (.inr (by omega)))).trans (ve _ _ _ (by omega))⟩
 exact vD.trans (Out.refl _ _) (hm.sub fun b hb=> .inl hb)
theorem fM.mod {w':World} {X:Nat->Prop} (h:fM bo base l w) (hm:Mod X w w') (hX: ¬X bo) (UH: ∀b,base<=b-> ¬X b):fM bo base l w':=by
 obtain⟨A,cap,hB,hO,hA⟩:=h;refine⟨A,cap,(hm.block bo (uZ hB).1 hX).trans hB,hO.same fun g hg=>?_,hA⟩;rcases hO.form with⟨e,_⟩|⟨g',e,h1,h2,_⟩
 ·rw[e]at hg;cases hg
 ·rw[e]at hg;injection hg with hg;injection hg with hg;subst hg;exact hm.block _ h2 (UH _ h1)
theorem td (bo:Nat) (s:ByteArray) (w:World) (R:World->List ByteArray->Prop) (go:List ByteArray->Bool) (Lj:s.size<=1000000000)
  (hk: ∀w1 w2 l,R w1 l->Mod (fun b=>b=w.heap.size) w1 w2->w1.heap.size=w2.heap.size->R w2 l)
  (h0:R (w.alloc (.stringIter s 0)) [])
  (xo: ∀w1 l x,l.length<=s.size->x.size<=s.size->w.heap.size<w1.heap.size->R w1 l->Calls Tryz.prog 184 (#[.string x]++ #[.pointer (some ⟨bo,0,none⟩)]) w1 fun e w2=>e= .returned (.bool (go (l++[x])))/\R w2 (l++[x])/\w2.heap[w.heap.size]? =w1.heap[w.heap.size]?):
  Calls Tryz.prog 183 #[.string s, .func (.func 184) #[] #[.pointer (some ⟨bo,0,none⟩)]] w fun e w'=>e= .returned (.tuple #[])/\ ∃l,R w' l/\(l=bn s\/ ∃r,l++r=bn s/\go l=false):=by
 have CD:=va xo;have Ot:=va hk;have H0:=va h0;clear xo hk h0;go_enter Tryz.func183,Tryz.ntmps183;go_wp2_with fail;go_loopw [4] (fun i wr=> ∃pos fr l,pos<=s.size/\fr<=pos/\i= .int .i64 ((fr:Nat):Int)/\wr.heap[w.heap.size]? =some (.stringIter s pos)/\R wr l/\l++cuts s pos fr=bn s) (fun _ wr=>s.size-wr.iterPos w.heap.size)
 case atStart=>exact⟨0,0,[],by omega,by omega,rfl,World.iter_heap w s 0,H0.out,rfl⟩
 case round=>
  obtain⟨pos,fr,l,hp,yw,rfl,hit,hR,hcut⟩:=hrel;have wo:=iterPos_of hit;have MM:=va hit;have HR:=va hR;have Ad:=va hcut;clear hit hR hcut;have Pu:l.length<=s.size:=by
   have h1:=congrArg List.length Ad.out;have h2:=cx s;have h3:0<(cuts s pos fr).length:=by
    by_cases c:pos<s.size
    ·unfold cuts;cases hz:s.size-pos with
     |zero=>omega
     |succ z=>
      clear h1 h2;have: ∀z pos fr,0<(mj s z pos fr).length:=by
       intro z
       induction z with
       |zero=>intro pos fr;exact Nat.zero_lt_one
       |succ z ih=>
        intro pos fr;unfold mj;split
        ·split
         ·simp
         ·exact ih _ _
        ·exact Nat.zero_lt_one
      exact this _ _ _
    ·rw[eI c];exact Nat.zero_lt_one
   rw[vf]at h1;omega
  have vH:=(uZ MM.out).1;by_cases De:pos<s.size
  ·obtain⟨k1,k2,k3,k4⟩:=mV s pos De;obtain⟨r,hr⟩: ∃r,r=(Utf8.decode s pos).1:=⟨_,rfl⟩;obtain⟨d,hd⟩: ∃d,d=(Utf8.decode s pos).2:=⟨_,rfl⟩;have Ln:=fun ty=>Go.Lib.run_next_any_at (P:=Tryz.prog) wr w.heap.size s pos ty MM.out De;rw[<-hr,<-hd]at Ln;rw[<-hr]at k3 k4;rw[<-hd]at k1 k2 k3 k4;have xJ:Mod (fun b=>b=w.heap.size) wr (wr.iterAt w.heap.size s (pos+d)):=⟨rfl,rfl,rfl,by rw[Go.Lib.iterAt_size];exact vd _,fun b _ hb=>Go.Lib.iterAt_other wr w.heap.size b s _ hb⟩;have Ax:=Ot.out _ _ _ HR.out xJ (Go.Lib.iterAt_size wr w.heap.size s (pos+d)).symm;have DK:=Go.Lib.iterAt_heap wr w.heap.size s pos (pos+d) MM.out;have wg:=Go.Lib.iterAt_size wr w.heap.size s (pos+d);obtain⟨w1,hw⟩: ∃w1,w1=wr.iterAt w.heap.size s (pos+d):=⟨_,rfl⟩;rw[<-hw]at Ax DK Ln wg;have QP:=va DK;have QC:=va Ax;have hp1:=iterPos_of DK;clear DK Ax hw xJ hr hd;by_cases FO:r=47
   ·subst FO;obtain⟨k5,rfl⟩:=k3 rfl;have ye:=va (show(l++[s.extract fr pos])++cuts s (pos+1) (pos+1)=bn s by rw[List.append_assoc,List.singleton_append,<-fL De k5];exact Ad.out);have wh:=CD.out w1 l (s.extract fr pos) Pu (by rw[ByteArray.size_extract];omega) (by omega) QC.out;clear k3 k4 k5;cases Eh:go (l++[s.extract fr pos])with
    |true=>
     rw[Eh]at wh;have zu:=va wh;have Ow:=va Eh;clear wh Eh;go_wp2_with (first
      |(go_at_call 184;refine(zu.out).mono ?_;rintro e w2 ⟨rfl,yc,Aj⟩;have CU:=va yc;have Wg:=va (Aj.trans QP.out);have hp2:=iterPos_of Wg.out;clear yc Aj)
      |fail)
     go_roundw
     case rel=>exact⟨pos+1,pos+1,_,by omega,by omega,by go_num,Wg.out,CU.out,ye.out⟩
     case measure=>(rw[hp2,wo];omega)
    |false=>
     rw[Eh]at wh;have zu:=va wh;have Ow:=va Eh;clear wh Eh;go_wp2_with (first
      |(go_at_call 184;refine(zu.out).mono ?_;rintro e w2 ⟨rfl,yc,Aj⟩;have CU:=va yc;clear yc Aj)
      |fail)
     refine bodyPost_ret (results_none rfl _ _ _) rfl ?_;exact⟨rfl,_,CU.out, .inr ⟨_,ye.out,Ow.out⟩⟩
   ·have vK:(((r:Nat):Int) != 47)=true:=(by rw[bne_iff_ne];omega);have ye:=va (show l++cuts s (pos+d) fr=bn s by rw[<-nP d k2 (k4 FO)];exact Ad.out);clear k3 k4 FO;go_wp2_with fail;go_roundw
    case rel=>exact⟨pos+d,fr,l,k2,by omega,rfl,QP.out,QC.out,ye.out⟩
    case measure=>(rw[hp1,wo];omega)
  ·have Ln:=fun ty=>Go.Lib.run_next_end_at (P:=Tryz.prog) wr w.heap.size s pos ty MM.out De;have ye:=va (show l++[s.extract fr s.size]=bn s by rw[<-eI De];exact Ad.out);have wh:=CD.out wr l (s.extract fr s.size) Pu (by rw[ByteArray.size_extract];omega) vH HR.out;have zu:=va wh;clear wh;go_wp2_with (first
    |(go_at_call 184;refine(zu.out).mono ?_;rintro e w2 ⟨rfl,yc,Aj⟩;have CU:=va yc;clear yc Aj)
    |fail)
   go_end0;exact⟨rfl,_,CU.out, .inl ye.out⟩
theorem fg (l:List ByteArray) (h:aL x=true):(l++[x]).filter aL=l.filter aL++[x]:=by
 rw[List.filter_append,List.filter_cons_of_pos h];rfl
theorem fS (l:List ByteArray) (h:aL x=false):(l++[x]).filter aL=l.filter aL:=by
 rw[List.filter_append,List.filter_cons_of_neg (by rw[h];decide)];simp
theorem fQ {tmps:Array Value} {v b r:Value} (h2:tmps.getD 2 undef= .pointer (some ⟨bo,0,none⟩)) (h3:tmps.getD 3 undef=b) (h4:tmps.getD 4 undef=r) (hc:w.cell? ⟨bo,0,none⟩=some v) (hv:v.oneCell'=true):
  (results Tryz.f161 tmps).run Tryz.prog w= .ok (.tuple #[v,b,r]) w:=by
 rw[iu rfl,h2,h3,h4]
 go_simp
theorem te (s:ByteArray) (w:World) (hs:s.size<=1000000000) (hc:chk s≠0):Calls Tryz.prog 161 #[.string s] w fun e w'=>e= .returned (.tuple #[.slice none 0 0, .bool false, .int .i64 (chk s)])/\Below w.heap.size w w':=by
 have hq:=fun w0=>pk s w0 hs;obtain⟨r,hr⟩: ∃r,r=chk s:=⟨_,rfl⟩;rw[<-hr]at hq hc⊢;have CO:=ab w (.cells #[.slice none 0 0] 107);have vK:(r != 0)=true:=(by rw[bne_iff_ne];exact hc);have HQ:=va hq;have Re:=va CO;clear hq hr hc CO;go_enter Tryz.func161,Tryz.ntmps161;go_wp2_with (first
  |(go_at_call 164;refine(HQ.out _).mono ?_;rintro e w1 ⟨rfl,vD⟩;have hB:=(vD.block _ (by simp)).trans Re.out;have c1:=aa hB 0;have f1:=ae hB 0;have HB:=va hB;clear hB))
 have xy:=jH HB.out (y:= .slice none 0 0);refine bodyPost_ret (v:= .tuple #[.slice none 0 0, .bool false, .int .i64 r]) (fQ rfl rfl rfl (aa xy 0) rfl) rfl ?_;exact⟨rfl,(vc.trans (vD.mono (by simp))).setCell (vd _) _⟩
def cl (s:ByteArray) (w:World) (e:Ending) (w':World):Prop:= ∃A cap,e= .returned (.tuple #[.slice A (aq s).length cap, .bool (Lib.hasPrefix s.data.toList [47]), .int .i64 0])/\OwnS w' w.heap.size A cap (aq s)/\Below w.heap.size w w'
theorem parts_ok (s:ByteArray) (w:World) (hc:chk s=0):Calls Tryz.prog 161 #[.string s] w (cl s w):=by
 obtain⟨h1,h2,_,_⟩:=da hc;have hq:=fun w0=>pk s w0 (by omega);rw[hc]at hq;have CO:=ab w (.cells #[.slice none 0 0] 107);obtain⟨w0,vE⟩: ∃w0,w0=w.alloc (.cells #[.slice none 0 0] 107):=⟨_,rfl⟩;rw[<-vE]at CO;have wz:w0.heap.size=w.heap.size+1:=(by rw[vE];simp);have za:Below w.heap.size w w0:=(by rw[vE];exact vc);have Hu:=fun(w1:World) (hb:Below w0.heap.size w0 w1)=>td w.heap.size s w1 (fun w2 l=>Below w.heap.size w w2/\w1.heap.size+1<=w2.heap.size/\fM w.heap.size (w1.heap.size+1) (l.filter aL) w2) (fun l=>true) (by omega)
  (fun w2 w3 l ⟨a1,a2,a3⟩ hm Lj=>⟨a1.trans (hm.below (fun b e=>by have:=hb.size;omega) a1.size),by omega,a3.mod hm (by have:=hb.size;omega) (fun b h=>by omega)⟩)
  ⟨(za.trans (hb.mono (by omega))).alloc (by have:=hb.size;omega) _,by simp,none,0,(ve _ _ _ (by have:=hb.size;omega)).trans ((hb.block _ (by omega)).trans CO),OwnS.nil _ _,fun g e=>by cases e⟩
  (fun w2 l x hl hx hk ⟨a1,a2,a3⟩=>by
   cases hp:aL x with
   |true=>
    refine(qZ w.heap.size (w1.heap.size+1) x (l.filter aL) w2 hp a3 (by have:=List.length_filter_le aL l;omega) a2).mono ?_;rintro e w3 ⟨rfl,b1,b2⟩;rw[fg l hp];exact⟨rfl,⟨a1.trans (b2.below (fun b e=>by have:=hb.size;omega) a1.size),vx a2 b2.size,b1⟩,b2.block _ hk (by have:=hb.size;omega)⟩
   |false=>
    refine(tf w.heap.size x w2 hp).mono ?_;rintro e w3 ⟨rfl,rfl⟩;rw[fS l hp];exact⟨rfl,⟨a1,a2,a3⟩,rfl⟩)
 have Ta:=fun w0=>ro s ⟨#[47]⟩ w0;obtain⟨pb,hpb⟩: ∃pb,pb=Lib.hasPrefix s.data.toList [47]:=⟨_,rfl⟩;have Np: ∀w0,Calls Tryz.prog 185 #[.string s, .string ⟨#[47]⟩] w0 fun e w'=>e= .returned (.bool pb)/\w'=w0:=fun w0=>by rw[hpb];exact Ta w0
 unfold cl;rw[<-hpb];have HQ:=va hq;have vY:=va vE;have Re:=va CO;have HPC:=va Hu;have HPR:=va Np;clear hq vE CO Hu Ta Np hpb hc h1;go_enter Tryz.func161,Tryz.ntmps161;go_upto_region 1 with(fail);rw[<-vY.out];go_wp2_with (first
  |(go_at_call 164;refine(HQ.out _).mono ?_;rintro e w1 ⟨rfl,vD⟩)
  |(go_at_call 183;refine(HPC.out w1 vD).mono ?_;rintro e w2 ⟨rfl,l,⟨vM,wm,A,cap,hc,hO,hA⟩,hl⟩;have c1:=aa hc 0;have f1:=ae hc 0;have HC:=va hc;have HO:=va hO;have HA:=va hA;have HL:=va hl;clear hc hO hA hl))
 go_region_with
  ((
   first
   |(go_at_call 185;refine(HPR.out _).mono ?_;rintro e w3 ⟨rfl,rfl⟩)))
 all_goals
  go_wp2_with fail;have wE:l=bn s:=by
   rcases HL.out with e|⟨r,_,e⟩
   ·exact e
   ·cases e
  have xy:=jH HC.out (y:= .slice A (l.filter aL).length cap);have hm:=aj (S:=fun b=>b=w.heap.size) (w:=w2) rfl 0 (.slice A (l.filter aL).length cap);have hz:=vM.size;refine bodyPost_ret (v:= .tuple #[.slice A (aq s).length cap, .bool pb, .int .i64 0]) (fQ rfl rfl rfl (by have h9:=aa xy 0;have h8:(aq s).length=(l.filter aL).length:=(congrArg (fun z=>(List.filter aL z).length) wE).symm;rw[h8];exact h9) rfl) rfl ?_;refine⟨A,cap,rfl,?_,?_⟩
  ·have yQ:OwnS (w2.setCell ⟨w.heap.size,0,none⟩ (.slice A (l.filter aL).length cap)).drew (w1.heap.size+1) A cap (aq s):=by
    unfold aq;rw[<-wE];refine OwnS.same HO.out fun g hg=>?_;rcases(OwnS.form HO.out)with⟨e,_⟩|⟨g',e,k1,k2,_⟩
    ·rw[e]at hg;cases hg
    ·rw[e]at hg;injection hg with hg;injection hg with hg;subst hg;have:=vD.size;exact hm.block _ k2 (by omega)
   exact yQ.lower (by have:=vD.size;omega)
  ·exact((Mod.of vM).trans (Out.refl _ _) hm.drew).below (S:=fun b=>b=w.heap.size) (fun b hb=>by omega) (vd _)
end
section
structure Ent where
 path:ByteArray
 kind:Nat
 mode:Nat
 uid:Nat
 gid:Nat
 n:Nat
 dat:Nat->Nat
 «to»:ByteArray
structure Nd where
 kind:Nat
 mode:Nat
 uid:Nat
 gid:Nat
 n:Nat
 up:Nat
 name:ByteArray
 dat:Nat->Nat
 «to»:ByteArray
def aC:Nd:=⟨2,493,0,0,0,0,⟨#[]⟩,fun _ =>0,⟨#[]⟩⟩
def dn (m:Nat):Bool:=bits .andNot .u16 (m:Int) 2559 != 0
def dots (l:List ByteArray):Bool:=l.any fun x=>x.data== #[46,46]
def may (e:Ent):Int:=
 if e.kind<1\/3<e.kind\/dn e.mode=true then 1
 else if chk e.path≠0\/Lib.hasPrefix e.path.data.toList [47]=false\/aq e.path=[]\/Lib.hasSuffix e.path.data.toList [47]=true\/dots (aq e.path)=true then 1
 else if(e.kind≠1/\0<e.n)\/(e.kind≠3/\e.to.size≠0)then 1
 else if e.kind=3/\chk e.to≠0 then 1
 else if 65536<e.n then 12 else 0
def ak (F:List Nd) (i:Nat):Nat:=match F[i]? with|some y=>y.kind|none=>0
def aH (F:List Nd) (d:Nat):List (ByteArray×Nat):=
 (List.range F.length).filterMap fun i=>match F[i]? with|some y=>if 0<i/\y.up=d then some (y.name,i)else none|none=>none
def cU (l:List (ByteArray×Nat)) (x:ByteArray):Option Nat:=(l.find? fun y=>decide (y.1=x)).map (·.2)
def atM (F:List Nd):Nat->List ByteArray->Option Nat
 |i,[]=>some i
 |i,x::l=>if ak F i=2 then(match cU (aH F i) x with|some j=>atM F j l|none=>none)else none
def bD (e:Ent) (up:Nat) (x:ByteArray):Nd:=⟨e.kind,e.mode,e.uid,e.gid,e.n,up,x,e.dat,e.to⟩
def addM (F:List Nd) (e:Ent):Int×List Nd:=
 if may e≠0 then(may e,F)
 else if(atM F 0 (aq e.path)).isSome=true then(7,F)
 else match atM F 0 (aq e.path).dropLast with
  |none=>(3,F)
  |some up=>if ak F up≠2 then(8,F)else(0,F++[bD e up ((aq e.path).getLastD ⟨#[]⟩)])
def newM (F:List Nd):Nat->List Ent->Int×Int×List Nd
 |_,[]=>(0,0,F)
 |i,e::l=>if(addM F e).1≠0 then((addM F e).1,(i:Int),F)else newM (addM F e).2 (i+1) l
variable {F:List Nd} {i:Nat}
theorem ga {y:Nd} (h:F[i]? =some y):ak F i=y.kind:=by unfold ak;rw[h]
theorem cI (y:Nd) (h:i<F.length):ak (F++[y]) i=ak F i:=by
 unfold ak;rw[vk h]
theorem fT {α β:Type} {f g:α->Option β} : ∀ {l:List α},(∀x∈l,f x=g x)->l.filterMap f=l.filterMap g
 | [],_ =>rfl
 |x::l,h=>by
  rw[List.filterMap_cons,List.filterMap_cons,h x (vv ..),fT fun y hy=>h y (vu _ hy)]
theorem iP (F:List Nd) (y:Nd) (d:Nat) (h:0<F.length):aH (F++[y]) d=aH F d++if y.up=d then [(y.name,F.length)]else []:=by
 unfold aH;rw[vf,vm,List.range_succ,List.filterMap_append];congr 1
 ·refine fT fun i hi=>?_;rw[vk (List.mem_range.1 hi)]
 ·simp only[List.filterMap_cons,List.filterMap_nil];rw[vj (vd _)];simp only[Nat.sub_self,List.getElem?_cons_zero];by_cases hu:y.up=d
  ·rw[if_pos hu,if_pos ⟨h,hu⟩]
  ·rw[if_neg hu,if_neg (fun e=>hu e.2)]
theorem bC {d:Nat} {x:ByteArray×Nat} (h:x∈aH F d):x.2<F.length/\0<x.2/\ ∃y,F[x.2]? =some y/\y.up=d/\y.name=x.1:=by
 unfold aH at h;obtain⟨i,hi,h2⟩:=List.mem_filterMap.1 h;have hl:=List.mem_range.1 hi;cases hf:F[i]? with
 |none=>rw[hf]at h2;cases h2
 |some y=>
  rw[hf]at h2;simp only at h2;split at h2
  ·next h3=>
   injection h2 with h2;subst h2;exact⟨hl,h3.1,y,hf,h3.2,rfl⟩
  ·cases h2
variable {x:ByteArray} {j:Nat}
theorem ei {l:List (ByteArray×Nat)} (h:cU l x=some j):(x,j)∈l:=by
 unfold cU at h;cases hf:l.find? (fun y=>decide (y.1=x))with
 |none=>rw[hf]at h;cases h
 |some y=>
  rw[hf]at h;injection h with h;have h1:=List.mem_of_find?_eq_some hf;have h2:=List.find?_some hf;have h3:y.1=x:=(by simpa using h2);rw[<-h3,<-h];exact h1
theorem rk {l:List (ByteArray×Nat)} (h:cU l x=none): ∀y∈l,y.1≠x:=by
 unfold cU at h;intro y hy;have:=List.find?_eq_none.1 (by simpa using h:l.find? (fun y=>decide (y.1=x))=none) y hy;simpa using this
theorem uu (l:List ByteArray): ∀ {i j:Nat},i<F.length->atM F i l=some j->j<F.length:=by
 induction l with
 |nil=>intro i j h1 h2;unfold atM at h2;injection h2 with h2;omega
 |cons x l ih=>
  intro i j h1 h2;unfold atM at h2;split at h2
  ·split at h2
   ·next k hk=>exact ih (bC (ei hk)).1 h2
   ·cases h2
  ·cases h2
variable {l:List ByteArray}
theorem atM_go (h:ak F i=2) (hj:cU (aH F i) x=some j):atM F i (x::l)=atM F j l:=by
 rw[atM,if_pos h,hj]
theorem atM_no (h:ak F i=2) (hj:cU (aH F i) x=none):atM F i (x::l)=none:=by
 rw[atM,if_pos h,hj]
theorem atM_leaf (h:ak F i≠2):atM F i (x::l)=none:=by
 rw[atM,if_neg h]
theorem atM_snoc (l:List ByteArray) (x:ByteArray): ∀i,atM F i (l++[x])=match atM F i l with|some u=>atM F u [x]|none=>none:=by
 induction l with
 |nil=>intro i;rfl
 |cons y l ih=>
  intro i;rw[List.cons_append,atM,atM];split
  ·split
   ·exact ih _
   ·rfl
  ·rfl
structure NdOk (N:Nat) (y:Nd):Prop where
 kind:1<=y.kind/\y.kind<=3
 few:y.n<=65536
 up:y.up<N
structure FOk (F:List Nd):Prop where
 each: ∀(i:Nat) (y:Nd),F[i]? =some y->NdOk F.length y
 root: ∃y,F[0]? =some y/\y.kind=2/\y.up=0
theorem FOk.pos (h:FOk F):0<F.length:=by
 obtain⟨y,hy,_⟩:=h.root;exact(List.getElem?_eq_some_iff.1 hy).1
theorem FOk.start:FOk [aC]:=⟨fun i y h=>by
 cases i with
 |zero=>simp at h;subst h;exact⟨by decide,by decide,by decide⟩
 |succ i=>simp at h,⟨_,rfl,rfl,rfl⟩⟩
variable {e:Ent}
theorem eG (h:may e=0):1<=e.kind/\e.kind<=3/\dn e.mode=false/\chk e.path=0/\Lib.hasPrefix e.path.data.toList [47]=true/\aq e.path≠[]/\Lib.hasSuffix e.path.data.toList [47]=false/\dots (aq e.path)=false/\
  (e.kind=1\/e.n=0)/\(e.kind=3\/e.to.size=0)/\(e.kind=3->chk e.to=0)/\e.n<=65536:=by
 unfold may at h;split at h
 ·cases h
 split at h
 ·cases h
 split at h
 ·cases h
 split at h
 ·cases h
 split at h
 ·cases h
 next h1 h2 h3 h4 h5=>
 have g1:dn e.mode=false:=by
  cases hc:dn e.mode with
  |false=>rfl
  |true=>exact absurd (.inr (.inr hc)) h1
 refine⟨by omega,by omega,g1,?_,?_,?_,?_,?_,by omega,by omega,fun hk=>?_,by omega⟩
 ·by_cases c:chk e.path=0
  ·exact c
  ·exact absurd (.inl c) h2
 ·cases hc:Lib.hasPrefix e.path.data.toList [47]with
  |true=>rfl
  |false=>exact absurd (.inr (.inl hc)) h2
 ·intro hc;exact h2 (.inr (.inr (.inl hc)))
 ·cases hc:Lib.hasSuffix e.path.data.toList [47]with
  |false=>rfl
  |true=>exact absurd (.inr (.inr (.inr (.inl hc)))) h2
 ·cases hc:dots (aq e.path)with
  |false=>rfl
  |true=>exact absurd (.inr (.inr (.inr (.inr hc)))) h2
 ·by_cases c:chk e.to=0
  ·exact c
  ·exact absurd ⟨hk,c⟩ h4
theorem mv (h:FOk F) (h0:(addM F e).1=0):FOk (addM F e).2/\(addM F e).2.length=F.length+1/\may e=0/\ ∃up,atM F 0 (aq e.path)=none/\atM F 0 (aq e.path).dropLast=some up/\ak F up=2/\up<F.length/\(addM F e).2=F++[bD e up ((aq e.path).getLastD ⟨#[]⟩)]:=by
 unfold addM at h0⊢;split at h0
 ·next hm=>exact absurd h0 hm
 next hm=>
 split at h0
 ·cases h0
 next ha=>
 rw[if_neg hm,if_neg ha];split at h0
 ·cases h0
 next up hu=>
 split at h0
 ·cases h0
 next hk=>
 rw[hu];show FOk (if ak F up≠2 then((8:Int),F)else(0,F++[bD e up ((aq e.path).getLastD ⟨#[]⟩)])).2/\_;rw[if_neg hk];have JO:may e=0:=(by omega);have Sm:=uu _ h.pos hu;obtain⟨m1,m2,_,_,_,_,_,_,_,_,_,m3⟩:=eG JO;refine⟨⟨fun i y hy=>?_,?_⟩,by simp,JO,up,by simpa using ha,rfl,by omega,Sm,rfl⟩
 ·rw[vf,vm];by_cases hi:i<F.length
  ·rw[vk hi]at hy;have:=h.each i y hy;exact⟨this.kind,this.few,by have:=this.up;omega⟩
  ·rw[vj (by omega)]at hy;have Ca:i-F.length=0:=by
    rcases Nat.eq_zero_or_pos (i-F.length)with e0|e0
    ·exact e0
    ·rw[List.getElem?_eq_none (by simp;omega)]at hy;cases hy
   rw[Ca]at hy;simp at hy;subst hy;exact⟨⟨m1,m2⟩,m3,by show up<_;omega⟩
 ·obtain⟨y,hy,hr⟩:=h.root;exact⟨y,by rw[vk h.pos];exact hy,hr⟩
end
section
open Go.RowKit Go.Sort
def IdxPost (l:List ByteArray) (w:World) (e:Ending) (w':World):Prop:= ∃i:Int,e= .returned (.int .i64 i)/\w'=w/\dots l=decide (0<=i)
variable {l:List ByteArray}
theorem dots_at {k:Nat} {x:ByteArray} (h:l[k]? =some x) (hx:((ByteArray.mk #[46,46]).toList==x.toList)=true):dots l=true:=by
 unfold dots;refine List.any_eq_true.2 ⟨x,vl h,?_⟩;have e:=eq_of_beq hx;rw[ByteArray.toList_eq,ByteArray.toList_eq]at e;rw[beq_iff_eq];exact(Array.toList_inj.1 e).symm
theorem dots_not (h: ∀k,k<l.length-> ∀x,l[k]? =some x->((ByteArray.mk #[46,46]).toList==x.toList)=false):dots l=false:=by
 unfold dots;rw[List.any_eq_false];intro x hx e;obtain⟨k,hk,e2⟩:=List.getElem_of_mem hx;have h1:=h k hk x (by rw[vg hk,e2]);rw[beq_iff_eq]at e;rw[ByteArray.toList_eq,ByteArray.toList_eq,e]at h1;simp at h1
theorem rz (base cap:Nat) (A:Option Addr) (l:List ByteArray) (w:World) (hO:OwnS w base A cap l) (wb:l.length<100000):
  Calls Tryz.prog 187 #[.slice A l.length cap, .string ⟨#[46,46]⟩] w (IdxPost l w):=by
 have xn:=hO.form;have HO:=va hO;obtain⟨n,hn⟩: ∃n,n=l.length:=⟨_,rfl⟩;rw[<-hn]at wb xn⊢;obtain⟨s,hs⟩: ∃s:ByteArray,s=⟨#[46,46]⟩:=⟨_,rfl⟩;rw[<-hs];have HN:=va hn;have HS:=va hs;clear hO hn hs;go_enter Tryz.func187,Tryz.ntmps187;go_wp2_with fail;go_loop [8] (fun i=> ∃k:Nat,k<=n/\i= .int .i64 (k:Int)/\ ∀j,j<k-> ∀x,l[j]? =some x->(s.toList==x.toList)=false) (fun i=>n-(intOf i).toNat)
 case atStart=>exact⟨0,by omega,rfl,fun j hj=>by omega⟩
 case round=>
  obtain⟨k,hk,rfl,vW⟩:=hrel;have zy:=va vW;clear vW;by_cases vH:k<n
  ·rcases xn with⟨_,h2,_⟩|⟨g,hA,_,_,wY⟩
   ·exfalso;have:=HN.out;rw[h2]at this;simp at this;omega
   subst hA;obtain⟨x,hx⟩: ∃x,l[k]? =some x:=⟨_,vg (by rw[<-HN.out];exact vH)⟩;have c0:w.cell? ⟨g,k,none⟩=some (.string x):=OwnS.elem HO.out hx;have HX:=va hx;clear hx;cases hc:(s.toList==x.toList)with
   |true=>
    have HC:=va hc;go_wp2_with fail;go_ret;exact⟨_,rfl,rfl,by rw[dots_at HX.out (by rw[<-HS.out];exact HC.out)];simp⟩
   |false=>
    have HC:=va hc;go_wp2_with fail;go_round
    case rel=>
     refine⟨k+1,by omega,by go_num,fun j hj y hy=>?_⟩;rcases Nat.lt_succ_iff_lt_or_eq.1 hj with h1|h1
     ·exact zy.out j h1 y hy
     ·subst h1;rw[HX.out]at hy;injection hy with hy;subst hy;exact HC.out
    case measure=>simp[intOf];omega
  ·obtain rfl:k=n:=(by omega);go_wp2_with fail;go_ret;exact⟨-1,rfl,rfl,by rw[dots_not (fun j hj y hy=>by rw[<-HS.out];exact zy.out j (by rw[HN.out];exact hj) y hy)];rfl⟩
theorem mn (base cap:Nat) (A:Option Addr) (l:List ByteArray) (w:World) (hO:OwnS w base A cap l) (wb:l.length<100000):
  Calls Tryz.prog 163 #[.slice A l.length cap, .string ⟨#[46,46]⟩] w fun e w'=>e= .returned (.bool (dots l))/\w'=w:=by
 have hi:=va (rz base cap A l w hO wb);cases hd:dots l
 all_goals
  have HD:=va hd;clear hd hO;go_enter Tryz.func163,Tryz.ntmps163;go_wp2_with (first
   |(go_at_call 187;refine(hi.out).mono ?_;rintro e w3 ⟨i,rfl,rfl,Zm⟩;rw[HD.out]at Zm;have hdi2:=Zm.symm;clear Zm)
   |fail)
  go_ret;exact⟨rfl,rfl⟩
end
section
open Go.RowKit Go.Sort
def Ent.val (e:Ent) (A:Option Addr) (c:Nat):Value:= .agg #[.string e.path, .int .u8 (e.kind:Int), .int .u16 (e.mode:Int), .int .u32 (e.uid:Int), .int .u32 (e.gid:Int), .slice A e.n c, .string e.to]
variable {t:ByteArray}
theorem jc (h:t.size=0):(!t.toList.isEmpty)=false:=by
 have e:t=⟨#[]⟩:=by
  cases t with
  |mk d=>exact congrArg ByteArray.mk (Array.eq_empty_of_size_eq_zero h)
 subst e;rw[ByteArray.toList_eq];rfl
theorem lw (h:t.size≠0):(!t.toList.isEmpty)=true:=by
 cases hc:t.toList with
 |nil=>
  exfalso;apply h;have h9:t.data.toList=[]:=(by rw[<-hc];exact(ByteArray.toList_eq t).symm);have h8:t.data.toList.length=0:=(by rw[h9];rfl);exact h8
 |cons x l=>rfl
theorem OwnS.kept {w w':World} {base:Nat} {A:Option Addr} {cap:Nat} {l:List ByteArray} (h:OwnS w base A cap l) (hb:Below w.heap.size w w'):OwnS w' base A cap l:=h.same fun g hg=>by
 rcases h.form with⟨e,_⟩|⟨g',e,_,h2,_⟩
 ·rw[e]at hg;cases hg
 ·rw[e]at hg;injection hg with hg;injection hg with hg;subst hg;exact hb.block _ h2
def VpPost (mr:Int) (L:List ByteArray) (w:World) (e:Ending) (w':World):Prop:=
 ∃A1 vC l,e= .returned (.tuple #[.slice A1 l.length vC, .int .i64 mr])/\OwnS w' w.heap.size A1 vC l/\Below w.heap.size w w'/\(mr=0->l=L)/\(mr≠0->A1=none/\vC=0/\l=[])
theorem dU (x:Ent) (A:Option Addr) (c:Nat) (w:World) (hp:x.path.size<=1000000000) (ht:x.to.size<=1000000000) (hn:x.n<=9223372036854775807):
  Calls Tryz.prog 133 #[x.val A c] w (VpPost (may x) (aq x.path) w):=by
 obtain⟨path,kind,mode,uid,gid,n,dat,lk⟩:=x;simp only at hp ht hn;obtain⟨K,Qh⟩: ∃K:Int,K=(kind:Int):=⟨_,rfl⟩;have Xu:0<=K:=(by omega);obtain⟨w0,vE⟩: ∃w0,w0=w.alloc (.cells #[.string path, .int .u8 K, .int .u16 (mode:Int), .int .u32 (uid:Int), .int .u32 (gid:Int), .slice A n c, .string lk] 93):=⟨_,rfl⟩;have vF:Below w.heap.size w w0:=(by rw[vE];exact vc);have hE:w0.heap[w.heap.size]? =some (.cells #[.string path, .int .u8 K, .int .u16 (mode:Int), .int .u32 (uid:Int), .int .u32 (gid:Int), .slice A n c, .string lk] 93 (0,0)):=(by rw[vE];exact ab w _);have xd:w.heap.size<w0.heap.size:=(uZ hE).1;have d0:w0.cell? ⟨w.heap.size,0,none⟩=some (.string path):=aa hE 0;have HE:=va hE;have vY:=va vE;clear hE vE;unfold Ent.val;simp only;rw[<-Qh];by_cases hc:chk path=0
 rotate_left
 ·have GJ:may ⟨path,kind,mode,uid,gid,n,dat,lk⟩=1:=by
   unfold may;simp only;split
   ·rfl
   ·rw[if_pos (.inl hc)]
  rw[GJ];have VO:=va (fun W=>te path W hp hc);have vK:(chk path != 0)=true:=(by rw[bne_iff_ne];exact hc);obtain⟨r,hr⟩: ∃r,r=chk path:=⟨_,rfl⟩;rw[<-hr]at vK VO;clear GJ hc hr Qh;go_enter Tryz.func133,Tryz.ntmps133;go_upto_region 1 with(fail);rw[<-vY.out];go_wp2_with (first
   |(go_at_call 161;refine(VO.out _).mono ?_;rintro e w1 ⟨rfl,vD⟩;have vG:=(vD.block _ xd).trans HE.out;have e1:w1.cell? ⟨w.heap.size,1,none⟩=some (.int .u8 K):=aa vG 1;have e2:w1.cell? ⟨w.heap.size,2,none⟩=some (.int .u16 (mode:Int)):=aa vG 2;have xF:=va vG;have vJ:=va (vF.trans (vD.mono vF.size));clear vG vD)
   |fail)
  all_goals
   go_ret2;exact⟨none,0,[],rfl,OwnS.nil _ _,vJ.out,(fun e=>by cases e),fun _ =>⟨rfl,rfl,rfl⟩⟩
 have De:=da hc;have SZ:path.size<=200:=De.2.1;obtain⟨L,hL⟩: ∃L,L=aq path:=⟨_,rfl⟩;obtain⟨k,hk⟩: ∃k,k=L.length:=⟨_,rfl⟩;have hkf:k<=201:=(by rw[hk,hL];have:=bj path;omega);obtain⟨pb,hpb⟩: ∃pb,pb=Lib.hasPrefix path.data.toList [47]:=⟨_,rfl⟩;obtain⟨tb,Nh⟩: ∃tb,tb=Lib.hasSuffix path.data.toList [47]:=⟨_,rfl⟩;obtain⟨db,Ah⟩: ∃db,db=dots L:=⟨_,rfl⟩;obtain⟨mb,Eg⟩: ∃mb,mb=dn mode:=⟨_,rfl⟩;have Fw:=fun W=>parts_ok path W hc;unfold cl at Fw;rw[<-hL,<-hpb,<-hk]at Fw;have OP:=fun W=>tail_any path W (by omega);rw[<-Nh]at OP;have hcd: ∀W base A1 vC,OwnS W base A1 vC L->Calls Tryz.prog 163 #[.slice A1 k vC, .string ⟨#[46,46]⟩] W fun e w'=>e= .returned (.bool db)/\w'=W:=fun W base A1 vC ho=>by
  rw[Ah,hk];exact mn base vC A1 L W ho (by omega)
 obtain⟨ct,Mj⟩: ∃ct,ct=chk lk:=⟨_,rfl⟩;have zW:=fun W=>pk lk W ht;rw[<-Mj]at zW;obtain⟨mr,GJ⟩: ∃mr,mr=may ⟨path,kind,mode,uid,gid,n,dat,lk⟩:=⟨_,rfl⟩;rw[<-GJ,<-hL];have vN:mr=if K<1\/3<K\/mb=true then 1 else if pb=false\/k=0\/tb=true\/db=true then 1
   else if(K≠1/\0<n)\/(K≠3/\lk.size≠0)then 1 else if K=3/\ct≠0 then 1 else if 65536<n then 12 else 0:=by
  have i1:(K<1)=(kind<1):=(by apply propext;omega);have i2:(3<K)=(3<kind):=(by apply propext;omega);have i3:(K=1)=(kind=1):=(by apply propext;omega);have i4:(K=3)=(kind=3):=(by apply propext;omega);rw[GJ,hpb,hk,Nh,Ah,Mj,hL,Eg];simp only[i1,i2,i3,i4,ne_eq];unfold may;simp only[hc,ne_eq,not_true_eq_false,false_or,List.length_eq_zero_iff]
 have hmbt:(bits .andNot .u16 (mode:Int) 2559 != 0)=mb:=Eg.symm;have Al:=va Fw;have Ak:=va OP;have FG:=va hcd;have Ec:=va zW;have HK:=va hk;clear Fw OP zW hcd Ah hpb Nh Mj GJ hk hL hc De Qh Eg;by_cases c1:K<1
 ·have hm:mr=1:=(by rw[vN];exact if_pos (.inl c1));subst hm;clear vN;go_enter Tryz.func133,Tryz.ntmps133;go_upto_region 1 with(fail);rw[<-vY.out];go_wp2_with (first
   |(go_at_call 161;refine(Al.out _).mono ?_;rintro e w1 ⟨A1,vC,rfl,wi,vD⟩;have vG:=(vD.block _ xd).trans HE.out;have e0:w1.cell? ⟨w.heap.size,0,none⟩=some (.string path):=aa vG 0;have e1:w1.cell? ⟨w.heap.size,1,none⟩=some (.int .u8 _):=aa vG 1;have e2:w1.cell? ⟨w.heap.size,2,none⟩=some (.int .u16 (mode:Int)):=aa vG 2;have e5:w1.cell? ⟨w.heap.size,5,none⟩=some (.slice A _ c):=aa vG 5;have e6:w1.cell? ⟨w.heap.size,6,none⟩=some (.string lk):=aa vG 6;have xF:=va vG;have vJ:=va (vF.trans (vD.mono vF.size));have vS:=va wi;clear vG vD wi)
   |(go_at_call 162;refine(Ak.out _).mono ?_;rintro e w2 ⟨rfl,rfl⟩)
   |(go_at_call 163;refine(FG.out _ _ _ _ vS.out).mono ?_;rintro e w3 ⟨rfl,rfl⟩)
   |(go_at_call 164;refine(Ec.out _).mono ?_;rintro e w4 ⟨rfl,vZ⟩;have xZ:=(vZ.block _ (uZ xF.out).1).trans xF.out;have f5:w4.cell? ⟨w.heap.size,5,none⟩=some (.slice A _ c):=aa xZ 5;have wV:=va (vJ.out.trans (vZ.mono vJ.out.size));have yd:=va (OwnS.kept vS.out vZ);clear vZ xZ)
   |fail)
  all_goals
   go_ret2;exact⟨none,0,[],rfl,OwnS.nil _ _,(by first|exact wV.out|exact vJ.out),(fun e=>by cases e),fun _ =>⟨rfl,rfl,rfl⟩⟩
 by_cases c2:3<K
 ·have hm:mr=1:=(by rw[vN];exact if_pos (.inr (.inl c2)));subst hm;clear vN;go_enter Tryz.func133,Tryz.ntmps133;go_upto_region 1 with(fail);rw[<-vY.out];go_wp2_with (first
   |(go_at_call 161;refine(Al.out _).mono ?_;rintro e w1 ⟨A1,vC,rfl,wi,vD⟩;have vG:=(vD.block _ xd).trans HE.out;have e0:w1.cell? ⟨w.heap.size,0,none⟩=some (.string path):=aa vG 0;have e1:w1.cell? ⟨w.heap.size,1,none⟩=some (.int .u8 _):=aa vG 1;have e2:w1.cell? ⟨w.heap.size,2,none⟩=some (.int .u16 (mode:Int)):=aa vG 2;have e5:w1.cell? ⟨w.heap.size,5,none⟩=some (.slice A _ c):=aa vG 5;have e6:w1.cell? ⟨w.heap.size,6,none⟩=some (.string lk):=aa vG 6;have xF:=va vG;have vJ:=va (vF.trans (vD.mono vF.size));have vS:=va wi;clear vG vD wi)
   |(go_at_call 162;refine(Ak.out _).mono ?_;rintro e w2 ⟨rfl,rfl⟩)
   |(go_at_call 163;refine(FG.out _ _ _ _ vS.out).mono ?_;rintro e w3 ⟨rfl,rfl⟩)
   |(go_at_call 164;refine(Ec.out _).mono ?_;rintro e w4 ⟨rfl,vZ⟩;have xZ:=(vZ.block _ (uZ xF.out).1).trans xF.out;have f5:w4.cell? ⟨w.heap.size,5,none⟩=some (.slice A _ c):=aa xZ 5;have wV:=va (vJ.out.trans (vZ.mono vJ.out.size));have yd:=va (OwnS.kept vS.out vZ);clear vZ xZ)
   |fail)
  all_goals
   go_ret2;exact⟨none,0,[],rfl,OwnS.nil _ _,(by first|exact wV.out|exact vJ.out),(fun e=>by cases e),fun _ =>⟨rfl,rfl,rfl⟩⟩
 rcases(by cases mb<;>simp:mb=true\/mb=false)with rfl|rfl
 ·have hm:mr=1:=(by rw[vN];exact if_pos (.inr (.inr rfl)));subst hm;clear vN;go_enter Tryz.func133,Tryz.ntmps133;go_upto_region 1 with(fail);rw[<-vY.out];go_wp2_with (first
   |(go_at_call 161;refine(Al.out _).mono ?_;rintro e w1 ⟨A1,vC,rfl,wi,vD⟩;have vG:=(vD.block _ xd).trans HE.out;have e0:w1.cell? ⟨w.heap.size,0,none⟩=some (.string path):=aa vG 0;have e1:w1.cell? ⟨w.heap.size,1,none⟩=some (.int .u8 _):=aa vG 1;have e2:w1.cell? ⟨w.heap.size,2,none⟩=some (.int .u16 (mode:Int)):=aa vG 2;have e5:w1.cell? ⟨w.heap.size,5,none⟩=some (.slice A _ c):=aa vG 5;have e6:w1.cell? ⟨w.heap.size,6,none⟩=some (.string lk):=aa vG 6;have xF:=va vG;have vJ:=va (vF.trans (vD.mono vF.size));have vS:=va wi;clear vG vD wi)
   |(go_at_call 162;refine(Ak.out _).mono ?_;rintro e w2 ⟨rfl,rfl⟩)
   |(go_at_call 163;refine(FG.out _ _ _ _ vS.out).mono ?_;rintro e w3 ⟨rfl,rfl⟩)
   |(go_at_call 164;refine(Ec.out _).mono ?_;rintro e w4 ⟨rfl,vZ⟩;have xZ:=(vZ.block _ (uZ xF.out).1).trans xF.out;have f5:w4.cell? ⟨w.heap.size,5,none⟩=some (.slice A _ c):=aa xZ 5;have wV:=va (vJ.out.trans (vZ.mono vJ.out.size));have yd:=va (OwnS.kept vS.out vZ);clear vZ xZ)
   |fail)
  all_goals
   go_ret2;exact⟨none,0,[],rfl,OwnS.nil _ _,(by first|exact wV.out|exact vJ.out),(fun e=>by cases e),fun _ =>⟨rfl,rfl,rfl⟩⟩
 have n1: ¬(K<1\/3<K\/false=true):=(by simp;omega);rw[if_neg n1]at vN;clear n1;rcases(by cases pb<;>simp:pb=false\/pb=true)with rfl|rfl
 ·have hm:mr=1:=(by rw[vN];exact if_pos (.inl rfl));subst hm;clear vN;go_enter Tryz.func133,Tryz.ntmps133;go_upto_region 1 with(fail);rw[<-vY.out];go_wp2_with (first
   |(go_at_call 161;refine(Al.out _).mono ?_;rintro e w1 ⟨A1,vC,rfl,wi,vD⟩;have vG:=(vD.block _ xd).trans HE.out;have e0:w1.cell? ⟨w.heap.size,0,none⟩=some (.string path):=aa vG 0;have e1:w1.cell? ⟨w.heap.size,1,none⟩=some (.int .u8 _):=aa vG 1;have e2:w1.cell? ⟨w.heap.size,2,none⟩=some (.int .u16 (mode:Int)):=aa vG 2;have e5:w1.cell? ⟨w.heap.size,5,none⟩=some (.slice A _ c):=aa vG 5;have e6:w1.cell? ⟨w.heap.size,6,none⟩=some (.string lk):=aa vG 6;have xF:=va vG;have vJ:=va (vF.trans (vD.mono vF.size));have vS:=va wi;clear vG vD wi)
   |(go_at_call 162;refine(Ak.out _).mono ?_;rintro e w2 ⟨rfl,rfl⟩)
   |(go_at_call 163;refine(FG.out _ _ _ _ vS.out).mono ?_;rintro e w3 ⟨rfl,rfl⟩)
   |(go_at_call 164;refine(Ec.out _).mono ?_;rintro e w4 ⟨rfl,vZ⟩;have xZ:=(vZ.block _ (uZ xF.out).1).trans xF.out;have f5:w4.cell? ⟨w.heap.size,5,none⟩=some (.slice A _ c):=aa xZ 5;have wV:=va (vJ.out.trans (vZ.mono vJ.out.size));have yd:=va (OwnS.kept vS.out vZ);clear vZ xZ)
   |fail)
  all_goals
   go_ret2;exact⟨none,0,[],rfl,OwnS.nil _ _,(by first|exact wV.out|exact vJ.out),(fun e=>by cases e),fun _ =>⟨rfl,rfl,rfl⟩⟩
 by_cases c5:k=0
 ·subst c5;have hm:mr=1:=(by rw[vN];exact if_pos (.inr (.inl rfl)));subst hm;clear vN;go_enter Tryz.func133,Tryz.ntmps133;go_upto_region 1 with(fail);rw[<-vY.out];go_wp2_with (first
   |(go_at_call 161;refine(Al.out _).mono ?_;rintro e w1 ⟨A1,vC,rfl,wi,vD⟩;have vG:=(vD.block _ xd).trans HE.out;have e0:w1.cell? ⟨w.heap.size,0,none⟩=some (.string path):=aa vG 0;have e1:w1.cell? ⟨w.heap.size,1,none⟩=some (.int .u8 _):=aa vG 1;have e2:w1.cell? ⟨w.heap.size,2,none⟩=some (.int .u16 (mode:Int)):=aa vG 2;have e5:w1.cell? ⟨w.heap.size,5,none⟩=some (.slice A _ c):=aa vG 5;have e6:w1.cell? ⟨w.heap.size,6,none⟩=some (.string lk):=aa vG 6;have xF:=va vG;have vJ:=va (vF.trans (vD.mono vF.size));have vS:=va wi;clear vG vD wi)
   |(go_at_call 162;refine(Ak.out _).mono ?_;rintro e w2 ⟨rfl,rfl⟩)
   |(go_at_call 163;refine(FG.out _ _ _ _ vS.out).mono ?_;rintro e w3 ⟨rfl,rfl⟩)
   |(go_at_call 164;refine(Ec.out _).mono ?_;rintro e w4 ⟨rfl,vZ⟩;have xZ:=(vZ.block _ (uZ xF.out).1).trans xF.out;have f5:w4.cell? ⟨w.heap.size,5,none⟩=some (.slice A _ c):=aa xZ 5;have wV:=va (vJ.out.trans (vZ.mono vJ.out.size));have yd:=va (OwnS.kept vS.out vZ);clear vZ xZ)
   |fail)
  all_goals
   go_ret2;exact⟨none,0,[],rfl,OwnS.nil _ _,(by first|exact wV.out|exact vJ.out),(fun e=>by cases e),fun _ =>⟨rfl,rfl,rfl⟩⟩
 rcases(by cases tb<;>simp:tb=true\/tb=false)with rfl|rfl
 ·have hm:mr=1:=(by rw[vN];exact if_pos (.inr (.inr (.inl rfl))));subst hm;clear vN;go_enter Tryz.func133,Tryz.ntmps133;go_upto_region 1 with(fail);rw[<-vY.out];go_wp2_with (first
   |(go_at_call 161;refine(Al.out _).mono ?_;rintro e w1 ⟨A1,vC,rfl,wi,vD⟩;have vG:=(vD.block _ xd).trans HE.out;have e0:w1.cell? ⟨w.heap.size,0,none⟩=some (.string path):=aa vG 0;have e1:w1.cell? ⟨w.heap.size,1,none⟩=some (.int .u8 _):=aa vG 1;have e2:w1.cell? ⟨w.heap.size,2,none⟩=some (.int .u16 (mode:Int)):=aa vG 2;have e5:w1.cell? ⟨w.heap.size,5,none⟩=some (.slice A _ c):=aa vG 5;have e6:w1.cell? ⟨w.heap.size,6,none⟩=some (.string lk):=aa vG 6;have xF:=va vG;have vJ:=va (vF.trans (vD.mono vF.size));have vS:=va wi;clear vG vD wi)
   |(go_at_call 162;refine(Ak.out _).mono ?_;rintro e w2 ⟨rfl,rfl⟩)
   |(go_at_call 163;refine(FG.out _ _ _ _ vS.out).mono ?_;rintro e w3 ⟨rfl,rfl⟩)
   |(go_at_call 164;refine(Ec.out _).mono ?_;rintro e w4 ⟨rfl,vZ⟩;have xZ:=(vZ.block _ (uZ xF.out).1).trans xF.out;have f5:w4.cell? ⟨w.heap.size,5,none⟩=some (.slice A _ c):=aa xZ 5;have wV:=va (vJ.out.trans (vZ.mono vJ.out.size));have yd:=va (OwnS.kept vS.out vZ);clear vZ xZ)
   |fail)
  all_goals
   go_ret2;exact⟨none,0,[],rfl,OwnS.nil _ _,(by first|exact wV.out|exact vJ.out),(fun e=>by cases e),fun _ =>⟨rfl,rfl,rfl⟩⟩
 rcases(by cases db<;>simp:db=true\/db=false)with rfl|rfl
 ·have hm:mr=1:=(by rw[vN];exact if_pos (.inr (.inr (.inr rfl))));subst hm;clear vN;go_enter Tryz.func133,Tryz.ntmps133;go_upto_region 1 with(fail);rw[<-vY.out];go_wp2_with (first
   |(go_at_call 161;refine(Al.out _).mono ?_;rintro e w1 ⟨A1,vC,rfl,wi,vD⟩;have vG:=(vD.block _ xd).trans HE.out;have e0:w1.cell? ⟨w.heap.size,0,none⟩=some (.string path):=aa vG 0;have e1:w1.cell? ⟨w.heap.size,1,none⟩=some (.int .u8 _):=aa vG 1;have e2:w1.cell? ⟨w.heap.size,2,none⟩=some (.int .u16 (mode:Int)):=aa vG 2;have e5:w1.cell? ⟨w.heap.size,5,none⟩=some (.slice A _ c):=aa vG 5;have e6:w1.cell? ⟨w.heap.size,6,none⟩=some (.string lk):=aa vG 6;have xF:=va vG;have vJ:=va (vF.trans (vD.mono vF.size));have vS:=va wi;clear vG vD wi)
   |(go_at_call 162;refine(Ak.out _).mono ?_;rintro e w2 ⟨rfl,rfl⟩)
   |(go_at_call 163;refine(FG.out _ _ _ _ vS.out).mono ?_;rintro e w3 ⟨rfl,rfl⟩)
   |(go_at_call 164;refine(Ec.out _).mono ?_;rintro e w4 ⟨rfl,vZ⟩;have xZ:=(vZ.block _ (uZ xF.out).1).trans xF.out;have f5:w4.cell? ⟨w.heap.size,5,none⟩=some (.slice A _ c):=aa xZ 5;have wV:=va (vJ.out.trans (vZ.mono vJ.out.size));have yd:=va (OwnS.kept vS.out vZ);clear vZ xZ)
   |fail)
  all_goals
   go_ret2;exact⟨none,0,[],rfl,OwnS.nil _ _,(by first|exact wV.out|exact vJ.out),(fun e=>by cases e),fun _ =>⟨rfl,rfl,rfl⟩⟩
 have n2: ¬(true=false\/k=0\/false=true\/false=true):=(by simp;omega);rw[if_neg n2]at vN;clear n2;rcases(by omega:K=1\/K=2\/K=3)with rfl|rfl|rfl
 ·by_cases c8:lk.size=0
  rotate_left
  ·have t0:=lw c8;have hm:mr=1:=(by rw[vN];exact if_pos (.inr ⟨by decide,c8⟩));subst hm;clear vN;go_enter Tryz.func133,Tryz.ntmps133;go_upto_region 1 with(fail);rw[<-vY.out];go_wp2_with (first
    |(go_at_call 161;refine(Al.out _).mono ?_;rintro e w1 ⟨A1,vC,rfl,wi,vD⟩;have vG:=(vD.block _ xd).trans HE.out;have e0:w1.cell? ⟨w.heap.size,0,none⟩=some (.string path):=aa vG 0;have e1:w1.cell? ⟨w.heap.size,1,none⟩=some (.int .u8 _):=aa vG 1;have e2:w1.cell? ⟨w.heap.size,2,none⟩=some (.int .u16 (mode:Int)):=aa vG 2;have e5:w1.cell? ⟨w.heap.size,5,none⟩=some (.slice A _ c):=aa vG 5;have e6:w1.cell? ⟨w.heap.size,6,none⟩=some (.string lk):=aa vG 6;have xF:=va vG;have vJ:=va (vF.trans (vD.mono vF.size));have vS:=va wi;clear vG vD wi)
    |(go_at_call 162;refine(Ak.out _).mono ?_;rintro e w2 ⟨rfl,rfl⟩)
    |(go_at_call 163;refine(FG.out _ _ _ _ vS.out).mono ?_;rintro e w3 ⟨rfl,rfl⟩)
    |(go_at_call 164;refine(Ec.out _).mono ?_;rintro e w4 ⟨rfl,vZ⟩;have xZ:=(vZ.block _ (uZ xF.out).1).trans xF.out;have f5:w4.cell? ⟨w.heap.size,5,none⟩=some (.slice A _ c):=aa xZ 5;have wV:=va (vJ.out.trans (vZ.mono vJ.out.size));have yd:=va (OwnS.kept vS.out vZ);clear vZ xZ)
    |fail)
   all_goals
    go_ret2;exact⟨none,0,[],rfl,OwnS.nil _ _,(by first|exact wV.out|exact vJ.out),(fun e=>by cases e),fun _ =>⟨rfl,rfl,rfl⟩⟩
  have t0:=jc c8;have n3: ¬(((1:Int)≠1/\0<n)\/((1:Int)≠3/\lk.size≠0)):=(by omega);rw[if_neg n3,if_neg (by omega)]at vN;clear n3;by_cases c9:65536<n
  ·have hm:mr=12:=(by rw[vN];exact if_pos c9);subst hm;clear vN;go_enter Tryz.func133,Tryz.ntmps133;go_upto_region 1 with(fail);rw[<-vY.out];go_wp2_with (first
    |(go_at_call 161;refine(Al.out _).mono ?_;rintro e w1 ⟨A1,vC,rfl,wi,vD⟩;have vG:=(vD.block _ xd).trans HE.out;have e0:w1.cell? ⟨w.heap.size,0,none⟩=some (.string path):=aa vG 0;have e1:w1.cell? ⟨w.heap.size,1,none⟩=some (.int .u8 _):=aa vG 1;have e2:w1.cell? ⟨w.heap.size,2,none⟩=some (.int .u16 (mode:Int)):=aa vG 2;have e5:w1.cell? ⟨w.heap.size,5,none⟩=some (.slice A _ c):=aa vG 5;have e6:w1.cell? ⟨w.heap.size,6,none⟩=some (.string lk):=aa vG 6;have xF:=va vG;have vJ:=va (vF.trans (vD.mono vF.size));have vS:=va wi;clear vG vD wi)
    |(go_at_call 162;refine(Ak.out _).mono ?_;rintro e w2 ⟨rfl,rfl⟩)
    |(go_at_call 163;refine(FG.out _ _ _ _ vS.out).mono ?_;rintro e w3 ⟨rfl,rfl⟩)
    |(go_at_call 164;refine(Ec.out _).mono ?_;rintro e w4 ⟨rfl,vZ⟩;have xZ:=(vZ.block _ (uZ xF.out).1).trans xF.out;have f5:w4.cell? ⟨w.heap.size,5,none⟩=some (.slice A _ c):=aa xZ 5;have wV:=va (vJ.out.trans (vZ.mono vJ.out.size));have yd:=va (OwnS.kept vS.out vZ);clear vZ xZ)
    |fail)
   all_goals
    go_ret2;exact⟨none,0,[],rfl,OwnS.nil _ _,(by first|exact wV.out|exact vJ.out),(fun e=>by cases e),fun _ =>⟨rfl,rfl,rfl⟩⟩
  have hm:mr=0:=(by rw[vN];exact if_neg c9);subst hm;clear vN;go_enter Tryz.func133,Tryz.ntmps133;go_upto_region 1 with(fail);rw[<-vY.out];go_wp2_with (first
   |(go_at_call 161;refine(Al.out _).mono ?_;rintro e w1 ⟨A1,vC,rfl,wi,vD⟩;have vG:=(vD.block _ xd).trans HE.out;have e0:w1.cell? ⟨w.heap.size,0,none⟩=some (.string path):=aa vG 0;have e1:w1.cell? ⟨w.heap.size,1,none⟩=some (.int .u8 _):=aa vG 1;have e2:w1.cell? ⟨w.heap.size,2,none⟩=some (.int .u16 (mode:Int)):=aa vG 2;have e5:w1.cell? ⟨w.heap.size,5,none⟩=some (.slice A _ c):=aa vG 5;have e6:w1.cell? ⟨w.heap.size,6,none⟩=some (.string lk):=aa vG 6;have xF:=va vG;have vJ:=va (vF.trans (vD.mono vF.size));have vS:=va wi;clear vG vD wi)
   |(go_at_call 162;refine(Ak.out _).mono ?_;rintro e w2 ⟨rfl,rfl⟩)
   |(go_at_call 163;refine(FG.out _ _ _ _ vS.out).mono ?_;rintro e w3 ⟨rfl,rfl⟩)
   |(go_at_call 164;refine(Ec.out _).mono ?_;rintro e w4 ⟨rfl,vZ⟩;have xZ:=(vZ.block _ (uZ xF.out).1).trans xF.out;have f5:w4.cell? ⟨w.heap.size,5,none⟩=some (.slice A _ c):=aa xZ 5;have wV:=va (vJ.out.trans (vZ.mono vJ.out.size));have yd:=va (OwnS.kept vS.out vZ);clear vZ xZ)
   |fail)
  all_goals
   go_ret2;exact⟨A1,vC,L,HK.out▸rfl,(by first|exact OwnS.lower yd.out vF.size|exact OwnS.lower vS.out vF.size),(by first|exact wV.out|exact vJ.out),(fun _ =>rfl),fun e=>absurd rfl e⟩
 ·by_cases c8:0<n
  ·have hm:mr=1:=(by rw[vN];exact if_pos (.inl ⟨by decide,c8⟩));subst hm;clear vN;go_enter Tryz.func133,Tryz.ntmps133;go_upto_region 1 with(fail);rw[<-vY.out];go_wp2_with (first
    |(go_at_call 161;refine(Al.out _).mono ?_;rintro e w1 ⟨A1,vC,rfl,wi,vD⟩;have vG:=(vD.block _ xd).trans HE.out;have e0:w1.cell? ⟨w.heap.size,0,none⟩=some (.string path):=aa vG 0;have e1:w1.cell? ⟨w.heap.size,1,none⟩=some (.int .u8 _):=aa vG 1;have e2:w1.cell? ⟨w.heap.size,2,none⟩=some (.int .u16 (mode:Int)):=aa vG 2;have e5:w1.cell? ⟨w.heap.size,5,none⟩=some (.slice A _ c):=aa vG 5;have e6:w1.cell? ⟨w.heap.size,6,none⟩=some (.string lk):=aa vG 6;have xF:=va vG;have vJ:=va (vF.trans (vD.mono vF.size));have vS:=va wi;clear vG vD wi)
    |(go_at_call 162;refine(Ak.out _).mono ?_;rintro e w2 ⟨rfl,rfl⟩)
    |(go_at_call 163;refine(FG.out _ _ _ _ vS.out).mono ?_;rintro e w3 ⟨rfl,rfl⟩)
    |(go_at_call 164;refine(Ec.out _).mono ?_;rintro e w4 ⟨rfl,vZ⟩;have xZ:=(vZ.block _ (uZ xF.out).1).trans xF.out;have f5:w4.cell? ⟨w.heap.size,5,none⟩=some (.slice A _ c):=aa xZ 5;have wV:=va (vJ.out.trans (vZ.mono vJ.out.size));have yd:=va (OwnS.kept vS.out vZ);clear vZ xZ)
    |fail)
   all_goals
    go_ret2;exact⟨none,0,[],rfl,OwnS.nil _ _,(by first|exact wV.out|exact vJ.out),(fun e=>by cases e),fun _ =>⟨rfl,rfl,rfl⟩⟩
  by_cases c9:lk.size=0
  rotate_left
  ·have t0:=lw c9;have hm:mr=1:=(by rw[vN];exact if_pos (.inr ⟨by decide,c9⟩));subst hm;clear vN;go_enter Tryz.func133,Tryz.ntmps133;go_upto_region 1 with(fail);rw[<-vY.out];go_wp2_with (first
    |(go_at_call 161;refine(Al.out _).mono ?_;rintro e w1 ⟨A1,vC,rfl,wi,vD⟩;have vG:=(vD.block _ xd).trans HE.out;have e0:w1.cell? ⟨w.heap.size,0,none⟩=some (.string path):=aa vG 0;have e1:w1.cell? ⟨w.heap.size,1,none⟩=some (.int .u8 _):=aa vG 1;have e2:w1.cell? ⟨w.heap.size,2,none⟩=some (.int .u16 (mode:Int)):=aa vG 2;have e5:w1.cell? ⟨w.heap.size,5,none⟩=some (.slice A _ c):=aa vG 5;have e6:w1.cell? ⟨w.heap.size,6,none⟩=some (.string lk):=aa vG 6;have xF:=va vG;have vJ:=va (vF.trans (vD.mono vF.size));have vS:=va wi;clear vG vD wi)
    |(go_at_call 162;refine(Ak.out _).mono ?_;rintro e w2 ⟨rfl,rfl⟩)
    |(go_at_call 163;refine(FG.out _ _ _ _ vS.out).mono ?_;rintro e w3 ⟨rfl,rfl⟩)
    |(go_at_call 164;refine(Ec.out _).mono ?_;rintro e w4 ⟨rfl,vZ⟩;have xZ:=(vZ.block _ (uZ xF.out).1).trans xF.out;have f5:w4.cell? ⟨w.heap.size,5,none⟩=some (.slice A _ c):=aa xZ 5;have wV:=va (vJ.out.trans (vZ.mono vJ.out.size));have yd:=va (OwnS.kept vS.out vZ);clear vZ xZ)
    |fail)
   all_goals
    go_ret2;exact⟨none,0,[],rfl,OwnS.nil _ _,(by first|exact wV.out|exact vJ.out),(fun e=>by cases e),fun _ =>⟨rfl,rfl,rfl⟩⟩
  have t0:=jc c9;obtain rfl:n=0:=(by omega);have n3: ¬(((2:Int)≠1/\0<0)\/((2:Int)≠3/\lk.size≠0)):=(by omega);rw[if_neg n3,if_neg (by omega)]at vN;clear n3;have hm:mr=0:=(by rw[vN];exact if_neg (by omega));subst hm;clear vN;go_enter Tryz.func133,Tryz.ntmps133;go_upto_region 1 with(fail);rw[<-vY.out];go_wp2_with (first
   |(go_at_call 161;refine(Al.out _).mono ?_;rintro e w1 ⟨A1,vC,rfl,wi,vD⟩;have vG:=(vD.block _ xd).trans HE.out;have e0:w1.cell? ⟨w.heap.size,0,none⟩=some (.string path):=aa vG 0;have e1:w1.cell? ⟨w.heap.size,1,none⟩=some (.int .u8 _):=aa vG 1;have e2:w1.cell? ⟨w.heap.size,2,none⟩=some (.int .u16 (mode:Int)):=aa vG 2;have e5:w1.cell? ⟨w.heap.size,5,none⟩=some (.slice A _ c):=aa vG 5;have e6:w1.cell? ⟨w.heap.size,6,none⟩=some (.string lk):=aa vG 6;have xF:=va vG;have vJ:=va (vF.trans (vD.mono vF.size));have vS:=va wi;clear vG vD wi)
   |(go_at_call 162;refine(Ak.out _).mono ?_;rintro e w2 ⟨rfl,rfl⟩)
   |(go_at_call 163;refine(FG.out _ _ _ _ vS.out).mono ?_;rintro e w3 ⟨rfl,rfl⟩)
   |(go_at_call 164;refine(Ec.out _).mono ?_;rintro e w4 ⟨rfl,vZ⟩;have xZ:=(vZ.block _ (uZ xF.out).1).trans xF.out;have f5:w4.cell? ⟨w.heap.size,5,none⟩=some (.slice A _ c):=aa xZ 5;have wV:=va (vJ.out.trans (vZ.mono vJ.out.size));have yd:=va (OwnS.kept vS.out vZ);clear vZ xZ)
   |fail)
  all_goals
   go_ret2;exact⟨A1,vC,L,HK.out▸rfl,(by first|exact OwnS.lower yd.out vF.size|exact OwnS.lower vS.out vF.size),(by first|exact wV.out|exact vJ.out),(fun _ =>rfl),fun e=>absurd rfl e⟩
 ·by_cases c8:0<n
  ·have hm:mr=1:=(by rw[vN];exact if_pos (.inl ⟨by decide,c8⟩));subst hm;clear vN;go_enter Tryz.func133,Tryz.ntmps133;go_upto_region 1 with(fail);rw[<-vY.out];go_wp2_with (first
    |(go_at_call 161;refine(Al.out _).mono ?_;rintro e w1 ⟨A1,vC,rfl,wi,vD⟩;have vG:=(vD.block _ xd).trans HE.out;have e0:w1.cell? ⟨w.heap.size,0,none⟩=some (.string path):=aa vG 0;have e1:w1.cell? ⟨w.heap.size,1,none⟩=some (.int .u8 _):=aa vG 1;have e2:w1.cell? ⟨w.heap.size,2,none⟩=some (.int .u16 (mode:Int)):=aa vG 2;have e5:w1.cell? ⟨w.heap.size,5,none⟩=some (.slice A _ c):=aa vG 5;have e6:w1.cell? ⟨w.heap.size,6,none⟩=some (.string lk):=aa vG 6;have xF:=va vG;have vJ:=va (vF.trans (vD.mono vF.size));have vS:=va wi;clear vG vD wi)
    |(go_at_call 162;refine(Ak.out _).mono ?_;rintro e w2 ⟨rfl,rfl⟩)
    |(go_at_call 163;refine(FG.out _ _ _ _ vS.out).mono ?_;rintro e w3 ⟨rfl,rfl⟩)
    |(go_at_call 164;refine(Ec.out _).mono ?_;rintro e w4 ⟨rfl,vZ⟩;have xZ:=(vZ.block _ (uZ xF.out).1).trans xF.out;have f5:w4.cell? ⟨w.heap.size,5,none⟩=some (.slice A _ c):=aa xZ 5;have wV:=va (vJ.out.trans (vZ.mono vJ.out.size));have yd:=va (OwnS.kept vS.out vZ);clear vZ xZ)
    |fail)
   all_goals
    go_ret2;exact⟨none,0,[],rfl,OwnS.nil _ _,(by first|exact wV.out|exact vJ.out),(fun e=>by cases e),fun _ =>⟨rfl,rfl,rfl⟩⟩
  obtain rfl:n=0:=(by omega);have n3: ¬(((3:Int)≠1/\0<0)\/((3:Int)≠3/\lk.size≠0)):=(by omega);rw[if_neg n3]at vN;clear n3;by_cases c9:ct=0
  rotate_left
  ·have Mj:(ct != 0)=true:=(by rw[bne_iff_ne];exact c9);have hm:mr=1:=(by rw[vN];exact if_pos ⟨rfl,c9⟩);subst hm;clear vN;go_enter Tryz.func133,Tryz.ntmps133;go_upto_region 1 with(fail);rw[<-vY.out];go_wp2_with (first
    |(go_at_call 161;refine(Al.out _).mono ?_;rintro e w1 ⟨A1,vC,rfl,wi,vD⟩;have vG:=(vD.block _ xd).trans HE.out;have e0:w1.cell? ⟨w.heap.size,0,none⟩=some (.string path):=aa vG 0;have e1:w1.cell? ⟨w.heap.size,1,none⟩=some (.int .u8 _):=aa vG 1;have e2:w1.cell? ⟨w.heap.size,2,none⟩=some (.int .u16 (mode:Int)):=aa vG 2;have e5:w1.cell? ⟨w.heap.size,5,none⟩=some (.slice A _ c):=aa vG 5;have e6:w1.cell? ⟨w.heap.size,6,none⟩=some (.string lk):=aa vG 6;have xF:=va vG;have vJ:=va (vF.trans (vD.mono vF.size));have vS:=va wi;clear vG vD wi)
    |(go_at_call 162;refine(Ak.out _).mono ?_;rintro e w2 ⟨rfl,rfl⟩)
    |(go_at_call 163;refine(FG.out _ _ _ _ vS.out).mono ?_;rintro e w3 ⟨rfl,rfl⟩)
    |(go_at_call 164;refine(Ec.out _).mono ?_;rintro e w4 ⟨rfl,vZ⟩;have xZ:=(vZ.block _ (uZ xF.out).1).trans xF.out;have f5:w4.cell? ⟨w.heap.size,5,none⟩=some (.slice A _ c):=aa xZ 5;have wV:=va (vJ.out.trans (vZ.mono vJ.out.size));have yd:=va (OwnS.kept vS.out vZ);clear vZ xZ)
    |fail)
   all_goals
    go_ret2;exact⟨none,0,[],rfl,OwnS.nil _ _,(by first|exact wV.out|exact vJ.out),(fun e=>by cases e),fun _ =>⟨rfl,rfl,rfl⟩⟩
  subst c9;rw[if_neg (by omega)]at vN;have hm:mr=0:=(by rw[vN];exact if_neg (by omega));subst hm;clear vN;go_enter Tryz.func133,Tryz.ntmps133;go_upto_region 1 with(fail);rw[<-vY.out];go_wp2_with (first
   |(go_at_call 161;refine(Al.out _).mono ?_;rintro e w1 ⟨A1,vC,rfl,wi,vD⟩;have vG:=(vD.block _ xd).trans HE.out;have e0:w1.cell? ⟨w.heap.size,0,none⟩=some (.string path):=aa vG 0;have e1:w1.cell? ⟨w.heap.size,1,none⟩=some (.int .u8 _):=aa vG 1;have e2:w1.cell? ⟨w.heap.size,2,none⟩=some (.int .u16 (mode:Int)):=aa vG 2;have e5:w1.cell? ⟨w.heap.size,5,none⟩=some (.slice A _ c):=aa vG 5;have e6:w1.cell? ⟨w.heap.size,6,none⟩=some (.string lk):=aa vG 6;have xF:=va vG;have vJ:=va (vF.trans (vD.mono vF.size));have vS:=va wi;clear vG vD wi)
   |(go_at_call 162;refine(Ak.out _).mono ?_;rintro e w2 ⟨rfl,rfl⟩)
   |(go_at_call 163;refine(FG.out _ _ _ _ vS.out).mono ?_;rintro e w3 ⟨rfl,rfl⟩)
   |(go_at_call 164;refine(Ec.out _).mono ?_;rintro e w4 ⟨rfl,vZ⟩;have xZ:=(vZ.block _ (uZ xF.out).1).trans xF.out;have f5:w4.cell? ⟨w.heap.size,5,none⟩=some (.slice A _ c):=aa xZ 5;have wV:=va (vJ.out.trans (vZ.mono vJ.out.size));have yd:=va (OwnS.kept vS.out vZ);clear vZ xZ)
   |fail)
  all_goals
   go_ret2;exact⟨A1,vC,L,HK.out▸rfl,(by first|exact OwnS.lower yd.out vF.size|exact OwnS.lower vS.out vF.size),(by first|exact wV.out|exact vJ.out),(fun _ =>rfl),fun e=>absurd rfl e⟩
end
section
open Go.RowKit Go.Sort
theorem jC:Tryz.prog.underlying 9=some .string:=by kernel_rfl
theorem rS (v:Value) (w:World):(Instr.typeAssert (.iface 163 v) 189 163 true).run Tryz.prog w= .ok (.tuple #[v, .bool true]) w:=by kernel_rfl
theorem po (v:Value) (w:World):(Instr.typeAssert (.iface 225 v) 189 225 true).run Tryz.prog w= .ok (.tuple #[v, .bool true]) w:=by kernel_rfl
end
section
open Go.RowKit Go.Sort
theorem tq:(Tryz.prog.info? 189).map (fun i=>(i.zero,i.size,i.bytes))=some (some .nilIface,1,16):=by kernel_rfl
theorem app_node {w:World} {ops:Array Oper} {rest:List Oper} {o:Oper} {a:Act} {Q:Exit->Act->World->Prop} (yv:o.guard=none) (s x:Operand)
  (ho:o.op= .call { callee:= .builtin .append,args:= #[s,x],argTypes:= #[169,169]})
  (A:Option Addr) (cap:Nat) (l:List Value) (hs:a.eval s= .slice A l.length cap) (vR:w.ownsRow 0 189 1 (.slice A l.length cap) l.length l)
  (t:Value) (ht:t.oneCell'=true) (b c:Nat) (hx:a.eval x= .slice (some ⟨b,0,none⟩) 1 c) (hb:w.heap[b]? =some (.cells #[t] 189 (0,0)))
  (wb:l.length<1000000)
  (h: ∀g vA w',w'.ownsRow 0 189 1 (.slice (some ⟨g,0,none⟩) (l.length+1) vA) (l.length+1) (l++[t])->w.grownBy w' (A.map (·.block))->(A.map (·.block)=some g\/g=w.heap.size)->g<w'.heap.size->wpList Tryz.prog ops Q rest (a.put o.dst (.slice (some ⟨g,0,none⟩) (l.length+1) vA)) w'):
  wpList Tryz.prog ops Q (o::rest) a w:=by
 obtain⟨i0,yb,wz,wg,wm⟩:=info_parts tq;refine wpList_append_lies w yv s x 169 ho 0 189 i0 _ 1 16 Tryz.underlying169 yb wz wg wm rfl (by omega) _ l.length l hs vR ⟨b,0,none⟩ 1 c [t] hx rfl (World.news_of_block (cs:= #[t]) hb)
  (by simpa using ht) (by omega) (by unfold maxLen;omega) (by omega) (vw _) w.heap.size rfl ?_
 intro g vA w' xG hg wK vH;refine h g vA w' xG ?_ ?_ vH
 ·cases A<;>simpa [Value.ownBlock]using hg
 ·cases A<;>simpa [Value.ownBlock]using wK
end
section
open Go.RowKit Go.Sort
end
section
open Go.RowKit Go.Sort
end
section
open Go.RowKit Go.Sort Go.ChangeMaps Go.MapKept
theorem sw {a b:ByteArray} (h:Value.string a=Value.string b):a=b:=by
 injection h
def bI (w:World) (m:Nat) (l:List (ByteArray×Nat)) (V:Nat->Value):Prop:=
 ∃es clk,w.heap[m]? =some (.map es clk)/\Stamped es clk/\es.toList.map (fun e=>(e.key,e.val))=l.map fun x=>(Value.string x.1,V x.2)
variable {w:World} {m:Nat} {l:List (ByteArray×Nat)} {V:Nat->Value}
theorem bI.same {w':World} (h:bI w m l V) (hb:w'.heap[m]? =w.heap[m]?):bI w' m l V:=by
 obtain⟨es,clk,h1,h2,h3⟩:=h;exact⟨es,clk,hb.trans h1,h2,h3⟩
theorem bI.lt (h:bI w m l V):m<w.heap.size:=by
 obtain⟨es,clk,h1,_⟩:=h;exact(uZ h1).1
theorem bI.congr {V':Nat->Value} (h:bI w m l V) (hV: ∀x∈l,V' x.2=V x.2):bI w m l V':=by
 obtain⟨es,clk,h1,h2,h3⟩:=h;refine⟨es,clk,h1,h2,h3.trans (List.map_congr_left fun x hx=>?_)⟩;rw[hV x hx]
variable {es:Array MapEntry}
theorem iy (h:es.toList.map (fun e=>(e.key,e.val))=l.map fun x=>(Value.string x.1,V x.2)): ∀e∈es.toList,∃x∈l,e.key= .string x.1/\e.val=V x.2:=fun e he=>by
 have h1:(e.key,e.val)∈l.map fun x=>(Value.string x.1,V x.2):=(by rw[<-h];exact List.mem_map.2 ⟨e,he,rfl⟩);obtain⟨x,hx,h2⟩:=List.mem_map.1 h1;exact⟨x,hx,(congrArg Prod.fst h2).symm,(congrArg Prod.snd h2).symm⟩
theorem jW (h:es.toList.map (fun e=>(e.key,e.val))=l.map fun x=>(Value.string x.1,V x.2)): ∀e∈es.toList,MapKept.IsKey .string e.key:=fun e he=>by
 obtain⟨x,_,h1,_⟩:=iy h e he;rw[h1];trivial
theorem rh (hn:(es.toList.map (·.key)).Nodup) (h:es.toList.map (fun e=>(e.key,e.val))=l.map fun x=>(Value.string x.1,V x.2)):(l.map (·.1)).Nodup:=by
 have e1:es.toList.map (·.key)=l.map fun x=>Value.string x.1:=by
  have:=congrArg (List.map Prod.fst) h;simpa [Function.comp_def]using this
 rw[e1,List.Nodup,List.pairwise_map]at hn;rw[List.Nodup,List.pairwise_map];exact hn.imp fun vK e=>vK (by rw[e])
theorem tw (hn:(l.map (·.1)).Nodup) {x:ByteArray×Nat} (hx:x∈l):cU l x.1=some x.2:=by
 unfold cU
 induction l with
 |nil=>cases hx
 |cons y l ih=>
  have h1:=List.nodup_cons.1 hn;rcases List.mem_cons.1 hx with rfl|h2
  ·rw[List.find?_cons_of_pos (by simp)];rfl
  ·rw[List.find?_cons_of_neg (by
    intro e;have e1:y.1=x.1:=(by simpa using e);have e2:x.1∈l.map (·.1):=List.mem_map.2 ⟨x,h2,rfl⟩;rw[<-e1]at e2;exact h1.1 e2)]
   exact ih h1.2 h2
theorem bI.look (h:bI w m l V) (s:ByteArray):
  (Instr.lookup 166 (.map (some m)) (.string s) true).run Tryz.prog w= .ok (match cU l s with|some j=> .tuple #[V j, .bool true]|none=> .tuple #[.nilIface, .bool false]) w:=by
 obtain⟨es,clk,h1,h2,h3⟩:=h;have hc: ∀b,(Instr.checkKey b 10000 9 (.string s)).run Tryz.prog w= .ok () w:=fun b=>MapKept.run_checkKey (k:= .string s) jC (by simp[MapKept.IsKey]) b 9999;have hz:(zeroValue 189).run Tryz.prog w= .ok .nilIface w:=(by kernel_rfl);rcases MapKept.findNow_spec (d:= .string) (k:= .string s) trivial es.toList 0 (jW h3)with⟨f1,f2⟩|⟨j,e,f1,f2,f3⟩
 ·have vW:cU l s=none:=by
   cases hc:cU l s with
   |none=>rfl
   |some i=>
    exfalso;have hm:(Value.string s,V i)∈es.toList.map (fun e=>(e.key,e.val)):=(by rw[h3];exact List.mem_map.2 ⟨_,ei hc,rfl⟩);obtain⟨e,he,h4⟩:=List.mem_map.1 hm;exact f2 e he (congrArg Prod.fst h4)
  rw[vW];simp[Instr.lookup,run_underlying Tryz.underlying166,MapKept.run_getObj_map h1,hc,MapKept.run_findKey jC f1,hz,Result.andThen]
 ·obtain⟨x,hx,k1,k2⟩:=iy h3 e (vl f2);have k1:=sw (f3.symm.trans k1);have hy:cU l s=some x.2:=(by rw[k1];exact tw (rh h2.2.2 h3) hx);rw[hy];rw[k2]at f1;clear k1 k2 hy h3 hx f2 f3;rw[Nat.zero_add]at f1;show _ =Result.ok (Value.tuple #[V x.2, .bool true]) w;generalize V x.2=v at f1⊢;simp[Instr.lookup,run_underlying Tryz.underlying166,MapKept.run_getObj_map h1,hc,MapKept.run_findKey jC f1,Result.andThen]
theorem bI.put (h:bI w m l V) (s:ByteArray) (j:Nat) (vW: ∀y∈l,y.1≠s):
  ∃w',(Instr.mapUpdate 166 (.map (some m)) (.string s) (V j)).run Tryz.prog w= .ok () w'/\bI w' m (l++[(s,j)]) V/\Mod (fun b=>b=m) w w'/\w'.heap.size=w.heap.size:=by
 obtain⟨es,clk,h1,h2,h3⟩:=h;have hc:(Instr.checkKey false 10000 9 (.string s)).run Tryz.prog w= .ok () w:=MapKept.run_checkKey (k:= .string s) jC (by simp[MapKept.IsKey]) false 9999;have vK: ∀e∈es.toList,e.key≠ .string s:=fun e he e2=>by
  obtain⟨x,hx,k1,_⟩:=iy h3 e he;exact vW x hx (sw (k1.symm.trans e2))
 rcases MapKept.findNow_spec (d:= .string) (k:= .string s) trivial es.toList 0 (jW h3)with⟨f1,f2⟩|⟨j',e,f1,f2,f3⟩
 ·refine⟨setBlock w m (.map (es.push ⟨.string s,V j,clk⟩) (clk+1)),?_,⟨_,_,heap_setBlock_same h1 _,MapKept.stamped_push h2 vK,?_⟩,eY,eA⟩
  ·simp[Instr.mapUpdate,run_underlying Tryz.underlying166,MapKept.run_getObj_map h1,hc,MapKept.run_findKey jC f1,MapKept.run_setObj_map _ h1,Result.andThen,setBlock]
  ·rw[Array.toList_push,List.map_append,List.map_append,h3];rfl
 ·exact absurd f3 (vK e (vl f2))
def tyOf (k:Nat):TypeId:=if k=2 then 163 else if k=1 then 225 else 228
def aZ (k a:Nat):Value:= .iface (tyOf k) (.pointer (some ⟨a,0,none⟩))
def eK (A:Option Addr) (n c:Nat):Prop:=A=none->n=0/\c=0
def eS (w:World) (a i m u:Nat) (y:Nd):Prop:=
 ∃T tail,w.heap[a]? =some (.cells #[.int .u8 (y.kind:Int), .int .u16 (y.mode:Int), .int .u32 (y.uid:Int), .int .u32 (y.gid:Int), .int .i64 (y.n:Int), .int .i64 (i:Int), .pointer (some ⟨u,0,none⟩), .string y.name,tail] T (0,0))/\
  (y.kind=2->T=168/\tail= .map (some m))/\
  (y.kind=1->T=227/\ ∃A cd,tail= .slice A y.n cd/\au w A y.n y.dat/\(∀x,A=some x-> ∃g cs f,x=⟨g,0,none⟩/\w.heap[g]? =some (.cells cs 5 f))/\y.n<=cd/\eK A y.n cd)/\
  (y.kind=3->T=230/\tail= .string y.to)
structure FsIs (w:World) (B fs nb c2:Nat) (ad mp:Nat->Nat) (F:List Nd):Prop where
 ok:FOk F
 self:w.heap[fs]? =some (.cells #[.slice (some ⟨nb,0,none⟩) F.length c2] 171 (0,0))
 row:w.ownsRow 0 189 1 (.slice (some ⟨nb,0,none⟩) F.length c2) F.length ((List.range F.length).map fun i=>aZ (ak F i) (ad i))
 node: ∀(i:Nat) (y:Nd),F[i]? =some y->eS w (ad i) i (mp i) (ad y.up) y
 names: ∀i,ak F i=2->bI w (mp i) (aH F i) (fun j=>aZ (ak F j) (ad j))
 sole: ∀i j,ak F i=2->ak F j=2->mp i=mp j->i=j
 base:B<=fs/\B<=nb/\(∀i,i<F.length->B<=ad i)/\ ∀i,ak F i=2->B<=mp i
variable {F:List Nd} {i:Nat}
theorem el {k:Nat} (h:ak F i=k) (hk:k≠0):i<F.length:=by
 unfold ak at h;cases hf:F[i]? with
 |none=>rw[hf]at h;exact absurd h.symm hk
 |some y=>exact(List.getElem?_eq_some_iff.1 hf).1
theorem kX (h:i<F.length): ∃y,F[i]? =some y/\ak F i=y.kind:=⟨F[i],vg h,by unfold ak;rw[vg h]⟩
variable {B fs nb c2:Nat} {ad mp:Nat->Nat}
theorem FsIs.cell (h:FsIs w B fs nb c2 ad mp F) (hi:i<F.length):w.cell? ⟨nb,i,none⟩=some (aZ (ak F i) (ad i)):=by
 rw[World.ownsRow.cellAt h.row i (by omega)];simp[hi]
theorem FsIs.mapCell (h:FsIs w B fs nb c2 ad mp F) (hk:ak F i=2):w.cell? ⟨ad i,8,none⟩=some (.map (some (mp i))):=by
 obtain⟨y,hy,hky⟩:=kX (el hk (by omega));obtain⟨T,tail,hb,h2,_⟩:=h.node i y hy;rw[(h2 (hky▸hk)).2]at hb;exact aa hb 8
theorem uy (v:Value) (w:World):(Instr.typeAssert (.iface 225 v) 189 163 true).run Tryz.prog w= .ok (.tuple #[.pointer none, .bool false]) w:=by kernel_rfl
theorem ux (v:Value) (w:World):(Instr.typeAssert (.iface 228 v) 189 163 true).run Tryz.prog w= .ok (.tuple #[.pointer none, .bool false]) w:=by kernel_rfl
theorem gk (k a:Nat) (w:World):(Instr.typeAssert (aZ k a) 189 163 true).run Tryz.prog w= .ok (.tuple #[if k=2 then .pointer (some ⟨a,0,none⟩)else .pointer none, .bool (decide (k=2))]) w:=by
 unfold aZ tyOf;by_cases h2:k=2
 ·subst h2;exact rS _ w
 ·rw[if_neg h2,if_neg h2,vq h2];by_cases h1:k=1
  ·subst h1;exact uy _ w
  ·rw[if_neg h1];exact ux _ w
def atV (F:List Nd) (ad:Nat->Nat) (o:Option Nat):Value:=match o with|some j=>aZ (ak F j) (ad j)|none=> .nilIface
def uJ (w:World) (A:Option Addr) (l:List ByteArray):Prop:= ∀(j:Nat) (x:ByteArray),l[j]? =some x-> ∃g,A=some ⟨g,0,none⟩/\w.cell? ⟨g,j,none⟩=some (.string x)
theorem eX (B fs nb c2 n cap:Nat) (ad mp:Nat->Nat) (F:List Nd) (A:Option Addr) (l:List ByteArray) (w:World) (h:FsIs w B fs nb c2 ad mp F) (hl:uJ w A l) (hn:n=l.length) (wY:n<=cap) (wb:n<=1000000) (hF:F.length<=1000000):
  Calls Tryz.prog 134 #[.pointer (some ⟨fs,0,none⟩), .slice A n cap] w fun e w'=>e= .returned (atV F ad (atM F 0 l))/\w'=w:=by
 have wo:=h.ok.pos;have c0:w.cell? ⟨fs,0,none⟩=some (.slice (some ⟨nb,0,none⟩) F.length c2):=aa h.self 0;have c1:w.cell? ⟨nb,0,none⟩=some (aZ (ak F 0) (ad 0)):=h.cell wo;obtain⟨v0,Ye⟩: ∃v0,v0=aZ (ak F 0) (ad 0):=⟨_,rfl⟩;rw[<-Ye]at c1;obtain⟨N,hN⟩: ∃N,N=F.length:=⟨_,rfl⟩;rw[<-hN]at c0;have hpos':(0:Int)<(N:Int):=(by omega);obtain⟨res,vO⟩: ∃res,res=atV F ad (atM F 0 l):=⟨_,rfl⟩;rw[<-vO];have wC:=va vO;have HV0:=va Ye;have HH:=va h;have HL:=va hl;have HN:=va hn;have Oo:=va hN;clear h hl hn Ye hN wo vO;go_enter Tryz.func134,Tryz.ntmps134;go_wp2_with fail;go_loop [5,18] (fun v i=> ∃k x,k<=n/\x<F.length/\i= .int .i64 ((k:Nat):Int)/\v=aZ (ak F x) (ad x)/\atM F x (l.drop k)=atM F 0 l) (fun _ i=>n-(intOf i).toNat)
 case atStart=>exact⟨0,0,by omega,by rw[<-Oo.out];omega,rfl,HV0.out,rfl⟩
 case round=>
  obtain⟨k,x,hk,hx,rfl,rfl,wK⟩:=hrel;have Cv:=va wK
  clear wK
  by_cases vH:k<n
  ·obtain⟨s,hs⟩: ∃s,l[k]? =some s:=⟨_,vg (by rw[<-HN.out];exact vH)⟩;obtain⟨g,rfl,hc⟩:=HL.out k s hs;have xv:l.drop k=s::l.drop (k+1):=List.drop_eq_getElem_cons (by rw[<-HN.out];exact vH) |>.trans (by
    obtain⟨h1,h2⟩:=List.getElem?_eq_some_iff.1 hs;rw[h2])
   have Gz:=va xv;have zD:=gk (ak F x) (ad x) w;by_cases hd:ak F x=2
   ·rw[if_pos hd,vr hd]at zD;have hm:=HH.out.mapCell hd;have zJ:=(HH.out.names x hd).look s;obtain⟨v,hv⟩: ∃v,v=aZ (ak F x) (ad x):=⟨_,rfl⟩;rw[<-hv]at zD⊢;cases hj:cU (aH F x) s with
    |some j=>
     rw[hj]at zJ;have Cu:=va (show atM F j (l.drop (k+1))=atM F 0 l by rw[<-Cv.out,Gz.out,atM_go hd hj]);have Bq:=(bC (ei hj)).1;obtain⟨v2,Li⟩: ∃v2,v2=aZ (ak F j) (ad j):=⟨_,rfl⟩;simp only at zJ;rw[<-Li]at zJ;have Vw:=va Li;clear hv xv hs hd hj Li;go_wp2_with fail;go_round
     case rel=>exact⟨k+1,j,by omega,Bq,by go_num,Vw.out,Cu.out⟩
     case measure=>simp[intOf];omega
    |none=>
     rw[hj]at zJ;have HR:=va (show res= .nilIface by rw[wC.out,<-Cv.out,Gz.out,atM_no hd hj];rfl);simp only at zJ;clear hv xv hs hd hj;go_wp2_with fail;go_ret;exact⟨by rw[HR.out];rfl,rfl⟩
   ·rw[if_neg hd,vq hd]at zD;have HR:=va (show res= .nilIface by rw[wC.out,<-Cv.out,Gz.out,atM_leaf hd];rfl);obtain⟨v,hv⟩: ∃v,v=aZ (ak F x) (ad x):=⟨_,rfl⟩;rw[<-hv]at zD⊢;clear hv xv hs hd;go_wp2_with fail;go_ret;exact⟨by rw[HR.out];rfl,rfl⟩
  ·obtain rfl:k=n:=(by omega);obtain⟨v,hv⟩: ∃v,v=aZ (ak F x) (ad x):=⟨_,rfl⟩;have HR:=va (show res=v by rw[wC.out,<-Cv.out,List.drop_of_length_le (by rw[HN.out];exact vd _),hv];rfl);rw[<-hv];clear hv;go_wp2_with fail;go_ret;exact⟨by rw[HR.out];rfl,rfl⟩
end
section
open Go.RowKit Go.Sort
variable {w w':World} {a i m u:Nat} {y:Nd}
theorem eS.keep (h:eS w a i m u y) (hb:w'.heap[a]? =w.heap[a]?) (hz:w.heap.size<=w'.heap.size) (hd: ∀(g:Nat) (cs:Array Value) (f:Nat×Nat),w.heap[g]? =some (.cells cs 5 f)->w'.heap[g]? =w.heap[g]?):eS w' a i m u y:=by
 obtain⟨T,tail,h1,h2,h3,h4⟩:=h;refine⟨T,tail,hb.trans h1,h2,fun hk=>?_,h4⟩;obtain⟨hT,A,cd,e1,e2,e3,e4⟩:=h3 hk;refine⟨hT,A,cd,e1,fun h0=>?_,fun x hx=>?_,e4⟩
 ·obtain⟨x,hx,hc⟩:=e2 h0;obtain⟨g,cs,f,rfl,hg⟩:=e3 x hx;refine⟨_,hx,fun j hj=>?_⟩;have h9:=hc j hj;rw[Addr.add_mid,Nat.zero_add]at h9⊢;rw[<-h9];exact World.cell?_of_block (hd g cs f hg)
 ·obtain⟨g,cs,f,hg,hl⟩:=e3 x hx;exact⟨g,cs,f,hg,(hd g cs f hl).trans hl⟩
theorem eS.lt (h:eS w a i m u y):a<w.heap.size:=by
 obtain⟨T,tail,h1,_⟩:=h;exact(uZ h1).1
variable {nb n cap:Nat} {T:TypeId} {xs:List Value}
theorem dY (h:w.ownsRow 0 T 1 (.slice (some ⟨nb,0,none⟩) n cap) n xs): ∃cur,w.heap[nb]? =some (.cells cur T (0,0))/\n<=cap/\cap<=maxLen/\cur.size=cap*1/\cur.toList.take (n*1)=xs:=by
 rcases h.2 with⟨h2,_⟩|⟨g,vA,cur,h1,_,h3,h4,h5,h6,h7⟩
 ·injection h2 with h2;cases h2
 ·injection h1 with e1 e2 e3;injection e1 with e1;injection e1 with e1;subst e1 e3;exact⟨cur,h3,h4,h5,h6,h7⟩
theorem gB (h:w.ownsRow 0 T 1 (.slice (some ⟨nb,0,none⟩) n cap) n xs) (hb:w'.heap[nb]? =w.heap[nb]?):w'.ownsRow 0 T 1 (.slice (some ⟨nb,0,none⟩) n cap) n xs:=by
 obtain⟨cur,h1,h2,h3,h4,h5⟩:=dY h;exact⟨h.1, .inr ⟨nb,cap,cur,rfl,vw _,hb.trans h1,h2,h3,h4,h5⟩⟩
theorem jK (h:w.ownsRow 0 T 1 (.slice (some ⟨nb,0,none⟩) n cap) n xs):nb<w.heap.size:=by
 obtain⟨cur,h1,_⟩:=dY h;exact(uZ h1).1
variable {B fs c2:Nat} {ad mp:Nat->Nat} {F:List Nd}
theorem FsIs.below (h:FsIs w B fs nb c2 ad mp F) (hb:Below w.heap.size w w'):FsIs w' B fs nb c2 ad mp F:=
 ⟨h.ok,(hb.block fs (uZ h.self).1).trans h.self,gB h.row (hb.block _ (jK h.row)),fun i y hy=>(h.node i y hy).keep (hb.block _ (h.node i y hy).lt) hb.size fun g cs f hc=>hb.block g (uZ hc).1,
  fun i hk=>(h.names i hk).same (hb.block _ (h.names i hk).lt),h.sole,h.base⟩
theorem eS.apart {b:Nat} (h:eS w a i m u y) (hk:1<=y.kind/\y.kind<=3) (hb:(∃es clk,w.heap[b]? =some (.map es clk))\/(∃cs f,w.heap[b]? =some (.cells cs 189 f))\/ ∃cs f,w.heap[b]? =some (.cells cs 171 f)):a≠b:=by
 intro e;subst e;obtain⟨T,tail,h1,h2,h3,h4⟩:=h;have hT:T≠189/\T≠171:=by
  rcases(by omega:y.kind=1\/y.kind=2\/y.kind=3)with e|e|e
  ·rw[(h3 e).1];decide
  ·rw[(h2 e).1];decide
  ·rw[(h4 e).1];decide
 rcases hb with⟨es,clk,e⟩|⟨cs,f,e⟩|⟨cs,f,e⟩
 ·rw[h1]at e;cases e
 ·rw[h1]at e;injection e with e;injection e with _ e _;exact hT.1 e
 ·rw[h1]at e;injection e with e;injection e with _ e _;exact hT.2 e
theorem nv (h:FOk F) {d:Nat} (hd:F.length<=d):aH F d=[]:=by
 cases hc:aH F d with
 |nil=>rfl
 |cons x l=>
  exfalso;obtain⟨_,_,y,hy,hu,_⟩:=bC (F:=F) (d:=d) (x:=x) (by rw[hc];exact vv ..);have:=(h.each _ y hy).up;omega
theorem FsIs.mapBlock (h:FsIs w B fs nb c2 ad mp F) (hk:ak F i=2): ∃es clk,w.heap[mp i]? =some (.map es clk):=by
 obtain⟨es,clk,h1,_⟩:=h.names i hk;exact⟨es,clk,h1⟩
theorem FsIs.rowBlock (h:FsIs w B fs nb c2 ad mp F): ∃cs f,w.heap[nb]? =some (.cells cs 189 f):=by
 obtain⟨cur,h1,_⟩:=dY h.row;exact⟨cur,_,h1⟩
theorem lX {w7 w8 w9:World} {m' up g9 c9:Nat} {o:Obj} (hF:FsIs w7 B fs nb c2 ad mp F) (hy:y.up=up) (yL:up<F.length) (Xf:ak F up=2) (wW:FOk (F++[y]))
  (hN:eS w7 a F.length m' (ad up) y) (Ls:a≠fs) (YD:a≠nb) (haB:B<=a) (hm:y.kind=2->(∃clk,w7.heap[m']? =some (.map #[] clk))/\B<=m'/\ ∀i,ak F i=2->m'≠mp i)
  (h8:bI w8 (mp up) (aH F up++[(y.name,F.length)]) (fun j=>aZ (ak (F++[y]) j) (upd ad F.length a j))) (yO:Mod (fun b=>b=mp up) w7 w8)
  (Ei:(w8.alloc o).grownBy w9 (some nb)) (Hx:w9.ownsRow 0 189 1 (.slice (some ⟨g9,0,none⟩) (F.length+1) c9) (F.length+1) (((List.range F.length).map fun i=>aZ (ak F i) (ad i))++[aZ y.kind a])) (wK:some nb=some g9\/g9=(w8.alloc o).heap.size):
  FsIs (w9.setCell ⟨fs,0,none⟩ (.slice (some ⟨g9,0,none⟩) (F.length+1) c9)) B fs g9 c9 (upd ad F.length a) (upd mp F.length m') (F++[y])/\Below B w7 (w9.setCell ⟨fs,0,none⟩ (.slice (some ⟨g9,0,none⟩) (F.length+1) c9)):=by
 have wo:=hF.ok.pos;have hlen:(F++[y]).length=F.length+1:=(by rw[vf,vm]);obtain⟨es1,xl,Eg⟩:=hF.mapBlock Xf;obtain⟨cs1,f1,EL⟩:=hF.rowBlock;have EZ:=hF.self;have lm:=(uZ Eg).1;have lnb:=(uZ EL).1;have lfs:=(uZ EZ).1;have d1:mp up≠nb:=fun e=>by rw[e,EL]at Eg;cases Eg
 have d2:mp up≠fs:=fun e=>by rw[e,EZ]at Eg;cases Eg
 have d3:nb≠fs:=fun e=>by rw[e,EZ]at EL;injection EL with e1;injection e1 with _ e2 _;exact absurd e2 (by decide)
 have LI:=yO.size;have XI:w8.heap.size+1<=w9.heap.size:=(by simpa using Ei.size);have XO:(w9.setCell ⟨fs,0,none⟩ (.slice (some ⟨g9,0,none⟩) (F.length+1) c9)).heap.size=w9.heap.size:=(by simp);have xX:=aj (S:=fun b=>b=fs) (w:=w9) (b:=fs) rfl 0 (.slice (some ⟨g9,0,none⟩) (F.length+1) c9);have TH:=(Hx.lt g9 rfl).2;have YZ:g9≠fs:=by
  rcases wK with h|h
  ·injection h with h;omega
  ·simp at h;omega
 have hgB:B<=g9:=by
  have:=hF.base;rcases wK with h|h
  ·injection h with h;omega
  ·simp at h;omega
 generalize Yc:w9.setCell ⟨fs,0,none⟩ (.slice (some ⟨g9,0,none⟩) (F.length+1) c9)=w10 at XO xX⊢;have keep89: ∀b,b<w8.heap.size->b≠nb->b≠fs->w10.heap[b]? =w8.heap[b]? :=fun b hb h1 h2=>
  (xX.block b (by omega) h2).trans ((Ei.block b (by simp;omega) (fun e=>h1 (by injection e))).trans (ve _ _ _ hb))
 have keep: ∀b,b<w7.heap.size->b≠mp up->b≠nb->b≠fs->w10.heap[b]? =w7.heap[b]? :=fun b hb h1 h2 h3=>(keep89 b (by omega) h2 h3).trans (yO.block b hb h1);have keepD: ∀(g:Nat) (cs:Array Value) (f:Nat×Nat),w7.heap[g]? =some (.cells cs 5 f)->w10.heap[g]? =w7.heap[g]? :=fun g cs f hc=>by
  refine keep g (uZ hc).1 (fun e=>?_) (fun e=>?_) (fun e=>?_)
  ·subst e;rw[Eg]at hc;cases hc
  ·subst e;rw[EL]at hc;injection hc with e1;injection e1 with _ e2 _;exact absurd e2 (by decide)
  ·subst e;rw[EZ]at hc;injection hc with e1;injection e1 with _ e2 _;exact absurd e2 (by decide)
 have kindN: ∀i,i<F.length->ak (F++[y]) i=ak F i:=fun i hi=>cI y (by omega);have kindL:ak (F++[y]) F.length=y.kind:=by
  unfold ak;rw[vj (vd _)];simp
 have adN: ∀i,i<F.length->upd ad F.length a i=ad i:=fun i hi=>ag _ _ (by omega);have mpN: ∀i,i<F.length->upd mp F.length m' i=mp i:=fun i hi=>ag _ _ (by omega);have each:=hF.ok.each;refine⟨⟨wW,?_,?_,?_,?_,?_,?_⟩,?_⟩
 ·rw[hlen,<-Yc];exact jH (((Ei.block fs (by simp;omega) (fun e=>d3 (by injection e with e;exact e.symm))).trans ((ve _ _ _ (by omega)).trans (yO.block fs lfs (fun e=>d2 e.symm)))).trans EZ)
 ·have e:((List.range (F.length+1)).map fun i=>aZ (ak (F++[y]) i) (upd ad F.length a i))=((List.range F.length).map fun i=>aZ (ak F i) (ad i))++[aZ y.kind a]:=by
   rw[List.range_succ,List.map_append];congr 1
   ·refine List.map_congr_left fun i hi=>?_;have hi':=List.mem_range.1 hi;rw[kindN i hi',adN i hi']
   ·simp only[List.map_cons,List.map_nil];rw[kindL,af]
  rw[hlen,e];exact gB Hx (xX.block g9 TH YZ)
 ·intro i y0 hi;by_cases Ih:i<F.length
  ·rw[vk (by omega)]at hi;have h1:=hF.node i y0 hi;have hk:=(each i y0 hi).kind;rw[adN i Ih,mpN i Ih,adN _ (by have:=(each i y0 hi).up;omega)];exact h1.keep (keep _ h1.lt (h1.apart hk (.inl ⟨_,_,Eg⟩)) (h1.apart hk (.inr (.inl ⟨_,_,EL⟩))) (h1.apart hk (.inr (.inr ⟨_,_,EZ⟩)))) (by omega) keepD
  ·have YV:i=F.length:=by
    have:=(List.getElem?_eq_some_iff.1 hi).1;omega
   subst YV;rw[vj (vd _)]at hi;simp at hi;subst hi;rw[af,af,hy,adN up (by omega)];have hk:=(wW.each F.length y (by rw[vj (vd _)];simp)).kind;exact hN.keep (keep _ hN.lt (hN.apart hk (.inl ⟨_,_,Eg⟩)) YD Ls) (by omega) keepD
 ·intro i hk;by_cases Ih:i<F.length
  ·rw[kindN i Ih]at hk;rw[mpN i Ih,iP _ _ _ wo];by_cases hiu:i=up
   ·subst hiu;rw[if_pos hy];exact h8.same (keep89 _ (by omega) d1 d2)
   ·rw[if_neg (by omega),List.append_nil];have h1:=hF.names i hk;obtain⟨es2,Bw,Po⟩:=hF.mapBlock hk;have h2:mp i≠mp up:=fun e=>hiu (hF.sole i up hk Xf e);have h3:mp i≠nb:=fun e=>by rw[e,EL]at Po;cases Po
    have h4:mp i≠fs:=fun e=>by rw[e,EZ]at Po;cases Po
    refine(h1.same (keep _ h1.lt h2 h3 h4)).congr fun x hx=>?_;have yY:=(bC hx).1;rw[kindN _ (by omega),adN _ (by omega)]
  ·obtain rfl:i=F.length:=(by have:=el hk (by omega);omega);rw[kindL]at hk;obtain⟨⟨clk,Cx⟩,hmB,YG⟩:=hm hk;rw[af,iP _ _ _ wo,if_neg (by omega),nv hF.ok (by omega)];have h2:m'≠mp up:=YG up Xf;have h3:m'≠nb:=fun e=>by rw[e,EL]at Cx;cases Cx
   have h4:m'≠fs:=fun e=>by rw[e,EZ]at Cx;cases Cx
   exact⟨#[],clk,(keep _ (uZ Cx).1 h2 h3 h4).trans Cx,⟨by simp,by simp,by simp⟩,rfl⟩
 ·intro i j hi hj CH;have PA:=el hi (by omega);have wX:=el hj (by omega);by_cases Ih:i<F.length
  ·rw[kindN i Ih]at hi;rw[mpN i Ih]at CH;by_cases TK:j<F.length
   ·rw[kindN j TK]at hj;rw[mpN j TK]at CH;exact hF.sole i j hi hj CH
   ·obtain rfl:j=F.length:=(by omega);rw[kindL]at hj;rw[af]at CH;exact absurd CH.symm ((hm hj).2.2 i hi)
  ·obtain rfl:i=F.length:=(by omega);rw[kindL]at hi;rw[af]at CH;by_cases TK:j<F.length
   ·rw[kindN j TK]at hj;rw[mpN j TK]at CH;exact absurd CH ((hm hi).2.2 j hj)
   ·omega
 ·obtain⟨b1,b2,b3,b4⟩:=hF.base;refine⟨b1,hgB,fun i hi=>?_,fun i hk=>?_⟩
  ·by_cases Ih:i<F.length
   ·rw[adN i Ih];exact b3 i (by omega)
   ·have Ca:i=F.length:=(by omega);rw[Ca,af];exact haB
  ·have PA:=el hk (by omega);by_cases Ih:i<F.length
   ·rw[kindN i Ih]at hk;rw[mpN i Ih];exact b4 i hk
   ·obtain rfl:i=F.length:=(by omega);rw[kindL]at hk;rw[af];exact(hm hk).2.1
 ·obtain⟨b1,b2,b3,b4⟩:=hF.base;refine⟨xX.os.trans (Ei.os.trans yO.os),xX.tape.trans (Ei.tape.trans yO.tape),xX.output.trans (Ei.output.trans yO.output),by omega,fun b hb=>keep b (by omega) (fun e=>by have:=b4 up Xf;omega) (by omega) (by omega)⟩
theorem uz {ops:Array Oper} {rest:List Oper} {o:Oper} {a:Act} {Q:Exit->Act->World->Prop} (yv:o.guard=none) (s x:Operand)
  (ho:o.op= .call { callee:= .builtin .append,args:= #[s,x],argTypes:= #[169,169]})
  (nb c2 N:Nat) (F:List Nd) (ad:Nat->Nat) (hN:N=F.length) (hs:a.eval s= .slice (some ⟨nb,0,none⟩) N c2)
  (vR:w.ownsRow 0 189 1 (.slice (some ⟨nb,0,none⟩) F.length c2) F.length ((List.range F.length).map fun i=>aZ (ak F i) (ad i)))
  (t:Value) (ht:t.oneCell'=true) (b c:Nat) (hx:a.eval x= .slice (some ⟨b,0,none⟩) 1 c) (hb:w.heap[b]? =some (.cells #[t] 189 (0,0)))
  (wb:N<1000000)
  (h: ∀g vA w',w'.ownsRow 0 189 1 (.slice (some ⟨g,0,none⟩) (F.length+1) vA) (F.length+1) (((List.range F.length).map fun i=>aZ (ak F i) (ad i))++[t])->w.grownBy w' (some nb)->(some nb=some g\/g=w.heap.size)->g<w'.heap.size->wpList Tryz.prog ops Q rest (a.put o.dst (.slice (some ⟨g,0,none⟩) (N+1) vA)) w'):
  wpList Tryz.prog ops Q (o::rest) a w:=by
 have hl:((List.range F.length).map fun i=>aZ (ak F i) (ad i)).length=F.length:=(by rw[List.length_map,List.length_range]);refine app_node yv s x ho (some ⟨nb,0,none⟩) c2 _ (by rw[hl,<-hN];exact hs) (by rw[hl];exact vR) t ht b c hx hb (by rw[hl,<-hN];exact wb) ?_;intro g vA w' h1 h2 h3 h4;rw[hl]at h1⊢;rw[<-hN];exact h g vA w' h1 h2 h3 h4
end
