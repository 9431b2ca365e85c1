/- Regions: slices.Insert of one region, at every place. Regions: the plain law of Put: what the program makes is what the references make. -/
import Derived.Test.YtoochjhipmpehaaGreatDoorRcK
import Derived.Laws.CopyOwn
import Derived.Laws.Externs
import Derived.Lib.AppendZerosOnto
import Derived.Lib.Overlaps
set_option linter.unusedVariables false
set_option linter.unusedSimpArgs false
set_option maxRecDepth 100000
set_option maxHeartbeats 4000000
namespace Go.Proofs.YtoochjhipmpehaaGreatDoor
section
open Go.RowKit Go.Sort
section
variable {P:Program}
theorem cY (w:World) (dT sT ty elem:TypeId) (size:Nat) (g o dLen dCap:Nat) (a:Addr) (sLen sCap:Nat) (cur:Array Value) (t:TypeId) (cs:List Value)
  (hu:P.underlying dT=some (.slice elem)) (hs:(P.info? elem).map (·.size)=some size)
  (hg:w.heap[g]? =some (.cells cur t (0,0))) (k:Nat) (hk:k=Nat.min sLen dLen) (hn:cs.length=k*size)
  (yy: ∀j v,cs[j]? =some v->w.cell? (a.add j)=some v) (Fa:o+cs.length<=cur.size) (h1: ∀v∈cs,v.oneCell'=true):
  (Builtin.copy_ #[dT,sT] ty #[.slice (some ⟨g,o,none⟩) dLen dCap, .slice (some a) sLen sCap]).run P w=
   .ok (goInt k) (w.setRow g (cur.toList.take o++cs++cur.toList.drop (o+cs.length)).toArray):=by
 have hl:=run_loadCells_list (P:=P) w a cs yy;have xo:=run_storeCells_at P g o t cs 0 cur w hg (by simpa using Fa) h1;cases hq:P.info? elem with
 |none=>simp[hq]at hs
 |some i=>
  have hi:i.size=size:=(by simpa [hq]using hs);rw[hn]at hl;simp[Builtin.copy_,run_underlying hu,Builtin.lenOf,Builtin.firstCells,sizeOf,typeInfo,hq,hi,<-hk,hl,xo]
variable {o:Oper} {a:Act} {K:Act->World->Prop} {Q:Exit->Act->World->Prop} {v':Value} {w':World}
theorem iK (w:World) (d s:Operand) (t t':TypeId)
  (ho:o.op= .call { callee:= .builtin .copy,args:= #[d,s],argTypes:= #[t,t']}) (v u:Value) (hd:a.eval d=v) (hs:a.eval s=u)
  (hr:(Builtin.copy_ #[t,t'] o.type #[v,u]).run P w= .ok v' w') (h:K (a.put o.dst v') w'):o.wp P a w K Q:=by
 unfold Oper.wp execOp;simp only[ho,resolve,invoke,builtin,Sem.run_bind,Sem.run_pure,Result.andThen_ok,List.map_toArray,List.map_cons,List.map_nil,hd,hs,hr];exact h
variable {ops:Array Oper}
theorem eP (w:World) {rest:List Oper} (yv:o.guard=none) (d s:Operand) (t t':TypeId)
  (ho:o.op= .call { callee:= .builtin .copy,args:= #[d,s],argTypes:= #[t,t']}) (v u:Value) (hd:a.eval d=v) (hs:a.eval s=u)
  (hr:(Builtin.copy_ #[t,t'] o.type #[v,u]).run P w= .ok v' w') (h:wpList P ops Q rest (a.put o.dst v') w'):wpList P ops Q (o::rest) a w:=
 wpList_plain yv fun _ hK=>iK w d s t t' ho v u hd hs hr (hK _ _ h)
theorem fP {w:World} {E:Prop}
  (hg:o.guard=none) (d x:Operand) (dT sT:TypeId) (BC:o.op=Op.call { callee:=Callee.builtin Builtin.copy,args:= #[d,x],argTypes:= #[dT,sT]})
  (v u:Value) (hd:a.eval d=v) (hx:a.eval x=u) (hr:(Builtin.copy_ #[dT,sT] o.type #[v,u]).run P w= .ok v' w') (hK:K (a.put o.dst v') w'):
  if Region.wanted o (yielded ops a.tmps)=true then Oper.wp P o a w K Q else E:=by
 have hw:Region.wanted o (yielded ops a.tmps)=true:=(by simp[Region.wanted,hg]);rw[if_pos hw];exact iK w d x dT sT BC v u hd hx hr hK
end
def Rg.insAt (l:List Reg) (i:Nat) (r:Reg):List Reg:=l.take i++r::l.drop i
theorem pV (l:List Reg) (i:Nat):(rcs l).take (i*5)=rcs (l.take i):=by
 induction l generalizing i with
 |nil=>simp[rcs]
 |cons x l ih=>
  cases i with
  |zero=>simp[rcs]
  |succ i=>
   have e0:(i+1)*5=i*5+1+1+1+1+1:=(by omega);rw[e0];simp only[rcs,rc,List.cons_append,List.nil_append,List.take_succ_cons,ih]
theorem pW (l:List Reg) (i:Nat):(rcs l).drop (i*5)=rcs (l.drop i):=by
 induction l generalizing i with
 |nil=>simp[rcs]
 |cons x l ih=>
  cases i with
  |zero=>simp[rcs]
  |succ i=>
   have e0:(i+1)*5=i*5+1+1+1+1+1:=(by omega);rw[e0];simp only[rcs,rc,List.cons_append,List.nil_append,List.drop_succ_cons,ih]
theorem ru (A:Option Addr) (cap:Nat) (l:List Reg) (r:Reg) (bv c base:Nat) (w:World) (ho:OwnR w base A cap l) (vQ:base<=w.heap.size) (hf:l.length<=100000)
  (hv:w.heap[bv]? =some (.cells #[.int .u64 r.fr, .int .u64 r.to, .int .u8 r.prot, .int .i64 r.ino, .int .u64 r.off] 45 (0,0))):
  Calls Tryz.prog 105 #[.slice A l.length cap, .int .i64 l.length, .slice (some ⟨bv,0,none⟩) 1 c] w
   fun e w'=> ∃A' vA,e= .returned (.slice A' (l.length+1) vA)/\OwnR w' base A' vA (l++[r])/\Below base w w':=by
 have PF:=ho.form;have hc:l.length<=cap:=by rcases PF with⟨_,h,_⟩|⟨g,_,_,_,h⟩<;>simp_all
 generalize hm:l.length=m at *
 have HM:=va hm;have HO:=va ho;clear hm ho PF;go_enter Tryz.func105,Tryz.ntmps105;go_wp2_with (at_builtin;refine pp rfl (.tmp 23) (.tmp 24) rfl base A cap l (by rw[HM.out];rfl) HO.out r bv c rfl hv (by rw[HM.out];omega) vQ ?_;rw[HM.out];intro g' vA w2 BD xT xA JQ)
 all_goals
  go_ret;refine⟨some ⟨g',0,none⟩,vA,rfl,BD,?_⟩;exact kA (vz _ _) HO.out xT vQ
theorem jf:(Tryz.prog.info? 45).map (·.size)=some 5:=by kernel_rfl
variable {cur:List Value} {l:List Reg} {i:Nat}
theorem row_room {cap:Nat} (r:Reg) (hs:cur.length=cap*5) (ht:cur.take (l.length*5)=rcs l) (hi:i<l.length) (hc:l.length+1<=cap):
  let row1:=cur.take ((i+1)*5)++rcs (l.drop i)++cur.drop ((i+1)*5+(rcs (l.drop i)).length);let row2:=row1.take (i*5)++rc r++row1.drop (i*5+(rc r).length)
  row1.length=cap*5/\row2.length=cap*5/\row2.take ((l.length+1)*5)=rcs (Rg.insAt l i r):=by
 intro row1 row2;have hd:(rcs (l.drop i)).length=(l.length-i)*5:=(by rw[aY,List.length_drop]);have hr:(rc r).length=5:=rfl;have h1:row1.length=cap*5:=by
  simp only[row1,vf,List.length_take,List.length_drop,hd,hs];omega
 have h2:row2.length=cap*5:=by
  simp only[row2,vf,List.length_take,List.length_drop,hr,h1];omega
 refine⟨h1,h2,?_⟩;have ea:row1.take (i*5)=rcs (l.take i):=by
  simp only[row1];rw[List.append_assoc,List.take_append_of_le_length (by rw[List.length_take];omega),List.take_take,Nat.min_eq_left (by omega),<-pV,<-ht,List.take_take,Nat.min_eq_left (by omega)]
 have eb:row1.drop (i*5+5)=rcs (l.drop i)++cur.drop ((i+1)*5+(rcs (l.drop i)).length):=by
  simp only[row1];rw[List.append_assoc,List.drop_append_of_le_length (by rw[List.length_take];omega),List.drop_of_length_le (by rw[List.length_take];omega),List.nil_append]
 simp only[row2];rw[ea,hr,eb];have hl:(l.length+1)*5=(rcs (l.take i)++rc r++rcs (l.drop i)).length:=by
  rw[vf,vf,hr,hd,aY,List.length_take];omega
 rw[<-List.append_assoc,hl,List.take_left];simp[Rg.insAt,dZ,rcs]
theorem oU (g cap:Nat) (l:List Reg) (r:Reg) (i bv c base:Nat) (w:World) (ho:OwnR w base (some ⟨g,0,none⟩) cap l) (vQ:base<=w.heap.size) (hf:l.length<=100000) (hi:i<l.length) (hc:l.length+1<=cap)
  (hv:w.heap[bv]? =some (.cells #[.int .u64 r.fr, .int .u64 r.to, .int .u8 r.prot, .int .i64 r.ino, .int .u64 r.off] 45 (0,0))) (vK:bv≠g):
  Calls Tryz.prog 105 #[.slice (some ⟨g,0,none⟩) l.length cap, .int .i64 i, .slice (some ⟨bv,0,none⟩) 1 c] w
   fun e w'=> ∃A' vA,e= .returned (.slice A' (l.length+1) vA)/\OwnR w' base A' vA (Rg.insAt l i r)/\Below base w w':=by
 rcases ho.2 with⟨h,_⟩|⟨g',vA,cur,he,FZ,hg,Tm,PR,yK,BN⟩
 ·simp at h
 obtain⟨rfl,rfl⟩:g=g'/\cap=vA:=(by simpa using he);have wj:=row_room (cur:=cur.toList) (l:=l) (i:=i) (cap:=cap) r (by simpa using yK) BN hi hc;simp only at wj;generalize AM:cur.toList.take ((i+1)*5)++rcs (l.drop i)++cur.toList.drop ((i+1)*5+(rcs (l.drop i)).length)=row1 at wj;generalize FP:row1.take (i*5)++rc r++row1.drop (i*5+(rc r).length)=row2 at wj;obtain⟨xm,wE,wU⟩:=wj;have hd:(rcs (l.drop i)).length=(l.length-i)*5:=(by rw[aY,List.length_drop]);have hlen:(rcs l).length=l.length*5:=aY l;have Sx: ∀j v,(rcs (l.drop i))[j]? =some v->w.drew.cell? ((⟨g,i*5,none⟩:Addr).add j)=some v:=fun j v hj=>by
  have Pw:j<(l.length-i)*5:=(by rw[<-hd];exact(List.getElem?_eq_some_iff.1 hj).1);have yi:(⟨g,i*5,none⟩:Addr).add j=⟨g,i*5+j,none⟩:=by unfold Addr.add;split<;>simp_all
  rw[yi];show w.cell? _ =_;rw[cell_of_row w g (i*5+j) cur _ _ hg];rw[<-pW,List.getElem?_drop,<-BN,List.getElem?_take,if_pos (by omega)]at hj;simpa using hj
 have Kk: ∀ty dc sc,(Builtin.copy_ #[59,59] ty #[.slice (some ⟨g,(i+1)*5,none⟩) (l.length-i) dc, .slice (some ⟨g,i*5,none⟩) (l.length+1-i) sc]).run Tryz.prog w.drew= .ok (goInt ((l.length-i:Nat):Int)) (w.drew.setRow g row1.toArray):=fun ty dc sc=>by
  rw[cY (P:=Tryz.prog) w.drew 59 59 ty 45 5 g ((i+1)*5) (l.length-i) dc ⟨g,i*5,none⟩ (l.length+1-i) sc cur 45 (rcs (l.drop i)) Tryz.underlying59 jf hg (l.length-i)
   (by simp only[Nat.min_def];split<;>omega) (by rw[hd]) Sx (by rw[hd,yK];omega) (bN _),AM]
 have Ai:(w.drew.setRow g row1.toArray).heap[g]? =some (.cells row1.toArray 45 (0,0)):=setRow_heap w.drew g cur _ _ _ hg;have Jj:(w.drew.setRow g row1.toArray).heap[bv]? =some (.cells #[.int .u64 r.fr, .int .u64 r.to, .int .u8 r.prot, .int .i64 r.ino, .int .u64 r.off] 45 (0,0)):=(setRow_other w.drew g bv _ vK).trans hv;generalize yS:w.drew.setRow g row1.toArray=W1 at *
 have Kj: ∀ty dc sc,(Builtin.copy_ #[59,59] ty #[.slice (some ⟨g,i*5,none⟩) (l.length+1-i) dc, .slice (some ⟨bv,0,none⟩) 1 sc]).run Tryz.prog W1= .ok (goInt ((1:Nat):Int)) (W1.setRow g row2.toArray):=fun ty dc sc=>by
  rw[cY (P:=Tryz.prog) W1 59 59 ty 45 5 g (i*5) (l.length+1-i) dc ⟨bv,0,none⟩ 1 sc row1.toArray 45 (rc r) Tryz.underlying59 jf Ai 1
   (by simp only[Nat.min_def];split<;>omega) rfl (World.news_of_block (cs:= #[.int .u64 r.fr, .int .u64 r.to, .int .u8 r.prot, .int .i64 r.ino, .int .u64 r.off]) Jj) (by simp[xm,rc];omega) (by rw[<-iw];exact bN _)]
  simp only[<-FP]
 have wF:OwnR (W1.setRow g row2.toArray) base (some ⟨g,0,none⟩) cap (Rg.insAt l i r):=by
  have Bd:(Rg.insAt l i r).length=l.length+1:=(by simp[Rg.insAt];omega);refine⟨aY _, .inr ⟨g,cap,row2.toArray,rfl,FZ,setRow_heap W1 g _ _ _ _ Ai,by rw[Bd];exact hc,PR,by simpa using wE,?_⟩⟩;rw[Bd];simpa using wU
 have xE:Below base w (W1.setRow g row2.toArray):=by
  subst yS;exact below_setRow (below_setRow ((vz base w).drew) FZ _) FZ _
 have hov: ∀lb cb,(callFunc 152 #[.slice (some ⟨bv,0,none⟩) 1 c, .slice (some ⟨g,(i+1)*5,none⟩) lb cb]).run Tryz.prog w= .ok (.value (.bool false)) w:=fun lb cb=>by
  rw[run_callFunc_extern Tryz.func152 (by kernel_rfl) (by kernel_rfl) (by kernel_rfl) (e:=Extern.SlicesOverlaps.overlaps #[59,59] #[4]) (by kernel_rfl),
   Lib.run_overlaps_apart w 59 4 45 Tryz.underlying59 5 (fun w=>by kernel_rfl) ⟨bv,0,none⟩ ⟨g,(i+1)*5,none⟩ 1 c lb cb vK 45 45 5 (cap*5) (by simp[World.shape?,hv]) (by simp[World.shape?,hg,yK]) (by omega) (by simp[World.frozen?,hv]) (by simp[World.frozen?,hv])]
  rfl
 have CY:=va Kk;have ye:=va Kj;have CT:=va wF;have xC:=va xE;have HL:=va (rfl:l.length=l.length);clear Kk Kj wF xE wU xm wE AM FP Ai Jj yS BN yK hd hlen ho he hg hv;generalize l.length=n at *
 have wI: ¬((i:Int)=(n:Int)):=(by omega);have YU:((i:Int)==(n:Int))=false:=(by simp;omega);go_enter Tryz.func105,Tryz.ntmps105;go_wp2_with (simp only[hov]);have yS:IntKind.i64.wrap ((i:Int)+1)=(i:Int)+1:=IntWalk.i64_in _ (by omega);have vD:(0:Int)<=(i:Int)+1:=(by omega);have htn:((i:Int)+1).toNat=i+1:=(by omega);have vM: ¬(cap=i+1):=(by omega);have vX:(i:Int)<=(n:Int)+1:=(by omega);have zZ:(i:Int)<=(n:Int):=(by omega);have vZ: ¬(cap=i):=(by omega);go_region_law (refine fP rfl (.tmp 73) (.tmp 76) 59 59 rfl _ _ (by simp[Act.eval,Act.put];rfl) (by simp[Act.eval,Act.put];rfl) (CY.out _ _ _) ?_);go_wp2_with (refine eP _ rfl (.tmp 80) (.tmp 81) 59 59 rfl _ _ rfl rfl (ye.out _ _ _) ?_);go_ret;exact⟨some ⟨g,0,none⟩,cap,rfl,CT.out,xC.out⟩
theorem row_grow {gc:Nat} (r:Reg) (hs:cur.length=gc*5) (ht:cur.take (i*5)=rcs (l.take i)) (hi:i<l.length) (hc:l.length+1<=gc):
  let row1:=cur.take (i*5)++rc r++cur.drop (i*5+(rc r).length);let row2:=row1.take ((i+1)*5)++rcs (l.drop i)++row1.drop ((i+1)*5+(rcs (l.drop i)).length)
  row1.length=gc*5/\row2.length=gc*5/\row2.take ((l.length+1)*5)=rcs (Rg.insAt l i r):=by
 intro row1 row2;have hd:(rcs (l.drop i)).length=(l.length-i)*5:=(by rw[aY,List.length_drop]);have hr:(rc r).length=5:=rfl;have h1:row1.length=gc*5:=by
  simp only[row1,vf,List.length_take,List.length_drop,hr,hs];omega
 have h2:row2.length=gc*5:=by
  simp only[row2,vf,List.length_take,List.length_drop,hd,h1];omega
 refine⟨h1,h2,?_⟩;have Yi:(rcs (l.take i)).length=i*5:=(by rw[aY,List.length_take,Nat.min_eq_left (by omega)]);have ea:row1.take ((i+1)*5)=rcs (l.take i)++rc r:=by
  simp only[row1];rw[ht,List.take_append_of_le_length (by rw[vf,Yi,hr];omega),List.take_of_length_le (by rw[vf,Yi,hr];omega)]
 simp only[row2];rw[ea];have hl:(l.length+1)*5=(rcs (l.take i)++rc r++rcs (l.drop i)).length:=by
  rw[vf,vf,hr,hd,Yi];omega
 rw[hl,List.take_left];simp[Rg.insAt,dZ,rcs]
theorem zero_len (k:Nat):(Builtin.zeroCells (Value.agg #[.int .u64 0, .int .u64 0, .int .u8 0, .int .i64 0, .int .u64 0]).cells k).size=k*5:=by
 rw[size_zeroCells];rfl
theorem oV (g cap:Nat) (l:List Reg) (r:Reg) (i bv c base:Nat) (w:World) (ho:OwnR w base (some ⟨g,0,none⟩) cap l) (vQ:base<=w.heap.size) (hf:l.length<=100000) (hi:i<l.length) (hc:cap<l.length+1)
  (hv:w.heap[bv]? =some (.cells #[.int .u64 r.fr, .int .u64 r.to, .int .u8 r.prot, .int .i64 r.ino, .int .u64 r.off] 45 (0,0))):
  Calls Tryz.prog 105 #[.slice (some ⟨g,0,none⟩) l.length cap, .int .i64 i, .slice (some ⟨bv,0,none⟩) 1 c] w
   fun e w'=> ∃A' vA,e= .returned (.slice A' (l.length+1) vA)/\OwnR w' base A' vA (Rg.insAt l i r)/\Below base w w':=by
 obtain⟨i0,yb,wz,wg,wm⟩:=info_parts jg;rcases ho.2 with⟨h,_⟩|⟨g',vA,cur,he,FZ,hg,Tm,PR,yK,BN⟩
 ·simp at h
 obtain⟨rfl,rfl⟩:g=g'/\cap=vA:=(by simpa using he);have Xn:=(uZ hv).1;have Xh:=(uZ hg).1;have hd:(rcs (l.drop i)).length=(l.length-i)*5:=(by rw[aY,List.length_drop]);have vH:(rcs (l.take i)).length=i*5:=(by rw[aY,List.length_take,Nat.min_eq_left (by omega)]);have Zc:=grownCap_ge w (l.length+1) cap 45;have hgm:=grownCap_le_maxLen w (l.length+1) cap 45 (by unfold maxLen;omega);have vU: ∀j v,(rcs l)[j]? =some v->w.cell? ((⟨g,0,none⟩:Addr).add j)=some v:=fun j v hj=>by
  have yi:(⟨g,0,none⟩:Addr).add j=⟨g,j,none⟩:=by unfold Addr.add;split<;>simp_all
  rw[yi,cell_of_row w g j cur _ _ hg];rw[<-BN,List.getElem?_take]at hj;split at hj
  ·simpa using hj
  ·cases hj
 have BG: ∀ty,(Builtin.append_ #[59,3] ty #[.slice (some ⟨g,0,none⟩) i cap, .int .i64 ((l.length:Int)+1-(i:Int))]).run Tryz.prog w=
   .ok (.slice (some ⟨w.heap.size,0,none⟩) (l.length+1) (grownCap w (l.length+1) cap 45)) (w.drew.alloc (.cells ((rcs (l.take i)).toArray++Builtin.zeroCells (Value.agg #[.int .u64 0, .int .u64 0, .int .u8 0, .int .i64 0, .int .u64 0]).cells (l.length+1-i)++Builtin.zeroCells (Value.agg #[.int .u64 0, .int .u64 0, .int .u8 0, .int .i64 0, .int .u64 0]).cells (grownCap w (l.length+1) cap 45-(l.length+1))) 45)):=fun ty=>by
  have hk:((l.length:Int)+1-(i:Int))=((l.length+1-i:Nat):Int):=(by omega);have yq:i+(l.length+1-i)=l.length+1:=(by omega);have xz:=Lib.run_append_grow_zeros (P:=Tryz.prog) w 59 3 ty 45 i0 _ .i64 .i64 Tryz.underlying59 Tryz.underlying3 yb wz (some ⟨g,0,none⟩) i cap (rcs (l.take i))
   (run_firstCells_some (P:=Tryz.prog) w.drew i0.size i ⟨g,0,none⟩ i cap (rcs (l.take i)) (by rw[wg,vH]) (fun j v hj=>vU j v (by
    rw[<-pV,List.getElem?_take]at hj;split at hj
    ·exact hj
    ·cases hj))) (l.length+1-i) (by omega) (by rw[wg];omega) (by omega) (by omega) (by rw[wm];omega) (by rw[wm,yq];exact growslice_fits (by omega) (by omega))
  rw[yq]at xz;rw[hk];exact xz
 generalize Zd:grownCap w (l.length+1) cap 45=gc at *
 generalize PN:(rcs (l.take i)).toArray++Builtin.zeroCells (Value.agg #[.int .u64 0, .int .u64 0, .int .u8 0, .int .i64 0, .int .u64 0]).cells (l.length+1-i)++Builtin.zeroCells (Value.agg #[.int .u64 0, .int .u64 0, .int .u8 0, .int .i64 0, .int .u64 0]).cells (gc-(l.length+1))=cur0 at *
 have PO:cur0.toList.length=gc*5:=by
  rw[<-PN];simp only[Array.length_toList,Array.size_append,zero_len,List.size_toArray,vH];omega
 have Rp:cur0.toList.take (i*5)=rcs (l.take i):=by
  rw[<-PN];simp only[Array.toList_append,List.append_assoc];rw[<-vH];exact List.take_left
 have wj:=row_grow (cur:=cur0.toList) (l:=l) (i:=i) (gc:=gc) r PO Rp hi Zc;simp only at wj;generalize AM:cur0.toList.take (i*5)++rc r++cur0.toList.drop (i*5+(rc r).length)=row1 at wj;generalize FP:row1.take ((i+1)*5)++rcs (l.drop i)++row1.drop ((i+1)*5+(rcs (l.drop i)).length)=row2 at wj;obtain⟨xm,wE,wU⟩:=wj;have Ai:(w.drew.alloc (.cells cur0 45)).heap[w.heap.size]? =some (.cells cur0 45 (0,0)):=heap_alloc_new w.drew _;have Jj:=(ve w.drew (.cells cur0 45) bv Xn).trans hv;have TS:=(ve w.drew (.cells cur0 45) g Xh).trans hg;have Vh:Below base w (w.drew.alloc (.cells cur0 45)):=((vz base w).drew).alloc vQ _;generalize yS:w.drew.alloc (.cells cur0 45)=W1 at *
 have Kk: ∀ty dc sc,(Builtin.copy_ #[59,59] ty #[.slice (some ⟨w.heap.size,i*5,none⟩) (l.length+1-i) dc, .slice (some ⟨bv,0,none⟩) 1 sc]).run Tryz.prog W1= .ok (goInt ((1:Nat):Int)) (W1.setRow w.heap.size row1.toArray):=fun ty dc sc=>by
  rw[cY (P:=Tryz.prog) W1 59 59 ty 45 5 w.heap.size (i*5) (l.length+1-i) dc ⟨bv,0,none⟩ 1 sc cur0 45 (rc r) Tryz.underlying59 jf Ai 1
   (by simp only[Nat.min_def];split<;>omega) rfl (World.news_of_block (cs:= #[.int .u64 r.fr, .int .u64 r.to, .int .u8 r.prot, .int .i64 r.ino, .int .u64 r.off]) Jj) (by rw[<-Array.length_toList,PO];simp[rc];omega) (by rw[<-iw];exact bN _),AM]
 have wF:=setRow_heap W1 w.heap.size cur0 row1.toArray _ _ Ai;have TR:=(setRow_other W1 w.heap.size g row1.toArray (by omega)).trans TS;have Vg:=below_setRow Vh vQ row1.toArray;generalize wD:W1.setRow w.heap.size row1.toArray=W2 at *
 have Kj: ∀ty dc sc,(Builtin.copy_ #[59,59] ty #[.slice (some ⟨w.heap.size,(i+1)*5,none⟩) (l.length-i) dc, .slice (some ⟨g,i*5,none⟩) (l.length-i) sc]).run Tryz.prog W2.drew= .ok (goInt ((l.length-i:Nat):Int)) (W2.drew.setRow w.heap.size row2.toArray):=fun ty dc sc=>by
  rw[cY (P:=Tryz.prog) W2.drew 59 59 ty 45 5 w.heap.size ((i+1)*5) (l.length-i) dc ⟨g,i*5,none⟩ (l.length-i) sc row1.toArray 45 (rcs (l.drop i)) Tryz.underlying59 jf wF (l.length-i)
   (by simp only[Nat.min_def];split<;>omega) (by rw[hd]) (fun j v hj=>by
    have Pw:j<(l.length-i)*5:=(by rw[<-hd];exact(List.getElem?_eq_some_iff.1 hj).1);have yi:(⟨g,i*5,none⟩:Addr).add j=⟨g,i*5+j,none⟩:=by unfold Addr.add;split<;>simp_all
    rw[yi];show W2.cell? _ =_;rw[cell_of_row W2 g (i*5+j) cur _ _ TR];rw[<-pW,List.getElem?_drop,<-BN,List.getElem?_take,if_pos (by omega)]at hj;simpa using hj) (by simp[xm,hd];omega) (bN _)]
  simp only[<-FP]
 have AT:OwnR (W2.drew.setRow w.heap.size row2.toArray) base (some ⟨w.heap.size,0,none⟩) gc (Rg.insAt l i r):=by
  have Bd:(Rg.insAt l i r).length=l.length+1:=(by simp[Rg.insAt];omega);refine⟨aY _, .inr ⟨w.heap.size,gc,row2.toArray,rfl,vQ,setRow_heap W2.drew w.heap.size _ _ _ _ wF,by rw[Bd];exact Zc,hgm,by simpa using wE,?_⟩⟩;rw[Bd];simpa using wU
 have DS:Below base w (W2.drew.setRow w.heap.size row2.toArray):=below_setRow Vg.drew vQ _;have HA:=va BG;have CY:=va Kk;have ye:=va Kj;have Cp:=va AT;have yH:=va DS;clear BG Kk Kj AT DS wU xm wE AM FP Ai Jj TS Vh wF TR Vg yS wD BN yK hd vH ho he hg hv vU Zd PN PO Rp yb wz wg wm hgm;generalize l.length=n at *
 have wI: ¬((i:Int)=(n:Int)):=(by omega);have YU:((i:Int)==(n:Int))=false:=(by simp;omega);have yS:IntKind.i64.wrap ((i:Int)+1)=(i:Int)+1:=IntWalk.i64_in _ (by omega);have vD:(0:Int)<=(i:Int)+1:=(by omega);have htn:((i:Int)+1).toNat=i+1:=(by omega);have vX:(i:Int)<=(n:Int)+1:=(by omega);have zZ:(i:Int)<=(n:Int):=(by omega);have Bt: ¬(cap=i):=(by omega);have Ek: ¬(gc=i):=(by omega);have Ux: ¬(gc=i+1):=(by omega);go_enter Tryz.func105,Tryz.ntmps105;go_wp2_with (first
  |(at_builtin;refine Lib.wpList_append_run _ rfl (.tmp 34) (.tmp 39) 59 3 rfl _ _ rfl rfl _ _ (HA.out _) ?_)
  |(refine eP _ rfl (.tmp 43) (.tmp 44) 59 59 rfl _ _ rfl rfl (CY.out _ _ _) ?_))
 go_region_law (refine fP rfl (.tmp 50) (.tmp 53) 59 59 rfl _ _ (by simp[Act.eval,Act.put];rfl) (by simp[Act.eval,Act.put];rfl) (ye.out _ _ _) ?_);go_wp2;go_ret;exact⟨some ⟨w.heap.size,0,none⟩,gc,rfl,Cp.out,yH.out⟩
end
section
open Go.RowKit Go.Sort
theorem iL {x:Int} (h0:0<=x) (h1:x<=18446744073709551615):w64 x=x:=by
 unfold w64;rw[IntKind.wrap_u64];omega
theorem jx (x:Int):w64 x=x % 18446744073709551616:=by
 unfold w64;exact IntKind.wrap_u64 x
variable {r:Reg}
theorem aD (h:Rg.one r=true):r.fr<r.to/\r.to<=140737488355328/\r.fr % 4096=0/\r.to % 4096=0/\r.prot<=7/\((r.ino= -1/\r.off=0)\/(0<=r.ino/\r.off % 4096=0/\r.off+(r.to-r.fr)<=281474976710656)):=by
 simpa [Rg.one]using h
variable {x:Reg}
theorem gH (h:Rg.one x=true) (wW:x.Ok):Rg.part x x.fr x.to=x:=by
 obtain⟨h1,h2,h3,h4,h5,h6⟩:=aD h;unfold Rg.part;have e:w64 (x.off+w64 (x.fr-x.fr))=x.off:=by
  rw[Int.sub_self,iL (x:=0) (by omega) (by omega),Int.add_zero,iL wW.off0 wW.off1]
 rcases h6 with⟨hi,ho⟩|⟨hi,_⟩
 ·rw[if_pos hi];obtain⟨a,b,c,d,e⟩:=x
  simp_all
 ·rw[if_neg (by omega),e]
theorem ed (h:Rg.one x=true) (a b:Int):Rg.part x a b=Rg.rpart x a b:=by
 obtain⟨h1,h2,h3,h4,h5,h6⟩:=aD h;unfold Rg.part Rg.rpart;rcases h6 with⟨hi,ho⟩|⟨hi,_⟩
 ·rw[if_pos hi,if_pos hi,ho]
 ·rw[if_neg (by omega),if_neg (by omega)]
variable {a b:Int}
theorem gG (h:a<b):Rg.pc x a b true=[Rg.part x a b]:=by simp[Rg.pc,h]
theorem kL (h: ¬a<b):Rg.pc x a b true=[]:=by simp[Rg.pc];omega
theorem pc_false :Rg.pc x a b false=[]:=by simp[Rg.pc]
variable {f t:Int}
theorem sJ (h:Rg.one x=true) (wW:x.Ok) (xu:f<t):Rg.run1 f t bP x=Rg.wo1 f t x:=by
 have vH:=(aD h).1;unfold Rg.run1 bP Rg.wo1;simp only[pc_false,List.nil_append];by_cases c1:x.to<=f
 ·rw[if_pos (.inl c1),Int.min_eq_left c1,gG vH,Int.max_eq_right (by omega),kL (by omega),gH h wW];rfl
 ·by_cases c2:t<=x.fr
  ·rw[if_pos (.inr c2),Int.min_eq_right (by omega),kL (by omega),Int.max_eq_left (by omega),gG vH,gH h wW];rfl
  ·rw[if_neg (by omega),Int.min_eq_right (by omega),Int.max_eq_right (by omega)];congr 1
   ·split
    ·rename_i d;rw[gG d,ed h]
    ·rename_i d;rw[kL d]
   ·split
    ·rename_i d;rw[gG d,ed h]
    ·rename_i d;rw[kL d]
variable {l:List Reg}
theorem pS (h: ∀x∈l,Rg.one x=true) (wW:dD l) (xu:f<t):Rg.run f t bP l=Rg.without l f t:=by
 unfold Rg.run Rg.without
 induction l with
 |nil=>rfl
 |cons x l ih=>
  rw[vy,vy,sJ (h x (by simp)) (wW x (by simp)) xu,ih (fun y hy=>h y (by simp[hy])) (fun y hy=>wW y (by simp[hy]))]
def gl (l:List Reg):Prop:=l.Pairwise (fun a b=>a.to<=b.fr)/\ ∀x∈l,x.fr<x.to
theorem bY (h:Rg.right l=true):(∀k,k<l.length->Rg.okAt l k=true)/\l.length<=64:=by
 unfold Rg.right at h;rw[Bool.and_eq_true,List.all_eq_true]at h;exact⟨fun k hk=>h.1 k (List.mem_range.2 hk),by simpa using h.2⟩
theorem di (h:Rg.right l=true): ∀x∈l,Rg.one x=true:=fun x hx=>by
 obtain⟨k,hk,e⟩:=List.mem_iff_getElem.1 hx;have h1:=(bY h).1 k hk;have h2:l[k]? =some x:=(by rw[vg hk,e]);unfold Rg.okAt at h1;rw[h2]at h1;simp only[Bool.and_eq_true]at h1;exact h1.1
theorem ir (h:Rg.right l=true) {j:Nat} {p:Reg} (hp:l[j]? =some p) (hr:l[j+1]? =some r):p.to<=r.fr/\Rg.joins p r=false:=by
 have hk:j+1<l.length:=(List.getElem?_eq_some_iff.1 hr).1;have h1:=(bY h).1 (j+1) hk;rw[fa hr hp,Bool.and_eq_true]at h1;simpa using h1.2
theorem dk (h:Rg.right l=true):gl l:=by
 have h1: ∀x∈l,x.fr<x.to:=fun x hx=>(aD (di h x hx)).1;refine⟨?_,h1⟩;rw[List.pairwise_iff_getElem];have key: ∀d i (hi:i<l.length) (hj:i+d+1<l.length),l[i].to<=(l[i+d+1]'hj).fr:=by
  intro d
  induction d with
  |zero=>
   intro i hi hj;exact(ir h (vg hi) (vg hj)).1
  |succ d ih=>
   intro i hi hj;have h2:=ih i hi (by omega);have h3:=(ir h (j:=i+d+1) (vg (by omega)) (vg hj)).1;have h4:=h1 (l[i+d+1]'(by omega)) (List.getElem_mem _);exact Int.le_trans h2 (Int.le_trans (Int.le_of_lt h4) h3)
 intro i j hi hj CH;have e:j=i+(j-i-1)+1:=(by omega);have:=key (j-i-1) i hi (by omega);simp only[<-e]at this;exact this
theorem mF {y:Reg} (xu:f<t) (hx:x.fr<x.to) (h:y∈Rg.wo1 f t x):x.fr<=y.fr/\y.fr<y.to/\y.to<=x.to:=by
 unfold Rg.wo1 at h;split at h
 ·simp at h;subst h;omega
 ·rw[List.mem_append]at h;rcases h with h|h<;>split at h
  ·simp at h;subst h;simp[Rg.rpart];omega
  ·simp at h
  ·simp at h;subst h;simp[Rg.rpart];omega
  ·simp at h
theorem rZ (xu:f<t) (hx:x.fr<x.to):(Rg.wo1 f t x).Pairwise (fun a b=>a.to<=b.fr):=by
 unfold Rg.wo1;split
 ·simp
 ·split<;>split<;>simp[Rg.rpart]
  omega
theorem gt (h:gl l) (xu:f<t):gl (Rg.without l f t):=by
 refine⟨?_,fun y hy=>?_⟩
 ·unfold Rg.without;rw[List.pairwise_flatMap];refine⟨fun x hx=>rZ xu (h.2 x hx),?_⟩;refine List.Pairwise.imp_of_mem (fun {a b} ha hb RB x hx y hy=>?_) h.1;have h1:=mF xu (h.2 a ha) hx;have h2:=mF xu (h.2 b hb) hy;omega
 ·obtain⟨x,hx,hy⟩:=List.mem_flatMap.1 hy;exact(mF xu (h.2 x hx) hy).2.1
theorem gl.sorted (h:gl l):js l:=fun i j a b CH ha hb=>by
 obtain⟨hi,e1⟩:=List.getElem?_eq_some_iff.1 ha;obtain⟨hj,e2⟩:=List.getElem?_eq_some_iff.1 hb;have h1:=List.pairwise_iff_getElem.1 h.1 i j hi hj CH;rw[e1,e2]at h1;have h2:=h.2 a (vl ha);omega
theorem tJ {i:Nat} (hi:i<=l.length) (h:cO l r i i):Rg.insAt l i r=Rg.ins l r:=by
 induction l generalizing i with
 |nil=>
  have:i=0:=(by simpa using hi);subst this;rfl
 |cons x l ih=>
  cases i with
  |zero=>
   have:=h.2 0 x (by omega) rfl;simp[Rg.insAt,Rg.ins,this]
  |succ i=>
   have h1:=h.1 0 x (by omega) rfl;have h2:=ih (i:=i) (by simpa using hi) ⟨fun k a hk e=>h.1 (k+1) a (by omega) (by simpa using e),fun k a hk e=>h.2 (k+1) a (by omega) (by simpa using e)⟩;simp only[Rg.insAt,Rg.ins,if_neg (show¬r.fr<x.fr by omega)]at h2⊢;rw[<-h2];rfl
end
