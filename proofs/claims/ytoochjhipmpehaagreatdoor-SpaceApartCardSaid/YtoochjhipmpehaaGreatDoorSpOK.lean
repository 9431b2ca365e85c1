/- Spaces: of no space; -/
import Derived.Test.YtoochjhipmpehaaGreatDoorSpFK
import Derived.Test.YtoochjhipmpehaaGreatDoorSpGK
set_option linter.unusedVariables false
set_option linter.unusedSimpArgs false
set_option maxRecDepth 100000
set_option maxHeartbeats 2000000
namespace Go.Proofs.YtoochjhipmpehaaGreatDoor
section
open Go.RowKit Go.Sort
attribute [local go_sem] Oper.semAt_some
theorem bu.below {w w':World} {P:Option Addr} (h:bu w P) (hb:Below w.heap.size w w'):bu w' P:=by
 cases P with
 |none=>trivial
 |some ad=>
  obtain⟨s,rfl,hc⟩:=h;exact⟨s,rfl,(hb.cell (World.block_lt_of_cell? _ _ hc)).trans hc⟩
theorem qL (P:Option Addr) (addr len want:Value) (w:World) (h:bu w P):
  Calls Tryz.prog 70 #[.pointer P,addr,len,want] w fun e w'=>e= .returned (.tuple #[.slice none 0 0, .int .i64 2])/\Below w.heap.size w w':=by
 refine(callsIn_wide (n:=9)).1 ?_;refine callsIn_of_wp_marks Tryz.func70 rfl trivial ?_;simp only[Tryz.ntmps70,List.size_toArray,vn,List.length_nil,Nat.reduceAdd,Nat.reduceSub,Array.replicate_succ,Array.replicate_zero,List.push_toArray,List.append_toArray,List.nil_append,List.cons_append];obtain⟨w0,vE⟩: ∃w0,w0=((w.alloc (.cells #[.pointer P] 60)).alloc (.cells #[.slice none 0 0] 39)).alloc (.cells #[.int .i64 0] 32):=⟨_,rfl⟩;have wz:w0.heap.size=w.heap.size+1+1+1:=(by rw[vE];simp);have vF:Below w.heap.size w w0:=(by rw[vE];exact(vc.alloc (by simp) _).alloc (by simp;omega) _);have Fm:w0.heap[w.heap.size+1+1]? =some (.cells #[.int .i64 0] 32 (0,0)):=by
  rw[vE];have:=ab ((w.alloc (.cells #[.pointer P] 60)).alloc (.cells #[.slice none 0 0] 39)) (.cells #[.int .i64 0] 32)
  rwa [World.size_alloc,World.size_alloc]at this
 have IQ:w0.heap[w.heap.size+1]? =some (.cells #[.slice none 0 0] 39 (0,0)):=by
  rw[vE];have:=ab (w.alloc (.cells #[.pointer P] 60)) (.cells #[.slice none 0 0] 39);rw[World.size_alloc]at this;exact(ve _ _ _ (by simp)).trans this
 have s0:w0.cell? ⟨w.heap.size,0,none⟩=some (.pointer P):=by
  rw[vE];exact aa ((ve _ _ _ (by simp;omega)).trans ((ve _ _ _ (by simp)).trans (ab w _))) 0
 have n0:w0.cell? ⟨w.heap.size+1,0,none⟩=some (.slice none 0 0):=aa IQ 0;have nf0:=ae IQ 0;have e0:w0.cell? ⟨w.heap.size+1+1,0,none⟩=some (.int .i64 0):=aa Fm 0;have ef0:=ae Fm 0;have FT:w.heap.size+1<w0.heap.size:=(by omega);have Cc:w.heap.size+1+1<w0.heap.size:=(by omega);have wN:=va (cR P w0 (h.below vF));have vY:=va vE;have wO:=va vF;clear vE vF Fm IQ wz h;gi_wp2_with (first
  |(refine⟨trivial,?_⟩;rw[<-vY.out];refine(callsIn_wide.2 wN.out).mono ?_;rintro e w1 ⟨rfl,rfl⟩)
  |fail)
 exact⟨.tuple #[.slice none 0 0, .int .i64 2],by simp[results,Tryz.results70,go_sem,n0,e0,nf0,ef0,FT,Cc],rfl,((wO.out).setCell (p:=⟨w.heap.size+1,0,none⟩) (by simp) _).setCell (p:=⟨w.heap.size+1+1,0,none⟩) (by show w.heap.size<=w.heap.size+1+1;omega) _⟩
theorem oz (P:Option Addr) (addr want:Value) (A:Option Addr) (n cap:Nat) (w:World) (h:bu w P):
  Calls Tryz.prog 71 #[.pointer P,addr, .slice A n cap,want] w fun e w'=>e= .returned (.int .i64 2)/\Below w.heap.size w w':=by
 refine(callsIn_wide (n:=9)).1 ?_;refine callsIn_of_wp_marks Tryz.func71 rfl trivial ?_;simp only[Tryz.ntmps71,List.size_toArray,vn,List.length_nil,Nat.reduceAdd,Nat.reduceSub,Array.replicate_succ,Array.replicate_zero,List.push_toArray,List.append_toArray,List.nil_append,List.cons_append];obtain⟨w0,vE⟩: ∃w0,w0=((w.alloc (.cells #[.pointer P] 60)).alloc (.cells #[.slice A n cap] 39)).alloc (.cells #[.int .i64 0] 32):=⟨_,rfl⟩;have wz:w0.heap.size=w.heap.size+1+1+1:=(by rw[vE];simp);have vF:Below w.heap.size w w0:=(by rw[vE];exact(vc.alloc (by simp) _).alloc (by simp;omega) _);have Fm:w0.heap[w.heap.size+1+1]? =some (.cells #[.int .i64 0] 32 (0,0)):=by
  rw[vE];have:=ab ((w.alloc (.cells #[.pointer P] 60)).alloc (.cells #[.slice A n cap] 39)) (.cells #[.int .i64 0] 32)
  rwa [World.size_alloc,World.size_alloc]at this
 have s0:w0.cell? ⟨w.heap.size,0,none⟩=some (.pointer P):=by
  rw[vE];exact aa ((ve _ _ _ (by simp;omega)).trans ((ve _ _ _ (by simp)).trans (ab w _))) 0
 have e0:w0.cell? ⟨w.heap.size+1+1,0,none⟩=some (.int .i64 0):=aa Fm 0;have ef0:=ae Fm 0;have Cc:w.heap.size+1+1<w0.heap.size:=(by omega);have wN:=va (cR P w0 (h.below vF));have vY:=va vE;have wO:=va vF;clear vE vF Fm wz h;gi_wp2_with (first
  |(refine⟨trivial,?_⟩;rw[<-vY.out];refine(callsIn_wide.2 wN.out).mono ?_;rintro e w1 ⟨rfl,rfl⟩)
  |fail)
 exact⟨.int .i64 2,by simp[results,Tryz.results71,go_sem,e0,ef0,Cc],rfl,(wO.out).setCell (p:=⟨w.heap.size+1+1,0,none⟩) (by show w.heap.size<=w.heap.size+1+1;omega) _⟩
theorem sx (P:Option Addr) (r:Reg) (w:World) (h:bu w P):
  Calls Tryz.prog 25 #[.pointer P, .agg #[.int .u64 (r).fr, .int .u64 (r).to, .int .u8 (r).prot, .int .i64 (r).ino, .int .u64 (r).off]] w fun e w'=>e= .returned (.int .i64 2)/\Below w.heap.size w w':=by
 refine(callsIn_wide (n:=9)).1 ?_;refine callsIn_of_wp_marks Tryz.func25 rfl trivial ?_;simp only[Tryz.ntmps25,List.size_toArray,vn,List.length_nil,Nat.reduceAdd,Nat.reduceSub,Array.replicate_succ,Array.replicate_zero,List.push_toArray,List.append_toArray,List.nil_append,List.cons_append];obtain⟨w0,vE⟩: ∃w0,w0=(w.alloc (.cells #[.pointer P] 60)).alloc (.cells #[.int .u64 r.fr, .int .u64 r.to, .int .u8 r.prot, .int .i64 r.ino, .int .u64 r.off] 45):=⟨_,rfl⟩;have vF:Below w.heap.size w w0:=(by rw[vE];exact vc.alloc (by simp) _);have s0:w0.cell? ⟨w.heap.size,0,none⟩=some (.pointer P):=by
  rw[vE];exact aa ((ve _ _ _ (by simp)).trans (ab w _)) 0
 have wN:=va (cR P w0 (h.below vF));have vY:=va vE;have wO:=va vF;clear vE vF h;gi_wp2_with (first
  |(refine⟨trivial,?_⟩;rw[<-vY.out];refine(callsIn_wide.2 wN.out).mono ?_;rintro e w1 ⟨rfl,rfl⟩)
  |fail)
 exact⟨.int .i64 2,by simp[results,Tryz.results25,go_sem],rfl,wO.out⟩
theorem ow (P:Option Addr) (x y:Value) (w:World) (h:bu w P):
  Calls Tryz.prog 26 #[.pointer P,x,y] w fun e w'=>e= .returned (.int .i64 2)/\Below w.heap.size w w':=by
 refine(callsIn_wide (n:=9)).1 ?_;refine callsIn_of_wp_marks Tryz.func26 rfl trivial ?_;simp only[Tryz.ntmps26,List.size_toArray,vn,List.length_nil,Nat.reduceAdd,Nat.reduceSub,Array.replicate_succ,Array.replicate_zero,List.push_toArray,List.append_toArray,List.nil_append,List.cons_append];obtain⟨w0,vE⟩: ∃w0,w0=w.alloc (.cells #[.pointer P] 60):=⟨_,rfl⟩;have vF:Below w.heap.size w w0:=(by rw[vE];exact vc);have s0:w0.cell? ⟨w.heap.size,0,none⟩=some (.pointer P):=(by rw[vE];exact aa (ab w _) 0);have wN:=va (cR P w0 (h.below vF));have vY:=va vE;have wO:=va vF;clear vE vF h;gi_wp2_with (first
  |(refine⟨trivial,?_⟩;rw[<-vY.out];refine(callsIn_wide.2 wN.out).mono ?_;rintro e w1 ⟨rfl,rfl⟩)
  |fail)
 exact⟨.int .i64 2,by simp[results,Tryz.results26,go_sem],rfl,wO.out⟩
theorem lB (P:Option Addr) (x y:Value) (z:Int) (w:World) (h:bu w P):
  Calls Tryz.prog 27 #[.pointer P,x,y, .int .u8 z] w fun e w'=>e= .returned (.int .i64 2)/\Below w.heap.size w w':=by
 refine(callsIn_wide (n:=9)).1 ?_;refine callsIn_of_wp_marks Tryz.func27 rfl trivial ?_;simp only[Tryz.ntmps27,List.size_toArray,vn,List.length_nil,Nat.reduceAdd,Nat.reduceSub,Array.replicate_succ,Array.replicate_zero,List.push_toArray,List.append_toArray,List.nil_append,List.cons_append];obtain⟨w0,vE⟩: ∃w0,w0=(w.alloc (.cells #[.pointer P] 60)).alloc (.cells #[.int .u8 z] 5):=⟨_,rfl⟩;have vF:Below w.heap.size w w0:=(by rw[vE];exact vc.alloc (by simp) _);have s0:w0.cell? ⟨w.heap.size,0,none⟩=some (.pointer P):=(by rw[vE];exact aa ((ve _ _ _ (by simp)).trans (ab w _)) 0);have wN:=va (cR P w0 (h.below vF));have vY:=va vE;have wO:=va vF;clear vE vF h;gi_wp2_with (first
  |(refine⟨trivial,?_⟩;rw[<-vY.out];refine(callsIn_wide.2 wN.out).mono ?_;rintro e w1 ⟨rfl,rfl⟩)
  |fail)
 exact⟨.int .i64 2,by simp[results,Tryz.results27,go_sem],rfl,wO.out⟩
theorem qN (P:Option Addr) (w:World) (h:bu w P):Calls Tryz.prog 32 #[.pointer P] w fun e w'=>e= .returned (.tuple #[.pointer none, .int .i64 2])/\w=w':=by
 have HG:=va (cR P w h);clear h;go_enter Tryz.func32,Tryz.ntmps32;go_wp2_with (first|(refine(HG.out).mono ?_;rintro e w1 ⟨rfl,rfl⟩)|fail);go_ret2;exact⟨rfl,rfl⟩
theorem qM (P:Option Addr) (w:World) (h:bu w P):Calls Tryz.prog 21 #[.pointer P] w fun e w'=>e= .returned (.tuple #[])/\w=w':=by
 have HG:=va (cR P w h);clear h;go_enter Tryz.func21,Tryz.ntmps21;go_wp2_with (first|(refine(HG.out).mono ?_;rintro e w1 ⟨rfl,rfl⟩)|fail);refine bodyPost_ret (results_none rfl _ _ _) rfl ?_;exact⟨rfl,rfl⟩
theorem gx (P:Option Addr) (w:World) (h:bu w P):Calls Tryz.prog 17 #[.pointer P] w fun e w'=>e= .returned (.slice none 0 0)/\w=w':=by
 have HG:=va (cR P w h);clear h;go_enter Tryz.func17,Tryz.ntmps17;go_wp2_with (first|(refine(HG.out).mono ?_;rintro e w1 ⟨rfl,rfl⟩)|fail);go_ret;exact⟨rfl,rfl⟩
theorem jd (P addr len:Value) (w:World) (Post:Ending->World->Prop) (h:Calls Tryz.prog 70 #[P,addr,len, .int .u8 4] w fun e w'=>(∃x y,e= .returned (.tuple #[x,y]))/\Post e w'):Calls Tryz.prog 28 #[P,addr,len] w Post:=by
 have H:=va h;clear h;go_enter Tryz.func28,Tryz.ntmps28;go_wp2_with (first|(refine(H.out).mono ?_;rintro e w1 ⟨⟨x,y,rfl⟩,hp⟩)|fail);exact hp
theorem pQ (P addr len:Value) (w:World) (Post:Ending->World->Prop) (h:Calls Tryz.prog 70 #[P,addr,len, .int .u8 0] w fun e w'=>(∃x y,e= .returned (.tuple #[x,y]))/\Post e w'):Calls Tryz.prog 29 #[P,addr,len] w Post:=by
 have H:=va h;clear h;go_enter Tryz.func29,Tryz.ntmps29;go_wp2_with (first|(refine(H.out).mono ?_;rintro e w1 ⟨⟨x,y,rfl⟩,hp⟩)|fail);exact hp
theorem mU (P addr b:Value) (w:World) (Post:Ending->World->Prop) (h:Calls Tryz.prog 71 #[P,addr,b, .int .u8 2] w fun e w'=>(∃x,e= .returned (.int .i64 x))/\Post e w'):Calls Tryz.prog 30 #[P,addr,b] w Post:=by
 have H:=va h;clear h;go_enter Tryz.func30,Tryz.ntmps30;go_wp2_with (first|(refine(H.out).mono ?_;rintro e w1 ⟨⟨x,rfl⟩,hp⟩)|fail);exact hp
theorem sPoke_of (P addr b:Value) (w:World) (Post:Ending->World->Prop) (h:Calls Tryz.prog 71 #[P,addr,b, .int .u8 0] w fun e w'=>(∃x,e= .returned (.int .i64 x))/\Post e w'):Calls Tryz.prog 31 #[P,addr,b] w Post:=by
 have H:=va h;clear h;go_enter Tryz.func31,Tryz.ntmps31;go_wp2_with (first|(refine(H.out).mono ?_;rintro e w1 ⟨⟨x,rfl⟩,hp⟩)|fail);exact hp
theorem mQ (s c a t n cap:Nat) (A:Option Addr) (rl:List Reg) (w:World) (h:cS w s c a t A n cap) (hr:RSl w w.heap.size A n cap rl) (hf:n<900000):
  Calls Tryz.prog 17 #[.pointer (some ⟨s,0,none⟩)] w fun e w'=> ∃A' vA,e= .returned (.slice A' n vA)/\OwnR w' w.heap.size A' vA rl/\Below w.heap.size w w':=by
 have HG:=va (dH s c a t n cap A w h);have HC:=va (kS A n cap rl w hr hf);have c3:w.cell? ⟨s,3,none⟩=some (.slice A n cap):=aa h 3;clear h hr;go_enter Tryz.func17,Tryz.ntmps17;go_wp2_with (first
  |(go_at_call 56;refine(HG.out).mono ?_;rintro e w1 ⟨rfl,rfl⟩)
  |(go_at_call 57;refine(HC.out).mono ?_;rintro e w1 ⟨A1,vC,rfl,wi,vD⟩;have vS:=va wi;have vJ:=va vD;clear wi vD)
  |fail)
 go_ret;exact⟨A1,vC,rfl,vS.out,vJ.out⟩
def uN (w:World) (S:Nat->Prop) (s t a:Nat) (p:Pool) (L:List Nat) (e:Ending) (w':World):Prop:=
 e= .returned (.tuple #[])/\am w' S a (cj p L)/\Mod (fun b=>S b\/b=t\/b=s) w w'/\w'.cell? ⟨s,2,none⟩=some (.pointer none)
theorem sE (s c a t n cap root:Nat) (A:Option Addr) (w:World) (S:Nat->Prop) (p:Pool) (T:Tab) (rest:Nat->Nat) (pg0:Nat) (xL:cS w s c a t A n cap) (h:am w S a p) (ht:al w t c a root) (Am: ¬S t) (Rp:t≠0) (hsS: ¬S s) (BB:s≠0) (xo:s≠t) (hg:T.Good p rest pg0 4) (hr:T.nd 4 0=some root):
  Calls Tryz.prog 21 #[.pointer (some ⟨s,0,none⟩)] w (uN w S s t a p ((T.evs 4 0).flatMap Ev.fs)):=by
 have HG:=va (dH s c a t n cap A w xL);have HF:=va (mL t c a root w S p T rest pg0 h ht Am Rp hg hr);have c2:w.cell? ⟨s,2,none⟩=some (.pointer (some ⟨t,0,none⟩)):=aa xL 2;have HS:=va xL;have Ni:s<w.heap.size:=(uZ xL).1;clear h xL ht hg hr;go_enter Tryz.func21,Tryz.ntmps21;go_wp2_with (first
  |(go_at_call 56;refine(HG.out).mono ?_;rintro e w1 ⟨rfl,rfl⟩)
  |(go_at_call 58;refine(HF.out).mono ?_;rintro e w1 ⟨rfl,Bm,xJ,Ey⟩;have Bu:=(xJ.block s Ni (fun e=>e.elim hsS xo)).trans HS.out;have DZ:=va Bm;have Gv:=va xJ;have VD:=va Bu;clear Bm xJ Ey;have d2:w1.cell? ⟨s,2,none⟩=some (.pointer (some ⟨t,0,none⟩)):=aa Bu 2;have df2:=ae Bu 2;clear Bu)
  |fail)
 go_end0;have vT:Mod (fun b=>b=s) w1 (w1.setCell ⟨s,2,none⟩ (.pointer none)):=aj (S:=fun b=>b=s) rfl 2 _;refine⟨rfl,DZ.out.mod vT (fun b hb e=>by subst e;exact hsS hb) (fun e=>BB e.symm),(Gv.out.sub fun b hb=>hb.imp id .inl).trans (Out.refl _ _) (vT.sub fun b hb=> .inr (.inr hb)),?_⟩;have h9:=Joins.block_setCell (i:=2) VD.out (.pointer none);exact aa (cs:= #[.pointer (some ⟨c,0,none⟩), .pointer (some ⟨a,0,none⟩), .pointer none, .slice A n cap]) (by simpa using h9) 2
def uI (w:World) (S:Nat->Prop) (c a fs m:Nat) (clock:Int) (p:Pool) (L:List Slot) (e:Ending) (w':World):Prop:=
 (∃f p' L' S' t,e= .returned (.tuple #[.pointer (some ⟨t,0,none⟩), .int .i64 0])/\ar w' S' c a fs m clock p' L'/\al w' t c a f/\Mod (Both S m) w w'/\Out S S' w/\w.heap.size<=t/\t<w'.heap.size/\ ¬S' t/\ax p L 0 f p' L')\/
 (∃f p' L' S',e= .returned (.tuple #[.pointer none, .int .i64 4])/\ar w' S' c a fs m clock p' L'/\Mod (Both S m) w w'/\Out S S' w/\ax p L 4 f p' L'/\p'=p/\L'=L)
theorem pJ (c a fs m:Nat) (clock:Int) (w:World) (S:Nat->Prop) (p:Pool) (L:List Slot) (h:ar w S c a fs m clock p L):
  Calls Tryz.prog 60 #[.pointer (some ⟨c,0,none⟩)] w (uI w S c a fs m clock p L):=by
 have Ff:=fi c a fs m clock w S p L h;have HC:=va Ff;clear h Ff;go_enter Tryz.func60,Tryz.ntmps60;go_wp2_with fail;refine HC.out.mono ?_;rintro e w1 ⟨r,f,p',L',S',rfl,h1,h2,h3,h4⟩;have H1:=va h1;have H2:=va h2;have H3:=va h3;rcases h4.two with rfl|⟨rfl,rfl,rfl,rfl⟩
 ·have H4:=va h4;clear h1 h2 h3 h4;go_wp2_with fail;refine(nQ c a fs m clock _ H1.out.self).mono ?_;rintro e w2 ⟨rfl,rfl⟩;go_wp2_with fail;go_ret2;exact(.inl ⟨f,p',L',S',w1.heap.size,rfl,H1.out.below vc,ab _ _,H2.out.trans (fun b hb=> .inr hb) (Mod.of vc),H3.out,H2.out.size,by simp,fun e=>by have:=H1.out.pool.low _ e;omega,H4.out⟩)
 ·have H4:=va h4;clear h1 h2 h3 h4;go_wp2_with fail;go_ret2;exact(.inr ⟨0,p',L',S',rfl,H1.out,H2.out,H3.out,H4.out,rfl,rfl⟩)
def SNewPost (w:World) (S:Nat->Prop) (c a fs m:Nat) (clock:Int) (p:Pool) (L:List Slot) (e:Ending) (w':World):Prop:=
 (∃f p' L' S' s t,e= .returned (.tuple #[.pointer (some ⟨s,0,none⟩), .int .i64 0])/\ar w' S' c a fs m clock p' L'/\cS w' s c a t none 0 0/\al w' t c a f/\Mod (Both S m) w w'/\Out S S' w/\w.heap.size<=t/\t<s/\s<w'.heap.size/\ ¬S' t/\ ¬S' s/\ax p L 0 f p' L')\/
 (∃f p' L' S',e= .returned (.tuple #[.pointer none, .int .i64 4])/\ar w' S' c a fs m clock p' L'/\Mod (Both S m) w w'/\Out S S' w/\ax p L 4 f p' L'/\p'=p/\L'=L)
theorem snew_any (c a fs m:Nat) (clock:Int) (w:World) (S:Nat->Prop) (p:Pool) (L:List Slot) (h:ar w S c a fs m clock p L):
  Calls Tryz.prog 24 #[.pointer (some ⟨c,0,none⟩)] w (SNewPost w S c a fs m clock p L):=by
 have Ff:=pJ c a fs m clock w S p L h;have HC:=va Ff;clear h Ff;go_enter Tryz.func24,Tryz.ntmps24;go_wp2_with fail;refine HC.out.mono ?_;rintro e w1 (⟨f,p',L',S',t,rfl,h1,h2,h3,h4,h5,h6,h7,h8⟩|⟨f,p',L',S',rfl,h1,h2,h3,h4,h5,h6⟩)
 ·have H1:=va h1;have H2:=va h2;have H3:=va h3;have H4:=va h4;have H8:=va h8;clear h1 h2 h3 h4 h8;go_wp2_with (first
   |(refine(nQ c a fs m clock _ H1.out.self).mono ?_;rintro e w2 ⟨rfl,rfl⟩)
   |fail)
  go_ret2;have hb:=(vz w1.heap.size w1).alloc (vd _) (.cells #[.pointer (some ⟨c,0,none⟩), .pointer (some ⟨a,0,none⟩), .pointer (some ⟨t,0,none⟩), .slice none 0 0] 122);exact .inl ⟨f,p',L',S',w1.heap.size,t,rfl,H1.out.below hb,ab _ _,(hb.block t h6).trans H2.out,H3.out.trans (fun b hb=> .inr hb) (Mod.of hb),H4.out,h5,h6,by simp,h7,fun e=>by have:=H1.out.pool.low _ e;omega,H8.out⟩
 ·have H1:=va h1;have H2:=va h2;have H3:=va h3;have H4:=va h4;clear h1 h2 h3 h4;go_wp2_with fail;go_ret2;exact .inr ⟨f,p',L',S',rfl,H1.out,H2.out,H3.out,H4.out,h5,h6⟩
end
