/- Spaces: of no space; -/
import Derived.Test.YtoochjhipmpehaaGreatDoorSpFK
import Derived.Test.YtoochjhipmpehaaGreatDoorSpGK
set_option linter.unusedVariables false
set_option linter.unusedSimpArgs false
set_option maxRecDepth 100000
set_option maxHeartbeats 2000000
namespace Go.Proofs.YtoochjhipmpehaaGreatDoor
section
open Go.RowKit Go.Sort
attribute [local go_sem] Oper.semAt_some
theorem bq.below {w w':World} {P:Option Addr} (h:bq w P) (hb:Below w.heap.size w w'):bq w' P:=by
 cases P with
 |none=>trivial
 |some ad=>
  obtain⟨s,rfl,hc⟩:=h;exact⟨s,rfl,(hb.cell (World.block_lt_of_cell? _ _ hc)).trans hc⟩
theorem qy (P:Option Addr) (addr len want:Value) (w:World) (h:bq w P):
  Calls Tryz.prog 70 #[.pointer P,addr,len,want] w fun e w'=>e= .returned (.tuple #[.slice none 0 0, .int .i64 2])/\Below w.heap.size w w':=by
 refine(callsIn_wide (n:=9)).1 ?_;refine callsIn_of_wp_marks Tryz.func70 rfl trivial ?_;simp only[Tryz.ntmps70,List.size_toArray,uU,List.length_nil,Nat.reduceAdd,Nat.reduceSub,Array.replicate_succ,Array.replicate_zero,List.push_toArray,List.append_toArray,List.nil_append,List.cons_append];obtain⟨w0,vl⟩: ∃w0,w0=((w.alloc (.cells #[.pointer P] 60)).alloc (.cells #[.slice none 0 0] 39)).alloc (.cells #[.int .i64 0] 32):=⟨_,rfl⟩;have vQ:w0.heap.size=w.heap.size+1+1+1:=(by rw[vl];simp);have vm:Below w.heap.size w w0:=(by rw[vl];exact(uJ.alloc (by simp) _).alloc (by simp;omega) _);have EI:w0.heap[w.heap.size+1+1]? =some (.cells #[.int .i64 0] 32 (0,0)):=by
  rw[vl];have:=ab ((w.alloc (.cells #[.pointer P] 60)).alloc (.cells #[.slice none 0 0] 39)) (.cells #[.int .i64 0] 32)
  rwa [World.size_alloc,World.size_alloc]at this
 have Ik:w0.heap[w.heap.size+1]? =some (.cells #[.slice none 0 0] 39 (0,0)):=by
  rw[vl];have:=ab (w.alloc (.cells #[.pointer P] 60)) (.cells #[.slice none 0 0] 39);rw[World.size_alloc]at this;exact(uL _ _ _ (by simp)).trans this
 have s0:w0.cell? ⟨w.heap.size,0,none⟩=some (.pointer P):=by
  rw[vl];exact aa ((uL _ _ _ (by simp;omega)).trans ((uL _ _ _ (by simp)).trans (ab w _))) 0
 have n0:w0.cell? ⟨w.heap.size+1,0,none⟩=some (.slice none 0 0):=aa Ik 0;have nf0:=ae Ik 0;have e0:w0.cell? ⟨w.heap.size+1+1,0,none⟩=some (.int .i64 0):=aa EI 0;have ef0:=ae EI 0;have Fm:w.heap.size+1<w0.heap.size:=(by omega);have BA:w.heap.size+1+1<w0.heap.size:=(by omega);have wi:=uH (cM P w0 (h.below vm));have vF:=uH vl;have wj:=uH vm;clear vl vm EI Ik vQ h;gi_wp2_with (first
  |(refine⟨trivial,?_⟩;rw[<-vF.out];refine(callsIn_wide.2 wi.out).mono ?_;rintro e w1 ⟨rfl,rfl⟩)
  |fail)
 exact⟨.tuple #[.slice none 0 0, .int .i64 2],by simp[results,Tryz.results70,go_sem,n0,e0,nf0,ef0,Fm,BA],rfl,((wj.out).setCell (p:=⟨w.heap.size+1,0,none⟩) (by simp) _).setCell (p:=⟨w.heap.size+1+1,0,none⟩) (by show w.heap.size<=w.heap.size+1+1;omega) _⟩
theorem od (P:Option Addr) (addr want:Value) (A:Option Addr) (n cap:Nat) (w:World) (h:bq w P):
  Calls Tryz.prog 71 #[.pointer P,addr, .slice A n cap,want] w fun e w'=>e= .returned (.int .i64 2)/\Below w.heap.size w w':=by
 refine(callsIn_wide (n:=9)).1 ?_;refine callsIn_of_wp_marks Tryz.func71 rfl trivial ?_;simp only[Tryz.ntmps71,List.size_toArray,uU,List.length_nil,Nat.reduceAdd,Nat.reduceSub,Array.replicate_succ,Array.replicate_zero,List.push_toArray,List.append_toArray,List.nil_append,List.cons_append];obtain⟨w0,vl⟩: ∃w0,w0=((w.alloc (.cells #[.pointer P] 60)).alloc (.cells #[.slice A n cap] 39)).alloc (.cells #[.int .i64 0] 32):=⟨_,rfl⟩;have vQ:w0.heap.size=w.heap.size+1+1+1:=(by rw[vl];simp);have vm:Below w.heap.size w w0:=(by rw[vl];exact(uJ.alloc (by simp) _).alloc (by simp;omega) _);have EI:w0.heap[w.heap.size+1+1]? =some (.cells #[.int .i64 0] 32 (0,0)):=by
  rw[vl];have:=ab ((w.alloc (.cells #[.pointer P] 60)).alloc (.cells #[.slice A n cap] 39)) (.cells #[.int .i64 0] 32)
  rwa [World.size_alloc,World.size_alloc]at this
 have s0:w0.cell? ⟨w.heap.size,0,none⟩=some (.pointer P):=by
  rw[vl];exact aa ((uL _ _ _ (by simp;omega)).trans ((uL _ _ _ (by simp)).trans (ab w _))) 0
 have e0:w0.cell? ⟨w.heap.size+1+1,0,none⟩=some (.int .i64 0):=aa EI 0;have ef0:=ae EI 0;have BA:w.heap.size+1+1<w0.heap.size:=(by omega);have wi:=uH (cM P w0 (h.below vm));have vF:=uH vl;have wj:=uH vm;clear vl vm EI vQ h;gi_wp2_with (first
  |(refine⟨trivial,?_⟩;rw[<-vF.out];refine(callsIn_wide.2 wi.out).mono ?_;rintro e w1 ⟨rfl,rfl⟩)
  |fail)
 exact⟨.int .i64 2,by simp[results,Tryz.results71,go_sem,e0,ef0,BA],rfl,(wj.out).setCell (p:=⟨w.heap.size+1+1,0,none⟩) (by show w.heap.size<=w.heap.size+1+1;omega) _⟩
theorem sh (P:Option Addr) (r:Reg) (w:World) (h:bq w P):
  Calls Tryz.prog 25 #[.pointer P, .agg #[.int .u64 (r).fr, .int .u64 (r).to, .int .u8 (r).prot, .int .i64 (r).ino, .int .u64 (r).off]] w fun e w'=>e= .returned (.int .i64 2)/\Below w.heap.size w w':=by
 refine(callsIn_wide (n:=9)).1 ?_;refine callsIn_of_wp_marks Tryz.func25 rfl trivial ?_;simp only[Tryz.ntmps25,List.size_toArray,uU,List.length_nil,Nat.reduceAdd,Nat.reduceSub,Array.replicate_succ,Array.replicate_zero,List.push_toArray,List.append_toArray,List.nil_append,List.cons_append];obtain⟨w0,vl⟩: ∃w0,w0=(w.alloc (.cells #[.pointer P] 60)).alloc (.cells #[.int .u64 r.fr, .int .u64 r.to, .int .u8 r.prot, .int .i64 r.ino, .int .u64 r.off] 45):=⟨_,rfl⟩;have vm:Below w.heap.size w w0:=(by rw[vl];exact uJ.alloc (by simp) _);have s0:w0.cell? ⟨w.heap.size,0,none⟩=some (.pointer P):=by
  rw[vl];exact aa ((uL _ _ _ (by simp)).trans (ab w _)) 0
 have wi:=uH (cM P w0 (h.below vm));have vF:=uH vl;have wj:=uH vm;clear vl vm h;gi_wp2_with (first
  |(refine⟨trivial,?_⟩;rw[<-vF.out];refine(callsIn_wide.2 wi.out).mono ?_;rintro e w1 ⟨rfl,rfl⟩)
  |fail)
 exact⟨.int .i64 2,by simp[results,Tryz.results25,go_sem],rfl,wj.out⟩
theorem nZ (P:Option Addr) (x y:Value) (w:World) (h:bq w P):
  Calls Tryz.prog 26 #[.pointer P,x,y] w fun e w'=>e= .returned (.int .i64 2)/\Below w.heap.size w w':=by
 refine(callsIn_wide (n:=9)).1 ?_;refine callsIn_of_wp_marks Tryz.func26 rfl trivial ?_;simp only[Tryz.ntmps26,List.size_toArray,uU,List.length_nil,Nat.reduceAdd,Nat.reduceSub,Array.replicate_succ,Array.replicate_zero,List.push_toArray,List.append_toArray,List.nil_append,List.cons_append];obtain⟨w0,vl⟩: ∃w0,w0=w.alloc (.cells #[.pointer P] 60):=⟨_,rfl⟩;have vm:Below w.heap.size w w0:=(by rw[vl];exact uJ);have s0:w0.cell? ⟨w.heap.size,0,none⟩=some (.pointer P):=(by rw[vl];exact aa (ab w _) 0);have wi:=uH (cM P w0 (h.below vm));have vF:=uH vl;have wj:=uH vm;clear vl vm h;gi_wp2_with (first
  |(refine⟨trivial,?_⟩;rw[<-vF.out];refine(callsIn_wide.2 wi.out).mono ?_;rintro e w1 ⟨rfl,rfl⟩)
  |fail)
 exact⟨.int .i64 2,by simp[results,Tryz.results26,go_sem],rfl,wj.out⟩
theorem ll (P:Option Addr) (x y:Value) (z:Int) (w:World) (h:bq w P):
  Calls Tryz.prog 27 #[.pointer P,x,y, .int .u8 z] w fun e w'=>e= .returned (.int .i64 2)/\Below w.heap.size w w':=by
 refine(callsIn_wide (n:=9)).1 ?_;refine callsIn_of_wp_marks Tryz.func27 rfl trivial ?_;simp only[Tryz.ntmps27,List.size_toArray,uU,List.length_nil,Nat.reduceAdd,Nat.reduceSub,Array.replicate_succ,Array.replicate_zero,List.push_toArray,List.append_toArray,List.nil_append,List.cons_append];obtain⟨w0,vl⟩: ∃w0,w0=(w.alloc (.cells #[.pointer P] 60)).alloc (.cells #[.int .u8 z] 5):=⟨_,rfl⟩;have vm:Below w.heap.size w w0:=(by rw[vl];exact uJ.alloc (by simp) _);have s0:w0.cell? ⟨w.heap.size,0,none⟩=some (.pointer P):=(by rw[vl];exact aa ((uL _ _ _ (by simp)).trans (ab w _)) 0);have wi:=uH (cM P w0 (h.below vm));have vF:=uH vl;have wj:=uH vm;clear vl vm h;gi_wp2_with (first
  |(refine⟨trivial,?_⟩;rw[<-vF.out];refine(callsIn_wide.2 wi.out).mono ?_;rintro e w1 ⟨rfl,rfl⟩)
  |fail)
 exact⟨.int .i64 2,by simp[results,Tryz.results27,go_sem],rfl,wj.out⟩
theorem qA (P:Option Addr) (w:World) (h:bq w P):Calls Tryz.prog 32 #[.pointer P] w fun e w'=>e= .returned (.tuple #[.pointer none, .int .i64 2])/\w=w':=by
 have HG:=uH (cM P w h);clear h;go_enter Tryz.func32,Tryz.ntmps32;go_wp2_with (first|(refine(HG.out).mono ?_;rintro e w1 ⟨rfl,rfl⟩)|fail);go_ret2;exact⟨rfl,rfl⟩
theorem qz (P:Option Addr) (w:World) (h:bq w P):Calls Tryz.prog 21 #[.pointer P] w fun e w'=>e= .returned (.tuple #[])/\w=w':=by
 have HG:=uH (cM P w h);clear h;go_enter Tryz.func21,Tryz.ntmps21;go_wp2_with (first|(refine(HG.out).mono ?_;rintro e w1 ⟨rfl,rfl⟩)|fail);refine bodyPost_ret (results_none rfl _ _ _) rfl ?_;exact⟨rfl,rfl⟩
theorem oc (P:Option Addr) (w:World) (h:bq w P):Calls Tryz.prog 33 #[.pointer P] w fun e w'=>e= .returned (.pointer none)/\w=w':=by
 have HG:=uH (cM P w h);clear h;go_enter Tryz.func33,Tryz.ntmps33;go_wp2_with (first|(refine(HG.out).mono ?_;rintro e w1 ⟨rfl,rfl⟩)|fail);go_ret;exact⟨rfl,rfl⟩
theorem iT (P addr len:Value) (w:World) (Post:Ending->World->Prop) (h:Calls Tryz.prog 70 #[P,addr,len, .int .u8 4] w fun e w'=>(∃x y,e= .returned (.tuple #[x,y]))/\Post e w'):Calls Tryz.prog 28 #[P,addr,len] w Post:=by
 have H:=uH h;clear h;go_enter Tryz.func28,Tryz.ntmps28;go_wp2_with (first|(refine(H.out).mono ?_;rintro e w1 ⟨⟨x,y,rfl⟩,hp⟩)|fail);exact hp
theorem sPeek_of (P addr len:Value) (w:World) (Post:Ending->World->Prop) (h:Calls Tryz.prog 70 #[P,addr,len, .int .u8 0] w fun e w'=>(∃x y,e= .returned (.tuple #[x,y]))/\Post e w'):Calls Tryz.prog 29 #[P,addr,len] w Post:=by
 have H:=uH h;clear h;go_enter Tryz.func29,Tryz.ntmps29;go_wp2_with (first|(refine(H.out).mono ?_;rintro e w1 ⟨⟨x,y,rfl⟩,hp⟩)|fail);exact hp
theorem mK (P addr b:Value) (w:World) (Post:Ending->World->Prop) (h:Calls Tryz.prog 71 #[P,addr,b, .int .u8 2] w fun e w'=>(∃x,e= .returned (.int .i64 x))/\Post e w'):Calls Tryz.prog 30 #[P,addr,b] w Post:=by
 have H:=uH h;clear h;go_enter Tryz.func30,Tryz.ntmps30;go_wp2_with (first|(refine(H.out).mono ?_;rintro e w1 ⟨⟨x,rfl⟩,hp⟩)|fail);exact hp
theorem sPoke_of (P addr b:Value) (w:World) (Post:Ending->World->Prop) (h:Calls Tryz.prog 71 #[P,addr,b, .int .u8 0] w fun e w'=>(∃x,e= .returned (.int .i64 x))/\Post e w'):Calls Tryz.prog 31 #[P,addr,b] w Post:=by
 have H:=uH h;clear h;go_enter Tryz.func31,Tryz.ntmps31;go_wp2_with (first|(refine(H.out).mono ?_;rintro e w1 ⟨⟨x,rfl⟩,hp⟩)|fail);exact hp
theorem qw (s c a t n cap:Nat) (A:Option Addr) (w:World) (h:cv w s c a t A n cap):Calls Tryz.prog 33 #[.pointer (some ⟨s,0,none⟩)] w fun e w'=>e= .returned (.pointer (some ⟨t,0,none⟩))/\w=w':=by
 have HG:=uH (cT s c a t n cap A w h);have c2:w.cell? ⟨s,2,none⟩=some (.pointer (some ⟨t,0,none⟩)):=aa h 2;clear h;go_enter Tryz.func33,Tryz.ntmps33;go_wp2_with (first|(refine(HG.out).mono ?_;rintro e w1 ⟨rfl,rfl⟩)|fail);go_ret;exact⟨rfl,rfl⟩
theorem mG (s c a t n cap:Nat) (A:Option Addr) (rl:List Reg) (w:World) (h:cv w s c a t A n cap) (hr:RSl w w.heap.size A n cap rl) (hf:n<900000):
  Calls Tryz.prog 17 #[.pointer (some ⟨s,0,none⟩)] w fun e w'=> ∃A' vh,e= .returned (.slice A' n vh)/\OwnR w' w.heap.size A' vh rl/\Below w.heap.size w w':=by
 have HG:=uH (cT s c a t n cap A w h);have HC:=uH (kI A n cap rl w hr hf);have c3:w.cell? ⟨s,3,none⟩=some (.slice A n cap):=aa h 3;clear h hr;go_enter Tryz.func17,Tryz.ntmps17;go_wp2_with (first
  |(go_at_call 56;refine(HG.out).mono ?_;rintro e w1 ⟨rfl,rfl⟩)
  |(go_at_call 57;refine(HC.out).mono ?_;rintro e w1 ⟨A1,vj,rfl,vL,vk⟩;have vx:=uH vL;have vq:=uH vk;clear vL vk)
  |fail)
 go_ret;exact⟨A1,vj,rfl,vx.out,vq.out⟩
def uv (w:World) (S:Nat->Prop) (s t a:Nat) (p:Pool) (L:List Nat) (e:Ending) (w':World):Prop:=
 e= .returned (.tuple #[])/\al w' S a (ca p L)/\Mod (fun b=>S b\/b=t\/b=s) w w'/\w'.cell? ⟨s,2,none⟩=some (.pointer none)
theorem sq (s c a t n cap root:Nat) (A:Option Addr) (w:World) (S:Nat->Prop) (p:Pool) (T:Tab) (rest:Nat->Nat) (pg0:Nat) (xm:cv w s c a t A n cap) (h:al w S a p) (ht:am w t c a root) (zJ: ¬S t) (QM:t≠0) (hsS: ¬S s) (AX:s≠0) (xi:s≠t) (hg:T.Good p rest pg0 4) (hr:T.nd 4 0=some root):
  Calls Tryz.prog 21 #[.pointer (some ⟨s,0,none⟩)] w (uv w S s t a p ((T.evs 4 0).flatMap Ev.fs)):=by
 have HG:=uH (cT s c a t n cap A w xm);have HF:=uH (mA t c a root w S p T rest pg0 h ht zJ QM hg hr);have c2:w.cell? ⟨s,2,none⟩=some (.pointer (some ⟨t,0,none⟩)):=aa xm 2;have HS:=uH xm;have MB:s<w.heap.size:=(uG xm).1;clear h xm ht hg hr;go_enter Tryz.func21,Tryz.ntmps21;go_wp2_with (first
  |(go_at_call 56;refine(HG.out).mono ?_;rintro e w1 ⟨rfl,rfl⟩)
  |(go_at_call 58;refine(HF.out).mono ?_;rintro e w1 ⟨rfl,AL,xj,Hz⟩;have AU:=(xj.block s MB (fun e=>e.elim hsS xi)).trans HS.out;have Dy:=uH AL;have FP:=uH xj;have UN:=uH AU;clear AL xj Hz;have d2:w1.cell? ⟨s,2,none⟩=some (.pointer (some ⟨t,0,none⟩)):=aa AU 2;have df2:=ae AU 2;clear AU)
  |fail)
 go_end0;have vy:Mod (fun b=>b=s) w1 (w1.setCell ⟨s,2,none⟩ (.pointer none)):=aj (S:=fun b=>b=s) rfl 2 _;refine⟨rfl,Dy.out.mod vy (fun b hb e=>by subst e;exact hsS hb) (fun e=>AX e.symm),(FP.out.sub fun b hb=>hb.imp id .inl).trans (Out.refl _ _) (vy.sub fun b hb=> .inr (.inr hb)),?_⟩;have h9:=Joins.block_setCell (i:=2) UN.out (.pointer none);exact aa (cs:= #[.pointer (some ⟨c,0,none⟩), .pointer (some ⟨a,0,none⟩), .pointer none, .slice A n cap]) (by simpa using h9) 2
def uo (w:World) (S:Nat->Prop) (c a fs m:Nat) (clock:Int) (p:Pool) (L:List Slot) (e:Ending) (w':World):Prop:=
 (∃f p' L' S' t,e= .returned (.tuple #[.pointer (some ⟨t,0,none⟩), .int .i64 0])/\ar w' S' c a fs m clock p' L'/\am w' t c a f/\Mod (Both S m) w w'/\Out S S' w/\w.heap.size<=t/\t<w'.heap.size/\ ¬S' t/\aw p L 0 f p' L')\/
 (∃f p' L' S',e= .returned (.tuple #[.pointer none, .int .i64 4])/\ar w' S' c a fs m clock p' L'/\Mod (Both S m) w w'/\Out S S' w/\aw p L 4 f p' L'/\p'=p/\L'=L)
theorem px (c a fs m:Nat) (clock:Int) (w:World) (S:Nat->Prop) (p:Pool) (L:List Slot) (h:ar w S c a fs m clock p L):
  Calls Tryz.prog 60 #[.pointer (some ⟨c,0,none⟩)] w (uo w S c a fs m clock p L):=by
 have EB:=fc c a fs m clock w S p L h;have HC:=uH EB;clear h EB;go_enter Tryz.func60,Tryz.ntmps60;go_wp2_with fail;refine HC.out.mono ?_;rintro e w1 ⟨r,f,p',L',S',rfl,h1,h2,h3,h4⟩;have H1:=uH h1;have H2:=uH h2;have H3:=uH h3;rcases h4.two with rfl|⟨rfl,rfl,rfl,rfl⟩
 ·have H4:=uH h4;clear h1 h2 h3 h4;go_wp2_with fail;refine(nC c a fs m clock _ H1.out.self).mono ?_;rintro e w2 ⟨rfl,rfl⟩;go_wp2_with fail;go_ret2;exact(.inl ⟨f,p',L',S',w1.heap.size,rfl,H1.out.below uJ,ab _ _,H2.out.trans (fun b hb=> .inr hb) (Mod.of uJ),H3.out,H2.out.size,by simp,fun e=>by have:=H1.out.pool.low _ e;omega,H4.out⟩)
 ·have H4:=uH h4;clear h1 h2 h3 h4;go_wp2_with fail;go_ret2;exact(.inr ⟨0,p',L',S',rfl,H1.out,H2.out,H3.out,H4.out,rfl,rfl⟩)
def SNewPost (w:World) (S:Nat->Prop) (c a fs m:Nat) (clock:Int) (p:Pool) (L:List Slot) (e:Ending) (w':World):Prop:=
 (∃f p' L' S' s t,e= .returned (.tuple #[.pointer (some ⟨s,0,none⟩), .int .i64 0])/\ar w' S' c a fs m clock p' L'/\cv w' s c a t none 0 0/\am w' t c a f/\Mod (Both S m) w w'/\Out S S' w/\w.heap.size<=t/\t<s/\s<w'.heap.size/\ ¬S' t/\ ¬S' s/\aw p L 0 f p' L')\/
 (∃f p' L' S',e= .returned (.tuple #[.pointer none, .int .i64 4])/\ar w' S' c a fs m clock p' L'/\Mod (Both S m) w w'/\Out S S' w/\aw p L 4 f p' L'/\p'=p/\L'=L)
theorem snew_any (c a fs m:Nat) (clock:Int) (w:World) (S:Nat->Prop) (p:Pool) (L:List Slot) (h:ar w S c a fs m clock p L):
  Calls Tryz.prog 24 #[.pointer (some ⟨c,0,none⟩)] w (SNewPost w S c a fs m clock p L):=by
 have EB:=px c a fs m clock w S p L h;have HC:=uH EB;clear h EB;go_enter Tryz.func24,Tryz.ntmps24;go_wp2_with fail;refine HC.out.mono ?_;rintro e w1 (⟨f,p',L',S',t,rfl,h1,h2,h3,h4,h5,h6,h7,h8⟩|⟨f,p',L',S',rfl,h1,h2,h3,h4,h5,h6⟩)
 ·have H1:=uH h1;have H2:=uH h2;have H3:=uH h3;have H4:=uH h4;have H8:=uH h8;clear h1 h2 h3 h4 h8;go_wp2_with (first
   |(refine(nC c a fs m clock _ H1.out.self).mono ?_;rintro e w2 ⟨rfl,rfl⟩)
   |fail)
  go_ret2;have hb:=(vg w1.heap.size w1).alloc (uK _) (.cells #[.pointer (some ⟨c,0,none⟩), .pointer (some ⟨a,0,none⟩), .pointer (some ⟨t,0,none⟩), .slice none 0 0] 122);exact .inl ⟨f,p',L',S',w1.heap.size,t,rfl,H1.out.below hb,ab _ _,(hb.block t h6).trans H2.out,H3.out.trans (fun b hb=> .inr hb) (Mod.of hb),H4.out,h5,h6,by simp,h7,fun e=>by have:=H1.out.pool.low _ e;omega,H8.out⟩
 ·have H1:=uH h1;have H2:=uH h2;have H3:=uH h3;have H4:=uH h4;clear h1 h2 h3 h4;go_wp2_with fail;go_ret2;exact .inr ⟨f,p',L',S',rfl,H1.out,H2.out,H3.out,H4.out,h5,h6⟩
end
