/- Spaces: of no space; -/
import Derived.Test.YtoochjhipmpehaaGreatDoorSpFK
import Derived.Test.YtoochjhipmpehaaGreatDoorSpGK
set_option linter.unusedVariables false
set_option linter.unusedSimpArgs false
set_option maxRecDepth 100000
set_option maxHeartbeats 2000000
namespace Go.Proofs.YtoochjhipmpehaaGreatDoor
section
open Go.RowKit Go.Sort
attribute [local go_sem] Oper.semAt_some
theorem bI.below {w w':World} {P:Option Addr} (h:bI w P) (hb:Below w.heap.size w w'):bI w' P:=by
 cases P with
 |none=>trivial
 |some ad=>
  obtain⟨s,rfl,hc⟩:=h;exact⟨s,rfl,(hb.cell (World.block_lt_of_cell? _ _ hc)).trans hc⟩
theorem qz (P:Option Addr) (addr len want:Value) (w:World) (h:bI w P):
  Calls Tryz.prog 70 #[.pointer P,addr,len,want] w fun e w'=>e= .returned (.tuple #[.slice none 0 0, .int .i64 2])/\Below w.heap.size w w':=by
 refine(callsIn_wide (n:=9)).1 ?_;refine callsIn_of_wp_marks Tryz.func70 rfl trivial ?_;simp only[Tryz.ntmps70,List.size_toArray,uX,List.length_nil,Nat.reduceAdd,Nat.reduceSub,Array.replicate_succ,Array.replicate_zero,List.push_toArray,List.append_toArray,List.nil_append,List.cons_append];obtain⟨w0,vo⟩: ∃w0,w0=((w.alloc (.cells #[.pointer P] 60)).alloc (.cells #[.slice none 0 0] 39)).alloc (.cells #[.int .i64 0] 32):=⟨_,rfl⟩;have wb:w0.heap.size=w.heap.size+1+1+1:=(by rw[vo];simp);have vp:Below w.heap.size w w0:=(by rw[vo];exact(uM.alloc (by simp) _).alloc (by simp;omega) _);have Fw:w0.heap[w.heap.size+1+1]? =some (.cells #[.int .i64 0] 32 (0,0)):=by
  rw[vo];have:=ab ((w.alloc (.cells #[.pointer P] 60)).alloc (.cells #[.slice none 0 0] 39)) (.cells #[.int .i64 0] 32)
  rwa [World.size_alloc,World.size_alloc]at this
 have Jk:w0.heap[w.heap.size+1]? =some (.cells #[.slice none 0 0] 39 (0,0)):=by
  rw[vo];have:=ab (w.alloc (.cells #[.pointer P] 60)) (.cells #[.slice none 0 0] 39);rw[World.size_alloc]at this;exact(uO _ _ _ (by simp)).trans this
 have s0:w0.cell? ⟨w.heap.size,0,none⟩=some (.pointer P):=by
  rw[vo];exact aa ((uO _ _ _ (by simp;omega)).trans ((uO _ _ _ (by simp)).trans (ab w _))) 0
 have n0:w0.cell? ⟨w.heap.size+1,0,none⟩=some (.slice none 0 0):=aa Jk 0;have nf0:=ae Jk 0;have e0:w0.cell? ⟨w.heap.size+1+1,0,none⟩=some (.int .i64 0):=aa Fw 0;have ef0:=ae Fw 0;have Gh:w.heap.size+1<w0.heap.size:=(by omega);have Cf:w.heap.size+1+1<w0.heap.size:=(by omega);have wG:=uK (dl P w0 (h.below vp));have vR:=uK vo;have wI:=uK vp;clear vo vp Fw Jk wb h;gi_wp2_with (first
  |(refine⟨trivial,?_⟩;rw[<-vR.out];refine(callsIn_wide.2 wG.out).mono ?_;rintro e w1 ⟨rfl,rfl⟩)
  |fail)
 exact⟨.tuple #[.slice none 0 0, .int .i64 2],by simp[results,Tryz.results70,go_sem,n0,e0,nf0,ef0,Gh,Cf],rfl,((wI.out).setCell (p:=⟨w.heap.size+1,0,none⟩) (by simp) _).setCell (p:=⟨w.heap.size+1+1,0,none⟩) (by show w.heap.size<=w.heap.size+1+1;omega) _⟩
theorem oq (P:Option Addr) (addr want:Value) (A:Option Addr) (n cap:Nat) (w:World) (h:bI w P):
  Calls Tryz.prog 71 #[.pointer P,addr, .slice A n cap,want] w fun e w'=>e= .returned (.int .i64 2)/\Below w.heap.size w w':=by
 refine(callsIn_wide (n:=9)).1 ?_;refine callsIn_of_wp_marks Tryz.func71 rfl trivial ?_;simp only[Tryz.ntmps71,List.size_toArray,uX,List.length_nil,Nat.reduceAdd,Nat.reduceSub,Array.replicate_succ,Array.replicate_zero,List.push_toArray,List.append_toArray,List.nil_append,List.cons_append];obtain⟨w0,vo⟩: ∃w0,w0=((w.alloc (.cells #[.pointer P] 60)).alloc (.cells #[.slice A n cap] 39)).alloc (.cells #[.int .i64 0] 32):=⟨_,rfl⟩;have wb:w0.heap.size=w.heap.size+1+1+1:=(by rw[vo];simp);have vp:Below w.heap.size w w0:=(by rw[vo];exact(uM.alloc (by simp) _).alloc (by simp;omega) _);have Fw:w0.heap[w.heap.size+1+1]? =some (.cells #[.int .i64 0] 32 (0,0)):=by
  rw[vo];have:=ab ((w.alloc (.cells #[.pointer P] 60)).alloc (.cells #[.slice A n cap] 39)) (.cells #[.int .i64 0] 32)
  rwa [World.size_alloc,World.size_alloc]at this
 have s0:w0.cell? ⟨w.heap.size,0,none⟩=some (.pointer P):=by
  rw[vo];exact aa ((uO _ _ _ (by simp;omega)).trans ((uO _ _ _ (by simp)).trans (ab w _))) 0
 have e0:w0.cell? ⟨w.heap.size+1+1,0,none⟩=some (.int .i64 0):=aa Fw 0;have ef0:=ae Fw 0;have Cf:w.heap.size+1+1<w0.heap.size:=(by omega);have wG:=uK (dl P w0 (h.below vp));have vR:=uK vo;have wI:=uK vp;clear vo vp Fw wb h;gi_wp2_with (first
  |(refine⟨trivial,?_⟩;rw[<-vR.out];refine(callsIn_wide.2 wG.out).mono ?_;rintro e w1 ⟨rfl,rfl⟩)
  |fail)
 exact⟨.int .i64 2,by simp[results,Tryz.results71,go_sem,e0,ef0,Cf],rfl,(wI.out).setCell (p:=⟨w.heap.size+1+1,0,none⟩) (by show w.heap.size<=w.heap.size+1+1;omega) _⟩
theorem sj (P:Option Addr) (r:Reg) (w:World) (h:bI w P):
  Calls Tryz.prog 25 #[.pointer P, .agg #[.int .u64 (r).fr, .int .u64 (r).to, .int .u8 (r).prot, .int .i64 (r).ino, .int .u64 (r).off]] w fun e w'=>e= .returned (.int .i64 2)/\Below w.heap.size w w':=by
 refine(callsIn_wide (n:=9)).1 ?_;refine callsIn_of_wp_marks Tryz.func25 rfl trivial ?_;simp only[Tryz.ntmps25,List.size_toArray,uX,List.length_nil,Nat.reduceAdd,Nat.reduceSub,Array.replicate_succ,Array.replicate_zero,List.push_toArray,List.append_toArray,List.nil_append,List.cons_append];obtain⟨w0,vo⟩: ∃w0,w0=(w.alloc (.cells #[.pointer P] 60)).alloc (.cells #[.int .u64 r.fr, .int .u64 r.to, .int .u8 r.prot, .int .i64 r.ino, .int .u64 r.off] 45):=⟨_,rfl⟩;have vp:Below w.heap.size w w0:=(by rw[vo];exact uM.alloc (by simp) _);have s0:w0.cell? ⟨w.heap.size,0,none⟩=some (.pointer P):=by
  rw[vo];exact aa ((uO _ _ _ (by simp)).trans (ab w _)) 0
 have wG:=uK (dl P w0 (h.below vp));have vR:=uK vo;have wI:=uK vp;clear vo vp h;gi_wp2_with (first
  |(refine⟨trivial,?_⟩;rw[<-vR.out];refine(callsIn_wide.2 wG.out).mono ?_;rintro e w1 ⟨rfl,rfl⟩)
  |fail)
 exact⟨.int .i64 2,by simp[results,Tryz.results25,go_sem],rfl,wI.out⟩
theorem om (P:Option Addr) (x y:Value) (w:World) (h:bI w P):
  Calls Tryz.prog 26 #[.pointer P,x,y] w fun e w'=>e= .returned (.int .i64 2)/\Below w.heap.size w w':=by
 refine(callsIn_wide (n:=9)).1 ?_;refine callsIn_of_wp_marks Tryz.func26 rfl trivial ?_;simp only[Tryz.ntmps26,List.size_toArray,uX,List.length_nil,Nat.reduceAdd,Nat.reduceSub,Array.replicate_succ,Array.replicate_zero,List.push_toArray,List.append_toArray,List.nil_append,List.cons_append];obtain⟨w0,vo⟩: ∃w0,w0=w.alloc (.cells #[.pointer P] 60):=⟨_,rfl⟩;have vp:Below w.heap.size w w0:=(by rw[vo];exact uM);have s0:w0.cell? ⟨w.heap.size,0,none⟩=some (.pointer P):=(by rw[vo];exact aa (ab w _) 0);have wG:=uK (dl P w0 (h.below vp));have vR:=uK vo;have wI:=uK vp;clear vo vp h;gi_wp2_with (first
  |(refine⟨trivial,?_⟩;rw[<-vR.out];refine(callsIn_wide.2 wG.out).mono ?_;rintro e w1 ⟨rfl,rfl⟩)
  |fail)
 exact⟨.int .i64 2,by simp[results,Tryz.results26,go_sem],rfl,wI.out⟩
theorem kZ (P:Option Addr) (x y:Value) (z:Int) (w:World) (h:bI w P):
  Calls Tryz.prog 27 #[.pointer P,x,y, .int .u8 z] w fun e w'=>e= .returned (.int .i64 2)/\Below w.heap.size w w':=by
 refine(callsIn_wide (n:=9)).1 ?_;refine callsIn_of_wp_marks Tryz.func27 rfl trivial ?_;simp only[Tryz.ntmps27,List.size_toArray,uX,List.length_nil,Nat.reduceAdd,Nat.reduceSub,Array.replicate_succ,Array.replicate_zero,List.push_toArray,List.append_toArray,List.nil_append,List.cons_append];obtain⟨w0,vo⟩: ∃w0,w0=(w.alloc (.cells #[.pointer P] 60)).alloc (.cells #[.int .u8 z] 5):=⟨_,rfl⟩;have vp:Below w.heap.size w w0:=(by rw[vo];exact uM.alloc (by simp) _);have s0:w0.cell? ⟨w.heap.size,0,none⟩=some (.pointer P):=(by rw[vo];exact aa ((uO _ _ _ (by simp)).trans (ab w _)) 0);have wG:=uK (dl P w0 (h.below vp));have vR:=uK vo;have wI:=uK vp;clear vo vp h;gi_wp2_with (first
  |(refine⟨trivial,?_⟩;rw[<-vR.out];refine(callsIn_wide.2 wG.out).mono ?_;rintro e w1 ⟨rfl,rfl⟩)
  |fail)
 exact⟨.int .i64 2,by simp[results,Tryz.results27,go_sem],rfl,wI.out⟩
theorem qA (P:Option Addr) (w:World) (h:bI w P):Calls Tryz.prog 32 #[.pointer P] w fun e w'=>e= .returned (.tuple #[.pointer none, .int .i64 2])/\w=w':=by
 have HG:=uK (dl P w h);clear h;go_enter Tryz.func32,Tryz.ntmps32;go_wp2_with (first|(refine(HG.out).mono ?_;rintro e w1 ⟨rfl,rfl⟩)|fail);go_ret2;exact⟨rfl,rfl⟩
theorem kE (P:Option Addr) (w:World) (h:bI w P):Calls Tryz.prog 21 #[.pointer P] w fun e w'=>e= .returned (.tuple #[])/\w=w':=by
 have HG:=uK (dl P w h);clear h;go_enter Tryz.func21,Tryz.ntmps21;go_wp2_with (first|(refine(HG.out).mono ?_;rintro e w1 ⟨rfl,rfl⟩)|fail);refine bodyPost_ret (results_none rfl _ _ _) rfl ?_;exact⟨rfl,rfl⟩
theorem iU (P addr len:Value) (w:World) (Post:Ending->World->Prop) (h:Calls Tryz.prog 70 #[P,addr,len, .int .u8 4] w fun e w'=>(∃x y,e= .returned (.tuple #[x,y]))/\Post e w'):Calls Tryz.prog 28 #[P,addr,len] w Post:=by
 have H:=uK h;clear h;go_enter Tryz.func28,Tryz.ntmps28;go_wp2_with (first|(refine(H.out).mono ?_;rintro e w1 ⟨⟨x,y,rfl⟩,hp⟩)|fail);exact hp
theorem sPeek_of (P addr len:Value) (w:World) (Post:Ending->World->Prop) (h:Calls Tryz.prog 70 #[P,addr,len, .int .u8 0] w fun e w'=>(∃x y,e= .returned (.tuple #[x,y]))/\Post e w'):Calls Tryz.prog 29 #[P,addr,len] w Post:=by
 have H:=uK h;clear h;go_enter Tryz.func29,Tryz.ntmps29;go_wp2_with (first|(refine(H.out).mono ?_;rintro e w1 ⟨⟨x,y,rfl⟩,hp⟩)|fail);exact hp
theorem mH (P addr b:Value) (w:World) (Post:Ending->World->Prop) (h:Calls Tryz.prog 71 #[P,addr,b, .int .u8 2] w fun e w'=>(∃x,e= .returned (.int .i64 x))/\Post e w'):Calls Tryz.prog 30 #[P,addr,b] w Post:=by
 have H:=uK h;clear h;go_enter Tryz.func30,Tryz.ntmps30;go_wp2_with (first|(refine(H.out).mono ?_;rintro e w1 ⟨⟨x,rfl⟩,hp⟩)|fail);exact hp
theorem sPoke_of (P addr b:Value) (w:World) (Post:Ending->World->Prop) (h:Calls Tryz.prog 71 #[P,addr,b, .int .u8 0] w fun e w'=>(∃x,e= .returned (.int .i64 x))/\Post e w'):Calls Tryz.prog 31 #[P,addr,b] w Post:=by
 have H:=uK h;clear h;go_enter Tryz.func31,Tryz.ntmps31;go_wp2_with (first|(refine(H.out).mono ?_;rintro e w1 ⟨⟨x,rfl⟩,hp⟩)|fail);exact hp
def uv (w:World) (S:Nat->Prop) (s t a:Nat) (p:Pool) (L:List Nat) (e:Ending) (w':World):Prop:=
 e= .returned (.tuple #[])/\ai w' S a (cm p L)/\Mod (fun b=>S b\/b=t\/b=s) w w'/\w'.cell? ⟨s,2,none⟩=some (.pointer none)
theorem su (s c a t n cap root:Nat) (A:Option Addr) (w:World) (S:Nat->Prop) (p:Pool) (T:Tab) (rest:Nat->Nat) (pg0:Nat) (xO:dC w s c a t A n cap) (h:ai w S a p) (ht:ag w t c a root) (ze: ¬S t) (Rm:t≠0) (hsS: ¬S s) (xv:s≠0) (xL:s≠t) (hg:T.Good p rest pg0 4) (hr:T.nd 4 0=some root):
  Calls Tryz.prog 21 #[.pointer (some ⟨s,0,none⟩)] w (uv w S s t a p ((T.evs 4 0).flatMap Ev.fs)):=by
 have HG:=uK (eI s c a t n cap A w xO);have HF:=uK (mx t c a root w S p T rest pg0 h ht ze Rm hg hr);have c2:w.cell? ⟨s,2,none⟩=some (.pointer (some ⟨t,0,none⟩)):=aa xO 2;have HS:=uK xO;have Nm:s<w.heap.size:=(uJ xO).1;clear h xO ht hg hr;go_enter Tryz.func21,Tryz.ntmps21;go_wp2_with (first
  |(go_at_call 56;refine(HG.out).mono ?_;rintro e w1 ⟨rfl,rfl⟩)
  |(go_at_call 58;refine(HF.out).mono ?_;rintro e w1 ⟨rfl,yh,wA,Jd⟩;have BD:=(wA.block s Nm (fun e=>e.elim hsS xL)).trans HS.out;have yF:=uK yh;have GQ:=uK wA;have Ve:=uK BD;clear yh wA Jd;have d2:w1.cell? ⟨s,2,none⟩=some (.pointer (some ⟨t,0,none⟩)):=aa BD 2;have df2:=ae BD 2;clear BD)
  |fail)
 go_end0;have vE:Mod (fun b=>b=s) w1 (w1.setCell ⟨s,2,none⟩ (.pointer none)):=al (S:=fun b=>b=s) rfl 2 _;refine⟨rfl,yF.out.mod vE (fun b hb e=>by subst e;exact hsS hb) (fun e=>xv e.symm),(GQ.out.sub fun b hb=>hb.imp id .inl).trans (Out.refl _ _) (vE.sub fun b hb=> .inr (.inr hb)),?_⟩;have h9:=Joins.block_setCell (i:=2) Ve.out (.pointer none);exact aa (cs:= #[.pointer (some ⟨c,0,none⟩), .pointer (some ⟨a,0,none⟩), .pointer none, .slice A n cap]) (by simpa using h9) 2
def uo (w:World) (S:Nat->Prop) (c a fs m:Nat) (clock:Int) (p:Pool) (L:List Slot) (e:Ending) (w':World):Prop:=
 (∃f p' L' S' t,e= .returned (.tuple #[.pointer (some ⟨t,0,none⟩), .int .i64 0])/\ap w' S' c a fs m clock p' L'/\ag w' t c a f/\Mod (Both S m) w w'/\Out S S' w/\w.heap.size<=t/\t<w'.heap.size/\ ¬S' t/\ax p L 0 f p' L')\/
 (∃f p' L' S',e= .returned (.tuple #[.pointer none, .int .i64 4])/\ap w' S' c a fs m clock p' L'/\Mod (Both S m) w w'/\Out S S' w/\ax p L 4 f p' L'/\p'=p/\L'=L)
theorem pB (c a fs m:Nat) (clock:Int) (w:World) (S:Nat->Prop) (p:Pool) (L:List Slot) (h:ap w S c a fs m clock p L):
  Calls Tryz.prog 60 #[.pointer (some ⟨c,0,none⟩)] w (uo w S c a fs m clock p L):=by
 have Fm:=fm c a fs m clock w S p L h;have HC:=uK Fm;clear h Fm;go_enter Tryz.func60,Tryz.ntmps60;go_wp2_with fail;refine HC.out.mono ?_;rintro e w1 ⟨r,f,p',L',S',rfl,h1,h2,h3,h4⟩;have H1:=uK h1;have H2:=uK h2;have H3:=uK h3;rcases h4.two with rfl|⟨rfl,rfl,rfl,rfl⟩
 ·have H4:=uK h4;clear h1 h2 h3 h4;go_wp2_with fail;refine(nK c a fs m clock _ H1.out.self).mono ?_;rintro e w2 ⟨rfl,rfl⟩;go_wp2_with fail;go_ret2;exact(.inl ⟨f,p',L',S',w1.heap.size,rfl,H1.out.below uM,ab _ _,H2.out.trans (fun b hb=> .inr hb) (Mod.of uM),H3.out,H2.out.size,by simp,fun e=>by have:=H1.out.pool.low _ e;omega,H4.out⟩)
 ·have H4:=uK h4;clear h1 h2 h3 h4;go_wp2_with fail;go_ret2;exact(.inr ⟨0,p',L',S',rfl,H1.out,H2.out,H3.out,H4.out,rfl,rfl⟩)
def SNewPost (w:World) (S:Nat->Prop) (c a fs m:Nat) (clock:Int) (p:Pool) (L:List Slot) (e:Ending) (w':World):Prop:=
 (∃f p' L' S' s t,e= .returned (.tuple #[.pointer (some ⟨s,0,none⟩), .int .i64 0])/\ap w' S' c a fs m clock p' L'/\dC w' s c a t none 0 0/\ag w' t c a f/\Mod (Both S m) w w'/\Out S S' w/\w.heap.size<=t/\t<s/\s<w'.heap.size/\ ¬S' t/\ ¬S' s/\ax p L 0 f p' L')\/
 (∃f p' L' S',e= .returned (.tuple #[.pointer none, .int .i64 4])/\ap w' S' c a fs m clock p' L'/\Mod (Both S m) w w'/\Out S S' w/\ax p L 4 f p' L'/\p'=p/\L'=L)
theorem snew_any (c a fs m:Nat) (clock:Int) (w:World) (S:Nat->Prop) (p:Pool) (L:List Slot) (h:ap w S c a fs m clock p L):
  Calls Tryz.prog 24 #[.pointer (some ⟨c,0,none⟩)] w (SNewPost w S c a fs m clock p L):=by
 have Fm:=pB c a fs m clock w S p L h;have HC:=uK Fm;clear h Fm;go_enter Tryz.func24,Tryz.ntmps24;go_wp2_with fail;refine HC.out.mono ?_;rintro e w1 (⟨f,p',L',S',t,rfl,h1,h2,h3,h4,h5,h6,h7,h8⟩|⟨f,p',L',S',rfl,h1,h2,h3,h4,h5,h6⟩)
 ·have H1:=uK h1;have H2:=uK h2;have H3:=uK h3;have H4:=uK h4;have H8:=uK h8;clear h1 h2 h3 h4 h8;go_wp2_with (first
   |(refine(nK c a fs m clock _ H1.out.self).mono ?_;rintro e w2 ⟨rfl,rfl⟩)
   |fail)
  go_ret2;have hb:=(vj w1.heap.size w1).alloc (uN _) (.cells #[.pointer (some ⟨c,0,none⟩), .pointer (some ⟨a,0,none⟩), .pointer (some ⟨t,0,none⟩), .slice none 0 0] 122);exact .inl ⟨f,p',L',S',w1.heap.size,t,rfl,H1.out.below hb,ab _ _,(hb.block t h6).trans H2.out,H3.out.trans (fun b hb=> .inr hb) (Mod.of hb),H4.out,h5,h6,by simp,h7,fun e=>by have:=H1.out.pool.low _ e;omega,H8.out⟩
 ·have H1:=uK h1;have H2:=uK h2;have H3:=uK h3;have H4:=uK h4;clear h1 h2 h3 h4;go_wp2_with fail;go_ret2;exact .inr ⟨f,p',L',S',rfl,H1.out,H2.out,H3.out,H4.out,h5,h6⟩
end
