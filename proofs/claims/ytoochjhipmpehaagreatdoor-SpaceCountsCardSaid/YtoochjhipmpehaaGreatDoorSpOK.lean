/- Spaces: of no space; -/
import Derived.Test.YtoochjhipmpehaaGreatDoorSpFK
import Derived.Test.YtoochjhipmpehaaGreatDoorSpGK
set_option linter.unusedVariables false
set_option linter.unusedSimpArgs false
set_option maxRecDepth 100000
set_option maxHeartbeats 2000000
namespace Go.Proofs.YtoochjhipmpehaaGreatDoor
section
open Go.RowKit Go.Sort
attribute [local go_sem] Oper.semAt_some
theorem br.below {w w':World} {P:Option Addr} (h:br w P) (hb:Below w.heap.size w w'):br w' P:=by
 cases P with
 |none=>trivial
 |some ad=>
  obtain⟨s,rfl,hc⟩:=h;exact⟨s,rfl,(hb.cell (World.block_lt_of_cell? _ _ hc)).trans hc⟩
theorem qM (P:Option Addr) (addr len want:Value) (w:World) (h:br w P):
  Calls Tryz.prog 70 #[.pointer P,addr,len,want] w fun e w'=>e= .returned (.tuple #[.slice none 0 0, .int .i64 2])/\Below w.heap.size w w':=by
 refine(callsIn_wide (n:=9)).1 ?_;refine callsIn_of_wp_marks Tryz.func70 rfl trivial ?_;simp only[Tryz.ntmps70,List.size_toArray,vC,List.length_nil,Nat.reduceAdd,Nat.reduceSub,Array.replicate_succ,Array.replicate_zero,List.push_toArray,List.append_toArray,List.nil_append,List.cons_append];obtain⟨w0,vT⟩: ∃w0,w0=((w.alloc (.cells #[.pointer P] 60)).alloc (.cells #[.slice none 0 0] 39)).alloc (.cells #[.int .i64 0] 32):=⟨_,rfl⟩;have wM:w0.heap.size=w.heap.size+1+1+1:=(by rw[vT];simp);have vU:Below w.heap.size w w0:=(by rw[vT];exact(vr.alloc (by simp) _).alloc (by simp;omega) _);have FE:w0.heap[w.heap.size+1+1]? =some (.cells #[.int .i64 0] 32 (0,0)):=by
  rw[vT];have:=ab ((w.alloc (.cells #[.pointer P] 60)).alloc (.cells #[.slice none 0 0] 39)) (.cells #[.int .i64 0] 32)
  rwa [World.size_alloc,World.size_alloc]at this
 have Jb:w0.heap[w.heap.size+1]? =some (.cells #[.slice none 0 0] 39 (0,0)):=by
  rw[vT];have:=ab (w.alloc (.cells #[.pointer P] 60)) (.cells #[.slice none 0 0] 39);rw[World.size_alloc]at this;exact(vt _ _ _ (by simp)).trans this
 have s0:w0.cell? ⟨w.heap.size,0,none⟩=some (.pointer P):=by
  rw[vT];exact aa ((vt _ _ _ (by simp;omega)).trans ((vt _ _ _ (by simp)).trans (ab w _))) 0
 have n0:w0.cell? ⟨w.heap.size+1,0,none⟩=some (.slice none 0 0):=aa Jb 0;have nf0:=ae Jb 0;have e0:w0.cell? ⟨w.heap.size+1+1,0,none⟩=some (.int .i64 0):=aa FE 0;have ef0:=ae FE 0;have Gl:w.heap.size+1<w0.heap.size:=(by omega);have Ct:w.heap.size+1+1<w0.heap.size:=(by omega);have xd:=vp (cO P w0 (h.below vU));have wD:=vp vT;have xe:=vp vU;clear vT vU FE Jb wM h;gi_wp2_with (first
  |(refine⟨trivial,?_⟩;rw[<-wD.out];refine(callsIn_wide.2 xd.out).mono ?_;rintro e w1 ⟨rfl,rfl⟩)
  |fail)
 exact⟨.tuple #[.slice none 0 0, .int .i64 2],by simp[results,Tryz.results70,go_sem,n0,e0,nf0,ef0,Gl,Ct],rfl,((xe.out).setCell (p:=⟨w.heap.size+1,0,none⟩) (by simp) _).setCell (p:=⟨w.heap.size+1+1,0,none⟩) (by show w.heap.size<=w.heap.size+1+1;omega) _⟩
theorem oq (P:Option Addr) (addr want:Value) (A:Option Addr) (n cap:Nat) (w:World) (h:br w P):
  Calls Tryz.prog 71 #[.pointer P,addr, .slice A n cap,want] w fun e w'=>e= .returned (.int .i64 2)/\Below w.heap.size w w':=by
 refine(callsIn_wide (n:=9)).1 ?_;refine callsIn_of_wp_marks Tryz.func71 rfl trivial ?_;simp only[Tryz.ntmps71,List.size_toArray,vC,List.length_nil,Nat.reduceAdd,Nat.reduceSub,Array.replicate_succ,Array.replicate_zero,List.push_toArray,List.append_toArray,List.nil_append,List.cons_append];obtain⟨w0,vT⟩: ∃w0,w0=((w.alloc (.cells #[.pointer P] 60)).alloc (.cells #[.slice A n cap] 39)).alloc (.cells #[.int .i64 0] 32):=⟨_,rfl⟩;have wM:w0.heap.size=w.heap.size+1+1+1:=(by rw[vT];simp);have vU:Below w.heap.size w w0:=(by rw[vT];exact(vr.alloc (by simp) _).alloc (by simp;omega) _);have FE:w0.heap[w.heap.size+1+1]? =some (.cells #[.int .i64 0] 32 (0,0)):=by
  rw[vT];have:=ab ((w.alloc (.cells #[.pointer P] 60)).alloc (.cells #[.slice A n cap] 39)) (.cells #[.int .i64 0] 32)
  rwa [World.size_alloc,World.size_alloc]at this
 have s0:w0.cell? ⟨w.heap.size,0,none⟩=some (.pointer P):=by
  rw[vT];exact aa ((vt _ _ _ (by simp;omega)).trans ((vt _ _ _ (by simp)).trans (ab w _))) 0
 have e0:w0.cell? ⟨w.heap.size+1+1,0,none⟩=some (.int .i64 0):=aa FE 0;have ef0:=ae FE 0;have Ct:w.heap.size+1+1<w0.heap.size:=(by omega);have xd:=vp (cO P w0 (h.below vU));have wD:=vp vT;have xe:=vp vU;clear vT vU FE wM h;gi_wp2_with (first
  |(refine⟨trivial,?_⟩;rw[<-wD.out];refine(callsIn_wide.2 xd.out).mono ?_;rintro e w1 ⟨rfl,rfl⟩)
  |fail)
 exact⟨.int .i64 2,by simp[results,Tryz.results71,go_sem,e0,ef0,Ct],rfl,(xe.out).setCell (p:=⟨w.heap.size+1+1,0,none⟩) (by show w.heap.size<=w.heap.size+1+1;omega) _⟩
theorem sL (P:Option Addr) (r:Reg) (w:World) (h:br w P):
  Calls Tryz.prog 25 #[.pointer P, .agg #[.int .u64 (r).fr, .int .u64 (r).to, .int .u8 (r).prot, .int .i64 (r).ino, .int .u64 (r).off]] w fun e w'=>e= .returned (.int .i64 2)/\Below w.heap.size w w':=by
 refine(callsIn_wide (n:=9)).1 ?_;refine callsIn_of_wp_marks Tryz.func25 rfl trivial ?_;simp only[Tryz.ntmps25,List.size_toArray,vC,List.length_nil,Nat.reduceAdd,Nat.reduceSub,Array.replicate_succ,Array.replicate_zero,List.push_toArray,List.append_toArray,List.nil_append,List.cons_append];obtain⟨w0,vT⟩: ∃w0,w0=(w.alloc (.cells #[.pointer P] 60)).alloc (.cells #[.int .u64 r.fr, .int .u64 r.to, .int .u8 r.prot, .int .i64 r.ino, .int .u64 r.off] 45):=⟨_,rfl⟩;have vU:Below w.heap.size w w0:=(by rw[vT];exact vr.alloc (by simp) _);have s0:w0.cell? ⟨w.heap.size,0,none⟩=some (.pointer P):=by
  rw[vT];exact aa ((vt _ _ _ (by simp)).trans (ab w _)) 0
 have xd:=vp (cO P w0 (h.below vU));have wD:=vp vT;have xe:=vp vU;clear vT vU h;gi_wp2_with (first
  |(refine⟨trivial,?_⟩;rw[<-wD.out];refine(callsIn_wide.2 xd.out).mono ?_;rintro e w1 ⟨rfl,rfl⟩)
  |fail)
 exact⟨.int .i64 2,by simp[results,Tryz.results25,go_sem],rfl,xe.out⟩
theorem ol (P:Option Addr) (x y:Value) (w:World) (h:br w P):
  Calls Tryz.prog 26 #[.pointer P,x,y] w fun e w'=>e= .returned (.int .i64 2)/\Below w.heap.size w w':=by
 refine(callsIn_wide (n:=9)).1 ?_;refine callsIn_of_wp_marks Tryz.func26 rfl trivial ?_;simp only[Tryz.ntmps26,List.size_toArray,vC,List.length_nil,Nat.reduceAdd,Nat.reduceSub,Array.replicate_succ,Array.replicate_zero,List.push_toArray,List.append_toArray,List.nil_append,List.cons_append];obtain⟨w0,vT⟩: ∃w0,w0=w.alloc (.cells #[.pointer P] 60):=⟨_,rfl⟩;have vU:Below w.heap.size w w0:=(by rw[vT];exact vr);have s0:w0.cell? ⟨w.heap.size,0,none⟩=some (.pointer P):=(by rw[vT];exact aa (ab w _) 0);have xd:=vp (cO P w0 (h.below vU));have wD:=vp vT;have xe:=vp vU;clear vT vU h;gi_wp2_with (first
  |(refine⟨trivial,?_⟩;rw[<-wD.out];refine(callsIn_wide.2 xd.out).mono ?_;rintro e w1 ⟨rfl,rfl⟩)
  |fail)
 exact⟨.int .i64 2,by simp[results,Tryz.results26,go_sem],rfl,xe.out⟩
theorem lu (P:Option Addr) (x y:Value) (z:Int) (w:World) (h:br w P):
  Calls Tryz.prog 27 #[.pointer P,x,y, .int .u8 z] w fun e w'=>e= .returned (.int .i64 2)/\Below w.heap.size w w':=by
 refine(callsIn_wide (n:=9)).1 ?_;refine callsIn_of_wp_marks Tryz.func27 rfl trivial ?_;simp only[Tryz.ntmps27,List.size_toArray,vC,List.length_nil,Nat.reduceAdd,Nat.reduceSub,Array.replicate_succ,Array.replicate_zero,List.push_toArray,List.append_toArray,List.nil_append,List.cons_append];obtain⟨w0,vT⟩: ∃w0,w0=(w.alloc (.cells #[.pointer P] 60)).alloc (.cells #[.int .u8 z] 5):=⟨_,rfl⟩;have vU:Below w.heap.size w w0:=(by rw[vT];exact vr.alloc (by simp) _);have s0:w0.cell? ⟨w.heap.size,0,none⟩=some (.pointer P):=(by rw[vT];exact aa ((vt _ _ _ (by simp)).trans (ab w _)) 0);have xd:=vp (cO P w0 (h.below vU));have wD:=vp vT;have xe:=vp vU;clear vT vU h;gi_wp2_with (first
  |(refine⟨trivial,?_⟩;rw[<-wD.out];refine(callsIn_wide.2 xd.out).mono ?_;rintro e w1 ⟨rfl,rfl⟩)
  |fail)
 exact⟨.int .i64 2,by simp[results,Tryz.results27,go_sem],rfl,xe.out⟩
theorem qO (P:Option Addr) (w:World) (h:br w P):Calls Tryz.prog 32 #[.pointer P] w fun e w'=>e= .returned (.tuple #[.pointer none, .int .i64 2])/\w=w':=by
 have HG:=vp (cO P w h);clear h;go_enter Tryz.func32,Tryz.ntmps32;go_wp2_with (first|(refine(HG.out).mono ?_;rintro e w1 ⟨rfl,rfl⟩)|fail);go_ret2;exact⟨rfl,rfl⟩
theorem qN (P:Option Addr) (w:World) (h:br w P):Calls Tryz.prog 21 #[.pointer P] w fun e w'=>e= .returned (.tuple #[])/\w=w':=by
 have HG:=vp (cO P w h);clear h;go_enter Tryz.func21,Tryz.ntmps21;go_wp2_with (first|(refine(HG.out).mono ?_;rintro e w1 ⟨rfl,rfl⟩)|fail);refine bodyPost_ret (results_none rfl _ _ _) rfl ?_;exact⟨rfl,rfl⟩
theorem oo (P:Option Addr) (w:World) (h:br w P):Calls Tryz.prog 33 #[.pointer P] w fun e w'=>e= .returned (.pointer none)/\w=w':=by
 have HG:=vp (cO P w h);clear h;go_enter Tryz.func33,Tryz.ntmps33;go_wp2_with (first|(refine(HG.out).mono ?_;rintro e w1 ⟨rfl,rfl⟩)|fail);go_ret;exact⟨rfl,rfl⟩
theorem iY (P addr len:Value) (w:World) (Post:Ending->World->Prop) (h:Calls Tryz.prog 70 #[P,addr,len, .int .u8 4] w fun e w'=>(∃x y,e= .returned (.tuple #[x,y]))/\Post e w'):Calls Tryz.prog 28 #[P,addr,len] w Post:=by
 have H:=vp h;clear h;go_enter Tryz.func28,Tryz.ntmps28;go_wp2_with (first|(refine(H.out).mono ?_;rintro e w1 ⟨⟨x,y,rfl⟩,hp⟩)|fail);exact hp
theorem sPeek_of (P addr len:Value) (w:World) (Post:Ending->World->Prop) (h:Calls Tryz.prog 70 #[P,addr,len, .int .u8 0] w fun e w'=>(∃x y,e= .returned (.tuple #[x,y]))/\Post e w'):Calls Tryz.prog 29 #[P,addr,len] w Post:=by
 have H:=vp h;clear h;go_enter Tryz.func29,Tryz.ntmps29;go_wp2_with (first|(refine(H.out).mono ?_;rintro e w1 ⟨⟨x,y,rfl⟩,hp⟩)|fail);exact hp
theorem mR (P addr b:Value) (w:World) (Post:Ending->World->Prop) (h:Calls Tryz.prog 71 #[P,addr,b, .int .u8 2] w fun e w'=>(∃x,e= .returned (.int .i64 x))/\Post e w'):Calls Tryz.prog 30 #[P,addr,b] w Post:=by
 have H:=vp h;clear h;go_enter Tryz.func30,Tryz.ntmps30;go_wp2_with (first|(refine(H.out).mono ?_;rintro e w1 ⟨⟨x,rfl⟩,hp⟩)|fail);exact hp
theorem sPoke_of (P addr b:Value) (w:World) (Post:Ending->World->Prop) (h:Calls Tryz.prog 71 #[P,addr,b, .int .u8 0] w fun e w'=>(∃x,e= .returned (.int .i64 x))/\Post e w'):Calls Tryz.prog 31 #[P,addr,b] w Post:=by
 have H:=vp h;clear h;go_enter Tryz.func31,Tryz.ntmps31;go_wp2_with (first|(refine(H.out).mono ?_;rintro e w1 ⟨⟨x,rfl⟩,hp⟩)|fail);exact hp
theorem qH (s c a t n cap:Nat) (A:Option Addr) (w:World) (h:cP w s c a t A n cap):Calls Tryz.prog 33 #[.pointer (some ⟨s,0,none⟩)] w fun e w'=>e= .returned (.pointer (some ⟨t,0,none⟩))/\w=w':=by
 have HG:=vp (dE s c a t n cap A w h);have c2:w.cell? ⟨s,2,none⟩=some (.pointer (some ⟨t,0,none⟩)):=aa h 2;clear h;go_enter Tryz.func33,Tryz.ntmps33;go_wp2_with (first|(refine(HG.out).mono ?_;rintro e w1 ⟨rfl,rfl⟩)|fail);go_ret;exact⟨rfl,rfl⟩
def vc (w:World) (S:Nat->Prop) (s t a:Nat) (p:Pool) (L:List Nat) (e:Ending) (w':World):Prop:=
 e= .returned (.tuple #[])/\am w' S a (ce p L)/\Mod (fun b=>S b\/b=t\/b=s) w w'/\w'.cell? ⟨s,2,none⟩=some (.pointer none)
theorem sX (s c a t n cap root:Nat) (A:Option Addr) (w:World) (S:Nat->Prop) (p:Pool) (T:Tab) (rest:Nat->Nat) (pg0:Nat) (xv:cP w s c a t A n cap) (h:am w S a p) (ht:al w t c a root) (AF: ¬S t) (RC:t≠0) (hsS: ¬S s) (BP:s≠0) (xX:s≠t) (hg:T.Good p rest pg0 4) (hr:T.nd 4 0=some root):
  Calls Tryz.prog 21 #[.pointer (some ⟨s,0,none⟩)] w (vc w S s t a p ((T.evs 4 0).flatMap Ev.fs)):=by
 have HG:=vp (dE s c a t n cap A w xv);have HF:=vp (mG t c a root w S p T rest pg0 h ht AF RC hg hr);have c2:w.cell? ⟨s,2,none⟩=some (.pointer (some ⟨t,0,none⟩)):=aa xv 2;have HS:=vp xv;have Np:s<w.heap.size:=(vo xv).1;clear h xv ht hg hr;go_enter Tryz.func21,Tryz.ntmps21;go_wp2_with (first
  |(go_at_call 56;refine(HG.out).mono ?_;rintro e w1 ⟨rfl,rfl⟩)
  |(go_at_call 58;refine(HF.out).mono ?_;rintro e w1 ⟨rfl,BF,xE,IN⟩;have BL:=(xE.block s Np (fun e=>e.elim hsS xX)).trans HS.out;have Ex:=vp BF;have GM:=vp xE;have QQ:=vp BL;clear BF xE IN;have d2:w1.cell? ⟨s,2,none⟩=some (.pointer (some ⟨t,0,none⟩)):=aa BL 2;have df2:=ae BL 2;clear BL)
  |fail)
 go_end0;have wk:Mod (fun b=>b=s) w1 (w1.setCell ⟨s,2,none⟩ (.pointer none)):=aj (S:=fun b=>b=s) rfl 2 _;refine⟨rfl,Ex.out.mod wk (fun b hb e=>by subst e;exact hsS hb) (fun e=>BP e.symm),(GM.out.sub fun b hb=>hb.imp id .inl).trans (Out.refl _ _) (wk.sub fun b hb=> .inr (.inr hb)),?_⟩;have h9:=Joins.block_setCell (i:=2) QQ.out (.pointer none);exact aa (cs:= #[.pointer (some ⟨c,0,none⟩), .pointer (some ⟨a,0,none⟩), .pointer none, .slice A n cap]) (by simpa using h9) 2
def uW (w:World) (S:Nat->Prop) (c a fs m:Nat) (clock:Int) (p:Pool) (L:List Slot) (e:Ending) (w':World):Prop:=
 (∃f p' L' S' t,e= .returned (.tuple #[.pointer (some ⟨t,0,none⟩), .int .i64 0])/\au w' S' c a fs m clock p' L'/\al w' t c a f/\Mod (Both S m) w w'/\Out S S' w/\w.heap.size<=t/\t<w'.heap.size/\ ¬S' t/\ax p L 0 f p' L')\/
 (∃f p' L' S',e= .returned (.tuple #[.pointer none, .int .i64 4])/\au w' S' c a fs m clock p' L'/\Mod (Both S m) w w'/\Out S S' w/\ax p L 4 f p' L'/\p'=p/\L'=L)
theorem pB (c a fs m:Nat) (clock:Int) (w:World) (S:Nat->Prop) (p:Pool) (L:List Slot) (h:au w S c a fs m clock p L):
  Calls Tryz.prog 60 #[.pointer (some ⟨c,0,none⟩)] w (uW w S c a fs m clock p L):=by
 have BD:=fj c a fs m clock w S p L h;have HC:=vp BD;clear h BD;go_enter Tryz.func60,Tryz.ntmps60;go_wp2_with fail;refine HC.out.mono ?_;rintro e w1 ⟨r,f,p',L',S',rfl,h1,h2,h3,h4⟩;have H1:=vp h1;have H2:=vp h2;have H3:=vp h3;rcases h4.two with rfl|⟨rfl,rfl,rfl,rfl⟩
 ·have H4:=vp h4;clear h1 h2 h3 h4;go_wp2_with fail;refine(nH c a fs m clock _ H1.out.self).mono ?_;rintro e w2 ⟨rfl,rfl⟩;go_wp2_with fail;go_ret2;exact(.inl ⟨f,p',L',S',w1.heap.size,rfl,H1.out.below vr,ab _ _,H2.out.trans (fun b hb=> .inr hb) (Mod.of vr),H3.out,H2.out.size,by simp,fun e=>by have:=H1.out.pool.low _ e;omega,H4.out⟩)
 ·have H4:=vp h4;clear h1 h2 h3 h4;go_wp2_with fail;go_ret2;exact(.inr ⟨0,p',L',S',rfl,H1.out,H2.out,H3.out,H4.out,rfl,rfl⟩)
def SNewPost (w:World) (S:Nat->Prop) (c a fs m:Nat) (clock:Int) (p:Pool) (L:List Slot) (e:Ending) (w':World):Prop:=
 (∃f p' L' S' s t,e= .returned (.tuple #[.pointer (some ⟨s,0,none⟩), .int .i64 0])/\au w' S' c a fs m clock p' L'/\cP w' s c a t none 0 0/\al w' t c a f/\Mod (Both S m) w w'/\Out S S' w/\w.heap.size<=t/\t<s/\s<w'.heap.size/\ ¬S' t/\ ¬S' s/\ax p L 0 f p' L')\/
 (∃f p' L' S',e= .returned (.tuple #[.pointer none, .int .i64 4])/\au w' S' c a fs m clock p' L'/\Mod (Both S m) w w'/\Out S S' w/\ax p L 4 f p' L'/\p'=p/\L'=L)
theorem snew_any (c a fs m:Nat) (clock:Int) (w:World) (S:Nat->Prop) (p:Pool) (L:List Slot) (h:au w S c a fs m clock p L):
  Calls Tryz.prog 24 #[.pointer (some ⟨c,0,none⟩)] w (SNewPost w S c a fs m clock p L):=by
 have BD:=pB c a fs m clock w S p L h;have HC:=vp BD;clear h BD;go_enter Tryz.func24,Tryz.ntmps24;go_wp2_with fail;refine HC.out.mono ?_;rintro e w1 (⟨f,p',L',S',t,rfl,h1,h2,h3,h4,h5,h6,h7,h8⟩|⟨f,p',L',S',rfl,h1,h2,h3,h4,h5,h6⟩)
 ·have H1:=vp h1;have H2:=vp h2;have H3:=vp h3;have H4:=vp h4;have H8:=vp h8;clear h1 h2 h3 h4 h8;go_wp2_with (first
   |(refine(nH c a fs m clock _ H1.out.self).mono ?_;rintro e w2 ⟨rfl,rfl⟩)
   |fail)
  go_ret2;have hb:=(vO w1.heap.size w1).alloc (vs _) (.cells #[.pointer (some ⟨c,0,none⟩), .pointer (some ⟨a,0,none⟩), .pointer (some ⟨t,0,none⟩), .slice none 0 0] 122);exact .inl ⟨f,p',L',S',w1.heap.size,t,rfl,H1.out.below hb,ab _ _,(hb.block t h6).trans H2.out,H3.out.trans (fun b hb=> .inr hb) (Mod.of hb),H4.out,h5,h6,by simp,h7,fun e=>by have:=H1.out.pool.low _ e;omega,H8.out⟩
 ·have H1:=vp h1;have H2:=vp h2;have H3:=vp h3;have H4:=vp h4;clear h1 h2 h3 h4;go_wp2_with fail;go_ret2;exact .inr ⟨f,p',L',S',rfl,H1.out,H2.out,H3.out,H4.out,h5,h6⟩
end
