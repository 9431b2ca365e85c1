/- Files: what vfs.New makes of entries. -/
import Derived.Test.YtkkmcnngpahfaaaGreatDoorVpZ
import Derived.Test.YtkkmcnngpahfaaaGreatDoorMga
import Derived.Test.YtkkmcnngpahfaaaGreatDoorTfZ
namespace Go.Proofs.YtkkmcnngpahfaaaGreatDoor
open Go.RowKit Go.Sort
set_option linter.unusedSimpArgs false
set_option linter.unusedVariables false

theorem addM_bytes {F : List Nd} {e : Ent} (hF : BytesF F) (hd : ∀ i, e.dat i < 256) : BytesF (addM F e).2 := by
  unfold addM
  split
  · exact hF
  · split
    · exact hF
    · split
      · exact hF
      · split
        · exact hF
        · intro i y hy
          simp only at hy
          by_cases hi : i < F.length
          · rw [List.getElem?_append_left hi] at hy
            exact hF i y hy
          · rw [List.getElem?_append_right (by omega)] at hy
            have := List.mem_of_getElem? hy
            rw [List.mem_singleton] at this
            subst this
            exact hd
theorem newM_bytes : ∀ {l : List Ent} {F : List Nd} {i : Nat}, BytesF F → (∀ x ∈ l, ∀ i, x.dat i < 256) → BytesF (newM F i l).2.2
  | [], F, i, hF, _ => hF
  | e :: l, F, i, hF, hd => by
    unfold newM
    split
    · exact hF
    · exact newM_bytes (addM_bytes hF (hd e (List.mem_cons_self ..))) (fun x hx => hd x (List.mem_cons_of_mem _ hx))
theorem root_bytes : BytesF [rootNd] := fun i y hy => by
  have := List.mem_of_getElem? hy
  rw [List.mem_singleton] at this
  subst this
  exact fun j => by show 0 < 256; omega

theorem newM_len : ∀ {l : List Ent} {F : List Nd} {i : Nat}, (newM F i l).2.2.length ≤ F.length + l.length
  | [], F, i => Nat.le_refl _
  | e :: l, F, i => by
    unfold newM
    split
    · show F.length ≤ F.length + (l.length + 1)
      omega
    · have h1 := @newM_len l (addM F e).2 (i + 1)
      have h2 : (addM F e).2.length ≤ F.length + 1 := by
        unfold addM
        repeat' split
        all_goals (simp)
      show _ ≤ F.length + (l.length + 1)
      omega
/-- What the files are that New makes. -/
def filesOf (l : List Ent) : List Nd := (newM [rootNd] 0 l).2.2
theorem filesOf_bytes {l : List Ent} (h : ∀ x ∈ l, ∀ i, x.dat i < 256) : BytesF (filesOf l) := newM_bytes root_bytes h
theorem filesOf_len {l : List Ent} (h : l.length ≤ 64) : (filesOf l).length ≤ 1000 := by
  have := @newM_len l [rootNd] 0
  unfold filesOf
  simp at this
  omega
theorem vnew_bad (P : Option Addr) (cap : Nat) (l : List Ent) (w : World) (hl : EntsAt w P l) (hcap : l.length ≤ cap) (h64 : l.length ≤ 64) (hr : (newM [rootNd] 0 l).1 ≠ 0) :
    Calls Tryz.prog 23 #[.slice P l.length cap] w fun e w' => ∃ r q, e = .returned (.tuple #[.pointer none, .int .i64 r, .int .i64 q]) ∧ (r != 0) = true ∧ Below w.heap.size w w' := by
  refine (vnew_any P l.length cap l w hl rfl hcap (by omega)).mono fun e w' h => ?_
  unfold VNewPostG at h
  rw [if_neg (by omega), if_pos hr] at h
  exact ⟨_, _, h.1, by rw [bne_iff_ne]; exact hr, h.2⟩
theorem vnew_good (P : Option Addr) (cap : Nat) (l : List Ent) (w : World) (hl : EntsAt w P l) (hcap : l.length ≤ cap) (h64 : l.length ≤ 64) (hr : (newM [rootNd] 0 l).1 = 0) :
    Calls Tryz.prog 23 #[.slice P l.length cap] w fun e w' => ∃ fs, e = .returned (.tuple #[.pointer (some ⟨fs, 0, none⟩), .int .i64 0, .int .i64 0]) ∧ (∃ nb c2 ad mp, FsIs w' w.heap.size fs nb c2 ad mp (filesOf l)) ∧ Below w.heap.size w w' := by
  refine (vnew_any P l.length cap l w hl rfl hcap (by omega)).mono fun e w' h => ?_
  unfold VNewPostG at h
  rw [if_neg (by omega), if_neg (by omega)] at h
  obtain ⟨fs, nb, c2, ad, mp, h1, h2, h3⟩ := h
  exact ⟨fs, h1, ⟨nb, c2, ad, mp, h2⟩, h3⟩
theorem fnew8_bad (n : Int) (w : World) (h : n < 1) : Calls Tryz.prog 25 #[.int .i64 n] w fun e w' => e = .returned (.tuple #[.pointer none, .int .i64 1]) ∧ w = w' := by
  go_enter Tryz.func25, Tryz.ntmps25
  go_wp2_with fail
  go_ret2
  exact ⟨rfl, rfl⟩

/-- The file of one byte. -/
def entA : Ent := ⟨⟨#[47, 97]⟩, 1, 420, 0, 0, 1, fun _ => 7, ⟨#[]⟩⟩
theorem entA_ok : (newM [rootNd] 0 [entA]).1 = 0 := by kernel_rfl
theorem entA_file : ∃ y, (filesOf [entA])[1]? = some y ∧ y.kind = 1 ∧ y.n = 1 ∧ ∀ i, y.dat i = 7 := ⟨newNd entA 0 ⟨#[97]⟩, by kernel_rfl, by kernel_rfl, by kernel_rfl, fun i => rfl⟩

end Go.Proofs.YtkkmcnngpahfaaaGreatDoor
