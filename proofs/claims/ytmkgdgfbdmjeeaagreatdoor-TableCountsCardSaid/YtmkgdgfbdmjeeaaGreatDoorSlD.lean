/- The sort of the slots. -/
import Derived.Test.YtmkgdgfbdmjeeaaGreatDoorSlC
import Derived.Test.YtmkgdgfbdmjeeaaGreatDoorSlL
import Derived.Shelf.SlSortCmp.NoneTotal

namespace Go.Proofs.YtmkgdgfbdmjeeaaGreatDoor
open Go.Shelf Go.RowKit Go.Lib Go.Sort
set_option linter.unusedSimpArgs false
set_option linter.unusedVariables false

theorem cmp_lt (x y : Slot) : ltOf cmpS x y = decide (small x.ino < small y.ino ∨ small x.ino = small y.ino ∧ small x.page < small y.page) := by
  unfold ltOf
  rw [Bool.eq_iff_iff, decide_eq_true_iff, decide_eq_true_iff]
  exact cmp_neg x y
theorem cmp_swo : SWO (ltOf cmpS) where
  irrefl x := by rw [cmp_lt]; simp
  trans x y z h1 h2 := by rw [cmp_lt] at *; simp only [decide_eq_true_eq] at *; omega
  ntrans x y z h1 h2 := by rw [cmp_lt] at *; simp only [decide_eq_false_iff_not] at *; omega

theorem sort_slots (A : Option Addr) (cap base : Nat) (l : List Slot) (W : World) (hown : OwnQ W base A cap l) (hS : Sole l) (hsm : Small l) (hf : l.length < 1000000) :
    Calls Tryz.prog 83 #[.slice A l.length cap, .func (.func 84) #[] #[]] W
      fun e w' => e = .returned (.tuple #[]) ∧ ∃ l', l'.length = l.length ∧ OwnQ w' base A cap l' ∧ l'.Perm l ∧ Rising l' ∧ Below base W w' := by
  rcases hown.form with ⟨rfl, rfl, rfl⟩ | ⟨g, cur, rfl, hb, hg, _⟩
  · have hcon := AnyF.slices_SortFunc_none Tryz.slSort none 0 (.func (.func 84) #[] #[]) W
    change Calls Tryz.prog 83 _ _ _ at hcon
    refine hcon.mono ?_
    rintro e w' ⟨rfl, rfl⟩
    exact ⟨rfl, [], rfl, hown, List.Perm.refl _, List.Pairwise.nil, Below.refl _ _⟩
  · have eg : ∀ args w, (callFunc 84 args).run Tryz.prog w = .ok (.enter 84 args) w := enters_of Tryz.func84 (by kernel_rfl) rfl
    have hcon := AnyQ.slices_SortFunc Tryz.slSort 3 Tryz.isAgg67 Tryz.sizeOf67 sc (fun _ => rfl) (fun x v hv => by simp [sc] at hv; rcases hv with rfl | rfl | rfl <;> rfl) cmpS cmp_swo 84 #[] g 0 cap l.toArray W eg
      (fun _ _ _ _ x y => cmp_any x y _) (hown.holds hsm) hg (by simp; omega)
    change Calls Tryz.prog 83 _ _ _ at hcon
    refine hcon.mono ?_
    rintro e w' ⟨rfl, d, n, os, ⟨hd, _, hperm⟩, hsort, rfl⟩
    have hd' : d.size = l.length := hd
    have hp : d.toList.Perm l := by
      have h1 : d.extract 0 l.toArray.size = d := by rw [← hd]; exact Array.extract_size
      have h2 : l.toArray.extract 0 l.toArray.size = l.toArray := Array.extract_size
      rw [h1, h2] at hperm
      exact hperm
    have hsm' : Small d.toList := fun s hs => hsm s (hp.mem_iff.1 hs)
    have hS' : Sole d.toList := hp.symm.pairwise hS fun h e => h ⟨e.1.symm, e.2.symm⟩
    obtain ⟨ho, hbe⟩ := hown.sorted (n := n) (os := os) hsm' hd'
    refine ⟨rfl, d.toList, by simpa using hd', ho, hp, rising_of hsm' hS' fun i j hij hj => ?_, hbe⟩
    have h3 := hsort i j (Nat.zero_le _) hij (by simp at hj; simpa [hd'] using (hd' ▸ hj))
    unfold ltOf at h3
    rw [decide_eq_false_iff_not] at h3
    have hj' : j < d.size := by simpa using hj
    rw [getElem!_pos d j hj', getElem!_pos d i (by omega)] at h3
    simpa using h3

end Go.Proofs.YtmkgdgfbdmjeeaaGreatDoor
