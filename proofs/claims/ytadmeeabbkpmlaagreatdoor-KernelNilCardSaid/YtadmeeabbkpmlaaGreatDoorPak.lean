/- A start at which the tables that a row lists are laid. -/
import Derived.Test.YtadmeeabbkpmlaaGreatDoorVal
import Derived.Test.YtadmeeabbkpmlaaGreatDoorCards
import Derived.Test.YtadmeeabbkpmlaaGreatDoorTie
import Derived.ProofKit
import Derived.OpenShut
import Derived.ChangeOld
import Derived.ChangeSame
import Derived.ChangeMaps5
import Derived.Lib.LaidTab
import Derived.Lib.SmallJoins
import Derived.Lib.TrailingZeros
import Derived.LaidMore
import Derived.LaidOnce
import Derived.Stop.Joined
set_option linter.unusedSimpArgs false
set_option linter.unusedVariables false
namespace Go.Ev
open Go.RowKit Go.Proofs Go.Proofs.YtadmeeabbkpmlaaGreatDoor
set_option maxRecDepth 100000
def nums8 (l : List Nat) : List Value := l.map fun (n : Nat) => .int .u8 (Int.ofNat n)
def accL : List Nat := [128, 191, 160, 191, 128, 159, 144, 191, 128, 143, 0, 0, 0, 0, 0, 0, 0, 0, 0, 0, 0, 0, 0, 0, 0, 0, 0, 0, 0, 0, 0, 0]
noncomputable def doorW (os : Os) : World := { World.settled Tryz.prog os with heap := ⟨.cells #[.int .i64 0] 3 (0, 0) :: .cells ⟨nums8 Lib.deBruijn64tab⟩ 484 (0, 0) :: .cells ⟨nums8 Pinned.utf8FirstZ⟩ 573 (0, 0) :: .cells ⟨nums8 accL⟩ 576 (0, 0) :: (World.settled Tryz.prog os).heap.toList.drop 4⟩ }
theorem met_of {P : Program} {w : World} {l : List (String × DataW Unit)} (fuel M : Nat)
    (h : ((DataW.laidRun P w fuel (l.map (·.1))).bind fun x => if nodupBits M x.2 0 && laidRowsB P w x.2 then some x.1 else none) = some l) : laidMet P l w := by
  cases hx : DataW.laidRun P w fuel (l.map (·.1)) with
  | none => simp [hx] at h
  | some x =>
    obtain ⟨l', ps⟩ := x
    rw [hx] at h
    simp only [Option.bind_some] at h
    split at h
    · rename_i hb
      simp only [Bool.and_eq_true] at hb
      simp only [Option.some.injEq] at h
      subst h
      exact laidMet_of_run fuel hx (decide_eq_true (nodupBits_sound hb.1).1) hb.2
    · cases h
end Go.Ev
