/- Short names for two laws of the library. -/
import Derived.Lib.Hide
namespace Go.Proofs.YtoochjhipmpehaaGreatDoor
theorem ac {α : Type _} {xs : Array α} {i : Nat} {a : α} (h : xs[i]? = some a) : ∃ h : i < xs.size, xs[i] = a := Array.getElem?_eq_some_iff.1 h
theorem ae {p : Prop} (h : p) : Go.RowKit.Hid p := h
end Go.Proofs.YtoochjhipmpehaaGreatDoor
