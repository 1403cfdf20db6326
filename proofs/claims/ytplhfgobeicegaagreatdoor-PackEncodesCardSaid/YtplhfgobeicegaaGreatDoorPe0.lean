/- Part 0 of the proof: short names. -/
import Derived.RowKit
import Derived.KernelRfl
namespace Go.Proofs.YtplhfgobeicegaaGreatDoor
open Go
theorem qA {α : Type _} {l : List α} {i : Nat} {a : α} : l.toArray.setIfInBounds i a = (l.set i a).toArray := List.setIfInBounds_toArray _ _ _
theorem qB {α : Type _} {x : α} {xs : List α} {a : α} : (x :: xs).set 0 a = a :: xs := rfl
theorem qC {α : Type _} {x : α} {xs : List α} {n : Nat} {a : α} : (x :: xs).set (n + 1) a = x :: xs.set n a := rfl
theorem dT {p : Prop} [inst : Decidable p] (h : p) : decide p = true := decide_eq_true h
theorem dF {p : Prop} [inst : Decidable p] (h : ¬p) : decide p = false := decide_eq_false h
theorem bF {α : Type _} [BEq α] [LawfulBEq α] {a b : α} (h : a ≠ b) : (a == b) = false := beq_eq_false_iff_ne.2 h
theorem lA {α : Type _} {as bs : List α} : (as ++ bs).length = as.length + bs.length := List.length_append
theorem lS {α : Type _} {a : α} : [a].length = 1 := rfl
def bl : Nat → Nat → List Bool
 | 0, _ => []
 | n + 1, k => (k % 2 == 1) :: bl n (k / 2)
def bv (n k : Nat) : Array Bool := (bl n k).toArray
end Go.Proofs.YtplhfgobeicegaaGreatDoor
