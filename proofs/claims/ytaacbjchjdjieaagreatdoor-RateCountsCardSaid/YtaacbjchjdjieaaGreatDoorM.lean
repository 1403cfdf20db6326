/- Small lemmas that the hand-proved functions of this seat share: what a literal's new row reads as. -/
import Derived.Lib.SlBytesConst
import Derived.Test.YtaacbjchjdjieaaGreatDoorWWords
import Derived.Test.YtaacbjchjdjieaaGreatDoorWMore
import Derived.WalkKit
namespace Go.Proofs.YtaacbjchjdjieaaGreatDoor.M
open Go.RowKit Go.Proofs.YtaacbjchjdjieaaGreatDoorW.PrintWords
/-- A new block of whole numbers reads as their list. -/
theorem C_lit (w : World) (l : List Int) (k : IntKind) (e : TypeId) (fr : Nat × Nat) (hl : l.length ≤ 9223372036854775807) :
    Kd.C (Kd.int k) (w.alloc (.cells (l.map (Value.int k)).toArray e fr)) (some ⟨w.heap.size, 0, none⟩) l.length l := by
  refine Kd.C_of_reads (d := (0 : Int)) ⟨rfl, hl, fun _ => ⟨_, rfl, fun j hj => ?_⟩⟩
  rw [add_plain, World.cell?_alloc_mark]
  simp [List.getD_eq_getElem?_getD, List.getElem?_eq_getElem hj]
/-- The same, of a block that was laid some way ahead. -/
theorem C_lit_below {w w2 : World} (l : List Int) (k : IntKind) (e : TypeId) (fr : Nat × Nat) (hl : l.length ≤ 9223372036854775807)
    (hb : Below (w.heap.size + 1) (w.alloc (.cells (l.map (Value.int k)).toArray e fr)) w2) :
    Kd.C (Kd.int k) w2 (some ⟨w.heap.size, 0, none⟩) l.length l :=
  Kd.C_below (C_lit w l k e fr hl) (by simpa using hb)
end Go.Proofs.YtaacbjchjdjieaaGreatDoor.M
