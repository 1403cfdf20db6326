/- What writing 1.5 comes to, part three: how many digits; the noughts behind are cut. -/
import Derived.Test.YtaacbjchjdjieaaGreatDoorRD
namespace Go.Proofs.YtaacbjchjdjieaaGreatDoor.P
open Go Go.RowKit
set_option linter.unusedVariables false
set_option linter.unusedSimpArgs false
set_option maxRecDepth 100000
/-- put by: the walk's own reckoning does not look into it -/
structure Sd (p : Prop) : Prop where
  out : p
def Pow15 (w : World) : Prop := w.cell? ⟨4, 15, none⟩ = some (.int .u64 1000000000000000)
theorem bool2i_calls (w : World) : Calls Tryz.prog 91 #[.bool true] w fun e w' => e = .returned (.int .i64 1) ∧ w' = w := by
  go_enter Tryz.func91, Tryz.ntmps91
  go_wp2
  go_ret
  exact ⟨rfl, rfl⟩
theorem numDigits_calls (w : World) (hp : Pow15 w) : Calls Tryz.prog 66 #[.int .u64 1500000000000000] w fun e w' => e = .returned (.int .i64 16) ∧ w' = w := by
  unfold Pow15 at hp
  go_enter Tryz.func66, Tryz.ntmps66
  go_wp2_with (first
    | (go_at_call 63; refine (len64b_calls _).mono ?_; rintro e w ⟨rfl, rfl⟩)
    | (go_at_call 67; refine (log10b_calls _).mono ?_; rintro e w ⟨rfl, rfl⟩)
    | (go_at_call 91; refine (bool2i_calls _).mono ?_; rintro e w ⟨rfl, rfl⟩))
  go_ret
  exact ⟨rfl, rfl⟩
theorem dig_nought (m : Nat) : dig (m + 2) = 48 := rfl
set_option maxHeartbeats 4000000 in
theorem setDigits_calls (g : Nat) (cap : Nat) (w w0 : World) (f : Nat → Value) (hs : St g w0 w f) (hcap : 16 ≤ cap) :
    Calls Tryz.prog 65 #[.slice (some ⟨g, 0, none⟩) 32 cap, .int .u64 1500000000000000, .int .i64 (-15), .int .i64 16] w fun e w' => e = .returned (.tuple #[.int .i64 1, .int .i64 2]) ∧ St g w0 w' (fun j => .int .u8 (dig j)) := by
  have hcap' : (16 : Int) ≤ (cap : Int) := by omega
  go_enter Tryz.func65, Tryz.ntmps65
  go_wp2_with (first | (go_at_call 90; refine (formatBase10_calls g cap _ w0 f hs).mono ?_; rintro e w1 ⟨rfl, hs1⟩))
  go_loopg [3] 14 (fun m v3 w' => v3 = .int .i64 ((m : Int) + 2) ∧ Sd (m ≤ 14) ∧ w' = w1)
  case atStart => exact ⟨by simp, ⟨by omega⟩, rfl⟩
  case round =>
    obtain ⟨rfl, hm, rfl⟩ := hrel
    cases gk with
    | zero =>
      have h1 := hs1.cell 1 (by decide)
      have e1 : dig 1 = 53 := rfl
      rw [e1] at h1
      go_wp2_with fail
      go_ret2
      exact ⟨rfl, hs1⟩
    | succ k =>
      have h1 := hs1.cell (k + 2) (by have := hm.out; omega)
      rw [dig_nought] at h1
      have p1 : (0 : Int) ≤ (k : Int) := by omega
      have p2 : (k : Int) ≤ 13 := by have := hm.out; omega
      go_wp2_with fail
      go_roundg k
      case measure => omega
      case rel => exact ⟨by rw [show (k : Int) + 1 + 2 - 1 = (k : Int) + 2 by omega], ⟨by have := hm.out; omega⟩, rfl⟩
end Go.Proofs.YtaacbjchjdjieaaGreatDoor.P
