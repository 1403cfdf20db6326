/- What writing 1.5 comes to, part one: its shortest digits. -/
import Derived.Test.YtaacbjchjdjieaaGreatDoorRA
import Derived.RegionTactic
import Derived.BigRegion
import Derived.Below
namespace Go.Proofs.YtaacbjchjdjieaaGreatDoor.P
open Go Go.RowKit
set_option linter.unusedVariables false
set_option linter.unusedSimpArgs false
set_option maxRecDepth 100000
theorem log10a_calls (w : World) : Calls Tryz.prog 67 #[.int .i64 (-52)] w fun e w' => e = .returned (.int .i64 (-16)) ∧ w' = w := by
  go_enter Tryz.func67, Tryz.ntmps67
  go_wp2
  go_ret
  exact ⟨by kernel_rfl, rfl⟩
theorem log10b_calls (w : World) : Calls Tryz.prog 67 #[.int .i64 51] w fun e w' => e = .returned (.int .i64 15) ∧ w' = w := by
  go_enter Tryz.func67, Tryz.ntmps67
  go_wp2
  go_ret
  exact ⟨by kernel_rfl, rfl⟩
theorem log2_calls (w : World) : Calls Tryz.prog 84 #[.int .i64 16] w fun e w' => e = .returned (.int .i64 53) ∧ w' = w := by
  go_enter Tryz.func84, Tryz.ntmps84
  go_wp2
  go_ret
  exact ⟨by kernel_rfl, rfl⟩
theorem len64a_calls (w : World) : Calls Tryz.prog 63 #[.int .u64 6755399441055744] w fun e w' => e = .returned (.int .i64 53) ∧ w' = w := by
  go_enter Tryz.func63, Tryz.ntmps63
  go_wp2
  go_ret
  exact ⟨by kernel_rfl, rfl⟩
theorem len64b_calls (w : World) : Calls Tryz.prog 63 #[.int .u64 1500000000000000] w fun e w' => e = .returned (.int .i64 51) ∧ w' = w := by
  go_enter Tryz.func63, Tryz.ntmps63
  go_wp2
  go_ret
  exact ⟨by kernel_rfl, rfl⟩
theorem mul64a_calls (w : World) : Calls Tryz.prog 117 #[.int .u64 13835058055282162688, .int .u64 10240000000000000000] w fun e w' => e = .returned (.tuple #[.int .u64 7679999999999999431, .int .u64 10437377940734869504]) ∧ w' = w := by
  go_enter Tryz.func117, Tryz.ntmps117
  go_wp2
  go_ret2
  exact ⟨by kernel_rfl, rfl⟩
theorem mul64b_calls (w : World) : Calls Tryz.prog 117 #[.int .u64 13835058055282164736, .int .u64 10240000000000000000] w fun e w' => e = .returned (.tuple #[.int .u64 7680000000000000568, .int .u64 8009366132974682112]) ∧ w' = w := by
  go_enter Tryz.func117, Tryz.ntmps117
  go_wp2
  go_ret2
  exact ⟨by kernel_rfl, rfl⟩
theorem uscalea_calls (g : Nat) (w : World) (h0 : w.cell? ⟨g, 0, none⟩ = some (.int .u64 10240000000000000000)) (h2 : w.cell? ⟨g, 2, none⟩ = some (.int .i64 7)) :
    Calls Tryz.prog 85 #[.int .u64 13835058055282162688, .pointer (some ⟨g, 0, none⟩)] w fun e w' => e = .returned (.int .u64 59999999999999995) ∧ w' = w := by
  have b1 : Go.bits .and .i64 7 63 = 7 := by decide +kernel
  have b2 : Go.bits .or .u64 59999999999999995 1 = 59999999999999995 := by decide +kernel
  go_enter Tryz.func85, Tryz.ntmps85
  go_wp2_with (first | (go_at_call 117; refine (mul64a_calls _).mono ?_; rintro e w1 ⟨rfl, rfl⟩))
  go_ret
  exact ⟨rfl, rfl⟩
theorem uscaleb_calls (g : Nat) (w : World) (h0 : w.cell? ⟨g, 0, none⟩ = some (.int .u64 10240000000000000000)) (h2 : w.cell? ⟨g, 2, none⟩ = some (.int .i64 7)) :
    Calls Tryz.prog 85 #[.int .u64 13835058055282164736, .pointer (some ⟨g, 0, none⟩)] w fun e w' => e = .returned (.int .u64 60000000000000005) ∧ w' = w := by
  have b1 : Go.bits .and .i64 7 63 = 7 := by decide +kernel
  have b2 : Go.bits .or .u64 60000000000000004 1 = 60000000000000005 := by decide +kernel
  go_enter Tryz.func85, Tryz.ntmps85
  go_wp2_with (first | (go_at_call 117; refine (mul64b_calls _).mono ?_; rintro e w1 ⟨rfl, rfl⟩))
  go_ret
  exact ⟨rfl, rfl⟩
theorem nudgea_calls (w : World) : Calls Tryz.prog 86 #[.int .u64 59999999999999995, .int .i64 0] w fun e w' => e = .returned (.int .u64 59999999999999995) ∧ w' = w := by
  go_enter Tryz.func86, Tryz.ntmps86
  go_wp2
  go_ret
  exact ⟨by kernel_rfl, rfl⟩
theorem nudgeb_calls (w : World) : Calls Tryz.prog 86 #[.int .u64 60000000000000005, .int .i64 0] w fun e w' => e = .returned (.int .u64 60000000000000005) ∧ w' = w := by
  go_enter Tryz.func86, Tryz.ntmps86
  go_wp2
  go_ret
  exact ⟨by kernel_rfl, rfl⟩
theorem ceil_calls (w : World) : Calls Tryz.prog 87 #[.int .u64 59999999999999995] w fun e w' => e = .returned (.int .u64 14999999999999999) ∧ w' = w := by
  go_enter Tryz.func87, Tryz.ntmps87
  go_wp2
  go_ret
  exact ⟨by kernel_rfl, rfl⟩
theorem floor_calls (w : World) : Calls Tryz.prog 88 #[.int .u64 60000000000000005] w fun e w' => e = .returned (.int .u64 15000000000000001) ∧ w' = w := by
  go_enter Tryz.func88, Tryz.ntmps88
  go_wp2
  go_ret
  exact ⟨by kernel_rfl, rfl⟩
/-- the table of powers, as far as it is read -/
def PowTab (w : World) : Prop := w.cell? ⟨7, 728, none⟩ = some (.int .u64 10240000000000000000) ∧ w.cell? ⟨7, 729, none⟩ = some (.int .u64 0)
theorem PowTab.alloc {w : World} (h : PowTab w) (o : Obj) : PowTab (w.alloc o) := by
  obtain ⟨p0, p1⟩ := h
  have hl := World.block_lt_of_cell? _ _ p0
  exact ⟨(World.cell?_alloc_past o _ _ hl).trans p0, (World.cell?_alloc_past o _ _ hl).trans p1⟩
theorem PowTab.lt {w : World} (h : PowTab w) : 7 < w.heap.size := World.block_lt_of_cell? _ _ h.1
theorem prescale_calls (g : Nat) (w : World) (hp : PowTab w) (hg : g ≠ 7) (c0 c1 c2 : Value) (h0 : w.cell? ⟨g, 0, none⟩ = some c0) (h1 : w.cell? ⟨g, 1, none⟩ = some c1) (h2 : w.cell? ⟨g, 2, none⟩ = some c2)
    (f0 : w.frozen? ⟨g, 0, none⟩ = false) (f1 : w.frozen? ⟨g, 1, none⟩ = false) (f2 : w.frozen? ⟨g, 2, none⟩ = false) :
    Calls Tryz.prog 83 #[.pointer (some ⟨g, 0, none⟩), .int .i64 (-63), .int .i64 16, .int .i64 53] w fun e w' => e = .returned (.tuple #[]) ∧ w' = (((w.setCell ⟨g, 0, none⟩ (.int .u64 10240000000000000000)).setCell ⟨g, 1, none⟩ (.int .u64 0)).setCell ⟨g, 2, none⟩ (.int .i64 7)) := by
  obtain ⟨p0, p1⟩ := hp
  go_enter Tryz.func83, Tryz.ntmps83
  go_wp2_with fail
  go_end0
  exact ⟨rfl, rfl⟩
theorem shortFloat_calls (w : World) (hp : PowTab w) :
    Calls Tryz.prog 72 #[.int .u64 13835058055282163712, .int .i64 (-63)] w fun e w' => e = .returned (.tuple #[.int .u64 1500000000000000, .int .i64 (-15)]) ∧ Below w.heap.size w w' := by
  have b5 : Go.bits .and .i64 6755399441055744 1 = 0 := by decide +kernel
  have ha := fun i => World.cell?_alloc_at (w := w) (c := #[.int .u64 0, .int .u64 0, .int .i64 0]) (t := 122) w.heap.size i rfl
  have hfz := fun i => World.frozen?_alloc_at (w := w) (c := #[.int .u64 0, .int .u64 0, .int .i64 0]) (t := 122) w.heap.size i rfl
  go_enter Tryz.func72, Tryz.ntmps72
  go_wp2_with (first | (go_at_call 67; refine (log10a_calls _).mono ?_; rintro e w ⟨rfl, rfl⟩) | (go_at_call 84; refine (log2_calls _).mono ?_; rintro e w ⟨rfl, rfl⟩))
  refine (prescale_calls _ _ (hp.alloc _) (Nat.ne_of_gt hp.lt) _ _ _ ((ha 0).trans rfl) ((ha 1).trans rfl) ((ha 2).trans rfl) (hfz 0) (hfz 1) (hfz 2)).mono ?_
  rintro e w2 ⟨rfl, hw2⟩
  have hB : Below w.heap.size w w2 := by
    rw [hw2]
    exact (((Below.alloc (Below.refl _ _) (Nat.le_refl _) _).setCell (Nat.le_refl _) _).setCell (Nat.le_refl _) _).setCell (Nat.le_refl _) _
  have c0 : w2.cell? ⟨w.heap.size, 0, none⟩ = some (.int .u64 10240000000000000000) := by rw [hw2]; go_simp
  have c2 : w2.cell? ⟨w.heap.size, 2, none⟩ = some (.int .i64 7) := by rw [hw2]; go_simp
  clear hw2 ha hfz
  go_wp2_with (first
    | (go_at_call 85; first | (with_reducible refine (uscalea_calls _ _ c0 c2).mono ?_; rintro e w2 ⟨rfl, rfl⟩) | (with_reducible refine (uscaleb_calls _ _ c0 c2).mono ?_; rintro e w2 ⟨rfl, rfl⟩))
    | (go_at_call 86; first | (with_reducible refine (nudgea_calls _).mono ?_; rintro e w2 ⟨rfl, rfl⟩) | (with_reducible refine (nudgeb_calls _).mono ?_; rintro e w2 ⟨rfl, rfl⟩))
    | (go_at_call 87; refine (ceil_calls _).mono ?_; rintro e w2 ⟨rfl, rfl⟩)
    | (go_at_call 88; refine (floor_calls _).mono ?_; rintro e w2 ⟨rfl, rfl⟩))
  go_ret2
  exact ⟨rfl, hB⟩
end Go.Proofs.YtaacbjchjdjieaaGreatDoor.P
