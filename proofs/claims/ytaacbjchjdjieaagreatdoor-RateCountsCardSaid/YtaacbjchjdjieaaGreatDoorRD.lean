/- What writing 1.5 comes to, part two: its digits are laid down. -/
import Derived.Test.YtaacbjchjdjieaaGreatDoorRC
import Derived.Deep.LoopGhost
namespace Go.Proofs.YtaacbjchjdjieaaGreatDoor.P
open Go Go.RowKit
set_option linter.unusedVariables false
set_option linter.unusedSimpArgs false
set_option maxRecDepth 100000
/-- what sixteen cells of block g hold; below g all is as it was -/
structure St (g : Nat) (w w' : World) (f : Nat → Value) : Prop where
  below : Below g w w'
  cell : ∀ i : Nat, i < 16 → w'.cell? ⟨g, i, none⟩ = some (f i)
  frz : ∀ i : Nat, i < 16 → w'.frozen? ⟨g, i, none⟩ = false
theorem St.set {g : Nat} {w w' : World} {f : Nat → Value} (h : St g w w' f) (i : Nat) (hi : i < 16) (v : Value) : St g w (w'.setCell ⟨g, i, none⟩ v) (fun j => if j = i then v else f j) := by
  refine ⟨h.below.setCell (Nat.le_refl g) v, fun j hj => ?_, fun j hj => ?_⟩
  · by_cases e : j = i
    · subst e
      rw [if_pos rfl]
      exact World.cell?_setCell_same w' _ v (h.cell j hj)
    · rw [if_neg e, World.cell?_setCell_other w' ⟨g, i, none⟩ ⟨g, j, none⟩ v (fun e2 => e (congrArg Addr.off e2).symm)]
      exact h.cell j hj
  · rw [World.frozen?_setCell]
    exact h.frz j hj
theorem St.drew {g : Nat} {w w' : World} {f : Nat → Value} (h : St g w w' f) : St g w w'.drew f := ⟨h.below.drew, h.cell, h.frz⟩
def eight (lo : Nat) (x : Nat → Int) (f : Nat → Value) : Nat → Value := fun j => if lo ≤ j ∧ j < lo + 8 then .int .u8 (x (j - lo)) else f j
theorem round8 {J : Nat → Act → World → Prop} {k : Nat} {a : Act} (g lo : Nat) (hlo : lo ≤ 8) (w wr : World) (f : Nat → Value) (hS : St g w wr f) (x : Nat → Int) (v7 v6 v5 v4 v3 v2 v1 v0 : Value) (a7 a6 a5 a4 a3 a2 a1 : Nat)
    (q7 : a7 = lo + 7) (q6 : a6 = lo + 6) (q5 : a5 = lo + 5) (q4 : a4 = lo + 4) (q3 : a3 = lo + 3) (q2 : a2 = lo + 2) (q1 : a1 = lo + 1)
    (e7 : v7 = .int .u8 (x 7)) (e6 : v6 = .int .u8 (x 6)) (e5 : v5 = .int .u8 (x 5)) (e4 : v4 = .int .u8 (x 4)) (e3 : v3 = .int .u8 (x 3)) (e2 : v2 = .int .u8 (x 2)) (e1 : v1 = .int .u8 (x 1)) (e0 : v0 = .int .u8 (x 0))
    (h : ∀ W', St g w W' (eight lo x f) → Handed J k a W') :
    Handed J k a (((((((((wr.setCell ⟨g, a7, none⟩ v7).setCell ⟨g, a6, none⟩ v6).setCell ⟨g, a5, none⟩ v5).setCell ⟨g, a4, none⟩ v4).setCell ⟨g, a3, none⟩ v3).setCell ⟨g, a2, none⟩ v2).setCell ⟨g, a1, none⟩ v1).setCell ⟨g, lo, none⟩ v0).drew.drew.drew.drew) := by
  subst e7 e6 e5 e4 e3 e2 e1 e0
  subst q7 q6 q5 q4 q3 q2 q1
  refine h _ ?_
  have s := ((((((((hS.set (lo + 7) (by omega) (.int .u8 (x 7))).set (lo + 6) (by omega) (.int .u8 (x 6))).set (lo + 5) (by omega) (.int .u8 (x 5))).set (lo + 4) (by omega) (.int .u8 (x 4))).set (lo + 3) (by omega) (.int .u8 (x 3))).set (lo + 2) (by omega) (.int .u8 (x 2))).set (lo + 1) (by omega) (.int .u8 (x 1))).set lo (by omega) (.int .u8 (x 0)))
  refine St.drew (St.drew (St.drew (St.drew ⟨s.below, fun j hj => ?_, s.frz⟩)))
  rw [s.cell j hj]
  unfold eight
  by_cases c : lo ≤ j ∧ j < lo + 8
  · rw [if_pos c]
    have : j = lo ∨ j = lo + 1 ∨ j = lo + 2 ∨ j = lo + 3 ∨ j = lo + 4 ∨ j = lo + 5 ∨ j = lo + 6 ∨ j = lo + 7 := by omega
    rcases this with rfl | rfl | rfl | rfl | rfl | rfl | rfl | rfl <;> simp
  · rw [if_neg c, if_neg (by omega), if_neg (by omega), if_neg (by omega), if_neg (by omega), if_neg (by omega), if_neg (by omega), if_neg (by omega), if_neg (by omega)]
def dig (j : Nat) : Int := [49, 53].getD j 48
set_option maxHeartbeats 4000000 in
theorem formatBase10_calls (g : Nat) (cap : Nat) (w w0 : World) (f : Nat → Value) (hs : St g w0 w f) :
    Calls Tryz.prog 90 #[.slice (some ⟨g, 0, none⟩) 16 cap, .int .u64 1500000000000000] w fun e w' => e = .returned (.tuple #[]) ∧ St g w0 w' (fun j => .int .u8 (dig j)) := by
  go_enter Tryz.func90, Tryz.ntmps90
  go_wp2_with fail
  go_loopg [1, 4] 2 (fun m v1 v4 w' => (m = 2 ∧ v1 = .int .u64 1500000000000000 ∧ v4 = .int .i64 16 ∧ ∃ f, St g w0 w' f) ∨ (m = 1 ∧ v1 = .int .u64 15000000 ∧ v4 = .int .i64 8 ∧ ∃ f, St g w0 w' (eight 8 (fun _ => 48) f)) ∨ (m = 0 ∧ v1 = .int .u64 0 ∧ v4 = .int .i64 0 ∧ St g w0 w' (fun j => .int .u8 (dig j))))
  case atStart => exact .inl ⟨rfl, rfl, rfl, f, hs⟩
  case round =>
    rcases hrel with ⟨rfl, rfl, rfl, f2, hs2⟩ | ⟨rfl, rfl, rfl, f2, hs2⟩ | ⟨rfl, rfl, rfl, hs2⟩
    · skip
      have h15 := hs2.cell 15 (by decide)
      have f15 := hs2.frz 15 (by decide)
      have h14 := hs2.cell 14 (by decide)
      have f14 := hs2.frz 14 (by decide)
      have h13 := hs2.cell 13 (by decide)
      have f13 := hs2.frz 13 (by decide)
      have h12 := hs2.cell 12 (by decide)
      have f12 := hs2.frz 12 (by decide)
      have h11 := hs2.cell 11 (by decide)
      have f11 := hs2.frz 11 (by decide)
      have h10 := hs2.cell 10 (by decide)
      have f10 := hs2.frz 10 (by decide)
      have h9 := hs2.cell 9 (by decide)
      have f9 := hs2.frz 9 (by decide)
      have h8 := hs2.cell 8 (by decide)
      have f8 := hs2.frz 8 (by decide)
      go_wp2_with fail
      go_big_region
      go_wp2_with fail
      go_big_region
      go_wp2_with fail
      go_big_region
      go_wp2_with fail
      go_big_region
      go_wp2_with fail
      with_reducible refine round8 g 8 ?_ w0 wr f2 hs2 (fun _ => 48) _ _ _ _ _ _ _ _ _ _ _ _ _ _ _ ?q7 ?q6 ?q5 ?q4 ?q3 ?q2 ?q1 ?e7 ?e6 ?e5 ?e4 ?e3 ?e2 ?e1 ?e0 ?h
      case h =>
        intro w1 hs3
        go_roundg 1
        case measure => omega
        case rel => exact .inr (.inl ⟨rfl, rfl, rfl, f2, hs3⟩)
      case e7 => kernel_rfl
      case e6 => kernel_rfl
      case e5 => kernel_rfl
      case e4 => kernel_rfl
      case e3 => kernel_rfl
      case e2 => kernel_rfl
      case e1 => kernel_rfl
      case e0 => kernel_rfl
      all_goals decide
    · skip
      have h7 := hs2.cell 7 (by decide)
      have f7 := hs2.frz 7 (by decide)
      have h6 := hs2.cell 6 (by decide)
      have f6 := hs2.frz 6 (by decide)
      have h5 := hs2.cell 5 (by decide)
      have f5 := hs2.frz 5 (by decide)
      have h4 := hs2.cell 4 (by decide)
      have f4 := hs2.frz 4 (by decide)
      have h3 := hs2.cell 3 (by decide)
      have f3 := hs2.frz 3 (by decide)
      have h2 := hs2.cell 2 (by decide)
      have f2 := hs2.frz 2 (by decide)
      have h1 := hs2.cell 1 (by decide)
      have f1 := hs2.frz 1 (by decide)
      have h0 := hs2.cell 0 (by decide)
      have f0 := hs2.frz 0 (by decide)
      go_wp2_with fail
      go_big_region
      go_wp2_with fail
      go_big_region
      go_wp2_with fail
      go_big_region
      go_wp2_with fail
      go_big_region
      go_wp2_with fail
      with_reducible refine round8 g 0 ?_ w0 wr _ hs2 dig _ _ _ _ _ _ _ _ _ _ _ _ _ _ _ ?r7 ?r6 ?r5 ?r4 ?r3 ?r2 ?r1 ?d7 ?d6 ?d5 ?d4 ?d3 ?d2 ?d1 ?d0 ?hh
      case hh =>
        intro w1 hs3
        go_roundg 0
        case measure => omega
        case rel => 
          refine .inr (.inr ⟨rfl, rfl, rfl, hs3.below, fun j hj => ?_, hs3.frz⟩)
          rw [hs3.cell j hj]
          unfold eight
          by_cases c : j < 8
          · rw [if_pos ⟨by omega, by omega⟩]; rfl
          · rw [if_neg (by omega), if_pos ⟨by omega, by omega⟩]
            unfold dig
            have : ∃ d, j = d + 8 := ⟨j - 8, by omega⟩
            obtain ⟨d, rfl⟩ := this
            rfl
      case d7 => kernel_rfl
      case d6 => kernel_rfl
      case d5 => kernel_rfl
      case d4 => kernel_rfl
      case d3 => kernel_rfl
      case d2 => kernel_rfl
      case d1 => kernel_rfl
      case d0 => kernel_rfl
      all_goals decide
    · go_wp2_with fail
      go_end0
      exact ⟨rfl, hs2⟩
end Go.Proofs.YtaacbjchjdjieaaGreatDoor.P
