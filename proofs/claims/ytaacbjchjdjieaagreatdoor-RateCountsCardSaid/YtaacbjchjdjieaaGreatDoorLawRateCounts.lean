/- glyphcutterlaw24.RateCounts returns true at every input, and the input reads behind the call as it read before. The condition: the listed variables read as the row says; the card ties them to the program's text. -/
import Derived.Test.YtaacbjchjdjieaaGreatDoorRM
import Derived.Test.YtaacbjchjdjieaaGreatDoorPC
import Derived.Test.YtaacbjchjdjieaaGreatDoorOP
import Derived.ChangeOld
import Derived.Below
import Derived.SizedLaws
namespace Go.Proofs.YtaacbjchjdjieaaGreatDoor.rateCounts
open Go.ChangeShapes Go.WideShapes Go.ChangeAt Go.RowKit
set_option linter.unusedVariables false
theorem own : ownKnob Tryz.prog.godebug = none := by kernel_rfl
theorem laidOut : laidOutB Tryz.prog = true := by kernel_rfl
theorem cTok : Tryz.prog.cellsOf 26 = 6 := by kernel_rfl
theorem c1a : Tryz.prog.cellsOf 3 = 1 := by kernel_rfl
theorem c1b : Tryz.prog.cellsOf 9 = 1 := by kernel_rfl
theorem c1c : Tryz.prog.cellsOf 22 = 1 := by kernel_rfl
theorem c1d : Tryz.prog.cellsOf 23 = 1 := by kernel_rfl
theorem c1e : Tryz.prog.cellsOf 5 = 1 := by kernel_rfl
open OP in
theorem opensTok {H : Type} (enc : TypeId × Value → H) (W : World) : Opens enc Tryz.prog W 26 P.k26 (fun _ => True) :=
  (opens_struct (g := fun x => (⟨x.1, x.2.1, x.2.2.1, x.2.2.2.1, x.2.2.2.2.1, x.2.2.2.2.2⟩ : P.S26)) Tryz.underlying26 cTok
    (seg_cons rfl (opens_int Tryz.underlying3 c1a) (seg_cons rfl (opens_int Tryz.underlying3 c1a) (seg_cons rfl (opens_int Tryz.underlying3 c1a) (seg_cons rfl (opens_int Tryz.underlying3 c1a) (seg_cons rfl (opens_int Tryz.underlying3 c1a) (seg_one rfl (opens_string Tryz.underlying9 c1b)) rfl) rfl) rfl) rfl) rfl)
    (fun x : P.S26 => (x.f0, x.f1, x.f2, x.f3, x.f4, x.f5)) (fun _ => rfl)).mono (fun _ _ => trivial)
set_option maxRecDepth 100000 in
theorem lifted (os : Os) (started : os.Started) (H : Type) (enc : TypeId × Value → H) :
    ReturnsInHanded {} Tryz.checked os 3 .any (fun w args => (Rows.rateCountsSpec.pre enc Tryz.prog Tryz.f3 [] false w args ∧ laidMetH Tryz.prog Rows.rateCountsRow.laid w) ∧ sizedMet enc Tryz.prog Tryz.f3 (OpenSpec.ofChange Rows.rateCountsSpec) false w args)
      (Rows.rateCountsSpec.post enc Tryz.prog Tryz.f3 false true false false) := by
  refine returnsInHanded_of_change_and (C := Tryz.checked) (X := fun w _ => laidMetH Tryz.prog Rows.rateCountsRow.laid w) (fun _ _ _ hh h => h.of_heap hh) own started (by kernel_rfl) Tryz.func3
    (ChangeSpec.witness_shaped (enc := enc) (C := Tryz.checked) (os := os) (X := fun w _ => laidMetH Tryz.prog Rows.rateCountsRow.laid w) false (World.laidAll Tryz.prog os Rows.rateCountsRow.laid) #[.slice none 0 0, .slice none 0 0, .int .i64 0, .int .u8 0] 8 (World.laidAll_os _ _ _)
      (World.shaped_of_ZipB (by kernel_rfl) (by kernel_rfl)) (by kernel_rfl) (by kernel_rfl) (by kernel_rfl) (P.world_met os _)) ?_
  intro W base args ds gs before hval0 hW _ _ hL _
  have hval : ∀ (j : Nat) t v, Tryz.f3.params[j]? = some t → args[j]? = some v → Value.okWide Tryz.prog W .any base t v := hval0
  have hW' := hW
  obtain ⟨p, q, hA0, hV, rfl, _, _⟩ := hW
  have hA : DataW.TrodAll enc Tryz.prog W 0 (fun _ => true) true Tryz.f3.params.toList args.toList ds p := hA0
  rw [Tryz.params3] at hA hval
  obtain ⟨v0, vs0, d0, ds0, p0, q0, hargs, rfl, rfl, h0, r0⟩ := trodAll_cons hA
  obtain ⟨v1, vs1, d1, ds1, p1, q1, rfl, rfl, rfl, h1, r1⟩ := trodAll_cons r0
  obtain ⟨v2, vs2, d2, ds2, p2, q2, rfl, rfl, rfl, h2, r2⟩ := trodAll_cons r1
  obtain ⟨v3, vs3, d3, ds3, p3, q3, rfl, rfl, rfl, h3, r3⟩ := trodAll_cons r2
  obtain ⟨rfl, rfl, rfl⟩ := trodAll_nil r3
  obtain rfl : args = #[v0, v1, v2, v3] := by cases args; simp_all
  obtain ⟨rfl, rfl⟩ := trodVars_none hV
  obtain ⟨a0, len0, cap0, rfl⟩ := okWide_slice Tryz.underlying22 (hval 0 22 v0 rfl rfl)
  obtain ⟨a1, len1, cap1, rfl⟩ := okWide_slice Tryz.underlying23 (hval 1 23 v1 rfl rfl)
  have k0 := h0
  have k1 := h1
  have lt0 : ∀ x ∈ p0, x.block < W.heap.size := by obtain ⟨m, hm⟩ := k0; exact DataW.trod_lt m _ _ _ hm
  have lt1 : ∀ x ∈ p1, x.block < W.heap.size := by obtain ⟨m, hm⟩ := k1; exact DataW.trod_lt m _ _ _ hm
  obtain ⟨l0, rfl, hc0, hr0, _⟩ := (OP.opens_slice Tryz.underlying22 c1c (opensTok enc W)).arg h0
  obtain ⟨l1, rfl, hc1, hr1, _⟩ := (OP.opens_slice Tryz.underlying23 c1d (OP.opens_int Tryz.underlying5 c1e)).arg h1
  obtain ⟨a2, rfl, rfl, rfl, w2⟩ := open_int Tryz.underlying3 (hval 2 3 v2 rfl rfl) h2
  obtain ⟨a3, rfl, rfl, rfl, w3⟩ := open_int Tryz.underlying5 (hval 3 5 v3 rfl rfl) h3
  clear hA0 hval0
  obtain ⟨ho, hp, h15⟩ := P.all_of (show laidMetH Tryz.prog Rows.rateComparesRow.laid W from hL)
  obtain ⟨k, hk⟩ := (P.counts_law l0 l1 a2 a3).rounds
  refine (P.glyphcutterlaw24_RateCounts.calls k a0 cap0 l0 a1 cap1 l1 a2 a3 true W ⟨ho, hp, h15⟩ hr0 hc0 hr1 hc1 hk).mono fun e W' ⟨he, bel⟩ => ?_
  subst he
  exact ⟨_, rfl, _, _, _, [], _, [], hW', trodAll_mk1 (shut_bool Tryz.underlying4 _), (trodAll_cons_mk (Below.trod laidOut (by kernel_rfl) (of_decide_eq_true (by kernel_rfl)) k0 bel lt0) (trodAll_cons_mk (Below.trod laidOut (by kernel_rfl) (of_decide_eq_true (by kernel_rfl)) k1 bel lt1) (trodAll_cons_mk (shut_int Tryz.underlying3 w2) (trodAll_cons_mk (shut_int Tryz.underlying5 w3) trodAll_mk0)))), rfl, bel.frame _, fun h => by cases h⟩
theorem said : Rows.RateCountsSaid :=
  OpenClaim.holds_of_wide 3 Tryz.f3 rfl rfl rfl rfl rfl rfl rfl ⟨rfl, rfl, rfl, rfl, rfl⟩ rfl rfl rfl rfl rfl (by kernel_rfl) Tryz.func3 (by kernel_rfl)
    (of_decide_eq_true (by kernel_rfl)) (by unfold Func.isWrapper; first | (rw [if_pos (by decide +kernel)]; kernel_rfl) | (rw [if_neg (by decide +kernel)]; exact ⟨rfl, rfl⟩))
    (fun os started H enc _ => lifted os started H enc)
theorem plain (f : FuncId) (fn : Func) (hf : Tryz.pinned.checked.prog.funcNamed "glyphcutter/glyphcutterlaw24.RateCounts" = some f) (hfn : Tryz.pinned.checked.prog.funcs[f]? = some fn) :
    Rows.rateCountsCard.stood.looks = Tryz.pinned.checked.prog.looks [] ∧ ∀ (j : Nat) t, fn.params[j]? = some t → Tryz.pinned.checked.prog.wantsStandIn t = false := by
  obtain rfl : f = 3 := Option.some.inj ((show Tryz.prog.funcNamed "glyphcutter/glyphcutterlaw24.RateCounts" = some 3 by kernel_rfl).symm.trans hf) |>.symm
  obtain rfl : fn = Tryz.f3 := (Option.some.inj (Tryz.func3.symm.trans hfn)).symm
  refine ⟨by kernel_rfl, fun j t ht => ?_⟩
  rw [Tryz.params3] at ht
  have hm : t ∈ [22, 23, 3, 5] := by simpa using Array.mem_of_getElem? ht
  have hall : ([22, 23, 3, 5].all fun u => !Tryz.prog.wantsStandIn u) = true := by kernel_rfl
  exact (show Tryz.prog.wantsStandIn t = false by simpa using List.all_eq_true.1 hall t hm)
theorem card : Rows.RateCountsCardSaid :=
  Claim7.holds_tied_plain_at .later [] _ _ _ _ said (fun _ h => by cases h) (by kernel_rfl) (fun _ h => by cases h) rateCounts_row_tie rfl ⟨rfl, rfl⟩ (by kernel_rfl) rfl plain (by kernel_rfl)
#print axioms card
end Go.Proofs.YtaacbjchjdjieaaGreatDoor.rateCounts
namespace Go.Proofs.YtaacbjchjdjieaaGreatDoor
/-- The card, under a short name, for the claim. -/
theorem rateCounts_card : Rows.RateCountsCardSaid := rateCounts.card
end Go.Proofs.YtaacbjchjdjieaaGreatDoor
