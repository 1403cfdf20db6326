/- What the listed variables hold, as the walks ask it. -/
import Derived.Test.YtaacbjchjdjieaaGreatDoorRL
import Derived.Test.YtaacbjchjdjieaaGreatDoorTie
import Derived.Test.YtaacbjchjdjieaaGreatDoorCards
import Derived.WalkKit
import Derived.ProofKit
import Derived.OpenShut
import Derived.Deep.DeepHandedRow
import Derived.Lib.LaidTab
import Derived.Lib.LaidU8
import Derived.Lay
import Derived.LaidLaws
namespace Go.Proofs.YtaacbjchjdjieaaGreatDoor.P
open Go Go.Lib Go.ChangeShapes Go.WideShapes Go.ChangeAt Go.RowKit
set_option linter.unusedVariables false
set_option maxRecDepth 100000
theorem gOpt : Tryz.prog.globalNamed "internal/strconv.optimize" = some 1 := by kernel_rfl
theorem tOpt : (Tryz.prog.globals[1]?).map (·.type) = some 4 := by kernel_rfl
theorem gU10 : Tryz.prog.globalNamed "internal/strconv.uint64pow10" = some 4 := by kernel_rfl
theorem tU10 : (Tryz.prog.globals[4]?).map (·.type) = some 131 := by kernel_rfl
theorem gP10 : Tryz.prog.globalNamed "internal/strconv.pow10Tab" = some 7 := by kernel_rfl
theorem tP10 : (Tryz.prog.globals[7]?).map (·.type) = some 163 := by kernel_rfl
theorem cPair : Tryz.prog.cellsOf 162 = 2 := by kernel_rfl
theorem cU64 : Tryz.prog.cellsOf 38 = 1 := by kernel_rfl
theorem opt_of {W : World} (h : VarReads Tryz.prog W "internal/strconv.optimize" Rows.laid_internal_strconv_optimize) : Opt W := by
  obtain ⟨g, t, cs, fuel, p, h1, h2, h3, h4⟩ := h
  obtain rfl := Option.some.inj (gOpt.symm.trans h1)
  obtain rfl := Option.some.inj (tOpt.symm.trans h2)
  obtain ⟨b, hc, hx⟩ := DataW.trod_bool Tryz.underlying4 h4
  have hb : b = true := by
    have := congrArg Prod.fst hx
    simpa [Rows.laid_internal_strconv_optimize] using this.symm
  subst hb
  have := World.var?_cell gOpt h3 0
  unfold Opt
  rw [this, ← Array.getElem?_toList, hc]
  rfl
theorem u10_of {W : World} (h : VarReads Tryz.prog W "internal/strconv.uint64pow10" Rows.laid_internal_strconv_uint64pow10) : Pow15 W := by
  obtain ⟨g, t, cs, fuel, p, h1, h2, h3, h4⟩ := h
  obtain rfl := Option.some.inj (gU10.symm.trans h1)
  obtain rfl := Option.some.inj (tU10.symm.trans h2)
  obtain ⟨fuel', d, q, hd, he⟩ := array_elem Tryz.underlying131 h4 15 (by decide)
  rw [cU64] at he
  obtain ⟨n, hc, hx, _⟩ := DataW.trod_int Tryz.underlying38 he
  obtain rfl : d = .lit (.int .u64 1000000000000000) := (Option.some.inj hd).symm
  have hn : n = 1000000000000000 := by
    have := congrArg Prod.fst hx
    simpa using this.symm
  subst hn
  have := World.var?_cell gU10 h3 15
  unfold Pow15
  rw [this, ← Array.getElem?_toList]
  have := congrArg (·[0]?) hc
  simpa [List.getElem?_take, List.getElem?_drop] using this
theorem p10_364 : (match Go.Pinned.pow10Tab with | .agg ds => ds[364]? | _ => none) = some (.agg [.lit (.int .u64 10240000000000000000), .lit (.int .u64 0)]) := by kernel_rfl
theorem pairFields : ∃ fs, Tryz.prog.underlying 162 = some (.struct fs) ∧ fs.size = 2 ∧ (∀ (i : Nat) (f : Field), fs[i]? = some f → Tryz.prog.underlying f.type = some (.int .u64) ∧ f.offset = i ∧ Tryz.prog.cellsOf f.type = 1) := by
  refine ⟨_, Tryz.underlying162, rfl, ?_⟩
  intro i f hf
  match i, hf with
  | 0, hf => obtain rfl := Option.some.inj hf; exact ⟨Tryz.underlying38, rfl, cU64⟩
  | 1, hf => obtain rfl := Option.some.inj hf; exact ⟨Tryz.underlying38, rfl, cU64⟩
  | (n + 2), hf => exact absurd hf (by simp)
theorem p10_of {W : World} (h : VarReads Tryz.prog W "internal/strconv.pow10Tab" Go.Pinned.pow10Tab) : PowTab W := by
  obtain ⟨g, t, cs, fuel, p, h1, h2, h3, h4⟩ := h
  obtain rfl := Option.some.inj (gP10.symm.trans h1)
  obtain rfl := Option.some.inj (tP10.symm.trans h2)
  have h364 := p10_364
  cases hp : Go.Pinned.pow10Tab with
  | agg ds =>
    rw [hp] at h4 h364
    obtain ⟨fuel', d, q, hd, he⟩ := array_elem Tryz.underlying163 h4 364 (by decide)
    rw [cPair] at he
    obtain rfl := Option.some.inj (hd.symm.trans h364)
    obtain ⟨fs, hu, hs, hf⟩ := pairFields
    have hc := ints_of_struct (zs := [10240000000000000000, 0]) hu hf (by rw [hs]; exact cPair) he
    have h0 := World.var?_cell gP10 h3 728
    have h1 := World.var?_cell gP10 h3 729
    refine ⟨?_, ?_⟩
    · rw [h0, ← Array.getElem?_toList]
      have := congrArg (·[0]?) hc
      simpa [List.getElem?_take, List.getElem?_drop] using this
    · rw [h1, ← Array.getElem?_toList]
      have := congrArg (·[1]?) hc
      simpa [List.getElem?_take, List.getElem?_drop] using this
  | _ => rw [hp] at h364; cases h364
theorem all_of {W : World} (h : laidMetH Tryz.prog Rows.rateComparesRow.laid W) : Opt W ∧ PowTab W ∧ Pow15 W := by
  rw [MakeChecks.laidMetH_plain _ _ _ (by kernel_rfl)] at h
  refine ⟨opt_of (Lib.laidMet.reads h ?_), p10_of (Lib.laidMet.reads h ?_), u10_of (Lib.laidMet.reads h ?_)⟩
  · exact .tail _ (.tail _ (.tail _ (.tail _ (.head _))))
  · exact .tail _ (.tail _ (.tail _ (.tail _ (.tail _ (.tail _ (.tail _ (.tail _ (.tail _ (.tail _ (.tail _ (.tail _ (.head _))))))))))))
  · exact .tail _ (.tail _ (.tail _ (.tail _ (.tail _ (.tail _ (.tail _ (.tail _ (.head _))))))))
theorem own : ownKnob Tryz.prog.godebug = none := by kernel_rfl
theorem world_met (os : Os) (args : Array Value) : laidMetH Tryz.prog Rows.rateComparesRow.laid ((World.laidAll Tryz.prog os Rows.rateComparesRow.laid).forCall (fun _ _ => 0) ⟨#[], args, []⟩).memory := by
  rw [MakeChecks.laidMetH_plain _ _ _ (by kernel_rfl)]
  exact laidMet_laidAll _ (by kernel_rfl) (by kernel_rfl)
end Go.Proofs.YtaacbjchjdjieaaGreatDoor.P
