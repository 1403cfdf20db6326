/- One function of the given program as a plain Lean function, and the proof that the call comes to its answer; written by a program (mp.py). -/
import Derived.Test.YtpikhloemhbecaaPx0
import Derived.Test.YtpikhloemhbecaaPx1012
import Derived.Test.YtpikhloemhbecaaPx1013
import Derived.Test.YtpikhloemhbecaaPx1015
import Derived.Test.YtpikhloemhbecaaPx1019
namespace Go.Proofs.Ytpikhloemhbecaa.P
open Go.RowKit Go.Proofs.YtpikhloemhbecaaW.PrintWords Go.Proofs.YtpikhloemhbecaaW.PrintLast Go.Proofs.YtpikhloemhbecaaW.PrintMore
attribute [local go_sem] max2_int min2_int max_two min_two max_three min_three max_four min_four   -- for this text's walks alone
set_option linter.unusedVariables false
set_option linter.unusedSimpArgs false

/-! ### glyphcutterlaw02_known: function 11 -/
theorem glyphcutterlaw02_known.v1 : utf_Decode.f [226, 130, 65] = some (-1, 2) := by decide +kernel
theorem glyphcutterlaw02_known.v2 : utf_Chars.f 9 [237, 160, 128] = some [⟨-1, 0, 1⟩, ⟨-1, 1, 1⟩, ⟨-1, 2, 1⟩] := by kernel_rfl
theorem glyphcutterlaw02_known.v3 : utf_First.f 9 [65, 192] = some 1 := by kernel_rfl
theorem glyphcutterlaw02_known.v4 : utf_First.f 9 [97] = some (-1) := by kernel_rfl
theorem glyphcutterlaw02_known.v5 : utf_Encode.f 8364 = some [226, 130, 172] := by rfl
def glyphcutterlaw02_known.f : Option Bool := some true
set_option maxHeartbeats 8000000 in
set_option maxRecDepth 100000 in
theorem glyphcutterlaw02_known.calls (r : Bool) (w : World) (h : glyphcutterlaw02_known.f = some r) :
    Calls Try.prog 11 #[] w fun e w' => e = .returned (.bool r) ∧ Below w.heap.size w w' := by
  obtain rfl := Option.some.inj h
  clear h
  go_enter Try.func11, Try.ntmps11
  have kc := fun (w : World) (C : Array Value) (n c : Nat) => Lib.run_convert_bytes_const (P := Try.prog) w 23 5 C n c Try.underlying23 Try.underlying5
  go_wp2_with fail
  refine (utf_Decode.calls _ _ [226, 130, 65] _ _ _ (M.C_lit w [226, 130, 65] .u8 5 (0, 0) (by decide)) (by decide) glyphcutterlaw02_known.v1).mono ?_
  rintro e w1 ⟨rfl, hb1⟩
  go_wp2_with fail
  refine (utf_Chars.calls 9 _ _ [237, 160, 128] _ _ (M.C_lit w1 [237, 160, 128] .u8 5 (0, 0) (by decide)) (by decide) glyphcutterlaw02_known.v2).mono ?_
  rintro e w2 ⟨v2, rfl, ho2, hb2⟩
  obtain ⟨Ao, co, eo⟩ := Kd.R_slice ho2
  subst eo
  clear ho2
  go_wp2_with fail
  refine (utf_First.calls 9 _ _ [65, 192] _ _ (M.C_lit w2 [65, 192] .u8 5 (0, 0) (by decide)) (by decide) glyphcutterlaw02_known.v3).mono ?_
  rintro e w3 ⟨rfl, hb3⟩
  go_wp2_with fail
  refine (utf_First.calls 9 _ _ [97] _ _ (M.C_lit w3 [97] .u8 5 _ (by decide)) (by decide) glyphcutterlaw02_known.v4).mono ?_
  rintro e w4 ⟨rfl, hb4⟩
  go_wp2_with fail
  refine (utf_Encode.calls 8364 _ _ glyphcutterlaw02_known.v5).mono ?_
  rintro e w5 ⟨v5, rfl, ho5, hb5⟩
  obtain ⟨Ap, cp, ep⟩ := Kd.R_slice ho5
  subst ep
  have hcs : (convert 23 9 (.slice Ap 3 cp)).run Try.prog w5 = .ok (.string (⟨#[226, 130, 172]⟩ : ByteArray)) w5 := Kd.C_string (P := Try.prog) (src := 23) (dst := 9) (c := cp) Try.underlying23 Try.underlying5 Try.underlying9 (Kd.R_reads' ho5).2.2
  clear ho5
  go_wp2_with fail
  go_ret
  refine ⟨rfl, ?_⟩
  have b1 : Below w.heap.size w w1 := below_step (below_alloc (Below.refl _ w) _) hb1
  have b2 : Below w.heap.size w w2 := below_step b1 (below_step (below_alloc (Below.refl _ w1) _) hb2)
  have b3 : Below w.heap.size w w3 := below_step b2 (below_step (below_alloc (Below.refl _ w2) _) hb3)
  have b4 : Below w.heap.size w w4 := below_step b3 (below_step (below_alloc (Below.refl _ w3) _) hb4)
  exact below_step b4 hb5


end Go.Proofs.Ytpikhloemhbecaa.P
