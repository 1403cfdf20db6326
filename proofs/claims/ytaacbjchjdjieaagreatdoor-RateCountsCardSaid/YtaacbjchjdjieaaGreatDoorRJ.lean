/- Reading nought with a sign. -/
import Derived.Test.YtaacbjchjdjieaaGreatDoorRI
import Derived.WalkMore
import Derived.Scope
namespace Go.Proofs.YtaacbjchjdjieaaGreatDoor.P
open Go Go.RowKit Go.Proofs.YtaacbjchjdjieaaGreatDoorW.PrintWords Go.Proofs.YtaacbjchjdjieaaGreatDoorW.PrintLast Go.Proofs.YtaacbjchjdjieaaGreatDoorW.PrintMore
set_option linter.unusedVariables false
set_option linter.unusedSimpArgs false
set_option maxRecDepth 100000
theorem prefix_calls (w : World) : Calls Tryz.prog 120 #[.string ⟨#[48]⟩, .string ⟨#[105, 110, 102, 105, 110, 105, 116, 121]⟩] w fun e w' => e = .returned (.int .i64 0) ∧ w' = w := by
  go_enter Tryz.func120, Tryz.ntmps120
  go_wp2_with fail
  go_loopg [6] 0 (fun m v6 w' => v6 = .int .i64 0 ∧ w' = w)
  case atStart => exact ⟨rfl, rfl⟩
  case round =>
    obtain ⟨rfl, rfl⟩ := hrel
    go_wp2_with fail
    all_goals go_ret
    all_goals exact ⟨rfl, rfl⟩
theorem special_calls (w : World) : Calls Tryz.prog 100 #[.string ⟨#[45, 48]⟩] w fun e w' => e = .returned (.tuple #[.float .f64 0, .int .i64 0, .bool false]) ∧ w' = w := by
  have hx : (⟨#[45, 48]⟩ : ByteArray).extract 1 2 = ⟨#[48]⟩ := by decide +kernel
  go_enter Tryz.func100, Tryz.ntmps100
  go_wp2_with fail
  refine (prefix_calls _).mono ?_
  rintro e w1 ⟨rfl, hw1⟩
  subst hw1
  go_wp2_with fail
  go_ret3
  exact ⟨rfl, rfl⟩
theorem results_tmp7 {fn : Func} {a b c d e f g : Tmp} (h : fn.results = #[.tmp a, .tmp b, .tmp c, .tmp d, .tmp e, .tmp f, .tmp g]) (tmps : Array Value) (P : Program) (w : World) :
    (results fn tmps).run P w = .ok (.tuple #[tmps.getD a undef, tmps.getD b undef, tmps.getD c undef, tmps.getD d undef, tmps.getD e undef, tmps.getD f undef, tmps.getD g undef]) w := by
  simp [results, h]
set_option maxHeartbeats 4000000 in
theorem readFloat_calls (w : World) : Calls Tryz.prog 101 #[.string ⟨#[45, 48]⟩] w fun e w' => e = .returned (.tuple #[.int .u64 0, .int .i64 0, .bool true, .bool false, .bool false, .int .i64 2, .bool true]) ∧ w' = w := by
  go_enter Tryz.func101, Tryz.ntmps101
  go_wp2_with fail
  go_step3
  go_wp2_with fail
  go_step3
  go_wp2_with fail
  go_loopg [2, 5, 7, 9, 13, 14, 15, 16, 17] 1 (fun m v2 v5 v7 v9 v13 v14 v15 v16 v17 w' => (m = 1 ∧ v7 = .int .i64 1 ∧ v14 = .bool false ∧ v17 = .int .i64 0 ∨ m = 0 ∧ v7 = .int .i64 2 ∧ v14 = .bool true ∧ v17 = .int .i64 (-1)) ∧ v2 = .int .u64 0 ∧ v5 = .bool false ∧ v9 = .bool false ∧ v13 = .bool false ∧ v15 = .int .i64 0 ∧ v16 = .int .i64 0 ∧ w' = w)
  case atStart => exact ⟨.inl ⟨rfl, rfl, rfl, rfl⟩, rfl, rfl, rfl, rfl, rfl, rfl, rfl⟩
  case round =>
    obtain ⟨⟨rfl, rfl, rfl, rfl⟩ | ⟨rfl, rfl, rfl, rfl⟩, rfl, rfl, rfl, rfl, rfl, rfl, rfl⟩ := hrel
    · go_wp2_with fail
      go_roundg 0
      case measure => omega
      case rel => exact ⟨.inr ⟨rfl, rfl, rfl, rfl⟩, rfl, rfl, rfl, rfl, rfl, rfl, rfl⟩
    · go_wp2_with fail
      rw [Exit.noGoto_ret]
      exact bodyPost_ret (results_tmp7 rfl _ _ _) rfl ⟨rfl, rfl⟩
theorem frombits2 (n : Int) (w : World) : (callFunc 110 #[.int .u64 n]).run Tryz.prog w = .ok (.value (.float .f64 n.toNat)) w := by
  rw [run_callFunc_extern (e := Extern.MathFloatBits.float64frombits) Tryz.func110 (by kernel_rfl) (by kernel_rfl) (by kernel_rfl) (by kernel_rfl)]
  rfl
theorem bool2u_calls (w : World) : Calls Tryz.prog 109 #[.bool true] w fun e w' => e = .returned (.int .u64 1) ∧ w' = w := by
  go_enter Tryz.func109, Tryz.ntmps109
  go_wp2
  go_ret
  exact ⟨rfl, rfl⟩
def Opt (w : World) : Prop := w.cell? ⟨1, 0, none⟩ = some (.bool true)
theorem atof64_calls (w : World) (ho : Opt w) : Calls Tryz.prog 74 #[.string ⟨#[45, 48]⟩] w fun e w' => e = .returned (.tuple #[.float .f64 9223372036854775808, .int .i64 2, .nilIface]) ∧ w' = w := by
  unfold Opt at ho
  have e1 := frombits2
  have b1 : Go.bits .or .u64 9223372036854775808 0 = 9223372036854775808 := by decide +kernel
  go_enter Tryz.func74, Tryz.ntmps74
  go_wp2_with fail
  refine (special_calls _).mono ?_
  rintro e w1 ⟨rfl, hw1⟩
  subst hw1
  go_wp2_with fail
  refine (readFloat_calls _).mono ?_
  rintro e w1 ⟨rfl, hw1⟩
  subst hw1
  go_wp2_with (first | (go_at_call 109; refine (bool2u_calls _).mono ?_; rintro e w1 ⟨rfl, hw1⟩; subst hw1))
  go_ret3
  exact ⟨rfl, rfl⟩
theorem parsePrefix_calls (w : World) (ho : Opt w) : Calls Tryz.prog 51 #[.string ⟨#[45, 48]⟩, .int .i64 64] w fun e w' => e = .returned (.tuple #[.float .f64 9223372036854775808, .int .i64 2, .nilIface]) ∧ w' = w := by
  go_enter Tryz.func51, Tryz.ntmps51
  go_wp2_with fail
  refine (atof64_calls _ ho).mono ?_
  rintro e w1 ⟨rfl, hw1⟩
  subst hw1
  go_wp2_with fail
  go_ret3
  exact ⟨rfl, rfl⟩
theorem iparse_calls (w : World) (ho : Opt w) : Calls Tryz.prog 45 #[.string ⟨#[45, 48]⟩, .int .i64 64] w fun e w' => e = .returned (.tuple #[.float .f64 9223372036854775808, .nilIface]) ∧ w' = w := by
  go_enter Tryz.func45, Tryz.ntmps45
  go_wp2_with fail
  refine (parsePrefix_calls _ ho).mono ?_
  rintro e w1 ⟨rfl, hw1⟩
  subst hw1
  go_wp2_with fail
  go_ret2
  exact ⟨rfl, rfl⟩
theorem parse_calls (w : World) (ho : Opt w) : Calls Tryz.prog 39 #[.string ⟨#[45, 48]⟩, .int .i64 64] w fun e w' => e = .returned (.tuple #[.float .f64 9223372036854775808, .nilIface]) ∧ w' = w := by
  go_enter Tryz.func39, Tryz.ntmps39
  go_wp2_with fail
  refine (iparse_calls _ ho).mono ?_
  rintro e w1 ⟨rfl, hw1⟩
  subst hw1
  go_wp2_with fail
  go_ret2
  exact ⟨rfl, rfl⟩
theorem nan_nan : FL.nan 9221120237041090561 = true := by decide +kernel
theorem index3 (w : World) (a b c : Nat) (i : Fin 3) : (Instr.index 67 (.agg #[.float .f64 a, .float .f64 b, .float .f64 c]) (.int .i64 i.val)).run Tryz.prog w = .ok (.float .f64 (#[a, b, c].getD i.val 0)) w := by
  match i with
  | ⟨0, _⟩ => rfl
  | ⟨1, _⟩ => rfl
  | ⟨2, _⟩ => rfl
theorem dashZero : strOfNums [45, 48] = (⟨#[45, 48]⟩ : ByteArray) := by kernel_rfl
set_option maxHeartbeats 4000000 in
theorem Read_calls (w : World) (ho : Opt w) : Calls Tryz.prog 25 #[.string ⟨#[45, 48]⟩] w fun e w' => e = .returned (.tuple #[.float .f64 9223372036854775808, .bool true]) ∧ Below w.heap.size w w' := by
  go_enter Tryz.func25, Tryz.ntmps25
  go_wp2_with (first
    | (go_at_call 34; refine (NaN_calls _).mono ?_; rintro e w1 ⟨rfl, hw1⟩; subst hw1)
    | (go_at_call 30; first | (with_reducible refine (InfP_calls _).mono ?_; rintro e w1 ⟨rfl, hw1⟩; subst hw1) | (with_reducible refine (InfN_calls _).mono ?_; rintro e w1 ⟨rfl, hw1⟩; subst hw1)))
  have x1 : ((⟨#[110, 97, 110]⟩ : ByteArray).toList == (⟨#[45, 48]⟩ : ByteArray).toList) = false := by decide +kernel
  have x2 : ((⟨#[105, 110, 102]⟩ : ByteArray).toList == (⟨#[45, 48]⟩ : ByteArray).toList) = false := by decide +kernel
  have x3 : ((⟨#[45, 105, 110, 102]⟩ : ByteArray).toList == (⟨#[45, 48]⟩ : ByteArray).toList) = false := by decide +kernel
  go_loopg [12] 3 (fun m v12 w' => (m = 3 ∧ v12 = .int .i64 0 ∨ m = 2 ∧ v12 = .int .i64 1 ∨ m = 1 ∧ v12 = .int .i64 2 ∨ m = 0 ∧ v12 = .int .i64 3) ∧ w' = w1)
  case atStart => exact ⟨.inl ⟨rfl, rfl⟩, rfl⟩
  case round =>
    obtain ⟨⟨rfl, rfl⟩ | ⟨rfl, rfl⟩ | ⟨rfl, rfl⟩ | ⟨rfl, rfl⟩, rfl⟩ := hrel
    · go_wp2_with fail
      rw [show (Sem.run Tryz.prog (Instr.index 67 (Value.agg #[Value.float FloatKind.f64 9221120237041090561, Value.float FloatKind.f64 9218868437227405312, Value.float FloatKind.f64 18442240474082181120]) (Value.int IntKind.i64 0))) _ = _ from index3 _ _ _ _ ⟨0, by decide⟩]
      go_wp2_with fail
      refine (TextNaN_calls _ _ nan_nan).mono ?_
      rintro e w2 ⟨rfl, hw2⟩
      subst hw2
      go_wp2_with fail
      go_roundg 2
      case measure => omega
      case rel => exact ⟨.inr (.inl ⟨rfl, rfl⟩), rfl⟩
    · go_wp2_with fail
      rw [show (Sem.run Tryz.prog (Instr.index 67 (Value.agg #[Value.float FloatKind.f64 9221120237041090561, Value.float FloatKind.f64 9218868437227405312, Value.float FloatKind.f64 18442240474082181120]) (Value.int IntKind.i64 1))) _ = _ from index3 _ _ _ _ ⟨1, by decide⟩]
      go_wp2_with fail
      refine (TextInfP_calls _).mono ?_
      rintro e w2 ⟨rfl, hw2⟩
      subst hw2
      go_wp2_with fail
      go_roundg 1
      case measure => omega
      case rel => exact ⟨.inr (.inr (.inl ⟨rfl, rfl⟩)), rfl⟩
    · go_wp2_with fail
      rw [show (Sem.run Tryz.prog (Instr.index 67 (Value.agg #[Value.float FloatKind.f64 9221120237041090561, Value.float FloatKind.f64 9218868437227405312, Value.float FloatKind.f64 18442240474082181120]) (Value.int IntKind.i64 2))) _ = _ from index3 _ _ _ _ ⟨2, by decide⟩]
      go_wp2_with fail
      refine (TextInfN_calls _).mono ?_
      rintro e w2 ⟨rfl, hw2⟩
      subst hw2
      go_wp2_with fail
      go_roundg 0
      case measure => omega
      case rel => exact ⟨.inr (.inr (.inr ⟨rfl, rfl⟩)), rfl⟩
    · go_wp2_with fail
      refine (parse_calls _ ho).mono ?_
      rintro e w2 ⟨rfl, hw2⟩
      subst hw2
      go_wp2_with fail
      refine (TextZ_calls _).mono ?_
      rintro e w3 ⟨rfl, hb3⟩
      rw [dashZero]
      have x4 : ((⟨#[45, 48]⟩ : ByteArray).toList == (⟨#[45, 48]⟩ : ByteArray).toList) = true := by decide +kernel
      go_wp2_with fail
      go_ret2
      exact ⟨rfl, hb3⟩
end Go.Proofs.YtaacbjchjdjieaaGreatDoor.P
