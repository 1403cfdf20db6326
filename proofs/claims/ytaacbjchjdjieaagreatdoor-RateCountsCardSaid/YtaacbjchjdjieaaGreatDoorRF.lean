/- What writing nought with a sign comes to. -/
import Derived.Test.YtaacbjchjdjieaaGreatDoorRE1
import Derived.Test.YtaacbjchjdjieaaGreatDoorPx0
import Derived.Test.YtaacbjchjdjieaaGreatDoorM
import Derived.Test.YtaacbjchjdjieaaGreatDoorWMore
import Derived.Test.YtaacbjchjdjieaaGreatDoorWShare
import Derived.WalkKit
import Derived.Deep.LoopGhost
namespace Go.Proofs.YtaacbjchjdjieaaGreatDoor.P
open Go Go.RowKit Go.Proofs.YtaacbjchjdjieaaGreatDoorW.PrintWords Go.Proofs.YtaacbjchjdjieaaGreatDoorW.PrintLast Go.Proofs.YtaacbjchjdjieaaGreatDoorW.PrintMore
set_option linter.unusedVariables false
set_option linter.unusedSimpArgs false
set_option maxRecDepth 100000
set_option maxHeartbeats 4000000 in
theorem fmtZ_calls (v : Value) (w : World) (B : Nat) (hB : B ≤ w.heap.size) (hr : Kd.R (Kd.int .u8) 5 w B (fun _ => True) v ([] : List Int)) :
    Calls Tryz.prog 62 #[v, .bool true, .slice none 0 0, .int .i64 0, .int .i64 0, .int .i64 (-1), .int .u8 103, .bool true] w fun e w' => ∃ v', e = .returned v' ∧ Kd.R (Kd.int .u8) 5 w' B (fun _ => True) v' ([45, 48] : List Int) ∧ Below B w w' := by
  have HT := Aside0.mk hr
  have HW := Aside0.mk (Below.refl B w)
  clear hr
  obtain ⟨At, ct, et⟩ := Kd.R_slice HT.out
  subst et
  go_enter Tryz.func62, Tryz.ntmps62
  go_wp2_with (first
    | ((with_reducible refine gate_dst (N := 180) rfl ?_); refine Kd.R_lit (Kd.int .u8) B 5 ?hg (N := 180) ?hd (xs := ([45] : List Int)) (inner := [.int .u8 (45)]) (ok := fun _ => True) (okp := fun _ => True) ?hr ?hp (fun _ hk => hk) trivial HW.out (Nat.le_trans hB HW.out.size) (by simp) ?_; (case hd => rfl); (case hg => rfl); (case hr => first | (go_simp; done) | (go_simp; rfl)); (case hp => exact (Reps.one (show Kd.M (Kd.int .u8) _ _ _ (45 : Int) [.int .u8 (45 : Int)] from rfl) (Reps.none _ _))); intro v_ w_ ho hb hg_ hnew_; have HT_ := Aside0.mk (Kd.R_grown HT.out hg_ (fun k _ e => by cases e)); clear HT hg_ hnew_; have HT := HT_; clear HT_; have HL := Aside0.mk ho; clear HW; have HW := Aside0.mk hb; clear ho hb; obtain ⟨Al, cl, el⟩ := Kd.R_slice HL.out; subst el)
    | ((with_reducible refine gate_builtin (b := .append) (xs := #[.tmp 179, .tmp 180]) rfl ?_); at_builtin; refine Kd.R_append_rows (Kd.int .u8) (w0 := w) B rfl (.tmp 179) (.tmp 180) 23 5 (.int .u8 0) 1 rfl Tryz.underlying23 info5 rfl (by decide) (by omega) _ ([]) [45] _ _ _ (fun _ => True) (fun _ => False) rfl rfl HT.out ((Kd.R_reads' HL.out).2.2) (fun _ _ h => h) (fun _ h => h.elim) (fun _ _ => trivial) HW.out (Nat.le_trans hB HW.out.size) (by simp) ?_; intro v_ w_ ho hb hg_ hat_; clear hg_ hat_ HT HL; have HT := Aside0.mk ho; clear HW; have HW := Aside0.mk hb; clear ho hb; obtain ⟨At, ct, et⟩ := Kd.R_slice HT.out; subst et)
    | ((with_reducible refine gate_dst (N := 210) rfl ?_); refine Kd.R_lit (Kd.int .u8) B 5 ?hg (N := 210) ?hd (xs := ([48] : List Int)) (inner := [.int .u8 (48)]) (ok := fun _ => True) (okp := fun _ => True) ?hr ?hp (fun _ hk => hk) trivial HW.out (Nat.le_trans hB HW.out.size) (by simp) ?_; (case hd => rfl); (case hg => rfl); (case hr => first | (go_simp; done) | (go_simp; rfl)); (case hp => exact (Reps.one (show Kd.M (Kd.int .u8) _ _ _ (48 : Int) [.int .u8 (48 : Int)] from rfl) (Reps.none _ _))); intro v_ w_ ho hb hg_ hnew_; have HT_ := Aside0.mk (Kd.R_grown HT.out hg_ (fun k _ e => by cases e)); clear HT hg_ hnew_; have HT := HT_; clear HT_; have HL := Aside0.mk ho; clear HW; have HW := Aside0.mk hb; clear ho hb; obtain ⟨Al, cl, el⟩ := Kd.R_slice HL.out; subst el)
    | ((with_reducible refine gate_builtin (b := .append) (xs := #[.tmp 209, .tmp 210]) rfl ?_); at_builtin; refine Kd.R_append_rows (Kd.int .u8) (w0 := w) B rfl (.tmp 209) (.tmp 210) 23 5 (.int .u8 0) 1 rfl Tryz.underlying23 info5 rfl (by decide) (by omega) _ ([45]) [48] _ _ _ (fun _ => True) (fun _ => False) rfl rfl HT.out ((Kd.R_reads' HL.out).2.2) (fun _ _ h => h) (fun _ h => h.elim) (fun _ _ => trivial) HW.out (Nat.le_trans hB HW.out.size) (by simp) ?_; intro v_ w_ ho hb hg_ hat_; clear hg_ hat_ HT HL; have HT := Aside0.mk ho; clear HW; have HW := Aside0.mk hb; clear ho hb; obtain ⟨At, ct, et⟩ := Kd.R_slice HT.out; subst et))
  go_ret
  exact ⟨_, rfl, HT.out, HW.out⟩
end Go.Proofs.YtaacbjchjdjieaaGreatDoor.P
