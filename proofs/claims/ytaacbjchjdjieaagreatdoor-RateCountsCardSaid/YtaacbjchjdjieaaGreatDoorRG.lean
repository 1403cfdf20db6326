/- What writing 1.5 comes to, part four: the text. -/
import Derived.Test.YtaacbjchjdjieaaGreatDoorRF
import Derived.Deep.AppendLies
namespace Go.Proofs.YtaacbjchjdjieaaGreatDoor.P
open Go Go.RowKit Go.Proofs.YtaacbjchjdjieaaGreatDoorW.PrintWords Go.Proofs.YtaacbjchjdjieaaGreatDoorW.PrintLast Go.Proofs.YtaacbjchjdjieaaGreatDoorW.PrintMore
set_option linter.unusedVariables false
set_option linter.unusedSimpArgs false
set_option maxRecDepth 100000
/-- the text so far is l; block g holds the two digits -/
structure Wr (g B : Nat) (w : World) (l : List Int) (v : Value) (W : World) : Prop where
  r : Kd.R (Kd.int .u8) 5 W B (fun k => k ≠ g) v l
  below : Below B w W
  c0 : W.cell? ⟨g, 0, none⟩ = some (.int .u8 49)
  c1 : W.cell? ⟨g, 1, none⟩ = some (.int .u8 53)
theorem Wr.lt {g B : Nat} {w W : World} {l : List Int} {v : Value} (h : Wr g B w l v W) : g < W.heap.size := World.block_lt_of_cell? _ _ h.c0
theorem Wr.lit {g B : Nat} {w W W' : World} {l : List Int} {v : Value} (h : Wr g B w l v W) (hb : Below B w W') (hg : W.grownBy W' none) : Wr g B w l v W' :=
  ⟨Kd.R_grown h.r hg (fun k _ e => by cases e), hb, (hg.cell_far ⟨g, 0, none⟩ h.lt (by simp)).trans h.c0, (hg.cell_far ⟨g, 1, none⟩ h.lt (by simp)).trans h.c1⟩
theorem Wr.app {g B : Nat} {w W W' : World} {l l' : List Int} {v v' : Value} (h : Wr g B w l v W) (hr : Kd.R (Kd.int .u8) 5 W' B (fun k => k ≠ g) v' l') (hb : Below B w W') (hg : W.grownBy W' v.ownBlock) : Wr g B w l' v' W' :=
  ⟨hr, hb, (hg.cell_far ⟨g, 0, none⟩ h.lt (fun e => h.r.1 g e.symm rfl)).trans h.c0, (hg.cell_far ⟨g, 1, none⟩ h.lt (fun e => h.r.1 g e.symm rfl)).trans h.c1⟩
set_option maxHeartbeats 4000000 in
theorem fmt15_calls (v : Value) (w : World) (g B cap : Nat) (hB : B ≤ w.heap.size) (hq : Wr g B w [] v w) (hcap : 1 ≤ cap) :
    Calls Tryz.prog 62 #[v, .bool false, .slice (some ⟨g, 0, none⟩) 32 cap, .int .i64 1, .int .i64 2, .int .i64 2, .int .u8 103, .bool true] w fun e w' => ∃ v', e = .returned v' ∧ Kd.R (Kd.int .u8) 5 w' B (fun _ => True) v' ([49, 46, 53] : List Int) ∧ Below B w w' := by
  have HQ := Aside0.mk hq
  clear hq
  have hcap' : (1 : Int) ≤ (cap : Int) := by omega
  obtain ⟨At, ct, et⟩ := Kd.R_slice HQ.out.r
  subst et
  go_enter Tryz.func62, Tryz.ntmps62
  go_wp2_with fail
  go_loopg [0, 191] 1 (fun m v0 vi w' => (m = 1 ∧ vi = .int .i64 0 ∧ Aside0 (Wr g B w [] v0 w')) ∨ (m = 0 ∧ vi = .int .i64 1 ∧ Aside0 (Wr g B w [49] v0 w')))
  case atStart => exact .inl ⟨rfl, rfl, HQ⟩
  case round =>
    clear HQ
    rcases hrel with ⟨rfl, rfl, HQ⟩ | ⟨rfl, rfl, HQ⟩
    · obtain ⟨At, ct, et⟩ := Kd.R_slice HQ.out.r
      subst et
      have c0 := HQ.out.c0
      go_wp2_with (first
        | ((with_reducible refine gate_dst (N := 197) rfl ?_); refine Kd.R_lit (Kd.int .u8) B 5 ?hg (N := 197) ?hd (xs := ([49] : List Int)) (inner := [.int .u8 (49)]) (ok := fun _ => True) (okp := fun _ => True) ?hr ?hp (fun _ hk => hk) trivial HQ.out.below (Nat.le_trans hB HQ.out.below.size) (by simp) ?_; (case hd => rfl); (case hg => rfl); (case hr => first | (go_simp; done) | (go_simp; rfl)); (case hp => exact (Reps.one (show Kd.M (Kd.int .u8) _ _ _ (49 : Int) [.int .u8 (49 : Int)] from rfl) (Reps.none _ _))); intro v_ w_ ho hb hg_ hnew_; have HQ_ := Aside0.mk (HQ.out.lit hb hg_); clear HQ hg_ hnew_ hb; have HQ := HQ_; clear HQ_; have HL := Aside0.mk ho; clear ho; obtain ⟨Al, cl, el⟩ := Kd.R_slice HL.out; subst el)
        | ((with_reducible refine gate_builtin (b := .append) (xs := #[.tmp 195, .tmp 197]) rfl ?_); at_builtin; refine Kd.R_append_rows (Kd.int .u8) (w0 := w) B rfl (.tmp 195) (.tmp 197) 23 5 (.int .u8 0) 1 rfl Tryz.underlying23 info5 rfl (by decide) (by omega) _ ([]) [49] _ _ _ (fun k => k ≠ g) (fun _ => False) rfl rfl HQ.out.r ((Kd.R_reads' HL.out).2.2) (fun _ _ h => h) (fun _ h => h.elim) (fun k hk => Nat.ne_of_gt (Nat.lt_of_lt_of_le HQ.out.lt hk)) HQ.out.below (Nat.le_trans hB HQ.out.below.size) (by simp) ?_; intro v_ w_ ho hb hg_ hat_; have HQ_ := Aside0.mk (HQ.out.app ho hb hg_); clear HQ HL hg_ hat_ ho hb; have HQ := HQ_; clear HQ_; obtain ⟨At, ct, et⟩ := Kd.R_slice HQ.out.r; subst et))
      go_roundg 0
      case measure => omega
      case rel => exact .inr ⟨rfl, rfl, HQ⟩
    · obtain ⟨At, ct, et⟩ := Kd.R_slice HQ.out.r
      subst et
      go_wp2_with fail
      go_loopg [0, 203] 0 (fun m v0 vi w' => vi = .int .i64 0 ∧ v0 = .slice At 1 ct ∧ Aside0 (Wr g B w [49] v0 w'))
      case atStart => exact ⟨rfl, rfl, HQ⟩
      case round =>
        clear HQ
        obtain ⟨rfl, rfl, HQ⟩ := hrel
        go_wp2_with (first
          | ((with_reducible refine gate_dst (N := 215) rfl ?_); refine Kd.R_lit (Kd.int .u8) B 5 ?hg (N := 215) ?hd (xs := ([46] : List Int)) (inner := [.int .u8 (46)]) (ok := fun _ => True) (okp := fun _ => True) ?hr ?hp (fun _ hk => hk) trivial HQ.out.below (Nat.le_trans hB HQ.out.below.size) (by simp) ?_; (case hd => rfl); (case hg => rfl); (case hr => first | (go_simp; done) | (go_simp; rfl)); (case hp => exact (Reps.one (show Kd.M (Kd.int .u8) _ _ _ (46 : Int) [.int .u8 (46 : Int)] from rfl) (Reps.none _ _))); intro v_ w_ ho hb hg_ hnew_; have HQ_ := Aside0.mk (HQ.out.lit hb hg_); clear HQ hg_ hnew_ hb; have HQ := HQ_; clear HQ_; have HL := Aside0.mk ho; clear ho; obtain ⟨Al, cl, el⟩ := Kd.R_slice HL.out; subst el)
          | ((with_reducible refine gate_builtin (b := .append) (xs := #[.tmp 214, .tmp 215]) rfl ?_); at_builtin; refine Kd.R_append_rows (Kd.int .u8) (w0 := w) B rfl (.tmp 214) (.tmp 215) 23 5 (.int .u8 0) 1 rfl Tryz.underlying23 info5 rfl (by decide) (by omega) _ ([49]) [46] _ _ _ (fun k => k ≠ g) (fun _ => False) rfl rfl HQ.out.r ((Kd.R_reads' HL.out).2.2) (fun _ _ h => h) (fun _ h => h.elim) (fun k hk => Nat.ne_of_gt (Nat.lt_of_lt_of_le HQ.out.lt hk)) HQ.out.below (Nat.le_trans hB HQ.out.below.size) (by simp) ?_; intro v_ w_ ho hb hg_ hat_; have HQ_ := Aside0.mk (HQ.out.app ho hb hg_); clear HQ HL hg_ hat_ ho hb; have HQ := HQ_; clear HQ_; obtain ⟨At, ct, et⟩ := Kd.R_slice HQ.out.r; subst et))
        go_loopg [0, 240] 0 (fun m v0 vi w' => vi = .int .i64 0 ∧ v0 = .slice At 2 ct ∧ Aside0 (Wr g B w [49, 46] v0 w'))
        case atStart => exact ⟨rfl, rfl, HQ⟩
        case round =>
          clear HQ
          obtain ⟨rfl, rfl, HQ⟩ := hrel
          go_wp2_with fail
          go_loopg [0, 247] 1 (fun m v0 vi w' => (m = 1 ∧ vi = .int .i64 0 ∧ v0 = .slice At 2 ct ∧ Aside0 (Wr g B w [49, 46] v0 w')) ∨ (m = 0 ∧ vi = .int .i64 1 ∧ Aside0 (Wr g B w [49, 46, 53] v0 w')))
          case atStart => exact .inl ⟨rfl, rfl, rfl, HQ⟩
          case round =>
            clear HQ
            rcases hrel with ⟨rfl, rfl, rfl, HQ⟩ | ⟨rfl, rfl, HQ⟩
            · have c1 := HQ.out.c1
              go_wp2_with (first
                | ((with_reducible refine gate_dst (N := 257) rfl ?_); refine Kd.R_lit (Kd.int .u8) B 5 ?hg (N := 257) ?hd (xs := ([53] : List Int)) (inner := [.int .u8 (53)]) (ok := fun _ => True) (okp := fun _ => True) ?hr ?hp (fun _ hk => hk) trivial HQ.out.below (Nat.le_trans hB HQ.out.below.size) (by simp) ?_; (case hd => rfl); (case hg => rfl); (case hr => first | (go_simp; done) | (go_simp; rfl)); (case hp => exact (Reps.one (show Kd.M (Kd.int .u8) _ _ _ (53 : Int) [.int .u8 (53 : Int)] from rfl) (Reps.none _ _))); intro v_ w_ ho hb hg_ hnew_; have HQ_ := Aside0.mk (HQ.out.lit hb hg_); clear HQ hg_ hnew_ hb; have HQ := HQ_; clear HQ_; have HL := Aside0.mk ho; clear ho; obtain ⟨Al, cl, el⟩ := Kd.R_slice HL.out; subst el)
                | ((with_reducible refine gate_builtin (b := .append) (xs := #[.tmp 250, .tmp 257]) rfl ?_); at_builtin; refine Kd.R_append_rows (Kd.int .u8) (w0 := w) B rfl (.tmp 250) (.tmp 257) 23 5 (.int .u8 0) 1 rfl Tryz.underlying23 info5 rfl (by decide) (by omega) _ ([49, 46]) [53] _ _ _ (fun k => k ≠ g) (fun _ => False) rfl rfl HQ.out.r ((Kd.R_reads' HL.out).2.2) (fun _ _ h => h) (fun _ h => h.elim) (fun k hk => Nat.ne_of_gt (Nat.lt_of_lt_of_le HQ.out.lt hk)) HQ.out.below (Nat.le_trans hB HQ.out.below.size) (by simp) ?_; intro v_ w_ ho hb hg_ hat_; have HQ_ := Aside0.mk (HQ.out.app ho hb hg_); clear HQ HL hg_ hat_ ho hb; have HQ := HQ_; clear HQ_; obtain ⟨At, ct, et⟩ := Kd.R_slice HQ.out.r; subst et))
              go_roundg 0
              case measure => omega
              case rel => exact .inr ⟨rfl, rfl, HQ⟩
            · obtain ⟨At, ct, et⟩ := Kd.R_slice HQ.out.r
              subst et
              go_wp2_with fail
              go_loopg [0, 261] 0 (fun m v0 vi w' => vi = .int .i64 0 ∧ v0 = .slice At 3 ct ∧ Aside0 (Wr g B w [49, 46, 53] v0 w'))
              case atStart => exact ⟨rfl, rfl, HQ⟩
              case round =>
                clear HQ
                obtain ⟨rfl, rfl, HQ⟩ := hrel
                go_wp2_with fail
                go_ret
                exact ⟨_, rfl, Kd.R_mono HQ.out.r (fun _ _ => trivial), HQ.out.below⟩
end Go.Proofs.YtaacbjchjdjieaaGreatDoor.P
