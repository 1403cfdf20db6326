/- lines.Place: the walk: the first of the iterator's places that lies in the asked line and column. -/
import Derived.Test.YtndecknocmallaaLOf
namespace Go.Proofs.Ytndecknocmallaa.P
open Go.RowKit Go.Shelf Go.Proofs.YtndecknocmallaaW.PrintWords Go.Proofs.YtndecknocmallaaW.PrintLast Go.Proofs.YtndecknocmallaaW.PrintMore Go.Proofs.Ytndecknocmallaa.RC
attribute [local go_sem] Oper.semAt_some
set_option linter.unusedVariables false
set_option linter.unusedSimpArgs false

def placeOf (line column : Int) : List (Int × Int × Int) → Int
  | [] => -1
  | x :: t => if x.2.1 = line ∧ x.2.2 = column then x.1 else placeOf line column t
theorem placeOf_none (line column : Int) : ∀ (l : List (Int × Int × Int)), (∀ x ∈ l, ¬ (x.2.1 = line ∧ x.2.2 = column)) → placeOf line column l = -1
  | [], _ => rfl
  | x :: t, h => by rw [placeOf, if_neg (h x List.mem_cons_self), placeOf_none line column t (fun y hy => h y (List.mem_cons_of_mem _ hy))]
theorem placeOf_hit (line column : Int) : ∀ (l : List (Int × Int × Int)) (x : Int × Int × Int) (t : List (Int × Int × Int)), (∀ x ∈ l, ¬ (x.2.1 = line ∧ x.2.2 = column)) → x.2.1 = line ∧ x.2.2 = column → placeOf line column (l ++ x :: t) = x.1
  | [], x, t, _, hx => by rw [List.nil_append, placeOf, if_pos hx]
  | y :: l, x, t, h, hx => by rw [List.cons_append, placeOf, if_neg (h y List.mem_cons_self), placeOf_hit line column l x t (fun z hz => h z (List.mem_cons_of_mem _ hz)) hx]
def lines_Place.f (s : List Int) (line column : Int) : Option Int :=
  if (∀ x ∈ s, 0 ≤ x ∧ x ≤ 255) ∧ s.length ≤ 5000000000000 then some (placeOf line column (spotsL s 0 1 1 (U8.C 0 s))) else none

def PlI (w w0 : World) (a1 a2 : Int) (pre : List (Int × Int × Int)) (W : World) : Prop :=
  Below w.heap.size w W ∧ W.heap[w.heap.size]? = some (.cells #[.int .i64 a1] 3 (0, 0)) ∧ W.heap[w.heap.size + 1]? = some (.cells #[.int .i64 a2] 3 (0, 0)) ∧
    W.heap[w.heap.size + 1 + 1]? = some (.cells #[.int .i64 0] 3 (0, 0)) ∧
    (∀ x ∈ pre, ¬ (x.2.1 = a1 ∧ x.2.2 = a2)) ∧ w0.heap.size ≤ W.heap.size
theorem PlI_own (w w0 : World) (a1 a2 : Int) (h : w0.heap.size = w.heap.size + 4) : OwnC w0.heap.size (PlI w w0 a1 a2) := fun s A B row hs hg hr =>
  ⟨ownC_below (β := Unit) (Nat.le_refl _) (by omega) () A B row hs.1 hg hr, kept_lt hg hr hs.2.1 (by omega), kept_lt hg hr hs.2.2.1 (by omega), kept_lt hg hr hs.2.2.2.1 (by omega), hs.2.2.2.2.1, Nat.le_trans hs.2.2.2.2.2 hg.size⟩
def PlX (w w0 : World) (a1 a2 : Int) (c : Code) (pre' : List (Int × Int × Int)) (W : World) : Prop :=
  c = .ret ∧ ∃ pre x, pre' = pre ++ [x] ∧ (x.2.1 = a1 ∧ x.2.2 = a2) ∧ (∀ x ∈ pre, ¬ (x.2.1 = a1 ∧ x.2.2 = a2)) ∧ Below w.heap.size w W ∧ W.heap[w.heap.size + 1 + 1]? = some (.cells #[.int .i64 x.1] 3 (0, 0))
theorem PlX_own (w w0 : World) (a1 a2 : Int) (h : w0.heap.size = w.heap.size + 4) (c : Code) : OwnC w0.heap.size (PlX w w0 a1 a2 c) := fun s A B row hs hg hr => by
  obtain ⟨hc, pre, x, h1, h2, h3, h4, h5⟩ := hs
  exact ⟨hc, pre, x, h1, h2, h3, ownC_below (β := Unit) (Nat.le_refl _) (by omega) () A B row h4 hg hr, kept_lt hg hr h5 (by omega)⟩

set_option maxHeartbeats 8000000 in
set_option maxRecDepth 100000 in
theorem lines_Place.calls (A0 : Option Addr) (c0 : Nat) (l0 : List Int) (a1 a2 : Int) (r : Int) (w : World) (hr0 : Kd.C (Kd.int .u8) w A0 l0.length l0) (hc0 : l0.length ≤ c0) (h : lines_Place.f l0 a1 a2 = some r) :
    Calls Try.prog 14 #[.slice A0 l0.length c0, .int .i64 a1, .int .i64 a2] w fun e w' => e = .returned (.int .i64 r) ∧ Below w.heap.size w w' := by
  have HR0 := Aside0.mk hr0
  have HC0 := Aside0.mk hc0
  clear hr0 hc0
  unfold lines_Place.f at h
  by_cases hg : (∀ x ∈ l0, 0 ≤ x ∧ x ≤ 255) ∧ l0.length ≤ 5000000000000
  · rw [if_pos hg] at h
    obtain ⟨hbs, hlen⟩ := hg
    have HB := Aside0.mk (Below.refl w.heap.size w)
    have HBS := Aside0.mk hbs
    have HLN := Aside0.mk hlen
    have HRES := Aside0.mk h
    clear hbs hlen h
    refine (callsIn_wide (n := 6)).1 ?_
    refine callsIn_of_wp_marks Try.func14 rfl trivial ?_ rfl
    simp only [Try.ntmps14, List.size_toArray, List.length_cons, List.length_nil, Nat.reduceAdd, Nat.reduceSub, Array.replicate_succ, Array.replicate_zero, List.push_toArray, List.append_toArray, List.nil_append, List.cons_append]
    gi_wp2_with (refine ⟨trivial, ?_⟩; gi_at_call 18; refine (spots_in _ _ _ _ _).mono ?_; rintro e w1 ⟨rfl, rfl⟩)
    have HA0 := Aside0.mk (blk_alloc (blk_alloc (blk_alloc (blk_new w (.cells #[.int .i64 a1] 3)) (.cells #[.int .i64 a2] 3)) (.cells #[.int .i64 0] 3)) (.cells #[.slice A0 l0.length c0] 22))
    have HA1 := Aside0.mk (blk_alloc (blk_alloc (blk_new (w.alloc (.cells #[.int .i64 a1] 3)) (.cells #[.int .i64 a2] 3)) (.cells #[.int .i64 0] 3)) (.cells #[.slice A0 l0.length c0] 22))
    have HL0 := Aside0.mk (blk_alloc (blk_new ((w.alloc (.cells #[.int .i64 a1] 3)).alloc (.cells #[.int .i64 a2] 3)) (.cells #[.int .i64 0] 3)) (.cells #[.slice A0 l0.length c0] 22))
    have HX0 := Aside0.mk (blk_new (((w.alloc (.cells #[.int .i64 a1] 3)).alloc (.cells #[.int .i64 a2] 3)).alloc (.cells #[.int .i64 0] 3)) (.cells #[.slice A0 l0.length c0] 22))
    have HB0 := Aside0.mk (below_alloc (below_alloc (below_alloc (below_alloc HB.out (.cells #[.int .i64 a1] 3)) (.cells #[.int .i64 a2] 3)) (.cells #[.int .i64 0] 3)) (.cells #[.slice A0 l0.length c0] 22))
    obtain ⟨w0, hw0⟩ : ∃ w0, (((w.alloc (.cells #[.int .i64 a1] 3)).alloc (.cells #[.int .i64 a2] 3)).alloc (.cells #[.int .i64 0] 3)).alloc (.cells #[.slice A0 l0.length c0] 22) = w0 := ⟨_, rfl⟩
    have hsz : w0.heap.size = w.heap.size + 4 := by rw [← hw0]; simp
    rw [hw0] at HA0 HA1 HL0 HX0 HB0 ⊢
    clear hw0
    simp only [World.size_alloc] at HA0 HA1 HL0 HX0
    refine wpIn_rangeFunc_ownC rfl (by omega) (gf := 21) (lb := #[.pointer (some ⟨w.heap.size + 1 + 1 + 1, 0, none⟩)]) rfl trivial (enters_of Try.func21 (by kernel_rfl) rfl)
        (spots_seq A0 c0 l0 HBS.out HLN.out HC0.out 5 (by omega) (w.heap.size + 1 + 1 + 1) (w.heap.size + 1 + 1) w w0 HB0.out HR0.out HX0.out (by omega) (by omega)) KpS_t (KpS_b (by omega)) (Below.refl _ _) (fun _ => rfl)
        (PlI w w0 a1 a2) (PlX w w0 a1 a2) (PlI_own w w0 a1 a2 hsz) (PlX_own w w0 a1 a2 hsz) ⟨HB0.out, HA0.out, HA1.out, HL0.out, (fun x hx => by cases hx), Nat.le_refl _⟩
        (fun x a' W => ∃ Bx, w0.heap.size ≤ Bx ∧ W.heap[Bx]? = some (.cells #[.int .i64 x.1, .int .i64 x.2.1, .int .i64 x.2.2] 37 (0, 0)) ∧
          a' = { tmps := #[.slice A0 l0.length c0, .int .i64 a1, .int .i64 a2, undef, .pointer (some ⟨w.heap.size, 0, none⟩), .pointer (some ⟨w.heap.size + 1, 0, none⟩), .pointer (some ⟨w.heap.size + 1 + 1, 0, none⟩), .pointer (some ⟨Bx, 0, none⟩), .slice A0 l0.length c0, .func (.func 21) #[] #[.pointer (some ⟨w.heap.size + 1 + 1 + 1, 0, none⟩)], .agg #[.int .i64 x.1, .int .i64 x.2.1, .int .i64 x.2.2], undef, undef, undef, undef, undef, undef, undef, undef, undef], defers := [] })
        (fun x a' s A B row hs hg hr => by
          obtain ⟨Bx, h1, h2, h3⟩ := hs
          exact ⟨Bx, h1, ownFrom_blk (β := Unit) () A B row h2 hg hr, h3⟩)
        ?assign ?body ?done ?stop
    case assign =>
      rintro l pre x W K ⟨hB, hA, hA1, hL, hall, hszw⟩ hK
      have hszW : w.heap.size + 2 ≤ W.heap.size := by have := blk_lt hL; omega
      have hu1 := Try.underlying37
      simp only [encS]
      gi_wp2_with fail
      refine hK _ _ ((KeepsOthers.alloc _ _).from _) ⟨KeepC.alloc (KeepC.refl _ _) _, (Below.refl _ W).alloc (by omega) _⟩ ⟨below_alloc hB _, blk_alloc hA _, blk_alloc hA1 _, blk_alloc hL _, hall, by simp; omega⟩ ⟨W.heap.size, hszw, blk_new W _, rfl⟩
    case body =>
      rintro l pre x a' W hl ⟨r, hr⟩ ⟨hB, hA, hA1, hL, hall, hszw⟩ ⟨Bx, hBx, hX, rfl⟩ hlt
      have hu1 := Try.underlying37
      have hb1 : W.cell? ⟨Bx, 0, none⟩ = some (.int .i64 x.1) := (blk_cell hX 0).trans rfl
      have hb2 : W.cell? ⟨Bx, 1, none⟩ = some (.int .i64 x.2.1) := (blk_cell hX 1).trans rfl
      have hb3 : W.cell? ⟨Bx, 2, none⟩ = some (.int .i64 x.2.2) := (blk_cell hX 2).trans rfl
      have hb4 : W.cell? ⟨w.heap.size, 0, none⟩ = some (.int .i64 a1) := (blk_cell hA 0).trans rfl
      have hb5 : W.cell? ⟨w.heap.size + 1, 0, none⟩ = some (.int .i64 a2) := (blk_cell hA1 0).trans rfl
      have hb6 : W.cell? ⟨w.heap.size + 1 + 1, 0, none⟩ = some (.int .i64 0) := (blk_cell hL 0).trans rfl
      have hf1 := blk_frozen hL 0
      have HSZ := Aside0.mk hsz
      clear hsz
      gi_wp2_with fail
      · rename_i h1 h2
        exact ⟨(KeepsOthers.setCell _ _ _).from _, rfl, pre, x, rfl, ⟨h1, h2⟩, hall, below_set hB (by omega), by simpa using blk_set hL 0 (.int .i64 x.1)⟩
      · rename_i h1 h2
        refine ⟨(KeepsOthers.refl _).from _, ⟨KeepC.refl _ _, Below.refl _ _⟩, hB, hA, hA1, hL, ?_, hszw⟩
        intro y hy
        rcases List.mem_append.1 hy with hy | hy
        · exact hall y hy
        · have : y = x := by simpa using hy
          subst this
          exact fun e => h2 e.2
      · rename_i h1
        refine ⟨(KeepsOthers.refl _).from _, ⟨KeepC.refl _ _, Below.refl _ _⟩, hB, hA, hA1, hL, ?_, hszw⟩
        intro y hy
        rcases List.mem_append.1 hy with hy | hy
        · exact hall y hy
        · have : y = x := by simpa using hy
          subst this
          exact fun e => h1 e.1
    case done =>
      rintro D xs W hD rfl ⟨hB, hA, hA1, hL, hall, hszw⟩ hK
      have hres := HRES.out
      simp only [Option.some.injEq] at hres
      rw [placeOf_none a1 a2 _ hall] at hres
      subst hres
      have hb6 : W.cell? ⟨w.heap.size + 1 + 1, 0, none⟩ = some (.int .i64 0) := (blk_cell hL 0).trans rfl
      have hf1 := blk_frozen hL 0
      gi_wp2_with fail
      have hK' := (KeepsOthers.setCell W ⟨w.heap.size + 1 + 1, 0, none⟩ (.int .i64 (-1))).same D _ hK rfl
      refine ⟨by simp, .inl ⟨_, _, rfl, run_takeDeferred hK', ?_⟩⟩
      have hc5 := cell_kept (World.cell?_setCell_same' W ⟨w.heap.size + 1 + 1, 0, none⟩ (.int .i64 (-1)) (by rw [hb6]; rfl)) (grownBy_putObj' _ D (.deferred none)) (fun r e => by cases e; exact ⟨_, hK', rfl⟩)
      refine ⟨.int .i64 (-1), ?_, rfl, ?_⟩
      · simp [results, Try.f14, go_sem, hc5]
      · exact (below_set hB (by omega)).trans (belowK_b (w := w) (Nat.le_refl _) _ D _ _ (by omega) hK' rfl rfl)
    case stop =>
      rintro D c pre' W hD hp ⟨rfl, pre, x, rfl, hx, hall, hB, hL⟩ hK
      obtain ⟨t, ht⟩ := hp
      have hres := HRES.out
      simp only [Option.some.injEq] at hres
      rw [← ht, List.append_assoc, List.cons_append, List.nil_append, placeOf_hit a1 a2 pre x t hall hx] at hres
      subst hres
      have hb6 : W.cell? ⟨w.heap.size + 1 + 1, 0, none⟩ = some (.int .i64 x.1) := (blk_cell hL 0).trans rfl
      gi_wp2_with fail
      refine ⟨by simp, .inl ⟨_, _, rfl, run_takeDeferred hK, ?_⟩⟩
      have hc5 := cell_kept hb6 (grownBy_putObj' _ D (.deferred none)) (fun r e => by cases e; exact ⟨_, hK, rfl⟩)
      refine ⟨.int .i64 x.1, ?_, rfl, ?_⟩
      · simp [results, Try.f14, go_sem, hc5]
      · exact hB.trans (belowK_b (w := w) (Nat.le_refl _) _ D _ _ (by omega) hK rfl rfl)
  · rw [if_neg hg] at h
    cases h
end Go.Proofs.Ytndecknocmallaa.P
