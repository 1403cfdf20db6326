/- lines.Of: the walk: the last of the iterator's places that is not beyond the asked one. -/
import Derived.Test.YtndecknocmallaaLSp
import Derived.WalkMore
import Derived.BigQuiet
namespace Go.Proofs.Ytndecknocmallaa.P
open Go.RowKit Go.Shelf Go.Proofs.YtndecknocmallaaW.PrintWords Go.Proofs.YtndecknocmallaaW.PrintLast Go.Proofs.YtndecknocmallaaW.PrintMore Go.Proofs.Ytndecknocmallaa.RC
attribute [local go_sem] Oper.semAt_some
set_option linter.unusedVariables false
set_option linter.unusedSimpArgs false

def lastLe (at_ : Int) : Int × Int × Int → List (Int × Int × Int) → Int × Int × Int
  | last, [] => last
  | last, x :: t => if at_ < x.1 then last else lastLe at_ x t
theorem lastLe_all (at_ : Int) : ∀ (l : List (Int × Int × Int)) (d : Int × Int × Int), (∀ x ∈ l, x.1 ≤ at_) → lastLe at_ d l = l.getLastD d
  | [], _, _ => rfl
  | x :: t, d, h => by
    have hx := h x List.mem_cons_self
    rw [lastLe, if_neg (by omega), lastLe_all at_ t x (fun y hy => h y (List.mem_cons_of_mem _ hy))]
    cases t with
    | nil => rfl
    | cons a b => rfl
theorem lastLe_stop (at_ : Int) : ∀ (l : List (Int × Int × Int)) (d x : Int × Int × Int) (t : List (Int × Int × Int)), (∀ x ∈ l, x.1 ≤ at_) → at_ < x.1 → lastLe at_ d (l ++ x :: t) = l.getLastD d
  | [], d, x, t, _, hx => by simp [lastLe, hx]
  | y :: l, d, x, t, h, hx => by
    have hy := h y List.mem_cons_self
    rw [List.cons_append, lastLe, if_neg (by omega), lastLe_stop at_ l y x t (fun z hz => h z (List.mem_cons_of_mem _ hz)) hx]
    cases l with
    | nil => rfl
    | cons a b => rfl
def lines_Of.f (s : List Int) (at_ : Int) : Option (Int × Int) :=
  if (∀ x ∈ s, 0 ≤ x ∧ x ≤ 255) ∧ s.length ≤ 5000000000000 then
    (if at_ < 0 ∨ (s.length : Int) < at_ then some (0, 0) else some (lastLe at_ (0, 0, 0) (spotsL s 0 1 1 (U8.C 0 s))).2)
  else none

set_option maxHeartbeats 8000000 in
set_option maxRecDepth 100000 in
theorem spots_in (n : Nat) (A0 : Option Addr) (c0 k0 : Nat) (w : World) :
    CallsIn Fence.wide n Try.prog 18 #[.slice A0 k0 c0] w fun e w' => e = .returned (.func (.func 21) #[] #[.pointer (some ⟨w.heap.size, 0, none⟩)]) ∧ w' = w.alloc (.cells #[.slice A0 k0 c0] 22) := by
  refine callsIn_of_wp Try.func18 rfl trivial ?_ rfl
  simp only [Try.ntmps18, List.size_toArray, List.length_cons, List.length_nil, Nat.reduceAdd, Nat.reduceSub, Array.replicate_succ, Array.replicate_zero, List.push_toArray, List.append_toArray, List.nil_append, List.cons_append]
  gi_wp2
  go_ret
  exact ⟨rfl, rfl⟩

/-- the closure hands its places to whatever loop, from the world where it was made on -/
theorem spots_seq (A0 : Option Addr) (c0 : Nat) (s : List Int) (hb : U8.Bytes s) (hlen : s.length ≤ 5000000000000) (hc0 : s.length ≤ c0) (n : Nat) (hn : 2 ≤ n) (Bn gl : Nat) (w w0 : World) (hw : Below w.heap.size w w0)
    (hC : Kd.C (Kd.int .u8) w A0 s.length s) (hBn : w0.heap[Bn]? = some (.cells #[.slice A0 s.length c0] 22 (0, 0))) (hgl : gl < w0.heap.size) (hne : Bn ≠ gl) :
    SeqStopsC Fence.wide n Try.prog 21 #[.pointer (some ⟨Bn, 0, none⟩)] encS (KpS gl w.heap.size) (fun xs => xs = spotsL s 0 1 1 (U8.C 0 s)) (fun pre => pre <+: spotsL s 0 1 1 (U8.C 0 s)) (spotsL s 0 1 1 (U8.C 0 s)).length w0 := by
  intro l J Jx W hW hJ hJx hY h0
  have hBW : Below w.heap.size w W := below_step hw hW
  exact spots_iter A0 c0 s hb hlen n hn l Bn gl w.heap.size J Jx W hJ hJx hY (blk_below hBn hW) (Nat.lt_of_lt_of_le hgl hW.size) hne hBW.size (fun W' hW' => Kd.C_below hC (hBW.trans hW')) hc0 h0
theorem KpS_t {gl n₀ : Nat} {A B C : World} (h : KpS gl n₀ A B) (k : KpS gl n₀ B C) : KpS gl n₀ A C := ⟨h.1.trans k.1, h.2.trans k.2⟩
theorem KpS_b {gl n₀ : Nat} {w : World} (hn : n₀ ≤ w.heap.size) (W : World) (l : Nat) (o o' : Obj) (hl : w.heap.size ≤ l) (h : W.heap[l]? = some o) (hc : o.isCells = false) (hw : o.isWalk = false) : KpS gl n₀ W (W.putObj l o') :=
  ⟨KeepC.putObj W l o o' h hc, belowK_b hn W l o o' hl h hc hw⟩
theorem ownC_blk {β : Type} {B b : Nat} {o : Obj} (hb : b < B) : OwnC B (fun (_ : β) W => W.heap[b]? = some o) := fun s A W' row hs hg hr => kept_lt hg hr hs hb
theorem ownC_below {β : Type} {n₀ B : Nat} {w₀ : World} (hn : n₀ ≤ w₀.heap.size) (hB : n₀ ≤ B) : OwnC B (fun (_ : β) W => Below n₀ w₀ W) :=
  fun _ _ _ _ hs hg hr => hs.grown hg (Nat.le_trans hn hs.size) (fun k e => Nat.le_trans hB (hr k e))
theorem ownFrom_blk {β : Type} {B b : Nat} {cs : Array Value} {t : TypeId} {fr : Nat × Nat} : OwnFrom B (fun (_ : β) W => W.heap[b]? = some (.cells cs t fr)) := fun s A W' row hs hg hr =>
  (hg.block b (blk_lt hs) (fun e => by obtain ⟨h1, o, ho, hc⟩ := hr b e.symm; rw [hs] at ho; cases ho; simp [Obj.isCells] at hc)).trans hs

def OfI (w w0 : World) (a1 : Int) (pre : List (Int × Int × Int)) (W : World) : Prop :=
  Below w.heap.size w W ∧ W.heap[w.heap.size]? = some (.cells #[.int .i64 a1] 3 (0, 0)) ∧
    W.heap[w.heap.size + 1]? = some (.cells #[.int .i64 (pre.getLastD (0, 0, 0)).1, .int .i64 (pre.getLastD (0, 0, 0)).2.1, .int .i64 (pre.getLastD (0, 0, 0)).2.2] 37 (0, 0)) ∧
    (∀ x ∈ pre, x.1 ≤ a1) ∧ w0.heap.size ≤ W.heap.size
theorem OfI_own (w w0 : World) (a1 : Int) (h : w0.heap.size = w.heap.size + 3) : OwnC w0.heap.size (OfI w w0 a1) := fun s A B row hs hg hr =>
  ⟨ownC_below (β := Unit) (Nat.le_refl _) (by omega) () A B row hs.1 hg hr, kept_lt hg hr hs.2.1 (by omega), kept_lt hg hr hs.2.2.1 (by omega), hs.2.2.2.1, Nat.le_trans hs.2.2.2.2 hg.size⟩
def OfX (w w0 : World) (a1 : Int) (c : Code) (pre' : List (Int × Int × Int)) (W : World) : Prop :=
  c = .exit 0 ∧ ∃ pre x, pre' = pre ++ [x] ∧ a1 < x.1 ∧ OfI w w0 a1 pre W
theorem OfX_own (w w0 : World) (a1 : Int) (h : w0.heap.size = w.heap.size + 3) (c : Code) : OwnC w0.heap.size (OfX w w0 a1 c) := fun s A B row hs hg hr => by
  obtain ⟨hc, pre, x, h1, h2, h3⟩ := hs
  exact ⟨hc, pre, x, h1, h2, OfI_own w w0 a1 h pre A B row h3 hg hr⟩
def tmpsOf (A0 : Option Addr) (c0 k0 b1 b2 b3 : Nat) (a1 : Int) (v7 : Value) (v18 : Value) : Act :=
  { tmps := #[.slice A0 k0 c0, .int .i64 a1, undef, .pointer (some ⟨b1, 0, none⟩), .int .i64 0, .int .i64 0, .pointer (some ⟨b2, 0, none⟩), v7, .int .i64 a1, .bool false, .bool false, .int .i64 a1, .slice A0 k0 c0, .int .i64 k0, .bool false, .bool false, .slice A0 k0 c0, .func (.func 21) #[] #[.pointer (some ⟨b3, 0, none⟩)], v18, undef, undef, undef, undef, undef, undef, undef, undef, undef], defers := [] }

set_option maxHeartbeats 8000000 in
set_option maxRecDepth 100000 in
theorem lines_Of.calls (A0 : Option Addr) (c0 : Nat) (l0 : List Int) (a1 : Int) (r1 : Int) (r2 : Int) (w : World) (hr0 : Kd.C (Kd.int .u8) w A0 l0.length l0) (hc0 : l0.length ≤ c0) (h : lines_Of.f l0 a1 = some (r1, r2)) :
    Calls Try.prog 13 #[.slice A0 l0.length c0, .int .i64 a1] w fun e w' => e = .returned (.tuple #[.int .i64 r1, .int .i64 r2]) ∧ Below w.heap.size w w' := by
  have HR0 := Aside0.mk hr0
  have HC0 := Aside0.mk hc0
  clear hr0 hc0
  unfold lines_Of.f at h
  by_cases hg : (∀ x ∈ l0, 0 ≤ x ∧ x ≤ 255) ∧ l0.length ≤ 5000000000000
  · rw [if_pos hg] at h
    obtain ⟨hbs, hlen⟩ := hg
    have HB := Aside0.mk (Below.refl w.heap.size w)
    have HBS := Aside0.mk hbs
    have HLN := Aside0.mk hlen
    clear hbs hlen
    refine (callsIn_wide (n := 6)).1 ?_
    refine callsIn_of_wp_marks Try.func13 rfl trivial ?_ rfl
    simp only [Try.ntmps13, List.size_toArray, List.length_cons, List.length_nil, Nat.reduceAdd, Nat.reduceSub, Array.replicate_succ, Array.replicate_zero, List.push_toArray, List.append_toArray, List.nil_append, List.cons_append]
    by_cases c1 : a1 < 0 ∨ (l0.length : Int) < a1
    · rw [if_pos c1] at h
      simp only [Option.some.injEq, Prod.mk.injEq] at h
      obtain ⟨rfl, rfl⟩ := h
      have hc1 := (blk_cell (blk_new w (.cells #[.int .i64 a1] 3)) 0).trans rfl
      by_cases c2 : a1 < 0
      · have hd1 : decide (a1 < 0) = true := decide_eq_true c2
        gi_wp2_with fail
        refine (wpIn_wide (n := 6)).2 (wp_scope_straight ((wpIn_wide (n := 6)).1 ?_))
        gi_wp2_with fail
        exact ⟨_, results_tmp2 rfl _ _ _, rfl, below_alloc HB.out _⟩
      · have hd1 : decide (a1 < 0) = false := decide_eq_false c2
        have hd2 : decide ((l0.length : Int) < a1) = true := decide_eq_true (by omega)
        gi_wp2_with fail
        refine (wpIn_wide (n := 6)).2 (wp_scope_straight ((wpIn_wide (n := 6)).1 ?_))
        gi_wp2_with fail
        exact ⟨_, results_tmp2 rfl _ _ _, rfl, below_alloc HB.out _⟩
    · rw [if_neg c1] at h
      have hd1 : decide (a1 < 0) = false := decide_eq_false (by omega)
      have hd2 : decide ((l0.length : Int) < a1) = false := decide_eq_false (by omega)
      clear c1
      have hc1 := (blk_cell (blk_new w (.cells #[.int .i64 a1] 3)) 0).trans rfl
      gi_wp2_with fail
      refine (wpIn_wide (n := 6)).2 (wp_scope_straight ((wpIn_wide (n := 6)).1 ?_))
      gi_wp2_with fail
      refine wpIn_label ?_
      gi_wp2_with (refine ⟨trivial, ?_⟩; gi_at_call 18; refine (spots_in _ _ _ _ _).mono ?_; rintro e w1 ⟨rfl, rfl⟩)
      clear hc1 hd1 hd2
      have HA0 := Aside0.mk (blk_alloc (blk_alloc (blk_new w (.cells #[.int .i64 a1] 3)) (.cells #[.int .i64 0, .int .i64 0, .int .i64 0] 37)) (.cells #[.slice A0 l0.length c0] 22))
      have HL0 := Aside0.mk (blk_alloc (blk_new (w.alloc (.cells #[.int .i64 a1] 3)) (.cells #[.int .i64 0, .int .i64 0, .int .i64 0] 37)) (.cells #[.slice A0 l0.length c0] 22))
      have HX0 := Aside0.mk (blk_new ((w.alloc (.cells #[.int .i64 a1] 3)).alloc (.cells #[.int .i64 0, .int .i64 0, .int .i64 0] 37)) (.cells #[.slice A0 l0.length c0] 22))
      have HB0 := Aside0.mk (below_alloc (below_alloc (below_alloc HB.out (.cells #[.int .i64 a1] 3)) (.cells #[.int .i64 0, .int .i64 0, .int .i64 0] 37)) (.cells #[.slice A0 l0.length c0] 22))
      obtain ⟨w0, hw0⟩ : ∃ w0, ((w.alloc (.cells #[.int .i64 a1] 3)).alloc (.cells #[.int .i64 0, .int .i64 0, .int .i64 0] 37)).alloc (.cells #[.slice A0 l0.length c0] 22) = w0 := ⟨_, rfl⟩
      have hsz : w0.heap.size = w.heap.size + 3 := by rw [← hw0]; simp
      rw [hw0] at HA0 HL0 HX0 HB0 ⊢
      clear hw0
      simp only [World.size_alloc] at HA0 HL0 HX0
      have HRES := Aside0.mk h
      clear h
      refine wpIn_rangeFunc_ownC rfl (by omega) (gf := 21) (lb := #[.pointer (some ⟨w.heap.size + 1 + 1, 0, none⟩)]) rfl trivial (enters_of Try.func21 (by kernel_rfl) rfl)
        (spots_seq A0 c0 l0 HBS.out HLN.out HC0.out 5 (by omega) (w.heap.size + 1 + 1) (w.heap.size + 1) w w0 HB0.out HR0.out HX0.out (by omega) (by omega)) KpS_t (KpS_b (by omega)) (Below.refl _ _) (fun _ => rfl)
        (OfI w w0 a1) (OfX w w0 a1) (OfI_own w w0 a1 hsz) (OfX_own w w0 a1 hsz) ⟨HB0.out, HA0.out, HL0.out, (fun x hx => by cases hx), Nat.le_refl _⟩
        (fun x a' W => ∃ Bx, w0.heap.size ≤ Bx ∧ W.heap[Bx]? = some (.cells #[.int .i64 x.1, .int .i64 x.2.1, .int .i64 x.2.2] 37 (0, 0)) ∧
          a' = { tmps := #[.slice A0 l0.length c0, .int .i64 a1, undef, .pointer (some ⟨w.heap.size, 0, none⟩), .int .i64 0, .int .i64 0, .pointer (some ⟨w.heap.size + 1, 0, none⟩), .pointer (some ⟨Bx, 0, none⟩), .int .i64 a1, .bool false, .bool false, .int .i64 a1, .slice A0 l0.length c0, .int .i64 l0.length, .bool false, .bool false, .slice A0 l0.length c0, .func (.func 21) #[] #[.pointer (some ⟨w.heap.size + 1 + 1, 0, none⟩)], .agg #[.int .i64 x.1, .int .i64 x.2.1, .int .i64 x.2.2], undef, undef, undef, undef, undef, undef, undef, undef, undef], defers := [] })
        (fun x a' s A B row hs hg hr => by
          obtain ⟨Bx, h1, h2, h3⟩ := hs
          exact ⟨Bx, h1, ownFrom_blk (β := Unit) () A B row h2 hg hr, h3⟩)
        ?assign ?body ?done ?stop
      case assign =>
        rintro l pre x W K ⟨hB, hA, hL, hall, hszw⟩ hK
        have hszW : w.heap.size + 2 ≤ W.heap.size := by have := blk_lt hL; omega
        have hu1 := Try.underlying37
        simp only [encS]
        gi_wp2_with fail
        refine hK _ _ ((KeepsOthers.alloc _ _).from _) ⟨KeepC.alloc (KeepC.refl _ _) _, (Below.refl _ W).alloc (by omega) _⟩ ⟨below_alloc hB _, blk_alloc hA _, blk_alloc hL _, hall, by simp; omega⟩ ⟨W.heap.size, hszw, blk_new W _, rfl⟩
      case body =>
        rintro l pre x a' W hl ⟨r, hr⟩ ⟨hB, hA, hL, hall, hszw⟩ ⟨Bx, hBx, hX, rfl⟩ hlt
        have hu1 := Try.underlying37
        have hb1 : W.cell? ⟨Bx, 0, none⟩ = some (.int .i64 x.1) := (blk_cell hX 0).trans rfl
        have hb2 : W.cell? ⟨Bx, 1, none⟩ = some (.int .i64 x.2.1) := (blk_cell hX 1).trans rfl
        have hb3 : W.cell? ⟨Bx, 2, none⟩ = some (.int .i64 x.2.2) := (blk_cell hX 2).trans rfl
        have hb4 : W.cell? ⟨w.heap.size, 0, none⟩ = some (.int .i64 a1) := (blk_cell hA 0).trans rfl
        have hb5 := blk_cell hL 0
        have hb6 := blk_cell hL 1
        have hb7 := blk_cell hL 2
        have hf1 := blk_frozen hL 0
        have hf2 := blk_frozen hL 1
        have hf3 := blk_frozen hL 2
        have HSZ := Aside0.mk hsz
        clear hsz
        by_cases hx : a1 < x.1
        · have hxd : decide (a1 < x.1) = true := decide_eq_true hx
          clear hb2 hb3 hb5 hb6 hb7 hf1 hf2 hf3
          gi_wp2_with fail
          exact ⟨(KeepsOthers.refl _).from _, rfl, pre, x, rfl, hx, hB, hA, hL, hall, hszw⟩
        · have hxd : decide (a1 < x.1) = false := decide_eq_false hx
          gi_wp2_with fail
          have hle : w.heap.size ≤ w.heap.size + 1 := Nat.le_succ _
          have hL2 := blk_set (blk_set (blk_set hL 0 (.int .i64 x.1)) 1 (.int .i64 x.2.1)) 2 (.int .i64 x.2.2)
          refine ⟨((KeepsOthers.setCell _ _ _).trans ((KeepsOthers.setCell _ _ _).trans (KeepsOthers.setCell _ _ _))).from _, ⟨KeepC.setCell (KeepC.setCell (KeepC.setCell (KeepC.refl _ _) _ _) _ _) _ _, Below.setCell (p := ⟨w.heap.size + 1, 2, none⟩) (Below.setCell (p := ⟨w.heap.size + 1, 1, none⟩) (Below.setCell (p := ⟨w.heap.size + 1, 0, none⟩) (Below.refl _ W) hle _) hle _) hle _⟩,
            below_set (below_set (below_set hB hle) hle) hle, blk_far (p := ⟨w.heap.size + 1, 2, none⟩) (blk_far (p := ⟨w.heap.size + 1, 1, none⟩) (blk_far (p := ⟨w.heap.size + 1, 0, none⟩) hA (by simp) _) (by simp) _) (by simp) _, ?_, ?_, by simpa using hszw⟩
          · simp only [List.getLastD_concat]
            exact hL2
          · intro y hy
            rcases List.mem_append.1 hy with hy | hy
            · exact hall y hy
            · have : y = x := by simpa using hy
              subst this
              omega
      case done =>
        rintro D xs W hD rfl ⟨hB, hA, hL, hall, hszw⟩ hK
        have hres := HRES.out
        simp only [Option.some.injEq] at hres
        rw [lastLe_all a1 _ _ hall] at hres
        generalize (spotsL l0 0 1 1 (U8.C 0 l0)).getLastD (0, 0, 0) = g at hres hL
        clear HRES hall
        have HRES := Aside0.mk (show g.2.1 = r1 ∧ g.2.2 = r2 from ⟨congrArg Prod.fst hres, congrArg Prod.snd hres⟩)
        clear hres
        have hb6 : W.cell? ⟨w.heap.size + 1, 1, none⟩ = some (.int .i64 g.2.1) := (blk_cell hL 1).trans rfl
        have hb7 : W.cell? ⟨w.heap.size + 1, 2, none⟩ = some (.int .i64 g.2.2) := (blk_cell hL 2).trans rfl
        gi_wp2_with fail
        refine (wpIn_wide (n := 6)).2 ?_
        go_quiet (fail)
        go_wp2
        refine wpIn_ret ?_
        refine ⟨by simp, .inl ⟨_, _, rfl, run_takeDeferred (w := W.drewN nq) hK, ?_⟩⟩
        refine ⟨_, results_tmp2 rfl _ _ _, ?_, ?_⟩
        · rw [← HRES.out.1, ← HRES.out.2]; rfl
        · exact (pw_below_drewN hB nq).trans (belowK_b (w := w) (Nat.le_refl _) (W.drewN nq) D _ _ (by omega) hK rfl rfl)
      case stop =>
        rintro D c pre' W hD hp ⟨rfl, pre, x, rfl, hx, hB, hA, hL, hall, hszw⟩ hK
        obtain ⟨t, ht⟩ := hp
        have hres := HRES.out
        simp only [Option.some.injEq] at hres
        rw [← ht, List.append_assoc, List.cons_append, List.nil_append, lastLe_stop a1 pre _ x t hall hx] at hres
        generalize pre.getLastD (0, 0, 0) = g at hres hL
        clear HRES hall ht hx
        have HRES := Aside0.mk (show g.2.1 = r1 ∧ g.2.2 = r2 from ⟨congrArg Prod.fst hres, congrArg Prod.snd hres⟩)
        clear hres
        have hb6 : W.cell? ⟨w.heap.size + 1, 1, none⟩ = some (.int .i64 g.2.1) := (blk_cell hL 1).trans rfl
        have hb7 : W.cell? ⟨w.heap.size + 1, 2, none⟩ = some (.int .i64 g.2.2) := (blk_cell hL 2).trans rfl
        gi_wp2_with fail
        refine (wpIn_wide (n := 6)).2 ?_
        go_quiet (fail)
        go_wp2
        refine wpIn_ret ?_
        refine ⟨by simp, .inl ⟨_, _, rfl, run_takeDeferred (w := W.drewN nq) hK, ?_⟩⟩
        refine ⟨_, results_tmp2 rfl _ _ _, ?_, ?_⟩
        · rw [← HRES.out.1, ← HRES.out.2]; rfl
        · exact (pw_below_drewN hB nq).trans (belowK_b (w := w) (Nat.le_refl _) (W.drewN nq) D _ _ (by omega) hK rfl rfl)
  · rw [if_neg hg] at h
    cases h
end Go.Proofs.Ytndecknocmallaa.P
