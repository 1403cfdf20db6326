/- The iterator of package lines: what it hands over, one by one, for every loop body that keeps its memory. -/
import Derived.Test.YtndecknocmallaaRC
import Derived.Test.YtndecknocmallaaUL
import Derived.Shelf.Abstract
import Derived.Shelf.RegionOpen
import Derived.WalkKit
import Derived.OwnWalkIn
import Derived.TacticsInMore
import Derived.LoopNIn
import Derived.LoopIn
import Derived.Outline
import Derived.BigGuardIn
namespace Go.Proofs.Ytndecknocmallaa.P
open Go.RowKit Go.Shelf Go.Proofs.YtndecknocmallaaW.PrintWords Go.Proofs.YtndecknocmallaaW.PrintLast Go.Proofs.YtndecknocmallaaW.PrintMore Go.Proofs.Ytndecknocmallaa.RC
attribute [local go_sem] Oper.semAt_some
set_option linter.unusedVariables false
set_option linter.unusedSimpArgs false

/-- does a line end behind a char that ends at a place -/
def lineEnd (s : List Int) (r e : Int) : Bool := decide (r = 10) || (decide (r = 13) && (decide (e = (s.length : Int)) || !(rd s e == 10)))
/-- all places at which a char begins, and the end: place, line, column -/
def spotsL (s : List Int) : Int → Int → Int → List S45 → List (Int × Int × Int)
  | a, l, c, [] => [(a, l, c)]
  | a, l, c, x :: t => (a, l, c) :: (if lineEnd s x.f0 (a + x.f2) = true then spotsL s (a + x.f2) (l + 1) 1 t else spotsL s (a + x.f2) l (c + 1) t)
def encS (x : Int × Int × Int) : Array Value := #[.agg #[.int .i64 x.1, .int .i64 x.2.1, .int .i64 x.2.2]]
/-- what a round keeps: all cells but one block's, and all that lay at first -/
def KpS (gl n₀ : Nat) (W W' : World) : Prop := KeepC gl W W' ∧ Below n₀ W W'
theorem setCell_grownBy (W : World) (b j : Nat) (v : Value) : W.grownBy (W.setCell ⟨b, j, none⟩ v) (some b) :=
  ⟨rfl, rfl, rfl, by simp, fun k _ hk => Below.heap_setCell W ⟨b, j, none⟩ v k (fun e => hk (by rw [e]))⟩
theorem OwnC.setCell {β : Type} {B : Nat} {J : β → World → Prop} (h : OwnC B J) {s : β} {W : World} (b j : Nat) (v : Value) (hs : J s W) (hb : B ≤ b) : J s (W.setCell ⟨b, j, none⟩ v) :=
  h s W _ (some b) hs (setCell_grownBy W b j v) (fun r e => by cases e; exact hb)
theorem OwnC.below {β : Type} {B : Nat} {J : β → World → Prop} (h : OwnC B J) {s : β} {W W' : World} (hs : J s W) (hb : Below W.heap.size W W') : J s W' :=
  h s W W' none hs (grown_of_below hb none) (fun r e => by cases e)
/-- a row of the iterator's own lies on through a round -/
theorem R_keepC {α : Type} {d : Kd α} {e : Nat} {w w1 : World} {base g : Nat} {v : Value} {xs : List α} (h : d.R e w base (fun _ => True) v xs) (hk : KeepC g w w1) (hg : g < base) : d.R e w1 base (fun _ => True) v xs :=
  Kd.R_mono (Kd.R_step (Kd.R_bound h) (fun k hk1 _ => by
    obtain ⟨_, hb, _, q, _, cells, hc⟩ := hk1
    rw [hc]; exact hk.2 k cells q (0, 0) (by omega) hc)) (fun _ _ => trivial)
theorem blk_keepC {w w1 : World} {g b : Nat} {cs : Array Value} {t : TypeId} {fr : Nat × Nat} (h : w.heap[b]? = some (.cells cs t fr)) (hk : KeepC g w w1) (hg : b ≠ g) : w1.heap[b]? = some (.cells cs t fr) := hk.2 b cs t fr hg h

theorem int_succ (j : Nat) (h : wrap64 ((j : Int) + 1) = (j : Int) + 1) : Value.int .i64 (wrap64 ((j : Int) + 1)) = Value.int .i64 ((j + 1 : Nat) : Int) := by rw [h, Int.natCast_add]; rfl
theorem intOf_i64 (x : Int) : intOf (Value.int .i64 x) = x := rfl
theorem meas_succ (n j : Nat) (hj : j + 1 ≤ n) (h : wrap64 ((j : Int) + 1) = (j : Int) + 1) : n - (intOf (Value.int .i64 (wrap64 ((j : Int) + 1)))).toNat < n - (intOf (Value.int .i64 (j : Int))).toNat := by
  rw [h, intOf_i64, intOf_i64]; omega
theorem undef_ne {b : Bool} {G : Prop} (h : some undef = some (Value.bool b)) : G := by cases h
theorem C_step (s : List Int) (cs : List S45) (i j : Nat) (hj : j < cs.length) (hi : i ≤ s.length) (h : cs.drop j = U8.C (i : Int) (s.drop i)) :
    ∃ L : Nat, cs[j].f2 = (L : Int) ∧ 1 ≤ L ∧ i + L ≤ s.length ∧ cs[j].f0 = (U8.D (s.drop i)).1 ∧ cs[j].f1 = (i : Int) ∧ cs.drop (j + 1) = U8.C ((i + L : Nat) : Int) (s.drop (i + L)) := by
  rw [List.drop_eq_getElem_cons hj] at h
  by_cases hn : s.drop i = []
  · rw [hn, U8.C_nil] at h; cases h
  · have hd := U8.D_len (s.drop i) hn
    rw [U8.C_cons _ _ hn] at h
    injection h with h1 h2
    refine ⟨(U8.D (s.drop i)).2.toNat, ?_, by omega, ?_, ?_, ?_, ?_⟩
    · rw [h1]; simp only; omega
    · have := hd.2.2; simp at this; omega
    · rw [h1]
    · rw [h1]
    · rw [h2, List.drop_drop]
      congr 1
      omega
set_option maxHeartbeats 8000000 in
set_option maxRecDepth 100000 in
theorem spots_iter (A0 : Option Addr) (c0 : Nat) (s : List Int) (hb : U8.Bytes s) (hlen : s.length ≤ 5000000000000) (n : Nat) (hn : 2 ≤ n) (l Bn gl n₀ : Nat) (J Jx : List (Int × Int × Int) → World → Prop) (W : World)
    (hJ : OwnC W.heap.size J) (hJx : OwnC W.heap.size Jx)
    (hY : ∀ pre x W1, J pre W1 → pre.length < (spotsL s 0 1 1 (U8.C 0 s)).length → YieldAt Fence.wide (n - 1) Try.prog l (encS x) W1 fun e W' =>
      (e = .returned (.bool true) ∧ J (pre ++ [x]) W' ∧ KpS gl n₀ W1 W') ∨ (e = .returned (.bool false) ∧ Jx (pre ++ [x]) W'))
    (hBn : W.heap[Bn]? = some (.cells #[.slice A0 s.length c0] 22 (0, 0))) (hgl : gl < W.heap.size) (hne : Bn ≠ gl) (hn₀ : n₀ ≤ W.heap.size)
    (hC : ∀ W', Below n₀ W W' → Kd.C (Kd.int .u8) W' A0 s.length s) (hc0 : s.length ≤ c0) (h0 : J [] W) :
    CallsIn Fence.wide n Try.prog 21 #[.func (.yield l) #[] #[], .pointer (some ⟨Bn, 0, none⟩)] W fun e W' => (∃ v, e = .returned v) ∧
      ((∃ xs, xs = spotsL s 0 1 1 (U8.C 0 s) ∧ J xs W') ∨ (∃ pre, pre <+: spotsL s 0 1 1 (U8.C 0 s) ∧ Jx pre W')) := by
  have HY := Aside0.mk hY
  have HJ := Aside0.mk hJ
  have HC := Aside0.mk hC
  have HC0 := Aside0.mk hc0
  have HJ0 := Aside0.mk h0
  have HN := Aside0.mk hn₀
  have HBn := Aside0.mk hBn
  have HE := Aside0.mk hne
  have HG := Aside0.mk hgl
  have HLN := Aside0.mk hlen
  clear hY hJ hJx hC hc0 h0 hn₀ hne hgl hlen
  have hcb : W.cell? ⟨Bn, 0, none⟩ = some (.slice A0 s.length c0) := (blk_cell hBn 0).trans rfl
  have hu1 := Try.underlying37
  have hu2 := Try.underlying45
  clear hBn
  refine callsIn_of_wp Try.func21 rfl trivial ?_ rfl
  simp only [Try.ntmps21, List.size_toArray, List.length_cons, List.length_nil, Nat.reduceAdd, Nat.reduceSub, Array.replicate_succ, Array.replicate_zero, List.push_toArray, List.append_toArray, List.nil_append, List.cons_append]
  have hBl : Bn < W.heap.size := blk_lt HBn.out
  have hchars := U8.chars_eq s hb HLN.out (s.length + 1) (by omega)
  have HCH := Aside0.mk hchars
  have HCL := Aside0.mk (U8.C_length _ 0 s (Nat.le_refl _))
  clear hchars
  gi_wp2_with (refine ⟨trivial, fun _ => by omega, ?_⟩; gi_at_call 22; refine (callsIn_wide.2 (utf_Chars.calls (s.length + 1) _ _ s _ _ (HC.out _ (((Below.refl n₀ W).alloc HN.out _))) HC0.out HCH.out)).mono ?_; rintro e w1 ⟨v, rfl, ho, hbw⟩; have HO := Aside0.mk ho; have HB1 := Aside0.mk hbw; clear ho hbw; obtain ⟨Ao, co, eo⟩ := Kd.R_slice HO.out; subst eo)
  generalize hcs : U8.C 0 s = cs at HY HO HCL ⊢
  have HCS := Aside0.mk hcs
  clear hcs hcb
  have HP := Aside0.mk (blk_below (blk_new W (.cells #[.int .i64 0, .int .i64 1, .int .i64 1] 37)) HB1.out)
  have HBX := Aside0.mk (blk_below (blk_alloc HBn.out (.cells #[.int .i64 0, .int .i64 1, .int .i64 1] 37)) HB1.out)
  clear HBn
  have HJ1 := Aside0.mk (OwnC.below HJ.out (OwnC.alloc HJ.out (.cells #[.int .i64 0, .int .i64 1, .int .i64 1] 37) HJ0.out) HB1.out)
  have HBW := Aside0.mk (((Below.refl n₀ W).alloc HN.out (.cells #[.int .i64 0, .int .i64 1, .int .i64 1] 37)).trans (HB1.out.mono (by have := HN.out; simp; omega)))
  have HSZ := Aside0.mk (show W.heap.size + 1 ≤ w1.heap.size by have := HB1.out.size; simpa using this)
  replace HO := Aside0.mk (Kd.R_lower HO.out (show W.heap.size + 1 ≤ (W.alloc (.cells #[.int .i64 0, .int .i64 1, .int .i64 1] 37)).heap.size by simp))
  have HBn := Aside0.mk hBl
  clear HB1 HJ0 hBl
  gi_loopw [10] (fun v10 wr => ∃ (j i : Nat) (ln cl : Int) (pre : List (Int × Int × Int)), v10 = .int .i64 j ∧ Aside0 (j ≤ cs.length ∧ i ≤ s.length ∧ 1 ≤ ln ∧ ln ≤ j + 1 ∧ 1 ≤ cl ∧ cl ≤ j + 1) ∧ Aside0 (J pre wr) ∧ Aside0 (spotsL s 0 1 1 cs = pre ++ spotsL s i ln cl (cs.drop j)) ∧ Aside0 (cs.drop j = U8.C i (s.drop i)) ∧
      Aside0 (wr.heap[W.heap.size]? = some (.cells #[.int .i64 i, .int .i64 ln, .int .i64 cl] 37 (0, 0))) ∧ Aside0 (Kd.R k45 45 wr (W.heap.size + 1) (fun _ => True) (.slice Ao cs.length co) cs) ∧
      Aside0 (wr.heap[Bn]? = some (.cells #[.slice A0 s.length c0] 22 (0, 0))) ∧ Aside0 (Below n₀ W wr) ∧ Aside0 (W.heap.size + 1 ≤ wr.heap.size))
    (fun v10 _ => cs.length - (intOf v10).toNat)
  case atStart => exact ⟨0, 0, 1, 1, [], rfl, ⟨by omega, by omega, by omega, by omega, by omega, by omega⟩, HJ1, ⟨by simp⟩, ⟨by simp [HCS.out]⟩, HP, HO, HBX, HBW, HSZ⟩
  case round =>
    clear HJ1 HP HO HBX HBW HSZ
    obtain ⟨j, i, ln, cl, pre, rfl, HJB, HJr, HSP, HDR, HP, HO, HBX, HBW, HSZ⟩ := hrel
    by_cases hj : j < cs.length
    · have p1 : (0 : Int) ≤ (j : Int) := by omega
      have p2 : (j : Int) < (cs.length : Int) := by omega
      obtain ⟨ad, ead, hx0, hx1, hx2⟩ := at_T45 (Kd.R_reads' HO.out).2.2 (j : Int) p1 p2
      have e1 := U8.rd_getElem cs j hj
      rw [e1] at hx0 hx1 hx2
      simp only [Int.toNat_natCast] at hx0 hx1 hx2
      clear e1
      cases ead
      have hb1 : wr.cell? ⟨W.heap.size, 0, none⟩ = some (.int .i64 i) := (blk_cell HP.out 0).trans rfl
      have hb2 : wr.cell? ⟨W.heap.size, 1, none⟩ = some (.int .i64 ln) := (blk_cell HP.out 1).trans rfl
      have hb3 : wr.cell? ⟨W.heap.size, 2, none⟩ = some (.int .i64 cl) := (blk_cell HP.out 2).trans rfl
      have hbx : wr.cell? ⟨Bn, 0, none⟩ = some (.slice A0 s.length c0) := (blk_cell HBX.out 0).trans rfl
      have W2e : (wr.alloc (.cells #[.int .i64 cs[j].f0, .int .i64 cs[j].f1, .int .i64 cs[j].f2] 45)).heap.size = wr.heap.size + 1 := by simp
      have HN2 := Aside0.mk (World.alloc_heap_new wr (.cells #[.int .i64 cs[j].f0, .int .i64 cs[j].f1, .int .i64 cs[j].f2] 45))
      have HBe := Aside0.mk (KeepC.alloc (KeepC.refl gl wr) (.cells #[.int .i64 cs[j].f0, .int .i64 cs[j].f1, .int .i64 cs[j].f2] 45))
      have HJ2 := Aside0.mk (OwnC.alloc HJ.out (.cells #[.int .i64 cs[j].f0, .int .i64 cs[j].f1, .int .i64 cs[j].f2] 45) HJr.out)
      have HO2 := Aside0.mk (R_keepC HO.out HBe.out (by have := HG.out; omega))
      have HP2 := Aside0.mk (blk_keepC HP.out HBe.out (by have := HG.out; omega))
      have HX2 := Aside0.mk (blk_keepC HBX.out HBe.out HE.out)
      have HW2 := Aside0.mk (HBW.out.trans ((Below.refl n₀ wr).alloc (by have := HN.out; have := HSZ.out; omega) (.cells #[.int .i64 cs[j].f0, .int .i64 cs[j].f1, .int .i64 cs[j].f2] 45)))
      have hb1 := (blk_cell HP2.out 0).trans rfl
      have hb2 := (blk_cell HP2.out 1).trans rfl
      have hb3 := (blk_cell HP2.out 2).trans rfl
      have hlt : pre.length < (spotsL s 0 1 1 cs).length := by
        rw [HSP.out, List.drop_eq_getElem_cons hj]; simp [spotsL]
      obtain ⟨fn, tmps, assign, body, hy, hR⟩ := HY.out pre ((i : Int), ln, cl) _ HJ2.out hlt
      replace hR := Aside0.mk hR
      simp only [encS] at hy
      obtain ⟨L, eL, hL1, hL2, eR, eA, hD⟩ := C_step s cs i j hj HJB.out.2.1 HDR.out
      clear hb1 hb2 hb3
      have hb1 := (blk_cell HP2.out 0).trans rfl
      have hb2 := (blk_cell HP2.out 1).trans rfl
      have hb3 := (blk_cell HP2.out 2).trans rfl
      rw [eL] at hx2
      generalize hrr : cs[j].f0 = r at *
      generalize hff : cs[j].f1 = f1 at *
      simp only [eL] at HN2 HBe HJ2 HO2 HP2 HX2 HW2 hb1 hb2 hb3 hy hR W2e
      have HRL := Aside0.mk (show spotsL s i ln cl (cs.drop j) = ((i : Int), ln, cl) :: (if lineEnd s r ((i + L : Nat) : Int) = true then spotsL s ((i + L : Nat) : Int) (ln + 1) 1 (cs.drop (j + 1)) else spotsL s ((i + L : Nat) : Int) ln (cl + 1) (cs.drop (j + 1))) from by
        rw [List.drop_eq_getElem_cons hj, spotsL, hrr, eL, Int.natCast_add])
      have HD := Aside0.mk hD
      have HNL := Aside0.mk hL2
      have HL1 := Aside0.mk hL1
      generalize hi2 : i + L = i2 at HRL HD HNL
      have HI2 := Aside0.mk (show (i : Int) + L = (i2 : Int) ∧ i2 ≤ s.length from ⟨by omega, HNL.out⟩)
      clear hi2 HNL
      clear hD eR eA hrr hff eL hL2 hL1
      gi_wp2_with fail
      refine ⟨fun _ => by omega, ?_⟩
      refine hR.out.mono ?_
      clear hR hy hb1 hb2 hb3 hbx hx0 hx1 hx2 W2e
      rintro e W3 (⟨rfl, hJ3, hK3⟩ | ⟨rfl, hJx3⟩)
      · have HJ3 := Aside0.mk hJ3
        have HK3 := Aside0.mk hK3
        clear hJ3 hK3
        have hgp : W.heap.size ≠ gl := by have := HG.out; omega
        have hgw : wr.heap.size ≠ gl := by have := HG.out; have := HSZ.out; omega
        have HC3 := Aside0.mk (blk_keepC HN2.out HK3.out.1 hgw)
        have HP3 := Aside0.mk (blk_keepC HP2.out HK3.out.1 hgp)
        have HX3 := Aside0.mk (blk_keepC HX2.out HK3.out.1 HE.out)
        have HO3 := Aside0.mk (R_keepC HO2.out HK3.out.1 (by have := HG.out; omega))
        have HW3 := Aside0.mk (HW2.out.trans HK3.out.2)
        have HS3 := Aside0.mk (show W.heap.size + 1 ≤ W3.heap.size by have h1 : (wr.alloc _).heap.size ≤ W3.heap.size := HK3.out.1.1; have h2 := HSZ.out; rw [World.size_alloc] at h1; omega)
        clear HO2 HP2 HX2 HW2 HN2 HBe HJ2 HK3 hgp hgw HJr HO HP HBX HBW
        have hpc : wr.heap.size ≠ W.heap.size := by have := HSZ.out; omega
        have hpx : Bn ≠ W.heap.size := by have := HBn.out; omega
        have HP4 := Aside0.mk (show (W3.setCell ⟨W.heap.size, 0, none⟩ (.int .i64 (i2 : Int))).heap[W.heap.size]? = some (.cells #[.int .i64 i2, .int .i64 ln, .int .i64 cl] 37 (0, 0)) from blk_put HP3.out 0 (.int .i64 (i2 : Int)) rfl)
        have HP5 := Aside0.mk (show ((W3.setCell ⟨W.heap.size, 0, none⟩ (.int .i64 (i2 : Int))).setCell ⟨W.heap.size, 2, none⟩ (.int .i64 (cl + 1))).heap[W.heap.size]? = some (.cells #[.int .i64 i2, .int .i64 ln, .int .i64 (cl + 1)] 37 (0, 0)) from blk_put HP4.out 2 (.int .i64 (cl + 1)) rfl)
        have HC5 := Aside0.mk (blk_far (p := ⟨W.heap.size, 2, none⟩) (blk_far (p := ⟨W.heap.size, 0, none⟩) HC3.out hpc (.int .i64 (i2 : Int))) hpc (.int .i64 (cl + 1)))
        have HX5 := Aside0.mk (blk_far (p := ⟨W.heap.size, 2, none⟩) (blk_far (p := ⟨W.heap.size, 0, none⟩) HX3.out hpx (.int .i64 (i2 : Int))) hpx (.int .i64 (cl + 1)))
        have HK5 := Aside0.mk (KeepC.setCell (KeepC.setCell (KeepC.refl W.heap.size W3) 0 (.int .i64 (i2 : Int))) 2 (.int .i64 (cl + 1)))
        have hw1 : wrap64 ((i : Int) + L) = (i2 : Int) := by rw [← HI2.out.1]; exact U8.wrap_id _ (by have := HI2.out; have := HLN.out; omega) (by have := HI2.out; have := HLN.out; omega)
        have hw2 : wrap64 (cl + 1) = cl + 1 := U8.wrap_id _ (by have := HJB.out; have := HCL.out; have := HLN.out; omega) (by have := HJB.out; have := HCL.out; have := HLN.out; omega)
        have hw3 : wrap64 (ln + 1) = ln + 1 := U8.wrap_id _ (by have := HJB.out; have := HCL.out; have := HLN.out; omega) (by have := HJB.out; have := HCL.out; have := HLN.out; omega)
        have hw4 : wrap64 ((j : Int) + 1) = (j : Int) + 1 := U8.wrap_id _ (by have := HJB.out; have := HCL.out; have := HLN.out; omega) (by have := HJB.out; have := HCL.out; have := HLN.out; omega)
        have hb1 : W3.cell? ⟨W.heap.size, 0, none⟩ = some (.int .i64 i) := (blk_cell HP3.out 0).trans rfl
        have hb2 : W3.cell? ⟨wr.heap.size, 2, none⟩ = some (.int .i64 L) := (blk_cell HC3.out 2).trans rfl
        have hb3 : (W3.setCell ⟨W.heap.size, 0, none⟩ (.int .i64 (i2 : Int))).cell? ⟨W.heap.size, 2, none⟩ = some (.int .i64 cl) := (blk_cell HP4.out 2).trans rfl
        have hb4 : ((W3.setCell ⟨W.heap.size, 0, none⟩ (.int .i64 (i2 : Int))).setCell ⟨W.heap.size, 2, none⟩ (.int .i64 (cl + 1))).cell? ⟨wr.heap.size, 0, none⟩ = some (.int .i64 r) := (blk_cell HC5.out 0).trans rfl
        have hb5 : ((W3.setCell ⟨W.heap.size, 0, none⟩ (.int .i64 (i2 : Int))).setCell ⟨W.heap.size, 2, none⟩ (.int .i64 (cl + 1))).cell? ⟨W.heap.size, 0, none⟩ = some (.int .i64 i2) := (blk_cell HP5.out 0).trans rfl
        have hb6 : ((W3.setCell ⟨W.heap.size, 0, none⟩ (.int .i64 (i2 : Int))).setCell ⟨W.heap.size, 2, none⟩ (.int .i64 (cl + 1))).cell? ⟨W.heap.size, 1, none⟩ = some (.int .i64 ln) := (blk_cell HP5.out 1).trans rfl
        have hb7 : ((W3.setCell ⟨W.heap.size, 0, none⟩ (.int .i64 (i2 : Int))).setCell ⟨W.heap.size, 2, none⟩ (.int .i64 (cl + 1))).cell? ⟨Bn, 0, none⟩ = some (.slice A0 s.length c0) := (blk_cell HX5.out 0).trans rfl
        have hf1 := blk_frozen HP3.out 0
        have hf2 := blk_frozen HP4.out 2
        have hf3 := blk_frozen HP5.out 1
        have hf4 := blk_frozen (blk_put HP5.out 1 (.int .i64 (ln + 1)) rfl) 2
        have HP6 := Aside0.mk (show (((W3.setCell ⟨W.heap.size, 0, none⟩ (.int .i64 (i2 : Int))).setCell ⟨W.heap.size, 2, none⟩ (.int .i64 (cl + 1))).setCell ⟨W.heap.size, 1, none⟩ (.int .i64 (ln + 1))).heap[W.heap.size]? = some (.cells #[.int .i64 i2, .int .i64 (ln + 1), .int .i64 (cl + 1)] 37 (0, 0)) from blk_put HP5.out 1 (.int .i64 (ln + 1)) rfl)
        have HP7 := Aside0.mk (show ((((W3.setCell ⟨W.heap.size, 0, none⟩ (.int .i64 (i2 : Int))).setCell ⟨W.heap.size, 2, none⟩ (.int .i64 (cl + 1))).setCell ⟨W.heap.size, 1, none⟩ (.int .i64 (ln + 1))).setCell ⟨W.heap.size, 2, none⟩ (.int .i64 1)).heap[W.heap.size]? = some (.cells #[.int .i64 i2, .int .i64 (ln + 1), .int .i64 1] 37 (0, 0)) from blk_put HP6.out 2 (.int .i64 1) rfl)
        have HX7 := Aside0.mk (blk_far (p := ⟨W.heap.size, 2, none⟩) (blk_far (p := ⟨W.heap.size, 1, none⟩) HX5.out hpx (.int .i64 (ln + 1))) hpx (.int .i64 1))
        have HK7 := Aside0.mk (KeepC.setCell (KeepC.setCell HK5.out 1 (.int .i64 (ln + 1))) 2 (.int .i64 1))
        have HO5 := Aside0.mk (R_keepC HO3.out HK5.out (by omega))
        have HO7 := Aside0.mk (R_keepC HO3.out HK7.out (by omega))
        have HB5 := Aside0.mk (show Below n₀ W ((W3.setCell ⟨W.heap.size, 0, none⟩ (.int .i64 (i2 : Int))).setCell ⟨W.heap.size, 2, none⟩ (.int .i64 (cl + 1))) from Below.setCell (p := ⟨W.heap.size, 2, none⟩) (Below.setCell (p := ⟨W.heap.size, 0, none⟩) HW3.out HN.out _) HN.out _)
        have HB7 := Aside0.mk (show Below n₀ W ((((W3.setCell ⟨W.heap.size, 0, none⟩ (.int .i64 (i2 : Int))).setCell ⟨W.heap.size, 2, none⟩ (.int .i64 (cl + 1))).setCell ⟨W.heap.size, 1, none⟩ (.int .i64 (ln + 1))).setCell ⟨W.heap.size, 2, none⟩ (.int .i64 1)) from Below.setCell (p := ⟨W.heap.size, 2, none⟩) (Below.setCell (p := ⟨W.heap.size, 1, none⟩) HB5.out HN.out _) HN.out _)
        have HJ5 := Aside0.mk (OwnC.setCell HJ.out W.heap.size 2 (.int .i64 (cl + 1)) (OwnC.setCell HJ.out W.heap.size 0 (.int .i64 (i2 : Int)) HJ3.out (Nat.le_refl _)) (Nat.le_refl _))
        have HJ7 := Aside0.mk (OwnC.setCell HJ.out W.heap.size 2 (.int .i64 1) (OwnC.setCell HJ.out W.heap.size 1 (.int .i64 (ln + 1)) HJ5.out (Nat.le_refl _)) (Nat.le_refl _))
        have HS5 := Aside0.mk (show W.heap.size + 1 ≤ (((W3.setCell ⟨W.heap.size, 0, none⟩ (.int .i64 (i2 : Int))).setCell ⟨W.heap.size, 2, none⟩ (.int .i64 (cl + 1)))).heap.size by simpa using HS3.out)
        have HS7 := Aside0.mk (show W.heap.size + 1 ≤ (((((W3.setCell ⟨W.heap.size, 0, none⟩ (.int .i64 (i2 : Int))).setCell ⟨W.heap.size, 2, none⟩ (.int .i64 (cl + 1))).setCell ⟨W.heap.size, 1, none⟩ (.int .i64 (ln + 1))).setCell ⟨W.heap.size, 2, none⟩ (.int .i64 1))).heap.size by simpa using HS3.out)
        have HT := Aside0.mk (show lineEnd s r (i2 : Int) = true → spotsL s 0 1 1 cs = (pre ++ [((i : Int), ln, cl)]) ++ spotsL s (i2 : Int) (ln + 1) 1 (cs.drop (j + 1)) from fun h => by
          rw [HSP.out, HRL.out, if_pos h]; simp)
        have HF := Aside0.mk (show lineEnd s r (i2 : Int) = false → spotsL s 0 1 1 cs = (pre ++ [((i : Int), ln, cl)]) ++ spotsL s (i2 : Int) ln (cl + 1) (cs.drop (j + 1)) from fun h => by
          rw [HSP.out, HRL.out, if_neg (by rw [h]; decide)]; simp)
        have HJn := Aside0.mk (show j + 1 ≤ cs.length from hj)
        clear HSP HRL HDR HJ3 HO3 HK5 HK7 HW3 HS3 hj p1 p2 HC3 HP3 HP4 HX3 HC5
        by_cases c1 : r = 10
        · have c1b : (r == 10) = true := beq_iff_eq.mpr c1
          gi_wp2_with (exact undef_ne (by assumption))
          refine ⟨⟨j + 1, i2, ln + 1, 1, pre ++ [((i : Int), ln, cl)], int_succ j hw4, ⟨by have := HJB.out; have := HI2.out; have := HJn.out; omega, by have := HJB.out; have := HI2.out; have := HJn.out; omega, by have := HJB.out; omega, by have := HJB.out; omega, by have := HJB.out; omega, by have := HJB.out; omega⟩, HJ7, ⟨HT.out (by simp [lineEnd, c1])⟩, HD, HP7, HO7, HX7, HB7, HS7⟩, meas_succ _ _ HJn.out hw4⟩
        · have c1b : (r == 10) = false := beq_eq_false_iff_ne.mpr c1
          by_cases c2 : r = 13
          · have c2b : (r == 13) = true := beq_iff_eq.mpr c2
            by_cases c3 : (i2 : Int) = (s.length : Int)
            · have c3b : ((i2 : Int) == (s.length : Int)) = true := beq_iff_eq.mpr c3
              replace c3 := Aside0.mk c3
              gi_wp2_with (exact undef_ne (by assumption))
              refine ⟨⟨j + 1, i2, ln + 1, 1, pre ++ [((i : Int), ln, cl)], int_succ j hw4, ⟨by have := HJB.out; have := HI2.out; have := HJn.out; omega, by have := HJB.out; have := HI2.out; have := HJn.out; omega, by have := HJB.out; omega, by have := HJB.out; omega, by have := HJB.out; omega, by have := HJB.out; omega⟩, HJ7, ⟨HT.out (by simp [lineEnd, c2, c3.out])⟩, HD, HP7, HO7, HX7, HB7, HS7⟩, meas_succ _ _ HJn.out hw4⟩
            · have c3b : ((i2 : Int) == (s.length : Int)) = false := beq_eq_false_iff_ne.mpr c3
              have q1 : (0 : Int) ≤ (i2 : Int) := Int.natCast_nonneg _
              have q2 : (i2 : Int) < (s.length : Int) := by have := HI2.out; omega
              obtain ⟨ad2, ead2, hx⟩ := Kd.at_int (HC.out _ HB5.out) (i2 : Int) q1 q2
              subst ead2
              rw [Int.toNat_natCast] at hx
              by_cases c4 : rd s (i2 : Int) = 10
              · have c4b : (rd s (i2 : Int) == 10) = true := beq_iff_eq.mpr c4
                replace c4 := Aside0.mk c4
                gi_wp2_with (exact undef_ne (by assumption))
                refine ⟨⟨j + 1, i2, ln, cl + 1, pre ++ [((i : Int), ln, cl)], int_succ j hw4, ⟨by have := HJB.out; have := HI2.out; have := HJn.out; omega, by have := HJB.out; have := HI2.out; have := HJn.out; omega, by have := HJB.out; omega, by have := HJB.out; omega, by have := HJB.out; omega, by have := HJB.out; omega⟩, HJ5, ⟨HF.out (by simp [lineEnd, c1, c2, c3, c4.out])⟩, HD, HP5, HO5, HX5, HB5, HS5⟩, meas_succ _ _ HJn.out hw4⟩
              · have c4b : (rd s (i2 : Int) == 10) = false := beq_eq_false_iff_ne.mpr c4
                gi_wp2_with (exact undef_ne (by assumption))
                refine ⟨⟨j + 1, i2, ln + 1, 1, pre ++ [((i : Int), ln, cl)], int_succ j hw4, ⟨by have := HJB.out; have := HI2.out; have := HJn.out; omega, by have := HJB.out; have := HI2.out; have := HJn.out; omega, by have := HJB.out; omega, by have := HJB.out; omega, by have := HJB.out; omega, by have := HJB.out; omega⟩, HJ7, ⟨HT.out (by simp [lineEnd, c1, c2, c3, c4])⟩, HD, HP7, HO7, HX7, HB7, HS7⟩, meas_succ _ _ HJn.out hw4⟩
          · have c2b : (r == 13) = false := beq_eq_false_iff_ne.mpr c2
            gi_wp2_with (exact undef_ne (by assumption))
            refine ⟨⟨j + 1, i2, ln, cl + 1, pre ++ [((i : Int), ln, cl)], int_succ j hw4, ⟨by have := HJB.out; have := HI2.out; have := HJn.out; omega, by have := HJB.out; have := HI2.out; have := HJn.out; omega, by have := HJB.out; omega, by have := HJB.out; omega, by have := HJB.out; omega, by have := HJB.out; omega⟩, HJ5, ⟨HF.out (by simp [lineEnd, c1, c2])⟩, HD, HP5, HO5, HX5, HB5, HS5⟩, meas_succ _ _ HJn.out hw4⟩
      · gi_wp2_with fail
        refine bodyPost_ret (results_none rfl _ _ _) rfl ?_
        exact ⟨⟨_, rfl⟩, .inr ⟨pre ++ [((i : Int), ln, cl)], by rw [HCS.out, HSP.out, HRL.out]; exact ⟨_, (List.append_assoc _ _ _).trans rfl⟩, hJx3⟩⟩
    · have hjl : j = cs.length := by have := HJB.out.1; omega
      have hnil : cs.drop j = [] := List.drop_eq_nil_of_le (by omega)
      have hb1 : wr.cell? ⟨W.heap.size, 0, none⟩ = some (.int .i64 i) := (blk_cell HP.out 0).trans rfl
      have hb2 : wr.cell? ⟨W.heap.size, 1, none⟩ = some (.int .i64 ln) := (blk_cell HP.out 1).trans rfl
      have hb3 : wr.cell? ⟨W.heap.size, 2, none⟩ = some (.int .i64 cl) := (blk_cell HP.out 2).trans rfl
      have hSP : spotsL s 0 1 1 cs = pre ++ [((i : Int), ln, cl)] := by rw [HSP.out, hnil]; rfl
      have hlt : pre.length < (spotsL s 0 1 1 cs).length := by rw [hSP]; simp
      have HS2 := Aside0.mk hSP
      clear hSP hnil HSP HDR
      obtain ⟨fn, tmps, assign, body, hy, hR⟩ := HY.out pre ((i : Int), ln, cl) _ HJr.out hlt
      replace hR := Aside0.mk hR
      simp only [encS] at hy
      gi_wp2_with fail
      refine ⟨fun _ => by omega, ?_⟩
      refine hR.out.mono ?_
      clear hR hy hb1 hb2 hb3
      rintro e W3 (⟨rfl, hJ3, hK3⟩ | ⟨rfl, hJx3⟩)
      · gi_wp2_with fail
        go_end0
        exact ⟨⟨_, rfl⟩, .inl ⟨_, rfl, by rw [HCS.out, HS2.out]; exact hJ3⟩⟩
      · gi_wp2_with fail
        go_end0
        exact ⟨⟨_, rfl⟩, .inr ⟨_, by rw [HCS.out, HS2.out]; exact List.prefix_refl _, hJx3⟩⟩
end Go.Proofs.Ytndecknocmallaa.P
