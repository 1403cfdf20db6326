/- Part 8 of the proof: S13m, OP, LC, LC2, S03b, S03c. -/
import Derived.ChangeArms
import Derived.ChangeOld
import Derived.DataReads
import Derived.Deep.DeepHandedRow
import Derived.LaidLaws
import Derived.Lay
import Derived.Lib.SmallJoins
import Derived.OpenShut
import Derived.ProofKit
import Derived.SizedLaws
import Derived.Test.YtfbfeimildkigaaDoorCards
import Derived.Test.YtfbfeimildkigaaDoorTie
import Derived.Test.YtfbfeimildkigaaDoorCb7
namespace Go.Proofs.YtfbfeimildkigaaDoor.P
open Go Go.RowKit Go.Proofs.YtfbfeimildkigaaDoorW.PrintWords Go.Proofs.YtfbfeimildkigaaDoorW.PrintLast Go.Proofs.YtfbfeimildkigaaDoorW.PrintMore Go.Proofs.YtfbfeimildkigaaDoor.PX
set_option linter.unusedVariables false
set_option linter.unusedSimpArgs false
set_option maxRecDepth 100000
def lgGo (next : List (List Int)) (tags : List Int) : List Int → Nat → Nat → Int × Int → Int × Int
 | [], _, _, p => p
 | c :: t, a, i, p => if (next.getD a []).getD c.toNat 0 < 0 then p else
   lgGo next tags t ((next.getD a []).getD c.toNat 0).toNat (i + 1) (if 0 ≤ tags.getD ((next.getD a []).getD c.toNat 0).toNat 0 then (((i + 1 : Nat) : Int), tags.getD ((next.getD a []).getD c.toNat 0).toNat 0) else p)
def long13 (next : List (List Int)) (tags s : List Int) : Int × Int := if BSound next tags then lgGo next tags s 0 0 (0, -1) else (0, -1)
def U8s (s : List Int) : Prop := ∀ c ∈ s, 0 ≤ c ∧ c < 256
theorem u8s_at {s : List Int} (h : U8s s) (i : Nat) (hi : i < s.length) : ∃ n : Nat, s.getD i 0 = (n : Int) ∧ n < 256 := by
 have h1 := h (s.getD i 0) (by rw [List.getD_eq_getElem?_getD, List.getElem?_eq_getElem hi]; exact List.getElem_mem hi)
 exact ⟨(s.getD i 0).toNat, by omega, by omega⟩
theorem u8_cell {X : Nat → Prop} {w : World} {v : Value} {xs : List Int} (h : PV kU8 X w v xs) (j : Nat) (hj : j < xs.length) : ∃ ad c, v = .slice (some ad) xs.length c ∧ w.cell? (ad.add j) = some (.int .u8 (xs.getD j 0)) := by
 obtain ⟨A, c, rfl, _, hC⟩ := h.now
 obtain ⟨ad, e, y⟩ := Kd.at_int hC (j : Int) (by omega) (by omega)
 cases e
 exact ⟨ad, c, rfl, by simpa [rd] using y⟩
set_option maxHeartbeats 8000000 in
theorem long13_calls (X : Nat → Prop) (vn vt vs : Value) (next : List (List Int)) (tags s : List Int) (w : World) (hX : ∀ k, X k → k < w.heap.size)
  (hn : PV kRow X w vn next) (ht : PV kInt X w vt tags) (hs : PV kU8 X w vs s) (hu : U8s s) :
  Calls Tryd.prog 22 #[.agg #[vn, vt], vs] w fun e w' => e = .returned (.tuple #[.int .i64 (long13 next tags s).1, .int .i64 (long13 next tags s).2]) ∧ Below w.heap.size w w' := by
 have H1 := Aside0.mk hn
 have H2 := Aside0.mk ht
 have H3 := Aside0.mk hs
 have HU := Aside0.mk hu
 have m1 := hn.max
 have m2 := ht.max
 have m3 := hs.max
 obtain ⟨An, cn, rfl, _, _⟩ := hn.now
 obtain ⟨At, ct, rfl, _, _⟩ := ht.now
 obtain ⟨As, cs, rfl, _, _⟩ := hs.now
 have HS := Aside0.mk ((Sep.start hX).push_box [.slice An next.length cn, .slice At tags.length ct] 27)
 obtain ⟨q, hq⟩ : ∃ q, q = decide (BSound next tags) := ⟨_, rfl⟩
 have HQ := Aside0.mk hq.symm
 obtain ⟨r, hr⟩ : ∃ r, r = long13 next tags s := ⟨_, rfl⟩
 rw [← hr]
 have HR := Aside0.mk (show r = if BSound next tags then lgGo next tags s 0 0 (0, -1) else (0, -1) from hr)
 clear hn ht hs hu hX hq hr
 go_enter Tryd.func22, Tryd.ntmps22
 go_upto_if 12 with (first
  | (go_at_call 28; (with_reducible refine (bsound_calls _ _ _ next tags _ HS.out.lt (HS.out.arg H1.out) (HS.out.arg H2.out)).mono ?_); rintro ee w5 ⟨rfl, hb⟩; rw [HQ.out]; have hs := HS.out.call hb; clear hb; clear HS; have HS := Aside0.mk hs; clear hs))
 cases q
 case false =>
  have HE := Aside0.mk (show r = (0, -1) by rw [HR.out, if_neg (of_decide_eq_false HQ.out)])
  go_wp2_with fail
  go_ret2
  rw [HE.out]
  exact ⟨rfl, HS.out.below⟩
 case true =>
  have HSO := Aside0.mk (of_decide_eq_true HQ.out)
  have HR2 := Aside0.mk (show lgGo next tags (s.drop 0) 0 0 (0, -1) = r by rw [HR.out, if_pos HSO.out]; rfl)
  clear HR
  go_wp2_with fail
  clear HQ
  obtain ⟨g0, hg0⟩ : ∃ g, g = w.heap.size := ⟨_, rfl⟩
  have HG := Aside0.mk hg0.symm
  rw [← hg0] at HS ⊢
  clear hg0
  go_loopg [6, 7, 8, 9] s.length (fun m v6 v7 v8 v9 w' => ∃ (i a : Nat) (p : Int × Int), v6 = .int .i64 p.1 ∧ v7 = .int .i64 p.2 ∧ v8 = .int .i64 a ∧ v9 = .int .i64 i ∧ Aside0 (i + m = s.length) ∧ Aside0 (a < tags.length) ∧ Aside0 (lgGo next tags (s.drop i) a i p = r) ∧ Aside0 (Sep X w w' [.box g0 27 [.slice An next.length cn, .slice At tags.length ct]]))
  case atStart => exact ⟨0, 0, (0, -1), rfl, rfl, rfl, rfl, ⟨by omega⟩, ⟨by have := HSO.out.1.1; omega⟩, HR2, HS⟩
  case round =>
   clear HS HR2
   obtain ⟨i, a, p, rfl, rfl, rfl, rfl, HJ, HA, HR, HS⟩ := hrel
   have y0 := (HS.out.box 0 rfl).cell 0 rfl
   have y1 := (HS.out.box 0 rfl).cell 1 rfl
   cases gk with
   | zero =>
    have e1 : decide ((i : Int) < (s.length : Int)) = false := decide_eq_false (by have := HJ.out; omega)
    have e2 : decide (i < s.length) = false := decide_eq_false (by have := HJ.out; omega)
    have q0 : p = r := by have h := HR.out; rw [List.drop_of_length_le (by have := HJ.out; omega)] at h; exact h
    clear HR
    subst q0
    go_wp2_with fail
    go_ret2
    exact ⟨rfl, HS.out.below⟩
   | succ k1 =>
    have hi : i < s.length := by have := HJ.out; omega
    have ha : a < next.length := by have := HA.out; have := HSO.out.1.2.2; omega
    have e1 : decide ((i : Int) < (s.length : Int)) = true := decide_eq_true (by omega)
    have e2 : decide (i < s.length) = true := decide_eq_true hi
    have hi0 : (0 : Int) ≤ (i : Int) := by omega
    have hi1 : (i : Int) < (s.length : Int) := by omega
    have ha0 : (0 : Int) ≤ (a : Int) := by omega
    have ha1 : (a : Int) < (next.length : Int) := by omega
    obtain ⟨c, hc, hc2⟩ := u8s_at HU.out i hi
    obtain ⟨as_, cs', es, ys0⟩ := u8_cell H3.out i hi
    cases es
    rw [hc] at ys0
    have HR3 := HR.out
    rw [drop_at s 0 i hi, hc, lgGo, show ((c : Int).toNat) = c from rfl] at HR3
    obtain ⟨an, cn', u, en, hun, yn0⟩ := H1.out.row a ha
    cases en
    have HBR := (HSO.out.2 a HA.out)
    have hl : (next.getD a []).length = 256 := HBR.1
    have hx := HBR.2.2 c hc2
    generalize next.getD a [] = row at *
    obtain ⟨Au, cu, rfl, _, _⟩ := hun.now
    obtain ⟨ar, cr, er, yr0⟩ := int_cell hun c (by omega)
    cases er
    obtain ⟨x, hx0⟩ : ∃ x, x = row.getD c 0 := ⟨_, rfl⟩
    rw [← hx0] at HR3 hx yr0
    have hc0 : (0 : Int) ≤ (c : Int) := by omega
    have hc1 : (c : Int) < (row.length : Int) := by omega
    have ys := pw_cell_below HS.out.below ys0
    have yn := pw_cell_below HS.out.below yn0
    have yr := pw_cell_below HS.out.below yr0
    have HX := Aside0.mk hx
    have HR4 := Aside0.mk HR3
    clear HR3 hx hx0 HBR hun ys0 yn0 yr0 HR hl hc
    rcases Int.lt_or_le x 0 with h1 | h1
    case inl =>
     have d1 : decide (x < 0) = true := decide_eq_true h1
     have q0 : p = r := by have h := HR4.out; rw [if_pos h1] at h; exact h
     clear HR4
     subst q0
     go_wp2_with fail
     go_quiet (fail)
     have HS2 := Aside0.mk (HS.out.drewN nq)
     go_wp2_with fail
     go_ret2
     exact ⟨rfl, HS2.out.below⟩
    case inr =>
     have d1 : decide (x < 0) = false := decide_eq_false (by omega)
     obtain ⟨b, hb⟩ : ∃ b : Nat, x = (b : Int) := ⟨x.toNat, by omega⟩
     subst hb
     have hb : b < tags.length := by have := HX.out; omega
     have HR5 := HR4.out
     rw [if_neg (by omega), show ((b : Int).toNat) = b from rfl] at HR5
     have HB5 := Aside0.mk hb
     have hb0 : (0 : Int) ≤ (b : Int) := by omega
     have hb1 : (b : Int) < (tags.length : Int) := by omega
     obtain ⟨at_, ct', et, yt0⟩ := int_cell H2.out b hb
     cases et
     have HYT := Aside0.mk yt0
     clear HR4 yt0
     generalize tags.getD b 0 = t at *
     go_wp2_with fail
     go_quiet (fail)
     have HS2 := Aside0.mk (HS.out.drewN nq)
     obtain ⟨wq, hwq⟩ : ∃ x, x = wr.drewN nq := ⟨_, rfl⟩
     rw [← hwq] at HS2 ⊢
     clear hwq HS y0 y1 ys yn yr
     have y1 := (HS2.out.box 0 rfl).cell 1 rfl
     have yt := pw_cell_below HS2.out.below HYT.out
     rcases Int.lt_or_le t 0 with h2 | h2
     case inl =>
      have d2 : decide (t ≥ 0) = false := decide_eq_false (by omega)
      have d2' : decide (0 ≤ t) = false := decide_eq_false (by omega)
      rw [if_neg (by omega)] at HR5
      have HR6 := Aside0.mk HR5
      clear HR5
      go_wp2_with fail
      go_roundg k1
      case measure => omega
      case rel => exact ⟨i + 1, b, p, rfl, rfl, rfl, by go_num, ⟨by have := HJ.out; omega⟩, HB5, HR6, HS2⟩
     case inr =>
      have d2 : decide (t ≥ 0) = true := decide_eq_true h2
      have d2' : decide (0 ≤ t) = true := decide_eq_true h2
      rw [if_pos h2] at HR5
      have HR6 := Aside0.mk HR5
      clear HR5
      go_wp2_with fail
      go_roundg k1
      case measure => omega
      case rel => exact ⟨i + 1, b, (((i + 1 : Nat) : Int), t), by go_num, rfl, rfl, by go_num, ⟨by have := HJ.out; omega⟩, HB5, HR6, HS2⟩
end Go.Proofs.YtfbfeimildkigaaDoor.P
namespace Go.Proofs.YtfbfeimildkigaaDoor.OP
open Go Go.RowKit Go.Proofs.YtfbfeimildkigaaDoorW.PrintWords
variable {H : Type} {enc : TypeId × Value → H} {P : Program} {w : World}
def Opens {α : Type} (enc : TypeId × Value → H) (P : Program) (w : World) (t : TypeId) (d : Kd α) (good : α → Prop) : Prop :=
 P.cellsOf t = d.sz ∧ ∀ fuel cs x, DataW.trod enc P w 0 (fun _ => true) true fuel t cs = some x → ∃ a, d.K w a cs ∧ good a
theorem Opens.mono {α : Type} {t : TypeId} {d : Kd α} {good good' : α → Prop} (h : Opens enc P w t d good) (hg : ∀ a, good a → good' a) : Opens enc P w t d good' :=
 ⟨h.1, fun fuel cs x hx => by obtain ⟨a, ha, hb⟩ := h.2 fuel cs x hx; exact ⟨a, ha, hg a hb⟩⟩
theorem opens_int {t : TypeId} {k : IntKind} (ht : P.underlying t = some (.int k)) (hc : P.cellsOf t = 1) : Opens enc P w t (Kd.int k) (fun n => (Lit.int k n).wf = true) :=
 ⟨hc, fun fuel cs x hx => by
  obtain ⟨n, rfl, _, hw⟩ := DataW.trod_int ht hx
  exact ⟨n, rfl, hw⟩⟩
theorem opens_slice {α : Type} {t e : TypeId} {d : Kd α} {good : α → Prop} (ht : P.underlying t = some (.slice e)) (hc : P.cellsOf t = 1) (he : Opens enc P w e d good) :
  Opens enc P w t (Kd.slice e d) (fun l => l.length ≤ maxLen ∧ ∀ x ∈ l, good x) :=
 ⟨hc, fun fuel cs x hx => by
  rcases DataW.trod_slice ht hx with ⟨rfl, _⟩ | ⟨a, len, cap, elems, rest, n, _, rfl, _, _, hl, hm, hlen, hel, _, _⟩
  ·exact ⟨[], ⟨none, 0, rfl, Nat.le_refl _, rfl, by simp, fun h => absurd h (Nat.lt_irrefl 0)⟩, by simp, fun y hy => by cases hy⟩
  ·have hmx : len ≤ 9223372036854775807 := by unfold maxLen at hm; omega
   have : ∀ m, m ≤ len → ∃ xs : List α, xs.length = m ∧ (∀ j p, xs[j]? = some p → ∃ c, c.length = d.sz ∧ d.K w p c ∧ ∀ i u, c[i]? = some u → w.cell? (a.add (j * d.sz + i)) = some u) ∧ ∀ x ∈ xs, good x := by
    intro m
    induction m with
    | zero => exact fun _ => ⟨[], rfl, fun j p h => by simp at h, fun x h => by cases h⟩
    | succ m ih =>
     intro hm2
     obtain ⟨xs, h1, h2, h3⟩ := ih (by omega)
     have h4 := hel m (by omega)
     rw [List.getElem?_eq_getElem (show m < elems.length by omega), Option.bind_eq_some_iff] at h4
     obtain ⟨c, hcs, hy⟩ := h4
     obtain ⟨p, hK, hg⟩ := he.2 _ _ _ hy
     obtain ⟨_, hcl, hcell⟩ := World.cells?_some hcs
     rw [he.1] at hcl hcell
     refine ⟨xs ++ [p], by simp [h1], fun j q hq => ?_, fun x hx => ?_⟩
     ·rcases Nat.lt_or_ge j xs.length with hj | hj
      ·rw [List.getElem?_append_left hj] at hq
       exact h2 j q hq
      ·have hj' : j = m := by
        have := (List.getElem?_eq_some_iff.1 hq).1
        simp at this
        omega
       subst hj'
       obtain rfl : p = q := by rw [← h1] at hq; simpa using hq
       refine ⟨c, hcl, hK, fun i u hu => ?_⟩
       have hi : i < d.sz := by have := (List.getElem?_eq_some_iff.1 hu).1; omega
       have := hcell i hi
       rw [hu] at this
       rw [← this]
       congr 1
       unfold Addr.add
       by_cases z1 : j * d.sz = 0 <;> by_cases z2 : i = 0 <;> simp [z1, z2, Nat.add_assoc]
     ·rcases List.mem_append.1 hx with hx | hx
      ·exact h3 x hx
      ·obtain rfl : x = p := by simpa using hx
       exact hg
   obtain ⟨xs, h1, h2, h3⟩ := this len (Nat.le_refl _)
   subst h1
   exact ⟨xs, ⟨some a, cap, rfl, hl, rfl, hmx, fun _ => ⟨a, rfl, h2⟩⟩, by omega, h3⟩⟩
theorem Opens.arg {α : Type} {t e : TypeId} {d : Kd α} {good : List α → Prop} (h : Opens enc P w t (Kd.slice e d) good) {a : Option Addr} {len cap : Nat} {x : DataW H} {p : List MemPlace} (hx : DataW.Trod enc P w 0 (fun _ => true) true t (.slice a len cap) x p) :
  ∃ l, len = l.length ∧ l.length ≤ cap ∧ d.C w a l.length l ∧ good l := by
 obtain ⟨fuel, hf⟩ := hx
 obtain ⟨l, ⟨A, c, he, hc, hC⟩, hg⟩ := h.2 _ _ _ hf
 simp [Value.cells] at he
 obtain ⟨rfl, rfl, rfl⟩ := he
 exact ⟨l, rfl, hc, hC, hg⟩
end Go.Proofs.YtfbfeimildkigaaDoor.OP
namespace Go.Proofs.YtfbfeimildkigaaDoor.LC
open Go Go.RowKit Go.ChangeShapes Go.WideShapes Go.ChangeAt Go.Proofs.YtfbfeimildkigaaDoorW.PrintWords Go.Proofs.YtfbfeimildkigaaDoor.PX Go.Proofs.YtfbfeimildkigaaDoor.P
set_option linter.unusedVariables false
theorem own : ownKnob Tryd.prog.godebug = none := by kernel_rfl
theorem laidOut : laidOutB Tryd.prog = true := by kernel_rfl
theorem cInt : Tryd.prog.cellsOf 3 = 1 := by kernel_rfl
theorem cU8 : Tryd.prog.cellsOf 5 = 1 := by kernel_rfl
theorem cInts : Tryd.prog.cellsOf 25 = 1 := by kernel_rfl
theorem cU8s : Tryd.prog.cellsOf 29 = 1 := by kernel_rfl
theorem cRows : Tryd.prog.cellsOf 24 = 1 := by kernel_rfl
def no : Nat → Prop := fun _ => False
theorem no_old (w : World) : ∀ k, no k → k < w.heap.size := fun _ h => h.elim
theorem ofC {α : Type} {d : Kd α} {w : World} {A : Option Addr} {c : Nat} {xs : List α} (h : d.C w A xs.length xs) (hc : xs.length ≤ c) : PV d no w (.slice A xs.length c) xs :=
 ⟨A, c, rfl, hc, fun w' ha => Kd.C_below h (ha.below (fun _ _ h => h))⟩
section
variable {H : Type} {enc : TypeId × Value → H} {W : World} {n : Nat} {v : Value} {y : DataW H × List MemPlace}
open OP in
theorem bytes (h : DataW.trod enc Tryd.prog W 0 (fun _ => true) true n 29 [v] = some y) : ∃ l, PV kU8 no W v l ∧ U8s l := by
 obtain ⟨l, ⟨A, c, he, hc, hC⟩, hg⟩ := (opens_slice (enc := enc) (w := W) Tryd.underlying29 cU8s (opens_int Tryd.underlying5 cU8)).2 _ _ _ h
 cases he
 refine ⟨l, ofC hC hc, fun x hx => ?_⟩
 have h1 := hg.2 x hx
 simp [Lit.wf, IntKind.min, IntKind.max, IntKind.signed, IntKind.bits] at h1
 omega
open OP in
theorem rows (h : DataW.trod enc Tryd.prog W 0 (fun _ => true) true n 24 [v] = some y) : ∃ l, PV (Kd.slice 3 kInt) no W v l := by
 obtain ⟨l, ⟨A, c, he, hc, hC⟩, hg⟩ := (opens_slice (enc := enc) (w := W) Tryd.underlying24 cRows (opens_slice Tryd.underlying25 cInts (opens_int Tryd.underlying3 cInt))).2 _ _ _ h
 cases he
 exact ⟨l, ofC hC hc⟩
theorem arg1 {t : TypeId} {d : DataW H} {p : List MemPlace} {a : Option Addr} {len cap : Nat} (h : DataW.Trod enc Tryd.prog W 0 (fun _ => true) true t (.slice a len cap) d p) : ∃ n y, DataW.trod enc Tryd.prog W 0 (fun _ => true) true n t [.slice a len cap] = some y := by
 obtain ⟨n, hn⟩ := h
 exact ⟨n, _, hn⟩
end
theorem world_met (os : Os) (args : Array Value) : laidMetH Tryd.prog Rows.classOfRow.laid ((World.laidAll Tryd.prog os Rows.classOfRow.laid).forCall (fun _ _ => 0) ⟨#[], args, []⟩).memory := by
 rw [MakeChecks.laidMetH_plain _ _ _ (by kernel_rfl)]
 exact laidMet_laidAll _ (by kernel_rfl) (by kernel_rfl)
end Go.Proofs.YtfbfeimildkigaaDoor.LC
namespace Go.Proofs.YtfbfeimildkigaaDoor.LC
open Go Go.RowKit Go.ChangeShapes Go.WideShapes Go.ChangeAt Go.Proofs.YtfbfeimildkigaaDoorW.PrintWords Go.Proofs.YtfbfeimildkigaaDoor.PX Go.Proofs.YtfbfeimildkigaaDoor.P
set_option linter.unusedVariables false
theorem cU16 : Tryd.prog.cellsOf 32 = 1 := by kernel_rfl
theorem cU16s : Tryd.prog.cellsOf 79 = 1 := by kernel_rfl
theorem cU16ss : Tryd.prog.cellsOf 22 = 1 := by kernel_rfl
theorem cI8 : Tryd.prog.cellsOf 82 = 1 := by kernel_rfl
theorem cI8s : Tryd.prog.cellsOf 23 = 1 := by kernel_rfl
variable {H : Type} {enc : TypeId × Value → H} {W : World} {n : Nat} {v : Value} {y : DataW H × List MemPlace}
open OP in
theorem i8s (h : DataW.trod enc Tryd.prog W 0 (fun _ => true) true n 23 [v] = some y) : ∃ l, PV (Kd.int .i8) no W v l ∧ ∀ x ∈ l, -128 ≤ x ∧ x ≤ 127 := by
 obtain ⟨l, ⟨A, c, he, hc, hC⟩, hg⟩ := (opens_slice (enc := enc) (w := W) Tryd.underlying23 cI8s (opens_int Tryd.underlying82 cI8)).2 _ _ _ h
 cases he
 refine ⟨l, ofC hC hc, fun x hx => ?_⟩
 have h1 := hg.2 x hx
 simp [Lit.wf, IntKind.min, IntKind.max, IntKind.signed, IntKind.bits] at h1
 omega
open OP in
theorem u16ss (h : DataW.trod enc Tryd.prog W 0 (fun _ => true) true n 22 [v] = some y) : ∃ l, PV kU16s no W v l ∧ ∀ r ∈ l, ∀ x ∈ r, 0 ≤ x ∧ x < 65536 := by
 obtain ⟨l, ⟨A, c, he, hc, hC⟩, hg⟩ := (opens_slice (enc := enc) (w := W) Tryd.underlying22 cU16ss (opens_slice Tryd.underlying79 cU16s (opens_int Tryd.underlying32 cU16))).2 _ _ _ h
 cases he
 refine ⟨l, ofC hC hc, fun r hr x hx => ?_⟩
 have h1 := (hg.2 r hr).2 x hx
 simp [Lit.wf, IntKind.min, IntKind.max, IntKind.signed, IntKind.bits] at h1
 omega
end Go.Proofs.YtfbfeimildkigaaDoor.LC
namespace Go.Proofs.YtfbfeimildkigaaDoor.P
open Go Go.RowKit Go.Proofs.YtfbfeimildkigaaDoorW.PrintWords Go.Proofs.YtfbfeimildkigaaDoorW.PrintLast Go.Proofs.YtfbfeimildkigaaDoorW.PrintMore Go.Proofs.YtfbfeimildkigaaDoor.PX
set_option linter.unusedVariables false
set_option linter.unusedSimpArgs false
set_option maxRecDepth 100000
abbrev Rg := S120
abbrev kRg := k120
abbrev kRgs : Kd (List Rg) := Kd.slice 120 kRg
def cutAt (a b : Int) : Nat → Int → Option Int
 | 0, _ => none
 | r + 1, m => if a / (m * 64) = b / (m * 64) then cutAt a b r (m * 64) else if a % (m * 64) ≠ 0 then some (a - a % (m * 64) + m * 64) else if b % (m * 64) ≠ m * 64 - 1 then some (b - b % (m * 64)) else cutAt a b r (m * 64)
def rowOf (a b : Int) (n : Nat) : List Rg := (List.range n).map (fun i => (⟨(encL a).getD i 0, (encL b).getD i 0⟩ : Rg))
def cutF : Nat → Int → Int → Nat → List (List Rg)
 | 0, _, _, _ => []
 | f + 1, a, b, n => match cutAt a b (n - 1) 1 with
  | none => [rowOf a b n]
  | some x => cutF f a (x - 1) n ++ cutF f x b n
def CutOk (a b : Int) (n : Nat) : Prop := 0 ≤ a ∧ a ≤ b ∧ b ≤ 1114111 ∧ (b < 55296 ∨ 57343 < a) ∧ ((n = 1 ∧ b < 128) ∨ (n = 2 ∧ 128 ≤ a ∧ b < 2048) ∨ (n = 3 ∧ 2048 ≤ a ∧ b < 65536) ∨ (n = 4 ∧ 65536 ≤ a))
theorem cutAt_in (a b : Int) (h0 : 0 ≤ a) (h : a ≤ b) : ∀ (r : Nat) (m x : Int), 0 < m → cutAt a b r m = some x → a < x ∧ x ≤ b
 | 0, m, x, hm, hc => by cases hc
 | r + 1, m, x, hm, hc => by
  unfold cutAt at hc
  have hm2 : 0 < m * 64 := by omega
  generalize m * 64 = M at *
  have ha := Int.emod_add_mul_ediv a M
  have hb := Int.emod_add_mul_ediv b M
  have ha1 := Int.emod_nonneg a (show M ≠ 0 by omega)
  have hb1 := Int.emod_nonneg b (show M ≠ 0 by omega)
  have ha2 := Int.emod_lt_of_pos a hm2
  have hb2 := Int.emod_lt_of_pos b hm2
  have hle := Int.ediv_le_ediv hm2 h
  split at hc
  ·exact cutAt_in a b h0 h r M x hm2 hc
  ·next c =>
   have hlt : a / M + 1 ≤ b / M := by omega
   have hmul : M * (a / M + 1) ≤ M * (b / M) := Int.mul_le_mul_of_nonneg_left hlt (by omega)
   rw [Int.mul_add, Int.mul_one] at hmul
   split at hc
   ·obtain rfl := Option.some.inj hc
    omega
   ·split at hc
    ·obtain rfl := Option.some.inj hc
     omega
    ·exact cutAt_in a b h0 h r M x hm2 hc
theorem CutOk.left {a b x : Int} {n : Nat} (h : CutOk a b n) (hx : a < x ∧ x ≤ b) : CutOk a (x - 1) n := by unfold CutOk at *; omega
theorem CutOk.right {a b x : Int} {n : Nat} (h : CutOk a b n) (hx : a < x ∧ x ≤ b) : CutOk x b n := by unfold CutOk at *; omega
theorem cutF_len : ∀ (f : Nat) (a b : Int) (n : Nat), CutOk a b n → ((cutF f a b n).length : Int) ≤ b - a + 1
 | 0, a, b, n, h => by unfold CutOk at h; simp [cutF]; omega
 | f + 1, a, b, n, h => by
  unfold cutF
  split
  ·unfold CutOk at h; simp; omega
  ·next x hx =>
   have hx2 := cutAt_in a b h.1 h.2.1 _ _ _ (by decide) hx
   have h1 := cutF_len f a (x - 1) n (h.left hx2)
   have h2 := cutF_len f x b n (h.right hx2)
   rw [List.length_append]
   omega
theorem enc_len {a b : Int} {n : Nat} (h : CutOk a b n) : (encL a).length = n ∧ (encL b).length = n := by
 unfold CutOk at h
 unfold encL
 rcases h with ⟨h0, h1, h2, h3, ⟨rfl, h4⟩ | ⟨rfl, h4, h5⟩ | ⟨rfl, h4, h5⟩ | ⟨rfl, h4⟩⟩
 ·rw [if_pos (by omega), if_pos (by omega)]; exact ⟨rfl, rfl⟩
 ·rw [if_neg (by omega), if_pos (by omega), if_neg (by omega), if_pos (by omega)]; exact ⟨rfl, rfl⟩
 ·rw [if_neg (by omega), if_neg (by omega), if_pos (by omega), if_neg (by omega), if_neg (by omega), if_pos (by omega)]; exact ⟨rfl, rfl⟩
 ·rw [if_neg (by omega), if_neg (by omega), if_neg (by omega), if_neg (by omega), if_neg (by omega), if_neg (by omega)]; exact ⟨rfl, rfl⟩
def CutC (f : Nat) : Prop := ∀ (X : Nat → Prop) (a b : Int) (n : Nat) (w : World), (∀ k, X k → k < w.heap.size) → CutOk a b n → b - a < (f : Int) →
  Calls Tryd.prog 69 #[.int .i64 a, .int .i64 b, .int .i64 (n : Int)] w fun e w' => ∃ v, e = .returned v ∧ Own kRgs 116 (Xp X v) w' w.heap.size v (cutF f a b n) ∧ Below w.heap.size w w'
set_option maxHeartbeats 4000000 in
theorem both_calls (f : Nat) (ih : CutC f) (X : Nat → Prop) (a x b : Int) (n : Nat) (w : World) (hX : ∀ k, X k → k < w.heap.size) (h1 : CutOk a (x - 1) n) (h2 : CutOk x b n) (l1 : x - 1 - a < (f : Int)) (l2 : b - x < (f : Int)) :
  Calls Tryd.prog 78 #[.int .i64 a, .int .i64 x, .int .i64 b, .int .i64 (n : Int)] w fun e w' => ∃ v, e = .returned v ∧ Own kRgs 116 (Xp X v) w' w.heap.size v (cutF f a (x - 1) n ++ cutF f x b n) ∧ Below w.heap.size w w' := by
 have HS := Aside0.mk (Sep.start hX)
 have HA := Aside0.mk (show CutOk a (x - 1) n ∧ CutOk x b n ∧ x - 1 - a < (f : Int) ∧ b - x < (f : Int) from ⟨h1, h2, l1, l2⟩)
 have HL := Aside0.mk (show (cutF f a (x - 1) n).length + (cutF f x b n).length ≤ 2000000 by have := cutF_len f _ _ _ h1; have := cutF_len f _ _ _ h2; unfold CutOk at h1 h2; omega)
 have hx0 : 0 ≤ x := h2.1
 have hx1 : x ≤ 1114111 := by unfold CutOk at h2; omega
 unfold CutC at ih
 have IH := Aside0.mk ih
 clear hX h1 h2 l1 l2 ih
 go_enter Tryd.func78, Tryd.ntmps78
 go_wp2_with (first
  | ((go_at_call 69; (with_reducible refine (IH.out _ a (x - 1) n _ HS.out.lt HA.out.1 HA.out.2.2.1).mono ?_)); rintro e w5 ⟨v5, rfl, hv, hb⟩; have hs := HS.out.push_row hb hv; clear HS hv hb; have HS := Aside0.mk hs; clear hs)
  | ((go_at_call 69; (with_reducible refine (IH.out _ x b n _ HS.out.lt HA.out.2.1 HA.out.2.2.2).mono ?_)); rintro e w6 ⟨v6, rfl, hv, hb⟩; have hs := (HS.out.push_row hb hv).sealRo 1 rfl; clear HS hv hb; have HS := Aside0.mk hs; clear hs)
  | ((with_reducible refine gate_builtin (b := .append) (xs := #[.tmp 20, .tmp 21]) rfl ?_); at_builtin; refine sgrow kRgs 0 rfl (.tmp 20) (.tmp 21) 94 116 (.slice none 0 0) 24 rfl Tryd.underlying94 info116 rfl (by decide) (by omega) _ _ (cutF f a (x - 1) n) (cutF f x b n) rfl rfl HS.out rfl (HS.out.ro 1 rfl) (by have := HL.out; omega) ?_; clear HS; intro v7 w7 hs; have HS := Aside0.mk hs; clear hs))
 go_ret
 exact ⟨_, rfl, HS.out.res_own 0 rfl, HS.out.below⟩
theorem rg_rep (X : Nat → Prop) (w : World) (x y : Int) : Reps (PK kRg X w) (kRg).sz [(⟨x, y⟩ : Rg)] [.int .u8 x, .int .u8 y] :=
 (Reps.none _ _).snoc (c := [.int .u8 x, .int .u8 y]) (fun _ _ => k120_mk _ (⟨x, y⟩ : Rg)) rfl
theorem ro_cellk {k : IntKind} {X : Nat → Prop} {w0 w : World} {L : List PX.Item} {a : Addr} {c : Nat} {xs : List Int} {x : Int} (h : PX.Sep X w0 w L) (n : Nat) (hn : L[n]? = some (.ro (Kd.int k) (.slice (some a) xs.length c) xs)) (i : Nat) (hi : i < xs.length) (hx : xs.getD i 0 = x) : w.cell? (a.add i) = some (.int k x) := by
 obtain ⟨a', c', e, y⟩ := intk_cell (h.ro n hn) i hi
 cases e
 rw [← hx]; exact y
theorem row_step (a b : Int) (i : Nat) : rowOf a b i ++ [(⟨(encL a).getD i 0, (encL b).getD i 0⟩ : Rg)] = rowOf a b (i + 1) := by
 unfold rowOf
 rw [List.range_succ, List.map_append]; rfl
theorem row_len (a b : Int) (i : Nat) : (rowOf a b i).length = i := by simp [rowOf]
set_option maxHeartbeats 8000000 in
theorem cut_calls : ∀ f : Nat, CutC f
 | 0 => fun X a b n w hX h hl => by unfold CutOk at h; omega
 | f + 1 => fun X a b n w hX h hl => by
  have ih := cut_calls f
  have HS := Aside0.mk (Sep.start hX)
  have HC := Aside0.mk h
  have HIH := Aside0.mk (both_calls f ih)
  have HL := Aside0.mk (show b - a ≤ (f : Int) by omega)
  have hb : 0 ≤ a ∧ a ≤ b ∧ b ≤ 1114111 ∧ 1 ≤ n ∧ n ≤ 4 ∧ (b < 55296 ∨ 57343 < a) := by unfold CutOk at h; omega
  have HEN := Aside0.mk (enc_len h)
  obtain ⟨ha0, hab, hb1, hn1, hn4, hsur⟩ := hb
  have HSUR := Aside0.mk hsur
  obtain ⟨r, hr⟩ : ∃ r, r = cutF (f + 1) a b n := ⟨_, rfl⟩
  rw [← hr]
  rw [cutF] at hr
  obtain ⟨c, hc⟩ : ∃ c, c = cutAt a b (n - 1) 1 := ⟨_, rfl⟩
  rw [← hc] at hr
  have HR := Aside0.mk hr
  have HCC := Aside0.mk (show cutAt a b (n - 1) 1 = c from hc.symm)
  have HIN := Aside0.mk (fun x (hx : c = some x) => cutAt_in a b ha0 hab _ _ x (by decide) (hc.symm.trans hx))
  clear hX h hl ih hc hr hsur
  go_enter Tryd.func69, Tryd.ntmps69
  go_wp2_with fail
  go_loopg [7, 8] (n - 1) (fun q v7 v8 w' => ∃ (k : Nat) (m : Int), (v8 = .int .i64 (k : Int) ∧ v7 = .int .i64 m) ∧ Aside0 (k + q = n ∧ 1 ≤ k) ∧ Aside0 ((k = 1 ∧ m = 1) ∨ (k = 2 ∧ m = 64) ∨ (k = 3 ∧ m = 4096) ∨ (k = 4 ∧ m = 262144)) ∧ Aside0 (cutAt a b q m = c) ∧ Aside0 (Sep X w w' []))
  case atStart => exact ⟨1, 1, ⟨rfl, rfl⟩, ⟨by omega, by omega⟩, ⟨by omega⟩, HCC, HS⟩
  case round =>
   clear HCC HS
   obtain ⟨k, m, ⟨rfl, rfl⟩, HK, HM, HCC, HS⟩ := hrel
   cases gk with
   | zero =>
    have e1 : decide ((k : Int) < (n : Int)) = false := decide_eq_false (by have := HK.out; omega)
    have e2 : decide (k < n) = false := decide_eq_false (by have := HK.out; omega)
    have c0 : c = none := HCC.out.symm
    have HR2 := Aside0.mk (show r = [rowOf a b n] by rw [HR.out, c0])
    clear HCC HR c0
    go_wp2_with (first
     | ((go_at_call 79; (with_reducible refine (enc_calls _ a _ HS.out.lt ha0 (by omega) (by have := HSUR.out; omega)).mono ?_)); rintro e w5 ⟨v5, rfl, hv, hb⟩; have hs := HS.out.push_ro hb hv; clear HS hv hb; have HS := Aside0.mk hs; clear hs)
     | ((go_at_call 79; (with_reducible refine (enc_calls _ b _ HS.out.lt (by omega) (by omega) (by have := HSUR.out; omega)).mono ?_)); rintro e w6 ⟨v6, rfl, hv, hb⟩; have hs := (HS.out.push_ro hb hv).push_nil kRg 120; clear HS hv hb; have HS := Aside0.mk hs; clear hs))
    obtain ⟨A5, c5, e5⟩ := HS.out.rform 0 rfl
    subst e5
    obtain ⟨A6, c6, e6⟩ := HS.out.rform 1 rfl
    subst e6
    clear e1 e2
    go_loopg [11, 12] n (fun q v11 v12 w' => ∃ (i : Nat), v12 = .int .i64 (i : Int) ∧ Aside0 (i + q = n) ∧ Aside0 (Sep X w w' [.ro kU8 (.slice A5 (encL a).length c5) (encL a), .ro kU8 (.slice A6 (encL b).length c6) (encL b), .row kRg 120 v11 (rowOf a b i)]))
    case atStart => exact ⟨0, rfl, ⟨by omega⟩, HS⟩
    case round =>
     clear HS
     obtain ⟨i, rfl, HI, HS⟩ := hrel
     cases gk with
     | zero =>
      have hi : i = n := by have := HI.out; omega
      subst hi
      have e1 : decide ((i : Int) < (i : Int)) = false := decide_eq_false (by omega)
      have e2 : decide (i < i) = false := decide_eq_false (by omega)
      obtain ⟨A7, c7, e7⟩ := HS.out.form 2 rfl
      subst e7
      have hs := HS.out.sealRo 2 rfl
      clear HS
      have HS := Aside0.mk hs
      clear hs
      go_wp2_with (first
       | ((with_reducible refine gate_dst (N := 79) rfl ?_); refine slit_row kRgs 116 ?hg (N := 79) ?hd (xs := [rowOf a b i]) (inner := [.slice A7 (rowOf a b i).length c7]) ?hr HS.out ?hp (by simp) ?_; (case hd => rfl); (case hg => rfl); (case hr => first | (go_simp; done) | (go_simp; rfl)); (case hp => exact Reps.one (PK.slice (HS.out.ro 2 rfl)) (Reps.none _ _)); clear HS; intro v20 w20 hs; have HS := Aside0.mk hs; clear hs))
      go_ret
      rw [HR2.out]
      exact ⟨_, rfl, HS.out.res_own 3 rfl, HS.out.below⟩
     | succ q1 =>
      have hi : i < n := by have := HI.out; omega
      have e1 : decide ((i : Int) < (n : Int)) = true := decide_eq_true (by omega)
      have e2 : decide (i < n) = true := decide_eq_true hi
      have hi0 : (0 : Int) ≤ (i : Int) := by omega
      have hia : i < (encL a).length := by rw [HEN.out.1]; exact hi
      have hib : i < (encL b).length := by rw [HEN.out.2]; exact hi
      have hia1 : (i : Int) < ((encL a).length : Int) := by omega
      have hib1 : (i : Int) < ((encL b).length : Int) := by omega
      have hin4 : i < 4 := by omega
      obtain ⟨a5, c5', e5, _⟩ := intk_cell (HS.out.ro 0 rfl) i hia
      cases e5
      obtain ⟨a6, c6', e6, _⟩ := intk_cell (HS.out.ro 1 rfl) i hib
      cases e6
      have HST := Aside0.mk (row_step a b i)
      obtain ⟨xa, hxa⟩ : ∃ x, x = (encL a).getD i 0 := ⟨_, rfl⟩
      obtain ⟨xb, hxb⟩ : ∃ x, x = (encL b).getD i 0 := ⟨_, rfl⟩
      rw [← hxa, ← hxb] at HST
      have HXA := Aside0.mk hxa.symm
      have HXB := Aside0.mk hxb.symm
      have HIA := Aside0.mk hia
      have HIB := Aside0.mk hib
      clear hxa hxb
      go_wp2_with fail
      have hs := HS.out.drew
      clear HS; have HS := Aside0.mk hs; clear hs
      refine start_ (n := 13) (S := fun w' => w'.cell? (a5.add i) = some (.int .u8 xa) ∧ w'.cell? (a6.add i) = some (.int .u8 xb)) (ds := [11]) #[false, false, false, false, false, false, false, false, false, false, false, false, false] (by kernel_rfl) rfl rfl ⟨(ro_cellk HS.out 0 rfl i HIA.out HXA.out), (ro_cellk HS.out 1 rfl i HIB.out HXB.out)⟩ (fun hHeld => ?_)
      refine pure_ (i := 0) (N := some 66) (v := ?_) (a' := ?_) #[true, false, false, false, false, false, false, false, false, false, false, false, false] rfl rfl (by kernel_rfl) (fun _ _ _ h => h) (Or.inl ⟨by rfl, ?_⟩) ?_ ?_
      rotate_left
      ·intro w'
       go_simp
       with_reducible rfl
      rotate_left
      ·simp only [Act.put, List.setIfInBounds_toArray, List.set_cons_zero, List.set_cons_succ, i64_w, i32_w]
       rfl
      refine pure_ (i := 1) (N := some 67) (v := ?_) (a' := ?_) #[true, true, false, false, false, false, false, false, false, false, false, false, false] rfl rfl (by kernel_rfl) (fun _ _ _ h => h) (Or.inl ⟨by rfl, ?_⟩) ?_ ?_
      rotate_left
      ·intro w'
       go_simp
       with_reducible rfl
      rotate_left
      ·simp only [Act.put, List.setIfInBounds_toArray, List.set_cons_zero, List.set_cons_succ, i64_w, i32_w]
       rfl
      refine pure_ (i := 2) (N := some 68) (v := ?_) (a' := ?_) #[true, true, true, false, false, false, false, false, false, false, false, false, false] rfl rfl (by kernel_rfl) (fun _ _ _ h => h) (Or.inl ⟨by rfl, ?_⟩) ?_ ?_
      rotate_left
      ·intro w'
       go_simp
       with_reducible rfl
      rotate_left
      ·simp only [Act.put, List.setIfInBounds_toArray, List.set_cons_zero, List.set_cons_succ, i64_w, i32_w]
       rfl
      refine pure_ (i := 3) (N := some 69) (v := ?_) (a' := ?_) #[true, true, true, true, false, false, false, false, false, false, false, false, false] rfl rfl (by kernel_rfl) (fun _ _ _ h => h) (Or.inl ⟨by rfl, ?_⟩) ?_ ?_
      rotate_left
      ·intro w'
       go_simp
       with_reducible rfl
      rotate_left
      ·simp only [Act.put, List.setIfInBounds_toArray, List.set_cons_zero, List.set_cons_succ, i64_w, i32_w]
       rfl
      refine pure_ (i := 5) (N := some 71) (v := ?_) (a' := ?_) #[true, true, true, true, false, true, false, false, false, false, false, false, false] rfl rfl (by kernel_rfl) (fun _ _ _ h => h) (Or.inl ⟨by rfl, ?_⟩) ?_ ?_
      rotate_left
      ·intro w'
       go_simp
       with_reducible rfl
      rotate_left
      ·simp only [Act.put, List.setIfInBounds_toArray, List.set_cons_zero, List.set_cons_succ, i64_w, i32_w]
       rfl
      refine pure_ (i := 6) (N := some 72) (v := ?_) (a' := ?_) #[true, true, true, true, false, true, true, false, false, false, false, false, false] rfl rfl (by kernel_rfl) (fun _ _ _ h => h) (Or.inl ⟨by rfl, ?_⟩) ?_ ?_
      rotate_left
      ·intro w'
       go_simp
       with_reducible rfl
      rotate_left
      ·simp only [Act.put, List.setIfInBounds_toArray, List.set_cons_zero, List.set_cons_succ, i64_w, i32_w]
       rfl
      refine pure_ (i := 7) (N := some 73) (v := ?_) (a' := ?_) #[true, true, true, true, false, true, true, true, false, false, false, false, false] rfl rfl (by kernel_rfl) (fun _ _ _ h => h) (Or.inl ⟨by rfl, ?_⟩) ?_ ?_
      rotate_left
      ·intro w'
       go_simp
       with_reducible rfl
      rotate_left
      ·simp only [Act.put, List.setIfInBounds_toArray, List.set_cons_zero, List.set_cons_succ, i64_w, i32_w]
       rfl
      refine take_ (i := 4) (N := some 70) (v := ?_) (a' := ?_) #[true, true, true, true, true, true, true, true, false, false, false, false, false] rfl rfl (by kernel_rfl) (fun _ _ _ h => h) (Or.inl ⟨by rfl, ?_⟩) hHeld ?_ ?_
      rotate_left
      ·rintro w' ⟨s0, s1⟩
       go_simp
       with_reducible rfl
      rotate_left
      ·simp only [Act.put, List.setIfInBounds_toArray, List.set_cons_zero, List.set_cons_succ, i64_w, i32_w]
       rfl
      refine take_ (i := 8) (N := some 74) (v := ?_) (a' := ?_) #[true, true, true, true, true, true, true, true, true, false, false, false, false] rfl rfl (by kernel_rfl) (fun _ _ _ h => h) (Or.inl ⟨by rfl, ?_⟩) hHeld ?_ ?_
      rotate_left
      ·rintro w' ⟨s0, s1⟩
       go_simp
       with_reducible rfl
      rotate_left
      ·simp only [Act.put, List.setIfInBounds_toArray, List.set_cons_zero, List.set_cons_succ, i64_w, i32_w]
       rfl
      refine pure_ (i := 9) (N := some 75) (v := ?_) (a' := ?_) #[true, true, true, true, true, true, true, true, true, true, false, false, false] rfl rfl (by kernel_rfl) (fun _ _ _ h => h) (Or.inl ⟨by rfl, ?_⟩) ?_ ?_
      rotate_left
      ·intro w'
       go_simp
       with_reducible rfl
      rotate_left
      ·simp only [Act.put, List.setIfInBounds_toArray, List.set_cons_zero, List.set_cons_succ, i64_w, i32_w]
       rfl
      refine one_ (i := 10) (N := some 76) #[true, true, true, true, true, true, true, true, true, true, true, false, false] rfl rfl (by kernel_rfl) (by decide) (fun K hK => ?_)
      refine value_ (w1 := ?_) (v := ?_) (by rfl) rfl ?_ ?_
      rotate_left 2
      ·go_simp
       constructor
       ·rfl
       ·rfl
      have hs := HS.out.lit_ro kRg 120 (xs := [(⟨xa, xb⟩ : Rg)]) (inner := [.int .u8 xa, .int .u8 xb]) (rg_rep _ _ xa xb) (by simp)
      clear HS; have HS := Aside0.mk hs; clear hs
      refine hK.out _ _ ⟨(ro_cellk HS.out 0 rfl i HIA.out HXA.out), (ro_cellk HS.out 1 rfl i HIB.out HXB.out)⟩ (fun hHeld => ?_)
      clear hK K
      refine norm_ (a' := ?_) ?_ ?_
      rotate_left
      ·show Act.put _ (some 76) _ = _
       simp only [Act.put, List.setIfInBounds_toArray, List.set_cons_zero, List.set_cons_succ, i64_w, i32_w]
       rfl
      refine last_ (i := 11) (N := some 77) #[true, true, true, true, true, true, true, true, true, true, true, true, false] rfl rfl (by kernel_rfl) (by decide) (fun K hK => ?_)
      refine sgrow_step kRg 2 (by rfl) rfl (.tmp 66) (.tmp 76) 116 120 (.agg #[.int .u8 0, .int .u8 0]) 2 rfl Tryd.underlying116 info120 rfl (by decide) (by omega) _ _ (rowOf a b i) [(⟨xa, xb⟩ : Rg)] rfl rfl HS.out rfl (HS.out.ro 3 rfl) (by rw [row_len]; simp; omega) ?_
      intro v1 w1 hs
      clear HS; have HS := Aside0.mk hs; clear hs
      refine hK.out _ _ ?_
      clear hK K
      refine norm_ (a' := ?_) ?_ ?_
      rotate_left
      ·show Act.put _ (some 77) _ = _
       simp only [Act.put, List.setIfInBounds_toArray, List.set_cons_zero, List.set_cons_succ, i64_w, i32_w]
       rfl
      refine pure_ (i := 12) (N := some 11) (v := ?_) (a' := ?_) #[true, true, true, true, true, true, true, true, true, true, true, true, true] rfl rfl (by kernel_rfl) (fun _ _ _ h => h) (Or.inl ⟨by rfl, ?_⟩) ?_ ?_
      rotate_left
      ·intro w'
       go_simp
       with_reducible rfl
      rotate_left
      ·simp only [Act.put, List.setIfInBounds_toArray, List.set_cons_zero, List.set_cons_succ, i64_w, i32_w]
       rfl
      refine done_ (by kernel_rfl) ?_
      rw [HST.out] at HS
      go_wp2_with fail
      go_roundg q1
      case measure => omega
      case rel => exact ⟨i + 1, by go_num, ⟨by have := HI.out; omega⟩, ⟨HS.out.take 3⟩⟩
   | succ q =>
    have hk : k < n := by have := HK.out; omega
    have e1 : decide ((k : Int) < (n : Int)) = true := decide_eq_true (by omega)
    have e2 : decide (k < n) = true := decide_eq_true hk
    have hm0 := HM.out
    have hm1 : 1 ≤ m := by omega
    have hM2 : 64 ≤ m * 64 := by omega
    have hM3 : m * 64 ≤ 262144 := by omega
    have hm3 : m ≤ 4096 := by omega
    have HM2 := Aside0.mk (show (k + 1 = 1 ∧ m * 64 = 1) ∨ (k + 1 = 2 ∧ m * 64 = 64) ∨ (k + 1 = 3 ∧ m * 64 = 4096) ∨ (k + 1 = 4 ∧ m * 64 = 262144) by omega)
    have HCC1 := HCC.out
    rw [cutAt] at HCC1
    have ha1 := Int.emod_nonneg a (show m * 64 ≠ 0 by omega)
    have hb1' := Int.emod_nonneg b (show m * 64 ≠ 0 by omega)
    have qa : 0 ≤ a / (m * 64) ∧ a / (m * 64) ≤ 1114111 := ⟨Int.ediv_nonneg ha0 (by omega), Int.le_trans (Int.ediv_le_self _ ha0) (by omega)⟩
    have qb : 0 ≤ b / (m * 64) ∧ b / (m * 64) ≤ 1114111 := ⟨Int.ediv_nonneg (by omega) (by omega), Int.le_trans (Int.ediv_le_self _ (by omega)) (by omega)⟩
    have hax : a % (m * 64) ≤ a := by have h1 := Int.emod_add_mul_ediv a (m * 64); have h2 := Int.mul_nonneg (show 0 ≤ m * 64 by omega) qa.1; omega
    have hbx : b % (m * 64) ≤ b := by have h1 := Int.emod_add_mul_ediv b (m * 64); have h2 := Int.mul_nonneg (show 0 ≤ m * 64 by omega) qb.1; omega
    obtain ⟨qa1, qa2⟩ := qa
    obtain ⟨qb1, qb2⟩ := qb
    clear HM HCC hm0
    by_cases c1 : a / (m * 64) = b / (m * 64)
    ·have f1 : (a / (m * 64) == b / (m * 64)) = true := beq_iff_eq.mpr c1
     have HC2 := Aside0.mk (show cutAt a b q (m * 64) = c by rwa [if_pos c1] at HCC1)
     clear HCC1 c1
     go_wp2_with fail
     go_quiet (fail)
     have HS2 := Aside0.mk (HS.out.drewN nq)
     go_wp2_with fail
     go_roundg q
     case measure => omega
     case rel => exact ⟨k + 1, m * 64, ⟨by go_num, rfl⟩, ⟨by have := HK.out; omega, by omega⟩, HM2, HC2, HS2⟩
    ·have f1 : (a / (m * 64) == b / (m * 64)) = false := beq_eq_false_iff_ne.mpr c1
     rw [if_neg c1] at HCC1
     clear c1
     by_cases c2 : a % (m * 64) = 0
     case neg =>
      have f2 : (a % (m * 64) == 0) = false := beq_eq_false_iff_ne.mpr c2
      have f3 : (a % (m * 64) != 0) = true := bne_iff_ne.mpr c2
      rw [if_pos c2] at HCC1
      have hin := HIN.out _ HCC1.symm
      have HRR := Aside0.mk (show r = cutF f a (a - a % (m * 64) + m * 64 - 1) n ++ cutF f (a - a % (m * 64) + m * 64) b n by rw [HR.out, ← HCC1])
      have HIX := Aside0.mk hin
      clear HCC1 hin c2 HR HIN
      go_wp2_with fail
      go_quiet (fail)
      have HS2 := Aside0.mk (HS.out.drewN nq)
      go_wp2_with fail
      refine (HIH.out X a (a - a % (m * 64) + m * 64) b n _ (fun k hk => Nat.lt_of_lt_of_le (HS2.out.old k hk) HS2.out.below.size) (HC.out.left HIX.out) (HC.out.right HIX.out) (by have := HIX.out; have := HL.out; omega) (by have := HIX.out; have := HL.out; omega)).mono ?_
      rintro e w5 ⟨v5, rfl, hv, hb⟩
      have HV := Aside0.mk (hv.base_le HS2.out.below.size)
      have HB := Aside0.mk (below_step HS2.out.below hb)
      clear hv hb
      go_wp2_with fail
      go_ret
      rw [HRR.out]
      exact ⟨_, rfl, HV.out, HB.out⟩
     case pos =>
      have f2 : (a % (m * 64) == 0) = true := beq_iff_eq.mpr c2
      have f3 : (a % (m * 64) != 0) = false := bne_eq_false_iff_eq.mpr c2
      rw [if_neg (fun h => h c2)] at HCC1
      by_cases c3 : b % (m * 64) = m * 64 - 1
      case neg =>
       have f4 : (b % (m * 64) == m * 64 - 1) = false := beq_eq_false_iff_ne.mpr c3
       have f5 : (b % (m * 64) != m * 64 - 1) = true := bne_iff_ne.mpr c3
       rw [if_pos c3] at HCC1
       have hin := HIN.out _ HCC1.symm
       have HRR := Aside0.mk (show r = cutF f a (b - b % (m * 64) - 1) n ++ cutF f (b - b % (m * 64)) b n by rw [HR.out, ← HCC1])
       have HIX := Aside0.mk hin
       clear HCC1 hin c2 c3 HR HIN
       go_wp2_with fail
       go_quiet (fail)
       have HS2 := Aside0.mk (HS.out.drewN nq)
       go_wp2_with fail
       refine (HIH.out X a (b - b % (m * 64)) b n _ (fun k hk => Nat.lt_of_lt_of_le (HS2.out.old k hk) HS2.out.below.size) (HC.out.left HIX.out) (HC.out.right HIX.out) (by have := HIX.out; have := HL.out; omega) (by have := HIX.out; have := HL.out; omega)).mono ?_
       rintro e w5 ⟨v5, rfl, hv, hb⟩
       have HV := Aside0.mk (hv.base_le HS2.out.below.size)
       have HB := Aside0.mk (below_step HS2.out.below hb)
       clear hv hb
       go_wp2_with fail
       go_ret
       rw [HRR.out]
       exact ⟨_, rfl, HV.out, HB.out⟩
      case pos =>
       have f4 : (b % (m * 64) == m * 64 - 1) = true := beq_iff_eq.mpr c3
       have f5 : (b % (m * 64) != m * 64 - 1) = false := bne_eq_false_iff_eq.mpr c3
       rw [if_neg (fun h => h c3)] at HCC1
       have HC2 := Aside0.mk HCC1
       clear HCC1 c2 c3
       go_wp2_with fail
       go_quiet (fail)
       have HS2 := Aside0.mk (HS.out.drewN nq)
       go_wp2_with fail
       go_roundg q
       case measure => omega
       case rel => exact ⟨k + 1, m * 64, ⟨by go_num, rfl⟩, ⟨by have := HK.out; omega, by omega⟩, HM2, HC2, HS2⟩
end Go.Proofs.YtfbfeimildkigaaDoor.P
namespace Go.Proofs.YtfbfeimildkigaaDoor.P
open Go Go.RowKit Go.Proofs.YtfbfeimildkigaaDoorW.PrintWords Go.Proofs.YtfbfeimildkigaaDoorW.PrintLast Go.Proofs.YtfbfeimildkigaaDoorW.PrintMore Go.Proofs.YtfbfeimildkigaaDoor.PX
attribute [local go_sem] max2_int min2_int max_two min_two
set_option linter.unusedVariables false
set_option linter.unusedSimpArgs false
set_option maxRecDepth 100000
def fromL : List Int := [0, 128, 2048, 65536]
def uptoL : List Int := [127, 2047, 65535, 1114111]
def cutL (a b : Int) (n : Nat) : List (List Rg) := cutF ((b - a).toNat + 1) a b n
def spanN (s : Sp) (n : Nat) : List (List Rg) :=
 if (if s.f0 < fromL.getD n 0 then fromL.getD n 0 else s.f0) ≤ (if uptoL.getD n 0 < s.f1 then uptoL.getD n 0 else s.f1) then
  cutL (if s.f0 < fromL.getD n 0 then fromL.getD n 0 else s.f0) (if uptoL.getD n 0 < s.f1 then uptoL.getD n 0 else s.f1) (n + 1) else []
def spanGo (s : Sp) : Nat → Nat → List (List Rg)
 | 0, _ => []
 | m + 1, n => spanN s n ++ spanGo s m (n + 1)
def rows03 : List Sp → List (List Rg)
 | [] => []
 | s :: t => spanGo s 4 0 ++ rows03 t
def of03 (l : List Sp) : List (List Rg) := rows03 (makeL l [] 2)
def SpOk (s : Sp) : Prop := 0 ≤ s.f0 ∧ s.f0 ≤ s.f1 ∧ s.f1 ≤ 1114111 ∧ (s.f1 < 55296 ∨ 57343 < s.f0)
theorem span_ok (s : Sp) (h : SpOk s) (n : Nat) (hn : n < 4) (hab : (if s.f0 < fromL.getD n 0 then fromL.getD n 0 else s.f0) ≤ (if uptoL.getD n 0 < s.f1 then uptoL.getD n 0 else s.f1)) :
  CutOk (if s.f0 < fromL.getD n 0 then fromL.getD n 0 else s.f0) (if uptoL.getD n 0 < s.f1 then uptoL.getD n 0 else s.f1) (n + 1) := by
 unfold SpOk at h
 unfold CutOk
 have hn4 : n = 0 ∨ n = 1 ∨ n = 2 ∨ n = 3 := by omega
 rcases hn4 with rfl | rfl | rfl | rfl
 ·rw [show fromL.getD 0 0 = 0 from rfl, show uptoL.getD 0 0 = 127 from rfl] at *
  split at hab <;> split at hab <;> (repeat (first | rw [if_pos (by assumption)] | rw [if_neg (by assumption)])) <;> omega
 ·rw [show fromL.getD 1 0 = 128 from rfl, show uptoL.getD 1 0 = 2047 from rfl] at *
  split at hab <;> split at hab <;> (repeat (first | rw [if_pos (by assumption)] | rw [if_neg (by assumption)])) <;> omega
 ·rw [show fromL.getD 2 0 = 2048 from rfl, show uptoL.getD 2 0 = 65535 from rfl] at *
  split at hab <;> split at hab <;> (repeat (first | rw [if_pos (by assumption)] | rw [if_neg (by assumption)])) <;> omega
 ·rw [show fromL.getD 3 0 = 65536 from rfl, show uptoL.getD 3 0 = 1114111 from rfl] at *
  split at hab <;> split at hab <;> (repeat (first | rw [if_pos (by assumption)] | rw [if_neg (by assumption)])) <;> omega
theorem cutL_calls (X : Nat → Prop) (a b : Int) (n : Nat) (w : World) (hX : ∀ k, X k → k < w.heap.size) (h : CutOk a b n) :
  Calls Tryd.prog 69 #[.int .i64 a, .int .i64 b, .int .i64 (n : Int)] w fun e w' => ∃ v, e = .returned v ∧ Own kRgs 116 (Xp X v) w' w.heap.size v (cutL a b n) ∧ Below w.heap.size w w' :=
 cut_calls ((b - a).toNat + 1) X a b n w hX h (by unfold CutOk at h; omega)
theorem cutL_len (a b : Int) (n : Nat) (h : CutOk a b n) : (cutL a b n).length ≤ 1114112 := by
 have := cutF_len ((b - a).toNat + 1) a b n h
 unfold CutOk at h
 unfold cutL
 omega
theorem cutL_calls1 (X : Nat → Prop) (a b : Int) (n : Nat) (w : World) (hX : ∀ k, X k → k < w.heap.size) (h : CutOk a b (n + 1)) :
  Calls Tryd.prog 69 #[.int .i64 a, .int .i64 b, .int .i64 ((n : Int) + 1)] w fun e w' => ∃ v, e = .returned v ∧ Own kRgs 116 (Xp X v) w' w.heap.size v (cutL a b (n + 1)) ∧ Below w.heap.size w w' :=
 cutL_calls X a b (n + 1) w hX h
set_option maxHeartbeats 8000000 in
theorem of03_calls (X : Nat → Prop) (v0 : Value) (l : List Sp) (w : World) (hX : ∀ k, X k → k < w.heap.size) (h0 : PV kSp X w v0 l) (hs : Sm l) (hl : l.length ≤ 10000) (hsp : ∀ s ∈ makeL l [] 2, SpOk s) :
    Calls Tryd.prog 51 #[v0] w fun e w' => ∃ v, e = .returned v ∧ PV kRgs X w' v (of03 l) ∧ Below w.heap.size w w' := by
  have H0 := Aside0.mk h0
  have HSM := Aside0.mk hs
  have HS := Aside0.mk (Sep.start hX)
  have HXL := Aside0.mk (show (makeL l [] 2).length ≤ 20004 by have := make_len l [] 2; simp at this; omega)
  obtain ⟨r, hr⟩ : ∃ r, r = of03 l := ⟨_, rfl⟩
  rw [← hr]
  unfold of03 at hr
  obtain ⟨x, hx⟩ : ∃ x, x = makeL l [] 2 := ⟨_, rfl⟩
  rw [← hx] at hr hsp HXL
  have HXE := Aside0.mk hx.symm
  have HSP := Aside0.mk hsp
  have HR := Aside0.mk (show [] ++ rows03 (x.drop 0) = r from hr.symm)
  clear h0 hs hX hsp hx hr
  go_enter Tryd.func51, Tryd.ntmps51
  go_wp2_with (first
    | (go_at_call 45; (with_reducible refine (Norm_calls _ _ l _ HS.out.lt (HS.out.arg H0.out) HSM.out hl).mono ?_); rintro ee w5 ⟨v5, rfl, hv, hb⟩; rw [HXE.out] at hv; have hs := (HS.out.push_ro hb hv).push_nil kRgs 116; clear hv hb; obtain ⟨A5, c5, e5⟩ := hs.rform 0 rfl; subst e5; clear HS; have HS := Aside0.mk hs; clear hs))
  have hxl : x.length ≤ 20004 := HXL.out
  go_loopg [3, 5] x.length (fun m v3 v5 w' => ∃ (i : Nat) (o : List (List Rg)), v5 = .int .i64 i ∧ Aside0 (i + m = x.length) ∧ Aside0 (o.length ≤ i * 4 * 1114112) ∧ Aside0 (o ++ rows03 (x.drop i) = r) ∧ Aside0 (Sep X w w' [.ro kSp (.slice A5 x.length c5) x, .row kRgs 116 v3 o]))
  case atStart => exact ⟨0, [], rfl, ⟨by omega⟩, ⟨by simp⟩, HR, HS⟩
  case round =>
    clear HS HR
    obtain ⟨i, o, rfl, HJ, HO, HR, HS⟩ := hrel
    cases gk with
    | zero =>
      have e1 : decide ((i : Int) < (x.length : Int)) = false := decide_eq_false (by have := HJ.out; omega)
      have e2 : decide (i < x.length) = false := decide_eq_false (by have := HJ.out; omega)
      have q0 : o = r := by
        have := HR.out
        rw [List.drop_eq_nil_of_le (by have := HJ.out; omega)] at this
        simpa [rows03] using this
      clear HR
      subst q0
      go_wp2_with fail
      go_ret
      exact ⟨_, rfl, HS.out.res_row 1 rfl, HS.out.below⟩
    | succ k1 =>
      have hi : i < x.length := by have := HJ.out; omega
      have e1 : decide ((i : Int) < (x.length : Int)) = true := decide_eq_true (by omega)
      have e2 : decide (i < x.length) = true := decide_eq_true hi
      have hi0 : (0 : Int) ≤ (i : Int) := by omega
      have hi1 : (i : Int) < (x.length : Int) := by omega
      have HR1 := HR.out
      rw [drop_at x z67 i hi, rows03] at HR1
      have HSS := Aside0.mk (HSP.out _ (mem_getD x z67 i hi))
      obtain ⟨s, hs⟩ : ∃ s, s = x.getD i z67 := ⟨_, rfl⟩
      rw [← hs] at HR1 HSS
      have HSE := Aside0.mk hs.symm
      have HR2 := Aside0.mk HR1
      have HO2 := Aside0.mk (show o.length ≤ (i * 4 + 0) * 1114112 from HO.out)
      clear HR1 HR HO hs
      go_wp2_with (first
        | ((with_reducible refine gate_dst (N := 19) rfl ?_); refine slit kInt 3 ?hg (N := 19) ?hd (xs := ([0, 128, 2048, 65536] : List Int)) (inner := [.int .i64 0, .int .i64 128, .int .i64 2048, .int .i64 65536]) ?hr HS.out ?hp (by simp) ?_; (case hd => rfl); (case hg => rfl); (case hr => first | (go_simp; done) | (go_simp; rfl)); (case hp => exact (reps_int _ _ .i64 [0, 128, 2048, 65536])); clear HS; intro v6 w6 hs; replace hs : PX.Sep X w _ (_ ++ [.ro kInt _ fromL]) := hs; obtain ⟨A6, c6, e6⟩ := hs.rform 2 rfl; subst e6; have HS := Aside0.mk hs; clear hs)
        | ((with_reducible refine gate_dst (N := 20) rfl ?_); refine slit kInt 3 ?hg (N := 20) ?hd (xs := ([127, 2047, 65535, 1114111] : List Int)) (inner := [.int .i64 127, .int .i64 2047, .int .i64 65535, .int .i64 1114111]) ?hr HS.out ?hp (by simp) ?_; (case hd => rfl); (case hg => rfl); (case hr => first | (go_simp; done) | (go_simp; rfl)); (case hp => exact (reps_int _ _ .i64 [127, 2047, 65535, 1114111])); clear HS; intro v7 w7 hs; replace hs : PX.Sep X w _ (_ ++ [.ro kInt _ uptoL]) := hs; obtain ⟨A7, c7, e7⟩ := hs.rform 3 rfl; subst e7; have HS := Aside0.mk hs; clear hs))
      clear e1 e2
      go_loopg [3, 8] 4 (fun m v3 v8 w' => ∃ (n : Nat) (o : List (List Rg)), v8 = .int .i64 n ∧ Aside0 (n + m = 4) ∧ Aside0 (o.length ≤ (i * 4 + n) * 1114112) ∧ Aside0 (o ++ (spanGo s m n ++ rows03 (x.drop (i + 1))) = r) ∧ Aside0 (Sep X w w' [.ro kSp (.slice A5 x.length c5) x, .row kRgs 116 v3 o, .ro kInt (.slice A6 fromL.length c6) fromL, .ro kInt (.slice A7 uptoL.length c7) uptoL]))
      case atStart => exact ⟨0, o, rfl, ⟨by omega⟩, HO2, HR2, HS⟩
      case round =>
        clear HS HR2 HO2
        obtain ⟨n, o, rfl, HN, HO, HR, HS⟩ := hrel
        cases gk with
        | zero =>
          have hn : n = 4 := by have := HN.out; omega
          have e1 : decide ((n : Int) < 4) = false := decide_eq_false (by omega)
          have e2 : decide (n < 4) = false := decide_eq_false (by omega)
          have HR3 := Aside0.mk (show o ++ rows03 (x.drop (i + 1)) = r by have := HR.out; rwa [spanGo, List.nil_append] at this)
          have HO3 := Aside0.mk (show o.length ≤ (i + 1) * 4 * 1114112 by have h1 := HO.out; have h2 : i * 4 + n = (i + 1) * 4 := (by omega); rw [h2] at h1; exact h1)
          go_wp2_with fail
          go_roundg k1
          case measure => omega
          case rel => exact ⟨i + 1, o, by go_num, ⟨by have := HJ.out; omega⟩, HO3, HR3, ⟨HS.out.take 2⟩⟩
        | succ m1 =>
          have hn : n < 4 := by have := HN.out; omega
          have e1 : decide ((n : Int) < 4) = true := decide_eq_true (by omega)
          have e2 : decide (n < 4) = true := decide_eq_true hn
          have hn0 : (0 : Int) ≤ (n : Int) := by omega
          have hnf : n < fromL.length := hn
          have hnu : n < uptoL.length := hn
          have hnf1 : (n : Int) < (fromL.length : Int) := by omega
          have hnu1 : (n : Int) < (uptoL.length : Int) := by omega
          obtain ⟨a5, c5', e5, y0, y1⟩ := sp_cell (HS.out.ro 0 rfl) i hi
          cases e5
          rw [HSE.out] at y0 y1
          obtain ⟨a6, c6', e6, y2⟩ := int_cell (HS.out.ro 2 rfl) n hnf
          cases e6
          obtain ⟨a7, c7', e7, y3⟩ := int_cell (HS.out.ro 3 rfl) n hnu
          cases e7
          have HR1 := HR.out
          rw [spanGo, spanN] at HR1
          have HCO := Aside0.mk (span_ok s HSS.out n hn)
          have HIN := Aside0.mk (show s.f0 ≤ 1114111 ∧ 0 ≤ s.f1 ∧ i < 20004 by have := HSS.out; unfold SpOk at this; omega)
          generalize gfn : fromL.getD n 0 = fn at *
          generalize gun : uptoL.getD n 0 = un at *
          generalize glo : s.f0 = lo at *
          generalize ghi : s.f1 = hi' at *
          have HG := Aside0.mk (show fromL.getD n 0 = fn ∧ uptoL.getD n 0 = un ∧ s.f0 = lo ∧ s.f1 = hi' from ⟨gfn, gun, glo, ghi⟩)
          clear gfn gun glo ghi
          rcases Int.lt_or_le lo fn with c1 | c1
          all_goals rcases Int.lt_or_le un hi' with c2 | c2
          all_goals
            first
              | rw [if_pos c1, if_pos c2] at HR1 HCO
              | rw [if_pos c1, if_neg (show ¬ un < hi' by omega)] at HR1 HCO
              | rw [if_neg (show ¬ lo < fn by omega), if_pos c2] at HR1 HCO
              | rw [if_neg (show ¬ lo < fn by omega), if_neg (show ¬ un < hi' by omega)] at HR1 HCO
            split at HR1
            · next c3 =>
              have d3 := decide_eq_true c3
              have HC := Aside0.mk (HCO.out c3)
              have HRT := Aside0.mk HR1
              have HLN := Aside0.mk (cutL_len _ _ _ HC.out)
              have HOB := Aside0.mk (show o.length ≤ 200000000000 from Nat.le_trans HO.out (Nat.le_trans (Nat.mul_le_mul_right _ (show i * 4 + n ≤ 100000 by have := HIN.out; omega)) (by decide)))
              clear HR1 HCO c3 HR
              go_wp2_with fail
              go_quiet (fail)
              have HS2 := Aside0.mk (HS.out.drewN nq)
              clear HS
              obtain ⟨wq, hwq⟩ : ∃ q, q = wr.drewN nq := ⟨_, rfl⟩
              rw [← hwq] at HS2 ⊢
              clear y0 y1 y2 y3 hwq
              obtain ⟨b5, d5, e5, y0, y1⟩ := sp_cell (HS2.out.ro 0 rfl) i hi
              cases e5
              rw [HSE.out, HG.out.2.2.2] at y1
              obtain ⟨b7, d7, e7, y3⟩ := int_cell (HS2.out.ro 3 rfl) n hnu
              cases e7
              rw [HG.out.2.1] at y3
              go_wp2_with fail
              go_quiet (fail)
              have HS := Aside0.mk (HS2.out.drewN nq)
              clear HS2
              go_wp2_with (first
                | ((go_at_call 69; (with_reducible refine (cutL_calls1 _ _ _ n _ HS.out.lt HC.out).mono ?_)); rintro e w9 ⟨v9, rfl, hv, hb⟩; have hs := (HS.out.push_row hb hv).sealRo 4 rfl; clear HS hv hb; have HS := Aside0.mk hs; clear hs)
                | ((with_reducible refine gate_builtin (b := .append) (xs := #[.tmp 48, .tmp 53]) rfl ?_); at_builtin; refine sgrow kRgs 1 rfl (.tmp 48) (.tmp 53) 94 116 (.slice none 0 0) 24 rfl Tryd.underlying94 info116 rfl (by decide) (by omega) _ _ o _ rfl rfl HS.out rfl (HS.out.ro 4 rfl) (by have := HLN.out; have := HOB.out; omega) ?_; clear HS; intro v10 w10 hs; have HS := Aside0.mk hs; clear hs))
              go_roundg m1
              case measure => omega
              case rel => exact ⟨n + 1, _, by go_num, ⟨by have := HN.out; omega⟩, ⟨by rw [List.length_append]; exact Nat.le_trans (Nat.add_le_add HO.out HLN.out) (Nat.le_of_eq (Nat.succ_mul _ _).symm)⟩, ⟨by rw [← HRT.out, List.append_assoc, List.append_assoc]⟩, ⟨HS.out.take 4⟩⟩
            · next c3 =>
              have d3 := decide_eq_false c3
              have HRT := Aside0.mk HR1
              clear HR1 HCO HR
              go_wp2_with fail
              go_quiet (fail)
              have HS2 := Aside0.mk (HS.out.drewN nq)
              clear HS
              obtain ⟨wq, hwq⟩ : ∃ q, q = wr.drewN nq := ⟨_, rfl⟩
              rw [← hwq] at HS2 ⊢
              clear y0 y1 y2 y3 hwq
              obtain ⟨b5, d5, e5, y0, y1⟩ := sp_cell (HS2.out.ro 0 rfl) i hi
              cases e5
              rw [HSE.out, HG.out.2.2.2] at y1
              obtain ⟨b7, d7, e7, y3⟩ := int_cell (HS2.out.ro 3 rfl) n hnu
              cases e7
              rw [HG.out.2.1] at y3
              go_wp2_with fail
              go_quiet (fail)
              have HS := Aside0.mk (HS2.out.drewN nq)
              clear HS2
              go_wp2_with fail
              go_roundg m1
              case measure => omega
              case rel => exact ⟨n + 1, o, by go_num, ⟨by have := HN.out; omega⟩, ⟨Nat.le_trans HO.out (Nat.mul_le_mul_right _ (by omega))⟩, ⟨by rw [← HRT.out]; rfl⟩, HS⟩
end Go.Proofs.YtfbfeimildkigaaDoor.P
