/- Part 8 of the proof: OP, LC, LC2, V8, V9, V10, V11. -/
import Derived.ChangeArms
import Derived.ChangeOld
import Derived.DataReads
import Derived.Deep.DeepHandedRow
import Derived.LaidLaws
import Derived.Laws.Bits64
import Derived.Laws.Bits64b
import Derived.Laws.BitsAllLaws
import Derived.Lay
import Derived.Lib.SmallJoins
import Derived.OpenShut
import Derived.ProofKit
import Derived.SizedLaws
import Derived.Test.YtplhfgobeicegaaDoorCards
import Derived.Test.YtplhfgobeicegaaDoorTie
import Derived.Test.YtplhfgobeicegaaDoorPb7
namespace Go.Proofs.YtplhfgobeicegaaDoor.OP
open Go Go.RowKit Go.Proofs.YtplhfgobeicegaaDoorW.PrintWords
variable {H : Type} {enc : TypeId × Value → H} {P : Program} {w : World}
def Opens {α : Type} (enc : TypeId × Value → H) (P : Program) (w : World) (t : TypeId) (d : Kd α) (good : α → Prop) : Prop :=
 P.cellsOf t = d.sz ∧ ∀ fuel cs x, DataW.trod enc P w 0 (fun _ => true) true fuel t cs = some x → ∃ a, d.K w a cs ∧ good a
theorem Opens.mono {α : Type} {t : TypeId} {d : Kd α} {good good' : α → Prop} (h : Opens enc P w t d good) (hg : ∀ a, good a → good' a) : Opens enc P w t d good' :=
 ⟨h.1, fun fuel cs x hx => by obtain ⟨a, ha, hb⟩ := h.2 fuel cs x hx; exact ⟨a, ha, hg a hb⟩⟩
theorem opens_int {t : TypeId} {k : IntKind} (ht : P.underlying t = some (.int k)) (hc : P.cellsOf t = 1) : Opens enc P w t (Kd.int k) (fun n => (Lit.int k n).wf = true) :=
 ⟨hc, fun fuel cs x hx => by
  obtain ⟨n, rfl, _, hw⟩ := DataW.trod_int ht hx
  exact ⟨n, rfl, hw⟩⟩
theorem opens_slice {α : Type} {t e : TypeId} {d : Kd α} {good : α → Prop} (ht : P.underlying t = some (.slice e)) (hc : P.cellsOf t = 1) (he : Opens enc P w e d good) :
  Opens enc P w t (Kd.slice e d) (fun l => l.length ≤ maxLen ∧ ∀ x ∈ l, good x) :=
 ⟨hc, fun fuel cs x hx => by
  rcases DataW.trod_slice ht hx with ⟨rfl, _⟩ | ⟨a, len, cap, elems, rest, n, _, rfl, _, _, hl, hm, hlen, hel, _, _⟩
  ·exact ⟨[], ⟨none, 0, rfl, Nat.le_refl _, rfl, by simp, fun h => absurd h (Nat.lt_irrefl 0)⟩, by simp, fun y hy => by cases hy⟩
  ·have hmx : len ≤ 9223372036854775807 := by unfold maxLen at hm; omega
   have : ∀ m, m ≤ len → ∃ xs : List α, xs.length = m ∧ (∀ j p, xs[j]? = some p → ∃ c, c.length = d.sz ∧ d.K w p c ∧ ∀ i u, c[i]? = some u → w.cell? (a.add (j * d.sz + i)) = some u) ∧ ∀ x ∈ xs, good x := by
    intro m
    induction m with
    | zero => exact fun _ => ⟨[], rfl, fun j p h => by simp at h, fun x h => by cases h⟩
    | succ m ih =>
     intro hm2
     obtain ⟨xs, h1, h2, h3⟩ := ih (by omega)
     have h4 := hel m (by omega)
     rw [List.getElem?_eq_getElem (show m < elems.length by omega), Option.bind_eq_some_iff] at h4
     obtain ⟨c, hcs, hy⟩ := h4
     obtain ⟨p, hK, hg⟩ := he.2 _ _ _ hy
     obtain ⟨_, hcl, hcell⟩ := World.cells?_some hcs
     rw [he.1] at hcl hcell
     refine ⟨xs ++ [p], by simp [h1], fun j q hq => ?_, fun x hx => ?_⟩
     ·rcases Nat.lt_or_ge j xs.length with hj | hj
      ·rw [List.getElem?_append_left hj] at hq
       exact h2 j q hq
      ·have hj' : j = m := by
        have := (List.getElem?_eq_some_iff.1 hq).1
        simp at this
        omega
       subst hj'
       obtain rfl : p = q := by rw [← h1] at hq; simpa using hq
       refine ⟨c, hcl, hK, fun i u hu => ?_⟩
       have hi : i < d.sz := by have := (List.getElem?_eq_some_iff.1 hu).1; omega
       have := hcell i hi
       rw [hu] at this
       rw [← this]
       congr 1
       unfold Addr.add
       by_cases z1 : j * d.sz = 0 <;> by_cases z2 : i = 0 <;> simp [z1, z2, Nat.add_assoc]
     ·rcases List.mem_append.1 hx with hx | hx
      ·exact h3 x hx
      ·obtain rfl : x = p := by simpa using hx
       exact hg
   obtain ⟨xs, h1, h2, h3⟩ := this len (Nat.le_refl _)
   subst h1
   exact ⟨xs, ⟨some a, cap, rfl, hl, rfl, hmx, fun _ => ⟨a, rfl, h2⟩⟩, by omega, h3⟩⟩
theorem Opens.arg {α : Type} {t e : TypeId} {d : Kd α} {good : List α → Prop} (h : Opens enc P w t (Kd.slice e d) good) {a : Option Addr} {len cap : Nat} {x : DataW H} {p : List MemPlace} (hx : DataW.Trod enc P w 0 (fun _ => true) true t (.slice a len cap) x p) :
  ∃ l, len = l.length ∧ l.length ≤ cap ∧ d.C w a l.length l ∧ good l := by
 obtain ⟨fuel, hf⟩ := hx
 obtain ⟨l, ⟨A, c, he, hc, hC⟩, hg⟩ := h.2 _ _ _ hf
 simp [Value.cells] at he
 obtain ⟨rfl, rfl, rfl⟩ := he
 exact ⟨l, rfl, hc, hC, hg⟩
end Go.Proofs.YtplhfgobeicegaaDoor.OP
namespace Go.Proofs.YtplhfgobeicegaaDoor.LC
open Go Go.RowKit Go.ChangeShapes Go.WideShapes Go.ChangeAt Go.Proofs.YtplhfgobeicegaaDoorW.PrintWords Go.Proofs.YtplhfgobeicegaaDoor.PX Go.Proofs.YtplhfgobeicegaaDoor.P
set_option linter.unusedVariables false
theorem own : ownKnob Tryd.prog.godebug = none := by kernel_rfl
theorem laidOut : laidOutB Tryd.prog = true := by kernel_rfl
theorem cInt : Tryd.prog.cellsOf 3 = 1 := by kernel_rfl
theorem cU8 : Tryd.prog.cellsOf 5 = 1 := by kernel_rfl
theorem cInts : Tryd.prog.cellsOf 34 = 1 := by kernel_rfl
theorem cU8s : Tryd.prog.cellsOf 22 = 1 := by kernel_rfl
theorem cRows : Tryd.prog.cellsOf 33 = 1 := by kernel_rfl
def no : Nat → Prop := fun _ => False
theorem no_old (w : World) : ∀ k, no k → k < w.heap.size := fun _ h => h.elim
theorem ofC {α : Type} {d : Kd α} {w : World} {A : Option Addr} {c : Nat} {xs : List α} (h : d.C w A xs.length xs) (hc : xs.length ≤ c) : PV d no w (.slice A xs.length c) xs :=
 ⟨A, c, rfl, hc, fun w' ha => Kd.C_below h (ha.below (fun _ _ h => h))⟩
section
variable {H : Type} {enc : TypeId × Value → H} {W : World} {n : Nat} {v : Value} {y : DataW H × List MemPlace}
open OP in
theorem bytes (h : DataW.trod enc Tryd.prog W 0 (fun _ => true) true n 22 [v] = some y) : ∃ l, PV kU8 no W v l ∧ U8s l := by
 obtain ⟨l, ⟨A, c, he, hc, hC⟩, hg⟩ := (opens_slice (enc := enc) (w := W) Tryd.underlying22 cU8s (opens_int Tryd.underlying5 cU8)).2 _ _ _ h
 cases he
 refine ⟨l, ofC hC hc, fun x hx => ?_⟩
 have h1 := hg.2 x hx
 simp [Lit.wf, IntKind.min, IntKind.max, IntKind.signed, IntKind.bits] at h1
 omega
open OP in
theorem rows (h : DataW.trod enc Tryd.prog W 0 (fun _ => true) true n 33 [v] = some y) : ∃ l, PV (Kd.slice 3 kInt) no W v l := by
 obtain ⟨l, ⟨A, c, he, hc, hC⟩, hg⟩ := (opens_slice (enc := enc) (w := W) Tryd.underlying33 cRows (opens_slice Tryd.underlying34 cInts (opens_int Tryd.underlying3 cInt))).2 _ _ _ h
 cases he
 exact ⟨l, ofC hC hc⟩
theorem arg1 {t : TypeId} {d : DataW H} {p : List MemPlace} {a : Option Addr} {len cap : Nat} (h : DataW.Trod enc Tryd.prog W 0 (fun _ => true) true t (.slice a len cap) d p) : ∃ n y, DataW.trod enc Tryd.prog W 0 (fun _ => true) true n t [.slice a len cap] = some y := by
 obtain ⟨n, hn⟩ := h
 exact ⟨n, _, hn⟩
end
theorem world_met (os : Os) (args : Array Value) : laidMetH Tryd.prog Rows.packSumsRow.laid ((World.laidAll Tryd.prog os Rows.packSumsRow.laid).forCall (fun _ _ => 0) ⟨#[], args, []⟩).memory := by
 rw [MakeChecks.laidMetH_plain _ _ _ (by kernel_rfl)]
 exact laidMet_laidAll _ (by kernel_rfl) (by kernel_rfl)
end Go.Proofs.YtplhfgobeicegaaDoor.LC
namespace Go.Proofs.YtplhfgobeicegaaDoor.LC
open Go Go.RowKit Go.ChangeShapes Go.WideShapes Go.ChangeAt Go.Proofs.YtplhfgobeicegaaDoorW.PrintWords Go.Proofs.YtplhfgobeicegaaDoor.PX Go.Proofs.YtplhfgobeicegaaDoor.P
set_option linter.unusedVariables false
theorem cU16 : Tryd.prog.cellsOf 23 = 1 := by kernel_rfl
theorem cU16s : Tryd.prog.cellsOf 88 = 1 := by kernel_rfl
theorem cU16ss : Tryd.prog.cellsOf 28 = 1 := by kernel_rfl
theorem cI8 : Tryd.prog.cellsOf 91 = 1 := by kernel_rfl
theorem cI8s : Tryd.prog.cellsOf 29 = 1 := by kernel_rfl
variable {H : Type} {enc : TypeId × Value → H} {W : World} {n : Nat} {v : Value} {y : DataW H × List MemPlace}
open OP in
theorem i8s (h : DataW.trod enc Tryd.prog W 0 (fun _ => true) true n 29 [v] = some y) : ∃ l, PV (Kd.int .i8) no W v l ∧ ∀ x ∈ l, -128 ≤ x ∧ x ≤ 127 := by
 obtain ⟨l, ⟨A, c, he, hc, hC⟩, hg⟩ := (opens_slice (enc := enc) (w := W) Tryd.underlying29 cI8s (opens_int Tryd.underlying91 cI8)).2 _ _ _ h
 cases he
 refine ⟨l, ofC hC hc, fun x hx => ?_⟩
 have h1 := hg.2 x hx
 simp [Lit.wf, IntKind.min, IntKind.max, IntKind.signed, IntKind.bits] at h1
 omega
open OP in
theorem u16ss (h : DataW.trod enc Tryd.prog W 0 (fun _ => true) true n 28 [v] = some y) : ∃ l, PV kU16s no W v l ∧ ∀ r ∈ l, ∀ x ∈ r, 0 ≤ x ∧ x < 65536 := by
 obtain ⟨l, ⟨A, c, he, hc, hC⟩, hg⟩ := (opens_slice (enc := enc) (w := W) Tryd.underlying28 cU16ss (opens_slice Tryd.underlying88 cU16s (opens_int Tryd.underlying23 cU16))).2 _ _ _ h
 cases he
 refine ⟨l, ofC hC hc, fun r hr x hx => ?_⟩
 have h1 := (hg.2 r hr).2 x hx
 simp [Lit.wf, IntKind.min, IntKind.max, IntKind.signed, IntKind.bits] at h1
 omega
end Go.Proofs.YtplhfgobeicegaaDoor.LC
namespace Go.Proofs.YtplhfgobeicegaaDoor.P
open Go Go.RowKit Go.Proofs.YtplhfgobeicegaaDoorW.PrintWords Go.Proofs.YtplhfgobeicegaaDoorW.PrintLast Go.Proofs.YtplhfgobeicegaaDoorW.PrintMore Go.Proofs.YtplhfgobeicegaaDoor.PX
set_option linter.unusedVariables false
set_option linter.unusedSimpArgs false
set_option maxRecDepth 100000
structure Rd where
 b : List Int
 short : Bool
def takeR (n : Nat) (r : Rd) : List Int × Rd := if r.b.length < n then (List.replicate n 0, ⟨[], true⟩) else (r.b.take n, ⟨r.b.drop n, r.short⟩)
theorem PV.take_cap {α : Type} {d : Kd α} {X : Nat → Prop} {w : World} {A : Option Addr} {n c : Nat} {xs : List α} (h : PV d X w (.slice A n c) xs) (m : Nat) (hm : m ≤ xs.length) : PV d X w (.slice A m m) (xs.take m) := by
 obtain ⟨A', c', he, hc, hC⟩ := h
 cases he
 exact ⟨A, m, by rw [List.length_take, Nat.min_eq_left hm], by rw [List.length_take]; omega, fun w' hw => Kd.C_take (hC w' hw) hm⟩
set_option maxHeartbeats 4000000 in
theorem take_calls (X : Nat → Prop) (w0 w : World) (L : List PX.Item) (i g : Nat) (vb : Value) (r : Rd) (n : Nat) (hs : Sep X w0 w L) (hi : L[i]? = some (.box g 60 [vb, .bool r.short])) (hb : PV kU8 X w0 vb r.b) (hn : 1 ≤ n ∧ n ≤ 1000) :
  Calls Tryd.prog 27 #[.pointer (some ⟨g, 0, none⟩), .int .i64 n] w fun e w' => ∃ v, e = .returned v ∧ PV kU8 X w' v (takeR n r).1 ∧ ∃ vb', PV kU8 X w0 vb' (takeR n r).2.b ∧ Sep X w0 w' (L.set i (.box g 60 [vb', .bool (takeR n r).2.short])) := by
 have HS := Aside0.mk hs
 have HB := Aside0.mk hb
 have HI := Aside0.mk hi
 have m0 := hb.max
 obtain ⟨A0, c0, rfl, hc0, _⟩ := hb.now
 obtain ⟨hn1, hn2⟩ := hn
 have x0 := (hs.box i hi).cell 0 rfl
 have x1 := (hs.box i hi).cell 1 rfl
 have f0 := (hs.box i hi).open_ 0
 have f1 := (hs.box i hi).open_ 1
 clear hs hi hb
 go_enter Tryd.func27, Tryd.ntmps27
 rcases Nat.lt_or_ge r.b.length n with hl | hl
 case inl =>
  have d1 : decide ((r.b.length : Int) < (n : Int)) = true := decide_eq_true (by omega)
  have d2 : decide (r.b.length < n) = true := decide_eq_true hl
  rw [show takeR n r = (List.replicate n 0, ⟨[], true⟩) by unfold takeR; rw [if_pos hl]]
  have hnc : (n : Int) ≤ 281474976710656 := by omega
  go_upto_region 3 with fail
  have hs := (HS.out.set_box i HI.out 1 (.bool true)).set_box i (by rw [List.getElem?_set_self (List.getElem?_eq_some_iff.1 HI.out).1]) 0 (.slice none 0 0)
  rw [List.set_set] at hs
  obtain ⟨w1, hw1⟩ : ∃ x, x = (w.setCell ⟨g, 1, none⟩ (.bool true)).setCell ⟨g, 0, none⟩ (.slice none 0 0) := ⟨_, rfl⟩
  rw [← hw1] at hs ⊢
  clear HS x0 x1 f0 f1 hw1
  have HS := Aside0.mk hs
  clear hs
  go_wp2_with (first
   | ((with_reducible refine gate_dst (N := 20) rfl ?_); refine smake .u8 5 rfl (N := 20) rfl 22 (.tmp 19) (.tmp 19) rfl n rfl rfl Tryd.underlying22 1 info5 (by omega) (by omega) HS.out ?_; clear HS; intro v30 w30 hs; have HS := Aside0.mk hs; clear hs))
  go_ret
  have hv := HS.out.res_row _ List.getElem?_concat_length
  exact ⟨_, rfl, hv, .slice none 0 0, PV.nil _ _ _, HS.out.sub (List.sublist_append_left _ _)⟩
 case inr =>
  have d1 : decide ((r.b.length : Int) < (n : Int)) = false := decide_eq_false (by omega)
  have d2 : decide (r.b.length < n) = false := decide_eq_false (by omega)
  rw [show takeR n r = (r.b.take n, ⟨r.b.drop n, r.short⟩) by unfold takeR; rw [if_neg (by omega)]]
  obtain ⟨j0, hj0, _, hjz0, _⟩ := info_parts info5
  obtain ⟨u9, hu9, hrun9⟩ := HB.out.from_ (P := Tryd.prog) 22 5 Tryd.underlying22 hj0 hjz0 n hl
  obtain ⟨db, hdb⟩ : ∃ l, l = r.b.drop n := ⟨_, rfl⟩
  rw [← hdb] at hu9 ⊢
  clear hdb
  obtain ⟨A9, c9, rfl, _, _⟩ := hu9.now
  have HU9 := Aside0.mk hu9
  have HT := Aside0.mk (PV.take_cap HB.out n hl)
  clear hu9 hj0 hjz0
  go_wp2_with fail
  go_ret
  have hs := HS.out.set_box i HI.out 0 (.slice A9 db.length c9)
  exact ⟨_, rfl, (hs.arg HT.out).to (fun k _ hk => .inl hk), _, HU9.out, hs⟩
end Go.Proofs.YtplhfgobeicegaaDoor.P
namespace Go.Proofs.YtplhfgobeicegaaDoor.P
open Go Go.RowKit Go.Proofs.YtplhfgobeicegaaDoorW.PrintWords Go.Proofs.YtplhfgobeicegaaDoorW.PrintLast Go.Proofs.YtplhfgobeicegaaDoorW.PrintMore Go.Proofs.YtplhfgobeicegaaDoor.PX
set_option linter.unusedVariables false
set_option linter.unusedSimpArgs false
set_option maxRecDepth 100000
theorem takeR_len (n : Nat) (r : Rd) : (takeR n r).1.length = n := by
 unfold takeR
 split
 ·simp
 ·next h => simp only [List.length_take]; omega
theorem takeR_u8 (n : Nat) {r : Rd} (h : U8s r.b) : U8s (takeR n r).1 ∧ U8s (takeR n r).2.b := by
 unfold takeR
 split
 ·exact ⟨fun c hc => by rw [List.eq_of_mem_replicate hc]; omega, fun c hc => by cases hc⟩
 ·exact ⟨fun c hc => h c (List.mem_of_mem_take hc), fun c hc => h c (List.mem_of_mem_drop hc)⟩
def twoR (r : Rd) : Int × Rd := ((takeR 2 r).1.getD 0 0 * 256 + (takeR 2 r).1.getD 1 0, (takeR 2 r).2)
theorem or8 {p q : Nat} (hp : p < 256) (hq : q < 256) : bits .or .i64 ((p : Int) * 256) (q : Int) = (p : Int) * 256 + (q : Int) := by
 have e62 : (2 : Int) ^ 62 = 4611686018427387904 := by decide
 have e8 : (2 : Int) ^ 8 = 256 := by decide
 refine bits_join .i64 62 (by decide) (fun n h0 h1 => ?_) 8 _ _ ?_ ?_ ?_ ?_ ?_ ?_
 ·rw [IntKind.wrap_i64]
  rw [e62] at h1
  omega
 ·omega
 ·rw [e8]; omega
 ·rw [e62]; omega
 ·omega
 ·rw [e8]; omega
 ·rw [e62]; omega
theorem PV.lenlit2 {α : Type} {d : Kd α} {X : Nat → Prop} {w : World} {v : Value} {xs : List α} (h : PV d X w v xs) (n : Nat) (hn : xs.length = n) : ∃ A c, v = .slice A n c := by
 obtain ⟨A, c, e, _⟩ := h
 exact ⟨A, c, by rw [e, hn]⟩
set_option maxHeartbeats 4000000 in
theorem rtwo_calls (X : Nat → Prop) (w0 w : World) (L : List PX.Item) (i g : Nat) (vb : Value) (r : Rd) (hs : Sep X w0 w L) (hi : L[i]? = some (.box g 60 [vb, .bool r.short])) (hb : PV kU8 X w0 vb r.b) (hu : U8s r.b) :
  Calls Tryd.prog 24 #[.pointer (some ⟨g, 0, none⟩)] w fun e w' => e = .returned (.int .i64 (twoR r).1) ∧ ∃ vb', PV kU8 X w0 vb' (twoR r).2.b ∧ Sep X w0 w' (L.set i (.box g 60 [vb', .bool (twoR r).2.short])) := by
 have HS := Aside0.mk hs
 have HB := Aside0.mk hb
 have HI := Aside0.mk hi
 have HTL := Aside0.mk (takeR_len 2 r)
 have HTU := Aside0.mk (takeR_u8 2 hu)
 obtain ⟨q, hq⟩ : ∃ q, q = takeR 2 r := ⟨_, rfl⟩
 have HQ := Aside0.mk hq.symm
 rw [show twoR r = (q.1.getD 0 0 * 256 + q.1.getD 1 0, q.2) by rw [hq]; rfl]
 rw [← hq] at HTL HTU
 obtain ⟨p0, hp0, hp1⟩ := u8s_at HTU.out.1 0 (by rw [HTL.out]; decide)
 obtain ⟨p2, hp2, hp3⟩ := u8s_at HTU.out.1 1 (by rw [HTL.out]; decide)
 rw [hp0, hp2]
 have HP := Aside0.mk (And.intro hp0 hp2)
 have HOR := Aside0.mk (show bits .or .i64 (wrap64 (wrap64 (p0 : Int) * 256)) (wrap64 (p2 : Int)) = (p0 : Int) * 256 + (p2 : Int) by
  rw [IntWalk.wrap64_in (p0 : Int) (by omega), IntWalk.wrap64_in ((p0 : Int) * 256) (by omega), IntWalk.wrap64_in (p2 : Int) (by omega)]
  exact or8 hp1 hp3)
 have HPP := Aside0.mk (And.intro hp1 hp3)
 clear hp0 hp2 hp1 hp3
 clear hs hi hb hu hq
 go_enter Tryd.func24, Tryd.ntmps24
 go_upto_region 2 with (first
  | (go_at_call 27; (refine (take_calls X w0 _ L i g _ r 2 HS.out HI.out HB.out (by decide)).mono ?_); rintro ee w5 ⟨v5, rfl, hv, vb', hb', hs⟩; rw [HQ.out] at hv hb' hs; obtain ⟨A5, c5, e5⟩ := PV.lenlit2 hv 2 HTL.out; subst e5; have HV := Aside0.mk hv; have HB2 := Aside0.mk hb'; clear HS hv hb'; have HS := Aside0.mk hs; clear hs))
 obtain ⟨ad, cd, ed, ya⟩ := u8_cell HV.out 0 (by rw [HTL.out]; decide)
 rw [HTL.out] at ed
 cases ed
 obtain ⟨ad2, cd2, ed2, yb⟩ := u8_cell HV.out 1 (by rw [HTL.out]; decide)
 rw [HTL.out] at ed2
 cases ed2
 change World.cell? _ ad = _ at ya
 rw [add_pos _ (by decide)] at yb
 rw [HP.out.1] at ya
 rw [HP.out.2] at yb
 go_wp2_with fail
 go_quiet (fail)
 rw [HOR.out]
 go_wp2_with fail
 go_ret
 exact ⟨rfl, _, HB2.out, HS.out.drewN nq⟩
def oneR (r : Rd) : Int × Rd := ((takeR 1 r).1.getD 0 0, (takeR 1 r).2)
def twoM (r : Rd) : Int × Rd := ((twoR r).1 - 1, (twoR r).2)
theorem twoR_in {r : Rd} (hu : U8s r.b) : 0 ≤ (twoR r).1 ∧ (twoR r).1 < 65536 := by
 have h := (takeR_u8 2 hu).1
 have hl := takeR_len 2 r
 obtain ⟨p0, hp0, hp1⟩ := u8s_at h 0 (by omega)
 obtain ⟨p2, hp2, hp3⟩ := u8s_at h 1 (by omega)
 unfold twoR
 dsimp only
 rw [hp0, hp2]
 omega
set_option maxHeartbeats 4000000 in
theorem rd1_calls (X : Nat → Prop) (w0 w : World) (L : List PX.Item) (i j g gp : Nat) (vb : Value) (r : Rd) (hs : Sep X w0 w L) (hi : L[i]? = some (.box g 60 [vb, .bool r.short])) (hj : L[j]? = some (.box gp 58 [.pointer (some ⟨g, 0, none⟩)])) (hb : PV kU8 X w0 vb r.b) (hu : U8s r.b) :
  Calls Tryd.prog 26 #[.pointer (some ⟨gp, 0, none⟩)] w fun e w' => e = .returned (.int .i64 (oneR r).1) ∧ ∃ vb', PV kU8 X w0 vb' (oneR r).2.b ∧ Sep X w0 w' (L.set i (.box g 60 [vb', .bool (oneR r).2.short])) := by
 have HS := Aside0.mk hs
 have HB := Aside0.mk hb
 have HI := Aside0.mk hi
 have x0 := (hs.box j hj).cell 0 rfl
 have HTL := Aside0.mk (takeR_len 1 r)
 have HTU := Aside0.mk (takeR_u8 1 hu)
 obtain ⟨q, hq⟩ : ∃ q, q = takeR 1 r := ⟨_, rfl⟩
 have HQ := Aside0.mk hq.symm
 rw [show oneR r = (q.1.getD 0 0, q.2) by rw [hq]; rfl]
 rw [← hq] at HTL HTU
 obtain ⟨p0, hp0, hp1⟩ := u8s_at HTU.out.1 0 (by rw [HTL.out]; decide)
 rw [hp0]
 have HP := Aside0.mk hp0
 have HW := Aside0.mk (show wrap64 (p0 : Int) = (p0 : Int) from IntWalk.wrap64_in _ (by omega))
 clear hs hi hj hb hu hq hp0 hp1
 go_enter Tryd.func26, Tryd.ntmps26
 go_wp2_with (first
  | (go_at_call 27; (refine (take_calls X w0 _ L i g _ r 1 HS.out HI.out HB.out (by decide)).mono ?_); rintro ee w5 ⟨v5, rfl, hv, vb', hb', hs⟩; rw [HQ.out] at hv hb' hs; obtain ⟨A5, c5, e5⟩ := PV.lenlit2 hv 1 HTL.out; subst e5; have HV := Aside0.mk hv; have HB2 := Aside0.mk hb'; clear HS hv hb' x0; have HS := Aside0.mk hs; clear hs; obtain ⟨ad, cd, ed, ya⟩ := u8_cell HV.out 0 (by rw [HTL.out]; decide); rw [HTL.out] at ed; cases ed; change World.cell? _ ad = _ at ya; rw [HP.out] at ya))
 rw [HW.out]
 go_ret
 exact ⟨rfl, _, HB2.out, HS.out⟩
set_option maxHeartbeats 4000000 in
theorem rd2_calls (X : Nat → Prop) (w0 w : World) (L : List PX.Item) (i j g gp : Nat) (vb : Value) (r : Rd) (hs : Sep X w0 w L) (hi : L[i]? = some (.box g 60 [vb, .bool r.short])) (hj : L[j]? = some (.box gp 58 [.pointer (some ⟨g, 0, none⟩)])) (hb : PV kU8 X w0 vb r.b) (hu : U8s r.b) :
  Calls Tryd.prog 29 #[.pointer (some ⟨gp, 0, none⟩)] w fun e w' => e = .returned (.int .i64 (twoM r).1) ∧ ∃ vb', PV kU8 X w0 vb' (twoM r).2.b ∧ Sep X w0 w' (L.set i (.box g 60 [vb', .bool (twoM r).2.short])) := by
 have HS := Aside0.mk hs
 have HB := Aside0.mk hb
 have HI := Aside0.mk hi
 have HU := Aside0.mk hu
 have x0 := (hs.box j hj).cell 0 rfl
 obtain ⟨h0, h1⟩ := twoR_in hu
 obtain ⟨⟨q1, q2⟩, hq⟩ : ∃ q, q = twoR r := ⟨_, rfl⟩
 have HQ := Aside0.mk hq.symm
 rw [show twoM r = (q1 - 1, q2) by unfold twoM; rw [← hq]]
 rw [← hq] at h0 h1
 have HW := Aside0.mk (show wrap64 (q1 - 1) = q1 - 1 from IntWalk.wrap64_in _ (by dsimp only at h0 h1; omega))
 clear hs hi hj hb hu hq h0 h1
 go_enter Tryd.func29, Tryd.ntmps29
 go_wp2_with (first
  | (go_at_call 24; (refine (rtwo_calls X w0 _ L i g _ r HS.out HI.out HB.out HU.out).mono ?_); rintro ee w5 ⟨rfl, vb', hb', hs⟩; rw [HQ.out] at hb' hs ⊢; have HB2 := Aside0.mk hb'; clear HS hb' x0; have HS := Aside0.mk hs; clear hs))
 rw [HW.out]
 go_ret
 exact ⟨rfl, _, HB2.out, HS.out⟩
end Go.Proofs.YtplhfgobeicegaaDoor.P
namespace Go.Proofs.YtplhfgobeicegaaDoor.P
open Go Go.RowKit Go.Proofs.YtplhfgobeicegaaDoorW.PrintWords Go.Proofs.YtplhfgobeicegaaDoorW.PrintLast Go.Proofs.YtplhfgobeicegaaDoorW.PrintMore Go.Proofs.YtplhfgobeicegaaDoor.PX
set_option linter.unusedVariables false
set_option linter.unusedSimpArgs false
set_option maxRecDepth 100000
theorem and_n {n : Nat} (h : n < 4294967296) : bits .and .u64 (n : Int) 4294967295 = (n : Int) := by
 have e := bits_and_u64_nat n 4294967295 (by omega) (by omega)
 rw [show ((4294967295 : Nat) : Int) = 4294967295 from rfl] at e
 rw [e, show n &&& 4294967295 = n % 4294967296 from Nat.and_two_pow_sub_one_eq_mod n 32, Nat.mod_eq_of_lt h]
set_option maxHeartbeats 4000000 in
theorem mul64_calls (n : Nat) (hn : n < 1000) (w : World) :
  Calls Tryd.prog 68 #[.int .u64 1, .int .u64 n] w fun e w' => e = .returned (.tuple #[.int .u64 0, .int .u64 n]) ∧ w' = w := by
 have a1 : bits .and .u64 1 4294967295 = 1 := by have := and_n (n := 1) (by decide); exact this
 have a2 : bits .and .u64 (n : Int) 4294967295 = (n : Int) := and_n (by omega)
 have a3 : bits .and .u64 0 4294967295 = 0 := by have := and_n (n := 0) (by decide); exact this
 have a4 : (n : Int) / 4294967296 = 0 := by omega
 have a5 : IntKind.u64.wrap (n : Int) = (n : Int) := by rw [IntKind.wrap_u64]; omega
 have a6 : IntKind.u64.wrap 0 = 0 := by rw [IntKind.wrap_u64]; rfl
 go_enter Tryd.func68, Tryd.ntmps68
 go_wp2_with fail
 go_ret2
 exact ⟨rfl, rfl⟩
theorem mul_calls (n : Nat) (hn : n < 1000) (w : World) :
  Calls Tryd.prog 49 #[.int .u64 1, .int .u64 n] w fun e w' => e = .returned (.tuple #[.int .u64 0, .int .u64 n]) ∧ w' = w := by
 go_enter Tryd.func49, Tryd.ntmps49
 go_wp2_with (first
  | (go_at_call 68; (with_reducible refine (mul64_calls n hn _).mono ?_); rintro ee w5 ⟨rfl, rfl⟩))
 go_ret2
 exact ⟨rfl, rfl⟩
def rep (x : Int) (o N : Nat) : List Int := List.replicate o x ++ List.replicate (N - o) 0
theorem rep_len (x : Int) (o N : Nat) (h : o ≤ N) : (rep x o N).length = N := by simp [rep]; omega
theorem rep_set (x : Int) (o N : Nat) (h : o < N) : (rep x o N).set o x = rep x (o + 1) N := by
 unfold rep
 rw [List.set_append_right _ _ (by simp), List.length_replicate, Nat.sub_self, show N - o = (N - (o + 1)) + 1 by omega, List.replicate_succ, List.set_cons_zero, List.replicate_succ', List.append_assoc]
 rfl
theorem rep_at (x : Int) (o N j : Nat) (h : j < o) : (rep x o N).getD j 0 = x := by
 unfold rep
 rw [List.getD_eq_getElem?_getD, List.getElem?_append_left (by simpa using h), List.getElem?_replicate, if_pos h]
 rfl
theorem Sep.set_int' {k : IntKind} {X : Nat → Prop} {w0 w : World} {L : List PX.Item} {e g n c : Nat} {ns : List Int} (h : PX.Sep X w0 w L) (i : Nat) (hi : L[i]? = some (.row (Kd.int k) e (.slice (some ⟨g, 0, none⟩) n c) ns)) (j : Nat) (hj : j < ns.length) (q : Int) : PX.Sep X w0 (w.setCell ⟨g, j, none⟩ (.int k q)) (L.set i (.row (Kd.int k) e (.slice (some ⟨g, 0, none⟩) n c) (ns.set j q))) := by
 obtain ⟨g', c', e1, _, _, h2⟩ := h.int i hi j hj
 have e2 := h2 q
 cases e1
 exact e2
theorem Sep.fill {X : Nat → Prop} {w0 : World} {e g N c i : Nat} {x : Int} : ∀ (k o : Nat) (w : World) (L : List PX.Item), PX.Sep X w0 w L → L[i]? = some (.row kInt e (.slice (some ⟨g, 0, none⟩) N c) (rep x o N)) → o + k ≤ N →
  PX.Sep X w0 (w.setCells g o (List.replicate k (.int .i64 x))) (L.set i (.row kInt e (.slice (some ⟨g, 0, none⟩) N c) (rep x (o + k) N)))
 | 0, o, w, L, h, hi, hN => by
  show PX.Sep X w0 w _
  rw [Nat.add_zero]
  obtain ⟨h1, h2⟩ := List.getElem?_eq_some_iff.1 hi
  rw [← h2, List.set_getElem_self]
  exact h
 | k + 1, o, w, L, h, hi, hN => by
  have hlt : i < L.length := (List.getElem?_eq_some_iff.1 hi).1
  have h1 := Sep.set_int' h i hi o (by rw [rep_len _ _ _ (by omega)]; omega) x
  rw [rep_set x o N (by omega)] at h1
  have h2 := Sep.fill k (o + 1) _ _ h1 (List.getElem?_set_self hlt) (by omega)
  rw [List.set_set, show o + 1 + k = o + (k + 1) by omega] at h2
  exact h2
theorem copy_eq {P : Program} {t t' e ty : TypeId} (ht : P.underlying t = some (.slice e)) (hinfo : (P.info? e).map (·.size) = some 1)
  {X : Nat → Prop} {w0 W : World} {L : List PX.Item} {i g N c E off dLen dCap sLen sCap k : Nat} {ad : Addr} {x : Int} (HS : PX.Sep X w0 W L) (hi : L[i]? = some (.row kInt E (.slice (some ⟨g, 0, none⟩) N c) (rep x off N)))
  (hk : Nat.min sLen dLen = k) (hN : off + k ≤ N) (hsrc : ∀ j, j < k → W.cell? (ad.add j) = some (.int .i64 x)) :
  (Builtin.copy_ #[t, t'] ty #[.slice (some ⟨g, off, none⟩) dLen dCap, .slice (some ad) sLen sCap]).run P W = .ok (.int .i64 (k : Int)) (W.setCells g off (List.replicate k (.int .i64 x))) := by
 have hcell : ∀ j, j < k → ∃ u, W.cell? ⟨g, off + j, none⟩ = some u ∧ W.frozen? ⟨g, off + j, none⟩ = false := fun j hj => by
  obtain ⟨g', c', e1, h1, h2, _⟩ := HS.int i hi (off + j) (by rw [rep_len _ _ _ (by omega)]; omega)
  obtain ⟨h3, _, _⟩ := Value.slice.inj e1
  cases h3
  exact ⟨_, h1, h2⟩
 have hr1 := run_copy_cells (P := P) W t t' ty e g off dLen dCap ad sLen sCap (List.replicate k (.int .i64 x)) ht hinfo (by rw [List.length_replicate]; exact hk.symm)
  (fun j v hv => by
   rw [List.getElem?_replicate] at hv
   split at hv
   ·next h => cases hv; exact hsrc j h
   ·cases hv)
  (fun j hj => by rw [List.length_replicate] at hj; obtain ⟨u, h1, _⟩ := hcell j hj; rw [h1]; rfl)
  (fun j hj => by rw [List.length_replicate] at hj; obtain ⟨u, _, h2⟩ := hcell j hj; exact h2)
  (fun v hv => by rw [List.eq_of_mem_replicate hv]; rfl)
 rw [List.length_replicate] at hr1
 exact hr1
theorem src_of {X : Nat → Prop} {w0 w : World} {L : List PX.Item} {i e g c o N : Nat} {x : Int} (h : PX.Sep X w0 w L) (hi : L[i]? = some (.row kInt e (.slice (some ⟨g, 0, none⟩) N c) (rep x o N))) (k : Nat) (hk : k ≤ o) (hN : o ≤ N) : ∀ j, j < k → w.cell? ((⟨g, 0, none⟩ : Addr).add j) = some (.int .i64 x) := by
 intro j hj
 obtain ⟨g', c', e1, h1, _, _⟩ := h.int i hi j (by rw [rep_len _ _ _ hN]; omega)
 obtain ⟨h3, _, _⟩ := Value.slice.inj e1
 cases h3
 rw [rep_at x o N j (by omega)] at h1
 rw [← h1]
 congr 1
 unfold Addr.add
 split
 ·next h0 => subst h0; rfl
 ·simp
set_option maxHeartbeats 8000000 in
theorem repeat_calls (X : Nat → Prop) (w0 w : World) (L : List PX.Item) (v : Value) (x : Int) (n : Nat) (hs : Sep X w0 w L) (hv : PV kInt (Ys X L) w v [x]) (hn : 1 ≤ n ∧ n < 1000) :
  Calls Tryd.prog 40 #[v, .int .i64 n] w fun e w' => ∃ v1, e = .returned v1 ∧ Sep X w0 w' (L ++ [.ro kInt v1 (List.replicate n x)]) := by
 obtain ⟨hn1, hn2⟩ := hn
 obtain ⟨ad, cd, ed, ya⟩ := int_cell hv 0 (by simp)
 change World.cell? _ ad = some (.int .i64 x) at ya
 rw [show [x].length = 1 from rfl] at ed
 subst ed
 have HS := Aside0.mk (hs.push_ro (Below.refl _ _) hv)
 have HV := Aside0.mk hv
 clear hs hv
 have d1 : decide ((n : Int) < 0) = false := decide_eq_false (by omega)
 have d1' : ¬ (n : Int) < 0 := by omega
 have a5 : IntKind.u64.wrap (n : Int) = (n : Int) := by rw [IntKind.wrap_u64]; omega
 have a6 : IntKind.u64.wrap 1 = 1 := by rw [IntKind.wrap_u64]; rfl
 have d2 : decide ((n : Int) > 9223372036854775807) = false := decide_eq_false (by omega)
 have d2' : ¬ 9223372036854775807 < (n : Int) := by omega
 have hw : wrap64 (n : Int) = (n : Int) := IntWalk.wrap64_in _ (by omega)
 go_enter Tryd.func40, Tryd.ntmps40
 go_upto_region 7 with (first
  | (go_at_call 49; (with_reducible refine (mul_calls n hn2 _).mono ?_); rintro ee w5 ⟨rfl, rfl⟩)
  | ((with_reducible refine gate_dst (N := 30) rfl ?_); refine smake .i64 3 rfl (N := 30) rfl 34 (.tmp 29) (.tmp 29) rfl n rfl rfl Tryd.underlying34 8 info3' (by omega) (by omega) HS.out ?_; clear HS; intro v30 w30 hs; have HS := Aside0.mk hs; clear hs))
 obtain ⟨M, hM⟩ : ∃ M, M = L ++ [PX.Item.ro kInt (.slice (some ad) 1 cd) [x]] := ⟨_, rfl⟩
 have HM := Aside0.mk hM
 rw [← hM] at HS
 clear hM
 obtain ⟨g, cg, eg, _, _, _⟩ := HS.out.int M.length List.getElem?_concat_length 0 (by rw [List.length_replicate]; omega)
 rw [List.length_replicate] at eg
 subst eg
 obtain ⟨_, _, e7', hle, _⟩ := (HS.out.row M.length List.getElem?_concat_length).now
 rw [List.length_replicate] at hle
 have hcg : n ≤ cg := by obtain ⟨_, _, h3⟩ := Value.slice.inj e7'; omega
 have HS2 : Sep X w0 w30 (M ++ [.row kInt 3 (.slice (some ⟨g, 0, none⟩) n cg) (rep x 0 n)]) := by
  rw [show rep x 0 n = List.replicate n 0 by simp [rep]]
  exact HS.out
 clear HS hle e7'
 have HS := Aside0.mk HS2
 clear HS2
 have ya2 : w30.cell? ad = some (.int .i64 x) := by
  obtain ⟨ad2, cd2, ed2, y2⟩ := int_cell (HS.out.ro L.length (by rw [HM.out, List.append_assoc, List.getElem?_append_right (Nat.le_refl _), Nat.sub_self]; rfl) (d := kInt) (v := .slice (some ad) 1 cd) (xs := [x])) 0 (by simp)
  obtain ⟨h3, _, _⟩ := Value.slice.inj ed2
  cases h3
  exact y2
 have HYA := Aside0.mk ya2
 have HSRC := Aside0.mk (show ∀ j, j < 1 → w30.cell? (ad.add j) = some (.int .i64 x) from fun j hj => by
  have h0 : j = 0 := Nat.lt_one_iff.1 hj
  subst h0
  exact ya2)
 have hmin : Nat.min 1 n = 1 := Nat.min_eq_left hn1
 clear ya ya2 HV
 have kc := copy_eq (P := Tryd.prog) (t := 34) (t' := 34) (ty := 3) (e := 3) (dLen := n) (dCap := cg) (sLen := 1) (sCap := cd) Tryd.underlying34 (by rfl) HS.out List.getElem?_concat_length hmin (by omega) (ad := ad) (x := x) HSRC.out
 have hs := Sep.fill 1 0 w30 _ HS.out List.getElem?_concat_length (by omega)
 obtain ⟨w31, hw31⟩ : ∃ y, y = w30.setCells g 0 (List.replicate 1 (.int .i64 x)) := ⟨_, rfl⟩
 rw [← hw31] at kc hs
 clear HS HYA hmin hw31
 have HS := Aside0.mk hs
 clear hs
 go_wp2_with fail
 have eset : ∀ a b : PX.Item, (M ++ [a]).set M.length b = M ++ [b] := fun a b => by rw [List.set_append_right _ _ (Nat.le_refl _), Nat.sub_self]; rfl
 have HS1 : Sep X w0 w31 (M ++ [.row kInt 3 (.slice (some ⟨g, 0, none⟩) n cg) (rep x 1 n)]) := by
  have h := HS.out
  rw [eset] at h
  exact h
 clear HS kc HSRC
 have HS := Aside0.mk HS1
 have HES := Aside0.mk eset
 clear HS1 eset d1 d1' a5 a6 d2 d2' hw
 go_loopg [8] (n - 1) (fun m v8 w' => ∃ (o : Nat), v8 = .int .i64 o ∧ Aside0 (o + m = n ∧ 1 ≤ o) ∧ Aside0 (Sep X w0 w' (M ++ [.row kInt 3 (.slice (some ⟨g, 0, none⟩) n cg) (rep x o n)])))
 case atStart => exact ⟨1, rfl, ⟨by omega, by omega⟩, HS⟩
 case round =>
  clear HS
  obtain ⟨o, rfl, HO, HS⟩ := hrel
  cases gk with
  | zero =>
   have ho : o = n := by have := HO.out.1; omega
   have e1 : decide ((o : Int) < (n : Int)) = false := decide_eq_false (by omega)
   have e2 : decide (o < n) = false := decide_eq_false (by omega)
   subst ho
   go_wp2_with fail
   go_ret
   have h1 := HS.out.sealRo M.length List.getElem?_concat_length
   rw [HES.out, HM.out, show rep x o o = List.replicate o x by simp [rep]] at h1
   refine ⟨_, rfl, h1.sub ?_⟩
   rw [List.append_assoc]
   exact List.Sublist.append_left (List.sublist_append_right _ _) L
  | succ k1 =>
   have hon : o < n := by have := HO.out.1; omega
   have ho1 := HO.out.2
   have e1 : decide ((o : Int) < (n : Int)) = true := decide_eq_true (by omega)
   have e2 : decide (o < n) = true := decide_eq_true hon
   have hco : ¬ cg = o := by omega
   have ho0 : (0 : Int) ≤ (o : Int) := by omega
   have hoi : (o : Int) ≤ (n : Int) := by omega
   have hoc : (o : Int) ≤ (cg : Int) := by omega
   have hoc' : o ≤ cg := by omega
   obtain ⟨kk, hkk⟩ : ∃ k, k = Nat.min o (n - o) := ⟨_, rfl⟩
   have HKK := Aside0.mk hkk.symm
   have HKN := Aside0.mk (show o + kk ≤ n ∧ kk ≤ o ∧ 1 ≤ kk ∧ o ≤ n by have hk2 : kk = min o (n - o) := hkk; omega)
   clear hkk
   go_wp2_with fail
   have hs := HS.out.drew
   clear HS; have HS := Aside0.mk hs; clear hs
   refine start_ (n := 10) (S := fun w' => True) (ds := []) #[false, false, false, false, false, false, false, false, false, false] (by kernel_rfl) rfl rfl trivial (fun hHeld => ?_)
   refine pure_ (i := 0) (N := some 38) (v := ?_) (a' := ?_) #[true, false, false, false, false, false, false, false, false, false] rfl rfl (by kernel_rfl) (fun _ _ _ h => h) (Or.inl ⟨by rfl, ?_⟩) ?_ ?_
   rotate_left
   ·intro w'
    go_simp
    with_reducible rfl
   rotate_left
   ·simp only [Act.put, List.setIfInBounds_toArray, List.set_cons_zero, List.set_cons_succ, i64_w, i32_w]
    rfl
   refine pure_ (i := 1) (N := some 39) (v := ?_) (a' := ?_) #[true, true, false, false, false, false, false, false, false, false] rfl rfl (by kernel_rfl) (fun _ _ _ h => h) (Or.inl ⟨by rfl, ?_⟩) ?_ ?_
   rotate_left
   ·intro w'
    go_simp
    with_reducible rfl
   rotate_left
   ·simp only [Act.put, List.setIfInBounds_toArray, List.set_cons_zero, List.set_cons_succ, i64_w, i32_w]
    rfl
   refine pure_ (i := 2) (N := some 40) (v := ?_) (a' := ?_) #[true, true, true, false, false, false, false, false, false, false] rfl rfl (by kernel_rfl) (fun _ _ _ h => h) (Or.inl ⟨by rfl, ?_⟩) ?_ ?_
   rotate_left
   ·intro w'
    go_simp
    with_reducible rfl
   rotate_left
   ·simp only [Act.put, List.setIfInBounds_toArray, List.set_cons_zero, List.set_cons_succ, i64_w, i32_w]
    rfl
   refine pure_ (i := 3) (N := some 41) (v := ?_) (a' := ?_) #[true, true, true, true, false, false, false, false, false, false] rfl rfl (by kernel_rfl) (fun _ _ _ h => h) (Or.inl ⟨by rfl, ?_⟩) ?_ ?_
   rotate_left
   ·intro w'
    go_simp
    with_reducible rfl
   rotate_left
   ·simp only [Act.put, List.setIfInBounds_toArray, List.set_cons_zero, List.set_cons_succ, i64_w, i32_w]
    rfl
   refine pure_ (i := 4) (N := some 42) (v := ?_) (a' := ?_) #[true, true, true, true, true, false, false, false, false, false] rfl rfl (by kernel_rfl) (fun _ _ _ h => h) (Or.inl ⟨by rfl, ?_⟩) ?_ ?_
   rotate_left
   ·intro w'
    go_simp
    with_reducible rfl
   rotate_left
   ·simp only [Act.put, List.setIfInBounds_toArray, List.set_cons_zero, List.set_cons_succ, i64_w, i32_w]
    rfl
   refine pure_ (i := 5) (N := some 43) (v := ?_) (a' := ?_) #[true, true, true, true, true, true, false, false, false, false] rfl rfl (by kernel_rfl) (fun _ _ _ h => h) (Or.inl ⟨by rfl, ?_⟩) ?_ ?_
   rotate_left
   ·intro w'
    go_simp
    with_reducible rfl
   rotate_left
   ·simp only [Act.put, List.setIfInBounds_toArray, List.set_cons_zero, List.set_cons_succ, i64_w, i32_w]
    rfl
   refine pure_ (i := 6) (N := some 44) (v := ?_) (a' := ?_) #[true, true, true, true, true, true, true, false, false, false] rfl rfl (by kernel_rfl) (fun _ _ _ h => h) (Or.inl ⟨by rfl, ?_⟩) ?_ ?_
   rotate_left
   ·intro w'
    go_simp
    with_reducible rfl
   rotate_left
   ·simp only [Act.put, List.setIfInBounds_toArray, List.set_cons_zero, List.set_cons_succ, i64_w, i32_w]
    rfl
   refine one_ (i := 7) (N := some 45) #[true, true, true, true, true, true, true, true, false, false] rfl rfl (by kernel_rfl) (by decide) (fun K hK => ?_)
   have kc2 := copy_eq (P := Tryd.prog) (t := 34) (t' := 34) (ty := 3) (e := 3) (dLen := n - o) (dCap := cg - o) (sLen := o) (sCap := cg) Tryd.underlying34 (by rfl) HS.out List.getElem?_concat_length HKK.out HKN.out.1 (src_of HS.out List.getElem?_concat_length kk HKN.out.2.1 HKN.out.2.2.2)
   refine value_ (w1 := ?_) (v := ?_) (by rfl) rfl ?_ ?_
   rotate_left 2
   ·go_simp
    constructor
    ·rfl
    ·rfl
   have hs := Sep.fill kk o _ _ HS.out List.getElem?_concat_length HKN.out.1
   rw [HES.out] at hs
   clear HS; have HS := Aside0.mk hs; clear hs
   refine hK.out _ _ trivial (fun hHeld => ?_)
   clear hK K
   refine norm_ (a' := ?_) ?_ ?_
   rotate_left
   ·show Act.put _ (some 45) _ = _
    simp only [Act.put, List.setIfInBounds_toArray, List.set_cons_zero, List.set_cons_succ, i64_w, i32_w]
    rfl
   refine pure_ (i := 8) (N := some 46) (v := ?_) (a' := ?_) #[true, true, true, true, true, true, true, true, true, false] rfl rfl (by kernel_rfl) (fun _ _ _ h => h) (Or.inl ⟨by rfl, ?_⟩) ?_ ?_
   rotate_left
   ·intro w'
    go_simp
    with_reducible rfl
   rotate_left
   ·simp only [Act.put, List.setIfInBounds_toArray, List.set_cons_zero, List.set_cons_succ, i64_w, i32_w]
    rfl
   refine pure_ (i := 9) (N := some 8) (v := ?_) (a' := ?_) #[true, true, true, true, true, true, true, true, true, true] rfl rfl (by kernel_rfl) (fun _ _ _ h => h) (Or.inl ⟨by rfl, ?_⟩) ?_ ?_
   rotate_left
   ·intro w'
    go_simp
    with_reducible rfl
   rotate_left
   ·simp only [Act.put, List.setIfInBounds_toArray, List.set_cons_zero, List.set_cons_succ, i64_w, i32_w]
    rfl
   refine done_ (by kernel_rfl) ?_
   go_wp2_with fail
   rw [IntWalk.wrap64_in ((o : Int) + (kk : Int)) (by have := HKN.out; omega)]
   go_roundg (n - (o + kk))
   case measure => have := HKN.out; have := HO.out.1; omega
   case rel => exact ⟨o + kk, by go_num, ⟨by have := HKN.out.1; omega, by have := HKN.out.2.2.1; omega⟩, HS⟩
end Go.Proofs.YtplhfgobeicegaaDoor.P
namespace Go.Proofs.YtplhfgobeicegaaDoor.P
open Go Go.RowKit Go.Proofs.YtplhfgobeicegaaDoorW.PrintWords Go.Proofs.YtplhfgobeicegaaDoorW.PrintLast Go.Proofs.YtplhfgobeicegaaDoorW.PrintMore Go.Proofs.YtplhfgobeicegaaDoor.PX
set_option linter.unusedVariables false
set_option linter.unusedSimpArgs false
set_option maxRecDepth 100000
def rowR (read : Rd → Int × Rd) (many : Nat) : Nat → List Int → Rd → List Int × Rd
  | 0, l, r => (l, r)
  | f + 1, l, r => if l.length < many ∧ r.short = false then
      (if (oneR r).1 = 0 ∨ ((many - l.length : Nat) : Int) < (oneR r).1 then ([], ⟨(oneR r).2.b, true⟩)
       else rowR read many f (l ++ List.replicate (oneR r).1.toNat (read (oneR r).2).1) (read (oneR r).2).2)
    else (l, r)
set_option linter.unusedSectionVars false
section
variable (L : List PX.Item) (i : Nat) (hlt : i < L.length)
include hlt
theorem lr_i (b z : PX.Item) : (L.set i b ++ [z])[i]? = some b := by
 rw [List.getElem?_append_left (by rw [List.length_set]; exact hlt)]
 exact List.getElem?_set_self hlt
theorem lr_j (j : Nat) (hij : i ≠ j) (c : PX.Item) (hj : L[j]? = some c) (b z : PX.Item) : (L.set i b ++ [z])[j]? = some c := by
 have hjl := (List.getElem?_eq_some_iff.1 hj).1
 rw [List.getElem?_append_left (by rw [List.length_set]; exact hjl), List.getElem?_set_ne hij]
 exact hj
theorem lr_set (b b' z : PX.Item) : (L.set i b ++ [z]).set i b' = L.set i b' ++ [z] := by
 rw [List.set_append_left _ _ (by rw [List.length_set]; exact hlt), List.set_set]
theorem lr_n (b z : PX.Item) : (L.set i b ++ [z])[L.length]? = some z := by
 rw [List.getElem?_append_right (by rw [List.length_set]; exact Nat.le_refl _), List.length_set, Nat.sub_self]
 rfl
theorem lr_setn (b z z' : PX.Item) : (L.set i b ++ [z]).set L.length z' = L.set i b ++ [z'] := by
 rw [List.set_append_right _ _ (by rw [List.length_set]; exact Nat.le_refl _), List.length_set, Nat.sub_self]
 rfl
end
theorem lr_n3 (L : List PX.Item) (i : Nat) (b z x y : PX.Item) : (((L.set i b ++ [z]) ++ [x]) ++ [y])[L.length]? = some z := by
 rw [List.append_assoc, List.append_assoc, List.getElem?_append_right (by rw [List.length_set]; exact Nat.le_refl _), List.length_set, Nat.sub_self]
 rfl
theorem lr_set3 (L : List PX.Item) (i : Nat) (b z x y z' : PX.Item) : (((L.set i b ++ [z]) ++ [x]) ++ [y]).set L.length z' = (((L.set i b ++ [z']) ++ [x]) ++ [y]) := by
 rw [List.append_assoc, List.append_assoc, List.set_append_right _ _ (by rw [List.length_set]; exact Nat.le_refl _), List.length_set, Nat.sub_self, List.append_assoc, List.append_assoc]
 rfl
set_option maxHeartbeats 16000000 in
theorem row1_calls (X : Nat → Prop) (w0 w : World) (L : List PX.Item) (i j g gp : Nat) (vb : Value) (r : Rd) (many : Nat) (hs : Sep X w0 w L) (hij : i ≠ j) (hi : L[i]? = some (.box g 60 [vb, .bool r.short])) (hj : L[j]? = some (.box gp 58 [.pointer (some ⟨g, 0, none⟩)])) (hb : PV kU8 X w0 vb r.b) (hu : U8s r.b) (hm : many ≤ 1000) :
  Calls Tryd.prog 25 #[.pointer (some ⟨g, 0, none⟩), .int .i64 many, .func (.func 26) #[] #[.pointer (some ⟨gp, 0, none⟩)]] w fun e w' => ∃ v, e = .returned v ∧ ∃ vb', PV kU8 X w0 vb' (rowR oneR many many [] r).2.b ∧ Sep X w0 w' (L.set i (.box g 60 [vb', .bool (rowR oneR many many [] r).2.short]) ++ [.row kInt 3 v (rowR oneR many many [] r).1]) := by
 have hlt : i < L.length := (List.getElem?_eq_some_iff.1 hi).1
 have HI := Aside0.mk (lr_i L i hlt)
 have HJ := Aside0.mk (lr_j L i hlt j hij _ hj)
 have HN := Aside0.mk (lr_n L i hlt)
 have HSI := Aside0.mk (lr_set L i hlt)
 have HSN := Aside0.mk (lr_setn L i hlt)
 have eg : ∀ args w, (callFunc 26 args).run Tryd.prog w = .ok (.enter 26 args) w := fun args w => enters_ Tryd.func26 rfl rfl args w
 have hs2 : Sep X w0 w (L.set i (.box g 60 [vb, .bool r.short]) ++ [.row kInt 3 (.slice none 0 0) []]) := by
  rw [show L.set i (.box g 60 [vb, .bool r.short]) = L from by
   obtain ⟨h1, h2⟩ := List.getElem?_eq_some_iff.1 hi
   rw [← h2]; exact List.set_getElem_self h1]
  exact hs.push_nil kInt 3
 obtain ⟨res, hres⟩ : ∃ q, q = rowR oneR many many [] r := ⟨_, rfl⟩
 rw [← hres]
 have HR := Aside0.mk hres.symm
 have HS := Aside0.mk hs2
 have HB := Aside0.mk hb
 have HU := Aside0.mk hu
 clear hs hi hj hb hu hs2 hres hij
 go_enter Tryd.func25, Tryd.ntmps25
 go_wp2_with fail
 go_loopg [7, 8] many (fun m v7 v8 w' => ∃ (l : List Int) (r : Rd) (vb : Value) (f : Nat), Aside0 (l.length + m = many ∧ m ≤ f) ∧ Aside0 (PV kU8 X w0 vb r.b) ∧ Aside0 (U8s r.b) ∧ Aside0 (rowR oneR many f l r = res) ∧ Aside0 (Sep X w0 w' (L.set i (.box g 60 [vb, .bool r.short]) ++ [.row kInt 3 v7 l])))
 case atStart => exact ⟨[], r, vb, many, ⟨by simp, Nat.le_refl _⟩, HB, HU, HR, HS⟩
 case round =>
  clear HS HB HU HR
  obtain ⟨l, r, vb, f, HM, HB, HU, HR, HS⟩ := hrel
  obtain ⟨A7, c7, e7⟩ := HS.out.form L.length (HN.out _ _)
  subst e7
  have x1 := (HS.out.box i (HI.out _ _)).cell 1 rfl
  rcases Nat.lt_or_ge l.length many with hl | hl
  case inr =>
   have e1 : decide ((l.length : Int) < (many : Int)) = false := decide_eq_false (by omega)
   have e2 : decide (l.length < many) = false := decide_eq_false (by omega)
   have hr : (l, r) = res := by
    have h := HR.out
    cases f with
    | zero => exact h
    | succ f => rw [rowR, if_neg (fun h2 => by omega)] at h; exact h
   clear HR
   subst hr
   go_wp2_with fail
   go_ret
   exact ⟨_, rfl, vb, HB.out, HS.out⟩
  case inl =>
   have e1 : decide ((l.length : Int) < (many : Int)) = true := decide_eq_true (by omega)
   have e2 : decide (l.length < many) = true := decide_eq_true hl
   have HF := Aside0.mk (show ∃ f', f = f' + 1 by
    have := HM.out
    cases f with
    | zero => omega
    | succ f' => exact ⟨f', rfl⟩)
   obtain ⟨f', hf'⟩ := HF.out
   have HR2 := HR.out
   rw [hf', rowR] at HR2
   have HFF := Aside0.mk hf'
   clear HR HF hf'
   cases hsh : r.short
   case true =>
    rw [hsh] at x1
    have hr : (l, r) = res := by rw [if_neg (fun h2 => by rw [hsh] at h2; cases h2.2)] at HR2; exact HR2
    clear HR2
    subst hr
    have HSH := Aside0.mk hsh
    clear hsh
    go_wp2_with fail
    go_ret
    exact ⟨_, rfl, vb, HB.out, HS.out⟩
   case false =>
    rw [hsh] at x1
    rw [if_pos ⟨hl, hsh⟩] at HR2
    have HR3 := Aside0.mk HR2
    clear HR2 hsh
    obtain ⟨p0, hp0, hp1⟩ := u8s_at (takeR_u8 1 HU.out).1 0 (by rw [takeR_len]; decide)
    obtain ⟨q, hq⟩ : ∃ q, q = takeR 1 r := ⟨_, rfl⟩
    have HQ := Aside0.mk hq.symm
    have HONE := Aside0.mk (show oneR r = ((p0 : Int), q.2) by unfold oneR; rw [hp0, hq])
    have HTL := Aside0.mk (show q.1.length = 1 by rw [hq]; exact takeR_len 1 r)
    have HTU := Aside0.mk (show U8s q.1 ∧ U8s q.2.b by rw [hq]; exact takeR_u8 1 HU.out)
    have HP := Aside0.mk (show q.1.getD 0 0 = (p0 : Int) by rw [hq]; exact hp0)
    have HR4 := HR3.out
    rw [HONE.out] at HR4
    dsimp only at HR4
    have hp1' := hp1
    have hw0 : wrap64 (p0 : Int) = (p0 : Int) := IntWalk.wrap64_in _ (by omega)
    have hw1 : wrap64 ((many : Int) - (l.length : Int)) = (many : Int) - (l.length : Int) := IntWalk.wrap64_in _ (by omega)
    clear HR3 hq hp0
    have hdec : (((p0 : Int) == 0) = true ∨ (((p0 : Int) == 0) = false ∧ (many : Int) - (l.length : Int) < (p0 : Int))) ∧ ((p0 : Int) = 0 ∨ ((many - l.length : Nat) : Int) < (p0 : Int)) ∨ (((p0 : Int) == 0) = false ∧ ¬ (many : Int) - (l.length : Int) < (p0 : Int) ∧ ¬ ((p0 : Int) = 0 ∨ ((many - l.length : Nat) : Int) < (p0 : Int))) := by
     by_cases h0 : (p0 : Int) = 0
     ·exact .inl ⟨.inl (beq_iff_eq.2 h0), .inl h0⟩
     ·by_cases h1 : (many : Int) - (l.length : Int) < (p0 : Int)
      ·exact .inl ⟨.inr ⟨beq_eq_false_iff_ne.2 h0, h1⟩, .inr (by omega)⟩
      ·exact .inr ⟨beq_eq_false_iff_ne.2 h0, h1, by omega⟩
    rcases hdec with ⟨hbad, hcond⟩ | ⟨hz, hgt, hcond⟩
    case inl =>
     rw [if_pos hcond] at HR4
     clear hcond
     subst HR4
     rcases hbad with hz | ⟨hz, hgt⟩
     all_goals
      go_wp2_with (first
       | (go_at_call 27; (refine (take_calls X w0 _ _ i g vb r 1 HS.out (HI.out _ _) HB.out (by decide)).mono ?_); rintro ee w5 ⟨v5, rfl, hv, vb', hb', hs⟩; rw [HQ.out] at hv hb' hs; rw [HSI.out] at hs; obtain ⟨A5, c5, e5⟩ := PV.lenlit2 hv 1 HTL.out; subst e5; have HV := Aside0.mk hv; have HB2 := Aside0.mk hb'; clear HS hv hb' x1; have HS := Aside0.mk hs; clear hs; obtain ⟨ad, cd, ed, ya⟩ := u8_cell HV.out 0 (by rw [HTL.out]; decide); rw [HTL.out] at ed; cases ed; change World.cell? _ ad = _ at ya; rw [HP.out] at ya; have z1 := (HS.out.box i (HI.out _ _)).cell 1 rfl; have f1 := (HS.out.box i (HI.out _ _)).open_ 1))
      go_ret
      have h1 := HS.out.set_box i (HI.out _ _) 1 (.bool true)
      rw [HSI.out] at h1
      have h2 := (h1.sub (List.sublist_append_left _ _)).push_nil kInt 3
      exact ⟨_, rfl, vb', HB2.out, h2⟩
    case inr =>
     rw [if_neg hcond] at HR4
     clear hcond
     have HR5 := Aside0.mk HR4
     have h0 : ¬ (p0 : Int) = 0 := beq_eq_false_iff_ne.1 hz
     have HPP := Aside0.mk (show 1 ≤ p0 ∧ p0 < 1000 ∧ l.length + p0 ≤ many by omega)
     clear h0
     obtain ⟨⟨xr, r2⟩, hrd⟩ : ∃ p, p = oneR q.2 := ⟨_, rfl⟩
     have HRD := Aside0.mk hrd.symm
     have HRU := Aside0.mk (show U8s r2.b by have h : U8s (oneR q.2).2.b := (takeR_u8 1 HTU.out.2).2; rw [← hrd] at h; exact h)
     clear HR4 hrd hp1 hp1'
     have HL7 := Aside0.mk (show l.length ≤ 1000 by omega)
     go_wp2_with (first
      | (go_at_call 27; (refine (take_calls X w0 _ _ i g vb r 1 HS.out (HI.out _ _) HB.out (by decide)).mono ?_); rintro ee w5 ⟨v5, rfl, hv, vb', hb', hs⟩; rw [HQ.out] at hv hb' hs; rw [HSI.out] at hs; obtain ⟨A5, c5, e5⟩ := PV.lenlit2 hv 1 HTL.out; subst e5; have HV := Aside0.mk hv; have HB2 := Aside0.mk hb'; clear HS hv hb' x1; have HS := Aside0.mk hs; clear hs; obtain ⟨ad, cd, ed, ya⟩ := u8_cell HV.out 0 (by rw [HTL.out]; decide); rw [HTL.out] at ed; cases ed; change World.cell? _ ad = _ at ya; rw [HP.out] at ya)
      | (go_at_call 26; (refine (rd1_calls X w0 _ _ i j g gp vb' q.2 HS.out (HI.out _ _) (HJ.out _ _) HB2.out HTU.out.2).mono ?_); rintro ee w6 ⟨rfl, vb3, hb3, hs⟩; rw [HRD.out] at hb3 hs ⊢; rw [HSI.out] at hs; have HB3 := Aside0.mk hb3; clear HS hb3 ya; have HS := Aside0.mk hs; clear hs)
      | ((with_reducible refine gate_dst (N := 41) rfl ?_); refine slit kInt 3 ?hg (N := 41) ?hd (xs := [xr]) (inner := [.int .i64 xr]) ?hr HS.out ?hp (by simp) ?_; (case hd => rfl); (case hg => rfl); (case hr => first | (go_simp; done) | (go_simp; rfl)); (case hp => exact Reps.one (PK.scalar _) (Reps.none _ _)); clear HS; intro v30 w30 hs; have HS := Aside0.mk hs; clear hs)
      | (go_at_call 40; (refine (repeat_calls X w0 _ _ _ xr p0 HS.out (HS.out.ro _ List.getElem?_concat_length) ⟨HPP.out.1, HPP.out.2.1⟩).mono ?_); rintro ee w7 ⟨v43, rfl, hs⟩; obtain ⟨A43, c43, e43⟩ := hs.rform _ List.getElem?_concat_length; subst e43; rw [List.length_replicate] at hs; clear HS; have HS := Aside0.mk hs; clear hs)
      | ((with_reducible refine gate_builtin (b := .append) (xs := #[.tmp 38, .tmp 43]) rfl ?_); at_builtin; refine sgrow kInt L.length rfl (.tmp 38) (.tmp 43) 34 3 (.int .i64 0) 8 rfl Tryd.underlying34 info3' rfl (by decide) (by omega) _ _ l (List.replicate p0 xr) rfl rfl HS.out (lr_n3 L i _ _ _ _) (HS.out.ro _ List.getElem?_concat_length) (by have h1 := HPP.out; have h2 := HL7.out; rw [List.length_replicate]; omega) ?_; intro v1 w1 hs; rw [lr_set3] at hs; have hs2 := hs.sub ((List.sublist_append_left _ _).trans (List.sublist_append_left _ _)); clear HS hs; have HS := Aside0.mk hs2; clear hs2))
     go_roundg (many - (l.length + p0))
     case measure => have := HPP.out; have := HM.out; omega
     case rel =>
      have h1 := HPP.out
      have h2 := HM.out
      have h3 := HR5.out
      have h4 := HFF.out
      rw [HRD.out] at h3
      refine ⟨l ++ List.replicate p0 xr, r2, vb3, f', ⟨?_, ?_⟩, HB3, HRU, ⟨?_⟩, HS⟩
      ·rw [List.length_append, List.length_replicate]; omega
      ·omega
      ·rw [← h3]; simp
set_option maxHeartbeats 16000000 in
theorem row2_calls (X : Nat → Prop) (w0 w : World) (L : List PX.Item) (i j g gp : Nat) (vb : Value) (r : Rd) (many : Nat) (hs : Sep X w0 w L) (hij : i ≠ j) (hi : L[i]? = some (.box g 60 [vb, .bool r.short])) (hj : L[j]? = some (.box gp 58 [.pointer (some ⟨g, 0, none⟩)])) (hb : PV kU8 X w0 vb r.b) (hu : U8s r.b) (hm : many ≤ 1000) :
  Calls Tryd.prog 25 #[.pointer (some ⟨g, 0, none⟩), .int .i64 many, .func (.func 29) #[] #[.pointer (some ⟨gp, 0, none⟩)]] w fun e w' => ∃ v, e = .returned v ∧ ∃ vb', PV kU8 X w0 vb' (rowR twoM many many [] r).2.b ∧ Sep X w0 w' (L.set i (.box g 60 [vb', .bool (rowR twoM many many [] r).2.short]) ++ [.row kInt 3 v (rowR twoM many many [] r).1]) := by
 have hlt : i < L.length := (List.getElem?_eq_some_iff.1 hi).1
 have HI := Aside0.mk (lr_i L i hlt)
 have HJ := Aside0.mk (lr_j L i hlt j hij _ hj)
 have HN := Aside0.mk (lr_n L i hlt)
 have HSI := Aside0.mk (lr_set L i hlt)
 have HSN := Aside0.mk (lr_setn L i hlt)
 have eg : ∀ args w, (callFunc 29 args).run Tryd.prog w = .ok (.enter 29 args) w := fun args w => enters_ Tryd.func29 rfl rfl args w
 have hs2 : Sep X w0 w (L.set i (.box g 60 [vb, .bool r.short]) ++ [.row kInt 3 (.slice none 0 0) []]) := by
  rw [show L.set i (.box g 60 [vb, .bool r.short]) = L from by
   obtain ⟨h1, h2⟩ := List.getElem?_eq_some_iff.1 hi
   rw [← h2]; exact List.set_getElem_self h1]
  exact hs.push_nil kInt 3
 obtain ⟨res, hres⟩ : ∃ q, q = rowR twoM many many [] r := ⟨_, rfl⟩
 rw [← hres]
 have HR := Aside0.mk hres.symm
 have HS := Aside0.mk hs2
 have HB := Aside0.mk hb
 have HU := Aside0.mk hu
 clear hs hi hj hb hu hs2 hres hij
 go_enter Tryd.func25, Tryd.ntmps25
 go_wp2_with fail
 go_loopg [7, 8] many (fun m v7 v8 w' => ∃ (l : List Int) (r : Rd) (vb : Value) (f : Nat), Aside0 (l.length + m = many ∧ m ≤ f) ∧ Aside0 (PV kU8 X w0 vb r.b) ∧ Aside0 (U8s r.b) ∧ Aside0 (rowR twoM many f l r = res) ∧ Aside0 (Sep X w0 w' (L.set i (.box g 60 [vb, .bool r.short]) ++ [.row kInt 3 v7 l])))
 case atStart => exact ⟨[], r, vb, many, ⟨by simp, Nat.le_refl _⟩, HB, HU, HR, HS⟩
 case round =>
  clear HS HB HU HR
  obtain ⟨l, r, vb, f, HM, HB, HU, HR, HS⟩ := hrel
  obtain ⟨A7, c7, e7⟩ := HS.out.form L.length (HN.out _ _)
  subst e7
  have x1 := (HS.out.box i (HI.out _ _)).cell 1 rfl
  rcases Nat.lt_or_ge l.length many with hl | hl
  case inr =>
   have e1 : decide ((l.length : Int) < (many : Int)) = false := decide_eq_false (by omega)
   have e2 : decide (l.length < many) = false := decide_eq_false (by omega)
   have hr : (l, r) = res := by
    have h := HR.out
    cases f with
    | zero => exact h
    | succ f => rw [rowR, if_neg (fun h2 => by omega)] at h; exact h
   clear HR
   subst hr
   go_wp2_with fail
   go_ret
   exact ⟨_, rfl, vb, HB.out, HS.out⟩
  case inl =>
   have e1 : decide ((l.length : Int) < (many : Int)) = true := decide_eq_true (by omega)
   have e2 : decide (l.length < many) = true := decide_eq_true hl
   have HF := Aside0.mk (show ∃ f', f = f' + 1 by
    have := HM.out
    cases f with
    | zero => omega
    | succ f' => exact ⟨f', rfl⟩)
   obtain ⟨f', hf'⟩ := HF.out
   have HR2 := HR.out
   rw [hf', rowR] at HR2
   have HFF := Aside0.mk hf'
   clear HR HF hf'
   cases hsh : r.short
   case true =>
    rw [hsh] at x1
    have hr : (l, r) = res := by rw [if_neg (fun h2 => by rw [hsh] at h2; cases h2.2)] at HR2; exact HR2
    clear HR2
    subst hr
    have HSH := Aside0.mk hsh
    clear hsh
    go_wp2_with fail
    go_ret
    exact ⟨_, rfl, vb, HB.out, HS.out⟩
   case false =>
    rw [hsh] at x1
    rw [if_pos ⟨hl, hsh⟩] at HR2
    have HR3 := Aside0.mk HR2
    clear HR2 hsh
    obtain ⟨p0, hp0, hp1⟩ := u8s_at (takeR_u8 1 HU.out).1 0 (by rw [takeR_len]; decide)
    obtain ⟨q, hq⟩ : ∃ q, q = takeR 1 r := ⟨_, rfl⟩
    have HQ := Aside0.mk hq.symm
    have HONE := Aside0.mk (show oneR r = ((p0 : Int), q.2) by unfold oneR; rw [hp0, hq])
    have HTL := Aside0.mk (show q.1.length = 1 by rw [hq]; exact takeR_len 1 r)
    have HTU := Aside0.mk (show U8s q.1 ∧ U8s q.2.b by rw [hq]; exact takeR_u8 1 HU.out)
    have HP := Aside0.mk (show q.1.getD 0 0 = (p0 : Int) by rw [hq]; exact hp0)
    have HR4 := HR3.out
    rw [HONE.out] at HR4
    dsimp only at HR4
    have hp1' := hp1
    have hw0 : wrap64 (p0 : Int) = (p0 : Int) := IntWalk.wrap64_in _ (by omega)
    have hw1 : wrap64 ((many : Int) - (l.length : Int)) = (many : Int) - (l.length : Int) := IntWalk.wrap64_in _ (by omega)
    clear HR3 hq hp0
    have hdec : (((p0 : Int) == 0) = true ∨ (((p0 : Int) == 0) = false ∧ (many : Int) - (l.length : Int) < (p0 : Int))) ∧ ((p0 : Int) = 0 ∨ ((many - l.length : Nat) : Int) < (p0 : Int)) ∨ (((p0 : Int) == 0) = false ∧ ¬ (many : Int) - (l.length : Int) < (p0 : Int) ∧ ¬ ((p0 : Int) = 0 ∨ ((many - l.length : Nat) : Int) < (p0 : Int))) := by
     by_cases h0 : (p0 : Int) = 0
     ·exact .inl ⟨.inl (beq_iff_eq.2 h0), .inl h0⟩
     ·by_cases h1 : (many : Int) - (l.length : Int) < (p0 : Int)
      ·exact .inl ⟨.inr ⟨beq_eq_false_iff_ne.2 h0, h1⟩, .inr (by omega)⟩
      ·exact .inr ⟨beq_eq_false_iff_ne.2 h0, h1, by omega⟩
    rcases hdec with ⟨hbad, hcond⟩ | ⟨hz, hgt, hcond⟩
    case inl =>
     rw [if_pos hcond] at HR4
     clear hcond
     subst HR4
     rcases hbad with hz | ⟨hz, hgt⟩
     all_goals
      go_wp2_with (first
       | (go_at_call 27; (refine (take_calls X w0 _ _ i g vb r 1 HS.out (HI.out _ _) HB.out (by decide)).mono ?_); rintro ee w5 ⟨v5, rfl, hv, vb', hb', hs⟩; rw [HQ.out] at hv hb' hs; rw [HSI.out] at hs; obtain ⟨A5, c5, e5⟩ := PV.lenlit2 hv 1 HTL.out; subst e5; have HV := Aside0.mk hv; have HB2 := Aside0.mk hb'; clear HS hv hb' x1; have HS := Aside0.mk hs; clear hs; obtain ⟨ad, cd, ed, ya⟩ := u8_cell HV.out 0 (by rw [HTL.out]; decide); rw [HTL.out] at ed; cases ed; change World.cell? _ ad = _ at ya; rw [HP.out] at ya; have z1 := (HS.out.box i (HI.out _ _)).cell 1 rfl; have f1 := (HS.out.box i (HI.out _ _)).open_ 1))
      go_ret
      have h1 := HS.out.set_box i (HI.out _ _) 1 (.bool true)
      rw [HSI.out] at h1
      have h2 := (h1.sub (List.sublist_append_left _ _)).push_nil kInt 3
      exact ⟨_, rfl, vb', HB2.out, h2⟩
    case inr =>
     rw [if_neg hcond] at HR4
     clear hcond
     have HR5 := Aside0.mk HR4
     have h0 : ¬ (p0 : Int) = 0 := beq_eq_false_iff_ne.1 hz
     have HPP := Aside0.mk (show 1 ≤ p0 ∧ p0 < 1000 ∧ l.length + p0 ≤ many by omega)
     clear h0
     obtain ⟨⟨xr, r2⟩, hrd⟩ : ∃ p, p = twoM q.2 := ⟨_, rfl⟩
     have HRD := Aside0.mk hrd.symm
     have HRU := Aside0.mk (show U8s r2.b by have h : U8s (twoM q.2).2.b := (takeR_u8 2 HTU.out.2).2; rw [← hrd] at h; exact h)
     clear HR4 hrd hp1 hp1'
     have HL7 := Aside0.mk (show l.length ≤ 1000 by omega)
     go_wp2_with (first
      | (go_at_call 27; (refine (take_calls X w0 _ _ i g vb r 1 HS.out (HI.out _ _) HB.out (by decide)).mono ?_); rintro ee w5 ⟨v5, rfl, hv, vb', hb', hs⟩; rw [HQ.out] at hv hb' hs; rw [HSI.out] at hs; obtain ⟨A5, c5, e5⟩ := PV.lenlit2 hv 1 HTL.out; subst e5; have HV := Aside0.mk hv; have HB2 := Aside0.mk hb'; clear HS hv hb' x1; have HS := Aside0.mk hs; clear hs; obtain ⟨ad, cd, ed, ya⟩ := u8_cell HV.out 0 (by rw [HTL.out]; decide); rw [HTL.out] at ed; cases ed; change World.cell? _ ad = _ at ya; rw [HP.out] at ya)
      | (go_at_call 29; (refine (rd2_calls X w0 _ _ i j g gp vb' q.2 HS.out (HI.out _ _) (HJ.out _ _) HB2.out HTU.out.2).mono ?_); rintro ee w6 ⟨rfl, vb3, hb3, hs⟩; rw [HRD.out] at hb3 hs ⊢; rw [HSI.out] at hs; have HB3 := Aside0.mk hb3; clear HS hb3 ya; have HS := Aside0.mk hs; clear hs)
      | ((with_reducible refine gate_dst (N := 41) rfl ?_); refine slit kInt 3 ?hg (N := 41) ?hd (xs := [xr]) (inner := [.int .i64 xr]) ?hr HS.out ?hp (by simp) ?_; (case hd => rfl); (case hg => rfl); (case hr => first | (go_simp; done) | (go_simp; rfl)); (case hp => exact Reps.one (PK.scalar _) (Reps.none _ _)); clear HS; intro v30 w30 hs; have HS := Aside0.mk hs; clear hs)
      | (go_at_call 40; (refine (repeat_calls X w0 _ _ _ xr p0 HS.out (HS.out.ro _ List.getElem?_concat_length) ⟨HPP.out.1, HPP.out.2.1⟩).mono ?_); rintro ee w7 ⟨v43, rfl, hs⟩; obtain ⟨A43, c43, e43⟩ := hs.rform _ List.getElem?_concat_length; subst e43; rw [List.length_replicate] at hs; clear HS; have HS := Aside0.mk hs; clear hs)
      | ((with_reducible refine gate_builtin (b := .append) (xs := #[.tmp 38, .tmp 43]) rfl ?_); at_builtin; refine sgrow kInt L.length rfl (.tmp 38) (.tmp 43) 34 3 (.int .i64 0) 8 rfl Tryd.underlying34 info3' rfl (by decide) (by omega) _ _ l (List.replicate p0 xr) rfl rfl HS.out (lr_n3 L i _ _ _ _) (HS.out.ro _ List.getElem?_concat_length) (by have h1 := HPP.out; have h2 := HL7.out; rw [List.length_replicate]; omega) ?_; intro v1 w1 hs; rw [lr_set3] at hs; have hs2 := hs.sub ((List.sublist_append_left _ _).trans (List.sublist_append_left _ _)); clear HS hs; have HS := Aside0.mk hs2; clear hs2))
     go_roundg (many - (l.length + p0))
     case measure => have := HPP.out; have := HM.out; omega
     case rel =>
      have h1 := HPP.out
      have h2 := HM.out
      have h3 := HR5.out
      have h4 := HFF.out
      rw [HRD.out] at h3
      refine ⟨l ++ List.replicate p0 xr, r2, vb3, f', ⟨?_, ?_⟩, HB3, HRU, ⟨?_⟩, HS⟩
      ·rw [List.length_append, List.length_replicate]; omega
      ·omega
      ·rw [← h3]; simp
end Go.Proofs.YtplhfgobeicegaaDoor.P
