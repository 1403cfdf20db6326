/- Part 7 of the proof: T01, T02, T03, S13g. -/
import Derived.Test.YtfbfeimildkigaaDoorCq6
namespace Go.Proofs.YtfbfeimildkigaaDoor.P
open Go Go.RowKit Go.Proofs.YtfbfeimildkigaaDoorW.PrintWords Go.Proofs.YtfbfeimildkigaaDoorW.PrintLast Go.Proofs.YtfbfeimildkigaaDoorW.PrintMore Go.Proofs.YtfbfeimildkigaaDoor.PX Go.Proofs.YtfbfeimildkigaaDoor.IT
set_option linter.unusedVariables false
set_option linter.unusedSimpArgs false
set_option maxRecDepth 100000
def buf (ds : List Int) : List Value := List.replicate (65 - ds.length) (.int .u8 0) ++ ds.map (Value.int .u8)
theorem buf_at {ds : List Int} {k : Nat} (h : k < 65 - ds.length) : (buf ds)[k]? = some (.int .u8 0) := by
  unfold buf
  rw [List.getElem?_append_left (by simpa using h), List.getElem?_replicate, if_pos h]
theorem dig_at (u : Nat) (h : u < 36) (h2) : ((({ data := #[48, 49, 50, 51, 52, 53, 54, 55, 56, 57, 97, 98, 99, 100, 101, 102, 103, 104, 105, 106, 107, 108, 109, 110, 111, 112, 113, 114, 115, 116, 117, 118, 119, 120, 121, 122] } : ByteArray)[u]'h2).toNat : Int) = dig u := by
  have : ∀ v : Fin 36, ((({ data := #[48, 49, 50, 51, 52, 53, 54, 55, 56, 57, 97, 98, 99, 100, 101, 102, 103, 104, 105, 106, 107, 108, 109, 110, 111, 112, 113, 114, 115, 116, 117, 118, 119, 120, 121, 122] } : ByteArray)[v.1]'v.2).toNat : Int) = dig v.1 := by decide
  exact this ⟨u, h⟩
theorem sl142 (g k : Nat) (hk : k < 65) (W : World) : (Instr.sliceAt 142 (.pointer (some ⟨g, 0, none⟩)) (some (.int .i64 k)) none none).run Tryd.prog W = .ok (.slice (some ⟨g, k, none⟩) (65 - k) (65 - k)) W := by
  have h := run_sliceAt_array_l (P := Tryd.prog) W 142 ⟨g, 0, none⟩ (by rfl) .i64 k (by omega) (by show (k : Int) ≤ 65; omega)
  rw [h]
  have h1 : (⟨g, 0, none⟩ : Addr).add (k * 1) = ⟨g, k, none⟩ := by
    unfold Addr.add
    split
    · obtain rfl : k = 0 := by omega
      rfl
    · simp
  show Result.ok (slicedAt ⟨g, 0, none⟩ (k : Int).toNat 65 65 1) W = _
  rw [slicedAt, Int.toNat_natCast, if_neg (by omega), h1]
theorem buf_get {ds : List Int} {k j : Nat} (h : k = 65 - ds.length) (hj : j < ds.length) : (buf ds)[k + j]? = some (.int .u8 (ds.getD j 0)) := by
  unfold buf
  rw [List.getElem?_append_right (by simp; omega), List.length_replicate, show k + j - (65 - ds.length) = j by omega, List.getElem?_map, List.getElem?_eq_getElem hj, List.getD_eq_getElem?_getD, List.getElem?_eq_getElem hj]
  rfl
theorem _root_.Go.Proofs.YtfbfeimildkigaaDoor.PX.Sep.set_buf {X : Nat → Prop} {w0 w : World} {L : List PX.Item} {g : Nat} {ds : List Int} (h : Sep X w0 w (L ++ [.box g 142 (buf ds)])) (d : Int) (k : Nat) (hk : k + ds.length = 64) : Sep X w0 (w.setCell ⟨g, k, none⟩ (.int .u8 d)) (L ++ [.box g 142 (buf (d :: ds))]) := by
  have h1 := h.set_box L.length (by rw [List.getElem?_append_right (Nat.le_refl _), Nat.sub_self]; rfl) k (.int .u8 d)
  rw [List.set_append, if_neg (by omega), Nat.sub_self] at h1
  have e1 : (buf ds).set k (.int .u8 d) = buf (d :: ds) := by
    unfold buf
    rw [List.set_append, if_pos (by simp; omega), show 65 - ds.length = k + 1 by omega, List.length_cons, show 65 - (ds.length + 1) = k by omega, List.replicate_succ', List.set_append, if_neg (by simp), List.length_replicate, Nat.sub_self]
    simp
  rw [← e1]
  exact h1
theorem digs_small (m u : Nat) (h : u < 36) : digs m u = [dig u] := by
  cases m with
  | zero => rfl
  | succ m => rw [digs, if_pos h]
theorem pow36 (w : World) : Calls Tryd.prog 89 #[.int .i64 36] w fun e w' => e = .returned (.bool false) ∧ w' = w := by
  go_enter Tryd.func89, Tryd.ntmps89
  go_wp2_with fail
  go_ret
  exact ⟨rfl, rfl⟩
set_option maxHeartbeats 16000000 in
theorem fbits_calls (X : Nat → Prop) (w0 w : World) (L : List PX.Item) (i : Nat) (v : Value) (xs : List Int) (n : Nat) (hs : Sep X w0 w L) (hi : L[i]? = some (.row kU8 5 v xs)) (hn : n < 18446744073709551616) (hl : xs.length ≤ 1000000000) :
    Calls Tryd.prog 83 #[v, .int .u64 n, .int .i64 36, .bool false, .bool true] w fun ee w' => ∃ v1, ee = .returned (.tuple #[v1, .string { data := #[] }]) ∧ Sep X w0 w' (L.set i (.row kU8 5 v1 (xs ++ digs 13 n))) := by
  have HS := Aside0.mk hs
  obtain ⟨A0, c0, rfl⟩ := hs.form i hi
  have HI := Aside0.mk hi
  clear hs hi
  go_enter Tryd.func83, Tryd.ntmps83
  go_wp2_with fail
  case _ =>
    refine (pow36 _).mono ?_
    rintro e w1 ⟨rfl, rfl⟩
    go_wp2_with fail
    have hs : Sep X w0 (w.alloc (.cells Tryd.zeroCells142 142)) (L ++ [.box w.heap.size 142 (buf [])]) := HS.out.push_box (buf []) 142
    obtain ⟨g, hg⟩ : ∃ g, g = w.heap.size := ⟨_, rfl⟩
    rw [← hg] at hs ⊢
    clear HS hg
    have HS := Aside0.mk hs
    clear hs
    go_loopg [1, 13, 18] 13 (fun m v1 v13 v18 w' => ∃ (u k : Nat) (ds : List Int), v1 = .int .u64 u ∧ v13 = .int .i64 ((k : Int) + 1) ∧ Aside0 (k + ds.length = 64 ∧ ds.length + m = 13) ∧ Aside0 (u < 36 ^ (m + 1) ∧ u < 18446744073709551616) ∧ Aside0 (digs m u ++ ds = digs 13 n) ∧ Aside0 (Sep X w0 w' (L ++ [.box g 142 (buf ds)])))
    case atStart => exact ⟨n, 64, [], rfl, rfl, ⟨rfl, rfl⟩, ⟨by omega, hn⟩, ⟨by simp⟩, HS⟩
    case round =>
      clear HS
      obtain ⟨u, k, ds, rfl, rfl, HK, HU, HD, HS⟩ := hrel
      have hk := HK.out
      obtain ⟨hu, hub⟩ := HU.out
      have y0 := (HS.out.box L.length (by rw [List.getElem?_append_right (Nat.le_refl _), Nat.sub_self]; rfl)).cell k (buf_at (by omega))
      have f0 := (HS.out.box L.length (by rw [List.getElem?_append_right (Nat.le_refl _), Nat.sub_self]; rfl)).open_ k
      have k0 : (0 : Int) ≤ (k : Int) := by omega
      have k1 : (k : Int) < 65 := by omega
      have k2 : k < 65 := by omega
      rcases Nat.lt_or_ge u 36 with hu36 | hu36
      case inl =>
        have e1 : decide ((u : Int) ≥ 36) = false := decide_eq_false (by omega)
        have e2 : decide ((36 : Int) ≤ (u : Int)) = false := decide_eq_false (by omega)
        have e3 : decide (36 ≤ u) = false := decide_eq_false (by omega)
        have sl : ∀ W, (Instr.sliceAt 142 (.pointer (some ⟨g, 0, none⟩)) (some (.int .i64 k)) none none).run Tryd.prog W = .ok (.slice (some ⟨g, k, none⟩) (dig u :: ds).length (dig u :: ds).length) W := fun W => by
          rw [sl142 g k k2 W, show (dig u :: ds).length = 65 - k by rw [List.length_cons]; omega]
        go_wp2_with (first
          | ((with_reducible refine gate_builtin (b := .append) (xs := #[.tmp 95, .tmp 97]) rfl ?_); at_builtin; rw [dig_at u hu36]; refine sgrow kU8 i rfl (.tmp 95) (.tmp 97) 29 5 (.int .u8 0) 1 rfl Tryd.underlying29 info5 rfl (by decide) (by omega) _ _ xs (dig u :: ds) rfl rfl ((HS.out.set_buf (dig u) k (by omega)).sub (List.sublist_append_left _ _)) HI.out ((HS.out.set_buf (dig u) k (by omega)).box_row (fun j hj => buf_get (by rw [List.length_cons]; omega) hj) (by rw [List.length_cons]; omega)) (by rw [List.length_cons]; omega) ?_; intro v1 w1 hs))
        go_ret2
        have hd := HD.out
        rw [digs_small _ _ hu36] at hd
        rw [← hd]
        exact ⟨_, rfl, hs⟩
      case inr =>
        cases gk with
        | zero => exact absurd hu (by omega)
        | succ k1 =>
          have e1 : decide ((u : Int) ≥ 36) = true := decide_eq_true (by omega)
          have e2 : decide ((36 : Int) ≤ (u : Int)) = true := decide_eq_true (by omega)
          have e3 : decide (36 ≤ u) = true := decide_eq_true (by omega)
          obtain ⟨q, hq⟩ : ∃ q, q = u / 36 := ⟨_, rfl⟩
          obtain ⟨r, hr⟩ : ∃ r, r = u % 36 := ⟨_, rfl⟩
          have q1 : IntKind.u64.wrap ((u : Int) / 36) = (q : Int) := by rw [IntKind.wrap_u64]; omega
          have q2 : IntKind.u64.wrap ((q : Int) * 36) = (q : Int) * 36 := by rw [IntKind.wrap_u64]; omega
          have q3 : IntKind.u64.wrap ((u : Int) - (q : Int) * 36) = (r : Int) := by rw [IntKind.wrap_u64]; omega
          have r36 : r < 36 := by omega
          have HQ := Aside0.mk (And.intro hq hr)
          clear hq hr
          go_wp2_with fail
          have hd := HD.out
          rw [digs, if_neg (by omega), ← HQ.out.1, ← HQ.out.2, List.append_assoc, List.singleton_append] at hd
          have hs := HS.out.set_buf (dig r) k (by omega)
          rw [dig_at r r36]
          obtain ⟨k', hk'⟩ : ∃ k', k = k' + 1 := ⟨k - 1, by omega⟩
          have hq := HQ.out.1
          go_roundg k1
          case measure => omega
          case rel => exact ⟨q, k', dig r :: ds, rfl, by rw [hk']; rfl, ⟨by rw [List.length_cons]; omega⟩, ⟨by rw [hq, Nat.div_lt_iff_lt_mul (by decide)]; rw [Nat.pow_succ] at hu; exact hu, by omega⟩, ⟨hd⟩, ⟨hs⟩⟩
end Go.Proofs.YtfbfeimildkigaaDoor.P
namespace Go.Proofs.YtfbfeimildkigaaDoor.P
open Go Go.RowKit Go.Proofs.YtfbfeimildkigaaDoorW.PrintWords Go.Proofs.YtfbfeimildkigaaDoorW.PrintLast Go.Proofs.YtfbfeimildkigaaDoorW.PrintMore Go.Proofs.YtfbfeimildkigaaDoor.PX Go.Proofs.YtfbfeimildkigaaDoor.IT
set_option linter.unusedVariables false
set_option linter.unusedSimpArgs false
set_option maxRecDepth 100000
set_option maxHeartbeats 16000000 in
theorem auint_calls (X : Nat → Prop) (w0 w : World) (L : List PX.Item) (i : Nat) (v : Value) (xs : List Int) (n : Nat) (hs : Sep X w0 w L) (hi : L[i]? = some (.row kU8 5 v xs)) (hn : n < 18446744073709551616) (hl : xs.length ≤ 1000000000) :
    Calls Tryd.prog 71 #[v, .int .u64 n, .int .i64 36] w fun ee w' => ∃ v1, ee = .returned v1 ∧ Sep X w0 w' (L.set i (.row kU8 5 v1 (xs ++ digs 13 n))) := by
  have HS := Aside0.mk hs
  obtain ⟨A0, c0, rfl⟩ := hs.form i hi
  have HI := Aside0.mk hi
  clear hs hi
  go_enter Tryd.func71, Tryd.ntmps71
  go_wp2_with (first
    | (go_at_call 83; (with_reducible refine (fbits_calls X w0 _ L i _ xs n HS.out HI.out hn hl).mono ?_); rintro ee w5 ⟨v1, rfl, hs⟩))
  go_ret
  exact ⟨_, rfl, hs⟩
set_option maxHeartbeats 16000000 in
theorem aint_calls (X : Nat → Prop) (w0 w : World) (L : List PX.Item) (i : Nat) (v : Value) (xs : List Int) (x : Int) (hs : Sep X w0 w L) (hi : L[i]? = some (.row kU8 5 v xs)) (hx : Fits x) (hl : xs.length + 1 ≤ 1000000000) :
    Calls Tryd.prog 60 #[v, .int .i64 x, .int .i64 36] w fun ee w' => ∃ v1, ee = .returned v1 ∧ Sep X w0 w' (L.set i (.row kU8 5 v1 (xs ++ itoa x))) := by
  have HS := Aside0.mk hs
  obtain ⟨A0, c0, rfl⟩ := hs.form i hi
  have HI := Aside0.mk hi
  have hlt : i < L.length := (List.getElem?_eq_some_iff.1 hi).1
  obtain ⟨hx1, hx2⟩ := hx
  clear hs hi
  rcases Int.lt_or_le x 0 with h0 | h0
  case inl =>
    have e1 : decide (x < 0) = true := decide_eq_true h0
    obtain ⟨n, hn⟩ : ∃ n : Nat, x = -(n : Int) := ⟨x.natAbs, by omega⟩
    subst hn
    have q1 : IntKind.u64.wrap (-(n : Int)) = 18446744073709551616 - (n : Int) := by rw [IntKind.wrap_u64]; omega
    have q2 : IntKind.u64.wrap (-(18446744073709551616 - (n : Int))) = (n : Int) := by rw [IntKind.wrap_u64]; omega
    have HE := Aside0.mk (show itoa (-(n : Int)) = 45 :: digs 13 n by rw [itoa, if_pos h0, Int.natAbs_neg, Int.natAbs_natCast])
    go_enter Tryd.func60, Tryd.ntmps60
    go_wp2_with (first
      | ((with_reducible refine gate_dst (N := 13) rfl ?_); refine slit kU8 5 ?hg (N := 13) ?hd (xs := [(45 : Int)]) (inner := [.int .u8 45]) ?hr HS.out ?hp (by simp) ?_; (case hd => rfl); (case hg => rfl); (case hr => first | (go_simp; done) | (go_simp; rfl)); (case hp => exact Reps.one (PK.scalar _) (Reps.none _ _)); clear HS; intro v30 w30 hs; have HS := Aside0.mk hs; clear hs)
      | ((with_reducible refine gate_builtin (b := .append) (xs := #[.tmp 12, .tmp 13]) rfl ?_); at_builtin; refine sgrow kU8 i rfl (.tmp 12) (.tmp 13) 29 5 (.int .u8 0) 1 rfl Tryd.underlying29 info5 rfl (by decide) (by omega) _ _ xs [(45 : Int)] rfl rfl HS.out (by rw [List.getElem?_append_left hlt]; exact HI.out) (HS.out.ro L.length List.getElem?_concat_length) (by rw [List.length_singleton]; omega) ?_; intro v1 w1 hs; rw [List.set_append, if_pos hlt] at hs; have hs2 := hs.sub (List.sublist_append_left _ _); clear HS; have HS := Aside0.mk hs2; clear hs hs2)
      | (go_at_call 71; (with_reducible refine (auint_calls X w0 _ _ i _ (xs ++ [45]) n HS.out (by rw [List.getElem?_set_self hlt]) (by omega) (by rw [List.length_append, List.length_singleton]; omega)).mono ?_); rintro ee w5 ⟨v5, rfl, hs⟩))
    go_ret
    rw [HE.out]
    rw [List.set_set, List.append_assoc] at hs
    exact ⟨_, rfl, hs⟩
  case inr =>
    have e1 : decide (x < 0) = false := decide_eq_false (by omega)
    obtain ⟨n, hn⟩ : ∃ n : Nat, x = (n : Int) := ⟨x.natAbs, by omega⟩
    subst hn
    have q1 : IntKind.u64.wrap (n : Int) = (n : Int) := by rw [IntKind.wrap_u64]; omega
    have HE := Aside0.mk (show itoa (n : Int) = digs 13 n by rw [itoa, if_neg (by omega), Int.natAbs_natCast])
    go_enter Tryd.func60, Tryd.ntmps60
    go_wp2_with (first
      | (go_at_call 71; (with_reducible refine (auint_calls X w0 _ _ i _ xs n HS.out HI.out (by omega) (by omega)).mono ?_); rintro ee w5 ⟨v5, rfl, hs⟩))
    go_ret
    rw [HE.out]
    exact ⟨_, rfl, hs⟩
theorem appendInt_calls (X : Nat → Prop) (w0 w : World) (L : List PX.Item) (i : Nat) (v : Value) (xs : List Int) (x : Int) (hs : Sep X w0 w L) (hi : L[i]? = some (.row kU8 5 v xs)) (hx : Fits x) (hl : xs.length + 1 ≤ 1000000000) :
    Calls Tryd.prog 42 #[v, .int .i64 x, .int .i64 36] w fun ee w' => ∃ v1, ee = .returned v1 ∧ Sep X w0 w' (L.set i (.row kU8 5 v1 (xs ++ itoa x))) := by
  have HS := Aside0.mk hs
  obtain ⟨A0, c0, rfl⟩ := hs.form i hi
  have HI := Aside0.mk hi
  clear hs hi
  go_enter Tryd.func42, Tryd.ntmps42
  go_wp2_with (first
    | (go_at_call 60; (with_reducible refine (aint_calls X w0 _ L i _ xs x HS.out HI.out hx hl).mono ?_); rintro ee w5 ⟨v1, rfl, hs⟩))
  go_ret
  exact ⟨_, rfl, hs⟩
end Go.Proofs.YtfbfeimildkigaaDoor.P
namespace Go.Proofs.YtfbfeimildkigaaDoor.P
open Go Go.RowKit Go.Proofs.YtfbfeimildkigaaDoorW.PrintWords Go.Proofs.YtfbfeimildkigaaDoorW.PrintLast Go.Proofs.YtfbfeimildkigaaDoorW.PrintMore Go.Proofs.YtfbfeimildkigaaDoor.PX Go.Proofs.YtfbfeimildkigaaDoor.IT
set_option linter.unusedVariables false
set_option linter.unusedSimpArgs false
set_option maxRecDepth 100000
def colAt (next : List (List Int)) (c : Nat) : List Int := next.map (fun row => row.getD c 0)
set_option maxHeartbeats 16000000 in
theorem column_calls (X : Nat → Prop) (vn : Value) (next : List (List Int)) (c : Nat) (w : World) (hX : ∀ k, X k → k < w.heap.size) (hn : PV kRow X w vn next) (hr : ∀ row ∈ next, c < row.length) (hf : ∀ row ∈ next, Fits (row.getD c 0)) (hl : next.length ≤ 1000000) :
    Calls Tryd.prog 27 #[vn, .int .i64 c] w fun e w' => e = .returned (.string (strOfNums (colText (colAt next c)))) ∧ Below w.heap.size w w' := by
  have H1 := Aside0.mk hn
  have HR := Aside0.mk (show ∀ i, i < next.length → c < (next.getD i []).length ∧ Fits ((next.getD i []).getD c 0) from fun i hi => ⟨hr _ (mem_getD next [] i hi), hf _ (mem_getD next [] i hi)⟩)
  obtain ⟨An, cn, rfl, _, _⟩ := hn.now
  have HS := Aside0.mk ((Sep.start hX).push_nil kU8 5)
  clear hn hr hf hX
  go_enter Tryd.func27, Tryd.ntmps27
  go_wp2_with fail
  go_loopg [5, 10] next.length (fun m v5 v10 w' => ∃ (i : Nat) (b : List Int), v10 = .int .i64 i ∧ Aside0 (i + m = next.length) ∧ Aside0 (b = colText (colAt (next.take i) c)) ∧ Aside0 (Sep X w w' [.row kU8 5 v5 b]))
  case atStart => exact ⟨0, [], rfl, ⟨by omega⟩, ⟨rfl⟩, HS⟩
  case round =>
    clear HS
    obtain ⟨i, b, rfl, HJ, HB, HS⟩ := hrel
    obtain ⟨A5, c5, e5⟩ := HS.out.form 0 rfl
    subst e5
    cases gk with
    | zero =>
      have hi : i = next.length := by have := HJ.out; omega
      have e1 : decide ((i : Int) < (next.length : Int)) = false := decide_eq_false (by omega)
      have e2 : decide (i < next.length) = false := decide_eq_false (by omega)
      have st := HS.out.str (P := Tryd.prog) 0 _ rfl Tryd.underlying29 Tryd.underlying5 Tryd.underlying9
      have HB3 := Aside0.mk (show b = colText (colAt next c) by have hb := HB.out; rwa [hi, List.take_length] at hb)
      go_wp2_with fail
      go_ret
      rw [← HB3.out]
      exact ⟨rfl, HS.out.below⟩
    | succ k1 =>
      have hi : i < next.length := by have := HJ.out; omega
      have e1 : decide ((i : Int) < (next.length : Int)) = true := decide_eq_true (by omega)
      have e2 : decide (i < next.length) = true := decide_eq_true hi
      have hi0 : (0 : Int) ≤ (i : Int) := by omega
      have hi1 : (i : Int) < (next.length : Int) := by omega
      have hc0 : (0 : Int) ≤ (c : Int) := by omega
      obtain ⟨an, cn', u, en, hun, yn0⟩ := H1.out.row i hi
      cases en
      obtain ⟨hcl, hfx⟩ := HR.out i hi
      have hlen : b.length ≤ 16 * i := by
        rw [HB.out]
        have := colText_len (colAt (next.take i) c)
        have h2 : (colAt (next.take i) c).length = i := by simp [colAt]; omega
        omega
      have HB2 := Aside0.mk (show b ++ itoa ((next.getD i []).getD c 0) ++ [32] = colText (colAt (next.take (i + 1)) c) by rw [take_at next [] i hi, colAt, List.map_append, List.map_cons, List.map_nil, colText_snoc, HB.out]; rfl)
      obtain ⟨row, hrow⟩ : ∃ r, r = next.getD i [] := ⟨_, rfl⟩
      rw [← hrow] at hun hcl hfx HB2
      clear hrow
      have hc1 : (c : Int) < (row.length : Int) := by omega
      obtain ⟨Au, cu, rfl, _, _⟩ := hun.now
      obtain ⟨ar, cr, er, yr0⟩ := int_cell hun c hcl
      cases er
      have yn := pw_cell_below HS.out.below yn0
      have yr := pw_cell_below HS.out.below yr0
      clear hun yn0 yr0 hcl HB
      generalize row.getD c 0 = x at *
      have hxl := itoa_len x
      go_wp2_with (first
        | (go_at_call 42; (with_reducible refine (appendInt_calls X w _ _ 0 _ b x HS.out rfl hfx (by omega)).mono ?_); rintro ee w5 ⟨v5, rfl, hs⟩; clear HS; have HS := Aside0.mk hs; clear hs)
        | ((with_reducible refine gate_dst (N := 21) rfl ?_); refine slit kU8 5 ?hg (N := 21) ?hd (xs := [(32 : Int)]) (inner := [.int .u8 32]) ?hr HS.out ?hp (by simp) ?_; (case hd => rfl); (case hg => rfl); (case hr => first | (go_simp; done) | (go_simp; rfl)); (case hp => exact Reps.one (PK.scalar _) (Reps.none _ _)); clear HS; intro v30 w30 hs; have HS := Aside0.mk hs; clear hs)
        | ((with_reducible refine gate_builtin (b := .append) (xs := #[.tmp 20, .tmp 21]) rfl ?_); at_builtin; refine sgrow kU8 0 rfl (.tmp 20) (.tmp 21) 29 5 (.int .u8 0) 1 rfl Tryd.underlying29 info5 rfl (by decide) (by omega) _ _ (b ++ itoa x) [(32 : Int)] rfl rfl HS.out rfl (HS.out.ro 1 rfl) (by rw [List.length_append, List.length_singleton]; omega) ?_; clear HS; intro v1 w1 hs; have hs := hs.take 1; have HS := Aside0.mk hs; clear hs))
      go_roundg k1
      case measure => omega
      case rel => exact ⟨i + 1, _, by go_num, ⟨by have := HJ.out; omega⟩, HB2, HS⟩
end Go.Proofs.YtfbfeimildkigaaDoor.P
namespace Go.Proofs.YtfbfeimildkigaaDoor.P
open Go Go.RowKit Go.Proofs.YtfbfeimildkigaaDoorW.PrintWords Go.Proofs.YtfbfeimildkigaaDoorW.PrintLast Go.Proofs.YtfbfeimildkigaaDoorW.PrintMore Go.Proofs.YtfbfeimildkigaaDoor.PX
set_option linter.unusedVariables false
set_option linter.unusedSimpArgs false
set_option maxRecDepth 100000
def inB (l : List Sp) (x : Int) : Bool := l.any (fun s => decide (s.f0 ≤ x) && decide (x ≤ s.f1))
theorem in_calls (X : Nat → Prop) (v0 : Value) (l : List Sp) (r : Int) (w : World) (h0 : PV kSp X w v0 l) :
    Calls Tryd.prog 50 #[v0, .int .i64 r] w fun e w' => e = .returned (.bool (inB l r)) ∧ w' = w := by
  have H0 := Aside0.mk h0
  have HS := Aside0.mk (show ((l.drop 0).any fun s => decide (s.f0 ≤ r) && decide (r ≤ s.f1)) = inB l r from rfl)
  generalize inB l r = q at *
  obtain ⟨A0, c0, rfl, _, _⟩ := h0.now
  have hmx := h0.max
  clear h0
  go_enter Tryd.func50, Tryd.ntmps50
  go_wp2_with fail
  go_loopg [5] l.length (fun m v5 w' => ∃ (i : Nat), v5 = .int .i64 i ∧ Aside0 (i + m = l.length) ∧ Aside0 (((l.drop i).any fun s => decide (s.f0 ≤ r) && decide (r ≤ s.f1)) = q) ∧ w' = w)
  case atStart => exact ⟨0, rfl, ⟨by omega⟩, HS, rfl⟩
  case round =>
    clear HS
    obtain ⟨i, rfl, HJ, HS, hw⟩ := hrel
    subst hw
    cases gk with
    | zero =>
      have hd : decide ((i : Int) < (l.length : Int)) = false := decide_eq_false (by have := HJ.out; omega)
      have hd2 : decide (i < l.length) = false := decide_eq_false (by have := HJ.out; omega)
      have e0 : false = q := by
        have := HS.out
        rw [List.drop_eq_nil_of_le (by have := HJ.out; omega)] at this
        simpa using this
      subst e0
      go_wp2_with fail
      go_ret
      exact ⟨rfl, rfl⟩
    | succ k1 =>
      have hj : i < l.length := by have := HJ.out; omega
      have hj0 : (0 : Int) ≤ (i : Int) := by omega
      have hj1 : (i : Int) < (l.length : Int) := by omega
      obtain ⟨ad, c, e, y0, y1⟩ := sp_cell H0.out i hj
      cases e
      have HS1 := HS.out
      rw [drop_at l z67 i hj, List.any_cons] at HS1
      generalize l.getD i z67 = s at *
      clear HS
      by_cases c1 : s.f0 ≤ r
      · by_cases c2 : r ≤ s.f1
        · have d1 : decide (r ≥ s.f0) = true := decide_eq_true c1
          have d2 : decide (r ≤ s.f1) = true := decide_eq_true c2
          rw [decide_eq_true c1, decide_eq_true c2] at HS1
          have q0 : true = q := by simpa using HS1
          clear c1 c2 HS1
          subst q0
          go_wp2_with fail
          go_ret
          exact ⟨rfl, rfl⟩
        · have d1 : decide (r ≥ s.f0) = true := decide_eq_true c1
          have d2 : decide (r ≤ s.f1) = false := decide_eq_false c2
          rw [decide_eq_false c2, Bool.and_false, Bool.false_or] at HS1
          have HS2 := Aside0.mk HS1
          clear HS1 c1 c2
          go_wp2_with fail
          go_roundg k1
          case measure => omega
          case rel => exact ⟨i + 1, by go_num, ⟨by have := HJ.out; omega⟩, HS2, rfl⟩
      · have d1 : decide (r ≥ s.f0) = false := decide_eq_false c1
        rw [decide_eq_false c1, Bool.false_and, Bool.false_or] at HS1
        have HS2 := Aside0.mk HS1
        clear HS1 c1
        go_wp2_with fail
        go_roundg k1
        case measure => omega
        case rel => exact ⟨i + 1, by go_num, ⟨by have := HJ.out; omega⟩, HS2, rfl⟩
def asL (next : List (List Int)) (tags firsts : List Int) : DfaS := ⟨firsts.map (fun f => [(⟨f, f⟩ : Sp)]), next.map (fun row => firsts.map (fun f => row.getD f.toNat 0)), tags⟩
set_option maxHeartbeats 8000000 in
theorem as_calls (X : Nat → Prop) (vn vt vf : Value) (next : List (List Int)) (tags firsts : List Int) (w : World) (hX : ∀ k, X k → k < w.heap.size) (hn : PV kRow X w vn next) (ht : PV kInt X w vt tags) (hf : PV kInt X w vf firsts)
    (hrow : ∀ i, i < next.length → (next.getD i []).length = 256) (hfr : ∀ f ∈ firsts, 0 ≤ f ∧ f < 256) (hfl : firsts.length ≤ 256) (hnl : next.length ≤ 100000000) :
    Calls Tryd.prog 49 #[.agg #[vn, vt], vf] w fun e w' => ∃ v0 v1, e = .returned (.agg #[v0, v1, vt]) ∧ PV kSps X w' v0 (asL next tags firsts).parts ∧ PV kRow X w' v1 (asL next tags firsts).next ∧ Below w.heap.size w w' := by
  have H1 := Aside0.mk hn
  have H2 := Aside0.mk ht
  have H3 := Aside0.mk hf
  have HROW := Aside0.mk hrow
  have HFR := Aside0.mk hfr
  obtain ⟨An, cn, rfl, _, _⟩ := hn.now
  obtain ⟨At, ct, rfl, _, _⟩ := ht.now
  obtain ⟨Af, cf, rfl, _, _⟩ := hf.now
  have HS := Aside0.mk (((((Sep.start hX).push_box [.slice An next.length cn, .slice At tags.length ct] 27).push_box' [.slice none 0 0, .slice none 0 0, .slice none 0 0] 58 (w.heap.size + 1) (by simp)).push_box' [.slice none 0 0, .slice none 0 0, .slice At tags.length ct] 58 (w.heap.size + 1 + 1) (by simp)).push_nil kSps 68 |>.push_nil kRow 25)
  clear hn ht hf hX hrow hfr
  show Calls _ _ _ _ fun e w' => ∃ v0 v1, e = .returned (.agg #[v0, v1, .slice At tags.length ct]) ∧ PV kSps X w' v0 (firsts.map (fun f => [(⟨f, f⟩ : Sp)])) ∧ PV kRow X w' v1 (next.map (fun row => firsts.map (fun f => row.getD f.toNat 0))) ∧ Below w.heap.size w w'
  obtain ⟨rP, hrP⟩ : ∃ q, q = firsts.map (fun f => [(⟨f, f⟩ : Sp)]) := ⟨_, rfl⟩
  obtain ⟨rN, hrN⟩ : ∃ q, q = next.map (fun row => firsts.map (fun f => row.getD f.toNat 0)) := ⟨_, rfl⟩
  rw [← hrP, ← hrN]
  have HRP := Aside0.mk hrP.symm
  have HRN := Aside0.mk hrN.symm
  clear hrP hrN
  go_enter Tryd.func49, Tryd.ntmps49
  go_wp2_with fail
  obtain ⟨g2, hg2⟩ : ∃ g, g = w.heap.size + 1 + 1 := ⟨_, rfl⟩
  obtain ⟨g1, hg1⟩ : ∃ g, g = w.heap.size + 1 := ⟨_, rfl⟩
  obtain ⟨g0, hg0⟩ : ∃ g, g = w.heap.size := ⟨_, rfl⟩
  rw [← hg2, ← hg1, ← hg0] at HS ⊢
  clear hg0 hg1 hg2
  go_loopg [6] firsts.length (fun m v6 w' => ∃ (k : Nat) (vP : Value) (P : List (List Sp)), v6 = .int .i64 k ∧ Aside0 (k + m = firsts.length) ∧ Aside0 (P = (firsts.take k).map (fun f => [(⟨f, f⟩ : Sp)])) ∧ Aside0 (Sep X w w' [.box g0 27 [.slice An next.length cn, .slice At tags.length ct], .box g1 58 [.slice none 0 0, .slice none 0 0, .slice none 0 0], .box g2 58 [vP, (.slice none 0 0), .slice At tags.length ct], .row kSps 68 vP P, .row kRow 25 (.slice none 0 0) []]))
  case atStart => exact ⟨0, _, [], rfl, ⟨by omega⟩, ⟨rfl⟩, HS⟩
  case round =>
    clear HS
    obtain ⟨k, vP, P, rfl, HJ, HP, HS⟩ := hrel
    cases gk with
    | succ k1 =>
      have hk : k < firsts.length := by have := HJ.out; omega
      have e1 : decide ((k : Int) < (firsts.length : Int)) = true := decide_eq_true (by omega)
      have e2 : decide (k < firsts.length) = true := decide_eq_true hk
      have hk0 : (0 : Int) ≤ (k : Int) := by omega
      have hk1 : (k : Int) < (firsts.length : Int) := by omega
      obtain ⟨af, cf', ef, yf⟩ := int_cell H3.out k hk
      cases ef
      have HP2 := Aside0.mk (show P ++ [[(⟨firsts.getD k 0, firsts.getD k 0⟩ : Sp)]] = (firsts.take (k + 1)).map (fun f => [(⟨f, f⟩ : Sp)]) by rw [take_at firsts 0 k hk, List.map_append, HP.out]; rfl)
      have HPL := Aside0.mk (show P.length + 1 ≤ 1000 by rw [HP.out]; simp; omega)
      generalize firsts.getD k 0 = f at *
      have HYF := Aside0.mk yf
      clear yf HP
      go_wp2_with fail
      have hs := HS.out.drew
      clear HS; have HS := Aside0.mk hs; clear hs
      refine start_ (n := 16) (S := fun w' => w'.cell? ⟨g2, 0, none⟩ = some vP ∧ w'.cell? (af.add k) = some (.int .i64 f)) (ds := [13, 15]) #[false, false, false, false, false, false, false, false, false, false, false, false, false, false, false, false] (by kernel_rfl) rfl rfl ⟨((HS.out.box 2 rfl).cell 0 rfl), (pw_cell_below HS.out.below HYF.out)⟩ (fun hHeld => ?_)
      generalize wr.drew = wd at HS hHeld ⊢
      refine pure_ (i := 0) (N := some 19) (v := ?_) (a' := ?_) #[true, false, false, false, false, false, false, false, false, false, false, false, false, false, false, false] rfl rfl (by kernel_rfl) (fun _ _ _ h => h) (Or.inl ⟨by rfl, ?_⟩) ?_ ?_
      rotate_left
      · intro w'
        go_simp
        with_reducible rfl
      rotate_left
      · simp only [Act.put, List.setIfInBounds_toArray, List.set_cons_zero, List.set_cons_succ, i64_w, i32_w]
        rfl
      refine pure_ (i := 2) (N := some 21) (v := ?_) (a' := ?_) #[true, false, true, false, false, false, false, false, false, false, false, false, false, false, false, false] rfl rfl (by kernel_rfl) (fun _ _ _ h => h) (Or.inl ⟨by rfl, ?_⟩) ?_ ?_
      rotate_left
      · intro w'
        go_simp
        with_reducible rfl
      rotate_left
      · simp only [Act.put, List.setIfInBounds_toArray, List.set_cons_zero, List.set_cons_succ, i64_w, i32_w]
        rfl
      refine pure_ (i := 3) (N := some 22) (v := ?_) (a' := ?_) #[true, false, true, true, false, false, false, false, false, false, false, false, false, false, false, false] rfl rfl (by kernel_rfl) (fun _ _ _ h => h) (Or.inl ⟨by rfl, ?_⟩) ?_ ?_
      rotate_left
      · intro w'
        go_simp
        with_reducible rfl
      rotate_left
      · simp only [Act.put, List.setIfInBounds_toArray, List.set_cons_zero, List.set_cons_succ, i64_w, i32_w]
        rfl
      refine pure_ (i := 4) (N := some 23) (v := ?_) (a' := ?_) #[true, false, true, true, true, false, false, false, false, false, false, false, false, false, false, false] rfl rfl (by kernel_rfl) (fun _ _ _ h => h) (Or.inl ⟨by rfl, ?_⟩) ?_ ?_
      rotate_left
      · intro w'
        go_simp
        with_reducible rfl
      rotate_left
      · simp only [Act.put, List.setIfInBounds_toArray, List.set_cons_zero, List.set_cons_succ, i64_w, i32_w]
        rfl
      refine pure_ (i := 6) (N := some 25) (v := ?_) (a' := ?_) #[true, false, true, true, true, false, true, false, false, false, false, false, false, false, false, false] rfl rfl (by kernel_rfl) (fun _ _ _ h => h) (Or.inl ⟨by rfl, ?_⟩) ?_ ?_
      rotate_left
      · intro w'
        go_simp
        with_reducible rfl
      rotate_left
      · simp only [Act.put, List.setIfInBounds_toArray, List.set_cons_zero, List.set_cons_succ, i64_w, i32_w]
        rfl
      refine pure_ (i := 7) (N := some 26) (v := ?_) (a' := ?_) #[true, false, true, true, true, false, true, true, false, false, false, false, false, false, false, false] rfl rfl (by kernel_rfl) (fun _ _ _ h => h) (Or.inl ⟨by rfl, ?_⟩) ?_ ?_
      rotate_left
      · intro w'
        go_simp
        with_reducible rfl
      rotate_left
      · simp only [Act.put, List.setIfInBounds_toArray, List.set_cons_zero, List.set_cons_succ, i64_w, i32_w]
        rfl
      refine pure_ (i := 8) (N := some 27) (v := ?_) (a' := ?_) #[true, false, true, true, true, false, true, true, true, false, false, false, false, false, false, false] rfl rfl (by kernel_rfl) (fun _ _ _ h => h) (Or.inl ⟨by rfl, ?_⟩) ?_ ?_
      rotate_left
      · intro w'
        go_simp
        with_reducible rfl
      rotate_left
      · simp only [Act.put, List.setIfInBounds_toArray, List.set_cons_zero, List.set_cons_succ, i64_w, i32_w]
        rfl
      refine take_ (i := 1) (N := some 20) (v := ?_) (a' := ?_) #[true, true, true, true, true, false, true, true, true, false, false, false, false, false, false, false] rfl rfl (by kernel_rfl) (fun _ _ _ h => h) (Or.inl ⟨by rfl, ?_⟩) hHeld ?_ ?_
      rotate_left
      · rintro w' ⟨s0, s1⟩
        go_simp
        with_reducible rfl
      rotate_left
      · simp only [Act.put, List.setIfInBounds_toArray, List.set_cons_zero, List.set_cons_succ, i64_w, i32_w]
        rfl
      refine take_ (i := 5) (N := some 24) (v := ?_) (a' := ?_) #[true, true, true, true, true, true, true, true, true, false, false, false, false, false, false, false] rfl rfl (by kernel_rfl) (fun _ _ _ h => h) (Or.inl ⟨by rfl, ?_⟩) hHeld ?_ ?_
      rotate_left
      · rintro w' ⟨s0, s1⟩
        go_simp
        with_reducible rfl
      rotate_left
      · simp only [Act.put, List.setIfInBounds_toArray, List.set_cons_zero, List.set_cons_succ, i64_w, i32_w]
        rfl
      refine take_ (i := 9) (N := some 28) (v := ?_) (a' := ?_) #[true, true, true, true, true, true, true, true, true, true, false, false, false, false, false, false] rfl rfl (by kernel_rfl) (fun _ _ _ h => h) (Or.inl ⟨by rfl, ?_⟩) hHeld ?_ ?_
      rotate_left
      · rintro w' ⟨s0, s1⟩
        go_simp
        with_reducible rfl
      rotate_left
      · simp only [Act.put, List.setIfInBounds_toArray, List.set_cons_zero, List.set_cons_succ, i64_w, i32_w]
        rfl
      refine pure_ (i := 10) (N := some 29) (v := ?_) (a' := ?_) #[true, true, true, true, true, true, true, true, true, true, true, false, false, false, false, false] rfl rfl (by kernel_rfl) (fun _ _ _ h => h) (Or.inl ⟨by rfl, ?_⟩) ?_ ?_
      rotate_left
      · intro w'
        go_simp
        with_reducible rfl
      rotate_left
      · simp only [Act.put, List.setIfInBounds_toArray, List.set_cons_zero, List.set_cons_succ, i64_w, i32_w]
        rfl
      refine one_ (i := 11) (N := some 30) #[true, true, true, true, true, true, true, true, true, true, true, true, false, false, false, false] rfl rfl (by kernel_rfl) (by decide) (fun K hK => ?_)
      refine value_ (w1 := ?_) (v := ?_) (by rfl) rfl ?_ ?_
      rotate_left 2
      · go_simp
        constructor
        · rfl
        · rfl
      have hs := HS.out.lit_ro kSp 67 (xs := [(⟨f, f⟩ : Sp)]) (inner := [.int .i64 f, .int .i64 f]) (sp_rep _ _ f f) (by simp)
      clear HS; have HS := Aside0.mk hs; clear hs
      refine hK.out _ _ ⟨((HS.out.box 2 rfl).cell 0 rfl), (pw_cell_below HS.out.below HYF.out)⟩ (fun hHeld => ?_)
      clear hK K
      refine norm_ (a' := ?_) ?_ ?_
      rotate_left
      · show Act.put _ (some 30) _ = _
        simp only [Act.put, List.setIfInBounds_toArray, List.set_cons_zero, List.set_cons_succ, i64_w, i32_w]
        rfl
      refine one_ (i := 12) (N := some 31) #[true, true, true, true, true, true, true, true, true, true, true, true, true, false, false, false] rfl rfl (by kernel_rfl) (by decide) (fun K hK => ?_)
      refine value_ (w1 := ?_) (v := ?_) (by rfl) rfl ?_ ?_
      rotate_left 2
      · go_simp
        constructor
        · rfl
        · rfl
      have hs := HS.out.lit_ro' (wd.heap.size + 1) (by simp) kSps 68 (xs := [[(⟨f, f⟩ : Sp)]]) (inner := [.slice (some ⟨wd.heap.size, 0, none⟩) 1 1]) (Reps.one (PK.slice (HS.out.ro 5 rfl)) (Reps.none _ _)) (by simp)
      clear HS; have HS := Aside0.mk hs; clear hs
      refine hK.out _ _ ⟨((HS.out.box 2 rfl).cell 0 rfl), (pw_cell_below HS.out.below HYF.out)⟩ (fun hHeld => ?_)
      clear hK K
      refine norm_ (a' := ?_) ?_ ?_
      rotate_left
      · show Act.put _ (some 31) _ = _
        simp only [Act.put, List.setIfInBounds_toArray, List.set_cons_zero, List.set_cons_succ, i64_w, i32_w]
        rfl
      refine last_ (i := 13) (N := some 32) #[true, true, true, true, true, true, true, true, true, true, true, true, true, true, false, false] rfl rfl (by kernel_rfl) (by decide) (fun K hK => ?_)
      refine sgrow_step kSps 3 (by rfl) rfl (.tmp 20) (.tmp 31) 56 68 (.slice none 0 0) 24 rfl Tryd.underlying56 info68 rfl (by decide) (by omega) _ (.slice (some ⟨wd.heap.size + 1, 0, none⟩) 1 1) P [[(⟨f, f⟩ : Sp)]] rfl rfl HS.out rfl (HS.out.ro 6 rfl) (by have := HPL.out; rw [List.length_singleton]; omega) ?_
      intro v1 w1 hs
      obtain ⟨z1, hz1⟩ : ∃ q, q = P ++ [[(⟨f, f⟩ : Sp)]] := ⟨_, rfl⟩
      rw [← hz1] at hs
      have HZz1 := Aside0.mk hz1
      clear hz1
      obtain ⟨A1, c1, e1⟩ := hs.form 3 rfl
      subst e1
      clear HS; have HS := Aside0.mk hs; clear hs
      have fz := (HS.out.box 2 rfl).open_ 0
      have yz := (HS.out.box 2 rfl).cell 0 rfl
      refine hK.out _ _ ?_
      clear hK K
      refine norm_ (a' := ?_) ?_ ?_
      rotate_left
      · show Act.put _ (some 32) _ = _
        simp only [Act.put, List.setIfInBounds_toArray, List.set_cons_zero, List.set_cons_succ, i64_w, i32_w]
        rfl
      refine pure_ (i := 14) (N := some 33) (v := ?_) (a' := ?_) #[true, true, true, true, true, true, true, true, true, true, true, true, true, true, true, false] rfl rfl (by kernel_rfl) (fun _ _ _ h => h) (Or.inl ⟨by rfl, ?_⟩) ?_ ?_
      rotate_left
      · intro w'
        go_simp
        with_reducible rfl
      rotate_left
      · simp only [Act.put, List.setIfInBounds_toArray, List.set_cons_zero, List.set_cons_succ, i64_w, i32_w]
        rfl
      refine last_ (i := 15) (N := none) #[true, true, true, true, true, true, true, true, true, true, true, true, true, true, true, true] rfl rfl (by kernel_rfl) (by decide) (fun K hK => ?_)
      refine skip_ (w1 := ?_) (by rfl) rfl ?_ ?_
      rotate_left
      · go_simp
        rfl
      have hs := HS.out.set_box 2 rfl 0 (.slice A1 z1.length c1)
      clear HS; have HS := Aside0.mk hs; clear hs
      refine hK.out _ _ ?_
      clear hK K
      refine done_ (by kernel_rfl) ?_
      go_wp2_with fail
      go_roundg k1
      case measure => omega
      case rel => exact ⟨k + 1, _, z1, by go_num, ⟨by have := HJ.out; omega⟩, ⟨by rw [HZz1.out]; exact HP2.out⟩, ⟨HS.out.take 5⟩⟩
    | zero =>
      have hk : k = firsts.length := by have := HJ.out; omega
      have e1 : decide ((k : Int) < (firsts.length : Int)) = false := decide_eq_false (by omega)
      have e2 : decide (k < firsts.length) = false := decide_eq_false (by omega)
      have q0 : P = rP := by rw [HP.out, hk, List.take_length]; exact HRP.out
      clear HP HJ hk HRP
      subst q0
      obtain ⟨A3, c3, e3⟩ := HS.out.form 3 rfl
      subst e3
      go_wp2_with fail
      clear e1 e2
      go_loopg [7] next.length (fun m v7 w' => ∃ (i : Nat) (vN : Value) (N : List (List Int)), v7 = .int .i64 i ∧ Aside0 (i + m = next.length) ∧ Aside0 (N = (next.take i).map (fun row => firsts.map (fun f => row.getD f.toNat 0))) ∧ Aside0 (Sep X w w' [.box g0 27 [.slice An next.length cn, .slice At tags.length ct], .box g1 58 [.slice none 0 0, .slice none 0 0, .slice none 0 0], .box g2 58 [(.slice A3 P.length c3), vN, .slice At tags.length ct], .row kSps 68 (.slice A3 P.length c3) P, .row kRow 25 vN N]))
      case atStart => exact ⟨0, _, [], rfl, ⟨by omega⟩, ⟨rfl⟩, HS⟩
      case round =>
        clear HS
        obtain ⟨i, vN, N, rfl, HJ, HN, HS⟩ := hrel
        obtain ⟨A4, c4, e4⟩ := HS.out.form 4 rfl
        subst e4
        have y1 := ((HS.out.box 0 rfl).cell 0 rfl)
        cases gk with
        | zero =>
          have hi : i = next.length := by have := HJ.out; omega
          have e1 : decide ((i : Int) < (next.length : Int)) = false := decide_eq_false (by omega)
          have e2 : decide (i < next.length) = false := decide_eq_false (by omega)
          have q0 : N = rN := by rw [HN.out, hi, List.take_length]; exact HRN.out
          clear HN HJ hi HRN
          subst q0
          have z0 := ((HS.out.box 2 rfl).cell 0 rfl)
          have z1 := ((HS.out.box 2 rfl).cell 1 rfl)
          have z2 := ((HS.out.box 2 rfl).cell 2 rfl)
          have x0 := ((HS.out.box 1 rfl).cell 0 rfl)
          have x1 := ((HS.out.box 1 rfl).cell 1 rfl)
          have x2 := ((HS.out.box 1 rfl).cell 2 rfl)
          have f0 := (HS.out.box 1 rfl).open_ 0
          have f1 := (HS.out.box 1 rfl).open_ 1
          have f2 := (HS.out.box 1 rfl).open_ 2
          go_wp2_with fail
          have HSF := Aside0.mk (((HS.out.set_box 1 rfl 0 (.slice A3 P.length c3)).set_box 1 rfl 1 (.slice A4 N.length c4)).set_box 1 rfl 2 (.slice At tags.length ct))
          refine bodyPost_ret (results_cell_row rfl _ _ g1 58 #[.slice A3 P.length c3, .slice A4 N.length c4, .slice At tags.length ct] (0, 0) _ rfl (HSF.out.box 1 rfl) Tryd.underlying58 rfl (by kernel_rfl)) rfl ?_
          exact ⟨_, _, rfl, HSF.out.res_row 3 rfl, HSF.out.res_row 4 rfl, HSF.out.below⟩
        | succ k1 =>
          have hi : i < next.length := by have := HJ.out; omega
          have e1 : decide ((i : Int) < (next.length : Int)) = true := decide_eq_true (by omega)
          have e2 : decide (i < next.length) = true := decide_eq_true hi
          have hi0 : (0 : Int) ≤ (i : Int) := by omega
          have hi1 : (i : Int) < (next.length : Int) := by omega
          obtain ⟨an, cn', u, en, hu, yn⟩ := H1.out.row i hi
          cases en
          obtain ⟨Au, cu, rfl, _, _⟩ := hu.now
          have HU := Aside0.mk hu
          have HY := Aside0.mk yn
          have HRL := Aside0.mk (HROW.out i hi)
          have HN2 := Aside0.mk (show N ++ [firsts.map (fun f => (next.getD i []).getD f.toNat 0)] = (next.take (i + 1)).map (fun row => firsts.map (fun f => row.getD f.toNat 0)) by rw [take_at next [] i hi, List.map_append, HN.out]; rfl)
          have HPL := Aside0.mk (show N.length + 1 ≤ 100000001 by rw [HN.out]; simp; omega)
          generalize next.getD i [] = row at *
          have hs := HS.out.push_nil kInt 3
          clear hu yn HN HS
          have HS := Aside0.mk hs
          clear hs
          go_wp2_with fail
          clear y1 e1 e2
          go_loopg [8, 9] firsts.length (fun m v8 v9 w' => ∃ (k : Nat) (R : List Int), v9 = .int .i64 k ∧ Aside0 (k + m = firsts.length) ∧ Aside0 (R = (firsts.take k).map (fun f => row.getD f.toNat 0)) ∧ Aside0 (Sep X w w' [.box g0 27 [.slice (some an) next.length cn, .slice At tags.length ct], .box g1 58 [.slice none 0 0, .slice none 0 0, .slice none 0 0], .box g2 58 [(.slice A3 P.length c3), (.slice A4 N.length c4), .slice At tags.length ct], .row kSps 68 (.slice A3 P.length c3) P, .row kRow 25 (.slice A4 N.length c4) N, .row kInt 3 v8 R]))
          case atStart => exact ⟨0, [], rfl, ⟨by omega⟩, ⟨rfl⟩, HS⟩
          case round =>
            clear HS
            obtain ⟨k, R, rfl, HK, HR, HS⟩ := hrel
            cases gk with
            | succ k2 =>
              have hk : k < firsts.length := by have := HK.out; omega
              have e1 : decide ((k : Int) < (firsts.length : Int)) = true := decide_eq_true (by omega)
              have e2 : decide (k < firsts.length) = true := decide_eq_true hk
              have hk0 : (0 : Int) ≤ (k : Int) := by omega
              have hk1 : (k : Int) < (firsts.length : Int) := by omega
              obtain ⟨af, cf', ef, yf⟩ := int_cell H3.out k hk
              cases ef
              have hfx := HFR.out _ (mem_getD firsts 0 k hk)
              have HR2 := Aside0.mk (show R ++ [row.getD (firsts.getD k 0).toNat 0] = (firsts.take (k + 1)).map (fun f => row.getD f.toNat 0) by rw [take_at firsts 0 k hk, List.map_append, HR.out]; rfl)
              have HRL2 := Aside0.mk (show R.length + 1 ≤ 1000 by rw [HR.out]; simp; omega)
              generalize firsts.getD k 0 = f at *
              obtain ⟨fn, rfl⟩ := Int.eq_ofNat_of_zero_le hfx.1
              rw [Int.toNat_natCast] at HR2
              have hfn : fn < row.length := by have := HRL.out; omega
              have hfn0 : (0 : Int) ≤ (fn : Int) := by omega
              have hfn1 : (fn : Int) < (row.length : Int) := by omega
              obtain ⟨ar, cr, er, yr⟩ := int_cell HU.out fn hfn
              cases er
              generalize row.getD fn 0 = x at *
              have HYF := Aside0.mk (And.intro yf yr)
              clear yf yr HR hfx
              go_wp2_with fail
              have hs := HS.out.drew
              clear HS; have HS := Aside0.mk hs; clear hs
              refine start_ (n := 15) (S := fun w' => w'.cell? ⟨g0, 0, none⟩ = some (.slice (some an) next.length cn) ∧ w'.cell? (an.add i) = some (.slice (some ar) row.length cu) ∧ w'.cell? (af.add k) = some (.int .i64 (fn : Int)) ∧ w'.cell? (ar.add fn) = some (.int .i64 x)) (ds := [13]) #[false, false, false, false, false, false, false, false, false, false, false, false, false, false, false] (by kernel_rfl) rfl rfl ⟨((HS.out.box 0 rfl).cell 0 rfl), (pw_cell_below HS.out.below HY.out), (pw_cell_below HS.out.below HYF.out.1), (pw_cell_below HS.out.below HYF.out.2)⟩ (fun hHeld => ?_)
              refine pure_ (i := 0) (N := some 47) (v := ?_) (a' := ?_) #[true, false, false, false, false, false, false, false, false, false, false, false, false, false, false] rfl rfl (by kernel_rfl) (fun _ _ _ h => h) (Or.inl ⟨by rfl, ?_⟩) ?_ ?_
              rotate_left
              · intro w'
                go_simp
                with_reducible rfl
              rotate_left
              · simp only [Act.put, List.setIfInBounds_toArray, List.set_cons_zero, List.set_cons_succ, i64_w, i32_w]
                rfl
              refine pure_ (i := 1) (N := some 48) (v := ?_) (a' := ?_) #[true, true, false, false, false, false, false, false, false, false, false, false, false, false, false] rfl rfl (by kernel_rfl) (fun _ _ _ h => h) (Or.inl ⟨by rfl, ?_⟩) ?_ ?_
              rotate_left
              · intro w'
                go_simp
                with_reducible rfl
              rotate_left
              · simp only [Act.put, List.setIfInBounds_toArray, List.set_cons_zero, List.set_cons_succ, i64_w, i32_w]
                rfl
              refine pure_ (i := 3) (N := some 50) (v := ?_) (a' := ?_) #[true, true, false, true, false, false, false, false, false, false, false, false, false, false, false] rfl rfl (by kernel_rfl) (fun _ _ _ h => h) (Or.inl ⟨by rfl, ?_⟩) ?_ ?_
              rotate_left
              · intro w'
                go_simp
                with_reducible rfl
              rotate_left
              · simp only [Act.put, List.setIfInBounds_toArray, List.set_cons_zero, List.set_cons_succ, i64_w, i32_w]
                rfl
              refine pure_ (i := 6) (N := some 53) (v := ?_) (a' := ?_) #[true, true, false, true, false, false, true, false, false, false, false, false, false, false, false] rfl rfl (by kernel_rfl) (fun _ _ _ h => h) (Or.inl ⟨by rfl, ?_⟩) ?_ ?_
              rotate_left
              · intro w'
                go_simp
                with_reducible rfl
              rotate_left
              · simp only [Act.put, List.setIfInBounds_toArray, List.set_cons_zero, List.set_cons_succ, i64_w, i32_w]
                rfl
              refine pure_ (i := 7) (N := some 54) (v := ?_) (a' := ?_) #[true, true, false, true, false, false, true, true, false, false, false, false, false, false, false] rfl rfl (by kernel_rfl) (fun _ _ _ h => h) (Or.inl ⟨by rfl, ?_⟩) ?_ ?_
              rotate_left
              · intro w'
                go_simp
                with_reducible rfl
              rotate_left
              · simp only [Act.put, List.setIfInBounds_toArray, List.set_cons_zero, List.set_cons_succ, i64_w, i32_w]
                rfl
              refine pure_ (i := 8) (N := some 55) (v := ?_) (a' := ?_) #[true, true, false, true, false, false, true, true, true, false, false, false, false, false, false] rfl rfl (by kernel_rfl) (fun _ _ _ h => h) (Or.inl ⟨by rfl, ?_⟩) ?_ ?_
              rotate_left
              · intro w'
                go_simp
                with_reducible rfl
              rotate_left
              · simp only [Act.put, List.setIfInBounds_toArray, List.set_cons_zero, List.set_cons_succ, i64_w, i32_w]
                rfl
              refine take_ (i := 2) (N := some 49) (v := ?_) (a' := ?_) #[true, true, true, true, false, false, true, true, true, false, false, false, false, false, false] rfl rfl (by kernel_rfl) (fun _ _ _ h => h) (Or.inl ⟨by rfl, ?_⟩) hHeld ?_ ?_
              rotate_left
              · rintro w' ⟨s0, s1, s2, s3⟩
                go_simp
                with_reducible rfl
              rotate_left
              · simp only [Act.put, List.setIfInBounds_toArray, List.set_cons_zero, List.set_cons_succ, i64_w, i32_w]
                rfl
              refine pure_ (i := 4) (N := some 51) (v := ?_) (a' := ?_) #[true, true, true, true, true, false, true, true, true, false, false, false, false, false, false] rfl rfl (by kernel_rfl) (fun _ _ _ h => h) (Or.inl ⟨by rfl, ?_⟩) ?_ ?_
              rotate_left
              · intro w'
                go_simp
                with_reducible rfl
              rotate_left
              · simp only [Act.put, List.setIfInBounds_toArray, List.set_cons_zero, List.set_cons_succ, i64_w, i32_w]
                rfl
              refine take_ (i := 5) (N := some 52) (v := ?_) (a' := ?_) #[true, true, true, true, true, true, true, true, true, false, false, false, false, false, false] rfl rfl (by kernel_rfl) (fun _ _ _ h => h) (Or.inl ⟨by rfl, ?_⟩) hHeld ?_ ?_
              rotate_left
              · rintro w' ⟨s0, s1, s2, s3⟩
                go_simp
                with_reducible rfl
              rotate_left
              · simp only [Act.put, List.setIfInBounds_toArray, List.set_cons_zero, List.set_cons_succ, i64_w, i32_w]
                rfl
              refine take_ (i := 9) (N := some 56) (v := ?_) (a' := ?_) #[true, true, true, true, true, true, true, true, true, true, false, false, false, false, false] rfl rfl (by kernel_rfl) (fun _ _ _ h => h) (Or.inl ⟨by rfl, ?_⟩) hHeld ?_ ?_
              rotate_left
              · rintro w' ⟨s0, s1, s2, s3⟩
                go_simp
                with_reducible rfl
              rotate_left
              · simp only [Act.put, List.setIfInBounds_toArray, List.set_cons_zero, List.set_cons_succ, i64_w, i32_w]
                rfl
              refine pure_ (i := 10) (N := some 57) (v := ?_) (a' := ?_) #[true, true, true, true, true, true, true, true, true, true, true, false, false, false, false] rfl rfl (by kernel_rfl) (fun _ _ _ h => h) (Or.inl ⟨by rfl, ?_⟩) ?_ ?_
              rotate_left
              · intro w'
                go_simp
                with_reducible rfl
              rotate_left
              · simp only [Act.put, List.setIfInBounds_toArray, List.set_cons_zero, List.set_cons_succ, i64_w, i32_w]
                rfl
              refine take_ (i := 11) (N := some 58) (v := ?_) (a' := ?_) #[true, true, true, true, true, true, true, true, true, true, true, true, false, false, false] rfl rfl (by kernel_rfl) (fun _ _ _ h => h) (Or.inl ⟨by rfl, ?_⟩) hHeld ?_ ?_
              rotate_left
              · rintro w' ⟨s0, s1, s2, s3⟩
                go_simp
                with_reducible rfl
              rotate_left
              · simp only [Act.put, List.setIfInBounds_toArray, List.set_cons_zero, List.set_cons_succ, i64_w, i32_w]
                rfl
              refine one_ (i := 12) (N := some 59) #[true, true, true, true, true, true, true, true, true, true, true, true, true, false, false] rfl rfl (by kernel_rfl) (by decide) (fun K hK => ?_)
              refine value_ (w1 := ?_) (v := ?_) (by rfl) rfl ?_ ?_
              rotate_left 2
              · go_simp
                constructor
                · rfl
                · rfl
              have hs := HS.out.lit_ro kInt 3 (xs := [x]) (inner := [.int .i64 x]) (Reps.one (PK.scalar _) (Reps.none _ _)) (by simp)
              clear HS; have HS := Aside0.mk hs; clear hs
              refine hK.out _ _ ⟨((HS.out.box 0 rfl).cell 0 rfl), (pw_cell_below HS.out.below HY.out), (pw_cell_below HS.out.below HYF.out.1), (pw_cell_below HS.out.below HYF.out.2)⟩ (fun hHeld => ?_)
              clear hK K
              refine norm_ (a' := ?_) ?_ ?_
              rotate_left
              · show Act.put _ (some 59) _ = _
                simp only [Act.put, List.setIfInBounds_toArray, List.set_cons_zero, List.set_cons_succ, i64_w, i32_w]
                rfl
              refine last_ (i := 13) (N := some 60) #[true, true, true, true, true, true, true, true, true, true, true, true, true, true, false] rfl rfl (by kernel_rfl) (by decide) (fun K hK => ?_)
              refine sgrow_step kInt 5 (by rfl) rfl (.tmp 47) (.tmp 59) 25 3 (.int .i64 0) 8 rfl Tryd.underlying25 info3' rfl (by decide) (by omega) _ _ R [x] rfl rfl HS.out rfl (HS.out.ro 6 rfl) (by have := HRL2.out; rw [List.length_singleton]; omega) ?_
              intro v1 w1 hs
              clear HS; have HS := Aside0.mk hs; clear hs
              refine hK.out _ _ ?_
              clear hK K
              refine norm_ (a' := ?_) ?_ ?_
              rotate_left
              · show Act.put _ (some 60) _ = _
                simp only [Act.put, List.setIfInBounds_toArray, List.set_cons_zero, List.set_cons_succ, i64_w, i32_w]
                rfl
              refine pure_ (i := 14) (N := some 8) (v := ?_) (a' := ?_) #[true, true, true, true, true, true, true, true, true, true, true, true, true, true, true] rfl rfl (by kernel_rfl) (fun _ _ _ h => h) (Or.inl ⟨by rfl, ?_⟩) ?_ ?_
              rotate_left
              · intro w'
                go_simp
                with_reducible rfl
              rotate_left
              · simp only [Act.put, List.setIfInBounds_toArray, List.set_cons_zero, List.set_cons_succ, i64_w, i32_w]
                rfl
              refine done_ (by kernel_rfl) ?_
              go_wp2_with fail
              go_roundg k2
              case measure => omega
              case rel => exact ⟨k + 1, _, by go_num, ⟨by have := HK.out; omega⟩, HR2, ⟨HS.out.take 6⟩⟩
            | zero =>
              have hk : k = firsts.length := by have := HK.out; omega
              have e1 : decide ((k : Int) < (firsts.length : Int)) = false := decide_eq_false (by omega)
              have e2 : decide (k < firsts.length) = false := decide_eq_false (by omega)
              have q0 : R = firsts.map (fun f => row.getD f.toNat 0) := by rw [HR.out, hk, List.take_length]
              rw [← q0] at HN2
              clear HR q0 hk
              obtain ⟨A6, c6, e6⟩ := HS.out.form 5 rfl
              subst e6
              have hs := HS.out.sealRo 5 rfl
              clear HS
              have HS := Aside0.mk hs
              have y2 := ((HS.out.box 2 rfl).cell 1 rfl)
              clear hs
              go_wp2_with (first
                | ((with_reducible refine gate_dst (N := 64) rfl ?_); refine slit kRow 25 ?hg (N := 64) ?hd (xs := [R]) (inner := [.slice A6 R.length c6]) ?hr HS.out ?hp (by simp) ?_; (case hd => rfl); (case hg => rfl); (case hr => first | (go_simp; done) | (go_simp; rfl)); (case hp => exact Reps.one (PK.slice (HS.out.ro 5 rfl)) (Reps.none _ _)); clear HS; intro v30 w30 hs; have HS := Aside0.mk hs; clear hs)
                | ((with_reducible refine gate_builtin (b := .append) (xs := #[.tmp 62, .tmp 64]) rfl ?_); at_builtin; refine sgrow kRow 4 rfl (.tmp 62) (.tmp 64) 24 25 (.slice none 0 0) 24 rfl Tryd.underlying24 info25 rfl (by decide) (by omega) _ _ N [R] rfl rfl HS.out rfl (HS.out.ro 6 rfl) (by have := HPL.out; rw [List.length_singleton]; omega) ?_; clear HS; intro v1 w1 hs; obtain ⟨n1, hn1⟩ : ∃ q, q = N ++ [R] := ⟨_, rfl⟩; rw [← hn1] at hs; have HZn1 := Aside0.mk hn1; clear hn1; obtain ⟨A1, c1, e1⟩ := hs.form 4 rfl; subst e1; have fz := (hs.box 2 rfl).open_ 1; have yz := (hs.box 2 rfl).cell 1 rfl; have HS := Aside0.mk hs; clear hs))
              have hs := HS.out.set_box 2 rfl 1 (.slice A1 n1.length c1)
              clear HS
              have HS := Aside0.mk hs
              go_roundg k1
              case measure => omega
              case rel => exact ⟨i + 1, _, n1, by go_num, ⟨by have := HJ.out; omega⟩, ⟨by rw [HZn1.out]; exact HN2.out⟩, ⟨HS.out.take 5⟩⟩
end Go.Proofs.YtfbfeimildkigaaDoor.P
