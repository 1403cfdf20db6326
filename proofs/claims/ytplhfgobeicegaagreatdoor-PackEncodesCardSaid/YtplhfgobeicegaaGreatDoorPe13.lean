/- Part 13 of the proof: T01, T02, T03, T07a, T07, V6. -/
import Derived.Test.YtplhfgobeicegaaGreatDoorPe12
namespace Go.Proofs.YtplhfgobeicegaaGreatDoor.P
open Go Go.RowKit Go.Proofs.YtplhfgobeicegaaGreatDoorW.PrintWords Go.Proofs.YtplhfgobeicegaaGreatDoorW.PrintLast Go.Proofs.YtplhfgobeicegaaGreatDoorW.PrintMore Go.Proofs.YtplhfgobeicegaaGreatDoor.PX Go.Proofs.YtplhfgobeicegaaGreatDoor.IT
set_option linter.unusedVariables false
set_option linter.unusedSimpArgs false
set_option maxRecDepth 100000
def buf (ds : List Int) : List Value := List.replicate (65 - ds.length) (.int .u8 0) ++ ds.map (Value.int .u8)
theorem buf_at {ds : List Int} {k : Nat} (h : k < 65 - ds.length) : (buf ds)[k]? = some (.int .u8 0) := by
 unfold buf
 rw [List.getElem?_append_left (by simpa using h), List.getElem?_replicate, if_pos h]
theorem dig_at (u : Nat) (h : u < 36) (h2) : ((({ data := #[48, 49, 50, 51, 52, 53, 54, 55, 56, 57, 97, 98, 99, 100, 101, 102, 103, 104, 105, 106, 107, 108, 109, 110, 111, 112, 113, 114, 115, 116, 117, 118, 119, 120, 121, 122] } : ByteArray)[u]'h2).toNat : Int) = dig u := by
 have : ∀ v : Fin 36, ((({ data := #[48, 49, 50, 51, 52, 53, 54, 55, 56, 57, 97, 98, 99, 100, 101, 102, 103, 104, 105, 106, 107, 108, 109, 110, 111, 112, 113, 114, 115, 116, 117, 118, 119, 120, 121, 122] } : ByteArray)[v.1]'v.2).toNat : Int) = dig v.1 := by decide
 exact this ⟨u, h⟩
theorem slBuf (g k : Nat) (hk : k < 65) (W : World) : (Instr.sliceAt 160 (.pointer (some ⟨g, 0, none⟩)) (some (.int .i64 k)) none none).run Tryz.prog W = .ok (.slice (some ⟨g, k, none⟩) (65 - k) (65 - k)) W := by
 have h := run_sliceAt_array_l (P := Tryz.prog) W 160 ⟨g, 0, none⟩ (by rfl) .i64 k (by omega) (by show (k : Int) ≤ 65; omega)
 rw [h]
 have h1 : (⟨g, 0, none⟩ : Addr).add (k * 1) = ⟨g, k, none⟩ := by
  unfold Addr.add
  split
  ·obtain rfl : k = 0 := by omega
   rfl
  ·simp
 show Result.ok (slicedAt ⟨g, 0, none⟩ (k : Int).toNat 65 65 1) W = _
 rw [slicedAt, Int.toNat_natCast, if_neg (by omega), h1]
theorem buf_get {ds : List Int} {k j : Nat} (h : k = 65 - ds.length) (hj : j < ds.length) : (buf ds)[k + j]? = some (.int .u8 (ds.getD j 0)) := by
 unfold buf
 rw [List.getElem?_append_right (by simp; omega), List.length_replicate, show k + j - (65 - ds.length) = j by omega, List.getElem?_map, List.getElem?_eq_getElem hj, List.getD_eq_getElem?_getD, List.getElem?_eq_getElem hj]
 rfl
theorem _root_.Go.Proofs.YtplhfgobeicegaaGreatDoor.PX.Sep.set_buf {X : Nat → Prop} {w0 w : World} {L : List PX.Item} {g : Nat} {ds : List Int} (h : Sep X w0 w (L ++ [.box g 160 (buf ds)])) (d : Int) (k : Nat) (hk : k + ds.length = 64) : Sep X w0 (w.setCell ⟨g, k, none⟩ (.int .u8 d)) (L ++ [.box g 160 (buf (d :: ds))]) := by
 have h1 := h.set_box L.length (by rw [List.getElem?_append_right (Nat.le_refl _), Nat.sub_self]; rfl) k (.int .u8 d)
 rw [List.set_append, if_neg (by omega), Nat.sub_self] at h1
 have e1 : (buf ds).set k (.int .u8 d) = buf (d :: ds) := by
  unfold buf
  rw [List.set_append, if_pos (by simp; omega), show 65 - ds.length = k + 1 by omega, List.length_cons, show 65 - (ds.length + 1) = k by omega, List.replicate_succ', List.set_append, if_neg (by simp), List.length_replicate, Nat.sub_self]
  simp
 rw [← e1]
 exact h1
theorem digs_small (m u : Nat) (h : u < 36) : digs m u = [dig u] := by
 cases m with
 | zero => rfl
 | succ m => rw [digs, if_pos h]
theorem pow36 (w : World) : Calls Tryz.prog 104 #[.int .i64 36] w fun e w' => e = .returned (.bool false) ∧ w' = w := by
 go_enter Tryz.func104, Tryz.ntmps104
 go_wp2_with fail
 go_ret
 exact ⟨rfl, rfl⟩
set_option maxHeartbeats 16000000 in
theorem fbits_calls (X : Nat → Prop) (w0 w : World) (L : List PX.Item) (i : Nat) (v : Value) (xs : List Int) (n : Nat) (hs : Sep X w0 w L) (hi : L[i]? = some (.row kU8 5 v xs)) (hn : n < 18446744073709551616) (hl : xs.length ≤ 1000000000) :
  Calls Tryz.prog 98 #[v, .int .u64 n, .int .i64 36, .bool false, .bool true] w fun ee w' => ∃ v1, ee = .returned (.tuple #[v1, .string { data := #[] }]) ∧ Sep X w0 w' (L.set i (.row kU8 5 v1 (xs ++ digs 13 n))) := by
 have HS := aM hs
 obtain ⟨A0, c0, rfl⟩ := hs.form i hi
 have HI := aM hi
 clear hs hi
 go_enter Tryz.func98, Tryz.ntmps98
 go_wp2_with fail
 case _ =>
  refine (pow36 _).mono ?_
  rintro e w1 ⟨rfl, rfl⟩
  go_wp2_with fail
  have hs : Sep X w0 (w.alloc (.cells Tryz.zeroCells160 160)) (L ++ [.box w.heap.size 160 (buf [])]) := HS.out.push_box (buf []) 160
  obtain ⟨g, hg⟩ : ∃ g, g = w.heap.size := ⟨_, rfl⟩
  rw [← hg] at hs ⊢
  clear HS hg
  have HS := aM hs
  clear hs
  go_loopg [1, 13, 18] 13 (fun m v1 v13 v18 w' => ∃ (u k : Nat) (ds : List Int), v1 = .int .u64 u ∧ v13 = .int .i64 ((k : Int) + 1) ∧ Aside0 (k + ds.length = 64 ∧ ds.length + m = 13) ∧ Aside0 (u < 36 ^ (m + 1) ∧ u < 18446744073709551616) ∧ Aside0 (digs m u ++ ds = digs 13 n) ∧ Aside0 (Sep X w0 w' (L ++ [.box g 160 (buf ds)])))
  case atStart => exact ⟨n, 64, [], rfl, rfl, ⟨rfl, rfl⟩, ⟨by omega, hn⟩, ⟨by simp⟩, HS⟩
  case round =>
   clear HS
   obtain ⟨u, k, ds, rfl, rfl, HK, HU, HD, HS⟩ := hrel
   have hk := HK.out
   obtain ⟨hu, hub⟩ := HU.out
   have y0 := (HS.out.box L.length (by rw [List.getElem?_append_right (Nat.le_refl _), Nat.sub_self]; rfl)).cell k (buf_at (by omega))
   have f0 := (HS.out.box L.length (by rw [List.getElem?_append_right (Nat.le_refl _), Nat.sub_self]; rfl)).open_ k
   have k0 : (0 : Int) ≤ (k : Int) := by omega
   have k1 : (k : Int) < 65 := by omega
   have k2 : k < 65 := by omega
   rcases Nat.lt_or_ge u 36 with hu36 | hu36
   case inl =>
    have e1 : decide ((u : Int) ≥ 36) = false := dF (by omega)
    have e2 : decide ((36 : Int) ≤ (u : Int)) = false := dF (by omega)
    have e3 : decide (36 ≤ u) = false := dF (by omega)
    have sl : ∀ W, (Instr.sliceAt 160 (.pointer (some ⟨g, 0, none⟩)) (some (.int .i64 k)) none none).run Tryz.prog W = .ok (.slice (some ⟨g, k, none⟩) (dig u :: ds).length (dig u :: ds).length) W := fun W => by
     rw [slBuf g k k2 W, show (dig u :: ds).length = 65 - k by rw [List.length_cons]; omega]
    go_wp2_with (first
     | ((with_reducible refine gate_builtin (b := .append) (xs := #[.tmp 95, .tmp 97]) rfl ?_); at_builtin; rw [dig_at u hu36]; refine sgrow kU8 i rfl (.tmp 95) (.tmp 97) 24 5 (.int .u8 0) 1 rfl Tryz.underlying24 info5 rfl (by decide) (by omega) _ _ xs (dig u :: ds) rfl rfl ((HS.out.set_buf (dig u) k (by omega)).sub (List.sublist_append_left _ _)) HI.out ((HS.out.set_buf (dig u) k (by omega)).box_row (fun j hj => buf_get (by rw [List.length_cons]; omega) hj) (by rw [List.length_cons]; omega)) (by rw [List.length_cons]; omega) ?_; intro v1 w1 hs))
    go_ret2
    have hd := HD.out
    rw [digs_small _ _ hu36] at hd
    rw [← hd]
    exact ⟨_, rfl, hs⟩
   case inr =>
    cases gk with
    | zero => exact absurd hu (by omega)
    | succ k1 =>
     have e1 : decide ((u : Int) ≥ 36) = true := dT (by omega)
     have e2 : decide ((36 : Int) ≤ (u : Int)) = true := dT (by omega)
     have e3 : decide (36 ≤ u) = true := dT (by omega)
     obtain ⟨q, hq⟩ : ∃ q, q = u / 36 := ⟨_, rfl⟩
     obtain ⟨r, hr⟩ : ∃ r, r = u % 36 := ⟨_, rfl⟩
     have q1 : IntKind.u64.wrap ((u : Int) / 36) = (q : Int) := by rw [IntKind.wrap_u64]; omega
     have q2 : IntKind.u64.wrap ((q : Int) * 36) = (q : Int) * 36 := by rw [IntKind.wrap_u64]; omega
     have q3 : IntKind.u64.wrap ((u : Int) - (q : Int) * 36) = (r : Int) := by rw [IntKind.wrap_u64]; omega
     have r36 : r < 36 := by omega
     have HQ := aM (And.intro hq hr)
     clear hq hr
     go_wp2_with fail
     have hd := HD.out
     rw [digs, if_neg (by omega), ← HQ.out.1, ← HQ.out.2, List.append_assoc, List.singleton_append] at hd
     have hs := HS.out.set_buf (dig r) k (by omega)
     rw [dig_at r r36]
     obtain ⟨k', hk'⟩ : ∃ k', k = k' + 1 := ⟨k - 1, by omega⟩
     have hq := HQ.out.1
     go_roundg k1
     case measure => omega
     case rel => exact ⟨q, k', dig r :: ds, rfl, by rw [hk']; rfl, ⟨by rw [List.length_cons]; omega⟩, ⟨by rw [hq, Nat.div_lt_iff_lt_mul (by decide)]; rw [Nat.pow_succ] at hu; exact hu, by omega⟩, ⟨hd⟩, ⟨hs⟩⟩
end Go.Proofs.YtplhfgobeicegaaGreatDoor.P
namespace Go.Proofs.YtplhfgobeicegaaGreatDoor.P
open Go Go.RowKit Go.Proofs.YtplhfgobeicegaaGreatDoorW.PrintWords Go.Proofs.YtplhfgobeicegaaGreatDoorW.PrintLast Go.Proofs.YtplhfgobeicegaaGreatDoorW.PrintMore Go.Proofs.YtplhfgobeicegaaGreatDoor.PX Go.Proofs.YtplhfgobeicegaaGreatDoor.IT
set_option linter.unusedVariables false
set_option linter.unusedSimpArgs false
set_option maxRecDepth 100000
set_option maxHeartbeats 16000000 in
theorem auint_calls (X : Nat → Prop) (w0 w : World) (L : List PX.Item) (i : Nat) (v : Value) (xs : List Int) (n : Nat) (hs : Sep X w0 w L) (hi : L[i]? = some (.row kU8 5 v xs)) (hn : n < 18446744073709551616) (hl : xs.length ≤ 1000000000) :
  Calls Tryz.prog 86 #[v, .int .u64 n, .int .i64 36] w fun ee w' => ∃ v1, ee = .returned v1 ∧ Sep X w0 w' (L.set i (.row kU8 5 v1 (xs ++ digs 13 n))) := by
 have HS := aM hs
 obtain ⟨A0, c0, rfl⟩ := hs.form i hi
 have HI := aM hi
 clear hs hi
 go_enter Tryz.func86, Tryz.ntmps86
 go_wp2_with (first
  | (go_at_call 98; (with_reducible refine (fbits_calls X w0 _ L i _ xs n HS.out HI.out hn hl).mono ?_); rintro ee w5 ⟨v1, rfl, hs⟩))
 go_ret
 exact ⟨_, rfl, hs⟩
set_option maxHeartbeats 16000000 in
theorem aint_calls (X : Nat → Prop) (w0 w : World) (L : List PX.Item) (i : Nat) (v : Value) (xs : List Int) (x : Int) (hs : Sep X w0 w L) (hi : L[i]? = some (.row kU8 5 v xs)) (hx : Fits x) (hl : xs.length + 1 ≤ 1000000000) :
  Calls Tryz.prog 73 #[v, .int .i64 x, .int .i64 36] w fun ee w' => ∃ v1, ee = .returned v1 ∧ Sep X w0 w' (L.set i (.row kU8 5 v1 (xs ++ itoa x))) := by
 have HS := aM hs
 obtain ⟨A0, c0, rfl⟩ := hs.form i hi
 have HI := aM hi
 have hlt : i < L.length := (List.getElem?_eq_some_iff.1 hi).1
 obtain ⟨hx1, hx2⟩ := hx
 clear hs hi
 rcases Int.lt_or_le x 0 with h0 | h0
 case inl =>
  have e1 : decide (x < 0) = true := dT h0
  obtain ⟨n, hn⟩ : ∃ n : Nat, x = -(n : Int) := ⟨x.natAbs, by omega⟩
  subst hn
  have q1 : IntKind.u64.wrap (-(n : Int)) = 18446744073709551616 - (n : Int) := by rw [IntKind.wrap_u64]; omega
  have q2 : IntKind.u64.wrap (-(18446744073709551616 - (n : Int))) = (n : Int) := by rw [IntKind.wrap_u64]; omega
  have HE := aM (show itoa (-(n : Int)) = 45 :: digs 13 n by rw [itoa, if_pos h0, Int.natAbs_neg, Int.natAbs_natCast])
  go_enter Tryz.func73, Tryz.ntmps73
  go_wp2_with (first
   | ((with_reducible refine gate_dst (N := 13) rfl ?_); refine slit kU8 5 ?hg (N := 13) ?hd (xs := [(45 : Int)]) (inner := [.int .u8 45]) ?hr HS.out ?hp (by simp) ?_; (case hd => rfl); (case hg => rfl); (case hr => first | (go_simp; done) | (go_simp; rfl)); (case hp => exact Reps.one (PK.scalar _) (Reps.none _ _)); clear HS; intro v30 w30 hs; have HS := aM hs; clear hs)
   | ((with_reducible refine gate_builtin (b := .append) (xs := #[.tmp 12, .tmp 13]) rfl ?_); at_builtin; refine sgrow kU8 i rfl (.tmp 12) (.tmp 13) 24 5 (.int .u8 0) 1 rfl Tryz.underlying24 info5 rfl (by decide) (by omega) _ _ xs [(45 : Int)] rfl rfl HS.out (by rw [List.getElem?_append_left hlt]; exact HI.out) (HS.out.ro L.length List.getElem?_concat_length) (by rw [lS]; omega) ?_; intro v1 w1 hs; rw [List.set_append, if_pos hlt] at hs; have hs2 := hs.sub (List.sublist_append_left _ _); clear HS; have HS := aM hs2; clear hs hs2)
   | (go_at_call 86; (with_reducible refine (auint_calls X w0 _ _ i _ (xs ++ [45]) n HS.out (by rw [List.getElem?_set_self hlt]) (by omega) (by rw [lA, lS]; omega)).mono ?_); rintro ee w5 ⟨v5, rfl, hs⟩))
  go_ret
  rw [HE.out]
  rw [List.set_set, List.append_assoc] at hs
  exact ⟨_, rfl, hs⟩
 case inr =>
  have e1 : decide (x < 0) = false := dF (by omega)
  obtain ⟨n, hn⟩ : ∃ n : Nat, x = (n : Int) := ⟨x.natAbs, by omega⟩
  subst hn
  have q1 : IntKind.u64.wrap (n : Int) = (n : Int) := by rw [IntKind.wrap_u64]; omega
  have HE := aM (show itoa (n : Int) = digs 13 n by rw [itoa, if_neg (by omega), Int.natAbs_natCast])
  go_enter Tryz.func73, Tryz.ntmps73
  go_wp2_with (first
   | (go_at_call 86; (with_reducible refine (auint_calls X w0 _ _ i _ xs n HS.out HI.out (by omega) (by omega)).mono ?_); rintro ee w5 ⟨v5, rfl, hs⟩))
  go_ret
  rw [HE.out]
  exact ⟨_, rfl, hs⟩
theorem appendInt_calls (X : Nat → Prop) (w0 w : World) (L : List PX.Item) (i : Nat) (v : Value) (xs : List Int) (x : Int) (hs : Sep X w0 w L) (hi : L[i]? = some (.row kU8 5 v xs)) (hx : Fits x) (hl : xs.length + 1 ≤ 1000000000) :
  Calls Tryz.prog 55 #[v, .int .i64 x, .int .i64 36] w fun ee w' => ∃ v1, ee = .returned v1 ∧ Sep X w0 w' (L.set i (.row kU8 5 v1 (xs ++ itoa x))) := by
 have HS := aM hs
 obtain ⟨A0, c0, rfl⟩ := hs.form i hi
 have HI := aM hi
 clear hs hi
 go_enter Tryz.func55, Tryz.ntmps55
 go_wp2_with (first
  | (go_at_call 73; (with_reducible refine (aint_calls X w0 _ L i _ xs x HS.out HI.out hx hl).mono ?_); rintro ee w5 ⟨v1, rfl, hs⟩))
 go_ret
 exact ⟨_, rfl, hs⟩
end Go.Proofs.YtplhfgobeicegaaGreatDoor.P
namespace Go.Proofs.YtplhfgobeicegaaGreatDoor.P
open Go Go.RowKit Go.Proofs.YtplhfgobeicegaaGreatDoorW.PrintWords Go.Proofs.YtplhfgobeicegaaGreatDoorW.PrintLast Go.Proofs.YtplhfgobeicegaaGreatDoorW.PrintMore Go.Proofs.YtplhfgobeicegaaGreatDoor.PX Go.Proofs.YtplhfgobeicegaaGreatDoor.IT
set_option linter.unusedVariables false
set_option linter.unusedSimpArgs false
set_option maxRecDepth 100000
def colAt (next : List (List Int)) (c : Nat) : List Int := next.map (fun row => row.getD c 0)
set_option maxHeartbeats 16000000 in
theorem column_calls (X : Nat → Prop) (vn : Value) (next : List (List Int)) (c : Nat) (w : World) (hX : ∀ k, X k → k < w.heap.size) (hn : PV kRow X w vn next) (hr : ∀ row ∈ next, c < row.length) (hf : ∀ row ∈ next, Fits (row.getD c 0)) (hl : next.length ≤ 1000000) :
  Calls Tryz.prog 45 #[vn, .int .i64 c] w fun e w' => e = .returned (.string (strOfNums (colText (colAt next c)))) ∧ Below w.heap.size w w' := by
 have H1 := aM hn
 have HR := aM (show ∀ i, i < next.length → c < (next.getD i []).length ∧ Fits ((next.getD i []).getD c 0) from fun i hi => ⟨hr _ (mem_getD next [] i hi), hf _ (mem_getD next [] i hi)⟩)
 obtain ⟨An, cn, rfl, _, _⟩ := hn.now
 have HS := aM ((Sep.start hX).push_nil kU8 5)
 clear hn hr hf hX
 go_enter Tryz.func45, Tryz.ntmps45
 go_wp2_with fail
 go_loopg [5, 10] next.length (fun m v5 v10 w' => ∃ (i : Nat) (b : List Int), v10 = .int .i64 i ∧ Aside0 (i + m = next.length) ∧ Aside0 (b = colText (colAt (next.take i) c)) ∧ Aside0 (Sep X w w' [.row kU8 5 v5 b]))
 case atStart => exact ⟨0, [], rfl, ⟨by omega⟩, ⟨rfl⟩, HS⟩
 case round =>
  clear HS
  obtain ⟨i, b, rfl, HJ, HB, HS⟩ := hrel
  obtain ⟨A5, c5, e5⟩ := HS.out.form 0 rfl
  subst e5
  cases gk with
  | zero =>
   have hi : i = next.length := by have := HJ.out; omega
   have e1 : decide ((i : Int) < (next.length : Int)) = false := dF (by omega)
   have e2 : decide (i < next.length) = false := dF (by omega)
   have st := HS.out.str (P := Tryz.prog) 0 _ rfl Tryz.underlying24 Tryz.underlying5 Tryz.underlying9
   have HB3 := aM (show b = colText (colAt next c) by have hb := HB.out; rwa [hi, List.take_length] at hb)
   go_wp2_with fail
   go_ret
   rw [← HB3.out]
   exact ⟨rfl, HS.out.below⟩
  | succ k1 =>
   have hi : i < next.length := by have := HJ.out; omega
   have e1 : decide ((i : Int) < (next.length : Int)) = true := dT (by omega)
   have e2 : decide (i < next.length) = true := dT hi
   have hi0 : (0 : Int) ≤ (i : Int) := by omega
   have hi1 : (i : Int) < (next.length : Int) := by omega
   have hc0 : (0 : Int) ≤ (c : Int) := by omega
   obtain ⟨an, cn', u, en, hun, yn0⟩ := H1.out.row i hi
   cases en
   obtain ⟨hcl, hfx⟩ := HR.out i hi
   have hlen : b.length ≤ 16 * i := by
    rw [HB.out]
    have := colText_len (colAt (next.take i) c)
    have h2 : (colAt (next.take i) c).length = i := by simp [colAt]; omega
    omega
   have HB2 := aM (show b ++ itoa ((next.getD i []).getD c 0) ++ [32] = colText (colAt (next.take (i + 1)) c) by rw [take_at next [] i hi, colAt, List.map_append, List.map_cons, List.map_nil, colText_snoc, HB.out]; rfl)
   obtain ⟨row, hrow⟩ : ∃ r, r = next.getD i [] := ⟨_, rfl⟩
   rw [← hrow] at hun hcl hfx HB2
   clear hrow
   have hc1 : (c : Int) < (row.length : Int) := by omega
   obtain ⟨Au, cu, rfl, _, _⟩ := hun.now
   obtain ⟨ar, cr, er, yr0⟩ := int_cell hun c hcl
   cases er
   have yn := pw_cell_below HS.out.below yn0
   have yr := pw_cell_below HS.out.below yr0
   clear hun yn0 yr0 hcl HB
   generalize row.getD c 0 = x at *
   have hxl := itoa_len x
   go_wp2_with (first
    | (go_at_call 55; (with_reducible refine (appendInt_calls X w _ _ 0 _ b x HS.out rfl hfx (by omega)).mono ?_); rintro ee w5 ⟨v5, rfl, hs⟩; clear HS; have HS := aM hs; clear hs)
    | ((with_reducible refine gate_dst (N := 21) rfl ?_); refine slit kU8 5 ?hg (N := 21) ?hd (xs := [(32 : Int)]) (inner := [.int .u8 32]) ?hr HS.out ?hp (by simp) ?_; (case hd => rfl); (case hg => rfl); (case hr => first | (go_simp; done) | (go_simp; rfl)); (case hp => exact Reps.one (PK.scalar _) (Reps.none _ _)); clear HS; intro v30 w30 hs; have HS := aM hs; clear hs)
    | ((with_reducible refine gate_builtin (b := .append) (xs := #[.tmp 20, .tmp 21]) rfl ?_); at_builtin; refine sgrow kU8 0 rfl (.tmp 20) (.tmp 21) 24 5 (.int .u8 0) 1 rfl Tryz.underlying24 info5 rfl (by decide) (by omega) _ _ (b ++ itoa x) [(32 : Int)] rfl rfl HS.out rfl (HS.out.ro 1 rfl) (by rw [lA, lS]; omega) ?_; clear HS; intro v1 w1 hs; have hs := hs.take 1; have HS := aM hs; clear hs))
   go_roundg k1
   case measure => omega
   case rel => exact ⟨i + 1, _, by go_num, ⟨by have := HJ.out; omega⟩, HB2, HS⟩
end Go.Proofs.YtplhfgobeicegaaGreatDoor.P
namespace Go.Proofs.YtplhfgobeicegaaGreatDoor.P
open Go Go.RowKit Go.Proofs.YtplhfgobeicegaaGreatDoorW.PrintWords Go.Proofs.YtplhfgobeicegaaGreatDoor.PX Go.Proofs.YtplhfgobeicegaaGreatDoor.IT
open Go.Maps (Tidy IsMap)
set_option linter.unusedVariables false
def keyL (next : List (List Int)) (a : Nat) : Lit := .string (strOfNums (colText (colAt next a))).data.toList
theorem colAt_iff (next : List (List Int)) (a b : Nat) : colAt next a = colAt next b ↔ sameCol next a b = true := by
 unfold colAt sameCol
 rw [List.map_inj_left, List.all_eq_true]
 exact ⟨fun h x hx => dT (h x hx), fun h x hx => of_decide_eq_true (h x hx)⟩
theorem colAt_fits {next : List (List Int)} {a : Nat} (h : ∀ row ∈ next, Fits (row.getD a 0)) : ∀ x ∈ colAt next a, Fits x := by
 intro x hx
 obtain ⟨row, hr, rfl⟩ := List.mem_map.1 hx
 exact h row hr
theorem keyL_iff {next : List (List Int)} {a b : Nat} (ha : ∀ row ∈ next, Fits (row.getD a 0)) (hb : ∀ row ∈ next, Fits (row.getD b 0)) : keyL next a = keyL next b ↔ sameCol next a b = true := by
 rw [← colAt_iff]
 constructor
 ·intro h
  unfold keyL at h
  have h1 := Lit.string.inj h
  rw [strOfNums_data, strOfNums_data] at h1
  have h2 := str_inj _ _ (fun x hx => by have := colText_bytes _ (colAt_fits ha) x hx; omega) (fun x hx => by have := colText_bytes _ (colAt_fits hb) x hx; omega) h1
  exact colText_inj _ _ (colAt_fits ha) (colAt_fits hb) h2
 ·intro h
  unfold keyL
  rw [h]
theorem keyL_key (next : List (List Int)) (a : Nat) : WideAt.IsKeyLit (keyL next a) := trivial
theorem key_string {P : Program} {k : TypeId} (hk : P.underlying k = some .string) (next : List (List Int)) (a : Nat) (hl : next.length ≤ 1000000) : keyOf P k (.string (strOfNums (colText (colAt next a)))) = some (keyL next a) := by
 refine WideMaps.keyOf_string_mk hk ?_
 rw [strOfNums_size]
 have h1 := colText_len (colAt next a)
 have h2 : (colAt next a).length = next.length := by simp [colAt]
 unfold maxLen
 omega
structure MapD (K : Nat → Lit) (c : Nat) (D : DataW Unit) : Prop where
 tidy : Tidy D
 has : ∀ x, Maps.has D x = true ↔ ∃ a, a < c ∧ K a = x
 le : Maps.size D ≤ c
 eq : Maps.size D = c ↔ ∀ a, a < c → ∀ b, b < a → K a ≠ K b
theorem MapD.start (K : Nat → Lit) : MapD K 0 (.map []) := ⟨Maps.tidy_empty, fun x => ⟨fun h => by simp [Maps.has] at h, fun ⟨a, h, _⟩ => by omega⟩, Nat.le_refl _, ⟨fun _ a h => by omega, fun _ => rfl⟩⟩
theorem has_put {D : DataW Unit} (hD : IsMap D) {k : Lit} (hk : WideAt.IsKeyLit k) (d : DataW Unit) (x : Lit) : Maps.has (D.put k d) x = true ↔ x = k ∨ Maps.has D x = true := by
 by_cases c : x = k
 ·subst c
  simp [Maps.has_put_same hD hk]
 ·rw [Maps.has_put_other c]
  simp [c]
theorem MapD.step {K : Nat → Lit} {c : Nat} {D : DataW Unit} (h : MapD K c D) (hk : WideAt.IsKeyLit (K c)) (d : DataW Unit) : MapD K (c + 1) (D.put (K c) d) := by
 have hs := Maps.size_put (k := K c) h.tidy d
 refine ⟨h.tidy.put hk d, fun x => ?_, ?_, ?_⟩
 ·rw [has_put h.tidy.isMap hk, h.has]
  constructor
  ·rintro (rfl | ⟨a, ha, rfl⟩)
   ·exact ⟨c, by omega, rfl⟩
   ·exact ⟨a, by omega, rfl⟩
  ·rintro ⟨a, ha, rfl⟩
   by_cases hc : a = c
   ·subst hc; exact .inl rfl
   ·exact .inr ⟨a, by omega, rfl⟩
 ·rw [hs]
  have := h.le
  split <;> omega
 ·rw [hs]
  have hle := h.le
  cases hh : Maps.has D (K c)
  ·rw [if_neg (by decide)]
   have hn : ∀ b, b < c → K c ≠ K b := fun b hb he => by
    have := (h.has (K c)).2 ⟨b, hb, he.symm⟩
    rw [hh] at this
    cases this
   constructor
   ·intro he a ha b hb
    by_cases hc : a = c
    ·subst hc; exact hn b hb
    ·exact h.eq.1 (by omega) a (by omega) b hb
   ·intro hall
    have := h.eq.2 (fun a ha b hb => hall a (by omega) b hb)
    omega
  ·rw [if_pos rfl]
   obtain ⟨b, hb, he⟩ := (h.has (K c)).1 hh
   constructor
   ·intro he2; omega
   ·intro hall
    exact absurd he.symm (hall c (by omega) b hb)
structure KnownD (K : Nat → Lit) (F : List Int) (D : DataW Unit) : Prop where
 isMap : IsMap D
 has : ∀ x, Maps.has D x = true ↔ ∃ j, j < F.length ∧ K (F.getD j 0).toNat = x
 at_ : ∀ j, j < F.length → ∀ z, D.atKey (K (F.getD j 0).toNat) z = .lit (.int .i64 (j : Int))
theorem KnownD.start (K : Nat → Lit) : KnownD K [] (.map []) := ⟨Maps.isMap_empty, fun x => ⟨fun h => by simp [Maps.has] at h, fun ⟨a, h, _⟩ => by simp at h⟩, fun j h => by simp at h⟩
theorem getD_snoc {F : List Int} {c : Int} (j : Nat) (h : j < F.length) : (F ++ [c]).getD j 0 = F.getD j 0 := by
 rw [List.getD_eq_getElem?_getD, List.getElem?_append_left h, ← List.getD_eq_getElem?_getD]
theorem getD_last (F : List Int) (c : Int) : (F ++ [c]).getD F.length 0 = c := by simp
theorem KnownD.step {K : Nat → Lit} {F : List Int} {c : Nat} {D : DataW Unit} (h : KnownD K F D) (hk : WideAt.IsKeyLit (K c)) (hn : Maps.has D (K c) = false) : KnownD K (F ++ [(c : Int)]) (D.put (K c) (.lit (.int .i64 (F.length : Int)))) := by
 have hne : ∀ j, j < F.length → K (F.getD j 0).toNat ≠ K c := fun j hj he => by
  have := (h.has (K c)).2 ⟨j, hj, he⟩
  rw [hn] at this
  cases this
 refine ⟨h.isMap.put _ _, fun x => ?_, fun j hj z => ?_⟩
 ·rw [has_put h.isMap hk, h.has]
  constructor
  ·rintro (rfl | ⟨j, hj, rfl⟩)
   ·exact ⟨F.length, by simp, by rw [getD_last, Int.toNat_natCast]⟩
   ·exact ⟨j, by simp; omega, by rw [getD_snoc j hj]⟩
  ·rintro ⟨j, hj, rfl⟩
   by_cases hc : j = F.length
   ·subst hc; rw [getD_last, Int.toNat_natCast]; exact .inl rfl
   ·have hj' : j < F.length := by simp at hj; omega
    rw [getD_snoc j hj']
    exact .inr ⟨j, hj', rfl⟩
 ·by_cases hc : j = F.length
  ·subst hc
   rw [getD_last, Int.toNat_natCast]
   exact Maps.atKey_put_same h.isMap hk _ _
  ·have hj' : j < F.length := by simp at hj; omega
   rw [getD_snoc j hj', Maps.atKey_put_other (hne j hj')]
   exact h.at_ j hj' z
end Go.Proofs.YtplhfgobeicegaaGreatDoor.P
namespace Go.Proofs.YtplhfgobeicegaaGreatDoor.P
open Go Go.RowKit Go.Proofs.YtplhfgobeicegaaGreatDoorW.PrintWords Go.Proofs.YtplhfgobeicegaaGreatDoorW.PrintLast Go.Proofs.YtplhfgobeicegaaGreatDoorW.PrintMore Go.Proofs.YtplhfgobeicegaaGreatDoor.PX Go.Proofs.YtplhfgobeicegaaGreatDoor.IT
set_option linter.unusedVariables false
set_option linter.unusedSimpArgs false
set_option maxRecDepth 100000
set_option maxHeartbeats 16000000 in
theorem csound_calls (X : Nat → Prop) (vc vn vt : Value) (cl : List Int) (next : List (List Int)) (tags : List Int) (w : World) (hX : ∀ k, X k → k < w.heap.size) (hc : PV kU8 X w vc cl) (hn : PV kRow X w vn next) (ht : PV kInt X w vt tags) (hu : U8s cl) :
  Calls Tryz.prog 15 #[.agg #[vc, vn, vt]] w fun e w' => e = .returned (.bool (decide (TSound cl next tags))) ∧ Below w.heap.size w w' := by
 have H0 := aM hc
 have H1 := aM hn
 have H2 := aM ht
 have HU := aM hu
 have m1 := hn.max
 have m2 := ht.max
 obtain ⟨Ac, cc, rfl, _, _⟩ := hc.now
 obtain ⟨An, cn, rfl, _, _⟩ := hn.now
 obtain ⟨At, ct, rfl, _, _⟩ := ht.now
 have HS := aM ((Sep.start hX).push_box [.slice Ac cl.length cc, .slice An next.length cn, .slice At tags.length ct] 28)
 obtain ⟨n, hnn, hn256⟩ := many14_le hu
 obtain ⟨q, hq⟩ : ∃ q, q = decide (TSound cl next tags) := ⟨_, rfl⟩
 rw [← hq]
 have HQ := aM (show q = true ↔ TSoundN n next tags by rw [hq, decide_eq_true_iff, TSound, hnn]; exact Iff.rfl)
 have HN := aM hnn
 clear hc hn ht hX hq hu hnn
 have no : ¬ TSoundN n next tags → q = false := fun h => by
  cases hqq : q
  ·rfl
  ·exact absurd (HQ.out.1 hqq) h
 have HNO := aM no
 clear no
 go_enter Tryz.func15, Tryz.ntmps15
 go_wp2_with fail
 obtain ⟨wa, hwa⟩ : ∃ x, x = w.alloc (.cells #[.slice Ac cl.length cc, .slice An next.length cn, .slice At tags.length ct] 28) := ⟨_, rfl⟩
 rw [← hwa] at HS ⊢
 obtain ⟨g0, hg0⟩ : ∃ g, g = w.heap.size := ⟨_, rfl⟩
 rw [← hg0] at HS ⊢
 clear hwa hg0
 have hs := HS.out.drew
 clear HS; have HS := aM hs; clear hs
 refine start_ (n := 9) (S := fun w' => w'.cell? ⟨g0, 0, none⟩ = some (.slice Ac cl.length cc) ∧ w'.cell? ⟨g0, 2, none⟩ = some (.slice At tags.length ct)) (ds := [8]) #[false, false, false, false, false, false, false, false, false] (by kernel_rfl) rfl rfl ⟨((HS.out.box 0 rfl).cell 0 rfl), ((HS.out.box 0 rfl).cell 2 rfl)⟩ (fun hHeld => ?_)
 generalize wa.drew = wd at HS hHeld ⊢
 refine pure_ (i := 0) (N := some 10) (v := ?_) (a' := ?_) (bv 9 1) rfl rfl (by kernel_rfl) (fun _ _ _ h => h) (Or.inl ⟨by rfl, ?_⟩) ?_ ?_
 rotate_left
 ·intro w'
  go_simp
  with_reducible rfl
 rotate_left
 ·simp only [Act.put, qA, qB, qC, i64_w, i32_w]
  rfl
 refine pure_ (i := 3) (N := some 13) (v := ?_) (a' := ?_) (bv 9 9) rfl rfl (by kernel_rfl) (fun _ _ _ h => h) (Or.inl ⟨by rfl, ?_⟩) ?_ ?_
 rotate_left
 ·intro w'
  go_simp
  with_reducible rfl
 rotate_left
 ·simp only [Act.put, qA, qB, qC, i64_w, i32_w]
  rfl
 refine take_ (i := 1) (N := some 11) (v := ?_) (a' := ?_) (bv 9 11) rfl rfl (by kernel_rfl) (fun _ _ _ h => h) (Or.inl ⟨by rfl, ?_⟩) hHeld ?_ ?_
 rotate_left
 ·rintro w' ⟨s0, s1⟩
  go_simp
  with_reducible rfl
 rotate_left
 ·simp only [Act.put, qA, qB, qC, i64_w, i32_w]
  rfl
 refine take_ (i := 4) (N := some 14) (v := ?_) (a' := ?_) (bv 9 27) rfl rfl (by kernel_rfl) (fun _ _ _ h => h) (Or.inl ⟨by rfl, ?_⟩) hHeld ?_ ?_
 rotate_left
 ·rintro w' ⟨s0, s1⟩
  go_simp
  with_reducible rfl
 rotate_left
 ·simp only [Act.put, qA, qB, qC, i64_w, i32_w]
  rfl
 refine pure_ (i := 5) (N := some 15) (v := ?_) (a' := ?_) (bv 9 59) rfl rfl (by kernel_rfl) (fun _ _ _ h => h) (Or.inl ⟨by rfl, ?_⟩) ?_ ?_
 rotate_left
 ·intro w'
  go_simp
  with_reducible rfl
 rotate_left
 ·simp only [Act.put, qA, qB, qC, i64_w, i32_w]
  rfl
 refine join_ (σ := Nat) 2 (bv 9 127) (fun s => [(12, .int .i64 n), (4, .pointer (some ⟨s, 0, none⟩))]) (fun s w' => PX.Sep X w w' ([.box g0 28 [.slice Ac cl.length cc, .slice An next.length cn, .slice At tags.length ct], .box s 3 [.int .i64 0]] : List PX.Item)) ?_ ?_
 rotate_left
 ·intro hCont
  refine two_ (i := 2) (j := 6) (Ni := some 12) (Nj := some 4) (bv 9 63) (bv 9 123) rfl rfl rfl rfl (by kernel_rfl) (by decide) (by decide) (fun K hK => ?_) (fun K hK => ?_)
  ·skip
   refine goes_ Tryz.func42 (by kernel_rfl) rfl #[.slice Ac cl.length cc] (by rfl) rfl rfl (by simp only [List.map_toArray, List.map_cons, List.map_nil]; rfl) ?_
   with_reducible refine (clmany_calls _ _ cl _ (HS.out.arg H0.out) HU.out).mono ?_
   rintro e w6 ⟨rfl, hb6⟩
   refine ⟨_, rfl, ?_⟩
   rw [HN.out]
   have hs := HS.out.call hb6
   clear hb6
   clear HS; have HS := aM hs; clear hs
   refine hK.out _ _ ⟨((HS.out.box 0 rfl).cell 0 rfl), ((HS.out.box 0 rfl).cell 2 rfl)⟩ (fun hHeld => ?_)
   clear hK K
   refine norm_ (a' := ?_) ?_ ?_
   rotate_left
   ·show Act.put _ (some 12) _ = _
    simp only [Act.put, qA, qB, qC, i64_w, i32_w]
    rfl
   refine one_ (i := 6) (N := some 4) (bv 9 127) rfl rfl (by kernel_rfl) (by decide) (fun K hK => ?_)
   refine value_ (w1 := ?_) (v := ?_) (by rfl) rfl ?_ ?_
   rotate_left 2
   ·go_simp
    constructor
    ·rfl
    ·rfl
   have hs := HS.out.push_box' [.int .i64 0] 3 (w6.heap.size) (by simp)
   clear HS; have HS := aM hs; clear hs
   refine hK.out _ _ ⟨((HS.out.box 0 rfl).cell 0 rfl), ((HS.out.box 0 rfl).cell 2 rfl)⟩ (fun hHeld => ?_)
   clear hK K
   refine norm_ (a' := ?_) ?_ ?_
   rotate_left
   ·show Act.put _ (some 4) _ = _
    simp only [Act.put, qA, qB, qC, i64_w, i32_w]
    rfl
   exact norm_ (by simp only [putAll, Act.put, qA, qB, qC]) (hCont w6.heap.size _ HS.out)
  ·skip
   refine value_ (w1 := ?_) (v := ?_) (by rfl) rfl ?_ ?_
   rotate_left 2
   ·go_simp
    constructor
    ·rfl
    ·rfl
   have hs := HS.out.push_box' [.int .i64 0] 3 (wd.heap.size) (by simp)
   clear HS; have HS := aM hs; clear hs
   refine hK.out _ _ ⟨((HS.out.box 0 rfl).cell 0 rfl), ((HS.out.box 0 rfl).cell 2 rfl)⟩ (fun hHeld => ?_)
   clear hK K
   refine norm_ (a' := ?_) ?_ ?_
   rotate_left
   ·show Act.put _ (some 4) _ = _
    simp only [Act.put, qA, qB, qC, i64_w, i32_w]
    rfl
   refine one_ (i := 2) (N := some 12) (bv 9 127) rfl rfl (by kernel_rfl) (by decide) (fun K hK => ?_)
   refine goes_ Tryz.func42 (by kernel_rfl) rfl #[.slice Ac cl.length cc] (by rfl) rfl rfl (by simp only [List.map_toArray, List.map_cons, List.map_nil]; rfl) ?_
   with_reducible refine (clmany_calls _ _ cl _ (HS.out.arg H0.out) HU.out).mono ?_
   rintro e w6 ⟨rfl, hb6⟩
   refine ⟨_, rfl, ?_⟩
   rw [HN.out]
   have hs := HS.out.call hb6
   clear hb6
   clear HS; have HS := aM hs; clear hs
   refine hK.out _ _ ⟨((HS.out.box 0 rfl).cell 0 rfl), ((HS.out.box 0 rfl).cell 2 rfl)⟩ (fun hHeld => ?_)
   clear hK K
   refine norm_ (a' := ?_) ?_ ?_
   rotate_left
   ·show Act.put _ (some 12) _ = _
    simp only [Act.put, qA, qB, qC, i64_w, i32_w]
    rfl
   exact norm_ (by simp only [putAll, Act.put, qA, qB, qC]) (hCont wd.heap.size _ HS.out)
 rintro g1 w5 hs
 clear hHeld
 clear HS; have HS := aM hs; clear hs
 have fz := (HS.out.box 1 rfl).open_ 0
 have yz := (HS.out.box 1 rfl).cell 0 rfl
 have hHeld : True := trivial
 refine norm_ (a' := ?_) ?_ ?_
 rotate_left
 ·simp only [putAll, Act.put, qA, qB, qC]
  rfl
 refine pure_ (i := 7) (N := some 3) (v := ?_) (a' := ?_) (bv 9 255) rfl rfl (by kernel_rfl) (fun _ _ _ h => h) (Or.inl ⟨by rfl, ?_⟩) ?_ ?_
 rotate_left
 ·intro w'
  go_simp
  with_reducible rfl
 rotate_left
 ·simp only [Act.put, qA, qB, qC, i64_w, i32_w]
  rfl
 refine last_ (i := 8) (N := none) #[true, true, true, true, true, true, true, true, true] rfl rfl (by kernel_rfl) (by decide) (fun K hK => ?_)
 refine skip_ (w1 := ?_) (by rfl) rfl ?_ ?_
 rotate_left
 ·go_simp
  rfl
 have hs := HS.out.set_box 1 rfl 0 (.int .i64 tags.length)
 clear HS; have HS := aM hs; clear hs
 refine hK.out _ _ ?_
 clear hK K
 refine done_ (by kernel_rfl) ?_
 obtain ⟨w6, hw6⟩ : ∃ x, x = w5.setCell ⟨g1, 0, none⟩ (.int .i64 (tags.length : Int)) := ⟨_, rfl⟩
 rw [← hw6] at HS ⊢
 clear hw6 fz yz
 have yk := (HS.out.box 1 rfl).cell 0 rfl
 have y0 := (HS.out.box 0 rfl).cell 1 rfl
 by_cases hh : THead n next tags
 case neg =>
  have q0 : q = false := HNO.out (fun h => hh h.1)
  clear HQ HNO
  subst q0
  unfold THead at hh
  rcases Nat.eq_zero_or_pos n with h0 | h0
  case' inl =>
   have d0 : ((n : Int) == 0) = true := beq_iff_eq.mpr (by omega)
  case' inr =>
   have d0 : ((n : Int) == 0) = false := bF (by omega)
   rcases Nat.lt_or_ge tags.length 1 with h1 | h1
  case' inr.inl =>
   have d1 : ((tags.length : Int) == 0) = true := beq_iff_eq.mpr (by omega)
  case' inr.inr =>
   have d1 : ((tags.length : Int) == 0) = false := bF (by omega)
   rcases Nat.lt_or_ge 40000 tags.length with h2 | h2
  case' inr.inr.inl =>
   have d2 : decide ((tags.length : Int) > 40000) = true := dT (by omega)
   have d2' : decide (40000 < tags.length) = true := dT h2
  case' inr.inr.inr =>
   have d2 : decide ((tags.length : Int) > 40000) = false := dF (by omega)
   have d2' : decide (40000 < tags.length) = false := dF (by omega)
   have d3 : ((next.length : Int) == (tags.length : Int)) = false := bF (by omega)
   have d3' : ((next.length : Int) != (tags.length : Int)) = true := bne_iff_ne.mpr (by omega)
  all_goals
   clear hh
   go_wp2_with fail
   go_ret
   exact ⟨rfl, HS.out.below⟩
 case pos =>
  have HH := aM hh
  obtain ⟨h0, h1, h2, h3⟩ := hh
  have d0 : ((n : Int) == 0) = false := bF (by omega)
  have d1 : ((tags.length : Int) == 0) = false := bF (by omega)
  have d2 : decide ((tags.length : Int) > 40000) = false := dF (by omega)
  have d2' : decide (40000 < tags.length) = false := dF (by omega)
  have d3 : ((next.length : Int) == (tags.length : Int)) = true := beq_iff_eq.mpr (by omega)
  have d3' : ((next.length : Int) != (tags.length : Int)) = false := bne_eq_false_iff_eq.mpr (by omega)
  have HL3 := aM h3
  clear h0 h1 h2 h3
  go_wp2_with fail
  clear d0 d1 d2 d2' d3 d3' yk y0
  go_loopg [37] next.length (fun m v37 w' => ∃ (i : Nat), v37 = .int .i64 i ∧ Aside0 (i + m = next.length) ∧ Aside0 (∀ i', i' < i → TRow n next tags i') ∧ Aside0 (Sep X w w' ([.box g0 28 [.slice Ac cl.length cc, .slice An next.length cn, .slice At tags.length ct], .box g1 3 [.int .i64 tags.length]] : List PX.Item)))
  case atStart => exact ⟨0, rfl, ⟨by omega⟩, ⟨fun i' h => by omega⟩, HS⟩
  case round =>
   clear HS
   obtain ⟨i, rfl, HJ, HI, HS⟩ := hrel
   cases gk with
   | zero =>
    have e1 : decide ((i : Int) < (next.length : Int)) = false := dF (by have := HJ.out; omega)
    have e2 : decide (i < next.length) = false := dF (by have := HJ.out; omega)
    have HALL := aM (show ∀ i', i' < tags.length → TRow n next tags i' from fun i' h => HI.out i' (by have := HJ.out; have := HL3.out; omega))
    clear HI HJ HNO
    have HFIT := aM (show ∀ a, a < n → ∀ row ∈ next, a < row.length ∧ Fits (row.getD a 0) from fun a ha row hrow => by
     obtain ⟨j, hj, e⟩ := List.getElem_of_mem hrow
     have h1 := HALL.out j (by have := HL3.out; omega)
     unfold TRow at h1
     rw [show next.getD j [] = row by rw [List.getD_eq_getElem?_getD, List.getElem?_eq_getElem hj]; exact e] at h1
     have h2 := h1.2.2 a ha
     have h3 := HH.out.2.2.1
     unfold Fits
     omega)
    have HQ2 := aM (show q = true ↔ ∀ a, a < n → ∀ b, b < a → keyL next a ≠ keyL next b by
     rw [HQ.out]
     unfold TSoundN
     constructor
     ·intro h a ha b hb he
      have h1 := (keyL_iff (fun row hr => (HFIT.out a ha row hr).2) (fun row hr => (HFIT.out b (by omega) row hr).2)).1 he
      rw [h.2.2 a ha b hb] at h1
      cases h1
     ·intro h
      refine ⟨HH.out, HALL.out, fun a ha b hb => ?_⟩
      cases hsc : sameCol next a b
      ·rfl
      ·exact absurd ((keyL_iff (fun row hr => (HFIT.out a ha row hr).2) (fun row hr => (HFIT.out b (by omega) row hr).2)).2 hsc) (h a ha b hb))
    have hmm := run_makeMap (P := Tryz.prog) 85 wr
    have HLN := aM (show next.length ≤ 40000 by have := HH.out.2.2.1; have := HL3.out; omega)
    clear HALL HQ HH
    go_wp2_with fail
    have hs := HS.out.push_map Tryz.prog 9 3
    obtain ⟨gm, hgm⟩ : ∃ g, g = wr.heap.size := ⟨_, rfl⟩
    rw [← hgm] at hs ⊢
    clear hgm HS hmm e1 e2
    have HS := aM hs
    clear hs
    go_loopg [9, 62] n (fun m v9 v62 w' => ∃ (c : Nat) (D : DataW Unit), v62 = .int .i64 c ∧ Aside0 (c + m = n) ∧ Aside0 (MapD (keyL next) c D) ∧ Aside0 (Sep X w w' ([.box g0 28 [.slice Ac cl.length cc, .slice An next.length cn, .slice At tags.length ct], .box g1 3 [.int .i64 tags.length], .obj gm (MapO Tryz.prog 9 3 c D)] : List PX.Item)))
    case atStart => exact ⟨0, .map [], rfl, ⟨by omega⟩, ⟨MapD.start _⟩, HS⟩
    case round =>
     clear HS
     obtain ⟨c, D, rfl, HC, HD, HS⟩ := hrel
     have y0 := (HS.out.box 0 rfl).cell 1 rfl
     cases gk with
     | zero =>
      have hc : c = n := by have := HC.out; omega
      have e1 : decide ((c : Int) < (n : Int)) = false := dF (by omega)
      have e2 : decide (c < n) = false := dF (by omega)
      have lm := fun ty => (HS.out.map 2 rfl).len Tryz.underlying85 ty
      have heq := HD.out.eq
      rw [hc] at heq
      obtain ⟨z, hz⟩ : ∃ z, z = Maps.size D := ⟨_, rfl⟩
      rw [← hz] at heq lm
      have HE := aM (show q = true ↔ z = n from HQ2.out.trans heq.symm)
      clear hc hz heq HD HQ2
      rcases Nat.decEq z n with h | h
      case' isTrue =>
       have d1 : ((z : Int) == (n : Int)) = true := beq_iff_eq.mpr (by omega)
       have q0 : q = true := HE.out.2 h
      case' isFalse =>
       have d1 : ((z : Int) == (n : Int)) = false := bF (by omega)
       have q0 : q = false := by
        cases hqq : q
        ·rfl
        ·exact absurd (HE.out.1 hqq) h
      all_goals
       clear h HE
       subst q0
       go_wp2_with fail
       go_ret
       exact ⟨rfl, HS.out.below⟩
     | succ k1 =>
      have hc : c < n := by have := HC.out; omega
      have e1 : decide ((c : Int) < (n : Int)) = true := dT (by omega)
      have e2 : decide (c < n) = true := dT hc
      have hkey := key_string Tryz.underlying9 next c (by have := HLN.out; omega)
      have HM := aM (HD.out.step (keyL_key next c) (.lit (.int .i64 (c : Int))))
      have hcw : (Lit.int .i64 (c : Int)).wf = true := by simp [Lit.wf, IntKind.min, IntKind.max, IntKind.bits, IntKind.signed]; omega
      go_wp2_with (first
       | (go_at_call 45; (with_reducible refine (column_calls _ _ next c _ HS.out.lt (HS.out.arg H1.out) (fun row hr => (HFIT.out c hc row hr).1) (fun row hr => (HFIT.out c hc row hr).2) (by have := HLN.out; omega)).mono ?_); rintro ee w7 ⟨rfl, hb⟩; have hs := HS.out.call hb; clear hb; clear HS; have HS := aM hs; clear hs)
       | (at_mapUpdate; refine wpList_mapUpdate_in _ rfl _ _ _ 85 rfl 9 3 (Go.Maps.string_keyed Tryz.underlying9) Tryz.underlying85 (plainElem Tryz.prog 3) gm c D rfl (HS.out.map 2 rfl) (by unfold maxLen; omega) _ _ _ rfl rfl hkey (.lit (.int .i64 (c : Int))) [] (plainElem_int Tryz.underlying3 hcw) ?_; intro w8 hown hturn; have hs := HS.out.set_map 2 rfl hown hturn; clear HS hown hturn; have HS := aM hs; clear hs))
      go_roundg k1
      case measure => omega
      case rel => exact ⟨c + 1, _, by go_num, ⟨by have := HC.out; omega⟩, HM, HS⟩
   | succ k1 =>
    have hin : i < next.length := by have := HJ.out; omega
    have hi : i < tags.length := by rw [← HL3.out]; exact hin
    have e1 : decide ((i : Int) < (next.length : Int)) = true := dT (by omega)
    have e2 : decide (i < next.length) = true := dT hin
    have hi0 : (0 : Int) ≤ (i : Int) := by omega
    have hi1 : (i : Int) < (tags.length : Int) := by omega
    have hi2 : (i : Int) < (next.length : Int) := by omega
    obtain ⟨an, cn', u, en, hu, yn0⟩ := H1.out.row i hin
    cases en
    obtain ⟨at_, ct', et, yt0⟩ := int_cell H2.out i hi
    cases et
    obtain ⟨Au, cu, rfl, _, _⟩ := hu.now
    have HR := aM hu
    have y0 := (HS.out.box 0 rfl).cell 1 rfl
    have y1 := (HS.out.box 0 rfl).cell 2 rfl
    have yn := pw_cell_below HS.out.below yn0
    have yt := pw_cell_below HS.out.below yt0
    have HROW := aM (Iff.intro (fun (h : TRow n next tags i) => (show (next.getD i []).length = n ∧ -1 ≤ tags.getD i 0 ∧ ∀ j, j < n → -1 ≤ (next.getD i []).getD j 0 ∧ (next.getD i []).getD j 0 < (tags.length : Int) from h)) (fun (h : (next.getD i []).length = n ∧ -1 ≤ tags.getD i 0 ∧ ∀ j, j < n → -1 ≤ (next.getD i []).getD j 0 ∧ (next.getD i []).getD j 0 < (tags.length : Int)) => (show TRow n next tags i from h)))
    have HNR := aM (fun (h : ¬ TRow n next tags i) => HNO.out (fun hs => h (hs.2.1 i hi)))
    have HST := aM (fun (h : TRow n next tags i) => (show ∀ i', i' < i + 1 → TRow n next tags i' from fun i' h1 => (Nat.lt_or_ge i' i).elim (HI.out i') (fun h2 => by
     have : i' = i := by omega
     rw [this]; exact h)))
    generalize next.getD i [] = row at *
    generalize tags.getD i 0 = tg at *
    clear hu yn0 yt0
    rcases Decidable.em (row.length = n ∧ -1 ≤ tg) with hr | hr
    case inr =>
     have q0 : q = false := HNR.out (fun h => hr ⟨(HROW.out.1 h).1, (HROW.out.1 h).2.1⟩)
     clear HQ HNO HNR HROW HST
     subst q0
     rcases Decidable.em (row.length = n) with h4 | h4
     case' inl =>
      have d4 : ((row.length : Int) == (n : Int)) = true := beq_iff_eq.mpr (by omega)
      have d4' : ((row.length : Int) != (n : Int)) = false := bne_eq_false_iff_eq.mpr (by omega)
      have d5 : decide (tg < -1) = true := dT (by omega)
     case' inr =>
      have d4 : ((row.length : Int) == (n : Int)) = false := bF (by omega)
      have d4' : ((row.length : Int) != (n : Int)) = true := bne_iff_ne.mpr (by omega)
     all_goals
      clear hr h4
      go_wp2_with fail
      go_ret
      exact ⟨rfl, HS.out.below⟩
    case inl =>
     obtain ⟨h4, h5⟩ := hr
     have d4 : ((row.length : Int) == (n : Int)) = true := beq_iff_eq.mpr (by omega)
     have d4' : ((row.length : Int) != (n : Int)) = false := bne_eq_false_iff_eq.mpr (by omega)
     have d5 : decide (tg < -1) = false := dF (by omega)
     have HAO := aM (any_odd tags.length row)
     have HPR := aM (odd14_pred tags.length g1 wr (HS.out.box 1 rfl).lt ((HS.out.box 1 rfl).cell 0 rfl))
     have H45 := aM (And.intro h4 h5)
     obtain ⟨a, ha⟩ : ∃ a, a = row.any (oddB tags.length) := ⟨_, rfl⟩
     have HA := aM ha.symm
     rw [← ha] at HAO
     have eg : ∀ args w, (callFunc 43 args).run Tryz.prog w = .ok (.enter 43 args) w := Go.Proofs.enters_of Tryz.func43 (by kernel_rfl) rfl
     clear h4 h5 ha
     cases a
     case true =>
      have q0 : q = false := HNR.out (fun h => by have := HAO.out.2 (fun j hj => (HROW.out.1 h).2.2 j (by rw [← H45.out.1]; exact hj)); cases this)
      clear HQ HNO HNR HROW HST
      subst q0
      go_wp2_with (first
       | (go_at_call 44; (with_reducible refine (containsFunc_calls _ _ row _ (HS.out.arg HR.out) _ _ eg _ HPR.out).mono ?_); rintro ee w5 ⟨rfl, hb⟩; rw [HA.out]; have hs := HS.out.call hb; clear hb; clear HS; have HS := aM hs; clear hs))
      go_ret
      exact ⟨rfl, HS.out.below⟩
     case false =>
      have HT2 := aM (HST.out (HROW.out.2 ⟨H45.out.1, H45.out.2, fun j hj => HAO.out.1 rfl j (by rw [H45.out.1]; exact hj)⟩))
      clear HNR HROW HST HI
      go_wp2_with (first
       | (go_at_call 44; (with_reducible refine (containsFunc_calls _ _ row _ (HS.out.arg HR.out) _ _ eg _ HPR.out).mono ?_); rintro ee w5 ⟨rfl, hb⟩; rw [HA.out]; have hs := HS.out.call hb; clear hb; clear HS; have HS := aM hs; clear hs))
      go_roundg k1
      case measure => omega
      case rel => exact ⟨i + 1, by go_num, ⟨by have := HJ.out; omega⟩, HT2, HS⟩
end Go.Proofs.YtplhfgobeicegaaGreatDoor.P
namespace Go.Proofs.YtplhfgobeicegaaGreatDoor.P
open Go Go.RowKit Go.Proofs.YtplhfgobeicegaaGreatDoorW.PrintWords Go.Proofs.YtplhfgobeicegaaGreatDoorW.PrintLast Go.Proofs.YtplhfgobeicegaaGreatDoorW.PrintMore Go.Proofs.YtplhfgobeicegaaGreatDoor.PX
set_option linter.unusedVariables false
set_option linter.unusedSimpArgs false
set_option maxRecDepth 100000
theorem and16 {n : Nat} (h : n < 4294967296) : bits .and .u32 (n : Int) 65535 = ((n % 65536 : Nat) : Int) := by
 have e := u32_and_nat n 65535 h (by omega)
 rw [show ((65535 : Nat) : Int) = 65535 from rfl] at e
 rw [e, show n &&& 65535 = n % 65536 from Nat.and_two_pow_sub_one_eq_mod n 16]
set_option maxHeartbeats 16000000 in
theorem encode_calls (X : Nat → Prop) (vc vn vt : Value) (cl : List Int) (next : List (List Int)) (tags : List Int) (w : World) (hX : ∀ k, X k → k < w.heap.size) (hc : PV kU8 X w vc cl) (hn : PV kRow X w vn next) (ht : PV kInt X w vt tags) (hu : U8s cl) :
  Calls Tryz.prog 6 #[.agg #[vc, vn, vt]] w fun e w' => ∃ v, e = .returned (.tuple #[v, .int .u16 (encR cl next tags).2]) ∧ Sep X w w' [.row kU8 5 v (encR cl next tags).1] := by
 have H0 := aM hc
 have H1 := aM hn
 have H2 := aM ht
 have HU := aM hu
 have m0 := hc.max
 have m1 := hn.max
 have m2 := ht.max
 obtain ⟨Ac, cc, rfl, _, _⟩ := hc.now
 obtain ⟨An, cn, rfl, _, _⟩ := hn.now
 obtain ⟨At, ct, rfl, _, _⟩ := ht.now
 have HS := aM ((Sep.start hX).push_box [.slice Ac cl.length cc, .slice An next.length cn, .slice At tags.length ct] 28)
 obtain ⟨g0, hg0⟩ : ∃ g, g = w.heap.size := ⟨_, rfl⟩
 obtain ⟨q, hq⟩ : ∃ q, q = decide (TSound cl next tags) := ⟨_, rfl⟩
 have HQ := aM hq.symm
 obtain ⟨r, hr⟩ : ∃ r, r = encR cl next tags := ⟨_, rfl⟩
 rw [← hr]
 have HR := aM (show r = if EncOk cl next tags then (sealE (bodyE cl next tags), 0) else ([], 1) from hr)
 clear hc hn ht hX hu hq hr
 go_enter Tryz.func6, Tryz.ntmps6
 have x0 := (HS.out.box 0 rfl).cell 0 rfl
 have x1 := (HS.out.box 0 rfl).cell 1 rfl
 have x2 := (HS.out.box 0 rfl).cell 2 rfl
 cases q
 case false =>
  have HE := aM (show r = ([], 1) by rw [HR.out, if_neg (fun h => of_decide_eq_false HQ.out h.1)])
  go_wp2_with (first
   | (go_at_call 15; (with_reducible refine (csound_calls _ _ _ _ cl next tags _ HS.out.lt (HS.out.arg H0.out) (HS.out.arg H1.out) (HS.out.arg H2.out) HU.out).mono ?_); rintro ee w5 ⟨rfl, hb⟩; rw [HQ.out]; have hs := HS.out.call hb; clear hb x0 x1 x2; clear HS; have HS := aM hs; clear hs))
  go_ret2
  rw [HE.out]
  have hd := (HS.out.push_nil kU8 5).sub (List.drop_sublist 1 _)
  exact ⟨_, rfl, hd⟩
 case true =>
  have HTS := aM (of_decide_eq_true HQ.out)
  have htl : 1 ≤ tags.length := HTS.out.1.2.1
  have HTL := aM htl
  obtain ⟨mx, hmx⟩ : ∃ m, m = maxF tags := ⟨_, rfl⟩
  have HMX := aM hmx.symm
  clear hmx htl
  go_upto_if 16 with (first
   | (go_at_call 15; (with_reducible refine (csound_calls _ _ _ _ cl next tags _ HS.out.lt (HS.out.arg H0.out) (HS.out.arg H1.out) (HS.out.arg H2.out) HU.out).mono ?_); rintro ee w5 ⟨rfl, hb⟩; rw [HQ.out]; have hs := HS.out.call hb; clear hb x0 x1 x2; have x2 := (hs.box 0 rfl).cell 2 rfl; clear HS; have HS := aM hs; clear hs)
   | (go_at_call 16; (with_reducible refine (maxI_calls _ _ tags _ (HS.out.arg H2.out) HTL.out).mono ?_); rintro ee w6 ⟨rfl, rfl⟩; rw [HMX.out]))
  rw [← hg0] at HS ⊢
  clear hg0 x2
  rcases Int.lt_or_le 65534 mx with hm | hm
  case inl =>
   have d1 : decide (65534 < mx) = true := dT hm
   have HE := aM (show r = ([], 1) by rw [HR.out, if_neg (fun h => by have h2 := h.2; rw [HMX.out] at h2; omega)])
   go_wp2_with fail
   go_ret2
   rw [HE.out]
   have hd := (HS.out.push_nil kU8 5).sub (List.drop_sublist 1 _)
   exact ⟨_, rfl, hd⟩
  case inr =>
   have d1 : decide (65534 < mx) = false := dF (by omega)
   have hm' : ¬ 65534 < mx := by omega
   have HE := aM (show r = (sealE (bodyE cl next tags), 0) by rw [HR.out, if_pos ⟨HTS.out, by rw [HMX.out]; exact hm⟩])
   obtain ⟨cs, hcs, hn256, hcl, hcb, hso⟩ := tsound_head HU.out HTS.out
   have HB := aM (show cl.length = 256 ∧ next.length = tags.length ∧ tags.length ≤ 40000 ∧ (∀ i, i < tags.length → (next.getD i []).length ≤ 256 ∧ -1 ≤ tags.getD i 0 ∧ tags.getD i 0 < 1000000 ∧ ∀ x ∈ next.getD i [], -1 ≤ x ∧ x < 1000000) from by
    refine ⟨hcl, hso.1.2.2.2, hso.1.2.2.1, fun i hi => ?_⟩
    have h1 := hso.2.1 i hi
    have h3 := (maxF_le tags 65534 HTL.out).1 (by rw [HMX.out]; exact hm) _ (mem_getD tags 0 i hi)
    refine ⟨by rw [h1.1]; exact hn256, h1.2.1, by omega, fun x hx => ?_⟩
    obtain ⟨j, hj, e⟩ := List.getElem_of_mem hx
    have h2 := h1.2.2 j (by rw [← h1.1]; exact hj)
    rw [List.getD_eq_getElem?_getD, List.getElem?_eq_getElem hj, Option.getD_some, e] at h2
    have := hso.1.2.2.1
    omega)
   clear hcs hn256 hcl hcb hso HTS HMX hm HQ
   go_wp2_with fail
   clear d1 hm'
   have hs := HS.out.drew
   clear HS; have HS := aM hs; clear hs
   refine start_ (n := 6) (S := fun w' => w'.cell? ⟨g0, 2, none⟩ = some (.slice At tags.length ct)) (ds := []) #[false, false, false, false, false, false] (by kernel_rfl) rfl rfl (((HS.out.box 0 rfl).cell 2 rfl)) (fun hHeld => ?_)
   refine pure_ (i := 1) (N := some 18) (v := ?_) (a' := ?_) (bv 6 2) rfl rfl (by kernel_rfl) (fun _ _ _ h => h) (Or.inl ⟨by rfl, ?_⟩) ?_ ?_
   rotate_left
   ·intro w'
    go_simp
    with_reducible rfl
   rotate_left
   ·simp only [Act.put, qA, qB, qC, i64_w, i32_w]
    rfl
   refine take_ (i := 2) (N := some 19) (v := ?_) (a' := ?_) (bv 6 6) rfl rfl (by kernel_rfl) (fun _ _ _ h => h) (Or.inl ⟨by rfl, ?_⟩) hHeld ?_ ?_
   rotate_left
   ·intro w' s0
    go_simp
    with_reducible rfl
   rotate_left
   ·simp only [Act.put, qA, qB, qC, i64_w, i32_w]
    rfl
   refine pure_ (i := 3) (N := some 20) (v := ?_) (a' := ?_) (bv 6 14) rfl rfl (by kernel_rfl) (fun _ _ _ h => h) (Or.inl ⟨by rfl, ?_⟩) ?_ ?_
   rotate_left
   ·intro w'
    go_simp
    with_reducible rfl
   rotate_left
   ·simp only [Act.put, qA, qB, qC, i64_w, i32_w]
    rfl
   refine one_ (i := 0) (N := some 17) (bv 6 15) rfl rfl (by kernel_rfl) (by decide) (fun K hK => ?_)
   refine goes_ Tryz.func18 (by kernel_rfl) rfl #[] (by rfl) rfl rfl (by simp only [List.map_toArray, List.map_cons, List.map_nil]) ?_
   with_reducible refine (magic_calls X w _ _ HS.out).mono ?_
   rintro e wa ⟨v5, rfl, hs⟩
   refine ⟨_, rfl, ?_⟩
   clear HS; have HS := aM hs; clear hs
   refine hK.out _ _ (((HS.out.box 0 rfl).cell 2 rfl)) (fun hHeld => ?_)
   clear hK K
   refine norm_ (a' := ?_) ?_ ?_
   rotate_left
   ·show Act.put _ (some 17) _ = _
    simp only [Act.put, qA, qB, qC, i64_w, i32_w]
    rfl
   refine one_ (i := 4) (N := some 21) (bv 6 31) rfl rfl (by kernel_rfl) (by decide) (fun K hK => ?_)
   refine goes_ Tryz.func17 (by kernel_rfl) rfl #[v5, .int .i64 tags.length] (by rfl) rfl rfl (by simp only [List.map_toArray, List.map_cons, List.map_nil]; rfl) ?_
   with_reducible refine (two_calls X w _ _ 1 v5 [71, 67, 1] (tags.length : Int) HS.out rfl (by have := HB.out.2.2.1; omega) (by decide)).mono ?_
   rintro e wb ⟨v6, rfl, hs⟩
   refine ⟨_, rfl, ?_⟩
   clear HS; have HS := aM hs; clear hs
   refine hK.out _ _ (((HS.out.box 0 rfl).cell 2 rfl)) (fun hHeld => ?_)
   clear hK K
   refine norm_ (a' := ?_) ?_ ?_
   rotate_left
   ·show Act.put _ (some 21) _ = _
    simp only [Act.put, qA, qB, qC, i64_w, i32_w]
    rfl
   refine pure_ (i := 5) (N := some 4) (v := ?_) (a' := ?_) (bv 6 63) rfl rfl (by kernel_rfl) (fun _ _ _ h => h) (Or.inl ⟨by rfl, ?_⟩) ?_ ?_
   rotate_left
   ·intro w'
    go_simp
    with_reducible rfl
   rotate_left
   ·simp only [Act.put, qA, qB, qC, i64_w, i32_w]
    rfl
   refine done_ (by kernel_rfl) ?_
   have x0 := (HS.out.box 0 rfl).cell 0 rfl
   obtain ⟨hb0, hhb0⟩ : ∃ l, l = headE cl tags := ⟨_, rfl⟩
   have HH := aM hhb0.symm
   clear hhb0
   have HLE := aM (show ([71, 67, 1] ++ two15 (tags.length : Int)).length + 3 * cl.length ≤ 1000000000 by rw [HB.out.1, lA, show (two15 (tags.length : Int)).length = 2 from rfl]; decide)
   go_upto_region 5 with (first
    | (go_at_call 19; (refine (runsB_calls X w _ _ 1 _ _ _ cl HS.out rfl H0.out HLE.out).mono ?_); rintro ee w7 ⟨v7, rfl, hs⟩; have hs : Sep X w w7 [.box g0 28 [.slice Ac cl.length cc, .slice An next.length cn, .slice At tags.length ct], .row kU8 5 v7 hb0] := (by rw [← HH.out]; exact hs); clear x0; have x1 := (hs.box 0 rfl).cell 1 rfl; clear HS; have HS := aM hs; clear hs))
   have HB0 := aM (show hb0.length ≤ 800 ∧ U8s hb0 by rw [← HH.out]; exact ⟨by have := headE_len cl tags; have := HB.out.1; omega, headE_u8 HU.out tags⟩)
   obtain ⟨bz, hbz⟩ : ∃ l, l = bodyE cl next tags := ⟨_, rfl⟩
   rw [← hbz] at HE
   have HBZ := aM (show hb0 ++ rowsE (next.drop 0) (tags.drop 0) = bz by rw [hbz, bodyE, HH.out]; rfl)
   have HBU := aM (show U8s bz by rw [hbz]; exact U8s.app (headE_u8 HU.out tags) (rowsE_u8 next tags))
   clear HH HLE hbz
   go_wp2_with fail
   clear x1
   go_loopg [4, 5, 6, 29] next.length (fun m v4 v5 v6 v29 w' => ∃ (i : Nat) (bs : List Int), v29 = .int .i64 i ∧ Aside0 (i + m = next.length) ∧ Aside0 (bs.length ≤ 800 + 770 * i) ∧ Aside0 (bs ++ rowsE (next.drop i) (tags.drop i) = bz) ∧ Aside0 (Sep X w w' [.box g0 28 [.slice Ac cl.length cc, .slice An next.length cn, .slice At tags.length ct], .row kU8 5 v4 bs]))
   case atStart => exact ⟨0, hb0, rfl, ⟨by omega⟩, ⟨by have := HB0.out.1; omega⟩, HBZ, HS⟩
   case round =>
    clear HS HBZ HB0
    obtain ⟨i, bs, rfl, HJ, HBL, HBZ, HS⟩ := hrel
    obtain ⟨A4, c4, e4⟩ := HS.out.form 1 rfl
    subst e4
    cases gk with
    | zero =>
     have hi : i = next.length := by have := HJ.out; omega
     have e1 : decide ((i : Int) < (next.length : Int)) = false := dF (by omega)
     have e2 : decide (i < next.length) = false := dF (by omega)
     have hbz : bs = bz := by have h := HBZ.out; rw [hi, List.drop_length, rowsE, List.append_nil] at h; exact h
     have HL2 := aM (show bs.length ≤ 100000000 by have := HBL.out; have := HB.out.2.1; have := HB.out.2.2.1; omega)
     clear HBZ HBL HJ hi
     subst hbz
     obtain ⟨n, hn⟩ : ∃ n, n = sumL bs := ⟨_, rfl⟩
     have HN := aM hn.symm
     have hnlt := (sumL_lt bs).lt
     rw [← hn] at hnlt
     have HNL := aM hnlt
     have HW1 := aM (show wrap64 ((n : Int) / 65536) = ((n / 65536 : Nat) : Int) from IntWalk.wrap64_in _ (by omega))
     have HW2 := aM (show wrap64 (bits .and .u32 (n : Int) 65535) = ((n % 65536 : Nat) : Int) by
      rw [show bits .and .u32 (n : Int) 65535 = ((n % 65536 : Nat) : Int) from and16 hnlt]
      exact IntWalk.wrap64_in _ (by omega))
     clear hn hnlt
     go_wp2_with (first
      | (go_at_call 23; (with_reducible refine (psum_calls _ _ bs _ (HS.out.res_row 1 rfl) HBU.out).mono ?_); rintro ee w8 ⟨rfl, rfl⟩; rw [HN.out])
      | (go_at_call 17; rw [HW1.out]; (refine (two_calls X w _ [.box g0 28 [.slice Ac cl.length cc, .slice An next.length cn, .slice At tags.length ct], .row kU8 5 (.slice A4 bs.length c4) bs] 1 _ bs ((n / 65536 : Nat) : Int) HS.out rfl (by have := HNL.out; omega) (by have := HL2.out; omega)).mono ?_); rintro ee w9 ⟨v9, rfl, hs⟩; clear HS; have HS := aM hs; clear hs)
      | (go_at_call 17; rw [HW2.out]; (refine (two_calls X w _ _ 1 _ _ ((n % 65536 : Nat) : Int) HS.out rfl (by omega) (by have := HL2.out; rw [lA, show (two15 ((n / 65536 : Nat) : Int)).length = 2 from rfl]; omega)).mono ?_); rintro ee w10 ⟨v10, rfl, hs⟩; clear HS; have HS := aM hs; clear hs))
     go_ret2
     rw [HE.out]
     have hd := HS.out.sub (List.drop_sublist 1 _)
     refine ⟨_, rfl, ?_⟩
     rw [show sealE bs = (bs ++ two15 ((n / 65536 : Nat) : Int)) ++ two15 ((n % 65536 : Nat) : Int) by rw [sealE, HN.out]]
     exact hd
    | succ k1 =>
     have hi : i < next.length := by have := HJ.out; omega
     have hit : i < tags.length := by have := HB.out.2.1; omega
     have e1 : decide ((i : Int) < (next.length : Int)) = true := dT (by omega)
     have e2 : decide (i < next.length) = true := dT hi
     have hi0 : (0 : Int) ≤ (i : Int) := by omega
     have hi1 : (i : Int) < (next.length : Int) := by omega
     have hi2 : (i : Int) < (tags.length : Int) := by omega
     have x2 := (HS.out.box 0 rfl).cell 2 rfl
     obtain ⟨an, cn', u, en, hun, yn0⟩ := H1.out.row i hi
     cases en
     obtain ⟨at_, ct', et, yt0⟩ := int_cell H2.out i hit
     cases et
     obtain ⟨h3, h4, h5, h6⟩ := HB.out.2.2.2 i hit
     have HBZ2 := aM (show ((bs ++ two15 (tags.getD i 0 + 1)) ++ runsF (fun x => two15 (x + 1)) (next.getD i []).length (next.getD i [])) ++ rowsE (next.drop (i + 1)) (tags.drop (i + 1)) = bz by
      have h := HBZ.out
      rw [drop_at next [] i hi, rowsE, drop_at tags 0 i hit] at h
      rw [← h]
      simp only [List.append_assoc, List.getD_cons_zero, List.drop_succ_cons, List.drop_zero])
     generalize next.getD i [] = row at *
     generalize tags.getD i 0 = tg at *
     obtain ⟨Au, cu, rfl, _, _⟩ := hun.now
     have HUN := aM hun
     have HRB := aM (And.intro h3 h6)
     have HTG := aM (And.intro h4 h5)
     have yn := pw_cell_below HS.out.below yn0
     have yt := pw_cell_below HS.out.below yt0
     have hw1 : wrap64 (tg + 1) = tg + 1 := IntWalk.wrap64_in _ (by omega)
     clear hun yn0 yt0 h3 h4 h5 h6 HBZ
     go_wp2_with (first
      | (go_at_call 17; (refine (two_calls X w _ [.box g0 28 [.slice Ac cl.length cc, .slice (some an) next.length cn, .slice (some at_) tags.length ct], .row kU8 5 (.slice A4 bs.length c4) bs] 1 _ bs (tg + 1) HS.out rfl (by have := HTG.out; omega) (by have := HBL.out; have := HB.out.2.1; have := HB.out.2.2.1; omega)).mono ?_); rintro ee w9 ⟨v9, rfl, hs⟩; clear HS; have HS := aM hs; clear hs)
      | (go_at_call 21; (refine (runsI_calls X w _ _ 1 _ _ (bs ++ two15 (tg + 1)) row HS.out rfl HUN.out (by have := HBL.out; have := HB.out.2.1; have := HB.out.2.2.1; have := HRB.out.1; rw [lA, show (two15 (tg + 1)).length = 2 from rfl]; omega) HRB.out.2).mono ?_); rintro ee w10 ⟨v10, rfl, hs⟩; skip; clear HS; have HS := aM hs; clear hs))
     go_roundg k1
     case measure => omega
     case rel =>
      refine ⟨i + 1, (bs ++ two15 (tg + 1)) ++ runsF (fun x => two15 (x + 1)) row.length row, by go_num, ⟨by have := HJ.out; omega⟩, ⟨?_⟩, HBZ2, HS⟩
      have h1 := runsF_len (fun x => two15 (x + 1)) (fun x => Nat.le_refl _) row.length row
      have h2 := HBL.out
      have h3 := HRB.out.1
      rw [lA, lA, show (two15 (tg + 1)).length = 2 from rfl]
      omega
end Go.Proofs.YtplhfgobeicegaaGreatDoor.P
