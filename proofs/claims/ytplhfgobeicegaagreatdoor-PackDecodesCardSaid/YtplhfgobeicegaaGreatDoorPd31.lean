/- glyphcutterlaw15.PackDecodes returns true at every input, and the input reads behind the call as it read before. The condition: the listed variables read as the row says; the card ties them to the program's text. -/
import Derived.Test.YtplhfgobeicegaaGreatDoorPd30
namespace Go.Proofs.YtplhfgobeicegaaGreatDoor.P
open Go Go.RowKit Go.Proofs.YtplhfgobeicegaaGreatDoorW.PrintWords Go.Proofs.YtplhfgobeicegaaGreatDoorW.PrintLast Go.Proofs.YtplhfgobeicegaaGreatDoorW.PrintMore Go.Proofs.YtplhfgobeicegaaGreatDoor.PX
set_option linter.unusedVariables false
set_option linter.unusedSimpArgs false
set_option maxRecDepth 100000
theorem same_true (X : Nat → Prop) (va vb vc vd ve vf : Value) (C : List Int) (N : List (List Int)) (T : List Int) (w : World) (hX : ∀ k, X k → k < w.heap.size) (h0 : PV kU8 X w va C) (h1 : PV kRow X w vb N) (h2 : PV kInt X w vc T) (h3 : PV kU8 X w vd C) (h4 : PV kRow X w ve N) (h5 : PV kInt X w vf T) (hu : U8s C) :
  Calls Tryz.prog 10 #[.agg #[va, vb, vc], .agg #[vd, ve, vf]] w fun e w' => e = .returned (.bool true) ∧ Below w.heap.size w w' := by
 have h := same14_calls X va vb vc vd ve vf C C N N T T w hX h0 h1 h2 h3 h4 h5 hu hu
 rw [dT ⟨rfl, rfl, rfl⟩] at h
 exact h
theorem decF_err (b : List Int) : (decF b).2 = 0 ∨ (decF b).2 = 70 := by
 by_cases h : (decF b).2 = 0
 ·exact .inl h
 ·rw [decF_not h]; exact .inr rfl
theorem rowsE_len : ∀ (N : List (List Int)) (T : List Int), (∀ row ∈ N, row.length ≤ 256) → (rowsE N T).length ≤ 770 * N.length
 | [], T, _ => by rw [rowsE]; simp
 | row :: N, T, h => by
  have h1 := rowsE_len N (T.drop 1) (fun r hr => h r (List.mem_cons_of_mem _ hr))
  have h2 := h row List.mem_cons_self
  have h3 := runsF_len (fun x => two15 (x + 1)) (fun x => Nat.le_refl _) row.length row
  rw [rowsE, lA, lA, List.length_cons, show ∀ x, (two15 x).length = 2 from fun _ => rfl]
  omega
theorem bodyE_max {C : List Int} {N : List (List Int)} {T : List Int} (hu : U8s C) (h : EncOk C N T) : (bodyE C N T).length ≤ 100000000 := by
 have hf := enc_fact hu h
 have h1 := headE_len C T
 have h2 := rowsE_len N T (fun row hr => by
  rw [(hf.row row hr).1]
  have := maxF_in hu (show 1 ≤ C.length by rw [hf.len]; decide)
  omega)
 have h3 := hf.le
 have h4 := hf.rows
 have h5 := hf.len
 unfold bodyE
 rw [lA]
 omega
theorem cut_run {P : Program} (t E : TypeId) (ht : P.underlying t = some (.slice E)) {i : TypeInfo} (hi : P.info? E = some i) (A : Option Addr) (n c m : Nat) (hm : m ≤ n) (hc : n ≤ c) (z : Int) (hz : z = (m : Int)) (W : World) : (Instr.slice t (.slice A n c) none (some (.int .i64 z)) none).run P W = .ok (.slice A m c) W := by
 subst hz
 have := cut_to (P := P) t E .i64 ht hi A n c (m : Int) (by omega) (by omega) hc W
 simpa using this
theorem row_cap {X : Nat → Prop} {w0 w : World} {L : List PX.Item} {A : Option Addr} {n c e : Nat} {xs : List Int} (h : Sep X w0 w L) (i : Nat) (hi : L[i]? = some (.row kU8 e (.slice A n c) xs)) : n ≤ c := by
 obtain ⟨A2, c2, e2, hc, _⟩ := (h.res_row i hi).now
 cases e2
 exact hc
set_option maxHeartbeats 16000000 in
theorem packDecodes_calls (X : Nat → Prop) (v0 v1 v3 v4 : Value) (b : List Int) (c : List (List Int)) (k : Int) (next tags : List Int) (a x : Nat) (w : World) (hX : ∀ k, X k → k < w.heap.size) (h0 : PV kU8 X w v0 b) (h1 : PV kU16s X w v1 c) (h3 : PV (Kd.int .i8) X w v3 next) (h4 : PV (Kd.int .i8) X w v4 tags)
  (hu : U8s b) (hc : ∀ l ∈ c, ∀ x ∈ l, 0 ≤ x ∧ x < 65536) (hk : 0 ≤ k ∧ k < 256) (hn : ∀ x ∈ next, -128 ≤ x ∧ x ≤ 127) (ht : ∀ x ∈ tags, -128 ≤ x ∧ x ≤ 127) (ha : a < 65536) (hx : x < 256) :
  Calls Tryz.prog 4 #[v0, v1, .int .u8 k, v3, v4, .int .u16 (a : Int), .int .u8 (x : Int)] w fun e w' => e = .returned (.bool true) ∧ Below w.heap.size w w' := by
 have H0 := aM h0
 have H1 := aM h1
 have H3 := aM h3
 have H4 := aM h4
 have HU := aM hu
 have HC := aM hc
 have HK := aM hk
 have HRN := aM hn
 have HRT := aM ht
 have HAX := aM (And.intro ha hx)
 have hok := t15_ok c k next tags hk
 obtain ⟨⟨C, N, T⟩, hTb⟩ : ∃ p, p = t15 c k next tags := ⟨_, rfl⟩
 have HT := aM hTb.symm
 rw [← hTb] at hok
 dsimp only at hok
 have HCU := aM hok.1
 obtain ⟨eb, heb⟩ : ∃ b, b = sealE (bodyE C N T) := ⟨_, rfl⟩
 have HE := aM (show encR C N T = (eb, 0) by rw [heb]; exact encR_pos hok.2.2)
 have HEL := aM (show 9 ≤ eb.length ∧ eb.length ≤ 100000004 by have := bodyE_len C N T; have := bodyE_max hok.1 hok.2.2; rw [heb, sealE_len]; omega)
 have HEU := aM (show U8s eb by rw [heb]; exact sealE_u8 (U8s.app (headE_u8 hok.1 T) (rowsE_u8 N T)))
 have m0 := h0.max
 obtain ⟨A0, c0, rfl, _, _⟩ := h0.now
 have HS := aM (Sep.start hX)
 clear h0 h1 h3 h4 hu hc hn ht hX hk hTb hok heb ha hx
 go_enter Tryz.func4, Tryz.ntmps4
 rcases Nat.lt_or_ge 2000 b.length with hl | hl
 case inl =>
  have d1 : decide ((b.length : Int) > 2000) = true := dT (by omega)
  have d2 : decide (2000 < b.length) = true := dT hl
  go_wp2_with (first
   | (go_at_call 8; (with_reducible refine (known15_calls _).mono ?_); rintro ee w5 ⟨rfl, hb⟩; have hs := HS.out.call hb; clear hb; clear HS; have HS := aM hs; clear hs))
  go_ret
  exact ⟨rfl, HS.out.below⟩
 case inr =>
  have d1 : decide ((b.length : Int) > 2000) = false := dF (by omega)
  have d2 : decide (2000 < b.length) = false := dF (by omega)
  have hcu := decF_u8s HU.out
  have hec := decF_err b
  obtain ⟨⟨⟨cl, N0, T0⟩, ec⟩, hd⟩ : ∃ p, p = decF b := ⟨_, rfl⟩
  rw [← hd] at hcu hec
  have HD := aM hd.symm
  have HDU := aM hcu
  have hec : ec = 0 ∨ ec = 70 := hec
  have HEC := aM hec
  clear hcu hd hl hec
  go_upto_region 4 with (first
   | (go_at_call 8; (with_reducible refine (known15_calls _).mono ?_); rintro ee w5 ⟨rfl, hb⟩; have hs := HS.out.call hb; clear hb; clear HS; have HS := aM hs; clear hs)
   | (go_at_call 9; (with_reducible refine (decode_calls _ _ b _ HS.out.lt (HS.out.arg H0.out) HU.out).mono ?_); rintro ee w6 ⟨a0, a1, a2, rfl, h0, h1, h2, hb⟩; rw [HD.out] at h0 h1 h2 ⊢; obtain ⟨A9, c9, e9⟩ := PV.form2 h0; subst e9; obtain ⟨A10, c10, e10⟩ := PV.form2 h1; subst e10; obtain ⟨A11, c11, e11⟩ := PV.form2 h2; subst e11; have hs := (((HS.out.push_ro hb h0).push_ro (Below.refl _ _) (h1.to (fun _ _ h => Ys_ro h))).push_ro (Below.refl _ _) (h2.to (fun _ _ h => Ys_ro (Ys_ro h)))).push_box [.slice A9 cl.length c9, .slice A10 N0.length c10, .slice A11 T0.length c11] 28; simp only [List.nil_append, List.cons_append] at hs; clear h0 h1 h2 hb; clear HS; have HS := aM hs; clear hs))
  clear d1 d2
  go_upto_region 5 with (first
   | (go_at_call 11; (with_reducible refine (rdecode_calls _ _ b _ HS.out.lt (HS.out.arg H0.out) HU.out).mono ?_); rintro ee w7 ⟨a0, a1, a2, rfl, h0, h1, h2, hb⟩; rw [HD.out] at h0 h1 h2 ⊢; obtain ⟨B9, d9, e9⟩ := PV.form2 h0; subst e9; obtain ⟨B10, d10, e10⟩ := PV.form2 h1; subst e10; obtain ⟨B11, d11, e11⟩ := PV.form2 h2; subst e11; have hs := (((HS.out.push_ro hb h0).push_ro (Below.refl _ _) (h1.to (fun _ _ h => Ys_ro h))).push_ro (Below.refl _ _) (h2.to (fun _ _ h => Ys_ro (Ys_ro h)))).push_box [.slice B9 cl.length d9, .slice B10 N0.length d10, .slice B11 T0.length d11] 28; simp only [List.nil_append, List.cons_append] at hs; clear h0 h1 h2 hb; clear HS; have HS := aM hs; clear hs))
  have xt0 := (HS.out.box 3 rfl).cell 0 rfl
  have xt1 := (HS.out.box 3 rfl).cell 1 rfl
  have xt2 := (HS.out.box 3 rfl).cell 2 rfl
  have xu0 := (HS.out.box 7 rfl).cell 0 rfl
  have xu1 := (HS.out.box 7 rfl).cell 1 rfl
  have xu2 := (HS.out.box 7 rfl).cell 2 rfl
  have hwe : wrap64 ec = ec := IntWalk.wrap64_in _ (by have := HEC.out; omega)
  have hbe : (ec == ec) = true := beq_self_eq_true ec
  go_upto_region 7 with (first
   | (go_at_call 10; (with_reducible refine (same_true _ _ _ _ _ _ _ cl N0 T0 _ HS.out.lt (HS.out.ro 0 rfl) (HS.out.ro 1 rfl) (HS.out.ro 2 rfl) (HS.out.ro 4 rfl) (HS.out.ro 5 rfl) (HS.out.ro 6 rfl) HDU.out).mono ?_); rintro ee w8 ⟨rfl, hb⟩; have hs := (HS.out.call hb).take 0; clear hb xt0 xt1 xt2 xu0 xu1 xu2; clear HS; have HS := aM hs; clear hs))
  clear hwe hbe HD HDU HEC
  go_upto_region 10 with (first
   | (go_at_call 5; (with_reducible refine (table15_calls _ _ _ _ c k next tags _ HS.out.lt (HS.out.arg H1.out) (HS.out.arg H3.out) (HS.out.arg H4.out) HC.out HK.out HRN.out HRT.out).mono ?_); rintro ee w9 ⟨a0, a1, a2, rfl, h0, h1, h2, hb⟩; rw [HT.out] at h0 h1 h2; have hs := ((HS.out.push_ro hb h0).push_ro (Below.refl _ _) (h1.to (fun _ _ h => Ys_ro h))).push_ro (Below.refl _ _) (h2.to (fun _ _ h => Ys_ro (Ys_ro h))); have hs : Sep X w w9 [.ro kU8 a0 C, .ro kRow a1 N, .ro kInt a2 T] := hs; clear h0 h1 h2 hb; clear HS; have HS := aM hs; clear hs)
   | (go_at_call 7; (with_reducible refine (rencode_calls _ _ _ _ C N T _ HS.out.lt (HS.out.ro 0 rfl) (HS.out.ro 1 rfl) (HS.out.ro 2 rfl) HCU.out).mono ?_); rintro ee w10 ⟨v5, rfl, hs2⟩; rw [HE.out] at hs2 ⊢; have hs := (HS.out.append hs2).sub (List.drop_sublist 3 _); clear hs2; have hs : Sep X w w10 [.row kU8 5 v5 eb] := hs; obtain ⟨A4, c4, e4⟩ := hs.form 0 rfl; subst e4; clear HS; have HS := aM hs; clear hs))
  obtain ⟨n4, hn4⟩ : ∃ n, n = eb.length - 4 := ⟨_, rfl⟩
  have hn5 : 5 ≤ n4 := by have := HEL.out; omega
  have m4 : eb.length ≤ 100000004 := HEL.out.2
  have hz4 : (eb.length : Int) - 4 = (n4 : Int) := by have := HEL.out; omega
  obtain ⟨j0, hj0, _, hjz0, _⟩ := info_parts info5
  have hrun := fun (W : World) => cut_run (P := Tryz.prog) 24 5 Tryz.underlying24 hj0 A4 eb.length c4 n4 (by omega) (row_cap HS.out 0 rfl) ((eb.length : Int) - 4) hz4 W
  obtain ⟨bd, hbd⟩ : ∃ l, l = eb.take n4 := ⟨_, rfl⟩
  have hbl : bd.length = n4 := by rw [hbd, List.length_take]; omega
  have HBU := aM (show U8s bd by rw [hbd]; exact fun c hc => HEU.out c (List.mem_of_mem_take hc))
  have hs := HS.out.cut_row 0 rfl n4 (show n4 ≤ eb.length by omega)
  rw [← hbd] at hs
  rw [← hbl] at hs hrun hn5
  have hs : Sep X w w10 [.row kU8 5 (.slice A4 bd.length c4) bd] := hs
  have hbm : bd.length ≤ 100000004 := by omega
  clear hj0 hjz0 hn4 hz4 hbd hbl HS
  have HS := aM hs
  clear hs
  go_upto_region 11 with fail
  clear hrun
  obtain ⟨i, hi⟩ : ∃ i, i = a % bd.length := ⟨_, rfl⟩
  have hil : i < bd.length := by rw [hi]; exact Nat.mod_lt _ (by omega)
  have HIQ := aM (show (wrap64 (a : Int)).tmod (bd.length : Int) = (i : Int) by rw [show wrap64 (a : Int) = (a : Int) from IntWalk.wrap64_in _ (by have := HAX.out.1; omega), Int.tmod_eq_emod_of_nonneg (by omega), hi]; omega)
  have hwa : wrap64 (a : Int) = (a : Int) := IntWalk.wrap64_in _ (by have := HAX.out.1; omega)
  have hia : (a : Int).tmod (bd.length : Int) = (i : Int) := by have := HIQ.out; rwa [hwa] at this
  have hbl0 : ¬ (bd.length : Int) = 0 := by omega
  clear hi
  obtain ⟨g, c9, e, z, f, h⟩ := HS.out.int 0 rfl i hil
  cases e
  have hi0 : (0 : Int) ≤ (i : Int) := by omega
  have hi1 : (i : Int) < (bd.length : Int) := by omega
  have HUS := aM (HBU.out.set i (q := (x : Int)) (by have := HAX.out.2; omega))
  have hs := h (x : Int)
  have HS2 := aM hs
  clear hs h
  go_upto_region 12 with fail
  clear HS z f hbl0 hwa hia
  obtain ⟨bd2, hbd2⟩ : ∃ l, l = bd.set i (x : Int) := ⟨_, rfl⟩
  have hl2 : bd.length = bd2.length := by rw [hbd2, List.length_set]
  have hs := HS2.out
  rw [← hbd2] at hs HUS
  rw [hl2] at hs hbm hn5 ⊢
  obtain ⟨w2, hw2⟩ : ∃ x_1, x_1 = w10.setCell ⟨g, i, none⟩ (.int .u8 (x : Int)) := ⟨_, rfl⟩
  rw [← hw2] at hs ⊢
  have hs := hs.sealRo 0 rfl
  have hs : Sep X w w2 [.ro kU8 (.slice (some ⟨g, 0, none⟩) bd2.length c4) bd2] := hs
  clear HS2 hw2 hbd2 hl2 hil hi0 hi1 HIQ HBU
  have HS := aM hs
  clear hs
  obtain ⟨n, hn⟩ : ∃ n, n = sumL bd2 := ⟨_, rfl⟩
  have HN := aM hn.symm
  have hnlt := (sumL_lt bd2).lt
  rw [← hn] at hnlt
  clear hn
  go_upto_region 13 with (first
   | (go_at_call 12; (with_reducible refine (rsum_calls _ _ bd2 _ (HS.out.ro 0 rfl) HUS.out).mono ?_); rintro ee w11 ⟨rfl, rfl⟩; rw [HN.out]))
  have hs := HS.out.push_nil kU8 5
  have hs : PX.Sep X w _ [.ro kU8 (.slice (some ⟨g, 0, none⟩) bd2.length c4) bd2, .row kU8 5 (.slice none 0 0) []] := hs
  clear HS
  have HS := aM hs
  clear hs
  go_upto_region 15 with (first
   | ((with_reducible refine gate_builtin (b := .append) (xs := #[.tmp 82, .tmp 83]) rfl ?_); at_builtin; refine sgrow kU8 1 rfl (.tmp 82) (.tmp 83) 24 5 (.int .u8 0) 1 rfl Tryz.underlying24 info5 rfl (by decide) (by omega) _ _ [] bd2 rfl rfl HS.out rfl (HS.out.ro 0 rfl) (by rw [List.length_nil]; omega) ?_; clear HS; intro v1 w12 hs; have hs : Sep X w w12 [.ro kU8 (.slice (some ⟨g, 0, none⟩) bd2.length c4) bd2, .row kU8 5 v1 bd2] := hs; obtain ⟨A5, c5, e5⟩ := hs.form 1 rfl; subst e5; have HS := aM hs; clear hs))
  have hbm4 : bd2.length + 4 ≤ 1000000000 := by omega
  obtain ⟨q4, hq4⟩ : ∃ q : List Int, q = [(n : Int) / 16777216 % 256, (n : Int) / 65536 % 256, (n : Int) / 256 % 256, (n : Int) % 256] := ⟨_, rfl⟩
  have HQ4 := aM (show U8s (bd2 ++ q4) from U8s.app HUS.out (fun c hc => by
   rw [hq4] at hc
   simp only [List.mem_cons, List.not_mem_nil, or_false] at hc
   rcases hc with rfl | rfl | rfl | rfl <;> omega))
  have HQL := aM (show q4.length = 4 by rw [hq4]; rfl)
  clear hnlt
  go_upto_region 16 with (first
   | ((with_reducible refine gate_dst (N := 97) rfl ?_); refine slit kU8 5 ?hg (N := 97) ?hd (xs := [(n : Int) / 16777216 % 256, (n : Int) / 65536 % 256, (n : Int) / 256 % 256, (n : Int) % 256]) (inner := [.int .u8 ((n : Int) / 16777216 % 256), .int .u8 ((n : Int) / 65536 % 256), .int .u8 ((n : Int) / 256 % 256), .int .u8 ((n : Int) % 256)]) ?hr HS.out ?hp (by simp) ?_; (case hd => rfl); (case hg => rfl); (case hr => first | (go_simp; done) | (go_simp; rfl)); (case hp => exact Reps.one (PK.scalar _) (Reps.one (PK.scalar _) (Reps.one (PK.scalar _) (Reps.one (PK.scalar _) (Reps.none _ _))))); clear HS; intro v30 w13 hs; rw [← hq4] at hs; have HS := aM hs; clear hs)
   | ((with_reducible refine gate_builtin (b := .append) (xs := #[.tmp 85, .tmp 97]) rfl ?_); at_builtin; refine sgrow kU8 1 rfl (.tmp 85) (.tmp 97) 24 5 (.int .u8 0) 1 rfl Tryz.underlying24 info5 rfl (by decide) (by omega) _ _ bd2 q4 rfl rfl HS.out rfl (HS.out.ro 2 rfl) (by have := HQL.out; omega) ?_; clear HS; intro v1 w14 hs; obtain ⟨bt, hbt⟩ : ∃ q, q = bd2 ++ q4 := ⟨_, rfl⟩; rw [← hbt] at hs; have HBT := aM hbt; clear hbt; have hs := hs.take 2; obtain ⟨A6, c6, e6⟩ := hs.form 1 rfl; subst e6; have hs := hs.sealRo 1 rfl; have hs : PX.Sep X w w14 [.ro kU8 (.slice (some ⟨g, 0, none⟩) bd2.length c4) bd2, .ro kU8 (.slice A6 bt.length c6) bt] := hs; have HS := aM hs; clear hs))
  have hq4u := HQ4.out
  rw [← HBT.out] at hq4u
  have HBTU := aM hq4u
  have hcu := decF_u8s hq4u
  have hec := decF_err bt
  obtain ⟨⟨⟨cl1, N1, T1⟩, ec1⟩, hd⟩ : ∃ p, p = decF bt := ⟨_, rfl⟩
  rw [← hd] at hcu hec
  have HD := aM hd.symm
  have HDU := aM hcu
  have hec : ec1 = 0 ∨ ec1 = 70 := hec
  have HEC := aM hec
  clear hcu hd hec hq4u hq4 HQ4
  go_upto_region 17 with (first
   | (go_at_call 9; (with_reducible refine (decode_calls _ _ bt _ HS.out.lt (HS.out.ro 1 rfl) HBTU.out).mono ?_); rintro ee w15 ⟨a0, a1, a2, rfl, h0, h1, h2, hb⟩; rw [HD.out] at h0 h1 h2 ⊢; obtain ⟨A9, c9, e9⟩ := PV.form2 h0; subst e9; obtain ⟨A10, c10, e10⟩ := PV.form2 h1; subst e10; obtain ⟨A11, c11, e11⟩ := PV.form2 h2; subst e11; have hs := (((HS.out.push_ro hb h0).push_ro (Below.refl _ _) (h1.to (fun _ _ h => Ys_ro h))).push_ro (Below.refl _ _) (h2.to (fun _ _ h => Ys_ro (Ys_ro h)))).push_box [.slice A9 cl1.length c9, .slice A10 N1.length c10, .slice A11 T1.length c11] 28; simp only [List.nil_append, List.cons_append] at hs; clear h0 h1 h2 hb; clear HS; have HS := aM hs; clear hs))
  go_upto_region 18 with (first
   | (go_at_call 11; (with_reducible refine (rdecode_calls _ _ bt _ HS.out.lt (HS.out.ro 1 rfl) HBTU.out).mono ?_); rintro ee w16 ⟨a0, a1, a2, rfl, h0, h1, h2, hb⟩; rw [HD.out] at h0 h1 h2 ⊢; obtain ⟨B9, d9, e9⟩ := PV.form2 h0; subst e9; obtain ⟨B10, d10, e10⟩ := PV.form2 h1; subst e10; obtain ⟨B11, d11, e11⟩ := PV.form2 h2; subst e11; have hs := (((HS.out.push_ro hb h0).push_ro (Below.refl _ _) (h1.to (fun _ _ h => Ys_ro h))).push_ro (Below.refl _ _) (h2.to (fun _ _ h => Ys_ro (Ys_ro h)))).push_box [.slice B9 cl1.length d9, .slice B10 N1.length d10, .slice B11 T1.length d11] 28; simp only [List.nil_append, List.cons_append] at hs; clear h0 h1 h2 hb; clear HS; have HS := aM hs; clear hs))
  have xt0 := (HS.out.box 5 rfl).cell 0 rfl
  have xt1 := (HS.out.box 5 rfl).cell 1 rfl
  have xt2 := (HS.out.box 5 rfl).cell 2 rfl
  have xu0 := (HS.out.box 9 rfl).cell 0 rfl
  have xu1 := (HS.out.box 9 rfl).cell 1 rfl
  have xu2 := (HS.out.box 9 rfl).cell 2 rfl
  have hwe : wrap64 ec1 = ec1 := IntWalk.wrap64_in _ (by have := HEC.out; omega)
  have hbe : (ec1 == ec1) = true := beq_self_eq_true ec1
  go_wp2_with (first
   | (go_at_call 10; (with_reducible refine (same_true _ _ _ _ _ _ _ cl1 N1 T1 _ HS.out.lt (HS.out.ro 2 rfl) (HS.out.ro 3 rfl) (HS.out.ro 4 rfl) (HS.out.ro 6 rfl) (HS.out.ro 7 rfl) (HS.out.ro 8 rfl) HDU.out).mono ?_); rintro ee w17 ⟨rfl, hb⟩; have hs := HS.out.call hb; clear hb xt0 xt1 xt2 xu0 xu1 xu2; clear HS; have HS := aM hs; clear hs))
  go_ret
  exact ⟨rfl, HS.out.below⟩
end Go.Proofs.YtplhfgobeicegaaGreatDoor.P
namespace Go.Proofs.YtplhfgobeicegaaGreatDoor.packDecodes
open Go Go.ChangeShapes Go.WideShapes Go.ChangeAt Go.RowKit
set_option linter.unusedVariables false
set_option maxRecDepth 100000 in
theorem lifted (os : Os) (started : os.Started) (H : Type) (enc : TypeId × Value → H) :
  ReturnsInHanded {} Tryz.checked os 4 .any (fun w args => (Rows.packDecodesSpec.pre enc Tryz.prog Tryz.f4 [] false w args ∧ laidMetH Tryz.prog Rows.packDecodesRow.laid w) ∧ sizedMet enc Tryz.prog Tryz.f4 (OpenSpec.ofChange Rows.packDecodesSpec) false w args)
   (Rows.packDecodesSpec.post enc Tryz.prog Tryz.f4 false true false false) := by
 refine returnsInHanded_of_change_and (C := Tryz.checked) (X := fun w _ => laidMetH Tryz.prog Rows.packDecodesRow.laid w) (fun _ _ _ hh h => h.of_heap hh) LC.own started (by kernel_rfl) Tryz.func4
  (ChangeSpec.witness_shaped (enc := enc) (C := Tryz.checked) (os := os) (X := fun w _ => laidMetH Tryz.prog Rows.packDecodesRow.laid w) false (World.laidAll Tryz.prog os Rows.packDecodesRow.laid) #[.slice none 0 0, .slice none 0 0, .int .u8 0, .slice none 0 0, .slice none 0 0, .int .u16 0, .int .u8 0] 8 (World.laidAll_os _ _ _)
   (World.shaped_of_ZipB (by kernel_rfl) (by kernel_rfl)) (by kernel_rfl) (by kernel_rfl) (by kernel_rfl) (LC.world_met os _)) ?_
 intro W base args ds gs before hval0 hW _ _ hL _
 have hval : ∀ (j : Nat) t v, Tryz.f4.params[j]? = some t → args[j]? = some v → Value.okWide Tryz.prog W .any base t v := hval0
 have hW' := hW
 obtain ⟨p, q, hA0, hV, rfl, _, _⟩ := hW
 have hA : DataW.TrodAll enc Tryz.prog W 0 (fun _ => true) true Tryz.f4.params.toList args.toList ds p := hA0
 rw [Tryz.params4] at hA hval
 obtain ⟨v0, vs0, d0, ds0, p0, q0, hargs, rfl, rfl, h0, r0⟩ := trodAll_cons hA
 obtain ⟨v1, vs1, d1, ds1, p1, q1, rfl, rfl, rfl, h1, r1⟩ := trodAll_cons r0
 obtain ⟨v2, vs2, d2, ds2, p2, q2, rfl, rfl, rfl, h2, r2⟩ := trodAll_cons r1
 obtain ⟨v3, vs3, d3, ds3, p3, q3, rfl, rfl, rfl, h3, r3⟩ := trodAll_cons r2
 obtain ⟨v4, vs4, d4, ds4, p4, q4, rfl, rfl, rfl, h4, r4⟩ := trodAll_cons r3
 obtain ⟨v5, vs5, d5, ds5, p5, q5, rfl, rfl, rfl, h5, r5⟩ := trodAll_cons r4
 obtain ⟨v6, vs6, d6, ds6, p6, q6, rfl, rfl, rfl, h6, r6⟩ := trodAll_cons r5
 obtain ⟨rfl, rfl, rfl⟩ := trodAll_nil r6
 obtain rfl : args = #[v0, v1, v2, v3, v4, v5, v6] := by cases args; simp_all
 obtain ⟨rfl, rfl⟩ := trodVars_none hV
 have k0 := h0
 have lt0 : ∀ x ∈ p0, x.block < W.heap.size := by obtain ⟨m, hm⟩ := k0; exact DataW.trod_lt m _ _ _ hm
 obtain ⟨A0, len0, cap0, e0⟩ := okWide_slice Tryz.underlying24 (hval 0 24 v0 rfl rfl)
 subst e0
 obtain ⟨m0, y0, hy0⟩ := LC.arg1 h0
 obtain ⟨s0, hs0, us0⟩ := LC.bytes hy0
 have k1 := h1
 have lt1 : ∀ x ∈ p1, x.block < W.heap.size := by obtain ⟨m, hm⟩ := k1; exact DataW.trod_lt m _ _ _ hm
 obtain ⟨A1, len1, cap1, e1⟩ := okWide_slice Tryz.underlying22 (hval 1 22 v1 rfl rfl)
 subst e1
 obtain ⟨m1, y1, hy1⟩ := LC.arg1 h1
 obtain ⟨s1, hs1, us1⟩ := LC.u16ss hy1
 obtain ⟨a2, rfl, rfl, rfl, w2⟩ := open_int Tryz.underlying5 (hval 2 5 v2 rfl rfl) h2
 have b2 : 0 ≤ a2 ∧ a2 < 256 := by have := w2; simp [Lit.wf, IntKind.min, IntKind.max, IntKind.signed, IntKind.bits] at this; omega
 have k3 := h3
 have lt3 : ∀ x ∈ p3, x.block < W.heap.size := by obtain ⟨m, hm⟩ := k3; exact DataW.trod_lt m _ _ _ hm
 obtain ⟨A3, len3, cap3, e3⟩ := okWide_slice Tryz.underlying23 (hval 3 23 v3 rfl rfl)
 subst e3
 obtain ⟨m3, y3, hy3⟩ := LC.arg1 h3
 obtain ⟨s3, hs3, us3⟩ := LC.i8s hy3
 have k4 := h4
 have lt4 : ∀ x ∈ p4, x.block < W.heap.size := by obtain ⟨m, hm⟩ := k4; exact DataW.trod_lt m _ _ _ hm
 obtain ⟨A4, len4, cap4, e4⟩ := okWide_slice Tryz.underlying23 (hval 4 23 v4 rfl rfl)
 subst e4
 obtain ⟨m4, y4, hy4⟩ := LC.arg1 h4
 obtain ⟨s4, hs4, us4⟩ := LC.i8s hy4
 obtain ⟨a5, rfl, rfl, rfl, w5⟩ := open_int Tryz.underlying30 (hval 5 30 v5 rfl rfl) h5
 have b5 : 0 ≤ a5 ∧ a5 < 65536 := by have := w5; simp [Lit.wf, IntKind.min, IntKind.max, IntKind.signed, IntKind.bits] at this; omega
 obtain ⟨a6, rfl, rfl, rfl, w6⟩ := open_int Tryz.underlying5 (hval 6 5 v6 rfl rfl) h6
 have b6 : 0 ≤ a6 ∧ a6 < 256 := by have := w6; simp [Lit.wf, IntKind.min, IntKind.max, IntKind.signed, IntKind.bits] at this; omega
 clear hA0 hval0
 obtain ⟨n5, rfl⟩ : ∃ n : Nat, a5 = (n : Int) := ⟨a5.toNat, by omega⟩
 obtain ⟨n6, rfl⟩ : ∃ n : Nat, a6 = (n : Int) := ⟨a6.toNat, by omega⟩
 have hcall := P.packDecodes_calls LC.no _ _ _ _ s0 s1 a2 s3 s4 n5 n6 W (LC.no_old W) hs0 hs1 hs3 hs4 us0 us1 b2 us3 us4 (by omega) (by omega)
 refine hcall.mono fun e W' ⟨he, bel⟩ => ?_
 subst he
 exact ⟨_, rfl, _, _, _, [], _, [], hW', trodAll_mk1 (shut_bool Tryz.underlying4 _), (trodAll_cons_mk (Below.trod LC.laidOut (by kernel_rfl) (of_decide_eq_true (by kernel_rfl)) k0 bel lt0) (trodAll_cons_mk (Below.trod LC.laidOut (by kernel_rfl) (of_decide_eq_true (by kernel_rfl)) k1 bel lt1) (trodAll_cons_mk (shut_int Tryz.underlying5 w2) (trodAll_cons_mk (Below.trod LC.laidOut (by kernel_rfl) (of_decide_eq_true (by kernel_rfl)) k3 bel lt3) (trodAll_cons_mk (Below.trod LC.laidOut (by kernel_rfl) (of_decide_eq_true (by kernel_rfl)) k4 bel lt4) (trodAll_cons_mk (shut_int Tryz.underlying30 w5) (trodAll_cons_mk (shut_int Tryz.underlying5 w6) trodAll_mk0))))))), rfl, bel.frame _, fun h => by cases h⟩
theorem said : Rows.PackDecodesSaid :=
 OpenClaim.holds_of_wide 4 Tryz.f4 rfl rfl rfl rfl rfl rfl rfl ⟨rfl, rfl, rfl, rfl, rfl⟩ rfl rfl rfl rfl rfl (by kernel_rfl) Tryz.func4 (by kernel_rfl)
  (of_decide_eq_true (by kernel_rfl)) (by unfold Func.isWrapper; first | (rw [if_pos (by decide +kernel)]; kernel_rfl) | (rw [if_neg (by decide +kernel)]; exact ⟨rfl, rfl⟩))
  (fun os started H enc _ => lifted os started H enc)
theorem plain (f : FuncId) (fn : Func) (hf : Tryz.pinned.checked.prog.funcNamed "glyphcutter/glyphcutterlaw15.PackDecodes" = some f) (hfn : Tryz.pinned.checked.prog.funcs[f]? = some fn) :
  Rows.packDecodesCard.stood.looks = Tryz.pinned.checked.prog.looks [] ∧ ∀ (j : Nat) t, fn.params[j]? = some t → Tryz.pinned.checked.prog.wantsStandIn t = false := by
 obtain rfl : f = 4 := Option.some.inj ((show Tryz.prog.funcNamed "glyphcutter/glyphcutterlaw15.PackDecodes" = some 4 by kernel_rfl).symm.trans hf) |>.symm
 obtain rfl : fn = Tryz.f4 := (Option.some.inj (Tryz.func4.symm.trans hfn)).symm
 refine ⟨by kernel_rfl, fun j t ht => ?_⟩
 rw [Tryz.params4] at ht
 have hm : t ∈ [24, 22, 5, 23, 23, 30, 5] := by simpa using Array.mem_of_getElem? ht
 have hall : ([24, 22, 5, 23, 23, 30, 5].all fun u => !Tryz.prog.wantsStandIn u) = true := by kernel_rfl
 exact (show Tryz.prog.wantsStandIn t = false by simpa using List.all_eq_true.1 hall t hm)
theorem card : Rows.PackDecodesCardSaid :=
 Claim7.holds_tied_plain_at .later [] _ _ _ _ said (fun _ h => by cases h) (by kernel_rfl) (fun _ h => by cases h) packDecodes_row_tie rfl ⟨rfl, rfl⟩ (by kernel_rfl) rfl plain (by kernel_rfl)
end Go.Proofs.YtplhfgobeicegaaGreatDoor.packDecodes
namespace Go.Proofs.YtplhfgobeicegaaGreatDoor
theorem packDecodes_card : Rows.PackDecodesCardSaid := packDecodes.card
end Go.Proofs.YtplhfgobeicegaaGreatDoor
