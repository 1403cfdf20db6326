/- glyphcutterlaw15.PackEncodes returns true at every input, and the input reads behind the call as it read before. The condition: the listed variables read as the row says; the card ties them to the program's text. -/
import Derived.Test.YtplhfgobeicegaaGreatDoorPe29
namespace Go.Proofs.YtplhfgobeicegaaGreatDoor.P
open Go Go.RowKit Go.Proofs.YtplhfgobeicegaaGreatDoorW.PrintWords Go.Proofs.YtplhfgobeicegaaGreatDoorW.PrintLast Go.Proofs.YtplhfgobeicegaaGreatDoorW.PrintMore Go.Proofs.YtplhfgobeicegaaGreatDoor.PX
set_option linter.unusedVariables false
set_option linter.unusedSimpArgs false
set_option maxRecDepth 100000
theorem perm_bc (x0 x1 x2 a b c : PX.Item) (R : List PX.Item) : ([x0, x1, x2] ++ ([a, b, c] ++ R)).Perm ([x0, x1, x2, a, c] ++ (b :: R)) := ((((List.Perm.swap c b R).cons a).cons x2).cons x1).cons x0
theorem own_ro {X : Nat → Prop} {w0 w : World} {x0 x1 x2 a c : PX.Item} {vN : Value} {us : List SlT} {gs : List (List Int)} (hlen : us.length = gs.length) (h : PX.Sep X w0 w ([x0, x1, x2] ++ ([a, .row kSl 26 vN us, c] ++ rows kInt 3 us gs))) : PX.Sep X w0 w [x0, x1, x2, a, c, .ro kRow vN gs] :=
 PX.Sep.group_ro [x0, x1, x2, a, c] hlen (h.perm (perm_bc x0 x1 x2 a (.row kSl 26 vN us) c (rows kInt 3 us gs)))
set_option maxHeartbeats 16000000 in
theorem table15own_calls (X : Nat → Prop) (v0 v2 v3 : Value) (c : List (List Int)) (k : Int) (next tags : List Int) (w : World) (hX : ∀ k, X k → k < w.heap.size) (h0 : PV kU16s X w v0 c) (h2 : PV (Kd.int .i8) X w v2 next) (h3 : PV (Kd.int .i8) X w v3 tags)
  (hc : ∀ l ∈ c, ∀ x ∈ l, 0 ≤ x ∧ x < 65536) (hk : 0 ≤ k ∧ k < 256) (hn : ∀ x ∈ next, -128 ≤ x ∧ x ≤ 127) (ht : ∀ x ∈ tags, -128 ≤ x ∧ x ≤ 127) :
  Calls Tryz.prog 5 #[v0, .int .u8 k, v2, v3] w fun e w' => ∃ a0 a1 a2, e = .returned (.agg #[a0, a1, a2]) ∧ PX.Sep X w w' [.row kU8 5 a0 (t15 c k next tags).1, .row kInt 3 a2 (t15 c k next tags).2.2, .ro kRow a1 (t15 c k next tags).2.1] := by
 have H0 := aM h0
 have H2 := aM h2
 have H3 := aM h3
 have HC := aM hc
 have HK := aM hk
 have HRN := aM hn
 have HRT := aM ht
 have hbs := b14_sound c k next tags hk
 obtain ⟨⟨N, T⟩, hb14⟩ : ∃ p, p = b14 c k next tags := ⟨_, rfl⟩
 have HBE := aM hb14.symm
 rw [← hb14] at hbs
 have HBS := aM hbs
 obtain ⟨rc, hrc⟩ : ∃ p, p = (classesL N).2 := ⟨_, rfl⟩
 obtain ⟨rn, hrn⟩ : ∃ p, p = N.map (shortRow (classesL N).1) := ⟨_, rfl⟩
 have HRC := aM hrc.symm
 have HRG := aM hrn.symm
 rw [show t15 c k next tags = (rc, rn, T) by unfold t15; rw [← hb14]; unfold of14; rw [if_pos hbs, hrc, hrn]]
 have HRL := aM (show rn.length = N.length by rw [hrn, List.length_map])
 have HS := aM ((Sep.start hX).push_box [.slice none 0 0, .slice none 0 0, .slice none 0 0] 28)
 obtain ⟨g8, hg8⟩ : ∃ g, g = w.heap.size := ⟨_, rfl⟩
 clear h0 h2 h3 hc hn ht hX hb14 hbs hk hrc hrn
 go_enter Tryz.func5, Tryz.ntmps5
 go_upto_region 2 with (first
  | (go_at_call 14; (with_reducible refine (bytes14_calls _ _ _ _ c k next tags _ HS.out.lt (HS.out.arg H0.out) (HS.out.arg H2.out) (HS.out.arg H3.out) HC.out HK.out HRN.out HRT.out).mono ?_); rintro ee w5 ⟨v0, v1, rfl, h0, h1, hb⟩; rw [HBE.out] at h0 h1; obtain ⟨A4, c4, e4⟩ := PV.form2 h0; subst e4; obtain ⟨A5, c5, e5⟩ := PV.form2 h1; subst e5; have hs := (HS.out.push_ro hb h0).push_ro (Below.refl _ _) (h1.to (fun _ _ h => Ys_ro h)); simp only [List.nil_append, List.cons_append] at hs; clear h0 h1 hb; clear HS; have HS := aM hs; clear hs)
  | (go_at_call 13; (with_reducible refine (of14own_calls _ _ _ N T _ HS.out.lt (HS.out.ro 1 rfl) (HS.out.ro 2 rfl) HBS.out).mono ?_); rintro ee w7 ⟨vC, vN, vT, us, rfl, hul, hq⟩; rw [HRC.out, HRG.out] at hq; have hs := HS.out.append hq; clear hq; obtain ⟨A6, c6, e6⟩ := hs.form 3 rfl; subst e6; obtain ⟨A7, c7, e7⟩ := hs.form 4 rfl; subst e7; obtain ⟨A8, c8, e8⟩ := hs.form 5 rfl; subst e8; have hs := own_ro (hul.trans HRL.out.symm) hs; have hs := hs.push_box [.slice A6 rc.length c6, .slice A7 us.length c7, .slice A8 T.length c8] 28; simp only [List.nil_append, List.cons_append] at hs; clear hul; clear HS; have HS := aM hs; clear hs))
 rw [← hg8] at HS ⊢
 clear hg8
 have xt0 := (HS.out.box 6 rfl).cell 0 rfl
 have xt1 := (HS.out.box 6 rfl).cell 1 rfl
 have xt2 := (HS.out.box 6 rfl).cell 2 rfl
 have x0 := (HS.out.box 0 rfl).cell 0 rfl
 have x1 := (HS.out.box 0 rfl).cell 1 rfl
 have x2 := (HS.out.box 0 rfl).cell 2 rfl
 have f0 := (HS.out.box 0 rfl).open_ 0
 have f1 := (HS.out.box 0 rfl).open_ 1
 have f2 := (HS.out.box 0 rfl).open_ 2
 go_wp2_with fail
 have HSF := aM (((HS.out.set_box 0 rfl 0 (.slice A6 rc.length c6)).set_box 0 rfl 1 (.slice A7 us.length c7)).set_box 0 rfl 2 (.slice A8 T.length c8))
 refine bodyPost_ret (results_cell_row rfl _ _ g8 28 #[.slice A6 rc.length c6, .slice A7 us.length c7, .slice A8 T.length c8] (0, 0) _ rfl (HSF.out.box 0 rfl) Tryz.underlying28 rfl (by kernel_rfl)) rfl ?_
 have hs := HSF.out.take 6
 have hs3 := hs.sub (List.drop_sublist 3 _)
 exact ⟨_, _, _, rfl, hs3⟩
def bentT (T : List Int) (tag : Int) : List Int := if tag.tmod 3 = 0 then T.set 0 tag else T
set_option maxHeartbeats 16000000 in
theorem packEncodes_calls (X : Nat → Prop) (v0 v2 v3 : Value) (c : List (List Int)) (k : Int) (next tags : List Int) (m : Nat) (tag : Int) (w : World) (hX : ∀ k, X k → k < w.heap.size) (h0 : PV kU16s X w v0 c) (h2 : PV (Kd.int .i8) X w v2 next) (h3 : PV (Kd.int .i8) X w v3 tags)
  (hc : ∀ l ∈ c, ∀ x ∈ l, 0 ≤ x ∧ x < 65536) (hk : 0 ≤ k ∧ k < 256) (hn : ∀ x ∈ next, -128 ≤ x ∧ x ≤ 127) (ht : ∀ x ∈ tags, -128 ≤ x ∧ x ≤ 127) (hm : m < 256) :
  Calls Tryz.prog 3 #[v0, .int .u8 k, v2, v3, .int .u8 (m : Int), .int .i64 tag] w fun e w' => e = .returned (.bool true) ∧ Below w.heap.size w w' := by
 have H0 := aM h0
 have H2 := aM h2
 have H3 := aM h3
 have HC := aM hc
 have HK := aM hk
 have HRN := aM hn
 have HRT := aM ht
 have HM := aM hm
 have hok := t15_ok c k next tags hk
 obtain ⟨⟨C, N, T⟩, hTb⟩ : ∃ p, p = t15 c k next tags := ⟨_, rfl⟩
 have HT := aM hTb.symm
 rw [← hTb] at hok
 dsimp only at hok
 have HCU := aM hok.1
 have HTP := aM (show 0 < T.length from hok.2.1.1.2.1)
 have HS := aM (Sep.start hX)
 clear h0 h2 h3 hc hn ht hX hk hTb hok hm
 go_enter Tryz.func3, Tryz.ntmps3
 go_upto_region 2 with (first
  | (go_at_call 5; (with_reducible refine (table15own_calls _ _ _ _ c k next tags _ HS.out.lt (HS.out.arg H0.out) (HS.out.arg H2.out) (HS.out.arg H3.out) HC.out HK.out HRN.out HRT.out).mono ?_); rintro ee w5 ⟨a0, a1, a2, rfl, hq⟩; rw [HT.out] at hq; have hs := HS.out.append hq; clear hq; have hs : PX.Sep X w w5 [.row kU8 5 a0 C, .row kInt 3 a2 T, .ro kRow a1 N] := hs; obtain ⟨A0, c0, e0⟩ := hs.form 0 rfl; subst e0; obtain ⟨A2, c2, e2⟩ := hs.form 1 rfl; subst e2; obtain ⟨A1, c1, e1⟩ := PV.form2 (hs.ro 2 rfl); subst e1; have hs := hs.push_box [.slice A0 C.length c0, .slice A1 N.length c1, .slice A2 T.length c2] 28; simp only [List.nil_append, List.cons_append] at hs; clear HS; have HS := aM hs; clear hs))
 obtain ⟨g3, hg3⟩ : ∃ g, g = w5.heap.size := ⟨_, rfl⟩
 rw [← hg3] at HS ⊢
 clear hg3
 have xt0 := (HS.out.box 3 rfl).cell 0 rfl
 have xt1 := (HS.out.box 3 rfl).cell 1 rfl
 have xt2 := (HS.out.box 3 rfl).cell 2 rfl
 by_cases h3 : tag.tmod 3 = 0
 case' pos =>
  have d1 : (tag.tmod 3 == 0) = true := beq_iff_eq.2 h3
  have htp := HTP.out
  obtain ⟨g, c9, e, z, f, h⟩ := HS.out.int 1 rfl 0 HTP.out
  cases e
  have hs := h tag
  have HS2 := aM hs
  clear hs h
  have hi1 : (0 : Int) < (T.length : Int) := by omega
  have HB2 := aM (show T.set 0 tag = bentT T tag by unfold bentT; rw [if_pos h3])
  go_upto_region 4 with fail
  clear HS z f xt0 xt1 xt2 d1 h3
  have hs := HS2.out
  rw [HB2.out] at hs
  have HTL := aM (show T.length = (bentT T tag).length by rw [← HB2.out, List.length_set])
  clear HS2 HB2
  obtain ⟨w6, hw6⟩ : ∃ x, x = (w5.alloc (.cells #[.slice A0 C.length c0, .slice A1 N.length c1, .slice (some ⟨g, 0, none⟩) T.length c2] 28)).setCell ⟨g, 0, none⟩ (.int .i64 tag) := ⟨_, rfl⟩
  change PX.Sep X w ((w5.alloc (.cells #[.slice A0 C.length c0, .slice A1 N.length c1, .slice (some ⟨g, 0, none⟩) T.length c2] 28)).setCell ⟨g, 0, none⟩ (.int .i64 tag)) _ at hs
  rw [← hw6] at hs ⊢
  clear hw6
  generalize (some ⟨g, 0, none⟩ : Option Addr) = A2 at hs ⊢
 case' neg =>
  have d1 : (tag.tmod 3 == 0) = false := bF h3
  have HB2 := aM (show T = bentT T tag by unfold bentT; rw [if_neg h3])
  go_upto_region 4 with fail
  clear xt0 xt1 xt2 d1 h3
  have hs := HS.out
  have HTL := aM (show T.length = (bentT T tag).length from congrArg _ HB2.out)
  rw [show PX.Item.row kInt 3 (.slice A2 T.length c2) T = PX.Item.row kInt 3 (.slice A2 T.length c2) (bentT T tag) from congrArg _ HB2.out] at hs
  clear HS HB2
  obtain ⟨w6, hw6⟩ : ∃ x, x = w5.alloc (.cells #[.slice A0 C.length c0, .slice A1 N.length c1, .slice A2 T.length c2] 28) := ⟨_, rfl⟩
  change PX.Sep X w (w5.alloc (.cells #[.slice A0 C.length c0, .slice A1 N.length c1, .slice A2 T.length c2] 28)) _ at hs
  rw [← hw6] at hs ⊢
  clear hw6
 all_goals
  have hs := (hs.sealRo 0 rfl).sealRo 1 rfl
  obtain ⟨T2, hT2⟩ : ∃ l, l = bentT T tag := ⟨_, rfl⟩
  have htl := HTL.out
  rw [← hT2] at hs htl
  have hs : PX.Sep X w w6 [.ro kU8 (.slice A0 C.length c0) C, .ro kInt (.slice A2 T.length c2) T2, .ro kRow (.slice A1 N.length c1) N, .box g3 28 [.slice A0 C.length c0, .slice A1 N.length c1, .slice A2 T.length c2]] := hs
  rw [htl] at hs ⊢
  clear hT2 htl HTL
  have HS := aM hs
  clear hs
  have xt0 := (HS.out.box 3 rfl).cell 0 rfl
  have xt1 := (HS.out.box 3 rfl).cell 1 rfl
  have xt2 := (HS.out.box 3 rfl).cell 2 rfl
  have heu := encR_u8 HCU.out N T2
  have hec : (encR C N T2).2 = 0 ∨ (encR C N T2).2 = 1 := by
   unfold encR
   split
   ·exact .inl rfl
   ·exact .inr rfl
  have hok := fun h => encR_inv (C := C) (N := N) (T := T2) h
  obtain ⟨⟨eb, ec⟩, hen⟩ : ∃ p, p = encR C N T2 := ⟨_, rfl⟩
  rw [← hen] at heu hec hok
  have HEN := aM hen.symm
  have HEU := aM heu
  have HOK := aM hok
  clear hen heu hok
  go_upto_region 5 with (first
   | (go_at_call 6; (with_reducible refine (encode_calls _ _ _ _ C N T2 _ HS.out.lt (HS.out.ro 0 rfl) (HS.out.ro 2 rfl) (HS.out.ro 1 rfl) HCU.out).mono ?_); rintro ee w7 ⟨v7, rfl, hs2⟩; rw [HEN.out] at hs2 ⊢; have hs := HS.out.append hs2; clear hs2; obtain ⟨A4, c4, e4⟩ := hs.form 4 rfl; subst e4; have hs := hs.sealRo 4 rfl; have hs : PX.Sep X w w7 [.ro kU8 (.slice A0 C.length c0) C, .ro kInt (.slice A2 T2.length c2) T2, .ro kRow (.slice A1 N.length c1) N, .box g3 28 [.slice A0 C.length c0, .slice A1 N.length c1, .slice A2 T2.length c2], .ro kU8 (.slice A4 eb.length c4) eb] := hs; clear xt0 xt1 xt2; clear HS; have HS := aM hs; clear hs))
  have xt0 := (HS.out.box 3 rfl).cell 0 rfl
  have xt1 := (HS.out.box 3 rfl).cell 1 rfl
  have xt2 := (HS.out.box 3 rfl).cell 2 rfl
  go_upto_region 6 with (first
   | (go_at_call 7; (with_reducible refine (rencode_calls _ _ _ _ C N T2 _ HS.out.lt (HS.out.ro 0 rfl) (HS.out.ro 2 rfl) (HS.out.ro 1 rfl) HCU.out).mono ?_); rintro ee w8 ⟨v7, rfl, hs2⟩; rw [HEN.out] at hs2 ⊢; have hs := HS.out.append hs2; clear hs2; obtain ⟨A5, c5, e5⟩ := hs.form 5 rfl; subst e5; have hs := hs.sealRo 5 rfl; have hs : PX.Sep X w w8 [.ro kU8 (.slice A0 C.length c0) C, .ro kInt (.slice A2 T2.length c2) T2, .ro kRow (.slice A1 N.length c1) N, .box g3 28 [.slice A0 C.length c0, .slice A1 N.length c1, .slice A2 T2.length c2], .ro kU8 (.slice A4 eb.length c4) eb, .ro kU8 (.slice A5 eb.length c5) eb] := hs; clear xt0 xt1 xt2; clear HS; have HS := aM hs; clear hs))
  have st1 := (HS.out.ro 4 rfl).str (P := Tryz.prog) Tryz.underlying24 Tryz.underlying5 Tryz.underlying9
  have st2 := (HS.out.ro 5 rfl).str (P := Tryz.prog) Tryz.underlying24 Tryz.underlying5 Tryz.underlying9
  rcases hec with hec | hec
  case' inr =>
   have he1 : ec = 1 := hec
   subst he1
   clear hec HOK
   go_wp2_with (first
    | (go_at_call 8; (with_reducible refine (known15_calls _).mono ?_); rintro ee w9 ⟨rfl, hb⟩; have hs := HS.out.call hb; clear hb st1 st2; clear HS; have HS := aM hs; clear hs))
   go_ret
   exact ⟨rfl, HS.out.below⟩
  case inl =>
   have hok2 := HOK.out hec
   have he1 : ec = 0 := hec
   subst he1
   clear hec HOK
   have hbd := HEN.out
   rw [encR_pos hok2] at hbd
   injection hbd with hbd _
   have hlen : 9 ≤ eb.length ∧ eb.length ≤ 100000004 := by
    have := bodyE_len C N T2
    have := bodyE_max HCU.out hok2
    rw [← hbd, sealE_len]
    omega
   have HD1 := aM (show decF eb = ((C, N, T2), 0) from dec_iff HEU.out HCU.out hok2 hbd.symm)
   have HD2 := aM (show decF (eb ++ [(m : Int)]) = (([], [], []), 70) by rw [← hbd]; exact dec_long HCU.out hok2 (by have := HM.out; omega))
   have HD3 := aM (show decF (eb.take (eb.length - 1)) = (([], [], []), 70) by rw [← hbd]; exact dec_short HCU.out hok2)
   have HLU := aM (show U8s (eb ++ [(m : Int)]) from U8s.app HEU.out (fun c hc => by obtain rfl := List.mem_singleton.1 hc; have := HM.out; omega))
   have HSU := aM (show U8s (eb.take (eb.length - 1)) from fun c hc => HEU.out c (List.mem_of_mem_take hc))
   clear hbd hok2
   go_upto_region 10 with (first
    | (go_at_call 8; (with_reducible refine (known15_calls _).mono ?_); rintro ee w9 ⟨rfl, hb⟩; have hs := HS.out.call hb; clear hb st1 st2; clear HS; have HS := aM hs; clear hs))
   go_upto_region 11 with (first
    | (go_at_call 9; (with_reducible refine (decode_calls _ _ eb _ HS.out.lt (HS.out.ro 4 rfl) HEU.out).mono ?_); rintro ee w10 ⟨a0, a1, a2, rfl, h0, h1, h2, hb⟩; rw [HD1.out] at h0 h1 h2 ⊢; obtain ⟨B9, d9, e9⟩ := PV.form2 h0; subst e9; obtain ⟨B10, d10, e10⟩ := PV.form2 h1; subst e10; obtain ⟨B11, d11, e11⟩ := PV.form2 h2; subst e11; have hs := (((HS.out.push_ro hb h0).push_ro (Below.refl _ _) (h1.to (fun _ _ h => Ys_ro h))).push_ro (Below.refl _ _) (h2.to (fun _ _ h => Ys_ro (Ys_ro h)))).push_box [.slice B9 C.length d9, .slice B10 N.length d10, .slice B11 T2.length d11] 28; simp only [List.nil_append, List.cons_append] at hs; clear h0 h1 h2 hb; clear HS; have HS := aM hs; clear hs))
   have hs := HS.out.push_nil kU8 5
   simp only [List.nil_append, List.cons_append] at hs
   clear HS
   have HS := aM hs
   clear hs
   have hlen1 := hlen.1
   have hlen2 := hlen.2
   clear hlen
   go_upto_region 13 with (first
    | ((with_reducible refine gate_builtin (b := .append) (xs := #[.tmp 69, .tmp 70]) rfl ?_); at_builtin; refine sgrow kU8 10 rfl (.tmp 69) (.tmp 70) 24 5 (.int .u8 0) 1 rfl Tryz.underlying24 info5 rfl (by decide) (by omega) _ _ [] eb rfl rfl HS.out rfl (HS.out.ro 4 rfl) (by rw [List.length_nil]; omega) ?_; clear HS; intro v1 w11 hs; simp only [List.nil_append, List.set_cons_succ, List.set_cons_zero] at hs; obtain ⟨A6, c6, e6⟩ := hs.form 10 rfl; subst e6; have HS := aM hs; clear hs))
   obtain ⟨lb, hlb⟩ : ∃ l, l = eb ++ [(m : Int)] := ⟨_, rfl⟩
   rw [← hlb] at HD2 HLU
   have HLB := aM hlb.symm
   clear hlb
   go_upto_region 14 with (first
    | ((with_reducible refine gate_dst (N := 74) rfl ?_); refine slit kU8 5 ?hg (N := 74) ?hd (xs := [(m : Int)]) (inner := [.int .u8 (m : Int)]) ?hr HS.out ?hp (by simp) ?_; (case hd => rfl); (case hg => rfl); (case hr => first | (go_simp; done) | (go_simp; rfl)); (case hp => exact Reps.one (PK.scalar _) (Reps.none _ _)); clear HS; intro v30 w12 hs; have HS := aM hs; clear hs)
    | ((with_reducible refine gate_builtin (b := .append) (xs := #[.tmp 72, .tmp 74]) rfl ?_); at_builtin; refine sgrow kU8 10 rfl (.tmp 72) (.tmp 74) 24 5 (.int .u8 0) 1 rfl Tryz.underlying24 info5 rfl (by decide) (by omega) _ _ eb [(m : Int)] rfl rfl HS.out rfl (HS.out.ro 11 rfl) (by rw [lS]; omega) ?_; clear HS; intro v1 w13 hs; rw [HLB.out] at hs; have hs := hs.take 11; obtain ⟨A7, c7, e7⟩ := hs.form 10 rfl; subst e7; have hs := hs.sealRo 10 rfl; simp only [List.cons_append, List.nil_append, List.set_cons_succ, List.set_cons_zero, List.take_succ_cons, List.take_zero] at hs; have HS := aM hs; clear hs))
   go_upto_region 15 with (first
    | (go_at_call 9; (with_reducible refine (decode_calls _ _ lb _ HS.out.lt (HS.out.ro 10 rfl) HLU.out).mono ?_); rintro ee w14 ⟨a0, a1, a2, rfl, h0, h1, h2, hb⟩; rw [HD2.out] at h0 h1 h2 ⊢; obtain ⟨E9, f9, e9⟩ := PV.lenlit2 h0 0 rfl; subst e9; obtain ⟨E10, f10, e10⟩ := PV.lenlit2 h1 0 rfl; subst e10; obtain ⟨E11, f11, e11⟩ := PV.lenlit2 h2 0 rfl; subst e11; have hs := (HS.out.call hb).push_box [.slice E9 0 f9, .slice E10 0 f10, .slice E11 0 f11] 28; simp only [List.nil_append, List.cons_append] at hs; clear h0 h1 h2 hb; clear HS; have HS := aM hs; clear hs))
   obtain ⟨m1, hm1⟩ : ∃ l, l = eb.length - 1 := ⟨_, rfl⟩
   rw [← hm1] at HD3 HSU
   obtain ⟨j0, hj0, _, hjz0, _⟩ := info_parts info5
   obtain ⟨u9, hu9, hrun0⟩ := (HS.out.ro 4 rfl).upto (P := Tryz.prog) 24 5 Tryz.underlying24 hj0 m1 (by omega)
   have hrun9 : ∀ W : World, (Instr.slice 24 (.slice A4 eb.length c4) none (some (.int .i64 ((eb.length : Int) - 1))) none).run Tryz.prog W = .ok u9 W := by rw [show (eb.length : Int) - 1 = (m1 : Int) by omega]; exact hrun0
   have HU9 := aM hu9
   clear hu9 hj0 hjz0 hrun0 hm1
   go_upto_region 16 with (first
    | (go_at_call 9; (with_reducible refine (decode_calls _ _ (eb.take m1) _ HS.out.lt HU9.out HSU.out).mono ?_); rintro ee w15 ⟨a0, a1, a2, rfl, h0, h1, h2, hb⟩; rw [HD3.out] at h0 h1 h2 ⊢; obtain ⟨F9, i9, e9⟩ := PV.lenlit2 h0 0 rfl; subst e9; obtain ⟨F10, i10, e10⟩ := PV.lenlit2 h1 0 rfl; subst e10; obtain ⟨F11, i11, e11⟩ := PV.lenlit2 h2 0 rfl; subst e11; have hs := (HS.out.call hb).push_box [.slice F9 0 i9, .slice F10 0 i10, .slice F11 0 i11] 28; simp only [List.nil_append, List.cons_append] at hs; clear h0 h1 h2 hb; clear HS; have HS := aM hs; clear hs))
   have xt0 := (HS.out.box 3 rfl).cell 0 rfl
   have xt1 := (HS.out.box 3 rfl).cell 1 rfl
   have xt2 := (HS.out.box 3 rfl).cell 2 rfl
   have xu0 := (HS.out.box 9 rfl).cell 0 rfl
   have xu1 := (HS.out.box 9 rfl).cell 1 rfl
   have xu2 := (HS.out.box 9 rfl).cell 2 rfl
   go_wp2_with (first
    | (go_at_call 10; (with_reducible refine (same_true _ _ _ _ _ _ _ C N T2 _ HS.out.lt (HS.out.ro 6 rfl) (HS.out.ro 7 rfl) (HS.out.ro 8 rfl) (HS.out.ro 0 rfl) (HS.out.ro 2 rfl) (HS.out.ro 1 rfl) HCU.out).mono ?_); rintro ee w16 ⟨rfl, hb⟩; have hs := HS.out.call hb; clear hb xt0 xt1 xt2 xu0 xu1 xu2; clear HS; have HS := aM hs; clear hs))
   go_ret
   exact ⟨rfl, HS.out.below⟩
end Go.Proofs.YtplhfgobeicegaaGreatDoor.P
namespace Go.Proofs.YtplhfgobeicegaaGreatDoor.packEncodes
open Go Go.ChangeShapes Go.WideShapes Go.ChangeAt Go.RowKit
set_option linter.unusedVariables false
set_option maxRecDepth 100000 in
theorem lifted (os : Os) (started : os.Started) (H : Type) (enc : TypeId × Value → H) :
  ReturnsInHanded {} Tryz.checked os 3 .any (fun w args => (Rows.packEncodesSpec.pre enc Tryz.prog Tryz.f3 [] false w args ∧ laidMetH Tryz.prog Rows.packEncodesRow.laid w) ∧ sizedMet enc Tryz.prog Tryz.f3 (OpenSpec.ofChange Rows.packEncodesSpec) false w args)
   (Rows.packEncodesSpec.post enc Tryz.prog Tryz.f3 false true false false) := by
 refine returnsInHanded_of_change_and (C := Tryz.checked) (X := fun w _ => laidMetH Tryz.prog Rows.packEncodesRow.laid w) (fun _ _ _ hh h => h.of_heap hh) LC.own started (by kernel_rfl) Tryz.func3
  (ChangeSpec.witness_shaped (enc := enc) (C := Tryz.checked) (os := os) (X := fun w _ => laidMetH Tryz.prog Rows.packEncodesRow.laid w) false (World.laidAll Tryz.prog os Rows.packEncodesRow.laid) #[.slice none 0 0, .int .u8 0, .slice none 0 0, .slice none 0 0, .int .u8 0, .int .i64 0] 8 (World.laidAll_os _ _ _)
   (World.shaped_of_ZipB (by kernel_rfl) (by kernel_rfl)) (by kernel_rfl) (by kernel_rfl) (by kernel_rfl) (LC.world_met os _)) ?_
 intro W base args ds gs before hval0 hW _ _ hL _
 have hval : ∀ (j : Nat) t v, Tryz.f3.params[j]? = some t → args[j]? = some v → Value.okWide Tryz.prog W .any base t v := hval0
 have hW' := hW
 obtain ⟨p, q, hA0, hV, rfl, _, _⟩ := hW
 have hA : DataW.TrodAll enc Tryz.prog W 0 (fun _ => true) true Tryz.f3.params.toList args.toList ds p := hA0
 rw [Tryz.params3] at hA hval
 obtain ⟨v0, vs0, d0, ds0, p0, q0, hargs, rfl, rfl, h0, r0⟩ := trodAll_cons hA
 obtain ⟨v1, vs1, d1, ds1, p1, q1, rfl, rfl, rfl, h1, r1⟩ := trodAll_cons r0
 obtain ⟨v2, vs2, d2, ds2, p2, q2, rfl, rfl, rfl, h2, r2⟩ := trodAll_cons r1
 obtain ⟨v3, vs3, d3, ds3, p3, q3, rfl, rfl, rfl, h3, r3⟩ := trodAll_cons r2
 obtain ⟨v4, vs4, d4, ds4, p4, q4, rfl, rfl, rfl, h4, r4⟩ := trodAll_cons r3
 obtain ⟨v5, vs5, d5, ds5, p5, q5, rfl, rfl, rfl, h5, r5⟩ := trodAll_cons r4
 obtain ⟨rfl, rfl, rfl⟩ := trodAll_nil r5
 obtain rfl : args = #[v0, v1, v2, v3, v4, v5] := by cases args; simp_all
 obtain ⟨rfl, rfl⟩ := trodVars_none hV
 have k0 := h0
 have lt0 : ∀ x ∈ p0, x.block < W.heap.size := by obtain ⟨m, hm⟩ := k0; exact DataW.trod_lt m _ _ _ hm
 obtain ⟨A0, len0, cap0, e0⟩ := okWide_slice Tryz.underlying22 (hval 0 22 v0 rfl rfl)
 subst e0
 obtain ⟨m0, y0, hy0⟩ := LC.arg1 h0
 obtain ⟨s0, hs0, us0⟩ := LC.u16ss hy0
 obtain ⟨a1, rfl, rfl, rfl, w1⟩ := open_int Tryz.underlying5 (hval 1 5 v1 rfl rfl) h1
 have b1 : 0 ≤ a1 ∧ a1 < 256 := by have := w1; simp [Lit.wf, IntKind.min, IntKind.max, IntKind.signed, IntKind.bits] at this; omega
 have k2 := h2
 have lt2 : ∀ x ∈ p2, x.block < W.heap.size := by obtain ⟨m, hm⟩ := k2; exact DataW.trod_lt m _ _ _ hm
 obtain ⟨A2, len2, cap2, e2⟩ := okWide_slice Tryz.underlying23 (hval 2 23 v2 rfl rfl)
 subst e2
 obtain ⟨m2, y2, hy2⟩ := LC.arg1 h2
 obtain ⟨s2, hs2, us2⟩ := LC.i8s hy2
 have k3 := h3
 have lt3 : ∀ x ∈ p3, x.block < W.heap.size := by obtain ⟨m, hm⟩ := k3; exact DataW.trod_lt m _ _ _ hm
 obtain ⟨A3, len3, cap3, e3⟩ := okWide_slice Tryz.underlying23 (hval 3 23 v3 rfl rfl)
 subst e3
 obtain ⟨m3, y3, hy3⟩ := LC.arg1 h3
 obtain ⟨s3, hs3, us3⟩ := LC.i8s hy3
 obtain ⟨a4, rfl, rfl, rfl, w4⟩ := open_int Tryz.underlying5 (hval 4 5 v4 rfl rfl) h4
 have b4 : 0 ≤ a4 ∧ a4 < 256 := by have := w4; simp [Lit.wf, IntKind.min, IntKind.max, IntKind.signed, IntKind.bits] at this; omega
 obtain ⟨a5, rfl, rfl, rfl, w5⟩ := open_int Tryz.underlying3 (hval 5 3 v5 rfl rfl) h5
 clear hA0 hval0
 obtain ⟨n4, rfl⟩ : ∃ n : Nat, a4 = (n : Int) := ⟨a4.toNat, by omega⟩
 have hcall := P.packEncodes_calls LC.no _ _ _ s0 a1 s2 s3 n4 a5 W (LC.no_old W) hs0 hs2 hs3 us0 b1 us2 us3 (by omega)
 refine hcall.mono fun e W' ⟨he, bel⟩ => ?_
 subst he
 exact ⟨_, rfl, _, _, _, [], _, [], hW', trodAll_mk1 (shut_bool Tryz.underlying4 _), (trodAll_cons_mk (Below.trod LC.laidOut (by kernel_rfl) (of_decide_eq_true (by kernel_rfl)) k0 bel lt0) (trodAll_cons_mk (shut_int Tryz.underlying5 w1) (trodAll_cons_mk (Below.trod LC.laidOut (by kernel_rfl) (of_decide_eq_true (by kernel_rfl)) k2 bel lt2) (trodAll_cons_mk (Below.trod LC.laidOut (by kernel_rfl) (of_decide_eq_true (by kernel_rfl)) k3 bel lt3) (trodAll_cons_mk (shut_int Tryz.underlying5 w4) (trodAll_cons_mk (shut_int Tryz.underlying3 w5) trodAll_mk0)))))), rfl, bel.frame _, fun h => by cases h⟩
theorem said : Rows.PackEncodesSaid :=
 OpenClaim.holds_of_wide 3 Tryz.f3 rfl rfl rfl rfl rfl rfl rfl ⟨rfl, rfl, rfl, rfl, rfl⟩ rfl rfl rfl rfl rfl (by kernel_rfl) Tryz.func3 (by kernel_rfl)
  (of_decide_eq_true (by kernel_rfl)) (by unfold Func.isWrapper; first | (rw [if_pos (by decide +kernel)]; kernel_rfl) | (rw [if_neg (by decide +kernel)]; exact ⟨rfl, rfl⟩))
  (fun os started H enc _ => lifted os started H enc)
theorem plain (f : FuncId) (fn : Func) (hf : Tryz.pinned.checked.prog.funcNamed "glyphcutter/glyphcutterlaw15.PackEncodes" = some f) (hfn : Tryz.pinned.checked.prog.funcs[f]? = some fn) :
  Rows.packEncodesCard.stood.looks = Tryz.pinned.checked.prog.looks [] ∧ ∀ (j : Nat) t, fn.params[j]? = some t → Tryz.pinned.checked.prog.wantsStandIn t = false := by
 obtain rfl : f = 3 := Option.some.inj ((show Tryz.prog.funcNamed "glyphcutter/glyphcutterlaw15.PackEncodes" = some 3 by kernel_rfl).symm.trans hf) |>.symm
 obtain rfl : fn = Tryz.f3 := (Option.some.inj (Tryz.func3.symm.trans hfn)).symm
 refine ⟨by kernel_rfl, fun j t ht => ?_⟩
 rw [Tryz.params3] at ht
 have hm : t ∈ [22, 5, 23, 23, 5, 3] := by simpa using Array.mem_of_getElem? ht
 have hall : ([22, 5, 23, 23, 5, 3].all fun u => !Tryz.prog.wantsStandIn u) = true := by kernel_rfl
 exact (show Tryz.prog.wantsStandIn t = false by simpa using List.all_eq_true.1 hall t hm)
theorem card : Rows.PackEncodesCardSaid :=
 Claim7.holds_tied_plain_at .later [] _ _ _ _ said (fun _ h => by cases h) (by kernel_rfl) (fun _ h => by cases h) packEncodes_row_tie rfl ⟨rfl, rfl⟩ (by kernel_rfl) rfl plain (by kernel_rfl)
end Go.Proofs.YtplhfgobeicegaaGreatDoor.packEncodes
namespace Go.Proofs.YtplhfgobeicegaaGreatDoor
theorem packEncodes_card : Rows.PackEncodesCardSaid := packEncodes.card
end Go.Proofs.YtplhfgobeicegaaGreatDoor
