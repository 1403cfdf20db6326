/- Part 20 of the proof: S12k0, S12k, S12l. -/
import Derived.Test.YtplhfgobeicegaaGreatDoorPe17
import Derived.Test.YtplhfgobeicegaaGreatDoorPe19
namespace Go.Proofs.YtplhfgobeicegaaGreatDoor.P
open Go Go.RowKit Go.Proofs.YtplhfgobeicegaaGreatDoorW.PrintWords Go.Proofs.YtplhfgobeicegaaGreatDoor.PX
def natsL (n : Nat) : List Int := (List.range n).map (fun (k : Nat) => (k : Int))
def leastRow (next : List (List Int)) (l of_ keys at_ : List Int) (s : Int) : List Int := keys.map (fun k => if 0 ≤ kindL next l of_ s.toNat k.toNat then at_.getD (kindL next l of_ s.toNat k.toNat).toNat 0 else kindL next l of_ s.toNat k.toNat)
def leastB (_parts : List (List Sp)) (next : List (List Int)) (tags l of_ : List Int) (ps : List (List Sp) × List Int) : DfaS :=
 ⟨ps.1, (reachL next l of_ ps.2).1.map (leastRow next l of_ ps.2 (reachL next l of_ ps.2).2), (reachL next l of_ ps.2).1.map (fun s => tags.getD s.toNat 0)⟩
def leastC (parts : List (List Sp)) (next : List (List Int)) (tags l of_ : List Int) : DfaS :=
 leastB parts next tags l of_ (setsL parts (groupsL parts.length next l of_ (reachL next l of_ (natsL parts.length)).1))
def leastD (parts : List (List Sp)) (next : List (List Int)) (tags : List Int) : DfaS :=
 leastC parts next tags (liveL next tags) (firstsL parts.length next tags (liveL next tags))
def leastL (parts : List (List Sp)) (next : List (List Int)) (tags : List Int) : DfaS := leastD (bareP parts) (next.map (bareR parts)) tags
theorem liveGo_len (next : List (List Int)) (tags : List Int) : ∀ (f : Nat) (l : List Int), (liveGo next tags f l).length = l.length
 | 0, _ => rfl
 | f + 1, l => by
  unfold liveGo
  split
  ·rw [liveGo_len next tags f, lpass_len]
  ·rw [lpass_len]
theorem live_len (next : List (List Int)) (tags : List Int) : (liveL next tags).length = tags.length := by
 unfold liveL
 rw [liveGo_len]; simp
theorem bareR_len : ∀ (parts : List (List Sp)) (row : List Int), row.length = parts.length → (bareR parts row).length = (bareP parts).length
 | [], row, h => by simp [bareR, bareP]
 | p :: ps, [], h => by simp at h
 | p :: ps, x :: xs, h => by
  have ih := bareR_len ps xs (by simpa using h)
  unfold bareP at ih ⊢
  rw [bareR, List.filter_cons]
  by_cases c : 0 < p.length
  ·rw [if_pos c, dT c, if_pos rfl, List.length_cons, List.length_cons, ih]
  ·rw [if_neg c, dF c, if_neg (by decide), ih]
theorem bareR_mem : ∀ (parts : List (List Sp)) (row : List Int) (x : Int), x ∈ bareR parts row → x ∈ row
 | [], row, x, h => by simp [bareR] at h
 | p :: ps, [], x, h => by simp [bareR] at h
 | p :: ps, y :: xs, x, h => by
  rw [bareR] at h
  split at h
  ·rcases List.mem_cons.1 h with rfl | h
   ·exact List.mem_cons_self
   ·exact List.mem_cons_of_mem _ (bareR_mem ps xs x h)
  ·exact List.mem_cons_of_mem _ (bareR_mem ps xs x h)
theorem ok12_bare (parts : List (List Sp)) (next : List (List Int)) (n : Nat) (h : Ok12 parts.length n next) : Ok12 (bareP parts).length n (next.map (bareR parts)) := by
 intro i hi
 rw [List.length_map] at hi
 have e : (next.map (bareR parts)).getD i [] = bareR parts (next.getD i []) := by simp [List.getD_eq_getElem?_getD, hi]
 rw [e]
 have hl := bareR_len parts _ (h i hi).1
 refine ⟨hl, fun k hk => ?_⟩
 have hm := bareR_mem parts _ _ (mem_getD (bareR parts (next.getD i [])) 0 k (by omega))
 obtain ⟨j, hj, hj2⟩ := List.mem_iff_getElem.1 hm
 have := (h i hi).2 j (by rw [← (h i hi).1]; exact hj)
 rw [List.getD_eq_getElem?_getD (i := j), List.getElem?_eq_getElem hj, Option.getD_some, hj2] at this
 exact this
theorem setsStep_len (parts : List (List Sp)) (g : List Int) (p : List (List Sp) × List Int) (h : p.1.length = p.2.length) : (setsStep parts g p).1.length = p.1.length + 1 ∧ (setsStep parts g p).2.length = p.2.length + 1 := by
 have h2 := ahead_le (makeL (uni parts g) [] 2) p.1
 refine ⟨ins_len _ _, ?_⟩
 show (p.2.take (ahead (makeL (uni parts g) [] 2) p.1) ++ [g.getD 0 0] ++ p.2.drop (ahead (makeL (uni parts g) [] 2) p.1)).length = _
 simp only [lA, List.length_take, List.length_drop, lS]
 omega
theorem setsGo_keys (parts : List (List Sp)) (P : Nat) : ∀ (gs : List (List Int)) (p : List (List Sp) × List Int), (∀ g ∈ gs, 1 ≤ g.length ∧ ∀ x ∈ g, 0 ≤ x ∧ x < (P : Int)) → (∀ x ∈ p.2, 0 ≤ x ∧ x < (P : Int)) → p.1.length = p.2.length →
  (∀ x ∈ (setsGo parts gs p).2, 0 ≤ x ∧ x < (P : Int)) ∧ (setsGo parts gs p).1.length = (setsGo parts gs p).2.length ∧ (setsGo parts gs p).2.length = p.2.length + gs.length
 | [], p, _, h, h2 => ⟨h, h2, rfl⟩
 | g :: t, p, hg, h, h2 => by
  have hgg := hg g List.mem_cons_self
  have := setsGo_keys parts P t (setsStep parts g p) (fun g' hg' => hg g' (List.mem_cons_of_mem _ hg')) (fun x hx => by
   unfold setsStep at hx
   simp only [List.mem_append, List.mem_singleton] at hx
   rcases hx with (hx | rfl) | hx
   ·exact h x (List.mem_of_mem_take hx)
   ·exact hgg.2 _ (mem_getD g 0 0 hgg.1)
   ·exact h x (List.mem_of_mem_drop hx)) (by have := setsStep_len parts g p h2; omega)
  have h3 := setsStep_len parts g p h2
  rw [setsGo]
  refine ⟨this.1, this.2.1, ?_⟩
  have h4 := this.2.2
  rw [List.length_cons]
  omega
theorem sets_keys (parts : List (List Sp)) (gs : List (List Int)) (h : GQ parts.length parts.length gs) : (∀ x ∈ (setsL parts gs).2, 0 ≤ x ∧ x < (parts.length : Int)) ∧ (setsL parts gs).1.length = (setsL parts gs).2.length ∧ (setsL parts gs).2.length ≤ parts.length := by
 have := setsGo_keys parts parts.length gs ([], []) (fun g hg => ⟨(h.ne g hg).1, (h.ne g hg).2.2⟩) (fun x hx => by cases hx) rfl
 refine ⟨this.1, this.2.1, ?_⟩
 have h2 := this.2.2
 have := h.len
 show (setsGo parts gs ([], [])).2.length ≤ _
 rw [h2]
 simpa using this
theorem nats_mem (n : Nat) : ∀ x ∈ natsL n, 0 ≤ x ∧ x < (n : Int) := by
 intro x hx
 obtain ⟨k, hk, rfl⟩ := List.mem_map.1 hx
 have := List.mem_range.1 hk
 omega
theorem nats_step (k : Nat) : natsL (k + 1) = natsL k ++ [(k : Int)] := by
 unfold natsL
 rw [List.range_succ, List.map_append]; rfl
theorem nats_len (k : Nat) : (natsL k).length = k := by simp [natsL]
end Go.Proofs.YtplhfgobeicegaaGreatDoor.P
namespace Go.Proofs.YtplhfgobeicegaaGreatDoor.P
open Go Go.RowKit Go.Proofs.YtplhfgobeicegaaGreatDoorW.PrintWords Go.Proofs.YtplhfgobeicegaaGreatDoorW.PrintLast Go.Proofs.YtplhfgobeicegaaGreatDoorW.PrintMore Go.Proofs.YtplhfgobeicegaaGreatDoor.PX
set_option linter.unusedVariables false
set_option linter.unusedSimpArgs false
set_option maxRecDepth 100000
theorem ro_cell {X : Nat → Prop} {w0 w : World} {L : List PX.Item} {a : Addr} {c : Nat} {xs : List Int} {x : Int} (h : PX.Sep X w0 w L) (n : Nat) (hn : L[n]? = some (.ro kInt (.slice (some a) xs.length c) xs)) (i : Nat) (hi : i < xs.length) (hx : xs.getD i 0 = x) : w.cell? (a.add i) = some (.int .i64 x) := by
 obtain ⟨a', c', e, y⟩ := int_cell (h.ro n hn) i hi
 cases e
 rw [← hx]; exact y
def UniOk (parts : List (List Sp)) : Prop := ∀ g : List Int, 1 ≤ g.length → g.length ≤ parts.length → (∀ x ∈ g, 0 ≤ x ∧ x < (parts.length : Int)) → (uni parts g).length ≤ 10000 ∧ (makeL (uni parts g) [] 2).length ≠ 0
set_option maxHeartbeats 16000000 in
theorem least_calls (X : Nat → Prop) (vp vn vt : Value) (parts0 : List (List Sp)) (next0 : List (List Int)) (tags : List Int) (w : World) (hX : ∀ k, X k → k < w.heap.size) (hp : PV kSps X w vp parts0) (hn : PV kRow X w vn next0) (ht : PV kInt X w vt tags)
  (hok : Ok12 parts0.length tags.length next0) (hnl : next0.length = tags.length) (hn0 : 0 < tags.length) (hlen : tags.length ≤ 1000000) (hpl : parts0.length ≤ 100000) (hsm : ∀ x ∈ parts0, Sm x) (huni : UniOk (bareP parts0)) :
  Calls Tryz.prog 60 #[.agg #[vp, vn, vt]] w fun e w' => ∃ v0 v1 v2, e = .returned (.agg #[v0, v1, v2]) ∧ PV kSps X w' v0 (leastL parts0 next0 tags).parts ∧ PV kRow X w' v1 (leastL parts0 next0 tags).next ∧ PV kInt X w' v2 (leastL parts0 next0 tags).tags ∧ Below w.heap.size w w' := by
 have H0 := aM hp
 have H1 := aM hn
 have H2 := aM ht
 have HPL0 := aM (show parts0.length ≤ 100000 ∧ next0.length ≤ 1000000 from ⟨hpl, by omega⟩)
 have HOK0 := aM (show ∀ i, i < next0.length → (next0.getD i []).length = parts0.length from fun i hi => (hok i hi).1)
 have HOK := aM (ok12_bare parts0 next0 tags.length hok)
 have HPL := aM (show (bareP parts0).length ≤ 100000 from Nat.le_trans (List.length_filter_le _ _) hpl)
 have HSM := aM (show ∀ x ∈ bareP parts0, Sm x from fun x hx => hsm x (List.mem_filter.1 hx).1)
 have HUNI := aM huni
 have HNL := aM (show (next0.map (bareR parts0)).length = tags.length by rw [List.length_map]; exact hnl)
 obtain ⟨Aw, cw, rfl, _, _⟩ := hp.now
 obtain ⟨An, cn, rfl, _, _⟩ := hn.now
 obtain ⟨At, ct, rfl, _, _⟩ := ht.now
 obtain ⟨r, hr⟩ : ∃ q, q = leastL parts0 next0 tags := ⟨_, rfl⟩
 rw [← hr]
 unfold leastL leastD at hr
 obtain ⟨parts, hparts⟩ : ∃ q, q = bareP parts0 := ⟨_, rfl⟩
 obtain ⟨next, hnext⟩ : ∃ q, q = next0.map (bareR parts0) := ⟨_, rfl⟩
 rw [← hparts, ← hnext] at HOK
 rw [← hparts] at HPL HSM HUNI
 rw [← hnext] at HNL
 rw [← hparts, ← hnext] at hr
 have HPE := aM (show bareP parts0 = parts ∧ next0.map (bareR parts0) = next from ⟨hparts.symm, hnext.symm⟩)
 obtain ⟨l, hl⟩ : ∃ q, q = liveL next tags := ⟨_, rfl⟩
 rw [← hl] at hr
 obtain ⟨of_, hof⟩ : ∃ q, q = firstsL parts.length next tags l := ⟨_, rfl⟩
 rw [← hof] at hr
 have HLL := aM (show l.length = tags.length by rw [hl]; exact live_len _ _)
 have HOL := aM (show of_.length = tags.length by rw [hof]; exact firsts_len _ _ _ _)
 have HOF := aM (show ∀ x ∈ of_, 0 ≤ x ∧ x < (of_.length : Int) by rw [hof]; exact (firsts_canon _ _ _ _).nat)
 have HLE := aM hl.symm
 have HOE := aM hof.symm
 have HR := aM hr.symm
 have HOKL := aM (show Ok12 parts.length l.length next by rw [HLL.out]; exact HOK.out)
 have HN0 := aM (show 0 < of_.length ∧ 0 < tags.length ∧ tags.length ≤ 1000000 from ⟨by rw [HOL.out]; exact hn0, hn0, hlen⟩)
 have hpl2 : parts.length ≤ 100000 := HPL.out
 have HS := aM (((Sep.start hX).push_box [.slice Aw parts0.length cw, .slice An next0.length cn, .slice At tags.length ct] 80).push_box' [.slice none 0 0, .slice none 0 0, .slice none 0 0] 80 (w.heap.size + 1) (by simp))
 have HOKX := aM (show ∀ i, i < next.length → ∀ k, k < (next.getD i []).length → (next.getD i []).getD k 0 < (tags.length : Int) from fun i hi k hk => (HOK.out i hi).2 k (by rw [← (HOK.out i hi).1]; exact hk))
 clear hp hn ht hok hnl hpl hsm huni hX hr hparts hnext hl hof
 go_enter Tryz.func60, Tryz.ntmps60
 go_wp2_with (first
  | (go_at_call 77; (with_reducible refine (bare_calls _ _ _ _ parts0 next0 tags _ HS.out.lt (HS.out.arg H0.out) (HS.out.arg H1.out) (HS.out.arg H2.out) HOK0.out HPL0.out.1 HPL0.out.2).mono ?_); rintro ee w5 ⟨vp5, vn5, rfl, hv1, hv2, hb⟩; rw [HPE.out.1] at hv1; rw [HPE.out.2] at hv2; have hs := (HS.out.push_ro hb hv1).push_ro (Below.refl _ _) (hv2.to (fun _ _ h => Ys_ro h)); clear hv1 hv2 hb; obtain ⟨Ap, cp, ep⟩ := hs.rform 2 rfl; subst ep; obtain ⟨Am, cm, em⟩ := hs.rform 3 rfl; subst em; clear HS; have HS := aM hs; clear hs)
  | (go_at_call 78; have hs := HS.out.push_box [.slice Ap parts.length cp, .slice Am next.length cm, .slice At tags.length ct] 80; clear HS; have HS := aM hs; clear hs; (with_reducible refine (live_calls _ _ _ _ parts next tags _ HS.out.lt (HS.out.ro 2 rfl) (HS.out.ro 3 rfl) (HS.out.arg H2.out) HNL.out HOKX.out HN0.out.2.2).mono ?_); rintro ee w6 ⟨v6, rfl, hv, hb⟩; rw [HLE.out] at hv; have hs := HS.out.push_ro hb hv; clear hv hb; obtain ⟨Al, cl, el⟩ := hs.rform 5 rfl; subst el; have y0 := (hs.box 4 rfl).cell 0 rfl; have y1 := (hs.box 4 rfl).cell 1 rfl; have y2 := (hs.box 4 rfl).cell 2 rfl; clear HS; have HS := aM hs; clear hs)
  | (go_at_call 79; (with_reducible refine (firsts_calls _ _ _ _ _ parts next tags l _ HS.out.lt (HS.out.ro 2 rfl) (HS.out.ro 3 rfl) (HS.out.arg H2.out) (HS.out.ro 5 rfl) HLL.out.symm (HNL.out.trans HLL.out.symm) HOKL.out (by rw [HLL.out]; exact HN0.out.2.2)).mono ?_); rintro ee w7 ⟨v7, rfl, hv, hb⟩; rw [HOE.out] at hv; have hs := HS.out.push_ro hb hv; clear hv hb y0 y1 y2; obtain ⟨Ao, co, eo⟩ := hs.rform 6 rfl; subst eo; have y0 := (hs.box 4 rfl).cell 0 rfl; have y1 := (hs.box 4 rfl).cell 1 rfl; have y2 := (hs.box 4 rfl).cell 2 rfl; clear HS; have HS := aM hs; clear hs))
 have HSn := aM (HS.out.push_nil kInt 3)
 obtain ⟨g2, hg2⟩ : ∃ g, g = w5.heap.size := ⟨_, rfl⟩
 obtain ⟨g1, hg1⟩ : ∃ g, g = w.heap.size + 1 := ⟨_, rfl⟩
 obtain ⟨g0, hg0⟩ : ∃ g, g = w.heap.size := ⟨_, rfl⟩
 rw [← hg2, ← hg1, ← hg0] at HSn ⊢
 clear hg0 hg1 hg2 HS y0 y1 y2
 go_loopg [6, 7] parts.length (fun m v6 v7 w' => ∃ (k : Nat), v7 = .int .i64 k ∧ Aside0 (k + m = parts.length) ∧ Aside0 (Sep X w w' [.box g0 80 [.slice Aw parts0.length cw, .slice An next0.length cn, .slice At tags.length ct], .box g1 80 [.slice none 0 0, .slice none 0 0, .slice none 0 0], .ro kSps (.slice Ap parts.length cp) parts, .ro kRow (.slice Am next.length cm) next, .box g2 80 [.slice Ap parts.length cp, .slice Am next.length cm, .slice At tags.length ct], .ro kInt (.slice Al l.length cl) l, .ro kInt (.slice Ao of_.length co) of_, .row kInt 3 v6 (natsL k)]))
 case atStart => exact ⟨0, rfl, ⟨by omega⟩, HSn⟩
 case round =>
  clear HSn
  obtain ⟨k, rfl, HJ, HS⟩ := hrel
  have y0 := (HS.out.box 4 rfl).cell 0 rfl
  cases gk with
  | succ k1 =>
   have hk : k < parts.length := by have := HJ.out; omega
   have e1 : decide ((k : Int) < (parts.length : Int)) = true := dT (by omega)
   have e2 : decide (k < parts.length) = true := dT hk
   go_wp2_with (first
    | ((with_reducible refine gate_dst (N := 35) rfl ?_); refine slit kInt 3 ?hg (N := 35) ?hd (xs := [(k : Int)]) (inner := [.int .i64 (k : Int)]) ?hr HS.out ?hp (by simp) ?_; (case hd => rfl); (case hg => rfl); (case hr => first | (go_simp; done) | (go_simp; rfl)); (case hp => exact Reps.one (PK.scalar _) (Reps.none _ _)); clear HS; intro v8 w8 hs; have HS := aM hs; clear hs)
    | ((with_reducible refine gate_builtin (b := .append) (xs := #[.tmp 33, .tmp 35]) rfl ?_); at_builtin; refine sgrow kInt 7 rfl (.tmp 33) (.tmp 35) 26 3 (.int .i64 0) 8 rfl Tryz.underlying26 info3' rfl (by decide) (by omega) _ _ (natsL k) [(k : Int)] rfl rfl HS.out rfl (HS.out.ro 8 rfl) (by rw [nats_len]; simp; omega) ?_; clear HS; intro v9 w9 hs; rw [← nats_step] at hs; have HS := aM hs; clear hs))
   go_roundg k1
   case measure => omega
   case rel => exact ⟨k + 1, by go_num, ⟨by have := HJ.out; omega⟩, ⟨HS.out.take 8⟩⟩
  | zero =>
   have hk : k = parts.length := by have := HJ.out; omega
   subst hk
   have e1 : decide ((parts.length : Int) < (parts.length : Int)) = false := dF (by omega)
   have e2 : decide (parts.length < parts.length) = false := dF (by omega)
   have hs := HS.out.sealRo 7 rfl
   clear HS
   have HS := aM hs
   have y1 := (hs.box 4 rfl).cell 1 rfl
   have y2 := (hs.box 4 rfl).cell 2 rfl
   clear hs
   have HOS := aM (show ∀ s : Nat, s < of_.length → ∀ k : Int, 0 ≤ k ∧ k < (parts.length : Int) → (next.getD s []).getD k.toNat 0 < (of_.length : Int) from fun s hs k hk => by
    rw [HOL.out]
    exact (HOK.out s (by rw [HNL.out, ← HOL.out]; exact hs)).2 k.toNat (by omega))
   obtain ⟨q1, hq1⟩ : ∃ q, q = reachL next l of_ (natsL parts.length) := ⟨_, rfl⟩
   have HQ1 := aM (show RQ of_.length q1 ∧ 1 ≤ q1.1.length by rw [hq1]; exact reach_rq next l of_ _ HN0.out.1 HOF.out (fun s hs k hk => HOS.out s hs k (nats_mem _ k hk)))
   have HQE := aM hq1.symm
   have HR1 := HR.out
   unfold leastC at HR1
   rw [← hq1] at HR1
   obtain ⟨gs, hgs⟩ : ∃ q, q = groupsL parts.length next l of_ q1.1 := ⟨_, rfl⟩
   rw [← hgs] at HR1
   have HGE := aM hgs.symm
   have HGQ := aM (show GQ parts.length parts.length gs by rw [hgs]; exact groups_gq _ _ _ _ _)
   obtain ⟨ps, hps⟩ : ∃ q, q = setsL parts gs := ⟨_, rfl⟩
   rw [← hps] at HR1
   have HPSE := aM hps.symm
   have HPK := aM (show (∀ x ∈ ps.2, 0 ≤ x ∧ x < (parts.length : Int)) ∧ ps.1.length = ps.2.length ∧ ps.2.length ≤ parts.length by rw [hps]; exact sets_keys parts gs HGQ.out)
   obtain ⟨q2, hq2⟩ : ∃ q, q = reachL next l of_ ps.2 := ⟨_, rfl⟩
   have HQ2 := aM (show RQ of_.length q2 ∧ 1 ≤ q2.1.length by rw [hq2]; exact reach_rq next l of_ _ HN0.out.1 HOF.out (fun s hs k hk => HOS.out s hs k (HPK.out.1 k hk)))
   have HQE2 := aM hq2.symm
   have HR2 := aM (show (⟨ps.1, q2.1.map (leastRow next l of_ ps.2 q2.2), q2.1.map (fun s => tags.getD s.toNat 0)⟩ : DfaS) = r by rw [← HR1, hq2]; rfl)
   have HQN := aM (show ∀ s ∈ q1.1, 0 ≤ s ∧ s < (next.length : Int) from fun s hs => by have := HQ1.out.1.out s hs; have := HOL.out; have := HNL.out; omega)
   have HUG := aM (show ∀ g ∈ gs, (uni parts g).length ≤ 10000 ∧ (makeL (uni parts g) [] 2).length ≠ 0 from fun g hg => HUNI.out g (HGQ.out.ne g hg).1 (HGQ.out.ne g hg).2.1 (HGQ.out.ne g hg).2.2)
   clear HR HR1 hq1 hgs hps hq2 HJ
   go_wp2_with (first
    | (go_at_call 80; (with_reducible refine (reach_calls _ _ _ _ _ _ _ parts next tags l of_ (natsL parts.length) _ HS.out.lt (HS.out.ro 2 rfl) (HS.out.ro 3 rfl) (HS.out.arg H2.out) (HS.out.ro 5 rfl) (HS.out.ro 6 rfl) (HS.out.ro 7 rfl) HN0.out.1 HOF.out (nats_mem _) (HOL.out.trans HLL.out.symm) (HNL.out.trans HLL.out.symm) HOKL.out (by rw [HLL.out]; exact HN0.out.2.2)).mono ?_); rintro ee w8 ⟨v8, v9, rfl, hv1, hv2, hb⟩; rw [HQE.out] at hv1; have hs := HS.out.push_ro hb hv1; clear hv1 hv2 hb y0 y1 y2; obtain ⟨As, cs, es⟩ := hs.rform 8 rfl; subst es; clear HS; have HS := aM hs; clear hs))
   clear e1 e2
   have y0 := (HS.out.box 4 rfl).cell 0 rfl
   have hs := HS.out.drew
   clear HS; have HS := aM hs; clear hs
   refine start_ (n := 12) (S := fun w' => w'.cell? ⟨g2, 0, none⟩ = some (.slice Ap parts.length cp) ∧ w'.cell? ⟨g2, 1, none⟩ = some (.slice Am next.length cm) ∧ w'.cell? ⟨g2, 2, none⟩ = some (.slice At tags.length ct)) (ds := [6]) #[false, false, false, false, false, false, false, false, false, false, false, false] (by kernel_rfl) rfl rfl ⟨((HS.out.box 4 rfl).cell 0 rfl), ((HS.out.box 4 rfl).cell 1 rfl), ((HS.out.box 4 rfl).cell 2 rfl)⟩ (fun hHeld => ?_)
   refine pure_ (i := 2) (N := some 48) (v := ?_) (a' := ?_) (bv 12 4) rfl rfl (by kernel_rfl) (fun _ _ _ h => h) (Or.inl ⟨by rfl, ?_⟩) ?_ ?_
   rotate_left
   ·intro w'
    go_simp
    with_reducible rfl
   rotate_left
   ·simp only [Act.put, qA, qB, qC, i64_w, i32_w]
    rfl
   refine pure_ (i := 3) (N := some 49) (v := ?_) (a' := ?_) (bv 12 12) rfl rfl (by kernel_rfl) (fun _ _ _ h => h) (Or.inl ⟨by rfl, ?_⟩) ?_ ?_
   rotate_left
   ·intro w'
    go_simp
    with_reducible rfl
   rotate_left
   ·simp only [Act.put, qA, qB, qC, i64_w, i32_w]
    rfl
   refine pure_ (i := 4) (N := some 50) (v := ?_) (a' := ?_) (bv 12 28) rfl rfl (by kernel_rfl) (fun _ _ _ h => h) (Or.inl ⟨by rfl, ?_⟩) ?_ ?_
   rotate_left
   ·intro w'
    go_simp
    with_reducible rfl
   rotate_left
   ·simp only [Act.put, qA, qB, qC, i64_w, i32_w]
    rfl
   refine take_ (i := 0) (N := some 46) (v := ?_) (a' := ?_) (bv 12 29) rfl rfl (by kernel_rfl) (fun _ _ _ h => h) (Or.inl ⟨by rfl, ?_⟩) hHeld ?_ ?_
   rotate_left
   ·rintro w' ⟨s0, s1, s2⟩
    go_simp
    with_reducible rfl
   rotate_left
   ·simp only [Act.put, qA, qB, qC, i64_w, i32_w]
    rfl
   refine take_ (i := 1) (N := some 47) (v := ?_) (a' := ?_) (bv 12 31) rfl rfl (by kernel_rfl) (fun _ _ _ h => h) (Or.inl ⟨by rfl, ?_⟩) hHeld ?_ ?_
   rotate_left
   ·rintro w' ⟨s0, s1, s2⟩
    go_simp
    with_reducible rfl
   rotate_left
   ·simp only [Act.put, qA, qB, qC, i64_w, i32_w]
    rfl
   refine one_ (i := 5) (N := some 51) (bv 12 63) rfl rfl (by kernel_rfl) (by decide) (fun K hK => ?_)
   refine goes_ Tryz.func82 (by kernel_rfl) rfl #[.agg #[.slice Ap parts.length cp, .slice Am next.length cm, .slice At tags.length ct], .slice Al l.length cl, .slice Ao of_.length co, .slice As q1.1.length cs] (by rfl) rfl rfl (by simp only [List.map_toArray, List.map_cons, List.map_nil]; rfl) ?_
   with_reducible refine (groups_calls _ _ _ _ _ _ _ parts next tags l of_ q1.1 _ HS.out.lt (HS.out.ro 2 rfl) (HS.out.ro 3 rfl) (HS.out.arg H2.out) (HS.out.ro 5 rfl) (HS.out.ro 6 rfl) (HS.out.ro 8 rfl) HQN.out (HOL.out.trans HLL.out.symm) (HNL.out.trans HLL.out.symm) HOKL.out hpl2).mono ?_
   rintro e w9 ⟨v9, rfl, hv9, hb9⟩
   refine ⟨_, rfl, ?_⟩
   rw [HGE.out] at hv9
   have hs := HS.out.push_ro hb9 hv9
   clear hv9 hb9
   clear HS; have HS := aM hs; clear hs
   refine hK.out _ _ ⟨((HS.out.box 4 rfl).cell 0 rfl), ((HS.out.box 4 rfl).cell 1 rfl), ((HS.out.box 4 rfl).cell 2 rfl)⟩ (fun hHeld => ?_)
   clear hK K
   refine norm_ (a' := ?_) ?_ ?_
   rotate_left
   ·show Act.put _ (some 51) _ = _
    simp only [Act.put, qA, qB, qC, i64_w, i32_w]
    rfl
   refine last_ (i := 6) (N := some 52) #[true, true, true, true, true, true, true, false, false, false, false, false] rfl rfl (by kernel_rfl) (by decide) (fun K hK => ?_)
   refine goes_ Tryz.func81 (by kernel_rfl) rfl #[.agg #[.slice Ap parts.length cp, .slice Am next.length cm, .slice At tags.length ct], v9] (by rfl) rfl rfl (by simp only [List.map_toArray, List.map_cons, List.map_nil]; rfl) ?_
   with_reducible refine (sets_calls _ _ _ _ _ parts next tags gs _ HS.out.lt (HS.out.ro 2 rfl) (HS.out.ro 3 rfl) (HS.out.arg H2.out) (HS.out.ro 9 rfl) HGQ.out hpl2 HSM.out HUG.out).mono ?_
   rintro e w10 ⟨v10, v11, rfl, hv1, hv2, hb⟩
   refine ⟨_, rfl, ?_⟩
   rw [HPSE.out] at hv1 hv2
   have hs := (HS.out.push_ro hb hv1).push_ro (Below.refl _ _) (hv2.to (fun _ _ h => Ys_ro h))
   clear hv1 hv2 hb
   obtain ⟨Aa, ca, ea⟩ := hs.rform 10 rfl
   subst ea
   obtain ⟨Ak, ck, ek⟩ := hs.rform 11 rfl
   subst ek
   clear HS; have HS := aM hs; clear hs
   refine hK.out _ _ ?_
   clear hK K
   refine norm_ (a' := ?_) ?_ ?_
   rotate_left
   ·show Act.put _ (some 52) _ = _
    simp only [Act.put, qA, qB, qC, i64_w, i32_w]
    rfl
   refine pure_ (i := 7) (N := some 45) (v := ?_) (a' := ?_) (bv 12 255) rfl rfl (by kernel_rfl) (fun _ _ _ h => h) (Or.inl ⟨by rfl, ?_⟩) ?_ ?_
   rotate_left
   ·intro w'
    go_simp
    with_reducible rfl
   rotate_left
   ·simp only [Act.put, qA, qB, qC, i64_w, i32_w]
    rfl
   refine pure_ (i := 8) (N := some 53) (v := ?_) (a' := ?_) (bv 12 511) rfl rfl (by kernel_rfl) (fun _ _ _ h => h) (Or.inl ⟨by rfl, ?_⟩) ?_ ?_
   rotate_left
   ·intro w'
    go_simp
    with_reducible rfl
   rotate_left
   ·simp only [Act.put, qA, qB, qC, i64_w, i32_w]
    rfl
   refine pure_ (i := 9) (N := some 54) (v := ?_) (a' := ?_) (bv 12 1023) rfl rfl (by kernel_rfl) (fun _ _ _ h => h) (Or.inl ⟨by rfl, ?_⟩) ?_ ?_
   rotate_left
   ·intro w'
    go_simp
    with_reducible rfl
   rotate_left
   ·simp only [Act.put, qA, qB, qC, i64_w, i32_w]
    rfl
   refine pure_ (i := 10) (N := some 10) (v := ?_) (a' := ?_) (bv 12 2047) rfl rfl (by kernel_rfl) (fun _ _ _ h => h) (Or.inl ⟨by rfl, ?_⟩) ?_ ?_
   rotate_left
   ·intro w'
    go_simp
    with_reducible rfl
   rotate_left
   ·simp only [Act.put, qA, qB, qC, i64_w, i32_w]
    rfl
   refine pure_ (i := 11) (N := some 11) (v := ?_) (a' := ?_) (bv 12 4095) rfl rfl (by kernel_rfl) (fun _ _ _ h => h) (Or.inl ⟨by rfl, ?_⟩) ?_ ?_
   rotate_left
   ·intro w'
    go_simp
    with_reducible rfl
   rotate_left
   ·simp only [Act.put, qA, qB, qC, i64_w, i32_w]
    rfl
   refine done_ (by kernel_rfl) ?_
   have y1 := (HS.out.box 4 rfl).cell 0 rfl
   have y2 := (HS.out.box 4 rfl).cell 1 rfl
   have y3 := (HS.out.box 4 rfl).cell 2 rfl
   clear y0
   go_wp2_with (first
    | (go_at_call 80; (with_reducible refine (reach_calls _ _ _ _ _ _ _ parts next tags l of_ ps.2 _ HS.out.lt (HS.out.ro 2 rfl) (HS.out.ro 3 rfl) (HS.out.arg H2.out) (HS.out.ro 5 rfl) (HS.out.ro 6 rfl) (HS.out.ro 11 rfl) HN0.out.1 HOF.out HPK.out.1 (HOL.out.trans HLL.out.symm) (HNL.out.trans HLL.out.symm) HOKL.out (by rw [HLL.out]; exact HN0.out.2.2)).mono ?_); rintro ee w11 ⟨v12, v13, rfl, hv1, hv2, hb⟩; rw [HQE2.out] at hv1 hv2; have hs := (HS.out.push_ro hb hv1).push_ro (Below.refl _ _) (hv2.to (fun _ _ h => Ys_ro h)); clear hv1 hv2 hb y1 y2 y3; obtain ⟨Ab, cb, eb⟩ := hs.rform 12 rfl; subst eb; obtain ⟨Ac, cc, ec⟩ := hs.rform 13 rfl; subst ec; clear HS; have HS := aM hs; clear hs))
   have hs := ((HS.out.push_box [.slice Aa ps.1.length ca, .slice none 0 0, .slice none 0 0] 80).push_nil kRow 26).push_nil kInt 3
   clear HS
   have HS := aM hs
   clear hs
   obtain ⟨g3, hg3⟩ : ∃ g, g = w11.heap.size := ⟨_, rfl⟩
   rw [← hg3] at HS ⊢
   clear hg3
   have HQL := aM (show q2.1.length ≤ 1000000 by have := HQ2.out.1.le; have := HOL.out; have := HN0.out; omega)
   have HKL := aM (show ps.2.length ≤ 100000 by have := HPK.out.2.2; omega)
   clear HQ1 HQE HGE HGQ HPSE HQE2 HQN HUG
   have hs := HS.out.cut 7 3
   clear HS
   have HS := aM hs
   clear hs
   go_loopg [15] q2.1.length (fun m v15 w' => ∃ (i : Nat) (vN vT : Value) (N : List (List Int)) (T : List Int), v15 = .int .i64 i ∧ Aside0 (i + m = q2.1.length) ∧ Aside0 (N = (q2.1.take i).map (leastRow next l of_ ps.2 q2.2)) ∧ Aside0 (T = (q2.1.take i).map (fun s => tags.getD s.toNat 0)) ∧ Aside0 (Sep X w w' [.box g0 80 [.slice Aw parts0.length cw, .slice An next0.length cn, .slice At tags.length ct], .box g1 80 [.slice none 0 0, .slice none 0 0, .slice none 0 0], .ro kSps (.slice Ap parts.length cp) parts, .ro kRow (.slice Am next.length cm) next, .box g2 80 [.slice Ap parts.length cp, .slice Am next.length cm, .slice At tags.length ct], .ro kInt (.slice Al l.length cl) l, .ro kInt (.slice Ao of_.length co) of_, .ro kSps (.slice Aa ps.1.length ca) ps.1, .ro kInt (.slice Ak ps.2.length ck) ps.2, .ro kInt (.slice Ab q2.1.length cb) q2.1, .ro kInt (.slice Ac q2.2.length cc) q2.2, .box g3 80 [.slice Aa ps.1.length ca, vN, vT], .row kRow 26 vN N, .row kInt 3 vT T]))
   case atStart => exact ⟨0, _, _, [], [], rfl, ⟨by omega⟩, ⟨rfl⟩, ⟨rfl⟩, HS⟩
   case round =>
    clear HS
    obtain ⟨i, vN, vT, N, T, rfl, HJ, HN, HT, HS⟩ := hrel
    obtain ⟨A4, c4, e4⟩ := HS.out.form 12 rfl
    subst e4
    obtain ⟨A5, c5, e5⟩ := HS.out.form 13 rfl
    subst e5
    have HNT := aM (show N.length = i ∧ T.length = i by rw [HN.out, HT.out]; have := HJ.out; simp; omega)
    cases gk with
    | zero =>
     have hi : i = q2.1.length := by have := HJ.out; omega
     have e1 : decide ((i : Int) < (q2.1.length : Int)) = false := dF (by omega)
     have e2 : decide (i < q2.1.length) = false := dF (by omega)
     have HRR := aM (show (⟨ps.1, N, T⟩ : DfaS) = r by rw [HN.out, HT.out, hi, List.take_length]; exact HR2.out)
     clear hi HR2
     have z0 := ((HS.out.box 11 rfl).cell 0 rfl)
     have z1 := ((HS.out.box 11 rfl).cell 1 rfl)
     have z2 := ((HS.out.box 11 rfl).cell 2 rfl)
     have x0 := ((HS.out.box 1 rfl).cell 0 rfl)
     have x1 := ((HS.out.box 1 rfl).cell 1 rfl)
     have x2 := ((HS.out.box 1 rfl).cell 2 rfl)
     have f0 := (HS.out.box 1 rfl).open_ 0
     have f1 := (HS.out.box 1 rfl).open_ 1
     have f2 := (HS.out.box 1 rfl).open_ 2
     go_wp2_with fail
     have HSF := aM (((HS.out.set_box 1 rfl 0 (.slice Aa ps.1.length ca)).set_box 1 rfl 1 (.slice A4 N.length c4)).set_box 1 rfl 2 (.slice A5 T.length c5))
     refine bodyPost_ret (results_cell_row rfl _ _ g1 80 #[.slice Aa ps.1.length ca, .slice A4 N.length c4, .slice A5 T.length c5] (0, 0) _ rfl (HSF.out.box 1 rfl) Tryz.underlying80 rfl (by kernel_rfl)) rfl ?_
     refine ⟨_, _, _, rfl, ?_, ?_, ?_, HSF.out.below⟩
     ·rw [← HRR.out]; exact HSF.out.res 7 rfl
     ·rw [← HRR.out]; exact HSF.out.res_row 12 rfl
     ·rw [← HRR.out]; exact HSF.out.res_row 13 rfl
    | succ k1 =>
     have hi : i < q2.1.length := by have := HJ.out; omega
     have e1 : decide ((i : Int) < (q2.1.length : Int)) = true := dT (by omega)
     have e2 : decide (i < q2.1.length) = true := dT hi
     have hi0 : (0 : Int) ≤ (i : Int) := by omega
     have hi1 : (i : Int) < (q2.1.length : Int) := by omega
     have hil : i < 1000000 := by have := HQL.out; omega
     have hsx := HQ2.out.1.out _ (mem_getD q2.1 0 i hi)
     obtain ⟨s, hs⟩ : ∃ s : Nat, q2.1.getD i 0 = (s : Int) := ⟨(q2.1.getD i 0).toNat, by omega⟩
     have HSX := aM hs
     have HSN := aM (show s < of_.length by omega)
     have HOKS := aM (show (next.getD s []).length = parts.length ∧ ∀ k, k < parts.length → (next.getD s []).getD k 0 < (l.length : Int) from HOKL.out s (by have := HNL.out; have := HOL.out; omega))
     have HN2 := aM (show N ++ [leastRow next l of_ ps.2 q2.2 (s : Int)] = (q2.1.take (i + 1)).map (leastRow next l of_ ps.2 q2.2) by rw [take_at q2.1 0 i hi, List.map_append, HN.out, hs]; rfl)
     have HT2 := aM (show T ++ [tags.getD s 0] = (q2.1.take (i + 1)).map (fun s => tags.getD s.toNat 0) by rw [take_at q2.1 0 i hi, List.map_append, HT.out, hs]; rfl)
     obtain ⟨rr, hrr⟩ : ∃ q, q = leastRow next l of_ ps.2 q2.2 (s : Int) := ⟨_, rfl⟩
     rw [← hrr] at HN2
     have HR0 := aM (show [] = (ps.2.take 0).map (fun k => if 0 ≤ kindL next l of_ s k.toNat then q2.2.getD (kindL next l of_ s k.toNat).toNat 0 else kindL next l of_ s k.toNat) from rfl)
     have HRE := aM (show ps.2.map (fun k => if 0 ≤ kindL next l of_ s k.toNat then q2.2.getD (kindL next l of_ s k.toNat).toNat 0 else kindL next l of_ s k.toNat) = rr from hrr.symm)
     have hs3 := HS.out.push_nil kInt 3
     clear HS hsx hs HN HT hrr
     have HS := aM hs3
     clear hs3
     go_wp2_with fail
     clear e1 e2
     go_loopg [16, 17] ps.2.length (fun m v16 v17 w' => ∃ (k : Nat) (R : List Int), v17 = .int .i64 k ∧ Aside0 (k + m = ps.2.length) ∧ Aside0 (R = (ps.2.take k).map (fun k => if 0 ≤ kindL next l of_ s k.toNat then q2.2.getD (kindL next l of_ s k.toNat).toNat 0 else kindL next l of_ s k.toNat)) ∧ Aside0 (Sep X w w' [.box g0 80 [.slice Aw parts0.length cw, .slice An next0.length cn, .slice At tags.length ct], .box g1 80 [.slice none 0 0, .slice none 0 0, .slice none 0 0], .ro kSps (.slice Ap parts.length cp) parts, .ro kRow (.slice Am next.length cm) next, .box g2 80 [.slice Ap parts.length cp, .slice Am next.length cm, .slice At tags.length ct], .ro kInt (.slice Al l.length cl) l, .ro kInt (.slice Ao of_.length co) of_, .ro kSps (.slice Aa ps.1.length ca) ps.1, .ro kInt (.slice Ak ps.2.length ck) ps.2, .ro kInt (.slice Ab q2.1.length cb) q2.1, .ro kInt (.slice Ac q2.2.length cc) q2.2, .box g3 80 [.slice Aa ps.1.length ca, (.slice A4 N.length c4), (.slice A5 T.length c5)], .row kRow 26 (.slice A4 N.length c4) N, .row kInt 3 (.slice A5 T.length c5) T, .row kInt 3 v16 R]))
     case atStart => exact ⟨0, [], rfl, ⟨by omega⟩, HR0, HS⟩
     case round =>
      clear HS HR0
      obtain ⟨k, R, rfl, HK, HRW, HS⟩ := hrel
      have HRL := aM (show R.length = k by rw [HRW.out]; have := HK.out; simp; omega)
      cases gk with
      | succ k2 =>
       have hk : k < ps.2.length := by have := HK.out; omega
       have e1 : decide ((k : Int) < (ps.2.length : Int)) = true := dT (by omega)
       have e2 : decide (k < ps.2.length) = true := dT hk
       have hk0 : (0 : Int) ≤ (k : Int) := by omega
       have hk1 : (k : Int) < (ps.2.length : Int) := by omega
       have hkl : k < 100000 := by have := HKL.out; omega
       go_wp2_with fail
       have hs := HS.out.drew
       clear HS
       have HS := aM hs
       clear hs
       have hkx := HPK.out.1 _ (mem_getD ps.2 0 k hk)
       obtain ⟨ab, cb', eb, yb⟩ := int_cell (HS.out.ro 9 rfl) i hi
       cases eb
       rw [HSX.out] at yb
       obtain ⟨ak, ck', ek, yk⟩ := int_cell (HS.out.ro 8 rfl) k hk
       cases ek
       have HTK := take_at ps.2 0 k hk
       generalize ps.2.getD k 0 = kx at *
       obtain ⟨kn, rfl⟩ := Int.eq_ofNat_of_zero_le hkx.1
       have HKN := aM (show kn < parts.length by omega)
       obtain ⟨x, hx⟩ : ∃ x, x = kindL next l of_ s kn := ⟨_, rfl⟩
       have HX := aM hx.symm
       have HXR := aM (show -1 ≤ x ∧ x < (q2.2.length : Int) by rw [hx, HQ2.out.1.len]; exact kindL_lt next l of_ s kn of_.length HOF.out (by have := HOKS.out.2 kn HKN.out; have := HOL.out; have := HLL.out; omega))
       have HRW2 := aM (show R ++ [if 0 ≤ x then q2.2.getD x.toNat 0 else x] = (ps.2.take (k + 1)).map (fun k => if 0 ≤ kindL next l of_ s k.toNat then q2.2.getD (kindL next l of_ s k.toNat).toNat 0 else kindL next l of_ s k.toNat) by rw [HTK, List.map_append, HRW.out, hx]; rfl)
       have y0 := (HS.out.box 4 rfl).cell 0 rfl
       have y1 := (HS.out.box 4 rfl).cell 1 rfl
       have y2 := (HS.out.box 4 rfl).cell 2 rfl
       clear hkx HTK hx HRW
       refine start_ (n := 13) (S := fun w' => w'.cell? ⟨g2, 0, none⟩ = some (.slice Ap parts.length cp) ∧ w'.cell? ⟨g2, 1, none⟩ = some (.slice Am next.length cm) ∧ w'.cell? ⟨g2, 2, none⟩ = some (.slice At tags.length ct) ∧ w'.cell? (ab.add i) = some (.int .i64 (s : Int)) ∧ w'.cell? (ak.add k) = some (.int .i64 (kn : Int))) (ds := [11]) #[false, false, false, false, false, false, false, false, false, false, false, false, false] (by kernel_rfl) rfl rfl ⟨y0, y1, y2, yb, yk⟩ (fun hHeld => ?_)
       refine pure_ (i := 1) (N := some 78) (v := ?_) (a' := ?_) (bv 13 2) rfl rfl (by kernel_rfl) (fun _ _ _ h => h) (Or.inl ⟨by rfl, ?_⟩) ?_ ?_
       rotate_left
       ·intro w'
        go_simp
        with_reducible rfl
       rotate_left
       ·simp only [Act.put, qA, qB, qC, i64_w, i32_w]
        rfl
       refine pure_ (i := 2) (N := some 79) (v := ?_) (a' := ?_) (bv 13 6) rfl rfl (by kernel_rfl) (fun _ _ _ h => h) (Or.inl ⟨by rfl, ?_⟩) ?_ ?_
       rotate_left
       ·intro w'
        go_simp
        with_reducible rfl
       rotate_left
       ·simp only [Act.put, qA, qB, qC, i64_w, i32_w]
        rfl
       refine pure_ (i := 3) (N := some 80) (v := ?_) (a' := ?_) (bv 13 14) rfl rfl (by kernel_rfl) (fun _ _ _ h => h) (Or.inl ⟨by rfl, ?_⟩) ?_ ?_
       rotate_left
       ·intro w'
        go_simp
        with_reducible rfl
       rotate_left
       ·simp only [Act.put, qA, qB, qC, i64_w, i32_w]
        rfl
       refine pure_ (i := 4) (N := some 81) (v := ?_) (a' := ?_) (bv 13 30) rfl rfl (by kernel_rfl) (fun _ _ _ h => h) (Or.inl ⟨by rfl, ?_⟩) ?_ ?_
       rotate_left
       ·intro w'
        go_simp
        with_reducible rfl
       rotate_left
       ·simp only [Act.put, qA, qB, qC, i64_w, i32_w]
        rfl
       refine pure_ (i := 5) (N := some 82) (v := ?_) (a' := ?_) (bv 13 62) rfl rfl (by kernel_rfl) (fun _ _ _ h => h) (Or.inl ⟨by rfl, ?_⟩) ?_ ?_
       rotate_left
       ·intro w'
        go_simp
        with_reducible rfl
       rotate_left
       ·simp only [Act.put, qA, qB, qC, i64_w, i32_w]
        rfl
       refine pure_ (i := 7) (N := some 84) (v := ?_) (a' := ?_) (bv 13 190) rfl rfl (by kernel_rfl) (fun _ _ _ h => h) (Or.inl ⟨by rfl, ?_⟩) ?_ ?_
       rotate_left
       ·intro w'
        go_simp
        with_reducible rfl
       rotate_left
       ·simp only [Act.put, qA, qB, qC, i64_w, i32_w]
        rfl
       refine pure_ (i := 8) (N := some 85) (v := ?_) (a' := ?_) (bv 13 446) rfl rfl (by kernel_rfl) (fun _ _ _ h => h) (Or.inl ⟨by rfl, ?_⟩) ?_ ?_
       rotate_left
       ·intro w'
        go_simp
        with_reducible rfl
       rotate_left
       ·simp only [Act.put, qA, qB, qC, i64_w, i32_w]
        rfl
       refine pure_ (i := 9) (N := some 86) (v := ?_) (a' := ?_) (bv 13 958) rfl rfl (by kernel_rfl) (fun _ _ _ h => h) (Or.inl ⟨by rfl, ?_⟩) ?_ ?_
       rotate_left
       ·intro w'
        go_simp
        with_reducible rfl
       rotate_left
       ·simp only [Act.put, qA, qB, qC, i64_w, i32_w]
        rfl
       refine take_ (i := 0) (N := some 77) (v := ?_) (a' := ?_) (bv 13 959) rfl rfl (by kernel_rfl) (fun _ _ _ h => h) (Or.inl ⟨by rfl, ?_⟩) hHeld ?_ ?_
       rotate_left
       ·rintro w' ⟨s0, s1, s2, s3, s4⟩
        go_simp
        with_reducible rfl
       rotate_left
       ·simp only [Act.put, qA, qB, qC, i64_w, i32_w]
        rfl
       refine take_ (i := 6) (N := some 83) (v := ?_) (a' := ?_) (bv 13 1023) rfl rfl (by kernel_rfl) (fun _ _ _ h => h) (Or.inl ⟨by rfl, ?_⟩) hHeld ?_ ?_
       rotate_left
       ·rintro w' ⟨s0, s1, s2, s3, s4⟩
        go_simp
        with_reducible rfl
       rotate_left
       ·simp only [Act.put, qA, qB, qC, i64_w, i32_w]
        rfl
       refine take_ (i := 10) (N := some 87) (v := ?_) (a' := ?_) (bv 13 2047) rfl rfl (by kernel_rfl) (fun _ _ _ h => h) (Or.inl ⟨by rfl, ?_⟩) hHeld ?_ ?_
       rotate_left
       ·rintro w' ⟨s0, s1, s2, s3, s4⟩
        go_simp
        with_reducible rfl
       rotate_left
       ·simp only [Act.put, qA, qB, qC, i64_w, i32_w]
        rfl
       refine last_ (i := 11) (N := some 88) #[true, true, true, true, true, true, true, true, true, true, true, true, false] rfl rfl (by kernel_rfl) (by decide) (fun K hK => ?_)
       refine goes_ Tryz.func83 (by kernel_rfl) rfl #[.agg #[.slice Ap parts.length cp, .slice Am next.length cm, .slice At tags.length ct], .slice Al l.length cl, .slice Ao of_.length co, .int .i64 (s : Int), .int .i64 (kn : Int)] (by rfl) rfl rfl (by simp only [List.map_toArray, List.map_cons, List.map_nil]; rfl) ?_
       with_reducible refine (kind_calls _ _ _ _ _ _ parts next tags l of_ s kn _ (HS.out.ro 2 rfl) (HS.out.ro 3 rfl) (HS.out.arg H2.out) (HS.out.ro 5 rfl) (HS.out.ro 6 rfl) (by have := HSN.out; have := HNL.out; have := HOL.out; omega) (by rw [HOKS.out.1]; exact HKN.out) (HOKS.out.2 kn HKN.out) (HOL.out.trans HLL.out.symm)).mono ?_
       rintro e w21 ⟨rfl, hb21⟩
       refine ⟨_, rfl, ?_⟩
       rw [HX.out]
       have hs := HS.out.call hb21
       clear hb21
       clear HS; have HS := aM hs; clear hs
       refine hK.out _ _ ?_
       clear hK K
       refine norm_ (a' := ?_) ?_ ?_
       rotate_left
       ·show Act.put _ (some 88) _ = _
        simp only [Act.put, qA, qB, qC, i64_w, i32_w]
        rfl
       refine pure_ (i := 12) (N := some 18) (v := ?_) (a' := ?_) (bv 13 8191) rfl rfl (by kernel_rfl) (fun _ _ _ h => h) (Or.inl ⟨by rfl, ?_⟩) ?_ ?_
       rotate_left
       ·intro w'
        go_simp
        with_reducible rfl
       rotate_left
       ·simp only [Act.put, qA, qB, qC, i64_w, i32_w]
        rfl
       refine done_ (by kernel_rfl) ?_
       rcases Int.lt_or_le x 0 with c | c
       case' inl =>
        have d1 : decide (x ≥ 0) = false := dF (by omega)
        have d2 : decide (0 ≤ x) = false := dF (by omega)
        have HRW3 := HRW2.out
        rw [if_neg (by omega)] at HRW3
        have HRW4 := aM HRW3
        clear HRW3 HRW2
       case' inr =>
        obtain ⟨n, rfl⟩ := Int.eq_ofNat_of_zero_le c
        have d1 : decide ((n : Int) ≥ 0) = true := dT (by omega)
        have d2 : decide (0 ≤ (n : Int)) = true := dT (by omega)
        have hn1 : (n : Int) < (q2.2.length : Int) := HXR.out.2
        have hn0 : (0 : Int) ≤ (n : Int) := by omega
        obtain ⟨ac, cc', ec, yc⟩ := int_cell (HS.out.ro 10 rfl) n (by omega)
        cases ec
        have HRW3 := HRW2.out
        rw [if_pos c, Int.toNat_natCast] at HRW3
        generalize q2.2.getD n 0 = x2 at *
        have HRW4 := aM HRW3
        clear HRW3 HRW2
       case inl =>
        go_wp2_with (first
         | ((with_reducible refine gate_dst (N := 97) rfl ?_); refine slit kInt 3 ?hg (N := 97) ?hd (xs := [x]) (inner := [.int .i64 x]) ?hr HS.out ?hp (by simp) ?_; (case hd => rfl); (case hg => rfl); (case hr => first | (go_simp; done) | (go_simp; rfl)); (case hp => exact Reps.one (PK.scalar _) (Reps.none _ _)); clear HS; intro v30 w30 hs; have HS := aM hs; clear hs)
         | ((with_reducible refine gate_builtin (b := .append) (xs := #[.tmp 95, .tmp 97]) rfl ?_); at_builtin; refine sgrow kInt 14 rfl (.tmp 95) (.tmp 97) 26 3 (.int .i64 0) 8 rfl Tryz.underlying26 info3' rfl (by decide) (by omega) _ _ R [x] rfl rfl HS.out rfl (HS.out.ro 15 rfl) (by have := HRL.out; simp; omega) ?_; clear HS; intro v31 w31 hs; have HS := aM hs; clear hs))
        go_roundg k2
        case measure => omega
        case rel => exact ⟨k + 1, _, by go_num, ⟨by have := HK.out; omega⟩, HRW4, ⟨HS.out.take 15⟩⟩
       case inr =>
        go_wp2_with (first
         | ((with_reducible refine gate_dst (N := 97) rfl ?_); refine slit kInt 3 ?hg (N := 97) ?hd (xs := [x2]) (inner := [.int .i64 x2]) ?hr HS.out ?hp (by simp) ?_; (case hd => rfl); (case hg => rfl); (case hr => first | (go_simp; done) | (go_simp; rfl)); (case hp => exact Reps.one (PK.scalar _) (Reps.none _ _)); clear HS; intro v30 w30 hs; have HS := aM hs; clear hs)
         | ((with_reducible refine gate_builtin (b := .append) (xs := #[.tmp 95, .tmp 97]) rfl ?_); at_builtin; refine sgrow kInt 14 rfl (.tmp 95) (.tmp 97) 26 3 (.int .i64 0) 8 rfl Tryz.underlying26 info3' rfl (by decide) (by omega) _ _ R [x2] rfl rfl HS.out rfl (HS.out.ro 15 rfl) (by have := HRL.out; simp; omega) ?_; clear HS; intro v31 w31 hs; have HS := aM hs; clear hs))
        go_roundg k2
        case measure => omega
        case rel => exact ⟨k + 1, _, by go_num, ⟨by have := HK.out; omega⟩, HRW4, ⟨HS.out.take 15⟩⟩
      | zero =>
       have hk : k = ps.2.length := by have := HK.out; omega
       have e1 : decide ((k : Int) < (ps.2.length : Int)) = false := dF (by omega)
       have e2 : decide (k < ps.2.length) = false := dF (by omega)
       have q0 : R = rr := by rw [HRW.out, hk, List.take_length]; exact HRE.out
       clear HRW HRE hk
       subst q0
       obtain ⟨A14, c14, e14⟩ := HS.out.form 14 rfl
       subst e14
       obtain ⟨at_, ct', et, yt0⟩ := int_cell H2.out s (by have := HSN.out; have := HOL.out; omega)
       cases et
       have hsl : (s : Int) < (tags.length : Int) := by have := HSN.out; have := HOL.out; omega
       have hs0 : (0 : Int) ≤ (s : Int) := by omega
       obtain ⟨ab, cb', eb, yb0⟩ := int_cell (HS.out.ro 9 rfl) i hi
       cases eb
       rw [HSX.out] at yb0
       generalize tags.getD s 0 = tg at *
       have HYT := aM yt0
       have hs := HS.out.sealRo 14 rfl
       clear HS yt0 yb0
       have HS := aM hs
       clear hs
       have y1 := (HS.out.box 11 rfl).cell 1 rfl
       have HPL2 := aM (show N.length ≤ 1000000 ∧ T.length ≤ 1000000 by have := HNT.out; omega)
       go_wp2_with (first
        | ((with_reducible refine gate_dst (N := 102) rfl ?_); refine slit kRow 26 ?hg (N := 102) ?hd (xs := [R]) (inner := [.slice A14 R.length c14]) ?hr HS.out ?hp (by simp) ?_; (case hd => rfl); (case hg => rfl); (case hr => first | (go_simp; done) | (go_simp; rfl)); (case hp => exact Reps.one (PK.slice (HS.out.ro 14 rfl)) (Reps.none _ _)); clear HS; intro v30 w30 hs; have HS := aM hs; clear hs)
        | ((with_reducible refine gate_builtin (b := .append) (xs := #[.tmp 100, .tmp 102]) rfl ?_); at_builtin; refine sgrow kRow 12 rfl (.tmp 100) (.tmp 102) 25 26 (.slice none 0 0) 24 rfl Tryz.underlying25 info26 rfl (by decide) (by omega) _ _ N [R] rfl rfl HS.out rfl (HS.out.ro 15 rfl) (by have := HPL2.out; simp; omega) ?_; clear HS; intro v1 w1 hs; obtain ⟨n1, hn1⟩ : ∃ q, q = N ++ [R] := ⟨_, rfl⟩; rw [← hn1] at hs; have HZn1 := aM hn1; clear hn1; obtain ⟨A1, c1, e1⟩ := hs.form 12 rfl; subst e1; have fz := (hs.box 11 rfl).open_ 1; have yz := (hs.box 11 rfl).cell 1 rfl; have HS := aM hs; clear hs))
       have hs := HS.out.set_box 11 rfl 1 (.slice A1 n1.length c1)
       obtain ⟨wd, hwd⟩ : ∃ q, q = w1.setCell ⟨g3, 1, none⟩ (.slice A1 n1.length c1) := ⟨_, rfl⟩
       rw [← hwd] at hs ⊢
       clear HS
       have HS := aM hs.drew
       clear hs hwd fz yz y1
       obtain ⟨ab', cb', eb, yb⟩ := int_cell (HS.out.ro 9 rfl) i hi
       cases eb
       rw [HSX.out] at yb
       have yt := pw_cell_below HS.out.below HYT.out
       have y2 := (HS.out.box 4 rfl).cell 2 rfl
       have y3 := (HS.out.box 11 rfl).cell 2 rfl
       refine start_ (n := 14) (S := fun w' => w'.cell? ⟨g3, 2, none⟩ = some (.slice A5 T.length c5) ∧ w'.cell? ⟨g2, 2, none⟩ = some (.slice (some at_) tags.length ct) ∧ w'.cell? (ab.add i) = some (.int .i64 (s : Int)) ∧ w'.cell? (at_.add s) = some (.int .i64 tg)) (ds := [11, 13]) #[false, false, false, false, false, false, false, false, false, false, false, false, false, false] (by kernel_rfl) rfl rfl ⟨((HS.out.box 11 rfl).cell 2 rfl), ((HS.out.box 4 rfl).cell 2 rfl), (ro_cell HS.out 9 rfl i hi HSX.out), (pw_cell_below HS.out.below HYT.out)⟩ (fun hHeld => ?_)
       refine pure_ (i := 0) (N := some 105) (v := ?_) (a' := ?_) (bv 14 1) rfl rfl (by kernel_rfl) (fun _ _ _ h => h) (Or.inl ⟨by rfl, ?_⟩) ?_ ?_
       rotate_left
       ·intro w'
        go_simp
        with_reducible rfl
       rotate_left
       ·simp only [Act.put, qA, qB, qC, i64_w, i32_w]
        rfl
       refine pure_ (i := 2) (N := some 107) (v := ?_) (a' := ?_) (bv 14 5) rfl rfl (by kernel_rfl) (fun _ _ _ h => h) (Or.inl ⟨by rfl, ?_⟩) ?_ ?_
       rotate_left
       ·intro w'
        go_simp
        with_reducible rfl
       rotate_left
       ·simp only [Act.put, qA, qB, qC, i64_w, i32_w]
        rfl
       refine pure_ (i := 4) (N := some 109) (v := ?_) (a' := ?_) (bv 14 21) rfl rfl (by kernel_rfl) (fun _ _ _ h => h) (Or.inl ⟨by rfl, ?_⟩) ?_ ?_
       rotate_left
       ·intro w'
        go_simp
        with_reducible rfl
       rotate_left
       ·simp only [Act.put, qA, qB, qC, i64_w, i32_w]
        rfl
       refine pure_ (i := 5) (N := some 110) (v := ?_) (a' := ?_) (bv 14 53) rfl rfl (by kernel_rfl) (fun _ _ _ h => h) (Or.inl ⟨by rfl, ?_⟩) ?_ ?_
       rotate_left
       ·intro w'
        go_simp
        with_reducible rfl
       rotate_left
       ·simp only [Act.put, qA, qB, qC, i64_w, i32_w]
        rfl
       refine pure_ (i := 6) (N := some 111) (v := ?_) (a' := ?_) (bv 14 117) rfl rfl (by kernel_rfl) (fun _ _ _ h => h) (Or.inl ⟨by rfl, ?_⟩) ?_ ?_
       rotate_left
       ·intro w'
        go_simp
        with_reducible rfl
       rotate_left
       ·simp only [Act.put, qA, qB, qC, i64_w, i32_w]
        rfl
       refine take_ (i := 1) (N := some 106) (v := ?_) (a' := ?_) (bv 14 119) rfl rfl (by kernel_rfl) (fun _ _ _ h => h) (Or.inl ⟨by rfl, ?_⟩) hHeld ?_ ?_
       rotate_left
       ·rintro w' ⟨s0, s1, s2, s3⟩
        go_simp
        with_reducible rfl
       rotate_left
       ·simp only [Act.put, qA, qB, qC, i64_w, i32_w]
        rfl
       refine take_ (i := 3) (N := some 108) (v := ?_) (a' := ?_) (bv 14 127) rfl rfl (by kernel_rfl) (fun _ _ _ h => h) (Or.inl ⟨by rfl, ?_⟩) hHeld ?_ ?_
       rotate_left
       ·rintro w' ⟨s0, s1, s2, s3⟩
        go_simp
        with_reducible rfl
       rotate_left
       ·simp only [Act.put, qA, qB, qC, i64_w, i32_w]
        rfl
       refine take_ (i := 7) (N := some 112) (v := ?_) (a' := ?_) (bv 14 255) rfl rfl (by kernel_rfl) (fun _ _ _ h => h) (Or.inl ⟨by rfl, ?_⟩) hHeld ?_ ?_
       rotate_left
       ·rintro w' ⟨s0, s1, s2, s3⟩
        go_simp
        with_reducible rfl
       rotate_left
       ·simp only [Act.put, qA, qB, qC, i64_w, i32_w]
        rfl
       refine pure_ (i := 8) (N := some 113) (v := ?_) (a' := ?_) (bv 14 511) rfl rfl (by kernel_rfl) (fun _ _ _ h => h) (Or.inl ⟨by rfl, ?_⟩) ?_ ?_
       rotate_left
       ·intro w'
        go_simp
        with_reducible rfl
       rotate_left
       ·simp only [Act.put, qA, qB, qC, i64_w, i32_w]
        rfl
       refine take_ (i := 9) (N := some 114) (v := ?_) (a' := ?_) (bv 14 1023) rfl rfl (by kernel_rfl) (fun _ _ _ h => h) (Or.inl ⟨by rfl, ?_⟩) hHeld ?_ ?_
       rotate_left
       ·rintro w' ⟨s0, s1, s2, s3⟩
        go_simp
        with_reducible rfl
       rotate_left
       ·simp only [Act.put, qA, qB, qC, i64_w, i32_w]
        rfl
       refine one_ (i := 10) (N := some 115) (bv 14 2047) rfl rfl (by kernel_rfl) (by decide) (fun K hK => ?_)
       refine value_ (w1 := ?_) (v := ?_) (by rfl) rfl ?_ ?_
       rotate_left 2
       ·go_simp
        constructor
        ·rfl
        ·rfl
       have hs := HS.out.lit_ro kInt 3 (xs := [tg]) (inner := [.int .i64 tg]) (Reps.one (PK.scalar _) (Reps.none _ _)) (by simp)
       clear HS; have HS := aM hs; clear hs
       refine hK.out _ _ ⟨((HS.out.box 11 rfl).cell 2 rfl), ((HS.out.box 4 rfl).cell 2 rfl), (ro_cell HS.out 9 rfl i hi HSX.out), (pw_cell_below HS.out.below HYT.out)⟩ (fun hHeld => ?_)
       clear hK K
       refine norm_ (a' := ?_) ?_ ?_
       rotate_left
       ·show Act.put _ (some 115) _ = _
        simp only [Act.put, qA, qB, qC, i64_w, i32_w]
        rfl
       refine last_ (i := 11) (N := some 116) #[true, true, true, true, true, true, true, true, true, true, true, true, false, false] rfl rfl (by kernel_rfl) (by decide) (fun K hK => ?_)
       refine sgrow_step kInt 13 (by rfl) rfl (.tmp 106) (.tmp 115) 26 3 (.int .i64 0) 8 rfl Tryz.underlying26 info3' rfl (by decide) (by omega) _ (.slice (some ⟨_, 0, none⟩) [tg].length [tg].length) T [tg] rfl rfl HS.out rfl (HS.out.ro _ List.getElem?_concat_length) (by have := HPL2.out; simp; omega) ?_
       intro v1 w1 hs
       obtain ⟨t1, ht1⟩ : ∃ q, q = T ++ [tg] := ⟨_, rfl⟩
       rw [← ht1] at hs
       have HZt1 := aM ht1
       clear ht1
       obtain ⟨A2, c2, e2⟩ := hs.form 13 rfl
       subst e2
       clear HS; have HS := aM hs; clear hs
       have fz := (HS.out.box 11 rfl).open_ 2
       have yz := (HS.out.box 11 rfl).cell 2 rfl
       refine hK.out _ _ ?_
       clear hK K
       refine norm_ (a' := ?_) ?_ ?_
       rotate_left
       ·show Act.put _ (some 116) _ = _
        simp only [Act.put, qA, qB, qC, i64_w, i32_w]
        rfl
       refine pure_ (i := 12) (N := some 117) (v := ?_) (a' := ?_) (bv 14 8191) rfl rfl (by kernel_rfl) (fun _ _ _ h => h) (Or.inl ⟨by rfl, ?_⟩) ?_ ?_
       rotate_left
       ·intro w'
        go_simp
        with_reducible rfl
       rotate_left
       ·simp only [Act.put, qA, qB, qC, i64_w, i32_w]
        rfl
       refine last_ (i := 13) (N := none) #[true, true, true, true, true, true, true, true, true, true, true, true, true, true] rfl rfl (by kernel_rfl) (by decide) (fun K hK => ?_)
       refine skip_ (w1 := ?_) (by rfl) rfl ?_ ?_
       rotate_left
       ·go_simp
        rfl
       have hs := HS.out.set_box 11 rfl 2 (.slice A2 t1.length c2)
       clear HS; have HS := aM hs; clear hs
       refine hK.out _ _ ?_
       clear hK K
       refine done_ (by kernel_rfl) ?_
       go_wp2_with fail
       go_roundg k1
       case measure => omega
       case rel => exact ⟨i + 1, _, _, n1, t1, by go_num, ⟨by have := HJ.out; omega⟩, ⟨by rw [HZn1.out]; exact HN2.out⟩, ⟨by rw [HZt1.out]; exact HT2.out⟩, ⟨HS.out.take 14⟩⟩
def of12 (parts : List (List Sp)) (next : List (List Int)) (tags : List Int) : DfaS × Int := if SoundP parts next tags then (leastL parts next tags, 0) else (⟨[], [], []⟩, 1)
theorem sound_ok12 {parts : List (List Sp)} {next : List (List Int)} {tags : List Int} (h : SoundP parts next tags) : Ok12 parts.length tags.length next := fun i hi => by
 have hr := h.2.2 i (by rw [← h.1.2.2.2]; exact hi)
 exact ⟨hr.1, fun k hk => (hr.2.2 k (by rw [hr.1]; exact hk)).2⟩
set_option maxHeartbeats 4000000 in
theorem of12_calls (X : Nat → Prop) (vp vn vt : Value) (parts : List (List Sp)) (next : List (List Int)) (tags : List Int) (w : World) (hX : ∀ k, X k → k < w.heap.size) (hp : PV kSps X w vp parts) (hn : PV kRow X w vn next) (ht : PV kInt X w vt tags)
  (hs : ∀ p ∈ parts, Sm p ∧ p.length ≤ 10000) (huni : SoundP parts next tags → UniOk (bareP parts)) :
  Calls Tryz.prog 49 #[.agg #[vp, vn, vt]] w fun e w' => ∃ v0 v1 v2, e = .returned (.tuple #[.agg #[v0, v1, v2], .int .i64 (of12 parts next tags).2]) ∧ PV kSps X w' v0 (of12 parts next tags).1.parts ∧ PV kRow X w' v1 (of12 parts next tags).1.next ∧ PV kInt X w' v2 (of12 parts next tags).1.tags ∧ Below w.heap.size w w' := by
 have H0 := aM hp
 have H1 := aM hn
 have H2 := aM ht
 have HSM := aM hs
 have HUNI := aM huni
 obtain ⟨Ap, cp, rfl, _, _⟩ := hp.now
 obtain ⟨An, cn, rfl, _, _⟩ := hn.now
 obtain ⟨At, ct, rfl, _, _⟩ := ht.now
 have HS := aM (((Sep.start hX).push_box [.slice Ap parts.length cp, .slice An next.length cn, .slice At tags.length ct] 80).push_box' [.slice none 0 0, .slice none 0 0, .slice none 0 0] 80 (w.heap.size + 1) (by simp))
 obtain ⟨q, hq⟩ : ∃ q, q = decide (SoundP parts next tags) := ⟨_, rfl⟩
 have HQ := aM hq.symm
 obtain ⟨r, hr⟩ : ∃ r, r = of12 parts next tags := ⟨_, rfl⟩
 rw [← hr]
 have HR := aM (show r = if SoundP parts next tags then (leastL parts next tags, 0) else (⟨[], [], []⟩, 1) from hr)
 clear hp hn ht hs huni hX hq hr
 go_enter Tryz.func49, Tryz.ntmps49
 go_upto_if 6 with (first
  | (go_at_call 48; (with_reducible refine (dsound_calls _ _ _ _ parts next tags _ HS.out.lt (HS.out.arg H0.out) (HS.out.arg H1.out) (HS.out.arg H2.out) HSM.out).mono ?_); rintro ee w5 ⟨rfl, hb⟩; rw [HQ.out]; have hs := HS.out.call hb; clear hb; clear HS; have HS := aM hs; clear hs))
 obtain ⟨g1, hg1⟩ : ∃ g, g = w.heap.size + 1 := ⟨_, rfl⟩
 obtain ⟨g0, hg0⟩ : ∃ g, g = w.heap.size := ⟨_, rfl⟩
 rw [← hg1, ← hg0] at HS ⊢
 clear hg0 hg1
 have x0 := ((HS.out.box 1 rfl).cell 0 rfl)
 have x1 := ((HS.out.box 1 rfl).cell 1 rfl)
 have x2 := ((HS.out.box 1 rfl).cell 2 rfl)
 have f0 := (HS.out.box 1 rfl).open_ 0
 have f1 := (HS.out.box 1 rfl).open_ 1
 have f2 := (HS.out.box 1 rfl).open_ 2
 cases q
 case false =>
  have HE := aM (show r = (⟨[], [], []⟩, 1) by rw [HR.out, if_neg (of_decide_eq_false HQ.out)])
  go_wp2_with fail
  have HSF := aM (((HS.out.set_box 1 rfl 0 (.slice none 0 0)).set_box 1 rfl 1 (.slice none 0 0)).set_box 1 rfl 2 (.slice none 0 0))
  refine bodyPost_ret (results_ct rfl _ _ g1 80 #[.slice none 0 0, .slice none 0 0, .slice none 0 0] (0, 0) _ rfl (HSF.out.box 1 rfl) Tryz.underlying80 rfl (by kernel_rfl)) rfl ?_
  rw [HE.out]
  exact ⟨_, _, _, rfl, PV.nil _ _ _, PV.nil _ _ _, PV.nil _ _ _, HSF.out.below⟩
 case true =>
  have HSO := aM (of_decide_eq_true HQ.out)
  have HE := aM (show r = (leastL parts next tags, 0) by rw [HR.out, if_pos HSO.out])
  have y0 := ((HS.out.box 0 rfl).cell 0 rfl)
  have y1 := ((HS.out.box 0 rfl).cell 1 rfl)
  have y2 := ((HS.out.box 0 rfl).cell 2 rfl)
  clear x0 x1 x2 f0 f1 f2
  have HC := aM (show Ok12 parts.length tags.length next ∧ next.length = tags.length ∧ 0 < tags.length ∧ tags.length ≤ 1000000 ∧ parts.length ≤ 100000 by have h1 := HSO.out; exact ⟨sound_ok12 h1, h1.1.2.2.2, by have := h1.1.2.1; omega, by have := h1.1.2.2.1; omega, by have := h1.1.1; omega⟩)
  go_wp2_with (first
   | (go_at_call 60; (with_reducible refine (least_calls _ _ _ _ parts next tags _ HS.out.lt (HS.out.arg H0.out) (HS.out.arg H1.out) (HS.out.arg H2.out) HC.out.1 HC.out.2.1 HC.out.2.2.1 HC.out.2.2.2.1 HC.out.2.2.2.2 (fun x hx => (HSM.out x hx).1) (HUNI.out HSO.out)).mono ?_); rintro ee w6 ⟨v0, v1, v2, rfl, h0, h1, h2, hb⟩; have hs := ((HS.out.push_ro hb h0).push_ro (Below.refl _ _) (h1.to (fun _ _ h => Ys_ro h))).push_ro (Below.refl _ _) (h2.to (fun _ _ h => Ys_ro (Ys_ro h))); clear h0 h1 h2 hb y0 y1 y2; have x0 := ((hs.box 1 rfl).cell 0 rfl); have x1 := ((hs.box 1 rfl).cell 1 rfl); have x2 := ((hs.box 1 rfl).cell 2 rfl); have f0 := (hs.box 1 rfl).open_ 0; have f1 := (hs.box 1 rfl).open_ 1; have f2 := (hs.box 1 rfl).open_ 2; obtain ⟨B0, d0, e0⟩ := hs.rform 2 rfl; subst e0; obtain ⟨B1, d1, e1⟩ := hs.rform 3 rfl; subst e1; obtain ⟨B2, d2, e2⟩ := hs.rform 4 rfl; subst e2; clear HS; have HS := aM hs; clear hs))
  have HSF := aM (((HS.out.set_box 1 rfl 0 (.slice B0 (leastL parts next tags).parts.length d0)).set_box 1 rfl 1 (.slice B1 (leastL parts next tags).next.length d1)).set_box 1 rfl 2 (.slice B2 (leastL parts next tags).tags.length d2))
  refine bodyPost_ret (results_ct rfl _ _ g1 80 #[.slice B0 (leastL parts next tags).parts.length d0, .slice B1 (leastL parts next tags).next.length d1, .slice B2 (leastL parts next tags).tags.length d2] (0, 0) _ rfl (HSF.out.box 1 rfl) Tryz.underlying80 rfl (by kernel_rfl)) rfl ?_
  rw [HE.out]
  exact ⟨_, _, _, rfl, HSF.out.res 2 rfl, HSF.out.res 3 rfl, HSF.out.res 4 rfl, HSF.out.below⟩
end Go.Proofs.YtplhfgobeicegaaGreatDoor.P
