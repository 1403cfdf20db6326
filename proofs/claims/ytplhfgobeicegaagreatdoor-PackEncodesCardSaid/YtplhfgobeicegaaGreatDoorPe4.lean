/- Part 4 of the proof: PX6, PX7, PX8, WRepsOne, WInv, Px0, S01. -/
import Derived.Laws.StructEq
import Derived.Lib.SlBytesConst
import Derived.Maps.OwnOps
import Derived.Maps.OwnSet
import Derived.Test.YtplhfgobeicegaaGreatDoorProg
import Derived.Test.YtplhfgobeicegaaGreatDoorPe3
namespace Go.Proofs.YtplhfgobeicegaaGreatDoor.PX
open Go Go.RowKit Go.Proofs.YtplhfgobeicegaaGreatDoorW.PrintWords
set_option linter.unusedVariables false
section
variable {α : Type} {enc : α → Value} {h1 : ∀ x, (enc x).oneCell' = true} {e b : Nat} {X : Nat → Prop} {w w0 : World} {v : Value} {xs : List α} {L : List Item}
theorem Own.toRs (h : Own (Kd.scalar enc h1) e X w b v xs) : Kd.R (Kd.scalar enc h1) e w b (fun k => v.ownBlock = some k) v xs := by
 obtain ⟨⟨inner, ho, hr⟩, _⟩ := h
 refine ⟨fun k hk => hk, inner, ho, hr.imp_ (fun p c hp => ?_)⟩
 obtain rfl := PK.of_scalar hp
 rfl
theorem Own.ofRs {ok : Nat → Prop} (h : Kd.R (Kd.scalar enc h1) e w b ok v xs) (hX : ∀ k, v.ownBlock = some k → X k) : Own (Kd.scalar enc h1) e X w b v xs := by
 obtain ⟨_, inner, ho, hr⟩ := h
 refine ⟨⟨inner, ho, hr.imp_ (fun p c hp => ?_)⟩, hX⟩
 obtain rfl : c = [enc p] := hp
 exact PK.scalar p
theorem own_sc (z : α) (h : Own (Kd.scalar enc h1) e X w b v xs) (j : Nat) (hj : j < xs.length) :
  ∃ g c, v = .slice (some ⟨g, 0, none⟩) xs.length c ∧ b ≤ g ∧ g < w.heap.size ∧ w.cell? ⟨g, j, none⟩ = some (enc (xs.getD j z)) ∧ w.frozen? ⟨g, j, none⟩ = false ∧
   ∀ q, Own (Kd.scalar enc h1) e X (w.setCell ⟨g, j, none⟩ (enc q)) b v (xs.set j q) := by
 have hR := h.toRs
 obtain ⟨g, c, rfl, hg, hlt, _⟩ := Kd.R_form hR (by omega)
 obtain ⟨cs, h1', h2, h3, h4⟩ := Kd.R_elem hR z (j : Int) (by omega) (by omega)
 rw [Int.toNat_natCast] at h2
 obtain rfl : cs = [enc (xs.getD j z)] := h2
 simp only [Int.toNat_natCast] at h3 h4
 have hsz : (Kd.scalar enc h1).sz = 1 := rfl
 have y1 := h3 0 _ rfl
 have y4 := h4 0
 rw [hsz] at y1 y4
 refine ⟨g, c, rfl, hg, hlt, by simpa using y1, by simpa using y4, fun q => ?_⟩
 have hs := (Kd.R_seg (seg := [enc q]) (j := 0) (x' := q) (okp := fun k => (Value.slice (some ⟨g, 0, none⟩) xs.length c).ownBlock = some k ∧ k ≠ g) hR (j : Int) (by omega) (by omega) h1' (by simpa using h3) (by show 0 + 1 ≤ 1; omega) rfl (fun _ h => h)).1
 exact Own.ofRs (by simpa [World.setCells, hsz] using hs) h.2
theorem Sep.sc (z : α) (h : Sep X w0 w L) (i : Nat) (hi : L[i]? = some (.row (Kd.scalar enc h1) e v xs)) (j : Nat) (hj : j < xs.length) :
  ∃ g c, v = .slice (some ⟨g, 0, none⟩) xs.length c ∧ w.cell? ⟨g, j, none⟩ = some (enc (xs.getD j z)) ∧ w.frozen? ⟨g, j, none⟩ = false ∧
   ∀ q, Sep X w0 (w.setCell ⟨g, j, none⟩ (enc q)) (L.set i (.row (Kd.scalar enc h1) e v (xs.set j q))) := by
 obtain ⟨g, c, h1', h2, h3, h4, h5, h6⟩ := own_sc z (h.row i hi) j hj
 refine ⟨g, c, h1', h4, h5, fun q => ?_⟩
 have hblk : (Item.row (Kd.scalar enc h1) e v xs).blk = some g := by rw [h1']; rfl
 exact h.update hi (fun k _ hk => hk) (.setCell (p := ⟨g, j, none⟩) w hblk _) ((h6 q).to (fun k' hk' hk => (by
  rcases hk with hx | ⟨c', hc', hcb⟩
  ·exact .inl hx
  ·rcases mem_set hc' with rfl | ⟨j', _, hc''⟩
   ·exact .inr ⟨_, List.mem_of_getElem? hi, hcb⟩
   ·exact .inr ⟨c', List.mem_of_getElem? hc'', hcb⟩)) (fun k' hk' => Ys_set hi hk'))
end
abbrev SlT := Option Addr × Nat × Nat
def encS (t : SlT) : Value := .slice t.1 t.2.1 t.2.2
abbrev kSl : Kd SlT := Kd.scalar encS (fun _ => rfl)
section
variable {α : Type} {d : Kd α} {e e2 b : Nat} {X : Nat → Prop} {w w0 : World} {v : Value} {us : List SlT} {gs : List (List α)} {L : List Item}
def rows (d : Kd α) (e : Nat) (us : List SlT) (gs : List (List α)) : List Item := List.zipWith (fun u g => Item.row d e (encS u) g) us gs
theorem rows_at (i : Nat) (h : us.length = gs.length) (hi : i < gs.length) : (rows d e us gs)[i]? = some (.row d e (encS (us.getD i (none, 0, 0))) (gs.getD i [])) := by
 simp [rows, List.getD_eq_getElem?_getD, hi, h]
theorem rows_set (i : Nat) (h : us.length = gs.length) (u : SlT) (g : List α) : (rows d e us gs).set i (.row d e (encS u) g) = rows d e (us.set i u) (gs.set i g) := by
 unfold rows
 refine List.ext_getElem? (fun j => ?_)
 simp only [List.getElem?_zipWith, List.getElem?_set, List.length_zipWith, h, Nat.min_self]
 by_cases c : i = j
 ·subst c
  by_cases c2 : i < gs.length
  ·simp [c2]
  ·simp [c2]
 ·simp only [if_neg c]
theorem rows_snoc (h : us.length = gs.length) (u : SlT) (g : List α) : rows d e (us ++ [u]) (gs ++ [g]) = rows d e us gs ++ [.row d e (encS u) g] := by
 unfold rows
 rw [List.zipWith_append h]
 rfl
theorem rows_len (h : us.length = gs.length) : (rows d e us gs).length = gs.length := by simp [rows, h]
theorem Sep.res_rows {E : Nat} (h : Sep X w0 w L) (i n : Nat) (hi : L[i]? = some (.row kSl e2 v us)) (hlen : us.length = gs.length) (hr : ∀ j, j < gs.length → L[n + j]? = some (.row d e (encS (us.getD j (none, 0, 0))) (gs.getD j []))) (hin : i < n) : PV (Kd.slice E d) X w v gs := by
 have ho := h.row i hi
 have hX : ∀ k, X k → k < w0.heap.size := h.old
 have hv := ho.base
 obtain ⟨⟨inner, hown, hrep⟩, _⟩ := ho
 refine Own.done (e := e2) (b := w0.heap.size) ⟨⟨inner, by rw [← hlen]; exact hown, ?_⟩, fun k hk => .inr hk⟩ hX
 refine ⟨by rw [hrep.1, hlen]; rfl, fun j p hj => ?_⟩
 obtain ⟨hjl, hp⟩ := List.getElem?_eq_some_iff.1 hj
 have hu := hrep.2 j (us[j]'(by omega)) (List.getElem?_eq_getElem (by omega))
 have hc3 := PK.of_scalar hu
 have hro := hr j hjl
 have hpv : PV d (Xp X v) w (encS (us.getD j (none, 0, 0))) (gs.getD j []) := by
  refine (h.row (n + j) hro).sealRo ?_ ?_
  ·rintro k hk (hx | hx)
   ·exact .inl hx
   ·exact .inr ⟨_, List.mem_of_getElem? hi, hx⟩
  ·rintro k hk (hx | hx)
   ·have := h.old k hx
    have := (h.row (n + j) hro).base k hk
    omega
   ·exact h.apart hi hro (by omega) k hx hk
 have e1 : gs.getD j [] = p := by rw [List.getD_eq_getElem?_getD, hj]; rfl
 have e3 : us.getD j (none, 0, 0) = us[j]'(by omega) := by simp [List.getD_eq_getElem?_getD, show j < us.length by omega]
 rw [e1, e3] at hpv
 show PK (Kd.slice E d) _ _ _ (List.take kSl.sz (List.drop (j * kSl.sz) inner))
 rw [hc3]
 exact PK.slice hpv
end
theorem Sep.cut {X : Nat → Prop} {w0 w : World} {L : List Item} (h : Sep X w0 w L) (n k : Nat) : Sep X w0 w (L.take n ++ L.drop (n + k)) := h.sub (by
 have := (List.Sublist.refl (L.take n)).append (List.drop_sublist k (L.drop n))
 rwa [List.drop_drop, List.take_append_drop] at this)
theorem atl {L M : List Item} {i : Nat} {x : Item} (h : L[i]? = some x) : (L ++ M)[i]? = some x := by
 rw [List.getElem?_append_left (List.getElem?_eq_some_iff.1 h).1]; exact h
theorem grp_upd {X : Nat → Prop} {w0 w : World} {a b r : Item} {α : Type} {d : Kd α} {e : Nat} {us : List SlT} {gs : List (List α)} {n : Nat} {v : Value} {z : List α} (hu : us.length = gs.length) (hn : n < gs.length)
  (h : Sep X w0 w ((([a, b] ++ rows d e us gs) ++ [r]).set (n + 2) (.row d e v z))) : ∃ A c, v = .slice A z.length c ∧ Sep X w0 w ([a, b] ++ rows d e (us.set n (A, z.length, c)) (gs.set n z)) := by
 have hl : n < (rows d e us gs).length := by rw [rows_len hu]; exact hn
 obtain ⟨A, c, e1⟩ := h.form (n + 2) (d := d) (e := e) (xs := z) (v := v) (by
  show ((rows d e us gs ++ [r]).set n _)[n]? = _
  rw [List.getElem?_set, if_pos rfl, if_pos (by rw [lA]; omega)])
 subst e1
 refine ⟨A, c, rfl, ?_⟩
 have h3 : Sep X w0 w (a :: b :: ((rows d e us gs ++ [r]).set n (.row d e (encS (A, z.length, c)) z))) := h
 rw [List.set_append_left _ _ hl, rows_set n hu] at h3
 exact h3.sub (List.Sublist.cons_cons _ (List.Sublist.cons_cons _ (List.sublist_append_left _ _)))
section
variable {α : Type} {d : Kd α} {e : Nat} {X : Nat → Prop} {w0 w w1 : World} {L : List Item} {v : Value} {xs : List α}
theorem Own.base_le {Y : Nat → Prop} {b b' : Nat} (h : Own d e Y w b v xs) (hb : b' ≤ b) : Own d e Y w b' v xs := by
 obtain ⟨⟨inner, ho, hr⟩, hx⟩ := h
 exact ⟨⟨inner, own_weaken ho hb, hr⟩, hx⟩
theorem Sep.push_row (h : Sep X w0 w L) (hb : Below w.heap.size w w1) (ho : Own d e (Xp (Ys X L) v) w1 w.heap.size v xs) : Sep X w0 w1 (L ++ [.row d e v xs]) := by
 refine h.push hb (fun k hk => ho.base k hk) ((ho.base_le h.below.size).iff (fun k => ?_))
 constructor
 ·rintro (hx | ⟨c, hc, hcb⟩)
  ·exact .inl (.inl hx)
  ·rcases List.mem_append.1 hc with hc | hc
   ·exact .inl (.inr ⟨c, hc, hcb⟩)
   ·obtain rfl := List.mem_singleton.1 hc
    exact .inr hcb
 ·rintro ((hx | ⟨c, hc, hcb⟩) | hk)
  ·exact .inl hx
  ·exact .inr ⟨c, List.mem_append_left _ hc, hcb⟩
  ·exact .inr ⟨_, List.mem_append_right _ (List.mem_singleton.2 rfl), hk⟩
theorem Sep.lit_ro' {xs : List α} {inner : List Value} (HS : Sep X w0 w L) (b : Nat) (hb : b = w.heap.size) (d : Kd α) (e : Nat) (hrep : Reps (PK d (Ys X L) w) d.sz xs inner) (hm : xs.length ≤ 9223372036854775807) :
  Sep X w0 (w.alloc (.cells inner.toArray e)) (L ++ [.ro d (.slice (some ⟨b, 0, none⟩) xs.length xs.length) xs]) := by
 subst hb
 exact HS.lit_ro d e hrep hm
theorem Ys_app {M : List Item} {k : Nat} (h : Ys X L k) : Ys X (L ++ M) k := h.elim .inl (fun ⟨it, hm, hb⟩ => .inr ⟨it, List.mem_append_left _ hm, hb⟩)
theorem Sep.res_own (h : Sep X w0 w L) (i : Nat) (hi : L[i]? = some (.row d e v xs)) : Own d e (Xp X v) w w0.heap.size v xs :=
 (h.row i hi).to (fun k _ hk => hk.elim .inl (fun hk => .inr ⟨_, List.mem_of_getElem? hi, hk⟩)) (fun k hk => .inr hk)
end
end Go.Proofs.YtplhfgobeicegaaGreatDoor.PX
namespace Go.Proofs.YtplhfgobeicegaaGreatDoor.PX
open Go Go.RowKit Go.Proofs.YtplhfgobeicegaaGreatDoorW.PrintWords
open Go.WideElems (Fit rg)
open Go.Maps (Keyed)
set_option linter.unusedVariables false
theorem convert_ad {P : Program} (w : World) {src e dst : TypeId} (hs : P.underlying src = some (.slice e)) (he : P.underlying e = some (.int .u8)) (hd : P.underlying dst = some .string) (ad : Addr) (len cap : Nat) (xs : List Int) (hlen : xs.length = len)
  (hcell : ∀ i, i < len → w.cell? (ad.add i) = some (.int .u8 (xs.getD i 0))) : (convert src dst (.slice (some ad) len cap)).run P w = .ok (.string (strOfNums xs)) w := by
 have hl : (loadCells ad len).run P w = .ok (xs.map (Value.int .u8)).toArray w := by
  have := run_loadCells_list (P := P) w ad (xs.map (Value.int .u8)) (fun j v hj => by
   have hjl : j < xs.length := by
    rcases Nat.lt_or_ge j xs.length with h | h
    ·exact h
    ·simp [List.getElem?_eq_none (show (xs.map (Value.int .u8)).length ≤ j by simpa using h)] at hj
   rw [hcell j (by omega)]
   simp [List.getElem?_eq_getElem hjl] at hj
   subst hj
   simp [List.getD, List.getElem?_eq_getElem hjl])
  simpa [hlen] using this
 rw [run_convert_bytes_string w src dst e _ len cap hs he hd, run_bytesToString w _ len cap xs hl, foldl_push_bytes]
 simp [strOfNums, ByteArray.empty, ByteArray.emptyWithCapacity]
 rfl
section
variable {P : Program} {X : Nat → Prop} {w0 w : World} {L : List Item} {v : Value} {xs : List Int} {src e dst : TypeId}
theorem PV.str (h : PV (Kd.int .u8) X w v xs) (hs : P.underlying src = some (.slice e)) (he : P.underlying e = some (.int .u8)) (hd : P.underlying dst = some .string) : (convert src dst v).run P w = .ok (.string (strOfNums xs)) w := by
 obtain ⟨A, c, rfl, _, hc⟩ := h.now
 rcases A with _ | ad
 ·have h0 : xs = [] := by
   rcases Nat.eq_zero_or_pos xs.length with h0 | h0
   ·exact List.eq_nil_of_length_eq_zero h0
   ·obtain ⟨ad, h, _⟩ := hc.2.2 h0
    cases h
  subst h0
  exact run_convert_bytes_nil w src e hs he _ _ dst hd
 ·refine convert_ad w hs he hd ad _ c xs rfl (fun i hi => ?_)
  obtain ⟨ad2, c2, cs, e2, hl, hK, hcell⟩ := h.elem (0 : Int) i hi (by decide)
  cases e2
  obtain rfl := hK.of_scalar
  have h1 := hcell 0 _ (show ([Value.int .u8 (xs.getD i 0)] : List Value)[0]? = some _ from rfl)
  have h2 : i * (Kd.int .u8).sz + 0 = i := by show i * 1 + 0 = i; omega
  rwa [h2] at h1
theorem Sep.str (h : Sep X w0 w L) (i d : Nat) (hi : L[i]? = some (.row (Kd.int .u8) d v xs)) (hs : P.underlying src = some (.slice e)) (he : P.underlying e = some (.int .u8)) (hd : P.underlying dst = some .string) : (convert src dst v).run P w = .ok (.string (strOfNums xs)) w :=
 (h.res_row i hi).str hs he hd
end
theorem str_inj : ∀ (a b : List Int), (∀ x ∈ a, 0 ≤ x ∧ x < 256) → (∀ x ∈ b, 0 ≤ x ∧ x < 256) → a.map (fun n => UInt8.ofNat n.toNat) = b.map (fun n => UInt8.ofNat n.toNat) → a = b
 | [], [], _, _, _ => rfl
 | [], _ :: _, _, _, h => by simp at h
 | _ :: _, [], _, _, h => by simp at h
 | x :: a, y :: b, ha, hb, h => by
  simp only [List.map_cons, List.cons.injEq] at h
  have hx := ha x List.mem_cons_self
  have hy := hb y List.mem_cons_self
  have h1 := congrArg UInt8.toNat h.1
  simp only [UInt8.toNat_ofNat'] at h1
  rw [Nat.mod_eq_of_lt (by omega), Nat.mod_eq_of_lt (by omega)] at h1
  rw [str_inj a b (fun z hz => ha z (List.mem_cons_of_mem _ hz)) (fun z hz => hb z (List.mem_cons_of_mem _ hz)) h.2, show x = y by omega]
theorem strOfNums_inj {a b : List Int} (ha : ∀ x ∈ a, 0 ≤ x ∧ x < 256) (hb : ∀ x ∈ b, 0 ≤ x ∧ x < 256) : strOfNums a = strOfNums b ↔ a = b := by
 constructor
 ·intro h
  refine str_inj a b ha hb ?_
  rw [← strOfNums_data, ← strOfNums_data, h]
 ·intro h; rw [h]
theorem Sep.box_row {X : Nat → Prop} {w0 w : World} {L : List Item} {k : IntKind} {g e o : Nat} {vals : List Value} {D : List Int} (h : Sep X w0 w (L ++ [.box g e vals])) (hv : ∀ j, j < D.length → vals[o + j]? = some (.int k (D.getD j 0))) (hD : D.length ≤ 9223372036854775807) :
  PV (Kd.int k) (Ys X L) w (.slice (some ⟨g, o, none⟩) D.length D.length) D := by
 have hb : (L ++ [Item.box g e vals])[L.length]? = some (.box g e vals) := by rw [List.getElem?_append_right (Nat.le_refl _), Nat.sub_self]; rfl
 refine ⟨_, _, rfl, Nat.le_refl _, fun w' ha => ?_⟩
 have hg : w'.heap[g]? = w.heap[g]? := by
  refine ha.block g (h.box _ hb).lt ?_
  rintro (hx | ⟨it, hm, hk⟩)
  ·have := h.old g hx
   have := h.box_le _ hb
   omega
  ·obtain ⟨j, hj⟩ := List.mem_iff_getElem?.1 hm
   have hjl : j < L.length := (List.getElem?_eq_some_iff.1 hj).1
   exact h.apart (by rw [List.getElem?_append_left hjl]; exact hj) hb (by omega) g hk rfl
 refine Kd.C_of_reads (d := (0 : Int)) ⟨rfl, hD, fun _ => ⟨_, rfl, fun j hj => ?_⟩⟩
 have hc := ((h.box _ hb).keep hg).cell (o + j) (hv j hj)
 have e1 : (⟨g, o, none⟩ : Addr).add j = ⟨g, o + j, none⟩ := by
  unfold Addr.add
  split
  ·next h0 => subst h0; rfl
  ·rfl
 rw [e1]
 exact hc
theorem Sep.push_bytes {X : Nat → Prop} {w0 w : World} {L : List Item} (h : Sep X w0 w L) (k : IntKind) (xs : List Int) (e : Nat) (fr : Nat × Nat) (hl : xs.length ≤ 9223372036854775807) :
  Sep X w0 (w.alloc (.cells (xs.map (Value.int k)).toArray e fr)) (L ++ [.ro (Kd.int k) (.slice (some ⟨w.heap.size, 0, none⟩) xs.length xs.length) xs]) := by
 refine h.push_ro (below_alloc (Below.refl _ _) _) ⟨_, _, rfl, Nat.le_refl _, fun w' ha => ?_⟩
 have hb : (w.alloc (.cells (xs.map (Value.int k)).toArray e fr)).heap[w.heap.size]? = some (.cells (xs.map (Value.int k)).toArray e fr) := by
  show (w.heap.push _)[w.heap.size]? = _
  exact Array.getElem?_push_size
 have hg : w'.heap[w.heap.size]? = some (.cells (xs.map (Value.int k)).toArray e fr) := by
  rw [← hb]
  refine ha.block _ (Array.getElem?_eq_some_iff.1 hb).1 ?_
  intro hx
  have := h.lt _ hx
  omega
 refine Kd.C_of_reads (d := (0 : Int)) ⟨rfl, hl, fun _ => ⟨_, rfl, fun j hj => ?_⟩⟩
 have e1 : (⟨w.heap.size, 0, none⟩ : Addr).add j = ⟨w.heap.size, j, none⟩ := by
  unfold Addr.add
  split
  ·next h0 => subst h0; rfl
  ·simp
 rw [e1]
 simp [World.cell?, hg, List.getElem?_eq_getElem hj, List.getD_eq_getElem?_getD]
def MapO (P : Program) (k e : TypeId) (n : Nat) (D : DataW Unit) (o : Obj) : Prop := ∃ es clock, o = .map es clock ∧ Fit P k (plainElem (H := Unit) P e) es clock ∧ es.size ≤ n ∧ D = .map ((es.toList.map (rg P k (plainElem P e))).foldr DataW.insert [])
section
variable {P : Program} {X : Nat → Prop} {w0 w w1 : World} {L : List Item} {k e : TypeId} {n n1 g : Nat} {D D1 : DataW Unit}
theorem Sep.map (h : Sep X w0 w L) (i : Nat) (hi : L[i]? = some (.obj g (MapO P k e n D))) : w.ownsMap P k (plainElem P e) g n D := by
 obtain ⟨⟨o, h1, es, clock, rfl, h2, h3, h4⟩, _⟩ := h.at_ hi
 exact ⟨es, clock, h1, h2, h3, h4⟩
theorem obj_of_map (h : w.ownsMap P k (plainElem P e) g n D) : ∃ o, w.heap[g]? = some o ∧ MapO P k e n D o := by
 obtain ⟨es, clock, h1, h2, h3, h4⟩ := h
 exact ⟨_, h1, es, clock, rfl, h2, h3, h4⟩
theorem Sep.push_map (P : Program) (k e : TypeId) (h : Sep X w0 w L) : Sep X w0 (w.alloc (.map #[] 0)) (L ++ [.obj w.heap.size (MapO P k e 0 (.map []))]) :=
 h.push (below_alloc (Below.refl _ _) _) (fun k hk => by cases hk; exact Nat.le_refl _) ⟨obj_of_map (World.ownsMap_made w P k _), h.below.size⟩
theorem Sep.set_map (h : Sep X w0 w L) (i : Nat) (hi : L[i]? = some (.obj g (MapO P k e n D))) (hm : w1.ownsMap P k (plainElem P e) g n1 D1) (ht : w.mapTurned w1 g) : Sep X w0 w1 (L.set i (.obj g (MapO P k e n1 D1))) :=
 h.update hi (fun k _ hk => hk) (.of_grown ht.grown (fun k hk => by cases hk; rfl)) ⟨obj_of_map hm, (h.at_ hi).2⟩
end
end Go.Proofs.YtplhfgobeicegaaGreatDoor.PX
namespace Go.Proofs.YtplhfgobeicegaaGreatDoorW.PrintWords
theorem Reps.one {α : Type} {R : α → List Value → Prop} {ps : List α} {cs : List Value} {p : α} {v : Value} (hp : R p [v]) (h : Reps R 1 ps cs) : Reps R 1 (p :: ps) (v :: cs) := by
 refine ⟨by simp [h.1], fun j q hq => ?_⟩
 cases j with
 | zero =>
  simp only [List.getElem?_cons_zero, Option.some.injEq] at hq
  subst hq
  simpa using hp
 | succ j =>
  simp only [List.getElem?_cons_succ] at hq
  have h1 := h.2 j q hq
  simpa [Nat.mul_one] using h1
theorem Reps.front {α : Type} {R : α → List Value → Prop} {size : Nat} {ps : List α} {cs c all : List Value} {p : α} (hp : R p c) (hc : c.length = size) (h : Reps R size ps cs) (ha : c ++ cs = all) : Reps R size (p :: ps) all := by
 subst ha
 refine ⟨by rw [List.length_append, hc, h.1, List.length_cons, Nat.succ_mul, Nat.add_comm], fun j q hq => ?_⟩
 cases j with
 | zero =>
  simp only [List.getElem?_cons_zero, Option.some.injEq] at hq
  subst hq
  rw [Nat.zero_mul, List.drop_zero, List.take_append_of_le_length (by omega), List.take_of_length_le (by omega)]
  exact hp
 | succ j =>
  simp only [List.getElem?_cons_succ] at hq
  have h1 := h.2 j q hq
  rw [Nat.succ_mul, List.drop_append, List.drop_of_length_le (by rw [hc]; exact Nat.le_add_left _ _), List.nil_append, hc, Nat.add_sub_cancel]
  exact h1
theorem Reps.c2 {α : Type} {R : α → List Value → Prop} {ps : List α} {cs : List Value} {p : α} {va vb : Value} (hp : R p [va, vb]) (h : Reps R 2 ps cs) : Reps R 2 (p :: ps) (va :: vb :: cs) := Reps.front hp rfl h rfl
theorem Reps.c3 {α : Type} {R : α → List Value → Prop} {ps : List α} {cs : List Value} {p : α} {va vb vc : Value} (hp : R p [va, vb, vc]) (h : Reps R 3 ps cs) : Reps R 3 (p :: ps) (va :: vb :: vc :: cs) := Reps.front hp rfl h rfl
theorem Reps.c4 {α : Type} {R : α → List Value → Prop} {ps : List α} {cs : List Value} {p : α} {va vb vc vd : Value} (hp : R p [va, vb, vc, vd]) (h : Reps R 4 ps cs) : Reps R 4 (p :: ps) (va :: vb :: vc :: vd :: cs) := Reps.front hp rfl h rfl
theorem Reps.c5 {α : Type} {R : α → List Value → Prop} {ps : List α} {cs : List Value} {p : α} {va vb vc vd ve : Value} (hp : R p [va, vb, vc, vd, ve]) (h : Reps R 5 ps cs) : Reps R 5 (p :: ps) (va :: vb :: vc :: vd :: ve :: cs) := Reps.front hp rfl h rfl
theorem Reps.c6 {α : Type} {R : α → List Value → Prop} {ps : List α} {cs : List Value} {p : α} {va vb vc vd ve vf : Value} (hp : R p [va, vb, vc, vd, ve, vf]) (h : Reps R 6 ps cs) : Reps R 6 (p :: ps) (va :: vb :: vc :: vd :: ve :: vf :: cs) := Reps.front hp rfl h rfl
theorem Reps.c7 {α : Type} {R : α → List Value → Prop} {ps : List α} {cs : List Value} {p : α} {va vb vc vd ve vf vg : Value} (hp : R p [va, vb, vc, vd, ve, vf, vg]) (h : Reps R 7 ps cs) : Reps R 7 (p :: ps) (va :: vb :: vc :: vd :: ve :: vf :: vg :: cs) := Reps.front hp rfl h rfl
theorem Reps.c8 {α : Type} {R : α → List Value → Prop} {ps : List α} {cs : List Value} {p : α} {va vb vc vd ve vf vg vh : Value} (hp : R p [va, vb, vc, vd, ve, vf, vg, vh]) (h : Reps R 8 ps cs) : Reps R 8 (p :: ps) (va :: vb :: vc :: vd :: ve :: vf :: vg :: vh :: cs) := Reps.front hp rfl h rfl
theorem Reps.c9 {α : Type} {R : α → List Value → Prop} {ps : List α} {cs : List Value} {p : α} {va vb vc vd ve vf vg vh vi : Value} (hp : R p [va, vb, vc, vd, ve, vf, vg, vh, vi]) (h : Reps R 9 ps cs) : Reps R 9 (p :: ps) (va :: vb :: vc :: vd :: ve :: vf :: vg :: vh :: vi :: cs) := Reps.front hp rfl h rfl
theorem Reps.c10 {α : Type} {R : α → List Value → Prop} {ps : List α} {cs : List Value} {p : α} {va vb vc vd ve vf vg vh vi vj : Value} (hp : R p [va, vb, vc, vd, ve, vf, vg, vh, vi, vj]) (h : Reps R 10 ps cs) : Reps R 10 (p :: ps) (va :: vb :: vc :: vd :: ve :: vf :: vg :: vh :: vi :: vj :: cs) := Reps.front hp rfl h rfl
end Go.Proofs.YtplhfgobeicegaaGreatDoorW.PrintWords
namespace Go.Proofs.YtplhfgobeicegaaGreatDoorW.PrintLast
def up (b : Nat → Bool) (i : Nat) : Nat → Bool := fun j => if j = i then true else b j
section
variable {P : Program} {ops : Array Oper} {Q : Exit → Act → World → Prop} {md : Region.Mode} {T : Bool × List (List Nat × List Nat)} {B : List Nat} {O : List Nat} {b : Nat → Bool} {i j n : Nat}
end
end Go.Proofs.YtplhfgobeicegaaGreatDoorW.PrintLast
namespace Go.Proofs.YtplhfgobeicegaaGreatDoor.P
open Go.RowKit Go.Proofs.YtplhfgobeicegaaGreatDoorW.PrintWords Go.Proofs.YtplhfgobeicegaaGreatDoorW.PrintLast Go.Proofs.YtplhfgobeicegaaGreatDoorW.PrintMore
attribute [local go_sem] max2_int min2_int max_two min_two max_three min_three max_four min_four
set_option linter.unusedVariables false
set_option linter.unusedSimpArgs false
theorem info3 : (Tryz.prog.info? 3).map (fun i => (i.zero, i.size, i.bytes)) = some (some (.int .i64 0), 1, 8) := by kernel_rfl
theorem info5 : (Tryz.prog.info? 5).map (fun i => (i.zero, i.size, i.bytes)) = some (some (.int .u8 0), 1, 1) := by kernel_rfl
theorem info26 : (Tryz.prog.info? 26).map (fun i => (i.zero, i.size, i.bytes)) = some (some (.slice none 0 0), 1, 24) := by kernel_rfl
theorem info91 : (Tryz.prog.info? 91).map (fun i => (i.zero, i.size, i.bytes)) = some (some (.slice none 0 0), 1, 24) := by kernel_rfl
theorem info124 : (Tryz.prog.info? 124).map (fun i => (i.zero, i.size, i.bytes)) = some (some (.agg #[(.int .i64 0), (.int .i64 0)]), 2, 16) := by kernel_rfl
theorem info139 : (Tryz.prog.info? 139).map (fun i => (i.zero, i.size, i.bytes)) = some (some (.slice none 0 0), 1, 24) := by kernel_rfl
theorem info141 : (Tryz.prog.info? 141).map (fun i => (i.zero, i.size, i.bytes)) = some (some (.agg #[(.slice none 0 0), (.int .i64 0)]), 2, 32) := by kernel_rfl
theorem info143 : (Tryz.prog.info? 143).map (fun i => (i.zero, i.size, i.bytes)) = some (some (.agg #[(.int .u8 0), (.int .u8 0)]), 2, 2) := by kernel_rfl
structure S124 where
 f0 : Int
 f1 : Int
def z124 : S124 := ⟨(0 : Int), (0 : Int)⟩
def k124 : Kd S124 := Kd.iso (Kd.pair (Kd.int .i64) (Kd.int .i64)) (fun x : S124 => (x.f0, x.f1))
theorem k124_open {w : World} {x : S124} {cs : List Value} (h : k124.K w x cs) : cs = [.int .i64 x.f0, .int .i64 x.f1] := by
 obtain ⟨_, _, rfl, rfl, rfl⟩ := h
 exact rfl
theorem k124_openM {w : World} {base : Nat} {ok : Nat → Prop} {x : S124} {cs : List Value} (h : k124.M w base ok x cs) : cs = [.int .i64 x.f0, .int .i64 x.f1] := by
 obtain ⟨_, _, rfl, rfl, rfl⟩ := h
 exact rfl
theorem k124_mk (w : World) (x : S124)  : k124.K w x [.int .i64 x.f0, .int .i64 x.f1] := ⟨[.int .i64 x.f0], [.int .i64 x.f1], rfl, rfl, rfl⟩
theorem k124_mkM (w : World) (base : Nat) (ok : Nat → Prop) (x : S124)  : k124.M w base ok x [.int .i64 x.f0, .int .i64 x.f1] := ⟨[.int .i64 x.f0], [.int .i64 x.f1], rfl, rfl, rfl⟩
def rd_T124 (xs : List S124) (i : Int) : S124 := xs.getD i.toNat z124
theorem at_T124 {w : World} {A : Option Addr} {n : Nat} {xs : List S124} (h : Kd.C k124 w A n xs) (i : Int) (h0 : 0 ≤ i) (h1 : i < n) : ∃ ad , A = some ad ∧ w.cell? (ad.add (i.toNat * 2)) = some (.int .i64 (rd_T124 xs i).f0) ∧ w.cell? ⟨(ad.add (i.toNat * 2)).block, (ad.add (i.toNat * 2)).off + 1, none⟩ = some (.int .i64 (rd_T124 xs i).f1) := by
 obtain ⟨ad, c, e, _, hK, hc0⟩ := Kd.C_get h z124 i h0 h1
 have hc : ∀ j u, c[j]? = some u → w.cell? (ad.add (i.toNat * 2 + j)) = some u := hc0
 obtain rfl := k124_open hK
 exact ⟨ad, e, hc 0 _ rfl, by rw [← add_field _ _ 1 (by omega)]; exact hc 1 _ rfl⟩
structure S143 where
 f0 : Int
 f1 : Int
def z143 : S143 := ⟨(0 : Int), (0 : Int)⟩
def k143 : Kd S143 := Kd.iso (Kd.pair (Kd.int .u8) (Kd.int .u8)) (fun x : S143 => (x.f0, x.f1))
theorem k143_open {w : World} {x : S143} {cs : List Value} (h : k143.K w x cs) : cs = [.int .u8 x.f0, .int .u8 x.f1] := by
 obtain ⟨_, _, rfl, rfl, rfl⟩ := h
 exact rfl
theorem k143_mk (w : World) (x : S143)  : k143.K w x [.int .u8 x.f0, .int .u8 x.f1] := ⟨[.int .u8 x.f0], [.int .u8 x.f1], rfl, rfl, rfl⟩
def rd_T143 (xs : List S143) (i : Int) : S143 := xs.getD i.toNat z143
theorem at_T143 {w : World} {A : Option Addr} {n : Nat} {xs : List S143} (h : Kd.C k143 w A n xs) (i : Int) (h0 : 0 ≤ i) (h1 : i < n) : ∃ ad , A = some ad ∧ w.cell? (ad.add (i.toNat * 2)) = some (.int .u8 (rd_T143 xs i).f0) ∧ w.cell? ⟨(ad.add (i.toNat * 2)).block, (ad.add (i.toNat * 2)).off + 1, none⟩ = some (.int .u8 (rd_T143 xs i).f1) := by
 obtain ⟨ad, c, e, _, hK, hc0⟩ := Kd.C_get h z143 i h0 h1
 have hc : ∀ j u, c[j]? = some u → w.cell? (ad.add (i.toNat * 2 + j)) = some u := hc0
 obtain rfl := k143_open hK
 exact ⟨ad, e, hc 0 _ rfl, by rw [← add_field _ _ 1 (by omega)]; exact hc 1 _ rfl⟩
structure S141 where
 f0 : (List S143)
 f1 : Int
def z141 : S141 := ⟨([] : List S143), (0 : Int)⟩
def k141 : Kd S141 := Kd.iso (Kd.pair (Kd.slice 143 k143) (Kd.int .i64)) (fun x : S141 => (x.f0, x.f1))
structure S115 where
 f0 : Int
 f1 : (List S141)
def z115 : S115 := ⟨(0 : Int), ([] : List S141)⟩
def k115 : Kd S115 := Kd.iso (Kd.pair (Kd.int .i64) (Kd.slice 141 k141)) (fun x : S115 => (x.f0, x.f1))
end Go.Proofs.YtplhfgobeicegaaGreatDoor.P
namespace Go.Proofs.YtplhfgobeicegaaGreatDoor.P
open Go Go.RowKit Go.Proofs.YtplhfgobeicegaaGreatDoorW.PrintWords Go.Proofs.YtplhfgobeicegaaGreatDoorW.PrintLast Go.Proofs.YtplhfgobeicegaaGreatDoorW.PrintMore Go.Proofs.YtplhfgobeicegaaGreatDoor.PX
attribute [local go_sem] max2_int min2_int max_two min_two
set_option linter.unusedVariables false
set_option linter.unusedSimpArgs false
set_option maxRecDepth 100000
abbrev Sp := S124
abbrev kSp := k124
abbrev kSps : Kd (List Sp) := Kd.slice 124 kSp
abbrev kInt : Kd Int := Kd.int .i64
theorem info3' : (Tryz.prog.info? 3).map (fun i => (i.zero, i.size, i.bytes)) = some (some (.int .i64 0), 1, 8) := by kernel_rfl
theorem int_cell {X : Nat → Prop} {w : World} {v : Value} {xs : List Int} (h : PV kInt X w v xs) (j : Nat) (hj : j < xs.length) : ∃ ad c, v = .slice (some ad) xs.length c ∧ w.cell? (ad.add j) = some (.int .i64 (xs.getD j 0)) := by
 obtain ⟨A, c, rfl, _, hC⟩ := h.now
 obtain ⟨ad, e, y⟩ := Kd.at_int hC (j : Int) (by omega) (by omega)
 cases e
 exact ⟨ad, c, rfl, by simpa [rd] using y⟩
theorem sp_cell {X : Nat → Prop} {w : World} {v : Value} {xs : List Sp} (h : PV kSp X w v xs) (j : Nat) (hj : j < xs.length) : ∃ ad c, v = .slice (some ad) xs.length c ∧ w.cell? (ad.add (j * 2)) = some (.int .i64 (xs.getD j z124).f0) ∧ w.cell? ⟨(ad.add (j * 2)).block, (ad.add (j * 2)).off + 1, none⟩ = some (.int .i64 (xs.getD j z124).f1) := by
 obtain ⟨A, c, rfl, _, hC⟩ := h.now
 obtain ⟨ad, e, y0, y1⟩ := at_T124 hC (j : Int) (by omega) (by omega)
 cases e
 exact ⟨ad, c, rfl, by simpa [rd_T124] using y0, by simpa [rd_T124] using y1⟩
theorem drop_at {α : Type} (l : List α) (z : α) (j : Nat) (h : j < l.length) : l.drop j = l.getD j z :: l.drop (j + 1) := by
 rw [List.drop_eq_getElem_cons h]; simp [List.getD_eq_getElem?_getD, h]
theorem take_at {α : Type} (l : List α) (z : α) (j : Nat) (h : j < l.length) : l.take (j + 1) = l.take j ++ [l.getD j z] := by
 rw [List.take_succ_eq_append_getElem h]; simp [List.getD_eq_getElem?_getD, h]
theorem mem_getD {α : Type} (l : List α) (z : α) (j : Nat) (h : j < l.length) : l.getD j z ∈ l := by
 simp only [List.getD_eq_getElem?_getD, h, List.getElem?_eq_getElem, Option.getD_some]; exact List.getElem_mem h
def scalarB (r : Int) : Bool := decide (0 ≤ r) && decide (r ≤ 1114111) && (decide (r < 55296) || decide (57343 < r))
theorem scalar_calls (r : Int) (w : World) : Calls Tryz.prog 99 #[.int .i64 r] w fun e w' => e = .returned (.bool (scalarB r)) ∧ w' = w := by
 unfold scalarB
 rcases Int.lt_or_le r 0 with h0 | h0
 case' inl =>
  have d0 : decide (r ≥ 0) = false := dF (by omega)
  have g0 : decide (0 ≤ r) = false := dF (by omega)
 case' inr =>
  have d0 : decide (r ≥ 0) = true := dT h0
  have g0 : decide (0 ≤ r) = true := dT h0
 all_goals rw [g0]; clear h0
 all_goals
  go_enter Tryz.func99, Tryz.ntmps99
  go_wp2
 all_goals
  go_ret
  first | (refine ⟨?_, rfl⟩; simp [*]; done) | (refine ⟨?_, rfl⟩; simp [*]; omega)
def hasB (l : List Sp) (r : Int) : Bool := (l.any fun s => decide (s.f0 ≤ r) && decide (r ≤ s.f1)) && scalarB r
theorem Has_calls (X : Nat → Prop) (v0 : Value) (l : List Sp) (r : Int) (w : World) (h0 : PV kSp X w v0 l) :
  Calls Tryz.prog 89 #[v0, .int .i64 r] w fun e w' => e = .returned (.bool (hasB l r)) ∧ w' = w := by
 have H0 := aM h0
 have HS := aM (show (((l.drop 0).any fun s => decide (s.f0 ≤ r) && decide (r ≤ s.f1)) && scalarB r) = hasB l r from rfl)
 generalize hasB l r = q at *
 obtain ⟨A0, c0, rfl, _, _⟩ := h0.now
 have hmx := h0.max
 clear h0
 go_enter Tryz.func89, Tryz.ntmps89
 go_wp2_with fail
 go_loopg [5] l.length (fun m v5 w' => ∃ (i : Nat), v5 = .int .i64 i ∧ Aside0 (i + m = l.length) ∧ Aside0 ((((l.drop i).any fun s => decide (s.f0 ≤ r) && decide (r ≤ s.f1)) && scalarB r) = q) ∧ w' = w)
 case atStart => exact ⟨0, rfl, ⟨by omega⟩, HS, rfl⟩
 case round =>
  clear HS
  obtain ⟨i, rfl, HJ, HS, hw⟩ := hrel
  subst hw
  cases gk with
  | zero =>
   have hd : decide ((i : Int) < (l.length : Int)) = false := dF (by have := HJ.out; omega)
   have hd2 : decide (i < l.length) = false := dF (by have := HJ.out; omega)
   have e0 : false = q := by
    have := HS.out
    rw [List.drop_eq_nil_of_le (by have := HJ.out; omega)] at this
    simpa using this
   subst e0
   go_wp2_with fail
   go_ret
   exact ⟨rfl, rfl⟩
  | succ k1 =>
   have hj : i < l.length := by have := HJ.out; omega
   obtain ⟨ad, c, e, y0, y1⟩ := sp_cell H0.out i hj
   cases e
   have HS1 := HS.out
   rw [drop_at l z124 i hj, List.any_cons] at HS1
   generalize l.getD i z124 = s at *
   clear HS
   by_cases c1 : s.f0 ≤ r
   ·by_cases c2 : r ≤ s.f1
    ·have d1 : decide (r ≥ s.f0) = true := dT c1
     have d2 : decide (r ≤ s.f1) = true := dT c2
     rw [dT c1, dT c2] at HS1
     simp only [Bool.and_self, Bool.true_or, Bool.true_and] at HS1
     clear c1 c2
     go_wp2_with fail
     refine (scalar_calls _ _).mono ?_
     rintro e w1 ⟨rfl, hw1⟩
     subst hw1
     rw [HS1]
     go_wp2_with fail
     go_ret
     exact ⟨rfl, rfl⟩
    ·have d1 : decide (r ≥ s.f0) = true := dT c1
     have d2 : decide (r ≤ s.f1) = false := dF c2
     rw [dF c2, Bool.and_false, Bool.false_or] at HS1
     have HS2 := aM HS1
     clear HS1 c1 c2
     go_wp2_with fail
     go_roundg k1
     case measure => omega
     case rel => exact ⟨i + 1, by go_num, ⟨by have := HJ.out; omega⟩, HS2, rfl⟩
   ·have d1 : decide (r ≥ s.f0) = false := dF c1
    rw [dF c1, Bool.false_and, Bool.false_or] at HS1
    have HS2 := aM HS1
    clear HS1 c1
    go_wp2_with fail
    go_roundg k1
    case measure => omega
    case rel => exact ⟨i + 1, by go_num, ⟨by have := HJ.out; omega⟩, HS2, rfl⟩
def layL (x : Int) : List Int → List Int
 | [] => [x]
 | y :: t => if y < x then y :: layL x t else if y = x then x :: t else x :: y :: t
def layAt (x : Int) : List Int → Nat
 | [] => 0
 | y :: t => if y < x then layAt x t + 1 else 0
def layTo (x : Int) (l : List Int) : Nat := if layAt x l < l.length ∧ l.getD (layAt x l) 0 = x then layAt x l + 1 else layAt x l
theorem layAt_le (x : Int) : ∀ l : List Int, layAt x l ≤ l.length
 | [] => Nat.le_refl _
 | y :: t => by unfold layAt; split <;> simp <;> have := layAt_le x t <;> omega
theorem layAt_lt (x : Int) : ∀ (l : List Int) (k : Nat), k < layAt x l → l.getD k 0 < x
 | [], k, h => by simp [layAt] at h
 | y :: t, k, h => by
  unfold layAt at h
  split at h
  ·rename_i c
   cases k with
   | zero => exact c
   | succ k => exact layAt_lt x t k (by omega)
  ·omega
theorem layAt_at (x : Int) : ∀ (l : List Int), layAt x l < l.length → ¬ l.getD (layAt x l) 0 < x
 | [], h => by simp at h
 | y :: t, h => by
  unfold layAt at h ⊢
  split
  ·rename_i c
   rw [if_pos c] at h
   exact layAt_at x t (by simpa using h)
  ·rename_i c
   exact c
theorem lay_eq (x : Int) : ∀ l : List Int, layL x l = l.take (layAt x l) ++ [x] ++ l.drop (layTo x l)
 | [] => rfl
 | y :: t => by
  have ih := lay_eq x t
  unfold layL layTo layAt
  by_cases c : y < x
  ·simp only [if_pos c]
   rw [ih]
   unfold layTo
   simp only [List.length_cons, List.getD_cons_succ, List.take_succ_cons, List.cons_append]
   by_cases c2 : layAt x t < t.length ∧ t.getD (layAt x t) 0 = x
   ·rw [if_pos c2, if_pos ⟨by omega, c2.2⟩]; rfl
   ·rw [if_neg c2, if_neg (fun h => c2 ⟨by omega, h.2⟩)]; rfl
  ·simp only [if_neg c]
   by_cases c2 : y = x
   ·subst c2
    simp
   ·simp [c2]
theorem lay_len (x : Int) : ∀ l : List Int, (layL x l).length ≤ l.length + 1
 | [] => Nat.le_refl _
 | y :: t => by
  have := lay_len x t
  unfold layL
  split
  ·simp; omega
  ·split <;> simp
set_option maxHeartbeats 4000000 in
theorem lay_calls (X : Nat → Prop) (v0 : Value) (l : List Int) (x : Int) (w : World) (hX : ∀ k, X k → k < w.heap.size) (h0 : PV kInt X w v0 l) (hl : l.length ≤ 1000000) :
  Calls Tryz.prog 88 #[v0, .int .i64 x] w fun e w' => ∃ v, e = .returned v ∧ PV kInt X w' v (layL x l) ∧ Below w.heap.size w w' := by
 have H0 := aM h0
 have HX := aM hX
 have HL := aM hl
 obtain ⟨r, hr⟩ : ∃ r, r = layL x l := ⟨_, rfl⟩
 rw [← hr]
 have HRR := aM (hr.trans (lay_eq x l))
 clear hr
 have HP := aM (layAt_le x l)
 obtain ⟨A0, c0, rfl, _, _⟩ := h0.now
 obtain ⟨ti, hti, _, htz, _⟩ := info_parts info3'
 clear h0 hX hl
 go_enter Tryz.func88, Tryz.ntmps88
 go_wp2_with fail
 go_loopg [5, 6] (layAt x l) (fun m v5 v6 w' => ∃ (k : Nat) (nx : List Int), v6 = .int .i64 k ∧ Aside0 (k + m = layAt x l) ∧ Aside0 (nx = l.take k ∧ nx.length = k) ∧ Aside0 (Own kInt 3 (Xp X v5) w' w.heap.size v5 nx) ∧ Aside0 (Below w.heap.size w w'))
 case atStart => exact ⟨0, [], rfl, ⟨by omega⟩, ⟨rfl, rfl⟩, ⟨Own.nil _ _ _ _ _⟩, ⟨Below.refl _ _⟩⟩
 case round =>
  obtain ⟨k, nx, rfl, HK, HN, HW, HB⟩ := hrel
  have HV := aM (H0.out.under HB.out HW.out.base)
  obtain ⟨A5, c5, e5, _, _⟩ := HW.out.now
  subst e5
  have hk3 : k ≤ 1000000 := by have := HK.out; have := HP.out; have := HL.out; omega
  cases gk with
  | succ k2 =>
   have hk : k < l.length := by have := HK.out; have := HP.out; omega
   obtain ⟨ad, c, e, y0⟩ := int_cell HV.out k hk
   cases e
   have hlt := layAt_lt x l k (by have := HK.out; omega)
   have HTK := aM (take_at l 0 k hk)
   have d1 : decide ((k : Int) < (l.length : Int)) = true := dT (by omega)
   generalize l.getD k 0 = y at *
   have d2 : decide (y < x) = true := dT hlt
   clear hlt
   go_wp2_with (first
    | ((with_reducible refine gate_dst (N := 24) rfl ?_); refine lit kInt 3 (X := Xp X (.slice A5 nx.length c5)) ?hg (N := 24) ?hd (xs := [y]) (inner := [.int .i64 y]) ?hr ?hp (HW.out.under (fun k hk => Nat.lt_of_lt_of_le (HX.out k hk) HB.out.size)) (by simp) HB.out HB.out.size ?_; (case hd => rfl); (case hg => rfl); (case hr => first | (go_simp; done) | (go_simp; rfl)); (case hp => exact Reps.one (PK.scalar y) (Reps.none _ _)); intro v7 w7 hv hb3 hb; have H7 := aM hv; have HW7 := aM (HW.out.below hb3); have HB7 := aM hb; clear hv hb3 hb; obtain ⟨A_v7, c_v7, e_v7, _⟩ := H7.out.now; subst e_v7)
    | ((with_reducible refine gate_builtin (b := .append) (xs := #[.tmp 19, .tmp 24]) rfl ?_); at_builtin; refine grow kInt w.heap.size rfl (.tmp 19) (.tmp 24) 26 3 (.int .i64 0) 8 rfl Tryz.underlying26 info3 rfl (by decide) (by omega) _ _ nx [y] rfl rfl HW7.out H7.out HB7.out.size (by have := HN.out.2; simp; omega) HB7.out ?_; intro v8 w8 ho hat hg hb; have HW8 := aM ho; have HB8 := aM hb; clear ho hat hg hb))
   go_roundg k2
   case measure => omega
   case rel => exact ⟨k + 1, nx ++ [y], by go_num, ⟨by have := HK.out; omega⟩, ⟨by rw [HN.out.1]; exact HTK.out.symm, by simp [HN.out.2]⟩, HW8, HB8⟩
  | zero =>
   have HKE := aM (show k = layAt x l by have := HK.out; omega)
   have HT := aM (show layTo x l = if k < l.length ∧ l.getD k 0 = x then k + 1 else k by rw [HKE.out]; rfl)
   have HFIN := aM (show ∀ (v9 : Value) (w9 : World), Own kInt 3 (Xp X v9) w9 w.heap.size v9 (nx ++ [x] ++ l.drop (layTo x l)) → PV kInt X w9 v9 r from fun v9 w9 h => by
    have := h.done HX.out
    rw [HN.out.1, HKE.out] at this
    rw [HRR.out]
    exact this)
   clear HRR
   generalize layTo x l = q at *
   have h3 : (k < l.length ∧ l.getD k 0 = x) ∨ (k < l.length ∧ l.getD k 0 ≠ x) ∨ l.length ≤ k := by
    rcases Nat.lt_or_ge k l.length with h | h
    ·by_cases e : l.getD k 0 = x
     ·exact .inl ⟨h, e⟩
     ·exact .inr (.inl ⟨h, e⟩)
    ·exact .inr (.inr h)
   rcases h3 with ⟨hk, hy⟩ | ⟨hk, hy⟩ | hk
   case' inl =>
    obtain ⟨ad, c, e, y0⟩ := int_cell HV.out k hk
    cases e
    have HT1 := HT.out
    rw [if_pos ⟨hk, hy⟩] at HT1
    rw [hy] at y0
    have d1 : decide ((k : Int) < (l.length : Int)) = true := dT (by omega)
    have d2 : decide (x < x) = false := dF (by omega)
    have d3 : (x == x) = true := beq_iff_eq.mpr rfl
    clear HT hy
   case' inr.inl =>
    obtain ⟨ad, c, e, y0⟩ := int_cell HV.out k hk
    cases e
    have hge := layAt_at x l (by rw [← HKE.out]; exact hk)
    rw [← HKE.out] at hge
    have HT1 := HT.out
    rw [if_neg (fun h => hy h.2)] at HT1
    have d1 : decide ((k : Int) < (l.length : Int)) = true := dT (by omega)
    have d2 : decide (l.getD k 0 < x) = false := dF hge
    have d3 : (l.getD k 0 == x) = false := bF hy
    clear HT hy hge
    generalize l.getD k 0 = y at *
   case' inr.inr =>
    have d1 : decide ((k : Int) < (l.length : Int)) = false := dF (by omega)
    have d3 : decide (k < l.length) = false := dF (by omega)
    have HT1 := HT.out
    rw [if_neg (fun h => absurd h.1 (by omega))] at HT1
    clear HT
   all_goals
    have hq : q ≤ l.length := by have := HP.out; have := HKE.out; omega
    obtain ⟨u9, hu9, hrun9⟩ := HV.out.from_ (P := Tryz.prog) 26 3 Tryz.underlying26 hti htz q hq
    have H9 := aM hu9
    have HQ := aM hq
    clear hu9 hq
    rw [HT1] at hrun9
    try rw [show ((k + 1 : Nat) : Int) = (k : Int) + 1 from rfl] at hrun9
    clear HT1
    go_wp2_with (first
     | ((with_reducible refine gate_dst (N := 44) rfl ?_); refine lit kInt 3 (X := Xp X (.slice A5 nx.length c5)) ?hg (N := 44) ?hd (xs := [x]) (inner := [.int .i64 x]) ?hr ?hp (HW.out.under (fun k hk => Nat.lt_of_lt_of_le (HX.out k hk) HB.out.size)) (by simp) HB.out HB.out.size ?_; (case hd => rfl); (case hg => rfl); (case hr => first | (go_simp; done) | (go_simp; rfl)); (case hp => exact Reps.one (PK.scalar x) (Reps.none _ _)); intro v7 w7 hv hb3 hb; have H7 := aM hv; have HW7 := aM (HW.out.below hb3); have H97 := aM (H9.out.below hb3); have HB7 := aM hb; clear hv hb3 hb; obtain ⟨A_v7, c_v7, e_v7, _⟩ := H7.out.now; subst e_v7)
     | ((with_reducible refine gate_builtin (b := .append) (xs := #[.tmp 42, .tmp 44]) rfl ?_); at_builtin; refine grow kInt w.heap.size rfl (.tmp 42) (.tmp 44) 26 3 (.int .i64 0) 8 rfl Tryz.underlying26 info3 rfl (by decide) (by omega) _ _ nx [x] rfl rfl HW7.out H7.out HB7.out.size (by have := HN.out.2; simp; omega) HB7.out ?_; intro v8 w8 ho hat hg hb; have HW8 := aM ho; have H98 := aM (H97.out.app hat hg); have HB8 := aM hb; clear ho hat hg hb)
     | ((with_reducible refine gate_builtin (b := .append) (xs := #[.tmp 46, .tmp 49]) rfl ?_); at_builtin; refine grow kInt w.heap.size rfl (.tmp 46) (.tmp 49) 26 3 (.int .i64 0) 8 rfl Tryz.underlying26 info3 rfl (by decide) (by omega) _ _ (nx ++ [x]) (l.drop _) rfl rfl HW8.out H98.out HB8.out.size (by have := HN.out.2; have := HL.out; simp; omega) HB8.out ?_; intro v9 w9 ho hat hg hb; have HW9 := aM ho; have HB9 := aM hb; clear ho hat hg hb))
    go_ret
    exact ⟨_, rfl, HFIN.out _ _ HW9.out, HB9.out⟩
def Sm (l : List Sp) : Prop := ∀ s ∈ l, (-1000000000 ≤ s.f0 ∧ s.f0 ≤ 1000000000) ∧ (-1000000000 ≤ s.f1 ∧ s.f1 ≤ 1000000000)
def ed1 (s : Sp) (o : List Int) : List Int := if scalarB s.f0 = true then layL s.f0 o else o
def ed2 (s : Sp) (o : List Int) : List Int := if s.f1 < 1114111 ∧ scalarB (s.f1 + 1) = true then layL (s.f1 + 1) o else o
def edGo (o : List Int) : List Sp → List Int
 | [] => o
 | s :: t => edGo (ed2 s (ed1 s o)) t
def edgesL (l : List Sp) : List Int := edGo [0, 57344] l
theorem ed1_len (s : Sp) (o : List Int) : (ed1 s o).length ≤ o.length + 1 := by
 unfold ed1
 split
 ·exact lay_len _ _
 ·omega
theorem ed2_len (s : Sp) (o : List Int) : (ed2 s o).length ≤ o.length + 1 := by
 unfold ed2
 split
 ·exact lay_len _ _
 ·omega
theorem edGo_len : ∀ (l : List Sp) (o : List Int), (edGo o l).length ≤ o.length + 2 * l.length
 | [], o => by simp [edGo]
 | s :: t, o => by
  have h1 := ed1_len s o
  have h2 := ed2_len s (ed1 s o)
  have h3 := edGo_len t (ed2 s (ed1 s o))
  simp [edGo]
  omega
set_option maxHeartbeats 4000000 in
theorem edges_calls (X : Nat → Prop) (v0 : Value) (l : List Sp) (w : World) (hX : ∀ k, X k → k < w.heap.size) (h0 : PV kSp X w v0 l) (hs : Sm l) (hl : l.length ≤ 100000) :
    Calls Tryz.prog 87 #[v0] w fun e w' => ∃ v, e = .returned v ∧ PV kInt X w' v (edgesL l) ∧ Below w.heap.size w w' := by
  have H0 := aM h0
  have HX := aM hX
  have HL := aM hl
  have HM := aM hs
  have HS := aM (show edGo [0, 57344] (l.drop 0) = edgesL l from rfl)
  generalize edgesL l = r at *
  obtain ⟨A0, c0, rfl, _, _⟩ := h0.now
  clear h0 hX hl hs
  go_enter Tryz.func87, Tryz.ntmps87
  go_wp2_with fail
  refine (lay_calls X _ [] 0 _ HX.out (PV.nil _ _ _) (by simp)).mono ?_
  rintro e w1 ⟨v1, rfl, hv1, hb1⟩
  have HV1 := aM hv1
  have HB1 := aM hb1
  obtain ⟨A1, c1, rfl, _, _⟩ := hv1.now
  clear hv1 hb1
  go_wp2_with fail
  refine (lay_calls X _ [0] 57344 _ (fun k hk => Nat.lt_of_lt_of_le (HX.out k hk) HB1.out.size) HV1.out (by simp)).mono ?_
  rintro e w2 ⟨v2, rfl, hv2, hb2⟩
  have HV := aM hv2
  have HB := aM (below_step HB1.out hb2)
  clear hv2 hb2 HV1 HB1
  go_wp2_with fail
  go_loopg [3, 4] l.length (fun m v3 v4 w' => ∃ (i : Nat) (o : List Int), v4 = .int .i64 i ∧ Aside0 (i + m = l.length) ∧ Aside0 (PV kInt X w' v3 o) ∧ Aside0 (o.length ≤ 2 + 2 * i) ∧ Aside0 (edGo o (l.drop i) = r) ∧ Aside0 (Below w.heap.size w w'))
  case atStart => exact ⟨0, [0, 57344], rfl, ⟨by omega⟩, HV, ⟨by simp⟩, HS, HB⟩
  case round =>
    clear HS HV HB
    obtain ⟨i, o, rfl, HJ, HV, HO, HS, HB⟩ := hrel
    cases gk with
    | zero =>
      have hd : decide ((i : Int) < (l.length : Int)) = false := dF (by have := HJ.out; omega)
      have hd2 : decide (i < l.length) = false := dF (by have := HJ.out; omega)
      have e0 : o = r := by
        have := HS.out
        rw [List.drop_eq_nil_of_le (by have := HJ.out; omega)] at this
        exact this
      subst e0
      go_wp2_with fail
      go_ret
      exact ⟨_, rfl, HV.out, HB.out⟩
    | succ k1 =>
      have hj : i < l.length := by have := HJ.out; omega
      have hj2 : i < 100000 := by have := HL.out; omega
      have HXw := aM (show ∀ k, X k → k < _ from fun k hk => Nat.lt_of_lt_of_le (HX.out k hk) HB.out.size)
      obtain ⟨ad, c, e, y0, y1⟩ := sp_cell (H0.out.below HB.out) i hj
      cases e
      have HS1 := HS.out
      rw [drop_at l z124 i hj, edGo] at HS1
      have hsm := HM.out _ (mem_getD l z124 i hj)
      generalize l.getD i z124 = s at *
      clear HS
      obtain ⟨A3, c3, rfl, _, _⟩ := HV.out.now
      have b1 : (scalarB s.f0 = true ∧ ed1 s o = layL s.f0 o) ∨ (scalarB s.f0 = false ∧ ed1 s o = o) := by
        unfold ed1
        cases h : scalarB s.f0
        · exact .inr ⟨rfl, if_neg (by decide)⟩
        · exact .inl ⟨rfl, if_pos rfl⟩
      have hl1 : (ed1 s o).length ≤ 3 + 2 * i := by have := ed1_len s o; have := HO.out; omega
      have hl2 := ed2_len s (ed1 s o)
      have b2 : (s.f1 < 1114111 ∧ scalarB (s.f1 + 1) = true ∧ ed2 s (ed1 s o) = layL (s.f1 + 1) (ed1 s o)) ∨ (s.f1 < 1114111 ∧ scalarB (s.f1 + 1) = false ∧ ed2 s (ed1 s o) = ed1 s o) ∨ (¬ s.f1 < 1114111 ∧ ed2 s (ed1 s o) = ed1 s o) := by
        unfold ed2
        by_cases h0 : s.f1 < 1114111
        · cases h : scalarB (s.f1 + 1)
          · exact .inr (.inl ⟨h0, rfl, if_neg (by simp)⟩)
          · exact .inl ⟨h0, rfl, if_pos ⟨h0, rfl⟩⟩
        · exact .inr (.inr ⟨h0, if_neg (fun h => h0 h.1)⟩)
      have HL1 := aM hl1
      have HL2 := aM (show (ed2 s (ed1 s o)).length ≤ 4 + 2 * i by omega)
      have HS2 := aM HS1
      clear HS1 hl1 hl2
      generalize ed2 s (ed1 s o) = o2 at *
      generalize ed1 s o = o1 at *
      obtain ⟨⟨m0, m1⟩, m2, m3⟩ := hsm
      rcases b1 with ⟨p1, q1⟩ | ⟨p1, q1⟩ <;> rcases b2 with ⟨p2, p3, q2⟩ | ⟨p2, p3, q2⟩ | ⟨p2, q2⟩
      all_goals
        have Q1 := aM q1
        have Q2 := aM q2
        clear q1 q2
        first | (have d2 : decide (s.f1 < 1114111) = false := dF p2; clear p2) | (have d2 : decide (s.f1 < 1114111) = true := dT p2)
        go_wp2_with (first
          | (go_at_call 99; (with_reducible refine (scalar_calls _ _).mono ?_); rintro e w3 ⟨rfl, hw3⟩; subst hw3)
          | (go_at_call 88; (with_reducible refine (lay_calls X _ o1 (s.f1 + 1) _ (fun k hk => Nat.lt_of_lt_of_le (HXw.out k hk) HB5.out.size) HV4.out (by have := HL1.out; omega)).mono ?_); rintro e w6 ⟨v6, rfl, hv, hb⟩; have HV6 := aM (show PV kInt X w6 v6 o2 by rw [Q2.out]; exact hv); have HB6 := aM (below_step HB4.out hb); have z0 := pw_cell_below hb y0'; have z1 := pw_cell_below hb y1'; clear hv hb)
          | (go_at_call 88; (with_reducible refine (lay_calls X _ o s.f0 _ HXw.out HV.out (by have := HO.out; omega)).mono ?_); rintro e w4 ⟨v4, rfl, hv, hb⟩; have HV4 := aM (show PV kInt X w4 v4 o1 by rw [Q1.out]; exact hv); have HB4 := aM (below_step HB.out hb); have HB5 := aM hb; have y0' := pw_cell_below hb y0; have y1' := pw_cell_below hb y1; clear hv hb; obtain ⟨A4, c4, e4, _⟩ := HV4.out.now; subst e4)
          | (go_at_call 88; (with_reducible refine (lay_calls X _ o (s.f1 + 1) _ HXw.out HV.out (by have := HO.out; omega)).mono ?_); rintro e w6 ⟨v6, rfl, hv, hb⟩; have HV6 := aM (show PV kInt X w6 v6 o2 by rw [Q2.out, Q1.out]; exact hv); have HB6 := aM (below_step HB.out hb); clear hv hb))
        go_roundg k1
        case measure => omega
        case rel =>
          first
            | exact ⟨i + 1, o2, by go_num, ⟨by have := HJ.out; omega⟩, HV6, ⟨by have := HL2.out; omega⟩, HS2, HB6⟩
            | exact ⟨i + 1, o2, by go_num, ⟨by have := HJ.out; omega⟩, ⟨by rw [Q2.out]; exact HV4.out⟩, ⟨by have := HL2.out; omega⟩, HS2, HB4⟩
            | exact ⟨i + 1, o2, by go_num, ⟨by have := HJ.out; omega⟩, ⟨by rw [Q2.out, Q1.out]; exact HV.out⟩, ⟨by have := HL2.out; omega⟩, HS2, HB⟩
theorem own_R {X : Nat → Prop} {w : World} {b e : Nat} {v : Value} {xs : List Sp} (h : Own kSp e X w b v xs) : Kd.R kSp e w b (fun k => v.ownBlock = some k) v xs := by
 obtain ⟨⟨inner, ho, hr⟩, _⟩ := h
 refine ⟨fun k hk => hk, inner, ho, hr.imp_ (fun p c hp => ?_)⟩
 obtain rfl := k124_open (hp w (Agree.refl _ _))
 exact k124_mkM _ _ _ p
theorem R_own {X : Nat → Prop} {w : World} {b e : Nat} {ok : Nat → Prop} {v : Value} {xs : List Sp} (h : Kd.R kSp e w b ok v xs) (hX : ∀ k, v.ownBlock = some k → X k) : Own kSp e X w b v xs := by
 obtain ⟨_, inner, ho, hr⟩ := h
 refine ⟨⟨inner, ho, hr.imp_ (fun p c hp => ?_)⟩, hX⟩
 obtain rfl := k124_openM hp
 exact fun w' _ => k124_mk w' p
theorem own_sp {X : Nat → Prop} {w : World} {b e : Nat} {v : Value} {xs : List Sp} (h : Own kSp e X w b v xs) (j : Nat) (hj : j < xs.length) :
  ∃ g c, v = .slice (some ⟨g, 0, none⟩) xs.length c ∧ b ≤ g ∧ g < w.heap.size ∧ w.cell? ⟨g, j * 2 + 1, none⟩ = some (.int .i64 (xs.getD j z124).f1) ∧ w.frozen? ⟨g, j * 2 + 1, none⟩ = false ∧
   ∀ q, Own kSp e X (w.setCell ⟨g, j * 2 + 1, none⟩ (.int .i64 q)) b v (xs.set j ⟨(xs.getD j z124).f0, q⟩) := by
 have hR := own_R h
 obtain ⟨g, c, rfl, hg, hlt, _⟩ := Kd.R_form hR (by omega)
 obtain ⟨cs, h1, h2, h3, h4⟩ := Kd.R_elem hR z124 (j : Int) (by omega) (by omega)
 obtain rfl := k124_openM h2
 simp only [Int.toNat_natCast] at h3 h4
 have y1 := h3 1 _ rfl
 refine ⟨g, c, rfl, hg, hlt, y1, h4 1, fun q => ?_⟩
 have hs := (Kd.R_seg (seg := [.int .i64 q]) (j := 1) (x' := (⟨(xs.getD j z124).f0, q⟩ : Sp)) (okp := fun k => (Value.slice (some ⟨g, 0, none⟩) xs.length c).ownBlock = some k ∧ k ≠ g) hR (j : Int) (by omega) (by omega) h1 (by simpa using h3) (by show 1 + 1 ≤ 2; omega) (k124_mkM _ _ _ (⟨_, q⟩ : Sp)) (fun _ h => h)).1
 exact R_own (by simpa [World.setCells, show (kSp).sz = 2 from rfl] using hs) h.2
theorem edGo_range : ∀ (l : List Sp) (o : List Int), (∀ x ∈ o, 0 ≤ x ∧ x ≤ 1114111) → ∀ x ∈ edGo o l, 0 ≤ x ∧ x ≤ 1114111 := by
 have lay : ∀ (x : Int) (o : List Int), (0 ≤ x ∧ x ≤ 1114111) → (∀ y ∈ o, 0 ≤ y ∧ y ≤ 1114111) → ∀ y ∈ layL x o, 0 ≤ y ∧ y ≤ 1114111 := by
  intro x o hx
  induction o with
  | nil => intro _ y hy; simp [layL] at hy; omega
  | cons z t ih =>
   intro ho y hy
   unfold layL at hy
   have hz := ho z List.mem_cons_self
   have ht := ih (fun y hy => ho y (List.mem_cons_of_mem _ hy))
   split at hy
   ·rcases List.mem_cons.1 hy with rfl | hy
    ·exact hz
    ·exact ht y hy
   ·split at hy
    ·rcases List.mem_cons.1 hy with rfl | hy
     ·exact hx
     ·exact ho y (List.mem_cons_of_mem _ hy)
    ·rcases List.mem_cons.1 hy with rfl | hy
     ·exact hx
     ·exact ho y hy
 have sc : ∀ x, scalarB x = true → 0 ≤ x ∧ x ≤ 1114111 := by
  intro x h
  simp only [scalarB, Bool.and_eq_true, decide_eq_true_eq] at h
  exact h.1
 intro l
 induction l with
 | nil => exact fun o ho => ho
 | cons s t ih =>
  intro o ho
  refine ih _ ?_
  have h1 : ∀ x ∈ ed1 s o, 0 ≤ x ∧ x ≤ 1114111 := by
   unfold ed1
   split
   ·exact lay _ _ (sc _ (by assumption)) ho
   ·exact ho
  unfold ed2
  split
  ·rename_i h
   exact lay _ _ (sc _ h.2) h1
  ·exact h1
theorem lay_range (x : Int) : ∀ (o : List Int), (0 ≤ x ∧ x ≤ 1114111) → (∀ y ∈ o, 0 ≤ y ∧ y ≤ 1114111) → ∀ y ∈ layL x o, 0 ≤ y ∧ y ≤ 1114111
 | [], hx, _, y, hy => by simp [layL] at hy; omega
 | z :: t, hx, ho, y, hy => by
  have ht := lay_range x t hx (fun y hy => ho y (List.mem_cons_of_mem _ hy))
  have hz := ho z List.mem_cons_self
  unfold layL at hy
  split at hy
  ·rcases List.mem_cons.1 hy with rfl | hy
   ·exact hz
   ·exact ht y hy
  ·split at hy
   ·rcases List.mem_cons.1 hy with rfl | hy
    ·exact hx
    ·exact ho y (List.mem_cons_of_mem _ hy)
   ·rcases List.mem_cons.1 hy with rfl | hy
    ·exact hx
    ·exact ho y hy
def layAll (e : List Int) : List Int → List Int
 | [] => e
 | x :: t => layAll (layL x e) t
def mkHi (e : List Int) (i : Nat) : Int :=
 if e.getD i 0 < 55296 then mn (if i + 1 < e.length then e.getD (i + 1) 0 - 1 else 1114111) 55295 else (if i + 1 < e.length then e.getD (i + 1) 0 - 1 else 1114111)
def mkK (a b : List Sp) (x : Int) : Int := (if hasB a x = true then 1 else 0) + (if hasB b x = true then 2 else 0)
def mkBit (n k : Int) : Int := if k = 0 then n % 2 else if k = 1 then n / 2 % 2 else if k = 2 then n / 4 % 2 else n / 8 % 2
def mkOut (out : List Sp) (x hi : Int) : List Sp :=
 if out.length > 0 ∧ (out.getD (out.length - 1) z124).f1 = x - 1 then out.set (out.length - 1) ⟨(out.getD (out.length - 1) z124).f0, hi⟩ else out ++ [⟨x, hi⟩]
def mkGo (a b : List Sp) (n : Int) (e : List Int) : Nat → Nat → List Sp → List Sp
 | 0, _, out => out
 | d + 1, i, out => mkGo a b n e d (i + 1) (if mkBit n (mkK a b (e.getD i 0)) = 0 then out else mkOut out (e.getD i 0) (mkHi e i))
def makeL (a b : List Sp) (n : Int) : List Sp := mkGo a b n (layAll (edgesL a) (edgesL b)) (layAll (edgesL a) (edgesL b)).length 0 []
theorem layAll_len : ∀ (t e : List Int), (layAll e t).length ≤ e.length + t.length
 | [], e => by simp [layAll]
 | x :: t, e => by
  have h1 := lay_len x e
  have h2 := layAll_len t (layL x e)
  simp [layAll]
  omega
theorem layAll_range : ∀ (t e : List Int), (∀ x ∈ t, 0 ≤ x ∧ x ≤ 1114111) → (∀ x ∈ e, 0 ≤ x ∧ x ≤ 1114111) → ∀ x ∈ layAll e t, 0 ≤ x ∧ x ≤ 1114111
 | [], e, _, he => he
 | x :: t, e, ht, he => layAll_range t (layL x e) (fun y hy => ht y (List.mem_cons_of_mem _ hy)) (lay_range x e (ht x List.mem_cons_self) he)
theorem edges_len (l : List Sp) : (edgesL l).length ≤ 2 + 2 * l.length := edGo_len l [0, 57344]
theorem edges_range (l : List Sp) : ∀ x ∈ edgesL l, 0 ≤ x ∧ x ≤ 1114111 := edGo_range l _ (by intro x hx; simp at hx; omega)
theorem mkOut_len (out : List Sp) (x hi : Int) : (mkOut out x hi).length ≤ out.length + 1 := by
 unfold mkOut
 split <;> simp
theorem own_sp_set {X : Nat → Prop} {w : World} {b e g n c : Nat} {xs : List Sp} (h : Own kSp e X w b (.slice (some ⟨g, 0, none⟩) n c) xs) (j : Nat) (hj : j < xs.length) (q : Int) :
  Own kSp e X (w.setCell ⟨g, j * 2 + 1, none⟩ (.int .i64 q)) b (.slice (some ⟨g, 0, none⟩) n c) (xs.set j ⟨(xs.getD j z124).f0, q⟩) := by
 obtain ⟨g', c', he, _, _, _, _, h2⟩ := own_sp h j hj
 cases he
 exact h2 q
theorem mkBit0 (n : Int) : mkBit n 0 = n % 2 := rfl
theorem mkBit1 (n : Int) : mkBit n 1 = n / 2 % 2 := rfl
theorem mkBit2 (n : Int) : mkBit n 2 = n / 4 % 2 := rfl
theorem mkBit3 (n : Int) : mkBit n 3 = n / 8 % 2 := rfl
theorem bitCase (e : Int) {A B r : List Sp} (F : List Sp → List Sp) (h : F (if e = 0 then A else B) = r) : ((e == 0) = true ∧ F A = r) ∨ ((e == 0) = false ∧ F B = r) := by
 by_cases c : e = 0
 ·rw [if_pos c] at h
  exact .inl ⟨beq_iff_eq.mpr c, h⟩
 ·rw [if_neg c] at h
  exact .inr ⟨bF c, h⟩
theorem sp_rep (X : Nat → Prop) (w : World) (x y : Int) : Reps (PK kSp X w) (kSp).sz [(⟨x, y⟩ : Sp)] [.int .i64 x, .int .i64 y] :=
 (Reps.none _ _).snoc (c := [.int .i64 x, .int .i64 y]) (fun _ _ => k124_mk _ (⟨x, y⟩ : Sp)) rfl
end Go.Proofs.YtplhfgobeicegaaGreatDoor.P
