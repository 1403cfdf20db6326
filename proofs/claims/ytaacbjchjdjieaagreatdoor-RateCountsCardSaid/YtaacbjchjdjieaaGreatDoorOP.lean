/- Arguments that came in, read as the print's kinds: slices of structs, slices of slices. -/
import Derived.Test.YtaacbjchjdjieaaGreatDoorWWords
import Derived.ChangeArms
import Derived.DataReads
namespace Go.Proofs.YtaacbjchjdjieaaGreatDoor.OP
open Go Go.RowKit Go.Proofs.YtaacbjchjdjieaaGreatDoorW.PrintWords
variable {H : Type} {enc : TypeId × Value → H} {P : Program} {w : World}
/-- What reads as a value of type t is of the kind d, and good. -/
def Opens {α : Type} (enc : TypeId × Value → H) (P : Program) (w : World) (t : TypeId) (d : Kd α) (good : α → Prop) : Prop :=
  P.cellsOf t = d.sz ∧ ∀ fuel cs x, DataW.trod enc P w 0 (fun _ => true) true fuel t cs = some x → ∃ a, d.K w a cs ∧ good a
theorem Opens.mono {α : Type} {t : TypeId} {d : Kd α} {good good' : α → Prop} (h : Opens enc P w t d good) (hg : ∀ a, good a → good' a) : Opens enc P w t d good' :=
  ⟨h.1, fun fuel cs x hx => by obtain ⟨a, ha, hb⟩ := h.2 fuel cs x hx; exact ⟨a, ha, hg a hb⟩⟩
theorem opens_int {t : TypeId} {k : IntKind} (ht : P.underlying t = some (.int k)) (hc : P.cellsOf t = 1) : Opens enc P w t (Kd.int k) (fun n => (Lit.int k n).wf = true) :=
  ⟨hc, fun fuel cs x hx => by
    obtain ⟨n, rfl, _, hw⟩ := DataW.trod_int ht hx
    exact ⟨n, rfl, hw⟩⟩
theorem opens_bool {t : TypeId} (ht : P.underlying t = some .bool) (hc : P.cellsOf t = 1) : Opens enc P w t Kd.bool (fun _ => True) :=
  ⟨hc, fun fuel cs x hx => by
    obtain ⟨n, rfl, _⟩ := DataW.trod_bool ht hx
    exact ⟨n, rfl, trivial⟩⟩
theorem opens_string {t : TypeId} (ht : P.underlying t = some .string) (hc : P.cellsOf t = 1) : Opens enc P w t Kd.string (fun s => s.size ≤ maxLen) :=
  ⟨hc, fun fuel cs x hx => by
    obtain ⟨s, rfl, _, hs⟩ := DataW.trod_string ht hx
    exact ⟨s, rfl, hs⟩⟩
theorem opens_slice {α : Type} {t e : TypeId} {d : Kd α} {good : α → Prop} (ht : P.underlying t = some (.slice e)) (hc : P.cellsOf t = 1) (he : Opens enc P w e d good) :
    Opens enc P w t (Kd.slice e d) (fun l => l.length ≤ maxLen ∧ ∀ x ∈ l, good x) :=
  ⟨hc, fun fuel cs x hx => by
    rcases DataW.trod_slice ht hx with ⟨rfl, _⟩ | ⟨a, len, cap, elems, rest, n, _, rfl, _, _, hl, hm, hlen, hel, _, _⟩
    · exact ⟨[], ⟨none, 0, rfl, Nat.le_refl _, rfl, by simp, fun h => absurd h (Nat.lt_irrefl 0)⟩, by simp, fun y hy => by cases hy⟩
    · have hmx : len ≤ 9223372036854775807 := by unfold maxLen at hm; omega
      have : ∀ m, m ≤ len → ∃ xs : List α, xs.length = m ∧ (∀ j p, xs[j]? = some p → ∃ c, c.length = d.sz ∧ d.K w p c ∧ ∀ i u, c[i]? = some u → w.cell? (a.add (j * d.sz + i)) = some u) ∧ ∀ x ∈ xs, good x := by
        intro m
        induction m with
        | zero => exact fun _ => ⟨[], rfl, fun j p h => by simp at h, fun x h => by cases h⟩
        | succ m ih =>
          intro hm2
          obtain ⟨xs, h1, h2, h3⟩ := ih (by omega)
          have h4 := hel m (by omega)
          rw [List.getElem?_eq_getElem (show m < elems.length by omega), Option.bind_eq_some_iff] at h4
          obtain ⟨c, hcs, hy⟩ := h4
          obtain ⟨p, hK, hg⟩ := he.2 _ _ _ hy
          obtain ⟨_, hcl, hcell⟩ := World.cells?_some hcs
          rw [he.1] at hcl hcell
          refine ⟨xs ++ [p], by simp [h1], fun j q hq => ?_, fun x hx => ?_⟩
          · rcases Nat.lt_or_ge j xs.length with hj | hj
            · rw [List.getElem?_append_left hj] at hq
              exact h2 j q hq
            · have hj' : j = m := by
                have := (List.getElem?_eq_some_iff.1 hq).1
                simp at this
                omega
              subst hj'
              obtain rfl : p = q := by rw [← h1] at hq; simpa using hq
              refine ⟨c, hcl, hK, fun i u hu => ?_⟩
              have hi : i < d.sz := by have := (List.getElem?_eq_some_iff.1 hu).1; omega
              have := hcell i hi
              rw [hu] at this
              rw [← this]
              congr 1
              unfold Addr.add
              by_cases z1 : j * d.sz = 0 <;> by_cases z2 : i = 0 <;> simp [z1, z2, Nat.add_assoc]
          · rcases List.mem_append.1 hx with hx | hx
            · exact h3 x hx
            · obtain rfl : x = p := by simpa using hx
              exact hg
      obtain ⟨xs, h1, h2, h3⟩ := this len (Nat.le_refl _)
      subst h1
      exact ⟨xs, ⟨some a, cap, rfl, hl, rfl, hmx, fun _ => ⟨a, rfl, h2⟩⟩, by omega, h3⟩⟩
/-- Fields in line, from a place on. -/
def Seg {α : Type} (enc : TypeId × Value → H) (P : Program) (w : World) (fs : List Field) (off : Nat) (d : Kd α) (good : α → Prop) : Prop :=
  ∀ (cs : List Value) (n : Nat), (∀ f ∈ fs, ∃ y, DataW.trod enc P w 0 (fun _ => true) true n f.type ((cs.drop f.offset).take (P.cellsOf f.type)) = some y) → ∃ a, d.K w a ((cs.drop off).take d.sz) ∧ good a
theorem seg_one {α : Type} {f : Field} {off : Nat} {d : Kd α} {good : α → Prop} (ho : f.offset = off) (h : Opens enc P w f.type d good) : Seg enc P w [f] off d good := by
  intro cs n hf
  obtain ⟨y, hy⟩ := hf f List.mem_cons_self
  rw [h.1, ho] at hy
  exact h.2 _ _ _ hy
theorem seg_cons {α β : Type} {f : Field} {fs : List Field} {off off2 : Nat} {d : Kd α} {d2 : Kd β} {good : α → Prop} {good2 : β → Prop} (ho : f.offset = off) (h : Opens enc P w f.type d good) (h2 : Seg enc P w fs off2 d2 good2) (hoff : off2 = off + d.sz) :
    Seg enc P w (f :: fs) off (Kd.pair d d2) (fun x => good x.1 ∧ good2 x.2) := by
  intro cs n hf
  obtain ⟨y, hy⟩ := hf f List.mem_cons_self
  rw [h.1, ho] at hy
  obtain ⟨a, ha, hga⟩ := h.2 _ _ _ hy
  obtain ⟨b, hb, hgb⟩ := h2 cs n (fun g hg => hf g (List.mem_cons_of_mem _ hg))
  refine ⟨(a, b), ⟨_, _, ?_, ha, hb⟩, hga, hgb⟩
  show (cs.drop off).take (d.sz + d2.sz) = _
  rw [List.take_add, List.drop_drop, hoff]
theorem opens_struct {α β : Type} {t : TypeId} {fs : Array Field} {d : Kd α} {good : α → Prop} (ht : P.underlying t = some (.struct fs)) (hc : P.cellsOf t = d.sz) (hs : Seg enc P w fs.toList 0 d good) (f : β → α) (g : α → β) (hfg : ∀ a, f (g a) = a) :
    Opens enc P w t (Kd.iso d f) (fun b => good (f b)) :=
  ⟨hc, fun fuel cs x hx => by
    obtain ⟨xs, n, _, _, hl, hxs, hf⟩ := DataW.trod_struct ht hx
    obtain ⟨a, ha, hga⟩ := hs cs n (fun fd hfd => by
      obtain ⟨i, hi⟩ := List.getElem?_of_mem hfd
      have h1 : fs[i]? = some fd := by simpa using hi
      have := hf i fd h1
      have hlt : i < xs.length := by rw [hxs]; exact (Array.getElem?_eq_some_iff.1 h1).1
      rw [List.getElem?_eq_getElem hlt] at this
      exact ⟨_, this⟩)
    rw [List.drop_zero, List.take_of_length_le (by rw [hl, hc]; exact Nat.le_refl _)] at ha
    exact ⟨g a, by show d.K w (f (g a)) cs; rw [hfg]; exact ha, by show good (f (g a)); rw [hfg]; exact hga⟩⟩
/-- A slice that came in. -/
theorem Opens.arg {α : Type} {t e : TypeId} {d : Kd α} {good : List α → Prop} (h : Opens enc P w t (Kd.slice e d) good) {a : Option Addr} {len cap : Nat} {x : DataW H} {p : List MemPlace} (hx : DataW.Trod enc P w 0 (fun _ => true) true t (.slice a len cap) x p) :
    ∃ l, len = l.length ∧ l.length ≤ cap ∧ d.C w a l.length l ∧ good l := by
  obtain ⟨fuel, hf⟩ := hx
  obtain ⟨l, ⟨A, c, he, hc, hC⟩, hg⟩ := h.2 _ _ _ hf
  simp [Value.cells] at he
  obtain ⟨rfl, rfl, rfl⟩ := he
  exact ⟨l, rfl, hc, hC, hg⟩
end Go.Proofs.YtaacbjchjdjieaaGreatDoor.OP
