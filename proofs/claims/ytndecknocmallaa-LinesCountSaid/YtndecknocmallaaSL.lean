/- Strings that are made of lists of numbers: what adding two makes; what the slice that is made of one's bytes reads as. -/
import Derived.Laws.IdiomStrings
import Derived.Laws.BytesArg
import Derived.Laws.Concat
import Derived.Test.YtndecknocmallaaM
import Derived.Test.YtndecknocmallaaWShare
namespace Go.Proofs.Ytndecknocmallaa.SL
open Go Go.RowKit Go.Proofs.YtndecknocmallaaW.PrintWords
theorem str_append (a b : List Int) : strOfNums a ++ strOfNums b = strOfNums (a ++ b) := by
  apply ByteArray.ext
  simp [strOfNums]
theorem str_size (a : List Int) : (strOfNums a).size = a.length := strOfNums_size a
theorem str_add (P : Program) (w : World) (a b : List Int) (h : a.length + b.length ≤ 9223372036854775807) : (Op.stringOp .add (strOfNums a) (strOfNums b)).run P w = .ok (.string (strOfNums (a ++ b))) w := by
  have := run_string_add_sum (P := P) (w := w) (strOfNums a) (strOfNums b) (by rw [str_size, str_size]; exact h)
  rw [str_append] at this
  exact this
theorem bytesRow_at (a : List Int) (c : Nat) (hb : ∀ x ∈ a, 0 ≤ x ∧ x ≤ 255) (j : Nat) (hj : j < a.length) : (bytesRow (strOfNums a) c)[j]? = some (.int .u8 (a.getD j 0)) := by
  have hx := hb a[j] (List.getElem_mem hj)
  have h1 : (a[j]).toNat % 256 = (a[j]).toNat := Nat.mod_eq_of_lt (by omega)
  simp [bytesRow, strOfNums, Array.getElem?_append, hj, List.getD_eq_getElem?_getD, h1]
  omega
/-- the slice that '[]byte(s)' makes, read wherever its block lies on -/
theorem bytes_F (w : World) (a : List Int) (c : Nat) (e : TypeId) (fr : Nat × Nat) (hb : ∀ x ∈ a, 0 ≤ x ∧ x ≤ 255) (hl : a.length ≤ 9223372036854775807) :
    Kd.F (Kd.int .u8) (w.alloc (.cells (bytesRow (strOfNums a) c) e fr)) (fun _ => True) (some ⟨w.heap.size, 0, none⟩) a.length a := by
  intro W' hW'
  have hk := hW' w.heap.size trivial (by simp)
  have h1 : (w.alloc (.cells (bytesRow (strOfNums a) c) e fr)).heap[w.heap.size]? = some (.cells (bytesRow (strOfNums a) c) e fr) := blk_new w _
  rw [h1] at hk
  refine Kd.C_of_reads (d := (0 : Int)) ⟨rfl, hl, fun _ => ⟨_, rfl, fun j hj => ?_⟩⟩
  rw [add_plain]
  rw [cell_of_row W' _ _ _ _ _ hk]
  simpa using bytesRow_at a c hb j hj
theorem bytes_V (w : World) (a : List Int) (n : Nat) (e : TypeId) (fr : Nat × Nat) (base : Nat) (hn : n = a.length) (hb : ∀ x ∈ a, 0 ≤ x ∧ x ≤ 255) (hl : a.length ≤ 9223372036854775807) :
    Kd.V (Kd.int .u8) e (w.alloc (.cells (bytesRow (strOfNums a) (grownCap w n 0 e)) e fr)).drew base (fun _ => True) (.slice (some ⟨w.heap.size, 0, none⟩) n (grownCap w n 0 e)) a := by
  subst hn
  exact Kd.V_drew (Kd.V_mk (grownCap_ge w a.length 0 e) (bytes_F w a _ e fr hb hl))
end Go.Proofs.Ytndecknocmallaa.SL
