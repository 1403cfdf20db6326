/- Strings' bytes as lists of numbers: equality and order of the strings that are made of lists. -/
import Derived.Laws.BytesArg
import GoSem.Op.String
namespace Go.Proofs.Ytpikhloemhbecaa.U8
set_option linter.unusedVariables false
theorem toList_loop (b : ByteArray) (d : Nat) : ∀ (i : Nat) (r : List UInt8), b.size - i = d → ByteArray.toList.loop b i r = r.reverse ++ b.data.toList.drop i := by
  induction d with
  | zero =>
    intro i r h
    rw [ByteArray.toList.loop, if_neg (by omega), List.drop_eq_nil_iff.2 (by simp; have : b.data.size = b.size := rfl; omega)]
    simp
  | succ d ih =>
    intro i r h
    have hi : i < b.size := by omega
    have hi2 : i < b.data.toList.length := by simpa using hi
    rw [ByteArray.toList.loop, if_pos hi, ih (i + 1) _ (by omega), List.drop_eq_getElem_cons hi2]
    have hg : b.get! i = b.data.toList[i] := by
      have : b.get! i = b.data[i]! := rfl
      rw [this, getElem!_pos b.data i hi]; simp
    rw [hg]; simp
theorem toList_data (b : ByteArray) : b.toList = b.data.toList := by
  unfold ByteArray.toList
  rw [toList_loop b _ 0 [] rfl]; simp
def u8s (l : List Int) : List UInt8 := l.map fun n => UInt8.ofNat n.toNat
theorem strOf_toList (l : List Int) : (strOfNums l).toList = u8s l := by
  rw [toList_data]; simp [strOfNums, u8s]
theorem u8_eq {a b : Int} (ha : 0 ≤ a ∧ a ≤ 255) (hb : 0 ≤ b ∧ b ≤ 255) : (UInt8.ofNat a.toNat = UInt8.ofNat b.toNat) ↔ a = b := by
  constructor
  · intro h
    have := congrArg UInt8.toNat h
    simp [UInt8.toNat_ofNat'] at this
    omega
  · rintro rfl; rfl
theorem u8_lt {a b : Int} (ha : 0 ≤ a ∧ a ≤ 255) (hb : 0 ≤ b ∧ b ≤ 255) : (UInt8.ofNat a.toNat < UInt8.ofNat b.toNat) ↔ a < b := by
  rw [UInt8.lt_iff_toNat_lt]
  simp [UInt8.toNat_ofNat']
  omega
def By (l : List Int) : Prop := ∀ x ∈ l, 0 ≤ x ∧ x ≤ 255
theorem u8s_inj : ∀ {l m : List Int}, By l → By m → (u8s l = u8s m ↔ l = m)
  | [], [], _, _ => by simp [u8s]
  | [], b :: m, _, _ => by simp [u8s]
  | a :: l, [], _, _ => by simp [u8s]
  | a :: l, b :: m, hl, hm => by
    have := u8s_inj (l := l) (m := m) (fun x hx => hl x (List.mem_cons_of_mem _ hx)) (fun x hx => hm x (List.mem_cons_of_mem _ hx))
    unfold u8s at this ⊢
    simp only [List.map_cons, List.cons.injEq, this, u8_eq (hl a List.mem_cons_self) (hm b List.mem_cons_self)]
/-- the order of bytes, on numbers -/
def lexLt : List Int → List Int → Bool
  | _, [] => false
  | [], _ :: _ => true
  | a :: x, b :: y => a < b || (a == b && lexLt x y)
theorem bytesLess_u8s : ∀ {l m : List Int}, By l → By m → Op.bytesLess (u8s l) (u8s m) = lexLt l m
  | l, [], _, _ => by cases l <;> simp [u8s, Op.bytesLess, lexLt]
  | [], b :: m, _, _ => by simp [u8s, Op.bytesLess, lexLt]
  | a :: l, b :: m, hl, hm => by
    have := bytesLess_u8s (l := l) (m := m) (fun x hx => hl x (List.mem_cons_of_mem _ hx)) (fun x hx => hm x (List.mem_cons_of_mem _ hx))
    unfold u8s at this ⊢
    simp only [List.map_cons, Op.bytesLess, lexLt, this]
    have e1 := u8_lt (hl a List.mem_cons_self) (hm b List.mem_cons_self)
    have e2 := u8_eq (hl a List.mem_cons_self) (hm b List.mem_cons_self)
    have e3 : (UInt8.ofNat a.toNat == UInt8.ofNat b.toNat) = (a == b) := by
      by_cases h : a = b
      · subst h; simp
      · rw [beq_eq_false_iff_ne.mpr h, beq_eq_false_iff_ne.mpr (fun e => h (e2.1 e))]
    rw [e3]
    simp [e1]
theorem strOf_eq {l m : List Int} (hl : By l) (hm : By m) : ((strOfNums l).toList == (strOfNums m).toList) = (l == m) := by
  rw [strOf_toList, strOf_toList]
  by_cases h : l = m
  · subst h; simp
  · rw [beq_eq_false_iff_ne.mpr h, beq_eq_false_iff_ne.mpr (fun e => h ((u8s_inj hl hm).1 e))]
end Go.Proofs.Ytpikhloemhbecaa.U8
