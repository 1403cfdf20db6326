/-
  No cell of these rows narrows 'for every input' (looked for: loops, veiled, ifaces, maps, wideKeys, modest, calm, conditions, laid).
  DERIVED. THE GIVEN ROWS OF THIS SEAT. 5 by the template 'for every input the law returns true; each argument reads behind the call as it read before'; 0 by the template 'total and deterministic' (their statements: YtndecknocmallaaTotals.lean).
  GIVEN WITH THE SEED: the statements are not yours to turn. If you find one false, say at which input.
  Laid BY PROGRAM, IN A SANDBOX (cutbox-rows.mjs): the forced cells as the released guide's own fill.sh prints them over the translation 8ef4af2ab4c9bc97… (all of the seat's roots in one cut). By AI agents, Wed Nov 11 2026. No macro, syntax, notation, axiom, sorry.
-/
import Derived.Test.YtndecknocmallaaChecked
import GoSem.Claim
import GoSem.ClaimJoined
import GoSem.ClaimMapViews
import Derived.JoinedTies
import Derived.KernelRfl
namespace Go.Proofs.Ytndecknocmallaa
/- THE CELL 'sum', in the pinned program and in every row, IS THE sha256 OF THE DUMP (.gsa) THAT YtndecknocmallaaProg.lean LOADS. Nothing in Lean hashes anything: it is a label: what it is worth is what the hold of that sum in a sandbox is worth. -/
noncomputable def Try.pinned : Pinned := { name := "ytndecknocmallaa", sum := "8ef4af2ab4c9bc9732b7a3db84ee053f96905105aa0b183a537884e1c2526015", checked := Try.checked }
namespace Rows
def none {H : Type} : Left H := { results := [], args := [] }

/-- 'glyphcutterlaw21.LinesCount': WHATEVER THE INPUT: true; the input reads as it did. -/
def linesCountSpec : ChangeSpec := { name := "linesCount", fn := fun _ => fun
  | [d] => { results := [.lit (.bool true)], args := [d] }
  | _ => none }
def linesCountRow : OpenClaim := { program := "ytndecknocmallaa", sum := "8ef4af2ab4c9bc9732b7a3db84ee053f96905105aa0b183a537884e1c2526015", func := "glyphcutter/glyphcutterlaw21.LinesCount", spec := "linesCount", unfollowed := true, recurses := true, apart := false }
def LinesCountSaid : Prop := linesCountRow.holds Try.pinned (OpenSpec.ofChange linesCountSpec)

/-- ITS FALSE NEIGHBOUR: 'it returns false'. Refute it at one input. -/
def linesCountWrong : ChangeSpec := { name := "linesCount", fn := fun _ => fun
  | [d] => { results := [.lit (.bool false)], args := [d] }
  | _ => none }
def LinesCountWrongFalsely : Prop := linesCountRow.holds Try.pinned (OpenSpec.ofChange linesCountWrong)

/-- 'glyphcutterlaw21.LinesOf': WHATEVER THE INPUT: true; the input reads as it did. -/
def linesOfSpec : ChangeSpec := { name := "linesOf", fn := fun _ => fun
  | [d1, d2, d3, d4, d5, d6, d7, d8] => { results := [.lit (.bool true)], args := [d1, d2, d3, d4, d5, d6, d7, d8] }
  | _ => none }
def linesOfRow : OpenClaim := { program := "ytndecknocmallaa", sum := "8ef4af2ab4c9bc9732b7a3db84ee053f96905105aa0b183a537884e1c2526015", func := "glyphcutter/glyphcutterlaw21.LinesOf", spec := "linesOf", unfollowed := true, recurses := true, apart := false }
def LinesOfSaid : Prop := linesOfRow.holds Try.pinned (OpenSpec.ofChange linesOfSpec)

/-- ITS FALSE NEIGHBOUR: 'it returns false'. Refute it at one input. -/
def linesOfWrong : ChangeSpec := { name := "linesOf", fn := fun _ => fun
  | [d1, d2, d3, d4, d5, d6, d7, d8] => { results := [.lit (.bool false)], args := [d1, d2, d3, d4, d5, d6, d7, d8] }
  | _ => none }
def LinesOfWrongFalsely : Prop := linesOfRow.holds Try.pinned (OpenSpec.ofChange linesOfWrong)

/-- 'glyphcutterlaw21.LinesBack': WHATEVER THE INPUT: true; the input reads as it did. -/
def linesBackSpec : ChangeSpec := { name := "linesBack", fn := fun _ => fun
  | [d1, d2, d3] => { results := [.lit (.bool true)], args := [d1, d2, d3] }
  | _ => none }
def linesBackRow : OpenClaim := { program := "ytndecknocmallaa", sum := "8ef4af2ab4c9bc9732b7a3db84ee053f96905105aa0b183a537884e1c2526015", func := "glyphcutter/glyphcutterlaw21.LinesBack", spec := "linesBack", unfollowed := true, recurses := true, apart := false }
def LinesBackSaid : Prop := linesBackRow.holds Try.pinned (OpenSpec.ofChange linesBackSpec)

/-- ITS FALSE NEIGHBOUR: 'it returns false'. Refute it at one input. -/
def linesBackWrong : ChangeSpec := { name := "linesBack", fn := fun _ => fun
  | [d1, d2, d3] => { results := [.lit (.bool false)], args := [d1, d2, d3] }
  | _ => none }
def LinesBackWrongFalsely : Prop := linesBackRow.holds Try.pinned (OpenSpec.ofChange linesBackWrong)

/-- 'glyphcutterlaw21.LinesRise': WHATEVER THE INPUT: true; the input reads as it did. -/
def linesRiseSpec : ChangeSpec := { name := "linesRise", fn := fun _ => fun
  | [d1, d2, d3] => { results := [.lit (.bool true)], args := [d1, d2, d3] }
  | _ => none }
def linesRiseRow : OpenClaim := { program := "ytndecknocmallaa", sum := "8ef4af2ab4c9bc9732b7a3db84ee053f96905105aa0b183a537884e1c2526015", func := "glyphcutter/glyphcutterlaw21.LinesRise", spec := "linesRise", unfollowed := true, recurses := true, apart := false }
def LinesRiseSaid : Prop := linesRiseRow.holds Try.pinned (OpenSpec.ofChange linesRiseSpec)

/-- ITS FALSE NEIGHBOUR: 'it returns false'. Refute it at one input. -/
def linesRiseWrong : ChangeSpec := { name := "linesRise", fn := fun _ => fun
  | [d1, d2, d3] => { results := [.lit (.bool false)], args := [d1, d2, d3] }
  | _ => none }
def LinesRiseWrongFalsely : Prop := linesRiseRow.holds Try.pinned (OpenSpec.ofChange linesRiseWrong)

/-- 'glyphcutterlaw21.LinesEnds': WHATEVER THE INPUT: true; the input reads as it did. -/
def linesEndsSpec : ChangeSpec := { name := "linesEnds", fn := fun _ => fun
  | [d1, d2] => { results := [.lit (.bool true)], args := [d1, d2] }
  | _ => none }
def linesEndsRow : OpenClaim := { program := "ytndecknocmallaa", sum := "8ef4af2ab4c9bc9732b7a3db84ee053f96905105aa0b183a537884e1c2526015", func := "glyphcutter/glyphcutterlaw21.LinesEnds", spec := "linesEnds", unfollowed := true, recurses := true, apart := false }
def LinesEndsSaid : Prop := linesEndsRow.holds Try.pinned (OpenSpec.ofChange linesEndsSpec)

/-- ITS FALSE NEIGHBOUR: 'it returns false'. Refute it at one input. -/
def linesEndsWrong : ChangeSpec := { name := "linesEnds", fn := fun _ => fun
  | [d1, d2] => { results := [.lit (.bool false)], args := [d1, d2] }
  | _ => none }
def LinesEndsWrongFalsely : Prop := linesEndsRow.holds Try.pinned (OpenSpec.ofChange linesEndsWrong)

/- THE SECOND FORM. 'bulk': how many values and letters a reading holds, each counted each time it is reached (what is shared counts as often as it is met; a slice's spare places count too). A statement '..UptoSaid' is the law's where the arguments, and the package variables that the reading takes, are together of bulk at most 1048576: NARROWER than '..Said'. Prove '..Said' where nothing that the law and all that it calls make is longer than what came in: it says more and counts as full. Else prove '..UptoSaid'. A law counts once. -/
mutual
def uptoBulk {H : Type} : DataW H → Nat
  | .lit (.string bytes) => bytes.length + 1
  | .lit _ => 1
  | .nil => 1
  | .ptr d => uptoBulk d + 1
  | .slice elems spare => uptoBulkAll elems + uptoBulkAll spare + 1
  | .agg parts => uptoBulkAll parts + 1
  | .iface _ d => uptoBulk d + 1
  | .map entries => uptoBulkEntries entries + 1
  | .held _ => 1
def uptoBulkAll {H : Type} : List (DataW H) → Nat
  | [] => 0
  | d :: r => uptoBulk d + uptoBulkAll r
def uptoBulkEntries {H : Type} : List (Lit × DataW H) → Nat
  | [] => 0
  | x :: r => uptoBulkEntry x + uptoBulkEntries r
def uptoBulkEntry {H : Type} : Lit × DataW H → Nat
  | (.string bytes, d) => bytes.length + uptoBulk d + 1
  | (_, d) => uptoBulk d + 1
 end
def uptoSmall : (H : Type) → List (DataW H) → Bool := fun _ ds => decide (uptoBulkAll ds ≤ 1048576)
def OpenSpec.upto (s : _root_.Go.ChangeSpec) : _root_.Go.OpenSpec := { _root_.Go.OpenSpec.ofChange s with cond := some uptoSmall }

/-- 'glyphcutterlaw21.LinesCount', WHERE WHAT IT READS IS OF BULK AT MOST 1048576: true; the input reads as it did. -/
def linesCountUptoRow : OpenClaim := { program := "ytndecknocmallaa", sum := "8ef4af2ab4c9bc9732b7a3db84ee053f96905105aa0b183a537884e1c2526015", func := "glyphcutter/glyphcutterlaw21.LinesCount", spec := "linesCount", unfollowed := true, recurses := true, apart := false, narrowed := true }
def LinesCountUptoSaid : Prop := linesCountUptoRow.holds Try.pinned (OpenSpec.upto linesCountSpec)

/-- 'glyphcutterlaw21.LinesOf', WHERE WHAT IT READS IS OF BULK AT MOST 1048576: true; the input reads as it did. -/
def linesOfUptoRow : OpenClaim := { program := "ytndecknocmallaa", sum := "8ef4af2ab4c9bc9732b7a3db84ee053f96905105aa0b183a537884e1c2526015", func := "glyphcutter/glyphcutterlaw21.LinesOf", spec := "linesOf", unfollowed := true, recurses := true, apart := false, narrowed := true }
def LinesOfUptoSaid : Prop := linesOfUptoRow.holds Try.pinned (OpenSpec.upto linesOfSpec)

/-- 'glyphcutterlaw21.LinesBack', WHERE WHAT IT READS IS OF BULK AT MOST 1048576: true; the input reads as it did. -/
def linesBackUptoRow : OpenClaim := { program := "ytndecknocmallaa", sum := "8ef4af2ab4c9bc9732b7a3db84ee053f96905105aa0b183a537884e1c2526015", func := "glyphcutter/glyphcutterlaw21.LinesBack", spec := "linesBack", unfollowed := true, recurses := true, apart := false, narrowed := true }
def LinesBackUptoSaid : Prop := linesBackUptoRow.holds Try.pinned (OpenSpec.upto linesBackSpec)

/-- 'glyphcutterlaw21.LinesRise', WHERE WHAT IT READS IS OF BULK AT MOST 1048576: true; the input reads as it did. -/
def linesRiseUptoRow : OpenClaim := { program := "ytndecknocmallaa", sum := "8ef4af2ab4c9bc9732b7a3db84ee053f96905105aa0b183a537884e1c2526015", func := "glyphcutter/glyphcutterlaw21.LinesRise", spec := "linesRise", unfollowed := true, recurses := true, apart := false, narrowed := true }
def LinesRiseUptoSaid : Prop := linesRiseUptoRow.holds Try.pinned (OpenSpec.upto linesRiseSpec)

/-- 'glyphcutterlaw21.LinesEnds', WHERE WHAT IT READS IS OF BULK AT MOST 1048576: true; the input reads as it did. -/
def linesEndsUptoRow : OpenClaim := { program := "ytndecknocmallaa", sum := "8ef4af2ab4c9bc9732b7a3db84ee053f96905105aa0b183a537884e1c2526015", func := "glyphcutter/glyphcutterlaw21.LinesEnds", spec := "linesEnds", unfollowed := true, recurses := true, apart := false, narrowed := true }
def LinesEndsUptoSaid : Prop := linesEndsUptoRow.holds Try.pinned (OpenSpec.upto linesEndsSpec)

end Rows
end Go.Proofs.Ytndecknocmallaa
