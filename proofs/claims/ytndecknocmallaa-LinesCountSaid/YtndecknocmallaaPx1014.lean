/- One function of the given program as a plain Lean function, and the proof that the call comes to its answer; written by a program (mp.py). -/
import Derived.Test.YtndecknocmallaaPx0
import Derived.Test.YtndecknocmallaaLPlace
namespace Go.Proofs.Ytndecknocmallaa.P
open Go.RowKit Go.Proofs.YtndecknocmallaaW.PrintWords Go.Proofs.YtndecknocmallaaW.PrintLast Go.Proofs.YtndecknocmallaaW.PrintMore
attribute [local go_sem] max2_int min2_int max_two min_two max_three min_three max_four min_four   -- for this text's walks alone
set_option linter.unusedVariables false
set_option linter.unusedSimpArgs false

/-! ### lines_Place: function 14 -/


end Go.Proofs.Ytndecknocmallaa.P
