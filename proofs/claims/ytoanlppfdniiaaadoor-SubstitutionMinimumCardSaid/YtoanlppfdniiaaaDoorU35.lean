/- A part of the proof, joined by a program of this session out of its texts; no condition. -/
import Derived.Test.YtoanlppfdniiaaaDoorU1
section
namespace Go.Proofs.YtoanlppfdniiaaaDoor.Q
open Go.RowKit Go.Proofs.YtoanlppfdniiaaaDoorW.PrintWords Go.Proofs.YtoanlppfdniiaaaDoorW.PrintLast Go.Proofs.YtoanlppfdniiaaaDoorW.PrintMore
attribute [local go_sem] max2_int min2_int max_two min_two max_three min_three max_four min_four
set_option linter.unusedVariables false
set_option linter.unusedSimpArgs false
theorem eqA52 (d : Nat) (w : World) (x0 y0 : ByteArray) (x1 y1 : Int) (x2 y2 : Int) :
  (Op.equalIn (d + 2) 52 (.agg #[.string x0, .int .i64 x1, .int .i64 x2]) (.agg #[.string y0, .int .i64 y1, .int .i64 y2])).run Tryd.prog w = .ok (x0.toList == y0.toList && (x1 == y1 && (x2 == y2))) w := by
 refine eqA_of Tryd.underlying52 (by kernel_rfl) ?_
 refine eqf_cons (by rfl) (by go_simp; rfl) (by go_simp; rfl) (by go_simp) ?_
 refine eqf_cons (by rfl) (by go_simp; rfl) (by go_simp; rfl) (by go_simp) ?_
 exact eqf_last (by rfl) (by go_simp; rfl) (by go_simp; rfl) (by go_simp)
end Go.Proofs.YtoanlppfdniiaaaDoor.Q
end
