/- Written by a program of this session (wip/pp/pp.py, a patched run of the print) out of the translation: each Go function as a Lean function, and the walk that shows the two to be one. -/
import Derived.Test.YtjehfmimbbdnkaaDoorLx0
import Derived.Test.YtjehfmimbbdnkaaDoorGl
namespace Go.Proofs.YtjehfmimbbdnkaaDoor.L
open Go.RowKit Go.Proofs.YtjehfmimbbdnkaaDoorW.PrintWords Go.Proofs.YtjehfmimbbdnkaaDoorW.PrintLast Go.Proofs.YtjehfmimbbdnkaaDoorW.PrintMore
attribute [local go_sem] max2_int min2_int max_two min_two max_three min_three max_four min_four   -- for this text's walks alone
set_option linter.unusedVariables false
set_option linter.unusedSimpArgs false

theorem eqA37 (d : Nat) (w : World) (x0 y0 : Int) (x1 y1 : Int) (x2 y2 : Int) (x3 y3 : ByteArray) :
    (Op.equalIn (d + 2) 37 (.agg #[.int .i64 x0, .int .i64 x1, .int .u64 x2, .string x3]) (.agg #[.int .i64 y0, .int .i64 y1, .int .u64 y2, .string y3])).run Tryd.prog w = .ok (x0 == y0 && (x1 == y1 && (x2 == y2 && (x3.toList == y3.toList)))) w := by
  refine eqA_of Tryd.underlying37 (by kernel_rfl) ?_
  refine eqf_cons (by rfl) (by go_simp; rfl) (by go_simp; rfl) (by go_simp) ?_
  refine eqf_cons (by rfl) (by go_simp; rfl) (by go_simp; rfl) (by go_simp) ?_
  refine eqf_cons (by rfl) (by go_simp; rfl) (by go_simp; rfl) (by go_simp) ?_
  exact eqf_last (by rfl) (by go_simp; rfl) (by go_simp; rfl) (by go_simp)
end Go.Proofs.YtjehfmimbbdnkaaDoor.L
