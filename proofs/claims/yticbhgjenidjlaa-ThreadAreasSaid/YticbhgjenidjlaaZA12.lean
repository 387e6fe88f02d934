-- cut down, squeezed and laid together by pack.py (a program of this repository) out of this seat's texts
import Derived.Test.YticbhgjenidjlaaZA2
import Derived.Test.YticbhgjenidjlaaZA5
import Derived.Test.YticbhgjenidjlaaZA8
import Derived.Test.YticbhgjenidjlaaZA4
import Derived.Test.YticbhgjenidjlaaZA7
import Derived.Test.YticbhgjenidjlaaZA3
import Derived.Test.YticbhgjenidjlaaZA6
import Derived.Test.YticbhgjenidjlaaZA1
namespace Go.Proofs.Yticbhgjenidjlaa.T
open Go.RowKit Go.Proofs.YticbhgjenidjlaaW.PrintWords Go.Proofs.YticbhgjenidjlaaW.PrintLast Go.Proofs.YticbhgjenidjlaaW.PrintMore
attribute [local go_sem] max2_int min2_int max_two min_two max_three min_three max_four min_four   -- for this text's walks alone
set_option linter.unusedVariables false
set_option linter.unusedSimpArgs false
attribute [local go_sem] wl_100001

theorem eqA67 (d : Nat) (w : World) (x0 y0 : Int) (x1 y1 : Int) :
  (Op.equalIn (d + 2) 67 (.agg #[.int .i64 x0, .int .i64 x1]) (.agg #[.int .i64 y0, .int .i64 y1])).run Try.prog w = .ok (x0 == y0 && (x1 == y1)) w := by
 refine eqI_of Try.underlying67 (by kernel_rfl) ?_
 rw [show Try.prog.cellsOf 3 = 1 by kernel_rfl, show List.range 2 = [0, 1] from rfl]
 refine eqI_cons (by go_simp; rfl) (by go_simp; rfl) (by go_simp) ?_
 exact eqI_last (by go_simp; rfl) (by go_simp; rfl) (by go_simp)
end Go.Proofs.Yticbhgjenidjlaa.T
