-- cut down, squeezed and laid together by pack.py (a program of this repository) out of this seat's texts
import Derived.WalkKit
import Derived.Deep.LoopGhost
import Derived.Deep.QuietTactic
import Derived.BigQuiet
import Derived.Test.YticbhgjenidjlaaZG2
import Derived.Test.YticbhgjenidjlaaZG8
import Derived.Test.YticbhgjenidjlaaZG5
import Derived.Test.YticbhgjenidjlaaZG4
import Derived.Test.YticbhgjenidjlaaZG7
import Derived.Test.YticbhgjenidjlaaZG3
import Derived.Test.YticbhgjenidjlaaZG6
import Derived.Test.YticbhgjenidjlaaZG1
namespace Go.Proofs.Yticbhgjenidjlaa.T
open Go.RowKit Go.Proofs.YticbhgjenidjlaaW.PrintWords
set_option linter.unusedVariables false

def thread_form_hand.f (a0_0 : Int) (a0_1 : Int) (a0_2 : Int) (a0_3 : Int) (a0_4 : Int) (a0_5 : Int) (a0_6 : Bool) (a0_7 : Int) : Option Int := some (if a0_6 then 2 else 1)
set_option maxRecDepth 100000 in
theorem thread_form_hand.calls (a0_0 : Int) (a0_1 : Int) (a0_2 : Int) (a0_3 : Int) (a0_4 : Int) (a0_5 : Int) (a0_6 : Bool) (a0_7 : Int) (r : Int) (w : World) (h : thread_form_hand.f a0_0 a0_1 a0_2 a0_3 a0_4 a0_5 a0_6 a0_7 = some r) :
  Calls Try.prog 73 #[.agg #[.int .i64 a0_0, .int .i64 a0_1, .int .i64 a0_2, .int .i64 a0_3, .int .i64 a0_4, .int .i64 a0_5, .bool a0_6, .int .i64 a0_7]] w fun e w' => e = .returned (.int .i64 r) ∧ Below w.heap.size w w' := by
 obtain rfl : (if a0_6 then 2 else 1) = r := Option.some.inj h
 clear h
 have hu96 := Try.underlying96
 have hu23 := Try.underlying23
 have hmm := @run_makeMap Try.prog
 go_enter Try.func73, Try.ntmps73
 go_wp2_with fail
 generalize hW0 : (w.alloc (Obj.cells _ 96)) = w0
 have hz : w0.heap.size = w.heap.size + 1 := by rw [← hW0]; simp
 have hb0 : Below w.heap.size w w0 := by rw [← hW0]; exact (Below.refl _ _).alloc (Nat.le_refl _) _
 have hc0 : w0.cell? ⟨w.heap.size, 6, none⟩ = some (.bool a0_6) := by rw [← hW0]; simp
 clear hW0
 generalize hW1 : w0.alloc (Obj.map #[] 0) = w1
 have h1 : w1.heap[w.heap.size + 1]? = some (.map #[] 0) := by rw [← hW1, ← hz]; exact (MapKept.heap_alloc w0 _).1
 have hb1 : Below w.heap.size w w1 := by rw [← hW1]; exact hb0.alloc (by omega) _
 have hc1 : w1.cell? ⟨w.heap.size, 6, none⟩ = some (.bool a0_6) := by
  rw [← hW1]; exact (World.cell?_of_block (w := w0) (Below.heap_alloc w0 _ w.heap.size (by omega))).trans hc0
 clear hW1 hz hc0 hb0
 rw [run_mapUpdate_new Try.underlying132 h1 (by exact trivial) Try.underlying4 rfl]
 generalize hW2 : putB w1 (w.heap.size + 1) _ = w2
 have h2 : w2.heap[w.heap.size + 1]? = some (.map #[⟨.bool false, .int .i64 1, 0⟩] 1) := by rw [← hW2]; exact putB_at _ _ _ (by rcases Array.getElem?_eq_some_iff.1 h1 with ⟨h, _⟩; exact h)
 have hb2 : Below w.heap.size w w2 := by rw [← hW2]; exact below_putB hb1 (by omega) _
 have hc2 : w2.cell? ⟨w.heap.size, 6, none⟩ = some (.bool a0_6) := by rw [← hW2]; exact (putB_cell _ _ _ _ (by simp)).trans hc1
 clear hW2 h1 hb1 hc1
 go_wp2_with fail
 rw [run_mapUpdate_new Try.underlying132 h2 (by exact trivial) Try.underlying4 rfl]
 generalize hW3 : putB w2 (w.heap.size + 1) _ = w3
 have h3 : w3.heap[w.heap.size + 1]? = some (.map #[⟨.bool false, .int .i64 1, 0⟩, ⟨.bool true, .int .i64 2, 1⟩] 2) := by rw [← hW3]; exact putB_at _ _ _ (by rcases Array.getElem?_eq_some_iff.1 h2 with ⟨h, _⟩; exact h)
 have hb3 : Below w.heap.size w w3 := by rw [← hW3]; exact below_putB hb2 (by omega) _
 have hc3 : w3.cell? ⟨w.heap.size, 6, none⟩ = some (.bool a0_6) := by rw [← hW3]; exact (putB_cell _ _ _ _ (by simp)).trans hc2
 clear hW3 h2 hb2 hc2
 have HB := hid hb3
 clear hb3
 cases a0_6
 ·have hl := run_lookup_at (P := Try.prog) (w := w3) (t := 132) (key := .bool false) (i := 0) (val := .int .i64 1) Try.underlying132 h3 (by exact trivial) Try.underlying4 rfl
  go_wp2_with fail
  go_ret
  exact ⟨rfl, HB.out⟩
 ·have hl := run_lookup_at (P := Try.prog) (w := w3) (t := 132) (key := .bool true) (i := 1) (val := .int .i64 2) Try.underlying132 h3 (by exact trivial) Try.underlying4 rfl
  go_wp2_with fail
  go_ret
  exact ⟨rfl, HB.out⟩
end Go.Proofs.Yticbhgjenidjlaa.T
