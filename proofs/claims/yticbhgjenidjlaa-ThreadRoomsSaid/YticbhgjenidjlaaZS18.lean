-- cut down, squeezed and laid together by pack.py (a program of this repository) out of this seat's texts
import Derived.OpenShut
import Derived.ChangeArms
import Derived.Deep.Slices
import Derived.Deep.Fields
import Derived.ChangeSame
import Derived.WideShapes
import Derived.ChangeKeysEq
import Derived.Below
import Derived.Deep.Draws
import Derived.Deep.AppendLies
import Derived.Maps.AppendAt
import Derived.OwnWalk
import Derived.Laws.BytesArg
import Derived.Laws.MakeOwn
import Derived.Laws.OwnMore
import Derived.Deep.OwnRows
import Derived.Tactics
import Derived.Lib.ConvBytes
import Derived.Laws.Slices
import Derived.WalkKit
import Derived.KernelRfl
import Derived.RowKit3
import Derived.Deep.LoopGhost
import Derived.Deep.QuietTactic
import Derived.BigQuiet
import Derived.WideLaws
import Derived.Deep.DeepCutAuto
import Derived.Deep.CutBlock
import Derived.Deep.RegionHeld3
import Derived.Laws.Rows
import Derived.Lib.AppendStr
import Derived.ArgAppend
import Derived.Laws.IdiomCopy
import Derived.OrdersHeld
import Derived.Laws.BitsLemmas
import Derived.RowKit
import Derived.Test.YticbhgjenidjlaaProg
import Derived.Laws.StructEq
import Derived.Test.YticbhgjenidjlaaZS3
import Derived.Test.YticbhgjenidjlaaZS7
import Derived.Test.YticbhgjenidjlaaZS4
import Derived.Test.YticbhgjenidjlaaZS6
import Derived.Test.YticbhgjenidjlaaZS5
import Derived.Test.YticbhgjenidjlaaZS2
namespace Go.Proofs.Yticbhgjenidjlaa.T
open Go.ChangeShapes Go.WideShapes Go.Deep Go.RowKit Go.Proofs.YticbhgjenidjlaaW.PrintWords
set_option linter.unusedVariables false
set_option linter.unusedSimpArgs false
set_option maxRecDepth 100000
theorem agg_of_cells {v : Value} {cs : List Value} (h : v.cells.toList = cs) (hl : cs.length ≠ 1) : v = .agg cs.toArray := by
  cases v <;> first | (rw [← h] at hl; exact absurd rfl hl) | (subst h; rfl)
theorem list1_inj {a0 b0 : Value} (h : [a0] = [b0]) : a0 = b0 := by simpa using h
theorem open23 {H : Type} {enc : TypeId × Value → H} {w : World} {base : Nat} {spare : Nat → Bool} {held : Bool} {fuel : Nat} {cs : List Value} {x : DataW H × List MemPlace}
    (h : DataW.trod enc Try.prog w base spare held fuel 23 cs = some x) : ∃ (x0 : Int) (x1 : Int) (x2 : Int) (x3 : Int) (x4 : Int) (x5 : Int) (x6 : Bool) (x7 : Int), cs = [.int .i64 x0, .int .i64 x1, .int .i64 x2, .int .i64 x3, .int .i64 x4, .int .i64 x5, .bool x6, .int .i64 x7] ∧ (Lit.int .i64 x0).wf = true ∧ (Lit.int .i64 x1).wf = true ∧ (Lit.int .i64 x2).wf = true ∧ (Lit.int .i64 x3).wf = true ∧ (Lit.int .i64 x4).wf = true ∧ (Lit.int .i64 x5).wf = true ∧ (Lit.int .i64 x7).wf = true := by
  obtain ⟨ys, n, _, _, hl, hy, hf⟩ := DataW.trod_struct Try.underlying23 h
  rw [show Try.prog.cellsOf 23 = 8 by kernel_rfl] at hl
  match cs, hl with
  | [c0, c1, c2, c3, c4, c5, c6, c7], _ =>
    have f0 : DataW.trod enc Try.prog w base spare held n 3 ((([c0, c1, c2, c3, c4, c5, c6, c7] : List Value).drop (0)).take (Try.prog.cellsOf 3)) = ys[0]? := hf 0 _ rfl
    rw [List.getElem?_eq_getElem (show 0 < ys.length by rw [hy]; decide), show Try.prog.cellsOf 3 = 1 by kernel_rfl] at f0
    obtain ⟨x0, e0, _, w0⟩ := DataW.trod_int Try.underlying3 f0
    have f1 : DataW.trod enc Try.prog w base spare held n 3 ((([c0, c1, c2, c3, c4, c5, c6, c7] : List Value).drop (1)).take (Try.prog.cellsOf 3)) = ys[1]? := hf 1 _ rfl
    rw [List.getElem?_eq_getElem (show 1 < ys.length by rw [hy]; decide), show Try.prog.cellsOf 3 = 1 by kernel_rfl] at f1
    obtain ⟨x1, e1, _, w1⟩ := DataW.trod_int Try.underlying3 f1
    have f2 : DataW.trod enc Try.prog w base spare held n 3 ((([c0, c1, c2, c3, c4, c5, c6, c7] : List Value).drop (2)).take (Try.prog.cellsOf 3)) = ys[2]? := hf 2 _ rfl
    rw [List.getElem?_eq_getElem (show 2 < ys.length by rw [hy]; decide), show Try.prog.cellsOf 3 = 1 by kernel_rfl] at f2
    obtain ⟨x2, e2, _, w2⟩ := DataW.trod_int Try.underlying3 f2
    have f3 : DataW.trod enc Try.prog w base spare held n 3 ((([c0, c1, c2, c3, c4, c5, c6, c7] : List Value).drop (3)).take (Try.prog.cellsOf 3)) = ys[3]? := hf 3 _ rfl
    rw [List.getElem?_eq_getElem (show 3 < ys.length by rw [hy]; decide), show Try.prog.cellsOf 3 = 1 by kernel_rfl] at f3
    obtain ⟨x3, e3, _, w3⟩ := DataW.trod_int Try.underlying3 f3
    have f4 : DataW.trod enc Try.prog w base spare held n 3 ((([c0, c1, c2, c3, c4, c5, c6, c7] : List Value).drop (4)).take (Try.prog.cellsOf 3)) = ys[4]? := hf 4 _ rfl
    rw [List.getElem?_eq_getElem (show 4 < ys.length by rw [hy]; decide), show Try.prog.cellsOf 3 = 1 by kernel_rfl] at f4
    obtain ⟨x4, e4, _, w4⟩ := DataW.trod_int Try.underlying3 f4
    have f5 : DataW.trod enc Try.prog w base spare held n 3 ((([c0, c1, c2, c3, c4, c5, c6, c7] : List Value).drop (5)).take (Try.prog.cellsOf 3)) = ys[5]? := hf 5 _ rfl
    rw [List.getElem?_eq_getElem (show 5 < ys.length by rw [hy]; decide), show Try.prog.cellsOf 3 = 1 by kernel_rfl] at f5
    obtain ⟨x5, e5, _, w5⟩ := DataW.trod_int Try.underlying3 f5
    have f6 : DataW.trod enc Try.prog w base spare held n 4 ((([c0, c1, c2, c3, c4, c5, c6, c7] : List Value).drop (6)).take (Try.prog.cellsOf 4)) = ys[6]? := hf 6 _ rfl
    rw [List.getElem?_eq_getElem (show 6 < ys.length by rw [hy]; decide), show Try.prog.cellsOf 4 = 1 by kernel_rfl] at f6
    obtain ⟨x6, e6, _⟩ := DataW.trod_bool Try.underlying4 f6
    have f7 : DataW.trod enc Try.prog w base spare held n 3 ((([c0, c1, c2, c3, c4, c5, c6, c7] : List Value).drop (7)).take (Try.prog.cellsOf 3)) = ys[7]? := hf 7 _ rfl
    rw [List.getElem?_eq_getElem (show 7 < ys.length by rw [hy]; decide), show Try.prog.cellsOf 3 = 1 by kernel_rfl] at f7
    obtain ⟨x7, e7, _, w7⟩ := DataW.trod_int Try.underlying3 f7
    obtain rfl := list1_inj e0
    obtain rfl := list1_inj e1
    obtain rfl := list1_inj e2
    obtain rfl := list1_inj e3
    obtain rfl := list1_inj e4
    obtain rfl := list1_inj e5
    obtain rfl := list1_inj e6
    obtain rfl := list1_inj e7
    exact ⟨x0, x1, x2, x3, x4, x5, x6, x7, rfl, w0, w1, w2, w3, w4, w5, w7⟩
theorem open43 {H : Type} {enc : TypeId × Value → H} {w : World} {base : Nat} {spare : Nat → Bool} {held : Bool} {fuel : Nat} {cs : List Value} {x : DataW H × List MemPlace}
    (h : DataW.trod enc Try.prog w base spare held fuel 43 cs = some x) : ∃ (x0 : Int) (x1 : Int), cs = [.int .i64 x0, .int .i64 x1] ∧ (Lit.int .i64 x0).wf = true ∧ (Lit.int .i64 x1).wf = true := by
  obtain ⟨ys, n, _, _, hl, hy, hf⟩ := DataW.trod_struct Try.underlying43 h
  rw [show Try.prog.cellsOf 43 = 2 by kernel_rfl] at hl
  match cs, hl with
  | [c0, c1], _ =>
    have f0 : DataW.trod enc Try.prog w base spare held n 3 ((([c0, c1] : List Value).drop (0)).take (Try.prog.cellsOf 3)) = ys[0]? := hf 0 _ rfl
    rw [List.getElem?_eq_getElem (show 0 < ys.length by rw [hy]; decide), show Try.prog.cellsOf 3 = 1 by kernel_rfl] at f0
    obtain ⟨x0, e0, _, w0⟩ := DataW.trod_int Try.underlying3 f0
    have f1 : DataW.trod enc Try.prog w base spare held n 3 ((([c0, c1] : List Value).drop (1)).take (Try.prog.cellsOf 3)) = ys[1]? := hf 1 _ rfl
    rw [List.getElem?_eq_getElem (show 1 < ys.length by rw [hy]; decide), show Try.prog.cellsOf 3 = 1 by kernel_rfl] at f1
    obtain ⟨x1, e1, _, w1⟩ := DataW.trod_int Try.underlying3 f1
    obtain rfl := list1_inj e0
    obtain rfl := list1_inj e1
    exact ⟨x0, x1, rfl, w0, w1⟩
end Go.Proofs.Yticbhgjenidjlaa.T
namespace Go.Proofs.Yticbhgjenidjlaa.T
open Go.RowKit Go.Proofs.YticbhgjenidjlaaW.PrintWords Go.Proofs.YticbhgjenidjlaaW.PrintLast
set_option linter.unusedVariables false

def Ev {α : Type} (F : Nat → Option α) (v : α) : Prop := ∃ k0, ∀ k, k0 ≤ k → F k = some v
theorem Ev.of {α : Type} {F : Nat → Option α} {v : α} (h : ∀ k, F k = some v) : Ev F v := ⟨0, fun k _ => h k⟩
theorem Ev.pure {α : Type} (v : α) : Ev (fun _ => some v) v := ⟨0, fun _ _ => rfl⟩
theorem Ev.bind {α β : Type} {F : Nat → Option α} {G : Nat → α → Option β} {v : α} {u : β} (h : Ev F v) (h2 : Ev (fun k => G k v) u) : Ev (fun k => (F k).bind (G k)) u := by
  obtain ⟨a, ha⟩ := h
  obtain ⟨b, hb⟩ := h2
  exact ⟨max a b, fun k hk => by show (F k).bind (G k) = _; rw [ha k (by omega)]; exact hb k (by omega)⟩
theorem Ev.succ {α : Type} {F : Nat → Option α} {v : α} (h : Ev (fun k => F (k + 1)) v) : Ev F v := by
  obtain ⟨a, ha⟩ := h
  exact ⟨a + 1, fun k hk => by obtain ⟨j, rfl⟩ : ∃ j, k = j + 1 := ⟨k - 1, by omega⟩; exact ha j (by omega)⟩
theorem Ev.ex {α : Type} {F : Nat → Option α} {v : α} (h : Ev F v) : ∃ k, F k = some v := by obtain ⟨a, ha⟩ := h; exact ⟨a, ha a (Nat.le_refl _)⟩
theorem wrap64_id {x : Int} (h0 : -9223372036854775808 ≤ x) (h1 : x ≤ 9223372036854775807) : wrap64 x = x := by unfold wrap64; omega
theorem wf64 {x : Int} (h : (Lit.int .i64 x).wf = true) : -9223372036854775808 ≤ x ∧ x ≤ 9223372036854775807 := by
  simp [Lit.wf, IntKind.min, IntKind.max, IntKind.signed, IntKind.bits] at h; omega
theorem mulb {x y X Y : Int} (h0 : 0 ≤ x) (h1 : x ≤ X) (h2 : 0 ≤ y) (h3 : y ≤ Y) : 0 ≤ x * y ∧ x * y ≤ X * Y :=
  ⟨Int.mul_nonneg h0 h2, Int.mul_le_mul h1 h3 h2 (by omega)⟩
theorem mulbs {x y X Y : Int} (h0 : -X ≤ x) (h1 : x ≤ X) (h2 : -Y ≤ y) (h3 : y ≤ Y) : -(X * Y) ≤ x * y ∧ x * y ≤ X * Y := by
  have hX : 0 ≤ X := by omega
  have hY : 0 ≤ Y := by omega
  rcases Int.le_total 0 x with hx | hx <;> rcases Int.le_total 0 y with hy | hy
  · have := mulb hx h1 hy h3; have := Int.mul_nonneg hX hY; omega
  · have := mulb hx h1 (show 0 ≤ -y by omega) (show -y ≤ Y by omega); rw [Int.mul_neg] at this; omega
  · have := mulb (show 0 ≤ -x by omega) (show -x ≤ X by omega) hy h3; rw [Int.neg_mul] at this; omega
  · have := mulb (show 0 ≤ -x by omega) (show -x ≤ X by omega) (show 0 ≤ -y by omega) (show -y ≤ Y by omega); rw [Int.neg_mul_neg] at this; omega

end Go.Proofs.Yticbhgjenidjlaa.T
