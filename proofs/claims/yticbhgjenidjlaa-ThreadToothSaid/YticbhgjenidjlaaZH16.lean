-- cut down, squeezed and laid together by pack.py (a program of this repository) out of this seat's texts
import Derived.OpenShut
import Derived.ChangeArms
import Derived.Deep.Slices
import Derived.Deep.Fields
import Derived.ChangeSame
import Derived.WideShapes
import Derived.ChangeKeysEq
import Derived.Below
import Derived.Deep.Draws
import Derived.Deep.AppendLies
import Derived.Maps.AppendAt
import Derived.OwnWalk
import Derived.Laws.BytesArg
import Derived.Laws.MakeOwn
import Derived.Laws.OwnMore
import Derived.Deep.OwnRows
import Derived.Tactics
import Derived.Lib.ConvBytes
import Derived.Laws.Slices
import Derived.WalkKit
import Derived.KernelRfl
import Derived.RowKit3
import Derived.Deep.LoopGhost
import Derived.Deep.QuietTactic
import Derived.BigQuiet
import Derived.WideLaws
import Derived.Deep.DeepCutAuto
import Derived.Deep.CutBlock
import Derived.Deep.RegionHeld3
import Derived.Laws.Rows
import Derived.Lib.AppendStr
import Derived.ArgAppend
import Derived.Laws.IdiomCopy
import Derived.OrdersHeld
import Derived.Laws.BitsLemmas
import Derived.RowKit
import Derived.Test.YticbhgjenidjlaaProg
import Derived.Laws.StructEq
import Derived.Test.YticbhgjenidjlaaZH3
import Derived.Test.YticbhgjenidjlaaZH7
import Derived.Test.YticbhgjenidjlaaZH4
import Derived.Test.YticbhgjenidjlaaZH6
import Derived.Test.YticbhgjenidjlaaZH5
import Derived.Test.YticbhgjenidjlaaZH2
import Derived.Test.YticbhgjenidjlaaZH10
namespace Go.Proofs.Yticbhgjenidjlaa.T
open Go.ChangeShapes Go.WideShapes Go.Deep Go.RowKit Go.Proofs.YticbhgjenidjlaaW.PrintWords
set_option linter.unusedVariables false
set_option linter.unusedSimpArgs false
set_option maxRecDepth 100000
theorem agg_of_cells {v : Value} {cs : List Value} (h : v.cells.toList = cs) (hl : cs.length ≠ 1) : v = .agg cs.toArray := by
  cases v <;> first | (rw [← h] at hl; exact absurd rfl hl) | (subst h; rfl)
theorem list1_inj {a0 b0 : Value} (h : [a0] = [b0]) : a0 = b0 := by simpa using h
theorem open71 {H : Type} {enc : TypeId × Value → H} {w : World} {base : Nat} {spare : Nat → Bool} {held : Bool} {fuel : Nat} {cs : List Value} {x : DataW H × List MemPlace}
    (h : DataW.trod enc Try.prog w base spare held fuel 71 cs = some x) : ∃ (x0 : Int) (x1 : Int) (x2 : Int) (x3 : Int) (x4 : Int) (x5 : Int) (x6 : Int) (x7 : Bool), cs = [.int .u16 x0, .int .u16 x1, .int .u16 x2, .int .u16 x3, .int .u16 x4, .int .u8 x5, .int .u8 x6, .bool x7] ∧ (Lit.int .u16 x0).wf = true ∧ (Lit.int .u16 x1).wf = true ∧ (Lit.int .u16 x2).wf = true ∧ (Lit.int .u16 x3).wf = true ∧ (Lit.int .u16 x4).wf = true ∧ (Lit.int .u8 x5).wf = true ∧ (Lit.int .u8 x6).wf = true := by
  obtain ⟨ys, n, _, _, hl, hy, hf⟩ := DataW.trod_struct Try.underlying71 h
  rw [show Try.prog.cellsOf 71 = 8 by kernel_rfl] at hl
  match cs, hl with
  | [c0, c1, c2, c3, c4, c5, c6, c7], _ =>
    have f0 : DataW.trod enc Try.prog w base spare held n 69 ((([c0, c1, c2, c3, c4, c5, c6, c7] : List Value).drop (0)).take (Try.prog.cellsOf 69)) = ys[0]? := hf 0 _ rfl
    rw [List.getElem?_eq_getElem (show 0 < ys.length by rw [hy]; decide), show Try.prog.cellsOf 69 = 1 by kernel_rfl] at f0
    obtain ⟨x0, e0, _, w0⟩ := DataW.trod_int Try.underlying69 f0
    have f1 : DataW.trod enc Try.prog w base spare held n 69 ((([c0, c1, c2, c3, c4, c5, c6, c7] : List Value).drop (1)).take (Try.prog.cellsOf 69)) = ys[1]? := hf 1 _ rfl
    rw [List.getElem?_eq_getElem (show 1 < ys.length by rw [hy]; decide), show Try.prog.cellsOf 69 = 1 by kernel_rfl] at f1
    obtain ⟨x1, e1, _, w1⟩ := DataW.trod_int Try.underlying69 f1
    have f2 : DataW.trod enc Try.prog w base spare held n 69 ((([c0, c1, c2, c3, c4, c5, c6, c7] : List Value).drop (2)).take (Try.prog.cellsOf 69)) = ys[2]? := hf 2 _ rfl
    rw [List.getElem?_eq_getElem (show 2 < ys.length by rw [hy]; decide), show Try.prog.cellsOf 69 = 1 by kernel_rfl] at f2
    obtain ⟨x2, e2, _, w2⟩ := DataW.trod_int Try.underlying69 f2
    have f3 : DataW.trod enc Try.prog w base spare held n 69 ((([c0, c1, c2, c3, c4, c5, c6, c7] : List Value).drop (3)).take (Try.prog.cellsOf 69)) = ys[3]? := hf 3 _ rfl
    rw [List.getElem?_eq_getElem (show 3 < ys.length by rw [hy]; decide), show Try.prog.cellsOf 69 = 1 by kernel_rfl] at f3
    obtain ⟨x3, e3, _, w3⟩ := DataW.trod_int Try.underlying69 f3
    have f4 : DataW.trod enc Try.prog w base spare held n 69 ((([c0, c1, c2, c3, c4, c5, c6, c7] : List Value).drop (4)).take (Try.prog.cellsOf 69)) = ys[4]? := hf 4 _ rfl
    rw [List.getElem?_eq_getElem (show 4 < ys.length by rw [hy]; decide), show Try.prog.cellsOf 69 = 1 by kernel_rfl] at f4
    obtain ⟨x4, e4, _, w4⟩ := DataW.trod_int Try.underlying69 f4
    have f5 : DataW.trod enc Try.prog w base spare held n 5 ((([c0, c1, c2, c3, c4, c5, c6, c7] : List Value).drop (5)).take (Try.prog.cellsOf 5)) = ys[5]? := hf 5 _ rfl
    rw [List.getElem?_eq_getElem (show 5 < ys.length by rw [hy]; decide), show Try.prog.cellsOf 5 = 1 by kernel_rfl] at f5
    obtain ⟨x5, e5, _, w5⟩ := DataW.trod_int Try.underlying5 f5
    have f6 : DataW.trod enc Try.prog w base spare held n 5 ((([c0, c1, c2, c3, c4, c5, c6, c7] : List Value).drop (6)).take (Try.prog.cellsOf 5)) = ys[6]? := hf 6 _ rfl
    rw [List.getElem?_eq_getElem (show 6 < ys.length by rw [hy]; decide), show Try.prog.cellsOf 5 = 1 by kernel_rfl] at f6
    obtain ⟨x6, e6, _, w6⟩ := DataW.trod_int Try.underlying5 f6
    have f7 : DataW.trod enc Try.prog w base spare held n 4 ((([c0, c1, c2, c3, c4, c5, c6, c7] : List Value).drop (7)).take (Try.prog.cellsOf 4)) = ys[7]? := hf 7 _ rfl
    rw [List.getElem?_eq_getElem (show 7 < ys.length by rw [hy]; decide), show Try.prog.cellsOf 4 = 1 by kernel_rfl] at f7
    obtain ⟨x7, e7, _⟩ := DataW.trod_bool Try.underlying4 f7
    obtain rfl := list1_inj e0
    obtain rfl := list1_inj e1
    obtain rfl := list1_inj e2
    obtain rfl := list1_inj e3
    obtain rfl := list1_inj e4
    obtain rfl := list1_inj e5
    obtain rfl := list1_inj e6
    obtain rfl := list1_inj e7
    exact ⟨x0, x1, x2, x3, x4, x5, x6, x7, rfl, w0, w1, w2, w3, w4, w5, w6⟩
theorem open72 {H : Type} {enc : TypeId × Value → H} {w : World} {base : Nat} {spare : Nat → Bool} {held : Bool} {fuel : Nat} {cs : List Value} {x : DataW H × List MemPlace}
    (h : DataW.trod enc Try.prog w base spare held fuel 72 cs = some x) : ∃ (x0 : Int) (x1 : Int) (x2 : Int), cs = [.int .u16 x0, .int .u16 x1, .int .u16 x2] ∧ (Lit.int .u16 x0).wf = true ∧ (Lit.int .u16 x1).wf = true ∧ (Lit.int .u16 x2).wf = true := by
  obtain ⟨ys, n, _, _, hl, hy, hf⟩ := DataW.trod_array Try.underlying72 h
  rw [show Try.prog.cellsOf 72 = 3 by kernel_rfl] at hl
  match cs, hl with
  | [c0, c1, c2], _ =>
    have f0 : DataW.trod enc Try.prog w base spare held n 69 ((([c0, c1, c2] : List Value).drop (0 * Try.prog.cellsOf 69)).take (Try.prog.cellsOf 69)) = ys[0]? := hf 0 (by decide)
    rw [List.getElem?_eq_getElem (show 0 < ys.length by rw [hy]; decide), show Try.prog.cellsOf 69 = 1 by kernel_rfl] at f0
    obtain ⟨x0, e0, _, w0⟩ := DataW.trod_int Try.underlying69 f0
    have f1 : DataW.trod enc Try.prog w base spare held n 69 ((([c0, c1, c2] : List Value).drop (1 * Try.prog.cellsOf 69)).take (Try.prog.cellsOf 69)) = ys[1]? := hf 1 (by decide)
    rw [List.getElem?_eq_getElem (show 1 < ys.length by rw [hy]; decide), show Try.prog.cellsOf 69 = 1 by kernel_rfl] at f1
    obtain ⟨x1, e1, _, w1⟩ := DataW.trod_int Try.underlying69 f1
    have f2 : DataW.trod enc Try.prog w base spare held n 69 ((([c0, c1, c2] : List Value).drop (2 * Try.prog.cellsOf 69)).take (Try.prog.cellsOf 69)) = ys[2]? := hf 2 (by decide)
    rw [List.getElem?_eq_getElem (show 2 < ys.length by rw [hy]; decide), show Try.prog.cellsOf 69 = 1 by kernel_rfl] at f2
    obtain ⟨x2, e2, _, w2⟩ := DataW.trod_int Try.underlying69 f2
    obtain rfl := list1_inj e0
    obtain rfl := list1_inj e1
    obtain rfl := list1_inj e2
    exact ⟨x0, x1, x2, rfl, w0, w1, w2⟩
end Go.Proofs.Yticbhgjenidjlaa.T
namespace Go.Proofs.Yticbhgjenidjlaa.T
open Go.RowKit Go.Proofs.YticbhgjenidjlaaW.PrintWords Go.Proofs.YticbhgjenidjlaaW.PrintLast
set_option linter.unusedVariables false

def Ev {α : Type} (F : Nat → Option α) (v : α) : Prop := ∃ k0, ∀ k, k0 ≤ k → F k = some v
theorem Ev.of {α : Type} {F : Nat → Option α} {v : α} (h : ∀ k, F k = some v) : Ev F v := ⟨0, fun k _ => h k⟩
theorem Ev.pure {α : Type} (v : α) : Ev (fun _ => some v) v := ⟨0, fun _ _ => rfl⟩
theorem Ev.bind {α β : Type} {F : Nat → Option α} {G : Nat → α → Option β} {v : α} {u : β} (h : Ev F v) (h2 : Ev (fun k => G k v) u) : Ev (fun k => (F k).bind (G k)) u := by
  obtain ⟨a, ha⟩ := h
  obtain ⟨b, hb⟩ := h2
  exact ⟨max a b, fun k hk => by show (F k).bind (G k) = _; rw [ha k (by omega)]; exact hb k (by omega)⟩
theorem Ev.succ {α : Type} {F : Nat → Option α} {v : α} (h : Ev (fun k => F (k + 1)) v) : Ev F v := by
  obtain ⟨a, ha⟩ := h
  exact ⟨a + 1, fun k hk => by obtain ⟨j, rfl⟩ : ∃ j, k = j + 1 := ⟨k - 1, by omega⟩; exact ha j (by omega)⟩
theorem Ev.ex {α : Type} {F : Nat → Option α} {v : α} (h : Ev F v) : ∃ k, F k = some v := by obtain ⟨a, ha⟩ := h; exact ⟨a, ha a (Nat.le_refl _)⟩
theorem wrap64_id {x : Int} (h0 : -9223372036854775808 ≤ x) (h1 : x ≤ 9223372036854775807) : wrap64 x = x := by unfold wrap64; omega
theorem mulb {x y X Y : Int} (h0 : 0 ≤ x) (h1 : x ≤ X) (h2 : 0 ≤ y) (h3 : y ≤ Y) : 0 ≤ x * y ∧ x * y ≤ X * Y :=
  ⟨Int.mul_nonneg h0 h2, Int.mul_le_mul h1 h3 h2 (by omega)⟩
theorem mulbs {x y X Y : Int} (h0 : -X ≤ x) (h1 : x ≤ X) (h2 : -Y ≤ y) (h3 : y ≤ Y) : -(X * Y) ≤ x * y ∧ x * y ≤ X * Y := by
  have hX : 0 ≤ X := by omega
  have hY : 0 ≤ Y := by omega
  rcases Int.le_total 0 x with hx | hx <;> rcases Int.le_total 0 y with hy | hy
  · have := mulb hx h1 hy h3; have := Int.mul_nonneg hX hY; omega
  · have := mulb hx h1 (show 0 ≤ -y by omega) (show -y ≤ Y by omega); rw [Int.mul_neg] at this; omega
  · have := mulb (show 0 ≤ -x by omega) (show -x ≤ X by omega) hy h3; rw [Int.neg_mul] at this; omega
  · have := mulb (show 0 ≤ -x by omega) (show -x ≤ X by omega) (show 0 ≤ -y by omega) (show -y ≤ Y by omega); rw [Int.neg_mul_neg] at this; omega

def low (n d : Int) : Int × Int := (n.tdiv (Int.gcd n d : Int), d.tdiv (Int.gcd n d : Int))
theorem low_two (n d : Int) (c : Int) (hc : 0 < c) : low (c * n) (c * d) = low n d := by
  unfold low
  rw [Int.gcd_mul_left, show ((c.natAbs * Int.gcd n d : Nat) : Int) = c * (Int.gcd n d : Int) by rw [Int.natCast_mul, Int.natAbs_of_nonneg (by omega)], Int.mul_tdiv_mul_of_pos _ _ hc, Int.mul_tdiv_mul_of_pos _ _ hc]

theorem gcd_step (x y : Int) : Int.gcd y (x.tmod y) = Int.gcd x y := by
  unfold Int.gcd
  rw [Int.natAbs_tmod, Nat.gcd_comm y.natAbs, ← Nat.gcd_rec, Nat.gcd_comm]
theorem gcd_l0 : ∀ (n : Nat) (x y : Int), y.natAbs ≤ n → -9223372036854775808 < x → x ≤ 9223372036854775807 → -9223372036854775808 < y → y ≤ 9223372036854775807 → Ev (fun k => thread_gcd.l0 k x y) (Int.gcd x y : Int)
  | 0, x, y, h, h0, h1, _, _ => by
    obtain rfl : y = 0 := by omega
    refine Ev.succ (Ev.of fun k => ?_)
    simp only [thread_gcd.l0, if_true]
    rw [wrap64_id (by omega) (by omega)]
    congr 1
    unfold mx Int.gcd
    simp only [Int.natAbs_zero, Nat.gcd_zero_right]
    split <;> omega
  | n + 1, x, y, h, h0, h1, h2, h3 => by
    by_cases hy : y = 0
    · exact hy ▸ gcd_l0 0 x 0 (by simp) h0 h1 (by omega) (by omega)
    · refine Ev.succ ?_
      simp only [thread_gcd.l0, hy, if_false]
      rw [← gcd_step]
      have hl : (x.tmod y).natAbs < y.natAbs := by rw [Int.natAbs_tmod]; exact Nat.mod_lt _ (by omega)
      exact gcd_l0 n y (x.tmod y) (by omega) h2 h3 (by omega) (by omega)

theorem tdiv_bound (n : Int) (g : Nat) : -(n.natAbs : Int) ≤ n.tdiv g ∧ n.tdiv g ≤ n.natAbs := by
  have h : (n.tdiv g).natAbs ≤ n.natAbs := by rw [Int.natAbs_tdiv]; exact Nat.div_le_self _ _
  omega
theorem ratio_ev (n d : Int) (h0 : -9223372036854775808 < n) (h1 : n ≤ 9223372036854775807) (h2 : 0 < d) (h3 : d ≤ 9223372036854775807) : Ev (fun k => thread_ratio.f k n d) (low n d) := by
  unfold thread_ratio.f thread_gcd.f
  refine Ev.bind (gcd_l0 _ n d (Nat.le_refl _) h0 h1 (by omega) h3) (Ev.of fun k => ?_)
  have hg : 0 < Int.gcd n d := Int.gcd_pos_of_ne_zero_right _ (by omega)
  have a := tdiv_bound n (Int.gcd n d)
  have b := tdiv_bound d (Int.gcd n d)
  rw [if_neg (by omega), wrap64_id (by omega) (by omega), wrap64_id (by omega) (by omega)]
  rfl
end Go.Proofs.Yticbhgjenidjlaa.T
namespace Go.Proofs.Yticbhgjenidjlaa.T
open Go.RowKit Go.Proofs.YticbhgjenidjlaaW.PrintWords Go.Proofs.YticbhgjenidjlaaW.PrintLast Go.Proofs.YticbhgjenidjlaaW.PrintMore
attribute [local go_sem] max2_int min2_int max_two min_two max_three min_three max_four min_four   -- for this text's walks alone
set_option linter.unusedVariables false
set_option linter.unusedSimpArgs false
attribute [local go_sem] wl_100001

def acmeref01_Width.f (a0_0 : Int) (a0_1 : Int) (a0_2 : Int) (a0_3 : Int) (a0_4 : Int) (a0_5 : Int) (a0_6 : Bool) (a0_7 : Int) (a1 : Int) : Option (Int) := some (wrap64 ((wrap64 (1000 * a0_0)) - (wrap64 ((wrap64 (2 * a1)) * (wrap64 (a0_1 + a0_2))))))
end Go.Proofs.Yticbhgjenidjlaa.T
