-- cut down, squeezed and laid together by pack.py (a program of this repository) out of this seat's texts
import Derived.OpenShut
import Derived.ChangeArms
import Derived.Deep.Slices
import Derived.Deep.Fields
import Derived.ChangeSame
import Derived.WideShapes
import Derived.Test.YticbhgjenidjlaaZG2
import Derived.Test.YticbhgjenidjlaaZG5
import Derived.Test.YticbhgjenidjlaaZG8
import Derived.Test.YticbhgjenidjlaaZG4
import Derived.Test.YticbhgjenidjlaaZG7
import Derived.Test.YticbhgjenidjlaaZG3
import Derived.Test.YticbhgjenidjlaaZG6
import Derived.Test.YticbhgjenidjlaaZG1
namespace Go.Proofs.Yticbhgjenidjlaa.T
open Go.ChangeShapes Go.WideShapes Go.Deep Go.RowKit Go.Proofs.YticbhgjenidjlaaW.PrintWords
set_option linter.unusedVariables false
set_option linter.unusedSimpArgs false
set_option maxRecDepth 100000
theorem agg_of_cells {v : Value} {cs : List Value} (h : v.cells.toList = cs) (hl : cs.length ≠ 1) : v = .agg cs.toArray := by
  cases v <;> first | (rw [← h] at hl; exact absurd rfl hl) | (subst h; rfl)
theorem list1_inj {a0 b0 : Value} (h : [a0] = [b0]) : a0 = b0 := by simpa using h
theorem list2_inj {a0 a1 b0 b1 : Value} (h : [a0, a1] = [b0, b1]) : a0 = b0 ∧ a1 = b1 := by simpa using h
theorem open23 {H : Type} {enc : TypeId × Value → H} {w : World} {base : Nat} {spare : Nat → Bool} {held : Bool} {fuel : Nat} {cs : List Value} {x : DataW H × List MemPlace}
    (h : DataW.trod enc Try.prog w base spare held fuel 23 cs = some x) : ∃ (x0 : Int) (x1 : Int) (x2 : Int) (x3 : Int) (x4 : Int) (x5 : Int) (x6 : Bool) (x7 : Int), cs = [.int .i64 x0, .int .i64 x1, .int .i64 x2, .int .i64 x3, .int .i64 x4, .int .i64 x5, .bool x6, .int .i64 x7] ∧ (Lit.int .i64 x0).wf = true ∧ (Lit.int .i64 x1).wf = true ∧ (Lit.int .i64 x2).wf = true ∧ (Lit.int .i64 x3).wf = true ∧ (Lit.int .i64 x4).wf = true ∧ (Lit.int .i64 x5).wf = true ∧ (Lit.int .i64 x7).wf = true := by
  obtain ⟨ys, n, _, _, hl, hy, hf⟩ := DataW.trod_struct Try.underlying23 h
  rw [show Try.prog.cellsOf 23 = 8 by kernel_rfl] at hl
  match cs, hl with
  | [c0, c1, c2, c3, c4, c5, c6, c7], _ =>
    have f0 : DataW.trod enc Try.prog w base spare held n 3 ((([c0, c1, c2, c3, c4, c5, c6, c7] : List Value).drop (0)).take (Try.prog.cellsOf 3)) = ys[0]? := hf 0 _ rfl
    rw [List.getElem?_eq_getElem (show 0 < ys.length by rw [hy]; decide), show Try.prog.cellsOf 3 = 1 by kernel_rfl] at f0
    obtain ⟨x0, e0, _, w0⟩ := DataW.trod_int Try.underlying3 f0
    have f1 : DataW.trod enc Try.prog w base spare held n 3 ((([c0, c1, c2, c3, c4, c5, c6, c7] : List Value).drop (1)).take (Try.prog.cellsOf 3)) = ys[1]? := hf 1 _ rfl
    rw [List.getElem?_eq_getElem (show 1 < ys.length by rw [hy]; decide), show Try.prog.cellsOf 3 = 1 by kernel_rfl] at f1
    obtain ⟨x1, e1, _, w1⟩ := DataW.trod_int Try.underlying3 f1
    have f2 : DataW.trod enc Try.prog w base spare held n 3 ((([c0, c1, c2, c3, c4, c5, c6, c7] : List Value).drop (2)).take (Try.prog.cellsOf 3)) = ys[2]? := hf 2 _ rfl
    rw [List.getElem?_eq_getElem (show 2 < ys.length by rw [hy]; decide), show Try.prog.cellsOf 3 = 1 by kernel_rfl] at f2
    obtain ⟨x2, e2, _, w2⟩ := DataW.trod_int Try.underlying3 f2
    have f3 : DataW.trod enc Try.prog w base spare held n 3 ((([c0, c1, c2, c3, c4, c5, c6, c7] : List Value).drop (3)).take (Try.prog.cellsOf 3)) = ys[3]? := hf 3 _ rfl
    rw [List.getElem?_eq_getElem (show 3 < ys.length by rw [hy]; decide), show Try.prog.cellsOf 3 = 1 by kernel_rfl] at f3
    obtain ⟨x3, e3, _, w3⟩ := DataW.trod_int Try.underlying3 f3
    have f4 : DataW.trod enc Try.prog w base spare held n 3 ((([c0, c1, c2, c3, c4, c5, c6, c7] : List Value).drop (4)).take (Try.prog.cellsOf 3)) = ys[4]? := hf 4 _ rfl
    rw [List.getElem?_eq_getElem (show 4 < ys.length by rw [hy]; decide), show Try.prog.cellsOf 3 = 1 by kernel_rfl] at f4
    obtain ⟨x4, e4, _, w4⟩ := DataW.trod_int Try.underlying3 f4
    have f5 : DataW.trod enc Try.prog w base spare held n 3 ((([c0, c1, c2, c3, c4, c5, c6, c7] : List Value).drop (5)).take (Try.prog.cellsOf 3)) = ys[5]? := hf 5 _ rfl
    rw [List.getElem?_eq_getElem (show 5 < ys.length by rw [hy]; decide), show Try.prog.cellsOf 3 = 1 by kernel_rfl] at f5
    obtain ⟨x5, e5, _, w5⟩ := DataW.trod_int Try.underlying3 f5
    have f6 : DataW.trod enc Try.prog w base spare held n 4 ((([c0, c1, c2, c3, c4, c5, c6, c7] : List Value).drop (6)).take (Try.prog.cellsOf 4)) = ys[6]? := hf 6 _ rfl
    rw [List.getElem?_eq_getElem (show 6 < ys.length by rw [hy]; decide), show Try.prog.cellsOf 4 = 1 by kernel_rfl] at f6
    obtain ⟨x6, e6, _⟩ := DataW.trod_bool Try.underlying4 f6
    have f7 : DataW.trod enc Try.prog w base spare held n 3 ((([c0, c1, c2, c3, c4, c5, c6, c7] : List Value).drop (7)).take (Try.prog.cellsOf 3)) = ys[7]? := hf 7 _ rfl
    rw [List.getElem?_eq_getElem (show 7 < ys.length by rw [hy]; decide), show Try.prog.cellsOf 3 = 1 by kernel_rfl] at f7
    obtain ⟨x7, e7, _, w7⟩ := DataW.trod_int Try.underlying3 f7
    obtain rfl := list1_inj e0
    obtain rfl := list1_inj e1
    obtain rfl := list1_inj e2
    obtain rfl := list1_inj e3
    obtain rfl := list1_inj e4
    obtain rfl := list1_inj e5
    obtain rfl := list1_inj e6
    obtain rfl := list1_inj e7
    exact ⟨x0, x1, x2, x3, x4, x5, x6, x7, rfl, w0, w1, w2, w3, w4, w5, w7⟩
theorem open43 {H : Type} {enc : TypeId × Value → H} {w : World} {base : Nat} {spare : Nat → Bool} {held : Bool} {fuel : Nat} {cs : List Value} {x : DataW H × List MemPlace}
    (h : DataW.trod enc Try.prog w base spare held fuel 43 cs = some x) : ∃ (x0 : Int) (x1 : Int), cs = [.int .i64 x0, .int .i64 x1] ∧ (Lit.int .i64 x0).wf = true ∧ (Lit.int .i64 x1).wf = true := by
  obtain ⟨ys, n, _, _, hl, hy, hf⟩ := DataW.trod_struct Try.underlying43 h
  rw [show Try.prog.cellsOf 43 = 2 by kernel_rfl] at hl
  match cs, hl with
  | [c0, c1], _ =>
    have f0 : DataW.trod enc Try.prog w base spare held n 3 ((([c0, c1] : List Value).drop (0)).take (Try.prog.cellsOf 3)) = ys[0]? := hf 0 _ rfl
    rw [List.getElem?_eq_getElem (show 0 < ys.length by rw [hy]; decide), show Try.prog.cellsOf 3 = 1 by kernel_rfl] at f0
    obtain ⟨x0, e0, _, w0⟩ := DataW.trod_int Try.underlying3 f0
    have f1 : DataW.trod enc Try.prog w base spare held n 3 ((([c0, c1] : List Value).drop (1)).take (Try.prog.cellsOf 3)) = ys[1]? := hf 1 _ rfl
    rw [List.getElem?_eq_getElem (show 1 < ys.length by rw [hy]; decide), show Try.prog.cellsOf 3 = 1 by kernel_rfl] at f1
    obtain ⟨x1, e1, _, w1⟩ := DataW.trod_int Try.underlying3 f1
    obtain rfl := list1_inj e0
    obtain rfl := list1_inj e1
    exact ⟨x0, x1, rfl, w0, w1⟩
def wf23 (x : S23) : Prop := (Lit.int .i64 x.f0).wf = true ∧ (Lit.int .i64 x.f1).wf = true ∧ (Lit.int .i64 x.f2).wf = true ∧ (Lit.int .i64 x.f3).wf = true ∧ (Lit.int .i64 x.f4).wf = true ∧ (Lit.int .i64 x.f5).wf = true ∧ (Lit.int .i64 x.f7).wf = true
theorem openS50 {H : Type} {enc : TypeId × Value → H} {w : World} {base : Nat} {spare : Nat → Bool} {held : Bool} {a : Option Addr} {len cap : Nat} {d : DataW H} {p : List MemPlace}
    (h : DataW.Trod enc Try.prog w base spare held 50 (.slice a len cap) d p) : ∃ xs : List S23, len = xs.length ∧ Kd.C k23 w a xs.length xs ∧ xs.length ≤ cap ∧ ∀ x ∈ xs, wf23 x := by
  obtain ⟨fuel, hf⟩ := h
  rcases open_slice Try.underlying50 hf with ⟨hcs, _⟩ | ⟨ad, l, c, m, n, D, Pl, hcs, _, hl, hm, hmm, _, hi⟩
  · simp only [Value.cells, List.cons.injEq, Value.slice.injEq, and_true] at hcs
    obtain ⟨rfl, rfl, rfl⟩ := hcs
    exact ⟨[], rfl, ⟨rfl, by decide, fun h => absurd h (by decide)⟩, Nat.le_refl _, fun x hx => absurd hx (by simp)⟩
  · simp only [Value.cells, List.cons.injEq, Value.slice.injEq, and_true] at hcs
    obtain ⟨rfl, rfl, rfl⟩ := hcs
    have hlm : len ≤ m := by rw [hmm]; split <;> omega
    have each : ∀ i, ∃ x : S23, i < len → (∃ cs, w.cells? base (ad.add (i * Try.prog.cellsOf 23)) (Try.prog.cellsOf 23) = some cs ∧ k23.K w x cs ∧ wf23 x) := by
      intro i
      by_cases h : i < len
      · obtain ⟨cs, hc, ht⟩ := hi i (by omega)
        obtain ⟨x0, x1, x2, x3, x4, x5, x6, x7, rfl, w0, w1, w2, w3, w4, w5, w7⟩ := open23 ht
        exact ⟨⟨x0, x1, x2, x3, x4, x5, x6, x7⟩, fun _ => ⟨_, hc, k23_mk _ _, w0, w1, w2, w3, w4, w5, w7⟩⟩
      · exact ⟨⟨0, 0, 0, 0, 0, 0, false, 0⟩, fun h' => absurd h' h⟩
    have hfun : ∃ f : Nat → S23, ∀ i, i < len → (∃ cs, w.cells? base (ad.add (i * Try.prog.cellsOf 23)) (Try.prog.cellsOf 23) = some cs ∧ k23.K w (f i) cs ∧ wf23 (f i)) := ⟨fun i => (each i).choose, fun i => (each i).choose_spec⟩
    obtain ⟨f, hf2⟩ := hfun
    refine ⟨(List.range len).map f, by simp, ⟨by simp, by simp; unfold maxLen at hm; omega, fun _ => ⟨ad, rfl, fun j q hj => ?_⟩⟩, by simpa using hl, fun x hx => ?_⟩
    · rw [List.getElem?_map] at hj
      obtain ⟨j', hj1, rfl⟩ := Option.map_eq_some_iff.1 hj
      obtain ⟨hjl, rfl⟩ := List.getElem?_eq_some_iff.1 hj1
      rw [List.getElem_range] at *
      obtain ⟨cs, hc, hk, _⟩ := hf2 j (by simpa using hjl)
      obtain ⟨_, hcl, hat⟩ := World.cells?_some hc
      rw [show Try.prog.cellsOf 23 = 8 by kernel_rfl] at hcl hat
      refine ⟨cs, by rw [hcl]; rfl, hk, fun i u hu => ?_⟩
      have hlt : i < 8 := by rw [← hcl]; exact (List.getElem?_eq_some_iff.1 hu).1
      have := hat i hlt
      rw [hu] at this
      rw [← this, Go.Deep.add_add]; rfl
    · obtain ⟨i, hi2, rfl⟩ := List.mem_map.1 hx
      exact (hf2 i (List.mem_range.1 hi2)).elim fun _ h => h.2.2
theorem open53 {H : Type} {enc : TypeId × Value → H} {w : World} {base : Nat} {spare : Nat → Bool} {held : Bool} {fuel : Nat} {cs : List Value} {x : DataW H × List MemPlace}
    (h : DataW.trod enc Try.prog w base spare held fuel 53 cs = some x) : ∃ (x0 : Int) (x1 : Int) (x2 : Int) (x3 : Int) (x4 : Int) (x5 : Int) (x6 : Int) (x7 : Int) (x8 : Int) (x9 : Int) (x10 : Int) (x11 : Int) (x12 : Int) (x13 : Int) (x14 : Int), cs = [.int .i64 x0, .int .i64 x1, .int .i64 x2, .int .i64 x3, .int .i64 x4, .int .i64 x5, .int .i64 x6, .int .i64 x7, .int .i64 x8, .int .i64 x9, .int .i64 x10, .int .i64 x11, .int .i64 x12, .int .i64 x13, .int .i64 x14] ∧ (Lit.int .i64 x0).wf = true ∧ (Lit.int .i64 x1).wf = true ∧ (Lit.int .i64 x2).wf = true ∧ (Lit.int .i64 x3).wf = true ∧ (Lit.int .i64 x4).wf = true ∧ (Lit.int .i64 x5).wf = true ∧ (Lit.int .i64 x6).wf = true ∧ (Lit.int .i64 x7).wf = true ∧ (Lit.int .i64 x8).wf = true ∧ (Lit.int .i64 x9).wf = true ∧ (Lit.int .i64 x10).wf = true ∧ (Lit.int .i64 x11).wf = true ∧ (Lit.int .i64 x12).wf = true ∧ (Lit.int .i64 x13).wf = true ∧ (Lit.int .i64 x14).wf = true := by
  obtain ⟨ys, n, _, _, hl, hy, hf⟩ := DataW.trod_struct Try.underlying53 h
  rw [show Try.prog.cellsOf 53 = 15 by kernel_rfl] at hl
  match cs, hl with
  | [c0, c1, c2, c3, c4, c5, c6, c7, c8, c9, c10, c11, c12, c13, c14], _ =>
    have f0 : DataW.trod enc Try.prog w base spare held n 43 ((([c0, c1, c2, c3, c4, c5, c6, c7, c8, c9, c10, c11, c12, c13, c14] : List Value).drop (0)).take (Try.prog.cellsOf 43)) = ys[0]? := hf 0 _ rfl
    rw [List.getElem?_eq_getElem (show 0 < ys.length by rw [hy]; decide), show Try.prog.cellsOf 43 = 2 by kernel_rfl] at f0
    obtain ⟨x0, x1, e0, w0, w1⟩ := open43 f0
    have f1 : DataW.trod enc Try.prog w base spare held n 43 ((([c0, c1, c2, c3, c4, c5, c6, c7, c8, c9, c10, c11, c12, c13, c14] : List Value).drop (2)).take (Try.prog.cellsOf 43)) = ys[1]? := hf 1 _ rfl
    rw [List.getElem?_eq_getElem (show 1 < ys.length by rw [hy]; decide), show Try.prog.cellsOf 43 = 2 by kernel_rfl] at f1
    obtain ⟨x2, x3, e1, w2, w3⟩ := open43 f1
    have f2 : DataW.trod enc Try.prog w base spare held n 43 ((([c0, c1, c2, c3, c4, c5, c6, c7, c8, c9, c10, c11, c12, c13, c14] : List Value).drop (4)).take (Try.prog.cellsOf 43)) = ys[2]? := hf 2 _ rfl
    rw [List.getElem?_eq_getElem (show 2 < ys.length by rw [hy]; decide), show Try.prog.cellsOf 43 = 2 by kernel_rfl] at f2
    obtain ⟨x4, x5, e2, w4, w5⟩ := open43 f2
    have f3 : DataW.trod enc Try.prog w base spare held n 43 ((([c0, c1, c2, c3, c4, c5, c6, c7, c8, c9, c10, c11, c12, c13, c14] : List Value).drop (6)).take (Try.prog.cellsOf 43)) = ys[3]? := hf 3 _ rfl
    rw [List.getElem?_eq_getElem (show 3 < ys.length by rw [hy]; decide), show Try.prog.cellsOf 43 = 2 by kernel_rfl] at f3
    obtain ⟨x6, x7, e3, w6, w7⟩ := open43 f3
    have f4 : DataW.trod enc Try.prog w base spare held n 43 ((([c0, c1, c2, c3, c4, c5, c6, c7, c8, c9, c10, c11, c12, c13, c14] : List Value).drop (8)).take (Try.prog.cellsOf 43)) = ys[4]? := hf 4 _ rfl
    rw [List.getElem?_eq_getElem (show 4 < ys.length by rw [hy]; decide), show Try.prog.cellsOf 43 = 2 by kernel_rfl] at f4
    obtain ⟨x8, x9, e4, w8, w9⟩ := open43 f4
    have f5 : DataW.trod enc Try.prog w base spare held n 43 ((([c0, c1, c2, c3, c4, c5, c6, c7, c8, c9, c10, c11, c12, c13, c14] : List Value).drop (10)).take (Try.prog.cellsOf 43)) = ys[5]? := hf 5 _ rfl
    rw [List.getElem?_eq_getElem (show 5 < ys.length by rw [hy]; decide), show Try.prog.cellsOf 43 = 2 by kernel_rfl] at f5
    obtain ⟨x10, x11, e5, w10, w11⟩ := open43 f5
    have f6 : DataW.trod enc Try.prog w base spare held n 43 ((([c0, c1, c2, c3, c4, c5, c6, c7, c8, c9, c10, c11, c12, c13, c14] : List Value).drop (12)).take (Try.prog.cellsOf 43)) = ys[6]? := hf 6 _ rfl
    rw [List.getElem?_eq_getElem (show 6 < ys.length by rw [hy]; decide), show Try.prog.cellsOf 43 = 2 by kernel_rfl] at f6
    obtain ⟨x12, x13, e6, w12, w13⟩ := open43 f6
    have f7 : DataW.trod enc Try.prog w base spare held n 51 ((([c0, c1, c2, c3, c4, c5, c6, c7, c8, c9, c10, c11, c12, c13, c14] : List Value).drop (14)).take (Try.prog.cellsOf 51)) = ys[7]? := hf 7 _ rfl
    rw [List.getElem?_eq_getElem (show 7 < ys.length by rw [hy]; decide), show Try.prog.cellsOf 51 = 1 by kernel_rfl] at f7
    obtain ⟨x14, e7, _, w14⟩ := DataW.trod_int Try.underlying51 f7
    obtain ⟨rfl, rfl⟩ := list2_inj e0
    obtain ⟨rfl, rfl⟩ := list2_inj e1
    obtain ⟨rfl, rfl⟩ := list2_inj e2
    obtain ⟨rfl, rfl⟩ := list2_inj e3
    obtain ⟨rfl, rfl⟩ := list2_inj e4
    obtain ⟨rfl, rfl⟩ := list2_inj e5
    obtain ⟨rfl, rfl⟩ := list2_inj e6
    obtain rfl := list1_inj e7
    exact ⟨x0, x1, x2, x3, x4, x5, x6, x7, x8, x9, x10, x11, x12, x13, x14, rfl, w0, w1, w2, w3, w4, w5, w6, w7, w8, w9, w10, w11, w12, w13, w14⟩
theorem open55 {H : Type} {enc : TypeId × Value → H} {w : World} {base : Nat} {spare : Nat → Bool} {held : Bool} {fuel : Nat} {cs : List Value} {x : DataW H × List MemPlace}
    (h : DataW.trod enc Try.prog w base spare held fuel 55 cs = some x) : ∃ (x0 : Int) (x1 : Int) (x2 : Int), cs = [.int .i64 x0, .int .i64 x1, .int .i64 x2] ∧ (Lit.int .i64 x0).wf = true ∧ (Lit.int .i64 x1).wf = true ∧ (Lit.int .i64 x2).wf = true := by
  obtain ⟨ys, n, _, _, hl, hy, hf⟩ := DataW.trod_struct Try.underlying55 h
  rw [show Try.prog.cellsOf 55 = 3 by kernel_rfl] at hl
  match cs, hl with
  | [c0, c1, c2], _ =>
    have f0 : DataW.trod enc Try.prog w base spare held n 3 ((([c0, c1, c2] : List Value).drop (0)).take (Try.prog.cellsOf 3)) = ys[0]? := hf 0 _ rfl
    rw [List.getElem?_eq_getElem (show 0 < ys.length by rw [hy]; decide), show Try.prog.cellsOf 3 = 1 by kernel_rfl] at f0
    obtain ⟨x0, e0, _, w0⟩ := DataW.trod_int Try.underlying3 f0
    have f1 : DataW.trod enc Try.prog w base spare held n 3 ((([c0, c1, c2] : List Value).drop (1)).take (Try.prog.cellsOf 3)) = ys[1]? := hf 1 _ rfl
    rw [List.getElem?_eq_getElem (show 1 < ys.length by rw [hy]; decide), show Try.prog.cellsOf 3 = 1 by kernel_rfl] at f1
    obtain ⟨x1, e1, _, w1⟩ := DataW.trod_int Try.underlying3 f1
    have f2 : DataW.trod enc Try.prog w base spare held n 3 ((([c0, c1, c2] : List Value).drop (2)).take (Try.prog.cellsOf 3)) = ys[2]? := hf 2 _ rfl
    rw [List.getElem?_eq_getElem (show 2 < ys.length by rw [hy]; decide), show Try.prog.cellsOf 3 = 1 by kernel_rfl] at f2
    obtain ⟨x2, e2, _, w2⟩ := DataW.trod_int Try.underlying3 f2
    obtain rfl := list1_inj e0
    obtain rfl := list1_inj e1
    obtain rfl := list1_inj e2
    exact ⟨x0, x1, x2, rfl, w0, w1, w2⟩
end Go.Proofs.Yticbhgjenidjlaa.T
namespace Go.Proofs.Yticbhgjenidjlaa.T
open Go.RowKit Go.Proofs.YticbhgjenidjlaaW.PrintWords Go.Proofs.YticbhgjenidjlaaW.PrintLast
set_option linter.unusedVariables false

def Ev {α : Type} (F : Nat → Option α) (v : α) : Prop := ∃ k0, ∀ k, k0 ≤ k → F k = some v
theorem Ev.of {α : Type} {F : Nat → Option α} {v : α} (h : ∀ k, F k = some v) : Ev F v := ⟨0, fun k _ => h k⟩
theorem Ev.pure {α : Type} (v : α) : Ev (fun _ => some v) v := ⟨0, fun _ _ => rfl⟩
theorem Ev.bind {α β : Type} {F : Nat → Option α} {G : Nat → α → Option β} {v : α} {u : β} (h : Ev F v) (h2 : Ev (fun k => G k v) u) : Ev (fun k => (F k).bind (G k)) u := by
  obtain ⟨a, ha⟩ := h
  obtain ⟨b, hb⟩ := h2
  exact ⟨max a b, fun k hk => by show (F k).bind (G k) = _; rw [ha k (by omega)]; exact hb k (by omega)⟩
theorem Ev.succ {α : Type} {F : Nat → Option α} {v : α} (h : Ev (fun k => F (k + 1)) v) : Ev F v := by
  obtain ⟨a, ha⟩ := h
  exact ⟨a + 1, fun k hk => by obtain ⟨j, rfl⟩ : ∃ j, k = j + 1 := ⟨k - 1, by omega⟩; exact ha j (by omega)⟩
theorem Ev.ex {α : Type} {F : Nat → Option α} {v : α} (h : Ev F v) : ∃ k, F k = some v := by obtain ⟨a, ha⟩ := h; exact ⟨a, ha a (Nat.le_refl _)⟩
theorem wrap64_id {x : Int} (h0 : -9223372036854775808 ≤ x) (h1 : x ≤ 9223372036854775807) : wrap64 x = x := by unfold wrap64; omega
theorem mulb {x y X Y : Int} (h0 : 0 ≤ x) (h1 : x ≤ X) (h2 : 0 ≤ y) (h3 : y ≤ Y) : 0 ≤ x * y ∧ x * y ≤ X * Y :=
  ⟨Int.mul_nonneg h0 h2, Int.mul_le_mul h1 h3 h2 (by omega)⟩
theorem mulbs {x y X Y : Int} (h0 : -X ≤ x) (h1 : x ≤ X) (h2 : -Y ≤ y) (h3 : y ≤ Y) : -(X * Y) ≤ x * y ∧ x * y ≤ X * Y := by
  have hX : 0 ≤ X := by omega
  have hY : 0 ≤ Y := by omega
  rcases Int.le_total 0 x with hx | hx <;> rcases Int.le_total 0 y with hy | hy
  · have := mulb hx h1 hy h3; have := Int.mul_nonneg hX hY; omega
  · have := mulb hx h1 (show 0 ≤ -y by omega) (show -y ≤ Y by omega); rw [Int.mul_neg] at this; omega
  · have := mulb (show 0 ≤ -x by omega) (show -x ≤ X by omega) hy h3; rw [Int.neg_mul] at this; omega
  · have := mulb (show 0 ≤ -x by omega) (show -x ≤ X by omega) (show 0 ≤ -y by omega) (show -y ≤ Y by omega); rw [Int.neg_mul_neg] at this; omega

end Go.Proofs.Yticbhgjenidjlaa.T
