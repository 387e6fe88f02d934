-- cut down, squeezed and laid together by pack.py (a program of this repository) out of this seat's texts
import Derived.OpenShut
import Derived.ChangeArms
import Derived.Deep.Slices
import Derived.Deep.Fields
import Derived.ChangeSame
import Derived.WideShapes
import Derived.ChangeKeysEq
import Derived.Test.YtiaiecfnpompcaaZB2
import Derived.Test.YtiaiecfnpompcaaZB8
import Derived.Test.YtiaiecfnpompcaaZB4
import Derived.Test.YtiaiecfnpompcaaZB7
import Derived.Test.YtiaiecfnpompcaaZB3
import Derived.Test.YtiaiecfnpompcaaZB6
import Derived.Test.YtiaiecfnpompcaaZB5
import Derived.Test.YtiaiecfnpompcaaZB1
namespace Go.Proofs.Ytiaiecfnpompcaa.T
open Go.ChangeShapes Go.WideShapes Go.Deep Go.RowKit Go.Proofs.YtiaiecfnpompcaaW.PrintWords
set_option linter.unusedVariables false
set_option linter.unusedSimpArgs false
set_option maxRecDepth 100000
theorem agg_of_cells {v : Value} {cs : List Value} (h : v.cells.toList = cs) (hl : cs.length ≠ 1) : v = .agg cs.toArray := by
  cases v <;> first | (rw [← h] at hl; exact absurd rfl hl) | (subst h; rfl)
theorem list1_inj {a0 b0 : Value} (h : [a0] = [b0]) : a0 = b0 := by simpa using h
theorem open46 {H : Type} {enc : TypeId × Value → H} {w : World} {base : Nat} {spare : Nat → Bool} {held : Bool} {fuel : Nat} {cs : List Value} {x : DataW H × List MemPlace}
    (h : DataW.trod enc Try.prog w base spare held fuel 46 cs = some x) : ∃ (x0 : Int) (x1 : Int), cs = [.int .i64 x0, .int .i64 x1] ∧ (Lit.int .i64 x0).wf = true ∧ (Lit.int .i64 x1).wf = true := by
  obtain ⟨ys, n, _, _, hl, hy, hf⟩ := DataW.trod_struct Try.underlying46 h
  rw [show Try.prog.cellsOf 46 = 2 by kernel_rfl] at hl
  match cs, hl with
  | [c0, c1], _ =>
    have f0 : DataW.trod enc Try.prog w base spare held n 3 ((([c0, c1] : List Value).drop (0)).take (Try.prog.cellsOf 3)) = ys[0]? := hf 0 _ rfl
    rw [List.getElem?_eq_getElem (show 0 < ys.length by rw [hy]; decide), show Try.prog.cellsOf 3 = 1 by kernel_rfl] at f0
    obtain ⟨x0, e0, _, w0⟩ := DataW.trod_int Try.underlying3 f0
    have f1 : DataW.trod enc Try.prog w base spare held n 3 ((([c0, c1] : List Value).drop (1)).take (Try.prog.cellsOf 3)) = ys[1]? := hf 1 _ rfl
    rw [List.getElem?_eq_getElem (show 1 < ys.length by rw [hy]; decide), show Try.prog.cellsOf 3 = 1 by kernel_rfl] at f1
    obtain ⟨x1, e1, _, w1⟩ := DataW.trod_int Try.underlying3 f1
    obtain rfl := list1_inj e0
    obtain rfl := list1_inj e1
    exact ⟨x0, x1, rfl, w0, w1⟩
def wf46 (x : S46) : Prop := (Lit.int .i64 x.f0).wf = true ∧ (Lit.int .i64 x.f1).wf = true
theorem openS39 {H : Type} {enc : TypeId × Value → H} {w : World} {base : Nat} {spare : Nat → Bool} {held : Bool} {a : Option Addr} {len cap : Nat} {d : DataW H} {p : List MemPlace}
    (h : DataW.Trod enc Try.prog w base spare held 39 (.slice a len cap) d p) : ∃ xs : List S46, len = xs.length ∧ Kd.C k46 w a xs.length xs ∧ xs.length ≤ cap ∧ ∀ x ∈ xs, wf46 x := by
  obtain ⟨fuel, hf⟩ := h
  rcases open_slice Try.underlying39 hf with ⟨hcs, _⟩ | ⟨ad, l, c, m, n, D, Pl, hcs, _, hl, hm, hmm, _, hi⟩
  · simp only [Value.cells, List.cons.injEq, Value.slice.injEq, and_true] at hcs
    obtain ⟨rfl, rfl, rfl⟩ := hcs
    exact ⟨[], rfl, ⟨rfl, by decide, fun h => absurd h (by decide)⟩, Nat.le_refl _, fun x hx => absurd hx (by simp)⟩
  · simp only [Value.cells, List.cons.injEq, Value.slice.injEq, and_true] at hcs
    obtain ⟨rfl, rfl, rfl⟩ := hcs
    have hlm : len ≤ m := by rw [hmm]; split <;> omega
    have each : ∀ i, ∃ x : S46, i < len → (∃ cs, w.cells? base (ad.add (i * Try.prog.cellsOf 46)) (Try.prog.cellsOf 46) = some cs ∧ k46.K w x cs ∧ wf46 x) := by
      intro i
      by_cases h : i < len
      · obtain ⟨cs, hc, ht⟩ := hi i (by omega)
        obtain ⟨x0, x1, rfl, w0, w1⟩ := open46 ht
        exact ⟨⟨x0, x1⟩, fun _ => ⟨_, hc, k46_mk _ _, w0, w1⟩⟩
      · exact ⟨⟨0, 0⟩, fun h' => absurd h' h⟩
    have hfun : ∃ f : Nat → S46, ∀ i, i < len → (∃ cs, w.cells? base (ad.add (i * Try.prog.cellsOf 46)) (Try.prog.cellsOf 46) = some cs ∧ k46.K w (f i) cs ∧ wf46 (f i)) := ⟨fun i => (each i).choose, fun i => (each i).choose_spec⟩
    obtain ⟨f, hf2⟩ := hfun
    refine ⟨(List.range len).map f, by simp, ⟨by simp, by simp; unfold maxLen at hm; omega, fun _ => ⟨ad, rfl, fun j q hj => ?_⟩⟩, by simpa using hl, fun x hx => ?_⟩
    · rw [List.getElem?_map] at hj
      obtain ⟨j', hj1, rfl⟩ := Option.map_eq_some_iff.1 hj
      obtain ⟨hjl, rfl⟩ := List.getElem?_eq_some_iff.1 hj1
      rw [List.getElem_range] at *
      obtain ⟨cs, hc, hk, _⟩ := hf2 j (by simpa using hjl)
      obtain ⟨_, hcl, hat⟩ := World.cells?_some hc
      rw [show Try.prog.cellsOf 46 = 2 by kernel_rfl] at hcl hat
      refine ⟨cs, by rw [hcl]; rfl, hk, fun i u hu => ?_⟩
      have hlt : i < 2 := by rw [← hcl]; exact (List.getElem?_eq_some_iff.1 hu).1
      have := hat i hlt
      rw [hu] at this
      rw [← this, Go.Deep.add_add]; rfl
    · obtain ⟨i, hi2, rfl⟩ := List.mem_map.1 hx
      exact (hf2 i (List.mem_range.1 hi2)).elim fun _ h => h.2.2
theorem open41 {H : Type} {enc : TypeId × Value → H} {w : World} {base : Nat} {spare : Nat → Bool} {held : Bool} {fuel : Nat} {cs : List Value} {x : DataW H × List MemPlace}
    (h : DataW.trod enc Try.prog w base spare held fuel 41 cs = some x) : ∃ (x0 : Int) (x1 : Int), cs = [.int .i64 x0, .int .i64 x1] ∧ (Lit.int .i64 x0).wf = true ∧ (Lit.int .i64 x1).wf = true := by
  obtain ⟨ys, n, _, _, hl, hy, hf⟩ := DataW.trod_struct Try.underlying41 h
  rw [show Try.prog.cellsOf 41 = 2 by kernel_rfl] at hl
  match cs, hl with
  | [c0, c1], _ =>
    have f0 : DataW.trod enc Try.prog w base spare held n 3 ((([c0, c1] : List Value).drop (0)).take (Try.prog.cellsOf 3)) = ys[0]? := hf 0 _ rfl
    rw [List.getElem?_eq_getElem (show 0 < ys.length by rw [hy]; decide), show Try.prog.cellsOf 3 = 1 by kernel_rfl] at f0
    obtain ⟨x0, e0, _, w0⟩ := DataW.trod_int Try.underlying3 f0
    have f1 : DataW.trod enc Try.prog w base spare held n 3 ((([c0, c1] : List Value).drop (1)).take (Try.prog.cellsOf 3)) = ys[1]? := hf 1 _ rfl
    rw [List.getElem?_eq_getElem (show 1 < ys.length by rw [hy]; decide), show Try.prog.cellsOf 3 = 1 by kernel_rfl] at f1
    obtain ⟨x1, e1, _, w1⟩ := DataW.trod_int Try.underlying3 f1
    obtain rfl := list1_inj e0
    obtain rfl := list1_inj e1
    exact ⟨x0, x1, rfl, w0, w1⟩
end Go.Proofs.Ytiaiecfnpompcaa.T
