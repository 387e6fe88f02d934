-- cut down, squeezed and laid together by pack.py (a program of this repository) out of this seat's texts
import Derived.OpenShut
import Derived.ChangeArms
import Derived.Deep.Slices
import Derived.Deep.Fields
import Derived.ChangeSame
import Derived.WideShapes
import Derived.ChangeKeysEq
import Derived.Laws.StructEq
import Derived.Test.YtiaiecfnpompcaaZV4
import Derived.Test.YtiaiecfnpompcaaZV7
import Derived.Test.YtiaiecfnpompcaaZV6
import Derived.Test.YtiaiecfnpompcaaZV2
import Derived.Test.YtiaiecfnpompcaaZV3
import Derived.Test.YtiaiecfnpompcaaZV5
import Derived.Test.YtiaiecfnpompcaaZV1
namespace Go.Proofs.Ytiaiecfnpompcaa.T
open Go.ChangeShapes Go.WideShapes Go.Deep Go.RowKit Go.Proofs.YtiaiecfnpompcaaW.PrintWords
set_option linter.unusedVariables false
set_option linter.unusedSimpArgs false
set_option maxRecDepth 100000
theorem agg_of_cells {v : Value} {cs : List Value} (h : v.cells.toList = cs) (hl : cs.length ≠ 1) : v = .agg cs.toArray := by
  cases v <;> first | (rw [← h] at hl; exact absurd rfl hl) | (subst h; rfl)
theorem list1_inj {a0 b0 : Value} (h : [a0] = [b0]) : a0 = b0 := by simpa using h
theorem open106 {H : Type} {enc : TypeId × Value → H} {w : World} {base : Nat} {spare : Nat → Bool} {held : Bool} {fuel : Nat} {cs : List Value} {x : DataW H × List MemPlace}
    (h : DataW.trod enc Try.prog w base spare held fuel 106 cs = some x) : ∃ (x0 : Int) (x1 : Int), cs = [.int .u16 x0, .int .u16 x1] ∧ (Lit.int .u16 x0).wf = true ∧ (Lit.int .u16 x1).wf = true := by
  obtain ⟨ys, n, _, _, hl, hy, hf⟩ := DataW.trod_array Try.underlying106 h
  rw [show Try.prog.cellsOf 106 = 2 by kernel_rfl] at hl
  match cs, hl with
  | [c0, c1], _ =>
    have f0 : DataW.trod enc Try.prog w base spare held n 90 ((([c0, c1] : List Value).drop (0 * Try.prog.cellsOf 90)).take (Try.prog.cellsOf 90)) = ys[0]? := hf 0 (by decide)
    rw [List.getElem?_eq_getElem (show 0 < ys.length by rw [hy]; decide), show Try.prog.cellsOf 90 = 1 by kernel_rfl] at f0
    obtain ⟨x0, e0, _, w0⟩ := DataW.trod_int Try.underlying90 f0
    have f1 : DataW.trod enc Try.prog w base spare held n 90 ((([c0, c1] : List Value).drop (1 * Try.prog.cellsOf 90)).take (Try.prog.cellsOf 90)) = ys[1]? := hf 1 (by decide)
    rw [List.getElem?_eq_getElem (show 1 < ys.length by rw [hy]; decide), show Try.prog.cellsOf 90 = 1 by kernel_rfl] at f1
    obtain ⟨x1, e1, _, w1⟩ := DataW.trod_int Try.underlying90 f1
    obtain rfl := list1_inj e0
    obtain rfl := list1_inj e1
    exact ⟨x0, x1, rfl, w0, w1⟩
def wf106 (x : S106) : Prop := (Lit.int .u16 x.f0).wf = true ∧ (Lit.int .u16 x.f1).wf = true
theorem openS104 {H : Type} {enc : TypeId × Value → H} {w : World} {base : Nat} {spare : Nat → Bool} {held : Bool} {a : Option Addr} {len cap : Nat} {d : DataW H} {p : List MemPlace}
    (h : DataW.Trod enc Try.prog w base spare held 104 (.slice a len cap) d p) : ∃ xs : List S106, len = xs.length ∧ Kd.C k106 w a xs.length xs ∧ xs.length ≤ cap ∧ ∀ x ∈ xs, wf106 x := by
  obtain ⟨fuel, hf⟩ := h
  rcases open_slice Try.underlying104 hf with ⟨hcs, _⟩ | ⟨ad, l, c, m, n, D, Pl, hcs, _, hl, hm, hmm, _, hi⟩
  · simp only [Value.cells, List.cons.injEq, Value.slice.injEq, and_true] at hcs
    obtain ⟨rfl, rfl, rfl⟩ := hcs
    exact ⟨[], rfl, ⟨rfl, by decide, fun h => absurd h (by decide)⟩, Nat.le_refl _, fun x hx => absurd hx (by simp)⟩
  · simp only [Value.cells, List.cons.injEq, Value.slice.injEq, and_true] at hcs
    obtain ⟨rfl, rfl, rfl⟩ := hcs
    have hlm : len ≤ m := by rw [hmm]; split <;> omega
    have each : ∀ i, ∃ x : S106, i < len → (∃ cs, w.cells? base (ad.add (i * Try.prog.cellsOf 106)) (Try.prog.cellsOf 106) = some cs ∧ k106.K w x cs ∧ wf106 x) := by
      intro i
      by_cases h : i < len
      · obtain ⟨cs, hc, ht⟩ := hi i (by omega)
        obtain ⟨x0, x1, rfl, w0, w1⟩ := open106 ht
        exact ⟨⟨x0, x1⟩, fun _ => ⟨_, hc, k106_mk _ _, w0, w1⟩⟩
      · exact ⟨⟨0, 0⟩, fun h' => absurd h' h⟩
    have hfun : ∃ f : Nat → S106, ∀ i, i < len → (∃ cs, w.cells? base (ad.add (i * Try.prog.cellsOf 106)) (Try.prog.cellsOf 106) = some cs ∧ k106.K w (f i) cs ∧ wf106 (f i)) := ⟨fun i => (each i).choose, fun i => (each i).choose_spec⟩
    obtain ⟨f, hf2⟩ := hfun
    refine ⟨(List.range len).map f, by simp, ⟨by simp, by simp; unfold maxLen at hm; omega, fun _ => ⟨ad, rfl, fun j q hj => ?_⟩⟩, by simpa using hl, fun x hx => ?_⟩
    · rw [List.getElem?_map] at hj
      obtain ⟨j', hj1, rfl⟩ := Option.map_eq_some_iff.1 hj
      obtain ⟨hjl, rfl⟩ := List.getElem?_eq_some_iff.1 hj1
      rw [List.getElem_range] at *
      obtain ⟨cs, hc, hk, _⟩ := hf2 j (by simpa using hjl)
      obtain ⟨_, hcl, hat⟩ := World.cells?_some hc
      rw [show Try.prog.cellsOf 106 = 2 by kernel_rfl] at hcl hat
      refine ⟨cs, by rw [hcl]; rfl, hk, fun i u hu => ?_⟩
      have hlt : i < 2 := by rw [← hcl]; exact (List.getElem?_eq_some_iff.1 hu).1
      have := hat i hlt
      rw [hu] at this
      rw [← this, Go.Deep.add_add]; rfl
    · obtain ⟨i, hi2, rfl⟩ := List.mem_map.1 hx
      exact (hf2 i (List.mem_range.1 hi2)).elim fun _ h => h.2.2
theorem open94 {H : Type} {enc : TypeId × Value → H} {w : World} {base : Nat} {spare : Nat → Bool} {held : Bool} {fuel : Nat} {cs : List Value} {x : DataW H × List MemPlace}
    (h : DataW.trod enc Try.prog w base spare held fuel 94 cs = some x) : ∃ (x0 : Int) (x1 : Int) (x2 : Int), cs = [.int .u8 x0, .int .u8 x1, .int .u8 x2] ∧ (Lit.int .u8 x0).wf = true ∧ (Lit.int .u8 x1).wf = true ∧ (Lit.int .u8 x2).wf = true := by
  obtain ⟨ys, n, _, _, hl, hy, hf⟩ := DataW.trod_array Try.underlying94 h
  rw [show Try.prog.cellsOf 94 = 3 by kernel_rfl] at hl
  match cs, hl with
  | [c0, c1, c2], _ =>
    have f0 : DataW.trod enc Try.prog w base spare held n 5 ((([c0, c1, c2] : List Value).drop (0 * Try.prog.cellsOf 5)).take (Try.prog.cellsOf 5)) = ys[0]? := hf 0 (by decide)
    rw [List.getElem?_eq_getElem (show 0 < ys.length by rw [hy]; decide), show Try.prog.cellsOf 5 = 1 by kernel_rfl] at f0
    obtain ⟨x0, e0, _, w0⟩ := DataW.trod_int Try.underlying5 f0
    have f1 : DataW.trod enc Try.prog w base spare held n 5 ((([c0, c1, c2] : List Value).drop (1 * Try.prog.cellsOf 5)).take (Try.prog.cellsOf 5)) = ys[1]? := hf 1 (by decide)
    rw [List.getElem?_eq_getElem (show 1 < ys.length by rw [hy]; decide), show Try.prog.cellsOf 5 = 1 by kernel_rfl] at f1
    obtain ⟨x1, e1, _, w1⟩ := DataW.trod_int Try.underlying5 f1
    have f2 : DataW.trod enc Try.prog w base spare held n 5 ((([c0, c1, c2] : List Value).drop (2 * Try.prog.cellsOf 5)).take (Try.prog.cellsOf 5)) = ys[2]? := hf 2 (by decide)
    rw [List.getElem?_eq_getElem (show 2 < ys.length by rw [hy]; decide), show Try.prog.cellsOf 5 = 1 by kernel_rfl] at f2
    obtain ⟨x2, e2, _, w2⟩ := DataW.trod_int Try.underlying5 f2
    obtain rfl := list1_inj e0
    obtain rfl := list1_inj e1
    obtain rfl := list1_inj e2
    exact ⟨x0, x1, x2, rfl, w0, w1, w2⟩
theorem open105 {H : Type} {enc : TypeId × Value → H} {w : World} {base : Nat} {spare : Nat → Bool} {held : Bool} {fuel : Nat} {cs : List Value} {x : DataW H × List MemPlace}
    (h : DataW.trod enc Try.prog w base spare held fuel 105 cs = some x) : ∃ (x0 : Int) (x1 : Int) (x2 : Int), cs = [.int .u16 x0, .int .u16 x1, .int .u16 x2] ∧ (Lit.int .u16 x0).wf = true ∧ (Lit.int .u16 x1).wf = true ∧ (Lit.int .u16 x2).wf = true := by
  obtain ⟨ys, n, _, _, hl, hy, hf⟩ := DataW.trod_array Try.underlying105 h
  rw [show Try.prog.cellsOf 105 = 3 by kernel_rfl] at hl
  match cs, hl with
  | [c0, c1, c2], _ =>
    have f0 : DataW.trod enc Try.prog w base spare held n 90 ((([c0, c1, c2] : List Value).drop (0 * Try.prog.cellsOf 90)).take (Try.prog.cellsOf 90)) = ys[0]? := hf 0 (by decide)
    rw [List.getElem?_eq_getElem (show 0 < ys.length by rw [hy]; decide), show Try.prog.cellsOf 90 = 1 by kernel_rfl] at f0
    obtain ⟨x0, e0, _, w0⟩ := DataW.trod_int Try.underlying90 f0
    have f1 : DataW.trod enc Try.prog w base spare held n 90 ((([c0, c1, c2] : List Value).drop (1 * Try.prog.cellsOf 90)).take (Try.prog.cellsOf 90)) = ys[1]? := hf 1 (by decide)
    rw [List.getElem?_eq_getElem (show 1 < ys.length by rw [hy]; decide), show Try.prog.cellsOf 90 = 1 by kernel_rfl] at f1
    obtain ⟨x1, e1, _, w1⟩ := DataW.trod_int Try.underlying90 f1
    have f2 : DataW.trod enc Try.prog w base spare held n 90 ((([c0, c1, c2] : List Value).drop (2 * Try.prog.cellsOf 90)).take (Try.prog.cellsOf 90)) = ys[2]? := hf 2 (by decide)
    rw [List.getElem?_eq_getElem (show 2 < ys.length by rw [hy]; decide), show Try.prog.cellsOf 90 = 1 by kernel_rfl] at f2
    obtain ⟨x2, e2, _, w2⟩ := DataW.trod_int Try.underlying90 f2
    obtain rfl := list1_inj e0
    obtain rfl := list1_inj e1
    obtain rfl := list1_inj e2
    exact ⟨x0, x1, x2, rfl, w0, w1, w2⟩
end Go.Proofs.Ytiaiecfnpompcaa.T
