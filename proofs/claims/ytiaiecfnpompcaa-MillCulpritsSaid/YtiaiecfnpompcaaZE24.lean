-- cut down, squeezed and laid together by pack.py (a program of this repository) out of this seat's texts
import Derived.OpenShut
import Derived.ChangeArms
import Derived.Deep.Slices
import Derived.Deep.Fields
import Derived.ChangeSame
import Derived.WideShapes
import Derived.ChangeKeysEq
import Derived.Test.YtiaiecfnpompcaaZE2
import Derived.Test.YtiaiecfnpompcaaZE13
import Derived.Test.YtiaiecfnpompcaaZE3
import Derived.Test.YtiaiecfnpompcaaZE9
import Derived.Test.YtiaiecfnpompcaaZE4
import Derived.Test.YtiaiecfnpompcaaZE12
import Derived.Test.YtiaiecfnpompcaaZE8
import Derived.Test.YtiaiecfnpompcaaZE6
import Derived.Test.YtiaiecfnpompcaaZE7
import Derived.Test.YtiaiecfnpompcaaZE11
import Derived.Test.YtiaiecfnpompcaaZE5
import Derived.Test.YtiaiecfnpompcaaZE10
import Derived.Test.YtiaiecfnpompcaaZE1
namespace Go.Proofs.Ytiaiecfnpompcaa.T
open Go.ChangeShapes Go.WideShapes Go.Deep Go.RowKit Go.Proofs.YtiaiecfnpompcaaW.PrintWords
set_option linter.unusedVariables false
set_option linter.unusedSimpArgs false
set_option maxRecDepth 100000
theorem list1_inj {a0 b0 : Value} (h : [a0] = [b0]) : a0 = b0 := by simpa using h
theorem open144 {H : Type} {enc : TypeId × Value → H} {w : World} {base : Nat} {spare : Nat → Bool} {held : Bool} {fuel : Nat} {cs : List Value} {x : DataW H × List MemPlace}
  (h : DataW.trod enc Try.prog w base spare held fuel 144 cs = some x) : ∃ (x0 : Int) (x1 : Int) (x2 : Int) (x3 : Int) (x4 : Int), cs = [.int .i64 x0, .int .i64 x1, .int .i64 x2, .int .i64 x3, .int .i64 x4] ∧ (Lit.int .i64 x0).wf = true ∧ (Lit.int .i64 x1).wf = true ∧ (Lit.int .i64 x2).wf = true ∧ (Lit.int .i64 x3).wf = true ∧ (Lit.int .i64 x4).wf = true := by
 obtain ⟨ys, n, _, _, hl, hy, hf⟩ := DataW.trod_struct Try.underlying144 h
 rw [show Try.prog.cellsOf 144 = 5 by kernel_rfl] at hl
 match cs, hl with
 | [c0, c1, c2, c3, c4], _ =>
  have f0 : DataW.trod enc Try.prog w base spare held n 3 ((([c0, c1, c2, c3, c4] : List Value).drop (0)).take (Try.prog.cellsOf 3)) = ys[0]? := hf 0 _ rfl
  rw [List.getElem?_eq_getElem (show 0 < ys.length by rw [hy]; decide), show Try.prog.cellsOf 3 = 1 by kernel_rfl] at f0
  obtain ⟨x0, e0, _, w0⟩ := DataW.trod_int Try.underlying3 f0
  have f1 : DataW.trod enc Try.prog w base spare held n 3 ((([c0, c1, c2, c3, c4] : List Value).drop (1)).take (Try.prog.cellsOf 3)) = ys[1]? := hf 1 _ rfl
  rw [List.getElem?_eq_getElem (show 1 < ys.length by rw [hy]; decide), show Try.prog.cellsOf 3 = 1 by kernel_rfl] at f1
  obtain ⟨x1, e1, _, w1⟩ := DataW.trod_int Try.underlying3 f1
  have f2 : DataW.trod enc Try.prog w base spare held n 3 ((([c0, c1, c2, c3, c4] : List Value).drop (2)).take (Try.prog.cellsOf 3)) = ys[2]? := hf 2 _ rfl
  rw [List.getElem?_eq_getElem (show 2 < ys.length by rw [hy]; decide), show Try.prog.cellsOf 3 = 1 by kernel_rfl] at f2
  obtain ⟨x2, e2, _, w2⟩ := DataW.trod_int Try.underlying3 f2
  have f3 : DataW.trod enc Try.prog w base spare held n 3 ((([c0, c1, c2, c3, c4] : List Value).drop (3)).take (Try.prog.cellsOf 3)) = ys[3]? := hf 3 _ rfl
  rw [List.getElem?_eq_getElem (show 3 < ys.length by rw [hy]; decide), show Try.prog.cellsOf 3 = 1 by kernel_rfl] at f3
  obtain ⟨x3, e3, _, w3⟩ := DataW.trod_int Try.underlying3 f3
  have f4 : DataW.trod enc Try.prog w base spare held n 3 ((([c0, c1, c2, c3, c4] : List Value).drop (4)).take (Try.prog.cellsOf 3)) = ys[4]? := hf 4 _ rfl
  rw [List.getElem?_eq_getElem (show 4 < ys.length by rw [hy]; decide), show Try.prog.cellsOf 3 = 1 by kernel_rfl] at f4
  obtain ⟨x4, e4, _, w4⟩ := DataW.trod_int Try.underlying3 f4
  obtain rfl := list1_inj e0
  obtain rfl := list1_inj e1
  obtain rfl := list1_inj e2
  obtain rfl := list1_inj e3
  obtain rfl := list1_inj e4
  exact ⟨x0, x1, x2, x3, x4, rfl, w0, w1, w2, w3, w4⟩
def wf144 (x : S144) : Prop := (Lit.int .i64 x.f0).wf = true ∧ (Lit.int .i64 x.f1).wf = true ∧ (Lit.int .i64 x.f2).wf = true ∧ (Lit.int .i64 x.f3).wf = true ∧ (Lit.int .i64 x.f4).wf = true
theorem openS56 {H : Type} {enc : TypeId × Value → H} {w : World} {base : Nat} {spare : Nat → Bool} {held : Bool} {a : Option Addr} {len cap : Nat} {d : DataW H} {p : List MemPlace}
  (h : DataW.Trod enc Try.prog w base spare held 56 (.slice a len cap) d p) : ∃ xs : List S144, len = xs.length ∧ Kd.C k144 w a xs.length xs ∧ xs.length ≤ cap ∧ ∀ x ∈ xs, wf144 x := by
 obtain ⟨fuel, hf⟩ := h
 rcases open_slice Try.underlying56 hf with ⟨hcs, _⟩ | ⟨ad, l, c, m, n, D, Pl, hcs, _, hl, hm, hmm, _, hi⟩
 ·simp only [Value.cells, List.cons.injEq, Value.slice.injEq, and_true] at hcs
  obtain ⟨rfl, rfl, rfl⟩ := hcs
  exact ⟨[], rfl, ⟨rfl, by decide, fun h => absurd h (by decide)⟩, Nat.le_refl _, fun x hx => absurd hx (by simp)⟩
 ·simp only [Value.cells, List.cons.injEq, Value.slice.injEq, and_true] at hcs
  obtain ⟨rfl, rfl, rfl⟩ := hcs
  have hlm : len ≤ m := by rw [hmm]; split <;> omega
  have each : ∀ i, ∃ x : S144, i < len → (∃ cs, w.cells? base (ad.add (i * Try.prog.cellsOf 144)) (Try.prog.cellsOf 144) = some cs ∧ k144.K w x cs ∧ wf144 x) := by
   intro i
   by_cases h : i < len
   ·obtain ⟨cs, hc, ht⟩ := hi i (by omega)
    obtain ⟨x0, x1, x2, x3, x4, rfl, w0, w1, w2, w3, w4⟩ := open144 ht
    exact ⟨⟨x0, x1, x2, x3, x4⟩, fun _ => ⟨_, hc, k144_mk _ _, w0, w1, w2, w3, w4⟩⟩
   ·exact ⟨⟨0, 0, 0, 0, 0⟩, fun h' => absurd h' h⟩
  have hfun : ∃ f : Nat → S144, ∀ i, i < len → (∃ cs, w.cells? base (ad.add (i * Try.prog.cellsOf 144)) (Try.prog.cellsOf 144) = some cs ∧ k144.K w (f i) cs ∧ wf144 (f i)) := ⟨fun i => (each i).choose, fun i => (each i).choose_spec⟩
  obtain ⟨f, hf2⟩ := hfun
  refine ⟨(List.range len).map f, by simp, ⟨by simp, by simp; unfold maxLen at hm; omega, fun _ => ⟨ad, rfl, fun j q hj => ?_⟩⟩, by simpa using hl, fun x hx => ?_⟩
  ·rw [List.getElem?_map] at hj
   obtain ⟨j', hj1, rfl⟩ := Option.map_eq_some_iff.1 hj
   obtain ⟨hjl, rfl⟩ := List.getElem?_eq_some_iff.1 hj1
   rw [List.getElem_range] at *
   obtain ⟨cs, hc, hk, _⟩ := hf2 j (by simpa using hjl)
   obtain ⟨_, hcl, hat⟩ := World.cells?_some hc
   rw [show Try.prog.cellsOf 144 = 5 by kernel_rfl] at hcl hat
   refine ⟨cs, by rw [hcl]; rfl, hk, fun i u hu => ?_⟩
   have hlt : i < 5 := by rw [← hcl]; exact (List.getElem?_eq_some_iff.1 hu).1
   have := hat i hlt
   rw [hu] at this
   rw [← this, Go.Deep.add_add]; rfl
  ·obtain ⟨i, hi2, rfl⟩ := List.mem_map.1 hx
   exact (hf2 i (List.mem_range.1 hi2)).elim fun _ h => h.2.2
theorem open58 {H : Type} {enc : TypeId × Value → H} {w : World} {base : Nat} {spare : Nat → Bool} {held : Bool} {fuel : Nat} {cs : List Value} {x : DataW H × List MemPlace}
  (h : DataW.trod enc Try.prog w base spare held fuel 58 cs = some x) : ∃ (x0 : Int) (x1 : Int) (x2 : Int), cs = [.int .i64 x0, .int .i64 x1, .int .i64 x2] ∧ (Lit.int .i64 x0).wf = true ∧ (Lit.int .i64 x1).wf = true ∧ (Lit.int .i64 x2).wf = true := by
 obtain ⟨ys, n, _, _, hl, hy, hf⟩ := DataW.trod_struct Try.underlying58 h
 rw [show Try.prog.cellsOf 58 = 3 by kernel_rfl] at hl
 match cs, hl with
 | [c0, c1, c2], _ =>
  have f0 : DataW.trod enc Try.prog w base spare held n 3 ((([c0, c1, c2] : List Value).drop (0)).take (Try.prog.cellsOf 3)) = ys[0]? := hf 0 _ rfl
  rw [List.getElem?_eq_getElem (show 0 < ys.length by rw [hy]; decide), show Try.prog.cellsOf 3 = 1 by kernel_rfl] at f0
  obtain ⟨x0, e0, _, w0⟩ := DataW.trod_int Try.underlying3 f0
  have f1 : DataW.trod enc Try.prog w base spare held n 3 ((([c0, c1, c2] : List Value).drop (1)).take (Try.prog.cellsOf 3)) = ys[1]? := hf 1 _ rfl
  rw [List.getElem?_eq_getElem (show 1 < ys.length by rw [hy]; decide), show Try.prog.cellsOf 3 = 1 by kernel_rfl] at f1
  obtain ⟨x1, e1, _, w1⟩ := DataW.trod_int Try.underlying3 f1
  have f2 : DataW.trod enc Try.prog w base spare held n 3 ((([c0, c1, c2] : List Value).drop (2)).take (Try.prog.cellsOf 3)) = ys[2]? := hf 2 _ rfl
  rw [List.getElem?_eq_getElem (show 2 < ys.length by rw [hy]; decide), show Try.prog.cellsOf 3 = 1 by kernel_rfl] at f2
  obtain ⟨x2, e2, _, w2⟩ := DataW.trod_int Try.underlying3 f2
  obtain rfl := list1_inj e0
  obtain rfl := list1_inj e1
  obtain rfl := list1_inj e2
  exact ⟨x0, x1, x2, rfl, w0, w1, w2⟩
def wf58 (x : S58) : Prop := (Lit.int .i64 x.f0).wf = true ∧ (Lit.int .i64 x.f1).wf = true ∧ (Lit.int .i64 x.f2).wf = true
theorem openS68 {H : Type} {enc : TypeId × Value → H} {w : World} {base : Nat} {spare : Nat → Bool} {held : Bool} {a : Option Addr} {len cap : Nat} {d : DataW H} {p : List MemPlace}
  (h : DataW.Trod enc Try.prog w base spare held 68 (.slice a len cap) d p) : ∃ xs : List S58, len = xs.length ∧ Kd.C k58 w a xs.length xs ∧ xs.length ≤ cap ∧ ∀ x ∈ xs, wf58 x := by
 obtain ⟨fuel, hf⟩ := h
 rcases open_slice Try.underlying68 hf with ⟨hcs, _⟩ | ⟨ad, l, c, m, n, D, Pl, hcs, _, hl, hm, hmm, _, hi⟩
 ·simp only [Value.cells, List.cons.injEq, Value.slice.injEq, and_true] at hcs
  obtain ⟨rfl, rfl, rfl⟩ := hcs
  exact ⟨[], rfl, ⟨rfl, by decide, fun h => absurd h (by decide)⟩, Nat.le_refl _, fun x hx => absurd hx (by simp)⟩
 ·simp only [Value.cells, List.cons.injEq, Value.slice.injEq, and_true] at hcs
  obtain ⟨rfl, rfl, rfl⟩ := hcs
  have hlm : len ≤ m := by rw [hmm]; split <;> omega
  have each : ∀ i, ∃ x : S58, i < len → (∃ cs, w.cells? base (ad.add (i * Try.prog.cellsOf 58)) (Try.prog.cellsOf 58) = some cs ∧ k58.K w x cs ∧ wf58 x) := by
   intro i
   by_cases h : i < len
   ·obtain ⟨cs, hc, ht⟩ := hi i (by omega)
    obtain ⟨x0, x1, x2, rfl, w0, w1, w2⟩ := open58 ht
    exact ⟨⟨x0, x1, x2⟩, fun _ => ⟨_, hc, k58_mk _ _, w0, w1, w2⟩⟩
   ·exact ⟨⟨0, 0, 0⟩, fun h' => absurd h' h⟩
  have hfun : ∃ f : Nat → S58, ∀ i, i < len → (∃ cs, w.cells? base (ad.add (i * Try.prog.cellsOf 58)) (Try.prog.cellsOf 58) = some cs ∧ k58.K w (f i) cs ∧ wf58 (f i)) := ⟨fun i => (each i).choose, fun i => (each i).choose_spec⟩
  obtain ⟨f, hf2⟩ := hfun
  refine ⟨(List.range len).map f, by simp, ⟨by simp, by simp; unfold maxLen at hm; omega, fun _ => ⟨ad, rfl, fun j q hj => ?_⟩⟩, by simpa using hl, fun x hx => ?_⟩
  ·rw [List.getElem?_map] at hj
   obtain ⟨j', hj1, rfl⟩ := Option.map_eq_some_iff.1 hj
   obtain ⟨hjl, rfl⟩ := List.getElem?_eq_some_iff.1 hj1
   rw [List.getElem_range] at *
   obtain ⟨cs, hc, hk, _⟩ := hf2 j (by simpa using hjl)
   obtain ⟨_, hcl, hat⟩ := World.cells?_some hc
   rw [show Try.prog.cellsOf 58 = 3 by kernel_rfl] at hcl hat
   refine ⟨cs, by rw [hcl]; rfl, hk, fun i u hu => ?_⟩
   have hlt : i < 3 := by rw [← hcl]; exact (List.getElem?_eq_some_iff.1 hu).1
   have := hat i hlt
   rw [hu] at this
   rw [← this, Go.Deep.add_add]; rfl
  ·obtain ⟨i, hi2, rfl⟩ := List.mem_map.1 hx
   exact (hf2 i (List.mem_range.1 hi2)).elim fun _ h => h.2.2
end Go.Proofs.Ytiaiecfnpompcaa.T
