-- cut down, squeezed and laid together by pack.py (a program of this repository) out of this seat's texts
import Derived.OpenShut
import Derived.ChangeArms
import Derived.Deep.Slices
import Derived.Deep.Fields
import Derived.ChangeSame
import Derived.WideShapes
import Derived.ChangeKeysEq
import Derived.Test.YtiaiecfnpompcaaZT2
import Derived.Test.YtiaiecfnpompcaaZT8
import Derived.Test.YtiaiecfnpompcaaZT4
import Derived.Test.YtiaiecfnpompcaaZT7
import Derived.Test.YtiaiecfnpompcaaZT3
import Derived.Test.YtiaiecfnpompcaaZT6
import Derived.Test.YtiaiecfnpompcaaZT5
import Derived.Test.YtiaiecfnpompcaaZT1
namespace Go.Proofs.Ytiaiecfnpompcaa.T
open Go.ChangeShapes Go.WideShapes Go.Deep Go.RowKit Go.Proofs.YtiaiecfnpompcaaW.PrintWords
set_option linter.unusedVariables false
set_option linter.unusedSimpArgs false
set_option maxRecDepth 100000
theorem agg_of_cells {v : Value} {cs : List Value} (h : v.cells.toList = cs) (hl : cs.length ≠ 1) : v = .agg cs.toArray := by
 cases v <;> first | (rw [← h] at hl; exact absurd rfl hl) | (subst h; rfl)
theorem list1_inj {a0 b0 : Value} (h : [a0] = [b0]) : a0 = b0 := by simpa using h
theorem open162 {H : Type} {enc : TypeId × Value → H} {w : World} {base : Nat} {spare : Nat → Bool} {held : Bool} {fuel : Nat} {cs : List Value} {x : DataW H × List MemPlace}
  (h : DataW.trod enc Try.prog w base spare held fuel 162 cs = some x) : ∃ (x0 : Int) (x1 : Int) (x2 : Int) (x3 : Int), cs = [.int .u8 x0, .int .u8 x1, .int .u8 x2, .int .u8 x3] ∧ (Lit.int .u8 x0).wf = true ∧ (Lit.int .u8 x1).wf = true ∧ (Lit.int .u8 x2).wf = true ∧ (Lit.int .u8 x3).wf = true := by
 obtain ⟨ys, n, _, _, hl, hy, hf⟩ := DataW.trod_array Try.underlying162 h
 rw [show Try.prog.cellsOf 162 = 4 by kernel_rfl] at hl
 match cs, hl with
 | [c0, c1, c2, c3], _ =>
  have f0 : DataW.trod enc Try.prog w base spare held n 5 ((([c0, c1, c2, c3] : List Value).drop (0 * Try.prog.cellsOf 5)).take (Try.prog.cellsOf 5)) = ys[0]? := hf 0 (by decide)
  rw [List.getElem?_eq_getElem (show 0 < ys.length by rw [hy]; decide), show Try.prog.cellsOf 5 = 1 by kernel_rfl] at f0
  obtain ⟨x0, e0, _, w0⟩ := DataW.trod_int Try.underlying5 f0
  have f1 : DataW.trod enc Try.prog w base spare held n 5 ((([c0, c1, c2, c3] : List Value).drop (1 * Try.prog.cellsOf 5)).take (Try.prog.cellsOf 5)) = ys[1]? := hf 1 (by decide)
  rw [List.getElem?_eq_getElem (show 1 < ys.length by rw [hy]; decide), show Try.prog.cellsOf 5 = 1 by kernel_rfl] at f1
  obtain ⟨x1, e1, _, w1⟩ := DataW.trod_int Try.underlying5 f1
  have f2 : DataW.trod enc Try.prog w base spare held n 5 ((([c0, c1, c2, c3] : List Value).drop (2 * Try.prog.cellsOf 5)).take (Try.prog.cellsOf 5)) = ys[2]? := hf 2 (by decide)
  rw [List.getElem?_eq_getElem (show 2 < ys.length by rw [hy]; decide), show Try.prog.cellsOf 5 = 1 by kernel_rfl] at f2
  obtain ⟨x2, e2, _, w2⟩ := DataW.trod_int Try.underlying5 f2
  have f3 : DataW.trod enc Try.prog w base spare held n 5 ((([c0, c1, c2, c3] : List Value).drop (3 * Try.prog.cellsOf 5)).take (Try.prog.cellsOf 5)) = ys[3]? := hf 3 (by decide)
  rw [List.getElem?_eq_getElem (show 3 < ys.length by rw [hy]; decide), show Try.prog.cellsOf 5 = 1 by kernel_rfl] at f3
  obtain ⟨x3, e3, _, w3⟩ := DataW.trod_int Try.underlying5 f3
  obtain rfl := list1_inj e0
  obtain rfl := list1_inj e1
  obtain rfl := list1_inj e2
  obtain rfl := list1_inj e3
  exact ⟨x0, x1, x2, x3, rfl, w0, w1, w2, w3⟩
def wf162 (x : S162) : Prop := (Lit.int .u8 x.f0).wf = true ∧ (Lit.int .u8 x.f1).wf = true ∧ (Lit.int .u8 x.f2).wf = true ∧ (Lit.int .u8 x.f3).wf = true
theorem openS110 {H : Type} {enc : TypeId × Value → H} {w : World} {base : Nat} {spare : Nat → Bool} {held : Bool} {a : Option Addr} {len cap : Nat} {d : DataW H} {p : List MemPlace}
  (h : DataW.Trod enc Try.prog w base spare held 110 (.slice a len cap) d p) : ∃ xs : List S162, len = xs.length ∧ Kd.C k162 w a xs.length xs ∧ xs.length ≤ cap ∧ ∀ x ∈ xs, wf162 x := by
 obtain ⟨fuel, hf⟩ := h
 rcases open_slice Try.underlying110 hf with ⟨hcs, _⟩ | ⟨ad, l, c, m, n, D, Pl, hcs, _, hl, hm, hmm, _, hi⟩
 ·simp only [Value.cells, List.cons.injEq, Value.slice.injEq, and_true] at hcs
  obtain ⟨rfl, rfl, rfl⟩ := hcs
  exact ⟨[], rfl, ⟨rfl, by decide, fun h => absurd h (by decide)⟩, Nat.le_refl _, fun x hx => absurd hx (by simp)⟩
 ·simp only [Value.cells, List.cons.injEq, Value.slice.injEq, and_true] at hcs
  obtain ⟨rfl, rfl, rfl⟩ := hcs
  have hlm : len ≤ m := by rw [hmm]; split <;> omega
  have each : ∀ i, ∃ x : S162, i < len → (∃ cs, w.cells? base (ad.add (i * Try.prog.cellsOf 162)) (Try.prog.cellsOf 162) = some cs ∧ k162.K w x cs ∧ wf162 x) := by
   intro i
   by_cases h : i < len
   ·obtain ⟨cs, hc, ht⟩ := hi i (by omega)
    obtain ⟨x0, x1, x2, x3, rfl, w0, w1, w2, w3⟩ := open162 ht
    exact ⟨⟨x0, x1, x2, x3⟩, fun _ => ⟨_, hc, k162_mk _ _, w0, w1, w2, w3⟩⟩
   ·exact ⟨⟨0, 0, 0, 0⟩, fun h' => absurd h' h⟩
  have hfun : ∃ f : Nat → S162, ∀ i, i < len → (∃ cs, w.cells? base (ad.add (i * Try.prog.cellsOf 162)) (Try.prog.cellsOf 162) = some cs ∧ k162.K w (f i) cs ∧ wf162 (f i)) := ⟨fun i => (each i).choose, fun i => (each i).choose_spec⟩
  obtain ⟨f, hf2⟩ := hfun
  refine ⟨(List.range len).map f, by simp, ⟨by simp, by simp; unfold maxLen at hm; omega, fun _ => ⟨ad, rfl, fun j q hj => ?_⟩⟩, by simpa using hl, fun x hx => ?_⟩
  ·rw [List.getElem?_map] at hj
   obtain ⟨j', hj1, rfl⟩ := Option.map_eq_some_iff.1 hj
   obtain ⟨hjl, rfl⟩ := List.getElem?_eq_some_iff.1 hj1
   rw [List.getElem_range] at *
   obtain ⟨cs, hc, hk, _⟩ := hf2 j (by simpa using hjl)
   obtain ⟨_, hcl, hat⟩ := World.cells?_some hc
   rw [show Try.prog.cellsOf 162 = 4 by kernel_rfl] at hcl hat
   refine ⟨cs, by rw [hcl]; rfl, hk, fun i u hu => ?_⟩
   have hlt : i < 4 := by rw [← hcl]; exact (List.getElem?_eq_some_iff.1 hu).1
   have := hat i hlt
   rw [hu] at this
   rw [← this, Go.Deep.add_add]; rfl
  ·obtain ⟨i, hi2, rfl⟩ := List.mem_map.1 hx
   exact (hf2 i (List.mem_range.1 hi2)).elim fun _ h => h.2.2
theorem open94 {H : Type} {enc : TypeId × Value → H} {w : World} {base : Nat} {spare : Nat → Bool} {held : Bool} {fuel : Nat} {cs : List Value} {x : DataW H × List MemPlace}
  (h : DataW.trod enc Try.prog w base spare held fuel 94 cs = some x) : ∃ (x0 : Int) (x1 : Int) (x2 : Int), cs = [.int .u8 x0, .int .u8 x1, .int .u8 x2] ∧ (Lit.int .u8 x0).wf = true ∧ (Lit.int .u8 x1).wf = true ∧ (Lit.int .u8 x2).wf = true := by
 obtain ⟨ys, n, _, _, hl, hy, hf⟩ := DataW.trod_array Try.underlying94 h
 rw [show Try.prog.cellsOf 94 = 3 by kernel_rfl] at hl
 match cs, hl with
 | [c0, c1, c2], _ =>
  have f0 : DataW.trod enc Try.prog w base spare held n 5 ((([c0, c1, c2] : List Value).drop (0 * Try.prog.cellsOf 5)).take (Try.prog.cellsOf 5)) = ys[0]? := hf 0 (by decide)
  rw [List.getElem?_eq_getElem (show 0 < ys.length by rw [hy]; decide), show Try.prog.cellsOf 5 = 1 by kernel_rfl] at f0
  obtain ⟨x0, e0, _, w0⟩ := DataW.trod_int Try.underlying5 f0
  have f1 : DataW.trod enc Try.prog w base spare held n 5 ((([c0, c1, c2] : List Value).drop (1 * Try.prog.cellsOf 5)).take (Try.prog.cellsOf 5)) = ys[1]? := hf 1 (by decide)
  rw [List.getElem?_eq_getElem (show 1 < ys.length by rw [hy]; decide), show Try.prog.cellsOf 5 = 1 by kernel_rfl] at f1
  obtain ⟨x1, e1, _, w1⟩ := DataW.trod_int Try.underlying5 f1
  have f2 : DataW.trod enc Try.prog w base spare held n 5 ((([c0, c1, c2] : List Value).drop (2 * Try.prog.cellsOf 5)).take (Try.prog.cellsOf 5)) = ys[2]? := hf 2 (by decide)
  rw [List.getElem?_eq_getElem (show 2 < ys.length by rw [hy]; decide), show Try.prog.cellsOf 5 = 1 by kernel_rfl] at f2
  obtain ⟨x2, e2, _, w2⟩ := DataW.trod_int Try.underlying5 f2
  obtain rfl := list1_inj e0
  obtain rfl := list1_inj e1
  obtain rfl := list1_inj e2
  exact ⟨x0, x1, x2, rfl, w0, w1, w2⟩
def wf94 (x : S94) : Prop := (Lit.int .u8 x.f0).wf = true ∧ (Lit.int .u8 x.f1).wf = true ∧ (Lit.int .u8 x.f2).wf = true
theorem openS111 {H : Type} {enc : TypeId × Value → H} {w : World} {base : Nat} {spare : Nat → Bool} {held : Bool} {a : Option Addr} {len cap : Nat} {d : DataW H} {p : List MemPlace}
  (h : DataW.Trod enc Try.prog w base spare held 111 (.slice a len cap) d p) : ∃ xs : List S94, len = xs.length ∧ Kd.C k94 w a xs.length xs ∧ xs.length ≤ cap ∧ ∀ x ∈ xs, wf94 x := by
 obtain ⟨fuel, hf⟩ := h
 rcases open_slice Try.underlying111 hf with ⟨hcs, _⟩ | ⟨ad, l, c, m, n, D, Pl, hcs, _, hl, hm, hmm, _, hi⟩
 ·simp only [Value.cells, List.cons.injEq, Value.slice.injEq, and_true] at hcs
  obtain ⟨rfl, rfl, rfl⟩ := hcs
  exact ⟨[], rfl, ⟨rfl, by decide, fun h => absurd h (by decide)⟩, Nat.le_refl _, fun x hx => absurd hx (by simp)⟩
 ·simp only [Value.cells, List.cons.injEq, Value.slice.injEq, and_true] at hcs
  obtain ⟨rfl, rfl, rfl⟩ := hcs
  have hlm : len ≤ m := by rw [hmm]; split <;> omega
  have each : ∀ i, ∃ x : S94, i < len → (∃ cs, w.cells? base (ad.add (i * Try.prog.cellsOf 94)) (Try.prog.cellsOf 94) = some cs ∧ k94.K w x cs ∧ wf94 x) := by
   intro i
   by_cases h : i < len
   ·obtain ⟨cs, hc, ht⟩ := hi i (by omega)
    obtain ⟨x0, x1, x2, rfl, w0, w1, w2⟩ := open94 ht
    exact ⟨⟨x0, x1, x2⟩, fun _ => ⟨_, hc, k94_mk _ _, w0, w1, w2⟩⟩
   ·exact ⟨⟨0, 0, 0⟩, fun h' => absurd h' h⟩
  have hfun : ∃ f : Nat → S94, ∀ i, i < len → (∃ cs, w.cells? base (ad.add (i * Try.prog.cellsOf 94)) (Try.prog.cellsOf 94) = some cs ∧ k94.K w (f i) cs ∧ wf94 (f i)) := ⟨fun i => (each i).choose, fun i => (each i).choose_spec⟩
  obtain ⟨f, hf2⟩ := hfun
  refine ⟨(List.range len).map f, by simp, ⟨by simp, by simp; unfold maxLen at hm; omega, fun _ => ⟨ad, rfl, fun j q hj => ?_⟩⟩, by simpa using hl, fun x hx => ?_⟩
  ·rw [List.getElem?_map] at hj
   obtain ⟨j', hj1, rfl⟩ := Option.map_eq_some_iff.1 hj
   obtain ⟨hjl, rfl⟩ := List.getElem?_eq_some_iff.1 hj1
   rw [List.getElem_range] at *
   obtain ⟨cs, hc, hk, _⟩ := hf2 j (by simpa using hjl)
   obtain ⟨_, hcl, hat⟩ := World.cells?_some hc
   rw [show Try.prog.cellsOf 94 = 3 by kernel_rfl] at hcl hat
   refine ⟨cs, by rw [hcl]; rfl, hk, fun i u hu => ?_⟩
   have hlt : i < 3 := by rw [← hcl]; exact (List.getElem?_eq_some_iff.1 hu).1
   have := hat i hlt
   rw [hu] at this
   rw [← this, Go.Deep.add_add]; rfl
  ·obtain ⟨i, hi2, rfl⟩ := List.mem_map.1 hx
   exact (hf2 i (List.mem_range.1 hi2)).elim fun _ h => h.2.2
theorem open113 {H : Type} {enc : TypeId × Value → H} {w : World} {spare : Nat → Bool} {held : Bool} {fuel : Nat} {cs : List Value} {x : DataW H × List MemPlace}
  (h : DataW.trod enc Try.prog w 0 spare held fuel 113 cs = some x) : ∃ (A0 : Option Addr) (c0 : Nat) (l0 : List S162) (A1 : Option Addr) (c1 : Nat) (l1 : List S94), cs = [.slice A0 l0.length c0, .slice A1 l1.length c1] ∧ (Kd.C k162 w A0 l0.length l0 ∧ l0.length ≤ c0 ∧ ∀ x ∈ l0, wf162 x) ∧ (Kd.C k94 w A1 l1.length l1 ∧ l1.length ≤ c1 ∧ ∀ x ∈ l1, wf94 x) := by
 obtain ⟨ys, n, _, _, hl, hy, hf⟩ := DataW.trod_struct Try.underlying113 h
 rw [show Try.prog.cellsOf 113 = 2 by kernel_rfl] at hl
 match cs, hl with
 | [v0, v1], _ =>
  have f0 : DataW.trod enc Try.prog w 0 spare held n 110 ((([v0, v1] : List Value).drop (0)).take (Try.prog.cellsOf 110)) = ys[0]? := hf 0 _ rfl
  rw [List.getElem?_eq_getElem (show 0 < ys.length by rw [hy]; decide), show Try.prog.cellsOf 110 = 1 by kernel_rfl] at f0
  have f1 : DataW.trod enc Try.prog w 0 spare held n 111 ((([v0, v1] : List Value).drop (1)).take (Try.prog.cellsOf 111)) = ys[1]? := hf 1 _ rfl
  rw [List.getElem?_eq_getElem (show 1 < ys.length by rw [hy]; decide), show Try.prog.cellsOf 111 = 1 by kernel_rfl] at f1
  obtain ⟨A0, n0, c0, e0⟩ : ∃ a n c, v0 = .slice a n c := by
   rcases open_slice Try.underlying110 f0 with ⟨hcs, _⟩ | ⟨ad, l, c, m, n, D, Pl, hcs, _⟩
   ·exact ⟨_, _, _, by simpa using hcs⟩
   ·exact ⟨_, _, _, by simpa using hcs⟩
  subst e0
  obtain ⟨l0, rfl, C0, d0, w0⟩ := openS110 (w := w) (h := ⟨n, f0⟩)
  obtain ⟨A1, n1, c1, e1⟩ : ∃ a n c, v1 = .slice a n c := by
   rcases open_slice Try.underlying111 f1 with ⟨hcs, _⟩ | ⟨ad, l, c, m, n, D, Pl, hcs, _⟩
   ·exact ⟨_, _, _, by simpa using hcs⟩
   ·exact ⟨_, _, _, by simpa using hcs⟩
  subst e1
  obtain ⟨l1, rfl, C1, d1, w1⟩ := openS111 (w := w) (h := ⟨n, f1⟩)
  exact ⟨A0, c0, l0, A1, c1, l1, rfl, ⟨C0, d0, w0⟩, ⟨C1, d1, w1⟩⟩
end Go.Proofs.Ytiaiecfnpompcaa.T
