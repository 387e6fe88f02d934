-- cut down, squeezed and laid together by pack.py (a program of this repository) out of this seat's texts
import Derived.OpenShut
import Derived.ChangeArms
import Derived.Deep.Slices
import Derived.Deep.Fields
import Derived.ChangeSame
import Derived.WideShapes
import Derived.ChangeKeysEq
import Derived.Test.YtiaiecfnpompcaaZR2
import Derived.Test.YtiaiecfnpompcaaZR13
import Derived.Test.YtiaiecfnpompcaaZR3
import Derived.Test.YtiaiecfnpompcaaZR9
import Derived.Test.YtiaiecfnpompcaaZR4
import Derived.Test.YtiaiecfnpompcaaZR12
import Derived.Test.YtiaiecfnpompcaaZR8
import Derived.Test.YtiaiecfnpompcaaZR6
import Derived.Test.YtiaiecfnpompcaaZR7
import Derived.Test.YtiaiecfnpompcaaZR11
import Derived.Test.YtiaiecfnpompcaaZR5
import Derived.Test.YtiaiecfnpompcaaZR10
import Derived.Test.YtiaiecfnpompcaaZR1
namespace Go.Proofs.Ytiaiecfnpompcaa.T
open Go.ChangeShapes Go.WideShapes Go.Deep Go.RowKit Go.Proofs.YtiaiecfnpompcaaW.PrintWords
set_option linter.unusedVariables false
set_option linter.unusedSimpArgs false
set_option maxRecDepth 100000
theorem XbP {v : Value} {cs : List Value} (h : v.cells.toList = cs) (hl : cs.length ≠ 1) : v = .agg cs.toArray := by
 cases v <;> first | (rw [← h] at hl; exact absurd rfl hl) | (subst h; rfl)
theorem YM {a0 b0 : Value} (h : [a0] = [b0]) : a0 = b0 := by simpa using h
theorem XhL {H : Type} {enc : TypeId × Value → H} {w : World} {base : Nat} {spare : Nat → Bool} {held : Bool} {fuel : Nat} {cs : List Value} {x : DataW H × List MemPlace}
  (h : DataW.trod enc Try.prog w base spare held fuel 144 cs = some x) : ∃ (x0 : Int) (x1 : Int) (x2 : Int) (x3 : Int) (x4 : Int), cs = [.int .i64 x0, .int .i64 x1, .int .i64 x2, .int .i64 x3, .int .i64 x4] ∧ (Lit.int .i64 x0).wf = true ∧ (Lit.int .i64 x1).wf = true ∧ (Lit.int .i64 x2).wf = true ∧ (Lit.int .i64 x3).wf = true ∧ (Lit.int .i64 x4).wf = true := by
 obtain ⟨ys, n, _, _, hl, hy, hf⟩ := DataW.trod_struct Try.underlying144 h
 rw [show Try.prog.cellsOf 144 = 5 by kernel_rfl] at hl
 match cs, hl with
 | [c0, c1, c2, c3, c4], _ =>
  have f0 : DataW.trod enc Try.prog w base spare held n 3 ((([c0, c1, c2, c3, c4] : List Value).drop (0)).take (Try.prog.cellsOf 3)) = ys[0]? := hf 0 _ rfl
  rw [List.getElem?_eq_getElem (show 0 < ys.length by rw [hy]; decide), show Try.prog.cellsOf 3 = 1 by kernel_rfl] at f0
  obtain ⟨x0, e0, _, w0⟩ := DataW.trod_int Try.underlying3 f0
  have f1 : DataW.trod enc Try.prog w base spare held n 3 ((([c0, c1, c2, c3, c4] : List Value).drop (1)).take (Try.prog.cellsOf 3)) = ys[1]? := hf 1 _ rfl
  rw [List.getElem?_eq_getElem (show 1 < ys.length by rw [hy]; decide), show Try.prog.cellsOf 3 = 1 by kernel_rfl] at f1
  obtain ⟨x1, e1, _, w1⟩ := DataW.trod_int Try.underlying3 f1
  have f2 : DataW.trod enc Try.prog w base spare held n 3 ((([c0, c1, c2, c3, c4] : List Value).drop (2)).take (Try.prog.cellsOf 3)) = ys[2]? := hf 2 _ rfl
  rw [List.getElem?_eq_getElem (show 2 < ys.length by rw [hy]; decide), show Try.prog.cellsOf 3 = 1 by kernel_rfl] at f2
  obtain ⟨x2, e2, _, w2⟩ := DataW.trod_int Try.underlying3 f2
  have f3 : DataW.trod enc Try.prog w base spare held n 3 ((([c0, c1, c2, c3, c4] : List Value).drop (3)).take (Try.prog.cellsOf 3)) = ys[3]? := hf 3 _ rfl
  rw [List.getElem?_eq_getElem (show 3 < ys.length by rw [hy]; decide), show Try.prog.cellsOf 3 = 1 by kernel_rfl] at f3
  obtain ⟨x3, e3, _, w3⟩ := DataW.trod_int Try.underlying3 f3
  have f4 : DataW.trod enc Try.prog w base spare held n 3 ((([c0, c1, c2, c3, c4] : List Value).drop (4)).take (Try.prog.cellsOf 3)) = ys[4]? := hf 4 _ rfl
  rw [List.getElem?_eq_getElem (show 4 < ys.length by rw [hy]; decide), show Try.prog.cellsOf 3 = 1 by kernel_rfl] at f4
  obtain ⟨x4, e4, _, w4⟩ := DataW.trod_int Try.underlying3 f4
  obtain rfl := YM e0
  obtain rfl := YM e1
  obtain rfl := YM e2
  obtain rfl := YM e3
  obtain rfl := YM e4
  exact ⟨x0, x1, x2, x3, x4, rfl, w0, w1, w2, w3, w4⟩
def XfD (x : S144) : Prop := (Lit.int .i64 x.f0).wf = true ∧ (Lit.int .i64 x.f1).wf = true ∧ (Lit.int .i64 x.f2).wf = true ∧ (Lit.int .i64 x.f3).wf = true ∧ (Lit.int .i64 x.f4).wf = true
theorem XhK {H : Type} {enc : TypeId × Value → H} {w : World} {base : Nat} {spare : Nat → Bool} {held : Bool} {a : Option Addr} {len cap : Nat} {d : DataW H} {p : List MemPlace}
  (h : DataW.Trod enc Try.prog w base spare held 56 (.slice a len cap) d p) : ∃ xs : List S144, len = xs.length ∧ Kd.C k144 w a xs.length xs ∧ xs.length ≤ cap ∧ ∀ x ∈ xs, XfD x := by
 obtain ⟨fuel, hf⟩ := h
 rcases open_slice Try.underlying56 hf with ⟨hcs, _⟩ | ⟨ad, l, c, m, n, D, Pl, hcs, _, hl, hm, hmm, _, hi⟩
 ·simp only [Value.cells, List.cons.injEq, Value.slice.injEq, and_true] at hcs
  obtain ⟨rfl, rfl, rfl⟩ := hcs
  exact ⟨[], rfl, ⟨rfl, by decide, fun h => absurd h (by decide)⟩, Nat.le_refl _, fun x hx => absurd hx (by simp)⟩
 ·simp only [Value.cells, List.cons.injEq, Value.slice.injEq, and_true] at hcs
  obtain ⟨rfl, rfl, rfl⟩ := hcs
  have hlm : len ≤ m := by rw [hmm]; split <;> omega
  have each : ∀ i, ∃ x : S144, i < len → (∃ cs, w.cells? base (ad.add (i * Try.prog.cellsOf 144)) (Try.prog.cellsOf 144) = some cs ∧ k144.K w x cs ∧ XfD x) := by
   intro i
   by_cases h : i < len
   ·obtain ⟨cs, hc, ht⟩ := hi i (by omega)
    obtain ⟨x0, x1, x2, x3, x4, rfl, w0, w1, w2, w3, w4⟩ := XhL ht
    exact ⟨⟨x0, x1, x2, x3, x4⟩, fun _ => ⟨_, hc, XhV _ _, w0, w1, w2, w3, w4⟩⟩
   ·exact ⟨⟨0, 0, 0, 0, 0⟩, fun h' => absurd h' h⟩
  have hfun : ∃ f : Nat → S144, ∀ i, i < len → (∃ cs, w.cells? base (ad.add (i * Try.prog.cellsOf 144)) (Try.prog.cellsOf 144) = some cs ∧ k144.K w (f i) cs ∧ XfD (f i)) := ⟨fun i => (each i).choose, fun i => (each i).choose_spec⟩
  obtain ⟨f, hf2⟩ := hfun
  refine ⟨(List.range len).map f, by simp, ⟨by simp, by simp; unfold maxLen at hm; omega, fun _ => ⟨ad, rfl, fun j q hj => ?_⟩⟩, by simpa using hl, fun x hx => ?_⟩
  ·rw [List.getElem?_map] at hj
   obtain ⟨j', hj1, rfl⟩ := Option.map_eq_some_iff.1 hj
   obtain ⟨hjl, rfl⟩ := List.getElem?_eq_some_iff.1 hj1
   rw [List.getElem_range] at *
   obtain ⟨cs, hc, hk, _⟩ := hf2 j (by simpa using hjl)
   obtain ⟨_, hcl, hat⟩ := World.cells?_some hc
   rw [show Try.prog.cellsOf 144 = 5 by kernel_rfl] at hcl hat
   refine ⟨cs, by rw [hcl]; rfl, hk, fun i u hu => ?_⟩
   have hlt : i < 5 := by rw [← hcl]; exact (List.getElem?_eq_some_iff.1 hu).1
   have := hat i hlt
   rw [hu] at this
   rw [← this, Go.Deep.add_add]; rfl
  ·obtain ⟨i, hi2, rfl⟩ := List.mem_map.1 hx
   exact (hf2 i (List.mem_range.1 hi2)).elim fun _ h => h.2.2
theorem Xip {H : Type} {enc : TypeId × Value → H} {w : World} {base : Nat} {spare : Nat → Bool} {held : Bool} {fuel : Nat} {cs : List Value} {x : DataW H × List MemPlace}
  (h : DataW.trod enc Try.prog w base spare held fuel 58 cs = some x) : ∃ (x0 : Int) (x1 : Int) (x2 : Int), cs = [.int .i64 x0, .int .i64 x1, .int .i64 x2] ∧ (Lit.int .i64 x0).wf = true ∧ (Lit.int .i64 x1).wf = true ∧ (Lit.int .i64 x2).wf = true := by
 obtain ⟨ys, n, _, _, hl, hy, hf⟩ := DataW.trod_struct Try.underlying58 h
 rw [show Try.prog.cellsOf 58 = 3 by kernel_rfl] at hl
 match cs, hl with
 | [c0, c1, c2], _ =>
  have f0 : DataW.trod enc Try.prog w base spare held n 3 ((([c0, c1, c2] : List Value).drop (0)).take (Try.prog.cellsOf 3)) = ys[0]? := hf 0 _ rfl
  rw [List.getElem?_eq_getElem (show 0 < ys.length by rw [hy]; decide), show Try.prog.cellsOf 3 = 1 by kernel_rfl] at f0
  obtain ⟨x0, e0, _, w0⟩ := DataW.trod_int Try.underlying3 f0
  have f1 : DataW.trod enc Try.prog w base spare held n 3 ((([c0, c1, c2] : List Value).drop (1)).take (Try.prog.cellsOf 3)) = ys[1]? := hf 1 _ rfl
  rw [List.getElem?_eq_getElem (show 1 < ys.length by rw [hy]; decide), show Try.prog.cellsOf 3 = 1 by kernel_rfl] at f1
  obtain ⟨x1, e1, _, w1⟩ := DataW.trod_int Try.underlying3 f1
  have f2 : DataW.trod enc Try.prog w base spare held n 3 ((([c0, c1, c2] : List Value).drop (2)).take (Try.prog.cellsOf 3)) = ys[2]? := hf 2 _ rfl
  rw [List.getElem?_eq_getElem (show 2 < ys.length by rw [hy]; decide), show Try.prog.cellsOf 3 = 1 by kernel_rfl] at f2
  obtain ⟨x2, e2, _, w2⟩ := DataW.trod_int Try.underlying3 f2
  obtain rfl := YM e0
  obtain rfl := YM e1
  obtain rfl := YM e2
  exact ⟨x0, x1, x2, rfl, w0, w1, w2⟩
def wf58 (x : S58) : Prop := (Lit.int .i64 x.f0).wf = true ∧ (Lit.int .i64 x.f1).wf = true ∧ (Lit.int .i64 x.f2).wf = true
theorem Xd3 {H : Type} {enc : TypeId × Value → H} {w : World} {base : Nat} {spare : Nat → Bool} {held : Bool} {a : Option Addr} {len cap : Nat} {d : DataW H} {p : List MemPlace}
  (h : DataW.Trod enc Try.prog w base spare held 68 (.slice a len cap) d p) : ∃ xs : List S58, len = xs.length ∧ Kd.C k58 w a xs.length xs ∧ xs.length ≤ cap ∧ ∀ x ∈ xs, wf58 x := by
 obtain ⟨fuel, hf⟩ := h
 rcases open_slice Try.underlying68 hf with ⟨hcs, _⟩ | ⟨ad, l, c, m, n, D, Pl, hcs, _, hl, hm, hmm, _, hi⟩
 ·simp only [Value.cells, List.cons.injEq, Value.slice.injEq, and_true] at hcs
  obtain ⟨rfl, rfl, rfl⟩ := hcs
  exact ⟨[], rfl, ⟨rfl, by decide, fun h => absurd h (by decide)⟩, Nat.le_refl _, fun x hx => absurd hx (by simp)⟩
 ·simp only [Value.cells, List.cons.injEq, Value.slice.injEq, and_true] at hcs
  obtain ⟨rfl, rfl, rfl⟩ := hcs
  have hlm : len ≤ m := by rw [hmm]; split <;> omega
  have each : ∀ i, ∃ x : S58, i < len → (∃ cs, w.cells? base (ad.add (i * Try.prog.cellsOf 58)) (Try.prog.cellsOf 58) = some cs ∧ k58.K w x cs ∧ wf58 x) := by
   intro i
   by_cases h : i < len
   ·obtain ⟨cs, hc, ht⟩ := hi i (by omega)
    obtain ⟨x0, x1, x2, rfl, w0, w1, w2⟩ := Xip ht
    exact ⟨⟨x0, x1, x2⟩, fun _ => ⟨_, hc, Xir _ _, w0, w1, w2⟩⟩
   ·exact ⟨⟨0, 0, 0⟩, fun h' => absurd h' h⟩
  have hfun : ∃ f : Nat → S58, ∀ i, i < len → (∃ cs, w.cells? base (ad.add (i * Try.prog.cellsOf 58)) (Try.prog.cellsOf 58) = some cs ∧ k58.K w (f i) cs ∧ wf58 (f i)) := ⟨fun i => (each i).choose, fun i => (each i).choose_spec⟩
  obtain ⟨f, hf2⟩ := hfun
  refine ⟨(List.range len).map f, by simp, ⟨by simp, by simp; unfold maxLen at hm; omega, fun _ => ⟨ad, rfl, fun j q hj => ?_⟩⟩, by simpa using hl, fun x hx => ?_⟩
  ·rw [List.getElem?_map] at hj
   obtain ⟨j', hj1, rfl⟩ := Option.map_eq_some_iff.1 hj
   obtain ⟨hjl, rfl⟩ := List.getElem?_eq_some_iff.1 hj1
   rw [List.getElem_range] at *
   obtain ⟨cs, hc, hk, _⟩ := hf2 j (by simpa using hjl)
   obtain ⟨_, hcl, hat⟩ := World.cells?_some hc
   rw [show Try.prog.cellsOf 58 = 3 by kernel_rfl] at hcl hat
   refine ⟨cs, by rw [hcl]; rfl, hk, fun i u hu => ?_⟩
   have hlt : i < 3 := by rw [← hcl]; exact (List.getElem?_eq_some_iff.1 hu).1
   have := hat i hlt
   rw [hu] at this
   rw [← this, Go.Deep.add_add]; rfl
  ·obtain ⟨i, hi2, rfl⟩ := List.mem_map.1 hx
   exact (hf2 i (List.mem_range.1 hi2)).elim fun _ h => h.2.2
theorem Xio {H : Type} {enc : TypeId × Value → H} {w : World} {spare : Nat → Bool} {held : Bool} {fuel : Nat} {cs : List Value} {x : DataW H × List MemPlace}
  (h : DataW.trod enc Try.prog w 0 spare held fuel 76 cs = some x) : ∃ (A0 : Option Addr) (c0 : Nat) (l0 : List S58) (A1 : Option Addr) (c1 : Nat) (l1 : List S58) (A2 : Option Addr) (c2 : Nat) (l2 : List S58), cs = [.slice A0 l0.length c0, .slice A1 l1.length c1, .slice A2 l2.length c2] ∧ (Kd.C k58 w A0 l0.length l0 ∧ l0.length ≤ c0 ∧ ∀ x ∈ l0, wf58 x) ∧ (Kd.C k58 w A1 l1.length l1 ∧ l1.length ≤ c1 ∧ ∀ x ∈ l1, wf58 x) ∧ (Kd.C k58 w A2 l2.length l2 ∧ l2.length ≤ c2 ∧ ∀ x ∈ l2, wf58 x) := by
 obtain ⟨ys, n, _, _, hl, hy, hf⟩ := DataW.trod_struct Try.underlying76 h
 rw [show Try.prog.cellsOf 76 = 3 by kernel_rfl] at hl
 match cs, hl with
 | [v0, v1, v2], _ =>
  have f0 : DataW.trod enc Try.prog w 0 spare held n 68 ((([v0, v1, v2] : List Value).drop (0)).take (Try.prog.cellsOf 68)) = ys[0]? := hf 0 _ rfl
  rw [List.getElem?_eq_getElem (show 0 < ys.length by rw [hy]; decide), show Try.prog.cellsOf 68 = 1 by kernel_rfl] at f0
  have f1 : DataW.trod enc Try.prog w 0 spare held n 68 ((([v0, v1, v2] : List Value).drop (1)).take (Try.prog.cellsOf 68)) = ys[1]? := hf 1 _ rfl
  rw [List.getElem?_eq_getElem (show 1 < ys.length by rw [hy]; decide), show Try.prog.cellsOf 68 = 1 by kernel_rfl] at f1
  have f2 : DataW.trod enc Try.prog w 0 spare held n 68 ((([v0, v1, v2] : List Value).drop (2)).take (Try.prog.cellsOf 68)) = ys[2]? := hf 2 _ rfl
  rw [List.getElem?_eq_getElem (show 2 < ys.length by rw [hy]; decide), show Try.prog.cellsOf 68 = 1 by kernel_rfl] at f2
  obtain ⟨A0, n0, c0, e0⟩ : ∃ a n c, v0 = .slice a n c := by
   rcases open_slice Try.underlying68 f0 with ⟨hcs, _⟩ | ⟨ad, l, c, m, n, D, Pl, hcs, _⟩
   ·exact ⟨_, _, _, by simpa using hcs⟩
   ·exact ⟨_, _, _, by simpa using hcs⟩
  subst e0
  obtain ⟨l0, rfl, C0, d0, w0⟩ := Xd3 (w := w) (h := ⟨n, f0⟩)
  obtain ⟨A1, n1, c1, e1⟩ : ∃ a n c, v1 = .slice a n c := by
   rcases open_slice Try.underlying68 f1 with ⟨hcs, _⟩ | ⟨ad, l, c, m, n, D, Pl, hcs, _⟩
   ·exact ⟨_, _, _, by simpa using hcs⟩
   ·exact ⟨_, _, _, by simpa using hcs⟩
  subst e1
  obtain ⟨l1, rfl, C1, d1, w1⟩ := Xd3 (w := w) (h := ⟨n, f1⟩)
  obtain ⟨A2, n2, c2, e2⟩ : ∃ a n c, v2 = .slice a n c := by
   rcases open_slice Try.underlying68 f2 with ⟨hcs, _⟩ | ⟨ad, l, c, m, n, D, Pl, hcs, _⟩
   ·exact ⟨_, _, _, by simpa using hcs⟩
   ·exact ⟨_, _, _, by simpa using hcs⟩
  subst e2
  obtain ⟨l2, rfl, C2, d2, w2⟩ := Xd3 (w := w) (h := ⟨n, f2⟩)
  exact ⟨A0, c0, l0, A1, c1, l1, A2, c2, l2, rfl, ⟨C0, d0, w0⟩, ⟨C1, d1, w1⟩, ⟨C2, d2, w2⟩⟩
theorem Xin {H : Type} {enc : TypeId × Value → H} {w : World} {base : Nat} {spare : Nat → Bool} {held : Bool} {fuel : Nat} {cs : List Value} {x : DataW H × List MemPlace}
  (h : DataW.trod enc Try.prog w base spare held fuel 79 cs = some x) : ∃ (x0 : Int) (x1 : Int) (x2 : Int), cs = [.int .i64 x0, .int .i64 x1, .int .i64 x2] ∧ (Lit.int .i64 x0).wf = true ∧ (Lit.int .i64 x1).wf = true ∧ (Lit.int .i64 x2).wf = true := by
 obtain ⟨ys, n, _, _, hl, hy, hf⟩ := DataW.trod_struct Try.underlying79 h
 rw [show Try.prog.cellsOf 79 = 3 by kernel_rfl] at hl
 match cs, hl with
 | [c0, c1, c2], _ =>
  have f0 : DataW.trod enc Try.prog w base spare held n 77 ((([c0, c1, c2] : List Value).drop (0)).take (Try.prog.cellsOf 77)) = ys[0]? := hf 0 _ rfl
  rw [List.getElem?_eq_getElem (show 0 < ys.length by rw [hy]; decide), show Try.prog.cellsOf 77 = 1 by kernel_rfl] at f0
  obtain ⟨x0, e0, _, w0⟩ := DataW.trod_int Try.underlying77 f0
  have f1 : DataW.trod enc Try.prog w base spare held n 3 ((([c0, c1, c2] : List Value).drop (1)).take (Try.prog.cellsOf 3)) = ys[1]? := hf 1 _ rfl
  rw [List.getElem?_eq_getElem (show 1 < ys.length by rw [hy]; decide), show Try.prog.cellsOf 3 = 1 by kernel_rfl] at f1
  obtain ⟨x1, e1, _, w1⟩ := DataW.trod_int Try.underlying3 f1
  have f2 : DataW.trod enc Try.prog w base spare held n 3 ((([c0, c1, c2] : List Value).drop (2)).take (Try.prog.cellsOf 3)) = ys[2]? := hf 2 _ rfl
  rw [List.getElem?_eq_getElem (show 2 < ys.length by rw [hy]; decide), show Try.prog.cellsOf 3 = 1 by kernel_rfl] at f2
  obtain ⟨x2, e2, _, w2⟩ := DataW.trod_int Try.underlying3 f2
  obtain rfl := YM e0
  obtain rfl := YM e1
  obtain rfl := YM e2
  exact ⟨x0, x1, x2, rfl, w0, w1, w2⟩
end Go.Proofs.Ytiaiecfnpompcaa.T
