-- cut down, squeezed and laid together by pack.py (a program of this repository) out of this seat's texts
import Derived.OpenShut
import Derived.ChangeArms
import Derived.Deep.Slices
import Derived.Deep.Fields
import Derived.ChangeSame
import Derived.WideShapes
import Derived.ChangeKeysEq
import Derived.Laws.StructEq
import Derived.Test.YtiaiecfnpompcaaZL2
import Derived.Test.YtiaiecfnpompcaaZL5
import Derived.Test.YtiaiecfnpompcaaZL3
import Derived.Test.YtiaiecfnpompcaaZL4
import Derived.Test.YtiaiecfnpompcaaZL1
namespace Go.Proofs.Ytiaiecfnpompcaa.T
open Go.ChangeShapes Go.WideShapes Go.Deep Go.RowKit Go.Proofs.YtiaiecfnpompcaaW.PrintWords
set_option linter.unusedVariables false
set_option linter.unusedSimpArgs false
set_option maxRecDepth 100000
def wf5 (x : Int) : Prop := (Lit.int .u8 x).wf = true
theorem openS89 {H : Type} {enc : TypeId × Value → H} {w : World} {base : Nat} {spare : Nat → Bool} {held : Bool} {a : Option Addr} {len cap : Nat} {d : DataW H} {p : List MemPlace}
    (h : DataW.Trod enc Try.prog w base spare held 89 (.slice a len cap) d p) : ∃ xs : List Int, len = xs.length ∧ Kd.C (Kd.int .u8) w a xs.length xs ∧ xs.length ≤ cap ∧ ∀ x ∈ xs, wf5 x := by
  obtain ⟨fuel, hf⟩ := h
  rcases open_slice Try.underlying89 hf with ⟨hcs, _⟩ | ⟨ad, l, c, m, n, D, Pl, hcs, _, hl, hm, hmm, _, hi⟩
  · simp only [Value.cells, List.cons.injEq, Value.slice.injEq, and_true] at hcs
    obtain ⟨rfl, rfl, rfl⟩ := hcs
    exact ⟨[], rfl, ⟨rfl, by decide, fun h => absurd h (by decide)⟩, Nat.le_refl _, fun x hx => absurd hx (by simp)⟩
  · simp only [Value.cells, List.cons.injEq, Value.slice.injEq, and_true] at hcs
    obtain ⟨rfl, rfl, rfl⟩ := hcs
    have hlm : len ≤ m := by rw [hmm]; split <;> omega
    have each : ∀ i, ∃ x : Int, i < len → (∃ cs, w.cells? base (ad.add (i * Try.prog.cellsOf 5)) (Try.prog.cellsOf 5) = some cs ∧ (Kd.int .u8).K w x cs ∧ wf5 x) := by
      intro i
      by_cases h : i < len
      · obtain ⟨cs, hc, ht⟩ := hi i (by omega)
        obtain ⟨x0, rfl, _, w0⟩ := DataW.trod_int Try.underlying5 ht
        exact ⟨x0, fun _ => ⟨_, hc, rfl, w0⟩⟩
      · exact ⟨0, fun h' => absurd h' h⟩
    have hfun : ∃ f : Nat → Int, ∀ i, i < len → (∃ cs, w.cells? base (ad.add (i * Try.prog.cellsOf 5)) (Try.prog.cellsOf 5) = some cs ∧ (Kd.int .u8).K w (f i) cs ∧ wf5 (f i)) := ⟨fun i => (each i).choose, fun i => (each i).choose_spec⟩
    obtain ⟨f, hf2⟩ := hfun
    refine ⟨(List.range len).map f, by simp, ⟨by simp, by simp; unfold maxLen at hm; omega, fun _ => ⟨ad, rfl, fun j q hj => ?_⟩⟩, by simpa using hl, fun x hx => ?_⟩
    · rw [List.getElem?_map] at hj
      obtain ⟨j', hj1, rfl⟩ := Option.map_eq_some_iff.1 hj
      obtain ⟨hjl, rfl⟩ := List.getElem?_eq_some_iff.1 hj1
      rw [List.getElem_range] at *
      obtain ⟨cs, hc, hk, _⟩ := hf2 j (by simpa using hjl)
      obtain ⟨_, hcl, hat⟩ := World.cells?_some hc
      rw [show Try.prog.cellsOf 5 = 1 by kernel_rfl] at hcl hat
      refine ⟨cs, by rw [hcl]; rfl, hk, fun i u hu => ?_⟩
      have hlt : i < 1 := by rw [← hcl]; exact (List.getElem?_eq_some_iff.1 hu).1
      have := hat i hlt
      rw [hu] at this
      rw [← this, Go.Deep.add_add]; rfl
    · obtain ⟨i, hi2, rfl⟩ := List.mem_map.1 hx
      exact (hf2 i (List.mem_range.1 hi2)).elim fun _ h => h.2.2
end Go.Proofs.Ytiaiecfnpompcaa.T
