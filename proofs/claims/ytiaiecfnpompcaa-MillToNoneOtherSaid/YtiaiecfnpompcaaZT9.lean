-- cut down, squeezed and laid together by pack.py (a program of this repository) out of this seat's texts
import Derived.Shelf.SlSortCmp.InsertionK
import Derived.WalkKit
import Derived.MapKept
import Derived.RangeFuncNested
import Derived.RangeFuncBound
import Derived.RangeFuncCalls
import Derived.RangeFuncLeaves
import Derived.Shelf.Abstract
import Derived.Shelf.RegionOpen
import Derived.OwnWalkIn
import Derived.TacticsInMore
import Derived.LoopNIn
import Derived.LoopIn
import Derived.Test.YtiaiecfnpompcaaZT2
import Derived.Test.YtiaiecfnpompcaaZT1
namespace Go.Proofs.Ytiaiecfnpompcaa.T
open Go.RowKit Go.Shelf Go.Sort Go.Proofs.YtiaiecfnpompcaaW.PrintWords
set_option linter.unusedVariables false
set_option linter.unusedSectionVars false
set_option linter.unusedSimpArgs false

section
variable {α : Type} [Inhabited α] (enc : α → List Value) (k : Nat) (hk : ∀ x, (enc x).length = k) (k0 : 0 < k)
include hk k0
theorem reps_flat {R : α → List Value → Prop} (hR : ∀ x cs, R x cs → cs = enc x) {xs : List α} {cs : List Value} (h : Reps R k xs cs) : cs = (flatK enc k xs.toArray).toList := by
 refine List.ext_getElem (by simp [h.1]) fun t h1 h2 => ?_
 have ht : t < xs.length * k := by simpa using h2
 have hi : t / k < xs.length := (Nat.div_lt_iff_lt_mul k0).2 ht
 have e := hR _ _ (h.2 (t / k) xs[t / k] (by simp [hi]))
 have e1 : (enc xs[t / k])[t % k]? = cs[t]? := by
  rw [← e, List.getElem?_take, if_pos (Nat.mod_lt _ k0), List.getElem?_drop, Nat.mul_comm, Nat.div_add_mod]
 have e2 := get_flatK enc k xs.toArray t (by simpa using ht)
 have e4 : (flatK enc k xs.toArray).toList[t] = (flatK enc k xs.toArray)[t]! := by
  rw [Array.getElem_toList, getElem!_pos (flatK enc k xs.toArray) t (by simpa using ht)]
 have e3 : xs.toArray[t / k]! = xs[t / k] := by simp [hi]
 rw [e4, e2, e3, List.getElem!_eq_getElem?_getD, e1, List.getElem?_eq_getElem h1]; rfl
theorem flat_reps {R : α → List Value → Prop} (hR : ∀ x, R x (enc x)) (xs : List α) : Reps R k xs (flatK enc k xs.toArray).toList := by
 refine ⟨by simp, fun j p hj => ?_⟩
 obtain ⟨hjl, rfl⟩ := List.getElem?_eq_some_iff.1 hj
 have e : ((flatK enc k xs.toArray).toList.drop (j * k)).take k = enc xs[j] := by
  have hjk : j * k + k ≤ xs.length * k := by have := Nat.mul_le_mul_right k hjl; rwa [Nat.succ_mul] at this
  refine List.ext_getElem (by simp [hk]; omega) fun t h1 h2 => ?_
  have ht : t < k := by rw [hk] at h2; exact h2
  have h3 : j * k + t < xs.length * k := by omega
  rw [List.getElem_take, List.getElem_drop, Array.getElem_toList, ← getElem!_pos (flatK enc k xs.toArray) (j * k + t) (by simpa using h3), get_flatK _ _ _ _ (by simpa using h3)]
  have e1 : (j * k + t) / k = j := by rw [Nat.mul_comm, Nat.mul_add_div k0, Nat.div_eq_of_lt ht, Nat.add_zero]
  have e2 : (j * k + t) % k = t := by rw [Nat.mul_comm, Nat.mul_add_mod, Nat.mod_eq_of_lt ht]
  rw [e1, e2]
  have e3 : xs.toArray[j]! = xs[j] := by simp [hjl]
  rw [e3, getElem!_pos (enc xs[j]) t h2]
 rw [e]; exact hR _
theorem sort_frame (d : Kd α) (hs : d.sz = k) (hM1 : ∀ {w base ok x cs}, d.M w base ok x cs → cs = enc x) (hM2 : ∀ w base ok x, d.M w base ok x (enc x))
  {e : Nat} {w : World} {base : Nat} {ok : Nat → Prop} {g n cap : Nat} {xs : List α} (h : d.R e w base ok (.slice (some ⟨g, 0, none⟩) n cap) xs) :
  n = xs.length ∧ g < w.heap.size ∧ HoldsK enc k w g 0 xs.toArray ∧
  ∀ (ys : List α) (m : Nat) (os : Array Obj), ys.length = xs.length →
   d.R e (sortWorldK enc k w g 0 m ys.toArray os) base ok (.slice (some ⟨g, 0, none⟩) n cap) ys ∧ Below base w (sortWorldK enc k w g 0 m ys.toArray os) := by
 obtain ⟨h0, inner, ⟨hl, ho⟩, hr⟩ := h
 rw [hs] at hr hl ho
 rcases ho with ⟨ho, _⟩ | ⟨g', cap', cur, ho, hg, hb, hnc, hcm, hcs, htk⟩
 ·cases ho
 cases ho
 have hlt : g < w.heap.size := (Array.getElem?_eq_some_iff.1 hb).1
 have hin := reps_flat enc k hk k0 (fun _ _ hm => hM1 hm) hr
 have hle : xs.length * k ≤ cur.size := by rw [hcs]; exact Nat.mul_le_mul_right _ hnc
 refine ⟨rfl, hlt, ?_, fun ys m os hy => ⟨⟨h0, (flatK enc k ys.toArray).toList, ⟨?_, .inr ⟨g, cap, putCells id 0 (flatK enc k ys.toArray) cur, ?_, hg, ?_, ?_, hcm, ?_, ?_⟩⟩, ?_⟩, ?_⟩⟩
 ·intro j hj
  have hj' : j < xs.length * k := by simpa using hj
  rw [hin] at htk
  have e : cur[j]? = some (flatK enc k xs.toArray)[j]! := by
   rw [← Array.getElem?_toList, ← List.getElem?_take_of_lt hj', htk, Array.getElem?_toList, getElem!_pos (flatK enc k xs.toArray) j hj, Array.getElem?_eq_getElem hj]
  rw [Nat.zero_add]
  refine ⟨?_, ?_⟩
  ·exact (blk_cell hb j).trans e
  ·exact blk_frozen hb j
 ·simp [hs]
 ·rw [hy]
 ·have e1 : (sortWorldK enc k w g 0 m ys.toArray os).heap[g]? = (w.heap.modify g (onCells (putCells id 0 (flatK enc k ys.toArray))))[g]? := by
   show ((w.heap.modify g _) ++ os)[g]? = _
   rw [Array.getElem?_append_left (by simpa using hlt)]
  rw [e1, Array.getElem?_modify, if_pos rfl, hb]
  rfl
 ·omega
 ·simp [putCells, hcs, hs]
 ·rw [hs, hy]
  refine List.ext_getElem (by simp [putCells, hy]; omega) fun t h1 h2 => ?_
  have ht : t < ys.length * k := by simpa using h2
  have hF : (flatK enc k ys.toArray).size = ys.length * k := by simp
  simp only [List.getElem_take, Array.getElem_toList, putCells, Array.getElem_mapIdx, Nat.zero_le, Nat.zero_add, Nat.sub_zero, hF]
  rw [if_pos ⟨trivial, ht⟩, getElem!_pos (flatK enc k ys.toArray) t (by rw [hF]; exact ht)]; rfl
 ·rw [hs]; exact flat_reps enc k hk k0 (fun x => hM2 _ _ _ x) ys
 ·refine ⟨rfl, rfl, rfl, by simp [sortWorldK, putRowK, putRow, mapBlock, ahead], fun i hi => ?_⟩
  show ((w.heap.modify g _) ++ os)[i]? = _
  rw [Array.getElem?_append_left (by simp; omega), Array.getElem?_modify, if_neg (by omega)]
end
end Go.Proofs.Ytiaiecfnpompcaa.T
