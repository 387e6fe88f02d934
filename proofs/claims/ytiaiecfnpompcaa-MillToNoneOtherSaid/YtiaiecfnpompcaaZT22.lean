-- cut down, squeezed and laid together by pack.py (a program of this repository) out of this seat's texts
import Derived.WalkKit
import Derived.MapKept
import Derived.RangeFuncNested
import Derived.RangeFuncBound
import Derived.RangeFuncCalls
import Derived.RangeFuncLeaves
import Derived.Shelf.Abstract
import Derived.Shelf.RegionOpen
import Derived.OwnWalkIn
import Derived.TacticsInMore
import Derived.LoopNIn
import Derived.LoopIn
import Derived.ChangeKeysEq
import Derived.Test.YtiaiecfnpompcaaZT11
import Derived.Test.YtiaiecfnpompcaaZT13
import Derived.Test.YtiaiecfnpompcaaZT2
import Derived.Test.YtiaiecfnpompcaaZT9
import Derived.Test.YtiaiecfnpompcaaZT5
import Derived.Test.YtiaiecfnpompcaaZT8
import Derived.Test.YtiaiecfnpompcaaZT10
import Derived.Test.YtiaiecfnpompcaaZT12
import Derived.Test.YtiaiecfnpompcaaZT4
import Derived.Test.YtiaiecfnpompcaaZT7
import Derived.Test.YtiaiecfnpompcaaZT3
import Derived.Test.YtiaiecfnpompcaaZT6
import Derived.Test.YtiaiecfnpompcaaZT1
import Derived.Test.YtiaiecfnpompcaaZT19
namespace Go.Proofs.Ytiaiecfnpompcaa.T
open Go.RowKit Go.Proofs.YtiaiecfnpompcaaW.PrintWords
set_option linter.unusedVariables false
set_option linter.unusedSimpArgs false
def meetsR (x : S144) (m f t : Int) : Prop := x.f0 = m ∧ mx x.f1 f ≤ mn x.f2 t
instance (x : S144) (m f t : Int) : Decidable (meetsR x m f t) := by unfold meetsR; infer_instance
def apart (x y : S144) : Prop := ¬ (x.f0 = y.f0 ∧ x.f1 ≤ y.f2 ∧ y.f1 ≤ x.f2)
def covered (l : List S144) (m h : Int) : Prop := ∃ x ∈ l, x.f0 = m ∧ x.f1 ≤ h ∧ h ≤ x.f2
instance (l : List S144) (m h : Int) : Decidable (covered l m h) := by unfold covered; infer_instance
theorem hourKeys_mem' {m a : Int} {y : S79} : ∀ {n : Nat}, y ∈ hourKeys m a n ↔ y.f0 = 3 ∧ y.f1 = m ∧ a ≤ y.f2 ∧ y.f2 < a + n
 | 0 => by simp [hourKeys]
 | n + 1 => by
  rw [hourKeys, List.mem_append, hourKeys_mem', List.mem_singleton]
  constructor
  ·rintro (q | q)
   ·exact ⟨q.1, q.2.1, q.2.2.1, by omega⟩
   ·subst q
    exact ⟨rfl, rfl, by show a ≤ a + (n : Int); omega, by show a + (n : Int) < a + ((n + 1 : Nat) : Int); omega⟩
  ·rintro ⟨q0, q1, q2, q3⟩
   by_cases e : y.f2 = a + (n : Int)
   ·right
    rw [← e]
    cases y; simp_all
   ·left
    exact ⟨q0, q1, q2, by omega⟩
def runHrs (x : S144) (m f t : Int) : List S79 := if meetsR x m f t then hourKeys m (mx x.f1 f) (mn x.f2 t + 1 - mx x.f1 f).toNat else []
theorem runHrs_mem {x : S144} {m f t : Int} {y : S79} : y ∈ runHrs x m f t ↔ y.f0 = 3 ∧ y.f1 = m ∧ x.f0 = m ∧ (f ≤ y.f2 ∧ y.f2 ≤ t) ∧ x.f1 ≤ y.f2 ∧ y.f2 ≤ x.f2 := by
 have a1 := @mx_le x.f1 f
 have a2 := @mn_le x.f2 t
 unfold runHrs
 split
 ·rename_i g
  obtain ⟨g1, g2⟩ := g
  rw [hourKeys_mem']
  constructor
  ·rintro ⟨q0, q1, q2, q3⟩
   refine ⟨q0, q1, g1, ⟨?_, ?_⟩, ?_, ?_⟩ <;> omega
  ·rintro ⟨q0, q1, q2, ⟨q3, q4⟩, q5, q6⟩
   refine ⟨q0, q1, ?_, ?_⟩ <;> omega
 ·rename_i g
  refine ⟨fun q => by simp at q, ?_⟩
  rintro ⟨q0, q1, q2, ⟨q3, q4⟩, q5, q6⟩
  exfalso
  apply g
  refine ⟨q2, ?_⟩
  omega
def allHrs (l : List S144) (m f t : Int) : List S79 := l.flatMap fun x => runHrs x m f t
theorem allHrs_mem {l : List S144} {m f t : Int} {y : S79} : y ∈ allHrs l m f t ↔ y.f0 = 3 ∧ y.f1 = m ∧ (f ≤ y.f2 ∧ y.f2 ≤ t) ∧ covered l m y.f2 := by
 unfold allHrs covered
 rw [List.mem_flatMap]
 constructor
 ·rintro ⟨x, hx, hy⟩
  obtain ⟨q0, q1, q2, q3, q4⟩ := runHrs_mem.1 hy
  exact ⟨q0, q1, q3, x, hx, q2, q4⟩
 ·rintro ⟨q0, q1, q2, x, hx, q3, q4⟩
  exact ⟨x, hx, runHrs_mem.2 ⟨q0, q1, q3, q2, q4⟩⟩
theorem runKeys_mem {x : S144} {m f t : Int} {y : S79} : y ∈ runKeys x m f t ↔ (meetsR x m f t ∧ (y = ⟨1, 0, x.f3⟩ ∨ y = ⟨2, 0, x.f4⟩)) ∨ y ∈ runHrs x m f t := by
 unfold runKeys runHrs
 by_cases g : meetsR x m f t
 ·have e1 : hoursR x m f t = (mx x.f1 f, mn x.f2 t) := by unfold hoursR; rw [if_pos g.1]
  have g2 := g.2
  have g1 := g.1
  rw [e1, if_pos g, if_neg (by show ¬ mx x.f1 f > mn x.f2 t; omega), List.mem_append]
  dsimp only
  rw [g1]
  simp [g]
 ·rw [if_neg g]
  have g2 : (hoursR x m f t).1 > (hoursR x m f t).2 := by
   unfold hoursR
   split
   ·rename_i e
    show mx x.f1 f > mn x.f2 t
    have : ¬ mx x.f1 f ≤ mn x.f2 t := fun q => g ⟨e, q⟩
    omega
   ·show (1 : Int) > 0
    omega
  rw [if_pos g2]
  simp [g]
theorem allKeys_mem {l : List S144} {m f t : Int} {y : S79} : y ∈ allKeys l m f t ↔ (∃ x ∈ l, meetsR x m f t ∧ (y = ⟨1, 0, x.f3⟩ ∨ y = ⟨2, 0, x.f4⟩)) ∨ y ∈ allHrs l m f t := by
 unfold allKeys allHrs
 rw [List.mem_flatMap, List.mem_flatMap]
 constructor
 ·rintro ⟨x, hx, hy⟩
  rcases runKeys_mem.1 hy with q | q
  ·exact .inl ⟨x, hx, q⟩
  ·exact .inr ⟨x, hx, q⟩
 ·rintro (⟨x, hx, q⟩ | ⟨x, hx, q⟩)
  ·exact ⟨x, hx, runKeys_mem.2 (.inl q)⟩
  ·exact ⟨x, hx, runKeys_mem.2 (.inr q)⟩
end Go.Proofs.Ytiaiecfnpompcaa.T
namespace Go.Proofs.Ytiaiecfnpompcaa.T
open Go.RowKit Go.Proofs.YtiaiecfnpompcaaW.PrintWords
set_option linter.unusedVariables false
set_option linter.unusedSimpArgs false
theorem idx1 {i : Nat} (h : i ≤ 1000000) : wrap64 ((i : Int) + 1) = ((i + 1 : Nat) : Int) := by rw [wrap64_id (by omega) (by omega)]; rfl
theorem rd144_get {l : List S144} {i : Nat} (h : i < l.length) : rd_T144 l i = l[i] := by simp [rd_T144, h]
section
variable {l : List S144} {m f t : Int} (hlen : l.length ≤ 60) (hok : ∀ x ∈ l, okRun x) (hap : l.Pairwise apart) (hl : okLot m f t)
end
end Go.Proofs.Ytiaiecfnpompcaa.T
namespace Go.Proofs.Ytiaiecfnpompcaa.T
open Go.RowKit Go.Proofs.YtiaiecfnpompcaaW.PrintWords
set_option linter.unusedVariables false
set_option linter.unusedSimpArgs false
instance (x y : S144) : Decidable (apart x y) := by unfold apart; infer_instance
def chkF : List S144 → List S144 → Int
 | _, [] => 0
 | b, x :: r => if ¬ okRun x then 2 else if ∃ y ∈ b, ¬ apart y x then 6 else chkF (b ++ [x]) r
theorem chkF_zero : ∀ (r b : List S144), (∀ y ∈ b, okRun y) → b.Pairwise apart → chkF b r = 0 → (∀ y ∈ b ++ r, okRun y) ∧ (b ++ r).Pairwise apart
 | [], b, hb, hp, _ => by rw [List.append_nil]; exact ⟨hb, hp⟩
 | x :: r, b, hb, hp, h => by
  unfold chkF at h
  split at h
  ·cases h
  ·rename_i g1
   have g1 := Classical.not_not.1 g1
   split at h
   ·cases h
   ·rename_i g2
    have h1 : ∀ y ∈ b ++ [x], okRun y := by
     intro y hy
     rcases List.mem_append.1 hy with q | q
     ·exact hb y q
     ·rw [List.mem_singleton] at q; subst q; exact g1
    have h2 : (b ++ [x]).Pairwise apart := by
     rw [List.pairwise_append]
     refine ⟨hp, by simp, fun y hy z hz => ?_⟩
     rw [List.mem_singleton] at hz; subst hz
     exact Classical.byContradiction fun q => g2 ⟨y, hy, q⟩
    have := chkF_zero r (b ++ [x]) h1 h2 h
    rwa [List.append_assoc] at this
theorem isNumber3_eq (x y z : Int) : mill_isNumber.f [x, y, z] = some (decide ((0 ≤ x ∧ x ≤ 1000) ∧ (0 ≤ y ∧ y ≤ 1000) ∧ 0 ≤ z ∧ z ≤ 1000)) := by
 have h1 := within_one 0 1000 x
 have h2 := within_two 0 1000 y z
 unfold mill_isNumber.f
 unfold mill_within.f at *
 simp only [Option.some.injEq, List.any_cons, List.any_nil, Bool.or_false, Option.bind_some] at *
 rw [Bool.not_or, h1, h2]
 by_cases g1 : 0 ≤ x ∧ x ≤ 1000 <;> by_cases g2 : (0 ≤ y ∧ y ≤ 1000) ∧ 0 ≤ z ∧ z ≤ 1000 <;> simp [g1, g2]
theorem isValid_eq (x : S144) : mill_run_isValid.f x.f0 x.f1 x.f2 x.f3 x.f4 = some (decide (okRun x)) := by
 unfold mill_run_isValid.f
 rw [isNumber3_eq, areHours_eq]
 simp only [Option.bind_some, decide_eq_true_eq]
 split
 ·congr 1; apply decide_eq_decide.2; unfold okRun; omega
 ·congr 1; symm; rw [decide_eq_false_iff_not]; unfold okRun; omega
theorem hours_apart {x y : S144} (hx : okRun x) (hy : okRun y) : (hoursR y x.f0 x.f1 x.f2).1 ≤ (hoursR y x.f0 x.f1 x.f2).2 ↔ ¬ apart y x := by
 obtain ⟨_, _, _, h1, h2, h3⟩ := hx
 obtain ⟨_, _, _, g1, g2, g3⟩ := hy
 have a1 := @mx_le y.f1 x.f1
 have a2 := @mn_le y.f2 x.f2
 unfold apart hoursR
 split
 ·dsimp only; omega
 ·dsimp only; omega
theorem mcheck_l1 {l : List S144} {i K : Nat} {x : S144} {v : Int} (hx : okRun x) (hb : ∀ y ∈ l.take i, okRun y) (hlen : l.length ≤ 1000)
  (hv : ∀ k, K ≤ k → mill_Check.l0 k l l (l.length : Int) (wrap64 ((i : Int) + 1)) = some v) :
  ∀ (r b : List S144), l.take i = b ++ r → ∀ k, K + r.length + 1 ≤ k → mill_Check.l1 k l l (l.length : Int) i (l.take i) ((l.take i).length : Int) (b.length : Int) x.f0 x.f1 x.f2 x.f3 x.f4 = some (if ∃ y ∈ r, ¬ apart y x then 6 else v)
 | [], b, e, k, hk => by
  rw [List.append_nil] at e
  obtain ⟨k, rfl⟩ : ∃ k', k = k' + 1 := ⟨k - 1, by omega⟩
  have q : ¬ (b.length : Int) < ((l.take i).length : Int) := by rw [e]; omega
  simp only [mill_Check.l1, if_neg q]
  rw [hv k (by omega), if_neg (by simp)]
 | y :: r, b, e, k, hk => by
  rw [List.length_cons] at hk
  obtain ⟨k, rfl⟩ : ∃ k', k = k' + 1 := ⟨k - 1, by omega⟩
  have hbl : b.length < (l.take i).length := by rw [e]; simp
  have hbl2 : (l.take i).length ≤ l.length := by simp; omega
  have q : (b.length : Int) < ((l.take i).length : Int) := by omega
  have q2 : (0 : Int) ≤ (b.length : Int) := by omega
  have hy : (l.take i)[b.length] = y := by simp only [e]; simp
  have hyk : okRun y := hb y (by rw [e]; simp)
  have ih := mcheck_l1 hx hb hlen hv r (b ++ [y]) (by rw [e, List.append_assoc]; rfl) k (by omega)
  have e1 : ((b ++ [y]).length : Int) = ((b.length + 1 : Nat) : Int) := by simp
  rw [e1] at ih
  have ha := hours_apart hx hyk
  simp only [mill_Check.l1, if_pos q, if_pos q2, rd144_get hbl, hy, runHours_eq, Option.bind_some, idx1 (show b.length ≤ 1000000 by omega)]
  by_cases g : apart y x
  ·have g2 : ¬ (hoursR y x.f0 x.f1 x.f2).1 ≤ (hoursR y x.f0 x.f1 x.f2).2 := fun q => ha.1 q g
   rw [if_neg g2, ih]
   simp [g]
  ·rw [if_pos (ha.2 g), if_pos ⟨y, by simp, g⟩]
theorem mcheck_l0 {l : List S144} (hlen : l.length ≤ 1000) : ∀ (r b : List S144), l = b ++ r → (∀ y ∈ b, okRun y) → ∀ k, r.length * (l.length + 2) + 1 ≤ k → mill_Check.l0 k l l (l.length : Int) (b.length : Int) = some (chkF b r)
 | [], b, e, hb, k, hk => by
  rw [List.append_nil] at e
  subst e
  obtain ⟨k, rfl⟩ : ∃ k', k = k' + 1 := ⟨k - 1, by omega⟩
  have q : ¬ (l.length : Int) < (l.length : Int) := by omega
  simp only [mill_Check.l0, if_neg q, chkF]
 | x :: r, b, e, hb, k, hk => by
  rw [List.length_cons] at hk
  have hbl : b.length < l.length := by rw [e]; simp
  have hk2 : r.length * (l.length + 2) + 1 + b.length + 2 ≤ k := by
   have : (r.length + 1) * (l.length + 2) = r.length * (l.length + 2) + (l.length + 2) := by rw [Nat.add_mul, Nat.one_mul]
   omega
  obtain ⟨k, rfl⟩ : ∃ k', k = k' + 1 := ⟨k - 1, by omega⟩
  have q : (b.length : Int) < (l.length : Int) := by omega
  have q2 : (0 : Int) ≤ (b.length : Int) := by omega
  have q3 : (b.length : Int) ≤ (l.length : Int) := by omega
  have hx : l[b.length] = x := by simp only [e]; simp
  simp only [mill_Check.l0, if_pos q, if_pos q2, rd144_get hbl, hx, isValid_eq, Option.bind_some, decide_eq_true_eq, if_pos q3, Int.toNat_natCast]
  unfold chkF
  by_cases g : okRun x
  ·have htk : l.take b.length = b := by rw [e]; simp
   have hb1 : ∀ y ∈ b ++ [x], okRun y := by
    intro y hy
    rcases List.mem_append.1 hy with q | q
    ·exact hb y q
    ·rw [List.mem_singleton] at q; subst q; exact g
   have e1 : ((b ++ [x]).length : Int) = ((b.length + 1 : Nat) : Int) := by simp
   have ih := mcheck_l0 hlen r (b ++ [x]) (by rw [e, List.append_assoc]; rfl) hb1
   rw [e1] at ih
   have := mcheck_l1 (l := l) (i := b.length) (v := chkF (b ++ [x]) r) g (by rw [htk]; exact hb) hlen (by intro k2 hk2; rw [idx1 (by omega)]; exact ih k2 hk2) b [] (by rw [htk]; rfl) k (by omega)
   rw [if_pos g, if_neg (fun q => q g)]
   exact this
  ·rw [if_neg g, if_pos g]
def chk (l : List S144) : Int := if l.length > 60 then 5 else chkF [] l
theorem mcheck_eq {l : List S144} (h : l.length ≤ 12 ∨ 60 < l.length) {k : Nat} (hk : 169 ≤ k) : mill_Check.f k l = some (chk l) := by
 unfold mill_Check.f chk
 rcases h with h | h
 ·rw [if_neg (by omega), if_neg (by omega)]
  refine mcheck_l0 (l := l) (by omega) l [] rfl (by simp) k ?_
  have : l.length * (l.length + 2) ≤ 12 * (12 + 2) := Nat.mul_le_mul h (by omega)
  omega
 ·rw [if_pos (by omega), if_pos h]
end Go.Proofs.Ytiaiecfnpompcaa.T
