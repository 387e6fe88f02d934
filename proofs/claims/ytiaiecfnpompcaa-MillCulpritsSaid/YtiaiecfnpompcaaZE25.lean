-- cut down, squeezed and laid together by pack.py (a program of this repository) out of this seat's texts
import Derived.WalkKit
import Derived.MapKept
import Derived.RangeFuncNested
import Derived.RangeFuncBound
import Derived.RangeFuncCalls
import Derived.RangeFuncLeaves
import Derived.Shelf.Abstract
import Derived.Shelf.RegionOpen
import Derived.OwnWalkIn
import Derived.TacticsInMore
import Derived.LoopNIn
import Derived.LoopIn
import Derived.ChangeKeysEq
import Derived.ProofKit
import Derived.OpenShut
import Derived.ShutString
import Derived.ChangeOld
import Derived.Below
import Derived.SizedLaws
import Derived.Carry
import Derived.Test.YtiaiecfnpompcaaRows
import Derived.Test.YtiaiecfnpompcaaZE21
import Derived.Test.YtiaiecfnpompcaaZE23
import Derived.Test.YtiaiecfnpompcaaZE18
import Derived.Test.YtiaiecfnpompcaaZE2
import Derived.Test.YtiaiecfnpompcaaZE16
import Derived.Test.YtiaiecfnpompcaaZE10
import Derived.Test.YtiaiecfnpompcaaZE13
import Derived.Test.YtiaiecfnpompcaaZE17
import Derived.Test.YtiaiecfnpompcaaZE22
import Derived.Test.YtiaiecfnpompcaaZE3
import Derived.Test.YtiaiecfnpompcaaZE9
import Derived.Test.YtiaiecfnpompcaaZE4
import Derived.Test.YtiaiecfnpompcaaZE12
import Derived.Test.YtiaiecfnpompcaaZE8
import Derived.Test.YtiaiecfnpompcaaZE6
import Derived.Test.YtiaiecfnpompcaaZE7
import Derived.Test.YtiaiecfnpompcaaZE11
import Derived.Test.YtiaiecfnpompcaaZE5
import Derived.Test.YtiaiecfnpompcaaZE1
import Derived.Test.YtiaiecfnpompcaaZE14
import Derived.Test.YtiaiecfnpompcaaZE15
import Derived.Test.YtiaiecfnpompcaaZE19
import Derived.Test.YtiaiecfnpompcaaZE20
import Derived.Test.YtiaiecfnpompcaaZE24
namespace Go.Proofs.Ytiaiecfnpompcaa.T
open Go.RowKit Go.Proofs.YtiaiecfnpompcaaW.PrintWords
set_option linter.unusedVariables false
set_option linter.unusedSimpArgs false
def addR : List S79 → S79 → List S79
 | [], c => [c]
 | x :: xs, c => if lt79 x c = true then x :: addR xs c else if x = c then x :: xs else c :: x :: xs
theorem lt79_tr {x y z : S79} (h1 : lt79 x y = true) (h2 : lt79 y z = true) : lt79 x z = true := by
 rw [lt79_iff] at *; omega
theorem lt79_ne {x y : S79} (h1 : lt79 x y = true) : x ≠ y := by
 intro e; subst e; rw [lt79_iff] at h1; omega
theorem lt79_tri {x y : S79} (h1 : ¬ lt79 x y = true) (h2 : x ≠ y) : lt79 y x = true := by
 rw [lt79_iff] at *
 cases x with | mk a b c =>
 cases y with | mk d e f =>
 dsimp only at *
 have h3 : ¬ (a = d ∧ b = e ∧ c = f) := by
  rintro ⟨rfl, rfl, rfl⟩; exact h2 rfl
 omega
theorem addR_mem (c y : S79) : ∀ xs : List S79, y ∈ addR xs c ↔ y ∈ xs ∨ y = c
 | [] => by simp [addR]
 | x :: xs => by
  have ih := addR_mem c y xs
  unfold addR
  split
  ·rw [List.mem_cons, ih, List.mem_cons]
   constructor
   ·rintro (q | q | q)
    ·exact .inl (.inl q)
    ·exact .inl (.inr q)
    ·exact .inr q
   ·rintro ((q | q) | q)
    ·exact .inl q
    ·exact .inr (.inl q)
    ·exact .inr (.inr q)
  ·split
   ·rename_i e
    exact ⟨.inl, fun q => q.elim id (fun q => by rw [q, ← e]; simp)⟩
   ·rw [List.mem_cons]
    exact ⟨fun q => q.symm, fun q => q.symm⟩
def Srt (l : List S79) : Prop := l.Pairwise fun x y => lt79 x y = true
theorem addR_srt (c : S79) : ∀ {xs : List S79}, Srt xs → Srt (addR xs c)
 | [], _ => by simp [addR, Srt]
 | x :: xs, h => by
  obtain ⟨h1, h2⟩ := List.pairwise_cons.1 h
  unfold addR
  split
  ·rename_i g
   refine List.pairwise_cons.2 ⟨fun y hy => ?_, addR_srt c h2⟩
   rcases (addR_mem c y xs).1 hy with q | q
   ·exact h1 y q
   ·rw [q]; exact g
  ·rename_i g
   split
   ·exact h
   ·rename_i g2
    have g3 := lt79_tri g g2
    refine List.pairwise_cons.2 ⟨fun y hy => ?_, h⟩
    rcases List.mem_cons.1 hy with q | q
    ·rw [q]; exact g3
    ·exact lt79_tr g3 (h1 y q)
theorem Srt.nodup {l : List S79} (h : Srt l) : l.Nodup := List.Pairwise.imp (fun h => lt79_ne h) h
theorem srt_sortC {L ks : List S79} (h : Srt L) (hm : ∀ y, y ∈ L ↔ y ∈ ks) : sortC ks = L ∧ (distinctC ks).length = L.length := by
 obtain ⟨q1, q2⟩ := distinctC_spec ks [] (by simp)
 have hp : (distinctC ks).Perm L := (List.perm_ext_iff_of_nodup q1 h.nodup).2 fun y => by rw [q2, hm]; simp
 refine ⟨?_, hp.length_eq⟩
 unfold sortC
 rw [sort79_perm hp]
 refine List.mergeSort_of_pairwise (List.Pairwise.imp (fun {a b} g => ?_) h)
 rw [Bool.not_eq_true']
 rw [← Bool.not_eq_true]
 intro g2
 rw [lt79_iff] at g g2
 omega
def meetsR (x : S144) (m f t : Int) : Prop := x.f0 = m ∧ mx x.f1 f ≤ mn x.f2 t
instance (x : S144) (m f t : Int) : Decidable (meetsR x m f t) := by unfold meetsR; infer_instance
def outStep (m f t : Int) (acc : List S79) (x : S144) : List S79 := if meetsR x m f t then addR (addR acc ⟨1, 0, x.f3⟩) ⟨2, 0, x.f4⟩ else acc
def outR (l : List S144) (m f t : Int) : List S79 := l.foldl (outStep m f t) []
def hrsOf (x : S144) (m f t : Int) : Int := if meetsR x m f t then mn x.f2 t - mx x.f1 f + 1 else 0
def hrs (l : List S144) (m f t : Int) : Int := (l.map fun x => hrsOf x m f t).sum
theorem outR_spec (m f t : Int) : ∀ (l : List S144) (acc : List S79), Srt acc → Srt (l.foldl (outStep m f t) acc) ∧ ∀ y, y ∈ l.foldl (outStep m f t) acc ↔ y ∈ acc ∨ ∃ x ∈ l, meetsR x m f t ∧ (y = ⟨1, 0, x.f3⟩ ∨ y = ⟨2, 0, x.f4⟩)
 | [], acc, h => ⟨h, by simp⟩
 | x :: l, acc, h => by
  by_cases g : meetsR x m f t
  ·obtain ⟨h1, h2⟩ := outR_spec m f t l (outStep m f t acc x) (by unfold outStep; rw [if_pos g]; exact addR_srt _ (addR_srt _ h))
   refine ⟨h1, fun y => ?_⟩
   rw [List.foldl_cons, h2]
   unfold outStep
   rw [if_pos g, addR_mem, addR_mem]
   constructor
   ·rintro (((q | q) | q) | ⟨z, hz, q⟩)
    ·exact .inl q
    ·exact .inr ⟨x, by simp, g, .inl q⟩
    ·exact .inr ⟨x, by simp, g, .inr q⟩
    ·exact .inr ⟨z, by simp [hz], q⟩
   ·rintro (q | ⟨z, hz, g2, q⟩)
    ·exact .inl (.inl (.inl q))
    ·rcases List.mem_cons.1 hz with e | hz
     ·subst e
      rcases q with q | q
      ·exact .inl (.inl (.inr q))
      ·exact .inl (.inr q)
     ·exact .inr ⟨z, hz, g2, q⟩
  ·obtain ⟨h1, h2⟩ := outR_spec m f t l (outStep m f t acc x) (by unfold outStep; rw [if_neg g]; exact h)
   refine ⟨h1, fun y => ?_⟩
   rw [List.foldl_cons, h2]
   unfold outStep
   rw [if_neg g]
   constructor
   ·rintro (q | ⟨z, hz, q⟩)
    ·exact .inl q
    ·exact .inr ⟨z, by simp [hz], q⟩
   ·rintro (q | ⟨z, hz, g2, q⟩)
    ·exact .inl q
    ·rcases List.mem_cons.1 hz with e | hz
     ·subst e; exact absurd g2 g
     ·exact .inr ⟨z, hz, g2, q⟩
def apart (x y : S144) : Prop := ¬ (x.f0 = y.f0 ∧ x.f1 ≤ y.f2 ∧ y.f1 ≤ x.f2)
def covered (l : List S144) (m h : Int) : Prop := ∃ x ∈ l, x.f0 = m ∧ x.f1 ≤ h ∧ h ≤ x.f2
instance (l : List S144) (m h : Int) : Decidable (covered l m h) := by unfold covered; infer_instance
def hourL (l : List S144) (m a : Int) : Nat → List S79
 | 0 => []
 | n + 1 => hourL l m a n ++ if covered l m (a + (n : Int)) then [⟨3, m, a + (n : Int)⟩] else []
theorem hourL_mem {l : List S144} {m a : Int} {y : S79} : ∀ {n : Nat}, y ∈ hourL l m a n ↔ y.f0 = 3 ∧ y.f1 = m ∧ a ≤ y.f2 ∧ y.f2 < a + n ∧ covered l m y.f2
 | 0 => by simp [hourL]; omega
 | n + 1 => by
  rw [hourL, List.mem_append, hourL_mem]
  constructor
  ·rintro (q | q)
   ·exact ⟨q.1, q.2.1, q.2.2.1, by omega, q.2.2.2.2⟩
   ·split at q
    ·rename_i g
     rw [List.mem_singleton] at q
     subst q
     exact ⟨rfl, rfl, by show a ≤ a + (n : Int); omega, by show a + (n : Int) < a + ((n + 1 : Nat) : Int); omega, g⟩
    ·simp at q
  ·rintro ⟨q0, q1, q2, q3, q4⟩
   by_cases e : y.f2 = a + (n : Int)
   ·right
    rw [← e, if_pos q4, List.mem_singleton]
    cases y; simp_all
   ·left
    exact ⟨q0, q1, q2, by omega, q4⟩
theorem hourL_srt {l : List S144} {m a : Int} : ∀ {n : Nat}, Srt (hourL l m a n)
 | 0 => by simp [hourL, Srt]
 | n + 1 => by
  rw [hourL]
  unfold Srt
  rw [List.pairwise_append]
  refine ⟨hourL_srt, by split <;> simp, fun x hx y hy => ?_⟩
  split at hy
  ·rw [List.mem_singleton] at hy
   subst hy
   obtain ⟨p0, p1, p2, p3, p4⟩ := hourL_mem.1 hx
   rw [lt79_iff]
   right
   refine ⟨p0, .inr ⟨p1, ?_⟩⟩
   show x.f2 < a + (n : Int)
   omega
  ·simp at hy
theorem hourKeys_mem' {m a : Int} {y : S79} : ∀ {n : Nat}, y ∈ hourKeys m a n ↔ y.f0 = 3 ∧ y.f1 = m ∧ a ≤ y.f2 ∧ y.f2 < a + n
 | 0 => by simp [hourKeys]
 | n + 1 => by
  rw [hourKeys, List.mem_append, hourKeys_mem', List.mem_singleton]
  constructor
  ·rintro (q | q)
   ·exact ⟨q.1, q.2.1, q.2.2.1, by omega⟩
   ·subst q
    exact ⟨rfl, rfl, by show a ≤ a + (n : Int); omega, by show a + (n : Int) < a + ((n + 1 : Nat) : Int); omega⟩
  ·rintro ⟨q0, q1, q2, q3⟩
   by_cases e : y.f2 = a + (n : Int)
   ·right
    rw [← e]
    cases y; simp_all
   ·left
    exact ⟨q0, q1, q2, by omega⟩
theorem hourKeys_nodup {m a : Int} : ∀ {n : Nat}, (hourKeys m a n).Nodup
 | 0 => by simp [hourKeys]
 | n + 1 => by
  rw [hourKeys, List.nodup_append]
  refine ⟨hourKeys_nodup, by simp, fun x hx y hy e => ?_⟩
  rw [List.mem_singleton] at hy
  subst hy
  subst e
  have := (hourKeys_mem'.1 hx).2.2.2
  dsimp only at this
  omega
def runHrs (x : S144) (m f t : Int) : List S79 := if meetsR x m f t then hourKeys m (mx x.f1 f) (mn x.f2 t + 1 - mx x.f1 f).toNat else []
theorem runHrs_mem {x : S144} {m f t : Int} {y : S79} : y ∈ runHrs x m f t ↔ y.f0 = 3 ∧ y.f1 = m ∧ x.f0 = m ∧ (f ≤ y.f2 ∧ y.f2 ≤ t) ∧ x.f1 ≤ y.f2 ∧ y.f2 ≤ x.f2 := by
 have a1 := @mx_le x.f1 f
 have a2 := @mn_le x.f2 t
 unfold runHrs
 split
 ·rename_i g
  obtain ⟨g1, g2⟩ := g
  rw [hourKeys_mem']
  constructor
  ·rintro ⟨q0, q1, q2, q3⟩
   refine ⟨q0, q1, g1, ⟨?_, ?_⟩, ?_, ?_⟩ <;> omega
  ·rintro ⟨q0, q1, q2, ⟨q3, q4⟩, q5, q6⟩
   refine ⟨q0, q1, ?_, ?_⟩ <;> omega
 ·rename_i g
  refine ⟨fun q => by simp at q, ?_⟩
  rintro ⟨q0, q1, q2, ⟨q3, q4⟩, q5, q6⟩
  exfalso
  apply g
  refine ⟨q2, ?_⟩
  omega
theorem runHrs_len {x : S144} {m f t : Int} : ((runHrs x m f t).length : Int) = hrsOf x m f t := by
 unfold runHrs hrsOf
 split
 ·rename_i g
  rw [hourKeys_len]
  have := g.2
  omega
 ·rfl
def allHrs (l : List S144) (m f t : Int) : List S79 := l.flatMap fun x => runHrs x m f t
theorem allHrs_len (m f t : Int) : ∀ l : List S144, ((allHrs l m f t).length : Int) = hrs l m f t
 | [] => rfl
 | x :: l => by
  have ih := allHrs_len m f t l
  have e : allHrs (x :: l) m f t = runHrs x m f t ++ allHrs l m f t := rfl
  have e2 : hrs (x :: l) m f t = hrsOf x m f t + hrs l m f t := by unfold hrs; rw [List.map_cons, List.sum_cons]
  rw [e, List.length_append, e2, ← ih, ← runHrs_len]
  omega
theorem allHrs_mem {l : List S144} {m f t : Int} {y : S79} : y ∈ allHrs l m f t ↔ y.f0 = 3 ∧ y.f1 = m ∧ (f ≤ y.f2 ∧ y.f2 ≤ t) ∧ covered l m y.f2 := by
 unfold allHrs covered
 rw [List.mem_flatMap]
 constructor
 ·rintro ⟨x, hx, hy⟩
  obtain ⟨q0, q1, q2, q3, q4⟩ := runHrs_mem.1 hy
  exact ⟨q0, q1, q3, x, hx, q2, q4⟩
 ·rintro ⟨q0, q1, q2, x, hx, q3, q4⟩
  exact ⟨x, hx, runHrs_mem.2 ⟨q0, q1, q3, q2, q4⟩⟩
theorem allHrs_nodup (m f t : Int) : ∀ {l : List S144}, l.Pairwise apart → (allHrs l m f t).Nodup
 | [], _ => by simp [allHrs]
 | x :: l, h => by
  obtain ⟨h1, h2⟩ := List.pairwise_cons.1 h
  have e : allHrs (x :: l) m f t = runHrs x m f t ++ allHrs l m f t := rfl
  rw [e, List.nodup_append]
  refine ⟨by unfold runHrs; split; exact hourKeys_nodup; simp, allHrs_nodup m f t h2, fun y hy z hz e => ?_⟩
  subst e
  obtain ⟨p0, p1, p2, p3, p4, p5⟩ := runHrs_mem.1 hy
  obtain ⟨q0, q1, q3, w, hw, q4, q5, q6⟩ := allHrs_mem.1 hz
  exact h1 w hw ⟨by omega, by omega, by omega⟩
theorem hourL_len {l : List S144} {m f t : Int} (h : l.Pairwise apart) (hft : f ≤ t) : ((hourL l m f (t + 1 - f).toNat).length : Int) = hrs l m f t := by
 rw [← allHrs_len]
 have hp : (hourL l m f (t + 1 - f).toNat).Perm (allHrs l m f t) := (List.perm_ext_iff_of_nodup hourL_srt.nodup (allHrs_nodup m f t h)).2 fun y => by
  rw [hourL_mem, allHrs_mem]
  constructor
  ·rintro ⟨q0, q1, q2, q3, q4⟩; exact ⟨q0, q1, ⟨q2, by omega⟩, q4⟩
  ·rintro ⟨q0, q1, ⟨q2, q3⟩, q4⟩; exact ⟨q0, q1, q2, by omega, q4⟩
 rw [hp.length_eq]
theorem runKeys_mem {x : S144} {m f t : Int} {y : S79} : y ∈ runKeys x m f t ↔ (meetsR x m f t ∧ (y = ⟨1, 0, x.f3⟩ ∨ y = ⟨2, 0, x.f4⟩)) ∨ y ∈ runHrs x m f t := by
 unfold runKeys runHrs
 by_cases g : meetsR x m f t
 ·have e1 : hoursR x m f t = (mx x.f1 f, mn x.f2 t) := by unfold hoursR; rw [if_pos g.1]
  have g2 := g.2
  have g1 := g.1
  rw [e1, if_pos g, if_neg (by show ¬ mx x.f1 f > mn x.f2 t; omega), List.mem_append]
  dsimp only
  rw [g1]
  simp [g]
 ·rw [if_neg g]
  have g2 : (hoursR x m f t).1 > (hoursR x m f t).2 := by
   unfold hoursR
   split
   ·rename_i e
    show mx x.f1 f > mn x.f2 t
    have : ¬ mx x.f1 f ≤ mn x.f2 t := fun q => g ⟨e, q⟩
    omega
   ·show (1 : Int) > 0
    omega
  rw [if_pos g2]
  simp [g]
theorem allKeys_mem {l : List S144} {m f t : Int} {y : S79} : y ∈ allKeys l m f t ↔ (∃ x ∈ l, meetsR x m f t ∧ (y = ⟨1, 0, x.f3⟩ ∨ y = ⟨2, 0, x.f4⟩)) ∨ y ∈ allHrs l m f t := by
 unfold allKeys allHrs
 rw [List.mem_flatMap, List.mem_flatMap]
 constructor
 ·rintro ⟨x, hx, hy⟩
  rcases runKeys_mem.1 hy with q | q
  ·exact .inl ⟨x, hx, q⟩
  ·exact .inr ⟨x, hx, q⟩
 ·rintro (⟨x, hx, q⟩ | ⟨x, hx, q⟩)
  ·exact ⟨x, hx, runKeys_mem.2 (.inl q)⟩
  ·exact ⟨x, hx, runKeys_mem.2 (.inr q)⟩
def refCs (l : List S144) (m f t : Int) : List S79 := outR l m f t ++ hourL l m f (t + 1 - f).toNat
theorem refCs_srt {l : List S144} {m f t : Int} : Srt (refCs l m f t) := by
 obtain ⟨h1, h2⟩ := outR_spec m f t l [] (by simp [Srt])
 unfold refCs Srt
 rw [List.pairwise_append]
 refine ⟨h1, hourL_srt, fun x hx y hy => ?_⟩
 rcases (h2 x).1 hx with q | ⟨z, hz, g, q⟩
 ·simp at q
 ·have p0 := (hourL_mem.1 hy).1
  rw [lt79_iff]
  left
  rcases q with q | q <;> rw [q, p0]
  ·show (1 : Int) < 3; omega
  ·show (2 : Int) < 3; omega
theorem refCs_mem {l : List S144} {m f t : Int} (hft : f ≤ t) (y : S79) : y ∈ refCs l m f t ↔ y ∈ allKeys l m f t := by
 obtain ⟨h1, h2⟩ := outR_spec m f t l [] (by simp [Srt])
 unfold refCs outR
 rw [List.mem_append, h2, allKeys_mem, hourL_mem, allHrs_mem]
 constructor
 ·rintro ((q | q) | q)
  ·simp at q
  ·exact .inl q
  ·exact .inr ⟨q.1, q.2.1, ⟨q.2.2.1, by omega⟩, q.2.2.2.2⟩
 ·rintro (q | q)
  ·exact .inl (.inr q)
  ·exact .inr ⟨q.1, q.2.1, q.2.2.1.1, by omega, q.2.2.2⟩
theorem refCs_len {l : List S144} {m f t : Int} (h : l.Pairwise apart) (hft : f ≤ t) : ((refCs l m f t).length : Int) = (outR l m f t).length + hrs l m f t := by
 unfold refCs
 rw [List.length_append, ← hourL_len h hft]
 omega
theorem sortC_ref {l : List S144} {m f t : Int} (hft : f ≤ t) : sortC (allKeys l m f t) = refCs l m f t ∧ (distinctC (allKeys l m f t)).length = (refCs l m f t).length :=
 srt_sortC refCs_srt (refCs_mem hft)
theorem hrsOf_nonneg {x : S144} {m f t : Int} : 0 ≤ hrsOf x m f t := by
 unfold hrsOf
 split
 ·rename_i g; have := g.2; omega
 ·omega
theorem hrs_nonneg (m f t : Int) : ∀ l : List S144, 0 ≤ hrs l m f t
 | [] => by simp [hrs]
 | x :: l => by
  have e2 : hrs (x :: l) m f t = hrsOf x m f t + hrs l m f t := by unfold hrs; rw [List.map_cons, List.sum_cons]
  have := hrs_nonneg m f t l
  have := @hrsOf_nonneg x m f t
  omega
theorem hrs_ge {x : S144} {m f t : Int} : ∀ {l : List S144}, x ∈ l → hrsOf x m f t ≤ hrs l m f t
 | y :: l, h => by
  have e2 : hrs (y :: l) m f t = hrsOf y m f t + hrs l m f t := by unfold hrs; rw [List.map_cons, List.sum_cons]
  have := hrs_nonneg m f t l
  have := @hrsOf_nonneg y m f t
  rcases List.mem_cons.1 h with q | q
  ·subst q; omega
  ·have := hrs_ge (m := m) (f := f) (t := t) q; omega
theorem longRun_hrs {x : S144} {m f t : Int} (h : longRun x m f t) : 1000 < hrsOf x m f t := by
 unfold longRun hoursR at h
 unfold hrsOf
 by_cases e : x.f0 = m
 ·rw [if_pos e] at h
  dsimp only at h
  rw [if_pos (show meetsR x m f t from ⟨e, h.1⟩)]
  omega
 ·rw [if_neg e] at h
  dsimp only at h
  omega
def addAt : List S79 → S79 → Nat
 | [], _ => 0
 | x :: xs, c => if lt79 x c = true then addAt xs c + 1 else 0
def hasAt (xs : List S79) (c : S79) : Bool := decide (xs[addAt xs c]? = some c)
theorem addAt_le (c : S79) : ∀ xs : List S79, addAt xs c ≤ xs.length
 | [] => Nat.le_refl _
 | x :: xs => by
  have := addAt_le c xs
  unfold addAt
  split
  ·rw [List.length_cons]; omega
  ·omega
theorem addAt_lt (c : S79) : ∀ (xs : List S79) (i : Nat) (hi : i < xs.length), i ≤ addAt xs c → (lt79 xs[i] c = true ↔ i < addAt xs c)
 | [], i, hi, _ => by simp at hi
 | x :: xs, 0, hi, h => by
  unfold addAt
  split
  ·rename_i g; simp [g]
  ·rename_i g; simp [g]
 | x :: xs, i + 1, hi, h => by
  unfold addAt at h ⊢
  split at h
  ·rename_i g
   rw [if_pos g]
   rw [List.length_cons] at hi
   have := addAt_lt c xs i (by omega) (by omega)
   rw [List.getElem_cons_succ, this]
   omega
  ·omega
theorem addR_eq (c : S79) : ∀ xs : List S79, addR xs c = if hasAt xs c = true then xs else (xs.take (addAt xs c) ++ [c]) ++ xs.drop (addAt xs c)
 | [] => by simp [addR, hasAt, addAt]
 | x :: xs => by
  have ih := addR_eq c xs
  unfold addR hasAt addAt
  split
  ·rw [ih, List.getElem?_cons_succ, List.take_succ_cons, List.drop_succ_cons]
   unfold hasAt
   split
   ·rfl
   ·rfl
  ·rw [List.getElem?_cons_zero]
   split
   ·rename_i e; rw [if_pos (by simp [e])]
   ·rename_i e; rw [if_neg (by simp [e])]; simp
theorem addR_len (c : S79) : ∀ xs : List S79, (addR xs c).length ≤ xs.length + 1
 | [] => Nat.le_refl _
 | x :: xs => by
  have := addR_len c xs
  unfold addR
  split
  ·rw [List.length_cons, List.length_cons]; omega
  ·split
   ·omega
   ·simp
end Go.Proofs.Ytiaiecfnpompcaa.T
namespace Go.Proofs.Ytiaiecfnpompcaa.T
open Go.RowKit Go.Proofs.YtiaiecfnpompcaaW.PrintWords
set_option linter.unusedVariables false
set_option linter.unusedSimpArgs false
theorem idx1 {i : Nat} (h : i ≤ 1000000) : wrap64 ((i : Int) + 1) = ((i + 1 : Nat) : Int) := by rw [wrap64_id (by omega) (by omega)]; rfl
theorem rd79_get {l : List S79} {i : Nat} (h : i < l.length) : rd_T79 l i = l[i] := by simp [rd_T79, h]
theorem rd144_get {l : List S144} {i : Nat} (h : i < l.length) : rd_T144 l i = l[i] := by simp [rd_T144, h]
theorem before_eq (x y : S79) : acmeref12_Before.f x.f0 x.f1 x.f2 y.f0 y.f1 y.f2 = some (lt79 x y) := by
 unfold acmeref12_Before.f lt79
 split
 ·split
  ·congr 1; apply decide_eq_decide.2; omega
  ·congr 1; apply decide_eq_decide.2; omega
 ·congr 1; apply decide_eq_decide.2; omega
theorem inC_eq (x a b : Int) : acmeref12_In.f x a b = some (decide (a ≤ x ∧ x ≤ b)) := by
 unfold acmeref12_In.f
 split <;> simp <;> omega
theorem add_tail (xs : List S79) (c : S79) (hl : xs.length ≤ 1000000) (h : hasAt xs c = false) (i : Nat) (hi : i = addAt xs c) :
  xs.take i ++ [c] ++ xs.drop i = addR xs c := by
 subst hi
 rw [addR_eq, if_neg (by rw [h]; decide)]
theorem add_loop (xs : List S79) (a b c : Int) (hl : xs.length ≤ 1000000) : ∀ (n i : Nat), n = addAt xs ⟨a, b, c⟩ - i → i ≤ addAt xs ⟨a, b, c⟩ → Ev (fun k => acmeref12_Add.l0 k xs i a b c) (addR xs ⟨a, b, c⟩) := by
 intro n
 have hle := addAt_le ⟨a, b, c⟩ xs
 induction n with
 | zero =>
  intro i hn hi
  have hia : i = addAt xs ⟨a, b, c⟩ := by omega
  refine Ev.succ (Ev.of fun k => ?_)
  by_cases hlt : i < xs.length
  ·have q : (i : Int) < (xs.length : Int) := by omega
   have q2 : (0 : Int) ≤ (i : Int) := by omega
   have q3 : (i : Int) ≤ (xs.length : Int) := by omega
   have hb : lt79 xs[i] ⟨a, b, c⟩ = false := by
    have := addAt_lt ⟨a, b, c⟩ xs i hlt hi
    rw [← Bool.not_eq_true, this]; omega
   have hbe := before_eq xs[i] ⟨a, b, c⟩
   dsimp only at hbe
   simp only [acmeref12_Add.l0, if_pos q, if_pos q2, if_pos q3, rd79_get hlt, hbe, hb, Option.bind_some, Bool.false_eq_true, if_false]
   have e1 : (xs[i].f0 == a && (xs[i].f1 == b && xs[i].f2 == c)) = decide (xs[i] = ⟨a, b, c⟩) := by
    cases hx : xs[i] with | mk x0 x1 x2 =>
    rw [Bool.eq_iff_iff]
    simp
   rw [e1]
   by_cases hc : xs[i] = ⟨a, b, c⟩
   ·rw [if_pos (by simp [hc]), addR_eq, if_pos]
    unfold hasAt
    rw [← hia, List.getElem?_eq_getElem hlt, hc]; simp
   ·have hh : hasAt xs ⟨a, b, c⟩ = false := by
     unfold hasAt
     rw [← hia, List.getElem?_eq_getElem hlt]; simp [hc]
    rw [if_neg (by simp [hc])]
    have l1 : (xs.take i).length ≤ 1000000 := by simp; omega
    have l2 : (xs.drop i).length ≤ 1000000 := by simp; omega
    simp only [Int.toNat_natCast, List.nil_append, List.length_nil, List.length_append, List.length_cons]
    rw [if_pos (by omega), if_pos (by omega), if_pos (by omega), add_tail xs _ hl hh i hia]
  ·have q : ¬ (i : Int) < (xs.length : Int) := by omega
   have q2 : (0 : Int) ≤ (i : Int) := by omega
   have q3 : (i : Int) ≤ (xs.length : Int) := by omega
   have hh : hasAt xs ⟨a, b, c⟩ = false := by
    unfold hasAt
    rw [← hia, List.getElem?_eq_none (by omega)]; simp
   simp only [acmeref12_Add.l0, if_neg q, if_pos q2, if_pos q3, Option.bind_some]
   have l1 : (xs.take i).length ≤ 1000000 := by simp; omega
   have l2 : (xs.drop i).length ≤ 1000000 := by simp; omega
   simp only [Int.toNat_natCast, List.nil_append, List.length_nil, List.length_append, List.length_cons]
   rw [if_pos (by omega), if_pos (by omega), if_pos (by omega), add_tail xs _ hl hh i hia]
 | succ n ih =>
  intro i hn hi
  have hlt : i < xs.length := by omega
  have q : (i : Int) < (xs.length : Int) := by omega
  have q2 : (0 : Int) ≤ (i : Int) := by omega
  have hb : lt79 xs[i] ⟨a, b, c⟩ = true := (addAt_lt ⟨a, b, c⟩ xs i hlt hi).2 (by omega)
  have hbe := before_eq xs[i] ⟨a, b, c⟩
  dsimp only at hbe
  refine Ev.succ ?_
  simp only [acmeref12_Add.l0, if_pos q, if_pos q2, rd79_get hlt, hbe, hb, Option.bind_some, if_true, idx1 (show i ≤ 1000000 by omega)]
  exact ih (i + 1) (by omega) (by omega)
theorem add_ev (xs : List S79) (a b c : Int) (hl : xs.length ≤ 1000000) : Ev (fun k => acmeref12_Add.f k xs a b c) (addR xs ⟨a, b, c⟩) :=
 add_loop xs a b c hl _ 0 rfl (Nat.zero_le _)
theorem outStep_len {m f t : Int} (x : S144) (acc : List S79) : (outStep m f t acc x).length ≤ acc.length + 2 := by
 unfold outStep
 split
 ·have h1 := addR_len ⟨1, 0, x.f3⟩ acc
  have h2 := addR_len ⟨2, 0, x.f4⟩ (addR acc ⟨1, 0, x.f3⟩)
  omega
 ·omega
theorem outR_len {m f t : Int} : ∀ (l : List S144) (acc : List S79), (l.foldl (outStep m f t) acc).length ≤ acc.length + 2 * l.length
 | [], acc => by simp
 | x :: l, acc => by
  have h1 := outR_len (m := m) (f := f) (t := t) l (outStep m f t acc x)
  have h2 := outStep_len (m := m) (f := f) (t := t) x acc
  rw [List.foldl_cons, List.length_cons]
  omega
theorem outR_snoc {m f t : Int} (b : List S144) (x : S144) : outR (b ++ [x]) m f t = outStep m f t (outR b m f t) x := by unfold outR; rw [List.foldl_append]; rfl
theorem hrs_snoc {m f t : Int} (b : List S144) (x : S144) : hrs (b ++ [x]) m f t = hrs b m f t + hrsOf x m f t := by unfold hrs; rw [List.map_append, List.sum_append]; simp
theorem hrsOf_le {x : S144} {m f t : Int} (hx : okRun x) (hl : okLot m f t) : hrsOf x m f t ≤ 100001 := by
 unfold hrsOf
 obtain ⟨_, _, _, h1, h12, h2⟩ := hx
 have a1 := @mx_le x.f1 f
 have a2 := @mn_le x.f2 t
 split <;> omega
theorem hrs_le {m f t : Int} (hl : okLot m f t) : ∀ {b : List S144}, (∀ x ∈ b, okRun x) → hrs b m f t ≤ 100001 * b.length
 | [], _ => by simp [hrs]
 | x :: b, h => by
  have e2 : hrs (x :: b) m f t = hrsOf x m f t + hrs b m f t := by unfold hrs; rw [List.map_cons, List.sum_cons]
  have h1 := hrs_le hl (b := b) (fun y hy => h y (by simp [hy]))
  have h2 := hrsOf_le (h x (by simp)) hl
  rw [e2, List.length_cons]
  omega
def refEnd (l : List S144) (m f t : Int) : List S79 × Int := if ((outR l m f t).length : Int) + hrs l m f t > 1000 then ([], 5) else (refCs l m f t, 0)
theorem hourL_pre (l : List S144) (m a : Int) (j : Nat) : ∀ d : Nat, ∃ s, hourL l m a (j + d) = hourL l m a j ++ s
 | 0 => ⟨[], by simp⟩
 | d + 1 => by
  obtain ⟨s, hs⟩ := hourL_pre l m a j d
  refine ⟨s ++ if covered l m (a + ((j + d : Nat) : Int)) then [⟨3, m, a + ((j + d : Nat) : Int)⟩] else [], ?_⟩
  rw [← Nat.add_assoc, hourL, hs, List.append_assoc]
theorem covered_snoc {b : List S144} {x : S144} {m h : Int} : covered (b ++ [x]) m h ↔ covered b m h ∨ (x.f0 = m ∧ x.f1 ≤ h ∧ h ≤ x.f2) := by
 unfold covered
 constructor
 ·rintro ⟨y, hy, q⟩
  rcases List.mem_append.1 hy with hy | hy
  ·exact .inl ⟨y, hy, q⟩
  ·rw [List.mem_singleton] at hy; subst hy; exact .inr q
 ·rintro (⟨y, hy, q⟩ | q)
  ·exact ⟨y, by simp [hy], q⟩
  ·exact ⟨x, by simp, q⟩
def cO (b : List S144) (m h : Int) : List S79 := if covered b m h then [⟨3, m, h⟩] else []
def cN (b : List S144) (m h : Int) : Int := if covered b m h then 1 else 0
theorem cO_len {b : List S144} {m h : Int} : ((cO b m h).length : Int) = cN b m h ∧ (cN b m h = 0 ∨ cN b m h = 1) := by
 unfold cO cN; split <;> simp
section
variable {l : List S144} {m f t : Int} (hlen : l.length ≤ 60) (hok : ∀ x ∈ l, okRun x) (hap : l.Pairwise apart) (hl : okLot m f t)
include hlen hap in
theorem causes_l2 (O : List S79) (H0 h : Int) (hO : O.length ≤ 1000000) (hH : 0 < H0 ∧ H0 ≤ 1000) (v : List S79 × Int)
  (hv : Ev (fun k => acmeref12_Causes.l1 k l (O ++ cO l m h) (H0 - cN l m h) (wrap64 (h + 1)) m f t) v) :
  ∀ (r b : List S144), l = b ++ r → Ev (fun k => acmeref12_Causes.l2 k l (O ++ cO b m h) (H0 - cN b m h) h (b.length : Int) m f t) v := by
 intro r
 induction r with
 | nil =>
  intro b hb
  rw [List.append_nil] at hb
  subst hb
  refine Ev.succ ?_
  have q : ¬ (l.length : Int) < (l.length : Int) := by omega
  simp only [acmeref12_Causes.l2, if_neg q]
  exact hv
 | cons x r ih =>
  intro b hb
  have hbl : b.length < l.length := by rw [hb]; simp
  have q : (b.length : Int) < (l.length : Int) := by omega
  have q2 : (0 : Int) ≤ (b.length : Int) := by omega
  have hx : l[b.length] = x := by simp [hb]
  have ih' := ih (b ++ [x]) (by rw [hb, List.append_assoc]; rfl)
  have e1 : ((b ++ [x]).length : Int) = ((b.length + 1 : Nat) : Int) := by simp
  rw [e1] at ih'
  refine Ev.succ ?_
  simp only [acmeref12_Causes.l2, if_pos q, if_pos q2, rd144_get hbl, hx, inC_eq, Option.bind_some, decide_eq_true_eq, idx1 (show b.length ≤ 1000000 by omega)]
  by_cases c1 : x.f0 = m
  ·simp only [if_pos c1]
   by_cases c2 : x.f1 ≤ h ∧ h ≤ x.f2
   ·have hnb : ¬ covered b m h := by
     rintro ⟨y, hy, g0, g1, g2⟩
     rw [hb, List.pairwise_append] at hap
     exact hap.2.2 y hy x (by simp) ⟨by omega, by omega, by omega⟩
    have hcb : covered (b ++ [x]) m h := covered_snoc.2 (.inr ⟨c1, c2⟩)
    have o0 : cO b m h = [] := by unfold cO; rw [if_neg hnb]
    have n0 : cN b m h = 0 := by unfold cN; rw [if_neg hnb]
    have o1 : cO (b ++ [x]) m h = [⟨3, m, h⟩] := by unfold cO; rw [if_pos hcb]
    have n1 : cN (b ++ [x]) m h = 1 := by unfold cN; rw [if_pos hcb]
    rw [o1, n1] at ih'
    simp only [if_pos c2, o0, n0, List.append_nil, Int.sub_zero]
    rw [wrap64_id (by omega) (by omega)]
    have q5 : O.length < 5864062014805 := by omega
    simp only [if_pos q5]
    exact ih'
   ·have hco : covered (b ++ [x]) m h ↔ covered b m h := by
     rw [covered_snoc]
     exact ⟨fun q => q.elim id (fun q => absurd q.2 c2), .inl⟩
    have o1 : cO (b ++ [x]) m h = cO b m h := by unfold cO; simp only [hco]
    have n1 : cN (b ++ [x]) m h = cN b m h := by unfold cN; simp only [hco]
    rw [o1, n1] at ih'
    simp only [if_neg c2]
    exact ih'
  ·have hco : covered (b ++ [x]) m h ↔ covered b m h := by
    rw [covered_snoc]
    exact ⟨fun q => q.elim id (fun q => absurd q.1 c1), .inl⟩
   have o1 : cO (b ++ [x]) m h = cO b m h := by unfold cO; simp only [hco]
   have n1 : cN (b ++ [x]) m h = cN b m h := by unfold cN; simp only [hco]
   rw [o1, n1] at ih'
   simp only [if_neg c1]
   exact ih'
include hlen hap hl in
theorem causes_l1 (hsum : hrs l m f t ≤ 1000) : ∀ (n j : Nat), j + n = (t + 1 - f).toNat → Ev (fun k => acmeref12_Causes.l1 k l (outR l m f t ++ hourL l m f j) (hrs l m f t - ((hourL l m f j).length : Int)) (f + (j : Int)) m f t) (refCs l m f t, 0) := by
 have hft : f ≤ t := hl.2.2
 have hfb := hl.2.1
 have htot := hourL_len (m := m) hap hft
 have hol := outR_len (m := m) (f := f) (t := t) l []
 intro n
 induction n with
 | zero =>
  intro j hj
  have q : ¬ f + (j : Int) ≤ t := by omega
  refine Ev.succ ?_
  simp only [acmeref12_Causes.l1, if_neg q]
  refine Ev.succ ?_
  simp only [acmeref12_Causes.j4, Bool.false_eq_true, if_false]
  have : j = (t + 1 - f).toNat := by omega
  subst this
  exact Ev.pure _
 | succ n ih =>
  intro j hj
  have q : f + (j : Int) ≤ t := by omega
  obtain ⟨s, hs⟩ := hourL_pre l m f j (n + 1)
  rw [hj] at hs
  have hsl : (hourL l m f (t + 1 - f).toNat).length = (hourL l m f j).length + s.length := by rw [hs, List.length_append]
  refine Ev.succ ?_
  simp only [acmeref12_Causes.l1, if_pos q]
  refine Ev.succ ?_
  simp only [acmeref12_Causes.j4, decide_eq_true_eq]
  by_cases g : hrs l m f t - ((hourL l m f j).length : Int) > 0
  ·simp only [if_pos g]
   have ih' := ih (j + 1) (by omega)
   have e1 : hourL l m f (j + 1) = hourL l m f j ++ cO l m (f + (j : Int)) := by rw [hourL]; rfl
   have e2 := @cO_len l m (f + (j : Int))
   have e3 : hrs l m f t - ((hourL l m f (j + 1)).length : Int) = (hrs l m f t - ((hourL l m f j).length : Int)) - cN l m (f + (j : Int)) := by rw [e1, List.length_append]; omega
   have e4 : f + ((j + 1 : Nat) : Int) = wrap64 ((f + (j : Int)) + 1) := by rw [wrap64_id (by omega) (by omega)]; omega
   rw [e3, e4, e1, ← List.append_assoc] at ih'
   have hlj : (hourL l m f j).length ≤ 1000 := by omega
   have hol2 : (outR l m f t).length ≤ 120 := by unfold outR; simp at hol; omega
   have := causes_l2 (m := m) (f := f) (t := t) hlen hap (outR l m f t ++ hourL l m f j) _ (f + (j : Int)) (by rw [List.length_append]; omega) ⟨g, by omega⟩ _ ih' l [] rfl
   have o0 : cO [] m (f + (j : Int)) = [] := by unfold cO; rw [if_neg]; rintro ⟨y, hy, _⟩; simp at hy
   have n0 : cN [] m (f + (j : Int)) = 0 := by unfold cN; rw [if_neg]; rintro ⟨y, hy, _⟩; simp at hy
   rw [o0, n0, List.append_nil, Int.sub_zero] at this
   exact this
  ·simp only [if_neg g]
   have hs0 : s = [] := List.eq_nil_of_length_eq_zero (by omega)
   rw [hs0, List.append_nil] at hs
   unfold refCs
   rw [hs]
   exact Ev.pure _
include hlen hok hap hl in
theorem causes_l0 : ∀ (r b : List S144), l = b ++ r → Ev (fun k => acmeref12_Causes.l0 k l (outR b m f t) (hrs b m f t) (b.length : Int) m f t) (refEnd l m f t) := by
 have hft : f ≤ t := hl.2.2
 have hfb := hl.2.1
 intro r
 induction r with
 | nil =>
  intro b hb
  rw [List.append_nil] at hb
  subst hb
  have hol := outR_len (m := m) (f := f) (t := t) l []
  have hol2 : (outR l m f t).length ≤ 120 := by unfold outR; simp at hol; omega
  have hh := hrs_le hl hok
  have hh0 := hrs_nonneg m f t l
  refine Ev.succ ?_
  have q : ¬ (l.length : Int) < (l.length : Int) := by omega
  have e1 : wrap64 (((outR l m f t).length : Int) + hrs l m f t) = ((outR l m f t).length : Int) + hrs l m f t := wrap64_id (by omega) (by omega)
  simp only [acmeref12_Causes.l0, if_neg q, e1]
  unfold refEnd
  by_cases g : ((outR l m f t).length : Int) + hrs l m f t > 1000
  ·simp only [if_pos g]; exact Ev.pure _
  ·simp only [if_neg g]
   have := causes_l1 hlen hap hl (by omega) (t + 1 - f).toNat 0 (by omega)
   simpa [hourL] using this
 | cons x r ih =>
  intro b hb
  have hbl : b.length < l.length := by rw [hb]; simp
  have q : (b.length : Int) < (l.length : Int) := by omega
  have q2 : (0 : Int) ≤ (b.length : Int) := by omega
  have hx : l[b.length] = x := by simp [hb]
  have hxl : x ∈ l := by rw [hb]; simp
  have hbok : ∀ y ∈ b, okRun y := fun y hy => hok y (by rw [hb]; simp [hy])
  have ih' := ih (b ++ [x]) (by rw [hb, List.append_assoc]; rfl)
  have e1 : ((b ++ [x]).length : Int) = ((b.length + 1 : Nat) : Int) := by simp
  rw [e1, outR_snoc, hrs_snoc] at ih'
  have hskip : ¬ meetsR x m f t → Ev (fun k => acmeref12_Causes.l0 k l (outR b m f t) (hrs b m f t) (wrap64 ((b.length : Int) + 1)) m f t) (refEnd l m f t) := by
   intro g
   rw [idx1 (by omega)]
   have o1 : outStep m f t (outR b m f t) x = outR b m f t := by unfold outStep; rw [if_neg g]
   have n1 : hrsOf x m f t = 0 := by unfold hrsOf; rw [if_neg g]
   rw [o1, n1, Int.add_zero] at ih'
   exact ih'
  refine Ev.succ ?_
  simp only [acmeref12_Causes.l0, if_pos q, if_pos q2, rd144_get hbl, hx]
  by_cases c1 : x.f0 = m
  ·simp only [if_pos c1]
   refine Ev.succ ?_
   simp only [acmeref12_Causes.j2, decide_eq_true_eq]
   by_cases c2 : mx x.f1 f > mn x.f2 t
   ·simp only [if_pos c2]
    exact hskip (fun g => by have := g.2; omega)
   ·have g : meetsR x m f t := ⟨c1, by omega⟩
    simp only [if_neg c2, if_pos q, if_pos q2, rd144_get hbl, hx]
    have hol := outR_len (m := m) (f := f) (t := t) b []
    have hol2 : (outR b m f t).length ≤ 120 := by unfold outR; simp at hol; omega
    have hh := hrs_le hl hbok
    have hh0 := hrs_nonneg m f t b
    have hx1 := hrsOf_le (hok x hxl) hl
    have n1 : hrsOf x m f t = mn x.f2 t - mx x.f1 f + 1 := by unfold hrsOf; rw [if_pos g]
    have o1 : outStep m f t (outR b m f t) x = addR (addR (outR b m f t) ⟨1, 0, x.f3⟩) ⟨2, 0, x.f4⟩ := by unfold outStep; rw [if_pos g]
    have hal := addR_len ⟨1, 0, x.f3⟩ (outR b m f t)
    refine Ev.bind (add_ev _ 1 0 x.f3 (by omega)) ?_
    refine Ev.bind (add_ev _ 2 0 x.f4 (by omega)) ?_
    rw [wrap64_id (x := mn x.f2 t - mx x.f1 f) (by omega) (by omega), wrap64_id (x := mn x.f2 t - mx x.f1 f + 1) (by omega) (by omega), ← n1, wrap64_id (by omega) (by omega), idx1 (by omega), ← o1]
    exact ih'
  ·simp only [if_neg c1]
   refine Ev.succ ?_
   simp only [acmeref12_Causes.j2, if_true]
   exact hskip (fun g => c1 g.1)
end
theorem okLot_iff {m f t : Int} : okLot m f t ↔ (0 ≤ m ∧ m ≤ 1000) ∧ (0 ≤ f ∧ f ≤ t) ∧ ¬ t > 100000 := by
 unfold okLot
 omega
theorem refCauses_ev {l : List S144} {m f t : Int} (hlen : l.length ≤ 60) (hok : ∀ x ∈ l, okRun x) (hap : l.Pairwise apart) :
  Ev (fun k => acmeref12_Causes.f k l m f t) (if okLot m f t then refEnd l m f t else ([], 2)) := by
 have hbad : ¬ okLot m f t → Ev (fun k => acmeref12_Causes.j0 k l true m f t) (if okLot m f t then refEnd l m f t else ([], 2)) := by
  intro g
  refine Ev.succ ?_
  simp only [acmeref12_Causes.j0, if_true, if_neg g]
  exact Ev.pure _
 simp only [acmeref12_Causes.f, inC_eq, Option.bind_some, decide_eq_true_eq]
 by_cases g1 : 0 ≤ m ∧ m ≤ 1000
 ·simp only [if_pos g1]
  by_cases g2 : 0 ≤ f ∧ f ≤ t
  ·simp only [if_pos g2]
   by_cases g3 : t > 100000
   ·rw [decide_eq_true g3]
    exact hbad (fun q => (okLot_iff.1 q).2.2 g3)
   ·have g : okLot m f t := okLot_iff.2 ⟨g1, g2, g3⟩
    rw [decide_eq_false g3, if_pos g]
    refine Ev.succ ?_
    simp only [acmeref12_Causes.j0, Bool.false_eq_true, if_false]
    have := causes_l0 hlen hok hap g l [] rfl
    simpa [outR, hrs] using this
  ·simp only [if_neg g2]
   exact hbad (fun q => g2 (okLot_iff.1 q).2.1)
 ·simp only [if_neg g1]
  exact hbad (fun q => g1 (okLot_iff.1 q).1)
end Go.Proofs.Ytiaiecfnpompcaa.T
namespace Go.Proofs.Ytiaiecfnpompcaa.T
open Go.RowKit Go.Proofs.YtiaiecfnpompcaaW.PrintWords
set_option linter.unusedVariables false
set_option linter.unusedSimpArgs false
instance (x y : S144) : Decidable (apart x y) := by unfold apart; infer_instance
def chkF : List S144 → List S144 → Int
 | _, [] => 0
 | b, x :: r => if ¬ okRun x then 2 else if ∃ y ∈ b, ¬ apart y x then 6 else chkF (b ++ [x]) r
theorem chkF_zero : ∀ (r b : List S144), (∀ y ∈ b, okRun y) → b.Pairwise apart → chkF b r = 0 → (∀ y ∈ b ++ r, okRun y) ∧ (b ++ r).Pairwise apart
 | [], b, hb, hp, _ => by rw [List.append_nil]; exact ⟨hb, hp⟩
 | x :: r, b, hb, hp, h => by
  unfold chkF at h
  split at h
  ·cases h
  ·rename_i g1
   have g1 := Classical.not_not.1 g1
   split at h
   ·cases h
   ·rename_i g2
    have h1 : ∀ y ∈ b ++ [x], okRun y := by
     intro y hy
     rcases List.mem_append.1 hy with q | q
     ·exact hb y q
     ·rw [List.mem_singleton] at q; subst q; exact g1
    have h2 : (b ++ [x]).Pairwise apart := by
     rw [List.pairwise_append]
     refine ⟨hp, by simp, fun y hy z hz => ?_⟩
     rw [List.mem_singleton] at hz; subst hz
     exact Classical.byContradiction fun q => g2 ⟨y, hy, q⟩
    have := chkF_zero r (b ++ [x]) h1 h2 h
    rwa [List.append_assoc] at this
theorem isNumber3_eq (x y z : Int) : mill_isNumber.f [x, y, z] = some (decide ((0 ≤ x ∧ x ≤ 1000) ∧ (0 ≤ y ∧ y ≤ 1000) ∧ 0 ≤ z ∧ z ≤ 1000)) := by
 have h1 := within_one 0 1000 x
 have h2 := within_two 0 1000 y z
 unfold mill_isNumber.f
 unfold mill_within.f at *
 simp only [Option.some.injEq, List.any_cons, List.any_nil, Bool.or_false, Option.bind_some] at *
 rw [Bool.not_or, h1, h2]
 by_cases g1 : 0 ≤ x ∧ x ≤ 1000 <;> by_cases g2 : (0 ≤ y ∧ y ≤ 1000) ∧ 0 ≤ z ∧ z ≤ 1000 <;> simp [g1, g2]
theorem isValid_eq (x : S144) : mill_run_isValid.f x.f0 x.f1 x.f2 x.f3 x.f4 = some (decide (okRun x)) := by
 unfold mill_run_isValid.f
 rw [isNumber3_eq, areHours_eq]
 simp only [Option.bind_some, decide_eq_true_eq]
 split
 ·congr 1; apply decide_eq_decide.2; unfold okRun; omega
 ·congr 1; symm; rw [decide_eq_false_iff_not]; unfold okRun; omega
theorem hours_apart {x y : S144} (hx : okRun x) (hy : okRun y) : (hoursR y x.f0 x.f1 x.f2).1 ≤ (hoursR y x.f0 x.f1 x.f2).2 ↔ ¬ apart y x := by
 obtain ⟨_, _, _, h1, h2, h3⟩ := hx
 obtain ⟨_, _, _, g1, g2, g3⟩ := hy
 have a1 := @mx_le y.f1 x.f1
 have a2 := @mn_le y.f2 x.f2
 unfold apart hoursR
 split
 ·dsimp only; omega
 ·dsimp only; omega
theorem mcheck_l1 {l : List S144} {i K : Nat} {x : S144} {v : Int} (hx : okRun x) (hb : ∀ y ∈ l.take i, okRun y) (hlen : l.length ≤ 1000)
  (hv : ∀ k, K ≤ k → mill_Check.l0 k l l (l.length : Int) (wrap64 ((i : Int) + 1)) = some v) :
  ∀ (r b : List S144), l.take i = b ++ r → ∀ k, K + r.length + 1 ≤ k → mill_Check.l1 k l l (l.length : Int) i (l.take i) ((l.take i).length : Int) (b.length : Int) x.f0 x.f1 x.f2 x.f3 x.f4 = some (if ∃ y ∈ r, ¬ apart y x then 6 else v)
 | [], b, e, k, hk => by
  rw [List.append_nil] at e
  obtain ⟨k, rfl⟩ : ∃ k', k = k' + 1 := ⟨k - 1, by omega⟩
  have q : ¬ (b.length : Int) < ((l.take i).length : Int) := by rw [e]; omega
  simp only [mill_Check.l1, if_neg q]
  rw [hv k (by omega), if_neg (by simp)]
 | y :: r, b, e, k, hk => by
  rw [List.length_cons] at hk
  obtain ⟨k, rfl⟩ : ∃ k', k = k' + 1 := ⟨k - 1, by omega⟩
  have hbl : b.length < (l.take i).length := by rw [e]; simp
  have hbl2 : (l.take i).length ≤ l.length := by simp; omega
  have q : (b.length : Int) < ((l.take i).length : Int) := by omega
  have q2 : (0 : Int) ≤ (b.length : Int) := by omega
  have hy : (l.take i)[b.length] = y := by simp only [e]; simp
  have hyk : okRun y := hb y (by rw [e]; simp)
  have ih := mcheck_l1 hx hb hlen hv r (b ++ [y]) (by rw [e, List.append_assoc]; rfl) k (by omega)
  have e1 : ((b ++ [y]).length : Int) = ((b.length + 1 : Nat) : Int) := by simp
  rw [e1] at ih
  have ha := hours_apart hx hyk
  simp only [mill_Check.l1, if_pos q, if_pos q2, rd144_get hbl, hy, runHours_eq, Option.bind_some, idx1 (show b.length ≤ 1000000 by omega)]
  by_cases g : apart y x
  ·have g2 : ¬ (hoursR y x.f0 x.f1 x.f2).1 ≤ (hoursR y x.f0 x.f1 x.f2).2 := fun q => ha.1 q g
   rw [if_neg g2, ih]
   simp [g]
  ·rw [if_pos (ha.2 g), if_pos ⟨y, by simp, g⟩]
theorem mcheck_l0 {l : List S144} (hlen : l.length ≤ 1000) : ∀ (r b : List S144), l = b ++ r → (∀ y ∈ b, okRun y) → ∀ k, r.length * (l.length + 2) + 1 ≤ k → mill_Check.l0 k l l (l.length : Int) (b.length : Int) = some (chkF b r)
 | [], b, e, hb, k, hk => by
  rw [List.append_nil] at e
  subst e
  obtain ⟨k, rfl⟩ : ∃ k', k = k' + 1 := ⟨k - 1, by omega⟩
  have q : ¬ (l.length : Int) < (l.length : Int) := by omega
  simp only [mill_Check.l0, if_neg q, chkF]
 | x :: r, b, e, hb, k, hk => by
  rw [List.length_cons] at hk
  have hbl : b.length < l.length := by rw [e]; simp
  have hk2 : r.length * (l.length + 2) + 1 + b.length + 2 ≤ k := by
   have : (r.length + 1) * (l.length + 2) = r.length * (l.length + 2) + (l.length + 2) := by rw [Nat.add_mul, Nat.one_mul]
   omega
  obtain ⟨k, rfl⟩ : ∃ k', k = k' + 1 := ⟨k - 1, by omega⟩
  have q : (b.length : Int) < (l.length : Int) := by omega
  have q2 : (0 : Int) ≤ (b.length : Int) := by omega
  have q3 : (b.length : Int) ≤ (l.length : Int) := by omega
  have hx : l[b.length] = x := by simp only [e]; simp
  simp only [mill_Check.l0, if_pos q, if_pos q2, rd144_get hbl, hx, isValid_eq, Option.bind_some, decide_eq_true_eq, if_pos q3, Int.toNat_natCast]
  unfold chkF
  by_cases g : okRun x
  ·have htk : l.take b.length = b := by rw [e]; simp
   have hb1 : ∀ y ∈ b ++ [x], okRun y := by
    intro y hy
    rcases List.mem_append.1 hy with q | q
    ·exact hb y q
    ·rw [List.mem_singleton] at q; subst q; exact g
   have e1 : ((b ++ [x]).length : Int) = ((b.length + 1 : Nat) : Int) := by simp
   have ih := mcheck_l0 hlen r (b ++ [x]) (by rw [e, List.append_assoc]; rfl) hb1
   rw [e1] at ih
   have := mcheck_l1 (l := l) (i := b.length) (v := chkF (b ++ [x]) r) g (by rw [htk]; exact hb) hlen (by intro k2 hk2; rw [idx1 (by omega)]; exact ih k2 hk2) b [] (by rw [htk]; rfl) k (by omega)
   rw [if_pos g, if_neg (fun q => q g)]
   exact this
  ·rw [if_neg g, if_pos g]
def chk (l : List S144) : Int := if l.length > 60 then 5 else chkF [] l
theorem mcheck_eq {l : List S144} (h : l.length ≤ 12 ∨ 60 < l.length) {k : Nat} (hk : 169 ≤ k) : mill_Check.f k l = some (chk l) := by
 unfold mill_Check.f chk
 rcases h with h | h
 ·rw [if_neg (by omega), if_neg (by omega)]
  refine mcheck_l0 (l := l) (by omega) l [] rfl (by simp) k ?_
  have : l.length * (l.length + 2) ≤ 12 * (12 + 2) := Nat.mul_le_mul h (by omega)
  omega
 ·rw [if_pos (by omega), if_pos h]
theorem rcheck_l1 {l : List S144} {i : Nat} {x : S144} {v : Int} (hi : i ≤ l.length) (hlen : l.length ≤ 60)
  (hv : Ev (fun k => acmeref12_Check.l0 k l (wrap64 ((i : Int) + 1))) v) :
  ∀ (r b : List S144), l.take i = b ++ r → Ev (fun k => acmeref12_Check.l1 k l i (b.length : Int) x.f0 x.f1 x.f2 x.f3 x.f4) (if ∃ y ∈ r, ¬ apart y x then 6 else v)
 | [], b, e => by
  rw [List.append_nil] at e
  have hbi : b.length = i := by rw [← e]; simp; omega
  refine Ev.succ ?_
  have q : ¬ (b.length : Int) < (i : Int) := by omega
  simp only [acmeref12_Check.l1, if_neg q]
  rw [if_neg (by simp)]
  exact hv
 | y :: r, b, e => by
  have hbl : b.length < (l.take i).length := by rw [e]; simp
  have hbl3 : (l.take i).length = i := by simp; omega
  have hbl2 : b.length < l.length := by omega
  have q : (b.length : Int) < (i : Int) := by omega
  have q2 : (0 : Int) ≤ (b.length : Int) := by omega
  have q4 : (b.length : Int) < (l.length : Int) := by omega
  have hy : l[b.length] = y := by
   have h1 : (l.take i)[b.length] = y := by simp only [e]; simp
   rw [← h1, List.getElem_take]
  have ih := rcheck_l1 hi hlen hv (x := x) r (b ++ [y]) (by rw [e, List.append_assoc]; rfl)
  have e1 : ((b ++ [y]).length : Int) = ((b.length + 1 : Nat) : Int) := by simp
  rw [e1] at ih
  refine Ev.succ ?_
  simp only [acmeref12_Check.l1, if_pos q, if_pos q2, if_pos q4, rd144_get hbl2, hy, idx1 (show b.length ≤ 1000000 by omega)]
  have hstep : apart y x → Ev (fun k => acmeref12_Check.l1 k l i ((b.length + 1 : Nat) : Int) x.f0 x.f1 x.f2 x.f3 x.f4) (if ∃ z ∈ y :: r, ¬ apart z x then 6 else v) := by
   intro g
   have e2 : (∃ z ∈ y :: r, ¬ apart z x) ↔ ∃ z ∈ r, ¬ apart z x := by simp [g]
   simp only [e2]
   exact ih
  refine Ev.ite (fun g1 => Ev.ite (fun g2 => Ev.ite (fun g3 => ?_) (fun g3 => ?_)) (fun g2 => ?_)) (fun g1 => ?_)
  ·have g : ¬ apart y x := fun q => q ⟨g1, g2, g3⟩
   rw [if_pos ⟨y, by simp, g⟩]
   exact Ev.pure _
  ·exact hstep (fun q => g3 q.2.2)
  ·exact hstep (fun q => g2 q.2.1)
  ·exact hstep (fun q => g1 q.1)
theorem rcheck_l0 {l : List S144} (hlen : l.length ≤ 60) : ∀ (r b : List S144), l = b ++ r → Ev (fun k => acmeref12_Check.l0 k l (b.length : Int)) (chkF b r)
 | [], b, e => by
  rw [List.append_nil] at e
  subst e
  refine Ev.succ ?_
  have q : ¬ (l.length : Int) < (l.length : Int) := by omega
  simp only [acmeref12_Check.l0, if_neg q, chkF]
  exact Ev.pure _
 | x :: r, b, e => by
  have hbl : b.length < l.length := by rw [e]; simp
  have q : (b.length : Int) < (l.length : Int) := by omega
  have q2 : (0 : Int) ≤ (b.length : Int) := by omega
  have hx : l[b.length] = x := by simp only [e]; simp
  have hbad : ¬ okRun x → Ev (fun k => acmeref12_Check.j1 k l b.length true x.f0 x.f1 x.f2 x.f3 x.f4) (chkF b (x :: r)) := by
   intro g
   refine Ev.succ ?_
   simp only [acmeref12_Check.j1, if_true]
   unfold chkF
   rw [if_pos g]
   exact Ev.pure _
  refine Ev.succ ?_
  simp only [acmeref12_Check.l0, if_pos q, if_pos q2, rd144_get hbl, hx, inC_eq, Option.bind_some, decide_eq_true_eq]
  refine Ev.ite (fun g1 => Ev.ite (fun g2 => Ev.ite (fun g3 => Ev.ite (fun g4 => ?_) (fun g4 => ?_)) (fun g3 => ?_)) (fun g2 => ?_)) (fun g1 => ?_)
  ·by_cases g5 : x.f2 > 100000
   ·rw [decide_eq_true g5]
    exact hbad (fun q => by have := q.2.2.2.2.2; omega)
   ·rw [decide_eq_false g5]
    have g : okRun x := ⟨g1, g2, g3, by omega, by omega, by omega⟩
    refine Ev.succ ?_
    simp only [acmeref12_Check.j1, Bool.false_eq_true, if_false]
    unfold chkF
    rw [if_neg (fun q => q g)]
    have htk : l.take b.length = b := by rw [e]; simp
    have e1 : ((b ++ [x]).length : Int) = ((b.length + 1 : Nat) : Int) := by simp
    have ih := rcheck_l0 hlen r (b ++ [x]) (by rw [e, List.append_assoc]; rfl)
    rw [e1] at ih
    exact rcheck_l1 (l := l) (i := b.length) (x := x) (v := chkF (b ++ [x]) r) (by omega) hlen (by rw [idx1 (by omega)]; exact ih) b [] (by rw [htk]; rfl)
  ·exact hbad (fun q => g4 ⟨q.2.2.2.1, q.2.2.2.2.1⟩)
  ·exact hbad (fun q => g3 q.2.2.1)
  ·exact hbad (fun q => g2 q.2.1)
  ·exact hbad (fun q => g1 q.1)
theorem rcheck_ev (l : List S144) : Ev (fun k => acmeref12_Check.f k l) (chk l) := by
 unfold chk
 simp only [acmeref12_Check.f]
 by_cases h : l.length > 60
 ·rw [if_pos h]; simp only [if_pos (show (l.length : Int) > 60 by omega)]; exact Ev.pure _
 ·rw [if_neg h]; simp only [if_neg (show ¬ (l.length : Int) > 60 by omega)]
  exact rcheck_l0 (by omega) l [] rfl
end Go.Proofs.Ytiaiecfnpompcaa.T
namespace Go.Proofs.Ytiaiecfnpompcaa.T
open Go.RowKit Go.Proofs.YtiaiecfnpompcaaW.PrintWords
set_option linter.unusedVariables false
set_option linter.unusedSimpArgs false
set_option linter.unusedSectionVars false
theorem same79_loop (l : List S79) (hlen : l.length ≤ 1000000) : ∀ (n i : Nat), n = l.length - i → i ≤ l.length → Ev (fun k => acmeref12_Same.l0 k l l i) true := by
 intro n
 induction n with
 | zero =>
  intro i hn hi
  refine Ev.succ ?_
  have q : ¬ (i : Int) < (l.length : Int) := by omega
  simp only [acmeref12_Same.l0, if_neg q]
  exact Ev.pure _
 | succ n ih =>
  intro i hn hi
  refine Ev.succ ?_
  have q : (i : Int) < (l.length : Int) := by omega
  have q2 : (0 : Int) ≤ (i : Int) := by omega
  simp only [acmeref12_Same.l0, if_pos q, if_pos q2, beq_self_eq_true, Bool.not_true, Bool.or_self, Bool.false_eq_true, if_false, idx1 (show i ≤ 1000000 by omega)]
  exact ih (i + 1) (by omega) (by omega)
theorem same79_ev (l : List S79) (hlen : l.length ≤ 1000000) : Ev (fun k => acmeref12_Same.f k l l) true := by
 have := same79_loop l hlen l.length 0 (by omega) (by omega)
 simpa [acmeref12_Same.f] using this
theorem same144_loop (l : List S144) (hlen : l.length ≤ 1000000) : ∀ (n i : Nat), n = l.length - i → i ≤ l.length → Ev (fun k => acmelaw12_same.l0 k l l i) true := by
 intro n
 induction n with
 | zero =>
  intro i hn hi
  refine Ev.succ ?_
  have q : ¬ (i : Int) < (l.length : Int) := by omega
  simp only [acmelaw12_same.l0, if_neg q]
  exact Ev.pure _
 | succ n ih =>
  intro i hn hi
  refine Ev.succ ?_
  have q : (i : Int) < (l.length : Int) := by omega
  have q2 : (0 : Int) ≤ (i : Int) := by omega
  simp only [acmelaw12_same.l0, if_pos q, if_pos q2, beq_self_eq_true, Bool.not_true, Bool.or_self, Bool.false_eq_true, if_false, idx1 (show i ≤ 1000000 by omega)]
  exact ih (i + 1) (by omega) (by omega)
theorem same144_ev (l : List S144) (hlen : l.length ≤ 1000000) : Ev (fun k => acmelaw12_same.f k l l) true := by
 have := same144_loop l hlen l.length 0 (by omega) (by omega)
 simpa [acmelaw12_same.f] using this
theorem alike_loop (l : List S58) (hlen : l.length ≤ 1000000) : ∀ (n i : Nat), n = l.length - i → i ≤ l.length → Ev (fun k => acmelaw12_alike.l0 k l l i) true := by
 intro n
 induction n with
 | zero =>
  intro i hn hi
  refine Ev.succ ?_
  have q : ¬ (i : Int) < (l.length : Int) := by omega
  simp only [acmelaw12_alike.l0, if_neg q]
  exact Ev.pure _
 | succ n ih =>
  intro i hn hi
  refine Ev.succ ?_
  have q : (i : Int) < (l.length : Int) := by omega
  have q2 : (0 : Int) ≤ (i : Int) := by omega
  simp only [acmelaw12_alike.l0, if_pos q, if_pos q2, beq_self_eq_true, Bool.not_true, Bool.or_self, Bool.false_eq_true, if_false, idx1 (show i ≤ 1000000 by omega)]
  exact ih (i + 1) (by omega) (by omega)
theorem alike_ev (l : List S58) (hlen : l.length ≤ 1000000) : Ev (fun k => acmelaw12_alike.f k l l) true := by
 have := alike_loop l hlen l.length 0 (by omega) (by omega)
 simpa [acmelaw12_alike.f] using this
theorem long_loop (l : List S58) (hlen : l.length ≤ 1000000) : ∀ (n i : Nat), n = l.length - i → i ≤ l.length → ∃ b, Ev (fun k => acmelaw12_long.l0 k l i) b := by
 intro n
 induction n with
 | zero =>
  intro i hn hi
  refine ⟨false, Ev.succ ?_⟩
  have q : ¬ (i : Int) < (l.length : Int) := by omega
  simp only [acmelaw12_long.l0, if_neg q]
  exact Ev.pure _
 | succ n ih =>
  intro i hn hi
  obtain ⟨b, hb⟩ := ih (i + 1) (by omega) (by omega)
  have q : (i : Int) < (l.length : Int) := by omega
  have q2 : (0 : Int) ≤ (i : Int) := by omega
  by_cases g1 : (rd_T58 l i).f1 ≥ 0
  ·by_cases g2 : (rd_T58 l i).f2 ≤ 100000
   ·by_cases g3 : wrap64 ((rd_T58 l i).f2 - (rd_T58 l i).f1) > 60
    ·refine ⟨true, Ev.succ ?_⟩
     simp only [acmelaw12_long.l0, if_pos q, if_pos q2, if_pos g1, if_pos g2, if_pos g3]
     exact Ev.pure _
    ·refine ⟨b, Ev.succ ?_⟩
     simp only [acmelaw12_long.l0, if_pos q, if_pos q2, if_pos g1, if_pos g2, if_neg g3, idx1 (show i ≤ 1000000 by omega)]
     exact hb
   ·refine ⟨b, Ev.succ ?_⟩
    simp only [acmelaw12_long.l0, if_pos q, if_pos q2, if_pos g1, if_neg g2, idx1 (show i ≤ 1000000 by omega)]
    exact hb
  ·refine ⟨b, Ev.succ ?_⟩
   simp only [acmelaw12_long.l0, if_pos q, if_pos q2, if_neg g1, idx1 (show i ≤ 1000000 by omega)]
   exact hb
theorem long_ex (l : List S58) (hlen : l.length ≤ 1000000) : ∃ b, Ev (fun k => acmelaw12_long.f k l) b := by
 have := long_loop l hlen l.length 0 (by omega) (by omega)
 simpa [acmelaw12_long.f] using this
theorem lots_eq {l : List S58} (h : l.length ≤ 1000000) : acmelaw12_lots.f l = some l := by
 unfold acmelaw12_lots.f
 simp only [Option.bind_some, List.length_nil, List.nil_append]
 rw [if_pos (by omega)]
theorem runs_eq {l : List S144} (h : l.length ≤ 1000000) : acmelaw12_runs.f l = some l := by
 unfold acmelaw12_runs.f
 simp only [Option.bind_some, List.length_nil, List.nil_append]
 rw [if_pos (by omega)]
def manyR (l : List S144) : Bool := decide (l.length > 65 ∨ 12 < l.length ∧ l.length ≤ 60)
theorem rdL6_get {l : List (List S58)} {i : Nat} (h : i < l.length) : rd_L6 l i = l[i] := by simp [rd_L6, h]
theorem rdL8_get {l : List (List S79)} {i : Nat} (h : i < l.length) : rd_L8 l i = l[i] := by simp [rd_L8, h]
theorem many_tail (l : List S144) (ls : List (List S58)) (h5 : ls.length ≤ 5) (i : Int) : Ev (fun k => acmelaw12_many.j1 k l ls i false) (manyR l) := by
 refine Ev.succ ?_
 simp only [acmelaw12_many.j1, Bool.false_eq_true, if_false]
 have hd : decide ((ls.length : Int) > 5) = false := decide_eq_false (by omega)
 rw [hd]
 by_cases g1 : l.length > 65
 ·have e : manyR l = true := by unfold manyR; rw [decide_eq_true_eq]; exact .inl g1
  rw [e]
  simp only [if_pos (show (l.length : Int) > 65 by omega)]
  exact Ev.pure _
 ·simp only [if_neg (show ¬ (l.length : Int) > 65 by omega)]
  by_cases g2 : l.length > 12
  ·simp only [if_pos (show (l.length : Int) > 12 by omega)]
   by_cases g3 : l.length ≤ 60
   ·have e : manyR l = true := by unfold manyR; rw [decide_eq_true_eq]; exact .inr ⟨g2, g3⟩
    rw [e]
    simp only [if_pos (show (l.length : Int) ≤ 60 by omega)]
    exact Ev.pure _
   ·have e : manyR l = false := by unfold manyR; rw [decide_eq_false_iff_not]; omega
    rw [e]
    simp only [if_neg (show ¬ (l.length : Int) ≤ 60 by omega)]
    exact Ev.pure _
  ·have e : manyR l = false := by unfold manyR; rw [decide_eq_false_iff_not]; omega
   rw [e]
   simp only [if_neg (show ¬ (l.length : Int) > 12 by omega)]
   exact Ev.pure _
theorem many_loop (l : List S144) (ls : List (List S58)) (h5 : ls.length ≤ 5) : ∀ (r b : List (List S58)), ls = b ++ r → ∃ v, Ev (fun k => acmelaw12_many.l0 k l ls (b.length : Int)) v ∧ (v = false → manyR l = false ∧ ∀ x ∈ r, x.length ≤ 45)
 | [], b, e => by
  rw [List.append_nil] at e
  subst e
  refine ⟨manyR l, Ev.succ ?_, fun h => ⟨h, fun x hx => by simp at hx⟩⟩
  have q : ¬ (ls.length : Int) < (ls.length : Int) := by omega
  simp only [acmelaw12_many.l0, if_neg q]
  exact many_tail l ls h5 _
 | x :: r, b, e => by
  have hbl : b.length < ls.length := by rw [e]; simp
  have q : (b.length : Int) < (ls.length : Int) := by omega
  have q2 : (0 : Int) ≤ (b.length : Int) := by omega
  have q5 : decide ((b.length : Int) < 5) = true := decide_eq_true (by omega)
  have hx : ls[b.length] = x := by simp only [e]; simp
  obtain ⟨v, hv, hf⟩ := many_loop l ls h5 r (b ++ [x]) (by rw [e, List.append_assoc]; rfl)
  have e1 : ((b ++ [x]).length : Int) = ((b.length + 1 : Nat) : Int) := by simp
  rw [e1] at hv
  have step : ∀ u, Ev (fun k => if (x.length : Int) > 8 then (if (x.length : Int) ≤ 40 then some true else if (x.length : Int) > 45 then some true else acmelaw12_many.l0 k l ls ((b.length + 1 : Nat) : Int)) else if (x.length : Int) > 45 then some true else acmelaw12_many.l0 k l ls ((b.length + 1 : Nat) : Int)) u → Ev (fun k => acmelaw12_many.l0 k l ls (b.length : Int)) u := by
   intro u hu
   refine Ev.succ ?_
   simp only [acmelaw12_many.l0, if_pos q, q5]
   refine Ev.succ ?_
   simp only [acmelaw12_many.j1, if_true, if_pos q, if_pos q2, rdL6_get hbl, hx, idx1 (show b.length ≤ 1000000 by omega)]
   exact hu
  by_cases g1 : x.length > 8
  ·by_cases g2 : x.length ≤ 40
   ·refine ⟨true, step _ ?_, fun h => by cases h⟩
    simp only [if_pos (show (x.length : Int) > 8 by omega), if_pos (show (x.length : Int) ≤ 40 by omega)]
    exact Ev.pure _
   ·by_cases g3 : x.length > 45
    ·refine ⟨true, step _ ?_, fun h => by cases h⟩
     simp only [if_pos (show (x.length : Int) > 8 by omega), if_neg (show ¬ (x.length : Int) ≤ 40 by omega), if_pos (show (x.length : Int) > 45 by omega)]
     exact Ev.pure _
    ·refine ⟨v, step _ ?_, fun h => ⟨(hf h).1, fun y hy => ?_⟩⟩
     ·simp only [if_pos (show (x.length : Int) > 8 by omega), if_neg (show ¬ (x.length : Int) ≤ 40 by omega), if_neg (show ¬ (x.length : Int) > 45 by omega)]
      exact hv
     ·rcases List.mem_cons.1 hy with q | q
      ·subst q; omega
      ·exact (hf h).2 y q
  ·refine ⟨v, step _ ?_, fun h => ⟨(hf h).1, fun y hy => ?_⟩⟩
   ·simp only [if_neg (show ¬ (x.length : Int) > 8 by omega), if_neg (show ¬ (x.length : Int) > 45 by omega)]
    exact hv
   ·rcases List.mem_cons.1 hy with q | q
    ·subst q; omega
    ·exact (hf h).2 y q
theorem many_ex (l : List S144) (ls : List (List S58)) (h5 : ls.length ≤ 5) : ∃ v, Ev (fun k => acmelaw12_many.f k l ls) v ∧ (v = false → manyR l = false ∧ ∀ x ∈ ls, x.length ≤ 45) := by
 have := many_loop l ls h5 ls [] rfl
 simpa [acmelaw12_many.f] using this
section
variable {l : List S144} (hlen : l.length ≤ 60) (hok : ∀ x ∈ l, okRun x) (hap : l.Pairwise apart)
include hlen hok hap in
theorem refVal_ev (x : S58) : Ev (fun k => acmeref12_Causes.f k l x.f0 x.f1 x.f2) (if errOf l x = 0 then sortC (keysOf l x) else [], errOf l x) ∧ (errOf l x = 0 → Srt (sortC (keysOf l x)) ∧ (sortC (keysOf l x)).length ≤ 1000) := by
 have hev := refCauses_ev (m := x.f0) (f := x.f1) (t := x.f2) hlen hok hap
 unfold errOf keysOf
 by_cases k1 : okLot x.f0 x.f1 x.f2
 rotate_left
 ·have e : causesE l x.f0 x.f1 x.f2 = 2 := by unfold causesE; rw [if_pos k1]
  rw [if_neg k1] at hev
  rw [e]
  exact ⟨hev, fun q => absurd q (by decide)⟩
 ·have hft : x.f1 ≤ x.f2 := k1.2.2
  obtain ⟨s1, s2⟩ := sortC_ref (l := l) (m := x.f0) hft
  have s3 := refCs_len (m := x.f0) hap hft
  rw [if_pos k1] at hev
  unfold refEnd at hev
  by_cases k2 : ∃ y ∈ l, longRun y x.f0 x.f1 x.f2
  ·have e : causesE l x.f0 x.f1 x.f2 = 5 := by unfold causesE; rw [if_neg (fun q => q k1), if_pos k2]
   obtain ⟨y, hy, hly⟩ := k2
   have b1 := longRun_hrs hly
   have b2 := hrs_ge (m := x.f0) (f := x.f1) (t := x.f2) hy
   rw [if_pos (by omega)] at hev
   rw [e]
   exact ⟨hev, fun q => absurd q (by decide)⟩
  ·by_cases k3 : (distinctC (allKeys l x.f0 x.f1 x.f2)).length > 1000
   ·have e : causesE l x.f0 x.f1 x.f2 = 5 := by unfold causesE; rw [if_neg (fun q => q k1), if_neg k2, if_pos k3]
    rw [if_pos (by omega)] at hev
    rw [e]
    exact ⟨hev, fun q => absurd q (by decide)⟩
   ·have e : causesE l x.f0 x.f1 x.f2 = 0 := by unfold causesE; rw [if_neg (fun q => q k1), if_neg k2, if_neg k3]
    rw [if_neg (by omega)] at hev
    rw [e, if_pos rfl, s1]
    exact ⟨hev, fun _ => ⟨refCs_srt, by omega⟩⟩
def sortsOf (l : List S144) (ls : List S58) : List (List S79) := ls.map fun x => sortC (keysOf l x)
include hlen hok hap in
theorem lots_loop {ls : List S58} (hls : ls.length ≤ 1000) : ∀ (r b : List S58), ls = b ++ r → Ev (fun k => acmeref12_Lots.l0 k l ls (sortsOf l b) (b.length : Int)) (if allE l r = 0 then sortsOf l ls else [], allE l r)
 | [], b, e => by
  rw [List.append_nil] at e
  subst e
  refine Ev.succ ?_
  have q : ¬ (ls.length : Int) < (ls.length : Int) := by omega
  simp only [acmeref12_Lots.l0, if_neg q]
  exact Ev.pure _
 | x :: r, b, e => by
  have hbl : b.length < ls.length := by rw [e]; simp
  have q : (b.length : Int) < (ls.length : Int) := by omega
  have q2 : (0 : Int) ≤ (b.length : Int) := by omega
  have hx : ls[b.length] = x := by simp only [e]; simp
  have hrd : rd_T58 ls (b.length : Int) = x := by simp [rd_T58, hbl, hx]
  have ih := lots_loop hls r (b ++ [x]) (by rw [e, List.append_assoc]; rfl)
  have e1 : ((b ++ [x]).length : Int) = ((b.length + 1 : Nat) : Int) := by simp
  have e2 : sortsOf l (b ++ [x]) = sortsOf l b ++ [sortC (keysOf l x)] := by unfold sortsOf; rw [List.map_append]; rfl
  rw [e1, e2] at ih
  refine Ev.succ ?_
  simp only [acmeref12_Lots.l0, if_pos q, if_pos q2, hrd]
  refine Ev.bind (refVal_ev hlen hok hap x).1 ?_
  by_cases g : errOf l x = 0
  ·have eA : allE l (x :: r) = allE l r := by rw [allE, if_neg (by simp [g])]
   rw [eA]
   have hl6 : (sortsOf l b).length < 5864062014805 := by unfold sortsOf; rw [List.length_map]; omega
   simp only [if_pos g, if_pos hl6, idx1 (show b.length ≤ 1000000 by omega)]
   exact ih
  ·have eA : allE l (x :: r) = errOf l x := by rw [allE, if_pos g]
   rw [eA]
   simp only [if_neg g]
   exact Ev.pure _
include hlen hok hap in
theorem lots_ev {ls : List S58} (hls : ls.length ≤ 1000) : Ev (fun k => acmeref12_Lots.f k l ls) (if allE l ls = 0 then sortsOf l ls else [], allE l ls) := by
 have := lots_loop hlen hok hap hls ls [] rfl
 simpa [acmeref12_Lots.f, sortsOf] using this
end
theorem caused_loop (L : List S79) (x : S79) (hL : L.length ≤ 1000000) : ∀ (r b : List S79), L = b ++ r → Ev (fun k => acmeref12_Caused.l0 k L (b.length : Int) x.f0 x.f1 x.f2) (decide (x ∈ r))
 | [], b, e => by
  rw [List.append_nil] at e
  subst e
  refine Ev.succ ?_
  have q : ¬ (L.length : Int) < (L.length : Int) := by omega
  simp only [acmeref12_Caused.l0, if_neg q]
  have : decide (x ∈ ([] : List S79)) = false := by simp
  rw [this]
  exact Ev.pure _
 | y :: r, b, e => by
  have hbl : b.length < L.length := by rw [e]; simp
  have q : (b.length : Int) < (L.length : Int) := by omega
  have q2 : (0 : Int) ≤ (b.length : Int) := by omega
  have hx : L[b.length] = y := by simp only [e]; simp
  have ih := caused_loop L x hL r (b ++ [y]) (by rw [e, List.append_assoc]; rfl)
  have e1 : ((b ++ [y]).length : Int) = ((b.length + 1 : Nat) : Int) := by simp
  rw [e1] at ih
  have e2 : (y.f0 == x.f0 && (y.f1 == x.f1 && y.f2 == x.f2)) = decide (x = y) := by
   obtain ⟨a, b, c⟩ := x
   obtain ⟨a', b', c'⟩ := y
   rw [Bool.eq_iff_iff]
   simp only [Bool.and_eq_true, beq_iff_eq, decide_eq_true_eq, S79.mk.injEq]
   exact ⟨fun ⟨h1, h2, h3⟩ => ⟨h1.symm, h2.symm, h3.symm⟩, fun ⟨h1, h2, h3⟩ => ⟨h1.symm, h2.symm, h3.symm⟩⟩
  refine Ev.succ ?_
  simp only [acmeref12_Caused.l0, if_pos q, if_pos q2, rd79_get hbl, hx, e2, decide_eq_true_eq, idx1 (show b.length ≤ 1000000 by omega)]
  by_cases g : x = y
  ·simp only [if_pos g]
   have : decide (x ∈ y :: r) = true := by simp [g]
   rw [this]
   exact Ev.pure _
  ·simp only [if_neg g]
   have : decide (x ∈ y :: r) = decide (x ∈ r) := by simp [g]
   rw [this]
   exact ih
theorem caused_ev (L : List S79) (x : S79) (hL : L.length ≤ 1000000) : Ev (fun k => acmeref12_Caused.f k L x.f0 x.f1 x.f2) (decide (x ∈ L)) := by
 have := caused_loop L x hL L [] rfl
 simpa [acmeref12_Caused.f] using this
section
variable {kss gss : List (List S79)} {K0 : List S79} {kr : List (List S79)} (hk : kss = K0 :: kr) (h1 : ∀ ks ∈ kss, ks.length ≤ 1000000) (h2 : ∀ ks ∈ gss, ks.length ≤ 1000000) (hn1 : kss.length ≤ 1000) (hn2 : gss.length ≤ 1000)
include hk h2 hn2 hn1 h1 in
theorem cul_l2 {out : List S79} {i : Nat} (hi : i < K0.length) (ho : out.length ≤ 1000000) {v : List S79 × Int} : ∀ (r b : List (List S79)), gss = b ++ r → ∀ ok : Bool,
  Ev (fun k => acmeref12_Culprits.l0 k kss gss (if (ok && !(r.any fun ks => decide (K0[i] ∈ ks))) = true then out ++ [K0[i]] else out) ((i + 1 : Nat) : Int)) v → Ev (fun k => acmeref12_Culprits.l2 k kss gss out (i : Int) ok (b.length : Int)) v
 | [], b, e, ok, hv => by
  rw [List.append_nil] at e
  subst e
  have h0 : (0 : Int) < (kss.length : Int) := by rw [hk, List.length_cons]; omega
  have hr0 : rd_L8 kss 0 = K0 := by rw [hk]; rfl
  have q3 : (0 : Int) ≤ (i : Int) := by omega
  have q4 : (i : Int) < (K0.length : Int) := by omega
  have q5 : out.length < 5864062014805 := by omega
  have hiK : i ≤ 1000000 := by have := h1 K0 (by rw [hk]; simp); omega
  refine Ev.succ ?_
  have q : ¬ (gss.length : Int) < (gss.length : Int) := by omega
  simp only [acmeref12_Culprits.l2, if_neg q, hr0, if_pos h0, if_pos q3, if_pos q4, if_pos q5, rd79_get hi, idx1 hiK]
  cases ok with
  | true =>
   simp only [if_true]
   simpa using hv
  | false =>
   simp only [Bool.false_eq_true, if_false]
   simpa using hv
 | g :: r, b, e, ok, hv => by
  have h0 : (0 : Int) < (kss.length : Int) := by rw [hk, List.length_cons]; omega
  have hr0 : rd_L8 kss 0 = K0 := by rw [hk]; rfl
  have q3 : (0 : Int) ≤ (i : Int) := by omega
  have q4 : (i : Int) < (K0.length : Int) := by omega
  have hbl : b.length < gss.length := by rw [e]; simp
  have q : (b.length : Int) < (gss.length : Int) := by omega
  have q2 : (0 : Int) ≤ (b.length : Int) := by omega
  have hx : gss[b.length] = g := by simp only [e]; simp
  have hg := h2 g (by rw [e]; simp)
  have e1 : ((b ++ [g]).length : Int) = ((b.length + 1 : Nat) : Int) := by simp
  have ih := cul_l2 hi ho (v := v) r (b ++ [g]) (by rw [e, List.append_assoc]; rfl)
  rw [e1] at ih
  refine Ev.succ ?_
  simp only [acmeref12_Culprits.l2, if_pos q, if_pos q2, hr0, if_pos h0, if_pos q3, if_pos q4, rd79_get hi, rdL8_get hbl, hx, idx1 (show b.length ≤ 1000000 by omega)]
  cases ok with
  | true =>
   simp only [if_true]
   refine Ev.bind (caused_ev g K0[i] hg) ?_
   refine ih _ ?_
   simpa using hv
  | false =>
   simp only [Bool.false_eq_true, if_false]
   refine ih _ ?_
   simpa using hv
include hk h2 hn2 hn1 h1 in
theorem cul_l1 {out : List S79} {i : Nat} (hi : i < K0.length) (ho : out.length ≤ 1000000) {v : List S79 × Int} : ∀ (r b : List (List S79)), kss = b ++ r → ∀ ok : Bool,
  Ev (fun k => acmeref12_Culprits.l2 k kss gss out (i : Int) (ok && !(r.any fun ks => !decide (K0[i] ∈ ks))) 0) v → Ev (fun k => acmeref12_Culprits.l1 k kss gss out (i : Int) ok (b.length : Int)) v
 | [], b, e, ok, hv => by
  rw [List.append_nil] at e
  subst e
  refine Ev.succ ?_
  have q : ¬ (kss.length : Int) < (kss.length : Int) := by omega
  simp only [acmeref12_Culprits.l1, if_neg q]
  simpa using hv
 | g :: r, b, e, ok, hv => by
  have h0 : (0 : Int) < (kss.length : Int) := by rw [hk, List.length_cons]; omega
  have hr0 : rd_L8 kss 0 = K0 := by rw [hk]; rfl
  have q3 : (0 : Int) ≤ (i : Int) := by omega
  have q4 : (i : Int) < (K0.length : Int) := by omega
  have hbl : b.length < kss.length := by rw [e]; simp
  have q : (b.length : Int) < (kss.length : Int) := by omega
  have q2 : (0 : Int) ≤ (b.length : Int) := by omega
  have hx : kss[b.length] = g := by simp only [e]; simp
  have hg := h1 g (by rw [e]; simp)
  have e1 : ((b ++ [g]).length : Int) = ((b.length + 1 : Nat) : Int) := by simp
  have ih := cul_l1 hi ho (v := v) r (b ++ [g]) (by rw [e, List.append_assoc]; rfl)
  rw [e1] at ih
  refine Ev.succ ?_
  simp only [acmeref12_Culprits.l1, if_pos q, if_pos q2, hr0, if_pos h0, if_pos q3, if_pos q4, rd79_get hi, rdL8_get hbl, hx, idx1 (show b.length ≤ 1000000 by omega)]
  cases ok with
  | true =>
   simp only [if_true]
   refine Ev.bind (caused_ev g K0[i] hg) ?_
   refine ih _ ?_
   simpa using hv
  | false =>
   simp only [Bool.false_eq_true, if_false]
   refine ih _ ?_
   simpa using hv
include hk h2 hn2 hn1 h1 in
theorem cul_l0 : ∀ (r b : List S79), K0 = b ++ r → Ev (fun k => acmeref12_Culprits.l0 k kss gss (b.filter (gdB kss gss)) (b.length : Int)) (K0.filter (gdB kss gss), 0)
 | [], b, e => by
  rw [List.append_nil] at e
  have h0 : (0 : Int) < (kss.length : Int) := by rw [hk, List.length_cons]; omega
  have hr0 : rd_L8 kss 0 = K0 := by rw [hk]; rfl
  refine Ev.succ ?_
  have q : ¬ (b.length : Int) < (K0.length : Int) := by rw [e]; omega
  simp only [acmeref12_Culprits.l0, if_pos h0, hr0, if_neg q]
  rw [e]
  exact Ev.pure _
 | x :: r, b, e => by
  have h0 : (0 : Int) < (kss.length : Int) := by rw [hk, List.length_cons]; omega
  have hr0 : rd_L8 kss 0 = K0 := by rw [hk]; rfl
  have hbl : b.length < K0.length := by rw [e]; simp
  have q : (b.length : Int) < (K0.length : Int) := by omega
  have hx : K0[b.length] = x := by simp only [e]; simp
  have hK := h1 K0 (by rw [hk]; simp)
  have ih := cul_l0 r (b ++ [x]) (by rw [e, List.append_assoc]; rfl)
  have e1 : ((b ++ [x]).length : Int) = ((b.length + 1 : Nat) : Int) := by simp
  rw [e1] at ih
  refine Ev.succ ?_
  simp only [acmeref12_Culprits.l0, if_pos h0, hr0, if_pos q]
  have hfl : (b.filter (gdB kss gss)).length ≤ 1000000 := by have := List.length_filter_le (gdB kss gss) b; omega
  refine cul_l1 hk h1 h2 hn1 hn2 hbl hfl kss [] rfl true ?_
  refine cul_l2 hk h1 h2 hn1 hn2 hbl hfl gss [] rfl _ ?_
  rw [hx]
  have e3 : ((true && !(kss.any fun ks => !decide (x ∈ ks))) && !(gss.any fun ks => decide (x ∈ ks))) = gdB kss gss x := by unfold gdB; rw [Bool.true_and]
  rw [e3]
  rw [List.filter_append] at ih
  cases hg : gdB kss gss x with
  | true =>
   simp only [List.filter_cons, hg, if_true, List.filter_nil] at ih
   simpa using ih
  | false =>
   simp only [List.filter_cons, hg, Bool.false_eq_true, if_false, List.filter_nil, List.append_nil] at ih
   simpa using ih
end
theorem sortC_mem_iff {ks : List S79} {x : S79} : x ∈ sortC ks ↔ x ∈ ks := by
 unfold sortC
 rw [List.mem_mergeSort]
 obtain ⟨_, t2⟩ := distinctC_spec ks [] (by simp)
 show x ∈ distinctC ks ↔ _
 unfold distinctC
 rw [t2]; simp
theorem gdB_sort (l : List S144) (bad good : List S58) (x : S79) : gdB (sortsOf l bad) (sortsOf l good) x = gdB (bad.map (keysOf l)) (good.map (keysOf l)) x := by
 unfold gdB sortsOf
 simp only [List.any_map, Function.comp_def, sortC_mem_iff]
def culV (l : List S144) (bad good : List S58) : List S79 × Int :=
 if 40 < bad.length ∨ 40 < good.length then ([], 5) else if bad.length = 0 then ([], 7) else if allE l bad ≠ 0 then ([], allE l bad) else if allE l good ≠ 0 then ([], allE l good) else (sortC (culKeys (bad.map (keysOf l)) (good.map (keysOf l))), 0)
theorem refCul_ev {l : List S144} (hlen : l.length ≤ 60) (hc : chk l = 0) (bad good : List S58) : Ev (fun k => acmeref12_Culprits.f k l bad good) (culV l bad good) ∧ (culV l bad good).1.length ≤ 1000000 := by
 have hcf : chkF [] l = 0 := by unfold chk at hc; rwa [if_neg (by omega)] at hc
 obtain ⟨hok, hap⟩ := chkF_zero l [] (by simp) (by simp) hcf
 rw [List.nil_append] at hok hap
 have hrc := rcheck_ev l
 rw [hc] at hrc
 have base : ∀ v, (Ev (fun k => acmeref12_Culprits.j0 k l bad good (decide (40 < bad.length ∨ 40 < good.length))) v) → Ev (fun k => acmeref12_Culprits.f k l bad good) v := by
  intro v hv
  simp only [acmeref12_Culprits.f]
  refine Ev.bind hrc ?_
  simp only [if_true]
  by_cases g1 : 40 < bad.length
  ·simp only [if_pos (show (bad.length : Int) > 40 by omega)]
   rw [decide_eq_true (.inl g1)] at hv
   exact hv
  ·simp only [if_neg (show ¬ (bad.length : Int) > 40 by omega)]
   have : decide (40 < bad.length ∨ 40 < good.length) = decide ((good.length : Int) > 40) := by apply decide_eq_decide.2; omega
   rw [this] at hv
   exact hv
 unfold culV
 by_cases g1 : 40 < bad.length ∨ 40 < good.length
 ·rw [if_pos g1]
  refine ⟨base _ ?_, by simp⟩
  rw [decide_eq_true g1]
  refine Ev.succ ?_
  simp only [acmeref12_Culprits.j0, if_true]
  exact Ev.pure _
 ·rw [if_neg g1]
  rw [decide_eq_false g1] at base
  by_cases g2 : bad.length = 0
  ·rw [if_pos g2]
   refine ⟨base _ (Ev.succ ?_), by simp⟩
   simp only [acmeref12_Culprits.j0, Bool.false_eq_true, if_false, if_pos (show (bad.length : Int) = 0 by omega)]
   exact Ev.pure _
  ·rw [if_neg g2]
   have hb := lots_ev hlen hok hap (ls := bad) (by omega)
   have hg := lots_ev hlen hok hap (ls := good) (by omega)
   by_cases g3 : allE l bad = 0
   rotate_left
   ·rw [if_pos g3]
    rw [if_neg g3] at hb
    refine ⟨base _ (Ev.succ ?_), by simp⟩
    simp only [acmeref12_Culprits.j0, Bool.false_eq_true, if_false, if_neg (show ¬ (bad.length : Int) = 0 by omega)]
    refine Ev.bind hb ?_
    simp only [if_neg g3]
    exact Ev.pure _
   ·rw [if_neg (by simp [g3])]
    rw [if_pos g3] at hb
    by_cases g4 : allE l good = 0
    rotate_left
    ·rw [if_pos g4]
     rw [if_neg g4] at hg
     refine ⟨base _ (Ev.succ ?_), by simp⟩
     simp only [acmeref12_Culprits.j0, Bool.false_eq_true, if_false, if_neg (show ¬ (bad.length : Int) = 0 by omega)]
     refine Ev.bind hb ?_
     simp only [if_pos g3]
     refine Ev.bind hg ?_
     simp only [if_neg g4]
     exact Ev.pure _
    ·rw [if_neg (by simp [g4])]
     rw [if_pos g4] at hg
     obtain ⟨x0, br, hbad⟩ : ∃ x0 br, bad = x0 :: br := List.exists_cons_of_ne_nil (fun e => g2 (by rw [e]; rfl))
     have hK : sortsOf l bad = sortC (keysOf l x0) :: sortsOf l br := by rw [hbad]; rfl
     have hb1 : ∀ (ls : List S58), allE l ls = 0 → ∀ ks ∈ sortsOf l ls, ks.length ≤ 1000000 := by
      intro ls h0 ks hks
      obtain ⟨x, hx, rfl⟩ := List.mem_map.1 hks
      have := ((refVal_ev hlen hok hap x).2 (allE_zero' h0 x hx)).2
      omega
     have hl0 := cul_l0 hK (hb1 bad g3) (hb1 good g4) (by unfold sortsOf; rw [List.length_map]; omega) (by unfold sortsOf; rw [List.length_map]; omega) (sortC (keysOf l x0)) [] rfl
     have hsr := ((refVal_ev hlen hok hap x0).2 (allE_zero' g3 x0 (by rw [hbad]; simp)))
     have hfin : sortC (culKeys (bad.map (keysOf l)) (good.map (keysOf l))) = (sortC (keysOf l x0)).filter (gdB (sortsOf l bad) (sortsOf l good)) := by
      refine (srt_sortC (List.Pairwise.filter _ hsr.1) (fun y => ?_)).1
      unfold culKeys
      rw [List.mem_filter, sortC_mem_iff, gdB_sort, hbad, List.map_cons, List.headD_cons, List.mem_filter]
     rw [hfin]
     refine ⟨base _ (Ev.succ ?_), ?_⟩
     ·simp only [acmeref12_Culprits.j0, Bool.false_eq_true, if_false, if_neg (show ¬ (bad.length : Int) = 0 by omega)]
      refine Ev.bind hb ?_
      simp only [if_pos g3]
      refine Ev.bind hg ?_
      simp only [if_pos g4]
      simpa using hl0
     ·have := List.length_filter_le (gdB (sortsOf l bad) (sortsOf l good)) (sortC (keysOf l x0))
      have := hsr.2
      show ((sortC (keysOf l x0)).filter _).length ≤ _
      omega
theorem millCul_eq {l : List S144} (hlen : l.length ≤ 12 ∨ 60 < l.length) (bad good : List S58) : mill_Culprits.f l bad good = some (if chk l ≠ 0 then ([], chk l) else culV l bad good) := by
 unfold mill_Culprits.f culF
 rw [mcheck_eq hlen (by omega), Option.bind_some]
 by_cases g : chk l = 0
 rotate_left
 ·rw [if_pos g, if_pos g, Option.bind_some, sortC_nil]
 ·have eR : (if chk l ≠ 0 then (([] : List S79), chk l) else culV l bad good) = culV l bad good := if_neg (by simp [g])
  rw [eR, if_neg (by simp [g])]
  clear eR
  have hle : l.length ≤ 60 := by
   unfold chk at g
   split at g
   ·cases g
   ·omega
  have hcf : chkF [] l = 0 := by unfold chk at g; rwa [if_neg (by omega)] at g
  obtain ⟨hok, hap⟩ := chkF_zero l [] (by simp) (by simp) hcf
  rw [List.nil_append] at hok
  unfold culV
  by_cases g1 : 40 < bad.length ∨ 40 < good.length
  ·rw [if_pos g1, if_pos g1, Option.bind_some, sortC_nil]
  ·rw [if_neg g1, if_neg g1]
   by_cases g2 : bad.length = 0
   ·rw [if_pos g2, if_pos g2, Option.bind_some, sortC_nil]
   ·rw [if_neg g2, if_neg g2, if_pos ⟨by omega, hok⟩]
    by_cases g3 : allE l bad = 0
    rotate_left
    ·rw [if_pos g3, if_pos g3, Option.bind_some, sortC_nil]
    ·rw [if_neg (show ¬ (allE l bad ≠ 0) by simp [g3]), if_neg (show ¬ (allE l bad ≠ 0) by simp [g3])]
     by_cases g4 : allE l good = 0
     rotate_left
     ·rw [if_pos g4, if_pos g4, Option.bind_some, sortC_nil]
     ·rw [if_neg (show ¬ (allE l good ≠ 0) by simp [g4]), if_neg (show ¬ (allE l good ≠ 0) by simp [g4]), Option.bind_some]
end Go.Proofs.Ytiaiecfnpompcaa.T
namespace Go.Proofs.Ytiaiecfnpompcaa.T
open Go.RowKit Go.Proofs.YtiaiecfnpompcaaW.PrintWords Go.Proofs.YtiaiecfnpompcaaW.PrintLast
set_option linter.unusedVariables false
theorem culprits_law (l : List S144) (bad good : List S58) (hm : manyR l = false) (hb : bad.length ≤ 45) (hg : good.length ≤ 45) : Ev (fun k => acmelaw12_MillCulprits.j0 k l bad good false) true := by
 have hlen : l.length ≤ 12 ∨ 60 < l.length ∧ l.length ≤ 65 := by
  unfold manyR at hm
  rw [decide_eq_false_iff_not] at hm
  omega
 have hc := millCul_eq (l := l) (by omega) bad good
 have href : ∃ r1 r2, (if chk l ≠ 0 then (([] : List S79), chk l) else culV l bad good) = (r1, r2) ∧ r1.length ≤ 1000000 ∧ Ev (fun k => acmeref12_Culprits.f k l bad good) (r1, r2) := by
  by_cases g : chk l = 0
  ·have hle : l.length ≤ 60 := by
    unfold chk at g
    split at g
    ·cases g
    ·omega
   obtain ⟨h1, h2⟩ := refCul_ev hle g bad good
   rw [if_neg (by simp [g])]
   generalize culV l bad good = v at h1 h2
   obtain ⟨v1, v2⟩ := v
   exact ⟨v1, v2, rfl, h2, h1⟩
  ·rw [if_pos g]
   refine ⟨_, _, rfl, by simp, ?_⟩
   simp only [acmeref12_Culprits.f]
   refine Ev.bind (rcheck_ev l) ?_
   simp only [if_neg g]
   exact Ev.pure _
 obtain ⟨r1, r2, e, hr, hev⟩ := href
 rw [e] at hc
 refine Ev.succ ?_
 simp only [acmelaw12_MillCulprits.j0, Bool.false_eq_true, if_false, runs_eq (show l.length ≤ 1000000 by omega), lots_eq (show bad.length ≤ 1000000 by omega), lots_eq (show good.length ≤ 1000000 by omega), Option.bind_some, hc]
 refine Ev.bind hev ?_
 refine Ev.bind (same144_ev l (by omega)) ?_
 simp only [if_true]
 refine Ev.bind (alike_ev bad (by omega)) ?_
 simp only [if_true]
 refine Ev.bind (alike_ev good (by omega)) ?_
 simp only [if_true]
 refine Ev.bind (same79_ev r1 hr) ?_
 simp only [if_true, acmelaw12_known.f, Option.bind_some]
 exact Ev.pure _
theorem pure_MillCulprits_ev (l : List S144) (bad good : List S58) : Ev (fun k => acmelaw12_MillCulprits.f k l bad good) true := by
 have hkn : Ev (fun k => acmelaw12_MillCulprits.j0 k l bad good true) true := by
  refine Ev.succ ?_
  simp only [acmelaw12_MillCulprits.j0, if_true, acmelaw12_known.f, Option.bind_some]
  exact Ev.pure _
 obtain ⟨v, hv, hf⟩ := many_ex l [bad, good] (by simp)
 simp only [acmelaw12_MillCulprits.f]
 refine Ev.bind hv ?_
 cases v with
 | true => simp only [if_true]; exact hkn
 | false =>
  obtain ⟨hm, hls⟩ := hf rfl
  have hb := hls bad (by simp)
  have hg := hls good (by simp)
  simp only [Bool.false_eq_true, if_false]
  obtain ⟨b1, h1⟩ := long_ex bad (by omega)
  obtain ⟨b2, h2⟩ := long_ex good (by omega)
  refine Ev.bind h1 ?_
  cases b1 with
  | true => simp only [if_true]; exact hkn
  | false =>
   simp only [Bool.false_eq_true, if_false]
   refine Ev.bind h2 ?_
   cases b2 with
   | true => exact hkn
   | false => exact culprits_law l bad good hm hb hg
theorem pure_MillCulprits (l0 : List S144) (l1 : List S58) (l2 : List S58) (w0 : ∀ x ∈ l0, wf144 x) (w1 : ∀ x ∈ l1, wf58 x) (w2 : ∀ x ∈ l2, wf58 x) : ∃ k, acmelaw12_MillCulprits.f k l0 l1 l2 = some true :=
 (pure_MillCulprits_ev l0 l1 l2).ex
end Go.Proofs.Ytiaiecfnpompcaa.T
namespace Go.Proofs.Ytiaiecfnpompcaa.millCulprits
open Go.ChangeShapes Go.WideShapes Go.ChangeAt Go.RowKit Go.Proofs.Ytiaiecfnpompcaa.T
open Go.ChangeMaps (open_string shut_string)
set_option linter.unusedVariables false
theorem own : ownKnob Try.prog.godebug = none := by kernel_rfl
theorem laidOut : laidOutB Try.prog = true := by kernel_rfl
set_option maxRecDepth 100000 in
theorem lifted (os : Os) (started : os.Started) (H : Type) (enc : TypeId × Value → H) :
  ReturnsInHanded {} Try.checked os 7 .any (Rows.millCulpritsSpec.pre6 enc Try.prog Try.f7 Rows.millCulpritsRow.domain false) (Rows.millCulpritsSpec.post enc Try.prog Try.f7 false true false false) := by
 refine returnsInHanded_of_change_sized (C := Try.checked) own started (by kernel_rfl) Try.func7
  (ChangeSpec.witness6 (enc := enc) (C := Try.checked) false ⟨#[], #[.slice none 0 0, .slice none 0 0, .slice none 0 0], []⟩ 8 (by kernel_rfl) (by kernel_rfl) (by kernel_rfl) (by kernel_rfl)) ?_
 intro W base args ds gs before hval0 hW hcnd hsz0 _
 have hval : ∀ (j : Nat) t v, Try.f7.params[j]? = some t → args[j]? = some v → Value.okWide Try.prog W .any base t v := hval0
 have hW' := hW
 obtain ⟨p, q, hA0, hV, rfl, hfz, hnd⟩ := hW
 have hA : DataW.TrodAll enc Try.prog W 0 (fun _ => true) true Try.f7.params.toList args.toList ds p := hA0
 rw [Try.params7] at hA hval
 obtain ⟨v0, vs0, d0, ds0, p0, q0, hargs, rfl, rfl, h0, r0⟩ := trodAll_cons hA
 obtain ⟨v1, vs1, d1, ds1, p1, q1, rfl, rfl, rfl, h1, r1⟩ := trodAll_cons r0
 obtain ⟨v2, vs2, d2, ds2, p2, q2, rfl, rfl, rfl, h2, r2⟩ := trodAll_cons r1
 obtain ⟨rfl, rfl, rfl⟩ := trodAll_nil r2
 obtain rfl : args = #[v0, v1, v2] := by cases args; simp_all
 obtain ⟨rfl, rfl⟩ := trodVars_none hV
 have k0 := h0
 have lt0 : ∀ x ∈ p0, x.block < W.heap.size := by obtain ⟨m, hm⟩ := k0; exact DataW.trod_lt m _ _ _ hm
 obtain ⟨A0, len0, cap0, rfl⟩ := okWide_slice Try.underlying56 (hval 0 56 v0 rfl rfl)
 obtain ⟨l0, rfl, C0, c0, w0⟩ := openS56 h0
 have k1 := h1
 have lt1 : ∀ x ∈ p1, x.block < W.heap.size := by obtain ⟨m, hm⟩ := k1; exact DataW.trod_lt m _ _ _ hm
 obtain ⟨A1, len1, cap1, rfl⟩ := okWide_slice Try.underlying68 (hval 1 68 v1 rfl rfl)
 obtain ⟨l1, rfl, C1, c1, w1⟩ := openS68 h1
 have k2 := h2
 have lt2 : ∀ x ∈ p2, x.block < W.heap.size := by obtain ⟨m, hm⟩ := k2; exact DataW.trod_lt m _ _ _ hm
 obtain ⟨A2, len2, cap2, rfl⟩ := okWide_slice Try.underlying68 (hval 2 68 v2 rfl rfl)
 obtain ⟨l2, rfl, C2, c2, w2⟩ := openS68 h2
 clear hA0 hval0 hsz0
 obtain ⟨k, hk⟩ := pure_MillCulprits l0 l1 l2 w0 w1 w2
 refine (acmelaw12_MillCulprits.calls k A0 cap0 l0 A1 cap1 l1 A2 cap2 l2 true W C0 c0 C1 c1 C2 c2 hk).mono fun e W' ⟨he, bel⟩ => ?_
 subst he
 exact ⟨_, rfl, _, _, _, [], _, [], hW', trodAll_mk1 (shut_bool Try.underlying4 _), (trodAll_cons_mk (Below.trod laidOut (by kernel_rfl) (of_decide_eq_true (by kernel_rfl)) k0 bel lt0) (trodAll_cons_mk (Below.trod laidOut (by kernel_rfl) (of_decide_eq_true (by kernel_rfl)) k1 bel lt1) (trodAll_cons_mk (Below.trod laidOut (by kernel_rfl) (of_decide_eq_true (by kernel_rfl)) k2 bel lt2) trodAll_mk0))), rfl, bel.frame _, fun h => by cases h⟩
theorem over : Rows.millCulpritsRow.holds Try.pinned (OpenSpec.ofChange Rows.millCulpritsSpec) :=
 OpenClaim.holds_of_wide 7 Try.f7 rfl rfl rfl rfl rfl rfl rfl ⟨rfl, rfl, rfl, rfl, rfl⟩ rfl rfl rfl rfl rfl (by kernel_rfl) Try.func7 (by kernel_rfl)
  (of_decide_eq_true (by kernel_rfl)) (by unfold Func.isWrapper; first | (rw [if_pos (by decide +kernel)]; kernel_rfl) | (rw [if_neg (by decide +kernel)]; exact ⟨rfl, rfl⟩))
  (fun os started H enc _ => lifted os started H enc)
theorem proved : Rows.MillCulpritsSaid := over
end Go.Proofs.Ytiaiecfnpompcaa.millCulprits
namespace Go.Proofs.Ytiaiecfnpompcaa
theorem millCulprits_holds : Rows.MillCulpritsSaid := millCulprits.proved
end Go.Proofs.Ytiaiecfnpompcaa
