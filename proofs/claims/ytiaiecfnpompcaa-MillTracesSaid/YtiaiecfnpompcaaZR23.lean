-- cut down, squeezed and laid together by pack.py (a program of this repository) out of this seat's texts
import Derived.WalkKit
import Derived.MapKept
import Derived.RangeFuncNested
import Derived.RangeFuncBound
import Derived.RangeFuncCalls
import Derived.RangeFuncLeaves
import Derived.Shelf.Abstract
import Derived.Shelf.RegionOpen
import Derived.OwnWalkIn
import Derived.TacticsInMore
import Derived.LoopNIn
import Derived.LoopIn
import Derived.Shelf.SlSortCmp.InsertionK
import Derived.ChangeKeysEq
import Derived.ProofKit
import Derived.OpenShut
import Derived.ShutString
import Derived.ChangeOld
import Derived.Below
import Derived.SizedLaws
import Derived.Carry
import Derived.Test.YtiaiecfnpompcaaRows
import Derived.Test.YtiaiecfnpompcaaZR18
import Derived.Test.YtiaiecfnpompcaaZR20
import Derived.Test.YtiaiecfnpompcaaZR15
import Derived.Test.YtiaiecfnpompcaaZR2
import Derived.Test.YtiaiecfnpompcaaZR13
import Derived.Test.YtiaiecfnpompcaaZR10
import Derived.Test.YtiaiecfnpompcaaZR14
import Derived.Test.YtiaiecfnpompcaaZR19
import Derived.Test.YtiaiecfnpompcaaZR3
import Derived.Test.YtiaiecfnpompcaaZR9
import Derived.Test.YtiaiecfnpompcaaZR4
import Derived.Test.YtiaiecfnpompcaaZR12
import Derived.Test.YtiaiecfnpompcaaZR8
import Derived.Test.YtiaiecfnpompcaaZR6
import Derived.Test.YtiaiecfnpompcaaZR7
import Derived.Test.YtiaiecfnpompcaaZR11
import Derived.Test.YtiaiecfnpompcaaZR5
import Derived.Test.YtiaiecfnpompcaaZR1
import Derived.Test.YtiaiecfnpompcaaZR16
import Derived.Test.YtiaiecfnpompcaaZR17
import Derived.Test.YtiaiecfnpompcaaZR22
import Derived.Test.YtiaiecfnpompcaaZR21
namespace Go.Proofs.Ytiaiecfnpompcaa.T
open Go.RowKit Go.Proofs.YtiaiecfnpompcaaW.PrintWords
set_option linter.unusedVariables false
set_option linter.unusedSimpArgs false
def addR : List S79 → S79 → List S79
 | [], c => [c]
 | x :: xs, c => if lt79 x c = true then x :: addR xs c else if x = c then x :: xs else c :: x :: xs
theorem XhS {x y z : S79} (h1 : lt79 x y = true) (h2 : lt79 y z = true) : lt79 x z = true := by
 rw [Js] at *; omega
theorem XhT {x y : S79} (h1 : lt79 x y = true) : x ≠ y := by
 intro e; subst e; rw [Js] at h1; omega
theorem Xha {x y : S79} (h1 : ¬ lt79 x y = true) (h2 : x ≠ y) : lt79 y x = true := by
 rw [Js] at *
 cases x with | mk a b c =>
 cases y with | mk d e f =>
 dsimp only at *
 have h3 : ¬ (a = d ∧ b = e ∧ c = f) := by
  rintro ⟨rfl, rfl, rfl⟩; exact h2 rfl
 omega
theorem XbQ (c y : S79) : ∀ xs : List S79, y ∈ addR xs c ↔ y ∈ xs ∨ y = c
 | [] => by simp [addR]
 | x :: xs => by
  have ih := XbQ c y xs
  unfold addR
  split
  ·rw [List.mem_cons, ih, List.mem_cons]
   constructor
   ·rintro (q | q | q)
    ·exact .inl (.inl q)
    ·exact .inl (.inr q)
    ·exact .inr q
   ·rintro ((q | q) | q)
    ·exact .inl q
    ·exact .inr (.inl q)
    ·exact .inr (.inr q)
  ·split
   ·rename_i e
    exact ⟨.inl, fun q => q.elim id (fun q => by rw [q, ← e]; simp)⟩
   ·rw [List.mem_cons]
    exact ⟨fun q => q.symm, fun q => q.symm⟩
def Srt (l : List S79) : Prop := l.Pairwise fun x y => lt79 x y = true
theorem Xc7 (c : S79) : ∀ {xs : List S79}, Srt xs → Srt (addR xs c)
 | [], _ => by simp [addR, Srt]
 | x :: xs, h => by
  obtain ⟨h1, h2⟩ := List.pairwise_cons.1 h
  unfold addR
  split
  ·rename_i g
   refine List.pairwise_cons.2 ⟨fun y hy => ?_, Xc7 c h2⟩
   rcases (XbQ c y xs).1 hy with q | q
   ·exact h1 y q
   ·rw [q]; exact g
  ·rename_i g
   split
   ·exact h
   ·rename_i g2
    have g3 := Xha g g2
    refine List.pairwise_cons.2 ⟨fun y hy => ?_, h⟩
    rcases List.mem_cons.1 hy with q | q
    ·rw [q]; exact g3
    ·exact XhS g3 (h1 y q)
theorem Srt.nodup {l : List S79} (h : Srt l) : l.Nodup := List.Pairwise.imp (fun h => XhT h) h
theorem Xdu {L ks : List S79} (h : Srt L) (hm : ∀ y, y ∈ L ↔ y ∈ ks) : X8 ks = L ∧ (XD ks).length = L.length := by
 obtain ⟨q1, q2⟩ := Y2 ks [] (by simp)
 have hp : (XD ks).Perm L := (List.perm_ext_iff_of_nodup q1 h.nodup).2 fun y => by rw [q2, hm]; simp
 refine ⟨?_, hp.length_eq⟩
 unfold X8
 rw [Xes hp]
 refine List.mergeSort_of_pairwise (List.Pairwise.imp (fun {a b} g => ?_) h)
 rw [Bool.not_eq_true']
 rw [← Bool.not_eq_true]
 intro g2
 rw [Js] at g g2
 omega
def Jl (x : S144) (m f t : Int) : Prop := x.f0 = m ∧ mx x.f1 f ≤ mn x.f2 t
instance (x : S144) (m f t : Int) : Decidable (Jl x m f t) := by unfold Jl; infer_instance
def YF (m f t : Int) (acc : List S79) (x : S144) : List S79 := if Jl x m f t then addR (addR acc ⟨1, 0, x.f3⟩) ⟨2, 0, x.f4⟩ else acc
def outR (l : List S144) (m f t : Int) : List S79 := l.foldl (YF m f t) []
def Jf (x : S144) (m f t : Int) : Int := if Jl x m f t then mn x.f2 t - mx x.f1 f + 1 else 0
def hrs (l : List S144) (m f t : Int) : Int := (l.map fun x => Jf x m f t).sum
theorem XaP (m f t : Int) : ∀ (l : List S144) (acc : List S79), Srt acc → Srt (l.foldl (YF m f t) acc) ∧ ∀ y, y ∈ l.foldl (YF m f t) acc ↔ y ∈ acc ∨ ∃ x ∈ l, Jl x m f t ∧ (y = ⟨1, 0, x.f3⟩ ∨ y = ⟨2, 0, x.f4⟩)
 | [], acc, h => ⟨h, by simp⟩
 | x :: l, acc, h => by
  by_cases g : Jl x m f t
  ·obtain ⟨h1, h2⟩ := XaP m f t l (YF m f t acc x) (by unfold YF; rw [if_pos g]; exact Xc7 _ (Xc7 _ h))
   refine ⟨h1, fun y => ?_⟩
   rw [List.foldl_cons, h2]
   unfold YF
   rw [if_pos g, XbQ, XbQ]
   constructor
   ·rintro (((q | q) | q) | ⟨z, hz, q⟩)
    ·exact .inl q
    ·exact .inr ⟨x, by simp, g, .inl q⟩
    ·exact .inr ⟨x, by simp, g, .inr q⟩
    ·exact .inr ⟨z, by simp [hz], q⟩
   ·rintro (q | ⟨z, hz, g2, q⟩)
    ·exact .inl (.inl (.inl q))
    ·rcases List.mem_cons.1 hz with e | hz
     ·subst e
      rcases q with q | q
      ·exact .inl (.inl (.inr q))
      ·exact .inl (.inr q)
     ·exact .inr ⟨z, hz, g2, q⟩
  ·obtain ⟨h1, h2⟩ := XaP m f t l (YF m f t acc x) (by unfold YF; rw [if_neg g]; exact h)
   refine ⟨h1, fun y => ?_⟩
   rw [List.foldl_cons, h2]
   unfold YF
   rw [if_neg g]
   constructor
   ·rintro (q | ⟨z, hz, q⟩)
    ·exact .inl q
    ·exact .inr ⟨z, by simp [hz], q⟩
   ·rintro (q | ⟨z, hz, g2, q⟩)
    ·exact .inl q
    ·rcases List.mem_cons.1 hz with e | hz
     ·subst e; exact absurd g2 g
     ·exact .inr ⟨z, hz, g2, q⟩
def apart (x y : S144) : Prop := ¬ (x.f0 = y.f0 ∧ x.f1 ≤ y.f2 ∧ y.f1 ≤ x.f2)
def covered (l : List S144) (m h : Int) : Prop := ∃ x ∈ l, x.f0 = m ∧ x.f1 ≤ h ∧ h ≤ x.f2
instance (l : List S144) (m h : Int) : Decidable (covered l m h) := by unfold covered; infer_instance
def YP (l : List S144) (m a : Int) : Nat → List S79
 | 0 => []
 | n + 1 => YP l m a n ++ if covered l m (a + (n : Int)) then [⟨3, m, a + (n : Int)⟩] else []
theorem J3 {l : List S144} {m a : Int} {y : S79} : ∀ {n : Nat}, y ∈ YP l m a n ↔ y.f0 = 3 ∧ y.f1 = m ∧ a ≤ y.f2 ∧ y.f2 < a + n ∧ covered l m y.f2
 | 0 => by simp [YP]; omega
 | n + 1 => by
  rw [YP, List.mem_append, J3]
  constructor
  ·rintro (q | q)
   ·exact ⟨q.1, q.2.1, q.2.2.1, by omega, q.2.2.2.2⟩
   ·split at q
    ·rename_i g
     rw [List.mem_singleton] at q
     subst q
     exact ⟨rfl, rfl, by show a ≤ a + (n : Int); omega, by show a + (n : Int) < a + ((n + 1 : Nat) : Int); omega, g⟩
    ·simp at q
  ·rintro ⟨q0, q1, q2, q3, q4⟩
   by_cases e : y.f2 = a + (n : Int)
   ·right
    rw [← e, if_pos q4, List.mem_singleton]
    cases y; simp_all
   ·left
    exact ⟨q0, q1, q2, by omega, q4⟩
theorem Xb4 {l : List S144} {m a : Int} : ∀ {n : Nat}, Srt (YP l m a n)
 | 0 => by simp [YP, Srt]
 | n + 1 => by
  rw [YP]
  unfold Srt
  rw [List.pairwise_append]
  refine ⟨Xb4, by split <;> simp, fun x hx y hy => ?_⟩
  split at hy
  ·rw [List.mem_singleton] at hy
   subst hy
   obtain ⟨p0, p1, p2, p3, p4⟩ := J3.1 hx
   rw [Js]
   right
   refine ⟨p0, .inr ⟨p1, ?_⟩⟩
   show x.f2 < a + (n : Int)
   omega
  ·simp at hy
theorem JX {m a : Int} {y : S79} : ∀ {n : Nat}, y ∈ Ym m a n ↔ y.f0 = 3 ∧ y.f1 = m ∧ a ≤ y.f2 ∧ y.f2 < a + n
 | 0 => by simp [Ym]
 | n + 1 => by
  rw [Ym, List.mem_append, JX, List.mem_singleton]
  constructor
  ·rintro (q | q)
   ·exact ⟨q.1, q.2.1, q.2.2.1, by omega⟩
   ·subst q
    exact ⟨rfl, rfl, by show a ≤ a + (n : Int); omega, by show a + (n : Int) < a + ((n + 1 : Nat) : Int); omega⟩
  ·rintro ⟨q0, q1, q2, q3⟩
   by_cases e : y.f2 = a + (n : Int)
   ·right
    rw [← e]
    cases y; simp_all
   ·left
    exact ⟨q0, q1, q2, by omega⟩
theorem Xaz {m a : Int} : ∀ {n : Nat}, (Ym m a n).Nodup
 | 0 => by simp [Ym]
 | n + 1 => by
  rw [Ym, List.nodup_append]
  refine ⟨Xaz, by simp, fun x hx y hy e => ?_⟩
  rw [List.mem_singleton] at hy
  subst hy
  subst e
  have := (JX.1 hx).2.2.2
  dsimp only at this
  omega
def JV (x : S144) (m f t : Int) : List S79 := if Jl x m f t then Ym m (mx x.f1 f) (mn x.f2 t + 1 - mx x.f1 f).toNat else []
theorem Xa8 {x : S144} {m f t : Int} {y : S79} : y ∈ JV x m f t ↔ y.f0 = 3 ∧ y.f1 = m ∧ x.f0 = m ∧ (f ≤ y.f2 ∧ y.f2 ≤ t) ∧ x.f1 ≤ y.f2 ∧ y.f2 ≤ x.f2 := by
 have a1 := @XfI x.f1 f
 have a2 := @XfJ x.f2 t
 unfold JV
 split
 ·rename_i g
  obtain ⟨g1, g2⟩ := g
  rw [JX]
  constructor
  ·rintro ⟨q0, q1, q2, q3⟩
   refine ⟨q0, q1, g1, ⟨?_, ?_⟩, ?_, ?_⟩ <;> omega
  ·rintro ⟨q0, q1, q2, ⟨q3, q4⟩, q5, q6⟩
   refine ⟨q0, q1, ?_, ?_⟩ <;> omega
 ·rename_i g
  refine ⟨fun q => by simp at q, ?_⟩
  rintro ⟨q0, q1, q2, ⟨q3, q4⟩, q5, q6⟩
  exfalso
  apply g
  refine ⟨q2, ?_⟩
  omega
theorem Xfa {x : S144} {m f t : Int} : ((JV x m f t).length : Int) = Jf x m f t := by
 unfold JV Jf
 split
 ·rename_i g
  rw [Xag]
  have := g.2
  omega
 ·rfl
def Jy (l : List S144) (m f t : Int) : List S79 := l.flatMap fun x => JV x m f t
theorem Xc5 (m f t : Int) : ∀ l : List S144, ((Jy l m f t).length : Int) = hrs l m f t
 | [] => rfl
 | x :: l => by
  have ih := Xc5 m f t l
  have e : Jy (x :: l) m f t = JV x m f t ++ Jy l m f t := rfl
  have e2 : hrs (x :: l) m f t = Jf x m f t + hrs l m f t := by unfold hrs; rw [List.map_cons, List.sum_cons]
  rw [e, List.length_append, e2, ← ih, ← Xfa]
  omega
theorem Xbp {l : List S144} {m f t : Int} {y : S79} : y ∈ Jy l m f t ↔ y.f0 = 3 ∧ y.f1 = m ∧ (f ≤ y.f2 ∧ y.f2 ≤ t) ∧ covered l m y.f2 := by
 unfold Jy covered
 rw [List.mem_flatMap]
 constructor
 ·rintro ⟨x, hx, hy⟩
  obtain ⟨q0, q1, q2, q3, q4⟩ := Xa8.1 hy
  exact ⟨q0, q1, q3, x, hx, q2, q4⟩
 ·rintro ⟨q0, q1, q2, x, hx, q3, q4⟩
  exact ⟨x, hx, Xa8.2 ⟨q0, q1, q3, q2, q4⟩⟩
theorem XbO (m f t : Int) : ∀ {l : List S144}, l.Pairwise apart → (Jy l m f t).Nodup
 | [], _ => by simp [Jy]
 | x :: l, h => by
  obtain ⟨h1, h2⟩ := List.pairwise_cons.1 h
  have e : Jy (x :: l) m f t = JV x m f t ++ Jy l m f t := rfl
  rw [e, List.nodup_append]
  refine ⟨by unfold JV; split; exact Xaz; simp, XbO m f t h2, fun y hy z hz e => ?_⟩
  subst e
  obtain ⟨p0, p1, p2, p3, p4, p5⟩ := Xa8.1 hy
  obtain ⟨q0, q1, q3, w, hw, q4, q5, q6⟩ := Xbp.1 hz
  exact h1 w hw ⟨by omega, by omega, by omega⟩
theorem XdM {l : List S144} {m f t : Int} (h : l.Pairwise apart) (hft : f ≤ t) : ((YP l m f (t + 1 - f).toNat).length : Int) = hrs l m f t := by
 rw [← Xc5]
 have hp : (YP l m f (t + 1 - f).toNat).Perm (Jy l m f t) := (List.perm_ext_iff_of_nodup Xb4.nodup (XbO m f t h)).2 fun y => by
  rw [J3, Xbp]
  constructor
  ·rintro ⟨q0, q1, q2, q3, q4⟩; exact ⟨q0, q1, ⟨q2, by omega⟩, q4⟩
  ·rintro ⟨q0, q1, ⟨q2, q3⟩, q4⟩; exact ⟨q0, q1, q2, by omega, q4⟩
 rw [hp.length_eq]
theorem Xas {x : S144} {m f t : Int} {y : S79} : y ∈ Jn x m f t ↔ (Jl x m f t ∧ (y = ⟨1, 0, x.f3⟩ ∨ y = ⟨2, 0, x.f4⟩)) ∨ y ∈ JV x m f t := by
 unfold Jn JV
 by_cases g : Jl x m f t
 ·have e1 : Yc x m f t = (mx x.f1 f, mn x.f2 t) := by unfold Yc; rw [if_pos g.1]
  have g2 := g.2
  have g1 := g.1
  rw [e1, if_pos g, if_neg (by show ¬ mx x.f1 f > mn x.f2 t; omega), List.mem_append]
  dsimp only
  rw [g1]
  simp [g]
 ·rw [if_neg g]
  have g2 : (Yc x m f t).1 > (Yc x m f t).2 := by
   unfold Yc
   split
   ·rename_i e
    show mx x.f1 f > mn x.f2 t
    have : ¬ mx x.f1 f ≤ mn x.f2 t := fun q => g ⟨e, q⟩
    omega
   ·show (1 : Int) > 0
    omega
  rw [if_pos g2]
  simp [g]
theorem XeZ {l : List S144} {m f t : Int} {y : S79} : y ∈ X7 l m f t ↔ (∃ x ∈ l, Jl x m f t ∧ (y = ⟨1, 0, x.f3⟩ ∨ y = ⟨2, 0, x.f4⟩)) ∨ y ∈ Jy l m f t := by
 unfold X7 Jy
 rw [List.mem_flatMap, List.mem_flatMap]
 constructor
 ·rintro ⟨x, hx, hy⟩
  rcases Xas.1 hy with q | q
  ·exact .inl ⟨x, hx, q⟩
  ·exact .inr ⟨x, hx, q⟩
 ·rintro (⟨x, hx, q⟩ | ⟨x, hx, q⟩)
  ·exact ⟨x, hx, Xas.2 (.inl q)⟩
  ·exact ⟨x, hx, Xas.2 (.inr q)⟩
def Xat (l : List S144) (m f t : Int) : List S79 := outR l m f t ++ YP l m f (t + 1 - f).toNat
theorem Xdv {l : List S144} {m f t : Int} : Srt (Xat l m f t) := by
 obtain ⟨h1, h2⟩ := XaP m f t l [] (by simp [Srt])
 unfold Xat Srt
 rw [List.pairwise_append]
 refine ⟨h1, Xb4, fun x hx y hy => ?_⟩
 rcases (h2 x).1 hx with q | ⟨z, hz, g, q⟩
 ·simp at q
 ·have p0 := (J3.1 hy).1
  rw [Js]
  left
  rcases q with q | q <;> rw [q, p0]
  ·show (1 : Int) < 3; omega
  ·show (2 : Int) < 3; omega
theorem Xga {l : List S144} {m f t : Int} (hft : f ≤ t) (y : S79) : y ∈ Xat l m f t ↔ y ∈ X7 l m f t := by
 obtain ⟨h1, h2⟩ := XaP m f t l [] (by simp [Srt])
 unfold Xat outR
 rw [List.mem_append, h2, XeZ, J3, Xbp]
 constructor
 ·rintro ((q | q) | q)
  ·simp at q
  ·exact .inl q
  ·exact .inr ⟨q.1, q.2.1, ⟨q.2.2.1, by omega⟩, q.2.2.2.2⟩
 ·rintro (q | q)
  ·exact .inl (.inr q)
  ·exact .inr ⟨q.1, q.2.1, q.2.2.1.1, by omega, q.2.2.2⟩
theorem Xgb {l : List S144} {m f t : Int} (h : l.Pairwise apart) (hft : f ≤ t) : ((Xat l m f t).length : Int) = (outR l m f t).length + hrs l m f t := by
 unfold Xat
 rw [List.length_append, ← XdM h hft]
 omega
theorem Xf6 {l : List S144} {m f t : Int} (hft : f ≤ t) : X8 (X7 l m f t) = Xat l m f t ∧ (XD (X7 l m f t)).length = (Xat l m f t).length :=
 Xdu Xdv (Xga hft)
theorem XbF {x : S144} {m f t : Int} : 0 ≤ Jf x m f t := by
 unfold Jf
 split
 ·rename_i g; have := g.2; omega
 ·omega
theorem Xaf (m f t : Int) : ∀ l : List S144, 0 ≤ hrs l m f t
 | [] => by simp [hrs]
 | x :: l => by
  have e2 : hrs (x :: l) m f t = Jf x m f t + hrs l m f t := by unfold hrs; rw [List.map_cons, List.sum_cons]
  have := Xaf m f t l
  have := @XbF x m f t
  omega
theorem Xhh {x : S144} {m f t : Int} : ∀ {l : List S144}, x ∈ l → Jf x m f t ≤ hrs l m f t
 | y :: l, h => by
  have e2 : hrs (y :: l) m f t = Jf y m f t + hrs l m f t := by unfold hrs; rw [List.map_cons, List.sum_cons]
  have := Xaf m f t l
  have := @XbF y m f t
  rcases List.mem_cons.1 h with q | q
  ·subst q; omega
  ·have := Xhh (m := m) (f := f) (t := t) q; omega
theorem XeL {x : S144} {m f t : Int} (h : YX x m f t) : 1000 < Jf x m f t := by
 unfold YX Yc at h
 unfold Jf
 by_cases e : x.f0 = m
 ·rw [if_pos e] at h
  dsimp only at h
  rw [if_pos (show Jl x m f t from ⟨e, h.1⟩)]
  omega
 ·rw [if_neg e] at h
  dsimp only at h
  omega
def Jz : List S79 → S79 → Nat
 | [], _ => 0
 | x :: xs, c => if lt79 x c = true then Jz xs c + 1 else 0
def Xa3 (xs : List S79) (c : S79) : Bool := decide (xs[Jz xs c]? = some c)
theorem Xe1 (c : S79) : ∀ xs : List S79, Jz xs c ≤ xs.length
 | [] => Nat.le_refl _
 | x :: xs => by
  have := Xe1 c xs
  unfold Jz
  split
  ·rw [List.length_cons]; omega
  ·omega
theorem Xc8 (c : S79) : ∀ (xs : List S79) (i : Nat) (hi : i < xs.length), i ≤ Jz xs c → (lt79 xs[i] c = true ↔ i < Jz xs c)
 | [], i, hi, _ => by simp at hi
 | x :: xs, 0, hi, h => by
  unfold Jz
  split
  ·rename_i g; simp [g]
  ·rename_i g; simp [g]
 | x :: xs, i + 1, hi, h => by
  unfold Jz at h ⊢
  split at h
  ·rename_i g
   rw [if_pos g]
   rw [List.length_cons] at hi
   have := Xc8 c xs i (by omega) (by omega)
   rw [List.getElem_cons_succ, this]
   omega
  ·omega
theorem Xek (c : S79) : ∀ xs : List S79, addR xs c = if Xa3 xs c = true then xs else (xs.take (Jz xs c) ++ [c]) ++ xs.drop (Jz xs c)
 | [] => by simp [addR, Xa3, Jz]
 | x :: xs => by
  have ih := Xek c xs
  unfold addR Xa3 Jz
  split
  ·rw [ih, List.getElem?_cons_succ, List.take_succ_cons, List.drop_succ_cons]
   unfold Xa3
   split
   ·rfl
   ·rfl
  ·rw [List.getElem?_cons_zero]
   split
   ·rename_i e; rw [if_pos (by simp [e])]
   ·rename_i e; rw [if_neg (by simp [e])]; simp
theorem XbR (c : S79) : ∀ xs : List S79, (addR xs c).length ≤ xs.length + 1
 | [] => Nat.le_refl _
 | x :: xs => by
  have := XbR c xs
  unfold addR
  split
  ·rw [List.length_cons, List.length_cons]; omega
  ·split
   ·omega
   ·simp
end Go.Proofs.Ytiaiecfnpompcaa.T
namespace Go.Proofs.Ytiaiecfnpompcaa.T
open Go.RowKit Go.Proofs.YtiaiecfnpompcaaW.PrintWords
set_option linter.unusedVariables false
set_option linter.unusedSimpArgs false
theorem idx1 {i : Nat} (h : i ≤ 1000000) : wrap64 ((i : Int) + 1) = ((i + 1 : Nat) : Int) := by rw [YD (by omega) (by omega)]; rfl
theorem JG {l : List S79} {i : Nat} (h : i < l.length) : Xn l i = l[i] := by simp [Xn, h]
theorem Jk {l : List S144} {i : Nat} (h : i < l.length) : Xc l i = l[i] := by simp [Xc, h]
theorem XdU (x y : S79) : Yn.f x.f0 x.f1 x.f2 y.f0 y.f1 y.f2 = some (lt79 x y) := by
 unfold Yn.f lt79
 split
 ·split
  ·congr 1; apply decide_eq_decide.2; omega
  ·congr 1; apply decide_eq_decide.2; omega
 ·congr 1; apply decide_eq_decide.2; omega
theorem Xb3 (x a b : Int) : Xj.f x a b = some (decide (a ≤ x ∧ x ≤ b)) := by
 unfold Xj.f
 split <;> simp <;> omega
theorem Xe0 (xs : List S79) (c : S79) (hl : xs.length ≤ 1000000) (h : Xa3 xs c = false) (i : Nat) (hi : i = Jz xs c) :
  xs.take i ++ [c] ++ xs.drop i = addR xs c := by
 subst hi
 rw [Xek, if_neg (by rw [h]; decide)]
theorem Xhu (xs : List S79) (a b c : Int) (hl : xs.length ≤ 1000000) : ∀ (n i : Nat), n = Jz xs ⟨a, b, c⟩ - i → i ≤ Jz xs ⟨a, b, c⟩ → Ev (fun k => Xm.l0 k xs i a b c) (addR xs ⟨a, b, c⟩) := by
 intro n
 have hle := Xe1 ⟨a, b, c⟩ xs
 induction n with
 | zero =>
  intro i hn hi
  have hia : i = Jz xs ⟨a, b, c⟩ := by omega
  refine Ev.succ (Ev.of fun k => ?_)
  by_cases hlt : i < xs.length
  ·have q : (i : Int) < (xs.length : Int) := by omega
   have q2 : (0 : Int) ≤ (i : Int) := by omega
   have q3 : (i : Int) ≤ (xs.length : Int) := by omega
   have hb : lt79 xs[i] ⟨a, b, c⟩ = false := by
    have := Xc8 ⟨a, b, c⟩ xs i hlt hi
    rw [← Bool.not_eq_true, this]; omega
   have hbe := XdU xs[i] ⟨a, b, c⟩
   dsimp only at hbe
   simp only [Xm.l0, if_pos q, if_pos q2, if_pos q3, JG hlt, hbe, hb, Option.bind_some, Bool.false_eq_true, if_false]
   have e1 : (xs[i].f0 == a && (xs[i].f1 == b && xs[i].f2 == c)) = decide (xs[i] = ⟨a, b, c⟩) := by
    cases hx : xs[i] with | mk x0 x1 x2 =>
    rw [Bool.eq_iff_iff]
    simp
   rw [e1]
   by_cases hc : xs[i] = ⟨a, b, c⟩
   ·rw [if_pos (by simp [hc]), Xek, if_pos]
    unfold Xa3
    rw [← hia, List.getElem?_eq_getElem hlt, hc]; simp
   ·have hh : Xa3 xs ⟨a, b, c⟩ = false := by
     unfold Xa3
     rw [← hia, List.getElem?_eq_getElem hlt]; simp [hc]
    rw [if_neg (by simp [hc])]
    have l1 : (xs.take i).length ≤ 1000000 := by simp; omega
    have l2 : (xs.drop i).length ≤ 1000000 := by simp; omega
    simp only [Int.toNat_natCast, List.nil_append, List.length_nil, List.length_append, List.length_cons]
    rw [if_pos (by omega), if_pos (by omega), if_pos (by omega), Xe0 xs _ hl hh i hia]
  ·have q : ¬ (i : Int) < (xs.length : Int) := by omega
   have q2 : (0 : Int) ≤ (i : Int) := by omega
   have q3 : (i : Int) ≤ (xs.length : Int) := by omega
   have hh : Xa3 xs ⟨a, b, c⟩ = false := by
    unfold Xa3
    rw [← hia, List.getElem?_eq_none (by omega)]; simp
   simp only [Xm.l0, if_neg q, if_pos q2, if_pos q3, Option.bind_some]
   have l1 : (xs.take i).length ≤ 1000000 := by simp; omega
   have l2 : (xs.drop i).length ≤ 1000000 := by simp; omega
   simp only [Int.toNat_natCast, List.nil_append, List.length_nil, List.length_append, List.length_cons]
   rw [if_pos (by omega), if_pos (by omega), if_pos (by omega), Xe0 xs _ hl hh i hia]
 | succ n ih =>
  intro i hn hi
  have hlt : i < xs.length := by omega
  have q : (i : Int) < (xs.length : Int) := by omega
  have q2 : (0 : Int) ≤ (i : Int) := by omega
  have hb : lt79 xs[i] ⟨a, b, c⟩ = true := (Xc8 ⟨a, b, c⟩ xs i hlt hi).2 (by omega)
  have hbe := XdU xs[i] ⟨a, b, c⟩
  dsimp only at hbe
  refine Ev.succ ?_
  simp only [Xm.l0, if_pos q, if_pos q2, JG hlt, hbe, hb, Option.bind_some, if_true, idx1 (show i ≤ 1000000 by omega)]
  exact ih (i + 1) (by omega) (by omega)
theorem Xhv (xs : List S79) (a b c : Int) (hl : xs.length ≤ 1000000) : Ev (fun k => Xm.f k xs a b c) (addR xs ⟨a, b, c⟩) :=
 Xhu xs a b c hl _ 0 rfl (Nat.zero_le _)
theorem XeC {m f t : Int} (x : S144) (acc : List S79) : (YF m f t acc x).length ≤ acc.length + 2 := by
 unfold YF
 split
 ·have h1 := XbR ⟨1, 0, x.f3⟩ acc
  have h2 := XbR ⟨2, 0, x.f4⟩ (addR acc ⟨1, 0, x.f3⟩)
  omega
 ·omega
theorem Xbx {m f t : Int} : ∀ (l : List S144) (acc : List S79), (l.foldl (YF m f t) acc).length ≤ acc.length + 2 * l.length
 | [], acc => by simp
 | x :: l, acc => by
  have h1 := Xbx (m := m) (f := f) (t := t) l (YF m f t acc x)
  have h2 := XeC (m := m) (f := f) (t := t) x acc
  rw [List.foldl_cons, List.length_cons]
  omega
theorem Xgi {m f t : Int} (b : List S144) (x : S144) : outR (b ++ [x]) m f t = YF m f t (outR b m f t) x := by unfold outR; rw [List.foldl_append]; rfl
theorem Xhg {m f t : Int} (b : List S144) (x : S144) : hrs (b ++ [x]) m f t = hrs b m f t + Jf x m f t := by unfold hrs; rw [List.map_append, List.sum_append]; simp
theorem XeO {x : S144} {m f t : Int} (hx : Yq x) (hl : Jq m f t) : Jf x m f t ≤ 100001 := by
 unfold Jf
 obtain ⟨_, _, _, h1, h12, h2⟩ := hx
 have a1 := @XfI x.f1 f
 have a2 := @XfJ x.f2 t
 split <;> omega
theorem Xfr {m f t : Int} (hl : Jq m f t) : ∀ {b : List S144}, (∀ x ∈ b, Yq x) → hrs b m f t ≤ 100001 * b.length
 | [], _ => by simp [hrs]
 | x :: b, h => by
  have e2 : hrs (x :: b) m f t = Jf x m f t + hrs b m f t := by unfold hrs; rw [List.map_cons, List.sum_cons]
  have h1 := Xfr hl (b := b) (fun y hy => h y (by simp [hy]))
  have h2 := XeO (h x (by simp)) hl
  rw [e2, List.length_cons]
  omega
def XbV (l : List S144) (m f t : Int) : List S79 × Int := if ((outR l m f t).length : Int) + hrs l m f t > 1000 then ([], 5) else (Xat l m f t, 0)
theorem XdL (l : List S144) (m a : Int) (j : Nat) : ∀ d : Nat, ∃ s, YP l m a (j + d) = YP l m a j ++ s
 | 0 => ⟨[], by simp⟩
 | d + 1 => by
  obtain ⟨s, hs⟩ := XdL l m a j d
  refine ⟨s ++ if covered l m (a + ((j + d : Nat) : Int)) then [⟨3, m, a + ((j + d : Nat) : Int)⟩] else [], ?_⟩
  rw [← Nat.add_assoc, YP, hs, List.append_assoc]
theorem Xah {b : List S144} {x : S144} {m h : Int} : covered (b ++ [x]) m h ↔ covered b m h ∨ (x.f0 = m ∧ x.f1 ≤ h ∧ h ≤ x.f2) := by
 unfold covered
 constructor
 ·rintro ⟨y, hy, q⟩
  rcases List.mem_append.1 hy with hy | hy
  ·exact .inl ⟨y, hy, q⟩
  ·rw [List.mem_singleton] at hy; subst hy; exact .inr q
 ·rintro (⟨y, hy, q⟩ | q)
  ·exact ⟨y, by simp [hy], q⟩
  ·exact ⟨x, by simp, q⟩
def cO (b : List S144) (m h : Int) : List S79 := if covered b m h then [⟨3, m, h⟩] else []
def cN (b : List S144) (m h : Int) : Int := if covered b m h then 1 else 0
theorem Xiw {b : List S144} {m h : Int} : ((cO b m h).length : Int) = cN b m h ∧ (cN b m h = 0 ∨ cN b m h = 1) := by
 unfold cO cN; split <;> simp
section
variable {l : List S144} {m f t : Int} (hlen : l.length ≤ 60) (hok : ∀ x ∈ l, Yq x) (hap : l.Pairwise apart) (hl : Jq m f t)
include hlen hap in
theorem XgI (O : List S79) (H0 h : Int) (hO : O.length ≤ 1000000) (hH : 0 < H0 ∧ H0 ≤ 1000) (v : List S79 × Int)
  (hv : Ev (fun k => Xd.l1 k l (O ++ cO l m h) (H0 - cN l m h) (wrap64 (h + 1)) m f t) v) :
  ∀ (r b : List S144), l = b ++ r → Ev (fun k => Xd.l2 k l (O ++ cO b m h) (H0 - cN b m h) h (b.length : Int) m f t) v := by
 intro r
 induction r with
 | nil =>
  intro b hb
  rw [List.append_nil] at hb
  subst hb
  refine Ev.succ ?_
  have q : ¬ (l.length : Int) < (l.length : Int) := by omega
  simp only [Xd.l2, if_neg q]
  exact hv
 | cons x r ih =>
  intro b hb
  have hbl : b.length < l.length := by rw [hb]; simp
  have q : (b.length : Int) < (l.length : Int) := by omega
  have q2 : (0 : Int) ≤ (b.length : Int) := by omega
  have hx : l[b.length] = x := by simp [hb]
  have ih' := ih (b ++ [x]) (by rw [hb, List.append_assoc]; rfl)
  have e1 : ((b ++ [x]).length : Int) = ((b.length + 1 : Nat) : Int) := by simp
  rw [e1] at ih'
  refine Ev.succ ?_
  simp only [Xd.l2, if_pos q, if_pos q2, Jk hbl, hx, Xb3, Option.bind_some, decide_eq_true_eq, idx1 (show b.length ≤ 1000000 by omega)]
  by_cases c1 : x.f0 = m
  ·simp only [if_pos c1]
   by_cases c2 : x.f1 ≤ h ∧ h ≤ x.f2
   ·have hnb : ¬ covered b m h := by
     rintro ⟨y, hy, g0, g1, g2⟩
     rw [hb, List.pairwise_append] at hap
     exact hap.2.2 y hy x (by simp) ⟨by omega, by omega, by omega⟩
    have hcb : covered (b ++ [x]) m h := Xah.2 (.inr ⟨c1, c2⟩)
    have o0 : cO b m h = [] := by unfold cO; rw [if_neg hnb]
    have n0 : cN b m h = 0 := by unfold cN; rw [if_neg hnb]
    have o1 : cO (b ++ [x]) m h = [⟨3, m, h⟩] := by unfold cO; rw [if_pos hcb]
    have n1 : cN (b ++ [x]) m h = 1 := by unfold cN; rw [if_pos hcb]
    rw [o1, n1] at ih'
    simp only [if_pos c2, o0, n0, List.append_nil, Int.sub_zero]
    rw [YD (by omega) (by omega)]
    have q5 : O.length < 5864062014805 := by omega
    simp only [if_pos q5]
    exact ih'
   ·have hco : covered (b ++ [x]) m h ↔ covered b m h := by
     rw [Xah]
     exact ⟨fun q => q.elim id (fun q => absurd q.2 c2), .inl⟩
    have o1 : cO (b ++ [x]) m h = cO b m h := by unfold cO; simp only [hco]
    have n1 : cN (b ++ [x]) m h = cN b m h := by unfold cN; simp only [hco]
    rw [o1, n1] at ih'
    simp only [if_neg c2]
    exact ih'
  ·have hco : covered (b ++ [x]) m h ↔ covered b m h := by
    rw [Xah]
    exact ⟨fun q => q.elim id (fun q => absurd q.1 c1), .inl⟩
   have o1 : cO (b ++ [x]) m h = cO b m h := by unfold cO; simp only [hco]
   have n1 : cN (b ++ [x]) m h = cN b m h := by unfold cN; simp only [hco]
   rw [o1, n1] at ih'
   simp only [if_neg c1]
   exact ih'
include hlen hap hl in
theorem XgJ (hsum : hrs l m f t ≤ 1000) : ∀ (n j : Nat), j + n = (t + 1 - f).toNat → Ev (fun k => Xd.l1 k l (outR l m f t ++ YP l m f j) (hrs l m f t - ((YP l m f j).length : Int)) (f + (j : Int)) m f t) (Xat l m f t, 0) := by
 have hft : f ≤ t := hl.2.2
 have hfb := hl.2.1
 have htot := XdM (m := m) hap hft
 have hol := Xbx (m := m) (f := f) (t := t) l []
 intro n
 induction n with
 | zero =>
  intro j hj
  have q : ¬ f + (j : Int) ≤ t := by omega
  refine Ev.succ ?_
  simp only [Xd.l1, if_neg q]
  refine Ev.succ ?_
  simp only [Xd.j4, Bool.false_eq_true, if_false]
  have : j = (t + 1 - f).toNat := by omega
  subst this
  exact Ev.pure _
 | succ n ih =>
  intro j hj
  have q : f + (j : Int) ≤ t := by omega
  obtain ⟨s, hs⟩ := XdL l m f j (n + 1)
  rw [hj] at hs
  have hsl : (YP l m f (t + 1 - f).toNat).length = (YP l m f j).length + s.length := by rw [hs, List.length_append]
  refine Ev.succ ?_
  simp only [Xd.l1, if_pos q]
  refine Ev.succ ?_
  simp only [Xd.j4, decide_eq_true_eq]
  by_cases g : hrs l m f t - ((YP l m f j).length : Int) > 0
  ·simp only [if_pos g]
   have ih' := ih (j + 1) (by omega)
   have e1 : YP l m f (j + 1) = YP l m f j ++ cO l m (f + (j : Int)) := by rw [YP]; rfl
   have e2 := @Xiw l m (f + (j : Int))
   have e3 : hrs l m f t - ((YP l m f (j + 1)).length : Int) = (hrs l m f t - ((YP l m f j).length : Int)) - cN l m (f + (j : Int)) := by rw [e1, List.length_append]; omega
   have e4 : f + ((j + 1 : Nat) : Int) = wrap64 ((f + (j : Int)) + 1) := by rw [YD (by omega) (by omega)]; omega
   rw [e3, e4, e1, ← List.append_assoc] at ih'
   have hlj : (YP l m f j).length ≤ 1000 := by omega
   have hol2 : (outR l m f t).length ≤ 120 := by unfold outR; simp at hol; omega
   have := XgI (m := m) (f := f) (t := t) hlen hap (outR l m f t ++ YP l m f j) _ (f + (j : Int)) (by rw [List.length_append]; omega) ⟨g, by omega⟩ _ ih' l [] rfl
   have o0 : cO [] m (f + (j : Int)) = [] := by unfold cO; rw [if_neg]; rintro ⟨y, hy, _⟩; simp at hy
   have n0 : cN [] m (f + (j : Int)) = 0 := by unfold cN; rw [if_neg]; rintro ⟨y, hy, _⟩; simp at hy
   rw [o0, n0, List.append_nil, Int.sub_zero] at this
   exact this
  ·simp only [if_neg g]
   have hs0 : s = [] := List.eq_nil_of_length_eq_zero (by omega)
   rw [hs0, List.append_nil] at hs
   unfold Xat
   rw [hs]
   exact Ev.pure _
include hlen hok hap hl in
theorem XgK : ∀ (r b : List S144), l = b ++ r → Ev (fun k => Xd.l0 k l (outR b m f t) (hrs b m f t) (b.length : Int) m f t) (XbV l m f t) := by
 have hft : f ≤ t := hl.2.2
 have hfb := hl.2.1
 intro r
 induction r with
 | nil =>
  intro b hb
  rw [List.append_nil] at hb
  subst hb
  have hol := Xbx (m := m) (f := f) (t := t) l []
  have hol2 : (outR l m f t).length ≤ 120 := by unfold outR; simp at hol; omega
  have hh := Xfr hl hok
  have hh0 := Xaf m f t l
  refine Ev.succ ?_
  have q : ¬ (l.length : Int) < (l.length : Int) := by omega
  have e1 : wrap64 (((outR l m f t).length : Int) + hrs l m f t) = ((outR l m f t).length : Int) + hrs l m f t := YD (by omega) (by omega)
  simp only [Xd.l0, if_neg q, e1]
  unfold XbV
  by_cases g : ((outR l m f t).length : Int) + hrs l m f t > 1000
  ·simp only [if_pos g]; exact Ev.pure _
  ·simp only [if_neg g]
   have := XgJ hlen hap hl (by omega) (t + 1 - f).toNat 0 (by omega)
   simpa [YP] using this
 | cons x r ih =>
  intro b hb
  have hbl : b.length < l.length := by rw [hb]; simp
  have q : (b.length : Int) < (l.length : Int) := by omega
  have q2 : (0 : Int) ≤ (b.length : Int) := by omega
  have hx : l[b.length] = x := by simp [hb]
  have hxl : x ∈ l := by rw [hb]; simp
  have hbok : ∀ y ∈ b, Yq y := fun y hy => hok y (by rw [hb]; simp [hy])
  have ih' := ih (b ++ [x]) (by rw [hb, List.append_assoc]; rfl)
  have e1 : ((b ++ [x]).length : Int) = ((b.length + 1 : Nat) : Int) := by simp
  rw [e1, Xgi, Xhg] at ih'
  have hskip : ¬ Jl x m f t → Ev (fun k => Xd.l0 k l (outR b m f t) (hrs b m f t) (wrap64 ((b.length : Int) + 1)) m f t) (XbV l m f t) := by
   intro g
   rw [idx1 (by omega)]
   have o1 : YF m f t (outR b m f t) x = outR b m f t := by unfold YF; rw [if_neg g]
   have n1 : Jf x m f t = 0 := by unfold Jf; rw [if_neg g]
   rw [o1, n1, Int.add_zero] at ih'
   exact ih'
  refine Ev.succ ?_
  simp only [Xd.l0, if_pos q, if_pos q2, Jk hbl, hx]
  by_cases c1 : x.f0 = m
  ·simp only [if_pos c1]
   refine Ev.succ ?_
   simp only [Xd.j2, decide_eq_true_eq]
   by_cases c2 : mx x.f1 f > mn x.f2 t
   ·simp only [if_pos c2]
    exact hskip (fun g => by have := g.2; omega)
   ·have g : Jl x m f t := ⟨c1, by omega⟩
    simp only [if_neg c2, if_pos q, if_pos q2, Jk hbl, hx]
    have hol := Xbx (m := m) (f := f) (t := t) b []
    have hol2 : (outR b m f t).length ≤ 120 := by unfold outR; simp at hol; omega
    have hh := Xfr hl hbok
    have hh0 := Xaf m f t b
    have hx1 := XeO (hok x hxl) hl
    have n1 : Jf x m f t = mn x.f2 t - mx x.f1 f + 1 := by unfold Jf; rw [if_pos g]
    have o1 : YF m f t (outR b m f t) x = addR (addR (outR b m f t) ⟨1, 0, x.f3⟩) ⟨2, 0, x.f4⟩ := by unfold YF; rw [if_pos g]
    have hal := XbR ⟨1, 0, x.f3⟩ (outR b m f t)
    refine Ev.bind (Xhv _ 1 0 x.f3 (by omega)) ?_
    refine Ev.bind (Xhv _ 2 0 x.f4 (by omega)) ?_
    rw [YD (x := mn x.f2 t - mx x.f1 f) (by omega) (by omega), YD (x := mn x.f2 t - mx x.f1 f + 1) (by omega) (by omega), ← n1, YD (by omega) (by omega), idx1 (by omega), ← o1]
    exact ih'
  ·simp only [if_neg c1]
   refine Ev.succ ?_
   simp only [Xd.j2, if_true]
   exact hskip (fun g => c1 g.1)
end
theorem XaQ {m f t : Int} : Jq m f t ↔ (0 ≤ m ∧ m ≤ 1000) ∧ (0 ≤ f ∧ f ≤ t) ∧ ¬ t > 100000 := by
 unfold Jq
 omega
theorem Xd0 {l : List S144} {m f t : Int} (hlen : l.length ≤ 60) (hok : ∀ x ∈ l, Yq x) (hap : l.Pairwise apart) :
  Ev (fun k => Xd.f k l m f t) (if Jq m f t then XbV l m f t else ([], 2)) := by
 have hbad : ¬ Jq m f t → Ev (fun k => Xd.j0 k l true m f t) (if Jq m f t then XbV l m f t else ([], 2)) := by
  intro g
  refine Ev.succ ?_
  simp only [Xd.j0, if_true, if_neg g]
  exact Ev.pure _
 simp only [Xd.f, Xb3, Option.bind_some, decide_eq_true_eq]
 by_cases g1 : 0 ≤ m ∧ m ≤ 1000
 ·simp only [if_pos g1]
  by_cases g2 : 0 ≤ f ∧ f ≤ t
  ·simp only [if_pos g2]
   by_cases g3 : t > 100000
   ·rw [decide_eq_true g3]
    exact hbad (fun q => (XaQ.1 q).2.2 g3)
   ·have g : Jq m f t := XaQ.2 ⟨g1, g2, g3⟩
    rw [decide_eq_false g3, if_pos g]
    refine Ev.succ ?_
    simp only [Xd.j0, Bool.false_eq_true, if_false]
    have := XgK hlen hok hap g l [] rfl
    simpa [outR, hrs] using this
  ·simp only [if_neg g2]
   exact hbad (fun q => g2 (XaQ.1 q).2.1)
 ·simp only [if_neg g1]
  exact hbad (fun q => g1 (XaQ.1 q).1)
end Go.Proofs.Ytiaiecfnpompcaa.T
namespace Go.Proofs.Ytiaiecfnpompcaa.T
open Go.RowKit Go.Proofs.YtiaiecfnpompcaaW.PrintWords
set_option linter.unusedVariables false
set_option linter.unusedSimpArgs false
instance (x y : S144) : Decidable (apart x y) := by unfold apart; infer_instance
def chkF : List S144 → List S144 → Int
 | _, [] => 0
 | b, x :: r => if ¬ Yq x then 2 else if ∃ y ∈ b, ¬ apart y x then 6 else chkF (b ++ [x]) r
theorem Xb7 : ∀ (r b : List S144), (∀ y ∈ b, Yq y) → b.Pairwise apart → chkF b r = 0 → (∀ y ∈ b ++ r, Yq y) ∧ (b ++ r).Pairwise apart
 | [], b, hb, hp, _ => by rw [List.append_nil]; exact ⟨hb, hp⟩
 | x :: r, b, hb, hp, h => by
  unfold chkF at h
  split at h
  ·cases h
  ·rename_i g1
   have g1 := Classical.not_not.1 g1
   split at h
   ·cases h
   ·rename_i g2
    have h1 : ∀ y ∈ b ++ [x], Yq y := by
     intro y hy
     rcases List.mem_append.1 hy with q | q
     ·exact hb y q
     ·rw [List.mem_singleton] at q; subst q; exact g1
    have h2 : (b ++ [x]).Pairwise apart := by
     rw [List.pairwise_append]
     refine ⟨hp, by simp, fun y hy z hz => ?_⟩
     rw [List.mem_singleton] at hz; subst hz
     exact Classical.byContradiction fun q => g2 ⟨y, hy, q⟩
    have := Xb7 r (b ++ [x]) h1 h2 h
    rwa [List.append_assoc] at this
theorem Xef (x y z : Int) : XM.f [x, y, z] = some (decide ((0 ≤ x ∧ x ≤ 1000) ∧ (0 ≤ y ∧ y ≤ 1000) ∧ 0 ≤ z ∧ z ≤ 1000)) := by
 have h1 := J6 0 1000 x
 have h2 := XcA 0 1000 y z
 unfold XM.f
 unfold Yd.f at *
 simp only [Option.some.injEq, List.any_cons, List.any_nil, Bool.or_false, Option.bind_some] at *
 rw [Bool.not_or, h1, h2]
 by_cases g1 : 0 ≤ x ∧ x ≤ 1000 <;> by_cases g2 : (0 ≤ y ∧ y ≤ 1000) ∧ 0 ≤ z ∧ z ≤ 1000 <;> simp [g1, g2]
theorem Xfo (x : S144) : Yp.f x.f0 x.f1 x.f2 x.f3 x.f4 = some (decide (Yq x)) := by
 unfold Yp.f
 rw [Xef, JS]
 simp only [Option.bind_some, decide_eq_true_eq]
 split
 ·congr 1; apply decide_eq_decide.2; unfold Yq; omega
 ·congr 1; symm; rw [decide_eq_false_iff_not]; unfold Yq; omega
theorem XeP {x y : S144} (hx : Yq x) (hy : Yq y) : (Yc y x.f0 x.f1 x.f2).1 ≤ (Yc y x.f0 x.f1 x.f2).2 ↔ ¬ apart y x := by
 obtain ⟨_, _, _, h1, h2, h3⟩ := hx
 obtain ⟨_, _, _, g1, g2, g3⟩ := hy
 have a1 := @XfI y.f1 x.f1
 have a2 := @XfJ y.f2 x.f2
 unfold apart Yc
 split
 ·dsimp only; omega
 ·dsimp only; omega
theorem XdD {l : List S144} {i K : Nat} {x : S144} {v : Int} (hx : Yq x) (hb : ∀ y ∈ l.take i, Yq y) (hlen : l.length ≤ 1000)
  (hv : ∀ k, K ≤ k → XE.l0 k l l (l.length : Int) (wrap64 ((i : Int) + 1)) = some v) :
  ∀ (r b : List S144), l.take i = b ++ r → ∀ k, K + r.length + 1 ≤ k → XE.l1 k l l (l.length : Int) i (l.take i) ((l.take i).length : Int) (b.length : Int) x.f0 x.f1 x.f2 x.f3 x.f4 = some (if ∃ y ∈ r, ¬ apart y x then 6 else v)
 | [], b, e, k, hk => by
  rw [List.append_nil] at e
  obtain ⟨k, rfl⟩ : ∃ k', k = k' + 1 := ⟨k - 1, by omega⟩
  have q : ¬ (b.length : Int) < ((l.take i).length : Int) := by rw [e]; omega
  simp only [XE.l1, if_neg q]
  rw [hv k (by omega), if_neg (by simp)]
 | y :: r, b, e, k, hk => by
  rw [List.length_cons] at hk
  obtain ⟨k, rfl⟩ : ∃ k', k = k' + 1 := ⟨k - 1, by omega⟩
  have hbl : b.length < (l.take i).length := by rw [e]; simp
  have hbl2 : (l.take i).length ≤ l.length := by simp; omega
  have q : (b.length : Int) < ((l.take i).length : Int) := by omega
  have q2 : (0 : Int) ≤ (b.length : Int) := by omega
  have hy : (l.take i)[b.length] = y := by simp only [e]; simp
  have hyk : Yq y := hb y (by rw [e]; simp)
  have ih := XdD hx hb hlen hv r (b ++ [y]) (by rw [e, List.append_assoc]; rfl) k (by omega)
  have e1 : ((b ++ [y]).length : Int) = ((b.length + 1 : Nat) : Int) := by simp
  rw [e1] at ih
  have ha := XeP hx hyk
  simp only [XE.l1, if_pos q, if_pos q2, Jk hbl, hy, Xcf, Option.bind_some, idx1 (show b.length ≤ 1000000 by omega)]
  by_cases g : apart y x
  ·have g2 : ¬ (Yc y x.f0 x.f1 x.f2).1 ≤ (Yc y x.f0 x.f1 x.f2).2 := fun q => ha.1 q g
   rw [if_neg g2, ih]
   simp [g]
  ·rw [if_pos (ha.2 g), if_pos ⟨y, by simp, g⟩]
theorem XdE {l : List S144} (hlen : l.length ≤ 1000) : ∀ (r b : List S144), l = b ++ r → (∀ y ∈ b, Yq y) → ∀ k, r.length * (l.length + 2) + 1 ≤ k → XE.l0 k l l (l.length : Int) (b.length : Int) = some (chkF b r)
 | [], b, e, hb, k, hk => by
  rw [List.append_nil] at e
  subst e
  obtain ⟨k, rfl⟩ : ∃ k', k = k' + 1 := ⟨k - 1, by omega⟩
  have q : ¬ (l.length : Int) < (l.length : Int) := by omega
  simp only [XE.l0, if_neg q, chkF]
 | x :: r, b, e, hb, k, hk => by
  rw [List.length_cons] at hk
  have hbl : b.length < l.length := by rw [e]; simp
  have hk2 : r.length * (l.length + 2) + 1 + b.length + 2 ≤ k := by
   have : (r.length + 1) * (l.length + 2) = r.length * (l.length + 2) + (l.length + 2) := by rw [Nat.add_mul, Nat.one_mul]
   omega
  obtain ⟨k, rfl⟩ : ∃ k', k = k' + 1 := ⟨k - 1, by omega⟩
  have q : (b.length : Int) < (l.length : Int) := by omega
  have q2 : (0 : Int) ≤ (b.length : Int) := by omega
  have q3 : (b.length : Int) ≤ (l.length : Int) := by omega
  have hx : l[b.length] = x := by simp only [e]; simp
  simp only [XE.l0, if_pos q, if_pos q2, Jk hbl, hx, Xfo, Option.bind_some, decide_eq_true_eq, if_pos q3, Int.toNat_natCast]
  unfold chkF
  by_cases g : Yq x
  ·have htk : l.take b.length = b := by rw [e]; simp
   have hb1 : ∀ y ∈ b ++ [x], Yq y := by
    intro y hy
    rcases List.mem_append.1 hy with q | q
    ·exact hb y q
    ·rw [List.mem_singleton] at q; subst q; exact g
   have e1 : ((b ++ [x]).length : Int) = ((b.length + 1 : Nat) : Int) := by simp
   have ih := XdE hlen r (b ++ [x]) (by rw [e, List.append_assoc]; rfl) hb1
   rw [e1] at ih
   have := XdD (l := l) (i := b.length) (v := chkF (b ++ [x]) r) g (by rw [htk]; exact hb) hlen (by intro k2 hk2; rw [idx1 (by omega)]; exact ih k2 hk2) b [] (by rw [htk]; rfl) k (by omega)
   rw [if_pos g, if_neg (fun q => q g)]
   exact this
  ·rw [if_neg g, if_pos g]
def chk (l : List S144) : Int := if l.length > 60 then 5 else chkF [] l
theorem XdF {l : List S144} (h : l.length ≤ 12 ∨ 60 < l.length) {k : Nat} (hk : 169 ≤ k) : XE.f k l = some (chk l) := by
 unfold XE.f chk
 rcases h with h | h
 ·rw [if_neg (by omega), if_neg (by omega)]
  refine XdE (l := l) (by omega) l [] rfl (by simp) k ?_
  have : l.length * (l.length + 2) ≤ 12 * (12 + 2) := Nat.mul_le_mul h (by omega)
  omega
 ·rw [if_pos (by omega), if_pos h]
theorem Xdy {l : List S144} {i : Nat} {x : S144} {v : Int} (hi : i ≤ l.length) (hlen : l.length ≤ 60)
  (hv : Ev (fun k => Xk.l0 k l (wrap64 ((i : Int) + 1))) v) :
  ∀ (r b : List S144), l.take i = b ++ r → Ev (fun k => Xk.l1 k l i (b.length : Int) x.f0 x.f1 x.f2 x.f3 x.f4) (if ∃ y ∈ r, ¬ apart y x then 6 else v)
 | [], b, e => by
  rw [List.append_nil] at e
  have hbi : b.length = i := by rw [← e]; simp; omega
  refine Ev.succ ?_
  have q : ¬ (b.length : Int) < (i : Int) := by omega
  simp only [Xk.l1, if_neg q]
  rw [if_neg (by simp)]
  exact hv
 | y :: r, b, e => by
  have hbl : b.length < (l.take i).length := by rw [e]; simp
  have hbl3 : (l.take i).length = i := by simp; omega
  have hbl2 : b.length < l.length := by omega
  have q : (b.length : Int) < (i : Int) := by omega
  have q2 : (0 : Int) ≤ (b.length : Int) := by omega
  have q4 : (b.length : Int) < (l.length : Int) := by omega
  have hy : l[b.length] = y := by
   have h1 : (l.take i)[b.length] = y := by simp only [e]; simp
   rw [← h1, List.getElem_take]
  have ih := Xdy hi hlen hv (x := x) r (b ++ [y]) (by rw [e, List.append_assoc]; rfl)
  have e1 : ((b ++ [y]).length : Int) = ((b.length + 1 : Nat) : Int) := by simp
  rw [e1] at ih
  refine Ev.succ ?_
  simp only [Xk.l1, if_pos q, if_pos q2, if_pos q4, Jk hbl2, hy, idx1 (show b.length ≤ 1000000 by omega)]
  have hstep : apart y x → Ev (fun k => Xk.l1 k l i ((b.length + 1 : Nat) : Int) x.f0 x.f1 x.f2 x.f3 x.f4) (if ∃ z ∈ y :: r, ¬ apart z x then 6 else v) := by
   intro g
   have e2 : (∃ z ∈ y :: r, ¬ apart z x) ↔ ∃ z ∈ r, ¬ apart z x := by simp [g]
   simp only [e2]
   exact ih
  refine Ev.ite (fun g1 => Ev.ite (fun g2 => Ev.ite (fun g3 => ?_) (fun g3 => ?_)) (fun g2 => ?_)) (fun g1 => ?_)
  ·have g : ¬ apart y x := fun q => q ⟨g1, g2, g3⟩
   rw [if_pos ⟨y, by simp, g⟩]
   exact Ev.pure _
  ·exact hstep (fun q => g3 q.2.2)
  ·exact hstep (fun q => g2 q.2.1)
  ·exact hstep (fun q => g1 q.1)
theorem Xdz {l : List S144} (hlen : l.length ≤ 60) : ∀ (r b : List S144), l = b ++ r → Ev (fun k => Xk.l0 k l (b.length : Int)) (chkF b r)
 | [], b, e => by
  rw [List.append_nil] at e
  subst e
  refine Ev.succ ?_
  have q : ¬ (l.length : Int) < (l.length : Int) := by omega
  simp only [Xk.l0, if_neg q, chkF]
  exact Ev.pure _
 | x :: r, b, e => by
  have hbl : b.length < l.length := by rw [e]; simp
  have q : (b.length : Int) < (l.length : Int) := by omega
  have q2 : (0 : Int) ≤ (b.length : Int) := by omega
  have hx : l[b.length] = x := by simp only [e]; simp
  have hbad : ¬ Yq x → Ev (fun k => Xk.j1 k l b.length true x.f0 x.f1 x.f2 x.f3 x.f4) (chkF b (x :: r)) := by
   intro g
   refine Ev.succ ?_
   simp only [Xk.j1, if_true]
   unfold chkF
   rw [if_pos g]
   exact Ev.pure _
  refine Ev.succ ?_
  simp only [Xk.l0, if_pos q, if_pos q2, Jk hbl, hx, Xb3, Option.bind_some, decide_eq_true_eq]
  refine Ev.ite (fun g1 => Ev.ite (fun g2 => Ev.ite (fun g3 => Ev.ite (fun g4 => ?_) (fun g4 => ?_)) (fun g3 => ?_)) (fun g2 => ?_)) (fun g1 => ?_)
  ·by_cases g5 : x.f2 > 100000
   ·rw [decide_eq_true g5]
    exact hbad (fun q => by have := q.2.2.2.2.2; omega)
   ·rw [decide_eq_false g5]
    have g : Yq x := ⟨g1, g2, g3, by omega, by omega, by omega⟩
    refine Ev.succ ?_
    simp only [Xk.j1, Bool.false_eq_true, if_false]
    unfold chkF
    rw [if_neg (fun q => q g)]
    have htk : l.take b.length = b := by rw [e]; simp
    have e1 : ((b ++ [x]).length : Int) = ((b.length + 1 : Nat) : Int) := by simp
    have ih := Xdz hlen r (b ++ [x]) (by rw [e, List.append_assoc]; rfl)
    rw [e1] at ih
    exact Xdy (l := l) (i := b.length) (x := x) (v := chkF (b ++ [x]) r) (by omega) hlen (by rw [idx1 (by omega)]; exact ih) b [] (by rw [htk]; rfl)
  ·exact hbad (fun q => g4 ⟨q.2.2.2.1, q.2.2.2.2.1⟩)
  ·exact hbad (fun q => g3 q.2.2.1)
  ·exact hbad (fun q => g2 q.2.1)
  ·exact hbad (fun q => g1 q.1)
theorem XbY (l : List S144) : Ev (fun k => Xk.f k l) (chk l) := by
 unfold chk
 simp only [Xk.f]
 by_cases h : l.length > 60
 ·rw [if_pos h]; simp only [if_pos (show (l.length : Int) > 60 by omega)]; exact Ev.pure _
 ·rw [if_neg h]; simp only [if_neg (show ¬ (l.length : Int) > 60 by omega)]
  exact Xdz (by omega) l [] rfl
end Go.Proofs.Ytiaiecfnpompcaa.T
namespace Go.Proofs.Ytiaiecfnpompcaa.T
open Go.RowKit Go.Proofs.YtiaiecfnpompcaaW.PrintWords
set_option linter.unusedVariables false
set_option linter.unusedSimpArgs false
set_option linter.unusedSectionVars false
theorem XdZ (l : List S144) (hlen : l.length ≤ 1000000) : ∀ (n i : Nat), n = l.length - i → i ≤ l.length → Ev (fun k => XN.l0 k l l i) true := by
 intro n
 induction n with
 | zero =>
  intro i hn hi
  refine Ev.succ ?_
  have q : ¬ (i : Int) < (l.length : Int) := by omega
  simp only [XN.l0, if_neg q]
  exact Ev.pure _
 | succ n ih =>
  intro i hn hi
  refine Ev.succ ?_
  have q : (i : Int) < (l.length : Int) := by omega
  have q2 : (0 : Int) ≤ (i : Int) := by omega
  simp only [XN.l0, if_pos q, if_pos q2, beq_self_eq_true, Bool.not_true, Bool.or_self, Bool.false_eq_true, if_false, idx1 (show i ≤ 1000000 by omega)]
  exact ih (i + 1) (by omega) (by omega)
theorem Xe9 (l : List S144) (hlen : l.length ≤ 1000000) : Ev (fun k => XN.f k l l) true := by
 have := XdZ l hlen l.length 0 (by omega) (by omega)
 simpa [XN.f] using this
theorem Xfy (l : List S58) (hlen : l.length ≤ 1000000) : ∀ (n i : Nat), n = l.length - i → i ≤ l.length → Ev (fun k => Xw.l0 k l l i) true := by
 intro n
 induction n with
 | zero =>
  intro i hn hi
  refine Ev.succ ?_
  have q : ¬ (i : Int) < (l.length : Int) := by omega
  simp only [Xw.l0, if_neg q]
  exact Ev.pure _
 | succ n ih =>
  intro i hn hi
  refine Ev.succ ?_
  have q : (i : Int) < (l.length : Int) := by omega
  have q2 : (0 : Int) ≤ (i : Int) := by omega
  simp only [Xw.l0, if_pos q, if_pos q2, beq_self_eq_true, Bool.not_true, Bool.or_self, Bool.false_eq_true, if_false, idx1 (show i ≤ 1000000 by omega)]
  exact ih (i + 1) (by omega) (by omega)
theorem Xc6 (l : List S58) (hlen : l.length ≤ 1000000) : Ev (fun k => Xw.f k l l) true := by
 have := Xfy l hlen l.length 0 (by omega) (by omega)
 simpa [Xw.f] using this
theorem Xgw (l : List S58) (hlen : l.length ≤ 1000000) : ∀ (n i : Nat), n = l.length - i → i ≤ l.length → ∃ b, Ev (fun k => Xt.l0 k l i) b := by
 intro n
 induction n with
 | zero =>
  intro i hn hi
  refine ⟨false, Ev.succ ?_⟩
  have q : ¬ (i : Int) < (l.length : Int) := by omega
  simp only [Xt.l0, if_neg q]
  exact Ev.pure _
 | succ n ih =>
  intro i hn hi
  obtain ⟨b, hb⟩ := ih (i + 1) (by omega) (by omega)
  have q : (i : Int) < (l.length : Int) := by omega
  have q2 : (0 : Int) ≤ (i : Int) := by omega
  by_cases g1 : (XJ l i).f1 ≥ 0
  ·by_cases g2 : (XJ l i).f2 ≤ 100000
   ·by_cases g3 : wrap64 ((XJ l i).f2 - (XJ l i).f1) > 60
    ·refine ⟨true, Ev.succ ?_⟩
     simp only [Xt.l0, if_pos q, if_pos q2, if_pos g1, if_pos g2, if_pos g3]
     exact Ev.pure _
    ·refine ⟨b, Ev.succ ?_⟩
     simp only [Xt.l0, if_pos q, if_pos q2, if_pos g1, if_pos g2, if_neg g3, idx1 (show i ≤ 1000000 by omega)]
     exact hb
   ·refine ⟨b, Ev.succ ?_⟩
    simp only [Xt.l0, if_pos q, if_pos q2, if_pos g1, if_neg g2, idx1 (show i ≤ 1000000 by omega)]
    exact hb
  ·refine ⟨b, Ev.succ ?_⟩
   simp only [Xt.l0, if_pos q, if_pos q2, if_neg g1, idx1 (show i ≤ 1000000 by omega)]
   exact hb
theorem Xee (l : List S58) (hlen : l.length ≤ 1000000) : ∃ b, Ev (fun k => Xt.f k l) b := by
 have := Xgw l hlen l.length 0 (by omega) (by omega)
 simpa [Xt.f] using this
theorem Xec {l : List S58} (h : l.length ≤ 1000000) : Ya.f l = some l := by
 unfold Ya.f
 simp only [Option.bind_some, List.length_nil, List.nil_append]
 rw [if_pos (by omega)]
theorem XhH {l : List S144} (h : l.length ≤ 1000000) : YE.f l = some l := by
 unfold YE.f
 simp only [Option.bind_some, List.length_nil, List.nil_append]
 rw [if_pos (by omega)]
def JP (l : List S144) : Bool := decide (l.length > 65 ∨ 12 < l.length ∧ l.length ≤ 60)
theorem XgZ {l : List (List S58)} {i : Nat} (h : i < l.length) : Yv l i = l[i] := by simp [Yv, h]
theorem Xbu {l : List (List S79)} {i : Nat} (h : i < l.length) : XA l i = l[i] := by simp [XA, h]
theorem Xgt (l : List S144) (ls : List (List S58)) (h5 : ls.length ≤ 5) (i : Int) : Ev (fun k => Xv.j1 k l ls i false) (JP l) := by
 refine Ev.succ ?_
 simp only [Xv.j1, Bool.false_eq_true, if_false]
 have hd : decide ((ls.length : Int) > 5) = false := decide_eq_false (by omega)
 rw [hd]
 by_cases g1 : l.length > 65
 ·have e : JP l = true := by unfold JP; rw [decide_eq_true_eq]; exact .inl g1
  rw [e]
  simp only [if_pos (show (l.length : Int) > 65 by omega)]
  exact Ev.pure _
 ·simp only [if_neg (show ¬ (l.length : Int) > 65 by omega)]
  by_cases g2 : l.length > 12
  ·simp only [if_pos (show (l.length : Int) > 12 by omega)]
   by_cases g3 : l.length ≤ 60
   ·have e : JP l = true := by unfold JP; rw [decide_eq_true_eq]; exact .inr ⟨g2, g3⟩
    rw [e]
    simp only [if_pos (show (l.length : Int) ≤ 60 by omega)]
    exact Ev.pure _
   ·have e : JP l = false := by unfold JP; rw [decide_eq_false_iff_not]; omega
    rw [e]
    simp only [if_neg (show ¬ (l.length : Int) ≤ 60 by omega)]
    exact Ev.pure _
  ·have e : JP l = false := by unfold JP; rw [decide_eq_false_iff_not]; omega
   rw [e]
   simp only [if_neg (show ¬ (l.length : Int) > 12 by omega)]
   exact Ev.pure _
theorem XdG (l : List S144) (ls : List (List S58)) (h5 : ls.length ≤ 5) : ∀ (r b : List (List S58)), ls = b ++ r → ∃ v, Ev (fun k => Xv.l0 k l ls (b.length : Int)) v ∧ (v = false → JP l = false ∧ ∀ x ∈ r, x.length ≤ 45)
 | [], b, e => by
  rw [List.append_nil] at e
  subst e
  refine ⟨JP l, Ev.succ ?_, fun h => ⟨h, fun x hx => by simp at hx⟩⟩
  have q : ¬ (ls.length : Int) < (ls.length : Int) := by omega
  simp only [Xv.l0, if_neg q]
  exact Xgt l ls h5 _
 | x :: r, b, e => by
  have hbl : b.length < ls.length := by rw [e]; simp
  have q : (b.length : Int) < (ls.length : Int) := by omega
  have q2 : (0 : Int) ≤ (b.length : Int) := by omega
  have q5 : decide ((b.length : Int) < 5) = true := decide_eq_true (by omega)
  have hx : ls[b.length] = x := by simp only [e]; simp
  obtain ⟨v, hv, hf⟩ := XdG l ls h5 r (b ++ [x]) (by rw [e, List.append_assoc]; rfl)
  have e1 : ((b ++ [x]).length : Int) = ((b.length + 1 : Nat) : Int) := by simp
  rw [e1] at hv
  have step : ∀ u, Ev (fun k => if (x.length : Int) > 8 then (if (x.length : Int) ≤ 40 then some true else if (x.length : Int) > 45 then some true else Xv.l0 k l ls ((b.length + 1 : Nat) : Int)) else if (x.length : Int) > 45 then some true else Xv.l0 k l ls ((b.length + 1 : Nat) : Int)) u → Ev (fun k => Xv.l0 k l ls (b.length : Int)) u := by
   intro u hu
   refine Ev.succ ?_
   simp only [Xv.l0, if_pos q, q5]
   refine Ev.succ ?_
   simp only [Xv.j1, if_true, if_pos q, if_pos q2, XgZ hbl, hx, idx1 (show b.length ≤ 1000000 by omega)]
   exact hu
  by_cases g1 : x.length > 8
  ·by_cases g2 : x.length ≤ 40
   ·refine ⟨true, step _ ?_, fun h => by cases h⟩
    simp only [if_pos (show (x.length : Int) > 8 by omega), if_pos (show (x.length : Int) ≤ 40 by omega)]
    exact Ev.pure _
   ·by_cases g3 : x.length > 45
    ·refine ⟨true, step _ ?_, fun h => by cases h⟩
     simp only [if_pos (show (x.length : Int) > 8 by omega), if_neg (show ¬ (x.length : Int) ≤ 40 by omega), if_pos (show (x.length : Int) > 45 by omega)]
     exact Ev.pure _
    ·refine ⟨v, step _ ?_, fun h => ⟨(hf h).1, fun y hy => ?_⟩⟩
     ·simp only [if_pos (show (x.length : Int) > 8 by omega), if_neg (show ¬ (x.length : Int) ≤ 40 by omega), if_neg (show ¬ (x.length : Int) > 45 by omega)]
      exact hv
     ·rcases List.mem_cons.1 hy with q | q
      ·subst q; omega
      ·exact (hf h).2 y q
  ·refine ⟨v, step _ ?_, fun h => ⟨(hf h).1, fun y hy => ?_⟩⟩
   ·simp only [if_neg (show ¬ (x.length : Int) > 8 by omega), if_neg (show ¬ (x.length : Int) > 45 by omega)]
    exact hv
   ·rcases List.mem_cons.1 hy with q | q
    ·subst q; omega
    ·exact (hf h).2 y q
theorem XhR (l : List S144) (ls : List (List S58)) (h5 : ls.length ≤ 5) : ∃ v, Ev (fun k => Xv.f k l ls) v ∧ (v = false → JP l = false ∧ ∀ x ∈ ls, x.length ≤ 45) := by
 have := XdG l ls h5 ls [] rfl
 simpa [Xv.f] using this
section
variable {l : List S144} (hlen : l.length ≤ 60) (hok : ∀ x ∈ l, Yq x) (hap : l.Pairwise apart)
include hlen hok hap in
theorem XaN (x : S58) : Ev (fun k => Xd.f k l x.f0 x.f1 x.f2) (if Jg l x = 0 then X8 (XB l x) else [], Jg l x) ∧ (Jg l x = 0 → Srt (X8 (XB l x)) ∧ (X8 (XB l x)).length ≤ 1000) := by
 have hev := Xd0 (m := x.f0) (f := x.f1) (t := x.f2) hlen hok hap
 unfold Jg XB
 by_cases k1 : Jq x.f0 x.f1 x.f2
 rotate_left
 ·have e : Yg l x.f0 x.f1 x.f2 = 2 := by unfold Yg; rw [if_pos k1]
  rw [if_neg k1] at hev
  rw [e]
  exact ⟨hev, fun q => absurd q (by decide)⟩
 ·have hft : x.f1 ≤ x.f2 := k1.2.2
  obtain ⟨s1, s2⟩ := Xf6 (l := l) (m := x.f0) hft
  have s3 := Xgb (m := x.f0) hap hft
  rw [if_pos k1] at hev
  unfold XbV at hev
  by_cases k2 : ∃ y ∈ l, YX y x.f0 x.f1 x.f2
  ·have e : Yg l x.f0 x.f1 x.f2 = 5 := by unfold Yg; rw [if_neg (fun q => q k1), if_pos k2]
   obtain ⟨y, hy, hly⟩ := k2
   have b1 := XeL hly
   have b2 := Xhh (m := x.f0) (f := x.f1) (t := x.f2) hy
   rw [if_pos (by omega)] at hev
   rw [e]
   exact ⟨hev, fun q => absurd q (by decide)⟩
  ·by_cases k3 : (XD (X7 l x.f0 x.f1 x.f2)).length > 1000
   ·have e : Yg l x.f0 x.f1 x.f2 = 5 := by unfold Yg; rw [if_neg (fun q => q k1), if_neg k2, if_pos k3]
    rw [if_pos (by omega)] at hev
    rw [e]
    exact ⟨hev, fun q => absurd q (by decide)⟩
   ·have e : Yg l x.f0 x.f1 x.f2 = 0 := by unfold Yg; rw [if_neg (fun q => q k1), if_neg k2, if_neg k3]
    rw [if_neg (by omega)] at hev
    rw [e, if_pos rfl, s1]
    exact ⟨hev, fun _ => ⟨Xdv, by omega⟩⟩
def XI (l : List S144) (ls : List S58) : List (List S79) := ls.map fun x => X8 (XB l x)
include hlen hok hap in
theorem XdH {ls : List S58} (hls : ls.length ≤ 1000) : ∀ (r b : List S58), ls = b ++ r → Ev (fun k => Xx.l0 k l ls (XI l b) (b.length : Int)) (if allE l r = 0 then XI l ls else [], allE l r)
 | [], b, e => by
  rw [List.append_nil] at e
  subst e
  refine Ev.succ ?_
  have q : ¬ (ls.length : Int) < (ls.length : Int) := by omega
  simp only [Xx.l0, if_neg q]
  exact Ev.pure _
 | x :: r, b, e => by
  have hbl : b.length < ls.length := by rw [e]; simp
  have q : (b.length : Int) < (ls.length : Int) := by omega
  have q2 : (0 : Int) ≤ (b.length : Int) := by omega
  have hx : ls[b.length] = x := by simp only [e]; simp
  have hrd : XJ ls (b.length : Int) = x := by simp [XJ, hbl, hx]
  have ih := XdH hls r (b ++ [x]) (by rw [e, List.append_assoc]; rfl)
  have e1 : ((b ++ [x]).length : Int) = ((b.length + 1 : Nat) : Int) := by simp
  have e2 : XI l (b ++ [x]) = XI l b ++ [X8 (XB l x)] := by unfold XI; rw [List.map_append]; rfl
  rw [e1, e2] at ih
  refine Ev.succ ?_
  simp only [Xx.l0, if_pos q, if_pos q2, hrd]
  refine Ev.bind (XaN hlen hok hap x).1 ?_
  by_cases g : Jg l x = 0
  ·have eA : allE l (x :: r) = allE l r := by rw [allE, if_neg (by simp [g])]
   rw [eA]
   have hl6 : (XI l b).length < 5864062014805 := by unfold XI; rw [List.length_map]; omega
   simp only [if_pos g, if_pos hl6, idx1 (show b.length ≤ 1000000 by omega)]
   exact ih
  ·have eA : allE l (x :: r) = Jg l x := by rw [allE, if_pos g]
   rw [eA]
   simp only [if_neg g]
   exact Ev.pure _
include hlen hok hap in
theorem Xeb {ls : List S58} (hls : ls.length ≤ 1000) : Ev (fun k => Xx.f k l ls) (if allE l ls = 0 then XI l ls else [], allE l ls) := by
 have := XdH hlen hok hap hls ls [] rfl
 simpa [Xx.f, XI] using this
end
theorem Xco (L : List S79) (x : S79) (hL : L.length ≤ 1000000) : ∀ (r b : List S79), L = b ++ r → Ev (fun k => Xy.l0 k L (b.length : Int) x.f0 x.f1 x.f2) (decide (x ∈ r))
 | [], b, e => by
  rw [List.append_nil] at e
  subst e
  refine Ev.succ ?_
  have q : ¬ (L.length : Int) < (L.length : Int) := by omega
  simp only [Xy.l0, if_neg q]
  have : decide (x ∈ ([] : List S79)) = false := by simp
  rw [this]
  exact Ev.pure _
 | y :: r, b, e => by
  have hbl : b.length < L.length := by rw [e]; simp
  have q : (b.length : Int) < (L.length : Int) := by omega
  have q2 : (0 : Int) ≤ (b.length : Int) := by omega
  have hx : L[b.length] = y := by simp only [e]; simp
  have ih := Xco L x hL r (b ++ [y]) (by rw [e, List.append_assoc]; rfl)
  have e1 : ((b ++ [y]).length : Int) = ((b.length + 1 : Nat) : Int) := by simp
  rw [e1] at ih
  have e2 : (y.f0 == x.f0 && (y.f1 == x.f1 && y.f2 == x.f2)) = decide (x = y) := by
   obtain ⟨a, b, c⟩ := x
   obtain ⟨a', b', c'⟩ := y
   rw [Bool.eq_iff_iff]
   simp only [Bool.and_eq_true, beq_iff_eq, decide_eq_true_eq, S79.mk.injEq]
   exact ⟨fun ⟨h1, h2, h3⟩ => ⟨h1.symm, h2.symm, h3.symm⟩, fun ⟨h1, h2, h3⟩ => ⟨h1.symm, h2.symm, h3.symm⟩⟩
  refine Ev.succ ?_
  simp only [Xy.l0, if_pos q, if_pos q2, JG hbl, hx, e2, decide_eq_true_eq, idx1 (show b.length ≤ 1000000 by omega)]
  by_cases g : x = y
  ·simp only [if_pos g]
   have : decide (x ∈ y :: r) = true := by simp [g]
   rw [this]
   exact Ev.pure _
  ·simp only [if_neg g]
   have : decide (x ∈ y :: r) = decide (x ∈ r) := by simp [g]
   rw [this]
   exact ih
theorem XaV (L : List S79) (x : S79) (hL : L.length ≤ 1000000) : Ev (fun k => Xy.f k L x.f0 x.f1 x.f2) (decide (x ∈ L)) := by
 have := Xco L x hL L [] rfl
 simpa [Xy.f] using this
section
variable {kss gss : List (List S79)} {K0 : List S79} {kr : List (List S79)} (hk : kss = K0 :: kr) (h1 : ∀ ks ∈ kss, ks.length ≤ 1000000) (h2 : ∀ ks ∈ gss, ks.length ≤ 1000000) (hn1 : kss.length ≤ 1000) (hn2 : gss.length ≤ 1000)
include hk h2 hn2 hn1 h1 in
theorem Xhq {out : List S79} {i : Nat} (hi : i < K0.length) (ho : out.length ≤ 1000000) {v : List S79 × Int} : ∀ (r b : List (List S79)), gss = b ++ r → ∀ ok : Bool,
  Ev (fun k => Xf.l0 k kss gss (if (ok && !(r.any fun ks => decide (K0[i] ∈ ks))) = true then out ++ [K0[i]] else out) ((i + 1 : Nat) : Int)) v → Ev (fun k => Xf.l2 k kss gss out (i : Int) ok (b.length : Int)) v
 | [], b, e, ok, hv => by
  rw [List.append_nil] at e
  subst e
  have h0 : (0 : Int) < (kss.length : Int) := by rw [hk, List.length_cons]; omega
  have hr0 : XA kss 0 = K0 := by rw [hk]; rfl
  have q3 : (0 : Int) ≤ (i : Int) := by omega
  have q4 : (i : Int) < (K0.length : Int) := by omega
  have q5 : out.length < 5864062014805 := by omega
  have hiK : i ≤ 1000000 := by have := h1 K0 (by rw [hk]; simp); omega
  refine Ev.succ ?_
  have q : ¬ (gss.length : Int) < (gss.length : Int) := by omega
  simp only [Xf.l2, if_neg q, hr0, if_pos h0, if_pos q3, if_pos q4, if_pos q5, JG hi, idx1 hiK]
  cases ok with
  | true =>
   simp only [if_true]
   simpa using hv
  | false =>
   simp only [Bool.false_eq_true, if_false]
   simpa using hv
 | g :: r, b, e, ok, hv => by
  have h0 : (0 : Int) < (kss.length : Int) := by rw [hk, List.length_cons]; omega
  have hr0 : XA kss 0 = K0 := by rw [hk]; rfl
  have q3 : (0 : Int) ≤ (i : Int) := by omega
  have q4 : (i : Int) < (K0.length : Int) := by omega
  have hbl : b.length < gss.length := by rw [e]; simp
  have q : (b.length : Int) < (gss.length : Int) := by omega
  have q2 : (0 : Int) ≤ (b.length : Int) := by omega
  have hx : gss[b.length] = g := by simp only [e]; simp
  have hg := h2 g (by rw [e]; simp)
  have e1 : ((b ++ [g]).length : Int) = ((b.length + 1 : Nat) : Int) := by simp
  have ih := Xhq hi ho (v := v) r (b ++ [g]) (by rw [e, List.append_assoc]; rfl)
  rw [e1] at ih
  refine Ev.succ ?_
  simp only [Xf.l2, if_pos q, if_pos q2, hr0, if_pos h0, if_pos q3, if_pos q4, JG hi, Xbu hbl, hx, idx1 (show b.length ≤ 1000000 by omega)]
  cases ok with
  | true =>
   simp only [if_true]
   refine Ev.bind (XaV g K0[i] hg) ?_
   refine ih _ ?_
   simpa using hv
  | false =>
   simp only [Bool.false_eq_true, if_false]
   refine ih _ ?_
   simpa using hv
include hk h2 hn2 hn1 h1 in
theorem Xhr {out : List S79} {i : Nat} (hi : i < K0.length) (ho : out.length ≤ 1000000) {v : List S79 × Int} : ∀ (r b : List (List S79)), kss = b ++ r → ∀ ok : Bool,
  Ev (fun k => Xf.l2 k kss gss out (i : Int) (ok && !(r.any fun ks => !decide (K0[i] ∈ ks))) 0) v → Ev (fun k => Xf.l1 k kss gss out (i : Int) ok (b.length : Int)) v
 | [], b, e, ok, hv => by
  rw [List.append_nil] at e
  subst e
  refine Ev.succ ?_
  have q : ¬ (kss.length : Int) < (kss.length : Int) := by omega
  simp only [Xf.l1, if_neg q]
  simpa using hv
 | g :: r, b, e, ok, hv => by
  have h0 : (0 : Int) < (kss.length : Int) := by rw [hk, List.length_cons]; omega
  have hr0 : XA kss 0 = K0 := by rw [hk]; rfl
  have q3 : (0 : Int) ≤ (i : Int) := by omega
  have q4 : (i : Int) < (K0.length : Int) := by omega
  have hbl : b.length < kss.length := by rw [e]; simp
  have q : (b.length : Int) < (kss.length : Int) := by omega
  have q2 : (0 : Int) ≤ (b.length : Int) := by omega
  have hx : kss[b.length] = g := by simp only [e]; simp
  have hg := h1 g (by rw [e]; simp)
  have e1 : ((b ++ [g]).length : Int) = ((b.length + 1 : Nat) : Int) := by simp
  have ih := Xhr hi ho (v := v) r (b ++ [g]) (by rw [e, List.append_assoc]; rfl)
  rw [e1] at ih
  refine Ev.succ ?_
  simp only [Xf.l1, if_pos q, if_pos q2, hr0, if_pos h0, if_pos q3, if_pos q4, JG hi, Xbu hbl, hx, idx1 (show b.length ≤ 1000000 by omega)]
  cases ok with
  | true =>
   simp only [if_true]
   refine Ev.bind (XaV g K0[i] hg) ?_
   refine ih _ ?_
   simpa using hv
  | false =>
   simp only [Bool.false_eq_true, if_false]
   refine ih _ ?_
   simpa using hv
include hk h2 hn2 hn1 h1 in
theorem Xhs : ∀ (r b : List S79), K0 = b ++ r → Ev (fun k => Xf.l0 k kss gss (b.filter (gdB kss gss)) (b.length : Int)) (K0.filter (gdB kss gss), 0)
 | [], b, e => by
  rw [List.append_nil] at e
  have h0 : (0 : Int) < (kss.length : Int) := by rw [hk, List.length_cons]; omega
  have hr0 : XA kss 0 = K0 := by rw [hk]; rfl
  refine Ev.succ ?_
  have q : ¬ (b.length : Int) < (K0.length : Int) := by rw [e]; omega
  simp only [Xf.l0, if_pos h0, hr0, if_neg q]
  rw [e]
  exact Ev.pure _
 | x :: r, b, e => by
  have h0 : (0 : Int) < (kss.length : Int) := by rw [hk, List.length_cons]; omega
  have hr0 : XA kss 0 = K0 := by rw [hk]; rfl
  have hbl : b.length < K0.length := by rw [e]; simp
  have q : (b.length : Int) < (K0.length : Int) := by omega
  have hx : K0[b.length] = x := by simp only [e]; simp
  have hK := h1 K0 (by rw [hk]; simp)
  have ih := Xhs r (b ++ [x]) (by rw [e, List.append_assoc]; rfl)
  have e1 : ((b ++ [x]).length : Int) = ((b.length + 1 : Nat) : Int) := by simp
  rw [e1] at ih
  refine Ev.succ ?_
  simp only [Xf.l0, if_pos h0, hr0, if_pos q]
  have hfl : (b.filter (gdB kss gss)).length ≤ 1000000 := by have := List.length_filter_le (gdB kss gss) b; omega
  refine Xhr hk h1 h2 hn1 hn2 hbl hfl kss [] rfl true ?_
  refine Xhq hk h1 h2 hn1 hn2 hbl hfl gss [] rfl _ ?_
  rw [hx]
  have e3 : ((true && !(kss.any fun ks => !decide (x ∈ ks))) && !(gss.any fun ks => decide (x ∈ ks))) = gdB kss gss x := by unfold gdB; rw [Bool.true_and]
  rw [e3]
  rw [List.filter_append] at ih
  cases hg : gdB kss gss x with
  | true =>
   simp only [List.filter_cons, hg, if_true, List.filter_nil] at ih
   simpa using ih
  | false =>
   simp only [List.filter_cons, hg, Bool.false_eq_true, if_false, List.filter_nil, List.append_nil] at ih
   simpa using ih
end
theorem YT {ks : List S79} {x : S79} : x ∈ X8 ks ↔ x ∈ ks := by
 unfold X8
 rw [List.mem_mergeSort]
 obtain ⟨_, t2⟩ := Y2 ks [] (by simp)
 show x ∈ XD ks ↔ _
 unfold XD
 rw [t2]; simp
theorem Xhj (l : List S144) (bad good : List S58) (x : S79) : gdB (XI l bad) (XI l good) x = gdB (bad.map (XB l)) (good.map (XB l)) x := by
 unfold gdB XI
 simp only [List.any_map, Function.comp_def, YT]
def culV (l : List S144) (bad good : List S58) : List S79 × Int :=
 if 40 < bad.length ∨ 40 < good.length then ([], 5) else if bad.length = 0 then ([], 7) else if allE l bad ≠ 0 then ([], allE l bad) else if allE l good ≠ 0 then ([], allE l good) else (X8 (XaT (bad.map (XB l)) (good.map (XB l))), 0)
theorem Xf9 {l : List S144} (hlen : l.length ≤ 60) (hc : chk l = 0) (bad good : List S58) : Ev (fun k => Xf.f k l bad good) (culV l bad good) ∧ (culV l bad good).1.length ≤ 1000000 := by
 have hcf : chkF [] l = 0 := by unfold chk at hc; rwa [if_neg (by omega)] at hc
 obtain ⟨hok, hap⟩ := Xb7 l [] (by simp) (by simp) hcf
 rw [List.nil_append] at hok hap
 have hrc := XbY l
 rw [hc] at hrc
 have base : ∀ v, (Ev (fun k => Xf.j0 k l bad good (decide (40 < bad.length ∨ 40 < good.length))) v) → Ev (fun k => Xf.f k l bad good) v := by
  intro v hv
  simp only [Xf.f]
  refine Ev.bind hrc ?_
  simp only [if_true]
  by_cases g1 : 40 < bad.length
  ·simp only [if_pos (show (bad.length : Int) > 40 by omega)]
   rw [decide_eq_true (.inl g1)] at hv
   exact hv
  ·simp only [if_neg (show ¬ (bad.length : Int) > 40 by omega)]
   have : decide (40 < bad.length ∨ 40 < good.length) = decide ((good.length : Int) > 40) := by apply decide_eq_decide.2; omega
   rw [this] at hv
   exact hv
 unfold culV
 by_cases g1 : 40 < bad.length ∨ 40 < good.length
 ·rw [if_pos g1]
  refine ⟨base _ ?_, by simp⟩
  rw [decide_eq_true g1]
  refine Ev.succ ?_
  simp only [Xf.j0, if_true]
  exact Ev.pure _
 ·rw [if_neg g1]
  rw [decide_eq_false g1] at base
  by_cases g2 : bad.length = 0
  ·rw [if_pos g2]
   refine ⟨base _ (Ev.succ ?_), by simp⟩
   simp only [Xf.j0, Bool.false_eq_true, if_false, if_pos (show (bad.length : Int) = 0 by omega)]
   exact Ev.pure _
  ·rw [if_neg g2]
   have hb := Xeb hlen hok hap (ls := bad) (by omega)
   have hg := Xeb hlen hok hap (ls := good) (by omega)
   by_cases g3 : allE l bad = 0
   rotate_left
   ·rw [if_pos g3]
    rw [if_neg g3] at hb
    refine ⟨base _ (Ev.succ ?_), by simp⟩
    simp only [Xf.j0, Bool.false_eq_true, if_false, if_neg (show ¬ (bad.length : Int) = 0 by omega)]
    refine Ev.bind hb ?_
    simp only [if_neg g3]
    exact Ev.pure _
   ·rw [if_neg (by simp [g3])]
    rw [if_pos g3] at hb
    by_cases g4 : allE l good = 0
    rotate_left
    ·rw [if_pos g4]
     rw [if_neg g4] at hg
     refine ⟨base _ (Ev.succ ?_), by simp⟩
     simp only [Xf.j0, Bool.false_eq_true, if_false, if_neg (show ¬ (bad.length : Int) = 0 by omega)]
     refine Ev.bind hb ?_
     simp only [if_pos g3]
     refine Ev.bind hg ?_
     simp only [if_neg g4]
     exact Ev.pure _
    ·rw [if_neg (by simp [g4])]
     rw [if_pos g4] at hg
     obtain ⟨x0, br, hbad⟩ : ∃ x0 br, bad = x0 :: br := List.exists_cons_of_ne_nil (fun e => g2 (by rw [e]; rfl))
     have hK : XI l bad = X8 (XB l x0) :: XI l br := by rw [hbad]; rfl
     have hb1 : ∀ (ls : List S58), allE l ls = 0 → ∀ ks ∈ XI l ls, ks.length ≤ 1000000 := by
      intro ls h0 ks hks
      obtain ⟨x, hx, rfl⟩ := List.mem_map.1 hks
      have := ((XaN hlen hok hap x).2 (Jb h0 x hx)).2
      omega
     have hl0 := Xhs hK (hb1 bad g3) (hb1 good g4) (by unfold XI; rw [List.length_map]; omega) (by unfold XI; rw [List.length_map]; omega) (X8 (XB l x0)) [] rfl
     have hsr := ((XaN hlen hok hap x0).2 (Jb g3 x0 (by rw [hbad]; simp)))
     have hfin : X8 (XaT (bad.map (XB l)) (good.map (XB l))) = (X8 (XB l x0)).filter (gdB (XI l bad) (XI l good)) := by
      refine (Xdu (List.Pairwise.filter _ hsr.1) (fun y => ?_)).1
      unfold XaT
      rw [List.mem_filter, YT, Xhj, hbad, List.map_cons, List.headD_cons, List.mem_filter]
     rw [hfin]
     refine ⟨base _ (Ev.succ ?_), ?_⟩
     ·simp only [Xf.j0, Bool.false_eq_true, if_false, if_neg (show ¬ (bad.length : Int) = 0 by omega)]
      refine Ev.bind hb ?_
      simp only [if_pos g3]
      refine Ev.bind hg ?_
      simp only [if_pos g4]
      simpa using hl0
     ·have := List.length_filter_le (gdB (XI l bad) (XI l good)) (X8 (XB l x0))
      have := hsr.2
      show ((X8 (XB l x0)).filter _).length ≤ _
      omega
end Go.Proofs.Ytiaiecfnpompcaa.T
namespace Go.Proofs.Ytiaiecfnpompcaa.T
open Go.RowKit Go.Proofs.YtiaiecfnpompcaaW.PrintWords
set_option linter.unusedVariables false
set_option linter.unusedSimpArgs false
theorem XbU (ks : List S79) : (X8 ks).length = (XD ks).length := by unfold X8; rw [List.length_mergeSort]
end Go.Proofs.Ytiaiecfnpompcaa.T
namespace Go.Proofs.Ytiaiecfnpompcaa.T
open Go.RowKit Go.Proofs.YtiaiecfnpompcaaW.PrintWords Go.Proofs.YtiaiecfnpompcaaW.PrintLast Go.Proofs.YtiaiecfnpompcaaW.PrintMore
set_option linter.unusedVariables false
set_option linter.unusedSectionVars false
set_option linter.unusedSimpArgs false
def isCB (x : S79) : Bool := decide (((x.f0 = 1 ∨ x.f0 = 2) ∧ x.f1 = 0 ∧ 0 ≤ x.f2 ∧ x.f2 ≤ 1000) ∨ (x.f0 = 3 ∧ (0 ≤ x.f1 ∧ x.f1 ≤ 1000) ∧ 0 ≤ x.f2 ∧ x.f2 ≤ 100000))
theorem XhW (x : S79) : X1.f 1000 x.f0 x.f1 x.f2 = some (isCB x) := by
 unfold X1.f isCB
 by_cases g1 : x.f0 = 1
 ·rw [if_pos g1, beq_iff_eq.2 g1]
  simp only [X1.j0, if_true]
  by_cases g2 : x.f1 = 0
  ·rw [if_pos g2, Jd, Option.bind_some]
   congr 1; apply decide_eq_decide.2; omega
  ·rw [if_neg g2]; congr 1; symm; rw [decide_eq_false_iff_not]; omega
 ·rw [if_neg g1]
  by_cases g3 : x.f0 = 2
  ·rw [beq_iff_eq.2 g3]
   simp only [X1.j0, if_true]
   by_cases g2 : x.f1 = 0
   ·rw [if_pos g2, Jd, Option.bind_some]
    congr 1; apply decide_eq_decide.2; omega
   ·rw [if_neg g2]; congr 1; symm; rw [decide_eq_false_iff_not]; omega
  ·rw [show (x.f0 == 2) = false from beq_eq_false_iff_ne.mpr g3]
   simp only [X1.j0, Bool.false_eq_true, if_false]
   by_cases g4 : x.f0 = 3
   ·rw [if_pos g4, Jd, Option.bind_some, JS]
    by_cases g5 : 0 ≤ x.f1 ∧ x.f1 ≤ 1000
    ·rw [if_pos (decide_eq_true g5), Option.bind_some]
     congr 1; apply decide_eq_decide.2; omega
    ·rw [if_neg (by simpa using g5)]; congr 1; symm; rw [decide_eq_false_iff_not]; omega
   ·rw [if_neg g4]; congr 1; symm; rw [decide_eq_false_iff_not]; omega
theorem Xex (x : S79) : Ev (fun k => XU.f k x.f0 x.f1 x.f2) (isCB x) := by
 unfold isCB
 simp only [XU.f]
 by_cases g1 : x.f0 = 1
 ·simp only [if_pos g1, beq_iff_eq.2 g1]
  refine Ev.succ ?_
  simp only [XU.j0, if_true]
  by_cases g2 : x.f1 = 0
  ·simp only [if_pos g2, Xb3, Option.bind_some]
   refine Ev.of fun k => ?_
   congr 1; apply decide_eq_decide.2; omega
  ·simp only [if_neg g2]
   refine Ev.of fun k => ?_
   congr 1; symm; rw [decide_eq_false_iff_not]; omega
 ·simp only [if_neg g1]
  by_cases g3 : x.f0 = 2
  ·simp only [beq_iff_eq.2 g3]
   refine Ev.succ ?_
   simp only [XU.j0, if_true]
   by_cases g2 : x.f1 = 0
   ·simp only [if_pos g2, Xb3, Option.bind_some]
    refine Ev.of fun k => ?_
    congr 1; apply decide_eq_decide.2; omega
   ·simp only [if_neg g2]
    refine Ev.of fun k => ?_
    congr 1; symm; rw [decide_eq_false_iff_not]; omega
  ·simp only [show (x.f0 == 2) = false from beq_eq_false_iff_ne.mpr g3]
   refine Ev.succ ?_
   simp only [XU.j0, Bool.false_eq_true, if_false]
   by_cases g4 : x.f0 = 3
   ·simp only [if_pos g4, Xb3, Option.bind_some]
    by_cases g5 : 0 ≤ x.f1 ∧ x.f1 ≤ 1000
    ·simp only [if_pos (decide_eq_true g5)]
     refine Ev.of fun k => ?_
     congr 1; apply decide_eq_decide.2; omega
    ·simp only [if_neg (show ¬ decide (0 ≤ x.f1 ∧ x.f1 ≤ 1000) = true by simpa using g5)]
     refine Ev.of fun k => ?_
     congr 1; symm; rw [decide_eq_false_iff_not]; omega
   ·simp only [if_neg g4]
    refine Ev.of fun k => ?_
    congr 1; symm; rw [decide_eq_false_iff_not]; omega
theorem XgA (l : List Int) (hl : l.length ≤ 1000000) : ∀ (n i : Nat), n = l.length - i → i ≤ l.length → Ev (fun k => XV.l0 k l l (i : Int)) true := by
 intro n
 induction n with
 | zero =>
  intro i hn hi
  refine Ev.succ ?_
  simp only [XV.l0, if_neg (show ¬ (i : Int) < (l.length : Int) by omega)]
  exact Ev.pure _
 | succ n ih =>
  intro i hn hi
  refine Ev.succ ?_
  simp only [XV.l0, if_pos (show (i : Int) < (l.length : Int) by omega), if_pos (show (0 : Int) ≤ (i : Int) by omega), if_true, idx1 (show i ≤ 1000000 by omega)]
  exact ih (i + 1) (by omega) (by omega)
theorem XhX (l : List Int) (hl : l.length ≤ 1000000) : Ev (fun k => XV.f k l l) true := by
 simp only [XV.f, if_true]
 exact XgA l hl l.length 0 (by omega) (by omega)
def recV (l : List S144) (some_ : List S58) (c : S79) : List Int × Int :=
 if chk l ≠ 0 then ([], chk l) else if 40 < some_.length then ([], 5) else if isCB c = false then ([], 2) else if allE l some_ ≠ 0 then ([], allE l some_) else (recI c (some_.map (XB l)) some_.length, 0)
theorem Xc2 {l : List S144} (h : chk l = 0) : l.length ≤ 60 ∧ (∀ x ∈ l, Yq x) ∧ l.Pairwise apart := by
 have hl : l.length ≤ 60 := by
  unfold chk at h
  split at h
  ·cases h
  ·omega
 have hcf : chkF [] l = 0 := by unfold chk at h; rwa [if_neg (by omega)] at h
 obtain ⟨hok, hap⟩ := Xb7 l [] (by simp) (by simp) hcf
 exact ⟨hl, by simpa using hok, by simpa using hap⟩
theorem Xgc {l : List S144} (hlen : l.length ≤ 12 ∨ 60 < l.length) (some_ : List S58) {c : S79} (hc : okCb c = true) : Yh.f l some_ c.f0 c.f1 c.f2 = some (recV l some_ c) := by
 unfold Yh.f Yh.g recV
 rw [XdF hlen (by omega), Option.bind_some, show (⟨c.f0, c.f1, c.f2⟩ : S79) = c from rfl, XhW, Option.bind_some]
 by_cases g : chk l = 0
 ·obtain ⟨h1, h2, h3⟩ := Xc2 g
  rw [if_neg (show ¬ chk l ≠ 0 by simp [g]), if_neg (show ¬ chk l ≠ 0 by simp [g])]
  by_cases g2 : 40 < some_.length
  ·rw [if_pos g2, if_pos g2]
  ·rw [if_neg g2, if_neg g2]
   by_cases g3 : isCB c = false
   ·rw [if_pos g3, if_pos g3]
   ·rw [if_neg g3, if_neg g3, if_pos ⟨⟨by omega, h2⟩, hc⟩]
    by_cases g4 : allE l some_ = 0
    ·rw [if_neg (show ¬ allE l some_ ≠ 0 by simp [g4]), if_neg (show ¬ allE l some_ ≠ 0 by simp [g4])]
    ·rw [if_pos g4, if_pos g4]
 ·rw [if_pos g, if_pos g]
def culP (l : List S144) (bad good : List S58) : List S79 × Int :=
 if chk l ≠ 0 then ([], chk l) else if 40 < bad.length ∨ 40 < good.length then ([], 5) else if bad.length = 0 then ([], 7) else if allE l bad ≠ 0 then ([], allE l bad) else if allE l good ≠ 0 then ([], allE l good) else (XaT (bad.map (XB l)) (good.map (XB l)), 0)
theorem Xh2 {l : List S144} (hlen : l.length ≤ 12 ∨ 60 < l.length) (bad good : List S58) : culF 1000 l bad good = some (culP l bad good) := by
 unfold culF culP
 rw [XdF hlen (by omega), Option.bind_some]
 by_cases g : chk l = 0
 ·obtain ⟨h1, h2, h3⟩ := Xc2 g
  rw [if_neg (show ¬ chk l ≠ 0 by simp [g]), if_neg (show ¬ chk l ≠ 0 by simp [g])]
  by_cases g2 : 40 < bad.length ∨ 40 < good.length
  ·rw [if_pos g2, if_pos g2]
  ·rw [if_neg g2, if_neg g2]
   by_cases g3 : bad.length = 0
   ·rw [if_pos g3, if_pos g3]
   ·rw [if_neg g3, if_neg g3, if_pos ⟨by omega, h2⟩]
    by_cases g4 : allE l bad = 0
    ·rw [if_neg (show ¬ allE l bad ≠ 0 by simp [g4]), if_neg (show ¬ allE l bad ≠ 0 by simp [g4])]
     by_cases g5 : allE l good = 0
     ·rw [if_neg (show ¬ allE l good ≠ 0 by simp [g5]), if_neg (show ¬ allE l good ≠ 0 by simp [g5])]
     ·rw [if_pos g5, if_pos g5]
    ·rw [if_pos g4, if_pos g4]
 ·rw [if_pos g, if_pos g]
def Jr (l : List S144) (bad good some_ : List S58) : Int × Int × Int :=
 if (culP l bad good).2 ≠ 0 then (0, 0, (culP l bad good).2) else if 40 < some_.length then (0, 0, 5) else if allE l some_ ≠ 0 then (0, 0, allE l some_) else if some_.length = 0 then (0, 0, 7) else
  if (XD (culP l bad good).1).length = 0 then (0, 0, 9) else ((stAt (culP l bad good).1 (some_.map (XB l)) some_.length).1, (stAt (culP l bad good).1 (some_.map (XB l)) some_.length).2, 0)
theorem XhQ {l : List S144} (hlen : l.length ≤ 12 ∨ 60 < l.length) (bad good some_ : List S58) : Yw.f l bad good some_ = some (Jr l bad good some_) := by
 unfold Yw.f Yw.g Jr
 rw [Xh2 hlen, Option.bind_some]
 generalize culP l bad good = p
 by_cases g : p.2 = 0
 ·rw [if_neg (show ¬ p.2 ≠ 0 by simp [g]), if_neg (show ¬ p.2 ≠ 0 by simp [g])]
  by_cases g2 : 40 < some_.length
  ·rw [if_pos g2, if_pos g2]
  ·rw [if_neg g2, if_neg g2]
   by_cases g3 : allE l some_ = 0
   ·rw [if_neg (show ¬ allE l some_ ≠ 0 by simp [g3]), if_neg (show ¬ allE l some_ ≠ 0 by simp [g3])]
    by_cases g4 : some_.length = 0
    ·rw [if_pos g4, if_pos g4]
    ·rw [if_neg g4, if_neg g4]
     by_cases g5 : (XD p.1).length = 0
     ·rw [if_pos g5, if_pos g5]
     ·rw [if_neg g5, if_neg g5]
   ·rw [if_pos g3, if_pos g3]
 ·rw [if_pos g, if_pos g]
theorem Xfc {l : List S144} (bad good : List S58) : Ev (fun k => Xf.f k l bad good) (X8 (culP l bad good).1, (culP l bad good).2) ∧ (X8 (culP l bad good).1).length ≤ 1000000 := by
 have hnil : X8 [] = [] := by simp [X8, XD]
 unfold culP
 by_cases g : chk l = 0
 ·obtain ⟨h1, h2, h3⟩ := Xc2 g
  obtain ⟨e1, e2⟩ := Xf9 h1 g bad good
  rw [if_neg (by simp [g])]
  unfold culV at e1 e2
  by_cases g2 : 40 < bad.length ∨ 40 < good.length
  ·simp only [if_pos g2] at e1 e2 ⊢; rw [hnil]; exact ⟨e1, e2⟩
  ·simp only [if_neg g2] at e1 e2 ⊢
   by_cases g3 : bad.length = 0
   ·simp only [if_pos g3] at e1 e2 ⊢; rw [hnil]; exact ⟨e1, e2⟩
   ·simp only [if_neg g3] at e1 e2 ⊢
    by_cases g4 : allE l bad = 0
    ·simp only [g4, ne_eq, not_true_eq_false, if_false] at e1 e2 ⊢
     by_cases g5 : allE l good = 0
     ·simp only [g5, ne_eq, not_true_eq_false, if_false] at e1 e2 ⊢; exact ⟨e1, e2⟩
     ·simp only [ne_eq, g5, not_false_eq_true, if_true] at e1 e2 ⊢; rw [hnil]; exact ⟨e1, e2⟩
    ·simp only [ne_eq, g4, not_false_eq_true, if_true] at e1 e2 ⊢; rw [hnil]; exact ⟨e1, e2⟩
 ·rw [if_pos g]
  refine ⟨?_, by rw [hnil]; simp⟩
  simp only [Xf.f]
  refine Ev.bind (XbY l) ?_
  rw [hnil]
  simp only [if_neg g]
  exact Ev.pure _
theorem XeU {L : List S79} {p : S79 → Bool} {j : Nat} (hj : j < L.length) : ((L.take (j + 1)).filter p).length = ((L.take j).filter p).length + if p L[j] = true then 1 else 0 := by
 rw [List.take_add_one, List.getElem?_eq_getElem hj, List.filter_append, List.length_append]
 show _ + (List.filter p [L[j]]).length = _
 rw [List.filter_cons]
 split <;> rfl
theorem XgE (ks qs : List S79) : ((X8 ks).filter fun x => decide (x ∈ qs)).length = cntC ks qs := by
 unfold cntC X8
 exact ((List.mergeSort_perm _ _).filter _).length_eq
section
variable {l : List S144} {some_ : List S58} {K : List S79} (hC : (X8 K).length ≤ 1000000) (hs : some_.length ≤ 1000) (hQ : ∀ q ∈ XI l some_, q.length ≤ 1000000)
include hC hs hQ in
theorem Xdr (at_ left best few : Int) {i : Nat} (hi : i < some_.length)
  (hn : ∀ n : Int, n = YY K (XB l some_[i]) → Ev (fun k => if n < few then Xb.l1 k at_ left (X8 K) (XI l some_) (i : Int) n (wrap64 ((i : Int) + 1)) else Xb.l1 k at_ left (X8 K) (XI l some_) best few (wrap64 ((i : Int) + 1))) true) :
  ∀ (n j : Nat), n = (X8 K).length - j → j ≤ (X8 K).length → Ev (fun k => Xb.l2 k at_ left (X8 K) (XI l some_) best few (i : Int) ((((X8 K).take j).filter fun x => decide (x ∈ XB l some_[i])).length : Int) (j : Int)) true := by
 intro n
 have hsl : (XI l some_).length = some_.length := by unfold XI; rw [List.length_map]
 have hrd : XA (XI l some_) (i : Int) = X8 (XB l some_[i]) := by rw [Xbu (by omega)]; simp [XI]
 have hQi : (X8 (XB l some_[i])).length ≤ 1000000 := hQ _ (by unfold XI; exact List.mem_map_of_mem (List.getElem_mem hi))
 induction n with
 | zero =>
  intro j hn2 hj
  obtain rfl : j = (X8 K).length := by omega
  rw [List.take_length, XgE]
  have hle : cntC K (XB l some_[i]) ≤ (XD K).length := by unfold cntC; exact List.length_filter_le _ _
  have hsc := XbU K
  have q : ¬ ((X8 K).length : Int) < ((X8 K).length : Int) := by omega
  have hw : wrap64 (((X8 K).length : Int) - (cntC K (XB l some_[i]) : Int)) = ((XD K).length : Int) - (cntC K (XB l some_[i]) : Int) := by rw [YD (by omega) (by omega), hsc]
  refine Ev.succ ?_
  simp only [Xb.l2, if_neg q, hw]
  exact hn _ rfl
 | succ n ih =>
  intro j hn2 hj
  have hlt : j < (X8 K).length := by omega
  have ih' := ih (j + 1) (by omega) (by omega)
  rw [XeU hlt] at ih'
  have hrj : Xn (X8 K) (j : Int) = (X8 K)[j] := JG hlt
  have hfl := List.length_filter_le (fun x => decide (x ∈ XB l some_[i])) ((X8 K).take j)
  rw [List.length_take] at hfl
  refine Ev.succ ?_
  simp only [Xb.l2, if_pos (show (j : Int) < ((X8 K).length : Int) by omega), if_pos (show (0 : Int) ≤ (i : Int) by omega), if_pos (show (i : Int) < ((XI l some_).length : Int) by omega), if_pos (show (0 : Int) ≤ (j : Int) by omega), hrd, hrj, idx1 (show j ≤ 1000000 by omega)]
  refine Ev.bind (XaV _ _ hQi) ?_
  by_cases g : (X8 K)[j] ∈ XB l some_[i]
  ·rw [if_pos (decide_eq_true g)] at ih'
   rw [decide_eq_true (YT.2 g)]
   simp only [if_true, idx1 (show (((X8 K).take j).filter fun x => decide (x ∈ XB l some_[i])).length ≤ 1000000 by omega)]
   exact ih'
  ·rw [if_neg (by simpa using g), Nat.add_zero] at ih'
   rw [decide_eq_false (fun q => g (YT.1 q))]
   simp only [Bool.false_eq_true, if_false]
   exact ih'
include hC hs hQ in
theorem Xf1 : ∀ (n i : Nat), n = some_.length - i → i ≤ some_.length → 0 < i →
  Ev (fun k => Xb.l1 k (stAt K (some_.map (XB l)) some_.length).1 (stAt K (some_.map (XB l)) some_.length).2 (X8 K) (XI l some_) (stAt K (some_.map (XB l)) i).1 (stAt K (some_.map (XB l)) i).2 (i : Int)) true := by
 intro n
 have hsl : (XI l some_).length = some_.length := by unfold XI; rw [List.length_map]
 induction n with
 | zero =>
  intro i hn hi h0
  obtain rfl : i = some_.length := by omega
  have q : ¬ (some_.length : Int) < ((XI l some_).length : Int) := by omega
  refine Ev.succ ?_
  simp only [Xb.l1, if_neg q, if_true, X2.f, Option.bind_some]
  exact Ev.pure _
 | succ n ih =>
  intro i hn hi h0
  have hlt : i < some_.length := by omega
  have q : (i : Int) < ((XI l some_).length : Int) := by omega
  have ih' := ih (i + 1) (by omega) (by omega) (by omega)
  have hst : stAt K (some_.map (XB l)) (i + 1) = if YY K (XB l some_[i]) < (stAt K (some_.map (XB l)) i).2 then ((i : Int), YY K (XB l some_[i])) else stAt K (some_.map (XB l)) i := by
   rw [stAt]; simp [hlt]
  rw [hst] at ih'
  refine Ev.succ ?_
  simp only [Xb.l1, if_pos q]
  refine Xdr hC hs hQ _ _ _ _ hlt (fun m hm => ?_) (X8 K).length 0 (by omega) (by omega)
  rw [idx1 (show i ≤ 1000000 by omega), hm]
  refine Ev.ite (fun g => ?_) (fun g => ?_)
  ·rw [if_pos g] at ih'; exact ih'
  ·rw [if_neg g] at ih'; exact ih'
include hC hs hQ in
theorem Xer (h0 : 0 < some_.length) : Ev (fun k => Xb.l1 k (stAt K (some_.map (XB l)) some_.length).1 (stAt K (some_.map (XB l)) some_.length).2 (X8 K) (XI l some_) 0 (wrap64 (((X8 K).length : Int) + 1)) 0) true := by
 have hsl : (XI l some_).length = some_.length := by unfold XI; rw [List.length_map]
 have q : (0 : Int) < ((XI l some_).length : Int) := by omega
 have hst : stAt K (some_.map (XB l)) 1 = ((0 : Int), YY K (XB l some_[0])) := by
  show stAt K (some_.map (XB l)) (0 + 1) = _
  rw [stAt, stAt]
  have e : (some_.map (XB l)).getD 0 [] = XB l some_[0] := by simp [h0]
  have e2 : (some_.map (XB l)).headD [] = XB l some_[0] := by rw [XdN [] (by rw [List.length_map]; exact h0)]; simp
  rw [e, e2]
  split <;> rfl
 have hle : cntC K (XB l some_[0]) ≤ (XD K).length := by unfold cntC; exact List.length_filter_le _ _
 have hsc := XbU K
 have h1 := Xf1 hC hs hQ (some_.length - 1) 1 rfl (by omega) (by omega)
 rw [hst] at h1
 refine Ev.succ ?_
 simp only [Xb.l1, if_pos q]
 refine Xdr (i := 0) hC hs hQ _ _ _ _ h0 (fun m hm => ?_) (X8 K).length 0 (by omega) (by omega)
 have hb : m < wrap64 (((X8 K).length : Int) + 1) := by
  rw [YD (by omega) (by omega), hm]
  unfold YY mx
  split <;> omega
 simp only [if_pos hb]
 rw [hm, idx1 (show 0 ≤ 1000000 by omega)]
 exact h1
end
theorem Xa6 (r : List Int) (hr : r.length ≤ 1000000) (at_ left late want : Int) (C : List S79) (all : List (List S79)) (c : S79) (i : Int)
  (h1 : late = 0 → Ev (fun k => Xb.l1 k at_ left C all 0 (wrap64 ((C.length : Int) + 1)) 0) true) (h2 : late ≠ 0 → at_ = 0 ∧ left = 0) : Ev (fun k => Xb.j13 k r at_ left C late want all r i false c.f0 c.f1 c.f2) true := by
 refine Ev.succ ?_
 simp only [Xb.j13, Bool.false_eq_true, if_false]
 refine Ev.bind (XhX r hr) ?_
 simp only [if_true]
 refine Ev.ite (fun g => h1 g) (fun g => ?_)
 obtain ⟨g1, g2⟩ := h2 g
 simp only [if_pos g1, if_pos g2, X2.f, Option.bind_some]
 exact Ev.pure _
theorem Xdh (at_ left late want : Int) (C : List S79) (all : List (List S79)) (c : S79) (hw : want ≠ 0)
  (h1 : late = 0 → Ev (fun k => Xb.l1 k at_ left C all 0 (wrap64 ((C.length : Int) + 1)) 0) true) (h2 : late ≠ 0 → at_ = 0 ∧ left = 0) : Ev (fun k => Xb.l0 k [] at_ left C late want all [] 0 c.f0 c.f1 c.f2) true := by
 have hb : (want == 0) = false := beq_eq_false_iff_ne.mpr hw
 refine Ev.succ ?_
 simp only [Xb.l0, hb]
 exact Ev.ite (fun _ => Xa6 [] (by simp) at_ left late want C all c 0 h1 h2) (fun _ => Xa6 [] (by simp) at_ left late want C all c 0 h1 h2)
theorem XdY {l : List S144} {some_ : List S58} (hs : some_.length ≤ 1000) (hQ : ∀ q ∈ XI l some_, q.length ≤ 1000000) (at_ left late : Int) (C : List S79) (c : S79)
  (h1 : late = 0 → Ev (fun k => Xb.l1 k at_ left C (XI l some_) 0 (wrap64 ((C.length : Int) + 1)) 0) true) (h2 : late ≠ 0 → at_ = 0 ∧ left = 0) : ∀ (n i : Nat), n = some_.length - i → i ≤ some_.length →
  Ev (fun k => Xb.l0 k (recI c (some_.map (XB l)) some_.length) at_ left C late 0 (XI l some_) (recI c (some_.map (XB l)) i) (i : Int) c.f0 c.f1 c.f2) true := by
 intro n
 have hsl : (XI l some_).length = some_.length := by unfold XI; rw [List.length_map]
 have hrl := XcC c (some_.map (XB l)) some_.length
 induction n with
 | zero =>
  intro i hn hi
  obtain rfl : i = some_.length := by omega
  have q : ¬ (some_.length : Int) < ((XI l some_).length : Int) := by omega
  refine Ev.succ ?_
  simp only [Xb.l0, if_neg q]
  exact Xa6 _ (by omega) at_ left late 0 C _ c _ h1 h2
 | succ n ih =>
  intro i hn hi
  have hlt : i < some_.length := by omega
  have ih' := ih (i + 1) (by omega) (by omega)
  have q : (i : Int) < ((XI l some_).length : Int) := by omega
  have hrd : XA (XI l some_) (i : Int) = X8 (XB l some_[i]) := by rw [Xbu (by omega)]; simp [XI]
  have hQi : (X8 (XB l some_[i])).length ≤ 1000000 := hQ _ (by unfold XI; exact List.mem_map_of_mem (List.getElem_mem hlt))
  have hg : (some_.map (XB l)).getD i [] = XB l some_[i] := by simp [hlt]
  have hri := XcC c (some_.map (XB l)) i
  rw [Xdw, hg] at ih'
  refine Ev.succ ?_
  simp only [Xb.l0, if_pos q, beq_self_eq_true]
  refine Ev.succ ?_
  simp only [Xb.j13, if_true, if_pos (show (0 : Int) ≤ (i : Int) by omega), if_pos q, hrd, idx1 (show i ≤ 1000000 by omega)]
  refine Ev.bind (XaV _ _ hQi) ?_
  by_cases g : c ∈ XB l some_[i]
  ·rw [if_pos g] at ih'
   rw [decide_eq_true (YT.2 g)]
   simp only [if_true, if_pos (show (recI c (some_.map (XB l)) i).length < 17592186044416 by omega)]
   exact ih'
  ·rw [if_neg g, List.append_nil] at ih'
   rw [decide_eq_false (fun q => g (YT.1 q))]
   simp only [Bool.false_eq_true, if_false]
   exact ih'
def w1E (ck n : Int) : Int := if n > 40 then (if ck = 0 then 5 else ck) else ck
def w2E (w : Int) (b : Bool) : Int := if w = 0 ∧ b = false then 2 else w
def w3E (w e : Int) : Int := if w = 0 then e else w
def t3E (t n : Int) (e : Int) : Int := if t = 0 ∧ n = 0 then e else t
theorem Xf2 {R : List Int} {e at_ left f late want : Int} {C : List S79} {all : List (List S79)} {c : S79} (he : e = want) (hf : f = t3E late (C.length : Int) 9)
  (h : Ev (fun k => Xb.l0 k R at_ left C (t3E late (C.length : Int) 9) want all [] 0 c.f0 c.f1 c.f2) true) : Ev (fun k => Xb.j8 k R e at_ left f C late want all c.f0 c.f1 c.f2) true := by
 have h10 : ∀ t : Int, t = t3E late (C.length : Int) 9 → Ev (fun k => Xb.j10 k R e at_ left f C t want all c.f0 c.f1 c.f2) true := by
  intro t ht
  subst ht
  refine Ev.succ ?_
  have hb : (f != t3E late (C.length : Int) 9) = false := by rw [hf]; simp
  simp only [Xb.j10, if_pos he, hb]
  refine Ev.succ ?_
  simp only [Xb.j11, Bool.false_eq_true, if_false]
  exact h
 refine Ev.succ ?_
 simp only [Xb.j8]
 refine Ev.ite (fun g => ?_) (fun g => ?_)
 ·refine Ev.succ ?_
  simp only [Xb.j9, beq_iff_eq]
  refine Ev.ite (fun g2 => h10 _ ?_) (fun g2 => h10 _ ?_)
  ·unfold t3E; rw [if_pos ⟨g, g2⟩]
  ·unfold t3E; rw [if_neg (fun q => g2 q.2)]
 ·refine Ev.succ ?_
  simp only [Xb.j9, Bool.false_eq_true, if_false]
  exact h10 _ (by unfold t3E; rw [if_neg (fun q => g q.1)])
theorem Xf3 {R : List Int} {e at_ left f late want : Int} {C : List S79} {all : List (List S79)} {bad good some_ : List S58} {c : S79} 
  (h : Ev (fun k => Xb.j8 k R e at_ left f C (t3E late (some_.length : Int) 7) want all c.f0 c.f1 c.f2) true) : Ev (fun k => Xb.j6 k R e at_ left f C late want all bad good some_ c.f0 c.f1 c.f2) true := by
 refine Ev.succ ?_
 simp only [Xb.j6]
 refine Ev.ite (fun g => ?_) (fun g => ?_)
 ·refine Ev.succ ?_
  simp only [Xb.j7, beq_iff_eq]
  refine Ev.ite (fun g2 => ?_) (fun g2 => ?_)
  ·unfold t3E at h; rwa [if_pos ⟨g, g2⟩] at h
  ·unfold t3E at h; rwa [if_neg (fun q => g2 q.2)] at h
 ·refine Ev.succ ?_
  simp only [Xb.j7, Bool.false_eq_true, if_false]
  unfold t3E at h; rwa [if_neg (fun q => g q.1)] at h
theorem Xf4 {l : List S144} {R : List Int} {e at_ left f late want : Int} {C : List S79} {bad good some_ : List S58} {c : S79} (LL : List (List S79)) (LE : Int)
  (hL : want = 0 ∨ late = 0 → Ev (fun k => Xx.f k l some_) (LL, LE))
  (h : Ev (fun k => Xb.j6 k R e at_ left f C (w3E late LE) (w3E want LE) (if want = 0 ∨ late = 0 then LL else []) bad good some_ c.f0 c.f1 c.f2) true) : Ev (fun k => Xb.j4 k l R e at_ left f C late want bad good some_ c.f0 c.f1 c.f2) true := by
 have h5 : ∀ b : Bool, (b = true ↔ (want = 0 ∨ late = 0)) → Ev (fun k => Xb.j5 k l R e at_ left f C late want [] b bad good some_ c.f0 c.f1 c.f2) true := by
  intro b hb
  refine Ev.succ ?_
  simp only [Xb.j5]
  refine Ev.ite (fun g => ?_) (fun g => ?_)
  ·have g' := hb.1 g
   rw [if_pos g'] at h
   refine Ev.bind (hL g') ?_
   refine Ev.ite (fun g1 => Ev.ite (fun g2 => ?_) (fun g2 => ?_)) (fun g1 => Ev.ite (fun g2 => ?_) (fun g2 => ?_))
   all_goals (unfold w3E at h; simp only [g1, g2, if_true, if_false] at h ⊢; exact h)
  ·have g' : ¬ (want = 0 ∨ late = 0) := fun q => g (hb.2 q)
   rw [if_neg g'] at h
   have g1 : ¬ want = 0 := fun q => g' (Or.inl q)
   have g2 : ¬ late = 0 := fun q => g' (Or.inr q)
   unfold w3E at h
   rwa [if_neg g1, if_neg g2] at h
 refine Ev.succ ?_
 simp only [Xb.j4, Option.bind_some]
 refine Ev.ite (fun g => h5 true (by simp [g])) (fun g => h5 (late == 0) (by simp [g]))
theorem Xf5 {l : List S144} {R : List Int} {e at_ left f late want : Int} {C : List S79} {bad good some_ : List S58} {c : S79}
  (h : Ev (fun k => Xb.j4 k l R e at_ left f C late (w2E want (isCB c)) bad good some_ c.f0 c.f1 c.f2) true) : Ev (fun k => Xb.j2 k l R e at_ left f C late want bad good some_ c.f0 c.f1 c.f2) true := by
 have h3 : ∀ b : Bool, (b = true ↔ (want = 0 ∧ isCB c = false)) → Ev (fun k => Xb.j3 k l R e at_ left f C late want b bad good some_ c.f0 c.f1 c.f2) true := by
  intro b hb
  refine Ev.succ ?_
  simp only [Xb.j3]
  unfold w2E at h
  refine Ev.ite (fun g => ?_) (fun g => ?_)
  ·rwa [if_pos (hb.1 g)] at h
  ·rwa [if_neg (fun q => g (hb.2 q))] at h
 refine Ev.succ ?_
 simp only [Xb.j2]
 refine Ev.ite (fun g => ?_) (fun g => h3 false (by simp [g]))
 refine Ev.bind (Xex c) ?_
 exact h3 _ (by simp [g])
def Xdq (ck n : Int) (b : Bool) (e : Int) : Int := w3E (w2E (w1E ck n) b) e
def XdK (a n e d : Int) : Int := t3E (t3E (w3E (w1E a n) e) n 7) d 9
theorem XgY (l : List S144) (some_ : List S58) (c : S79) : (recV l some_ c).2 = Xdq (chk l) (some_.length : Int) (isCB c) (allE l some_) ∧ (Xdq (chk l) (some_.length : Int) (isCB c) (allE l some_) ≠ 0 → (recV l some_ c).1 = []) ∧
  (Xdq (chk l) (some_.length : Int) (isCB c) (allE l some_) = 0 → chk l = 0 ∧ allE l some_ = 0 ∧ w2E (w1E (chk l) (some_.length : Int)) (isCB c) = 0 ∧ (recV l some_ c).1 = recI c (some_.map (XB l)) some_.length) := by
 unfold recV Xdq w3E w2E w1E
 by_cases g1 : chk l = 0
 ·by_cases g2 : 40 < some_.length
  ·have g2i : (40 : Int) < (some_.length : Int) := by omega
   have g2j : ¬ (some_.length : Int) ≤ 40 := by omega
   simp [g1, g2, g2i, g2j]
  ·have g2i : ¬ (40 : Int) < (some_.length : Int) := by omega
   have g2j : (some_.length : Int) ≤ 40 := by omega
   cases g3 : isCB c
   ·simp [g1, g2, g2i, g2j]
   ·by_cases g4 : allE l some_ = 0
    ·simp [g1, g2, g2i, g2j, g4]
    ·simp [g1, g2, g2i, g2j, g4]
 ·by_cases g2 : 40 < some_.length
  ·have g2i : (40 : Int) < (some_.length : Int) := by omega
   have g2j : ¬ (some_.length : Int) ≤ 40 := by omega
   simp [g1, g2, g2i, g2j]
  ·have g2i : ¬ (40 : Int) < (some_.length : Int) := by omega
   have g2j : (some_.length : Int) ≤ 40 := by omega
   simp [g1, g2, g2i, g2j]
theorem Xgr (l : List S144) (bad good some_ : List S58) : (Jr l bad good some_).2.2 = XdK (culP l bad good).2 (some_.length : Int) (allE l some_) ((XD (culP l bad good).1).length : Int) ∧
  (XdK (culP l bad good).2 (some_.length : Int) (allE l some_) ((XD (culP l bad good).1).length : Int) ≠ 0 → (Jr l bad good some_).1 = 0 ∧ (Jr l bad good some_).2.1 = 0) ∧
  (XdK (culP l bad good).2 (some_.length : Int) (allE l some_) ((XD (culP l bad good).1).length : Int) = 0 → (culP l bad good).2 = 0 ∧ w1E (culP l bad good).2 (some_.length : Int) = 0 ∧ allE l some_ = 0 ∧ 0 < some_.length ∧
   (Jr l bad good some_).1 = (stAt (culP l bad good).1 (some_.map (XB l)) some_.length).1 ∧ (Jr l bad good some_).2.1 = (stAt (culP l bad good).1 (some_.map (XB l)) some_.length).2) := by
 unfold Jr XdK t3E w3E w1E
 generalize culP l bad good = p
 by_cases g1 : p.2 = 0
 ·by_cases g2 : 40 < some_.length
  ·have g2i : (40 : Int) < (some_.length : Int) := by omega
   have g2j : ¬ (some_.length : Int) ≤ 40 := by omega
   simp [g1, g2, g2i, g2j]
  ·have g2i : ¬ (40 : Int) < (some_.length : Int) := by omega
   have g2j : (some_.length : Int) ≤ 40 := by omega
   by_cases g3 : allE l some_ = 0
   ·by_cases g4 : some_.length = 0
    ·have g5 : some_ = [] := List.eq_nil_of_length_eq_zero g4
     subst g5
     have g6 : allE l [] = 0 := g3
     simp [g1, g6]
    ·have g4' : ¬ some_ = [] := fun e => g4 (by rw [e]; rfl)
     by_cases g5 : (XD p.1).length = 0
     ·simp [g1, g2, g2i, g2j, g3, g4, g4', g5]
     ·simp [g1, g2, g2i, g2j, g3, g4, g4', g5, Nat.pos_of_ne_zero g4]
   ·simp [g1, g2, g2i, g2j, g3]
 ·by_cases g2 : 40 < some_.length
  ·have g2i : (40 : Int) < (some_.length : Int) := by omega
   have g2j : ¬ (some_.length : Int) ≤ 40 := by omega
   simp [g1, g2, g2i, g2j]
  ·have g2i : ¬ (40 : Int) < (some_.length : Int) := by omega
   have g2j : (some_.length : Int) ≤ 40 := by omega
   simp [g1, g2, g2i, g2j]
theorem XeW {l : List S144} {bad good : List S58} (h : (culP l bad good).2 = 0) : chk l = 0 := by
 unfold culP at h
 by_cases g : chk l = 0
 ·exact g
 ·rw [if_pos g] at h; exact absurd h g
theorem Xe6 (l : List S144) (bad good some_ : List S58) {c : S79} (hc : okCb c = true) (hm : JP l = false) (hb : bad.length ≤ 45) (hg : good.length ≤ 45) (hs : some_.length ≤ 45) : Ev (fun k => Xb.j0 k l false bad good some_ c.f0 c.f1 c.f2) true := by
 have hlen : l.length ≤ 12 ∨ 60 < l.length ∧ l.length ≤ 65 := by
  unfold JP at hm
  rw [decide_eq_false_iff_not] at hm
  omega
 obtain ⟨hcul, hC⟩ := Xfc (l := l) bad good
 obtain ⟨a1, a2, a3⟩ := XgY l some_ c
 obtain ⟨b1, b2, b3⟩ := Xgr l bad good some_
 have hsc := XbU (culP l bad good).1
 have hQ : chk l = 0 → allE l some_ = 0 → ∀ q ∈ XI l some_, q.length ≤ 1000000 := by
  intro h1 h2 q hq
  obtain ⟨d1, d2, d3⟩ := Xc2 h1
  unfold XI at hq
  obtain ⟨y, hy, rfl⟩ := List.mem_map.1 hq
  have := ((XaN d1 d2 d3 y).2 (Jb h2 y hy)).2
  omega
 have hL : chk l = 0 → Ev (fun k => Xx.f k l some_) (if allE l some_ = 0 then XI l some_ else [], allE l some_) := fun h1 => by
  obtain ⟨d1, d2, d3⟩ := Xc2 h1
  exact Xeb d1 d2 d3 (by omega)
 have key : Ev (fun k => Xb.j2 k l (recV l some_ c).1 (recV l some_ c).2 (Jr l bad good some_).1 (Jr l bad good some_).2.1 (Jr l bad good some_).2.2 (X8 (culP l bad good).1) (w1E (culP l bad good).2 (some_.length : Int)) (w1E (chk l) (some_.length : Int)) bad good some_ c.f0 c.f1 c.f2) true := by
  refine Xf5 (Xf4 (if allE l some_ = 0 then XI l some_ else []) (allE l some_) (fun h => hL ?_) (Xf3 (Xf2 a1 (by rw [b1, hsc]; rfl) ?_)))
  ·rcases h with h | h
   ·by_cases g : chk l = 0
    ·exact g
    ·exfalso
     have e : w1E (chk l) (some_.length : Int) = chk l := by unfold w1E; rw [if_neg g]; split <;> rfl
     rw [e] at h
     unfold w2E at h
     rw [if_neg (fun q => g q.1)] at h
     exact g h
   ·refine XeW (bad := bad) (good := good) ?_
    unfold w1E at h
    split at h
    ·split at h
     ·cases h
     ·exact h
    ·exact h
  ·rw [hsc]
   change Ev (fun k => Xb.l0 k (recV l some_ c).1 (Jr l bad good some_).1 (Jr l bad good some_).2.1 (X8 (culP l bad good).1) (XdK (culP l bad good).2 (some_.length : Int) (allE l some_) ((XD (culP l bad good).1).length : Int)) (Xdq (chk l) (some_.length : Int) (isCB c) (allE l some_)) _ [] 0 c.f0 c.f1 c.f2) true
   have hbest : XdK (culP l bad good).2 (some_.length : Int) (allE l some_) ((XD (culP l bad good).1).length : Int) = 0 → Ev (fun k => Xb.l1 k (Jr l bad good some_).1 (Jr l bad good some_).2.1 (X8 (culP l bad good).1)
     (if w2E (w1E (chk l) (some_.length : Int)) (isCB c) = 0 ∨ w1E (culP l bad good).2 (some_.length : Int) = 0 then (if allE l some_ = 0 then XI l some_ else []) else []) 0 (wrap64 (((X8 (culP l bad good).1).length : Int) + 1)) 0) true := by
    intro h
    obtain ⟨c1, c2, c3, c4, c5, c6⟩ := b3 h
    rw [if_pos (Or.inr c2), if_pos c3, c5, c6]
    exact Xer hC (by omega) (hQ (XeW c1) c3) c4
   by_cases g : Xdq (chk l) (some_.length : Int) (isCB c) (allE l some_) = 0
   ·obtain ⟨c1, c2, c3, c4⟩ := a3 g
    rw [g, c4]
    rw [if_pos (Or.inl c3), if_pos c2] at hbest ⊢
    have := XdY (some_ := some_) (l := l) (by omega) (hQ c1 c2) (Jr l bad good some_).1 (Jr l bad good some_).2.1 _ (X8 (culP l bad good).1) c hbest b2 some_.length 0 (by omega) (by omega)
    have e0 : recI c (some_.map (XB l)) 0 = [] := by simp [recI]
    rw [e0] at this
    exact this
   ·rw [a2 g]
    exact Xdh _ _ _ _ _ _ c g hbest b2
 refine Ev.succ ?_
 simp only [Xb.j0, Bool.false_eq_true, if_false, XhH (show l.length ≤ 1000000 by omega), Xec (show bad.length ≤ 1000000 by omega), Xec (show good.length ≤ 1000000 by omega), Xec (show some_.length ≤ 1000000 by omega), Option.bind_some, Xgc (l := l) (by omega) some_ hc, XhQ (l := l) (by omega) bad good some_]
 refine Ev.bind (Xe9 l (by omega)) ?_
 simp only [if_true]
 refine Ev.bind (Xc6 bad (by omega)) ?_
 simp only [if_true]
 refine Ev.bind (Xc6 good (by omega)) ?_
 simp only [if_true]
 refine Ev.bind (Xc6 some_ (by omega)) ?_
 refine Ev.succ ?_
 simp only [Xb.j1, Bool.not_true, Bool.false_eq_true, if_false]
 refine Ev.bind hcul ?_
 refine Ev.bind (XbY l) ?_
 unfold w1E at key
 refine Ev.ite (fun g => ?_) (fun g => ?_)
 ·rw [if_pos g, if_pos g] at key
  refine Ev.ite (fun g1 => Ev.ite (fun g2 => ?_) (fun g2 => ?_)) (fun g1 => Ev.ite (fun g2 => ?_) (fun g2 => ?_))
  ·rwa [if_pos g1, if_pos g2] at key
  ·rwa [if_pos g1, if_neg g2] at key
  ·rwa [if_neg g1, if_pos g2] at key
  ·rwa [if_neg g1, if_neg g2] at key
 ·rwa [if_neg g, if_neg g] at key
theorem Xba (l : List S144) (bad good some_ : List S58) {c : S79} (hc : okCb c = true) : Ev (fun k => Xb.f k l bad good some_ c.f0 c.f1 c.f2) true := by
 have hkn : Ev (fun k => Xb.j0 k l true bad good some_ c.f0 c.f1 c.f2) true := by
  refine Ev.succ ?_
  simp only [Xb.j0, if_true, X2.f, Option.bind_some]
  exact Ev.pure _
 obtain ⟨v, hv, hf⟩ := XhR l [bad, good, some_] (by simp)
 simp only [Xb.f]
 refine Ev.bind hv ?_
 cases v with
 | true => simp only [if_true]; exact hkn
 | false =>
  obtain ⟨hm, hls⟩ := hf rfl
  have hb := hls bad (by simp)
  have hg := hls good (by simp)
  have hs := hls some_ (by simp)
  simp only [Bool.false_eq_true, if_false]
  obtain ⟨b1, h1⟩ := Xee bad (by omega)
  obtain ⟨b2, h2⟩ := Xee good (by omega)
  obtain ⟨b3, h3⟩ := Xee some_ (by omega)
  refine Ev.bind h1 ?_
  cases b1 with
  | true => simp only [if_true]; exact hkn
  | false =>
   simp only [Bool.false_eq_true, if_false]
   refine Ev.bind h2 ?_
   cases b2 with
   | true => simp only [if_true]; exact hkn
   | false =>
    simp only [Bool.false_eq_true, if_false]
    refine Ev.bind h3 ?_
    cases b3 with
    | true => exact hkn
    | false => exact Xe6 l bad good some_ hc hm hb hg hs
theorem Xcr (l0 : List S144) (l1_0 : List S58) (l1_1 : List S58) (l1_2 : List S58) (a2_0 : Int) (a2_1 : Int) (a2_2 : Int) (w0 : ∀ x ∈ l0, XfD x) (w1_0 : ∀ x ∈ l1_0, wf58 x) (w1_1 : ∀ x ∈ l1_1, wf58 x) (w1_2 : ∀ x ∈ l1_2, wf58 x) (w2_0 : (Lit.int .i64 a2_0).wf = true) (w2_1 : (Lit.int .i64 a2_1).wf = true) (w2_2 : (Lit.int .i64 a2_2).wf = true) : ∃ k, Xb.f k l0 l1_0 l1_1 l1_2 a2_0 a2_1 a2_2 = some true :=
 (Xba l0 l1_0 l1_1 l1_2 (c := ⟨a2_0, a2_1, a2_2⟩) (by unfold okCb; rw [w2_0, w2_1, w2_2]; rfl)).ex
end Go.Proofs.Ytiaiecfnpompcaa.T
namespace Go.Proofs.Ytiaiecfnpompcaa.millTraces
open Go.ChangeShapes Go.WideShapes Go.ChangeAt Go.RowKit Go.Proofs.Ytiaiecfnpompcaa.T
open Go.ChangeMaps (open_string shut_string)
set_option linter.unusedVariables false
theorem own : ownKnob Try.prog.godebug = none := by kernel_rfl
theorem laidOut : laidOutB Try.prog = true := by kernel_rfl
set_option maxRecDepth 100000 in
theorem lifted (os : Os) (started : os.Started) (H : Type) (enc : TypeId × Value → H) :
  ReturnsInHanded {} Try.checked os 8 .any (Rows.millTracesSpec.pre6 enc Try.prog Try.f8 Rows.millTracesRow.domain false) (Rows.millTracesSpec.post enc Try.prog Try.f8 false true false false) := by
 refine returnsInHanded_of_change_sized (C := Try.checked) own started (by kernel_rfl) Try.func8
  (ChangeSpec.witness6 (enc := enc) (C := Try.checked) false ⟨#[], #[.slice none 0 0, .agg #[.slice none 0 0, .slice none 0 0, .slice none 0 0], .agg #[.int .i64 0, .int .i64 0, .int .i64 0]], []⟩ 8 (by kernel_rfl) (by kernel_rfl) (by kernel_rfl) (by kernel_rfl)) ?_
 intro W base args ds gs before hval0 hW hcnd hsz0 _
 have hval : ∀ (j : Nat) t v, Try.f8.params[j]? = some t → args[j]? = some v → Value.okWide Try.prog W .any base t v := hval0
 have hW' := hW
 obtain ⟨p, q, hA0, hV, rfl, hfz, hnd⟩ := hW
 have hA : DataW.TrodAll enc Try.prog W 0 (fun _ => true) true Try.f8.params.toList args.toList ds p := hA0
 rw [Try.params8] at hA hval
 obtain ⟨v0, vs0, d0, ds0, p0, q0, hargs, rfl, rfl, h0, r0⟩ := trodAll_cons hA
 obtain ⟨v1, vs1, d1, ds1, p1, q1, rfl, rfl, rfl, h1, r1⟩ := trodAll_cons r0
 obtain ⟨v2, vs2, d2, ds2, p2, q2, rfl, rfl, rfl, h2, r2⟩ := trodAll_cons r1
 obtain ⟨rfl, rfl, rfl⟩ := trodAll_nil r2
 obtain rfl : args = #[v0, v1, v2] := by cases args; simp_all
 obtain ⟨rfl, rfl⟩ := trodVars_none hV
 have k0 := h0
 have lt0 : ∀ x ∈ p0, x.block < W.heap.size := by obtain ⟨m, hm⟩ := k0; exact DataW.trod_lt m _ _ _ hm
 obtain ⟨A0, len0, cap0, rfl⟩ := okWide_slice Try.underlying56 (hval 0 56 v0 rfl rfl)
 obtain ⟨l0, rfl, C0, c0, w0⟩ := XhK h0
 have k1 := h1
 have lt1 : ∀ x ∈ p1, x.block < W.heap.size := by obtain ⟨m, hm⟩ := k1; exact DataW.trod_lt m _ _ _ hm
 obtain ⟨fuel1, hf1⟩ := h1
 obtain ⟨A1_0, c1_0, l1_0, A1_1, c1_1, l1_1, A1_2, c1_2, l1_2, e1, ⟨C1_0, d1_0, w1_0⟩, ⟨C1_1, d1_1, w1_1⟩, ⟨C1_2, d1_2, w1_2⟩⟩ := Xio hf1
 obtain rfl : v1 = .agg #[.slice A1_0 l1_0.length c1_0, .slice A1_1 l1_1.length c1_1, .slice A1_2 l1_2.length c1_2] := XbP e1 (by simp)
 have k2 := h2
 have lt2 : ∀ x ∈ p2, x.block < W.heap.size := by obtain ⟨m, hm⟩ := k2; exact DataW.trod_lt m _ _ _ hm
 obtain ⟨fuel2, hf2⟩ := h2
 obtain ⟨a2_0, a2_1, a2_2, e2, w2_0, w2_1, w2_2⟩ := Xin hf2
 obtain rfl : v2 = .agg #[.int .i64 a2_0, .int .i64 a2_1, .int .i64 a2_2] := XbP e2 (by simp)
 clear hA0 hval0 hsz0
 obtain ⟨k, hk⟩ := Xcr l0 l1_0 l1_1 l1_2 a2_0 a2_1 a2_2 w0 w1_0 w1_1 w1_2 w2_0 w2_1 w2_2
 refine (Xb.callsC k A0 cap0 l0 A1_0 c1_0 l1_0 A1_1 c1_1 l1_1 A1_2 c1_2 l1_2 a2_0 a2_1 a2_2 true W C0 c0 C1_0 d1_0 C1_1 d1_1 C1_2 d1_2 hk).mono fun e W' ⟨he, bel⟩ => ?_
 subst he
 exact ⟨_, rfl, _, _, _, [], _, [], hW', trodAll_mk1 (shut_bool Try.underlying4 _), (trodAll_cons_mk (Below.trod laidOut (by kernel_rfl) (of_decide_eq_true (by kernel_rfl)) k0 bel lt0) (trodAll_cons_mk (Below.trod laidOut (by kernel_rfl) (of_decide_eq_true (by kernel_rfl)) k1 bel lt1) (trodAll_cons_mk (Below.trod laidOut (by kernel_rfl) (of_decide_eq_true (by kernel_rfl)) k2 bel lt2) trodAll_mk0))), rfl, bel.frame _, fun h => by cases h⟩
theorem over : Rows.millTracesRow.holds Try.pinned (OpenSpec.ofChange Rows.millTracesSpec) :=
 OpenClaim.holds_of_wide 8 Try.f8 rfl rfl rfl rfl rfl rfl rfl ⟨rfl, rfl, rfl, rfl, rfl⟩ rfl rfl rfl rfl rfl (by kernel_rfl) Try.func8 (by kernel_rfl)
  (of_decide_eq_true (by kernel_rfl)) (by unfold Func.isWrapper; first | (rw [if_pos (by decide +kernel)]; kernel_rfl) | (rw [if_neg (by decide +kernel)]; exact ⟨rfl, rfl⟩))
  (fun os started H enc _ => lifted os started H enc)
theorem proved : Rows.MillTracesSaid := over
end Go.Proofs.Ytiaiecfnpompcaa.millTraces
namespace Go.Proofs.Ytiaiecfnpompcaa
theorem millTraces_holds : Rows.MillTracesSaid := millTraces.proved
end Go.Proofs.Ytiaiecfnpompcaa
