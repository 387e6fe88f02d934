-- cut down, squeezed and laid together by pack.py (a program of this repository) out of this seat's texts
import Derived.Test.YticbhgjenidjlaaZA9
import Derived.Test.YticbhgjenidjlaaZA22
import Derived.Test.YticbhgjenidjlaaZA21
import Derived.Test.YticbhgjenidjlaaZA23
import Derived.Test.YticbhgjenidjlaaZA27
import Derived.Test.YticbhgjenidjlaaZA2
import Derived.Test.YticbhgjenidjlaaZA20
import Derived.Test.YticbhgjenidjlaaZA25
import Derived.Test.YticbhgjenidjlaaZA5
import Derived.Test.YticbhgjenidjlaaZA8
import Derived.Test.YticbhgjenidjlaaZA24
import Derived.Test.YticbhgjenidjlaaZA26
import Derived.Test.YticbhgjenidjlaaZA12
import Derived.Test.YticbhgjenidjlaaZA15
import Derived.Test.YticbhgjenidjlaaZA11
import Derived.Test.YticbhgjenidjlaaZA16
import Derived.Test.YticbhgjenidjlaaZA14
import Derived.Test.YticbhgjenidjlaaZA10
import Derived.Test.YticbhgjenidjlaaZA17
import Derived.Test.YticbhgjenidjlaaZA18
import Derived.Test.YticbhgjenidjlaaZA19
import Derived.Test.YticbhgjenidjlaaZA13
import Derived.Test.YticbhgjenidjlaaZA4
import Derived.Test.YticbhgjenidjlaaZA7
import Derived.Test.YticbhgjenidjlaaZA3
import Derived.Test.YticbhgjenidjlaaZA6
import Derived.Test.YticbhgjenidjlaaZA1
namespace Go.Proofs.Yticbhgjenidjlaa.T
open Go.RowKit Go.Proofs.YticbhgjenidjlaaW.PrintWords Go.Proofs.YticbhgjenidjlaaW.PrintLast Go.Proofs.YticbhgjenidjlaaW.PrintMore
attribute [local go_sem] max2_int min2_int max_two min_two max_three min_three max_four min_four   -- for this text's walks alone
set_option linter.unusedVariables false
set_option linter.unusedSimpArgs false
attribute [local go_sem] wl_100001

attribute [local go_sem high] eqA67
def acmelaw01_known.f (k : Nat)  : Option (Bool) := (acmelaw01_metric.f).bind fun bt318 => ((acmelaw01_metric.f).bind fun bt327 => ((acmelaw01_metric.f).bind fun bt335 => ((acmelaw01_metric.f).bind fun bt345 => ((thread_Width.f k 10000 577 577 3000 3000 1 false 0 3000).bind fun bt353 => ((acmelaw01_metric.f).bind fun bt357 => ((thread_Sharp.f k 10000 577 577 3000 3000 1 false 0).bind fun bt365 => ((acmelaw01_metric.f).bind fun bt369 => ((thread_Area.f k 10000 577 577 3000 3000 1 false 0 0 3000).bind fun bt377 => ((acmelaw01_metric.f).bind fun bt381 => ((thread_Advance.f k 10000 577 577 3000 3000 1 false 0 250000).bind fun bt389 => ((thread_Diameter.f k 10000 577 577 3000 3000 1 false 50 100000 10000).bind fun bt393 => ((thread_Meets.f k 10000 577 577 3000 3000 1 false 50 100000 100500).bind fun bt397 => ((acmelaw01_metric.f).bind fun bt401 => ((thread_Room.f k 10000 577 577 3000 3000 1 false 0 10000 600 600 3000 3000 1 false 0 (-3000) 3000).bind fun bt409 => ((acmelaw01_metric.f).bind fun bt411 => ((thread_PerInch.f k 10000 577 577 3000 3000 1 false 0).bind fun bt419 => ((acmelaw01_metric.f).bind fun bt423 => ((thread_Alike.f k (([(⟨10000, 577, 577, 3000, 3000, 1, false, 0⟩ : S23), (⟨10100, 577, 577, 3000, 3000, 1, false, 0⟩ : S23), (⟨10000, 600, 600, 3000, 3000, 1, false, 0⟩ : S23)] : List (S23))) 60 5 0).bind fun bt434 => ((acmelaw01_all.f).bind fun bt438 => ((acmelaw01_metric.f).bind fun bt454 => ((thread_Agree.f k (([(⟨10000, 577, 577, 3000, 3000, 1, false, 0⟩ : S23), (⟨10100, 577, 577, 3000, 3000, 1, false, 0⟩ : S23), (⟨10000, 600, 600, 3000, 3000, 1, false, 0⟩ : S23)] : List (S23))) 10040 10160 0 10000000 0 10000000 0 10000000 0 10000000 0 10000000 0 10000000 0).bind fun bt465 => (if (bt434.1.length : Int) = 1 then (if (bt434.1.length : Int) = 1 then (if (bt434.1.length : Int) = 1 then (if (bt434.1.length : Int) = 1 then (if (bt465.1.length : Int) = 1 then (if 0 < (bt434.1.length : Int) then (if (((rd_T67 bt434.1 0).f0) == 0 && (((rd_T67 bt434.1 0).f1) == 1)) = true then (if (((rd_T67 bt434.1 0).f0) == 0 && (((rd_T67 bt434.1 0).f1) == 1)) = true then (if 0 < (bt465.1.length : Int) then (if (((rd_T67 bt434.1 0).f0) == 0 && (((rd_T67 bt434.1 0).f1) == 1)) = true then (if (((rd_T67 bt434.1 0).f0) == 0 && (((rd_T67 bt434.1 0).f1) == 1)) = true then (if (((rd_T67 bt434.1 0).f0) == 0 && (((rd_T67 bt434.1 0).f1) == 1)) = true then (some ((rd bt465.1 0) == 1)) else (none)) else (none)) else (none)) else (none)) else (none)) else (none)) else (none)) else (none)) else (none)) else (none)) else (none)) else (none)))))))))))))))))))))))
set_option maxRecDepth 100000
theorem acmelaw01_known.cs_0 : ∀ r, acmelaw01_metric.f = some r → r.1 = 10000 ∧ r.2.1 = 577 ∧ r.2.2.1 = 577 ∧ r.2.2.2.1 = 3000 ∧ r.2.2.2.2.1 = 3000 ∧ r.2.2.2.2.2.1 = 1 ∧ r.2.2.2.2.2.2.1 = false ∧ r.2.2.2.2.2.2.2 = 0 := fun r h => by
 have := const_of (F := fun _ => acmelaw01_metric.f) (fun k => LeO.refl _) (fun r => (r.1, r.2.1, r.2.2.1, r.2.2.2.1, r.2.2.2.2.1, r.2.2.2.2.2.1, r.2.2.2.2.2.2.1, r.2.2.2.2.2.2.2)) 0 (c := (10000, 577, 577, 3000, 3000, 1, false, 0)) (by kernel_rfl) (k := 0) h
 exact ⟨congrArg (fun q => q.1) this, congrArg (fun q => q.2.1) this, congrArg (fun q => q.2.2.1) this, congrArg (fun q => q.2.2.2.1) this, congrArg (fun q => q.2.2.2.2.1) this, congrArg (fun q => q.2.2.2.2.2.1) this, congrArg (fun q => q.2.2.2.2.2.2.1) this, congrArg (fun q => q.2.2.2.2.2.2.2) this⟩
theorem acmelaw01_known.cs_1 (k : Nat) : ∀ r, thread_Width.f k 10000 577 577 3000 3000 1 false 0 3000 = some r → r.1 = 1538 ∧ r.2.1 = 1 ∧ r.2.2 = 0 := fun r h => by
 have := const_of (F := fun k => thread_Width.f k 10000 577 577 3000 3000 1 false 0 3000) (fun k => thread_Width.mono 10000 577 577 3000 3000 1 false 0 3000 k) (fun r => (r.1, r.2.1, r.2.2)) 200 (c := (1538, 1, 0)) (by kernel_rfl) h
 exact ⟨congrArg (fun q => q.1) this, congrArg (fun q => q.2.1) this, congrArg (fun q => q.2.2) this⟩
theorem acmelaw01_known.cs_2 (k : Nat) : ∀ r, thread_Sharp.f k 10000 577 577 3000 3000 1 false 0 = some r → r.1 = 2500000 ∧ r.2.1 = 577 ∧ r.2.2 = 0 := fun r h => by
 have := const_of (F := fun k => thread_Sharp.f k 10000 577 577 3000 3000 1 false 0) (fun k => thread_Sharp.mono 10000 577 577 3000 3000 1 false 0 k) (fun r => (r.1, r.2.1, r.2.2)) 200 (c := (2500000, 577, 0)) (by kernel_rfl) h
 exact ⟨congrArg (fun q => q.1) this, congrArg (fun q => q.2.1) this, congrArg (fun q => q.2.2) this⟩
theorem acmelaw01_known.cs_3 (k : Nat) : ∀ r, thread_Area.f k 10000 577 577 3000 3000 1 false 0 0 3000 = some r → r.1 = 9807000 ∧ r.2.1 = 1 ∧ r.2.2 = 0 := fun r h => by
 have := const_of (F := fun k => thread_Area.f k 10000 577 577 3000 3000 1 false 0 0 3000) (fun k => thread_Area.mono 10000 577 577 3000 3000 1 false 0 0 3000 k) (fun r => (r.1, r.2.1, r.2.2)) 200 (c := (9807000, 1, 0)) (by kernel_rfl) h
 exact ⟨congrArg (fun q => q.1) this, congrArg (fun q => q.2.1) this, congrArg (fun q => q.2.2) this⟩
theorem acmelaw01_known.cs_4 (k : Nat) : ∀ r, thread_Advance.f k 10000 577 577 3000 3000 1 false 0 250000 = some r → r.1 = 2500 ∧ r.2.1 = 1 ∧ r.2.2 = 0 := fun r h => by
 have := const_of (F := fun k => thread_Advance.f k 10000 577 577 3000 3000 1 false 0 250000) (fun k => thread_Advance.mono 10000 577 577 3000 3000 1 false 0 250000 k) (fun r => (r.1, r.2.1, r.2.2)) 200 (c := (2500, 1, 0)) (by kernel_rfl) h
 exact ⟨congrArg (fun q => q.1) this, congrArg (fun q => q.2.1) this, congrArg (fun q => q.2.2) this⟩
theorem acmelaw01_known.cs_5 (k : Nat) : ∀ r, thread_Diameter.f k 10000 577 577 3000 3000 1 false 50 100000 10000 = some r → r.1 = 101000 ∧ r.2.1 = 1 ∧ r.2.2 = 0 := fun r h => by
 have := const_of (F := fun k => thread_Diameter.f k 10000 577 577 3000 3000 1 false 50 100000 10000) (fun k => thread_Diameter.mono 10000 577 577 3000 3000 1 false 50 100000 10000 k) (fun r => (r.1, r.2.1, r.2.2)) 200 (c := (101000, 1, 0)) (by kernel_rfl) h
 exact ⟨congrArg (fun q => q.1) this, congrArg (fun q => q.2.1) this, congrArg (fun q => q.2.2) this⟩
theorem acmelaw01_known.cs_6 (k : Nat) : ∀ r, thread_Meets.f k 10000 577 577 3000 3000 1 false 50 100000 100500 = some r → r.1 = 1 ∧ r.2.1 = 2 ∧ r.2.2 = 0 := fun r h => by
 have := const_of (F := fun k => thread_Meets.f k 10000 577 577 3000 3000 1 false 50 100000 100500) (fun k => thread_Meets.mono 10000 577 577 3000 3000 1 false 50 100000 100500 k) (fun r => (r.1, r.2.1, r.2.2)) 200 (c := (1, 2, 0)) (by kernel_rfl) h
 exact ⟨congrArg (fun q => q.1) this, congrArg (fun q => q.2.1) this, congrArg (fun q => q.2.2) this⟩
theorem acmelaw01_known.cs_7 (k : Nat) : ∀ r, thread_Room.f k 10000 577 577 3000 3000 1 false 0 10000 600 600 3000 3000 1 false 0 (-3000) 3000 = some r → r.1 = 120 ∧ r.2 = 0 := fun r h => by
 have := const_of (F := fun k => thread_Room.f k 10000 577 577 3000 3000 1 false 0 10000 600 600 3000 3000 1 false 0 (-3000) 3000) (fun k => thread_Room.mono 10000 577 577 3000 3000 1 false 0 10000 600 600 3000 3000 1 false 0 (-3000) 3000 k) (fun r => (r.1, r.2)) 200 (c := (120, 0)) (by kernel_rfl) h
 exact ⟨congrArg (fun q => q.1) this, congrArg (fun q => q.2) this⟩
theorem acmelaw01_known.cs_8 (k : Nat) : ∀ r, thread_PerInch.f k 10000 577 577 3000 3000 1 false 0 = some r → r.1 = 127 ∧ r.2.1 = 5 ∧ r.2.2 = 0 := fun r h => by
 have := const_of (F := fun k => thread_PerInch.f k 10000 577 577 3000 3000 1 false 0) (fun k => thread_PerInch.mono 10000 577 577 3000 3000 1 false 0 k) (fun r => (r.1, r.2.1, r.2.2)) 200 (c := (127, 5, 0)) (by kernel_rfl) h
 exact ⟨congrArg (fun q => q.1) this, congrArg (fun q => q.2.1) this, congrArg (fun q => q.2.2) this⟩
theorem acmelaw01_known.cs_9 (k : Nat) : ∀ r, thread_Alike.f k (([(⟨10000, 577, 577, 3000, 3000, 1, false, 0⟩ : S23), (⟨10100, 577, 577, 3000, 3000, 1, false, 0⟩ : S23), (⟨10000, 600, 600, 3000, 3000, 1, false, 0⟩ : S23)] : List (S23))) 60 5 0 = some r → r.2 = 0 := fun r h => by
 have := const_of (F := fun k => thread_Alike.f k (([(⟨10000, 577, 577, 3000, 3000, 1, false, 0⟩ : S23), (⟨10100, 577, 577, 3000, 3000, 1, false, 0⟩ : S23), (⟨10000, 600, 600, 3000, 3000, 1, false, 0⟩ : S23)] : List (S23))) 60 5 0) (fun k => thread_Alike.mono (([(⟨10000, 577, 577, 3000, 3000, 1, false, 0⟩ : S23), (⟨10100, 577, 577, 3000, 3000, 1, false, 0⟩ : S23), (⟨10000, 600, 600, 3000, 3000, 1, false, 0⟩ : S23)] : List (S23))) 60 5 0 k) (fun r => (r.2)) 200 (c := (0)) (by kernel_rfl) h
 exact this
theorem acmelaw01_known.cs_10 : ∀ r, acmelaw01_all.f = some r → r.1 = 0 ∧ r.2.1 = 10000000 ∧ r.2.2.1 = 0 ∧ r.2.2.2.1 = 10000000 ∧ r.2.2.2.2.1 = 0 ∧ r.2.2.2.2.2.1 = 10000000 ∧ r.2.2.2.2.2.2.1 = 0 ∧ r.2.2.2.2.2.2.2.1 = 10000000 ∧ r.2.2.2.2.2.2.2.2.1 = 0 ∧ r.2.2.2.2.2.2.2.2.2.1 = 10000000 ∧ r.2.2.2.2.2.2.2.2.2.2.1 = 0 ∧ r.2.2.2.2.2.2.2.2.2.2.2.1 = 10000000 ∧ r.2.2.2.2.2.2.2.2.2.2.2.2.1 = 0 ∧ r.2.2.2.2.2.2.2.2.2.2.2.2.2.1 = 10000000 ∧ r.2.2.2.2.2.2.2.2.2.2.2.2.2.2 = 0 := fun r h => by
 have := const_of (F := fun _ => acmelaw01_all.f) (fun k => LeO.refl _) (fun r => (r.1, r.2.1, r.2.2.1, r.2.2.2.1, r.2.2.2.2.1, r.2.2.2.2.2.1, r.2.2.2.2.2.2.1, r.2.2.2.2.2.2.2.1, r.2.2.2.2.2.2.2.2.1, r.2.2.2.2.2.2.2.2.2.1, r.2.2.2.2.2.2.2.2.2.2.1, r.2.2.2.2.2.2.2.2.2.2.2.1, r.2.2.2.2.2.2.2.2.2.2.2.2.1, r.2.2.2.2.2.2.2.2.2.2.2.2.2.1, r.2.2.2.2.2.2.2.2.2.2.2.2.2.2)) 0 (c := (0, 10000000, 0, 10000000, 0, 10000000, 0, 10000000, 0, 10000000, 0, 10000000, 0, 10000000, 0)) (by kernel_rfl) (k := 0) h
 exact ⟨congrArg (fun q => q.1) this, congrArg (fun q => q.2.1) this, congrArg (fun q => q.2.2.1) this, congrArg (fun q => q.2.2.2.1) this, congrArg (fun q => q.2.2.2.2.1) this, congrArg (fun q => q.2.2.2.2.2.1) this, congrArg (fun q => q.2.2.2.2.2.2.1) this, congrArg (fun q => q.2.2.2.2.2.2.2.1) this, congrArg (fun q => q.2.2.2.2.2.2.2.2.1) this, congrArg (fun q => q.2.2.2.2.2.2.2.2.2.1) this, congrArg (fun q => q.2.2.2.2.2.2.2.2.2.2.1) this, congrArg (fun q => q.2.2.2.2.2.2.2.2.2.2.2.1) this, congrArg (fun q => q.2.2.2.2.2.2.2.2.2.2.2.2.1) this, congrArg (fun q => q.2.2.2.2.2.2.2.2.2.2.2.2.2.1) this, congrArg (fun q => q.2.2.2.2.2.2.2.2.2.2.2.2.2.2) this⟩
theorem acmelaw01_known.cs_11 (k : Nat) : ∀ r, thread_Agree.f k (([(⟨10000, 577, 577, 3000, 3000, 1, false, 0⟩ : S23), (⟨10100, 577, 577, 3000, 3000, 1, false, 0⟩ : S23), (⟨10000, 600, 600, 3000, 3000, 1, false, 0⟩ : S23)] : List (S23))) 10040 10160 0 10000000 0 10000000 0 10000000 0 10000000 0 10000000 0 10000000 0 = some r → r.2 = 0 := fun r h => by
 have := const_of (F := fun k => thread_Agree.f k (([(⟨10000, 577, 577, 3000, 3000, 1, false, 0⟩ : S23), (⟨10100, 577, 577, 3000, 3000, 1, false, 0⟩ : S23), (⟨10000, 600, 600, 3000, 3000, 1, false, 0⟩ : S23)] : List (S23))) 10040 10160 0 10000000 0 10000000 0 10000000 0 10000000 0 10000000 0 10000000 0) (fun k => thread_Agree.mono (([(⟨10000, 577, 577, 3000, 3000, 1, false, 0⟩ : S23), (⟨10100, 577, 577, 3000, 3000, 1, false, 0⟩ : S23), (⟨10000, 600, 600, 3000, 3000, 1, false, 0⟩ : S23)] : List (S23))) 10040 10160 0 10000000 0 10000000 0 10000000 0 10000000 0 10000000 0 10000000 0 k) (fun r => (r.2)) 200 (c := (0)) (by kernel_rfl) h
 exact this
theorem acmelaw01_known.mono : ∀ k, LeO (acmelaw01_known.f k ) (acmelaw01_known.f (k + 1) ) := by
 intro  k
 unfold acmelaw01_known.f
 repeat' first
   | (with_reducible exact thread_Advance.mono _ _ _ _ _ _ _ _ _ _)
   | (with_reducible exact thread_Agree.mono _ _ _ _ _ _ _ _ _ _ _ _ _ _ _ _ _)
   | (with_reducible exact thread_Alike.mono _ _ _ _ _)
   | (with_reducible exact thread_Area.mono _ _ _ _ _ _ _ _ _ _ _)
   | (with_reducible exact thread_Diameter.mono _ _ _ _ _ _ _ _ _ _ _)
   | (with_reducible exact thread_Meets.mono _ _ _ _ _ _ _ _ _ _ _)
   | (with_reducible exact thread_PerInch.mono _ _ _ _ _ _ _ _ _)
   | (with_reducible exact thread_Room.mono _ _ _ _ _ _ _ _ _ _ _ _ _ _ _ _ _ _ _)
   | (with_reducible exact thread_Sharp.mono _ _ _ _ _ _ _ _ _)
   | (with_reducible exact thread_Width.mono _ _ _ _ _ _ _ _ _ _)
   | (with_reducible exact LeO.refl _)
   | (with_reducible exact LeO.none _)
   | (with_reducible refine LeO.ite ?_ ?_)
   | (with_reducible refine LeO.bind ?_ (fun _ => ?_))
   | exact thread_Advance.mono _ _ _ _ _ _ _ _ _ _
   | exact thread_Agree.mono _ _ _ _ _ _ _ _ _ _ _ _ _ _ _ _ _
   | exact thread_Alike.mono _ _ _ _ _
   | exact thread_Area.mono _ _ _ _ _ _ _ _ _ _ _
   | exact thread_Diameter.mono _ _ _ _ _ _ _ _ _ _ _
   | exact thread_Meets.mono _ _ _ _ _ _ _ _ _ _ _
   | exact thread_PerInch.mono _ _ _ _ _ _ _ _ _
   | exact thread_Room.mono _ _ _ _ _ _ _ _ _ _ _ _ _ _ _ _ _ _ _
   | exact thread_Sharp.mono _ _ _ _ _ _ _ _ _
   | exact thread_Width.mono _ _ _ _ _ _ _ _ _ _
   | exact LeO.none _
   | refine LeO.ite ?_ ?_
   | refine LeO.bind ?_ (fun _ => ?_)
def acmelaw01_known.T11 : Bool × List (List Nat × List Nat) := (true, [([], []), ([], []), ([], []), ([0, 1, 2, 0], [0, 1, 2]), ([3], [3]), ([4], [4]), ([4], [4]), ([5, 3, 0, 1, 2, 3, 4, 5], [5]), ([6, 7, 0, 1, 2, 3, 4, 5, 6, 7], [6])])
def acmelaw01_known.B11 : List Nat := [0, 0, 0, 7, 15, 31, 31, 63, 255]
theorem acmelaw01_known.tab11 : rtab .any (opsOf Try.f18 11) = acmelaw01_known.T11 := by kernel_rfl
theorem acmelaw01_known.bits11 : waitsOk acmelaw01_known.T11.2 acmelaw01_known.B11 = true := by kernel_rfl
def acmelaw01_known.T13 : Bool × List (List Nat × List Nat) := (true, [([], []), ([], []), ([], []), ([0, 1, 2], [0, 1, 2]), ([], []), ([3, 4, 0], [3, 4]), ([5], [5]), ([6], [6]), ([6], [6]), ([7, 5, 0, 1, 2, 3, 4, 5, 6, 7], [7]), ([8, 9, 0, 1, 2, 3, 4, 5, 6, 7, 8, 9], [8])])
def acmelaw01_known.B13 : List Nat := [0, 0, 0, 7, 0, 31, 63, 127, 127, 255, 1023]
theorem acmelaw01_known.tab13 : rtab .any (opsOf Try.f18 13) = acmelaw01_known.T13 := by kernel_rfl
theorem acmelaw01_known.bits13 : waitsOk acmelaw01_known.T13.2 acmelaw01_known.B13 = true := by kernel_rfl
def acmelaw01_known.T16 : Bool × List (List Nat × List Nat) := (true, [([], []), ([], []), ([], []), ([0, 1, 2], [0, 1, 2]), ([], []), ([3, 4, 0], [3, 4]), ([5], [5]), ([6], [6]), ([6], [6]), ([7, 5, 0, 1, 2, 3, 4, 5, 6, 7], [7]), ([8, 9, 0, 1, 2, 3, 4, 5, 6, 7, 8, 9], [8])])
def acmelaw01_known.B16 : List Nat := [0, 0, 0, 7, 0, 31, 63, 127, 127, 255, 1023]
theorem acmelaw01_known.tab16 : rtab .any (opsOf Try.f18 16) = acmelaw01_known.T16 := by kernel_rfl
theorem acmelaw01_known.bits16 : waitsOk acmelaw01_known.T16.2 acmelaw01_known.B16 = true := by kernel_rfl
set_option maxHeartbeats 8000000 in
set_option maxRecDepth 100000 in
theorem acmelaw01_known.calls (k : Nat)  (r : Bool) (w : World) (h : acmelaw01_known.f k  = some r) :
  Calls Try.prog 18 #[] w fun e w' => e = .returned (.bool r) ∧ Below w.heap.size w w' := by
 have hu23 := Try.underlying23
 have hu27 := Try.underlying27
 have hu43 := Try.underlying43
 have hu55 := Try.underlying55
 have hu53 := Try.underlying53
 have hu67 := Try.underlying67
 have HB := Aside0.mk (Below.refl w.heap.size w)
 have H : ((acmelaw01_metric.f).bind fun bt318 => ((acmelaw01_metric.f).bind fun bt327 => ((acmelaw01_metric.f).bind fun bt335 => ((acmelaw01_metric.f).bind fun bt345 => ((thread_Width.f k 10000 577 577 3000 3000 1 false 0 3000).bind fun bt353 => ((acmelaw01_metric.f).bind fun bt357 => ((thread_Sharp.f k 10000 577 577 3000 3000 1 false 0).bind fun bt365 => ((acmelaw01_metric.f).bind fun bt369 => ((thread_Area.f k 10000 577 577 3000 3000 1 false 0 0 3000).bind fun bt377 => ((acmelaw01_metric.f).bind fun bt381 => ((thread_Advance.f k 10000 577 577 3000 3000 1 false 0 250000).bind fun bt389 => ((thread_Diameter.f k 10000 577 577 3000 3000 1 false 50 100000 10000).bind fun bt393 => ((thread_Meets.f k 10000 577 577 3000 3000 1 false 50 100000 100500).bind fun bt397 => ((acmelaw01_metric.f).bind fun bt401 => ((thread_Room.f k 10000 577 577 3000 3000 1 false 0 10000 600 600 3000 3000 1 false 0 (-3000) 3000).bind fun bt409 => ((acmelaw01_metric.f).bind fun bt411 => ((thread_PerInch.f k 10000 577 577 3000 3000 1 false 0).bind fun bt419 => ((acmelaw01_metric.f).bind fun bt423 => ((thread_Alike.f k (([(⟨10000, 577, 577, 3000, 3000, 1, false, 0⟩ : S23), (⟨10100, 577, 577, 3000, 3000, 1, false, 0⟩ : S23), (⟨10000, 600, 600, 3000, 3000, 1, false, 0⟩ : S23)] : List (S23))) 60 5 0).bind fun bt434 => ((acmelaw01_all.f).bind fun bt438 => ((acmelaw01_metric.f).bind fun bt454 => ((thread_Agree.f k (([(⟨10000, 577, 577, 3000, 3000, 1, false, 0⟩ : S23), (⟨10100, 577, 577, 3000, 3000, 1, false, 0⟩ : S23), (⟨10000, 600, 600, 3000, 3000, 1, false, 0⟩ : S23)] : List (S23))) 10040 10160 0 10000000 0 10000000 0 10000000 0 10000000 0 10000000 0 10000000 0).bind fun bt465 => (if (bt434.1.length : Int) = 1 then (if (bt434.1.length : Int) = 1 then (if (bt434.1.length : Int) = 1 then (if (bt434.1.length : Int) = 1 then (if (bt465.1.length : Int) = 1 then (if 0 < (bt434.1.length : Int) then (if (((rd_T67 bt434.1 0).f0) == 0 && (((rd_T67 bt434.1 0).f1) == 1)) = true then (if (((rd_T67 bt434.1 0).f0) == 0 && (((rd_T67 bt434.1 0).f1) == 1)) = true then (if 0 < (bt465.1.length : Int) then (if (((rd_T67 bt434.1 0).f0) == 0 && (((rd_T67 bt434.1 0).f1) == 1)) = true then (if (((rd_T67 bt434.1 0).f0) == 0 && (((rd_T67 bt434.1 0).f1) == 1)) = true then (if (((rd_T67 bt434.1 0).f0) == 0 && (((rd_T67 bt434.1 0).f1) == 1)) = true then (some ((rd bt465.1 0) == 1)) else (none)) else (none)) else (none)) else (none)) else (none)) else (none)) else (none)) else (none)) else (none)) else (none)) else (none)) else (none)))))))))))))))))))))))) = some r := h
 clear h
 replace H := Option.bind_eq_some_iff.mp H
 obtain ⟨⟨t318, t319, t320, t321, t322, t323, t324, t325⟩, A10, H⟩ := H; (try dsimp only at H)
 obtain ⟨rfl, rfl, rfl, rfl, rfl, rfl, rfl, rfl⟩ : t318 = 10000 ∧ t319 = 577 ∧ t320 = 577 ∧ t321 = 3000 ∧ t322 = 3000 ∧ t323 = 1 ∧ t324 = false ∧ t325 = 0 := acmelaw01_known.cs_0 _ A10
 have A1 := Aside0.mk A10
 clear A10
 replace H := Option.bind_eq_some_iff.mp H
 obtain ⟨⟨t327, t328, t329, t330, t331, t332, t333, t334⟩, A20, H⟩ := H; (try dsimp only at H)
 obtain ⟨rfl, rfl, rfl, rfl, rfl, rfl, rfl, rfl⟩ : t327 = 10000 ∧ t328 = 577 ∧ t329 = 577 ∧ t330 = 3000 ∧ t331 = 3000 ∧ t332 = 1 ∧ t333 = false ∧ t334 = 0 := acmelaw01_known.cs_0 _ A20
 have A2 := Aside0.mk A20
 clear A20
 replace H := Option.bind_eq_some_iff.mp H
 obtain ⟨⟨t335, t336, t337, t338, t339, t340, t341, t342⟩, A30, H⟩ := H; (try dsimp only at H)
 obtain ⟨rfl, rfl, rfl, rfl, rfl, rfl, rfl, rfl⟩ : t335 = 10000 ∧ t336 = 577 ∧ t337 = 577 ∧ t338 = 3000 ∧ t339 = 3000 ∧ t340 = 1 ∧ t341 = false ∧ t342 = 0 := acmelaw01_known.cs_0 _ A30
 have A3 := Aside0.mk A30
 clear A30
 replace H := Option.bind_eq_some_iff.mp H
 obtain ⟨⟨t345, t346, t347, t348, t349, t350, t351, t352⟩, A40, H⟩ := H; (try dsimp only at H)
 obtain ⟨rfl, rfl, rfl, rfl, rfl, rfl, rfl, rfl⟩ : t345 = 10000 ∧ t346 = 577 ∧ t347 = 577 ∧ t348 = 3000 ∧ t349 = 3000 ∧ t350 = 1 ∧ t351 = false ∧ t352 = 0 := acmelaw01_known.cs_0 _ A40
 have A4 := Aside0.mk A40
 clear A40
 replace H := Option.bind_eq_some_iff.mp H
 obtain ⟨⟨t353, t354, t355⟩, A50, H⟩ := H; (try dsimp only at H)
 obtain ⟨rfl, rfl, rfl⟩ : t353 = 1538 ∧ t354 = 1 ∧ t355 = 0 := acmelaw01_known.cs_1 _ _ A50
 have A5 := Aside0.mk A50
 clear A50
 replace H := Option.bind_eq_some_iff.mp H
 obtain ⟨⟨t357, t358, t359, t360, t361, t362, t363, t364⟩, A60, H⟩ := H; (try dsimp only at H)
 obtain ⟨rfl, rfl, rfl, rfl, rfl, rfl, rfl, rfl⟩ : t357 = 10000 ∧ t358 = 577 ∧ t359 = 577 ∧ t360 = 3000 ∧ t361 = 3000 ∧ t362 = 1 ∧ t363 = false ∧ t364 = 0 := acmelaw01_known.cs_0 _ A60
 have A6 := Aside0.mk A60
 clear A60
 replace H := Option.bind_eq_some_iff.mp H
 obtain ⟨⟨t365, t366, t367⟩, A70, H⟩ := H; (try dsimp only at H)
 obtain ⟨rfl, rfl, rfl⟩ : t365 = 2500000 ∧ t366 = 577 ∧ t367 = 0 := acmelaw01_known.cs_2 _ _ A70
 have A7 := Aside0.mk A70
 clear A70
 replace H := Option.bind_eq_some_iff.mp H
 obtain ⟨⟨t369, t370, t371, t372, t373, t374, t375, t376⟩, A80, H⟩ := H; (try dsimp only at H)
 obtain ⟨rfl, rfl, rfl, rfl, rfl, rfl, rfl, rfl⟩ : t369 = 10000 ∧ t370 = 577 ∧ t371 = 577 ∧ t372 = 3000 ∧ t373 = 3000 ∧ t374 = 1 ∧ t375 = false ∧ t376 = 0 := acmelaw01_known.cs_0 _ A80
 have A8 := Aside0.mk A80
 clear A80
 replace H := Option.bind_eq_some_iff.mp H
 obtain ⟨⟨t377, t378, t379⟩, A90, H⟩ := H; (try dsimp only at H)
 obtain ⟨rfl, rfl, rfl⟩ : t377 = 9807000 ∧ t378 = 1 ∧ t379 = 0 := acmelaw01_known.cs_3 _ _ A90
 have A9 := Aside0.mk A90
 clear A90
 replace H := Option.bind_eq_some_iff.mp H
 obtain ⟨⟨t381, t382, t383, t384, t385, t386, t387, t388⟩, A100, H⟩ := H; (try dsimp only at H)
 obtain ⟨rfl, rfl, rfl, rfl, rfl, rfl, rfl, rfl⟩ : t381 = 10000 ∧ t382 = 577 ∧ t383 = 577 ∧ t384 = 3000 ∧ t385 = 3000 ∧ t386 = 1 ∧ t387 = false ∧ t388 = 0 := acmelaw01_known.cs_0 _ A100
 have A10 := Aside0.mk A100
 clear A100
 replace H := Option.bind_eq_some_iff.mp H
 obtain ⟨⟨t389, t390, t391⟩, A110, H⟩ := H; (try dsimp only at H)
 obtain ⟨rfl, rfl, rfl⟩ : t389 = 2500 ∧ t390 = 1 ∧ t391 = 0 := acmelaw01_known.cs_4 _ _ A110
 have A11 := Aside0.mk A110
 clear A110
 replace H := Option.bind_eq_some_iff.mp H
 obtain ⟨⟨t393, t394, t395⟩, A120, H⟩ := H; (try dsimp only at H)
 obtain ⟨rfl, rfl, rfl⟩ : t393 = 101000 ∧ t394 = 1 ∧ t395 = 0 := acmelaw01_known.cs_5 _ _ A120
 have A12 := Aside0.mk A120
 clear A120
 replace H := Option.bind_eq_some_iff.mp H
 obtain ⟨⟨t397, t398, t399⟩, A130, H⟩ := H; (try dsimp only at H)
 obtain ⟨rfl, rfl, rfl⟩ : t397 = 1 ∧ t398 = 2 ∧ t399 = 0 := acmelaw01_known.cs_6 _ _ A130
 have A13 := Aside0.mk A130
 clear A130
 replace H := Option.bind_eq_some_iff.mp H
 obtain ⟨⟨t401, t402, t403, t404, t405, t406, t407, t408⟩, A140, H⟩ := H; (try dsimp only at H)
 obtain ⟨rfl, rfl, rfl, rfl, rfl, rfl, rfl, rfl⟩ : t401 = 10000 ∧ t402 = 577 ∧ t403 = 577 ∧ t404 = 3000 ∧ t405 = 3000 ∧ t406 = 1 ∧ t407 = false ∧ t408 = 0 := acmelaw01_known.cs_0 _ A140
 have A14 := Aside0.mk A140
 clear A140
 replace H := Option.bind_eq_some_iff.mp H
 obtain ⟨⟨t409, t410⟩, A150, H⟩ := H; (try dsimp only at H)
 obtain ⟨rfl, rfl⟩ : t409 = 120 ∧ t410 = 0 := acmelaw01_known.cs_7 _ _ A150
 have A15 := Aside0.mk A150
 clear A150
 replace H := Option.bind_eq_some_iff.mp H
 obtain ⟨⟨t411, t412, t413, t414, t415, t416, t417, t418⟩, A160, H⟩ := H; (try dsimp only at H)
 obtain ⟨rfl, rfl, rfl, rfl, rfl, rfl, rfl, rfl⟩ : t411 = 10000 ∧ t412 = 577 ∧ t413 = 577 ∧ t414 = 3000 ∧ t415 = 3000 ∧ t416 = 1 ∧ t417 = false ∧ t418 = 0 := acmelaw01_known.cs_0 _ A160
 have A16 := Aside0.mk A160
 clear A160
 replace H := Option.bind_eq_some_iff.mp H
 obtain ⟨⟨t419, t420, t421⟩, A170, H⟩ := H; (try dsimp only at H)
 obtain ⟨rfl, rfl, rfl⟩ : t419 = 127 ∧ t420 = 5 ∧ t421 = 0 := acmelaw01_known.cs_8 _ _ A170
 have A17 := Aside0.mk A170
 clear A170
 replace H := Option.bind_eq_some_iff.mp H
 obtain ⟨⟨t423, t424, t425, t426, t427, t428, t429, t430⟩, A180, H⟩ := H; (try dsimp only at H)
 obtain ⟨rfl, rfl, rfl, rfl, rfl, rfl, rfl, rfl⟩ : t423 = 10000 ∧ t424 = 577 ∧ t425 = 577 ∧ t426 = 3000 ∧ t427 = 3000 ∧ t428 = 1 ∧ t429 = false ∧ t430 = 0 := acmelaw01_known.cs_0 _ A180
 have A18 := Aside0.mk A180
 clear A180
 obtain ⟨y431, hy431⟩ : ∃ y_ : List (S23), y_ = (([(⟨10000, 577, 577, 3000, 3000, 1, false, 0⟩ : S23), (⟨10100, 577, 577, 3000, 3000, 1, false, 0⟩ : S23), (⟨10000, 600, 600, 3000, 3000, 1, false, 0⟩ : S23)] : List (S23))) := ⟨_, rfl⟩
 replace H : ((thread_Alike.f k y431 60 5 0).bind fun bt434 => ((acmelaw01_all.f).bind fun bt438 => ((acmelaw01_metric.f).bind fun bt454 => ((thread_Agree.f k (([(⟨10000, 577, 577, 3000, 3000, 1, false, 0⟩ : S23), (⟨10100, 577, 577, 3000, 3000, 1, false, 0⟩ : S23), (⟨10000, 600, 600, 3000, 3000, 1, false, 0⟩ : S23)] : List (S23))) 10040 10160 0 10000000 0 10000000 0 10000000 0 10000000 0 10000000 0 10000000 0).bind fun bt465 => (if (bt434.1.length : Int) = 1 then (if (bt434.1.length : Int) = 1 then (if (bt434.1.length : Int) = 1 then (if (bt434.1.length : Int) = 1 then (if (bt465.1.length : Int) = 1 then (if 0 < (bt434.1.length : Int) then (if (((rd_T67 bt434.1 0).f0) == 0 && (((rd_T67 bt434.1 0).f1) == 1)) = true then (if (((rd_T67 bt434.1 0).f0) == 0 && (((rd_T67 bt434.1 0).f1) == 1)) = true then (if 0 < (bt465.1.length : Int) then (if (((rd_T67 bt434.1 0).f0) == 0 && (((rd_T67 bt434.1 0).f1) == 1)) = true then (if (((rd_T67 bt434.1 0).f0) == 0 && (((rd_T67 bt434.1 0).f1) == 1)) = true then (if (((rd_T67 bt434.1 0).f0) == 0 && (((rd_T67 bt434.1 0).f1) == 1)) = true then (some ((rd bt465.1 0) == 1)) else (none)) else (none)) else (none)) else (none)) else (none)) else (none)) else (none)) else (none)) else (none)) else (none)) else (none)) else (none)))))) = some r := by first | (rw [hy431]; with_reducible exact H) | (have H2_ := (Option.bind_some _ _).symm.trans H; rw [hy431]; with_reducible exact H2_) | (have H2_ := (Option.bind_some _ _).symm.trans H; with_reducible exact H2_) | with_reducible exact H | (rw [hy431]; exact H) | exact H
 have Ny431 := Aside0.mk hy431
 clear hy431
 replace H := Option.bind_eq_some_iff.mp H
 obtain ⟨⟨t434, t437⟩, A190, H⟩ := H; (try dsimp only at H)
 obtain rfl : t437 = 0 := acmelaw01_known.cs_9 _ _ (by rw [← Ny431.out]; exact A190)
 have A19 := Aside0.mk A190
 clear A190
 replace H := Option.bind_eq_some_iff.mp H
 obtain ⟨⟨t438, t439, t440, t441, t442, t443, t444, t445, t446, t447, t448, t449, t450, t451, t452⟩, A200, H⟩ := H; (try dsimp only at H)
 obtain ⟨rfl, rfl, rfl, rfl, rfl, rfl, rfl, rfl, rfl, rfl, rfl, rfl, rfl, rfl, rfl⟩ : t438 = 0 ∧ t439 = 10000000 ∧ t440 = 0 ∧ t441 = 10000000 ∧ t442 = 0 ∧ t443 = 10000000 ∧ t444 = 0 ∧ t445 = 10000000 ∧ t446 = 0 ∧ t447 = 10000000 ∧ t448 = 0 ∧ t449 = 10000000 ∧ t450 = 0 ∧ t451 = 10000000 ∧ t452 = 0 := acmelaw01_known.cs_10 _ A200
 have A20 := Aside0.mk A200
 clear A200
 replace H := Option.bind_eq_some_iff.mp H
 obtain ⟨⟨t454, t455, t456, t457, t458, t459, t460, t461⟩, A210, H⟩ := H; (try dsimp only at H)
 obtain ⟨rfl, rfl, rfl, rfl, rfl, rfl, rfl, rfl⟩ : t454 = 10000 ∧ t455 = 577 ∧ t456 = 577 ∧ t457 = 3000 ∧ t458 = 3000 ∧ t459 = 1 ∧ t460 = false ∧ t461 = 0 := acmelaw01_known.cs_0 _ A210
 have A21 := Aside0.mk A210
 clear A210
 obtain ⟨y462, hy462⟩ : ∃ y_ : List (S23), y_ = (([(⟨10000, 577, 577, 3000, 3000, 1, false, 0⟩ : S23), (⟨10100, 577, 577, 3000, 3000, 1, false, 0⟩ : S23), (⟨10000, 600, 600, 3000, 3000, 1, false, 0⟩ : S23)] : List (S23))) := ⟨_, rfl⟩
 replace H : ((thread_Agree.f k y462 10040 10160 0 10000000 0 10000000 0 10000000 0 10000000 0 10000000 0 10000000 0).bind fun bt465 => (if (t434.length : Int) = 1 then (if (t434.length : Int) = 1 then (if (t434.length : Int) = 1 then (if (t434.length : Int) = 1 then (if (bt465.1.length : Int) = 1 then (if 0 < (t434.length : Int) then (if (((rd_T67 t434 0).f0) == 0 && (((rd_T67 t434 0).f1) == 1)) = true then (if (((rd_T67 t434 0).f0) == 0 && (((rd_T67 t434 0).f1) == 1)) = true then (if 0 < (bt465.1.length : Int) then (if (((rd_T67 t434 0).f0) == 0 && (((rd_T67 t434 0).f1) == 1)) = true then (if (((rd_T67 t434 0).f0) == 0 && (((rd_T67 t434 0).f1) == 1)) = true then (if (((rd_T67 t434 0).f0) == 0 && (((rd_T67 t434 0).f1) == 1)) = true then (some ((rd bt465.1 0) == 1)) else (none)) else (none)) else (none)) else (none)) else (none)) else (none)) else (none)) else (none)) else (none)) else (none)) else (none)) else (none))) = some r := by first | (rw [hy462]; with_reducible exact H) | (have H2_ := (Option.bind_some _ _).symm.trans H; rw [hy462]; with_reducible exact H2_) | (have H2_ := (Option.bind_some _ _).symm.trans H; with_reducible exact H2_) | with_reducible exact H | (rw [hy462]; exact H) | exact H
 have Ny462 := Aside0.mk hy462
 clear hy462
 replace H := Option.bind_eq_some_iff.mp H
 obtain ⟨⟨t465, t468⟩, A220, H⟩ := H; (try dsimp only at H)
 obtain rfl : t468 = 0 := acmelaw01_known.cs_11 _ _ (by rw [← Ny462.out]; exact A220)
 have A22 := Aside0.mk A220
 clear A220
 by_cases c23 : (t434.length : Int) = 1
 ·rw [if_pos c23] at H
  have c23b0 : ((t434.length : Int) == 1) = true := beq_iff_eq.mpr c23
  have c23b1 : ((t434.length : Int) != 1) = false := bne_eq_false_iff_eq.mpr c23
  clear c23
  by_cases c24 : (t434.length : Int) = 1
  ·rw [if_pos c24] at H
   have c24b0 : ((t434.length : Int) == 1) = true := beq_iff_eq.mpr c24
   have c24b1 : ((t434.length : Int) != 1) = false := bne_eq_false_iff_eq.mpr c24
   clear c24
   by_cases c25 : (t434.length : Int) = 1
   ·rw [if_pos c25] at H
    have c25b0 : ((t434.length : Int) == 1) = true := beq_iff_eq.mpr c25
    have c25b1 : ((t434.length : Int) != 1) = false := bne_eq_false_iff_eq.mpr c25
    clear c25
    by_cases c26 : (t434.length : Int) = 1
    ·rw [if_pos c26] at H
     have c26b0 : ((t434.length : Int) == 1) = true := beq_iff_eq.mpr c26
     have c26b1 : ((t434.length : Int) != 1) = false := bne_eq_false_iff_eq.mpr c26
     clear c26
     by_cases c27 : (t465.length : Int) = 1
     ·rw [if_pos c27] at H
      have c27b0 : ((t465.length : Int) == 1) = true := beq_iff_eq.mpr c27
      have c27b1 : ((t465.length : Int) != 1) = false := bne_eq_false_iff_eq.mpr c27
      clear c27
      by_cases c28 : 0 < (t434.length : Int)
      ·rw [if_pos c28] at H
       have c28b0 : decide (0 < (t434.length : Int)) = true := decide_eq_true c28
       have c28b1 : decide (0 < t434.length) = true := decide_eq_true (by omega)
       clear c28
       by_cases c29 : (((rd_T67 t434 0).f0) == 0 && (((rd_T67 t434 0).f1) == 1)) = true
       ·rw [if_pos c29] at H
        have c29b0 : (((rd_T67 t434 0).f0) == 0 && (((rd_T67 t434 0).f1) == 1)) = true := c29
        (try (have c29b1 : decide (((rd_T67 t434 0).f0) = 0 && (((rd_T67 t434 0).f1) == 1)) = true := by simpa using c29))
        (try (have c29b2 : (((rd_T67 t434 0).f0) == 0 && (((rd_T67 t434 0).f1) == 1)) = true := by simpa using c29))
        clear c29
        by_cases c30 : (((rd_T67 t434 0).f0) == 0 && (((rd_T67 t434 0).f1) == 1)) = true
        ·rw [if_pos c30] at H
         have c30b0 : (((rd_T67 t434 0).f0) == 0 && (((rd_T67 t434 0).f1) == 1)) = true := c30
         (try (have c30b1 : decide (((rd_T67 t434 0).f0) = 0 && (((rd_T67 t434 0).f1) == 1)) = true := by simpa using c30))
         (try (have c30b2 : (((rd_T67 t434 0).f0) == 0 && (((rd_T67 t434 0).f1) == 1)) = true := by simpa using c30))
         clear c30
         by_cases c31 : 0 < (t465.length : Int)
         ·rw [if_pos c31] at H
          have c31b0 : decide (0 < (t465.length : Int)) = true := decide_eq_true c31
          have c31b1 : decide (0 < t465.length) = true := decide_eq_true (by omega)
          clear c31
          by_cases c32 : (((rd_T67 t434 0).f0) == 0 && (((rd_T67 t434 0).f1) == 1)) = true
          ·rw [if_pos c32] at H
           have c32b0 : (((rd_T67 t434 0).f0) == 0 && (((rd_T67 t434 0).f1) == 1)) = true := c32
           (try (have c32b1 : decide (((rd_T67 t434 0).f0) = 0 && (((rd_T67 t434 0).f1) == 1)) = true := by simpa using c32))
           (try (have c32b2 : (((rd_T67 t434 0).f0) == 0 && (((rd_T67 t434 0).f1) == 1)) = true := by simpa using c32))
           clear c32
           by_cases c33 : (((rd_T67 t434 0).f0) == 0 && (((rd_T67 t434 0).f1) == 1)) = true
           ·rw [if_pos c33] at H
            have c33b0 : (((rd_T67 t434 0).f0) == 0 && (((rd_T67 t434 0).f1) == 1)) = true := c33
            (try (have c33b1 : decide (((rd_T67 t434 0).f0) = 0 && (((rd_T67 t434 0).f1) == 1)) = true := by simpa using c33))
            (try (have c33b2 : (((rd_T67 t434 0).f0) == 0 && (((rd_T67 t434 0).f1) == 1)) = true := by simpa using c33))
            clear c33
            by_cases c34 : (((rd_T67 t434 0).f0) == 0 && (((rd_T67 t434 0).f1) == 1)) = true
            ·rw [if_pos c34] at H
             have c34b0 : (((rd_T67 t434 0).f0) == 0 && (((rd_T67 t434 0).f1) == 1)) = true := c34
             (try (have c34b1 : decide (((rd_T67 t434 0).f0) = 0 && (((rd_T67 t434 0).f1) == 1)) = true := by simpa using c34))
             (try (have c34b2 : (((rd_T67 t434 0).f0) == 0 && (((rd_T67 t434 0).f1) == 1)) = true := by simpa using c34))
             clear c34
             obtain rfl := Option.some.inj H
             go_enter Try.func18, Try.ntmps18
             try go_wp2_with (first | ((with_reducible refine gate_callee (f := 49) rfl ?_); refine goesL_ (some 25) rfl rfl Try.func49 (by kernel_rfl) rfl #[] rfl (by (try simp only [List.map_toArray, List.map_cons, List.map_nil]); first | done | rfl | (simp only [List.length_drop, List.length_take]; rfl)) ?_; (with_reducible refine (acmelaw01_metric.calls  10000 577 577 3000 3000 1 false 0 _ A1.out).mono ?_); rintro e w35 ⟨rfl, hb⟩; refine ⟨_, rfl, ?_⟩; replace HB := Aside0.mk (below_step HB.out hb); (try clear hb); (try clear hb2); (try clear hk); (try clear hi)) | ((with_reducible refine gate_dst (N := 1) rfl ?_); (try (refine gate_guard (by rfl) ?_; dsimp only)); refine box_event ?hg (N := 1) ?hd (cs := #[.int .i64 0, .int .i64 0, .int .i64 0, .int .i64 0, .int .i64 0, .int .i64 0, .bool false, .int .i64 0]) (t := 23) ?hr ?_; (case hd => rfl); (case hg => rfl); (case hr => first | (go_simp; done) | (go_simp; rfl)); intro gb326 hg w36 hbox hb; have BK326 := Aside0.mk (hbox); have GW326 := Aside0.mk ((by rw [hg]; exact (below_size HB.out) : w.heap.size ≤ gb326)); have GE326 := GW326; replace HB := Aside0.mk (below_step HB.out hb); clear hb hbox hg; obtain ⟨hcz37_0, hcz37_1, hcz37_2, hcz37_3, hcz37_4, hcz37_5, hcz37_6, hcz37_7⟩ := bc8 BK326.out; obtain ⟨hfz37_0, hfz37_1, hfz37_2, hfz37_3, hfz37_4, hfz37_5, hfz37_6, hfz37_7⟩ := bf8 BK326.out) | ((with_reducible refine gate_callee (f := 49) rfl ?_); refine goesL_ (some 28) rfl rfl Try.func49 (by kernel_rfl) rfl #[] rfl (by (try simp only [List.map_toArray, List.map_cons, List.map_nil]); first | done | rfl | (simp only [List.length_drop, List.length_take]; rfl)) ?_; (with_reducible refine (acmelaw01_metric.calls  10000 577 577 3000 3000 1 false 0 _ A2.out).mono ?_); rintro e w38 ⟨rfl, hb⟩; refine ⟨_, rfl, ?_⟩; replace BK326 := Aside0.mk (blk_below (g := gb326) (o := .cells #[.int .i64 10000, .int .i64 600, .int .i64 600, .int .i64 3000, .int .i64 3000, .int .i64 1, .bool false, .int .i64 0] 23 (0, 0)) (by exact bto (bput (bput (bput (bput (bput (bput (bput (bput (bput (bput (BK326.out) _ _) _ _) _ _) _ _) _ _) _ _) _ _) _ _) _ _) _ _) rfl) hb); replace HB := Aside0.mk (below_step (by repeat (first | (with_reducible first | exact HB.out | apply below_alloc | apply pw_below_drewN | apply below_drew1 | refine below_set ?_ (Aside0.out (by assumption))) | exact HB.out)) hb); (try clear hb); (try clear hb2); (try clear hk); (try clear hi)) | ((with_reducible refine gate_callee (f := 49) rfl ?_); refine goesL_ (some 29) rfl rfl Try.func49 (by kernel_rfl) rfl #[] rfl (by (try simp only [List.map_toArray, List.map_cons, List.map_nil]); first | done | rfl | (simp only [List.length_drop, List.length_take]; rfl)) ?_; (with_reducible refine (acmelaw01_metric.calls  10000 577 577 3000 3000 1 false 0 _ A3.out).mono ?_); rintro e w39 ⟨rfl, hb⟩; refine ⟨_, rfl, ?_⟩; replace BK326 := Aside0.mk (blk_below (g := gb326) (o := .cells #[.int .i64 10000, .int .i64 600, .int .i64 600, .int .i64 3000, .int .i64 3000, .int .i64 1, .bool false, .int .i64 0] 23 (0, 0)) (by repeat (first | (with_reducible first | exact BK326.out | refine blk_drewN ?_ _ | refine blk_drew ?_ | refine blk_alloc ?_ _) | exact BK326.out)) hb); replace HB := Aside0.mk (below_step (by repeat (first | (with_reducible first | exact HB.out | apply below_alloc | apply pw_below_drewN | apply below_drew1 | refine below_set ?_ (Aside0.out (by assumption))) | exact HB.out)) hb); (try clear hb); (try clear hb2); (try clear hk); (try clear hi)) | ((with_reducible refine gate_dst (N := 2) rfl ?_); (try (refine gate_guard (by rfl) ?_; dsimp only)); refine box_event ?hg (N := 2) ?hd (cs := #[.int .i64 0, .int .i64 0, .int .i64 0, .int .i64 0, .int .i64 0, .int .i64 0, .bool false, .int .i64 0]) (t := 23) ?hr ?_; (case hd => rfl); (case hg => rfl); (case hr => first | (go_simp; done) | (go_simp; rfl)); intro gb343 hg w40 hbox hb; have BK343 := Aside0.mk (hbox); have GW343 := Aside0.mk ((by rw [hg]; exact (below_size (by repeat (first | (with_reducible first | exact HB.out | apply below_alloc | apply pw_below_drewN | apply below_drew1 | refine below_set ?_ (Aside0.out (by assumption))) | exact HB.out))) : w.heap.size ≤ gb343)); have GE343 := GW343; replace HB := Aside0.mk (below_step (by repeat (first | (with_reducible first | exact HB.out | apply below_alloc | apply pw_below_drewN | apply below_drew1 | refine below_set ?_ (Aside0.out (by assumption))) | exact HB.out)) hb); have NB326_343 := Aside0.mk ((by rw [hg]; exact Nat.ne_of_lt (blk_lt BK326.out) : gb326 ≠ gb343)); have NB343_326 := Aside0.mk ((by rw [hg]; exact Nat.ne_of_gt (blk_lt BK326.out) : gb343 ≠ gb326)); replace BK326 := Aside0.mk (blk_below (g := gb326) (o := .cells #[.int .i64 10000, .int .i64 600, .int .i64 600, .int .i64 3000, .int .i64 3000, .int .i64 1, .bool false, .int .i64 0] 23 (0, 0)) (by repeat (first | (with_reducible first | exact BK326.out | refine blk_drewN ?_ _ | refine blk_drew ?_ | refine blk_alloc ?_ _) | exact BK326.out)) hb); clear hb hbox hg) | ((with_reducible refine gate_dst (N := 3) rfl ?_); (try (refine gate_guard (by rfl) ?_; dsimp only)); refine box_event ?hg (N := 3) ?hd (cs := #[.int .i64 0, .int .i64 0, .int .i64 0, .int .i64 0, .int .i64 0, .int .i64 0, .bool false, .int .i64 0]) (t := 23) ?hr ?_; (case hd => rfl); (case hg => rfl); (case hr => first | (go_simp; done) | (go_simp; rfl)); intro gb344 hg w41 hbox hb; have BK344 := Aside0.mk (hbox); have GW344 := Aside0.mk ((by rw [hg]; exact (below_size (by repeat (first | (with_reducible first | exact HB.out | apply below_alloc | apply pw_below_drewN | apply below_drew1 | refine below_set ?_ (Aside0.out (by assumption))) | exact HB.out))) : w.heap.size ≤ gb344)); have GE344 := GW344; replace HB := Aside0.mk (below_step (by repeat (first | (with_reducible first | exact HB.out | apply below_alloc | apply pw_below_drewN | apply below_drew1 | refine below_set ?_ (Aside0.out (by assumption))) | exact HB.out)) hb); have NB326_344 := Aside0.mk ((by rw [hg]; exact Nat.ne_of_lt (blk_lt BK326.out) : gb326 ≠ gb344)); have NB344_326 := Aside0.mk ((by rw [hg]; exact Nat.ne_of_gt (blk_lt BK326.out) : gb344 ≠ gb326)); replace BK326 := Aside0.mk (blk_below (g := gb326) (o := .cells #[.int .i64 10000, .int .i64 600, .int .i64 600, .int .i64 3000, .int .i64 3000, .int .i64 1, .bool false, .int .i64 0] 23 (0, 0)) (by repeat (first | (with_reducible first | exact BK326.out | refine blk_drewN ?_ _ | refine blk_drew ?_ | refine blk_alloc ?_ _) | exact BK326.out)) hb); have NB343_344 := Aside0.mk ((by rw [hg]; exact Nat.ne_of_lt (blk_lt BK343.out) : gb343 ≠ gb344)); have NB344_343 := Aside0.mk ((by rw [hg]; exact Nat.ne_of_gt (blk_lt BK343.out) : gb344 ≠ gb343)); replace BK343 := Aside0.mk (blk_below (g := gb343) (o := .cells #[.int .i64 0, .int .i64 0, .int .i64 0, .int .i64 0, .int .i64 0, .int .i64 0, .bool false, .int .i64 0] 23 (0, 0)) (by repeat (first | (with_reducible first | exact BK343.out | refine blk_drewN ?_ _ | refine blk_drew ?_ | refine blk_alloc ?_ _) | exact BK343.out)) hb); clear hb hbox hg; have hnb42 := NB343_326.out; have hnc42 := NB326_343.out; have hnb43 := NB343_344.out; have hnc43 := NB344_343.out; obtain ⟨hcz44_0, hcz44_1, hcz44_2, hcz44_3, hcz44_4, hcz44_5, hcz44_6, hcz44_7⟩ := bc8 BK343.out; obtain ⟨hfz44_0, hfz44_1, hfz44_2, hfz44_3, hfz44_4, hfz44_5, hfz44_6, hfz44_7⟩ := bf8 BK343.out; have hnb45 := NB344_326.out; have hnc45 := NB326_344.out; obtain ⟨hcz46_0, hcz46_1, hcz46_2, hcz46_3, hcz46_4, hcz46_5, hcz46_6, hcz46_7⟩ := bc8 BK344.out; obtain ⟨hfz46_0, hfz46_1, hfz46_2, hfz46_3, hfz46_4, hfz46_5, hfz46_6, hfz46_7⟩ := bf8 BK344.out) | ((with_reducible refine gate_callee (f := 49) rfl ?_); refine goesL_ (some 33) rfl rfl Try.func49 (by kernel_rfl) rfl #[] rfl (by (try simp only [List.map_toArray, List.map_cons, List.map_nil]); first | done | rfl | (simp only [List.length_drop, List.length_take]; rfl)) ?_; (with_reducible refine (acmelaw01_metric.calls  10000 577 577 3000 3000 1 false 0 _ A4.out).mono ?_); rintro e w47 ⟨rfl, hb⟩; refine ⟨_, rfl, ?_⟩; replace BK326 := Aside0.mk (blk_below (g := gb326) (o := .cells #[.int .i64 10000, .int .i64 600, .int .i64 600, .int .i64 3000, .int .i64 3000, .int .i64 1, .bool false, .int .i64 0] 23 (0, 0)) (by repeat (first | (with_reducible first | exact BK326.out | refine blk_drewN ?_ _ | refine blk_drew ?_ | refine blk_alloc ?_ _) | refine blk_far ?_ NB326_344.out _ | refine blk_far ?_ NB326_343.out _ | exact BK326.out)) hb); replace BK343 := Aside0.mk (blk_below (g := gb343) (o := .cells #[.int .i64 10100, .int .i64 577, .int .i64 577, .int .i64 3000, .int .i64 3000, .int .i64 1, .bool false, .int .i64 0] 23 (0, 0)) (by exact bto (blk_far (bput (blk_far (blk_far (blk_far (blk_far (blk_far (blk_far (blk_far (blk_far (bput (bput (bput (bput (bput (bput (bput (bput (BK343.out) _ _) _ _) _ _) _ _) _ _) _ _) _ _) _ _) NB343_344.out _) NB343_344.out _) NB343_344.out _) NB343_344.out _) NB343_344.out _) NB343_344.out _) NB343_344.out _) NB343_344.out _) _ _) NB343_344.out _) rfl) hb); replace BK344 := Aside0.mk (blk_below (g := gb344) (o := .cells #[.int .i64 10000, .int .i64 577, .int .i64 577, .int .i64 3000, .int .i64 3000, .int .i64 1, .bool false, .int .i64 50] 23 (0, 0)) (by exact bto (bput (blk_far (bput (bput (bput (bput (bput (bput (bput (bput (blk_far (blk_far (blk_far (blk_far (blk_far (blk_far (blk_far (blk_far (BK344.out) NB344_343.out _) NB344_343.out _) NB344_343.out _) NB344_343.out _) NB344_343.out _) NB344_343.out _) NB344_343.out _) NB344_343.out _) _ _) _ _) _ _) _ _) _ _) _ _) _ _) _ _) NB344_343.out _) _ _) rfl) hb); replace HB := Aside0.mk (below_step (by repeat (first | (with_reducible first | exact HB.out | apply below_alloc | apply pw_below_drewN | apply below_drew1 | refine below_set ?_ (Aside0.out (by assumption))) | exact HB.out)) hb); (try clear hb); (try clear hb2); (try clear hk); (try clear hi)) | ((with_reducible refine gate_callee (f := 15) rfl ?_); refine goesL_ (some 34) rfl rfl Try.func15 (by kernel_rfl) rfl #[.agg #[.int .i64 10000, .int .i64 577, .int .i64 577, .int .i64 3000, .int .i64 3000, .int .i64 1, .bool false, .int .i64 0], .int .i64 3000] rfl (by (try simp only [List.map_toArray, List.map_cons, List.map_nil]); first | done | rfl | (simp only [List.length_drop, List.length_take]; rfl)) ?_; (with_reducible refine (thread_Width.calls k 10000 577 577 3000 3000 1 false 0 3000 1538 1 0 _ A5.out).mono ?_); rintro e w48 ⟨rfl, hb⟩; refine ⟨_, rfl, ?_⟩; replace BK326 := Aside0.mk (blk_below (g := gb326) (o := .cells #[.int .i64 10000, .int .i64 600, .int .i64 600, .int .i64 3000, .int .i64 3000, .int .i64 1, .bool false, .int .i64 0] 23 (0, 0)) (by repeat (first | (with_reducible first | exact BK326.out | refine blk_drewN ?_ _ | refine blk_drew ?_ | refine blk_alloc ?_ _) | exact BK326.out)) hb); replace BK343 := Aside0.mk (blk_below (g := gb343) (o := .cells #[.int .i64 10100, .int .i64 577, .int .i64 577, .int .i64 3000, .int .i64 3000, .int .i64 1, .bool false, .int .i64 0] 23 (0, 0)) (by repeat (first | (with_reducible first | exact BK343.out | refine blk_drewN ?_ _ | refine blk_drew ?_ | refine blk_alloc ?_ _) | exact BK343.out)) hb); replace BK344 := Aside0.mk (blk_below (g := gb344) (o := .cells #[.int .i64 10000, .int .i64 577, .int .i64 577, .int .i64 3000, .int .i64 3000, .int .i64 1, .bool false, .int .i64 50] 23 (0, 0)) (by repeat (first | (with_reducible first | exact BK344.out | refine blk_drewN ?_ _ | refine blk_drew ?_ | refine blk_alloc ?_ _) | exact BK344.out)) hb); replace HB := Aside0.mk (below_step (by repeat (first | (with_reducible first | exact HB.out | apply below_alloc | apply pw_below_drewN | apply below_drew1 | refine below_set ?_ (Aside0.out (by assumption))) | exact HB.out)) hb); (try clear hb); (try clear hb2); (try clear hk); (try clear hi)) | ((with_reducible refine gate_dst (N := 4) rfl ?_); (try (refine gate_guard (by rfl) ?_; dsimp only)); refine box_event ?hg (N := 4) ?hd (cs := #[.int .i64 0, .int .i64 0]) (t := 27) ?hr ?_; (case hd => rfl); (case hg => rfl); (case hr => first | (go_simp; done) | (go_simp; rfl)); intro gb356 hg w49 hbox hb; have BK356 := Aside0.mk (hbox); have GW356 := Aside0.mk ((by rw [hg]; exact (below_size (by repeat (first | (with_reducible first | exact HB.out | apply below_alloc | apply pw_below_drewN | apply below_drew1 | refine below_set ?_ (Aside0.out (by assumption))) | exact HB.out))) : w.heap.size ≤ gb356)); have GE356 := GW356; replace HB := Aside0.mk (below_step (by repeat (first | (with_reducible first | exact HB.out | apply below_alloc | apply pw_below_drewN | apply below_drew1 | refine below_set ?_ (Aside0.out (by assumption))) | exact HB.out)) hb); have NB326_356 := Aside0.mk ((by rw [hg]; exact Nat.ne_of_lt (blk_lt BK326.out) : gb326 ≠ gb356)); have NB356_326 := Aside0.mk ((by rw [hg]; exact Nat.ne_of_gt (blk_lt BK326.out) : gb356 ≠ gb326)); replace BK326 := Aside0.mk (blk_below (g := gb326) (o := .cells #[.int .i64 10000, .int .i64 600, .int .i64 600, .int .i64 3000, .int .i64 3000, .int .i64 1, .bool false, .int .i64 0] 23 (0, 0)) (by repeat (first | (with_reducible first | exact BK326.out | refine blk_drewN ?_ _ | refine blk_drew ?_ | refine blk_alloc ?_ _) | exact BK326.out)) hb); have NB343_356 := Aside0.mk ((by rw [hg]; exact Nat.ne_of_lt (blk_lt BK343.out) : gb343 ≠ gb356)); have NB356_343 := Aside0.mk ((by rw [hg]; exact Nat.ne_of_gt (blk_lt BK343.out) : gb356 ≠ gb343)); replace BK343 := Aside0.mk (blk_below (g := gb343) (o := .cells #[.int .i64 10100, .int .i64 577, .int .i64 577, .int .i64 3000, .int .i64 3000, .int .i64 1, .bool false, .int .i64 0] 23 (0, 0)) (by repeat (first | (with_reducible first | exact BK343.out | refine blk_drewN ?_ _ | refine blk_drew ?_ | refine blk_alloc ?_ _) | exact BK343.out)) hb); have NB344_356 := Aside0.mk ((by rw [hg]; exact Nat.ne_of_lt (blk_lt BK344.out) : gb344 ≠ gb356)); have NB356_344 := Aside0.mk ((by rw [hg]; exact Nat.ne_of_gt (blk_lt BK344.out) : gb356 ≠ gb344)); replace BK344 := Aside0.mk (blk_below (g := gb344) (o := .cells #[.int .i64 10000, .int .i64 577, .int .i64 577, .int .i64 3000, .int .i64 3000, .int .i64 1, .bool false, .int .i64 50] 23 (0, 0)) (by repeat (first | (with_reducible first | exact BK344.out | refine blk_drewN ?_ _ | refine blk_drew ?_ | refine blk_alloc ?_ _) | exact BK344.out)) hb); clear hb hbox hg; have hnb50 := NB356_326.out; have hnc50 := NB326_356.out; have hnb51 := NB356_343.out; have hnc51 := NB343_356.out; have hnb52 := NB356_344.out; have hnc52 := NB344_356.out; obtain ⟨hcz53_0, hcz53_1⟩ := bc2 BK356.out; obtain ⟨hfz53_0, hfz53_1⟩ := bf2 BK356.out) | ((with_reducible refine gate_callee (f := 49) rfl ?_); refine goesL_ (some 38) rfl rfl Try.func49 (by kernel_rfl) rfl #[] rfl (by (try simp only [List.map_toArray, List.map_cons, List.map_nil]); first | done | rfl | (simp only [List.length_drop, List.length_take]; rfl)) ?_; (with_reducible refine (acmelaw01_metric.calls  10000 577 577 3000 3000 1 false 0 _ A6.out).mono ?_); rintro e w54 ⟨rfl, hb⟩; refine ⟨_, rfl, ?_⟩; replace BK326 := Aside0.mk (blk_below (g := gb326) (o := .cells #[.int .i64 10000, .int .i64 600, .int .i64 600, .int .i64 3000, .int .i64 3000, .int .i64 1, .bool false, .int .i64 0] 23 (0, 0)) (by repeat (first | (with_reducible first | exact BK326.out | refine blk_drewN ?_ _ | refine blk_drew ?_ | refine blk_alloc ?_ _) | refine blk_far ?_ NB326_356.out _ | exact BK326.out)) hb); replace BK343 := Aside0.mk (blk_below (g := gb343) (o := .cells #[.int .i64 10100, .int .i64 577, .int .i64 577, .int .i64 3000, .int .i64 3000, .int .i64 1, .bool false, .int .i64 0] 23 (0, 0)) (by repeat (first | (with_reducible first | exact BK343.out | refine blk_drewN ?_ _ | refine blk_drew ?_ | refine blk_alloc ?_ _) | refine blk_far ?_ NB343_356.out _ | exact BK343.out)) hb); replace BK344 := Aside0.mk (blk_below (g := gb344) (o := .cells #[.int .i64 10000, .int .i64 577, .int .i64 577, .int .i64 3000, .int .i64 3000, .int .i64 1, .bool false, .int .i64 50] 23 (0, 0)) (by repeat (first | (with_reducible first | exact BK344.out | refine blk_drewN ?_ _ | refine blk_drew ?_ | refine blk_alloc ?_ _) | refine blk_far ?_ NB344_356.out _ | exact BK344.out)) hb); replace BK356 := Aside0.mk (blk_below (g := gb356) (o := .cells #[.int .i64 1538, .int .i64 1] 27 (0, 0)) (by exact bto (bput (bput (BK356.out) _ _) _ _) rfl) hb); replace HB := Aside0.mk (below_step (by repeat (first | (with_reducible first | exact HB.out | apply below_alloc | apply pw_below_drewN | apply below_drew1 | refine below_set ?_ (Aside0.out (by assumption))) | exact HB.out)) hb); (try clear hb); (try clear hb2); (try clear hk); (try clear hi)) | ((with_reducible refine gate_callee (f := 16) rfl ?_); refine goesL_ (some 39) rfl rfl Try.func16 (by kernel_rfl) rfl #[.agg #[.int .i64 10000, .int .i64 577, .int .i64 577, .int .i64 3000, .int .i64 3000, .int .i64 1, .bool false, .int .i64 0]] rfl (by (try simp only [List.map_toArray, List.map_cons, List.map_nil]); first | done | rfl | (simp only [List.length_drop, List.length_take]; rfl)) ?_; (with_reducible refine (thread_Sharp.calls k 10000 577 577 3000 3000 1 false 0 2500000 577 0 _ A7.out).mono ?_); rintro e w55 ⟨rfl, hb⟩; refine ⟨_, rfl, ?_⟩; replace BK326 := Aside0.mk (blk_below (g := gb326) (o := .cells #[.int .i64 10000, .int .i64 600, .int .i64 600, .int .i64 3000, .int .i64 3000, .int .i64 1, .bool false, .int .i64 0] 23 (0, 0)) (by repeat (first | (with_reducible first | exact BK326.out | refine blk_drewN ?_ _ | refine blk_drew ?_ | refine blk_alloc ?_ _) | exact BK326.out)) hb); replace BK343 := Aside0.mk (blk_below (g := gb343) (o := .cells #[.int .i64 10100, .int .i64 577, .int .i64 577, .int .i64 3000, .int .i64 3000, .int .i64 1, .bool false, .int .i64 0] 23 (0, 0)) (by repeat (first | (with_reducible first | exact BK343.out | refine blk_drewN ?_ _ | refine blk_drew ?_ | refine blk_alloc ?_ _) | exact BK343.out)) hb); replace BK344 := Aside0.mk (blk_below (g := gb344) (o := .cells #[.int .i64 10000, .int .i64 577, .int .i64 577, .int .i64 3000, .int .i64 3000, .int .i64 1, .bool false, .int .i64 50] 23 (0, 0)) (by repeat (first | (with_reducible first | exact BK344.out | refine blk_drewN ?_ _ | refine blk_drew ?_ | refine blk_alloc ?_ _) | exact BK344.out)) hb); replace BK356 := Aside0.mk (blk_below (g := gb356) (o := .cells #[.int .i64 1538, .int .i64 1] 27 (0, 0)) (by repeat (first | (with_reducible first | exact BK356.out | refine blk_drewN ?_ _ | refine blk_drew ?_ | refine blk_alloc ?_ _) | exact BK356.out)) hb); replace HB := Aside0.mk (below_step (by repeat (first | (with_reducible first | exact HB.out | apply below_alloc | apply pw_below_drewN | apply below_drew1 | refine below_set ?_ (Aside0.out (by assumption))) | exact HB.out)) hb); (try clear hb); (try clear hb2); (try clear hk); (try clear hi)) | ((with_reducible refine gate_dst (N := 6) rfl ?_); (try (refine gate_guard (by rfl) ?_; dsimp only)); refine box_event ?hg (N := 6) ?hd (cs := #[.int .i64 0, .int .i64 0]) (t := 27) ?hr ?_; (case hd => rfl); (case hg => rfl); (case hr => first | (go_simp; done) | (go_simp; rfl)); intro gb368 hg w56 hbox hb; have BK368 := Aside0.mk (hbox); have GW368 := Aside0.mk ((by rw [hg]; exact (below_size (by repeat (first | (with_reducible first | exact HB.out | apply below_alloc | apply pw_below_drewN | apply below_drew1 | refine below_set ?_ (Aside0.out (by assumption))) | exact HB.out))) : w.heap.size ≤ gb368)); have GE368 := GW368; replace HB := Aside0.mk (below_step (by repeat (first | (with_reducible first | exact HB.out | apply below_alloc | apply pw_below_drewN | apply below_drew1 | refine below_set ?_ (Aside0.out (by assumption))) | exact HB.out)) hb); have NB326_368 := Aside0.mk ((by rw [hg]; exact Nat.ne_of_lt (blk_lt BK326.out) : gb326 ≠ gb368)); have NB368_326 := Aside0.mk ((by rw [hg]; exact Nat.ne_of_gt (blk_lt BK326.out) : gb368 ≠ gb326)); replace BK326 := Aside0.mk (blk_below (g := gb326) (o := .cells #[.int .i64 10000, .int .i64 600, .int .i64 600, .int .i64 3000, .int .i64 3000, .int .i64 1, .bool false, .int .i64 0] 23 (0, 0)) (by repeat (first | (with_reducible first | exact BK326.out | refine blk_drewN ?_ _ | refine blk_drew ?_ | refine blk_alloc ?_ _) | exact BK326.out)) hb); have NB343_368 := Aside0.mk ((by rw [hg]; exact Nat.ne_of_lt (blk_lt BK343.out) : gb343 ≠ gb368)); have NB368_343 := Aside0.mk ((by rw [hg]; exact Nat.ne_of_gt (blk_lt BK343.out) : gb368 ≠ gb343)); replace BK343 := Aside0.mk (blk_below (g := gb343) (o := .cells #[.int .i64 10100, .int .i64 577, .int .i64 577, .int .i64 3000, .int .i64 3000, .int .i64 1, .bool false, .int .i64 0] 23 (0, 0)) (by repeat (first | (with_reducible first | exact BK343.out | refine blk_drewN ?_ _ | refine blk_drew ?_ | refine blk_alloc ?_ _) | exact BK343.out)) hb); have NB344_368 := Aside0.mk ((by rw [hg]; exact Nat.ne_of_lt (blk_lt BK344.out) : gb344 ≠ gb368)); have NB368_344 := Aside0.mk ((by rw [hg]; exact Nat.ne_of_gt (blk_lt BK344.out) : gb368 ≠ gb344)); replace BK344 := Aside0.mk (blk_below (g := gb344) (o := .cells #[.int .i64 10000, .int .i64 577, .int .i64 577, .int .i64 3000, .int .i64 3000, .int .i64 1, .bool false, .int .i64 50] 23 (0, 0)) (by repeat (first | (with_reducible first | exact BK344.out | refine blk_drewN ?_ _ | refine blk_drew ?_ | refine blk_alloc ?_ _) | exact BK344.out)) hb); have NB356_368 := Aside0.mk ((by rw [hg]; exact Nat.ne_of_lt (blk_lt BK356.out) : gb356 ≠ gb368)); have NB368_356 := Aside0.mk ((by rw [hg]; exact Nat.ne_of_gt (blk_lt BK356.out) : gb368 ≠ gb356)); replace BK356 := Aside0.mk (blk_below (g := gb356) (o := .cells #[.int .i64 1538, .int .i64 1] 27 (0, 0)) (by repeat (first | (with_reducible first | exact BK356.out | refine blk_drewN ?_ _ | refine blk_drew ?_ | refine blk_alloc ?_ _) | exact BK356.out)) hb); clear hb hbox hg; have hnb57 := NB368_326.out; have hnc57 := NB326_368.out; have hnb58 := NB368_343.out; have hnc58 := NB343_368.out; have hnb59 := NB368_344.out; have hnc59 := NB344_368.out; have hnb60 := NB368_356.out; have hnc60 := NB356_368.out; obtain ⟨hcz61_0, hcz61_1⟩ := bc2 BK368.out; obtain ⟨hfz61_0, hfz61_1⟩ := bf2 BK368.out) | ((with_reducible refine gate_callee (f := 49) rfl ?_); refine goesL_ (some 43) rfl rfl Try.func49 (by kernel_rfl) rfl #[] rfl (by (try simp only [List.map_toArray, List.map_cons, List.map_nil]); first | done | rfl | (simp only [List.length_drop, List.length_take]; rfl)) ?_; (with_reducible refine (acmelaw01_metric.calls  10000 577 577 3000 3000 1 false 0 _ A8.out).mono ?_); rintro e w62 ⟨rfl, hb⟩; refine ⟨_, rfl, ?_⟩; replace BK326 := Aside0.mk (blk_below (g := gb326) (o := .cells #[.int .i64 10000, .int .i64 600, .int .i64 600, .int .i64 3000, .int .i64 3000, .int .i64 1, .bool false, .int .i64 0] 23 (0, 0)) (by repeat (first | (with_reducible first | exact BK326.out | refine blk_drewN ?_ _ | refine blk_drew ?_ | refine blk_alloc ?_ _) | refine blk_far ?_ NB326_368.out _ | exact BK326.out)) hb); replace BK343 := Aside0.mk (blk_below (g := gb343) (o := .cells #[.int .i64 10100, .int .i64 577, .int .i64 577, .int .i64 3000, .int .i64 3000, .int .i64 1, .bool false, .int .i64 0] 23 (0, 0)) (by repeat (first | (with_reducible first | exact BK343.out | refine blk_drewN ?_ _ | refine blk_drew ?_ | refine blk_alloc ?_ _) | refine blk_far ?_ NB343_368.out _ | exact BK343.out)) hb); replace BK344 := Aside0.mk (blk_below (g := gb344) (o := .cells #[.int .i64 10000, .int .i64 577, .int .i64 577, .int .i64 3000, .int .i64 3000, .int .i64 1, .bool false, .int .i64 50] 23 (0, 0)) (by repeat (first | (with_reducible first | exact BK344.out | refine blk_drewN ?_ _ | refine blk_drew ?_ | refine blk_alloc ?_ _) | refine blk_far ?_ NB344_368.out _ | exact BK344.out)) hb); replace BK356 := Aside0.mk (blk_below (g := gb356) (o := .cells #[.int .i64 1538, .int .i64 1] 27 (0, 0)) (by repeat (first | (with_reducible first | exact BK356.out | refine blk_drewN ?_ _ | refine blk_drew ?_ | refine blk_alloc ?_ _) | refine blk_far ?_ NB356_368.out _ | exact BK356.out)) hb); replace BK368 := Aside0.mk (blk_below (g := gb368) (o := .cells #[.int .i64 2500000, .int .i64 577] 27 (0, 0)) (by exact bto (bput (bput (BK368.out) _ _) _ _) rfl) hb); replace HB := Aside0.mk (below_step (by repeat (first | (with_reducible first | exact HB.out | apply below_alloc | apply pw_below_drewN | apply below_drew1 | refine below_set ?_ (Aside0.out (by assumption))) | exact HB.out)) hb); (try clear hb); (try clear hb2); (try clear hk); (try clear hi)) | ((with_reducible refine gate_callee (f := 22) rfl ?_); refine goesL_ (some 44) rfl rfl Try.func22 (by kernel_rfl) rfl #[.agg #[.int .i64 10000, .int .i64 577, .int .i64 577, .int .i64 3000, .int .i64 3000, .int .i64 1, .bool false, .int .i64 0], .int .i64 0, .int .i64 3000] rfl (by (try simp only [List.map_toArray, List.map_cons, List.map_nil]); first | done | rfl | (simp only [List.length_drop, List.length_take]; rfl)) ?_; (with_reducible refine (thread_Area.calls k 10000 577 577 3000 3000 1 false 0 0 3000 9807000 1 0 _ A9.out).mono ?_); rintro e w63 ⟨rfl, hb⟩; refine ⟨_, rfl, ?_⟩; replace BK326 := Aside0.mk (blk_below (g := gb326) (o := .cells #[.int .i64 10000, .int .i64 600, .int .i64 600, .int .i64 3000, .int .i64 3000, .int .i64 1, .bool false, .int .i64 0] 23 (0, 0)) (by repeat (first | (with_reducible first | exact BK326.out | refine blk_drewN ?_ _ | refine blk_drew ?_ | refine blk_alloc ?_ _) | exact BK326.out)) hb); replace BK343 := Aside0.mk (blk_below (g := gb343) (o := .cells #[.int .i64 10100, .int .i64 577, .int .i64 577, .int .i64 3000, .int .i64 3000, .int .i64 1, .bool false, .int .i64 0] 23 (0, 0)) (by repeat (first | (with_reducible first | exact BK343.out | refine blk_drewN ?_ _ | refine blk_drew ?_ | refine blk_alloc ?_ _) | exact BK343.out)) hb); replace BK344 := Aside0.mk (blk_below (g := gb344) (o := .cells #[.int .i64 10000, .int .i64 577, .int .i64 577, .int .i64 3000, .int .i64 3000, .int .i64 1, .bool false, .int .i64 50] 23 (0, 0)) (by repeat (first | (with_reducible first | exact BK344.out | refine blk_drewN ?_ _ | refine blk_drew ?_ | refine blk_alloc ?_ _) | exact BK344.out)) hb); replace BK356 := Aside0.mk (blk_below (g := gb356) (o := .cells #[.int .i64 1538, .int .i64 1] 27 (0, 0)) (by repeat (first | (with_reducible first | exact BK356.out | refine blk_drewN ?_ _ | refine blk_drew ?_ | refine blk_alloc ?_ _) | exact BK356.out)) hb); replace BK368 := Aside0.mk (blk_below (g := gb368) (o := .cells #[.int .i64 2500000, .int .i64 577] 27 (0, 0)) (by repeat (first | (with_reducible first | exact BK368.out | refine blk_drewN ?_ _ | refine blk_drew ?_ | refine blk_alloc ?_ _) | exact BK368.out)) hb); replace HB := Aside0.mk (below_step (by repeat (first | (with_reducible first | exact HB.out | apply below_alloc | apply pw_below_drewN | apply below_drew1 | refine below_set ?_ (Aside0.out (by assumption))) | exact HB.out)) hb); (try clear hb); (try clear hb2); (try clear hk); (try clear hi)) | ((with_reducible refine gate_dst (N := 8) rfl ?_); (try (refine gate_guard (by rfl) ?_; dsimp only)); refine box_event ?hg (N := 8) ?hd (cs := #[.int .i64 0, .int .i64 0]) (t := 27) ?hr ?_; (case hd => rfl); (case hg => rfl); (case hr => first | (go_simp; done) | (go_simp; rfl)); intro gb380 hg w64 hbox hb; have BK380 := Aside0.mk (hbox); have GW380 := Aside0.mk ((by rw [hg]; exact (below_size (by repeat (first | (with_reducible first | exact HB.out | apply below_alloc | apply pw_below_drewN | apply below_drew1 | refine below_set ?_ (Aside0.out (by assumption))) | exact HB.out))) : w.heap.size ≤ gb380)); have GE380 := GW380; replace HB := Aside0.mk (below_step (by repeat (first | (with_reducible first | exact HB.out | apply below_alloc | apply pw_below_drewN | apply below_drew1 | refine below_set ?_ (Aside0.out (by assumption))) | exact HB.out)) hb); have NB326_380 := Aside0.mk ((by rw [hg]; exact Nat.ne_of_lt (blk_lt BK326.out) : gb326 ≠ gb380)); have NB380_326 := Aside0.mk ((by rw [hg]; exact Nat.ne_of_gt (blk_lt BK326.out) : gb380 ≠ gb326)); replace BK326 := Aside0.mk (blk_below (g := gb326) (o := .cells #[.int .i64 10000, .int .i64 600, .int .i64 600, .int .i64 3000, .int .i64 3000, .int .i64 1, .bool false, .int .i64 0] 23 (0, 0)) (by repeat (first | (with_reducible first | exact BK326.out | refine blk_drewN ?_ _ | refine blk_drew ?_ | refine blk_alloc ?_ _) | exact BK326.out)) hb); have NB343_380 := Aside0.mk ((by rw [hg]; exact Nat.ne_of_lt (blk_lt BK343.out) : gb343 ≠ gb380)); have NB380_343 := Aside0.mk ((by rw [hg]; exact Nat.ne_of_gt (blk_lt BK343.out) : gb380 ≠ gb343)); replace BK343 := Aside0.mk (blk_below (g := gb343) (o := .cells #[.int .i64 10100, .int .i64 577, .int .i64 577, .int .i64 3000, .int .i64 3000, .int .i64 1, .bool false, .int .i64 0] 23 (0, 0)) (by repeat (first | (with_reducible first | exact BK343.out | refine blk_drewN ?_ _ | refine blk_drew ?_ | refine blk_alloc ?_ _) | exact BK343.out)) hb); have NB344_380 := Aside0.mk ((by rw [hg]; exact Nat.ne_of_lt (blk_lt BK344.out) : gb344 ≠ gb380)); have NB380_344 := Aside0.mk ((by rw [hg]; exact Nat.ne_of_gt (blk_lt BK344.out) : gb380 ≠ gb344)); replace BK344 := Aside0.mk (blk_below (g := gb344) (o := .cells #[.int .i64 10000, .int .i64 577, .int .i64 577, .int .i64 3000, .int .i64 3000, .int .i64 1, .bool false, .int .i64 50] 23 (0, 0)) (by repeat (first | (with_reducible first | exact BK344.out | refine blk_drewN ?_ _ | refine blk_drew ?_ | refine blk_alloc ?_ _) | exact BK344.out)) hb); have NB356_380 := Aside0.mk ((by rw [hg]; exact Nat.ne_of_lt (blk_lt BK356.out) : gb356 ≠ gb380)); have NB380_356 := Aside0.mk ((by rw [hg]; exact Nat.ne_of_gt (blk_lt BK356.out) : gb380 ≠ gb356)); replace BK356 := Aside0.mk (blk_below (g := gb356) (o := .cells #[.int .i64 1538, .int .i64 1] 27 (0, 0)) (by repeat (first | (with_reducible first | exact BK356.out | refine blk_drewN ?_ _ | refine blk_drew ?_ | refine blk_alloc ?_ _) | exact BK356.out)) hb); have NB368_380 := Aside0.mk ((by rw [hg]; exact Nat.ne_of_lt (blk_lt BK368.out) : gb368 ≠ gb380)); have NB380_368 := Aside0.mk ((by rw [hg]; exact Nat.ne_of_gt (blk_lt BK368.out) : gb380 ≠ gb368)); replace BK368 := Aside0.mk (blk_below (g := gb368) (o := .cells #[.int .i64 2500000, .int .i64 577] 27 (0, 0)) (by repeat (first | (with_reducible first | exact BK368.out | refine blk_drewN ?_ _ | refine blk_drew ?_ | refine blk_alloc ?_ _) | exact BK368.out)) hb); clear hb hbox hg; have hnb65 := NB380_326.out; have hnc65 := NB326_380.out; have hnb66 := NB380_343.out; have hnc66 := NB343_380.out; have hnb67 := NB380_344.out; have hnc67 := NB344_380.out; have hnb68 := NB380_356.out; have hnc68 := NB356_380.out; have hnb69 := NB380_368.out; have hnc69 := NB368_380.out; obtain ⟨hcz70_0, hcz70_1⟩ := bc2 BK380.out; obtain ⟨hfz70_0, hfz70_1⟩ := bf2 BK380.out) | ((with_reducible refine gate_callee (f := 49) rfl ?_); refine goesL_ (some 48) rfl rfl Try.func49 (by kernel_rfl) rfl #[] rfl (by (try simp only [List.map_toArray, List.map_cons, List.map_nil]); first | done | rfl | (simp only [List.length_drop, List.length_take]; rfl)) ?_; (with_reducible refine (acmelaw01_metric.calls  10000 577 577 3000 3000 1 false 0 _ A10.out).mono ?_); rintro e w71 ⟨rfl, hb⟩; refine ⟨_, rfl, ?_⟩; replace BK326 := Aside0.mk (blk_below (g := gb326) (o := .cells #[.int .i64 10000, .int .i64 600, .int .i64 600, .int .i64 3000, .int .i64 3000, .int .i64 1, .bool false, .int .i64 0] 23 (0, 0)) (by repeat (first | (with_reducible first | exact BK326.out | refine blk_drewN ?_ _ | refine blk_drew ?_ | refine blk_alloc ?_ _) | refine blk_far ?_ NB326_380.out _ | exact BK326.out)) hb); replace BK343 := Aside0.mk (blk_below (g := gb343) (o := .cells #[.int .i64 10100, .int .i64 577, .int .i64 577, .int .i64 3000, .int .i64 3000, .int .i64 1, .bool false, .int .i64 0] 23 (0, 0)) (by repeat (first | (with_reducible first | exact BK343.out | refine blk_drewN ?_ _ | refine blk_drew ?_ | refine blk_alloc ?_ _) | refine blk_far ?_ NB343_380.out _ | exact BK343.out)) hb); replace BK344 := Aside0.mk (blk_below (g := gb344) (o := .cells #[.int .i64 10000, .int .i64 577, .int .i64 577, .int .i64 3000, .int .i64 3000, .int .i64 1, .bool false, .int .i64 50] 23 (0, 0)) (by repeat (first | (with_reducible first | exact BK344.out | refine blk_drewN ?_ _ | refine blk_drew ?_ | refine blk_alloc ?_ _) | refine blk_far ?_ NB344_380.out _ | exact BK344.out)) hb); replace BK356 := Aside0.mk (blk_below (g := gb356) (o := .cells #[.int .i64 1538, .int .i64 1] 27 (0, 0)) (by repeat (first | (with_reducible first | exact BK356.out | refine blk_drewN ?_ _ | refine blk_drew ?_ | refine blk_alloc ?_ _) | refine blk_far ?_ NB356_380.out _ | exact BK356.out)) hb); replace BK368 := Aside0.mk (blk_below (g := gb368) (o := .cells #[.int .i64 2500000, .int .i64 577] 27 (0, 0)) (by repeat (first | (with_reducible first | exact BK368.out | refine blk_drewN ?_ _ | refine blk_drew ?_ | refine blk_alloc ?_ _) | refine blk_far ?_ NB368_380.out _ | exact BK368.out)) hb); replace BK380 := Aside0.mk (blk_below (g := gb380) (o := .cells #[.int .i64 9807000, .int .i64 1] 27 (0, 0)) (by exact bto (bput (bput (BK380.out) _ _) _ _) rfl) hb); replace HB := Aside0.mk (below_step (by repeat (first | (with_reducible first | exact HB.out | apply below_alloc | apply pw_below_drewN | apply below_drew1 | refine below_set ?_ (Aside0.out (by assumption))) | exact HB.out)) hb); (try clear hb); (try clear hb2); (try clear hk); (try clear hi)) | ((with_reducible refine gate_callee (f := 23) rfl ?_); refine goesL_ (some 49) rfl rfl Try.func23 (by kernel_rfl) rfl #[.agg #[.int .i64 10000, .int .i64 577, .int .i64 577, .int .i64 3000, .int .i64 3000, .int .i64 1, .bool false, .int .i64 0], .int .i64 250000] rfl (by (try simp only [List.map_toArray, List.map_cons, List.map_nil]); first | done | rfl | (simp only [List.length_drop, List.length_take]; rfl)) ?_; (with_reducible refine (thread_Advance.calls k 10000 577 577 3000 3000 1 false 0 250000 2500 1 0 _ A11.out).mono ?_); rintro e w72 ⟨rfl, hb⟩; refine ⟨_, rfl, ?_⟩; replace BK326 := Aside0.mk (blk_below (g := gb326) (o := .cells #[.int .i64 10000, .int .i64 600, .int .i64 600, .int .i64 3000, .int .i64 3000, .int .i64 1, .bool false, .int .i64 0] 23 (0, 0)) (by repeat (first | (with_reducible first | exact BK326.out | refine blk_drewN ?_ _ | refine blk_drew ?_ | refine blk_alloc ?_ _) | exact BK326.out)) hb); replace BK343 := Aside0.mk (blk_below (g := gb343) (o := .cells #[.int .i64 10100, .int .i64 577, .int .i64 577, .int .i64 3000, .int .i64 3000, .int .i64 1, .bool false, .int .i64 0] 23 (0, 0)) (by repeat (first | (with_reducible first | exact BK343.out | refine blk_drewN ?_ _ | refine blk_drew ?_ | refine blk_alloc ?_ _) | exact BK343.out)) hb); replace BK344 := Aside0.mk (blk_below (g := gb344) (o := .cells #[.int .i64 10000, .int .i64 577, .int .i64 577, .int .i64 3000, .int .i64 3000, .int .i64 1, .bool false, .int .i64 50] 23 (0, 0)) (by repeat (first | (with_reducible first | exact BK344.out | refine blk_drewN ?_ _ | refine blk_drew ?_ | refine blk_alloc ?_ _) | exact BK344.out)) hb); replace BK356 := Aside0.mk (blk_below (g := gb356) (o := .cells #[.int .i64 1538, .int .i64 1] 27 (0, 0)) (by repeat (first | (with_reducible first | exact BK356.out | refine blk_drewN ?_ _ | refine blk_drew ?_ | refine blk_alloc ?_ _) | exact BK356.out)) hb); replace BK368 := Aside0.mk (blk_below (g := gb368) (o := .cells #[.int .i64 2500000, .int .i64 577] 27 (0, 0)) (by repeat (first | (with_reducible first | exact BK368.out | refine blk_drewN ?_ _ | refine blk_drew ?_ | refine blk_alloc ?_ _) | exact BK368.out)) hb); replace BK380 := Aside0.mk (blk_below (g := gb380) (o := .cells #[.int .i64 9807000, .int .i64 1] 27 (0, 0)) (by repeat (first | (with_reducible first | exact BK380.out | refine blk_drewN ?_ _ | refine blk_drew ?_ | refine blk_alloc ?_ _) | exact BK380.out)) hb); replace HB := Aside0.mk (below_step (by repeat (first | (with_reducible first | exact HB.out | apply below_alloc | apply pw_below_drewN | apply below_drew1 | refine below_set ?_ (Aside0.out (by assumption))) | exact HB.out)) hb); (try clear hb); (try clear hb2); (try clear hk); (try clear hi)) | ((with_reducible refine gate_dst (N := 10) rfl ?_); (try (refine gate_guard (by rfl) ?_; dsimp only)); refine box_event ?hg (N := 10) ?hd (cs := #[.int .i64 0, .int .i64 0]) (t := 27) ?hr ?_; (case hd => rfl); (case hg => rfl); (case hr => first | (go_simp; done) | (go_simp; rfl)); intro gb392 hg w73 hbox hb; have BK392 := Aside0.mk (hbox); have GW392 := Aside0.mk ((by rw [hg]; exact (below_size (by repeat (first | (with_reducible first | exact HB.out | apply below_alloc | apply pw_below_drewN | apply below_drew1 | refine below_set ?_ (Aside0.out (by assumption))) | exact HB.out))) : w.heap.size ≤ gb392)); have GE392 := GW392; replace HB := Aside0.mk (below_step (by repeat (first | (with_reducible first | exact HB.out | apply below_alloc | apply pw_below_drewN | apply below_drew1 | refine below_set ?_ (Aside0.out (by assumption))) | exact HB.out)) hb); have NB326_392 := Aside0.mk ((by rw [hg]; exact Nat.ne_of_lt (blk_lt BK326.out) : gb326 ≠ gb392)); have NB392_326 := Aside0.mk ((by rw [hg]; exact Nat.ne_of_gt (blk_lt BK326.out) : gb392 ≠ gb326)); replace BK326 := Aside0.mk (blk_below (g := gb326) (o := .cells #[.int .i64 10000, .int .i64 600, .int .i64 600, .int .i64 3000, .int .i64 3000, .int .i64 1, .bool false, .int .i64 0] 23 (0, 0)) (by repeat (first | (with_reducible first | exact BK326.out | refine blk_drewN ?_ _ | refine blk_drew ?_ | refine blk_alloc ?_ _) | exact BK326.out)) hb); have NB343_392 := Aside0.mk ((by rw [hg]; exact Nat.ne_of_lt (blk_lt BK343.out) : gb343 ≠ gb392)); have NB392_343 := Aside0.mk ((by rw [hg]; exact Nat.ne_of_gt (blk_lt BK343.out) : gb392 ≠ gb343)); replace BK343 := Aside0.mk (blk_below (g := gb343) (o := .cells #[.int .i64 10100, .int .i64 577, .int .i64 577, .int .i64 3000, .int .i64 3000, .int .i64 1, .bool false, .int .i64 0] 23 (0, 0)) (by repeat (first | (with_reducible first | exact BK343.out | refine blk_drewN ?_ _ | refine blk_drew ?_ | refine blk_alloc ?_ _) | exact BK343.out)) hb); have NB344_392 := Aside0.mk ((by rw [hg]; exact Nat.ne_of_lt (blk_lt BK344.out) : gb344 ≠ gb392)); have NB392_344 := Aside0.mk ((by rw [hg]; exact Nat.ne_of_gt (blk_lt BK344.out) : gb392 ≠ gb344)); replace BK344 := Aside0.mk (blk_below (g := gb344) (o := .cells #[.int .i64 10000, .int .i64 577, .int .i64 577, .int .i64 3000, .int .i64 3000, .int .i64 1, .bool false, .int .i64 50] 23 (0, 0)) (by repeat (first | (with_reducible first | exact BK344.out | refine blk_drewN ?_ _ | refine blk_drew ?_ | refine blk_alloc ?_ _) | exact BK344.out)) hb); have NB356_392 := Aside0.mk ((by rw [hg]; exact Nat.ne_of_lt (blk_lt BK356.out) : gb356 ≠ gb392)); have NB392_356 := Aside0.mk ((by rw [hg]; exact Nat.ne_of_gt (blk_lt BK356.out) : gb392 ≠ gb356)); replace BK356 := Aside0.mk (blk_below (g := gb356) (o := .cells #[.int .i64 1538, .int .i64 1] 27 (0, 0)) (by repeat (first | (with_reducible first | exact BK356.out | refine blk_drewN ?_ _ | refine blk_drew ?_ | refine blk_alloc ?_ _) | exact BK356.out)) hb); have NB368_392 := Aside0.mk ((by rw [hg]; exact Nat.ne_of_lt (blk_lt BK368.out) : gb368 ≠ gb392)); have NB392_368 := Aside0.mk ((by rw [hg]; exact Nat.ne_of_gt (blk_lt BK368.out) : gb392 ≠ gb368)); replace BK368 := Aside0.mk (blk_below (g := gb368) (o := .cells #[.int .i64 2500000, .int .i64 577] 27 (0, 0)) (by repeat (first | (with_reducible first | exact BK368.out | refine blk_drewN ?_ _ | refine blk_drew ?_ | refine blk_alloc ?_ _) | exact BK368.out)) hb); have NB380_392 := Aside0.mk ((by rw [hg]; exact Nat.ne_of_lt (blk_lt BK380.out) : gb380 ≠ gb392)); have NB392_380 := Aside0.mk ((by rw [hg]; exact Nat.ne_of_gt (blk_lt BK380.out) : gb392 ≠ gb380)); replace BK380 := Aside0.mk (blk_below (g := gb380) (o := .cells #[.int .i64 9807000, .int .i64 1] 27 (0, 0)) (by repeat (first | (with_reducible first | exact BK380.out | refine blk_drewN ?_ _ | refine blk_drew ?_ | refine blk_alloc ?_ _) | exact BK380.out)) hb); clear hb hbox hg; have hnb74 := NB392_326.out; have hnc74 := NB326_392.out; have hnb75 := NB392_343.out; have hnc75 := NB343_392.out; have hnb76 := NB392_344.out; have hnc76 := NB344_392.out; have hnb77 := NB392_356.out; have hnc77 := NB356_392.out; have hnb78 := NB392_368.out; have hnc78 := NB368_392.out; have hnb79 := NB392_380.out; have hnc79 := NB380_392.out; obtain ⟨hcz80_0, hcz80_1⟩ := bc2 BK392.out; obtain ⟨hfz80_0, hfz80_1⟩ := bf2 BK392.out; obtain ⟨hcz81_0, hcz81_1, hcz81_2, hcz81_3, hcz81_4, hcz81_5, hcz81_6, hcz81_7⟩ := bc8 BK344.out; obtain ⟨hfz81_0, hfz81_1, hfz81_2, hfz81_3, hfz81_4, hfz81_5, hfz81_6, hfz81_7⟩ := bf8 BK344.out) | ((with_reducible refine gate_callee (f := 25) rfl ?_); refine goesL_ (some 54) rfl rfl Try.func25 (by kernel_rfl) rfl #[.agg #[.int .i64 10000, .int .i64 577, .int .i64 577, .int .i64 3000, .int .i64 3000, .int .i64 1, .bool false, .int .i64 50], .int .i64 100000, .int .i64 10000] rfl (by (try simp only [List.map_toArray, List.map_cons, List.map_nil]); first | done | rfl | (simp only [List.length_drop, List.length_take]; rfl)) ?_; (with_reducible refine (thread_Diameter.calls k 10000 577 577 3000 3000 1 false 50 100000 10000 101000 1 0 _ A12.out).mono ?_); rintro e w82 ⟨rfl, hb⟩; refine ⟨_, rfl, ?_⟩; replace BK326 := Aside0.mk (blk_below (g := gb326) (o := .cells #[.int .i64 10000, .int .i64 600, .int .i64 600, .int .i64 3000, .int .i64 3000, .int .i64 1, .bool false, .int .i64 0] 23 (0, 0)) (by repeat (first | (with_reducible first | exact BK326.out | refine blk_drewN ?_ _ | refine blk_drew ?_ | refine blk_alloc ?_ _) | refine blk_far ?_ NB326_392.out _ | exact BK326.out)) hb); replace BK343 := Aside0.mk (blk_below (g := gb343) (o := .cells #[.int .i64 10100, .int .i64 577, .int .i64 577, .int .i64 3000, .int .i64 3000, .int .i64 1, .bool false, .int .i64 0] 23 (0, 0)) (by repeat (first | (with_reducible first | exact BK343.out | refine blk_drewN ?_ _ | refine blk_drew ?_ | refine blk_alloc ?_ _) | refine blk_far ?_ NB343_392.out _ | exact BK343.out)) hb); replace BK344 := Aside0.mk (blk_below (g := gb344) (o := .cells #[.int .i64 10000, .int .i64 577, .int .i64 577, .int .i64 3000, .int .i64 3000, .int .i64 1, .bool false, .int .i64 50] 23 (0, 0)) (by repeat (first | (with_reducible first | exact BK344.out | refine blk_drewN ?_ _ | refine blk_drew ?_ | refine blk_alloc ?_ _) | refine blk_far ?_ NB344_392.out _ | exact BK344.out)) hb); replace BK356 := Aside0.mk (blk_below (g := gb356) (o := .cells #[.int .i64 1538, .int .i64 1] 27 (0, 0)) (by repeat (first | (with_reducible first | exact BK356.out | refine blk_drewN ?_ _ | refine blk_drew ?_ | refine blk_alloc ?_ _) | refine blk_far ?_ NB356_392.out _ | exact BK356.out)) hb); replace BK368 := Aside0.mk (blk_below (g := gb368) (o := .cells #[.int .i64 2500000, .int .i64 577] 27 (0, 0)) (by repeat (first | (with_reducible first | exact BK368.out | refine blk_drewN ?_ _ | refine blk_drew ?_ | refine blk_alloc ?_ _) | refine blk_far ?_ NB368_392.out _ | exact BK368.out)) hb); replace BK380 := Aside0.mk (blk_below (g := gb380) (o := .cells #[.int .i64 9807000, .int .i64 1] 27 (0, 0)) (by repeat (first | (with_reducible first | exact BK380.out | refine blk_drewN ?_ _ | refine blk_drew ?_ | refine blk_alloc ?_ _) | refine blk_far ?_ NB380_392.out _ | exact BK380.out)) hb); replace BK392 := Aside0.mk (blk_below (g := gb392) (o := .cells #[.int .i64 2500, .int .i64 1] 27 (0, 0)) (by exact bto (bput (bput (BK392.out) _ _) _ _) rfl) hb); replace HB := Aside0.mk (below_step (by repeat (first | (with_reducible first | exact HB.out | apply below_alloc | apply pw_below_drewN | apply below_drew1 | refine below_set ?_ (Aside0.out (by assumption))) | exact HB.out)) hb); (try clear hb); (try clear hb2); (try clear hk); (try clear hi)) | ((with_reducible refine gate_dst (N := 12) rfl ?_); (try (refine gate_guard (by rfl) ?_; dsimp only)); refine box_event ?hg (N := 12) ?hd (cs := #[.int .i64 0, .int .i64 0]) (t := 27) ?hr ?_; (case hd => rfl); (case hg => rfl); (case hr => first | (go_simp; done) | (go_simp; rfl)); intro gb396 hg w83 hbox hb; have BK396 := Aside0.mk (hbox); have GW396 := Aside0.mk ((by rw [hg]; exact (below_size (by repeat (first | (with_reducible first | exact HB.out | apply below_alloc | apply pw_below_drewN | apply below_drew1 | refine below_set ?_ (Aside0.out (by assumption))) | exact HB.out))) : w.heap.size ≤ gb396)); have GE396 := GW396; replace HB := Aside0.mk (below_step (by repeat (first | (with_reducible first | exact HB.out | apply below_alloc | apply pw_below_drewN | apply below_drew1 | refine below_set ?_ (Aside0.out (by assumption))) | exact HB.out)) hb); have NB326_396 := Aside0.mk ((by rw [hg]; exact Nat.ne_of_lt (blk_lt BK326.out) : gb326 ≠ gb396)); have NB396_326 := Aside0.mk ((by rw [hg]; exact Nat.ne_of_gt (blk_lt BK326.out) : gb396 ≠ gb326)); replace BK326 := Aside0.mk (blk_below (g := gb326) (o := .cells #[.int .i64 10000, .int .i64 600, .int .i64 600, .int .i64 3000, .int .i64 3000, .int .i64 1, .bool false, .int .i64 0] 23 (0, 0)) (by repeat (first | (with_reducible first | exact BK326.out | refine blk_drewN ?_ _ | refine blk_drew ?_ | refine blk_alloc ?_ _) | exact BK326.out)) hb); have NB343_396 := Aside0.mk ((by rw [hg]; exact Nat.ne_of_lt (blk_lt BK343.out) : gb343 ≠ gb396)); have NB396_343 := Aside0.mk ((by rw [hg]; exact Nat.ne_of_gt (blk_lt BK343.out) : gb396 ≠ gb343)); replace BK343 := Aside0.mk (blk_below (g := gb343) (o := .cells #[.int .i64 10100, .int .i64 577, .int .i64 577, .int .i64 3000, .int .i64 3000, .int .i64 1, .bool false, .int .i64 0] 23 (0, 0)) (by repeat (first | (with_reducible first | exact BK343.out | refine blk_drewN ?_ _ | refine blk_drew ?_ | refine blk_alloc ?_ _) | exact BK343.out)) hb); have NB344_396 := Aside0.mk ((by rw [hg]; exact Nat.ne_of_lt (blk_lt BK344.out) : gb344 ≠ gb396)); have NB396_344 := Aside0.mk ((by rw [hg]; exact Nat.ne_of_gt (blk_lt BK344.out) : gb396 ≠ gb344)); replace BK344 := Aside0.mk (blk_below (g := gb344) (o := .cells #[.int .i64 10000, .int .i64 577, .int .i64 577, .int .i64 3000, .int .i64 3000, .int .i64 1, .bool false, .int .i64 50] 23 (0, 0)) (by repeat (first | (with_reducible first | exact BK344.out | refine blk_drewN ?_ _ | refine blk_drew ?_ | refine blk_alloc ?_ _) | exact BK344.out)) hb); have NB356_396 := Aside0.mk ((by rw [hg]; exact Nat.ne_of_lt (blk_lt BK356.out) : gb356 ≠ gb396)); have NB396_356 := Aside0.mk ((by rw [hg]; exact Nat.ne_of_gt (blk_lt BK356.out) : gb396 ≠ gb356)); replace BK356 := Aside0.mk (blk_below (g := gb356) (o := .cells #[.int .i64 1538, .int .i64 1] 27 (0, 0)) (by repeat (first | (with_reducible first | exact BK356.out | refine blk_drewN ?_ _ | refine blk_drew ?_ | refine blk_alloc ?_ _) | exact BK356.out)) hb); have NB368_396 := Aside0.mk ((by rw [hg]; exact Nat.ne_of_lt (blk_lt BK368.out) : gb368 ≠ gb396)); have NB396_368 := Aside0.mk ((by rw [hg]; exact Nat.ne_of_gt (blk_lt BK368.out) : gb396 ≠ gb368)); replace BK368 := Aside0.mk (blk_below (g := gb368) (o := .cells #[.int .i64 2500000, .int .i64 577] 27 (0, 0)) (by repeat (first | (with_reducible first | exact BK368.out | refine blk_drewN ?_ _ | refine blk_drew ?_ | refine blk_alloc ?_ _) | exact BK368.out)) hb); have NB380_396 := Aside0.mk ((by rw [hg]; exact Nat.ne_of_lt (blk_lt BK380.out) : gb380 ≠ gb396)); have NB396_380 := Aside0.mk ((by rw [hg]; exact Nat.ne_of_gt (blk_lt BK380.out) : gb396 ≠ gb380)); replace BK380 := Aside0.mk (blk_below (g := gb380) (o := .cells #[.int .i64 9807000, .int .i64 1] 27 (0, 0)) (by repeat (first | (with_reducible first | exact BK380.out | refine blk_drewN ?_ _ | refine blk_drew ?_ | refine blk_alloc ?_ _) | exact BK380.out)) hb); have NB392_396 := Aside0.mk ((by rw [hg]; exact Nat.ne_of_lt (blk_lt BK392.out) : gb392 ≠ gb396)); have NB396_392 := Aside0.mk ((by rw [hg]; exact Nat.ne_of_gt (blk_lt BK392.out) : gb396 ≠ gb392)); replace BK392 := Aside0.mk (blk_below (g := gb392) (o := .cells #[.int .i64 2500, .int .i64 1] 27 (0, 0)) (by repeat (first | (with_reducible first | exact BK392.out | refine blk_drewN ?_ _ | refine blk_drew ?_ | refine blk_alloc ?_ _) | exact BK392.out)) hb); clear hb hbox hg; have hnb84 := NB396_326.out; have hnc84 := NB326_396.out; have hnb85 := NB396_343.out; have hnc85 := NB343_396.out; have hnb86 := NB396_344.out; have hnc86 := NB344_396.out; have hnb87 := NB396_356.out; have hnc87 := NB356_396.out; have hnb88 := NB396_368.out; have hnc88 := NB368_396.out; have hnb89 := NB396_380.out; have hnc89 := NB380_396.out; have hnb90 := NB396_392.out; have hnc90 := NB392_396.out; obtain ⟨hcz91_0, hcz91_1⟩ := bc2 BK396.out; obtain ⟨hfz91_0, hfz91_1⟩ := bf2 BK396.out; obtain ⟨hcz92_0, hcz92_1, hcz92_2, hcz92_3, hcz92_4, hcz92_5, hcz92_6, hcz92_7⟩ := bc8 BK344.out; obtain ⟨hfz92_0, hfz92_1, hfz92_2, hfz92_3, hfz92_4, hfz92_5, hfz92_6, hfz92_7⟩ := bf8 BK344.out) | ((with_reducible refine gate_callee (f := 26) rfl ?_); refine goesL_ (some 59) rfl rfl Try.func26 (by kernel_rfl) rfl #[.agg #[.int .i64 10000, .int .i64 577, .int .i64 577, .int .i64 3000, .int .i64 3000, .int .i64 1, .bool false, .int .i64 50], .int .i64 100000, .int .i64 100500] rfl (by (try simp only [List.map_toArray, List.map_cons, List.map_nil]); first | done | rfl | (simp only [List.length_drop, List.length_take]; rfl)) ?_; (with_reducible refine (thread_Meets.calls k 10000 577 577 3000 3000 1 false 50 100000 100500 1 2 0 _ A13.out).mono ?_); rintro e w93 ⟨rfl, hb⟩; refine ⟨_, rfl, ?_⟩; replace BK326 := Aside0.mk (blk_below (g := gb326) (o := .cells #[.int .i64 10000, .int .i64 600, .int .i64 600, .int .i64 3000, .int .i64 3000, .int .i64 1, .bool false, .int .i64 0] 23 (0, 0)) (by repeat (first | (with_reducible first | exact BK326.out | refine blk_drewN ?_ _ | refine blk_drew ?_ | refine blk_alloc ?_ _) | refine blk_far ?_ NB326_396.out _ | exact BK326.out)) hb); replace BK343 := Aside0.mk (blk_below (g := gb343) (o := .cells #[.int .i64 10100, .int .i64 577, .int .i64 577, .int .i64 3000, .int .i64 3000, .int .i64 1, .bool false, .int .i64 0] 23 (0, 0)) (by repeat (first | (with_reducible first | exact BK343.out | refine blk_drewN ?_ _ | refine blk_drew ?_ | refine blk_alloc ?_ _) | refine blk_far ?_ NB343_396.out _ | exact BK343.out)) hb); replace BK344 := Aside0.mk (blk_below (g := gb344) (o := .cells #[.int .i64 10000, .int .i64 577, .int .i64 577, .int .i64 3000, .int .i64 3000, .int .i64 1, .bool false, .int .i64 50] 23 (0, 0)) (by repeat (first | (with_reducible first | exact BK344.out | refine blk_drewN ?_ _ | refine blk_drew ?_ | refine blk_alloc ?_ _) | refine blk_far ?_ NB344_396.out _ | exact BK344.out)) hb); replace BK356 := Aside0.mk (blk_below (g := gb356) (o := .cells #[.int .i64 1538, .int .i64 1] 27 (0, 0)) (by repeat (first | (with_reducible first | exact BK356.out | refine blk_drewN ?_ _ | refine blk_drew ?_ | refine blk_alloc ?_ _) | refine blk_far ?_ NB356_396.out _ | exact BK356.out)) hb); replace BK368 := Aside0.mk (blk_below (g := gb368) (o := .cells #[.int .i64 2500000, .int .i64 577] 27 (0, 0)) (by repeat (first | (with_reducible first | exact BK368.out | refine blk_drewN ?_ _ | refine blk_drew ?_ | refine blk_alloc ?_ _) | refine blk_far ?_ NB368_396.out _ | exact BK368.out)) hb); replace BK380 := Aside0.mk (blk_below (g := gb380) (o := .cells #[.int .i64 9807000, .int .i64 1] 27 (0, 0)) (by repeat (first | (with_reducible first | exact BK380.out | refine blk_drewN ?_ _ | refine blk_drew ?_ | refine blk_alloc ?_ _) | refine blk_far ?_ NB380_396.out _ | exact BK380.out)) hb); replace BK392 := Aside0.mk (blk_below (g := gb392) (o := .cells #[.int .i64 2500, .int .i64 1] 27 (0, 0)) (by repeat (first | (with_reducible first | exact BK392.out | refine blk_drewN ?_ _ | refine blk_drew ?_ | refine blk_alloc ?_ _) | refine blk_far ?_ NB392_396.out _ | exact BK392.out)) hb); replace BK396 := Aside0.mk (blk_below (g := gb396) (o := .cells #[.int .i64 101000, .int .i64 1] 27 (0, 0)) (by exact bto (bput (bput (BK396.out) _ _) _ _) rfl) hb); replace HB := Aside0.mk (below_step (by repeat (first | (with_reducible first | exact HB.out | apply below_alloc | apply pw_below_drewN | apply below_drew1 | refine below_set ?_ (Aside0.out (by assumption))) | exact HB.out)) hb); (try clear hb); (try clear hb2); (try clear hk); (try clear hi)) | ((with_reducible refine gate_dst (N := 14) rfl ?_); (try (refine gate_guard (by rfl) ?_; dsimp only)); refine box_event ?hg (N := 14) ?hd (cs := #[.int .i64 0, .int .i64 0]) (t := 27) ?hr ?_; (case hd => rfl); (case hg => rfl); (case hr => first | (go_simp; done) | (go_simp; rfl)); intro gb400 hg w94 hbox hb; have BK400 := Aside0.mk (hbox); have GW400 := Aside0.mk ((by rw [hg]; exact (below_size (by repeat (first | (with_reducible first | exact HB.out | apply below_alloc | apply pw_below_drewN | apply below_drew1 | refine below_set ?_ (Aside0.out (by assumption))) | exact HB.out))) : w.heap.size ≤ gb400)); have GE400 := GW400; replace HB := Aside0.mk (below_step (by repeat (first | (with_reducible first | exact HB.out | apply below_alloc | apply pw_below_drewN | apply below_drew1 | refine below_set ?_ (Aside0.out (by assumption))) | exact HB.out)) hb); have NB326_400 := Aside0.mk ((by rw [hg]; exact Nat.ne_of_lt (blk_lt BK326.out) : gb326 ≠ gb400)); have NB400_326 := Aside0.mk ((by rw [hg]; exact Nat.ne_of_gt (blk_lt BK326.out) : gb400 ≠ gb326)); replace BK326 := Aside0.mk (blk_below (g := gb326) (o := .cells #[.int .i64 10000, .int .i64 600, .int .i64 600, .int .i64 3000, .int .i64 3000, .int .i64 1, .bool false, .int .i64 0] 23 (0, 0)) (by repeat (first | (with_reducible first | exact BK326.out | refine blk_drewN ?_ _ | refine blk_drew ?_ | refine blk_alloc ?_ _) | exact BK326.out)) hb); have NB343_400 := Aside0.mk ((by rw [hg]; exact Nat.ne_of_lt (blk_lt BK343.out) : gb343 ≠ gb400)); have NB400_343 := Aside0.mk ((by rw [hg]; exact Nat.ne_of_gt (blk_lt BK343.out) : gb400 ≠ gb343)); replace BK343 := Aside0.mk (blk_below (g := gb343) (o := .cells #[.int .i64 10100, .int .i64 577, .int .i64 577, .int .i64 3000, .int .i64 3000, .int .i64 1, .bool false, .int .i64 0] 23 (0, 0)) (by repeat (first | (with_reducible first | exact BK343.out | refine blk_drewN ?_ _ | refine blk_drew ?_ | refine blk_alloc ?_ _) | exact BK343.out)) hb); have NB344_400 := Aside0.mk ((by rw [hg]; exact Nat.ne_of_lt (blk_lt BK344.out) : gb344 ≠ gb400)); have NB400_344 := Aside0.mk ((by rw [hg]; exact Nat.ne_of_gt (blk_lt BK344.out) : gb400 ≠ gb344)); replace BK344 := Aside0.mk (blk_below (g := gb344) (o := .cells #[.int .i64 10000, .int .i64 577, .int .i64 577, .int .i64 3000, .int .i64 3000, .int .i64 1, .bool false, .int .i64 50] 23 (0, 0)) (by repeat (first | (with_reducible first | exact BK344.out | refine blk_drewN ?_ _ | refine blk_drew ?_ | refine blk_alloc ?_ _) | exact BK344.out)) hb); have NB356_400 := Aside0.mk ((by rw [hg]; exact Nat.ne_of_lt (blk_lt BK356.out) : gb356 ≠ gb400)); have NB400_356 := Aside0.mk ((by rw [hg]; exact Nat.ne_of_gt (blk_lt BK356.out) : gb400 ≠ gb356)); replace BK356 := Aside0.mk (blk_below (g := gb356) (o := .cells #[.int .i64 1538, .int .i64 1] 27 (0, 0)) (by repeat (first | (with_reducible first | exact BK356.out | refine blk_drewN ?_ _ | refine blk_drew ?_ | refine blk_alloc ?_ _) | exact BK356.out)) hb); have NB368_400 := Aside0.mk ((by rw [hg]; exact Nat.ne_of_lt (blk_lt BK368.out) : gb368 ≠ gb400)); have NB400_368 := Aside0.mk ((by rw [hg]; exact Nat.ne_of_gt (blk_lt BK368.out) : gb400 ≠ gb368)); replace BK368 := Aside0.mk (blk_below (g := gb368) (o := .cells #[.int .i64 2500000, .int .i64 577] 27 (0, 0)) (by repeat (first | (with_reducible first | exact BK368.out | refine blk_drewN ?_ _ | refine blk_drew ?_ | refine blk_alloc ?_ _) | exact BK368.out)) hb); have NB380_400 := Aside0.mk ((by rw [hg]; exact Nat.ne_of_lt (blk_lt BK380.out) : gb380 ≠ gb400)); have NB400_380 := Aside0.mk ((by rw [hg]; exact Nat.ne_of_gt (blk_lt BK380.out) : gb400 ≠ gb380)); replace BK380 := Aside0.mk (blk_below (g := gb380) (o := .cells #[.int .i64 9807000, .int .i64 1] 27 (0, 0)) (by repeat (first | (with_reducible first | exact BK380.out | refine blk_drewN ?_ _ | refine blk_drew ?_ | refine blk_alloc ?_ _) | exact BK380.out)) hb); have NB392_400 := Aside0.mk ((by rw [hg]; exact Nat.ne_of_lt (blk_lt BK392.out) : gb392 ≠ gb400)); have NB400_392 := Aside0.mk ((by rw [hg]; exact Nat.ne_of_gt (blk_lt BK392.out) : gb400 ≠ gb392)); replace BK392 := Aside0.mk (blk_below (g := gb392) (o := .cells #[.int .i64 2500, .int .i64 1] 27 (0, 0)) (by repeat (first | (with_reducible first | exact BK392.out | refine blk_drewN ?_ _ | refine blk_drew ?_ | refine blk_alloc ?_ _) | exact BK392.out)) hb); have NB396_400 := Aside0.mk ((by rw [hg]; exact Nat.ne_of_lt (blk_lt BK396.out) : gb396 ≠ gb400)); have NB400_396 := Aside0.mk ((by rw [hg]; exact Nat.ne_of_gt (blk_lt BK396.out) : gb400 ≠ gb396)); replace BK396 := Aside0.mk (blk_below (g := gb396) (o := .cells #[.int .i64 101000, .int .i64 1] 27 (0, 0)) (by repeat (first | (with_reducible first | exact BK396.out | refine blk_drewN ?_ _ | refine blk_drew ?_ | refine blk_alloc ?_ _) | exact BK396.out)) hb); clear hb hbox hg; have hnb95 := NB400_326.out; have hnc95 := NB326_400.out; have hnb96 := NB400_343.out; have hnc96 := NB343_400.out; have hnb97 := NB400_344.out; have hnc97 := NB344_400.out; have hnb98 := NB400_356.out; have hnc98 := NB356_400.out; have hnb99 := NB400_368.out; have hnc99 := NB368_400.out; have hnb100 := NB400_380.out; have hnc100 := NB380_400.out; have hnb101 := NB400_392.out; have hnc101 := NB392_400.out; have hnb102 := NB400_396.out; have hnc102 := NB396_400.out; obtain ⟨hcz103_0, hcz103_1⟩ := bc2 BK400.out; obtain ⟨hfz103_0, hfz103_1⟩ := bf2 BK400.out))
             have n0_ : Aside0 (((w94.setCell ⟨gb400, 0, none⟩ (.int .i64 1)).setCell ⟨gb400, 1, none⟩ (.int .i64 2)).heap[gb326]? = some (.cells #[.int .i64 10000, .int .i64 600, .int .i64 600, .int .i64 3000, .int .i64 3000, .int .i64 1, .bool false, .int .i64 0] 23 (0, 0))) := ⟨by repeat (first | (with_reducible first | exact BK326.out | refine blk_drewN ?_ _ | refine blk_drew ?_ | refine blk_alloc ?_ _) | refine blk_far ?_ NB326_400.out _ | exact BK326.out)⟩
             have n1_ : Aside0 (((w94.setCell ⟨gb400, 0, none⟩ (.int .i64 1)).setCell ⟨gb400, 1, none⟩ (.int .i64 2)).heap[gb343]? = some (.cells #[.int .i64 10100, .int .i64 577, .int .i64 577, .int .i64 3000, .int .i64 3000, .int .i64 1, .bool false, .int .i64 0] 23 (0, 0))) := ⟨by repeat (first | (with_reducible first | exact BK343.out | refine blk_drewN ?_ _ | refine blk_drew ?_ | refine blk_alloc ?_ _) | refine blk_far ?_ NB343_400.out _ | exact BK343.out)⟩
             have n2_ : Aside0 (((w94.setCell ⟨gb400, 0, none⟩ (.int .i64 1)).setCell ⟨gb400, 1, none⟩ (.int .i64 2)).heap[gb344]? = some (.cells #[.int .i64 10000, .int .i64 577, .int .i64 577, .int .i64 3000, .int .i64 3000, .int .i64 1, .bool false, .int .i64 50] 23 (0, 0))) := ⟨by repeat (first | (with_reducible first | exact BK344.out | refine blk_drewN ?_ _ | refine blk_drew ?_ | refine blk_alloc ?_ _) | refine blk_far ?_ NB344_400.out _ | exact BK344.out)⟩
             have n3_ : Aside0 (((w94.setCell ⟨gb400, 0, none⟩ (.int .i64 1)).setCell ⟨gb400, 1, none⟩ (.int .i64 2)).heap[gb356]? = some (.cells #[.int .i64 1538, .int .i64 1] 27 (0, 0))) := ⟨by repeat (first | (with_reducible first | exact BK356.out | refine blk_drewN ?_ _ | refine blk_drew ?_ | refine blk_alloc ?_ _) | refine blk_far ?_ NB356_400.out _ | exact BK356.out)⟩
             have n4_ : Aside0 (((w94.setCell ⟨gb400, 0, none⟩ (.int .i64 1)).setCell ⟨gb400, 1, none⟩ (.int .i64 2)).heap[gb368]? = some (.cells #[.int .i64 2500000, .int .i64 577] 27 (0, 0))) := ⟨by repeat (first | (with_reducible first | exact BK368.out | refine blk_drewN ?_ _ | refine blk_drew ?_ | refine blk_alloc ?_ _) | refine blk_far ?_ NB368_400.out _ | exact BK368.out)⟩
             have n5_ : Aside0 (((w94.setCell ⟨gb400, 0, none⟩ (.int .i64 1)).setCell ⟨gb400, 1, none⟩ (.int .i64 2)).heap[gb380]? = some (.cells #[.int .i64 9807000, .int .i64 1] 27 (0, 0))) := ⟨by repeat (first | (with_reducible first | exact BK380.out | refine blk_drewN ?_ _ | refine blk_drew ?_ | refine blk_alloc ?_ _) | refine blk_far ?_ NB380_400.out _ | exact BK380.out)⟩
             have n6_ : Aside0 (((w94.setCell ⟨gb400, 0, none⟩ (.int .i64 1)).setCell ⟨gb400, 1, none⟩ (.int .i64 2)).heap[gb392]? = some (.cells #[.int .i64 2500, .int .i64 1] 27 (0, 0))) := ⟨by repeat (first | (with_reducible first | exact BK392.out | refine blk_drewN ?_ _ | refine blk_drew ?_ | refine blk_alloc ?_ _) | refine blk_far ?_ NB392_400.out _ | exact BK392.out)⟩
             have n7_ : Aside0 (((w94.setCell ⟨gb400, 0, none⟩ (.int .i64 1)).setCell ⟨gb400, 1, none⟩ (.int .i64 2)).heap[gb396]? = some (.cells #[.int .i64 101000, .int .i64 1] 27 (0, 0))) := ⟨by repeat (first | (with_reducible first | exact BK396.out | refine blk_drewN ?_ _ | refine blk_drew ?_ | refine blk_alloc ?_ _) | refine blk_far ?_ NB396_400.out _ | exact BK396.out)⟩
             have n8_ : Aside0 (((w94.setCell ⟨gb400, 0, none⟩ (.int .i64 1)).setCell ⟨gb400, 1, none⟩ (.int .i64 2)).heap[gb400]? = some (.cells #[.int .i64 1, .int .i64 2] 27 (0, 0))) := ⟨by exact bto (bput (bput (BK400.out) _ _) _ _) rfl⟩
             have n9_ : Aside0 (Below w.heap.size w ((w94.setCell ⟨gb400, 0, none⟩ (.int .i64 1)).setCell ⟨gb400, 1, none⟩ (.int .i64 2))) := ⟨by repeat (first | (with_reducible first | exact HB.out | apply below_alloc | apply pw_below_drewN | apply below_drew1 | refine below_set ?_ (Aside0.out (by assumption))) | exact HB.out)⟩
             (try clear BK326)
             (try clear BK343)
             (try clear BK344)
             (try clear BK356)
             (try clear BK368)
             (try clear BK380)
             (try clear BK392)
             (try clear BK396)
             (try clear BK400)
             (try clear HB)
             generalize ((w94.setCell ⟨gb400, 0, none⟩ (.int .i64 1)).setCell ⟨gb400, 1, none⟩ (.int .i64 2)) = w104 at n0_ n1_ n2_ n3_ n4_ n5_ n6_ n7_ n8_ n9_ ⊢
             have BK326 := n0_
             have BK343 := n1_
             have BK344 := n2_
             have BK356 := n3_
             have BK368 := n4_
             have BK380 := n5_
             have BK392 := n6_
             have BK396 := n7_
             have BK400 := n8_
             have HB := n9_
             clear n0_ n1_ n2_ n3_ n4_ n5_ n6_ n7_ n8_ n9_
             have n0_ := Aside0.mk (blk_drew BK326.out)
             have n1_ := Aside0.mk (blk_drew BK343.out)
             have n2_ := Aside0.mk (blk_drew BK344.out)
             have n3_ := Aside0.mk (blk_drew BK356.out)
             have n4_ := Aside0.mk (blk_drew BK368.out)
             have n5_ := Aside0.mk (blk_drew BK380.out)
             have n6_ := Aside0.mk (blk_drew BK392.out)
             have n7_ := Aside0.mk (blk_drew BK396.out)
             have n8_ := Aside0.mk (blk_drew BK400.out)
             have n9_ := Aside0.mk (below_drew1 HB.out)
             clear BK326
             clear BK343
             clear BK344
             clear BK356
             clear BK368
             clear BK380
             clear BK392
             clear BK396
             clear BK400
             clear HB
             have BK326 := n0_
             have BK343 := n1_
             have BK344 := n2_
             have BK356 := n3_
             have BK368 := n4_
             have BK380 := n5_
             have BK392 := n6_
             have BK396 := n7_
             have BK400 := n8_
             have HB := n9_
             clear n0_ n1_ n2_ n3_ n4_ n5_ n6_ n7_ n8_ n9_
             refine start_ (n := 9) (S := fun w' => w'.cell? ⟨gb326, 0, none⟩ = some (.int .i64 10000) ∧ w'.cell? ⟨gb326, 1, none⟩ = some (.int .i64 600) ∧ w'.cell? ⟨gb326, 2, none⟩ = some (.int .i64 600) ∧ w'.cell? ⟨gb326, 3, none⟩ = some (.int .i64 3000) ∧ w'.cell? ⟨gb326, 4, none⟩ = some (.int .i64 3000) ∧ w'.cell? ⟨gb326, 5, none⟩ = some (.int .i64 1) ∧ w'.cell? ⟨gb326, 6, none⟩ = some (.bool false) ∧ w'.cell? ⟨gb326, 7, none⟩ = some (.int .i64 0)) (ds := []) #[false, false, false, false, false, false, false, false, false] (by kernel_rfl) rfl rfl ⟨(blk_cell BK326.out 0).trans rfl, (blk_cell BK326.out 1).trans rfl, (blk_cell BK326.out 2).trans rfl, (blk_cell BK326.out 3).trans rfl, (blk_cell BK326.out 4).trans rfl, (blk_cell BK326.out 5).trans rfl, (blk_cell BK326.out 6).trans rfl, (blk_cell BK326.out 7).trans rfl⟩ (fun hHeld => ?_); refine with_tabW acmelaw01_known.tab11 acmelaw01_known.bits11 (fun HT_ HW_ => ?_)
             generalize w104.drew = w105 at BK326 BK343 BK344 BK356 BK368 BK380 BK392 BK396 BK400 HB hHeld ⊢
             refine pure_ (i := 2) (N := some 65) (v := ?_) (a' := ?_) #[false, false, true, false, false, false, false, false, false] rfl rfl (any_of HT_.out (by kernel_rfl)) (fun _ _ _ h => h) (Or.inl ⟨by rfl, ?_⟩) ?_ ?_
             rotate_left
             ·intro w'
              go_simp
              with_reducible rfl
             rotate_left
             ·simp only [Act.put, List.setIfInBounds_toArray, List.set_cons_zero, List.set_cons_succ, i64_w, i32_w]
              rfl
             refine take_ (i := 1) (N := some 64) (v := ?_) (a' := ?_) #[false, true, true, false, false, false, false, false, false] rfl rfl (take_ofW HT_.out HW_.out (by kernel_rfl)) (fun _ _ _ h => h) (Or.inl ⟨by rfl, ?_⟩) hHeld ?_ ?_
             rotate_left
             ·rintro w' ⟨s0, s1, s2, s3, s4, s5, s6, s7⟩
              go_simp
              with_reducible rfl
             rotate_left
             ·simp only [Act.put, List.setIfInBounds_toArray, List.set_cons_zero, List.set_cons_succ, i64_w, i32_w]
              rfl
             refine one_ (i := 0) (N := some 63) #[true, true, true, false, false, false, false, false, false] rfl rfl (one_of HT_.out (by kernel_rfl)) (by decide) (fun K hK => ?_)
             refine goes_ Try.func49 (by kernel_rfl) rfl #[] (by rfl) rfl rfl (by (try simp only [List.map_toArray, List.map_cons, List.map_nil]); first | done | rfl | (simp only [List.length_drop, List.length_take]; rfl)) ?_
             with_reducible refine (acmelaw01_metric.calls  10000 577 577 3000 3000 1 false 0 _ A14.out).mono ?_
             rintro e w106 ⟨rfl, hb⟩
             refine ⟨_, rfl, ?_⟩
             have n0_ := Aside0.mk (blk_below (g := gb326) (o := .cells #[.int .i64 10000, .int .i64 600, .int .i64 600, .int .i64 3000, .int .i64 3000, .int .i64 1, .bool false, .int .i64 0] 23 (0, 0)) (by repeat (first | (with_reducible first | exact BK326.out | refine blk_drewN ?_ _ | refine blk_drew ?_ | refine blk_alloc ?_ _) | exact BK326.out)) hb)
             have n1_ := Aside0.mk (blk_below (g := gb343) (o := .cells #[.int .i64 10100, .int .i64 577, .int .i64 577, .int .i64 3000, .int .i64 3000, .int .i64 1, .bool false, .int .i64 0] 23 (0, 0)) (by repeat (first | (with_reducible first | exact BK343.out | refine blk_drewN ?_ _ | refine blk_drew ?_ | refine blk_alloc ?_ _) | exact BK343.out)) hb)
             have n2_ := Aside0.mk (blk_below (g := gb344) (o := .cells #[.int .i64 10000, .int .i64 577, .int .i64 577, .int .i64 3000, .int .i64 3000, .int .i64 1, .bool false, .int .i64 50] 23 (0, 0)) (by repeat (first | (with_reducible first | exact BK344.out | refine blk_drewN ?_ _ | refine blk_drew ?_ | refine blk_alloc ?_ _) | exact BK344.out)) hb)
             have n3_ := Aside0.mk (blk_below (g := gb356) (o := .cells #[.int .i64 1538, .int .i64 1] 27 (0, 0)) (by repeat (first | (with_reducible first | exact BK356.out | refine blk_drewN ?_ _ | refine blk_drew ?_ | refine blk_alloc ?_ _) | exact BK356.out)) hb)
             have n4_ := Aside0.mk (blk_below (g := gb368) (o := .cells #[.int .i64 2500000, .int .i64 577] 27 (0, 0)) (by repeat (first | (with_reducible first | exact BK368.out | refine blk_drewN ?_ _ | refine blk_drew ?_ | refine blk_alloc ?_ _) | exact BK368.out)) hb)
             have n5_ := Aside0.mk (blk_below (g := gb380) (o := .cells #[.int .i64 9807000, .int .i64 1] 27 (0, 0)) (by repeat (first | (with_reducible first | exact BK380.out | refine blk_drewN ?_ _ | refine blk_drew ?_ | refine blk_alloc ?_ _) | exact BK380.out)) hb)
             have n6_ := Aside0.mk (blk_below (g := gb392) (o := .cells #[.int .i64 2500, .int .i64 1] 27 (0, 0)) (by repeat (first | (with_reducible first | exact BK392.out | refine blk_drewN ?_ _ | refine blk_drew ?_ | refine blk_alloc ?_ _) | exact BK392.out)) hb)
             have n7_ := Aside0.mk (blk_below (g := gb396) (o := .cells #[.int .i64 101000, .int .i64 1] 27 (0, 0)) (by repeat (first | (with_reducible first | exact BK396.out | refine blk_drewN ?_ _ | refine blk_drew ?_ | refine blk_alloc ?_ _) | exact BK396.out)) hb)
             have n8_ := Aside0.mk (blk_below (g := gb400) (o := .cells #[.int .i64 1, .int .i64 2] 27 (0, 0)) (by repeat (first | (with_reducible first | exact BK400.out | refine blk_drewN ?_ _ | refine blk_drew ?_ | refine blk_alloc ?_ _) | exact BK400.out)) hb)
             have n9_ := Aside0.mk (below_step (by repeat (first | (with_reducible first | exact HB.out | apply below_alloc | apply pw_below_drewN | apply below_drew1 | refine below_set ?_ (Aside0.out (by assumption))) | exact HB.out)) hb)
             clear BK326
             clear BK343
             clear BK344
             clear BK356
             clear BK368
             clear BK380
             clear BK392
             clear BK396
             clear BK400
             clear HB
             have BK326 := n0_
             have BK343 := n1_
             have BK344 := n2_
             have BK356 := n3_
             have BK368 := n4_
             have BK380 := n5_
             have BK392 := n6_
             have BK396 := n7_
             have BK400 := n8_
             have HB := n9_
             clear n0_ n1_ n2_ n3_ n4_ n5_ n6_ n7_ n8_ n9_
             (try clear hb)
             (try clear hb2)
             (try clear hk)
             (try clear hi)
             refine hK.out _ _ ⟨(blk_cell BK326.out 0).trans rfl, (blk_cell BK326.out 1).trans rfl, (blk_cell BK326.out 2).trans rfl, (blk_cell BK326.out 3).trans rfl, (blk_cell BK326.out 4).trans rfl, (blk_cell BK326.out 5).trans rfl, (blk_cell BK326.out 6).trans rfl, (blk_cell BK326.out 7).trans rfl⟩ (fun hHeld => ?_)
             clear hK K
             refine norm_ (a' := ?_) ?_ ?_
             rotate_left
             ·show Act.put _ (some 63) _ = _
              simp only [Act.put, List.setIfInBounds_toArray, List.set_cons_zero, List.set_cons_succ, i64_w, i32_w]
              rfl
             refine one_ (i := 3) (N := some 66) #[true, true, true, true, false, false, false, false, false] rfl rfl (one_of HT_.out (by kernel_rfl)) (by decide) (fun K hK => ?_)
             refine goes_ Try.func27 (by kernel_rfl) rfl #[.agg #[.int .i64 10000, .int .i64 577, .int .i64 577, .int .i64 3000, .int .i64 3000, .int .i64 1, .bool false, .int .i64 0], .agg #[.int .i64 10000, .int .i64 600, .int .i64 600, .int .i64 3000, .int .i64 3000, .int .i64 1, .bool false, .int .i64 0], .agg #[.int .i64 (-3000), .int .i64 3000]] (by rfl) rfl rfl (by (try simp only [List.map_toArray, List.map_cons, List.map_nil]); first | done | rfl | (simp only [List.length_drop, List.length_take]; rfl)) ?_
             with_reducible refine (thread_Room.calls k 10000 577 577 3000 3000 1 false 0 10000 600 600 3000 3000 1 false 0 (-3000) 3000 120 0 _ A15.out).mono ?_
             rintro e w107 ⟨rfl, hb⟩
             refine ⟨_, rfl, ?_⟩
             have n0_ := Aside0.mk (blk_below (g := gb326) (o := .cells #[.int .i64 10000, .int .i64 600, .int .i64 600, .int .i64 3000, .int .i64 3000, .int .i64 1, .bool false, .int .i64 0] 23 (0, 0)) (by repeat (first | (with_reducible first | exact BK326.out | refine blk_drewN ?_ _ | refine blk_drew ?_ | refine blk_alloc ?_ _) | exact BK326.out)) hb)
             have n1_ := Aside0.mk (blk_below (g := gb343) (o := .cells #[.int .i64 10100, .int .i64 577, .int .i64 577, .int .i64 3000, .int .i64 3000, .int .i64 1, .bool false, .int .i64 0] 23 (0, 0)) (by repeat (first | (with_reducible first | exact BK343.out | refine blk_drewN ?_ _ | refine blk_drew ?_ | refine blk_alloc ?_ _) | exact BK343.out)) hb)
             have n2_ := Aside0.mk (blk_below (g := gb344) (o := .cells #[.int .i64 10000, .int .i64 577, .int .i64 577, .int .i64 3000, .int .i64 3000, .int .i64 1, .bool false, .int .i64 50] 23 (0, 0)) (by repeat (first | (with_reducible first | exact BK344.out | refine blk_drewN ?_ _ | refine blk_drew ?_ | refine blk_alloc ?_ _) | exact BK344.out)) hb)
             have n3_ := Aside0.mk (blk_below (g := gb356) (o := .cells #[.int .i64 1538, .int .i64 1] 27 (0, 0)) (by repeat (first | (with_reducible first | exact BK356.out | refine blk_drewN ?_ _ | refine blk_drew ?_ | refine blk_alloc ?_ _) | exact BK356.out)) hb)
             have n4_ := Aside0.mk (blk_below (g := gb368) (o := .cells #[.int .i64 2500000, .int .i64 577] 27 (0, 0)) (by repeat (first | (with_reducible first | exact BK368.out | refine blk_drewN ?_ _ | refine blk_drew ?_ | refine blk_alloc ?_ _) | exact BK368.out)) hb)
             have n5_ := Aside0.mk (blk_below (g := gb380) (o := .cells #[.int .i64 9807000, .int .i64 1] 27 (0, 0)) (by repeat (first | (with_reducible first | exact BK380.out | refine blk_drewN ?_ _ | refine blk_drew ?_ | refine blk_alloc ?_ _) | exact BK380.out)) hb)
             have n6_ := Aside0.mk (blk_below (g := gb392) (o := .cells #[.int .i64 2500, .int .i64 1] 27 (0, 0)) (by repeat (first | (with_reducible first | exact BK392.out | refine blk_drewN ?_ _ | refine blk_drew ?_ | refine blk_alloc ?_ _) | exact BK392.out)) hb)
             have n7_ := Aside0.mk (blk_below (g := gb396) (o := .cells #[.int .i64 101000, .int .i64 1] 27 (0, 0)) (by repeat (first | (with_reducible first | exact BK396.out | refine blk_drewN ?_ _ | refine blk_drew ?_ | refine blk_alloc ?_ _) | exact BK396.out)) hb)
             have n8_ := Aside0.mk (blk_below (g := gb400) (o := .cells #[.int .i64 1, .int .i64 2] 27 (0, 0)) (by repeat (first | (with_reducible first | exact BK400.out | refine blk_drewN ?_ _ | refine blk_drew ?_ | refine blk_alloc ?_ _) | exact BK400.out)) hb)
             have n9_ := Aside0.mk (below_step (by repeat (first | (with_reducible first | exact HB.out | apply below_alloc | apply pw_below_drewN | apply below_drew1 | refine below_set ?_ (Aside0.out (by assumption))) | exact HB.out)) hb)
             clear BK326
             clear BK343
             clear BK344
             clear BK356
             clear BK368
             clear BK380
             clear BK392
             clear BK396
             clear BK400
             clear HB
             have BK326 := n0_
             have BK343 := n1_
             have BK344 := n2_
             have BK356 := n3_
             have BK368 := n4_
             have BK380 := n5_
             have BK392 := n6_
             have BK396 := n7_
             have BK400 := n8_
             have HB := n9_
             clear n0_ n1_ n2_ n3_ n4_ n5_ n6_ n7_ n8_ n9_
             (try clear hb)
             (try clear hb2)
             (try clear hk)
             (try clear hi)
             refine hK.out _ _ ⟨(blk_cell BK326.out 0).trans rfl, (blk_cell BK326.out 1).trans rfl, (blk_cell BK326.out 2).trans rfl, (blk_cell BK326.out 3).trans rfl, (blk_cell BK326.out 4).trans rfl, (blk_cell BK326.out 5).trans rfl, (blk_cell BK326.out 6).trans rfl, (blk_cell BK326.out 7).trans rfl⟩ (fun hHeld => ?_)
             clear hK K
             refine norm_ (a' := ?_) ?_ ?_
             rotate_left
             ·show Act.put _ (some 66) _ = _
              simp only [Act.put, List.setIfInBounds_toArray, List.set_cons_zero, List.set_cons_succ, i64_w, i32_w]
              rfl
             refine pure_ (i := 4) (N := some 62) (v := ?_) (a' := ?_) #[true, true, true, true, true, false, false, false, false] rfl rfl (any_of HT_.out (by kernel_rfl)) (fun _ _ _ h => h) (Or.inl ⟨by rfl, ?_⟩) ?_ ?_
             rotate_left
             ·intro w'
              go_simp
              with_reducible rfl
             rotate_left
             ·simp only [Act.put, List.setIfInBounds_toArray, List.set_cons_zero, List.set_cons_succ, i64_w, i32_w]
              rfl
             refine pure_ (i := 5) (N := some 67) (v := ?_) (a' := ?_) #[true, true, true, true, true, true, false, false, false] rfl rfl (any_of HT_.out (by kernel_rfl)) (fun _ _ _ h => h) (Or.inl ⟨by rfl, ?_⟩) ?_ ?_
             rotate_left
             ·intro w'
              go_simp
              with_reducible rfl
             rotate_left
             ·simp only [Act.put, List.setIfInBounds_toArray, List.set_cons_zero, List.set_cons_succ, i64_w, i32_w]
              rfl
             refine pure_ (i := 6) (N := some 68) (v := ?_) (a' := ?_) #[true, true, true, true, true, true, true, false, false] rfl rfl (any_of HT_.out (by kernel_rfl)) (fun _ _ _ h => h) (Or.inl ⟨by rfl, ?_⟩) ?_ ?_
             rotate_left
             ·intro w'
              go_simp
              with_reducible rfl
             rotate_left
             ·simp only [Act.put, List.setIfInBounds_toArray, List.set_cons_zero, List.set_cons_succ, i64_w, i32_w]
              rfl
             refine pure_ (i := 7) (N := some 16) (v := ?_) (a' := ?_) #[true, true, true, true, true, true, true, true, false] rfl rfl (any_of HT_.out (by kernel_rfl)) (fun _ _ _ h => h) (Or.inl ⟨by rfl, ?_⟩) ?_ ?_
             rotate_left
             ·intro w'
              go_simp
              with_reducible rfl
             rotate_left
             ·simp only [Act.put, List.setIfInBounds_toArray, List.set_cons_zero, List.set_cons_succ, i64_w, i32_w]
              rfl
             refine pure_ (i := 8) (N := some 17) (v := ?_) (a' := ?_) #[true, true, true, true, true, true, true, true, true] rfl rfl (any_of HT_.out (by kernel_rfl)) (fun _ _ _ h => h) (Or.inl ⟨by rfl, ?_⟩) ?_ ?_
             rotate_left
             ·intro w'
              go_simp
              with_reducible rfl
             rotate_left
             ·simp only [Act.put, List.setIfInBounds_toArray, List.set_cons_zero, List.set_cons_succ, i64_w, i32_w]
              rfl
             refine done_ (done_of HT_.out (by kernel_rfl)) ?_
             try go_wp2_with (first | ((with_reducible refine gate_callee (f := 49) rfl ?_); refine goesL_ (some 70) rfl rfl Try.func49 (by kernel_rfl) rfl #[] rfl (by (try simp only [List.map_toArray, List.map_cons, List.map_nil]); first | done | rfl | (simp only [List.length_drop, List.length_take]; rfl)) ?_; (with_reducible refine (acmelaw01_metric.calls  10000 577 577 3000 3000 1 false 0 _ A16.out).mono ?_); rintro e w108 ⟨rfl, hb⟩; refine ⟨_, rfl, ?_⟩; replace BK326 := Aside0.mk (blk_below (g := gb326) (o := .cells #[.int .i64 10000, .int .i64 600, .int .i64 600, .int .i64 3000, .int .i64 3000, .int .i64 1, .bool false, .int .i64 0] 23 (0, 0)) (by repeat (first | (with_reducible first | exact BK326.out | refine blk_drewN ?_ _ | refine blk_drew ?_ | refine blk_alloc ?_ _) | exact BK326.out)) hb); replace BK343 := Aside0.mk (blk_below (g := gb343) (o := .cells #[.int .i64 10100, .int .i64 577, .int .i64 577, .int .i64 3000, .int .i64 3000, .int .i64 1, .bool false, .int .i64 0] 23 (0, 0)) (by repeat (first | (with_reducible first | exact BK343.out | refine blk_drewN ?_ _ | refine blk_drew ?_ | refine blk_alloc ?_ _) | exact BK343.out)) hb); replace BK344 := Aside0.mk (blk_below (g := gb344) (o := .cells #[.int .i64 10000, .int .i64 577, .int .i64 577, .int .i64 3000, .int .i64 3000, .int .i64 1, .bool false, .int .i64 50] 23 (0, 0)) (by repeat (first | (with_reducible first | exact BK344.out | refine blk_drewN ?_ _ | refine blk_drew ?_ | refine blk_alloc ?_ _) | exact BK344.out)) hb); replace BK356 := Aside0.mk (blk_below (g := gb356) (o := .cells #[.int .i64 1538, .int .i64 1] 27 (0, 0)) (by repeat (first | (with_reducible first | exact BK356.out | refine blk_drewN ?_ _ | refine blk_drew ?_ | refine blk_alloc ?_ _) | exact BK356.out)) hb); replace BK368 := Aside0.mk (blk_below (g := gb368) (o := .cells #[.int .i64 2500000, .int .i64 577] 27 (0, 0)) (by repeat (first | (with_reducible first | exact BK368.out | refine blk_drewN ?_ _ | refine blk_drew ?_ | refine blk_alloc ?_ _) | exact BK368.out)) hb); replace BK380 := Aside0.mk (blk_below (g := gb380) (o := .cells #[.int .i64 9807000, .int .i64 1] 27 (0, 0)) (by repeat (first | (with_reducible first | exact BK380.out | refine blk_drewN ?_ _ | refine blk_drew ?_ | refine blk_alloc ?_ _) | exact BK380.out)) hb); replace BK392 := Aside0.mk (blk_below (g := gb392) (o := .cells #[.int .i64 2500, .int .i64 1] 27 (0, 0)) (by repeat (first | (with_reducible first | exact BK392.out | refine blk_drewN ?_ _ | refine blk_drew ?_ | refine blk_alloc ?_ _) | exact BK392.out)) hb); replace BK396 := Aside0.mk (blk_below (g := gb396) (o := .cells #[.int .i64 101000, .int .i64 1] 27 (0, 0)) (by repeat (first | (with_reducible first | exact BK396.out | refine blk_drewN ?_ _ | refine blk_drew ?_ | refine blk_alloc ?_ _) | exact BK396.out)) hb); replace BK400 := Aside0.mk (blk_below (g := gb400) (o := .cells #[.int .i64 1, .int .i64 2] 27 (0, 0)) (by repeat (first | (with_reducible first | exact BK400.out | refine blk_drewN ?_ _ | refine blk_drew ?_ | refine blk_alloc ?_ _) | exact BK400.out)) hb); replace HB := Aside0.mk (below_step (by repeat (first | (with_reducible first | exact HB.out | apply below_alloc | apply pw_below_drewN | apply below_drew1 | refine below_set ?_ (Aside0.out (by assumption))) | exact HB.out)) hb); (try clear hb); (try clear hb2); (try clear hk); (try clear hi)) | ((with_reducible refine gate_callee (f := 24) rfl ?_); refine goesL_ (some 71) rfl rfl Try.func24 (by kernel_rfl) rfl #[.agg #[.int .i64 10000, .int .i64 577, .int .i64 577, .int .i64 3000, .int .i64 3000, .int .i64 1, .bool false, .int .i64 0]] rfl (by (try simp only [List.map_toArray, List.map_cons, List.map_nil]); first | done | rfl | (simp only [List.length_drop, List.length_take]; rfl)) ?_; (with_reducible refine (thread_PerInch.calls k 10000 577 577 3000 3000 1 false 0 127 5 0 _ A17.out).mono ?_); rintro e w109 ⟨rfl, hb⟩; refine ⟨_, rfl, ?_⟩; replace BK326 := Aside0.mk (blk_below (g := gb326) (o := .cells #[.int .i64 10000, .int .i64 600, .int .i64 600, .int .i64 3000, .int .i64 3000, .int .i64 1, .bool false, .int .i64 0] 23 (0, 0)) (by repeat (first | (with_reducible first | exact BK326.out | refine blk_drewN ?_ _ | refine blk_drew ?_ | refine blk_alloc ?_ _) | exact BK326.out)) hb); replace BK343 := Aside0.mk (blk_below (g := gb343) (o := .cells #[.int .i64 10100, .int .i64 577, .int .i64 577, .int .i64 3000, .int .i64 3000, .int .i64 1, .bool false, .int .i64 0] 23 (0, 0)) (by repeat (first | (with_reducible first | exact BK343.out | refine blk_drewN ?_ _ | refine blk_drew ?_ | refine blk_alloc ?_ _) | exact BK343.out)) hb); replace BK344 := Aside0.mk (blk_below (g := gb344) (o := .cells #[.int .i64 10000, .int .i64 577, .int .i64 577, .int .i64 3000, .int .i64 3000, .int .i64 1, .bool false, .int .i64 50] 23 (0, 0)) (by repeat (first | (with_reducible first | exact BK344.out | refine blk_drewN ?_ _ | refine blk_drew ?_ | refine blk_alloc ?_ _) | exact BK344.out)) hb); replace BK356 := Aside0.mk (blk_below (g := gb356) (o := .cells #[.int .i64 1538, .int .i64 1] 27 (0, 0)) (by repeat (first | (with_reducible first | exact BK356.out | refine blk_drewN ?_ _ | refine blk_drew ?_ | refine blk_alloc ?_ _) | exact BK356.out)) hb); replace BK368 := Aside0.mk (blk_below (g := gb368) (o := .cells #[.int .i64 2500000, .int .i64 577] 27 (0, 0)) (by repeat (first | (with_reducible first | exact BK368.out | refine blk_drewN ?_ _ | refine blk_drew ?_ | refine blk_alloc ?_ _) | exact BK368.out)) hb); replace BK380 := Aside0.mk (blk_below (g := gb380) (o := .cells #[.int .i64 9807000, .int .i64 1] 27 (0, 0)) (by repeat (first | (with_reducible first | exact BK380.out | refine blk_drewN ?_ _ | refine blk_drew ?_ | refine blk_alloc ?_ _) | exact BK380.out)) hb); replace BK392 := Aside0.mk (blk_below (g := gb392) (o := .cells #[.int .i64 2500, .int .i64 1] 27 (0, 0)) (by repeat (first | (with_reducible first | exact BK392.out | refine blk_drewN ?_ _ | refine blk_drew ?_ | refine blk_alloc ?_ _) | exact BK392.out)) hb); replace BK396 := Aside0.mk (blk_below (g := gb396) (o := .cells #[.int .i64 101000, .int .i64 1] 27 (0, 0)) (by repeat (first | (with_reducible first | exact BK396.out | refine blk_drewN ?_ _ | refine blk_drew ?_ | refine blk_alloc ?_ _) | exact BK396.out)) hb); replace BK400 := Aside0.mk (blk_below (g := gb400) (o := .cells #[.int .i64 1, .int .i64 2] 27 (0, 0)) (by repeat (first | (with_reducible first | exact BK400.out | refine blk_drewN ?_ _ | refine blk_drew ?_ | refine blk_alloc ?_ _) | exact BK400.out)) hb); replace HB := Aside0.mk (below_step (by repeat (first | (with_reducible first | exact HB.out | apply below_alloc | apply pw_below_drewN | apply below_drew1 | refine below_set ?_ (Aside0.out (by assumption))) | exact HB.out)) hb); (try clear hb); (try clear hb2); (try clear hk); (try clear hi)) | ((with_reducible refine gate_dst (N := 18) rfl ?_); (try (refine gate_guard (by rfl) ?_; dsimp only)); refine box_event ?hg (N := 18) ?hd (cs := #[.int .i64 0, .int .i64 0]) (t := 27) ?hr ?_; (case hd => rfl); (case hg => rfl); (case hr => first | (go_simp; done) | (go_simp; rfl)); intro gb422 hg w110 hbox hb; have BK422 := Aside0.mk (hbox); have GW422 := Aside0.mk ((by rw [hg]; exact (below_size (by repeat (first | (with_reducible first | exact HB.out | apply below_alloc | apply pw_below_drewN | apply below_drew1 | refine below_set ?_ (Aside0.out (by assumption))) | exact HB.out))) : w.heap.size ≤ gb422)); have GE422 := GW422; replace HB := Aside0.mk (below_step (by repeat (first | (with_reducible first | exact HB.out | apply below_alloc | apply pw_below_drewN | apply below_drew1 | refine below_set ?_ (Aside0.out (by assumption))) | exact HB.out)) hb); have NB326_422 := Aside0.mk ((by rw [hg]; exact Nat.ne_of_lt (blk_lt BK326.out) : gb326 ≠ gb422)); have NB422_326 := Aside0.mk ((by rw [hg]; exact Nat.ne_of_gt (blk_lt BK326.out) : gb422 ≠ gb326)); replace BK326 := Aside0.mk (blk_below (g := gb326) (o := .cells #[.int .i64 10000, .int .i64 600, .int .i64 600, .int .i64 3000, .int .i64 3000, .int .i64 1, .bool false, .int .i64 0] 23 (0, 0)) (by repeat (first | (with_reducible first | exact BK326.out | refine blk_drewN ?_ _ | refine blk_drew ?_ | refine blk_alloc ?_ _) | exact BK326.out)) hb); have NB343_422 := Aside0.mk ((by rw [hg]; exact Nat.ne_of_lt (blk_lt BK343.out) : gb343 ≠ gb422)); have NB422_343 := Aside0.mk ((by rw [hg]; exact Nat.ne_of_gt (blk_lt BK343.out) : gb422 ≠ gb343)); replace BK343 := Aside0.mk (blk_below (g := gb343) (o := .cells #[.int .i64 10100, .int .i64 577, .int .i64 577, .int .i64 3000, .int .i64 3000, .int .i64 1, .bool false, .int .i64 0] 23 (0, 0)) (by repeat (first | (with_reducible first | exact BK343.out | refine blk_drewN ?_ _ | refine blk_drew ?_ | refine blk_alloc ?_ _) | exact BK343.out)) hb); have NB344_422 := Aside0.mk ((by rw [hg]; exact Nat.ne_of_lt (blk_lt BK344.out) : gb344 ≠ gb422)); have NB422_344 := Aside0.mk ((by rw [hg]; exact Nat.ne_of_gt (blk_lt BK344.out) : gb422 ≠ gb344)); replace BK344 := Aside0.mk (blk_below (g := gb344) (o := .cells #[.int .i64 10000, .int .i64 577, .int .i64 577, .int .i64 3000, .int .i64 3000, .int .i64 1, .bool false, .int .i64 50] 23 (0, 0)) (by repeat (first | (with_reducible first | exact BK344.out | refine blk_drewN ?_ _ | refine blk_drew ?_ | refine blk_alloc ?_ _) | exact BK344.out)) hb); have NB356_422 := Aside0.mk ((by rw [hg]; exact Nat.ne_of_lt (blk_lt BK356.out) : gb356 ≠ gb422)); have NB422_356 := Aside0.mk ((by rw [hg]; exact Nat.ne_of_gt (blk_lt BK356.out) : gb422 ≠ gb356)); replace BK356 := Aside0.mk (blk_below (g := gb356) (o := .cells #[.int .i64 1538, .int .i64 1] 27 (0, 0)) (by repeat (first | (with_reducible first | exact BK356.out | refine blk_drewN ?_ _ | refine blk_drew ?_ | refine blk_alloc ?_ _) | exact BK356.out)) hb); have NB368_422 := Aside0.mk ((by rw [hg]; exact Nat.ne_of_lt (blk_lt BK368.out) : gb368 ≠ gb422)); have NB422_368 := Aside0.mk ((by rw [hg]; exact Nat.ne_of_gt (blk_lt BK368.out) : gb422 ≠ gb368)); replace BK368 := Aside0.mk (blk_below (g := gb368) (o := .cells #[.int .i64 2500000, .int .i64 577] 27 (0, 0)) (by repeat (first | (with_reducible first | exact BK368.out | refine blk_drewN ?_ _ | refine blk_drew ?_ | refine blk_alloc ?_ _) | exact BK368.out)) hb); have NB380_422 := Aside0.mk ((by rw [hg]; exact Nat.ne_of_lt (blk_lt BK380.out) : gb380 ≠ gb422)); have NB422_380 := Aside0.mk ((by rw [hg]; exact Nat.ne_of_gt (blk_lt BK380.out) : gb422 ≠ gb380)); replace BK380 := Aside0.mk (blk_below (g := gb380) (o := .cells #[.int .i64 9807000, .int .i64 1] 27 (0, 0)) (by repeat (first | (with_reducible first | exact BK380.out | refine blk_drewN ?_ _ | refine blk_drew ?_ | refine blk_alloc ?_ _) | exact BK380.out)) hb); have NB392_422 := Aside0.mk ((by rw [hg]; exact Nat.ne_of_lt (blk_lt BK392.out) : gb392 ≠ gb422)); have NB422_392 := Aside0.mk ((by rw [hg]; exact Nat.ne_of_gt (blk_lt BK392.out) : gb422 ≠ gb392)); replace BK392 := Aside0.mk (blk_below (g := gb392) (o := .cells #[.int .i64 2500, .int .i64 1] 27 (0, 0)) (by repeat (first | (with_reducible first | exact BK392.out | refine blk_drewN ?_ _ | refine blk_drew ?_ | refine blk_alloc ?_ _) | exact BK392.out)) hb); have NB396_422 := Aside0.mk ((by rw [hg]; exact Nat.ne_of_lt (blk_lt BK396.out) : gb396 ≠ gb422)); have NB422_396 := Aside0.mk ((by rw [hg]; exact Nat.ne_of_gt (blk_lt BK396.out) : gb422 ≠ gb396)); replace BK396 := Aside0.mk (blk_below (g := gb396) (o := .cells #[.int .i64 101000, .int .i64 1] 27 (0, 0)) (by repeat (first | (with_reducible first | exact BK396.out | refine blk_drewN ?_ _ | refine blk_drew ?_ | refine blk_alloc ?_ _) | exact BK396.out)) hb); have NB400_422 := Aside0.mk ((by rw [hg]; exact Nat.ne_of_lt (blk_lt BK400.out) : gb400 ≠ gb422)); have NB422_400 := Aside0.mk ((by rw [hg]; exact Nat.ne_of_gt (blk_lt BK400.out) : gb422 ≠ gb400)); replace BK400 := Aside0.mk (blk_below (g := gb400) (o := .cells #[.int .i64 1, .int .i64 2] 27 (0, 0)) (by repeat (first | (with_reducible first | exact BK400.out | refine blk_drewN ?_ _ | refine blk_drew ?_ | refine blk_alloc ?_ _) | exact BK400.out)) hb); clear hb hbox hg; have hnb111 := NB422_326.out; have hnc111 := NB326_422.out; have hnb112 := NB422_343.out; have hnc112 := NB343_422.out; have hnb113 := NB422_344.out; have hnc113 := NB344_422.out; have hnb114 := NB422_356.out; have hnc114 := NB356_422.out; have hnb115 := NB422_368.out; have hnc115 := NB368_422.out; have hnb116 := NB422_380.out; have hnc116 := NB380_422.out; have hnb117 := NB422_392.out; have hnc117 := NB392_422.out; have hnb118 := NB422_396.out; have hnc118 := NB396_422.out; have hnb119 := NB422_400.out; have hnc119 := NB400_422.out; obtain ⟨hcz120_0, hcz120_1⟩ := bc2 BK422.out; obtain ⟨hfz120_0, hfz120_1⟩ := bf2 BK422.out))
             have n0_ : Aside0 (((w110.setCell ⟨gb422, 0, none⟩ (.int .i64 127)).setCell ⟨gb422, 1, none⟩ (.int .i64 5)).heap[gb326]? = some (.cells #[.int .i64 10000, .int .i64 600, .int .i64 600, .int .i64 3000, .int .i64 3000, .int .i64 1, .bool false, .int .i64 0] 23 (0, 0))) := ⟨by repeat (first | (with_reducible first | exact BK326.out | refine blk_drewN ?_ _ | refine blk_drew ?_ | refine blk_alloc ?_ _) | refine blk_far ?_ NB326_422.out _ | exact BK326.out)⟩
             have n1_ : Aside0 (((w110.setCell ⟨gb422, 0, none⟩ (.int .i64 127)).setCell ⟨gb422, 1, none⟩ (.int .i64 5)).heap[gb343]? = some (.cells #[.int .i64 10100, .int .i64 577, .int .i64 577, .int .i64 3000, .int .i64 3000, .int .i64 1, .bool false, .int .i64 0] 23 (0, 0))) := ⟨by repeat (first | (with_reducible first | exact BK343.out | refine blk_drewN ?_ _ | refine blk_drew ?_ | refine blk_alloc ?_ _) | refine blk_far ?_ NB343_422.out _ | exact BK343.out)⟩
             have n2_ : Aside0 (((w110.setCell ⟨gb422, 0, none⟩ (.int .i64 127)).setCell ⟨gb422, 1, none⟩ (.int .i64 5)).heap[gb344]? = some (.cells #[.int .i64 10000, .int .i64 577, .int .i64 577, .int .i64 3000, .int .i64 3000, .int .i64 1, .bool false, .int .i64 50] 23 (0, 0))) := ⟨by repeat (first | (with_reducible first | exact BK344.out | refine blk_drewN ?_ _ | refine blk_drew ?_ | refine blk_alloc ?_ _) | refine blk_far ?_ NB344_422.out _ | exact BK344.out)⟩
             have n3_ : Aside0 (((w110.setCell ⟨gb422, 0, none⟩ (.int .i64 127)).setCell ⟨gb422, 1, none⟩ (.int .i64 5)).heap[gb356]? = some (.cells #[.int .i64 1538, .int .i64 1] 27 (0, 0))) := ⟨by repeat (first | (with_reducible first | exact BK356.out | refine blk_drewN ?_ _ | refine blk_drew ?_ | refine blk_alloc ?_ _) | refine blk_far ?_ NB356_422.out _ | exact BK356.out)⟩
             have n4_ : Aside0 (((w110.setCell ⟨gb422, 0, none⟩ (.int .i64 127)).setCell ⟨gb422, 1, none⟩ (.int .i64 5)).heap[gb368]? = some (.cells #[.int .i64 2500000, .int .i64 577] 27 (0, 0))) := ⟨by repeat (first | (with_reducible first | exact BK368.out | refine blk_drewN ?_ _ | refine blk_drew ?_ | refine blk_alloc ?_ _) | refine blk_far ?_ NB368_422.out _ | exact BK368.out)⟩
             have n5_ : Aside0 (((w110.setCell ⟨gb422, 0, none⟩ (.int .i64 127)).setCell ⟨gb422, 1, none⟩ (.int .i64 5)).heap[gb380]? = some (.cells #[.int .i64 9807000, .int .i64 1] 27 (0, 0))) := ⟨by repeat (first | (with_reducible first | exact BK380.out | refine blk_drewN ?_ _ | refine blk_drew ?_ | refine blk_alloc ?_ _) | refine blk_far ?_ NB380_422.out _ | exact BK380.out)⟩
             have n6_ : Aside0 (((w110.setCell ⟨gb422, 0, none⟩ (.int .i64 127)).setCell ⟨gb422, 1, none⟩ (.int .i64 5)).heap[gb392]? = some (.cells #[.int .i64 2500, .int .i64 1] 27 (0, 0))) := ⟨by repeat (first | (with_reducible first | exact BK392.out | refine blk_drewN ?_ _ | refine blk_drew ?_ | refine blk_alloc ?_ _) | refine blk_far ?_ NB392_422.out _ | exact BK392.out)⟩
             have n7_ : Aside0 (((w110.setCell ⟨gb422, 0, none⟩ (.int .i64 127)).setCell ⟨gb422, 1, none⟩ (.int .i64 5)).heap[gb396]? = some (.cells #[.int .i64 101000, .int .i64 1] 27 (0, 0))) := ⟨by repeat (first | (with_reducible first | exact BK396.out | refine blk_drewN ?_ _ | refine blk_drew ?_ | refine blk_alloc ?_ _) | refine blk_far ?_ NB396_422.out _ | exact BK396.out)⟩
             have n8_ : Aside0 (((w110.setCell ⟨gb422, 0, none⟩ (.int .i64 127)).setCell ⟨gb422, 1, none⟩ (.int .i64 5)).heap[gb400]? = some (.cells #[.int .i64 1, .int .i64 2] 27 (0, 0))) := ⟨by repeat (first | (with_reducible first | exact BK400.out | refine blk_drewN ?_ _ | refine blk_drew ?_ | refine blk_alloc ?_ _) | refine blk_far ?_ NB400_422.out _ | exact BK400.out)⟩
             have n9_ : Aside0 (((w110.setCell ⟨gb422, 0, none⟩ (.int .i64 127)).setCell ⟨gb422, 1, none⟩ (.int .i64 5)).heap[gb422]? = some (.cells #[.int .i64 127, .int .i64 5] 27 (0, 0))) := ⟨by exact bto (bput (bput (BK422.out) _ _) _ _) rfl⟩
             have n10_ : Aside0 (Below w.heap.size w ((w110.setCell ⟨gb422, 0, none⟩ (.int .i64 127)).setCell ⟨gb422, 1, none⟩ (.int .i64 5))) := ⟨by repeat (first | (with_reducible first | exact HB.out | apply below_alloc | apply pw_below_drewN | apply below_drew1 | refine below_set ?_ (Aside0.out (by assumption))) | exact HB.out)⟩
             (try clear BK326)
             (try clear BK343)
             (try clear BK344)
             (try clear BK356)
             (try clear BK368)
             (try clear BK380)
             (try clear BK392)
             (try clear BK396)
             (try clear BK400)
             (try clear BK422)
             (try clear HB)
             generalize ((w110.setCell ⟨gb422, 0, none⟩ (.int .i64 127)).setCell ⟨gb422, 1, none⟩ (.int .i64 5)) = w121 at n0_ n1_ n2_ n3_ n4_ n5_ n6_ n7_ n8_ n9_ n10_ ⊢
             have BK326 := n0_
             have BK343 := n1_
             have BK344 := n2_
             have BK356 := n3_
             have BK368 := n4_
             have BK380 := n5_
             have BK392 := n6_
             have BK396 := n7_
             have BK400 := n8_
             have BK422 := n9_
             have HB := n10_
             clear n0_ n1_ n2_ n3_ n4_ n5_ n6_ n7_ n8_ n9_ n10_
             have n0_ := Aside0.mk (blk_drew BK326.out)
             have n1_ := Aside0.mk (blk_drew BK343.out)
             have n2_ := Aside0.mk (blk_drew BK344.out)
             have n3_ := Aside0.mk (blk_drew BK356.out)
             have n4_ := Aside0.mk (blk_drew BK368.out)
             have n5_ := Aside0.mk (blk_drew BK380.out)
             have n6_ := Aside0.mk (blk_drew BK392.out)
             have n7_ := Aside0.mk (blk_drew BK396.out)
             have n8_ := Aside0.mk (blk_drew BK400.out)
             have n9_ := Aside0.mk (blk_drew BK422.out)
             have n10_ := Aside0.mk (below_drew1 HB.out)
             clear BK326
             clear BK343
             clear BK344
             clear BK356
             clear BK368
             clear BK380
             clear BK392
             clear BK396
             clear BK400
             clear BK422
             clear HB
             have BK326 := n0_
             have BK343 := n1_
             have BK344 := n2_
             have BK356 := n3_
             have BK368 := n4_
             have BK380 := n5_
             have BK392 := n6_
             have BK396 := n7_
             have BK400 := n8_
             have BK422 := n9_
             have HB := n10_
             clear n0_ n1_ n2_ n3_ n4_ n5_ n6_ n7_ n8_ n9_ n10_
             refine start_ (n := 11) (S := fun w' => w'.cell? ⟨gb343, 0, none⟩ = some (.int .i64 10100) ∧ w'.cell? ⟨gb343, 1, none⟩ = some (.int .i64 577) ∧ w'.cell? ⟨gb343, 2, none⟩ = some (.int .i64 577) ∧ w'.cell? ⟨gb343, 3, none⟩ = some (.int .i64 3000) ∧ w'.cell? ⟨gb343, 4, none⟩ = some (.int .i64 3000) ∧ w'.cell? ⟨gb343, 5, none⟩ = some (.int .i64 1) ∧ w'.cell? ⟨gb343, 6, none⟩ = some (.bool false) ∧ w'.cell? ⟨gb343, 7, none⟩ = some (.int .i64 0) ∧ w'.cell? ⟨gb326, 0, none⟩ = some (.int .i64 10000) ∧ w'.cell? ⟨gb326, 1, none⟩ = some (.int .i64 600) ∧ w'.cell? ⟨gb326, 2, none⟩ = some (.int .i64 600) ∧ w'.cell? ⟨gb326, 3, none⟩ = some (.int .i64 3000) ∧ w'.cell? ⟨gb326, 4, none⟩ = some (.int .i64 3000) ∧ w'.cell? ⟨gb326, 5, none⟩ = some (.int .i64 1) ∧ w'.cell? ⟨gb326, 6, none⟩ = some (.bool false) ∧ w'.cell? ⟨gb326, 7, none⟩ = some (.int .i64 0)) (ds := []) #[false, false, false, false, false, false, false, false, false, false, false] (by kernel_rfl) rfl rfl ⟨(blk_cell BK343.out 0).trans rfl, (blk_cell BK343.out 1).trans rfl, (blk_cell BK343.out 2).trans rfl, (blk_cell BK343.out 3).trans rfl, (blk_cell BK343.out 4).trans rfl, (blk_cell BK343.out 5).trans rfl, (blk_cell BK343.out 6).trans rfl, (blk_cell BK343.out 7).trans rfl, (blk_cell BK326.out 0).trans rfl, (blk_cell BK326.out 1).trans rfl, (blk_cell BK326.out 2).trans rfl, (blk_cell BK326.out 3).trans rfl, (blk_cell BK326.out 4).trans rfl, (blk_cell BK326.out 5).trans rfl, (blk_cell BK326.out 6).trans rfl, (blk_cell BK326.out 7).trans rfl⟩ (fun hHeld => ?_); refine with_tabW acmelaw01_known.tab13 acmelaw01_known.bits13 (fun HT_ HW_ => ?_)
             generalize w121.drew = w122 at BK326 BK343 BK344 BK356 BK368 BK380 BK392 BK396 BK400 BK422 HB hHeld ⊢
             refine pure_ (i := 4) (N := some 79) (v := ?_) (a' := ?_) #[false, false, false, false, true, false, false, false, false, false, false] rfl rfl (any_of HT_.out (by kernel_rfl)) (fun _ _ _ h => h) (Or.inl ⟨by rfl, ?_⟩) ?_ ?_
             rotate_left
             ·intro w'
              go_simp
              with_reducible rfl
             rotate_left
             ·simp only [Act.put, List.setIfInBounds_toArray, List.set_cons_zero, List.set_cons_succ, i64_w, i32_w]
              rfl
             refine take_ (i := 1) (N := some 76) (v := ?_) (a' := ?_) #[false, true, false, false, true, false, false, false, false, false, false] rfl rfl (take_ofW HT_.out HW_.out (by kernel_rfl)) (fun _ _ _ h => h) (Or.inl ⟨by rfl, ?_⟩) hHeld ?_ ?_
             rotate_left
             ·rintro w' ⟨s0, s1, s2, s3, s4, s5, s6, s7, s8, s9, s10, s11, s12, s13, s14, s15⟩
              go_simp
              with_reducible rfl
             rotate_left
             ·simp only [Act.put, List.setIfInBounds_toArray, List.set_cons_zero, List.set_cons_succ, i64_w, i32_w]
              rfl
             refine take_ (i := 2) (N := some 77) (v := ?_) (a' := ?_) #[false, true, true, false, true, false, false, false, false, false, false] rfl rfl (take_ofW HT_.out HW_.out (by kernel_rfl)) (fun _ _ _ h => h) (Or.inl ⟨by rfl, ?_⟩) hHeld ?_ ?_
             rotate_left
             ·rintro w' ⟨s0, s1, s2, s3, s4, s5, s6, s7, s8, s9, s10, s11, s12, s13, s14, s15⟩
              go_simp
              with_reducible rfl
             rotate_left
             ·simp only [Act.put, List.setIfInBounds_toArray, List.set_cons_zero, List.set_cons_succ, i64_w, i32_w]
              rfl
             refine one_ (i := 0) (N := some 75) #[true, true, true, false, true, false, false, false, false, false, false] rfl rfl (one_of HT_.out (by kernel_rfl)) (by decide) (fun K hK => ?_)
             refine goes_ Try.func49 (by kernel_rfl) rfl #[] (by rfl) rfl rfl (by (try simp only [List.map_toArray, List.map_cons, List.map_nil]); first | done | rfl | (simp only [List.length_drop, List.length_take]; rfl)) ?_
             with_reducible refine (acmelaw01_metric.calls  10000 577 577 3000 3000 1 false 0 _ A18.out).mono ?_
             rintro e w123 ⟨rfl, hb⟩
             refine ⟨_, rfl, ?_⟩
             have n0_ := Aside0.mk (blk_below (g := gb326) (o := .cells #[.int .i64 10000, .int .i64 600, .int .i64 600, .int .i64 3000, .int .i64 3000, .int .i64 1, .bool false, .int .i64 0] 23 (0, 0)) (by repeat (first | (with_reducible first | exact BK326.out | refine blk_drewN ?_ _ | refine blk_drew ?_ | refine blk_alloc ?_ _) | exact BK326.out)) hb)
             have n1_ := Aside0.mk (blk_below (g := gb343) (o := .cells #[.int .i64 10100, .int .i64 577, .int .i64 577, .int .i64 3000, .int .i64 3000, .int .i64 1, .bool false, .int .i64 0] 23 (0, 0)) (by repeat (first | (with_reducible first | exact BK343.out | refine blk_drewN ?_ _ | refine blk_drew ?_ | refine blk_alloc ?_ _) | exact BK343.out)) hb)
             have n2_ := Aside0.mk (blk_below (g := gb344) (o := .cells #[.int .i64 10000, .int .i64 577, .int .i64 577, .int .i64 3000, .int .i64 3000, .int .i64 1, .bool false, .int .i64 50] 23 (0, 0)) (by repeat (first | (with_reducible first | exact BK344.out | refine blk_drewN ?_ _ | refine blk_drew ?_ | refine blk_alloc ?_ _) | exact BK344.out)) hb)
             have n3_ := Aside0.mk (blk_below (g := gb356) (o := .cells #[.int .i64 1538, .int .i64 1] 27 (0, 0)) (by repeat (first | (with_reducible first | exact BK356.out | refine blk_drewN ?_ _ | refine blk_drew ?_ | refine blk_alloc ?_ _) | exact BK356.out)) hb)
             have n4_ := Aside0.mk (blk_below (g := gb368) (o := .cells #[.int .i64 2500000, .int .i64 577] 27 (0, 0)) (by repeat (first | (with_reducible first | exact BK368.out | refine blk_drewN ?_ _ | refine blk_drew ?_ | refine blk_alloc ?_ _) | exact BK368.out)) hb)
             have n5_ := Aside0.mk (blk_below (g := gb380) (o := .cells #[.int .i64 9807000, .int .i64 1] 27 (0, 0)) (by repeat (first | (with_reducible first | exact BK380.out | refine blk_drewN ?_ _ | refine blk_drew ?_ | refine blk_alloc ?_ _) | exact BK380.out)) hb)
             have n6_ := Aside0.mk (blk_below (g := gb392) (o := .cells #[.int .i64 2500, .int .i64 1] 27 (0, 0)) (by repeat (first | (with_reducible first | exact BK392.out | refine blk_drewN ?_ _ | refine blk_drew ?_ | refine blk_alloc ?_ _) | exact BK392.out)) hb)
             have n7_ := Aside0.mk (blk_below (g := gb396) (o := .cells #[.int .i64 101000, .int .i64 1] 27 (0, 0)) (by repeat (first | (with_reducible first | exact BK396.out | refine blk_drewN ?_ _ | refine blk_drew ?_ | refine blk_alloc ?_ _) | exact BK396.out)) hb)
             have n8_ := Aside0.mk (blk_below (g := gb400) (o := .cells #[.int .i64 1, .int .i64 2] 27 (0, 0)) (by repeat (first | (with_reducible first | exact BK400.out | refine blk_drewN ?_ _ | refine blk_drew ?_ | refine blk_alloc ?_ _) | exact BK400.out)) hb)
             have n9_ := Aside0.mk (blk_below (g := gb422) (o := .cells #[.int .i64 127, .int .i64 5] 27 (0, 0)) (by repeat (first | (with_reducible first | exact BK422.out | refine blk_drewN ?_ _ | refine blk_drew ?_ | refine blk_alloc ?_ _) | exact BK422.out)) hb)
             have n10_ := Aside0.mk (below_step (by repeat (first | (with_reducible first | exact HB.out | apply below_alloc | apply pw_below_drewN | apply below_drew1 | refine below_set ?_ (Aside0.out (by assumption))) | exact HB.out)) hb)
             clear BK326
             clear BK343
             clear BK344
             clear BK356
             clear BK368
             clear BK380
             clear BK392
             clear BK396
             clear BK400
             clear BK422
             clear HB
             have BK326 := n0_
             have BK343 := n1_
             have BK344 := n2_
             have BK356 := n3_
             have BK368 := n4_
             have BK380 := n5_
             have BK392 := n6_
             have BK396 := n7_
             have BK400 := n8_
             have BK422 := n9_
             have HB := n10_
             clear n0_ n1_ n2_ n3_ n4_ n5_ n6_ n7_ n8_ n9_ n10_
             (try clear hb)
             (try clear hb2)
             (try clear hk)
             (try clear hi)
             refine hK.out _ _ ⟨(blk_cell BK343.out 0).trans rfl, (blk_cell BK343.out 1).trans rfl, (blk_cell BK343.out 2).trans rfl, (blk_cell BK343.out 3).trans rfl, (blk_cell BK343.out 4).trans rfl, (blk_cell BK343.out 5).trans rfl, (blk_cell BK343.out 6).trans rfl, (blk_cell BK343.out 7).trans rfl, (blk_cell BK326.out 0).trans rfl, (blk_cell BK326.out 1).trans rfl, (blk_cell BK326.out 2).trans rfl, (blk_cell BK326.out 3).trans rfl, (blk_cell BK326.out 4).trans rfl, (blk_cell BK326.out 5).trans rfl, (blk_cell BK326.out 6).trans rfl, (blk_cell BK326.out 7).trans rfl⟩ (fun hHeld => ?_)
             clear hK K
             refine norm_ (a' := ?_) ?_ ?_
             rotate_left
             ·show Act.put _ (some 75) _ = _
              simp only [Act.put, List.setIfInBounds_toArray, List.set_cons_zero, List.set_cons_succ, i64_w, i32_w]
              rfl
             refine one_ (i := 3) (N := some 78) #[true, true, true, true, true, false, false, false, false, false, false] rfl rfl (one_of HT_.out (by kernel_rfl)) (by decide) (fun K hK => ?_)
             refine Kd.R_lit_step k23 _ 23 ?hg (N := 78) ?hd (xs := ([(⟨10000, 577, 577, 3000, 3000, 1, false, 0⟩ : S23), (⟨10100, 577, 577, 3000, 3000, 1, false, 0⟩ : S23), (⟨10000, 600, 600, 3000, 3000, 1, false, 0⟩ : S23)] : List (S23))) (inner := [.int .i64 10000, .int .i64 577, .int .i64 577, .int .i64 3000, .int .i64 3000, .int .i64 1, .bool false, .int .i64 0, .int .i64 10100, .int .i64 577, .int .i64 577, .int .i64 3000, .int .i64 3000, .int .i64 1, .bool false, .int .i64 0, .int .i64 10000, .int .i64 600, .int .i64 600, .int .i64 3000, .int .i64 3000, .int .i64 1, .bool false, .int .i64 0]) (ok := fun _ => True) (okp := fun _ => True) ?hr ?hp (fun _ hk => hk) trivial (Below.refl _ _) (Nat.le_refl _) (by simp) ?_; (case hd => rfl); (case hg => rfl); (case hr => first | (go_simp; done) | (go_simp; rfl)); (case hp => exact (Reps.c8 (show Kd.M k23 _ _ _ (⟨10000, 577, 577, 3000, 3000, 1, false, 0⟩ : S23) [.int .i64 10000, .int .i64 577, .int .i64 577, .int .i64 3000, .int .i64 3000, .int .i64 1, .bool false, .int .i64 0] from (k23_mkM _ _ _ (⟨10000, 577, 577, 3000, 3000, 1, false, 0⟩ : S23) )) (Reps.c8 (show Kd.M k23 _ _ _ (⟨10100, 577, 577, 3000, 3000, 1, false, 0⟩ : S23) [.int .i64 10100, .int .i64 577, .int .i64 577, .int .i64 3000, .int .i64 3000, .int .i64 1, .bool false, .int .i64 0] from (k23_mkM _ _ _ (⟨10100, 577, 577, 3000, 3000, 1, false, 0⟩ : S23) )) (Reps.c8 (show Kd.M k23 _ _ _ (⟨10000, 600, 600, 3000, 3000, 1, false, 0⟩ : S23) [.int .i64 10000, .int .i64 600, .int .i64 600, .int .i64 3000, .int .i64 3000, .int .i64 1, .bool false, .int .i64 0] from (k23_mkM _ _ _ (⟨10000, 600, 600, 3000, 3000, 1, false, 0⟩ : S23) )) (Reps.none _ _)))))
             intro v432 w124 ho125 hb hg_ hnew_
             clear hg_ hnew_
             (first | rw [← Ny431.out] at ho125 | (simp only [Int.reduceToNat] at ho125; rw [← Ny431.out] at ho125))
             have n0_ := Aside0.mk (Kd.R_lower (Kd.R_newB (Kd.R_newB (Kd.R_newB ho125 (g := gb326) (o := .cells #[.int .i64 10000, .int .i64 600, .int .i64 600, .int .i64 3000, .int .i64 3000, .int .i64 1, .bool false, .int .i64 0] 23 (0, 0)) (by repeat (first | (with_reducible first | exact BK326.out | refine blk_drewN ?_ _ | refine blk_drew ?_ | refine blk_alloc ?_ _) | exact BK326.out))) (g := gb343) (o := .cells #[.int .i64 10100, .int .i64 577, .int .i64 577, .int .i64 3000, .int .i64 3000, .int .i64 1, .bool false, .int .i64 0] 23 (0, 0)) (by repeat (first | (with_reducible first | exact BK343.out | refine blk_drewN ?_ _ | refine blk_drew ?_ | refine blk_alloc ?_ _) | exact BK343.out))) (g := gb344) (o := .cells #[.int .i64 10000, .int .i64 577, .int .i64 577, .int .i64 3000, .int .i64 3000, .int .i64 1, .bool false, .int .i64 50] 23 (0, 0)) (by repeat (first | (with_reducible first | exact BK344.out | refine blk_drewN ?_ _ | refine blk_drew ?_ | refine blk_alloc ?_ _) | exact BK344.out))) (below_size (by repeat (first | (with_reducible first | exact HB.out | apply below_alloc | apply pw_below_drewN | apply below_drew1 | refine below_set ?_ (Aside0.out (by assumption))) | exact HB.out))))
             have n1_ := Aside0.mk (blk_below (g := gb326) (o := .cells #[.int .i64 10000, .int .i64 600, .int .i64 600, .int .i64 3000, .int .i64 3000, .int .i64 1, .bool false, .int .i64 0] 23 (0, 0)) (by repeat (first | (with_reducible first | exact BK326.out | refine blk_drewN ?_ _ | refine blk_drew ?_ | refine blk_alloc ?_ _) | exact BK326.out)) hb)
             have n2_ := Aside0.mk (blk_below (g := gb343) (o := .cells #[.int .i64 10100, .int .i64 577, .int .i64 577, .int .i64 3000, .int .i64 3000, .int .i64 1, .bool false, .int .i64 0] 23 (0, 0)) (by repeat (first | (with_reducible first | exact BK343.out | refine blk_drewN ?_ _ | refine blk_drew ?_ | refine blk_alloc ?_ _) | exact BK343.out)) hb)
             have n3_ := Aside0.mk (blk_below (g := gb344) (o := .cells #[.int .i64 10000, .int .i64 577, .int .i64 577, .int .i64 3000, .int .i64 3000, .int .i64 1, .bool false, .int .i64 50] 23 (0, 0)) (by repeat (first | (with_reducible first | exact BK344.out | refine blk_drewN ?_ _ | refine blk_drew ?_ | refine blk_alloc ?_ _) | exact BK344.out)) hb)
             have n4_ := Aside0.mk (blk_below (g := gb356) (o := .cells #[.int .i64 1538, .int .i64 1] 27 (0, 0)) (by repeat (first | (with_reducible first | exact BK356.out | refine blk_drewN ?_ _ | refine blk_drew ?_ | refine blk_alloc ?_ _) | exact BK356.out)) hb)
             have n5_ := Aside0.mk (blk_below (g := gb368) (o := .cells #[.int .i64 2500000, .int .i64 577] 27 (0, 0)) (by repeat (first | (with_reducible first | exact BK368.out | refine blk_drewN ?_ _ | refine blk_drew ?_ | refine blk_alloc ?_ _) | exact BK368.out)) hb)
             have n6_ := Aside0.mk (blk_below (g := gb380) (o := .cells #[.int .i64 9807000, .int .i64 1] 27 (0, 0)) (by repeat (first | (with_reducible first | exact BK380.out | refine blk_drewN ?_ _ | refine blk_drew ?_ | refine blk_alloc ?_ _) | exact BK380.out)) hb)
             have n7_ := Aside0.mk (blk_below (g := gb392) (o := .cells #[.int .i64 2500, .int .i64 1] 27 (0, 0)) (by repeat (first | (with_reducible first | exact BK392.out | refine blk_drewN ?_ _ | refine blk_drew ?_ | refine blk_alloc ?_ _) | exact BK392.out)) hb)
             have n8_ := Aside0.mk (blk_below (g := gb396) (o := .cells #[.int .i64 101000, .int .i64 1] 27 (0, 0)) (by repeat (first | (with_reducible first | exact BK396.out | refine blk_drewN ?_ _ | refine blk_drew ?_ | refine blk_alloc ?_ _) | exact BK396.out)) hb)
             have n9_ := Aside0.mk (blk_below (g := gb400) (o := .cells #[.int .i64 1, .int .i64 2] 27 (0, 0)) (by repeat (first | (with_reducible first | exact BK400.out | refine blk_drewN ?_ _ | refine blk_drew ?_ | refine blk_alloc ?_ _) | exact BK400.out)) hb)
             have n10_ := Aside0.mk (blk_below (g := gb422) (o := .cells #[.int .i64 127, .int .i64 5] 27 (0, 0)) (by repeat (first | (with_reducible first | exact BK422.out | refine blk_drewN ?_ _ | refine blk_drew ?_ | refine blk_alloc ?_ _) | exact BK422.out)) hb)
             have n11_ := Aside0.mk (below_step (by repeat (first | (with_reducible first | exact HB.out | apply below_alloc | apply pw_below_drewN | apply below_drew1 | refine below_set ?_ (Aside0.out (by assumption))) | exact HB.out)) hb)
             clear BK326
             clear BK343
             clear BK344
             clear BK356
             clear BK368
             clear BK380
             clear BK392
             clear BK396
             clear BK400
             clear BK422
             clear HB
             have HO433 := n0_
             have BK326 := n1_
             have BK343 := n2_
             have BK344 := n3_
             have BK356 := n4_
             have BK368 := n5_
             have BK380 := n6_
             have BK392 := n7_
             have BK396 := n8_
             have BK400 := n9_
             have BK422 := n10_
             have HB := n11_
             clear n0_ n1_ n2_ n3_ n4_ n5_ n6_ n7_ n8_ n9_ n10_ n11_
             clear hb ho125
             obtain ⟨Ao126, co126, eo126⟩ := Kd.R_slice HO433.out
             (first | subst eo126 | (injection eo126 with f1_ f2_ f3_; have f4_ := f1_.symm; have f5_ := f3_.symm; clear f1_ f2_ f3_; subst f4_; subst f5_))
             refine hK.out _ _ ⟨(blk_cell BK343.out 0).trans rfl, (blk_cell BK343.out 1).trans rfl, (blk_cell BK343.out 2).trans rfl, (blk_cell BK343.out 3).trans rfl, (blk_cell BK343.out 4).trans rfl, (blk_cell BK343.out 5).trans rfl, (blk_cell BK343.out 6).trans rfl, (blk_cell BK343.out 7).trans rfl, (blk_cell BK326.out 0).trans rfl, (blk_cell BK326.out 1).trans rfl, (blk_cell BK326.out 2).trans rfl, (blk_cell BK326.out 3).trans rfl, (blk_cell BK326.out 4).trans rfl, (blk_cell BK326.out 5).trans rfl, (blk_cell BK326.out 6).trans rfl, (blk_cell BK326.out 7).trans rfl⟩ (fun hHeld => ?_)
             clear hK K
             refine norm_ (a' := ?_) ?_ ?_
             rotate_left
             ·show Act.put _ (some 78) _ = _
              simp only [Act.put, List.setIfInBounds_toArray, List.set_cons_zero, List.set_cons_succ, i64_w, i32_w]
              rfl
             refine one_ (i := 5) (N := some 80) #[true, true, true, true, true, true, false, false, false, false, false] rfl rfl (one_of HT_.out (by kernel_rfl)) (by decide) (fun K hK => ?_)
             refine goes_ Try.func31 (by kernel_rfl) rfl #[.slice Ao126 y431.length co126, .agg #[.int .i64 60, .int .i64 5, .int .i64 0]] (by rfl) rfl rfl (by (try simp only [List.map_toArray, List.map_cons, List.map_nil]); first | done | rfl | (simp only [List.length_drop, List.length_take]; rfl)) ?_
             with_reducible refine (thread_Alike.calls k _ _ y431 60 5 0 t434 0 _ ?side1 ?side2 A19.out).mono ?_
             (case side1 => repeat (first | exact (Kd.R_reads' HO433.out).2.2 | (with_reducible refine Kd.C_alloc ?_ _) | (with_reducible refine Kd.C_drewN ?_ _) | (with_reducible refine Kd.C_drew ?_)))
             (case side2 => exact (Kd.R_reads' HO433.out).2.1)
             rintro e w127 ⟨v435, rfl, ho0, hb⟩
             refine ⟨_, rfl, ?_⟩
             have n0_ := Aside0.mk (Kd.R_below (by (with_reducible repeat (first | apply Kd.R_alloc | apply Kd.R_drewN | apply Kd.R_drew)); exact HO433.out) hb)
             have n1_ := Aside0.mk (Kd.R_lower ho0 (below_size (by repeat (first | (with_reducible first | exact HB.out | apply below_alloc | apply pw_below_drewN | apply below_drew1 | refine below_set ?_ (Aside0.out (by assumption))) | exact HB.out))))
             have n2_ := Aside0.mk (blk_below (g := gb326) (o := .cells #[.int .i64 10000, .int .i64 600, .int .i64 600, .int .i64 3000, .int .i64 3000, .int .i64 1, .bool false, .int .i64 0] 23 (0, 0)) (by repeat (first | (with_reducible first | exact BK326.out | refine blk_drewN ?_ _ | refine blk_drew ?_ | refine blk_alloc ?_ _) | exact BK326.out)) hb)
             have n3_ := Aside0.mk (blk_below (g := gb343) (o := .cells #[.int .i64 10100, .int .i64 577, .int .i64 577, .int .i64 3000, .int .i64 3000, .int .i64 1, .bool false, .int .i64 0] 23 (0, 0)) (by repeat (first | (with_reducible first | exact BK343.out | refine blk_drewN ?_ _ | refine blk_drew ?_ | refine blk_alloc ?_ _) | exact BK343.out)) hb)
             have n4_ := Aside0.mk (blk_below (g := gb344) (o := .cells #[.int .i64 10000, .int .i64 577, .int .i64 577, .int .i64 3000, .int .i64 3000, .int .i64 1, .bool false, .int .i64 50] 23 (0, 0)) (by repeat (first | (with_reducible first | exact BK344.out | refine blk_drewN ?_ _ | refine blk_drew ?_ | refine blk_alloc ?_ _) | exact BK344.out)) hb)
             have n5_ := Aside0.mk (blk_below (g := gb356) (o := .cells #[.int .i64 1538, .int .i64 1] 27 (0, 0)) (by repeat (first | (with_reducible first | exact BK356.out | refine blk_drewN ?_ _ | refine blk_drew ?_ | refine blk_alloc ?_ _) | exact BK356.out)) hb)
             have n6_ := Aside0.mk (blk_below (g := gb368) (o := .cells #[.int .i64 2500000, .int .i64 577] 27 (0, 0)) (by repeat (first | (with_reducible first | exact BK368.out | refine blk_drewN ?_ _ | refine blk_drew ?_ | refine blk_alloc ?_ _) | exact BK368.out)) hb)
             have n7_ := Aside0.mk (blk_below (g := gb380) (o := .cells #[.int .i64 9807000, .int .i64 1] 27 (0, 0)) (by repeat (first | (with_reducible first | exact BK380.out | refine blk_drewN ?_ _ | refine blk_drew ?_ | refine blk_alloc ?_ _) | exact BK380.out)) hb)
             have n8_ := Aside0.mk (blk_below (g := gb392) (o := .cells #[.int .i64 2500, .int .i64 1] 27 (0, 0)) (by repeat (first | (with_reducible first | exact BK392.out | refine blk_drewN ?_ _ | refine blk_drew ?_ | refine blk_alloc ?_ _) | exact BK392.out)) hb)
             have n9_ := Aside0.mk (blk_below (g := gb396) (o := .cells #[.int .i64 101000, .int .i64 1] 27 (0, 0)) (by repeat (first | (with_reducible first | exact BK396.out | refine blk_drewN ?_ _ | refine blk_drew ?_ | refine blk_alloc ?_ _) | exact BK396.out)) hb)
             have n10_ := Aside0.mk (blk_below (g := gb400) (o := .cells #[.int .i64 1, .int .i64 2] 27 (0, 0)) (by repeat (first | (with_reducible first | exact BK400.out | refine blk_drewN ?_ _ | refine blk_drew ?_ | refine blk_alloc ?_ _) | exact BK400.out)) hb)
             have n11_ := Aside0.mk (blk_below (g := gb422) (o := .cells #[.int .i64 127, .int .i64 5] 27 (0, 0)) (by repeat (first | (with_reducible first | exact BK422.out | refine blk_drewN ?_ _ | refine blk_drew ?_ | refine blk_alloc ?_ _) | exact BK422.out)) hb)
             have n12_ := Aside0.mk (below_step (by repeat (first | (with_reducible first | exact HB.out | apply below_alloc | apply pw_below_drewN | apply below_drew1 | refine below_set ?_ (Aside0.out (by assumption))) | exact HB.out)) hb)
             clear HO433
             clear BK326
             clear BK343
             clear BK344
             clear BK356
             clear BK368
             clear BK380
             clear BK392
             clear BK396
             clear BK400
             clear BK422
             clear HB
             have HO433 := n0_
             have HO436 := n1_
             have BK326 := n2_
             have BK343 := n3_
             have BK344 := n4_
             have BK356 := n5_
             have BK368 := n6_
             have BK380 := n7_
             have BK392 := n8_
             have BK396 := n9_
             have BK400 := n10_
             have BK422 := n11_
             have HB := n12_
             clear n0_ n1_ n2_ n3_ n4_ n5_ n6_ n7_ n8_ n9_ n10_ n11_ n12_
             (try clear hb)
             (try clear hb2)
             (try clear hk)
             (try clear hi)
             (try clear ho0)
             refine hK.out _ _ ⟨(blk_cell BK343.out 0).trans rfl, (blk_cell BK343.out 1).trans rfl, (blk_cell BK343.out 2).trans rfl, (blk_cell BK343.out 3).trans rfl, (blk_cell BK343.out 4).trans rfl, (blk_cell BK343.out 5).trans rfl, (blk_cell BK343.out 6).trans rfl, (blk_cell BK343.out 7).trans rfl, (blk_cell BK326.out 0).trans rfl, (blk_cell BK326.out 1).trans rfl, (blk_cell BK326.out 2).trans rfl, (blk_cell BK326.out 3).trans rfl, (blk_cell BK326.out 4).trans rfl, (blk_cell BK326.out 5).trans rfl, (blk_cell BK326.out 6).trans rfl, (blk_cell BK326.out 7).trans rfl⟩ (fun hHeld => ?_)
             clear hK K
             refine norm_ (a' := ?_) ?_ ?_
             rotate_left
             ·show Act.put _ (some 80) _ = _
              simp only [Act.put, List.setIfInBounds_toArray, List.set_cons_zero, List.set_cons_succ, i64_w, i32_w]
              rfl
             refine pure_ (i := 6) (N := some 74) (v := ?_) (a' := ?_) #[true, true, true, true, true, true, true, false, false, false, false] rfl rfl (any_of HT_.out (by kernel_rfl)) (fun _ _ _ h => h) (Or.inl ⟨by rfl, ?_⟩) ?_ ?_
             rotate_left
             ·intro w'
              go_simp
              with_reducible rfl
             rotate_left
             ·simp only [Act.put, List.setIfInBounds_toArray, List.set_cons_zero, List.set_cons_succ, i64_w, i32_w]
              rfl
             refine pure_ (i := 7) (N := some 81) (v := ?_) (a' := ?_) #[true, true, true, true, true, true, true, true, false, false, false] rfl rfl (any_of HT_.out (by kernel_rfl)) (fun _ _ _ h => h) (Or.inl ⟨by rfl, ?_⟩) ?_ ?_
             rotate_left
             ·intro w'
              go_simp
              with_reducible rfl
             rotate_left
             ·simp only [Act.put, List.setIfInBounds_toArray, List.set_cons_zero, List.set_cons_succ, i64_w, i32_w]
              rfl
             refine pure_ (i := 8) (N := some 82) (v := ?_) (a' := ?_) #[true, true, true, true, true, true, true, true, true, false, false] rfl rfl (any_of HT_.out (by kernel_rfl)) (fun _ _ _ h => h) (Or.inl ⟨by rfl, ?_⟩) ?_ ?_
             rotate_left
             ·intro w'
              go_simp
              with_reducible rfl
             rotate_left
             ·simp only [Act.put, List.setIfInBounds_toArray, List.set_cons_zero, List.set_cons_succ, i64_w, i32_w]
              rfl
             refine pure_ (i := 9) (N := some 20) (v := ?_) (a' := ?_) #[true, true, true, true, true, true, true, true, true, true, false] rfl rfl (any_of HT_.out (by kernel_rfl)) (fun _ _ _ h => h) (Or.inl ⟨by rfl, ?_⟩) ?_ ?_
             rotate_left
             ·intro w'
              go_simp
              with_reducible rfl
             rotate_left
             ·simp only [Act.put, List.setIfInBounds_toArray, List.set_cons_zero, List.set_cons_succ, i64_w, i32_w]
              rfl
             refine pure_ (i := 10) (N := some 21) (v := ?_) (a' := ?_) #[true, true, true, true, true, true, true, true, true, true, true] rfl rfl (any_of HT_.out (by kernel_rfl)) (fun _ _ _ h => h) (Or.inl ⟨by rfl, ?_⟩) ?_ ?_
             rotate_left
             ·intro w'
              go_simp
              with_reducible rfl
             rotate_left
             ·simp only [Act.put, List.setIfInBounds_toArray, List.set_cons_zero, List.set_cons_succ, i64_w, i32_w]
              rfl
             refine done_ (done_of HT_.out (by kernel_rfl)) ?_
             try go_wp2_with (first | ((with_reducible refine gate_callee (f := 50) rfl ?_); refine goesL_ (some 83) rfl rfl Try.func50 (by kernel_rfl) rfl #[] rfl (by (try simp only [List.map_toArray, List.map_cons, List.map_nil]); first | done | rfl | (simp only [List.length_drop, List.length_take]; rfl)) ?_; (with_reducible refine (acmelaw01_all.calls  0 10000000 0 10000000 0 10000000 0 10000000 0 10000000 0 10000000 0 10000000 0 _ A20.out).mono ?_); rintro e w128 ⟨rfl, hb⟩; refine ⟨_, rfl, ?_⟩; replace HO433 := Aside0.mk (Kd.R_below (by (with_reducible repeat (first | apply Kd.R_alloc | apply Kd.R_drewN | apply Kd.R_drew)); exact HO433.out) hb); replace HO436 := Aside0.mk (Kd.R_below (by (with_reducible repeat (first | apply Kd.R_alloc | apply Kd.R_drewN | apply Kd.R_drew)); exact HO436.out) hb); replace BK326 := Aside0.mk (blk_below (g := gb326) (o := .cells #[.int .i64 10000, .int .i64 600, .int .i64 600, .int .i64 3000, .int .i64 3000, .int .i64 1, .bool false, .int .i64 0] 23 (0, 0)) (by repeat (first | (with_reducible first | exact BK326.out | refine blk_drewN ?_ _ | refine blk_drew ?_ | refine blk_alloc ?_ _) | exact BK326.out)) hb); replace BK343 := Aside0.mk (blk_below (g := gb343) (o := .cells #[.int .i64 10100, .int .i64 577, .int .i64 577, .int .i64 3000, .int .i64 3000, .int .i64 1, .bool false, .int .i64 0] 23 (0, 0)) (by repeat (first | (with_reducible first | exact BK343.out | refine blk_drewN ?_ _ | refine blk_drew ?_ | refine blk_alloc ?_ _) | exact BK343.out)) hb); replace BK344 := Aside0.mk (blk_below (g := gb344) (o := .cells #[.int .i64 10000, .int .i64 577, .int .i64 577, .int .i64 3000, .int .i64 3000, .int .i64 1, .bool false, .int .i64 50] 23 (0, 0)) (by repeat (first | (with_reducible first | exact BK344.out | refine blk_drewN ?_ _ | refine blk_drew ?_ | refine blk_alloc ?_ _) | exact BK344.out)) hb); replace BK356 := Aside0.mk (blk_below (g := gb356) (o := .cells #[.int .i64 1538, .int .i64 1] 27 (0, 0)) (by repeat (first | (with_reducible first | exact BK356.out | refine blk_drewN ?_ _ | refine blk_drew ?_ | refine blk_alloc ?_ _) | exact BK356.out)) hb); replace BK368 := Aside0.mk (blk_below (g := gb368) (o := .cells #[.int .i64 2500000, .int .i64 577] 27 (0, 0)) (by repeat (first | (with_reducible first | exact BK368.out | refine blk_drewN ?_ _ | refine blk_drew ?_ | refine blk_alloc ?_ _) | exact BK368.out)) hb); replace BK380 := Aside0.mk (blk_below (g := gb380) (o := .cells #[.int .i64 9807000, .int .i64 1] 27 (0, 0)) (by repeat (first | (with_reducible first | exact BK380.out | refine blk_drewN ?_ _ | refine blk_drew ?_ | refine blk_alloc ?_ _) | exact BK380.out)) hb); replace BK392 := Aside0.mk (blk_below (g := gb392) (o := .cells #[.int .i64 2500, .int .i64 1] 27 (0, 0)) (by repeat (first | (with_reducible first | exact BK392.out | refine blk_drewN ?_ _ | refine blk_drew ?_ | refine blk_alloc ?_ _) | exact BK392.out)) hb); replace BK396 := Aside0.mk (blk_below (g := gb396) (o := .cells #[.int .i64 101000, .int .i64 1] 27 (0, 0)) (by repeat (first | (with_reducible first | exact BK396.out | refine blk_drewN ?_ _ | refine blk_drew ?_ | refine blk_alloc ?_ _) | exact BK396.out)) hb); replace BK400 := Aside0.mk (blk_below (g := gb400) (o := .cells #[.int .i64 1, .int .i64 2] 27 (0, 0)) (by repeat (first | (with_reducible first | exact BK400.out | refine blk_drewN ?_ _ | refine blk_drew ?_ | refine blk_alloc ?_ _) | exact BK400.out)) hb); replace BK422 := Aside0.mk (blk_below (g := gb422) (o := .cells #[.int .i64 127, .int .i64 5] 27 (0, 0)) (by repeat (first | (with_reducible first | exact BK422.out | refine blk_drewN ?_ _ | refine blk_drew ?_ | refine blk_alloc ?_ _) | exact BK422.out)) hb); replace HB := Aside0.mk (below_step (by repeat (first | (with_reducible first | exact HB.out | apply below_alloc | apply pw_below_drewN | apply below_drew1 | refine below_set ?_ (Aside0.out (by assumption))) | exact HB.out)) hb); (try clear hb); (try clear hb2); (try clear hk); (try clear hi)) | ((with_reducible refine gate_dst (N := 22) rfl ?_); (try (refine gate_guard (by rfl) ?_; dsimp only)); refine box_event ?hg (N := 22) ?hd (cs := #[.int .i64 0, .int .i64 0, .int .i64 0, .int .i64 0, .int .i64 0, .int .i64 0, .int .i64 0, .int .i64 0, .int .i64 0, .int .i64 0, .int .i64 0, .int .i64 0, .int .i64 0, .int .i64 0, .int .i64 0]) (t := 53) ?hr ?_; (case hd => rfl); (case hg => rfl); (case hr => first | (go_simp; done) | (go_simp; rfl)); intro gb453 hg w129 hbox hb; replace HO433 := Aside0.mk (Kd.R_below (by (with_reducible repeat (first | apply Kd.R_alloc | apply Kd.R_drewN | apply Kd.R_drew)); exact HO433.out) hb); replace HO436 := Aside0.mk (Kd.R_below (by (with_reducible repeat (first | apply Kd.R_alloc | apply Kd.R_drewN | apply Kd.R_drew)); exact HO436.out) hb); have BK453 := Aside0.mk (hbox); have GW453 := Aside0.mk ((by rw [hg]; exact (below_size (by repeat (first | (with_reducible first | exact HB.out | apply below_alloc | apply pw_below_drewN | apply below_drew1 | refine below_set ?_ (Aside0.out (by assumption))) | exact HB.out))) : w.heap.size ≤ gb453)); have GE453 := GW453; replace HB := Aside0.mk (below_step (by repeat (first | (with_reducible first | exact HB.out | apply below_alloc | apply pw_below_drewN | apply below_drew1 | refine below_set ?_ (Aside0.out (by assumption))) | exact HB.out)) hb); have NB326_453 := Aside0.mk ((by rw [hg]; exact Nat.ne_of_lt (blk_lt BK326.out) : gb326 ≠ gb453)); have NB453_326 := Aside0.mk ((by rw [hg]; exact Nat.ne_of_gt (blk_lt BK326.out) : gb453 ≠ gb326)); replace BK326 := Aside0.mk (blk_below (g := gb326) (o := .cells #[.int .i64 10000, .int .i64 600, .int .i64 600, .int .i64 3000, .int .i64 3000, .int .i64 1, .bool false, .int .i64 0] 23 (0, 0)) (by repeat (first | (with_reducible first | exact BK326.out | refine blk_drewN ?_ _ | refine blk_drew ?_ | refine blk_alloc ?_ _) | exact BK326.out)) hb); have NB343_453 := Aside0.mk ((by rw [hg]; exact Nat.ne_of_lt (blk_lt BK343.out) : gb343 ≠ gb453)); have NB453_343 := Aside0.mk ((by rw [hg]; exact Nat.ne_of_gt (blk_lt BK343.out) : gb453 ≠ gb343)); replace BK343 := Aside0.mk (blk_below (g := gb343) (o := .cells #[.int .i64 10100, .int .i64 577, .int .i64 577, .int .i64 3000, .int .i64 3000, .int .i64 1, .bool false, .int .i64 0] 23 (0, 0)) (by repeat (first | (with_reducible first | exact BK343.out | refine blk_drewN ?_ _ | refine blk_drew ?_ | refine blk_alloc ?_ _) | exact BK343.out)) hb); have NB344_453 := Aside0.mk ((by rw [hg]; exact Nat.ne_of_lt (blk_lt BK344.out) : gb344 ≠ gb453)); have NB453_344 := Aside0.mk ((by rw [hg]; exact Nat.ne_of_gt (blk_lt BK344.out) : gb453 ≠ gb344)); replace BK344 := Aside0.mk (blk_below (g := gb344) (o := .cells #[.int .i64 10000, .int .i64 577, .int .i64 577, .int .i64 3000, .int .i64 3000, .int .i64 1, .bool false, .int .i64 50] 23 (0, 0)) (by repeat (first | (with_reducible first | exact BK344.out | refine blk_drewN ?_ _ | refine blk_drew ?_ | refine blk_alloc ?_ _) | exact BK344.out)) hb); have NB356_453 := Aside0.mk ((by rw [hg]; exact Nat.ne_of_lt (blk_lt BK356.out) : gb356 ≠ gb453)); have NB453_356 := Aside0.mk ((by rw [hg]; exact Nat.ne_of_gt (blk_lt BK356.out) : gb453 ≠ gb356)); replace BK356 := Aside0.mk (blk_below (g := gb356) (o := .cells #[.int .i64 1538, .int .i64 1] 27 (0, 0)) (by repeat (first | (with_reducible first | exact BK356.out | refine blk_drewN ?_ _ | refine blk_drew ?_ | refine blk_alloc ?_ _) | exact BK356.out)) hb); have NB368_453 := Aside0.mk ((by rw [hg]; exact Nat.ne_of_lt (blk_lt BK368.out) : gb368 ≠ gb453)); have NB453_368 := Aside0.mk ((by rw [hg]; exact Nat.ne_of_gt (blk_lt BK368.out) : gb453 ≠ gb368)); replace BK368 := Aside0.mk (blk_below (g := gb368) (o := .cells #[.int .i64 2500000, .int .i64 577] 27 (0, 0)) (by repeat (first | (with_reducible first | exact BK368.out | refine blk_drewN ?_ _ | refine blk_drew ?_ | refine blk_alloc ?_ _) | exact BK368.out)) hb); have NB380_453 := Aside0.mk ((by rw [hg]; exact Nat.ne_of_lt (blk_lt BK380.out) : gb380 ≠ gb453)); have NB453_380 := Aside0.mk ((by rw [hg]; exact Nat.ne_of_gt (blk_lt BK380.out) : gb453 ≠ gb380)); replace BK380 := Aside0.mk (blk_below (g := gb380) (o := .cells #[.int .i64 9807000, .int .i64 1] 27 (0, 0)) (by repeat (first | (with_reducible first | exact BK380.out | refine blk_drewN ?_ _ | refine blk_drew ?_ | refine blk_alloc ?_ _) | exact BK380.out)) hb); have NB392_453 := Aside0.mk ((by rw [hg]; exact Nat.ne_of_lt (blk_lt BK392.out) : gb392 ≠ gb453)); have NB453_392 := Aside0.mk ((by rw [hg]; exact Nat.ne_of_gt (blk_lt BK392.out) : gb453 ≠ gb392)); replace BK392 := Aside0.mk (blk_below (g := gb392) (o := .cells #[.int .i64 2500, .int .i64 1] 27 (0, 0)) (by repeat (first | (with_reducible first | exact BK392.out | refine blk_drewN ?_ _ | refine blk_drew ?_ | refine blk_alloc ?_ _) | exact BK392.out)) hb); have NB396_453 := Aside0.mk ((by rw [hg]; exact Nat.ne_of_lt (blk_lt BK396.out) : gb396 ≠ gb453)); have NB453_396 := Aside0.mk ((by rw [hg]; exact Nat.ne_of_gt (blk_lt BK396.out) : gb453 ≠ gb396)); replace BK396 := Aside0.mk (blk_below (g := gb396) (o := .cells #[.int .i64 101000, .int .i64 1] 27 (0, 0)) (by repeat (first | (with_reducible first | exact BK396.out | refine blk_drewN ?_ _ | refine blk_drew ?_ | refine blk_alloc ?_ _) | exact BK396.out)) hb); have NB400_453 := Aside0.mk ((by rw [hg]; exact Nat.ne_of_lt (blk_lt BK400.out) : gb400 ≠ gb453)); have NB453_400 := Aside0.mk ((by rw [hg]; exact Nat.ne_of_gt (blk_lt BK400.out) : gb453 ≠ gb400)); replace BK400 := Aside0.mk (blk_below (g := gb400) (o := .cells #[.int .i64 1, .int .i64 2] 27 (0, 0)) (by repeat (first | (with_reducible first | exact BK400.out | refine blk_drewN ?_ _ | refine blk_drew ?_ | refine blk_alloc ?_ _) | exact BK400.out)) hb); have NB422_453 := Aside0.mk ((by rw [hg]; exact Nat.ne_of_lt (blk_lt BK422.out) : gb422 ≠ gb453)); have NB453_422 := Aside0.mk ((by rw [hg]; exact Nat.ne_of_gt (blk_lt BK422.out) : gb453 ≠ gb422)); replace BK422 := Aside0.mk (blk_below (g := gb422) (o := .cells #[.int .i64 127, .int .i64 5] 27 (0, 0)) (by repeat (first | (with_reducible first | exact BK422.out | refine blk_drewN ?_ _ | refine blk_drew ?_ | refine blk_alloc ?_ _) | exact BK422.out)) hb); clear hb hbox hg; have hnb130 := NB453_326.out; have hnc130 := NB326_453.out; have hnb131 := NB453_343.out; have hnc131 := NB343_453.out; have hnb132 := NB453_344.out; have hnc132 := NB344_453.out; have hnb133 := NB453_356.out; have hnc133 := NB356_453.out; have hnb134 := NB453_368.out; have hnc134 := NB368_453.out; have hnb135 := NB453_380.out; have hnc135 := NB380_453.out; have hnb136 := NB453_392.out; have hnc136 := NB392_453.out; have hnb137 := NB453_396.out; have hnc137 := NB396_453.out; have hnb138 := NB453_400.out; have hnc138 := NB400_453.out; have hnb139 := NB453_422.out; have hnc139 := NB422_453.out; obtain ⟨hcz140_0, hcz140_1, hcz140_2, hcz140_3, hcz140_4, hcz140_5, hcz140_6, hcz140_7, hcz140_8, hcz140_9, hcz140_10, hcz140_11, hcz140_12, hcz140_13, hcz140_14⟩ := bc15 BK453.out; obtain ⟨hfz140_0, hfz140_1, hfz140_2, hfz140_3, hfz140_4, hfz140_5, hfz140_6, hfz140_7, hfz140_8, hfz140_9, hfz140_10, hfz140_11, hfz140_12, hfz140_13, hfz140_14⟩ := bf15 BK453.out))
             have n0_ : Aside0 (Kd.R k23 23 (((((((((((((((((w129.setCell ⟨gb453, 0, none⟩ (.int .i64 0)).setCell ⟨gb453, 1, none⟩ (.int .i64 10000000)).setCell ⟨gb453, 2, none⟩ (.int .i64 0)).setCell ⟨gb453, 3, none⟩ (.int .i64 10000000)).setCell ⟨gb453, 4, none⟩ (.int .i64 0)).setCell ⟨gb453, 5, none⟩ (.int .i64 10000000)).setCell ⟨gb453, 6, none⟩ (.int .i64 0)).setCell ⟨gb453, 7, none⟩ (.int .i64 10000000)).setCell ⟨gb453, 8, none⟩ (.int .i64 0)).setCell ⟨gb453, 9, none⟩ (.int .i64 10000000)).setCell ⟨gb453, 10, none⟩ (.int .i64 0)).setCell ⟨gb453, 11, none⟩ (.int .i64 10000000)).setCell ⟨gb453, 12, none⟩ (.int .i64 0)).setCell ⟨gb453, 13, none⟩ (.int .i64 10000000)).setCell ⟨gb453, 14, none⟩ (.int .i64 0)).setCell ⟨gb453, 0, none⟩ (.int .i64 10040)).setCell ⟨gb453, 1, none⟩ (.int .i64 10160)) w.heap.size (fun k_ => k_ ≠ gb326 ∧ k_ ≠ gb343 ∧ k_ ≠ gb344) (.slice Ao126 y431.length co126) y431) := ⟨by (with_reducible repeat (first | apply Kd.R_alloc | apply Kd.R_drewN | apply Kd.R_drew)); exact Kd.R_mono (Kd.R_far (p := ⟨gb453, 1, none⟩) (Kd.R_far (p := ⟨gb453, 0, none⟩) (Kd.R_far (p := ⟨gb453, 14, none⟩) (Kd.R_far (p := ⟨gb453, 13, none⟩) (Kd.R_far (p := ⟨gb453, 12, none⟩) (Kd.R_far (p := ⟨gb453, 11, none⟩) (Kd.R_far (p := ⟨gb453, 10, none⟩) (Kd.R_far (p := ⟨gb453, 9, none⟩) (Kd.R_far (p := ⟨gb453, 8, none⟩) (Kd.R_far (p := ⟨gb453, 7, none⟩) (Kd.R_far (p := ⟨gb453, 6, none⟩) (Kd.R_far (p := ⟨gb453, 5, none⟩) (Kd.R_far (p := ⟨gb453, 4, none⟩) (Kd.R_far (p := ⟨gb453, 3, none⟩) (Kd.R_far (p := ⟨gb453, 2, none⟩) (Kd.R_far (p := ⟨gb453, 1, none⟩) (Kd.R_far (p := ⟨gb453, 0, none⟩) (Kd.R_types HO433.out BK453.out (by decide)) (fun _ hk => hk.2) (.int .i64 0)) (fun _ hk => hk.2) (.int .i64 10000000)) (fun _ hk => hk.2) (.int .i64 0)) (fun _ hk => hk.2) (.int .i64 10000000)) (fun _ hk => hk.2) (.int .i64 0)) (fun _ hk => hk.2) (.int .i64 10000000)) (fun _ hk => hk.2) (.int .i64 0)) (fun _ hk => hk.2) (.int .i64 10000000)) (fun _ hk => hk.2) (.int .i64 0)) (fun _ hk => hk.2) (.int .i64 10000000)) (fun _ hk => hk.2) (.int .i64 0)) (fun _ hk => hk.2) (.int .i64 10000000)) (fun _ hk => hk.2) (.int .i64 0)) (fun _ hk => hk.2) (.int .i64 10000000)) (fun _ hk => hk.2) (.int .i64 0)) (fun _ hk => hk.2) (.int .i64 10040)) (fun _ hk => hk.2) (.int .i64 10160)) (fun _ hk => ⟨hk.1.1.1.2, ⟨hk.1.1.2, hk.1.2⟩⟩)⟩
             have n1_ : Aside0 (Kd.R k67 67 (((((((((((((((((w129.setCell ⟨gb453, 0, none⟩ (.int .i64 0)).setCell ⟨gb453, 1, none⟩ (.int .i64 10000000)).setCell ⟨gb453, 2, none⟩ (.int .i64 0)).setCell ⟨gb453, 3, none⟩ (.int .i64 10000000)).setCell ⟨gb453, 4, none⟩ (.int .i64 0)).setCell ⟨gb453, 5, none⟩ (.int .i64 10000000)).setCell ⟨gb453, 6, none⟩ (.int .i64 0)).setCell ⟨gb453, 7, none⟩ (.int .i64 10000000)).setCell ⟨gb453, 8, none⟩ (.int .i64 0)).setCell ⟨gb453, 9, none⟩ (.int .i64 10000000)).setCell ⟨gb453, 10, none⟩ (.int .i64 0)).setCell ⟨gb453, 11, none⟩ (.int .i64 10000000)).setCell ⟨gb453, 12, none⟩ (.int .i64 0)).setCell ⟨gb453, 13, none⟩ (.int .i64 10000000)).setCell ⟨gb453, 14, none⟩ (.int .i64 0)).setCell ⟨gb453, 0, none⟩ (.int .i64 10040)).setCell ⟨gb453, 1, none⟩ (.int .i64 10160)) w.heap.size (fun _ => True) v435 t434) := ⟨by (with_reducible repeat (first | apply Kd.R_alloc | apply Kd.R_drewN | apply Kd.R_drew)); exact Kd.R_mono (Kd.R_far (p := ⟨gb453, 1, none⟩) (Kd.R_far (p := ⟨gb453, 0, none⟩) (Kd.R_far (p := ⟨gb453, 14, none⟩) (Kd.R_far (p := ⟨gb453, 13, none⟩) (Kd.R_far (p := ⟨gb453, 12, none⟩) (Kd.R_far (p := ⟨gb453, 11, none⟩) (Kd.R_far (p := ⟨gb453, 10, none⟩) (Kd.R_far (p := ⟨gb453, 9, none⟩) (Kd.R_far (p := ⟨gb453, 8, none⟩) (Kd.R_far (p := ⟨gb453, 7, none⟩) (Kd.R_far (p := ⟨gb453, 6, none⟩) (Kd.R_far (p := ⟨gb453, 5, none⟩) (Kd.R_far (p := ⟨gb453, 4, none⟩) (Kd.R_far (p := ⟨gb453, 3, none⟩) (Kd.R_far (p := ⟨gb453, 2, none⟩) (Kd.R_far (p := ⟨gb453, 1, none⟩) (Kd.R_far (p := ⟨gb453, 0, none⟩) (Kd.R_types HO436.out BK453.out (by decide)) (fun _ hk => hk.2) (.int .i64 0)) (fun _ hk => hk.2) (.int .i64 10000000)) (fun _ hk => hk.2) (.int .i64 0)) (fun _ hk => hk.2) (.int .i64 10000000)) (fun _ hk => hk.2) (.int .i64 0)) (fun _ hk => hk.2) (.int .i64 10000000)) (fun _ hk => hk.2) (.int .i64 0)) (fun _ hk => hk.2) (.int .i64 10000000)) (fun _ hk => hk.2) (.int .i64 0)) (fun _ hk => hk.2) (.int .i64 10000000)) (fun _ hk => hk.2) (.int .i64 0)) (fun _ hk => hk.2) (.int .i64 10000000)) (fun _ hk => hk.2) (.int .i64 0)) (fun _ hk => hk.2) (.int .i64 10000000)) (fun _ hk => hk.2) (.int .i64 0)) (fun _ hk => hk.2) (.int .i64 10040)) (fun _ hk => hk.2) (.int .i64 10160)) (fun _ hk => trivial)⟩
             have n2_ : Aside0 ((((((((((((((((((w129.setCell ⟨gb453, 0, none⟩ (.int .i64 0)).setCell ⟨gb453, 1, none⟩ (.int .i64 10000000)).setCell ⟨gb453, 2, none⟩ (.int .i64 0)).setCell ⟨gb453, 3, none⟩ (.int .i64 10000000)).setCell ⟨gb453, 4, none⟩ (.int .i64 0)).setCell ⟨gb453, 5, none⟩ (.int .i64 10000000)).setCell ⟨gb453, 6, none⟩ (.int .i64 0)).setCell ⟨gb453, 7, none⟩ (.int .i64 10000000)).setCell ⟨gb453, 8, none⟩ (.int .i64 0)).setCell ⟨gb453, 9, none⟩ (.int .i64 10000000)).setCell ⟨gb453, 10, none⟩ (.int .i64 0)).setCell ⟨gb453, 11, none⟩ (.int .i64 10000000)).setCell ⟨gb453, 12, none⟩ (.int .i64 0)).setCell ⟨gb453, 13, none⟩ (.int .i64 10000000)).setCell ⟨gb453, 14, none⟩ (.int .i64 0)).setCell ⟨gb453, 0, none⟩ (.int .i64 10040)).setCell ⟨gb453, 1, none⟩ (.int .i64 10160)).heap[gb326]? = some (.cells #[.int .i64 10000, .int .i64 600, .int .i64 600, .int .i64 3000, .int .i64 3000, .int .i64 1, .bool false, .int .i64 0] 23 (0, 0))) := ⟨by repeat (first | (with_reducible first | exact BK326.out | refine blk_drewN ?_ _ | refine blk_drew ?_ | refine blk_alloc ?_ _) | refine blk_far ?_ NB326_453.out _ | exact BK326.out)⟩
             have n3_ : Aside0 ((((((((((((((((((w129.setCell ⟨gb453, 0, none⟩ (.int .i64 0)).setCell ⟨gb453, 1, none⟩ (.int .i64 10000000)).setCell ⟨gb453, 2, none⟩ (.int .i64 0)).setCell ⟨gb453, 3, none⟩ (.int .i64 10000000)).setCell ⟨gb453, 4, none⟩ (.int .i64 0)).setCell ⟨gb453, 5, none⟩ (.int .i64 10000000)).setCell ⟨gb453, 6, none⟩ (.int .i64 0)).setCell ⟨gb453, 7, none⟩ (.int .i64 10000000)).setCell ⟨gb453, 8, none⟩ (.int .i64 0)).setCell ⟨gb453, 9, none⟩ (.int .i64 10000000)).setCell ⟨gb453, 10, none⟩ (.int .i64 0)).setCell ⟨gb453, 11, none⟩ (.int .i64 10000000)).setCell ⟨gb453, 12, none⟩ (.int .i64 0)).setCell ⟨gb453, 13, none⟩ (.int .i64 10000000)).setCell ⟨gb453, 14, none⟩ (.int .i64 0)).setCell ⟨gb453, 0, none⟩ (.int .i64 10040)).setCell ⟨gb453, 1, none⟩ (.int .i64 10160)).heap[gb343]? = some (.cells #[.int .i64 10100, .int .i64 577, .int .i64 577, .int .i64 3000, .int .i64 3000, .int .i64 1, .bool false, .int .i64 0] 23 (0, 0))) := ⟨by repeat (first | (with_reducible first | exact BK343.out | refine blk_drewN ?_ _ | refine blk_drew ?_ | refine blk_alloc ?_ _) | refine blk_far ?_ NB343_453.out _ | exact BK343.out)⟩
             have n4_ : Aside0 ((((((((((((((((((w129.setCell ⟨gb453, 0, none⟩ (.int .i64 0)).setCell ⟨gb453, 1, none⟩ (.int .i64 10000000)).setCell ⟨gb453, 2, none⟩ (.int .i64 0)).setCell ⟨gb453, 3, none⟩ (.int .i64 10000000)).setCell ⟨gb453, 4, none⟩ (.int .i64 0)).setCell ⟨gb453, 5, none⟩ (.int .i64 10000000)).setCell ⟨gb453, 6, none⟩ (.int .i64 0)).setCell ⟨gb453, 7, none⟩ (.int .i64 10000000)).setCell ⟨gb453, 8, none⟩ (.int .i64 0)).setCell ⟨gb453, 9, none⟩ (.int .i64 10000000)).setCell ⟨gb453, 10, none⟩ (.int .i64 0)).setCell ⟨gb453, 11, none⟩ (.int .i64 10000000)).setCell ⟨gb453, 12, none⟩ (.int .i64 0)).setCell ⟨gb453, 13, none⟩ (.int .i64 10000000)).setCell ⟨gb453, 14, none⟩ (.int .i64 0)).setCell ⟨gb453, 0, none⟩ (.int .i64 10040)).setCell ⟨gb453, 1, none⟩ (.int .i64 10160)).heap[gb344]? = some (.cells #[.int .i64 10000, .int .i64 577, .int .i64 577, .int .i64 3000, .int .i64 3000, .int .i64 1, .bool false, .int .i64 50] 23 (0, 0))) := ⟨by repeat (first | (with_reducible first | exact BK344.out | refine blk_drewN ?_ _ | refine blk_drew ?_ | refine blk_alloc ?_ _) | refine blk_far ?_ NB344_453.out _ | exact BK344.out)⟩
             have n5_ : Aside0 ((((((((((((((((((w129.setCell ⟨gb453, 0, none⟩ (.int .i64 0)).setCell ⟨gb453, 1, none⟩ (.int .i64 10000000)).setCell ⟨gb453, 2, none⟩ (.int .i64 0)).setCell ⟨gb453, 3, none⟩ (.int .i64 10000000)).setCell ⟨gb453, 4, none⟩ (.int .i64 0)).setCell ⟨gb453, 5, none⟩ (.int .i64 10000000)).setCell ⟨gb453, 6, none⟩ (.int .i64 0)).setCell ⟨gb453, 7, none⟩ (.int .i64 10000000)).setCell ⟨gb453, 8, none⟩ (.int .i64 0)).setCell ⟨gb453, 9, none⟩ (.int .i64 10000000)).setCell ⟨gb453, 10, none⟩ (.int .i64 0)).setCell ⟨gb453, 11, none⟩ (.int .i64 10000000)).setCell ⟨gb453, 12, none⟩ (.int .i64 0)).setCell ⟨gb453, 13, none⟩ (.int .i64 10000000)).setCell ⟨gb453, 14, none⟩ (.int .i64 0)).setCell ⟨gb453, 0, none⟩ (.int .i64 10040)).setCell ⟨gb453, 1, none⟩ (.int .i64 10160)).heap[gb356]? = some (.cells #[.int .i64 1538, .int .i64 1] 27 (0, 0))) := ⟨by repeat (first | (with_reducible first | exact BK356.out | refine blk_drewN ?_ _ | refine blk_drew ?_ | refine blk_alloc ?_ _) | refine blk_far ?_ NB356_453.out _ | exact BK356.out)⟩
             have n6_ : Aside0 ((((((((((((((((((w129.setCell ⟨gb453, 0, none⟩ (.int .i64 0)).setCell ⟨gb453, 1, none⟩ (.int .i64 10000000)).setCell ⟨gb453, 2, none⟩ (.int .i64 0)).setCell ⟨gb453, 3, none⟩ (.int .i64 10000000)).setCell ⟨gb453, 4, none⟩ (.int .i64 0)).setCell ⟨gb453, 5, none⟩ (.int .i64 10000000)).setCell ⟨gb453, 6, none⟩ (.int .i64 0)).setCell ⟨gb453, 7, none⟩ (.int .i64 10000000)).setCell ⟨gb453, 8, none⟩ (.int .i64 0)).setCell ⟨gb453, 9, none⟩ (.int .i64 10000000)).setCell ⟨gb453, 10, none⟩ (.int .i64 0)).setCell ⟨gb453, 11, none⟩ (.int .i64 10000000)).setCell ⟨gb453, 12, none⟩ (.int .i64 0)).setCell ⟨gb453, 13, none⟩ (.int .i64 10000000)).setCell ⟨gb453, 14, none⟩ (.int .i64 0)).setCell ⟨gb453, 0, none⟩ (.int .i64 10040)).setCell ⟨gb453, 1, none⟩ (.int .i64 10160)).heap[gb368]? = some (.cells #[.int .i64 2500000, .int .i64 577] 27 (0, 0))) := ⟨by repeat (first | (with_reducible first | exact BK368.out | refine blk_drewN ?_ _ | refine blk_drew ?_ | refine blk_alloc ?_ _) | refine blk_far ?_ NB368_453.out _ | exact BK368.out)⟩
             have n7_ : Aside0 ((((((((((((((((((w129.setCell ⟨gb453, 0, none⟩ (.int .i64 0)).setCell ⟨gb453, 1, none⟩ (.int .i64 10000000)).setCell ⟨gb453, 2, none⟩ (.int .i64 0)).setCell ⟨gb453, 3, none⟩ (.int .i64 10000000)).setCell ⟨gb453, 4, none⟩ (.int .i64 0)).setCell ⟨gb453, 5, none⟩ (.int .i64 10000000)).setCell ⟨gb453, 6, none⟩ (.int .i64 0)).setCell ⟨gb453, 7, none⟩ (.int .i64 10000000)).setCell ⟨gb453, 8, none⟩ (.int .i64 0)).setCell ⟨gb453, 9, none⟩ (.int .i64 10000000)).setCell ⟨gb453, 10, none⟩ (.int .i64 0)).setCell ⟨gb453, 11, none⟩ (.int .i64 10000000)).setCell ⟨gb453, 12, none⟩ (.int .i64 0)).setCell ⟨gb453, 13, none⟩ (.int .i64 10000000)).setCell ⟨gb453, 14, none⟩ (.int .i64 0)).setCell ⟨gb453, 0, none⟩ (.int .i64 10040)).setCell ⟨gb453, 1, none⟩ (.int .i64 10160)).heap[gb380]? = some (.cells #[.int .i64 9807000, .int .i64 1] 27 (0, 0))) := ⟨by repeat (first | (with_reducible first | exact BK380.out | refine blk_drewN ?_ _ | refine blk_drew ?_ | refine blk_alloc ?_ _) | refine blk_far ?_ NB380_453.out _ | exact BK380.out)⟩
             have n8_ : Aside0 ((((((((((((((((((w129.setCell ⟨gb453, 0, none⟩ (.int .i64 0)).setCell ⟨gb453, 1, none⟩ (.int .i64 10000000)).setCell ⟨gb453, 2, none⟩ (.int .i64 0)).setCell ⟨gb453, 3, none⟩ (.int .i64 10000000)).setCell ⟨gb453, 4, none⟩ (.int .i64 0)).setCell ⟨gb453, 5, none⟩ (.int .i64 10000000)).setCell ⟨gb453, 6, none⟩ (.int .i64 0)).setCell ⟨gb453, 7, none⟩ (.int .i64 10000000)).setCell ⟨gb453, 8, none⟩ (.int .i64 0)).setCell ⟨gb453, 9, none⟩ (.int .i64 10000000)).setCell ⟨gb453, 10, none⟩ (.int .i64 0)).setCell ⟨gb453, 11, none⟩ (.int .i64 10000000)).setCell ⟨gb453, 12, none⟩ (.int .i64 0)).setCell ⟨gb453, 13, none⟩ (.int .i64 10000000)).setCell ⟨gb453, 14, none⟩ (.int .i64 0)).setCell ⟨gb453, 0, none⟩ (.int .i64 10040)).setCell ⟨gb453, 1, none⟩ (.int .i64 10160)).heap[gb392]? = some (.cells #[.int .i64 2500, .int .i64 1] 27 (0, 0))) := ⟨by repeat (first | (with_reducible first | exact BK392.out | refine blk_drewN ?_ _ | refine blk_drew ?_ | refine blk_alloc ?_ _) | refine blk_far ?_ NB392_453.out _ | exact BK392.out)⟩
             have n9_ : Aside0 ((((((((((((((((((w129.setCell ⟨gb453, 0, none⟩ (.int .i64 0)).setCell ⟨gb453, 1, none⟩ (.int .i64 10000000)).setCell ⟨gb453, 2, none⟩ (.int .i64 0)).setCell ⟨gb453, 3, none⟩ (.int .i64 10000000)).setCell ⟨gb453, 4, none⟩ (.int .i64 0)).setCell ⟨gb453, 5, none⟩ (.int .i64 10000000)).setCell ⟨gb453, 6, none⟩ (.int .i64 0)).setCell ⟨gb453, 7, none⟩ (.int .i64 10000000)).setCell ⟨gb453, 8, none⟩ (.int .i64 0)).setCell ⟨gb453, 9, none⟩ (.int .i64 10000000)).setCell ⟨gb453, 10, none⟩ (.int .i64 0)).setCell ⟨gb453, 11, none⟩ (.int .i64 10000000)).setCell ⟨gb453, 12, none⟩ (.int .i64 0)).setCell ⟨gb453, 13, none⟩ (.int .i64 10000000)).setCell ⟨gb453, 14, none⟩ (.int .i64 0)).setCell ⟨gb453, 0, none⟩ (.int .i64 10040)).setCell ⟨gb453, 1, none⟩ (.int .i64 10160)).heap[gb396]? = some (.cells #[.int .i64 101000, .int .i64 1] 27 (0, 0))) := ⟨by repeat (first | (with_reducible first | exact BK396.out | refine blk_drewN ?_ _ | refine blk_drew ?_ | refine blk_alloc ?_ _) | refine blk_far ?_ NB396_453.out _ | exact BK396.out)⟩
             have n10_ : Aside0 ((((((((((((((((((w129.setCell ⟨gb453, 0, none⟩ (.int .i64 0)).setCell ⟨gb453, 1, none⟩ (.int .i64 10000000)).setCell ⟨gb453, 2, none⟩ (.int .i64 0)).setCell ⟨gb453, 3, none⟩ (.int .i64 10000000)).setCell ⟨gb453, 4, none⟩ (.int .i64 0)).setCell ⟨gb453, 5, none⟩ (.int .i64 10000000)).setCell ⟨gb453, 6, none⟩ (.int .i64 0)).setCell ⟨gb453, 7, none⟩ (.int .i64 10000000)).setCell ⟨gb453, 8, none⟩ (.int .i64 0)).setCell ⟨gb453, 9, none⟩ (.int .i64 10000000)).setCell ⟨gb453, 10, none⟩ (.int .i64 0)).setCell ⟨gb453, 11, none⟩ (.int .i64 10000000)).setCell ⟨gb453, 12, none⟩ (.int .i64 0)).setCell ⟨gb453, 13, none⟩ (.int .i64 10000000)).setCell ⟨gb453, 14, none⟩ (.int .i64 0)).setCell ⟨gb453, 0, none⟩ (.int .i64 10040)).setCell ⟨gb453, 1, none⟩ (.int .i64 10160)).heap[gb400]? = some (.cells #[.int .i64 1, .int .i64 2] 27 (0, 0))) := ⟨by repeat (first | (with_reducible first | exact BK400.out | refine blk_drewN ?_ _ | refine blk_drew ?_ | refine blk_alloc ?_ _) | refine blk_far ?_ NB400_453.out _ | exact BK400.out)⟩
             have n11_ : Aside0 ((((((((((((((((((w129.setCell ⟨gb453, 0, none⟩ (.int .i64 0)).setCell ⟨gb453, 1, none⟩ (.int .i64 10000000)).setCell ⟨gb453, 2, none⟩ (.int .i64 0)).setCell ⟨gb453, 3, none⟩ (.int .i64 10000000)).setCell ⟨gb453, 4, none⟩ (.int .i64 0)).setCell ⟨gb453, 5, none⟩ (.int .i64 10000000)).setCell ⟨gb453, 6, none⟩ (.int .i64 0)).setCell ⟨gb453, 7, none⟩ (.int .i64 10000000)).setCell ⟨gb453, 8, none⟩ (.int .i64 0)).setCell ⟨gb453, 9, none⟩ (.int .i64 10000000)).setCell ⟨gb453, 10, none⟩ (.int .i64 0)).setCell ⟨gb453, 11, none⟩ (.int .i64 10000000)).setCell ⟨gb453, 12, none⟩ (.int .i64 0)).setCell ⟨gb453, 13, none⟩ (.int .i64 10000000)).setCell ⟨gb453, 14, none⟩ (.int .i64 0)).setCell ⟨gb453, 0, none⟩ (.int .i64 10040)).setCell ⟨gb453, 1, none⟩ (.int .i64 10160)).heap[gb422]? = some (.cells #[.int .i64 127, .int .i64 5] 27 (0, 0))) := ⟨by repeat (first | (with_reducible first | exact BK422.out | refine blk_drewN ?_ _ | refine blk_drew ?_ | refine blk_alloc ?_ _) | refine blk_far ?_ NB422_453.out _ | exact BK422.out)⟩
             have n12_ : Aside0 ((((((((((((((((((w129.setCell ⟨gb453, 0, none⟩ (.int .i64 0)).setCell ⟨gb453, 1, none⟩ (.int .i64 10000000)).setCell ⟨gb453, 2, none⟩ (.int .i64 0)).setCell ⟨gb453, 3, none⟩ (.int .i64 10000000)).setCell ⟨gb453, 4, none⟩ (.int .i64 0)).setCell ⟨gb453, 5, none⟩ (.int .i64 10000000)).setCell ⟨gb453, 6, none⟩ (.int .i64 0)).setCell ⟨gb453, 7, none⟩ (.int .i64 10000000)).setCell ⟨gb453, 8, none⟩ (.int .i64 0)).setCell ⟨gb453, 9, none⟩ (.int .i64 10000000)).setCell ⟨gb453, 10, none⟩ (.int .i64 0)).setCell ⟨gb453, 11, none⟩ (.int .i64 10000000)).setCell ⟨gb453, 12, none⟩ (.int .i64 0)).setCell ⟨gb453, 13, none⟩ (.int .i64 10000000)).setCell ⟨gb453, 14, none⟩ (.int .i64 0)).setCell ⟨gb453, 0, none⟩ (.int .i64 10040)).setCell ⟨gb453, 1, none⟩ (.int .i64 10160)).heap[gb453]? = some (.cells #[.int .i64 10040, .int .i64 10160, .int .i64 0, .int .i64 10000000, .int .i64 0, .int .i64 10000000, .int .i64 0, .int .i64 10000000, .int .i64 0, .int .i64 10000000, .int .i64 0, .int .i64 10000000, .int .i64 0, .int .i64 10000000, .int .i64 0] 53 (0, 0))) := ⟨by exact bto (bput (bput (bput (bput (bput (bput (bput (bput (bput (bput (bput (bput (bput (bput (bput (bput (bput (BK453.out) _ _) _ _) _ _) _ _) _ _) _ _) _ _) _ _) _ _) _ _) _ _) _ _) _ _) _ _) _ _) _ _) _ _) rfl⟩
             have n13_ : Aside0 (Below w.heap.size w (((((((((((((((((w129.setCell ⟨gb453, 0, none⟩ (.int .i64 0)).setCell ⟨gb453, 1, none⟩ (.int .i64 10000000)).setCell ⟨gb453, 2, none⟩ (.int .i64 0)).setCell ⟨gb453, 3, none⟩ (.int .i64 10000000)).setCell ⟨gb453, 4, none⟩ (.int .i64 0)).setCell ⟨gb453, 5, none⟩ (.int .i64 10000000)).setCell ⟨gb453, 6, none⟩ (.int .i64 0)).setCell ⟨gb453, 7, none⟩ (.int .i64 10000000)).setCell ⟨gb453, 8, none⟩ (.int .i64 0)).setCell ⟨gb453, 9, none⟩ (.int .i64 10000000)).setCell ⟨gb453, 10, none⟩ (.int .i64 0)).setCell ⟨gb453, 11, none⟩ (.int .i64 10000000)).setCell ⟨gb453, 12, none⟩ (.int .i64 0)).setCell ⟨gb453, 13, none⟩ (.int .i64 10000000)).setCell ⟨gb453, 14, none⟩ (.int .i64 0)).setCell ⟨gb453, 0, none⟩ (.int .i64 10040)).setCell ⟨gb453, 1, none⟩ (.int .i64 10160))) := ⟨by repeat (first | (with_reducible first | exact HB.out | apply below_alloc | apply pw_below_drewN | apply below_drew1 | refine below_set ?_ (Aside0.out (by assumption))) | exact HB.out)⟩
             (try clear HO433)
             (try clear HO436)
             (try clear BK326)
             (try clear BK343)
             (try clear BK344)
             (try clear BK356)
             (try clear BK368)
             (try clear BK380)
             (try clear BK392)
             (try clear BK396)
             (try clear BK400)
             (try clear BK422)
             (try clear BK453)
             (try clear HB)
             generalize (((((((((((((((((w129.setCell ⟨gb453, 0, none⟩ (.int .i64 0)).setCell ⟨gb453, 1, none⟩ (.int .i64 10000000)).setCell ⟨gb453, 2, none⟩ (.int .i64 0)).setCell ⟨gb453, 3, none⟩ (.int .i64 10000000)).setCell ⟨gb453, 4, none⟩ (.int .i64 0)).setCell ⟨gb453, 5, none⟩ (.int .i64 10000000)).setCell ⟨gb453, 6, none⟩ (.int .i64 0)).setCell ⟨gb453, 7, none⟩ (.int .i64 10000000)).setCell ⟨gb453, 8, none⟩ (.int .i64 0)).setCell ⟨gb453, 9, none⟩ (.int .i64 10000000)).setCell ⟨gb453, 10, none⟩ (.int .i64 0)).setCell ⟨gb453, 11, none⟩ (.int .i64 10000000)).setCell ⟨gb453, 12, none⟩ (.int .i64 0)).setCell ⟨gb453, 13, none⟩ (.int .i64 10000000)).setCell ⟨gb453, 14, none⟩ (.int .i64 0)).setCell ⟨gb453, 0, none⟩ (.int .i64 10040)).setCell ⟨gb453, 1, none⟩ (.int .i64 10160)) = w141 at n0_ n1_ n2_ n3_ n4_ n5_ n6_ n7_ n8_ n9_ n10_ n11_ n12_ n13_ ⊢
             have HO433 := n0_
             have HO436 := n1_
             have BK326 := n2_
             have BK343 := n3_
             have BK344 := n4_
             have BK356 := n5_
             have BK368 := n6_
             have BK380 := n7_
             have BK392 := n8_
             have BK396 := n9_
             have BK400 := n10_
             have BK422 := n11_
             have BK453 := n12_
             have HB := n13_
             clear n0_ n1_ n2_ n3_ n4_ n5_ n6_ n7_ n8_ n9_ n10_ n11_ n12_ n13_
             have n0_ := Aside0.mk (Kd.R_drew HO433.out)
             have n1_ := Aside0.mk (Kd.R_drew HO436.out)
             have n2_ := Aside0.mk (blk_drew BK326.out)
             have n3_ := Aside0.mk (blk_drew BK343.out)
             have n4_ := Aside0.mk (blk_drew BK344.out)
             have n5_ := Aside0.mk (blk_drew BK356.out)
             have n6_ := Aside0.mk (blk_drew BK368.out)
             have n7_ := Aside0.mk (blk_drew BK380.out)
             have n8_ := Aside0.mk (blk_drew BK392.out)
             have n9_ := Aside0.mk (blk_drew BK396.out)
             have n10_ := Aside0.mk (blk_drew BK400.out)
             have n11_ := Aside0.mk (blk_drew BK422.out)
             have n12_ := Aside0.mk (blk_drew BK453.out)
             have n13_ := Aside0.mk (below_drew1 HB.out)
             clear HO433
             clear HO436
             clear BK326
             clear BK343
             clear BK344
             clear BK356
             clear BK368
             clear BK380
             clear BK392
             clear BK396
             clear BK400
             clear BK422
             clear BK453
             clear HB
             have HO433 := n0_
             have HO436 := n1_
             have BK326 := n2_
             have BK343 := n3_
             have BK344 := n4_
             have BK356 := n5_
             have BK368 := n6_
             have BK380 := n7_
             have BK392 := n8_
             have BK396 := n9_
             have BK400 := n10_
             have BK422 := n11_
             have BK453 := n12_
             have HB := n13_
             clear n0_ n1_ n2_ n3_ n4_ n5_ n6_ n7_ n8_ n9_ n10_ n11_ n12_ n13_
             refine start_ (n := 11) (S := fun w' => w'.cell? ⟨gb343, 0, none⟩ = some (.int .i64 10100) ∧ w'.cell? ⟨gb343, 1, none⟩ = some (.int .i64 577) ∧ w'.cell? ⟨gb343, 2, none⟩ = some (.int .i64 577) ∧ w'.cell? ⟨gb343, 3, none⟩ = some (.int .i64 3000) ∧ w'.cell? ⟨gb343, 4, none⟩ = some (.int .i64 3000) ∧ w'.cell? ⟨gb343, 5, none⟩ = some (.int .i64 1) ∧ w'.cell? ⟨gb343, 6, none⟩ = some (.bool false) ∧ w'.cell? ⟨gb343, 7, none⟩ = some (.int .i64 0) ∧ w'.cell? ⟨gb326, 0, none⟩ = some (.int .i64 10000) ∧ w'.cell? ⟨gb326, 1, none⟩ = some (.int .i64 600) ∧ w'.cell? ⟨gb326, 2, none⟩ = some (.int .i64 600) ∧ w'.cell? ⟨gb326, 3, none⟩ = some (.int .i64 3000) ∧ w'.cell? ⟨gb326, 4, none⟩ = some (.int .i64 3000) ∧ w'.cell? ⟨gb326, 5, none⟩ = some (.int .i64 1) ∧ w'.cell? ⟨gb326, 6, none⟩ = some (.bool false) ∧ w'.cell? ⟨gb326, 7, none⟩ = some (.int .i64 0) ∧ w'.cell? ⟨gb453, 0, none⟩ = some (.int .i64 10040) ∧ w'.cell? ⟨gb453, 1, none⟩ = some (.int .i64 10160) ∧ w'.cell? ⟨gb453, 2, none⟩ = some (.int .i64 0) ∧ w'.cell? ⟨gb453, 3, none⟩ = some (.int .i64 10000000) ∧ w'.cell? ⟨gb453, 4, none⟩ = some (.int .i64 0) ∧ w'.cell? ⟨gb453, 5, none⟩ = some (.int .i64 10000000) ∧ w'.cell? ⟨gb453, 6, none⟩ = some (.int .i64 0) ∧ w'.cell? ⟨gb453, 7, none⟩ = some (.int .i64 10000000) ∧ w'.cell? ⟨gb453, 8, none⟩ = some (.int .i64 0) ∧ w'.cell? ⟨gb453, 9, none⟩ = some (.int .i64 10000000) ∧ w'.cell? ⟨gb453, 10, none⟩ = some (.int .i64 0) ∧ w'.cell? ⟨gb453, 11, none⟩ = some (.int .i64 10000000) ∧ w'.cell? ⟨gb453, 12, none⟩ = some (.int .i64 0) ∧ w'.cell? ⟨gb453, 13, none⟩ = some (.int .i64 10000000) ∧ w'.cell? ⟨gb453, 14, none⟩ = some (.int .i64 0)) (ds := []) #[false, false, false, false, false, false, false, false, false, false, false] (by kernel_rfl) rfl rfl ⟨(blk_cell BK343.out 0).trans rfl, (blk_cell BK343.out 1).trans rfl, (blk_cell BK343.out 2).trans rfl, (blk_cell BK343.out 3).trans rfl, (blk_cell BK343.out 4).trans rfl, (blk_cell BK343.out 5).trans rfl, (blk_cell BK343.out 6).trans rfl, (blk_cell BK343.out 7).trans rfl, (blk_cell BK326.out 0).trans rfl, (blk_cell BK326.out 1).trans rfl, (blk_cell BK326.out 2).trans rfl, (blk_cell BK326.out 3).trans rfl, (blk_cell BK326.out 4).trans rfl, (blk_cell BK326.out 5).trans rfl, (blk_cell BK326.out 6).trans rfl, (blk_cell BK326.out 7).trans rfl, (blk_cell BK453.out 0).trans rfl, (blk_cell BK453.out 1).trans rfl, (blk_cell BK453.out 2).trans rfl, (blk_cell BK453.out 3).trans rfl, (blk_cell BK453.out 4).trans rfl, (blk_cell BK453.out 5).trans rfl, (blk_cell BK453.out 6).trans rfl, (blk_cell BK453.out 7).trans rfl, (blk_cell BK453.out 8).trans rfl, (blk_cell BK453.out 9).trans rfl, (blk_cell BK453.out 10).trans rfl, (blk_cell BK453.out 11).trans rfl, (blk_cell BK453.out 12).trans rfl, (blk_cell BK453.out 13).trans rfl, (blk_cell BK453.out 14).trans rfl⟩ (fun hHeld => ?_); refine with_tabW acmelaw01_known.tab16 acmelaw01_known.bits16 (fun HT_ HW_ => ?_)
             generalize w141.drew = w142 at HO433 HO436 BK326 BK343 BK344 BK356 BK368 BK380 BK392 BK396 BK400 BK422 BK453 HB hHeld ⊢
             refine take_ (i := 1) (N := some 88) (v := ?_) (a' := ?_) #[false, true, false, false, false, false, false, false, false, false, false] rfl rfl (take_ofW HT_.out HW_.out (by kernel_rfl)) (fun _ _ _ h => h) (Or.inl ⟨by rfl, ?_⟩) hHeld ?_ ?_
             rotate_left
             ·rintro w' ⟨s0, s1, s2, s3, s4, s5, s6, s7, s8, s9, s10, s11, s12, s13, s14, s15, s16, s17, s18, s19, s20, s21, s22, s23, s24, s25, s26, s27, s28, s29, s30⟩
              go_simp
              with_reducible rfl
             rotate_left
             ·simp only [Act.put, List.setIfInBounds_toArray, List.set_cons_zero, List.set_cons_succ, i64_w, i32_w]
              rfl
             refine take_ (i := 2) (N := some 89) (v := ?_) (a' := ?_) #[false, true, true, false, false, false, false, false, false, false, false] rfl rfl (take_ofW HT_.out HW_.out (by kernel_rfl)) (fun _ _ _ h => h) (Or.inl ⟨by rfl, ?_⟩) hHeld ?_ ?_
             rotate_left
             ·rintro w' ⟨s0, s1, s2, s3, s4, s5, s6, s7, s8, s9, s10, s11, s12, s13, s14, s15, s16, s17, s18, s19, s20, s21, s22, s23, s24, s25, s26, s27, s28, s29, s30⟩
              go_simp
              with_reducible rfl
             rotate_left
             ·simp only [Act.put, List.setIfInBounds_toArray, List.set_cons_zero, List.set_cons_succ, i64_w, i32_w]
              rfl
             refine take_ (i := 4) (N := some 91) (v := ?_) (a' := ?_) #[false, true, true, false, true, false, false, false, false, false, false] rfl rfl (take_ofW HT_.out HW_.out (by kernel_rfl)) (fun _ _ _ h => h) (Or.inl ⟨by rfl, ?_⟩) hHeld ?_ ?_
             rotate_left
             ·rintro w' ⟨s0, s1, s2, s3, s4, s5, s6, s7, s8, s9, s10, s11, s12, s13, s14, s15, s16, s17, s18, s19, s20, s21, s22, s23, s24, s25, s26, s27, s28, s29, s30⟩
              go_simp
              with_reducible rfl
             rotate_left
             ·simp only [Act.put, List.setIfInBounds_toArray, List.set_cons_zero, List.set_cons_succ, i64_w, i32_w]
              rfl
             refine one_ (i := 0) (N := some 87) #[true, true, true, false, true, false, false, false, false, false, false] rfl rfl (one_of HT_.out (by kernel_rfl)) (by decide) (fun K hK => ?_)
             refine goes_ Try.func49 (by kernel_rfl) rfl #[] (by rfl) rfl rfl (by (try simp only [List.map_toArray, List.map_cons, List.map_nil]); first | done | rfl | (simp only [List.length_drop, List.length_take]; rfl)) ?_
             with_reducible refine (acmelaw01_metric.calls  10000 577 577 3000 3000 1 false 0 _ A21.out).mono ?_
             rintro e w143 ⟨rfl, hb⟩
             refine ⟨_, rfl, ?_⟩
             have n0_ := Aside0.mk (Kd.R_below (by (with_reducible repeat (first | apply Kd.R_alloc | apply Kd.R_drewN | apply Kd.R_drew)); exact HO433.out) hb)
             have n1_ := Aside0.mk (Kd.R_below (by (with_reducible repeat (first | apply Kd.R_alloc | apply Kd.R_drewN | apply Kd.R_drew)); exact HO436.out) hb)
             have n2_ := Aside0.mk (blk_below (g := gb326) (o := .cells #[.int .i64 10000, .int .i64 600, .int .i64 600, .int .i64 3000, .int .i64 3000, .int .i64 1, .bool false, .int .i64 0] 23 (0, 0)) (by repeat (first | (with_reducible first | exact BK326.out | refine blk_drewN ?_ _ | refine blk_drew ?_ | refine blk_alloc ?_ _) | exact BK326.out)) hb)
             have n3_ := Aside0.mk (blk_below (g := gb343) (o := .cells #[.int .i64 10100, .int .i64 577, .int .i64 577, .int .i64 3000, .int .i64 3000, .int .i64 1, .bool false, .int .i64 0] 23 (0, 0)) (by repeat (first | (with_reducible first | exact BK343.out | refine blk_drewN ?_ _ | refine blk_drew ?_ | refine blk_alloc ?_ _) | exact BK343.out)) hb)
             have n4_ := Aside0.mk (blk_below (g := gb344) (o := .cells #[.int .i64 10000, .int .i64 577, .int .i64 577, .int .i64 3000, .int .i64 3000, .int .i64 1, .bool false, .int .i64 50] 23 (0, 0)) (by repeat (first | (with_reducible first | exact BK344.out | refine blk_drewN ?_ _ | refine blk_drew ?_ | refine blk_alloc ?_ _) | exact BK344.out)) hb)
             have n5_ := Aside0.mk (blk_below (g := gb356) (o := .cells #[.int .i64 1538, .int .i64 1] 27 (0, 0)) (by repeat (first | (with_reducible first | exact BK356.out | refine blk_drewN ?_ _ | refine blk_drew ?_ | refine blk_alloc ?_ _) | exact BK356.out)) hb)
             have n6_ := Aside0.mk (blk_below (g := gb368) (o := .cells #[.int .i64 2500000, .int .i64 577] 27 (0, 0)) (by repeat (first | (with_reducible first | exact BK368.out | refine blk_drewN ?_ _ | refine blk_drew ?_ | refine blk_alloc ?_ _) | exact BK368.out)) hb)
             have n7_ := Aside0.mk (blk_below (g := gb380) (o := .cells #[.int .i64 9807000, .int .i64 1] 27 (0, 0)) (by repeat (first | (with_reducible first | exact BK380.out | refine blk_drewN ?_ _ | refine blk_drew ?_ | refine blk_alloc ?_ _) | exact BK380.out)) hb)
             have n8_ := Aside0.mk (blk_below (g := gb392) (o := .cells #[.int .i64 2500, .int .i64 1] 27 (0, 0)) (by repeat (first | (with_reducible first | exact BK392.out | refine blk_drewN ?_ _ | refine blk_drew ?_ | refine blk_alloc ?_ _) | exact BK392.out)) hb)
             have n9_ := Aside0.mk (blk_below (g := gb396) (o := .cells #[.int .i64 101000, .int .i64 1] 27 (0, 0)) (by repeat (first | (with_reducible first | exact BK396.out | refine blk_drewN ?_ _ | refine blk_drew ?_ | refine blk_alloc ?_ _) | exact BK396.out)) hb)
             have n10_ := Aside0.mk (blk_below (g := gb400) (o := .cells #[.int .i64 1, .int .i64 2] 27 (0, 0)) (by repeat (first | (with_reducible first | exact BK400.out | refine blk_drewN ?_ _ | refine blk_drew ?_ | refine blk_alloc ?_ _) | exact BK400.out)) hb)
             have n11_ := Aside0.mk (blk_below (g := gb422) (o := .cells #[.int .i64 127, .int .i64 5] 27 (0, 0)) (by repeat (first | (with_reducible first | exact BK422.out | refine blk_drewN ?_ _ | refine blk_drew ?_ | refine blk_alloc ?_ _) | exact BK422.out)) hb)
             have n12_ := Aside0.mk (blk_below (g := gb453) (o := .cells #[.int .i64 10040, .int .i64 10160, .int .i64 0, .int .i64 10000000, .int .i64 0, .int .i64 10000000, .int .i64 0, .int .i64 10000000, .int .i64 0, .int .i64 10000000, .int .i64 0, .int .i64 10000000, .int .i64 0, .int .i64 10000000, .int .i64 0] 53 (0, 0)) (by repeat (first | (with_reducible first | exact BK453.out | refine blk_drewN ?_ _ | refine blk_drew ?_ | refine blk_alloc ?_ _) | exact BK453.out)) hb)
             have n13_ := Aside0.mk (below_step (by repeat (first | (with_reducible first | exact HB.out | apply below_alloc | apply pw_below_drewN | apply below_drew1 | refine below_set ?_ (Aside0.out (by assumption))) | exact HB.out)) hb)
             clear HO433
             clear HO436
             clear BK326
             clear BK343
             clear BK344
             clear BK356
             clear BK368
             clear BK380
             clear BK392
             clear BK396
             clear BK400
             clear BK422
             clear BK453
             clear HB
             have HO433 := n0_
             have HO436 := n1_
             have BK326 := n2_
             have BK343 := n3_
             have BK344 := n4_
             have BK356 := n5_
             have BK368 := n6_
             have BK380 := n7_
             have BK392 := n8_
             have BK396 := n9_
             have BK400 := n10_
             have BK422 := n11_
             have BK453 := n12_
             have HB := n13_
             clear n0_ n1_ n2_ n3_ n4_ n5_ n6_ n7_ n8_ n9_ n10_ n11_ n12_ n13_
             (try clear hb)
             (try clear hb2)
             (try clear hk)
             (try clear hi)
             refine hK.out _ _ ⟨(blk_cell BK343.out 0).trans rfl, (blk_cell BK343.out 1).trans rfl, (blk_cell BK343.out 2).trans rfl, (blk_cell BK343.out 3).trans rfl, (blk_cell BK343.out 4).trans rfl, (blk_cell BK343.out 5).trans rfl, (blk_cell BK343.out 6).trans rfl, (blk_cell BK343.out 7).trans rfl, (blk_cell BK326.out 0).trans rfl, (blk_cell BK326.out 1).trans rfl, (blk_cell BK326.out 2).trans rfl, (blk_cell BK326.out 3).trans rfl, (blk_cell BK326.out 4).trans rfl, (blk_cell BK326.out 5).trans rfl, (blk_cell BK326.out 6).trans rfl, (blk_cell BK326.out 7).trans rfl, (blk_cell BK453.out 0).trans rfl, (blk_cell BK453.out 1).trans rfl, (blk_cell BK453.out 2).trans rfl, (blk_cell BK453.out 3).trans rfl, (blk_cell BK453.out 4).trans rfl, (blk_cell BK453.out 5).trans rfl, (blk_cell BK453.out 6).trans rfl, (blk_cell BK453.out 7).trans rfl, (blk_cell BK453.out 8).trans rfl, (blk_cell BK453.out 9).trans rfl, (blk_cell BK453.out 10).trans rfl, (blk_cell BK453.out 11).trans rfl, (blk_cell BK453.out 12).trans rfl, (blk_cell BK453.out 13).trans rfl, (blk_cell BK453.out 14).trans rfl⟩ (fun hHeld => ?_)
             clear hK K
             refine norm_ (a' := ?_) ?_ ?_
             rotate_left
             ·show Act.put _ (some 87) _ = _
              simp only [Act.put, List.setIfInBounds_toArray, List.set_cons_zero, List.set_cons_succ, i64_w, i32_w]
              rfl
             refine one_ (i := 3) (N := some 90) #[true, true, true, true, true, false, false, false, false, false, false] rfl rfl (one_of HT_.out (by kernel_rfl)) (by decide) (fun K hK => ?_)
             refine Kd.R_lit_step k23 _ 23 ?hg (N := 90) ?hd (xs := ([(⟨10000, 577, 577, 3000, 3000, 1, false, 0⟩ : S23), (⟨10100, 577, 577, 3000, 3000, 1, false, 0⟩ : S23), (⟨10000, 600, 600, 3000, 3000, 1, false, 0⟩ : S23)] : List (S23))) (inner := [.int .i64 10000, .int .i64 577, .int .i64 577, .int .i64 3000, .int .i64 3000, .int .i64 1, .bool false, .int .i64 0, .int .i64 10100, .int .i64 577, .int .i64 577, .int .i64 3000, .int .i64 3000, .int .i64 1, .bool false, .int .i64 0, .int .i64 10000, .int .i64 600, .int .i64 600, .int .i64 3000, .int .i64 3000, .int .i64 1, .bool false, .int .i64 0]) (ok := fun _ => True) (okp := fun _ => True) ?hr ?hp (fun _ hk => hk) trivial (Below.refl _ _) (Nat.le_refl _) (by simp) ?_; (case hd => rfl); (case hg => rfl); (case hr => first | (go_simp; done) | (go_simp; rfl)); (case hp => exact (Reps.c8 (show Kd.M k23 _ _ _ (⟨10000, 577, 577, 3000, 3000, 1, false, 0⟩ : S23) [.int .i64 10000, .int .i64 577, .int .i64 577, .int .i64 3000, .int .i64 3000, .int .i64 1, .bool false, .int .i64 0] from (k23_mkM _ _ _ (⟨10000, 577, 577, 3000, 3000, 1, false, 0⟩ : S23) )) (Reps.c8 (show Kd.M k23 _ _ _ (⟨10100, 577, 577, 3000, 3000, 1, false, 0⟩ : S23) [.int .i64 10100, .int .i64 577, .int .i64 577, .int .i64 3000, .int .i64 3000, .int .i64 1, .bool false, .int .i64 0] from (k23_mkM _ _ _ (⟨10100, 577, 577, 3000, 3000, 1, false, 0⟩ : S23) )) (Reps.c8 (show Kd.M k23 _ _ _ (⟨10000, 600, 600, 3000, 3000, 1, false, 0⟩ : S23) [.int .i64 10000, .int .i64 600, .int .i64 600, .int .i64 3000, .int .i64 3000, .int .i64 1, .bool false, .int .i64 0] from (k23_mkM _ _ _ (⟨10000, 600, 600, 3000, 3000, 1, false, 0⟩ : S23) )) (Reps.none _ _)))))
             intro v463 w144 ho145 hb hg_ hnew_
             clear hg_ hnew_
             (first | rw [← Ny462.out] at ho145 | (simp only [Int.reduceToNat] at ho145; rw [← Ny462.out] at ho145))
             have n0_ := Aside0.mk (Kd.R_elder' (by (with_reducible repeat (first | apply Kd.R_alloc | apply Kd.R_drewN | apply Kd.R_drew)); exact HO433.out) (Kd.R_base ho145) hb)
             have n1_ := Aside0.mk (Kd.R_below (by (with_reducible repeat (first | apply Kd.R_alloc | apply Kd.R_drewN | apply Kd.R_drew)); exact HO436.out) hb)
             have n2_ := Aside0.mk (Kd.R_lower (Kd.R_newB (Kd.R_newB (Kd.R_newB (Kd.R_new' ho145 (Kd.R_lt (by (with_reducible repeat (first | apply Kd.R_alloc | apply Kd.R_drewN | apply Kd.R_drew)); exact HO433.out))) (g := gb326) (o := .cells #[.int .i64 10000, .int .i64 600, .int .i64 600, .int .i64 3000, .int .i64 3000, .int .i64 1, .bool false, .int .i64 0] 23 (0, 0)) (by repeat (first | (with_reducible first | exact BK326.out | refine blk_drewN ?_ _ | refine blk_drew ?_ | refine blk_alloc ?_ _) | exact BK326.out))) (g := gb343) (o := .cells #[.int .i64 10100, .int .i64 577, .int .i64 577, .int .i64 3000, .int .i64 3000, .int .i64 1, .bool false, .int .i64 0] 23 (0, 0)) (by repeat (first | (with_reducible first | exact BK343.out | refine blk_drewN ?_ _ | refine blk_drew ?_ | refine blk_alloc ?_ _) | exact BK343.out))) (g := gb344) (o := .cells #[.int .i64 10000, .int .i64 577, .int .i64 577, .int .i64 3000, .int .i64 3000, .int .i64 1, .bool false, .int .i64 50] 23 (0, 0)) (by repeat (first | (with_reducible first | exact BK344.out | refine blk_drewN ?_ _ | refine blk_drew ?_ | refine blk_alloc ?_ _) | exact BK344.out))) (below_size (by repeat (first | (with_reducible first | exact HB.out | apply below_alloc | apply pw_below_drewN | apply below_drew1 | refine below_set ?_ (Aside0.out (by assumption))) | exact HB.out))))
             have n3_ := Aside0.mk (blk_below (g := gb326) (o := .cells #[.int .i64 10000, .int .i64 600, .int .i64 600, .int .i64 3000, .int .i64 3000, .int .i64 1, .bool false, .int .i64 0] 23 (0, 0)) (by repeat (first | (with_reducible first | exact BK326.out | refine blk_drewN ?_ _ | refine blk_drew ?_ | refine blk_alloc ?_ _) | exact BK326.out)) hb)
             have n4_ := Aside0.mk (blk_below (g := gb343) (o := .cells #[.int .i64 10100, .int .i64 577, .int .i64 577, .int .i64 3000, .int .i64 3000, .int .i64 1, .bool false, .int .i64 0] 23 (0, 0)) (by repeat (first | (with_reducible first | exact BK343.out | refine blk_drewN ?_ _ | refine blk_drew ?_ | refine blk_alloc ?_ _) | exact BK343.out)) hb)
             have n5_ := Aside0.mk (blk_below (g := gb344) (o := .cells #[.int .i64 10000, .int .i64 577, .int .i64 577, .int .i64 3000, .int .i64 3000, .int .i64 1, .bool false, .int .i64 50] 23 (0, 0)) (by repeat (first | (with_reducible first | exact BK344.out | refine blk_drewN ?_ _ | refine blk_drew ?_ | refine blk_alloc ?_ _) | exact BK344.out)) hb)
             have n6_ := Aside0.mk (blk_below (g := gb356) (o := .cells #[.int .i64 1538, .int .i64 1] 27 (0, 0)) (by repeat (first | (with_reducible first | exact BK356.out | refine blk_drewN ?_ _ | refine blk_drew ?_ | refine blk_alloc ?_ _) | exact BK356.out)) hb)
             have n7_ := Aside0.mk (blk_below (g := gb368) (o := .cells #[.int .i64 2500000, .int .i64 577] 27 (0, 0)) (by repeat (first | (with_reducible first | exact BK368.out | refine blk_drewN ?_ _ | refine blk_drew ?_ | refine blk_alloc ?_ _) | exact BK368.out)) hb)
             have n8_ := Aside0.mk (blk_below (g := gb380) (o := .cells #[.int .i64 9807000, .int .i64 1] 27 (0, 0)) (by repeat (first | (with_reducible first | exact BK380.out | refine blk_drewN ?_ _ | refine blk_drew ?_ | refine blk_alloc ?_ _) | exact BK380.out)) hb)
             have n9_ := Aside0.mk (blk_below (g := gb392) (o := .cells #[.int .i64 2500, .int .i64 1] 27 (0, 0)) (by repeat (first | (with_reducible first | exact BK392.out | refine blk_drewN ?_ _ | refine blk_drew ?_ | refine blk_alloc ?_ _) | exact BK392.out)) hb)
             have n10_ := Aside0.mk (blk_below (g := gb396) (o := .cells #[.int .i64 101000, .int .i64 1] 27 (0, 0)) (by repeat (first | (with_reducible first | exact BK396.out | refine blk_drewN ?_ _ | refine blk_drew ?_ | refine blk_alloc ?_ _) | exact BK396.out)) hb)
             have n11_ := Aside0.mk (blk_below (g := gb400) (o := .cells #[.int .i64 1, .int .i64 2] 27 (0, 0)) (by repeat (first | (with_reducible first | exact BK400.out | refine blk_drewN ?_ _ | refine blk_drew ?_ | refine blk_alloc ?_ _) | exact BK400.out)) hb)
             have n12_ := Aside0.mk (blk_below (g := gb422) (o := .cells #[.int .i64 127, .int .i64 5] 27 (0, 0)) (by repeat (first | (with_reducible first | exact BK422.out | refine blk_drewN ?_ _ | refine blk_drew ?_ | refine blk_alloc ?_ _) | exact BK422.out)) hb)
             have n13_ := Aside0.mk (blk_below (g := gb453) (o := .cells #[.int .i64 10040, .int .i64 10160, .int .i64 0, .int .i64 10000000, .int .i64 0, .int .i64 10000000, .int .i64 0, .int .i64 10000000, .int .i64 0, .int .i64 10000000, .int .i64 0, .int .i64 10000000, .int .i64 0, .int .i64 10000000, .int .i64 0] 53 (0, 0)) (by repeat (first | (with_reducible first | exact BK453.out | refine blk_drewN ?_ _ | refine blk_drew ?_ | refine blk_alloc ?_ _) | exact BK453.out)) hb)
             have n14_ := Aside0.mk (below_step (by repeat (first | (with_reducible first | exact HB.out | apply below_alloc | apply pw_below_drewN | apply below_drew1 | refine below_set ?_ (Aside0.out (by assumption))) | exact HB.out)) hb)
             clear HO433
             clear HO436
             clear BK326
             clear BK343
             clear BK344
             clear BK356
             clear BK368
             clear BK380
             clear BK392
             clear BK396
             clear BK400
             clear BK422
             clear BK453
             clear HB
             have HO433 := n0_
             have HO436 := n1_
             have HO464 := n2_
             have BK326 := n3_
             have BK343 := n4_
             have BK344 := n5_
             have BK356 := n6_
             have BK368 := n7_
             have BK380 := n8_
             have BK392 := n9_
             have BK396 := n10_
             have BK400 := n11_
             have BK422 := n12_
             have BK453 := n13_
             have HB := n14_
             clear n0_ n1_ n2_ n3_ n4_ n5_ n6_ n7_ n8_ n9_ n10_ n11_ n12_ n13_ n14_
             clear hb ho145
             obtain ⟨Ao146, co146, eo146⟩ := Kd.R_slice HO464.out
             (first | subst eo146 | (injection eo146 with f1_ f2_ f3_; have f4_ := f1_.symm; have f5_ := f3_.symm; clear f1_ f2_ f3_; subst f4_; subst f5_))
             refine hK.out _ _ ⟨(blk_cell BK343.out 0).trans rfl, (blk_cell BK343.out 1).trans rfl, (blk_cell BK343.out 2).trans rfl, (blk_cell BK343.out 3).trans rfl, (blk_cell BK343.out 4).trans rfl, (blk_cell BK343.out 5).trans rfl, (blk_cell BK343.out 6).trans rfl, (blk_cell BK343.out 7).trans rfl, (blk_cell BK326.out 0).trans rfl, (blk_cell BK326.out 1).trans rfl, (blk_cell BK326.out 2).trans rfl, (blk_cell BK326.out 3).trans rfl, (blk_cell BK326.out 4).trans rfl, (blk_cell BK326.out 5).trans rfl, (blk_cell BK326.out 6).trans rfl, (blk_cell BK326.out 7).trans rfl, (blk_cell BK453.out 0).trans rfl, (blk_cell BK453.out 1).trans rfl, (blk_cell BK453.out 2).trans rfl, (blk_cell BK453.out 3).trans rfl, (blk_cell BK453.out 4).trans rfl, (blk_cell BK453.out 5).trans rfl, (blk_cell BK453.out 6).trans rfl, (blk_cell BK453.out 7).trans rfl, (blk_cell BK453.out 8).trans rfl, (blk_cell BK453.out 9).trans rfl, (blk_cell BK453.out 10).trans rfl, (blk_cell BK453.out 11).trans rfl, (blk_cell BK453.out 12).trans rfl, (blk_cell BK453.out 13).trans rfl, (blk_cell BK453.out 14).trans rfl⟩ (fun hHeld => ?_)
             clear hK K
             refine norm_ (a' := ?_) ?_ ?_
             rotate_left
             ·show Act.put _ (some 90) _ = _
              simp only [Act.put, List.setIfInBounds_toArray, List.set_cons_zero, List.set_cons_succ, i64_w, i32_w]
              rfl
             refine one_ (i := 5) (N := some 92) #[true, true, true, true, true, true, false, false, false, false, false] rfl rfl (one_of HT_.out (by kernel_rfl)) (by decide) (fun K hK => ?_)
             refine goes_ Try.func30 (by kernel_rfl) rfl #[.slice Ao146 y462.length co146, .agg #[.int .i64 10040, .int .i64 10160, .int .i64 0, .int .i64 10000000, .int .i64 0, .int .i64 10000000, .int .i64 0, .int .i64 10000000, .int .i64 0, .int .i64 10000000, .int .i64 0, .int .i64 10000000, .int .i64 0, .int .i64 10000000, .int .i64 0]] (by rfl) rfl rfl (by (try simp only [List.map_toArray, List.map_cons, List.map_nil]); first | done | rfl | (simp only [List.length_drop, List.length_take]; rfl)) ?_
             with_reducible refine (thread_Agree.calls k _ _ y462 10040 10160 0 10000000 0 10000000 0 10000000 0 10000000 0 10000000 0 10000000 0 t465 0 _ ?side1 ?side2 A22.out).mono ?_
             (case side1 => repeat (first | exact (Kd.R_reads' HO464.out).2.2 | (with_reducible refine Kd.C_alloc ?_ _) | (with_reducible refine Kd.C_drewN ?_ _) | (with_reducible refine Kd.C_drew ?_)))
             (case side2 => exact (Kd.R_reads' HO464.out).2.1)
             rintro e w147 ⟨v466, rfl, ho0, hb⟩
             refine ⟨_, rfl, ?_⟩
             have n0_ := Aside0.mk (Kd.R_below (by (with_reducible repeat (first | apply Kd.R_alloc | apply Kd.R_drewN | apply Kd.R_drew)); exact HO433.out) hb)
             have n1_ := Aside0.mk (Kd.R_below (by (with_reducible repeat (first | apply Kd.R_alloc | apply Kd.R_drewN | apply Kd.R_drew)); exact HO436.out) hb)
             have n2_ := Aside0.mk (Kd.R_below (by (with_reducible repeat (first | apply Kd.R_alloc | apply Kd.R_drewN | apply Kd.R_drew)); exact HO464.out) hb)
             have n3_ := Aside0.mk (Kd.R_lower ho0 (below_size (by repeat (first | (with_reducible first | exact HB.out | apply below_alloc | apply pw_below_drewN | apply below_drew1 | refine below_set ?_ (Aside0.out (by assumption))) | exact HB.out))))
             have n4_ := Aside0.mk (blk_below (g := gb326) (o := .cells #[.int .i64 10000, .int .i64 600, .int .i64 600, .int .i64 3000, .int .i64 3000, .int .i64 1, .bool false, .int .i64 0] 23 (0, 0)) (by repeat (first | (with_reducible first | exact BK326.out | refine blk_drewN ?_ _ | refine blk_drew ?_ | refine blk_alloc ?_ _) | exact BK326.out)) hb)
             have n5_ := Aside0.mk (blk_below (g := gb343) (o := .cells #[.int .i64 10100, .int .i64 577, .int .i64 577, .int .i64 3000, .int .i64 3000, .int .i64 1, .bool false, .int .i64 0] 23 (0, 0)) (by repeat (first | (with_reducible first | exact BK343.out | refine blk_drewN ?_ _ | refine blk_drew ?_ | refine blk_alloc ?_ _) | exact BK343.out)) hb)
             have n6_ := Aside0.mk (blk_below (g := gb344) (o := .cells #[.int .i64 10000, .int .i64 577, .int .i64 577, .int .i64 3000, .int .i64 3000, .int .i64 1, .bool false, .int .i64 50] 23 (0, 0)) (by repeat (first | (with_reducible first | exact BK344.out | refine blk_drewN ?_ _ | refine blk_drew ?_ | refine blk_alloc ?_ _) | exact BK344.out)) hb)
             have n7_ := Aside0.mk (blk_below (g := gb356) (o := .cells #[.int .i64 1538, .int .i64 1] 27 (0, 0)) (by repeat (first | (with_reducible first | exact BK356.out | refine blk_drewN ?_ _ | refine blk_drew ?_ | refine blk_alloc ?_ _) | exact BK356.out)) hb)
             have n8_ := Aside0.mk (blk_below (g := gb368) (o := .cells #[.int .i64 2500000, .int .i64 577] 27 (0, 0)) (by repeat (first | (with_reducible first | exact BK368.out | refine blk_drewN ?_ _ | refine blk_drew ?_ | refine blk_alloc ?_ _) | exact BK368.out)) hb)
             have n9_ := Aside0.mk (blk_below (g := gb380) (o := .cells #[.int .i64 9807000, .int .i64 1] 27 (0, 0)) (by repeat (first | (with_reducible first | exact BK380.out | refine blk_drewN ?_ _ | refine blk_drew ?_ | refine blk_alloc ?_ _) | exact BK380.out)) hb)
             have n10_ := Aside0.mk (blk_below (g := gb392) (o := .cells #[.int .i64 2500, .int .i64 1] 27 (0, 0)) (by repeat (first | (with_reducible first | exact BK392.out | refine blk_drewN ?_ _ | refine blk_drew ?_ | refine blk_alloc ?_ _) | exact BK392.out)) hb)
             have n11_ := Aside0.mk (blk_below (g := gb396) (o := .cells #[.int .i64 101000, .int .i64 1] 27 (0, 0)) (by repeat (first | (with_reducible first | exact BK396.out | refine blk_drewN ?_ _ | refine blk_drew ?_ | refine blk_alloc ?_ _) | exact BK396.out)) hb)
             have n12_ := Aside0.mk (blk_below (g := gb400) (o := .cells #[.int .i64 1, .int .i64 2] 27 (0, 0)) (by repeat (first | (with_reducible first | exact BK400.out | refine blk_drewN ?_ _ | refine blk_drew ?_ | refine blk_alloc ?_ _) | exact BK400.out)) hb)
             have n13_ := Aside0.mk (blk_below (g := gb422) (o := .cells #[.int .i64 127, .int .i64 5] 27 (0, 0)) (by repeat (first | (with_reducible first | exact BK422.out | refine blk_drewN ?_ _ | refine blk_drew ?_ | refine blk_alloc ?_ _) | exact BK422.out)) hb)
             have n14_ := Aside0.mk (blk_below (g := gb453) (o := .cells #[.int .i64 10040, .int .i64 10160, .int .i64 0, .int .i64 10000000, .int .i64 0, .int .i64 10000000, .int .i64 0, .int .i64 10000000, .int .i64 0, .int .i64 10000000, .int .i64 0, .int .i64 10000000, .int .i64 0, .int .i64 10000000, .int .i64 0] 53 (0, 0)) (by repeat (first | (with_reducible first | exact BK453.out | refine blk_drewN ?_ _ | refine blk_drew ?_ | refine blk_alloc ?_ _) | exact BK453.out)) hb)
             have n15_ := Aside0.mk (below_step (by repeat (first | (with_reducible first | exact HB.out | apply below_alloc | apply pw_below_drewN | apply below_drew1 | refine below_set ?_ (Aside0.out (by assumption))) | exact HB.out)) hb)
             clear HO433
             clear HO436
             clear HO464
             clear BK326
             clear BK343
             clear BK344
             clear BK356
             clear BK368
             clear BK380
             clear BK392
             clear BK396
             clear BK400
             clear BK422
             clear BK453
             clear HB
             have HO433 := n0_
             have HO436 := n1_
             have HO464 := n2_
             have HO467 := n3_
             have BK326 := n4_
             have BK343 := n5_
             have BK344 := n6_
             have BK356 := n7_
             have BK368 := n8_
             have BK380 := n9_
             have BK392 := n10_
             have BK396 := n11_
             have BK400 := n12_
             have BK422 := n13_
             have BK453 := n14_
             have HB := n15_
             clear n0_ n1_ n2_ n3_ n4_ n5_ n6_ n7_ n8_ n9_ n10_ n11_ n12_ n13_ n14_ n15_
             (try clear hb)
             (try clear hb2)
             (try clear hk)
             (try clear hi)
             (try clear ho0)
             refine hK.out _ _ ⟨(blk_cell BK343.out 0).trans rfl, (blk_cell BK343.out 1).trans rfl, (blk_cell BK343.out 2).trans rfl, (blk_cell BK343.out 3).trans rfl, (blk_cell BK343.out 4).trans rfl, (blk_cell BK343.out 5).trans rfl, (blk_cell BK343.out 6).trans rfl, (blk_cell BK343.out 7).trans rfl, (blk_cell BK326.out 0).trans rfl, (blk_cell BK326.out 1).trans rfl, (blk_cell BK326.out 2).trans rfl, (blk_cell BK326.out 3).trans rfl, (blk_cell BK326.out 4).trans rfl, (blk_cell BK326.out 5).trans rfl, (blk_cell BK326.out 6).trans rfl, (blk_cell BK326.out 7).trans rfl, (blk_cell BK453.out 0).trans rfl, (blk_cell BK453.out 1).trans rfl, (blk_cell BK453.out 2).trans rfl, (blk_cell BK453.out 3).trans rfl, (blk_cell BK453.out 4).trans rfl, (blk_cell BK453.out 5).trans rfl, (blk_cell BK453.out 6).trans rfl, (blk_cell BK453.out 7).trans rfl, (blk_cell BK453.out 8).trans rfl, (blk_cell BK453.out 9).trans rfl, (blk_cell BK453.out 10).trans rfl, (blk_cell BK453.out 11).trans rfl, (blk_cell BK453.out 12).trans rfl, (blk_cell BK453.out 13).trans rfl, (blk_cell BK453.out 14).trans rfl⟩ (fun hHeld => ?_)
             clear hK K
             refine norm_ (a' := ?_) ?_ ?_
             rotate_left
             ·show Act.put _ (some 92) _ = _
              simp only [Act.put, List.setIfInBounds_toArray, List.set_cons_zero, List.set_cons_succ, i64_w, i32_w]
              rfl
             refine pure_ (i := 6) (N := some 86) (v := ?_) (a' := ?_) #[true, true, true, true, true, true, true, false, false, false, false] rfl rfl (any_of HT_.out (by kernel_rfl)) (fun _ _ _ h => h) (Or.inl ⟨by rfl, ?_⟩) ?_ ?_
             rotate_left
             ·intro w'
              go_simp
              with_reducible rfl
             rotate_left
             ·simp only [Act.put, List.setIfInBounds_toArray, List.set_cons_zero, List.set_cons_succ, i64_w, i32_w]
              rfl
             refine pure_ (i := 7) (N := some 93) (v := ?_) (a' := ?_) #[true, true, true, true, true, true, true, true, false, false, false] rfl rfl (any_of HT_.out (by kernel_rfl)) (fun _ _ _ h => h) (Or.inl ⟨by rfl, ?_⟩) ?_ ?_
             rotate_left
             ·intro w'
              go_simp
              with_reducible rfl
             rotate_left
             ·simp only [Act.put, List.setIfInBounds_toArray, List.set_cons_zero, List.set_cons_succ, i64_w, i32_w]
              rfl
             refine pure_ (i := 8) (N := some 94) (v := ?_) (a' := ?_) #[true, true, true, true, true, true, true, true, true, false, false] rfl rfl (any_of HT_.out (by kernel_rfl)) (fun _ _ _ h => h) (Or.inl ⟨by rfl, ?_⟩) ?_ ?_
             rotate_left
             ·intro w'
              go_simp
              with_reducible rfl
             rotate_left
             ·simp only [Act.put, List.setIfInBounds_toArray, List.set_cons_zero, List.set_cons_succ, i64_w, i32_w]
              rfl
             refine pure_ (i := 9) (N := some 23) (v := ?_) (a' := ?_) #[true, true, true, true, true, true, true, true, true, true, false] rfl rfl (any_of HT_.out (by kernel_rfl)) (fun _ _ _ h => h) (Or.inl ⟨by rfl, ?_⟩) ?_ ?_
             rotate_left
             ·intro w'
              go_simp
              with_reducible rfl
             rotate_left
             ·simp only [Act.put, List.setIfInBounds_toArray, List.set_cons_zero, List.set_cons_succ, i64_w, i32_w]
              rfl
             refine pure_ (i := 10) (N := some 24) (v := ?_) (a' := ?_) #[true, true, true, true, true, true, true, true, true, true, true] rfl rfl (any_of HT_.out (by kernel_rfl)) (fun _ _ _ h => h) (Or.inl ⟨by rfl, ?_⟩) ?_ ?_
             rotate_left
             ·intro w'
              go_simp
              with_reducible rfl
             rotate_left
             ·simp only [Act.put, List.setIfInBounds_toArray, List.set_cons_zero, List.set_cons_succ, i64_w, i32_w]
              rfl
             refine done_ (done_of HT_.out (by kernel_rfl)) ?_
             obtain ⟨Ao148, co148, eo148⟩ := Kd.R_slice HO436.out
             subst eo148
             obtain ⟨Ao149, co149, eo149⟩ := Kd.R_slice HO467.out
             subst eo149
             obtain ⟨hcz150_0, hcz150_1⟩ := bc2 BK356.out
             obtain ⟨hfz150_0, hfz150_1⟩ := bf2 BK356.out
             obtain ⟨hcz151_0, hcz151_1⟩ := bc2 BK368.out
             obtain ⟨hfz151_0, hfz151_1⟩ := bf2 BK368.out
             obtain ⟨hcz152_0, hcz152_1⟩ := bc2 BK380.out
             obtain ⟨hfz152_0, hfz152_1⟩ := bf2 BK380.out
             obtain ⟨hcz153_0, hcz153_1⟩ := bc2 BK392.out
             obtain ⟨hfz153_0, hfz153_1⟩ := bf2 BK392.out
             obtain ⟨hcz154_0, hcz154_1⟩ := bc2 BK396.out
             obtain ⟨hfz154_0, hfz154_1⟩ := bf2 BK396.out
             obtain ⟨hcz155_0, hcz155_1⟩ := bc2 BK400.out
             obtain ⟨hfz155_0, hfz155_1⟩ := bf2 BK400.out
             obtain ⟨hcz156_0, hcz156_1⟩ := bc2 BK422.out
             obtain ⟨hfz156_0, hfz156_1⟩ := bf2 BK422.out
             have p469 : 0 ≤ (0 : Int) := (by omega)
             have q469 : 0 < (t434.length : Int) := of_decide_eq_true (by first | (with_reducible assumption) | assumption)
             obtain ⟨ad469, e469, hx469_0, hx469_1⟩ := at_T67 (Kd.R_reads' HO436.out).2.2 0 p469 q469
             cases e469
             have qi469 : (0 < t434.length) = True := eq_true (by omega)
             (try rw [show ((0 : Int)).toNat = 0 from rfl] at hx469_0)
             (try rw [show 0 * 2 = 0 from rfl] at hx469_0)
             (try rw [Addr.add_zero'] at hx469_0)
             (try rw [show ((0 : Int)).toNat = 0 from rfl] at hx469_1)
             (try rw [show 0 * 2 = 0 from rfl] at hx469_1)
             (try rw [Addr.add_zero'] at hx469_1)
             replace p469 := eq_true p469
             replace q469 := eq_true q469
             have p470 : 0 ≤ (0 : Int) := (by omega)
             have q470 : 0 < (t465.length : Int) := of_decide_eq_true (by first | (with_reducible assumption) | assumption)
             obtain ⟨ad470, e470, hx470_0⟩ := Kd.at_int (Kd.R_reads' HO467.out).2.2 0 p470 q470
             cases e470
             have qi470 : (0 < t465.length) = True := eq_true (by omega)
             (try rw [show ((0 : Int)).toNat = 0 from rfl] at hx470_0)
             (try rw [Addr.add_zero'] at hx470_0)
             replace p470 := eq_true p470
             replace q470 := eq_true q470
             try go_wp2
             go_ret
             exact ⟨by first | rfl | (simp [errW_none, errW_some] <;> rfl) | (simp [*, errW_none, errW_some] <;> rfl), by repeat (first | (with_reducible first | exact HB.out | apply below_alloc | apply pw_below_drewN | apply below_drew1 | refine below_set ?_ (Aside0.out (by assumption))) | exact HB.out)⟩
            ·rw [if_neg c34] at H
             exact absurd H (by simp)
           ·rw [if_neg c33] at H
            exact absurd H (by simp)
          ·rw [if_neg c32] at H
           exact absurd H (by simp)
         ·rw [if_neg c31] at H
          exact absurd H (by simp)
        ·rw [if_neg c30] at H
         exact absurd H (by simp)
       ·rw [if_neg c29] at H
        exact absurd H (by simp)
      ·rw [if_neg c28] at H
       exact absurd H (by simp)
     ·rw [if_neg c27] at H
      exact absurd H (by simp)
    ·rw [if_neg c26] at H
     exact absurd H (by simp)
   ·rw [if_neg c25] at H
    exact absurd H (by simp)
  ·rw [if_neg c24] at H
   exact absurd H (by simp)
 ·rw [if_neg c23] at H
  exact absurd H (by simp)

end Go.Proofs.Yticbhgjenidjlaa.T
