-- cut down, squeezed and laid together by pack.py (a program of this repository) out of this seat's texts
import Derived.WalkKit
import Derived.MapKept
import Derived.RangeFuncNested
import Derived.RangeFuncBound
import Derived.RangeFuncCalls
import Derived.RangeFuncLeaves
import Derived.Shelf.Abstract
import Derived.Shelf.RegionOpen
import Derived.OwnWalkIn
import Derived.TacticsInMore
import Derived.LoopNIn
import Derived.LoopIn
import Derived.ChangeKeysEq
import Derived.Test.YtiaiecfnpompcaaZT11
import Derived.Test.YtiaiecfnpompcaaZT13
import Derived.Test.YtiaiecfnpompcaaZT2
import Derived.Test.YtiaiecfnpompcaaZT9
import Derived.Test.YtiaiecfnpompcaaZT5
import Derived.Test.YtiaiecfnpompcaaZT8
import Derived.Test.YtiaiecfnpompcaaZT14
import Derived.Test.YtiaiecfnpompcaaZT10
import Derived.Test.YtiaiecfnpompcaaZT12
import Derived.Test.YtiaiecfnpompcaaZT4
import Derived.Test.YtiaiecfnpompcaaZT7
import Derived.Test.YtiaiecfnpompcaaZT3
import Derived.Test.YtiaiecfnpompcaaZT6
import Derived.Test.YtiaiecfnpompcaaZT1
namespace Go.Proofs.Ytiaiecfnpompcaa.T
open Go.RowKit Go.Maps Go.Proofs.YtiaiecfnpompcaaW.PrintWords Go.Proofs.YtiaiecfnpompcaaW.PrintLast Go.Proofs.YtiaiecfnpompcaaW.PrintMore
set_option linter.unusedVariables false
def hasO (r : List S144) (y : S58) (z : S79) : Option Bool := acmelaw12_has.f 1000 r y.f0 y.f1 y.f2 z.f0 z.f1 z.f2
def hasV (r : List S144) (y : S58) (z : S79) : Bool := (hasO r y z).getD false
def tailB (r : List S144) (lots bad : List S58) (c first : List S79) (x : S79) : Bool :=
 decide (0 < bad.length) && (decide (c.length ≤ 1000000 ∧ first.length ≤ 1000000 ∧ lots.length ≤ 1000000) &&
  ((lots.all fun y => (x :: first).all fun z => (hasO r y z).isSome) &&
   ((first.all fun z => (lots.all fun y => hasV r y z == hasV r y x) == decide (z ∈ c)) &&
    ((first.all fun z => hasO r (rd_T58 bad 0) z == some true) && (c.all okCb && (first.all okCb && (decide c.Nodup && (decide first.Nodup && ((c.all fun z => decide (z ∈ first)) && decide (x ∈ c))))))))))
def tailF (r : List S144) (lots bad : List S58) (c first : List S79) (x : S79) : Option Bool := if tailB r lots bad c first x = true then some true else none
theorem tailB_iff (r : List S144) (lots bad : List S58) (c first : List S79) (x : S79) : tailB r lots bad c first x = true ↔
  0 < bad.length ∧ (c.length ≤ 1000000 ∧ first.length ≤ 1000000 ∧ lots.length ≤ 1000000) ∧
   (∀ y ∈ lots, ∀ z, z ∈ first ∨ z = x → acmelaw12_has.f 1000 r y.f0 y.f1 y.f2 z.f0 z.f1 z.f2 = some (hasV r y z)) ∧ (∀ z ∈ first, (lots.all fun y => hasV r y z == hasV r y x) = decide (z ∈ c)) ∧
   (∀ z ∈ first, acmelaw12_has.f 1000 r (rd_T58 bad 0).f0 (rd_T58 bad 0).f1 (rd_T58 bad 0).f2 z.f0 z.f1 z.f2 = some true) ∧ (∀ z ∈ c, okC z) ∧ (∀ z ∈ first, okC z) ∧ c.Nodup ∧ first.Nodup ∧ (∀ z ∈ c, z ∈ first) ∧ x ∈ c := by
 unfold tailB
 have e1 : ∀ o : Option Bool, o.isSome = true ↔ o = some (o.getD false) := fun o => by cases o <;> simp
 have e2 : ∀ z : S79, okCb z = true ↔ okC z := fun z => by unfold okCb okC; rw [Bool.and_eq_true, Bool.and_eq_true]
 have e3 : (lots.all fun y => (x :: first).all fun z => (hasO r y z).isSome) = true ↔ ∀ y ∈ lots, ∀ z, z ∈ first ∨ z = x → acmelaw12_has.f 1000 r y.f0 y.f1 y.f2 z.f0 z.f1 z.f2 = some (hasV r y z) := by
  rw [List.all_eq_true]
  constructor
  ·intro h y hy z hz
   have h1 := List.all_eq_true.1 (h y hy) z (by rcases hz with h | h; exact List.mem_cons_of_mem _ h; rw [h]; exact List.mem_cons_self)
   exact (e1 _).1 h1
  ·intro h y hy
   rw [List.all_eq_true]
   intro z hz
   refine (e1 _).2 (h y hy z ?_)
   rcases List.mem_cons.1 hz with h | h
   ·exact Or.inr h
   ·exact Or.inl h
 simp only [Bool.and_eq_true, decide_eq_true_eq, List.all_eq_true (l := first), List.all_eq_true (l := c), beq_iff_eq, e2]
 rw [e3]
 exact Iff.rfl
theorem tailF_iff {r : List S144} {lots bad : List S58} {c first : List S79} {x : S79} {b : Bool} : tailF r lots bad c first x = some b ↔ tailB r lots bad c first x = true ∧ b = true := by
 unfold tailF
 split
 ·rename_i h; simp [h, eq_comm]
 ·rename_i h; simp [h]
end Go.Proofs.Ytiaiecfnpompcaa.T
