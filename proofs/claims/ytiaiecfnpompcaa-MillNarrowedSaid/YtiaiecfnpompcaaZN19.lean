-- cut down, squeezed and laid together by pack.py (a program of this repository) out of this seat's texts
import Derived.WalkKit
import Derived.MapKept
import Derived.RangeFuncNested
import Derived.RangeFuncBound
import Derived.RangeFuncCalls
import Derived.RangeFuncLeaves
import Derived.Shelf.Abstract
import Derived.Shelf.RegionOpen
import Derived.OwnWalkIn
import Derived.TacticsInMore
import Derived.LoopNIn
import Derived.LoopIn
import Derived.ChangeKeysEq
import Derived.Test.YtiaiecfnpompcaaZN14
import Derived.Test.YtiaiecfnpompcaaZN16
import Derived.Test.YtiaiecfnpompcaaZN11
import Derived.Test.YtiaiecfnpompcaaZN2
import Derived.Test.YtiaiecfnpompcaaZN9
import Derived.Test.YtiaiecfnpompcaaZN5
import Derived.Test.YtiaiecfnpompcaaZN8
import Derived.Test.YtiaiecfnpompcaaZN10
import Derived.Test.YtiaiecfnpompcaaZN15
import Derived.Test.YtiaiecfnpompcaaZN4
import Derived.Test.YtiaiecfnpompcaaZN7
import Derived.Test.YtiaiecfnpompcaaZN3
import Derived.Test.YtiaiecfnpompcaaZN6
import Derived.Test.YtiaiecfnpompcaaZN1
namespace Go.Proofs.Ytiaiecfnpompcaa.T
open Go.RowKit Go.Proofs.YtiaiecfnpompcaaW.PrintWords
set_option linter.unusedVariables false
set_option linter.unusedSimpArgs false
def meetsR (x : S144) (m f t : Int) : Prop := x.f0 = m ∧ mx x.f1 f ≤ mn x.f2 t
instance (x : S144) (m f t : Int) : Decidable (meetsR x m f t) := by unfold meetsR; infer_instance
def apart (x y : S144) : Prop := ¬ (x.f0 = y.f0 ∧ x.f1 ≤ y.f2 ∧ y.f1 ≤ x.f2)
def covered (l : List S144) (m h : Int) : Prop := ∃ x ∈ l, x.f0 = m ∧ x.f1 ≤ h ∧ h ≤ x.f2
instance (l : List S144) (m h : Int) : Decidable (covered l m h) := by unfold covered; infer_instance
end Go.Proofs.Ytiaiecfnpompcaa.T
