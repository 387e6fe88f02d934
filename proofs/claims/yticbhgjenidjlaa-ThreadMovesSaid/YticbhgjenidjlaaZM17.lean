-- cut down, squeezed and laid together by pack.py (a program of this repository) out of this seat's texts
import Derived.ChangeKeysEq
import Derived.Below
import Derived.Deep.Draws
import Derived.Deep.AppendLies
import Derived.Maps.AppendAt
import Derived.OwnWalk
import Derived.Laws.BytesArg
import Derived.Laws.MakeOwn
import Derived.Laws.OwnMore
import Derived.Deep.OwnRows
import Derived.Tactics
import Derived.Lib.ConvBytes
import Derived.Laws.Slices
import Derived.WalkKit
import Derived.KernelRfl
import Derived.RowKit3
import Derived.Deep.LoopGhost
import Derived.Deep.QuietTactic
import Derived.BigQuiet
import Derived.WideLaws
import Derived.Deep.DeepCutAuto
import Derived.Deep.CutBlock
import Derived.Deep.RegionHeld3
import Derived.Laws.Rows
import Derived.Lib.AppendStr
import Derived.ArgAppend
import Derived.Laws.IdiomCopy
import Derived.OrdersHeld
import Derived.Laws.BitsLemmas
import Derived.RowKit
import Derived.Test.YticbhgjenidjlaaProg
import Derived.Laws.StructEq
import Derived.Test.YticbhgjenidjlaaZM1
import Derived.Test.YticbhgjenidjlaaZM9
import Derived.Test.YticbhgjenidjlaaZM15
import Derived.Test.YticbhgjenidjlaaZM14
import Derived.Test.YticbhgjenidjlaaZM3
import Derived.Test.YticbhgjenidjlaaZM12
import Derived.Test.YticbhgjenidjlaaZM13
import Derived.Test.YticbhgjenidjlaaZM16
import Derived.Test.YticbhgjenidjlaaZM11
import Derived.Test.YticbhgjenidjlaaZM10
import Derived.Test.YticbhgjenidjlaaZM8
import Derived.Test.YticbhgjenidjlaaZM7
import Derived.Test.YticbhgjenidjlaaZM4
import Derived.Test.YticbhgjenidjlaaZM6
import Derived.Test.YticbhgjenidjlaaZM5
import Derived.Test.YticbhgjenidjlaaZM2
namespace Go.Proofs.Yticbhgjenidjlaa.T.RThreadMoves
open Go Go.RowKit Go.Proofs.Yticbhgjenidjlaa.Ab Go.Proofs.Yticbhgjenidjlaa.T
set_option linter.unusedVariables false
section
variable {R : Type} (g23 : Int → Int → Int → Int → Int → Int → Bool → Int → Int → Option (Int × Int × Int)) (g24 : Int → Int → Int → Int → Int → Int → Bool → Int → Option (Int × Int × Int)) (g25 : Int → Int → Int → Int → Int → Int → Bool → Int → Int → Int → Option (Int × Int × Int)) (g26 : Int → Int → Int → Int → Int → Int → Bool → Int → Int → Int → Option (Int × Int × Int)) (g17 : Int → Int → Int → Int → Int → Int → Bool → Int → Option (Bool)) (g18 : Option (Bool)) (g20 : Int → Int → Option (Int × Int))
def openK (f : FuncId) : Option (List Value → (Value → Option R) → Option R) :=
  match f with
  | 23 => some fun args c => popA args fun q args => popI q fun a0_0 q => popI q fun a0_1 q => popI q fun a0_2 q => popI q fun a0_3 q => popI q fun a0_4 q => popI q fun a0_5 q => popB q fun a0_6 q => popI q fun a0_7 q => nil1 q <| popI args fun a1 args => nil1 args <| (g23 a0_0 a0_1 a0_2 a0_3 a0_4 a0_5 a0_6 a0_7 a1).bind fun r => c (.tuple ⟨[.agg ⟨[.int .i64 r.1, .int .i64 r.2.1]⟩, .int .i64 r.2.2]⟩)
  | 24 => some fun args c => popA args fun q args => popI q fun a0_0 q => popI q fun a0_1 q => popI q fun a0_2 q => popI q fun a0_3 q => popI q fun a0_4 q => popI q fun a0_5 q => popB q fun a0_6 q => popI q fun a0_7 q => nil1 q <| nil1 args <| (g24 a0_0 a0_1 a0_2 a0_3 a0_4 a0_5 a0_6 a0_7).bind fun r => c (.tuple ⟨[.agg ⟨[.int .i64 r.1, .int .i64 r.2.1]⟩, .int .i64 r.2.2]⟩)
  | 25 => some fun args c => popA args fun q args => popI q fun a0_0 q => popI q fun a0_1 q => popI q fun a0_2 q => popI q fun a0_3 q => popI q fun a0_4 q => popI q fun a0_5 q => popB q fun a0_6 q => popI q fun a0_7 q => nil1 q <| popI args fun a1 args => popI args fun a2 args => nil1 args <| (g25 a0_0 a0_1 a0_2 a0_3 a0_4 a0_5 a0_6 a0_7 a1 a2).bind fun r => c (.tuple ⟨[.agg ⟨[.int .i64 r.1, .int .i64 r.2.1]⟩, .int .i64 r.2.2]⟩)
  | 26 => some fun args c => popA args fun q args => popI q fun a0_0 q => popI q fun a0_1 q => popI q fun a0_2 q => popI q fun a0_3 q => popI q fun a0_4 q => popI q fun a0_5 q => popB q fun a0_6 q => popI q fun a0_7 q => nil1 q <| popI args fun a1 args => popI args fun a2 args => nil1 args <| (g26 a0_0 a0_1 a0_2 a0_3 a0_4 a0_5 a0_6 a0_7 a1 a2).bind fun r => c (.tuple ⟨[.agg ⟨[.int .i64 r.1, .int .i64 r.2.1]⟩, .int .i64 r.2.2]⟩)
  | 17 => some fun args c => popA args fun q args => popI q fun a0_0 q => popI q fun a0_1 q => popI q fun a0_2 q => popI q fun a0_3 q => popI q fun a0_4 q => popI q fun a0_5 q => popB q fun a0_6 q => popI q fun a0_7 q => nil1 q <| nil1 args <| (g17 a0_0 a0_1 a0_2 a0_3 a0_4 a0_5 a0_6 a0_7).bind fun r => c (.bool r)
  | 18 => some fun args c => nil1 args <| (g18).bind fun r => c (.bool r)
  | 20 => some fun args c => popI args fun a0 args => popI args fun a1 args => nil1 args <| (g20 a0 a1).bind fun r => c (.agg ⟨[.int .i64 r.1, .int .i64 r.2]⟩)
  | _ => none
end
noncomputable def orcK {R : Type} (k : Nat) : FuncId → Option (List Value → (Value → Option R) → Option R) := openK (thread_Advance.f k) (thread_PerInch.f k) (thread_Diameter.f k) (thread_Meets.f k) (acmeref01_Form.f k) acmelaw01_known.f (acmeref01_Lowest.f k)
noncomputable def orc (k : Nat) (f : FuncId) : Option (List Value → Option Value) := (orcK (R := Value) k f).map fun g args => g args some
theorem orc_le {R : Type} (k : Nat) : OrcLe (R := R) (orc k) (orcK k) := by
  intro f
  unfold orc orcK openK
  split
  · exact .inr ⟨_, _, rfl, rfl, fun args c => popA_le fun q args => popI_le fun a0_0 q => popI_le fun a0_1 q => popI_le fun a0_2 q => popI_le fun a0_3 q => popI_le fun a0_4 q => popI_le fun a0_5 q => popB_le fun a0_6 q => popI_le fun a0_7 q => nil1_le <| popI_le fun a1 args => nil1_le <| bind_le _ _ _⟩
  · exact .inr ⟨_, _, rfl, rfl, fun args c => popA_le fun q args => popI_le fun a0_0 q => popI_le fun a0_1 q => popI_le fun a0_2 q => popI_le fun a0_3 q => popI_le fun a0_4 q => popI_le fun a0_5 q => popB_le fun a0_6 q => popI_le fun a0_7 q => nil1_le <| nil1_le <| bind_le _ _ _⟩
  · exact .inr ⟨_, _, rfl, rfl, fun args c => popA_le fun q args => popI_le fun a0_0 q => popI_le fun a0_1 q => popI_le fun a0_2 q => popI_le fun a0_3 q => popI_le fun a0_4 q => popI_le fun a0_5 q => popB_le fun a0_6 q => popI_le fun a0_7 q => nil1_le <| popI_le fun a1 args => popI_le fun a2 args => nil1_le <| bind_le _ _ _⟩
  · exact .inr ⟨_, _, rfl, rfl, fun args c => popA_le fun q args => popI_le fun a0_0 q => popI_le fun a0_1 q => popI_le fun a0_2 q => popI_le fun a0_3 q => popI_le fun a0_4 q => popI_le fun a0_5 q => popB_le fun a0_6 q => popI_le fun a0_7 q => nil1_le <| popI_le fun a1 args => popI_le fun a2 args => nil1_le <| bind_le _ _ _⟩
  · exact .inr ⟨_, _, rfl, rfl, fun args c => popA_le fun q args => popI_le fun a0_0 q => popI_le fun a0_1 q => popI_le fun a0_2 q => popI_le fun a0_3 q => popI_le fun a0_4 q => popI_le fun a0_5 q => popB_le fun a0_6 q => popI_le fun a0_7 q => nil1_le <| nil1_le <| bind_le _ _ _⟩
  · exact .inr ⟨_, _, rfl, rfl, fun args c => nil1_le <| bind_le _ _ _⟩
  · exact .inr ⟨_, _, rfl, rfl, fun args c => popI_le fun a0 args => popI_le fun a1 args => nil1_le <| bind_le _ _ _⟩
  · exact .inl ⟨rfl, rfl⟩
theorem orc_ok (k : Nat) : OrcOK Try.prog (orc k) := by
  intro f g args v hf h
  unfold orc orcK openK at hf
  obtain ⟨gK, h1, rfl⟩ := Option.map_eq_some_iff.mp hf
  split at h1
  · simp only [Option.some.injEq] at h1
    subst h1
    dsimp only at h
    replace h := popA_some h
    obtain ⟨q, args, rfl, h⟩ := h
    replace h := popI_some h
    obtain ⟨a0_0, q, rfl, h⟩ := h
    replace h := popI_some h
    obtain ⟨a0_1, q, rfl, h⟩ := h
    replace h := popI_some h
    obtain ⟨a0_2, q, rfl, h⟩ := h
    replace h := popI_some h
    obtain ⟨a0_3, q, rfl, h⟩ := h
    replace h := popI_some h
    obtain ⟨a0_4, q, rfl, h⟩ := h
    replace h := popI_some h
    obtain ⟨a0_5, q, rfl, h⟩ := h
    replace h := popB_some h
    obtain ⟨a0_6, q, rfl, h⟩ := h
    replace h := popI_some h
    obtain ⟨a0_7, q, rfl, h⟩ := h
    replace h := nil1_some h
    obtain ⟨rfl, h⟩ := h
    replace h := popI_some h
    obtain ⟨a1, args, rfl, h⟩ := h
    replace h := nil1_some h
    obtain ⟨rfl, h⟩ := h
    obtain ⟨⟨r1, r2, r3⟩, h1, h2⟩ := Option.bind_eq_some_iff.mp h
    simp only [Option.some.injEq] at h2
    subst h2
    exact ⟨⟨_, Try.func23, rfl⟩, rfl, rfl, fun w => thread_Advance.calls k a0_0 a0_1 a0_2 a0_3 a0_4 a0_5 a0_6 a0_7 a1 r1 r2 r3 w h1⟩
  · simp only [Option.some.injEq] at h1
    subst h1
    dsimp only at h
    replace h := popA_some h
    obtain ⟨q, args, rfl, h⟩ := h
    replace h := popI_some h
    obtain ⟨a0_0, q, rfl, h⟩ := h
    replace h := popI_some h
    obtain ⟨a0_1, q, rfl, h⟩ := h
    replace h := popI_some h
    obtain ⟨a0_2, q, rfl, h⟩ := h
    replace h := popI_some h
    obtain ⟨a0_3, q, rfl, h⟩ := h
    replace h := popI_some h
    obtain ⟨a0_4, q, rfl, h⟩ := h
    replace h := popI_some h
    obtain ⟨a0_5, q, rfl, h⟩ := h
    replace h := popB_some h
    obtain ⟨a0_6, q, rfl, h⟩ := h
    replace h := popI_some h
    obtain ⟨a0_7, q, rfl, h⟩ := h
    replace h := nil1_some h
    obtain ⟨rfl, h⟩ := h
    replace h := nil1_some h
    obtain ⟨rfl, h⟩ := h
    obtain ⟨⟨r1, r2, r3⟩, h1, h2⟩ := Option.bind_eq_some_iff.mp h
    simp only [Option.some.injEq] at h2
    subst h2
    exact ⟨⟨_, Try.func24, rfl⟩, rfl, rfl, fun w => thread_PerInch.calls k a0_0 a0_1 a0_2 a0_3 a0_4 a0_5 a0_6 a0_7 r1 r2 r3 w h1⟩
  · simp only [Option.some.injEq] at h1
    subst h1
    dsimp only at h
    replace h := popA_some h
    obtain ⟨q, args, rfl, h⟩ := h
    replace h := popI_some h
    obtain ⟨a0_0, q, rfl, h⟩ := h
    replace h := popI_some h
    obtain ⟨a0_1, q, rfl, h⟩ := h
    replace h := popI_some h
    obtain ⟨a0_2, q, rfl, h⟩ := h
    replace h := popI_some h
    obtain ⟨a0_3, q, rfl, h⟩ := h
    replace h := popI_some h
    obtain ⟨a0_4, q, rfl, h⟩ := h
    replace h := popI_some h
    obtain ⟨a0_5, q, rfl, h⟩ := h
    replace h := popB_some h
    obtain ⟨a0_6, q, rfl, h⟩ := h
    replace h := popI_some h
    obtain ⟨a0_7, q, rfl, h⟩ := h
    replace h := nil1_some h
    obtain ⟨rfl, h⟩ := h
    replace h := popI_some h
    obtain ⟨a1, args, rfl, h⟩ := h
    replace h := popI_some h
    obtain ⟨a2, args, rfl, h⟩ := h
    replace h := nil1_some h
    obtain ⟨rfl, h⟩ := h
    obtain ⟨⟨r1, r2, r3⟩, h1, h2⟩ := Option.bind_eq_some_iff.mp h
    simp only [Option.some.injEq] at h2
    subst h2
    exact ⟨⟨_, Try.func25, rfl⟩, rfl, rfl, fun w => thread_Diameter.calls k a0_0 a0_1 a0_2 a0_3 a0_4 a0_5 a0_6 a0_7 a1 a2 r1 r2 r3 w h1⟩
  · simp only [Option.some.injEq] at h1
    subst h1
    dsimp only at h
    replace h := popA_some h
    obtain ⟨q, args, rfl, h⟩ := h
    replace h := popI_some h
    obtain ⟨a0_0, q, rfl, h⟩ := h
    replace h := popI_some h
    obtain ⟨a0_1, q, rfl, h⟩ := h
    replace h := popI_some h
    obtain ⟨a0_2, q, rfl, h⟩ := h
    replace h := popI_some h
    obtain ⟨a0_3, q, rfl, h⟩ := h
    replace h := popI_some h
    obtain ⟨a0_4, q, rfl, h⟩ := h
    replace h := popI_some h
    obtain ⟨a0_5, q, rfl, h⟩ := h
    replace h := popB_some h
    obtain ⟨a0_6, q, rfl, h⟩ := h
    replace h := popI_some h
    obtain ⟨a0_7, q, rfl, h⟩ := h
    replace h := nil1_some h
    obtain ⟨rfl, h⟩ := h
    replace h := popI_some h
    obtain ⟨a1, args, rfl, h⟩ := h
    replace h := popI_some h
    obtain ⟨a2, args, rfl, h⟩ := h
    replace h := nil1_some h
    obtain ⟨rfl, h⟩ := h
    obtain ⟨⟨r1, r2, r3⟩, h1, h2⟩ := Option.bind_eq_some_iff.mp h
    simp only [Option.some.injEq] at h2
    subst h2
    exact ⟨⟨_, Try.func26, rfl⟩, rfl, rfl, fun w => thread_Meets.calls k a0_0 a0_1 a0_2 a0_3 a0_4 a0_5 a0_6 a0_7 a1 a2 r1 r2 r3 w h1⟩
  · simp only [Option.some.injEq] at h1
    subst h1
    dsimp only at h
    replace h := popA_some h
    obtain ⟨q, args, rfl, h⟩ := h
    replace h := popI_some h
    obtain ⟨a0_0, q, rfl, h⟩ := h
    replace h := popI_some h
    obtain ⟨a0_1, q, rfl, h⟩ := h
    replace h := popI_some h
    obtain ⟨a0_2, q, rfl, h⟩ := h
    replace h := popI_some h
    obtain ⟨a0_3, q, rfl, h⟩ := h
    replace h := popI_some h
    obtain ⟨a0_4, q, rfl, h⟩ := h
    replace h := popI_some h
    obtain ⟨a0_5, q, rfl, h⟩ := h
    replace h := popB_some h
    obtain ⟨a0_6, q, rfl, h⟩ := h
    replace h := popI_some h
    obtain ⟨a0_7, q, rfl, h⟩ := h
    replace h := nil1_some h
    obtain ⟨rfl, h⟩ := h
    replace h := nil1_some h
    obtain ⟨rfl, h⟩ := h
    obtain ⟨r, h1, h2⟩ := Option.bind_eq_some_iff.mp h
    simp only [Option.some.injEq] at h2
    subst h2
    exact ⟨⟨_, Try.func17, rfl⟩, rfl, rfl, fun w => acmeref01_Form.calls k a0_0 a0_1 a0_2 a0_3 a0_4 a0_5 a0_6 a0_7 r w h1⟩
  · simp only [Option.some.injEq] at h1
    subst h1
    dsimp only at h
    replace h := nil1_some h
    obtain ⟨rfl, h⟩ := h
    obtain ⟨r, h1, h2⟩ := Option.bind_eq_some_iff.mp h
    simp only [Option.some.injEq] at h2
    subst h2
    exact ⟨⟨_, Try.func18, rfl⟩, rfl, rfl, fun w => acmelaw01_known.calls r w h1⟩
  · simp only [Option.some.injEq] at h1
    subst h1
    dsimp only at h
    replace h := popI_some h
    obtain ⟨a0, args, rfl, h⟩ := h
    replace h := popI_some h
    obtain ⟨a1, args, rfl, h⟩ := h
    replace h := nil1_some h
    obtain ⟨rfl, h⟩ := h
    obtain ⟨⟨r1, r2⟩, h1, h2⟩ := Option.bind_eq_some_iff.mp h
    simp only [Option.some.injEq] at h2
    subst h2
    exact ⟨⟨_, Try.func20, rfl⟩, rfl, rfl, fun w => acmeref01_Lowest.calls k a0 a1 r1 r2 w h1⟩
  · simp at h1
end Go.Proofs.Yticbhgjenidjlaa.T.RThreadMoves
namespace Go.Proofs.Yticbhgjenidjlaa.T
open Go Go.RowKit Go.Proofs.Yticbhgjenidjlaa.Ab Go.Proofs.Yticbhgjenidjlaa.T.RThreadMoves
set_option linter.unusedVariables false
noncomputable def acmelaw01_ThreadMoves.T (g23 : Int → Int → Int → Int → Int → Int → Bool → Int → Int → Option (Int × Int × Int)) (g24 : Int → Int → Int → Int → Int → Int → Bool → Int → Option (Int × Int × Int)) (g25 : Int → Int → Int → Int → Int → Int → Bool → Int → Int → Int → Option (Int × Int × Int)) (g26 : Int → Int → Int → Int → Int → Int → Bool → Int → Int → Int → Option (Int × Int × Int)) (g17 : Int → Int → Int → Int → Int → Int → Bool → Int → Option (Bool)) (g18 : Option (Bool)) (g20 : Int → Int → Option (Int × Int)) (a0_0 : Int) (a0_1 : Int) (a0_2 : Int) (a0_3 : Int) (a0_4 : Int) (a0_5 : Int) (a0_6 : Bool) (a0_7 : Int) (a1_0 : Int) (a1_1 : Int) (a1_2 : Int) (a1_3 : Int) (a1_4 : Int) : Option Value := (g23 a0_0 a0_1 a0_2 a0_3 a0_4 a0_5 a0_6 a0_7 a1_0).bind fun r0 => (g24 a0_0 a0_1 a0_2 a0_3 a0_4 a0_5 a0_6 a0_7).bind fun r1 => (g25 a0_0 a0_1 a0_2 a0_3 a0_4 a0_5 a0_6 a0_7 a1_1 a1_2).bind fun r2 => (g26 a0_0 a0_1 a0_2 a0_3 a0_4 a0_5 a0_6 a0_7 a1_3 a1_4).bind fun r3 => (g17 a0_0 a0_1 a0_2 a0_3 a0_4 a0_5 a0_6 a0_7).bind fun r4 => (bif !r4 then (bif r0.snd.snd == 2 then (bif r1.snd.snd == r0.snd.snd then (bif r2.snd.snd == r0.snd.snd then (bif r3.snd.snd == r0.snd.snd then (bif r0.fst == 0 && r0.snd.fst == 0 then (bif r1.fst == 0 && r1.snd.fst == 0 then (bif r2.fst == 0 && r2.snd.fst == 0 then (bif r3.fst == 0 && r3.snd.fst == 0 then (g18).bind fun r5 => some (.bool (r5)) else some (.bool (false))) else some (.bool (false))) else some (.bool (false))) else some (.bool (false))) else some (.bool (false))) else some (.bool (false))) else some (.bool (false))) else some (.bool (false))) else (bif r1.snd.snd != 0 then some (.bool (false)) else (g20 254000 a0_0).bind fun r5 => (bif !(r1.fst == r5.fst && r1.snd.fst == r5.snd) then some (.bool (false)) else (bif decide (a1_0 ≥ -1000000000) then (bif decide (a1_0 ≤ 1000000000) then (bif a0_6 then (bif r0.snd.snd != 0 then some (.bool (false)) else (g20 (IntKind.i64.wrap (0 - IntKind.i64.wrap (IntKind.i64.wrap (a0_0 * a0_5) * a1_0))) 1000000).bind fun r6 => (bif !(r0.fst == r6.fst && r0.snd.fst == r6.snd) then some (.bool (false)) else (bif decide (a1_1 ≥ 1) then (bif decide (a1_1 ≤ 10000000) then (bif decide (a1_2 ≥ 0) then (bif decide (a1_2 ≤ 10000000) then (bif r2.snd.snd != 0 then some (.bool (false)) else (g20 (IntKind.i64.wrap (IntKind.i64.wrap (1000 * a1_1) + IntKind.i64.wrap (IntKind.i64.wrap (2 * a1_2) * a0_7))) 1000).bind fun r7 => (bif !(r2.fst == r7.fst && r2.snd.fst == r7.snd) then some (.bool (false)) else (bif decide (a1_3 < 1) then (bif r3.snd.snd == 3 then (bif r3.fst == 0 && r3.snd.fst == 0 then (g18).bind fun r8 => some (.bool (r8)) else some (.bool (false))) else some (.bool (false))) else (bif decide (a1_3 > a1_4) then (bif r3.snd.snd == 3 then (bif r3.fst == 0 && r3.snd.fst == 0 then (g18).bind fun r8 => some (.bool (r8)) else some (.bool (false))) else some (.bool (false))) else (bif decide (a1_4 > 10000000) then (bif r3.snd.snd == 3 then (bif r3.fst == 0 && r3.snd.fst == 0 then (g18).bind fun r8 => some (.bool (r8)) else some (.bool (false))) else some (.bool (false))) else (bif a0_7 == 0 then (bif r3.snd.snd == 7 then (bif r3.fst == 0 && r3.snd.fst == 0 then (g18).bind fun r8 => some (.bool (r8)) else some (.bool (false))) else some (.bool (false))) else (bif r3.snd.snd == 0 then (g20 (IntKind.i64.wrap (500 * IntKind.i64.wrap (a1_4 - a1_3))) (IntKind.i64.wrap (IntKind.i64.wrap (a0_7 * a0_0) * a0_5))).bind fun r8 => (bif r3.fst == r8.fst && r3.snd.fst == r8.snd then (g18).bind fun r9 => some (.bool (r9)) else some (.bool (false))) else some (.bool (false))))))))) else (bif r2.snd.snd != 3 then some (.bool (false)) else (bif !(r2.fst == 0 && r2.snd.fst == 0) then some (.bool (false)) else (bif decide (a1_3 < 1) then (bif r3.snd.snd == 3 then (bif r3.fst == 0 && r3.snd.fst == 0 then (g18).bind fun r7 => some (.bool (r7)) else some (.bool (false))) else some (.bool (false))) else (bif decide (a1_3 > a1_4) then (bif r3.snd.snd == 3 then (bif r3.fst == 0 && r3.snd.fst == 0 then (g18).bind fun r7 => some (.bool (r7)) else some (.bool (false))) else some (.bool (false))) else (bif decide (a1_4 > 10000000) then (bif r3.snd.snd == 3 then (bif r3.fst == 0 && r3.snd.fst == 0 then (g18).bind fun r7 => some (.bool (r7)) else some (.bool (false))) else some (.bool (false))) else (bif a0_7 == 0 then (bif r3.snd.snd == 7 then (bif r3.fst == 0 && r3.snd.fst == 0 then (g18).bind fun r7 => some (.bool (r7)) else some (.bool (false))) else some (.bool (false))) else (bif r3.snd.snd == 0 then (g20 (IntKind.i64.wrap (500 * IntKind.i64.wrap (a1_4 - a1_3))) (IntKind.i64.wrap (IntKind.i64.wrap (a0_7 * a0_0) * a0_5))).bind fun r7 => (bif r3.fst == r7.fst && r3.snd.fst == r7.snd then (g18).bind fun r8 => some (.bool (r8)) else some (.bool (false))) else some (.bool (false)))))))))) else (bif r2.snd.snd != 3 then some (.bool (false)) else (bif !(r2.fst == 0 && r2.snd.fst == 0) then some (.bool (false)) else (bif decide (a1_3 < 1) then (bif r3.snd.snd == 3 then (bif r3.fst == 0 && r3.snd.fst == 0 then (g18).bind fun r7 => some (.bool (r7)) else some (.bool (false))) else some (.bool (false))) else (bif decide (a1_3 > a1_4) then (bif r3.snd.snd == 3 then (bif r3.fst == 0 && r3.snd.fst == 0 then (g18).bind fun r7 => some (.bool (r7)) else some (.bool (false))) else some (.bool (false))) else (bif decide (a1_4 > 10000000) then (bif r3.snd.snd == 3 then (bif r3.fst == 0 && r3.snd.fst == 0 then (g18).bind fun r7 => some (.bool (r7)) else some (.bool (false))) else some (.bool (false))) else (bif a0_7 == 0 then (bif r3.snd.snd == 7 then (bif r3.fst == 0 && r3.snd.fst == 0 then (g18).bind fun r7 => some (.bool (r7)) else some (.bool (false))) else some (.bool (false))) else (bif r3.snd.snd == 0 then (g20 (IntKind.i64.wrap (500 * IntKind.i64.wrap (a1_4 - a1_3))) (IntKind.i64.wrap (IntKind.i64.wrap (a0_7 * a0_0) * a0_5))).bind fun r7 => (bif r3.fst == r7.fst && r3.snd.fst == r7.snd then (g18).bind fun r8 => some (.bool (r8)) else some (.bool (false))) else some (.bool (false)))))))))) else (bif r2.snd.snd != 3 then some (.bool (false)) else (bif !(r2.fst == 0 && r2.snd.fst == 0) then some (.bool (false)) else (bif decide (a1_3 < 1) then (bif r3.snd.snd == 3 then (bif r3.fst == 0 && r3.snd.fst == 0 then (g18).bind fun r7 => some (.bool (r7)) else some (.bool (false))) else some (.bool (false))) else (bif decide (a1_3 > a1_4) then (bif r3.snd.snd == 3 then (bif r3.fst == 0 && r3.snd.fst == 0 then (g18).bind fun r7 => some (.bool (r7)) else some (.bool (false))) else some (.bool (false))) else (bif decide (a1_4 > 10000000) then (bif r3.snd.snd == 3 then (bif r3.fst == 0 && r3.snd.fst == 0 then (g18).bind fun r7 => some (.bool (r7)) else some (.bool (false))) else some (.bool (false))) else (bif a0_7 == 0 then (bif r3.snd.snd == 7 then (bif r3.fst == 0 && r3.snd.fst == 0 then (g18).bind fun r7 => some (.bool (r7)) else some (.bool (false))) else some (.bool (false))) else (bif r3.snd.snd == 0 then (g20 (IntKind.i64.wrap (500 * IntKind.i64.wrap (a1_4 - a1_3))) (IntKind.i64.wrap (IntKind.i64.wrap (a0_7 * a0_0) * a0_5))).bind fun r7 => (bif r3.fst == r7.fst && r3.snd.fst == r7.snd then (g18).bind fun r8 => some (.bool (r8)) else some (.bool (false))) else some (.bool (false)))))))))) else (bif r2.snd.snd != 3 then some (.bool (false)) else (bif !(r2.fst == 0 && r2.snd.fst == 0) then some (.bool (false)) else (bif decide (a1_3 < 1) then (bif r3.snd.snd == 3 then (bif r3.fst == 0 && r3.snd.fst == 0 then (g18).bind fun r7 => some (.bool (r7)) else some (.bool (false))) else some (.bool (false))) else (bif decide (a1_3 > a1_4) then (bif r3.snd.snd == 3 then (bif r3.fst == 0 && r3.snd.fst == 0 then (g18).bind fun r7 => some (.bool (r7)) else some (.bool (false))) else some (.bool (false))) else (bif decide (a1_4 > 10000000) then (bif r3.snd.snd == 3 then (bif r3.fst == 0 && r3.snd.fst == 0 then (g18).bind fun r7 => some (.bool (r7)) else some (.bool (false))) else some (.bool (false))) else (bif a0_7 == 0 then (bif r3.snd.snd == 7 then (bif r3.fst == 0 && r3.snd.fst == 0 then (g18).bind fun r7 => some (.bool (r7)) else some (.bool (false))) else some (.bool (false))) else (bif r3.snd.snd == 0 then (g20 (IntKind.i64.wrap (500 * IntKind.i64.wrap (a1_4 - a1_3))) (IntKind.i64.wrap (IntKind.i64.wrap (a0_7 * a0_0) * a0_5))).bind fun r7 => (bif r3.fst == r7.fst && r3.snd.fst == r7.snd then (g18).bind fun r8 => some (.bool (r8)) else some (.bool (false))) else some (.bool (false)))))))))))) else (bif r0.snd.snd != 0 then some (.bool (false)) else (g20 (IntKind.i64.wrap (IntKind.i64.wrap (a0_0 * a0_5) * a1_0)) 1000000).bind fun r6 => (bif !(r0.fst == r6.fst && r0.snd.fst == r6.snd) then some (.bool (false)) else (bif decide (a1_1 ≥ 1) then (bif decide (a1_1 ≤ 10000000) then (bif decide (a1_2 ≥ 0) then (bif decide (a1_2 ≤ 10000000) then (bif r2.snd.snd != 0 then some (.bool (false)) else (g20 (IntKind.i64.wrap (IntKind.i64.wrap (1000 * a1_1) + IntKind.i64.wrap (IntKind.i64.wrap (2 * a1_2) * a0_7))) 1000).bind fun r7 => (bif !(r2.fst == r7.fst && r2.snd.fst == r7.snd) then some (.bool (false)) else (bif decide (a1_3 < 1) then (bif r3.snd.snd == 3 then (bif r3.fst == 0 && r3.snd.fst == 0 then (g18).bind fun r8 => some (.bool (r8)) else some (.bool (false))) else some (.bool (false))) else (bif decide (a1_3 > a1_4) then (bif r3.snd.snd == 3 then (bif r3.fst == 0 && r3.snd.fst == 0 then (g18).bind fun r8 => some (.bool (r8)) else some (.bool (false))) else some (.bool (false))) else (bif decide (a1_4 > 10000000) then (bif r3.snd.snd == 3 then (bif r3.fst == 0 && r3.snd.fst == 0 then (g18).bind fun r8 => some (.bool (r8)) else some (.bool (false))) else some (.bool (false))) else (bif a0_7 == 0 then (bif r3.snd.snd == 7 then (bif r3.fst == 0 && r3.snd.fst == 0 then (g18).bind fun r8 => some (.bool (r8)) else some (.bool (false))) else some (.bool (false))) else (bif r3.snd.snd == 0 then (g20 (IntKind.i64.wrap (500 * IntKind.i64.wrap (a1_4 - a1_3))) (IntKind.i64.wrap (IntKind.i64.wrap (a0_7 * a0_0) * a0_5))).bind fun r8 => (bif r3.fst == r8.fst && r3.snd.fst == r8.snd then (g18).bind fun r9 => some (.bool (r9)) else some (.bool (false))) else some (.bool (false))))))))) else (bif r2.snd.snd != 3 then some (.bool (false)) else (bif !(r2.fst == 0 && r2.snd.fst == 0) then some (.bool (false)) else (bif decide (a1_3 < 1) then (bif r3.snd.snd == 3 then (bif r3.fst == 0 && r3.snd.fst == 0 then (g18).bind fun r7 => some (.bool (r7)) else some (.bool (false))) else some (.bool (false))) else (bif decide (a1_3 > a1_4) then (bif r3.snd.snd == 3 then (bif r3.fst == 0 && r3.snd.fst == 0 then (g18).bind fun r7 => some (.bool (r7)) else some (.bool (false))) else some (.bool (false))) else (bif decide (a1_4 > 10000000) then (bif r3.snd.snd == 3 then (bif r3.fst == 0 && r3.snd.fst == 0 then (g18).bind fun r7 => some (.bool (r7)) else some (.bool (false))) else some (.bool (false))) else (bif a0_7 == 0 then (bif r3.snd.snd == 7 then (bif r3.fst == 0 && r3.snd.fst == 0 then (g18).bind fun r7 => some (.bool (r7)) else some (.bool (false))) else some (.bool (false))) else (bif r3.snd.snd == 0 then (g20 (IntKind.i64.wrap (500 * IntKind.i64.wrap (a1_4 - a1_3))) (IntKind.i64.wrap (IntKind.i64.wrap (a0_7 * a0_0) * a0_5))).bind fun r7 => (bif r3.fst == r7.fst && r3.snd.fst == r7.snd then (g18).bind fun r8 => some (.bool (r8)) else some (.bool (false))) else some (.bool (false)))))))))) else (bif r2.snd.snd != 3 then some (.bool (false)) else (bif !(r2.fst == 0 && r2.snd.fst == 0) then some (.bool (false)) else (bif decide (a1_3 < 1) then (bif r3.snd.snd == 3 then (bif r3.fst == 0 && r3.snd.fst == 0 then (g18).bind fun r7 => some (.bool (r7)) else some (.bool (false))) else some (.bool (false))) else (bif decide (a1_3 > a1_4) then (bif r3.snd.snd == 3 then (bif r3.fst == 0 && r3.snd.fst == 0 then (g18).bind fun r7 => some (.bool (r7)) else some (.bool (false))) else some (.bool (false))) else (bif decide (a1_4 > 10000000) then (bif r3.snd.snd == 3 then (bif r3.fst == 0 && r3.snd.fst == 0 then (g18).bind fun r7 => some (.bool (r7)) else some (.bool (false))) else some (.bool (false))) else (bif a0_7 == 0 then (bif r3.snd.snd == 7 then (bif r3.fst == 0 && r3.snd.fst == 0 then (g18).bind fun r7 => some (.bool (r7)) else some (.bool (false))) else some (.bool (false))) else (bif r3.snd.snd == 0 then (g20 (IntKind.i64.wrap (500 * IntKind.i64.wrap (a1_4 - a1_3))) (IntKind.i64.wrap (IntKind.i64.wrap (a0_7 * a0_0) * a0_5))).bind fun r7 => (bif r3.fst == r7.fst && r3.snd.fst == r7.snd then (g18).bind fun r8 => some (.bool (r8)) else some (.bool (false))) else some (.bool (false)))))))))) else (bif r2.snd.snd != 3 then some (.bool (false)) else (bif !(r2.fst == 0 && r2.snd.fst == 0) then some (.bool (false)) else (bif decide (a1_3 < 1) then (bif r3.snd.snd == 3 then (bif r3.fst == 0 && r3.snd.fst == 0 then (g18).bind fun r7 => some (.bool (r7)) else some (.bool (false))) else some (.bool (false))) else (bif decide (a1_3 > a1_4) then (bif r3.snd.snd == 3 then (bif r3.fst == 0 && r3.snd.fst == 0 then (g18).bind fun r7 => some (.bool (r7)) else some (.bool (false))) else some (.bool (false))) else (bif decide (a1_4 > 10000000) then (bif r3.snd.snd == 3 then (bif r3.fst == 0 && r3.snd.fst == 0 then (g18).bind fun r7 => some (.bool (r7)) else some (.bool (false))) else some (.bool (false))) else (bif a0_7 == 0 then (bif r3.snd.snd == 7 then (bif r3.fst == 0 && r3.snd.fst == 0 then (g18).bind fun r7 => some (.bool (r7)) else some (.bool (false))) else some (.bool (false))) else (bif r3.snd.snd == 0 then (g20 (IntKind.i64.wrap (500 * IntKind.i64.wrap (a1_4 - a1_3))) (IntKind.i64.wrap (IntKind.i64.wrap (a0_7 * a0_0) * a0_5))).bind fun r7 => (bif r3.fst == r7.fst && r3.snd.fst == r7.snd then (g18).bind fun r8 => some (.bool (r8)) else some (.bool (false))) else some (.bool (false)))))))))) else (bif r2.snd.snd != 3 then some (.bool (false)) else (bif !(r2.fst == 0 && r2.snd.fst == 0) then some (.bool (false)) else (bif decide (a1_3 < 1) then (bif r3.snd.snd == 3 then (bif r3.fst == 0 && r3.snd.fst == 0 then (g18).bind fun r7 => some (.bool (r7)) else some (.bool (false))) else some (.bool (false))) else (bif decide (a1_3 > a1_4) then (bif r3.snd.snd == 3 then (bif r3.fst == 0 && r3.snd.fst == 0 then (g18).bind fun r7 => some (.bool (r7)) else some (.bool (false))) else some (.bool (false))) else (bif decide (a1_4 > 10000000) then (bif r3.snd.snd == 3 then (bif r3.fst == 0 && r3.snd.fst == 0 then (g18).bind fun r7 => some (.bool (r7)) else some (.bool (false))) else some (.bool (false))) else (bif a0_7 == 0 then (bif r3.snd.snd == 7 then (bif r3.fst == 0 && r3.snd.fst == 0 then (g18).bind fun r7 => some (.bool (r7)) else some (.bool (false))) else some (.bool (false))) else (bif r3.snd.snd == 0 then (g20 (IntKind.i64.wrap (500 * IntKind.i64.wrap (a1_4 - a1_3))) (IntKind.i64.wrap (IntKind.i64.wrap (a0_7 * a0_0) * a0_5))).bind fun r7 => (bif r3.fst == r7.fst && r3.snd.fst == r7.snd then (g18).bind fun r8 => some (.bool (r8)) else some (.bool (false))) else some (.bool (false))))))))))))) else (bif r0.snd.snd != 3 then some (.bool (false)) else (bif !(r0.fst == 0 && r0.snd.fst == 0) then some (.bool (false)) else (bif decide (a1_1 ≥ 1) then (bif decide (a1_1 ≤ 10000000) then (bif decide (a1_2 ≥ 0) then (bif decide (a1_2 ≤ 10000000) then (bif r2.snd.snd != 0 then some (.bool (false)) else (g20 (IntKind.i64.wrap (IntKind.i64.wrap (1000 * a1_1) + IntKind.i64.wrap (IntKind.i64.wrap (2 * a1_2) * a0_7))) 1000).bind fun r6 => (bif !(r2.fst == r6.fst && r2.snd.fst == r6.snd) then some (.bool (false)) else (bif decide (a1_3 < 1) then (bif r3.snd.snd == 3 then (bif r3.fst == 0 && r3.snd.fst == 0 then (g18).bind fun r7 => some (.bool (r7)) else some (.bool (false))) else some (.bool (false))) else (bif decide (a1_3 > a1_4) then (bif r3.snd.snd == 3 then (bif r3.fst == 0 && r3.snd.fst == 0 then (g18).bind fun r7 => some (.bool (r7)) else some (.bool (false))) else some (.bool (false))) else (bif decide (a1_4 > 10000000) then (bif r3.snd.snd == 3 then (bif r3.fst == 0 && r3.snd.fst == 0 then (g18).bind fun r7 => some (.bool (r7)) else some (.bool (false))) else some (.bool (false))) else (bif a0_7 == 0 then (bif r3.snd.snd == 7 then (bif r3.fst == 0 && r3.snd.fst == 0 then (g18).bind fun r7 => some (.bool (r7)) else some (.bool (false))) else some (.bool (false))) else (bif r3.snd.snd == 0 then (g20 (IntKind.i64.wrap (500 * IntKind.i64.wrap (a1_4 - a1_3))) (IntKind.i64.wrap (IntKind.i64.wrap (a0_7 * a0_0) * a0_5))).bind fun r7 => (bif r3.fst == r7.fst && r3.snd.fst == r7.snd then (g18).bind fun r8 => some (.bool (r8)) else some (.bool (false))) else some (.bool (false))))))))) else (bif r2.snd.snd != 3 then some (.bool (false)) else (bif !(r2.fst == 0 && r2.snd.fst == 0) then some (.bool (false)) else (bif decide (a1_3 < 1) then (bif r3.snd.snd == 3 then (bif r3.fst == 0 && r3.snd.fst == 0 then (g18).bind fun r6 => some (.bool (r6)) else some (.bool (false))) else some (.bool (false))) else (bif decide (a1_3 > a1_4) then (bif r3.snd.snd == 3 then (bif r3.fst == 0 && r3.snd.fst == 0 then (g18).bind fun r6 => some (.bool (r6)) else some (.bool (false))) else some (.bool (false))) else (bif decide (a1_4 > 10000000) then (bif r3.snd.snd == 3 then (bif r3.fst == 0 && r3.snd.fst == 0 then (g18).bind fun r6 => some (.bool (r6)) else some (.bool (false))) else some (.bool (false))) else (bif a0_7 == 0 then (bif r3.snd.snd == 7 then (bif r3.fst == 0 && r3.snd.fst == 0 then (g18).bind fun r6 => some (.bool (r6)) else some (.bool (false))) else some (.bool (false))) else (bif r3.snd.snd == 0 then (g20 (IntKind.i64.wrap (500 * IntKind.i64.wrap (a1_4 - a1_3))) (IntKind.i64.wrap (IntKind.i64.wrap (a0_7 * a0_0) * a0_5))).bind fun r6 => (bif r3.fst == r6.fst && r3.snd.fst == r6.snd then (g18).bind fun r7 => some (.bool (r7)) else some (.bool (false))) else some (.bool (false)))))))))) else (bif r2.snd.snd != 3 then some (.bool (false)) else (bif !(r2.fst == 0 && r2.snd.fst == 0) then some (.bool (false)) else (bif decide (a1_3 < 1) then (bif r3.snd.snd == 3 then (bif r3.fst == 0 && r3.snd.fst == 0 then (g18).bind fun r6 => some (.bool (r6)) else some (.bool (false))) else some (.bool (false))) else (bif decide (a1_3 > a1_4) then (bif r3.snd.snd == 3 then (bif r3.fst == 0 && r3.snd.fst == 0 then (g18).bind fun r6 => some (.bool (r6)) else some (.bool (false))) else some (.bool (false))) else (bif decide (a1_4 > 10000000) then (bif r3.snd.snd == 3 then (bif r3.fst == 0 && r3.snd.fst == 0 then (g18).bind fun r6 => some (.bool (r6)) else some (.bool (false))) else some (.bool (false))) else (bif a0_7 == 0 then (bif r3.snd.snd == 7 then (bif r3.fst == 0 && r3.snd.fst == 0 then (g18).bind fun r6 => some (.bool (r6)) else some (.bool (false))) else some (.bool (false))) else (bif r3.snd.snd == 0 then (g20 (IntKind.i64.wrap (500 * IntKind.i64.wrap (a1_4 - a1_3))) (IntKind.i64.wrap (IntKind.i64.wrap (a0_7 * a0_0) * a0_5))).bind fun r6 => (bif r3.fst == r6.fst && r3.snd.fst == r6.snd then (g18).bind fun r7 => some (.bool (r7)) else some (.bool (false))) else some (.bool (false)))))))))) else (bif r2.snd.snd != 3 then some (.bool (false)) else (bif !(r2.fst == 0 && r2.snd.fst == 0) then some (.bool (false)) else (bif decide (a1_3 < 1) then (bif r3.snd.snd == 3 then (bif r3.fst == 0 && r3.snd.fst == 0 then (g18).bind fun r6 => some (.bool (r6)) else some (.bool (false))) else some (.bool (false))) else (bif decide (a1_3 > a1_4) then (bif r3.snd.snd == 3 then (bif r3.fst == 0 && r3.snd.fst == 0 then (g18).bind fun r6 => some (.bool (r6)) else some (.bool (false))) else some (.bool (false))) else (bif decide (a1_4 > 10000000) then (bif r3.snd.snd == 3 then (bif r3.fst == 0 && r3.snd.fst == 0 then (g18).bind fun r6 => some (.bool (r6)) else some (.bool (false))) else some (.bool (false))) else (bif a0_7 == 0 then (bif r3.snd.snd == 7 then (bif r3.fst == 0 && r3.snd.fst == 0 then (g18).bind fun r6 => some (.bool (r6)) else some (.bool (false))) else some (.bool (false))) else (bif r3.snd.snd == 0 then (g20 (IntKind.i64.wrap (500 * IntKind.i64.wrap (a1_4 - a1_3))) (IntKind.i64.wrap (IntKind.i64.wrap (a0_7 * a0_0) * a0_5))).bind fun r6 => (bif r3.fst == r6.fst && r3.snd.fst == r6.snd then (g18).bind fun r7 => some (.bool (r7)) else some (.bool (false))) else some (.bool (false)))))))))) else (bif r2.snd.snd != 3 then some (.bool (false)) else (bif !(r2.fst == 0 && r2.snd.fst == 0) then some (.bool (false)) else (bif decide (a1_3 < 1) then (bif r3.snd.snd == 3 then (bif r3.fst == 0 && r3.snd.fst == 0 then (g18).bind fun r6 => some (.bool (r6)) else some (.bool (false))) else some (.bool (false))) else (bif decide (a1_3 > a1_4) then (bif r3.snd.snd == 3 then (bif r3.fst == 0 && r3.snd.fst == 0 then (g18).bind fun r6 => some (.bool (r6)) else some (.bool (false))) else some (.bool (false))) else (bif decide (a1_4 > 10000000) then (bif r3.snd.snd == 3 then (bif r3.fst == 0 && r3.snd.fst == 0 then (g18).bind fun r6 => some (.bool (r6)) else some (.bool (false))) else some (.bool (false))) else (bif a0_7 == 0 then (bif r3.snd.snd == 7 then (bif r3.fst == 0 && r3.snd.fst == 0 then (g18).bind fun r6 => some (.bool (r6)) else some (.bool (false))) else some (.bool (false))) else (bif r3.snd.snd == 0 then (g20 (IntKind.i64.wrap (500 * IntKind.i64.wrap (a1_4 - a1_3))) (IntKind.i64.wrap (IntKind.i64.wrap (a0_7 * a0_0) * a0_5))).bind fun r6 => (bif r3.fst == r6.fst && r3.snd.fst == r6.snd then (g18).bind fun r7 => some (.bool (r7)) else some (.bool (false))) else some (.bool (false))))))))))))) else (bif r0.snd.snd != 3 then some (.bool (false)) else (bif !(r0.fst == 0 && r0.snd.fst == 0) then some (.bool (false)) else (bif decide (a1_1 ≥ 1) then (bif decide (a1_1 ≤ 10000000) then (bif decide (a1_2 ≥ 0) then (bif decide (a1_2 ≤ 10000000) then (bif r2.snd.snd != 0 then some (.bool (false)) else (g20 (IntKind.i64.wrap (IntKind.i64.wrap (1000 * a1_1) + IntKind.i64.wrap (IntKind.i64.wrap (2 * a1_2) * a0_7))) 1000).bind fun r6 => (bif !(r2.fst == r6.fst && r2.snd.fst == r6.snd) then some (.bool (false)) else (bif decide (a1_3 < 1) then (bif r3.snd.snd == 3 then (bif r3.fst == 0 && r3.snd.fst == 0 then (g18).bind fun r7 => some (.bool (r7)) else some (.bool (false))) else some (.bool (false))) else (bif decide (a1_3 > a1_4) then (bif r3.snd.snd == 3 then (bif r3.fst == 0 && r3.snd.fst == 0 then (g18).bind fun r7 => some (.bool (r7)) else some (.bool (false))) else some (.bool (false))) else (bif decide (a1_4 > 10000000) then (bif r3.snd.snd == 3 then (bif r3.fst == 0 && r3.snd.fst == 0 then (g18).bind fun r7 => some (.bool (r7)) else some (.bool (false))) else some (.bool (false))) else (bif a0_7 == 0 then (bif r3.snd.snd == 7 then (bif r3.fst == 0 && r3.snd.fst == 0 then (g18).bind fun r7 => some (.bool (r7)) else some (.bool (false))) else some (.bool (false))) else (bif r3.snd.snd == 0 then (g20 (IntKind.i64.wrap (500 * IntKind.i64.wrap (a1_4 - a1_3))) (IntKind.i64.wrap (IntKind.i64.wrap (a0_7 * a0_0) * a0_5))).bind fun r7 => (bif r3.fst == r7.fst && r3.snd.fst == r7.snd then (g18).bind fun r8 => some (.bool (r8)) else some (.bool (false))) else some (.bool (false))))))))) else (bif r2.snd.snd != 3 then some (.bool (false)) else (bif !(r2.fst == 0 && r2.snd.fst == 0) then some (.bool (false)) else (bif decide (a1_3 < 1) then (bif r3.snd.snd == 3 then (bif r3.fst == 0 && r3.snd.fst == 0 then (g18).bind fun r6 => some (.bool (r6)) else some (.bool (false))) else some (.bool (false))) else (bif decide (a1_3 > a1_4) then (bif r3.snd.snd == 3 then (bif r3.fst == 0 && r3.snd.fst == 0 then (g18).bind fun r6 => some (.bool (r6)) else some (.bool (false))) else some (.bool (false))) else (bif decide (a1_4 > 10000000) then (bif r3.snd.snd == 3 then (bif r3.fst == 0 && r3.snd.fst == 0 then (g18).bind fun r6 => some (.bool (r6)) else some (.bool (false))) else some (.bool (false))) else (bif a0_7 == 0 then (bif r3.snd.snd == 7 then (bif r3.fst == 0 && r3.snd.fst == 0 then (g18).bind fun r6 => some (.bool (r6)) else some (.bool (false))) else some (.bool (false))) else (bif r3.snd.snd == 0 then (g20 (IntKind.i64.wrap (500 * IntKind.i64.wrap (a1_4 - a1_3))) (IntKind.i64.wrap (IntKind.i64.wrap (a0_7 * a0_0) * a0_5))).bind fun r6 => (bif r3.fst == r6.fst && r3.snd.fst == r6.snd then (g18).bind fun r7 => some (.bool (r7)) else some (.bool (false))) else some (.bool (false)))))))))) else (bif r2.snd.snd != 3 then some (.bool (false)) else (bif !(r2.fst == 0 && r2.snd.fst == 0) then some (.bool (false)) else (bif decide (a1_3 < 1) then (bif r3.snd.snd == 3 then (bif r3.fst == 0 && r3.snd.fst == 0 then (g18).bind fun r6 => some (.bool (r6)) else some (.bool (false))) else some (.bool (false))) else (bif decide (a1_3 > a1_4) then (bif r3.snd.snd == 3 then (bif r3.fst == 0 && r3.snd.fst == 0 then (g18).bind fun r6 => some (.bool (r6)) else some (.bool (false))) else some (.bool (false))) else (bif decide (a1_4 > 10000000) then (bif r3.snd.snd == 3 then (bif r3.fst == 0 && r3.snd.fst == 0 then (g18).bind fun r6 => some (.bool (r6)) else some (.bool (false))) else some (.bool (false))) else (bif a0_7 == 0 then (bif r3.snd.snd == 7 then (bif r3.fst == 0 && r3.snd.fst == 0 then (g18).bind fun r6 => some (.bool (r6)) else some (.bool (false))) else some (.bool (false))) else (bif r3.snd.snd == 0 then (g20 (IntKind.i64.wrap (500 * IntKind.i64.wrap (a1_4 - a1_3))) (IntKind.i64.wrap (IntKind.i64.wrap (a0_7 * a0_0) * a0_5))).bind fun r6 => (bif r3.fst == r6.fst && r3.snd.fst == r6.snd then (g18).bind fun r7 => some (.bool (r7)) else some (.bool (false))) else some (.bool (false)))))))))) else (bif r2.snd.snd != 3 then some (.bool (false)) else (bif !(r2.fst == 0 && r2.snd.fst == 0) then some (.bool (false)) else (bif decide (a1_3 < 1) then (bif r3.snd.snd == 3 then (bif r3.fst == 0 && r3.snd.fst == 0 then (g18).bind fun r6 => some (.bool (r6)) else some (.bool (false))) else some (.bool (false))) else (bif decide (a1_3 > a1_4) then (bif r3.snd.snd == 3 then (bif r3.fst == 0 && r3.snd.fst == 0 then (g18).bind fun r6 => some (.bool (r6)) else some (.bool (false))) else some (.bool (false))) else (bif decide (a1_4 > 10000000) then (bif r3.snd.snd == 3 then (bif r3.fst == 0 && r3.snd.fst == 0 then (g18).bind fun r6 => some (.bool (r6)) else some (.bool (false))) else some (.bool (false))) else (bif a0_7 == 0 then (bif r3.snd.snd == 7 then (bif r3.fst == 0 && r3.snd.fst == 0 then (g18).bind fun r6 => some (.bool (r6)) else some (.bool (false))) else some (.bool (false))) else (bif r3.snd.snd == 0 then (g20 (IntKind.i64.wrap (500 * IntKind.i64.wrap (a1_4 - a1_3))) (IntKind.i64.wrap (IntKind.i64.wrap (a0_7 * a0_0) * a0_5))).bind fun r6 => (bif r3.fst == r6.fst && r3.snd.fst == r6.snd then (g18).bind fun r7 => some (.bool (r7)) else some (.bool (false))) else some (.bool (false)))))))))) else (bif r2.snd.snd != 3 then some (.bool (false)) else (bif !(r2.fst == 0 && r2.snd.fst == 0) then some (.bool (false)) else (bif decide (a1_3 < 1) then (bif r3.snd.snd == 3 then (bif r3.fst == 0 && r3.snd.fst == 0 then (g18).bind fun r6 => some (.bool (r6)) else some (.bool (false))) else some (.bool (false))) else (bif decide (a1_3 > a1_4) then (bif r3.snd.snd == 3 then (bif r3.fst == 0 && r3.snd.fst == 0 then (g18).bind fun r6 => some (.bool (r6)) else some (.bool (false))) else some (.bool (false))) else (bif decide (a1_4 > 10000000) then (bif r3.snd.snd == 3 then (bif r3.fst == 0 && r3.snd.fst == 0 then (g18).bind fun r6 => some (.bool (r6)) else some (.bool (false))) else some (.bool (false))) else (bif a0_7 == 0 then (bif r3.snd.snd == 7 then (bif r3.fst == 0 && r3.snd.fst == 0 then (g18).bind fun r6 => some (.bool (r6)) else some (.bool (false))) else some (.bool (false))) else (bif r3.snd.snd == 0 then (g20 (IntKind.i64.wrap (500 * IntKind.i64.wrap (a1_4 - a1_3))) (IntKind.i64.wrap (IntKind.i64.wrap (a0_7 * a0_0) * a0_5))).bind fun r6 => (bif r3.fst == r6.fst && r3.snd.fst == r6.snd then (g18).bind fun r7 => some (.bool (r7)) else some (.bool (false))) else some (.bool (false))))))))))))))))
set_option maxRecDepth 1000000 in
theorem acmelaw01_ThreadMoves.run (g23 : Int → Int → Int → Int → Int → Int → Bool → Int → Int → Option (Int × Int × Int)) (g24 : Int → Int → Int → Int → Int → Int → Bool → Int → Option (Int × Int × Int)) (g25 : Int → Int → Int → Int → Int → Int → Bool → Int → Int → Int → Option (Int × Int × Int)) (g26 : Int → Int → Int → Int → Int → Int → Bool → Int → Int → Int → Option (Int × Int × Int)) (g17 : Int → Int → Int → Int → Int → Int → Bool → Int → Option (Bool)) (g18 : Option (Bool)) (g20 : Int → Int → Option (Int × Int)) (a0_0 : Int) (a0_1 : Int) (a0_2 : Int) (a0_3 : Int) (a0_4 : Int) (a0_5 : Int) (a0_6 : Bool) (a0_7 : Int) (a1_0 : Int) (a1_1 : Int) (a1_2 : Int) (a1_3 : Int) (a1_4 : Int) : aCallK Try.prog (openK g23 g24 g25 g26 g17 g18 g20) (fun _ => false) 1000 60 0 5 [.agg ⟨[.int .i64 a0_0, .int .i64 a0_1, .int .i64 a0_2, .int .i64 a0_3, .int .i64 a0_4, .int .i64 a0_5, .bool a0_6, .int .i64 a0_7]⟩, .agg ⟨[.int .i64 a1_0, .int .i64 a1_1, .int .i64 a1_2, .int .i64 a1_3, .int .i64 a1_4]⟩] ⟨0, []⟩ fin = acmelaw01_ThreadMoves.T g23 g24 g25 g26 g17 g18 g20 a0_0 a0_1 a0_2 a0_3 a0_4 a0_5 a0_6 a0_7 a1_0 a1_1 a1_2 a1_3 a1_4 := by kernel_rfl
noncomputable def acmelaw01_ThreadMoves.f (k : Nat) (a0_0 : Int) (a0_1 : Int) (a0_2 : Int) (a0_3 : Int) (a0_4 : Int) (a0_5 : Int) (a0_6 : Bool) (a0_7 : Int) (a1_0 : Int) (a1_1 : Int) (a1_2 : Int) (a1_3 : Int) (a1_4 : Int) : Option Bool := (acmelaw01_ThreadMoves.T (thread_Advance.f k) (thread_PerInch.f k) (thread_Diameter.f k) (thread_Meets.f k) (acmeref01_Form.f k) acmelaw01_known.f (acmeref01_Lowest.f k) a0_0 a0_1 a0_2 a0_3 a0_4 a0_5 a0_6 a0_7 a1_0 a1_1 a1_2 a1_3 a1_4).bind asB1
theorem acmelaw01_ThreadMoves.calls (k : Nat) (a0_0 : Int) (a0_1 : Int) (a0_2 : Int) (a0_3 : Int) (a0_4 : Int) (a0_5 : Int) (a0_6 : Bool) (a0_7 : Int) (a1_0 : Int) (a1_1 : Int) (a1_2 : Int) (a1_3 : Int) (a1_4 : Int) (r : Bool) (w : World) (h : acmelaw01_ThreadMoves.f k a0_0 a0_1 a0_2 a0_3 a0_4 a0_5 a0_6 a0_7 a1_0 a1_1 a1_2 a1_3 a1_4 = some r) :
  Calls Try.prog 5 #[.agg #[.int .i64 a0_0, .int .i64 a0_1, .int .i64 a0_2, .int .i64 a0_3, .int .i64 a0_4, .int .i64 a0_5, .bool a0_6, .int .i64 a0_7], .agg #[.int .i64 a1_0, .int .i64 a1_1, .int .i64 a1_2, .int .i64 a1_3, .int .i64 a1_4]] w fun e w' => e = .returned (.bool r) ∧ Below w.heap.size w w' := by
 unfold acmelaw01_ThreadMoves.f at h
 obtain ⟨v, h1, h2⟩ := Option.bind_eq_some_iff.mp h
 obtain rfl := asB1_some h2
 exact ask_calls (by kernel_rfl) noNum (orc_ok k) (orc_le k) rfl ((acmelaw01_ThreadMoves.run (thread_Advance.f k) (thread_PerInch.f k) (thread_Diameter.f k) (thread_Meets.f k) (acmeref01_Form.f k) acmelaw01_known.f (acmeref01_Lowest.f k) a0_0 a0_1 a0_2 a0_3 a0_4 a0_5 a0_6 a0_7 a1_0 a1_1 a1_2 a1_3 a1_4).trans h1) w
end Go.Proofs.Yticbhgjenidjlaa.T
