-- cut down, squeezed and laid together by pack.py (a program of this repository) out of this seat's texts
import Derived.ChangeKeysEq
import Derived.Below
import Derived.Deep.Draws
import Derived.Deep.AppendLies
import Derived.Maps.AppendAt
import Derived.OwnWalk
import Derived.Laws.BytesArg
import Derived.Laws.MakeOwn
import Derived.Laws.OwnMore
import Derived.Deep.OwnRows
import Derived.Tactics
import Derived.Lib.ConvBytes
import Derived.Laws.Slices
import Derived.WalkKit
import Derived.KernelRfl
import Derived.RowKit3
import Derived.Deep.LoopGhost
import Derived.Deep.QuietTactic
import Derived.BigQuiet
import Derived.WideLaws
import Derived.Deep.DeepCutAuto
import Derived.Deep.CutBlock
import Derived.Deep.RegionHeld3
import Derived.Laws.Rows
import Derived.Lib.AppendStr
import Derived.ArgAppend
import Derived.Laws.IdiomCopy
import Derived.OrdersHeld
import Derived.Laws.BitsLemmas
import Derived.RowKit
import Derived.Test.YticbhgjenidjlaaProg
import Derived.Laws.StructEq
import Derived.Test.YticbhgjenidjlaaZC1
import Derived.Test.YticbhgjenidjlaaZC9
import Derived.Test.YticbhgjenidjlaaZC15
import Derived.Test.YticbhgjenidjlaaZC14
import Derived.Test.YticbhgjenidjlaaZC3
import Derived.Test.YticbhgjenidjlaaZC12
import Derived.Test.YticbhgjenidjlaaZC13
import Derived.Test.YticbhgjenidjlaaZC16
import Derived.Test.YticbhgjenidjlaaZC8
import Derived.Test.YticbhgjenidjlaaZC10
import Derived.Test.YticbhgjenidjlaaZC11
import Derived.Test.YticbhgjenidjlaaZC7
import Derived.Test.YticbhgjenidjlaaZC4
import Derived.Test.YticbhgjenidjlaaZC6
import Derived.Test.YticbhgjenidjlaaZC5
import Derived.Test.YticbhgjenidjlaaZC2
namespace Go.Proofs.Yticbhgjenidjlaa.T.RThreadChecks
open Go Go.RowKit Go.Proofs.Yticbhgjenidjlaa.Ab Go.Proofs.Yticbhgjenidjlaa.T
set_option linter.unusedVariables false
section
variable {R : Type} (g14 : Int → Int → Int → Int → Int → Int → Bool → Int → Option (Int)) (g15 : Int → Int → Int → Int → Int → Int → Bool → Int → Int → Option (Int × Int × Int)) (g16 : Int → Int → Int → Int → Int → Int → Bool → Int → Option (Int × Int × Int)) (g17 : Int → Int → Int → Int → Int → Int → Bool → Int → Option (Bool)) (g18 : Option (Bool)) (g20 : Int → Int → Option (Int × Int)) (g21 : Int → Int → Int → Int → Int → Int → Bool → Int → Int → Option (Int))
def openK (f : FuncId) : Option (List Value → (Value → Option R) → Option R) :=
  match f with
  | 14 => some fun args c => popA args fun q args => popI q fun a0_0 q => popI q fun a0_1 q => popI q fun a0_2 q => popI q fun a0_3 q => popI q fun a0_4 q => popI q fun a0_5 q => popB q fun a0_6 q => popI q fun a0_7 q => nil1 q <| nil1 args <| (g14 a0_0 a0_1 a0_2 a0_3 a0_4 a0_5 a0_6 a0_7).bind fun r => c (.int .i64 r)
  | 15 => some fun args c => popA args fun q args => popI q fun a0_0 q => popI q fun a0_1 q => popI q fun a0_2 q => popI q fun a0_3 q => popI q fun a0_4 q => popI q fun a0_5 q => popB q fun a0_6 q => popI q fun a0_7 q => nil1 q <| popI args fun a1 args => nil1 args <| (g15 a0_0 a0_1 a0_2 a0_3 a0_4 a0_5 a0_6 a0_7 a1).bind fun r => c (.tuple ⟨[.agg ⟨[.int .i64 r.1, .int .i64 r.2.1]⟩, .int .i64 r.2.2]⟩)
  | 16 => some fun args c => popA args fun q args => popI q fun a0_0 q => popI q fun a0_1 q => popI q fun a0_2 q => popI q fun a0_3 q => popI q fun a0_4 q => popI q fun a0_5 q => popB q fun a0_6 q => popI q fun a0_7 q => nil1 q <| nil1 args <| (g16 a0_0 a0_1 a0_2 a0_3 a0_4 a0_5 a0_6 a0_7).bind fun r => c (.tuple ⟨[.agg ⟨[.int .i64 r.1, .int .i64 r.2.1]⟩, .int .i64 r.2.2]⟩)
  | 17 => some fun args c => popA args fun q args => popI q fun a0_0 q => popI q fun a0_1 q => popI q fun a0_2 q => popI q fun a0_3 q => popI q fun a0_4 q => popI q fun a0_5 q => popB q fun a0_6 q => popI q fun a0_7 q => nil1 q <| nil1 args <| (g17 a0_0 a0_1 a0_2 a0_3 a0_4 a0_5 a0_6 a0_7).bind fun r => c (.bool r)
  | 18 => some fun args c => nil1 args <| (g18).bind fun r => c (.bool r)
  | 20 => some fun args c => popI args fun a0 args => popI args fun a1 args => nil1 args <| (g20 a0 a1).bind fun r => c (.agg ⟨[.int .i64 r.1, .int .i64 r.2]⟩)
  | 21 => some fun args c => popA args fun q args => popI q fun a0_0 q => popI q fun a0_1 q => popI q fun a0_2 q => popI q fun a0_3 q => popI q fun a0_4 q => popI q fun a0_5 q => popB q fun a0_6 q => popI q fun a0_7 q => nil1 q <| popI args fun a1 args => nil1 args <| (g21 a0_0 a0_1 a0_2 a0_3 a0_4 a0_5 a0_6 a0_7 a1).bind fun r => c (.int .i64 r)
  | _ => none
end
noncomputable def orcK {R : Type} (k : Nat) : FuncId → Option (List Value → (Value → Option R) → Option R) := openK (thread_Check.f k) (thread_Width.f k) (thread_Sharp.f k) (acmeref01_Form.f k) acmelaw01_known.f (acmeref01_Lowest.f k) acmeref01_Width.f
noncomputable def orc (k : Nat) (f : FuncId) : Option (List Value → Option Value) := (orcK (R := Value) k f).map fun g args => g args some
theorem orc_le {R : Type} (k : Nat) : OrcLe (R := R) (orc k) (orcK k) := by
  intro f
  unfold orc orcK openK
  split
  · exact .inr ⟨_, _, rfl, rfl, fun args c => popA_le fun q args => popI_le fun a0_0 q => popI_le fun a0_1 q => popI_le fun a0_2 q => popI_le fun a0_3 q => popI_le fun a0_4 q => popI_le fun a0_5 q => popB_le fun a0_6 q => popI_le fun a0_7 q => nil1_le <| nil1_le <| bind_le _ _ _⟩
  · exact .inr ⟨_, _, rfl, rfl, fun args c => popA_le fun q args => popI_le fun a0_0 q => popI_le fun a0_1 q => popI_le fun a0_2 q => popI_le fun a0_3 q => popI_le fun a0_4 q => popI_le fun a0_5 q => popB_le fun a0_6 q => popI_le fun a0_7 q => nil1_le <| popI_le fun a1 args => nil1_le <| bind_le _ _ _⟩
  · exact .inr ⟨_, _, rfl, rfl, fun args c => popA_le fun q args => popI_le fun a0_0 q => popI_le fun a0_1 q => popI_le fun a0_2 q => popI_le fun a0_3 q => popI_le fun a0_4 q => popI_le fun a0_5 q => popB_le fun a0_6 q => popI_le fun a0_7 q => nil1_le <| nil1_le <| bind_le _ _ _⟩
  · exact .inr ⟨_, _, rfl, rfl, fun args c => popA_le fun q args => popI_le fun a0_0 q => popI_le fun a0_1 q => popI_le fun a0_2 q => popI_le fun a0_3 q => popI_le fun a0_4 q => popI_le fun a0_5 q => popB_le fun a0_6 q => popI_le fun a0_7 q => nil1_le <| nil1_le <| bind_le _ _ _⟩
  · exact .inr ⟨_, _, rfl, rfl, fun args c => nil1_le <| bind_le _ _ _⟩
  · exact .inr ⟨_, _, rfl, rfl, fun args c => popI_le fun a0 args => popI_le fun a1 args => nil1_le <| bind_le _ _ _⟩
  · exact .inr ⟨_, _, rfl, rfl, fun args c => popA_le fun q args => popI_le fun a0_0 q => popI_le fun a0_1 q => popI_le fun a0_2 q => popI_le fun a0_3 q => popI_le fun a0_4 q => popI_le fun a0_5 q => popB_le fun a0_6 q => popI_le fun a0_7 q => nil1_le <| popI_le fun a1 args => nil1_le <| bind_le _ _ _⟩
  · exact .inl ⟨rfl, rfl⟩
theorem orc_ok (k : Nat) : OrcOK Try.prog (orc k) := by
  intro f g args v hf h
  unfold orc orcK openK at hf
  obtain ⟨gK, h1, rfl⟩ := Option.map_eq_some_iff.mp hf
  split at h1
  · simp only [Option.some.injEq] at h1
    subst h1
    dsimp only at h
    replace h := popA_some h
    obtain ⟨q, args, rfl, h⟩ := h
    replace h := popI_some h
    obtain ⟨a0_0, q, rfl, h⟩ := h
    replace h := popI_some h
    obtain ⟨a0_1, q, rfl, h⟩ := h
    replace h := popI_some h
    obtain ⟨a0_2, q, rfl, h⟩ := h
    replace h := popI_some h
    obtain ⟨a0_3, q, rfl, h⟩ := h
    replace h := popI_some h
    obtain ⟨a0_4, q, rfl, h⟩ := h
    replace h := popI_some h
    obtain ⟨a0_5, q, rfl, h⟩ := h
    replace h := popB_some h
    obtain ⟨a0_6, q, rfl, h⟩ := h
    replace h := popI_some h
    obtain ⟨a0_7, q, rfl, h⟩ := h
    replace h := nil1_some h
    obtain ⟨rfl, h⟩ := h
    replace h := nil1_some h
    obtain ⟨rfl, h⟩ := h
    obtain ⟨r, h1, h2⟩ := Option.bind_eq_some_iff.mp h
    simp only [Option.some.injEq] at h2
    subst h2
    exact ⟨⟨_, Try.func14, rfl⟩, rfl, rfl, fun w => thread_Check.calls k a0_0 a0_1 a0_2 a0_3 a0_4 a0_5 a0_6 a0_7 r w h1⟩
  · simp only [Option.some.injEq] at h1
    subst h1
    dsimp only at h
    replace h := popA_some h
    obtain ⟨q, args, rfl, h⟩ := h
    replace h := popI_some h
    obtain ⟨a0_0, q, rfl, h⟩ := h
    replace h := popI_some h
    obtain ⟨a0_1, q, rfl, h⟩ := h
    replace h := popI_some h
    obtain ⟨a0_2, q, rfl, h⟩ := h
    replace h := popI_some h
    obtain ⟨a0_3, q, rfl, h⟩ := h
    replace h := popI_some h
    obtain ⟨a0_4, q, rfl, h⟩ := h
    replace h := popI_some h
    obtain ⟨a0_5, q, rfl, h⟩ := h
    replace h := popB_some h
    obtain ⟨a0_6, q, rfl, h⟩ := h
    replace h := popI_some h
    obtain ⟨a0_7, q, rfl, h⟩ := h
    replace h := nil1_some h
    obtain ⟨rfl, h⟩ := h
    replace h := popI_some h
    obtain ⟨a1, args, rfl, h⟩ := h
    replace h := nil1_some h
    obtain ⟨rfl, h⟩ := h
    obtain ⟨⟨r1, r2, r3⟩, h1, h2⟩ := Option.bind_eq_some_iff.mp h
    simp only [Option.some.injEq] at h2
    subst h2
    exact ⟨⟨_, Try.func15, rfl⟩, rfl, rfl, fun w => thread_Width.calls k a0_0 a0_1 a0_2 a0_3 a0_4 a0_5 a0_6 a0_7 a1 r1 r2 r3 w h1⟩
  · simp only [Option.some.injEq] at h1
    subst h1
    dsimp only at h
    replace h := popA_some h
    obtain ⟨q, args, rfl, h⟩ := h
    replace h := popI_some h
    obtain ⟨a0_0, q, rfl, h⟩ := h
    replace h := popI_some h
    obtain ⟨a0_1, q, rfl, h⟩ := h
    replace h := popI_some h
    obtain ⟨a0_2, q, rfl, h⟩ := h
    replace h := popI_some h
    obtain ⟨a0_3, q, rfl, h⟩ := h
    replace h := popI_some h
    obtain ⟨a0_4, q, rfl, h⟩ := h
    replace h := popI_some h
    obtain ⟨a0_5, q, rfl, h⟩ := h
    replace h := popB_some h
    obtain ⟨a0_6, q, rfl, h⟩ := h
    replace h := popI_some h
    obtain ⟨a0_7, q, rfl, h⟩ := h
    replace h := nil1_some h
    obtain ⟨rfl, h⟩ := h
    replace h := nil1_some h
    obtain ⟨rfl, h⟩ := h
    obtain ⟨⟨r1, r2, r3⟩, h1, h2⟩ := Option.bind_eq_some_iff.mp h
    simp only [Option.some.injEq] at h2
    subst h2
    exact ⟨⟨_, Try.func16, rfl⟩, rfl, rfl, fun w => thread_Sharp.calls k a0_0 a0_1 a0_2 a0_3 a0_4 a0_5 a0_6 a0_7 r1 r2 r3 w h1⟩
  · simp only [Option.some.injEq] at h1
    subst h1
    dsimp only at h
    replace h := popA_some h
    obtain ⟨q, args, rfl, h⟩ := h
    replace h := popI_some h
    obtain ⟨a0_0, q, rfl, h⟩ := h
    replace h := popI_some h
    obtain ⟨a0_1, q, rfl, h⟩ := h
    replace h := popI_some h
    obtain ⟨a0_2, q, rfl, h⟩ := h
    replace h := popI_some h
    obtain ⟨a0_3, q, rfl, h⟩ := h
    replace h := popI_some h
    obtain ⟨a0_4, q, rfl, h⟩ := h
    replace h := popI_some h
    obtain ⟨a0_5, q, rfl, h⟩ := h
    replace h := popB_some h
    obtain ⟨a0_6, q, rfl, h⟩ := h
    replace h := popI_some h
    obtain ⟨a0_7, q, rfl, h⟩ := h
    replace h := nil1_some h
    obtain ⟨rfl, h⟩ := h
    replace h := nil1_some h
    obtain ⟨rfl, h⟩ := h
    obtain ⟨r, h1, h2⟩ := Option.bind_eq_some_iff.mp h
    simp only [Option.some.injEq] at h2
    subst h2
    exact ⟨⟨_, Try.func17, rfl⟩, rfl, rfl, fun w => acmeref01_Form.calls k a0_0 a0_1 a0_2 a0_3 a0_4 a0_5 a0_6 a0_7 r w h1⟩
  · simp only [Option.some.injEq] at h1
    subst h1
    dsimp only at h
    replace h := nil1_some h
    obtain ⟨rfl, h⟩ := h
    obtain ⟨r, h1, h2⟩ := Option.bind_eq_some_iff.mp h
    simp only [Option.some.injEq] at h2
    subst h2
    exact ⟨⟨_, Try.func18, rfl⟩, rfl, rfl, fun w => acmelaw01_known.calls r w h1⟩
  · simp only [Option.some.injEq] at h1
    subst h1
    dsimp only at h
    replace h := popI_some h
    obtain ⟨a0, args, rfl, h⟩ := h
    replace h := popI_some h
    obtain ⟨a1, args, rfl, h⟩ := h
    replace h := nil1_some h
    obtain ⟨rfl, h⟩ := h
    obtain ⟨⟨r1, r2⟩, h1, h2⟩ := Option.bind_eq_some_iff.mp h
    simp only [Option.some.injEq] at h2
    subst h2
    exact ⟨⟨_, Try.func20, rfl⟩, rfl, rfl, fun w => acmeref01_Lowest.calls k a0 a1 r1 r2 w h1⟩
  · simp only [Option.some.injEq] at h1
    subst h1
    dsimp only at h
    replace h := popA_some h
    obtain ⟨q, args, rfl, h⟩ := h
    replace h := popI_some h
    obtain ⟨a0_0, q, rfl, h⟩ := h
    replace h := popI_some h
    obtain ⟨a0_1, q, rfl, h⟩ := h
    replace h := popI_some h
    obtain ⟨a0_2, q, rfl, h⟩ := h
    replace h := popI_some h
    obtain ⟨a0_3, q, rfl, h⟩ := h
    replace h := popI_some h
    obtain ⟨a0_4, q, rfl, h⟩ := h
    replace h := popI_some h
    obtain ⟨a0_5, q, rfl, h⟩ := h
    replace h := popB_some h
    obtain ⟨a0_6, q, rfl, h⟩ := h
    replace h := popI_some h
    obtain ⟨a0_7, q, rfl, h⟩ := h
    replace h := nil1_some h
    obtain ⟨rfl, h⟩ := h
    replace h := popI_some h
    obtain ⟨a1, args, rfl, h⟩ := h
    replace h := nil1_some h
    obtain ⟨rfl, h⟩ := h
    obtain ⟨r, h1, h2⟩ := Option.bind_eq_some_iff.mp h
    simp only [Option.some.injEq] at h2
    subst h2
    exact ⟨⟨_, Try.func21, rfl⟩, rfl, rfl, fun w => acmeref01_Width.calls a0_0 a0_1 a0_2 a0_3 a0_4 a0_5 a0_6 a0_7 a1 r w h1⟩
  · simp at h1
end Go.Proofs.Yticbhgjenidjlaa.T.RThreadChecks
namespace Go.Proofs.Yticbhgjenidjlaa.T
open Go Go.RowKit Go.Proofs.Yticbhgjenidjlaa.Ab Go.Proofs.Yticbhgjenidjlaa.T.RThreadChecks
set_option linter.unusedVariables false
noncomputable def acmelaw01_ThreadChecks.T (g14 : Int → Int → Int → Int → Int → Int → Bool → Int → Option (Int)) (g15 : Int → Int → Int → Int → Int → Int → Bool → Int → Int → Option (Int × Int × Int)) (g16 : Int → Int → Int → Int → Int → Int → Bool → Int → Option (Int × Int × Int)) (g17 : Int → Int → Int → Int → Int → Int → Bool → Int → Option (Bool)) (g18 : Option (Bool)) (g20 : Int → Int → Option (Int × Int)) (g21 : Int → Int → Int → Int → Int → Int → Bool → Int → Int → Option (Int)) (a0_0 : Int) (a0_1 : Int) (a0_2 : Int) (a0_3 : Int) (a0_4 : Int) (a0_5 : Int) (a0_6 : Bool) (a0_7 : Int) (a1 : Int) : Option Value := (g14 a0_0 a0_1 a0_2 a0_3 a0_4 a0_5 a0_6 a0_7).bind fun r0 => (g15 a0_0 a0_1 a0_2 a0_3 a0_4 a0_5 a0_6 a0_7 a1).bind fun r1 => (g16 a0_0 a0_1 a0_2 a0_3 a0_4 a0_5 a0_6 a0_7).bind fun r2 => (g17 a0_0 a0_1 a0_2 a0_3 a0_4 a0_5 a0_6 a0_7).bind fun r3 => (bif !r3 then (bif r0 == 2 then (bif r1.snd.snd == r0 then (bif r2.snd.snd == r0 then (bif r1.fst == 0 && r1.snd.fst == 0 then (bif r2.fst == 0 && r2.snd.fst == 0 then (g18).bind fun r4 => some (.bool (r4)) else some (.bool (false))) else some (.bool (false))) else some (.bool (false))) else some (.bool (false))) else some (.bool (false))) else (bif r0 != 0 then some (.bool (false)) else (bif decide (a1 ≥ IntKind.i64.wrap (0 - a0_4)) then (bif decide (a1 ≤ a0_3) then (bif r1.snd.snd != 0 then some (.bool (false)) else (g21 a0_0 a0_1 a0_2 a0_3 a0_4 a0_5 a0_6 a0_7 a1).bind fun r4 => (g20 r4 2000).bind fun r5 => (bif !(r1.fst == r5.fst && r1.snd.fst == r5.snd) then some (.bool (false)) else (bif IntKind.i64.wrap (a0_1 + a0_2) == 0 then (bif r2.snd.snd == 7 then (bif r2.fst == 0 && r2.snd.fst == 0 then (g18).bind fun r6 => some (.bool (r6)) else some (.bool (false))) else some (.bool (false))) else (bif r2.snd.snd == 0 then (g20 (IntKind.i64.wrap (500 * a0_0)) (IntKind.i64.wrap (a0_1 + a0_2))).bind fun r6 => (bif r2.fst == r6.fst && r2.snd.fst == r6.snd then (g18).bind fun r7 => some (.bool (r7)) else some (.bool (false))) else some (.bool (false)))))) else (bif r1.snd.snd != 3 then some (.bool (false)) else (bif !(r1.fst == 0 && r1.snd.fst == 0) then some (.bool (false)) else (bif IntKind.i64.wrap (a0_1 + a0_2) == 0 then (bif r2.snd.snd == 7 then (bif r2.fst == 0 && r2.snd.fst == 0 then (g18).bind fun r4 => some (.bool (r4)) else some (.bool (false))) else some (.bool (false))) else (bif r2.snd.snd == 0 then (g20 (IntKind.i64.wrap (500 * a0_0)) (IntKind.i64.wrap (a0_1 + a0_2))).bind fun r4 => (bif r2.fst == r4.fst && r2.snd.fst == r4.snd then (g18).bind fun r5 => some (.bool (r5)) else some (.bool (false))) else some (.bool (false))))))) else (bif r1.snd.snd != 3 then some (.bool (false)) else (bif !(r1.fst == 0 && r1.snd.fst == 0) then some (.bool (false)) else (bif IntKind.i64.wrap (a0_1 + a0_2) == 0 then (bif r2.snd.snd == 7 then (bif r2.fst == 0 && r2.snd.fst == 0 then (g18).bind fun r4 => some (.bool (r4)) else some (.bool (false))) else some (.bool (false))) else (bif r2.snd.snd == 0 then (g20 (IntKind.i64.wrap (500 * a0_0)) (IntKind.i64.wrap (a0_1 + a0_2))).bind fun r4 => (bif r2.fst == r4.fst && r2.snd.fst == r4.snd then (g18).bind fun r5 => some (.bool (r5)) else some (.bool (false))) else some (.bool (false)))))))))
set_option maxRecDepth 1000000 in
theorem acmelaw01_ThreadChecks.run (g14 : Int → Int → Int → Int → Int → Int → Bool → Int → Option (Int)) (g15 : Int → Int → Int → Int → Int → Int → Bool → Int → Int → Option (Int × Int × Int)) (g16 : Int → Int → Int → Int → Int → Int → Bool → Int → Option (Int × Int × Int)) (g17 : Int → Int → Int → Int → Int → Int → Bool → Int → Option (Bool)) (g18 : Option (Bool)) (g20 : Int → Int → Option (Int × Int)) (g21 : Int → Int → Int → Int → Int → Int → Bool → Int → Int → Option (Int)) (a0_0 : Int) (a0_1 : Int) (a0_2 : Int) (a0_3 : Int) (a0_4 : Int) (a0_5 : Int) (a0_6 : Bool) (a0_7 : Int) (a1 : Int) : aCallK Try.prog (openK g14 g15 g16 g17 g18 g20 g21) (fun _ => false) 1000 60 0 3 [.agg ⟨[.int .i64 a0_0, .int .i64 a0_1, .int .i64 a0_2, .int .i64 a0_3, .int .i64 a0_4, .int .i64 a0_5, .bool a0_6, .int .i64 a0_7]⟩, .int .i64 a1] ⟨0, []⟩ fin = acmelaw01_ThreadChecks.T g14 g15 g16 g17 g18 g20 g21 a0_0 a0_1 a0_2 a0_3 a0_4 a0_5 a0_6 a0_7 a1 := by kernel_rfl
noncomputable def acmelaw01_ThreadChecks.f (k : Nat) (a0_0 : Int) (a0_1 : Int) (a0_2 : Int) (a0_3 : Int) (a0_4 : Int) (a0_5 : Int) (a0_6 : Bool) (a0_7 : Int) (a1 : Int) : Option Bool := (acmelaw01_ThreadChecks.T (thread_Check.f k) (thread_Width.f k) (thread_Sharp.f k) (acmeref01_Form.f k) acmelaw01_known.f (acmeref01_Lowest.f k) acmeref01_Width.f a0_0 a0_1 a0_2 a0_3 a0_4 a0_5 a0_6 a0_7 a1).bind asB1
theorem acmelaw01_ThreadChecks.calls (k : Nat) (a0_0 : Int) (a0_1 : Int) (a0_2 : Int) (a0_3 : Int) (a0_4 : Int) (a0_5 : Int) (a0_6 : Bool) (a0_7 : Int) (a1 : Int) (r : Bool) (w : World) (h : acmelaw01_ThreadChecks.f k a0_0 a0_1 a0_2 a0_3 a0_4 a0_5 a0_6 a0_7 a1 = some r) :
  Calls Try.prog 3 #[.agg #[.int .i64 a0_0, .int .i64 a0_1, .int .i64 a0_2, .int .i64 a0_3, .int .i64 a0_4, .int .i64 a0_5, .bool a0_6, .int .i64 a0_7], .int .i64 a1] w fun e w' => e = .returned (.bool r) ∧ Below w.heap.size w w' := by
 unfold acmelaw01_ThreadChecks.f at h
 obtain ⟨v, h1, h2⟩ := Option.bind_eq_some_iff.mp h
 obtain rfl := asB1_some h2
 exact ask_calls (by kernel_rfl) noNum (orc_ok k) (orc_le k) rfl ((acmelaw01_ThreadChecks.run (thread_Check.f k) (thread_Width.f k) (thread_Sharp.f k) (acmeref01_Form.f k) acmelaw01_known.f (acmeref01_Lowest.f k) acmeref01_Width.f a0_0 a0_1 a0_2 a0_3 a0_4 a0_5 a0_6 a0_7 a1).trans h1) w
end Go.Proofs.Yticbhgjenidjlaa.T
