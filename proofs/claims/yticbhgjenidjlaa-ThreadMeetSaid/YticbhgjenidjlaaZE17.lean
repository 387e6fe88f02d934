-- cut down, squeezed and laid together by pack.py (a program of this repository) out of this seat's texts
import Derived.ChangeKeysEq
import Derived.Below
import Derived.Deep.Draws
import Derived.Deep.AppendLies
import Derived.Maps.AppendAt
import Derived.OwnWalk
import Derived.Laws.BytesArg
import Derived.Laws.MakeOwn
import Derived.Laws.OwnMore
import Derived.Deep.OwnRows
import Derived.Tactics
import Derived.Lib.ConvBytes
import Derived.Laws.Slices
import Derived.WalkKit
import Derived.KernelRfl
import Derived.RowKit3
import Derived.Deep.LoopGhost
import Derived.Deep.QuietTactic
import Derived.BigQuiet
import Derived.WideLaws
import Derived.Deep.DeepCutAuto
import Derived.Deep.CutBlock
import Derived.Deep.RegionHeld3
import Derived.Laws.Rows
import Derived.Lib.AppendStr
import Derived.ArgAppend
import Derived.Laws.IdiomCopy
import Derived.OrdersHeld
import Derived.Laws.BitsLemmas
import Derived.RowKit
import Derived.Test.YticbhgjenidjlaaProg
import Derived.Laws.StructEq
import Derived.Test.YticbhgjenidjlaaZE1
import Derived.Test.YticbhgjenidjlaaZE9
import Derived.Test.YticbhgjenidjlaaZE15
import Derived.Test.YticbhgjenidjlaaZE14
import Derived.Test.YticbhgjenidjlaaZE3
import Derived.Test.YticbhgjenidjlaaZE12
import Derived.Test.YticbhgjenidjlaaZE13
import Derived.Test.YticbhgjenidjlaaZE16
import Derived.Test.YticbhgjenidjlaaZE8
import Derived.Test.YticbhgjenidjlaaZE10
import Derived.Test.YticbhgjenidjlaaZE11
import Derived.Test.YticbhgjenidjlaaZE7
import Derived.Test.YticbhgjenidjlaaZE4
import Derived.Test.YticbhgjenidjlaaZE6
import Derived.Test.YticbhgjenidjlaaZE5
import Derived.Test.YticbhgjenidjlaaZE2
namespace Go.Proofs.Yticbhgjenidjlaa.T.RThreadMeet
open Go Go.RowKit Go.Proofs.Yticbhgjenidjlaa.Ab Go.Proofs.Yticbhgjenidjlaa.T
set_option linter.unusedVariables false
section
variable {R : Type} (g14 : Int → Int → Int → Int → Int → Int → Bool → Int → Option (Int)) (g15 : Int → Int → Int → Int → Int → Int → Bool → Int → Int → Option (Int × Int × Int)) (g16 : Int → Int → Int → Int → Int → Int → Bool → Int → Option (Int × Int × Int)) (g18 : Option (Bool)) (g37 : Int → Int → Int → Int → Int → Int → Int → Bool → Option (Int × Int × Int × Int × Int × Int × Bool × Int))
def openK (f : FuncId) : Option (List Value → (Value → Option R) → Option R) :=
  match f with
  | 14 => some fun args c => popA args fun q args => popN .i64 q fun a0_0 q => popN .i64 q fun a0_1 q => popN .i64 q fun a0_2 q => popN .i64 q fun a0_3 q => popN .i64 q fun a0_4 q => popN .i64 q fun a0_5 q => popB q fun a0_6 q => popN .i64 q fun a0_7 q => nil1 q <| nil1 args <| (g14 a0_0 a0_1 a0_2 a0_3 a0_4 a0_5 a0_6 a0_7).bind fun r => c (.int .i64 r)
  | 15 => some fun args c => popA args fun q args => popN .i64 q fun a0_0 q => popN .i64 q fun a0_1 q => popN .i64 q fun a0_2 q => popN .i64 q fun a0_3 q => popN .i64 q fun a0_4 q => popN .i64 q fun a0_5 q => popB q fun a0_6 q => popN .i64 q fun a0_7 q => nil1 q <| popN .i64 args fun a1 args => nil1 args <| (g15 a0_0 a0_1 a0_2 a0_3 a0_4 a0_5 a0_6 a0_7 a1).bind fun r => c (.tuple ⟨[.agg ⟨[.int .i64 r.1, .int .i64 r.2.1]⟩, .int .i64 r.2.2]⟩)
  | 16 => some fun args c => popA args fun q args => popN .i64 q fun a0_0 q => popN .i64 q fun a0_1 q => popN .i64 q fun a0_2 q => popN .i64 q fun a0_3 q => popN .i64 q fun a0_4 q => popN .i64 q fun a0_5 q => popB q fun a0_6 q => popN .i64 q fun a0_7 q => nil1 q <| nil1 args <| (g16 a0_0 a0_1 a0_2 a0_3 a0_4 a0_5 a0_6 a0_7).bind fun r => c (.tuple ⟨[.agg ⟨[.int .i64 r.1, .int .i64 r.2.1]⟩, .int .i64 r.2.2]⟩)
  | 18 => some fun args c => nil1 args <| (g18).bind fun r => c (.bool r)
  | 37 => some fun args c => popA args fun q args => popN .u16 q fun a0_0 q => popN .u16 q fun a0_1 q => popN .u16 q fun a0_2 q => popN .u16 q fun a0_3 q => popN .u16 q fun a0_4 q => popN .u8 q fun a0_5 q => popN .u8 q fun a0_6 q => popB q fun a0_7 q => nil1 q <| nil1 args <| (g37 a0_0 a0_1 a0_2 a0_3 a0_4 a0_5 a0_6 a0_7).bind fun r => c (.agg ⟨[.int .i64 r.1, .int .i64 r.2.1, .int .i64 r.2.2.1, .int .i64 r.2.2.2.1, .int .i64 r.2.2.2.2.1, .int .i64 r.2.2.2.2.2.1, .bool r.2.2.2.2.2.2.1, .int .i64 r.2.2.2.2.2.2.2]⟩)
  | _ => none
end
noncomputable def orcK {R : Type} (k : Nat) : FuncId → Option (List Value → (Value → Option R) → Option R) := openK (thread_Check.f k) (thread_Width.f k) (thread_Sharp.f k) acmelaw01_known.f acmelaw01_Cut_form.f
noncomputable def orc (k : Nat) (f : FuncId) : Option (List Value → Option Value) := (orcK (R := Value) k f).map fun g args => g args some
theorem orc_le {R : Type} (k : Nat) : OrcLe (R := R) (orc k) (orcK k) := by
  intro f
  unfold orc orcK openK
  split
  · exact .inr ⟨_, _, rfl, rfl, fun args c => popA_le fun q args => popN_le fun a0_0 q => popN_le fun a0_1 q => popN_le fun a0_2 q => popN_le fun a0_3 q => popN_le fun a0_4 q => popN_le fun a0_5 q => popB_le fun a0_6 q => popN_le fun a0_7 q => nil1_le <| nil1_le <| bind_le _ _ _⟩
  · exact .inr ⟨_, _, rfl, rfl, fun args c => popA_le fun q args => popN_le fun a0_0 q => popN_le fun a0_1 q => popN_le fun a0_2 q => popN_le fun a0_3 q => popN_le fun a0_4 q => popN_le fun a0_5 q => popB_le fun a0_6 q => popN_le fun a0_7 q => nil1_le <| popN_le fun a1 args => nil1_le <| bind_le _ _ _⟩
  · exact .inr ⟨_, _, rfl, rfl, fun args c => popA_le fun q args => popN_le fun a0_0 q => popN_le fun a0_1 q => popN_le fun a0_2 q => popN_le fun a0_3 q => popN_le fun a0_4 q => popN_le fun a0_5 q => popB_le fun a0_6 q => popN_le fun a0_7 q => nil1_le <| nil1_le <| bind_le _ _ _⟩
  · exact .inr ⟨_, _, rfl, rfl, fun args c => nil1_le <| bind_le _ _ _⟩
  · exact .inr ⟨_, _, rfl, rfl, fun args c => popA_le fun q args => popN_le fun a0_0 q => popN_le fun a0_1 q => popN_le fun a0_2 q => popN_le fun a0_3 q => popN_le fun a0_4 q => popN_le fun a0_5 q => popN_le fun a0_6 q => popB_le fun a0_7 q => nil1_le <| nil1_le <| bind_le _ _ _⟩
  · exact .inl ⟨rfl, rfl⟩
theorem orc_ok (k : Nat) : OrcOK Try.prog (orc k) := by
  intro f g args v hf h
  unfold orc orcK openK at hf
  obtain ⟨gK, h1, rfl⟩ := Option.map_eq_some_iff.mp hf
  split at h1
  · simp only [Option.some.injEq] at h1
    subst h1
    dsimp only at h
    replace h := popA_some h
    obtain ⟨q, args, rfl, h⟩ := h
    replace h := popN_some h
    obtain ⟨a0_0, q, rfl, h⟩ := h
    replace h := popN_some h
    obtain ⟨a0_1, q, rfl, h⟩ := h
    replace h := popN_some h
    obtain ⟨a0_2, q, rfl, h⟩ := h
    replace h := popN_some h
    obtain ⟨a0_3, q, rfl, h⟩ := h
    replace h := popN_some h
    obtain ⟨a0_4, q, rfl, h⟩ := h
    replace h := popN_some h
    obtain ⟨a0_5, q, rfl, h⟩ := h
    replace h := popB_some h
    obtain ⟨a0_6, q, rfl, h⟩ := h
    replace h := popN_some h
    obtain ⟨a0_7, q, rfl, h⟩ := h
    replace h := nil1_some h
    obtain ⟨rfl, h⟩ := h
    replace h := nil1_some h
    obtain ⟨rfl, h⟩ := h
    obtain ⟨r, h1, h2⟩ := Option.bind_eq_some_iff.mp h
    simp only [Option.some.injEq] at h2
    subst h2
    exact ⟨⟨_, Try.func14, rfl⟩, rfl, rfl, fun w => thread_Check.calls k a0_0 a0_1 a0_2 a0_3 a0_4 a0_5 a0_6 a0_7 r w h1⟩
  · simp only [Option.some.injEq] at h1
    subst h1
    dsimp only at h
    replace h := popA_some h
    obtain ⟨q, args, rfl, h⟩ := h
    replace h := popN_some h
    obtain ⟨a0_0, q, rfl, h⟩ := h
    replace h := popN_some h
    obtain ⟨a0_1, q, rfl, h⟩ := h
    replace h := popN_some h
    obtain ⟨a0_2, q, rfl, h⟩ := h
    replace h := popN_some h
    obtain ⟨a0_3, q, rfl, h⟩ := h
    replace h := popN_some h
    obtain ⟨a0_4, q, rfl, h⟩ := h
    replace h := popN_some h
    obtain ⟨a0_5, q, rfl, h⟩ := h
    replace h := popB_some h
    obtain ⟨a0_6, q, rfl, h⟩ := h
    replace h := popN_some h
    obtain ⟨a0_7, q, rfl, h⟩ := h
    replace h := nil1_some h
    obtain ⟨rfl, h⟩ := h
    replace h := popN_some h
    obtain ⟨a1, args, rfl, h⟩ := h
    replace h := nil1_some h
    obtain ⟨rfl, h⟩ := h
    obtain ⟨⟨r1, r2, r3⟩, h1, h2⟩ := Option.bind_eq_some_iff.mp h
    simp only [Option.some.injEq] at h2
    subst h2
    exact ⟨⟨_, Try.func15, rfl⟩, rfl, rfl, fun w => thread_Width.calls k a0_0 a0_1 a0_2 a0_3 a0_4 a0_5 a0_6 a0_7 a1 r1 r2 r3 w h1⟩
  · simp only [Option.some.injEq] at h1
    subst h1
    dsimp only at h
    replace h := popA_some h
    obtain ⟨q, args, rfl, h⟩ := h
    replace h := popN_some h
    obtain ⟨a0_0, q, rfl, h⟩ := h
    replace h := popN_some h
    obtain ⟨a0_1, q, rfl, h⟩ := h
    replace h := popN_some h
    obtain ⟨a0_2, q, rfl, h⟩ := h
    replace h := popN_some h
    obtain ⟨a0_3, q, rfl, h⟩ := h
    replace h := popN_some h
    obtain ⟨a0_4, q, rfl, h⟩ := h
    replace h := popN_some h
    obtain ⟨a0_5, q, rfl, h⟩ := h
    replace h := popB_some h
    obtain ⟨a0_6, q, rfl, h⟩ := h
    replace h := popN_some h
    obtain ⟨a0_7, q, rfl, h⟩ := h
    replace h := nil1_some h
    obtain ⟨rfl, h⟩ := h
    replace h := nil1_some h
    obtain ⟨rfl, h⟩ := h
    obtain ⟨⟨r1, r2, r3⟩, h1, h2⟩ := Option.bind_eq_some_iff.mp h
    simp only [Option.some.injEq] at h2
    subst h2
    exact ⟨⟨_, Try.func16, rfl⟩, rfl, rfl, fun w => thread_Sharp.calls k a0_0 a0_1 a0_2 a0_3 a0_4 a0_5 a0_6 a0_7 r1 r2 r3 w h1⟩
  · simp only [Option.some.injEq] at h1
    subst h1
    dsimp only at h
    replace h := nil1_some h
    obtain ⟨rfl, h⟩ := h
    obtain ⟨r, h1, h2⟩ := Option.bind_eq_some_iff.mp h
    simp only [Option.some.injEq] at h2
    subst h2
    exact ⟨⟨_, Try.func18, rfl⟩, rfl, rfl, fun w => acmelaw01_known.calls r w h1⟩
  · simp only [Option.some.injEq] at h1
    subst h1
    dsimp only at h
    replace h := popA_some h
    obtain ⟨q, args, rfl, h⟩ := h
    replace h := popN_some h
    obtain ⟨a0_0, q, rfl, h⟩ := h
    replace h := popN_some h
    obtain ⟨a0_1, q, rfl, h⟩ := h
    replace h := popN_some h
    obtain ⟨a0_2, q, rfl, h⟩ := h
    replace h := popN_some h
    obtain ⟨a0_3, q, rfl, h⟩ := h
    replace h := popN_some h
    obtain ⟨a0_4, q, rfl, h⟩ := h
    replace h := popN_some h
    obtain ⟨a0_5, q, rfl, h⟩ := h
    replace h := popN_some h
    obtain ⟨a0_6, q, rfl, h⟩ := h
    replace h := popB_some h
    obtain ⟨a0_7, q, rfl, h⟩ := h
    replace h := nil1_some h
    obtain ⟨rfl, h⟩ := h
    replace h := nil1_some h
    obtain ⟨rfl, h⟩ := h
    obtain ⟨⟨r1, r2, r3, r4, r5, r6, r7, r8⟩, h1, h2⟩ := Option.bind_eq_some_iff.mp h
    simp only [Option.some.injEq] at h2
    subst h2
    exact ⟨⟨_, Try.func37, rfl⟩, rfl, rfl, fun w => acmelaw01_Cut_form.calls a0_0 a0_1 a0_2 a0_3 a0_4 a0_5 a0_6 a0_7 r1 r2 r3 r4 r5 r6 r7 r8 w h1⟩
  · simp at h1
end Go.Proofs.Yticbhgjenidjlaa.T.RThreadMeet
namespace Go.Proofs.Yticbhgjenidjlaa.T
open Go Go.RowKit Go.Proofs.Yticbhgjenidjlaa.Ab Go.Proofs.Yticbhgjenidjlaa.T.RThreadMeet
set_option linter.unusedVariables false
noncomputable def acmelaw01_ThreadMeet.T (g14 : Int → Int → Int → Int → Int → Int → Bool → Int → Option (Int)) (g15 : Int → Int → Int → Int → Int → Int → Bool → Int → Int → Option (Int × Int × Int)) (g16 : Int → Int → Int → Int → Int → Int → Bool → Int → Option (Int × Int × Int)) (g18 : Option (Bool)) (g37 : Int → Int → Int → Int → Int → Int → Int → Bool → Option (Int × Int × Int × Int × Int × Int × Bool × Int)) (a0_0 : Int) (a0_1 : Int) (a0_2 : Int) (a0_3 : Int) (a0_4 : Int) (a0_5 : Int) (a0_6 : Int) (a0_7 : Bool) (a1 : Int) : Option Value := (g37 a0_0 a0_1 a0_2 a0_3 a0_4 a0_5 a0_6 a0_7).bind fun r0 => (g16 r0.fst r0.snd.fst r0.snd.snd.fst r0.snd.snd.snd.fst r0.snd.snd.snd.snd.fst r0.snd.snd.snd.snd.snd.fst r0.snd.snd.snd.snd.snd.snd.fst r0.snd.snd.snd.snd.snd.snd.snd).bind fun r1 => (bif IntKind.i64.wrap (r0.snd.fst + r0.snd.snd.fst) == 0 then (bif r1.snd.snd == 7 then (bif r1.fst == 0 && r1.snd.fst == 0 then (g18).bind fun r2 => some (.bool (r2)) else some (.bool (false))) else some (.bool (false))) else (bif r1.snd.snd != 0 then some (.bool (false)) else (bif decide (r1.snd.fst < 1) then some (.bool (false)) else (bif IntKind.i64.wrap (r1.fst * IntKind.i64.wrap (r0.snd.fst + r0.snd.snd.fst)) != IntKind.i64.wrap (IntKind.i64.wrap (500 * r0.fst) * r1.snd.fst) then some (.bool (false)) else (bif decide (IntKind.i64.wrap (r0.snd.snd.snd.fst * r1.snd.fst) > r1.fst) then some (.bool (false)) else (bif decide (IntKind.i64.wrap (r0.snd.snd.snd.snd.fst * r1.snd.fst) > r1.fst) then some (.bool (false)) else (bif decide (r1.snd.fst = 0) then none else (bif decide (r1.snd.fst = 0) then none else (g14 r0.fst r0.snd.fst r0.snd.snd.fst (IntKind.i64.wrap (IntKind.i64.wrap (IntKind.i64.wrap (r1.fst.tdiv r1.snd.fst) + 1) + IntKind.i64.wrap a1)) r0.snd.snd.snd.snd.fst r0.snd.snd.snd.snd.snd.fst r0.snd.snd.snd.snd.snd.snd.fst r0.snd.snd.snd.snd.snd.snd.snd).bind fun r2 => (bif r2 != 2 then some (.bool (false)) else (g14 r0.fst r0.snd.fst r0.snd.snd.fst r0.snd.snd.snd.fst (IntKind.i64.wrap (IntKind.i64.wrap (IntKind.i64.wrap (r1.fst.tdiv r1.snd.fst) + 1) + IntKind.i64.wrap a1)) r0.snd.snd.snd.snd.snd.fst r0.snd.snd.snd.snd.snd.snd.fst r0.snd.snd.snd.snd.snd.snd.snd).bind fun r3 => (bif r3 != 2 then some (.bool (false)) else (bif decide (r1.snd.fst = 0) then none else (bif decide (IntKind.i64.wrap (r1.fst.tdiv r1.snd.fst) > 200000) then (g18).bind fun r4 => some (.bool (r4)) else (bif IntKind.i64.wrap (IntKind.i64.wrap (r1.fst.tdiv r1.snd.fst) + r0.snd.snd.snd.snd.fst) == 0 then (g18).bind fun r4 => some (.bool (r4)) else (g15 r0.fst r0.snd.fst r0.snd.snd.fst (IntKind.i64.wrap (r1.fst.tdiv r1.snd.fst)) r0.snd.snd.snd.snd.fst r0.snd.snd.snd.snd.snd.fst r0.snd.snd.snd.snd.snd.snd.fst r0.snd.snd.snd.snd.snd.snd.snd (IntKind.i64.wrap (r1.fst.tdiv r1.snd.fst))).bind fun r4 => (bif r4.snd.snd == 0 then (bif decide (r4.snd.fst > 0) then (bif decide (r4.fst ≥ 0) then (bif (r4.fst == 0) == (r1.snd.fst == 1) then (bif decide (IntKind.i64.wrap (1000 * r4.fst) < IntKind.i64.wrap (IntKind.i64.wrap (2 * r4.snd.fst) * IntKind.i64.wrap (r0.snd.fst + r0.snd.snd.fst))) then (g18).bind fun r5 => some (.bool (r5)) else some (.bool (false))) else some (.bool (false))) else some (.bool (false))) else some (.bool (false))) else some (.bool (false))))))))))))))))
set_option maxRecDepth 1000000 in
theorem acmelaw01_ThreadMeet.run (g14 : Int → Int → Int → Int → Int → Int → Bool → Int → Option (Int)) (g15 : Int → Int → Int → Int → Int → Int → Bool → Int → Int → Option (Int × Int × Int)) (g16 : Int → Int → Int → Int → Int → Int → Bool → Int → Option (Int × Int × Int)) (g18 : Option (Bool)) (g37 : Int → Int → Int → Int → Int → Int → Int → Bool → Option (Int × Int × Int × Int × Int × Int × Bool × Int)) (a0_0 : Int) (a0_1 : Int) (a0_2 : Int) (a0_3 : Int) (a0_4 : Int) (a0_5 : Int) (a0_6 : Int) (a0_7 : Bool) (a1 : Int) : aCallK Try.prog (openK g14 g15 g16 g18 g37) (fun _ => false) 1000 60 0 9 [.agg ⟨[.int .u16 a0_0, .int .u16 a0_1, .int .u16 a0_2, .int .u16 a0_3, .int .u16 a0_4, .int .u8 a0_5, .int .u8 a0_6, .bool a0_7]⟩, .int .u16 a1] ⟨0, []⟩ fin = acmelaw01_ThreadMeet.T g14 g15 g16 g18 g37 a0_0 a0_1 a0_2 a0_3 a0_4 a0_5 a0_6 a0_7 a1 := by kernel_rfl
noncomputable def acmelaw01_ThreadMeet.f (k : Nat) (a0_0 : Int) (a0_1 : Int) (a0_2 : Int) (a0_3 : Int) (a0_4 : Int) (a0_5 : Int) (a0_6 : Int) (a0_7 : Bool) (a1 : Int) : Option Bool := (acmelaw01_ThreadMeet.T (thread_Check.f k) (thread_Width.f k) (thread_Sharp.f k) acmelaw01_known.f acmelaw01_Cut_form.f a0_0 a0_1 a0_2 a0_3 a0_4 a0_5 a0_6 a0_7 a1).bind asB1
theorem acmelaw01_ThreadMeet.calls (k : Nat) (a0_0 : Int) (a0_1 : Int) (a0_2 : Int) (a0_3 : Int) (a0_4 : Int) (a0_5 : Int) (a0_6 : Int) (a0_7 : Bool) (a1 : Int) (r : Bool) (w : World) (h : acmelaw01_ThreadMeet.f k a0_0 a0_1 a0_2 a0_3 a0_4 a0_5 a0_6 a0_7 a1 = some r) :
  Calls Try.prog 9 #[.agg #[.int .u16 a0_0, .int .u16 a0_1, .int .u16 a0_2, .int .u16 a0_3, .int .u16 a0_4, .int .u8 a0_5, .int .u8 a0_6, .bool a0_7], .int .u16 a1] w fun e w' => e = .returned (.bool r) ∧ Below w.heap.size w w' := by
 unfold acmelaw01_ThreadMeet.f at h
 obtain ⟨v, h1, h2⟩ := Option.bind_eq_some_iff.mp h
 obtain rfl := asB1_some h2
 exact ask_calls (by kernel_rfl) noNum (orc_ok k) (orc_le k) rfl ((acmelaw01_ThreadMeet.run (thread_Check.f k) (thread_Width.f k) (thread_Sharp.f k) acmelaw01_known.f acmelaw01_Cut_form.f a0_0 a0_1 a0_2 a0_3 a0_4 a0_5 a0_6 a0_7 a1).trans h1) w
end Go.Proofs.Yticbhgjenidjlaa.T
