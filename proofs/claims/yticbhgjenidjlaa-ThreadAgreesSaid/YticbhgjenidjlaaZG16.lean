-- cut down, squeezed and laid together by pack.py (a program of this repository) out of this seat's texts
import Derived.Test.YticbhgjenidjlaaZG12
import Derived.Test.YticbhgjenidjlaaZG13
import Derived.Test.YticbhgjenidjlaaZG15
import Derived.Test.YticbhgjenidjlaaZG9
import Derived.Test.YticbhgjenidjlaaZG14
import Derived.Test.YticbhgjenidjlaaZG10
import Derived.Test.YticbhgjenidjlaaZG11
import Derived.Test.YticbhgjenidjlaaZG2
import Derived.Test.YticbhgjenidjlaaZG8
import Derived.Test.YticbhgjenidjlaaZG5
import Derived.Test.YticbhgjenidjlaaZG4
import Derived.Test.YticbhgjenidjlaaZG7
import Derived.Test.YticbhgjenidjlaaZG3
import Derived.Test.YticbhgjenidjlaaZG6
import Derived.Test.YticbhgjenidjlaaZG1
namespace Go.Proofs.Yticbhgjenidjlaa.T.RAgrees
open Go Go.RowKit Go.Proofs.Yticbhgjenidjlaa.Ab Go.Proofs.Yticbhgjenidjlaa.T
set_option linter.unusedVariables false
section
variable {R : Type} (g18 : Option (Bool))
def openK (f : FuncId) : Option (List Value → (Value → Option R) → Option R) :=
  match f with
  | 18 => some fun args c => nil1 args <| (g18).bind fun r => c (.bool r)
  | _ => none
end
noncomputable def orcK {R : Type} (k : Nat) : FuncId → Option (List Value → (Value → Option R) → Option R) := openK acmelaw01_known.f
noncomputable def orc (k : Nat) (f : FuncId) : Option (List Value → Option Value) := (orcK (R := Value) k f).map fun g args => g args some
theorem orc_le {R : Type} (k : Nat) : OrcLe (R := R) (orc k) (orcK k) := by
  intro f
  unfold orc orcK openK
  split
  · exact .inr ⟨_, _, rfl, rfl, fun args c => nil1_le <| bind_le _ _ _⟩
  · exact .inl ⟨rfl, rfl⟩
theorem orc_ok (k : Nat) : OrcOK Try.prog (orc k) := by
  intro f g args v hf h
  unfold orc orcK openK at hf
  obtain ⟨gK, h1, rfl⟩ := Option.map_eq_some_iff.mp hf
  split at h1
  · simp only [Option.some.injEq] at h1
    subst h1
    dsimp only at h
    replace h := nil1_some h
    obtain ⟨rfl, h⟩ := h
    obtain ⟨r, h1, h2⟩ := Option.bind_eq_some_iff.mp h
    simp only [Option.some.injEq] at h2
    subst h2
    exact ⟨⟨_, Try.func18, rfl⟩, rfl, rfl, fun w => acmelaw01_known.calls r w h1⟩
  · simp at h1
end Go.Proofs.Yticbhgjenidjlaa.T.RAgrees
namespace Go.Proofs.Yticbhgjenidjlaa.T
open Go Go.RowKit Go.Proofs.Yticbhgjenidjlaa.Ab Go.Proofs.Yticbhgjenidjlaa.T.RAgrees
set_option linter.unusedVariables false
noncomputable def acmeref01_Agrees.T (g18 : Option (Bool)) (a0_0 : Int) (a0_1 : Int) (a0_2 : Int) (a0_3 : Int) (a0_4 : Int) (a0_5 : Int) (a0_6 : Bool) (a0_7 : Int) (a1_0 : Int) (a1_1 : Int) (a1_2 : Int) (a1_3 : Int) (a1_4 : Int) (a1_5 : Int) (a1_6 : Int) (a1_7 : Int) (a1_8 : Int) (a1_9 : Int) (a1_10 : Int) (a1_11 : Int) (a1_12 : Int) (a1_13 : Int) (a1_14 : Int) : Option Value := (bif decide (a0_0 < a1_0) then some (.bool (false)) else (bif decide (a0_0 > a1_1) then some (.bool (false)) else (bif decide (a0_1 < a1_2) then some (.bool (false)) else (bif decide (a0_1 > a1_3) then some (.bool (false)) else (bif decide (a0_2 < a1_4) then some (.bool (false)) else (bif decide (a0_2 > a1_5) then some (.bool (false)) else (bif decide (a0_3 < a1_6) then some (.bool (false)) else (bif decide (a0_3 > a1_7) then some (.bool (false)) else (bif decide (a0_4 < a1_8) then some (.bool (false)) else (bif decide (a0_4 > a1_9) then some (.bool (false)) else (bif decide (a0_5 < a1_10) then some (.bool (false)) else (bif decide (a0_5 > a1_11) then some (.bool (false)) else (bif decide (a0_7 < a1_12) then some (.bool (false)) else (bif decide (a0_7 > a1_13) then some (.bool (false)) else (bif a1_14 == 0 then some (.bool (true)) else some (.bool ((a1_14 == 2) == a0_6)))))))))))))))))
set_option maxRecDepth 1000000 in
theorem acmeref01_Agrees.run (g18 : Option (Bool)) (a0_0 : Int) (a0_1 : Int) (a0_2 : Int) (a0_3 : Int) (a0_4 : Int) (a0_5 : Int) (a0_6 : Bool) (a0_7 : Int) (a1_0 : Int) (a1_1 : Int) (a1_2 : Int) (a1_3 : Int) (a1_4 : Int) (a1_5 : Int) (a1_6 : Int) (a1_7 : Int) (a1_8 : Int) (a1_9 : Int) (a1_10 : Int) (a1_11 : Int) (a1_12 : Int) (a1_13 : Int) (a1_14 : Int) : aCallK Try.prog (openK g18) (fun _ => false) 1000 60 0 33 [.agg ⟨[.int .i64 a0_0, .int .i64 a0_1, .int .i64 a0_2, .int .i64 a0_3, .int .i64 a0_4, .int .i64 a0_5, .bool a0_6, .int .i64 a0_7]⟩, .agg ⟨[.int .i64 a1_0, .int .i64 a1_1, .int .i64 a1_2, .int .i64 a1_3, .int .i64 a1_4, .int .i64 a1_5, .int .i64 a1_6, .int .i64 a1_7, .int .i64 a1_8, .int .i64 a1_9, .int .i64 a1_10, .int .i64 a1_11, .int .i64 a1_12, .int .i64 a1_13, .int .i64 a1_14]⟩] ⟨0, []⟩ fin = acmeref01_Agrees.T g18 a0_0 a0_1 a0_2 a0_3 a0_4 a0_5 a0_6 a0_7 a1_0 a1_1 a1_2 a1_3 a1_4 a1_5 a1_6 a1_7 a1_8 a1_9 a1_10 a1_11 a1_12 a1_13 a1_14 := by kernel_rfl
def acmeref01_Agrees.dec (v : Value) : Option (Bool) := popB [v] fun r l1 => nil1 l1 (some r)
theorem acmeref01_Agrees.dec_some {v : Value} {x : Bool} (h : acmeref01_Agrees.dec v = some x) : ∃ (r : Bool), x = r ∧ v = (.bool r) := by
 unfold acmeref01_Agrees.dec at h
 obtain ⟨r, l1, e0, h⟩ := popB_some h
 obtain ⟨rfl, h⟩ := nil1_some h
 have h := Option.some.inj h
 have e0 := (List.cons.inj e0).1
 exact ⟨r, h.symm, e0⟩
noncomputable def acmeref01_Agrees.f (k : Nat) (a0_0 : Int) (a0_1 : Int) (a0_2 : Int) (a0_3 : Int) (a0_4 : Int) (a0_5 : Int) (a0_6 : Bool) (a0_7 : Int) (a1_0 : Int) (a1_1 : Int) (a1_2 : Int) (a1_3 : Int) (a1_4 : Int) (a1_5 : Int) (a1_6 : Int) (a1_7 : Int) (a1_8 : Int) (a1_9 : Int) (a1_10 : Int) (a1_11 : Int) (a1_12 : Int) (a1_13 : Int) (a1_14 : Int) : Option (Bool) := (acmeref01_Agrees.T acmelaw01_known.f a0_0 a0_1 a0_2 a0_3 a0_4 a0_5 a0_6 a0_7 a1_0 a1_1 a1_2 a1_3 a1_4 a1_5 a1_6 a1_7 a1_8 a1_9 a1_10 a1_11 a1_12 a1_13 a1_14).bind acmeref01_Agrees.dec
theorem acmeref01_Agrees.calls (k : Nat) (a0_0 : Int) (a0_1 : Int) (a0_2 : Int) (a0_3 : Int) (a0_4 : Int) (a0_5 : Int) (a0_6 : Bool) (a0_7 : Int) (a1_0 : Int) (a1_1 : Int) (a1_2 : Int) (a1_3 : Int) (a1_4 : Int) (a1_5 : Int) (a1_6 : Int) (a1_7 : Int) (a1_8 : Int) (a1_9 : Int) (a1_10 : Int) (a1_11 : Int) (a1_12 : Int) (a1_13 : Int) (a1_14 : Int) (r : Bool) (w : World) (h : acmeref01_Agrees.f k a0_0 a0_1 a0_2 a0_3 a0_4 a0_5 a0_6 a0_7 a1_0 a1_1 a1_2 a1_3 a1_4 a1_5 a1_6 a1_7 a1_8 a1_9 a1_10 a1_11 a1_12 a1_13 a1_14 = some r) :
  Calls Try.prog 33 #[.agg #[.int .i64 a0_0, .int .i64 a0_1, .int .i64 a0_2, .int .i64 a0_3, .int .i64 a0_4, .int .i64 a0_5, .bool a0_6, .int .i64 a0_7], .agg #[.int .i64 a1_0, .int .i64 a1_1, .int .i64 a1_2, .int .i64 a1_3, .int .i64 a1_4, .int .i64 a1_5, .int .i64 a1_6, .int .i64 a1_7, .int .i64 a1_8, .int .i64 a1_9, .int .i64 a1_10, .int .i64 a1_11, .int .i64 a1_12, .int .i64 a1_13, .int .i64 a1_14]] w fun e w' => e = .returned (.bool r) ∧ Below w.heap.size w w' := by
 unfold acmeref01_Agrees.f at h
 obtain ⟨v, h1, h2⟩ := Option.bind_eq_some_iff.mp h
 obtain ⟨r', e1, e2⟩ := acmeref01_Agrees.dec_some h2
 obtain rfl := e1
 obtain rfl := e2
 exact ask_calls (by kernel_rfl) noNum (orc_ok k) (orc_le k) rfl ((acmeref01_Agrees.run acmelaw01_known.f a0_0 a0_1 a0_2 a0_3 a0_4 a0_5 a0_6 a0_7 a1_0 a1_1 a1_2 a1_3 a1_4 a1_5 a1_6 a1_7 a1_8 a1_9 a1_10 a1_11 a1_12 a1_13 a1_14).trans h1) w
end Go.Proofs.Yticbhgjenidjlaa.T
namespace Go.Proofs.Yticbhgjenidjlaa.T.RAlike
open Go Go.RowKit Go.Proofs.Yticbhgjenidjlaa.Ab Go.Proofs.Yticbhgjenidjlaa.T
set_option linter.unusedVariables false
section
variable {R : Type} (g18 : Option (Bool))
def openK (f : FuncId) : Option (List Value → (Value → Option R) → Option R) :=
  match f with
  | 18 => some fun args c => nil1 args <| (g18).bind fun r => c (.bool r)
  | _ => none
end
noncomputable def orcK {R : Type} (k : Nat) : FuncId → Option (List Value → (Value → Option R) → Option R) := openK acmelaw01_known.f
noncomputable def orc (k : Nat) (f : FuncId) : Option (List Value → Option Value) := (orcK (R := Value) k f).map fun g args => g args some
theorem orc_le {R : Type} (k : Nat) : OrcLe (R := R) (orc k) (orcK k) := by
  intro f
  unfold orc orcK openK
  split
  · exact .inr ⟨_, _, rfl, rfl, fun args c => nil1_le <| bind_le _ _ _⟩
  · exact .inl ⟨rfl, rfl⟩
theorem orc_ok (k : Nat) : OrcOK Try.prog (orc k) := by
  intro f g args v hf h
  unfold orc orcK openK at hf
  obtain ⟨gK, h1, rfl⟩ := Option.map_eq_some_iff.mp hf
  split at h1
  · simp only [Option.some.injEq] at h1
    subst h1
    dsimp only at h
    replace h := nil1_some h
    obtain ⟨rfl, h⟩ := h
    obtain ⟨r, h1, h2⟩ := Option.bind_eq_some_iff.mp h
    simp only [Option.some.injEq] at h2
    subst h2
    exact ⟨⟨_, Try.func18, rfl⟩, rfl, rfl, fun w => acmelaw01_known.calls r w h1⟩
  · simp at h1
end Go.Proofs.Yticbhgjenidjlaa.T.RAlike
namespace Go.Proofs.Yticbhgjenidjlaa.T
open Go Go.RowKit Go.Proofs.Yticbhgjenidjlaa.Ab Go.Proofs.Yticbhgjenidjlaa.T.RAlike
set_option linter.unusedVariables false
noncomputable def acmeref01_Alike.T (g18 : Option (Bool)) (a0_0 : Int) (a0_1 : Int) (a0_2 : Int) (a0_3 : Int) (a0_4 : Int) (a0_5 : Int) (a0_6 : Bool) (a0_7 : Int) (a1_0 : Int) (a1_1 : Int) (a1_2 : Int) (a1_3 : Int) (a1_4 : Int) (a1_5 : Int) (a1_6 : Bool) (a1_7 : Int) (a2_0 : Int) (a2_1 : Int) (a2_2 : Int) : Option Value := (bif decide (IntKind.i64.wrap ((if a1_0 > a0_0 then a1_0 else a0_0) - if a1_0 < a0_0 then a1_0 else a0_0) > IntKind.i64.wrap (2 * a2_0)) then some (.bool (false)) else (bif decide (IntKind.i64.wrap ((if a1_1 > a0_1 then a1_1 else a0_1) - if a1_1 < a0_1 then a1_1 else a0_1) > IntKind.i64.wrap (2 * a2_1)) then some (.bool (false)) else (bif decide (IntKind.i64.wrap ((if a1_2 > a0_2 then a1_2 else a0_2) - if a1_2 < a0_2 then a1_2 else a0_2) > IntKind.i64.wrap (2 * a2_1)) then some (.bool (false)) else (bif decide (IntKind.i64.wrap ((if a1_3 > a0_3 then a1_3 else a0_3) - if a1_3 < a0_3 then a1_3 else a0_3) > IntKind.i64.wrap (2 * a2_2)) then some (.bool (false)) else (bif decide (IntKind.i64.wrap ((if a1_4 > a0_4 then a1_4 else a0_4) - if a1_4 < a0_4 then a1_4 else a0_4) > IntKind.i64.wrap (2 * a2_2)) then some (.bool (false)) else (bif decide (IntKind.i64.wrap ((if a1_5 > a0_5 then a1_5 else a0_5) - if a1_5 < a0_5 then a1_5 else a0_5) > IntKind.i64.wrap (2 * 0)) then some (.bool (false)) else (bif decide (IntKind.i64.wrap ((if a1_7 > a0_7 then a1_7 else a0_7) - if a1_7 < a0_7 then a1_7 else a0_7) > IntKind.i64.wrap (2 * 0)) then some (.bool (false)) else some (.bool (a0_6 == a1_6)))))))))
set_option maxRecDepth 1000000 in
theorem acmeref01_Alike.run (g18 : Option (Bool)) (a0_0 : Int) (a0_1 : Int) (a0_2 : Int) (a0_3 : Int) (a0_4 : Int) (a0_5 : Int) (a0_6 : Bool) (a0_7 : Int) (a1_0 : Int) (a1_1 : Int) (a1_2 : Int) (a1_3 : Int) (a1_4 : Int) (a1_5 : Int) (a1_6 : Bool) (a1_7 : Int) (a2_0 : Int) (a2_1 : Int) (a2_2 : Int) : aCallK Try.prog (openK g18) (fun _ => false) 1000 60 0 36 [.agg ⟨[.int .i64 a0_0, .int .i64 a0_1, .int .i64 a0_2, .int .i64 a0_3, .int .i64 a0_4, .int .i64 a0_5, .bool a0_6, .int .i64 a0_7]⟩, .agg ⟨[.int .i64 a1_0, .int .i64 a1_1, .int .i64 a1_2, .int .i64 a1_3, .int .i64 a1_4, .int .i64 a1_5, .bool a1_6, .int .i64 a1_7]⟩, .agg ⟨[.int .i64 a2_0, .int .i64 a2_1, .int .i64 a2_2]⟩] ⟨0, []⟩ fin = acmeref01_Alike.T g18 a0_0 a0_1 a0_2 a0_3 a0_4 a0_5 a0_6 a0_7 a1_0 a1_1 a1_2 a1_3 a1_4 a1_5 a1_6 a1_7 a2_0 a2_1 a2_2 := by kernel_rfl
def acmeref01_Alike.dec (v : Value) : Option (Bool) := popB [v] fun r l1 => nil1 l1 (some r)
theorem acmeref01_Alike.dec_some {v : Value} {x : Bool} (h : acmeref01_Alike.dec v = some x) : ∃ (r : Bool), x = r ∧ v = (.bool r) := by
 unfold acmeref01_Alike.dec at h
 obtain ⟨r, l1, e0, h⟩ := popB_some h
 obtain ⟨rfl, h⟩ := nil1_some h
 have h := Option.some.inj h
 have e0 := (List.cons.inj e0).1
 exact ⟨r, h.symm, e0⟩
noncomputable def acmeref01_Alike.f (k : Nat) (a0_0 : Int) (a0_1 : Int) (a0_2 : Int) (a0_3 : Int) (a0_4 : Int) (a0_5 : Int) (a0_6 : Bool) (a0_7 : Int) (a1_0 : Int) (a1_1 : Int) (a1_2 : Int) (a1_3 : Int) (a1_4 : Int) (a1_5 : Int) (a1_6 : Bool) (a1_7 : Int) (a2_0 : Int) (a2_1 : Int) (a2_2 : Int) : Option (Bool) := (acmeref01_Alike.T acmelaw01_known.f a0_0 a0_1 a0_2 a0_3 a0_4 a0_5 a0_6 a0_7 a1_0 a1_1 a1_2 a1_3 a1_4 a1_5 a1_6 a1_7 a2_0 a2_1 a2_2).bind acmeref01_Alike.dec
theorem acmeref01_Alike.calls (k : Nat) (a0_0 : Int) (a0_1 : Int) (a0_2 : Int) (a0_3 : Int) (a0_4 : Int) (a0_5 : Int) (a0_6 : Bool) (a0_7 : Int) (a1_0 : Int) (a1_1 : Int) (a1_2 : Int) (a1_3 : Int) (a1_4 : Int) (a1_5 : Int) (a1_6 : Bool) (a1_7 : Int) (a2_0 : Int) (a2_1 : Int) (a2_2 : Int) (r : Bool) (w : World) (h : acmeref01_Alike.f k a0_0 a0_1 a0_2 a0_3 a0_4 a0_5 a0_6 a0_7 a1_0 a1_1 a1_2 a1_3 a1_4 a1_5 a1_6 a1_7 a2_0 a2_1 a2_2 = some r) :
  Calls Try.prog 36 #[.agg #[.int .i64 a0_0, .int .i64 a0_1, .int .i64 a0_2, .int .i64 a0_3, .int .i64 a0_4, .int .i64 a0_5, .bool a0_6, .int .i64 a0_7], .agg #[.int .i64 a1_0, .int .i64 a1_1, .int .i64 a1_2, .int .i64 a1_3, .int .i64 a1_4, .int .i64 a1_5, .bool a1_6, .int .i64 a1_7], .agg #[.int .i64 a2_0, .int .i64 a2_1, .int .i64 a2_2]] w fun e w' => e = .returned (.bool r) ∧ Below w.heap.size w w' := by
 unfold acmeref01_Alike.f at h
 obtain ⟨v, h1, h2⟩ := Option.bind_eq_some_iff.mp h
 obtain ⟨r', e1, e2⟩ := acmeref01_Alike.dec_some h2
 obtain rfl := e1
 obtain rfl := e2
 exact ask_calls (by kernel_rfl) noNum (orc_ok k) (orc_le k) rfl ((acmeref01_Alike.run acmelaw01_known.f a0_0 a0_1 a0_2 a0_3 a0_4 a0_5 a0_6 a0_7 a1_0 a1_1 a1_2 a1_3 a1_4 a1_5 a1_6 a1_7 a2_0 a2_1 a2_2).trans h1) w
end Go.Proofs.Yticbhgjenidjlaa.T
namespace Go.Proofs.Yticbhgjenidjlaa.T.RSeen
open Go Go.RowKit Go.Proofs.Yticbhgjenidjlaa.Ab Go.Proofs.Yticbhgjenidjlaa.T
set_option linter.unusedVariables false
section
variable {R : Type} (g18 : Option (Bool))
def openK (f : FuncId) : Option (List Value → (Value → Option R) → Option R) :=
  match f with
  | 18 => some fun args c => nil1 args <| (g18).bind fun r => c (.bool r)
  | _ => none
end
noncomputable def orcK {R : Type} (k : Nat) : FuncId → Option (List Value → (Value → Option R) → Option R) := openK acmelaw01_known.f
noncomputable def orc (k : Nat) (f : FuncId) : Option (List Value → Option Value) := (orcK (R := Value) k f).map fun g args => g args some
theorem orc_le {R : Type} (k : Nat) : OrcLe (R := R) (orc k) (orcK k) := by
  intro f
  unfold orc orcK openK
  split
  · exact .inr ⟨_, _, rfl, rfl, fun args c => nil1_le <| bind_le _ _ _⟩
  · exact .inl ⟨rfl, rfl⟩
theorem orc_ok (k : Nat) : OrcOK Try.prog (orc k) := by
  intro f g args v hf h
  unfold orc orcK openK at hf
  obtain ⟨gK, h1, rfl⟩ := Option.map_eq_some_iff.mp hf
  split at h1
  · simp only [Option.some.injEq] at h1
    subst h1
    dsimp only at h
    replace h := nil1_some h
    obtain ⟨rfl, h⟩ := h
    obtain ⟨r, h1, h2⟩ := Option.bind_eq_some_iff.mp h
    simp only [Option.some.injEq] at h2
    subst h2
    exact ⟨⟨_, Try.func18, rfl⟩, rfl, rfl, fun w => acmelaw01_known.calls r w h1⟩
  · simp at h1
end Go.Proofs.Yticbhgjenidjlaa.T.RSeen
namespace Go.Proofs.Yticbhgjenidjlaa.T
open Go Go.RowKit Go.Proofs.Yticbhgjenidjlaa.Ab Go.Proofs.Yticbhgjenidjlaa.T.RSeen
set_option linter.unusedVariables false
noncomputable def acmeref01_Seen.T (g18 : Option (Bool)) (a0_0 : Int) (a0_1 : Int) (a0_2 : Int) (a0_3 : Int) (a0_4 : Int) (a0_5 : Int) (a0_6 : Int) (a0_7 : Int) (a0_8 : Int) (a0_9 : Int) (a0_10 : Int) (a0_11 : Int) (a0_12 : Int) (a0_13 : Int) (a0_14 : Int) : Option Value := (bif decide (a0_0 < 0) then some (.bool (false)) else (bif decide (a0_0 > a0_1) then some (.bool (false)) else (bif decide (a0_1 > 10000000) then some (.bool (false)) else (bif decide (a0_2 < 0) then some (.bool (false)) else (bif decide (a0_2 > a0_3) then some (.bool (false)) else (bif decide (a0_3 > 10000000) then some (.bool (false)) else (bif decide (a0_4 < 0) then some (.bool (false)) else (bif decide (a0_4 > a0_5) then some (.bool (false)) else (bif decide (a0_5 > 10000000) then some (.bool (false)) else (bif decide (a0_6 < 0) then some (.bool (false)) else (bif decide (a0_6 > a0_7) then some (.bool (false)) else (bif decide (a0_7 > 10000000) then some (.bool (false)) else (bif decide (a0_8 < 0) then some (.bool (false)) else (bif decide (a0_8 > a0_9) then some (.bool (false)) else (bif decide (a0_9 > 10000000) then some (.bool (false)) else (bif decide (a0_10 < 0) then some (.bool (false)) else (bif decide (a0_10 > a0_11) then some (.bool (false)) else (bif decide (a0_11 > 10000000) then some (.bool (false)) else (bif decide (a0_12 < 0) then some (.bool (false)) else (bif decide (a0_12 > a0_13) then some (.bool (false)) else (bif decide (a0_13 > 10000000) then some (.bool (false)) else (bif a0_14 == 0 then some (.bool (true)) else (bif a0_14 == 1 then some (.bool (true)) else some (.bool (a0_14 == 2)))))))))))))))))))))))))
set_option maxRecDepth 1000000 in
theorem acmeref01_Seen.run (g18 : Option (Bool)) (a0_0 : Int) (a0_1 : Int) (a0_2 : Int) (a0_3 : Int) (a0_4 : Int) (a0_5 : Int) (a0_6 : Int) (a0_7 : Int) (a0_8 : Int) (a0_9 : Int) (a0_10 : Int) (a0_11 : Int) (a0_12 : Int) (a0_13 : Int) (a0_14 : Int) : aCallK Try.prog (openK g18) (fun _ => false) 1000 60 0 34 [.agg ⟨[.int .i64 a0_0, .int .i64 a0_1, .int .i64 a0_2, .int .i64 a0_3, .int .i64 a0_4, .int .i64 a0_5, .int .i64 a0_6, .int .i64 a0_7, .int .i64 a0_8, .int .i64 a0_9, .int .i64 a0_10, .int .i64 a0_11, .int .i64 a0_12, .int .i64 a0_13, .int .i64 a0_14]⟩] ⟨0, []⟩ fin = acmeref01_Seen.T g18 a0_0 a0_1 a0_2 a0_3 a0_4 a0_5 a0_6 a0_7 a0_8 a0_9 a0_10 a0_11 a0_12 a0_13 a0_14 := by kernel_rfl
def acmeref01_Seen.dec (v : Value) : Option (Bool) := popB [v] fun r l1 => nil1 l1 (some r)
theorem acmeref01_Seen.dec_some {v : Value} {x : Bool} (h : acmeref01_Seen.dec v = some x) : ∃ (r : Bool), x = r ∧ v = (.bool r) := by
 unfold acmeref01_Seen.dec at h
 obtain ⟨r, l1, e0, h⟩ := popB_some h
 obtain ⟨rfl, h⟩ := nil1_some h
 have h := Option.some.inj h
 have e0 := (List.cons.inj e0).1
 exact ⟨r, h.symm, e0⟩
noncomputable def acmeref01_Seen.f (k : Nat) (a0_0 : Int) (a0_1 : Int) (a0_2 : Int) (a0_3 : Int) (a0_4 : Int) (a0_5 : Int) (a0_6 : Int) (a0_7 : Int) (a0_8 : Int) (a0_9 : Int) (a0_10 : Int) (a0_11 : Int) (a0_12 : Int) (a0_13 : Int) (a0_14 : Int) : Option (Bool) := (acmeref01_Seen.T acmelaw01_known.f a0_0 a0_1 a0_2 a0_3 a0_4 a0_5 a0_6 a0_7 a0_8 a0_9 a0_10 a0_11 a0_12 a0_13 a0_14).bind acmeref01_Seen.dec
theorem acmeref01_Seen.calls (k : Nat) (a0_0 : Int) (a0_1 : Int) (a0_2 : Int) (a0_3 : Int) (a0_4 : Int) (a0_5 : Int) (a0_6 : Int) (a0_7 : Int) (a0_8 : Int) (a0_9 : Int) (a0_10 : Int) (a0_11 : Int) (a0_12 : Int) (a0_13 : Int) (a0_14 : Int) (r : Bool) (w : World) (h : acmeref01_Seen.f k a0_0 a0_1 a0_2 a0_3 a0_4 a0_5 a0_6 a0_7 a0_8 a0_9 a0_10 a0_11 a0_12 a0_13 a0_14 = some r) :
  Calls Try.prog 34 #[.agg #[.int .i64 a0_0, .int .i64 a0_1, .int .i64 a0_2, .int .i64 a0_3, .int .i64 a0_4, .int .i64 a0_5, .int .i64 a0_6, .int .i64 a0_7, .int .i64 a0_8, .int .i64 a0_9, .int .i64 a0_10, .int .i64 a0_11, .int .i64 a0_12, .int .i64 a0_13, .int .i64 a0_14]] w fun e w' => e = .returned (.bool r) ∧ Below w.heap.size w w' := by
 unfold acmeref01_Seen.f at h
 obtain ⟨v, h1, h2⟩ := Option.bind_eq_some_iff.mp h
 obtain ⟨r', e1, e2⟩ := acmeref01_Seen.dec_some h2
 obtain rfl := e1
 obtain rfl := e2
 exact ask_calls (by kernel_rfl) noNum (orc_ok k) (orc_le k) rfl ((acmeref01_Seen.run acmelaw01_known.f a0_0 a0_1 a0_2 a0_3 a0_4 a0_5 a0_6 a0_7 a0_8 a0_9 a0_10 a0_11 a0_12 a0_13 a0_14).trans h1) w
end Go.Proofs.Yticbhgjenidjlaa.T
