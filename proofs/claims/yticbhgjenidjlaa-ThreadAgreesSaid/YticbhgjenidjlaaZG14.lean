-- cut down, squeezed and laid together by pack.py (a program of this repository) out of this seat's texts
import Derived.KernelRfl
import Derived.Test.YticbhgjenidjlaaZG12
import Derived.Test.YticbhgjenidjlaaZG13
import Derived.Test.YticbhgjenidjlaaZG9
import Derived.Test.YticbhgjenidjlaaZG10
import Derived.Test.YticbhgjenidjlaaZG11
import Derived.Test.YticbhgjenidjlaaZG2
import Derived.Test.YticbhgjenidjlaaZG8
import Derived.Test.YticbhgjenidjlaaZG5
import Derived.Test.YticbhgjenidjlaaZG4
import Derived.Test.YticbhgjenidjlaaZG7
import Derived.Test.YticbhgjenidjlaaZG3
import Derived.Test.YticbhgjenidjlaaZG6
import Derived.Test.YticbhgjenidjlaaZG1
namespace Go.Proofs.Yticbhgjenidjlaa.T
open Go Go.RowKit Go.Proofs.Yticbhgjenidjlaa.Ab
set_option linter.unusedVariables false
set_option linter.unusedSimpArgs false

def asI : Value → Option Int
 | .int .i64 n => some n
 | _ => none
def asB : Value → Option Bool
 | .bool b => some b
 | _ => none
theorem asI_some {v : Value} {n : Int} (h : asI v = some n) : v = .int .i64 n := by
 unfold asI at h
 split at h
 ·simp only [Option.some.injEq] at h; rw [h]
 ·simp at h
theorem asB_some {v : Value} {b : Bool} (h : asB v = some b) : v = .bool b := by
 unfold asB at h
 split at h
 ·simp only [Option.some.injEq] at h; rw [h]
 ·simp at h
def asForm : Value → Option (Int × Int × Int × Int × Int × Int × Bool × Int)
 | .agg ⟨[a, b, c, d, e, f, g, h]⟩ => match asI a, asI b, asI c, asI d, asI e, asI f, asB g, asI h with
  | some a, some b, some c, some d, some e, some f, some g, some h => some (a, b, c, d, e, f, g, h)
  | _, _, _, _, _, _, _, _ => none
 | _ => none
def asInts : List Value → Option (List Int)
 | [] => some []
 | v :: vs => match asI v, asInts vs with
  | some n, some l => some (n :: l)
  | _, _ => none
theorem asInts_some : ∀ {vs : List Value} {l : List Int}, asInts vs = some l → vs = l.map (Value.int .i64)
 | [], l, h => by simp only [asInts, Option.some.injEq] at h; rw [← h]; rfl
 | v :: vs, l, h => by
  simp only [asInts] at h
  split at h
  ·rename_i n l' h1 h2
   simp only [Option.some.injEq] at h
   rw [← h, asI_some h1, asInts_some h2]; rfl
  ·simp at h
theorem asForm_some {v : Value} {p} (h : asForm v = some p) : v = .agg ⟨[.int .i64 p.1, .int .i64 p.2.1, .int .i64 p.2.2.1, .int .i64 p.2.2.2.1, .int .i64 p.2.2.2.2.1, .int .i64 p.2.2.2.2.2.1, .bool p.2.2.2.2.2.2.1, .int .i64 p.2.2.2.2.2.2.2]⟩ := by
 unfold asForm at h
 split at h
 ·split at h
  ·rename_i h1 h2 h3 h4 h5 h6 h7 h8
   simp only [Option.some.injEq] at h
   rw [← h, asI_some h1, asI_some h2, asI_some h3, asI_some h4, asI_some h5, asI_some h6, asB_some h7, asI_some h8]
  ·simp at h
 ·simp at h
def orc01 (f : FuncId) : Option (List Value → Option Value) :=
 match f with
 | 57 => some fun args => match args with
  | [.agg ⟨vs⟩] => match asInts vs with
   | some [s0, s1, s2, s3, s4, s5, s6, s7, s8, s9, s10, s11, s12, s13, s14] => (thread_isSeen.f s0 s1 s2 s3 s4 s5 s6 s7 s8 s9 s10 s11 s12 s13 s14).map .bool
   | _ => none
  | _ => none
 | 58 => some fun args => match args with
  | [u, .agg ⟨vs⟩] => match asForm u, asInts vs with
   | some p, some [s0, s1, s2, s3, s4, s5, s6, s7, s8, s9, s10, s11, s12, s13, s14] => (thread_form_agrees.f p.1 p.2.1 p.2.2.1 p.2.2.2.1 p.2.2.2.2.1 p.2.2.2.2.2.1 p.2.2.2.2.2.2.1 p.2.2.2.2.2.2.2 s0 s1 s2 s3 s4 s5 s6 s7 s8 s9 s10 s11 s12 s13 s14).map .bool
   | _, _ => none
  | _ => none
 | 73 => some fun args => match args with
  | [u] => match asForm u with
   | some p => (thread_form_hand.f p.1 p.2.1 p.2.2.1 p.2.2.2.1 p.2.2.2.2.1 p.2.2.2.2.2.1 p.2.2.2.2.2.2.1 p.2.2.2.2.2.2.2).map (Value.int .i64)
   | none => none
  | _ => none
 | _ => none
theorem gnd_ints (l : List Int) (k : Nat) : (l.map (Value.int .i64)).all (gnd (k + 1)) = true := by
 rw [List.all_eq_true]
 intro x hx
 obtain ⟨n, _, rfl⟩ := List.mem_map.1 hx
 rfl
theorem orc01_ok : OrcOK Try.prog orc01 := by
 intro f g args v hg h
 unfold orc01 at hg
 split at hg
 ·simp only [Option.some.injEq] at hg
  subst hg
  dsimp only at h
  split at h
  ·rename_i vs
   split at h
   ·rename_i s0 s1 s2 s3 s4 s5 s6 s7 s8 s9 s10 s11 s12 s13 s14 hv
    obtain ⟨r, h1, rfl⟩ := Option.map_eq_some_iff.mp h
    have hv := asInts_some hv
    subst hv
    refine ⟨⟨_, Try.func57, rfl⟩, ?_, rfl, fun w => thread_isSeen.calls s0 s1 s2 s3 s4 s5 s6 s7 s8 s9 s10 s11 s12 s13 s14 r w h1⟩
    simp only [List.all_cons, List.all_nil, gnd, gnd_ints _ 6, Bool.and_true]
   ·simp at h
  ·simp at h
 ·simp only [Option.some.injEq] at hg
  subst hg
  dsimp only at h
  split at h
  ·rename_i u vs
   split at h
   ·rename_i p s0 s1 s2 s3 s4 s5 s6 s7 s8 s9 s10 s11 s12 s13 s14 hu hv
    obtain ⟨r, h1, rfl⟩ := Option.map_eq_some_iff.mp h
    have hv := asInts_some hv
    have hu := asForm_some hu
    subst hv
    subst hu
    refine ⟨⟨_, Try.func58, rfl⟩, ?_, rfl, fun w => thread_form_agrees.calls _ _ _ _ _ _ _ _ s0 s1 s2 s3 s4 s5 s6 s7 s8 s9 s10 s11 s12 s13 s14 r w h1⟩
    simp only [List.all_cons, List.all_nil, gnd, gnd_ints _ 6, Bool.and_true]
   ·simp at h
  ·simp at h
 ·simp only [Option.some.injEq] at hg
  subst hg
  dsimp only at h
  split at h
  ·rename_i u
   split at h
   ·rename_i p hu
    obtain ⟨r, h1, rfl⟩ := Option.map_eq_some_iff.mp h
    have hu := asForm_some hu
    subst hu
    refine ⟨⟨_, Try.func73, rfl⟩, ?_, rfl, fun w => thread_form_hand.calls _ _ _ _ _ _ _ _ r w h1⟩
    simp only [List.all_cons, List.all_nil, gnd, Bool.and_true]
   ·simp at h
  ·simp at h
 ·simp at hg
theorem noNum (f : Nat) (fn : Func) (h : Try.prog.funcs[f]? = some fn) : (fn.name == "runtime.NumGoroutine") = false := by
 have hall : Try.prog.funcs.toList.all (fun fn => !(fn.name == "runtime.NumGoroutine")) = true := by kernel_rfl
 rw [List.all_eq_true] at hall
 have := hall fn (by simpa using Array.mem_of_getElem? h)
 simpa using this
def yes : Option (Value × St) → Bool
 | some (.bool b, _) => b
 | _ => false
theorem yes_some {x : Option (Value × St)} (h : yes x = true) : ∃ st, x = some (.bool true, st) := by
 unfold yes at h
 split at h
 ·exact ⟨_, by rw [h]⟩
 ·simp at h
set_option maxRecDepth 1000000 in
theorem known_run : yes (aCall Try.prog orc01 (fun g => g == 67) 1000 60 0 18 [] ⟨0, []⟩) = true := by kernel_rfl
def acmelaw01_known.f : Option Bool := some true
theorem acmelaw01_known.calls (r : Bool) (w : World) (h : acmelaw01_known.f = some r) : Calls Try.prog 18 #[] w fun e w' => e = .returned (.bool r) ∧ Below w.heap.size w w' := by
 obtain rfl : true = r := Option.some.inj h
 obtain ⟨st, hs⟩ := yes_some known_run
 exact run_calls (by kernel_rfl) noNum orc01_ok rfl rfl hs w
end Go.Proofs.Yticbhgjenidjlaa.T
