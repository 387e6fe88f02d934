-- cut down, squeezed and laid together by pack.py (a program of this repository) out of this seat's texts
import Derived.KernelRfl
import Derived.ChangeKeysEq
import Derived.Below
import Derived.Deep.Draws
import Derived.Deep.AppendLies
import Derived.Maps.AppendAt
import Derived.OwnWalk
import Derived.Laws.BytesArg
import Derived.Laws.MakeOwn
import Derived.Laws.OwnMore
import Derived.Deep.OwnRows
import Derived.Tactics
import Derived.Lib.ConvBytes
import Derived.Laws.Slices
import Derived.WalkKit
import Derived.RowKit3
import Derived.Deep.LoopGhost
import Derived.Deep.QuietTactic
import Derived.BigQuiet
import Derived.WideLaws
import Derived.Deep.DeepCutAuto
import Derived.Deep.CutBlock
import Derived.Deep.RegionHeld3
import Derived.Laws.Rows
import Derived.Lib.AppendStr
import Derived.ArgAppend
import Derived.Laws.IdiomCopy
import Derived.OrdersHeld
import Derived.Laws.BitsLemmas
import Derived.RowKit
import Derived.Test.YticbhgjenidjlaaProg
import Derived.Laws.StructEq
import Derived.ProofKit
import Derived.OpenShut
import Derived.ShutString
import Derived.ChangeOld
import Derived.SizedLaws
import Derived.Carry
import Derived.Test.YticbhgjenidjlaaRows
import Derived.Test.YticbhgjenidjlaaZC9
import Derived.Test.YticbhgjenidjlaaZC3
import Derived.Test.YticbhgjenidjlaaZC18
import Derived.Test.YticbhgjenidjlaaZC12
import Derived.Test.YticbhgjenidjlaaZC16
import Derived.Test.YticbhgjenidjlaaZC8
import Derived.Test.YticbhgjenidjlaaZC10
import Derived.Test.YticbhgjenidjlaaZC7
import Derived.Test.YticbhgjenidjlaaZC4
import Derived.Test.YticbhgjenidjlaaZC6
import Derived.Test.YticbhgjenidjlaaZC5
import Derived.Test.YticbhgjenidjlaaZC2
import Derived.Test.YticbhgjenidjlaaZC11
import Derived.Test.YticbhgjenidjlaaZC1
import Derived.Test.YticbhgjenidjlaaZC15
import Derived.Test.YticbhgjenidjlaaZC14
import Derived.Test.YticbhgjenidjlaaZC13
import Derived.Test.YticbhgjenidjlaaZC17
namespace Go.Proofs.Yticbhgjenidjlaa.T
open Go.RowKit Go.Proofs.YticbhgjenidjlaaW.PrintWords Go.Proofs.YticbhgjenidjlaaW.PrintLast
set_option linter.unusedVariables false
set_option linter.unusedSimpArgs false

def Valid (p l r a b s t : Int) : Prop :=
  (100 ≤ p ∧ p ≤ 200000) ∧ (0 ≤ l ∧ l ≤ 3000) ∧ (0 ≤ r ∧ r ≤ 3000) ∧ (0 ≤ a ∧ a ≤ 200000) ∧ (0 ≤ b ∧ b ≤ 200000) ∧ 1 ≤ a + b ∧ (1 ≤ s ∧ s ≤ 8) ∧ (0 ≤ t ∧ t ≤ 100) ∧ 0 ≤ 1000 * p - 2 * a * (l + r) ∧ 0 ≤ 1000 * p - 2 * b * (l + r)
instance (p l r a b s t : Int) : Decidable (Valid p l r a b s t) := by unfold Valid; infer_instance
def wid (p l r y : Int) : Int := 1000 * p - 2 * y * (l + r)
theorem wid_bound {p l r y : Int} (hp : 0 ≤ p ∧ p ≤ 200000) (hl : 0 ≤ l ∧ l ≤ 3000) (hr : 0 ≤ r ∧ r ≤ 3000) (hy : -200000 ≤ y ∧ y ≤ 200000) :
    (-1200000000 ≤ y * (l + r) ∧ y * (l + r) ≤ 1200000000) ∧ -3000000000 ≤ wid p l r y ∧ wid p l r y ≤ 3000000000 := by
  have h := mulbs (x := y) (X := 200000) (y := l + r) (Y := 6000) (by omega) (by omega) (by omega) (by omega)
  unfold wid
  rw [Int.mul_assoc]
  omega
theorem width_eq {p l r a b s : Int} {h : Bool} {t y : Int} (hp : 0 ≤ p ∧ p ≤ 200000) (hl : 0 ≤ l ∧ l ≤ 3000) (hr : 0 ≤ r ∧ r ≤ 3000) (hy : -200000 ≤ y ∧ y ≤ 200000) :
    thread_form_width.f p l r a b s h t y = some (wid p l r y) ∧ acmeref01_Width.f p l r a b s h t y = some (wid p l r y) := by
  have hb := wid_bound hp hl hr hy
  unfold wid at *
  rw [Int.mul_assoc] at *
  unfold thread_form_width.f thread_form_leans.f acmeref01_Width.f
  simp only [Option.bind_some]
  rw [wrap64_id (x := l + r) (by omega) (by omega), wrap64_id (x := 2 * y) (by omega) (by omega), wrap64_id (x := 1000 * p) (by omega) (by omega)]
  rw [Int.mul_assoc, wrap64_id (x := 2 * (y * (l + r))) (by omega) (by omega), wrap64_id (by omega) (by omega)]
  exact ⟨rfl, rfl⟩
theorem in_eq (x lo hi : Int) : acmeref01_In.f x lo hi = some (decide (lo ≤ x ∧ x ≤ hi)) := by
  unfold acmeref01_In.f
  by_cases h : x ≥ lo
  · rw [if_pos h]; simp [show lo ≤ x from h]
  · rw [if_neg h]; simp; omega
theorem within_eq1 (lo hi x : Int) : thread_within.f lo hi [x] = some (decide (lo ≤ x ∧ x ≤ hi)) := by
  unfold thread_within.f
  congr 1
  rw [Bool.eq_iff_iff]
  simp [outside]
theorem within_eq2 (lo hi x y : Int) : thread_within.f lo hi [x, y] = some (decide ((lo ≤ x ∧ x ≤ hi) ∧ (lo ≤ y ∧ y ≤ hi))) := by
  unfold thread_within.f
  congr 1
  rw [Bool.eq_iff_iff]
  simp [outside]

theorem check_ev {p l r a b s : Int} {h : Bool} {t : Int} : Ev (fun k => thread_Check.f k p l r a b s h t) (if Valid p l r a b s t then 0 else 2) := by
  refine ⟨2, fun k hk => ?_⟩
  obtain ⟨k, rfl⟩ : ∃ j, k = j + 2 := ⟨k - 2, by omega⟩
  have bad : ∀ {q1 q2 q3 q4 q5 q6 q7 q8 q9 q10 q11 q12 q13 q14 : Int} {g1 g2 : Bool}, ¬ Valid p l r a b s t → ∀ b0 : Bool, b0 = false → thread_Check.j0 (k + 2) b0 q1 q2 q3 q4 q5 q6 g1 q7 q8 q9 q10 q11 q12 q13 g2 q14 = some (if Valid p l r a b s t then 0 else 2) := by
    intro q1 q2 q3 q4 q5 q6 q7 q8 q9 q10 q11 q12 q13 q14 g1 g2 hv b0 hb
    rw [if_neg hv, hb]; simp [thread_Check.j0, thread_Check.j1]
  simp only [thread_Check.f, within_eq1, within_eq2, Option.bind_some]
  by_cases h1 : 100 ≤ p ∧ p ≤ 200000
  rotate_left
  · rw [if_neg (by simpa using h1)]
    exact bad (fun hv => h1 hv.1) _ rfl
  rw [if_pos (by simpa using h1)]
  by_cases h2 : (0 ≤ l ∧ l ≤ 3000) ∧ (0 ≤ r ∧ r ≤ 3000)
  rotate_left
  · rw [if_neg (by simpa using h2)]
    exact bad (fun hv => h2 ⟨hv.2.1, hv.2.2.1⟩) _ rfl
  rw [if_pos (by simpa using h2)]
  by_cases h3 : (0 ≤ a ∧ a ≤ 200000) ∧ (0 ≤ b ∧ b ≤ 200000)
  rotate_left
  · rw [if_neg (by simpa using h3)]
    exact bad (fun hv => h3 ⟨hv.2.2.2.1, hv.2.2.2.2.1⟩) _ rfl
  rw [if_pos (by simpa using h3), wrap64_id (by omega) (by omega)]
  by_cases h4 : 1 ≤ a + b
  rotate_left
  · exact bad (fun hv => h4 hv.2.2.2.2.2.1) _ (by simp; omega)
  rw [decide_eq_true (show a + b ≥ 1 from h4)]
  have b1 : ∀ {q1 q2 q3 q4 q5 q6 q7 q8 q9 q10 q11 q12 q13 q14 : Int} {g1 g2 : Bool}, ¬ Valid p l r a b s t → ∀ b0 : Bool, b0 = true → thread_Check.j1 (k + 1) b0 q1 q2 q3 q4 q5 q6 g1 q7 q8 q9 q10 q11 q12 q13 g2 q14 = some (if Valid p l r a b s t then 0 else 2) := by
    intro q1 q2 q3 q4 q5 q6 q7 q8 q9 q10 q11 q12 q13 q14 g1 g2 hv b0 hb
    rw [if_neg hv, hb]; simp [thread_Check.j1]
  simp only [thread_Check.j0, if_true, within_eq1, Option.bind_some]
  by_cases h5 : 1 ≤ s ∧ s ≤ 8
  rotate_left
  · rw [if_neg (by simpa using h5)]
    exact b1 (fun hv => h5 hv.2.2.2.2.2.2.1) _ rfl
  rw [if_pos (by simpa using h5)]
  by_cases h6 : 0 ≤ t ∧ t ≤ 100
  rotate_left
  · exact b1 (fun hv => h6 hv.2.2.2.2.2.2.2.1) _ (by simp; omega)
  rw [decide_eq_true h6]
  have wa := (width_eq (a := a) (b := b) (s := s) (h := h) (t := t) (y := a) (by omega) h2.1 h2.2 (p := p) (by omega)).1
  have wb := (width_eq (a := a) (b := b) (s := s) (h := h) (t := t) (y := b) (by omega) h2.1 h2.2 (p := p) (by omega)).1
  simp only [thread_Check.j1, Bool.not_true, Bool.false_eq_true, if_false, wa, wb, Option.bind_some]
  by_cases h7 : wid p l r a < 0
  · rw [if_pos h7, if_neg]; intro hv; unfold wid at h7; unfold Valid at hv; omega
  · rw [if_neg h7]
    by_cases h8 : wid p l r b < 0
    · rw [if_pos h8, if_neg]; intro hv; unfold wid at h8; unfold Valid at hv; omega
    · rw [if_neg h8, if_pos]
      unfold wid at h7 h8; exact ⟨h1, h2.1, h2.2, h3.1, h3.2, h4, h5, h6, by omega, by omega⟩

theorem form_ev {p l r a b s : Int} {h : Bool} {t : Int} (wa : (Lit.int .i64 a).wf = true) (wb : (Lit.int .i64 b).wf = true) : Ev (fun k => acmeref01_Form.f k p l r a b s h t) (decide (Valid p l r a b s t)) := by
  refine ⟨1, fun k hk => ?_⟩
  obtain ⟨k, rfl⟩ : ∃ j, k = j + 1 := ⟨k - 1, by omega⟩
  have bad : ∀ b0 : Bool, b0 = true → ¬ Valid p l r a b s t → acmeref01_Form.j0 (k + 1) b0 p l r a b s h t = some (decide (Valid p l r a b s t)) := by
    intro b0 hb hv
    rw [decide_eq_false hv, hb]; simp [acmeref01_Form.j0]
  simp only [acmeref01_Form.f, in_eq, Option.bind_some]
  by_cases h1 : 100 ≤ p ∧ p ≤ 200000
  rotate_left
  · rw [if_neg (by simpa using h1)]
    exact bad _ rfl (fun hv => h1 hv.1)
  rw [if_pos (by simpa using h1)]
  by_cases h2 : 0 ≤ l ∧ l ≤ 3000
  rotate_left
  · rw [if_neg (by simpa using h2)]
    exact bad _ rfl (fun hv => h2 hv.2.1)
  rw [if_pos (by simpa using h2)]
  by_cases h3 : 0 ≤ r ∧ r ≤ 3000
  rotate_left
  · rw [if_neg (by simpa using h3)]
    exact bad _ rfl (fun hv => h3 hv.2.2.1)
  rw [if_pos (by simpa using h3)]
  by_cases h4 : 0 ≤ a ∧ a ≤ 200000
  rotate_left
  · rw [if_neg (by simpa using h4)]
    exact bad _ rfl (fun hv => h4 hv.2.2.2.1)
  rw [if_pos (by simpa using h4)]
  by_cases h5 : 0 ≤ b ∧ b ≤ 200000
  rotate_left
  · rw [if_neg (by simpa using h5)]
    exact bad _ rfl (fun hv => h5 hv.2.2.2.2.1)
  rw [if_pos (by simpa using h5), wrap64_id (x := a + b) (by omega) (by omega)]
  by_cases h6 : a + b = 0
  · rw [if_pos h6]
    exact bad _ rfl (fun hv => by have := hv.2.2.2.2.2.1; omega)
  rw [if_neg h6]
  by_cases h7 : 1 ≤ s ∧ s ≤ 8
  rotate_left
  · rw [if_neg (by simpa using h7)]
    exact bad _ rfl (fun hv => h7 hv.2.2.2.2.2.2.1)
  rw [if_pos (by simpa using h7)]
  by_cases h8 : 0 ≤ t ∧ t ≤ 100
  rotate_left
  · exact bad _ (by simp; omega) (fun hv => h8 hv.2.2.2.2.2.2.2.1)
  rw [decide_eq_true h8]
  have wa := (width_eq (a := a) (b := b) (s := s) (h := h) (t := t) (y := a) (by omega) h2 h3 (p := p) (by omega)).2
  have wb := (width_eq (a := a) (b := b) (s := s) (h := h) (t := t) (y := -b) (by omega) h2 h3 (p := p) (by omega)).2
  simp only [acmeref01_Form.j0, Bool.not_true, Bool.false_eq_true, if_false, wa, wb, Option.bind_some, wrap64_id (x := -b) (by omega) (by omega), wrap64_id (x := 2000 * p) (by omega) (by omega)]
  have e : wid p l r (-b) = 1000 * p + 2 * b * (l + r) := by unfold wid; rw [Int.mul_neg, Int.neg_mul]; omega
  by_cases h9 : wid p l r a ≥ 0
  · rw [if_pos h9, e]
    congr 1
    unfold wid at h9
    rw [decide_eq_decide]
    exact ⟨fun h10 => ⟨h1, h2, h3, h4, h5, by omega, h7, h8, by omega, by omega⟩, fun hv => by have := hv.2.2.2.2.2.2.2.2.2; omega⟩
  · rw [if_neg h9, decide_eq_false]
    intro hv; unfold wid at h9; unfold Valid at hv; omega
end Go.Proofs.Yticbhgjenidjlaa.T
namespace Go.Proofs.Yticbhgjenidjlaa.T
open Go.RowKit Go.Proofs.YticbhgjenidjlaaW.PrintWords Go.Proofs.YticbhgjenidjlaaW.PrintLast
set_option linter.unusedVariables false
set_option linter.unusedSimpArgs false

theorem open_ev {p l r a b s : Int} {h : Bool} {t : Int} : Ev (fun k => thread_open.f k p l r a b s h t) (p, l, r, a, b, s, h, t, if Valid p l r a b s t then 0 else 2) := by
  unfold thread_open.f
  exact Ev.bind check_ev (Ev.pure _)
theorem has_eq1 {p l r a b s : Int} {h : Bool} {t x : Int} (hb : 0 ≤ b ∧ b ≤ 200000) : thread_form_has.f p l r a b s h t [x] = some (decide (-b ≤ x ∧ x ≤ a)) := by
  unfold thread_form_has.f
  rw [wrap64_id (by omega) (by omega), within_eq1]; rfl
end Go.Proofs.Yticbhgjenidjlaa.T
namespace Go.Proofs.Yticbhgjenidjlaa.T
open Go.RowKit Go.Proofs.YticbhgjenidjlaaW.PrintWords Go.Proofs.YticbhgjenidjlaaW.PrintLast
set_option linter.unusedVariables false
set_option linter.unusedSimpArgs false

theorem width_ev {p l r a b s : Int} {h : Bool} {t y : Int} : Ev (fun k => thread_Width.f k p l r a b s h t y)
    (if Valid p l r a b s t then if -b ≤ y ∧ y ≤ a then ((low (wid p l r y) 2000).1, (low (wid p l r y) 2000).2, 0) else (0, 0, 3) else (0, 0, 2)) := by
  unfold thread_Width.f
  refine Ev.bind open_ev ?_
  by_cases hv : Valid p l r a b s t
  rotate_left
  · simp only [if_neg hv]; exact Ev.pure _
  simp only [if_pos hv, if_true]
  obtain ⟨hp, hl, hr, ha, hb, hab, hs, ht, hwa, hwb⟩ := hv
  simp only [has_eq1 hb, Option.bind_some]
  by_cases h1 : -b ≤ y ∧ y ≤ a
  rotate_left
  · simp only [decide_eq_false h1, Bool.false_eq_true, if_false, if_neg h1]; exact Ev.pure _
  simp only [decide_eq_true h1, if_true, if_pos h1]
  have wy := (width_eq (a := a) (b := b) (s := s) (h := h) (t := t) (y := y) (by omega) hl hr (p := p) (by omega)).1
  have by_ := wid_bound (p := p) (by omega) hl hr (y := y) (by omega)
  simp only [wy, Option.bind_some]
  exact Ev.bind (ratio_ev _ 2000 (by omega) (by omega) (by omega) (by omega)) (Ev.pure _)

theorem leans_eq {p l r a b s : Int} {h : Bool} {t : Int} (hl : 0 ≤ l ∧ l ≤ 3000) (hr : 0 ≤ r ∧ r ≤ 3000) : thread_form_leans.f p l r a b s h t = some (l + r) := by
  unfold thread_form_leans.f
  rw [wrap64_id (by omega) (by omega)]
theorem sharp_ev {p l r a b s : Int} {h : Bool} {t : Int} : Ev (fun k => thread_Sharp.f k p l r a b s h t)
    (if Valid p l r a b s t then if l + r = 0 then (0, 0, 7) else ((low (500 * p) (l + r)).1, (low (500 * p) (l + r)).2, 0) else (0, 0, 2)) := by
  unfold thread_Sharp.f
  refine Ev.bind open_ev ?_
  by_cases hv : Valid p l r a b s t
  rotate_left
  · simp only [if_neg hv]; exact Ev.pure _
  simp only [if_pos hv, if_true]
  obtain ⟨hp, hl, hr, ha, hb, hab, hs, ht, hwa, hwb⟩ := hv
  simp only [leans_eq hl hr, Option.bind_some]
  by_cases h1 : l + r = 0
  · simp only [if_pos h1]; exact Ev.pure _
  simp only [if_neg h1]
  rw [wrap64_id (by omega) (by omega)]
  exact Ev.bind (ratio_ev _ _ (by omega) (by omega) (by omega) (by omega)) (Ev.pure _)
end Go.Proofs.Yticbhgjenidjlaa.T
namespace Go.Proofs.Yticbhgjenidjlaa.T
open Go Go.RowKit Go.Proofs.Yticbhgjenidjlaa.Ab
set_option linter.unusedVariables false
theorem pure_ThreadChecks (a0_0 : Int) (a0_1 : Int) (a0_2 : Int) (a0_3 : Int) (a0_4 : Int) (a0_5 : Int) (a0_6 : Bool) (a0_7 : Int) (a1 : Int) (w0_0 : (Lit.int .i64 a0_0).wf = true) (w0_1 : (Lit.int .i64 a0_1).wf = true) (w0_2 : (Lit.int .i64 a0_2).wf = true) (w0_3 : (Lit.int .i64 a0_3).wf = true) (w0_4 : (Lit.int .i64 a0_4).wf = true) (w0_5 : (Lit.int .i64 a0_5).wf = true) (w0_7 : (Lit.int .i64 a0_7).wf = true) (w1 : (Lit.int .i64 a1).wf = true) : ∃ k, acmelaw01_ThreadChecks.f k a0_0 a0_1 a0_2 a0_3 a0_4 a0_5 a0_6 a0_7 a1 = some true := by
  have A := wf64 w0_3
  have B := wf64 w0_4
  refine Ev.ex ?_
  unfold acmelaw01_ThreadChecks.f
  refine Ev.bind (v := Value.bool true) ?_ (Ev.of fun _ => rfl)
  unfold acmelaw01_ThreadChecks.T
  refine Ev.bind check_ev ?_
  refine Ev.bind width_ev ?_
  refine Ev.bind sharp_ev ?_
  refine Ev.bind (form_ev w0_3 w0_4) ?_
  have known : Ev (fun _ => (acmelaw01_known.f).bind fun t => (some (Value.bool t))) (.bool true) := Ev.pure _
  by_cases hv : Valid a0_0 a0_1 a0_2 a0_3 a0_4 a0_5 a0_7
  rotate_left
  · simp only [if_neg hv, decide_eq_false hv, Bool.not_false, cond_true, beq_self_eq_true, Bool.and_self]
    exact known
  have hv' := hv
  obtain ⟨hp, hl, hr, ha, hb, hab, hs, ht, hwa, hwb⟩ := hv'
  have e0 : ((0 : Int) != 0) = false := rfl
  have e3 : ((3 : Int) != 3) = false := rfl
  simp only [decide_eq_true hv, if_pos hv, Bool.not_true, cond_false, e0, i64_wrap]
  rw [wrap64_id (x := 0 - a0_4) (by omega) (by omega), wrap64_id (x := a0_1 + a0_2) (by omega) (by omega), wrap64_id (x := 500 * a0_0) (by omega) (by omega)]
  have tail : Ev (fun k => bif a0_1 + a0_2 == 0 then (bif (if a0_1 + a0_2 = 0 then ((0 : Int), (0 : Int), (7 : Int)) else ((low (500 * a0_0) (a0_1 + a0_2)).1, (low (500 * a0_0) (a0_1 + a0_2)).2, 0)).2.2 == 7 then (bif (if a0_1 + a0_2 = 0 then ((0 : Int), (0 : Int), (7 : Int)) else ((low (500 * a0_0) (a0_1 + a0_2)).1, (low (500 * a0_0) (a0_1 + a0_2)).2, 0)).1 == 0 && (if a0_1 + a0_2 = 0 then ((0 : Int), (0 : Int), (7 : Int)) else ((low (500 * a0_0) (a0_1 + a0_2)).1, (low (500 * a0_0) (a0_1 + a0_2)).2, 0)).2.1 == 0 then (acmelaw01_known.f).bind fun t => (some (Value.bool t)) else some (.bool (false))) else some (.bool (false)))
      else (bif (if a0_1 + a0_2 = 0 then ((0 : Int), (0 : Int), (7 : Int)) else ((low (500 * a0_0) (a0_1 + a0_2)).1, (low (500 * a0_0) (a0_1 + a0_2)).2, 0)).2.2 == 0 then (acmeref01_Lowest.f k (500 * a0_0) (a0_1 + a0_2)).bind fun r6 => (bif (if a0_1 + a0_2 = 0 then ((0 : Int), (0 : Int), (7 : Int)) else ((low (500 * a0_0) (a0_1 + a0_2)).1, (low (500 * a0_0) (a0_1 + a0_2)).2, 0)).1 == r6.fst && (if a0_1 + a0_2 = 0 then ((0 : Int), (0 : Int), (7 : Int)) else ((low (500 * a0_0) (a0_1 + a0_2)).1, (low (500 * a0_0) (a0_1 + a0_2)).2, 0)).2.1 == r6.snd then (acmelaw01_known.f).bind fun t => (some (Value.bool t)) else some (.bool (false))) else some (.bool (false)))) (.bool true) := by
    by_cases h0 : a0_1 + a0_2 = 0
    · simp only [if_pos h0, beq_iff_eq.mpr h0, cond_true, beq_self_eq_true, Bool.and_self]
      exact known
    · simp only [if_neg h0, beq_eq_false_iff_ne.mpr h0, cond_false, cond_true, beq_self_eq_true]
      refine Ev.bind (lowest_ev _ _ (by omega) (by omega) (by omega) (by omega)) ?_
      simp only [beq_self_eq_true, Bool.and_self, cond_true]
      exact known
  by_cases h1 : -a0_4 ≤ a1 ∧ a1 ≤ a0_3
  · simp only [decide_eq_true (show a1 ≥ 0 - a0_4 by omega), decide_eq_true (show a1 ≤ a0_3 by omega), if_pos h1, cond_true, cond_false, e0]
    have by_ := wid_bound (p := a0_0) (by omega) hl hr (y := a1) (by omega)
    simp only [(width_eq (a := a0_3) (b := a0_4) (s := a0_5) (h := a0_6) (t := a0_7) (y := a1) (by omega) hl hr (p := a0_0) (by omega)).2, Option.bind_some]
    refine Ev.bind (lowest_ev _ 2000 (by omega) (by omega) (by omega) (by omega)) ?_
    simp only [beq_self_eq_true, Bool.and_self, Bool.not_true, cond_false]
    exact tail
  · by_cases h2 : a1 ≥ 0 - a0_4
    · simp only [decide_eq_true h2, decide_eq_false (show ¬ a1 ≤ a0_3 by omega), if_neg h1, cond_true, cond_false, e3, beq_self_eq_true, Bool.and_self, Bool.not_true]
      exact tail
    · simp only [decide_eq_false h2, if_neg h1, cond_false, e3, beq_self_eq_true, Bool.and_self, Bool.not_true]
      exact tail
end Go.Proofs.Yticbhgjenidjlaa.T
namespace Go.Proofs.Yticbhgjenidjlaa.threadChecks
open Go.ChangeShapes Go.WideShapes Go.ChangeAt Go.RowKit Go.Proofs.Yticbhgjenidjlaa.T
open Go.ChangeMaps (open_string shut_string)
set_option linter.unusedVariables false
theorem own : ownKnob Try.prog.godebug = none := by kernel_rfl
theorem laidOut : laidOutB Try.prog = true := by kernel_rfl
set_option maxRecDepth 100000 in
theorem lifted (os : Os) (started : os.Started) (H : Type) (enc : TypeId × Value → H) :
    ReturnsInHanded {} Try.checked os 3 .any (Rows.threadChecksSpec.pre6 enc Try.prog Try.f3 Rows.threadChecksRow.domain false) (Rows.threadChecksSpec.post enc Try.prog Try.f3 false true false false) := by
  refine returnsInHanded_of_change_sized (C := Try.checked) own started (by kernel_rfl) Try.func3
    (ChangeSpec.witness6 (enc := enc) (C := Try.checked) false ⟨#[], #[.agg #[.int .i64 0, .int .i64 0, .int .i64 0, .int .i64 0, .int .i64 0, .int .i64 0, .bool false, .int .i64 0], .int .i64 0], []⟩ 8 (by kernel_rfl) (by kernel_rfl) (by kernel_rfl) (by kernel_rfl)) ?_
  intro W base args ds gs before hval0 hW hcnd hsz0 _
  have hval : ∀ (j : Nat) t v, Try.f3.params[j]? = some t → args[j]? = some v → Value.okWide Try.prog W .any base t v := hval0
  have hW' := hW
  obtain ⟨p, q, hA0, hV, rfl, hfz, hnd⟩ := hW
  have hA : DataW.TrodAll enc Try.prog W 0 (fun _ => true) true Try.f3.params.toList args.toList ds p := hA0
  rw [Try.params3] at hA hval
  obtain ⟨v0, vs0, d0, ds0, p0, q0, hargs, rfl, rfl, h0, r0⟩ := trodAll_cons hA
  obtain ⟨v1, vs1, d1, ds1, p1, q1, rfl, rfl, rfl, h1, r1⟩ := trodAll_cons r0
  obtain ⟨rfl, rfl, rfl⟩ := trodAll_nil r1
  obtain rfl : args = #[v0, v1] := by cases args; simp_all
  obtain ⟨rfl, rfl⟩ := trodVars_none hV
  have k0 := h0
  have lt0 : ∀ x ∈ p0, x.block < W.heap.size := by obtain ⟨m, hm⟩ := k0; exact DataW.trod_lt m _ _ _ hm
  obtain ⟨fuel0, hf0⟩ := h0
  obtain ⟨a0_0, a0_1, a0_2, a0_3, a0_4, a0_5, a0_6, a0_7, e0, w0_0, w0_1, w0_2, w0_3, w0_4, w0_5, w0_7⟩ := open23 hf0
  obtain rfl : v0 = .agg #[.int .i64 a0_0, .int .i64 a0_1, .int .i64 a0_2, .int .i64 a0_3, .int .i64 a0_4, .int .i64 a0_5, .bool a0_6, .int .i64 a0_7] := agg_of_cells e0 (by simp)
  have k1 := h1
  have lt1 : ∀ x ∈ p1, x.block < W.heap.size := by obtain ⟨m, hm⟩ := k1; exact DataW.trod_lt m _ _ _ hm
  obtain ⟨a1, rfl, rfl, rfl, w1⟩ := open_int Try.underlying3 (hval 1 3 v1 rfl rfl) h1
  clear hA0 hval0 hsz0
  obtain ⟨k, hk⟩ := pure_ThreadChecks a0_0 a0_1 a0_2 a0_3 a0_4 a0_5 a0_6 a0_7 a1 w0_0 w0_1 w0_2 w0_3 w0_4 w0_5 w0_7 w1
  refine (acmelaw01_ThreadChecks.calls k a0_0 a0_1 a0_2 a0_3 a0_4 a0_5 a0_6 a0_7 a1 true W  hk).mono fun e W' ⟨he, bel⟩ => ?_
  subst he
  exact ⟨_, rfl, _, _, _, [], _, [], hW', trodAll_mk1 (shut_bool Try.underlying4 _), (trodAll_cons_mk (Below.trod laidOut (by kernel_rfl) (of_decide_eq_true (by kernel_rfl)) k0 bel lt0) (trodAll_cons_mk (Below.trod laidOut (by kernel_rfl) (of_decide_eq_true (by kernel_rfl)) k1 bel lt1) trodAll_mk0)), rfl, bel.frame _, fun h => by cases h⟩
theorem over : Rows.threadChecksRow.holds Try.pinned (OpenSpec.ofChange Rows.threadChecksSpec) :=
  OpenClaim.holds_of_wide 3 Try.f3 rfl rfl rfl rfl rfl rfl rfl ⟨rfl, rfl, rfl, rfl, rfl⟩ rfl rfl rfl rfl rfl (by kernel_rfl) Try.func3 (by kernel_rfl)
    (of_decide_eq_true (by kernel_rfl)) (by unfold Func.isWrapper; first | (rw [if_pos (by decide +kernel)]; kernel_rfl) | (rw [if_neg (by decide +kernel)]; exact ⟨rfl, rfl⟩))
    (fun os started H enc _ => lifted os started H enc)
theorem proved : Rows.ThreadChecksSaid := over
end Go.Proofs.Yticbhgjenidjlaa.threadChecks
namespace Go.Proofs.Yticbhgjenidjlaa
theorem threadChecks_holds : Rows.ThreadChecksSaid := threadChecks.proved
end Go.Proofs.Yticbhgjenidjlaa
