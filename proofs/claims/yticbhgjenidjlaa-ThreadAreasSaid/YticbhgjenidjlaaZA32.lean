-- cut down, squeezed and laid together by pack.py (a program of this repository) out of this seat's texts
import Derived.KernelRfl
import Derived.WalkKit
import Derived.ProofKit
import Derived.OpenShut
import Derived.ShutString
import Derived.ChangeOld
import Derived.Below
import Derived.SizedLaws
import Derived.Carry
import Derived.Test.YticbhgjenidjlaaRows
import Derived.Test.YticbhgjenidjlaaZA9
import Derived.Test.YticbhgjenidjlaaZA22
import Derived.Test.YticbhgjenidjlaaZA21
import Derived.Test.YticbhgjenidjlaaZA23
import Derived.Test.YticbhgjenidjlaaZA27
import Derived.Test.YticbhgjenidjlaaZA2
import Derived.Test.YticbhgjenidjlaaZA20
import Derived.Test.YticbhgjenidjlaaZA25
import Derived.Test.YticbhgjenidjlaaZA5
import Derived.Test.YticbhgjenidjlaaZA31
import Derived.Test.YticbhgjenidjlaaZA8
import Derived.Test.YticbhgjenidjlaaZA24
import Derived.Test.YticbhgjenidjlaaZA28
import Derived.Test.YticbhgjenidjlaaZA29
import Derived.Test.YticbhgjenidjlaaZA26
import Derived.Test.YticbhgjenidjlaaZA12
import Derived.Test.YticbhgjenidjlaaZA15
import Derived.Test.YticbhgjenidjlaaZA11
import Derived.Test.YticbhgjenidjlaaZA16
import Derived.Test.YticbhgjenidjlaaZA14
import Derived.Test.YticbhgjenidjlaaZA10
import Derived.Test.YticbhgjenidjlaaZA17
import Derived.Test.YticbhgjenidjlaaZA18
import Derived.Test.YticbhgjenidjlaaZA19
import Derived.Test.YticbhgjenidjlaaZA13
import Derived.Test.YticbhgjenidjlaaZA4
import Derived.Test.YticbhgjenidjlaaZA7
import Derived.Test.YticbhgjenidjlaaZA3
import Derived.Test.YticbhgjenidjlaaZA6
import Derived.Test.YticbhgjenidjlaaZA1
import Derived.Test.YticbhgjenidjlaaZA30
namespace Go.Proofs.Yticbhgjenidjlaa.T
open Go.RowKit Go.Proofs.YticbhgjenidjlaaW.PrintWords Go.Proofs.YticbhgjenidjlaaW.PrintLast
set_option linter.unusedVariables false
set_option linter.unusedSimpArgs false

set_option maxRecDepth 100000 in
theorem known_ev : Ev (fun k => acmelaw01_known.f k) true := Ev.up (fun k => acmelaw01_known.mono k) 200 (by kernel_rfl)

def Valid (p l r a b s t : Int) : Prop :=
  (100 ≤ p ∧ p ≤ 200000) ∧ (0 ≤ l ∧ l ≤ 3000) ∧ (0 ≤ r ∧ r ≤ 3000) ∧ (0 ≤ a ∧ a ≤ 200000) ∧ (0 ≤ b ∧ b ≤ 200000) ∧ 1 ≤ a + b ∧ (1 ≤ s ∧ s ≤ 8) ∧ (0 ≤ t ∧ t ≤ 100) ∧ 0 ≤ 1000 * p - 2 * a * (l + r) ∧ 0 ≤ 1000 * p - 2 * b * (l + r)
instance (p l r a b s t : Int) : Decidable (Valid p l r a b s t) := by unfold Valid; infer_instance
def wid (p l r y : Int) : Int := 1000 * p - 2 * y * (l + r)
theorem wid_bound {p l r y : Int} (hp : 0 ≤ p ∧ p ≤ 200000) (hl : 0 ≤ l ∧ l ≤ 3000) (hr : 0 ≤ r ∧ r ≤ 3000) (hy : -200000 ≤ y ∧ y ≤ 200000) :
    (-1200000000 ≤ y * (l + r) ∧ y * (l + r) ≤ 1200000000) ∧ -3000000000 ≤ wid p l r y ∧ wid p l r y ≤ 3000000000 := by
  have h := mulbs (x := y) (X := 200000) (y := l + r) (Y := 6000) (by omega) (by omega) (by omega) (by omega)
  unfold wid
  rw [Int.mul_assoc]
  omega
theorem width_eq {p l r a b s : Int} {h : Bool} {t y : Int} (hp : 0 ≤ p ∧ p ≤ 200000) (hl : 0 ≤ l ∧ l ≤ 3000) (hr : 0 ≤ r ∧ r ≤ 3000) (hy : -200000 ≤ y ∧ y ≤ 200000) :
    thread_form_width.f p l r a b s h t y = some (wid p l r y) ∧ acmeref01_Width.f p l r a b s h t y = some (wid p l r y) := by
  have hb := wid_bound hp hl hr hy
  unfold wid at *
  rw [Int.mul_assoc] at *
  unfold thread_form_width.f thread_form_leans.f acmeref01_Width.f
  simp only [Option.bind_some]
  rw [wrap64_id (x := l + r) (by omega) (by omega), wrap64_id (x := 2 * y) (by omega) (by omega), wrap64_id (x := 1000 * p) (by omega) (by omega)]
  rw [Int.mul_assoc, wrap64_id (x := 2 * (y * (l + r))) (by omega) (by omega), wrap64_id (by omega) (by omega)]
  exact ⟨rfl, rfl⟩
theorem in_eq (x lo hi : Int) : acmeref01_In.f x lo hi = some (decide (lo ≤ x ∧ x ≤ hi)) := by
  unfold acmeref01_In.f
  by_cases h : x ≥ lo
  · rw [if_pos h]; simp [show lo ≤ x from h]
  · rw [if_neg h]; simp; omega
theorem within_eq1 (lo hi x : Int) : thread_within.f lo hi [x] = some (decide (lo ≤ x ∧ x ≤ hi)) := by
  unfold thread_within.f
  congr 1
  rw [Bool.eq_iff_iff]
  simp [outside]
theorem within_eq2 (lo hi x y : Int) : thread_within.f lo hi [x, y] = some (decide ((lo ≤ x ∧ x ≤ hi) ∧ (lo ≤ y ∧ y ≤ hi))) := by
  unfold thread_within.f
  congr 1
  rw [Bool.eq_iff_iff]
  simp [outside]

theorem check_ev {p l r a b s : Int} {h : Bool} {t : Int} : Ev (fun k => thread_Check.f k p l r a b s h t) (if Valid p l r a b s t then 0 else 2) := by
  refine ⟨2, fun k hk => ?_⟩
  obtain ⟨k, rfl⟩ : ∃ j, k = j + 2 := ⟨k - 2, by omega⟩
  have bad : ∀ {q1 q2 q3 q4 q5 q6 q7 q8 q9 q10 q11 q12 q13 q14 : Int} {g1 g2 : Bool}, ¬ Valid p l r a b s t → ∀ b0 : Bool, b0 = false → thread_Check.j0 (k + 2) b0 q1 q2 q3 q4 q5 q6 g1 q7 q8 q9 q10 q11 q12 q13 g2 q14 = some (if Valid p l r a b s t then 0 else 2) := by
    intro q1 q2 q3 q4 q5 q6 q7 q8 q9 q10 q11 q12 q13 q14 g1 g2 hv b0 hb
    rw [if_neg hv, hb]; simp [thread_Check.j0, thread_Check.j1]
  simp only [thread_Check.f, within_eq1, within_eq2, Option.bind_some]
  by_cases h1 : 100 ≤ p ∧ p ≤ 200000
  rotate_left
  · rw [if_neg (by simpa using h1)]
    exact bad (fun hv => h1 hv.1) _ rfl
  rw [if_pos (by simpa using h1)]
  by_cases h2 : (0 ≤ l ∧ l ≤ 3000) ∧ (0 ≤ r ∧ r ≤ 3000)
  rotate_left
  · rw [if_neg (by simpa using h2)]
    exact bad (fun hv => h2 ⟨hv.2.1, hv.2.2.1⟩) _ rfl
  rw [if_pos (by simpa using h2)]
  by_cases h3 : (0 ≤ a ∧ a ≤ 200000) ∧ (0 ≤ b ∧ b ≤ 200000)
  rotate_left
  · rw [if_neg (by simpa using h3)]
    exact bad (fun hv => h3 ⟨hv.2.2.2.1, hv.2.2.2.2.1⟩) _ rfl
  rw [if_pos (by simpa using h3), wrap64_id (by omega) (by omega)]
  by_cases h4 : 1 ≤ a + b
  rotate_left
  · exact bad (fun hv => h4 hv.2.2.2.2.2.1) _ (by simp; omega)
  rw [decide_eq_true (show a + b ≥ 1 from h4)]
  have b1 : ∀ {q1 q2 q3 q4 q5 q6 q7 q8 q9 q10 q11 q12 q13 q14 : Int} {g1 g2 : Bool}, ¬ Valid p l r a b s t → ∀ b0 : Bool, b0 = true → thread_Check.j1 (k + 1) b0 q1 q2 q3 q4 q5 q6 g1 q7 q8 q9 q10 q11 q12 q13 g2 q14 = some (if Valid p l r a b s t then 0 else 2) := by
    intro q1 q2 q3 q4 q5 q6 q7 q8 q9 q10 q11 q12 q13 q14 g1 g2 hv b0 hb
    rw [if_neg hv, hb]; simp [thread_Check.j1]
  simp only [thread_Check.j0, if_true, within_eq1, Option.bind_some]
  by_cases h5 : 1 ≤ s ∧ s ≤ 8
  rotate_left
  · rw [if_neg (by simpa using h5)]
    exact b1 (fun hv => h5 hv.2.2.2.2.2.2.1) _ rfl
  rw [if_pos (by simpa using h5)]
  by_cases h6 : 0 ≤ t ∧ t ≤ 100
  rotate_left
  · exact b1 (fun hv => h6 hv.2.2.2.2.2.2.2.1) _ (by simp; omega)
  rw [decide_eq_true h6]
  have wa := (width_eq (a := a) (b := b) (s := s) (h := h) (t := t) (y := a) (by omega) h2.1 h2.2 (p := p) (by omega)).1
  have wb := (width_eq (a := a) (b := b) (s := s) (h := h) (t := t) (y := b) (by omega) h2.1 h2.2 (p := p) (by omega)).1
  simp only [thread_Check.j1, Bool.not_true, Bool.false_eq_true, if_false, wa, wb, Option.bind_some]
  by_cases h7 : wid p l r a < 0
  · rw [if_pos h7, if_neg]; intro hv; unfold wid at h7; unfold Valid at hv; omega
  · rw [if_neg h7]
    by_cases h8 : wid p l r b < 0
    · rw [if_pos h8, if_neg]; intro hv; unfold wid at h8; unfold Valid at hv; omega
    · rw [if_neg h8, if_pos]
      unfold wid at h7 h8; exact ⟨h1, h2.1, h2.2, h3.1, h3.2, h4, h5, h6, by omega, by omega⟩

theorem form_ev {p l r a b s : Int} {h : Bool} {t : Int} (wa : (Lit.int .i64 a).wf = true) (wb : (Lit.int .i64 b).wf = true) : Ev (fun k => acmeref01_Form.f k p l r a b s h t) (decide (Valid p l r a b s t)) := by
  refine ⟨1, fun k hk => ?_⟩
  obtain ⟨k, rfl⟩ : ∃ j, k = j + 1 := ⟨k - 1, by omega⟩
  have bad : ∀ b0 : Bool, b0 = true → ¬ Valid p l r a b s t → acmeref01_Form.j0 (k + 1) b0 p l r a b s h t = some (decide (Valid p l r a b s t)) := by
    intro b0 hb hv
    rw [decide_eq_false hv, hb]; simp [acmeref01_Form.j0]
  simp only [acmeref01_Form.f, in_eq, Option.bind_some]
  by_cases h1 : 100 ≤ p ∧ p ≤ 200000
  rotate_left
  · rw [if_neg (by simpa using h1)]
    exact bad _ rfl (fun hv => h1 hv.1)
  rw [if_pos (by simpa using h1)]
  by_cases h2 : 0 ≤ l ∧ l ≤ 3000
  rotate_left
  · rw [if_neg (by simpa using h2)]
    exact bad _ rfl (fun hv => h2 hv.2.1)
  rw [if_pos (by simpa using h2)]
  by_cases h3 : 0 ≤ r ∧ r ≤ 3000
  rotate_left
  · rw [if_neg (by simpa using h3)]
    exact bad _ rfl (fun hv => h3 hv.2.2.1)
  rw [if_pos (by simpa using h3)]
  by_cases h4 : 0 ≤ a ∧ a ≤ 200000
  rotate_left
  · rw [if_neg (by simpa using h4)]
    exact bad _ rfl (fun hv => h4 hv.2.2.2.1)
  rw [if_pos (by simpa using h4)]
  by_cases h5 : 0 ≤ b ∧ b ≤ 200000
  rotate_left
  · rw [if_neg (by simpa using h5)]
    exact bad _ rfl (fun hv => h5 hv.2.2.2.2.1)
  rw [if_pos (by simpa using h5), wrap64_id (x := a + b) (by omega) (by omega)]
  by_cases h6 : a + b = 0
  · rw [if_pos h6]
    exact bad _ rfl (fun hv => by have := hv.2.2.2.2.2.1; omega)
  rw [if_neg h6]
  by_cases h7 : 1 ≤ s ∧ s ≤ 8
  rotate_left
  · rw [if_neg (by simpa using h7)]
    exact bad _ rfl (fun hv => h7 hv.2.2.2.2.2.2.1)
  rw [if_pos (by simpa using h7)]
  by_cases h8 : 0 ≤ t ∧ t ≤ 100
  rotate_left
  · exact bad _ (by simp; omega) (fun hv => h8 hv.2.2.2.2.2.2.2.1)
  rw [decide_eq_true h8]
  have wa := (width_eq (a := a) (b := b) (s := s) (h := h) (t := t) (y := a) (by omega) h2 h3 (p := p) (by omega)).2
  have wb := (width_eq (a := a) (b := b) (s := s) (h := h) (t := t) (y := -b) (by omega) h2 h3 (p := p) (by omega)).2
  simp only [acmeref01_Form.j0, Bool.not_true, Bool.false_eq_true, if_false, wa, wb, Option.bind_some, wrap64_id (x := -b) (by omega) (by omega), wrap64_id (x := 2000 * p) (by omega) (by omega)]
  have e : wid p l r (-b) = 1000 * p + 2 * b * (l + r) := by unfold wid; rw [Int.mul_neg, Int.neg_mul]; omega
  by_cases h9 : wid p l r a ≥ 0
  · rw [if_pos h9, e]
    congr 1
    unfold wid at h9
    rw [decide_eq_decide]
    exact ⟨fun h10 => ⟨h1, h2, h3, h4, h5, by omega, h7, h8, by omega, by omega⟩, fun hv => by have := hv.2.2.2.2.2.2.2.2.2; omega⟩
  · rw [if_neg h9, decide_eq_false]
    intro hv; unfold wid at h9; unfold Valid at hv; omega
end Go.Proofs.Yticbhgjenidjlaa.T
namespace Go.Proofs.Yticbhgjenidjlaa.T
open Go.RowKit Go.Proofs.YticbhgjenidjlaaW.PrintWords Go.Proofs.YticbhgjenidjlaaW.PrintLast
set_option linter.unusedVariables false
set_option linter.unusedSimpArgs false

theorem open_ev {p l r a b s : Int} {h : Bool} {t : Int} : Ev (fun k => thread_open.f k p l r a b s h t) (p, l, r, a, b, s, h, t, if Valid p l r a b s t then 0 else 2) := by
  unfold thread_open.f
  exact Ev.bind check_ev (Ev.pure _)
theorem has_eq2 {p l r a b s : Int} {h : Bool} {t x y : Int} (hb : 0 ≤ b ∧ b ≤ 200000) : thread_form_has.f p l r a b s h t [x, y] = some (decide ((-b ≤ x ∧ x ≤ a) ∧ (-b ≤ y ∧ y ≤ a))) := by
  unfold thread_form_has.f
  rw [wrap64_id (by omega) (by omega), within_eq2]; rfl
def area (p l r x y : Int) : Int := 1000 * (y - x) * p - (y * y - x * x) * (l + r)
theorem area_bound {p l r x y : Int} (hp : 0 ≤ p ∧ p ≤ 200000) (hl : 0 ≤ l ∧ l ≤ 3000) (hr : 0 ≤ r ∧ r ≤ 3000) (hx : -200000 ≤ x ∧ x ≤ 200000) (hy : -200000 ≤ y ∧ y ≤ 200000) :
    (-400000 ≤ y - x ∧ y - x ≤ 400000) ∧ (-80000000000 ≤ (y - x) * p ∧ (y - x) * p ≤ 80000000000) ∧ (-40000000000 ≤ y * y ∧ y * y ≤ 40000000000) ∧ (-40000000000 ≤ x * x ∧ x * x ≤ 40000000000) ∧
    (-480000000000000 ≤ (y * y - x * x) * (l + r) ∧ (y * y - x * x) * (l + r) ≤ 480000000000000) := by
  have h1 := mulbs (x := y - x) (X := 400000) (y := p) (Y := 200000) (by omega) (by omega) (by omega) (by omega)
  have h2 := mulbs (x := y) (X := 200000) (y := y) (Y := 200000) (by omega) (by omega) (by omega) (by omega)
  have h3 := mulbs (x := x) (X := 200000) (y := x) (Y := 200000) (by omega) (by omega) (by omega) (by omega)
  have h4 := mulbs (x := y * y - x * x) (X := 80000000000) (y := l + r) (Y := 6000) (by omega) (by omega) (by omega) (by omega)
  omega
theorem area_twice (p l r x y : Int) : (y - x) * (wid p l r x + wid p l r y) = 2 * area p l r x y := by
  unfold wid area
  have e : (y - x) * (y + x) = y * y - x * x := by rw [Int.sub_mul, Int.mul_add, Int.mul_add, Int.mul_comm x y]; omega
  have e1 : 1000 * p - 2 * x * (l + r) + (1000 * p - 2 * y * (l + r)) = 2 * (1000 * p - (y + x) * (l + r)) := by
    rw [Int.mul_assoc, Int.mul_assoc, Int.add_mul]; omega
  rw [e1, Int.mul_left_comm, Int.mul_sub, ← Int.mul_assoc (y - x) (y + x), e, ← Int.mul_assoc (y - x) 1000 p, Int.mul_comm (y - x) 1000]
theorem area_ev {p l r a b s : Int} {h : Bool} {t x y : Int} : Ev (fun k => thread_Area.f k p l r a b s h t x y)
    (if Valid p l r a b s t then if ((-b ≤ x ∧ x ≤ a) ∧ (-b ≤ y ∧ y ≤ a)) ∧ x ≤ y then ((low (area p l r x y) 2000).1, (low (area p l r x y) 2000).2, 0) else (0, 0, 3) else (0, 0, 2)) := by
  unfold thread_Area.f
  refine Ev.bind open_ev ?_
  by_cases hv : Valid p l r a b s t
  rotate_left
  · simp only [if_neg hv]; exact Ev.pure _
  simp only [if_pos hv, if_true]
  obtain ⟨hp, hl, hr, ha, hb, hab, hs, ht, hwa, hwb⟩ := hv
  simp only [has_eq2 hb, Option.bind_some]
  by_cases h1 : (-b ≤ x ∧ x ≤ a) ∧ (-b ≤ y ∧ y ≤ a)
  rotate_left
  · rw [decide_eq_false h1]
    simp only [Bool.false_eq_true, if_false, Bool.not_false, if_neg (fun q : ((-b ≤ x ∧ x ≤ a) ∧ (-b ≤ y ∧ y ≤ a)) ∧ x ≤ y => h1 q.1)]
    exact Ev.succ (Ev.of fun k => by simp [thread_Area.j0])
  rw [decide_eq_true h1]
  simp only [if_true]
  refine Ev.succ ?_
  simp only [thread_Area.j0]
  by_cases h2 : x > y
  · rw [decide_eq_true h2, if_neg (fun q : ((-b ≤ x ∧ x ≤ a) ∧ (-b ≤ y ∧ y ≤ a)) ∧ x ≤ y => by omega)]
    simp only [if_true]; exact Ev.pure _
  rw [decide_eq_false h2, if_pos ⟨h1, by omega⟩]
  have wx := (width_eq (a := a) (b := b) (s := s) (h := h) (t := t) (y := x) (by omega) hl hr (p := p) (by omega)).1
  have wy := (width_eq (a := a) (b := b) (s := s) (h := h) (t := t) (y := y) (by omega) hl hr (p := p) (by omega)).1
  have bx := wid_bound (p := p) (by omega) hl hr (y := x) (by omega)
  have by_ := wid_bound (p := p) (by omega) hl hr (y := y) (by omega)
  have hA := area_bound (p := p) (by omega) hl hr (x := x) (y := y) (by omega) (by omega)
  have hA2 : -1000000000000000 ≤ area p l r x y ∧ area p l r x y ≤ 1000000000000000 := by unfold area; rw [Int.mul_assoc]; omega
  simp only [Bool.false_eq_true, if_false, wx, wy, Option.bind_some]
  rw [wrap64_id (x := y - x) (by omega) (by omega), wrap64_id (x := wid p l r x + wid p l r y) (by omega) (by omega), area_twice, wrap64_id (by omega) (by omega), ← low_two (area p l r x y) 2000 2 (by omega)]
  exact Ev.bind (ratio_ev _ 4000 (by omega) (by omega) (by omega) (by omega)) (Ev.pure _)
end Go.Proofs.Yticbhgjenidjlaa.T
namespace Go.Proofs.Yticbhgjenidjlaa.T
open Go.RowKit Go.Proofs.YticbhgjenidjlaaW.PrintWords Go.Proofs.YticbhgjenidjlaaW.PrintLast
set_option linter.unusedVariables false
theorem known_bind : Ev (fun k => (acmelaw01_known.f k).bind fun t => (some t)) true := Ev.bind known_ev (Ev.pure true)
theorem pure_ThreadAreas (a0_0 : Int) (a0_1 : Int) (a0_2 : Int) (a0_3 : Int) (a0_4 : Int) (a0_5 : Int) (a0_6 : Bool) (a0_7 : Int) (a1 : Int) (a2 : Int) (w0_0 : (Lit.int .i64 a0_0).wf = true) (w0_1 : (Lit.int .i64 a0_1).wf = true) (w0_2 : (Lit.int .i64 a0_2).wf = true) (w0_3 : (Lit.int .i64 a0_3).wf = true) (w0_4 : (Lit.int .i64 a0_4).wf = true) (w0_5 : (Lit.int .i64 a0_5).wf = true) (w0_7 : (Lit.int .i64 a0_7).wf = true) (w1 : (Lit.int .i64 a1).wf = true) (w2 : (Lit.int .i64 a2).wf = true) : ∃ k, acmelaw01_ThreadAreas.f k a0_0 a0_1 a0_2 a0_3 a0_4 a0_5 a0_6 a0_7 a1 a2 = some true := by
  have A := wf64 w0_3
  have B := wf64 w0_4
  refine Ev.ex ?_
  unfold acmelaw01_ThreadAreas.f
  refine Ev.bind area_ev ?_
  refine Ev.bind (form_ev w0_3 w0_4) ?_
  by_cases hv : Valid a0_0 a0_1 a0_2 a0_3 a0_4 a0_5 a0_7
  rotate_left
  · simp only [if_neg hv, decide_eq_false hv, Bool.false_eq_true, if_false, if_true]
    exact known_bind
  have hv' := hv
  obtain ⟨hp, hl, hr, ha, hb, hab, hs, ht, hwa, hwb⟩ := hv'
  simp only [decide_eq_true hv, if_pos hv, if_true, in_eq, Option.bind_some, wrap64_id (x := -a0_4) (by omega) (by omega)]
  have bad : ∀ {x y z u q1 q2 q3 q4 q5 : Int} {g : Bool}, Ev (fun k => acmelaw01_ThreadAreas.j0 k x y 3 true z u q1 q2 q3 q4 g q5 0 0) true := by
    intros
    refine Ev.succ ?_
    simp only [acmelaw01_ThreadAreas.j0, if_true]
    exact known_bind
  by_cases h1 : -a0_4 ≤ a1 ∧ a1 ≤ a0_3
  rotate_left
  · simp only [decide_eq_false h1, Bool.false_eq_true, if_false, if_neg (fun q : ((-a0_4 ≤ a1 ∧ a1 ≤ a0_3) ∧ (-a0_4 ≤ a2 ∧ a2 ≤ a0_3)) ∧ a1 ≤ a2 => h1 q.1.1)]
    exact bad
  by_cases h2 : -a0_4 ≤ a2 ∧ a2 ≤ a0_3
  rotate_left
  · simp only [decide_eq_true h1, if_true, decide_eq_false h2, Bool.false_eq_true, if_false, if_neg (fun q : ((-a0_4 ≤ a1 ∧ a1 ≤ a0_3) ∧ (-a0_4 ≤ a2 ∧ a2 ≤ a0_3)) ∧ a1 ≤ a2 => h2 q.1.2)]
    exact bad
  simp only [decide_eq_true h1, decide_eq_true h2, if_true]
  by_cases h3 : a1 > a2
  · simp only [decide_eq_true h3, if_neg (fun q : ((-a0_4 ≤ a1 ∧ a1 ≤ a0_3) ∧ (-a0_4 ≤ a2 ∧ a2 ≤ a0_3)) ∧ a1 ≤ a2 => by omega)]
    exact bad
  simp only [decide_eq_false h3, if_pos (show ((-a0_4 ≤ a1 ∧ a1 ≤ a0_3) ∧ (-a0_4 ≤ a2 ∧ a2 ≤ a0_3)) ∧ a1 ≤ a2 from ⟨⟨h1, h2⟩, by omega⟩)]
  refine Ev.succ ?_
  have hA := area_bound (p := a0_0) (by omega) hl hr (x := a1) (y := a2) (by omega) (by omega)
  have hA2 : -1000000000000000 ≤ area a0_0 a0_1 a0_2 a1 a2 ∧ area a0_0 a0_1 a0_2 a1 a2 ≤ 1000000000000000 := by unfold area; rw [Int.mul_assoc]; omega
  have e : wrap64 ((wrap64 ((wrap64 (1000 * (wrap64 (a2 - a1)))) * a0_0)) - (wrap64 ((wrap64 ((wrap64 (a2 * a2)) - (wrap64 (a1 * a1)))) * (wrap64 (a0_1 + a0_2))))) = area a0_0 a0_1 a0_2 a1 a2 := by
    unfold area at *
    rw [wrap64_id (x := a2 - a1) (by omega) (by omega), wrap64_id (x := 1000 * (a2 - a1)) (by omega) (by omega), wrap64_id (x := a2 * a2) (by omega) (by omega), wrap64_id (x := a1 * a1) (by omega) (by omega), wrap64_id (x := a0_1 + a0_2) (by omega) (by omega), wrap64_id (x := a2 * a2 - a1 * a1) (by omega) (by omega)]
    rw [wrap64_id (x := 1000 * (a2 - a1) * a0_0) (by rw [Int.mul_assoc]; omega) (by rw [Int.mul_assoc]; omega), wrap64_id (x := (a2 * a2 - a1 * a1) * (a0_1 + a0_2)) (by omega) (by omega), wrap64_id (by omega) (by omega)]
  simp only [acmelaw01_ThreadAreas.j0, Bool.false_eq_true, if_false, if_true, e]
  refine Ev.bind (lowest_ev _ 2000 (by omega) (by omega) (by omega) (by omega)) ?_
  simp only [beq_self_eq_true, Bool.and_self, if_true]
  exact known_bind
end Go.Proofs.Yticbhgjenidjlaa.T
namespace Go.Proofs.Yticbhgjenidjlaa.threadAreas
open Go.ChangeShapes Go.WideShapes Go.ChangeAt Go.RowKit Go.Proofs.Yticbhgjenidjlaa.T
open Go.ChangeMaps (open_string shut_string)
set_option linter.unusedVariables false
theorem own : ownKnob Try.prog.godebug = none := by kernel_rfl
theorem laidOut : laidOutB Try.prog = true := by kernel_rfl
set_option maxRecDepth 100000 in
theorem lifted (os : Os) (started : os.Started) (H : Type) (enc : TypeId × Value → H) :
    ReturnsInHanded {} Try.checked os 4 .any (Rows.threadAreasSpec.pre6 enc Try.prog Try.f4 Rows.threadAreasRow.domain false) (Rows.threadAreasSpec.post enc Try.prog Try.f4 false true false false) := by
  refine returnsInHanded_of_change_sized (C := Try.checked) own started (by kernel_rfl) Try.func4
    (ChangeSpec.witness6 (enc := enc) (C := Try.checked) false ⟨#[], #[.agg #[.int .i64 0, .int .i64 0, .int .i64 0, .int .i64 0, .int .i64 0, .int .i64 0, .bool false, .int .i64 0], .int .i64 0, .int .i64 0], []⟩ 8 (by kernel_rfl) (by kernel_rfl) (by kernel_rfl) (by kernel_rfl)) ?_
  intro W base args ds gs before hval0 hW hcnd hsz0 _
  have hval : ∀ (j : Nat) t v, Try.f4.params[j]? = some t → args[j]? = some v → Value.okWide Try.prog W .any base t v := hval0
  have hW' := hW
  obtain ⟨p, q, hA0, hV, rfl, hfz, hnd⟩ := hW
  have hA : DataW.TrodAll enc Try.prog W 0 (fun _ => true) true Try.f4.params.toList args.toList ds p := hA0
  rw [Try.params4] at hA hval
  obtain ⟨v0, vs0, d0, ds0, p0, q0, hargs, rfl, rfl, h0, r0⟩ := trodAll_cons hA
  obtain ⟨v1, vs1, d1, ds1, p1, q1, rfl, rfl, rfl, h1, r1⟩ := trodAll_cons r0
  obtain ⟨v2, vs2, d2, ds2, p2, q2, rfl, rfl, rfl, h2, r2⟩ := trodAll_cons r1
  obtain ⟨rfl, rfl, rfl⟩ := trodAll_nil r2
  obtain rfl : args = #[v0, v1, v2] := by cases args; simp_all
  obtain ⟨rfl, rfl⟩ := trodVars_none hV
  have k0 := h0
  have lt0 : ∀ x ∈ p0, x.block < W.heap.size := by obtain ⟨m, hm⟩ := k0; exact DataW.trod_lt m _ _ _ hm
  obtain ⟨fuel0, hf0⟩ := h0
  obtain ⟨a0_0, a0_1, a0_2, a0_3, a0_4, a0_5, a0_6, a0_7, e0, w0_0, w0_1, w0_2, w0_3, w0_4, w0_5, w0_7⟩ := open23 hf0
  obtain rfl : v0 = .agg #[.int .i64 a0_0, .int .i64 a0_1, .int .i64 a0_2, .int .i64 a0_3, .int .i64 a0_4, .int .i64 a0_5, .bool a0_6, .int .i64 a0_7] := agg_of_cells e0 (by simp)
  have k1 := h1
  have lt1 : ∀ x ∈ p1, x.block < W.heap.size := by obtain ⟨m, hm⟩ := k1; exact DataW.trod_lt m _ _ _ hm
  obtain ⟨a1, rfl, rfl, rfl, w1⟩ := open_int Try.underlying3 (hval 1 3 v1 rfl rfl) h1
  have k2 := h2
  have lt2 : ∀ x ∈ p2, x.block < W.heap.size := by obtain ⟨m, hm⟩ := k2; exact DataW.trod_lt m _ _ _ hm
  obtain ⟨a2, rfl, rfl, rfl, w2⟩ := open_int Try.underlying3 (hval 2 3 v2 rfl rfl) h2
  clear hA0 hval0 hsz0
  obtain ⟨k, hk⟩ := pure_ThreadAreas a0_0 a0_1 a0_2 a0_3 a0_4 a0_5 a0_6 a0_7 a1 a2 w0_0 w0_1 w0_2 w0_3 w0_4 w0_5 w0_7 w1 w2
  refine (acmelaw01_ThreadAreas.calls k a0_0 a0_1 a0_2 a0_3 a0_4 a0_5 a0_6 a0_7 a1 a2 true W  hk).mono fun e W' ⟨he, bel⟩ => ?_
  subst he
  exact ⟨_, rfl, _, _, _, [], _, [], hW', trodAll_mk1 (shut_bool Try.underlying4 _), (trodAll_cons_mk (Below.trod laidOut (by kernel_rfl) (of_decide_eq_true (by kernel_rfl)) k0 bel lt0) (trodAll_cons_mk (Below.trod laidOut (by kernel_rfl) (of_decide_eq_true (by kernel_rfl)) k1 bel lt1) (trodAll_cons_mk (Below.trod laidOut (by kernel_rfl) (of_decide_eq_true (by kernel_rfl)) k2 bel lt2) trodAll_mk0))), rfl, bel.frame _, fun h => by cases h⟩
theorem over : Rows.threadAreasRow.holds Try.pinned (OpenSpec.ofChange Rows.threadAreasSpec) :=
  OpenClaim.holds_of_wide 4 Try.f4 rfl rfl rfl rfl rfl rfl rfl ⟨rfl, rfl, rfl, rfl, rfl⟩ rfl rfl rfl rfl rfl (by kernel_rfl) Try.func4 (by kernel_rfl)
    (of_decide_eq_true (by kernel_rfl)) (by unfold Func.isWrapper; first | (rw [if_pos (by decide +kernel)]; kernel_rfl) | (rw [if_neg (by decide +kernel)]; exact ⟨rfl, rfl⟩))
    (fun os started H enc _ => lifted os started H enc)
theorem proved : Rows.ThreadAreasSaid := over
end Go.Proofs.Yticbhgjenidjlaa.threadAreas
namespace Go.Proofs.Yticbhgjenidjlaa
theorem threadAreas_holds : Rows.ThreadAreasSaid := threadAreas.proved
end Go.Proofs.Yticbhgjenidjlaa
