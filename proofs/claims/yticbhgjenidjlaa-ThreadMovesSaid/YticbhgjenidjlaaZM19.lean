-- cut down, squeezed and laid together by pack.py (a program of this repository) out of this seat's texts
import Derived.KernelRfl
import Derived.ChangeKeysEq
import Derived.Below
import Derived.Deep.Draws
import Derived.Deep.AppendLies
import Derived.Maps.AppendAt
import Derived.OwnWalk
import Derived.Laws.BytesArg
import Derived.Laws.MakeOwn
import Derived.Laws.OwnMore
import Derived.Deep.OwnRows
import Derived.Tactics
import Derived.Lib.ConvBytes
import Derived.Laws.Slices
import Derived.WalkKit
import Derived.RowKit3
import Derived.Deep.LoopGhost
import Derived.Deep.QuietTactic
import Derived.BigQuiet
import Derived.WideLaws
import Derived.Deep.DeepCutAuto
import Derived.Deep.CutBlock
import Derived.Deep.RegionHeld3
import Derived.Laws.Rows
import Derived.Lib.AppendStr
import Derived.ArgAppend
import Derived.Laws.IdiomCopy
import Derived.OrdersHeld
import Derived.Laws.BitsLemmas
import Derived.RowKit
import Derived.Test.YticbhgjenidjlaaProg
import Derived.Laws.StructEq
import Derived.ProofKit
import Derived.OpenShut
import Derived.ShutString
import Derived.ChangeOld
import Derived.SizedLaws
import Derived.Carry
import Derived.Test.YticbhgjenidjlaaRows
import Derived.Test.YticbhgjenidjlaaZM9
import Derived.Test.YticbhgjenidjlaaZM3
import Derived.Test.YticbhgjenidjlaaZM18
import Derived.Test.YticbhgjenidjlaaZM12
import Derived.Test.YticbhgjenidjlaaZM16
import Derived.Test.YticbhgjenidjlaaZM8
import Derived.Test.YticbhgjenidjlaaZM10
import Derived.Test.YticbhgjenidjlaaZM7
import Derived.Test.YticbhgjenidjlaaZM4
import Derived.Test.YticbhgjenidjlaaZM6
import Derived.Test.YticbhgjenidjlaaZM5
import Derived.Test.YticbhgjenidjlaaZM2
import Derived.Test.YticbhgjenidjlaaZM11
import Derived.Test.YticbhgjenidjlaaZM1
import Derived.Test.YticbhgjenidjlaaZM15
import Derived.Test.YticbhgjenidjlaaZM14
import Derived.Test.YticbhgjenidjlaaZM13
import Derived.Test.YticbhgjenidjlaaZM17
namespace Go.Proofs.Yticbhgjenidjlaa.T
open Go.RowKit Go.Proofs.YticbhgjenidjlaaW.PrintWords Go.Proofs.YticbhgjenidjlaaW.PrintLast
set_option linter.unusedVariables false
set_option linter.unusedSimpArgs false

def Valid (p l r a b s t : Int) : Prop :=
  (100 ≤ p ∧ p ≤ 200000) ∧ (0 ≤ l ∧ l ≤ 3000) ∧ (0 ≤ r ∧ r ≤ 3000) ∧ (0 ≤ a ∧ a ≤ 200000) ∧ (0 ≤ b ∧ b ≤ 200000) ∧ 1 ≤ a + b ∧ (1 ≤ s ∧ s ≤ 8) ∧ (0 ≤ t ∧ t ≤ 100) ∧ 0 ≤ 1000 * p - 2 * a * (l + r) ∧ 0 ≤ 1000 * p - 2 * b * (l + r)
instance (p l r a b s t : Int) : Decidable (Valid p l r a b s t) := by unfold Valid; infer_instance
def wid (p l r y : Int) : Int := 1000 * p - 2 * y * (l + r)
theorem wid_bound {p l r y : Int} (hp : 0 ≤ p ∧ p ≤ 200000) (hl : 0 ≤ l ∧ l ≤ 3000) (hr : 0 ≤ r ∧ r ≤ 3000) (hy : -200000 ≤ y ∧ y ≤ 200000) :
    (-1200000000 ≤ y * (l + r) ∧ y * (l + r) ≤ 1200000000) ∧ -3000000000 ≤ wid p l r y ∧ wid p l r y ≤ 3000000000 := by
  have h := mulbs (x := y) (X := 200000) (y := l + r) (Y := 6000) (by omega) (by omega) (by omega) (by omega)
  unfold wid
  rw [Int.mul_assoc]
  omega
theorem width_eq {p l r a b s : Int} {h : Bool} {t y : Int} (hp : 0 ≤ p ∧ p ≤ 200000) (hl : 0 ≤ l ∧ l ≤ 3000) (hr : 0 ≤ r ∧ r ≤ 3000) (hy : -200000 ≤ y ∧ y ≤ 200000) :
    thread_form_width.f p l r a b s h t y = some (wid p l r y) ∧ acmeref01_Width.f p l r a b s h t y = some (wid p l r y) := by
  have hb := wid_bound hp hl hr hy
  unfold wid at *
  rw [Int.mul_assoc] at *
  unfold thread_form_width.f thread_form_leans.f acmeref01_Width.f
  simp only [Option.bind_some]
  rw [wrap64_id (x := l + r) (by omega) (by omega), wrap64_id (x := 2 * y) (by omega) (by omega), wrap64_id (x := 1000 * p) (by omega) (by omega)]
  rw [Int.mul_assoc, wrap64_id (x := 2 * (y * (l + r))) (by omega) (by omega), wrap64_id (by omega) (by omega)]
  exact ⟨rfl, rfl⟩
theorem in_eq (x lo hi : Int) : acmeref01_In.f x lo hi = some (decide (lo ≤ x ∧ x ≤ hi)) := by
  unfold acmeref01_In.f
  by_cases h : x ≥ lo
  · rw [if_pos h]; simp [show lo ≤ x from h]
  · rw [if_neg h]; simp; omega
theorem within_eq1 (lo hi x : Int) : thread_within.f lo hi [x] = some (decide (lo ≤ x ∧ x ≤ hi)) := by
  unfold thread_within.f
  congr 1
  rw [Bool.eq_iff_iff]
  simp [outside]
theorem within_eq2 (lo hi x y : Int) : thread_within.f lo hi [x, y] = some (decide ((lo ≤ x ∧ x ≤ hi) ∧ (lo ≤ y ∧ y ≤ hi))) := by
  unfold thread_within.f
  congr 1
  rw [Bool.eq_iff_iff]
  simp [outside]

theorem check_ev {p l r a b s : Int} {h : Bool} {t : Int} : Ev (fun k => thread_Check.f k p l r a b s h t) (if Valid p l r a b s t then 0 else 2) := by
  refine ⟨2, fun k hk => ?_⟩
  obtain ⟨k, rfl⟩ : ∃ j, k = j + 2 := ⟨k - 2, by omega⟩
  have bad : ∀ {q1 q2 q3 q4 q5 q6 q7 q8 q9 q10 q11 q12 q13 q14 : Int} {g1 g2 : Bool}, ¬ Valid p l r a b s t → ∀ b0 : Bool, b0 = false → thread_Check.j0 (k + 2) b0 q1 q2 q3 q4 q5 q6 g1 q7 q8 q9 q10 q11 q12 q13 g2 q14 = some (if Valid p l r a b s t then 0 else 2) := by
    intro q1 q2 q3 q4 q5 q6 q7 q8 q9 q10 q11 q12 q13 q14 g1 g2 hv b0 hb
    rw [if_neg hv, hb]; simp [thread_Check.j0, thread_Check.j1]
  simp only [thread_Check.f, within_eq1, within_eq2, Option.bind_some]
  by_cases h1 : 100 ≤ p ∧ p ≤ 200000
  rotate_left
  · rw [if_neg (by simpa using h1)]
    exact bad (fun hv => h1 hv.1) _ rfl
  rw [if_pos (by simpa using h1)]
  by_cases h2 : (0 ≤ l ∧ l ≤ 3000) ∧ (0 ≤ r ∧ r ≤ 3000)
  rotate_left
  · rw [if_neg (by simpa using h2)]
    exact bad (fun hv => h2 ⟨hv.2.1, hv.2.2.1⟩) _ rfl
  rw [if_pos (by simpa using h2)]
  by_cases h3 : (0 ≤ a ∧ a ≤ 200000) ∧ (0 ≤ b ∧ b ≤ 200000)
  rotate_left
  · rw [if_neg (by simpa using h3)]
    exact bad (fun hv => h3 ⟨hv.2.2.2.1, hv.2.2.2.2.1⟩) _ rfl
  rw [if_pos (by simpa using h3), wrap64_id (by omega) (by omega)]
  by_cases h4 : 1 ≤ a + b
  rotate_left
  · exact bad (fun hv => h4 hv.2.2.2.2.2.1) _ (by simp; omega)
  rw [decide_eq_true (show a + b ≥ 1 from h4)]
  have b1 : ∀ {q1 q2 q3 q4 q5 q6 q7 q8 q9 q10 q11 q12 q13 q14 : Int} {g1 g2 : Bool}, ¬ Valid p l r a b s t → ∀ b0 : Bool, b0 = true → thread_Check.j1 (k + 1) b0 q1 q2 q3 q4 q5 q6 g1 q7 q8 q9 q10 q11 q12 q13 g2 q14 = some (if Valid p l r a b s t then 0 else 2) := by
    intro q1 q2 q3 q4 q5 q6 q7 q8 q9 q10 q11 q12 q13 q14 g1 g2 hv b0 hb
    rw [if_neg hv, hb]; simp [thread_Check.j1]
  simp only [thread_Check.j0, if_true, within_eq1, Option.bind_some]
  by_cases h5 : 1 ≤ s ∧ s ≤ 8
  rotate_left
  · rw [if_neg (by simpa using h5)]
    exact b1 (fun hv => h5 hv.2.2.2.2.2.2.1) _ rfl
  rw [if_pos (by simpa using h5)]
  by_cases h6 : 0 ≤ t ∧ t ≤ 100
  rotate_left
  · exact b1 (fun hv => h6 hv.2.2.2.2.2.2.2.1) _ (by simp; omega)
  rw [decide_eq_true h6]
  have wa := (width_eq (a := a) (b := b) (s := s) (h := h) (t := t) (y := a) (by omega) h2.1 h2.2 (p := p) (by omega)).1
  have wb := (width_eq (a := a) (b := b) (s := s) (h := h) (t := t) (y := b) (by omega) h2.1 h2.2 (p := p) (by omega)).1
  simp only [thread_Check.j1, Bool.not_true, Bool.false_eq_true, if_false, wa, wb, Option.bind_some]
  by_cases h7 : wid p l r a < 0
  · rw [if_pos h7, if_neg]; intro hv; unfold wid at h7; unfold Valid at hv; omega
  · rw [if_neg h7]
    by_cases h8 : wid p l r b < 0
    · rw [if_pos h8, if_neg]; intro hv; unfold wid at h8; unfold Valid at hv; omega
    · rw [if_neg h8, if_pos]
      unfold wid at h7 h8; exact ⟨h1, h2.1, h2.2, h3.1, h3.2, h4, h5, h6, by omega, by omega⟩

theorem form_ev {p l r a b s : Int} {h : Bool} {t : Int} (wa : (Lit.int .i64 a).wf = true) (wb : (Lit.int .i64 b).wf = true) : Ev (fun k => acmeref01_Form.f k p l r a b s h t) (decide (Valid p l r a b s t)) := by
  refine ⟨1, fun k hk => ?_⟩
  obtain ⟨k, rfl⟩ : ∃ j, k = j + 1 := ⟨k - 1, by omega⟩
  have bad : ∀ b0 : Bool, b0 = true → ¬ Valid p l r a b s t → acmeref01_Form.j0 (k + 1) b0 p l r a b s h t = some (decide (Valid p l r a b s t)) := by
    intro b0 hb hv
    rw [decide_eq_false hv, hb]; simp [acmeref01_Form.j0]
  simp only [acmeref01_Form.f, in_eq, Option.bind_some]
  by_cases h1 : 100 ≤ p ∧ p ≤ 200000
  rotate_left
  · rw [if_neg (by simpa using h1)]
    exact bad _ rfl (fun hv => h1 hv.1)
  rw [if_pos (by simpa using h1)]
  by_cases h2 : 0 ≤ l ∧ l ≤ 3000
  rotate_left
  · rw [if_neg (by simpa using h2)]
    exact bad _ rfl (fun hv => h2 hv.2.1)
  rw [if_pos (by simpa using h2)]
  by_cases h3 : 0 ≤ r ∧ r ≤ 3000
  rotate_left
  · rw [if_neg (by simpa using h3)]
    exact bad _ rfl (fun hv => h3 hv.2.2.1)
  rw [if_pos (by simpa using h3)]
  by_cases h4 : 0 ≤ a ∧ a ≤ 200000
  rotate_left
  · rw [if_neg (by simpa using h4)]
    exact bad _ rfl (fun hv => h4 hv.2.2.2.1)
  rw [if_pos (by simpa using h4)]
  by_cases h5 : 0 ≤ b ∧ b ≤ 200000
  rotate_left
  · rw [if_neg (by simpa using h5)]
    exact bad _ rfl (fun hv => h5 hv.2.2.2.2.1)
  rw [if_pos (by simpa using h5), wrap64_id (x := a + b) (by omega) (by omega)]
  by_cases h6 : a + b = 0
  · rw [if_pos h6]
    exact bad _ rfl (fun hv => by have := hv.2.2.2.2.2.1; omega)
  rw [if_neg h6]
  by_cases h7 : 1 ≤ s ∧ s ≤ 8
  rotate_left
  · rw [if_neg (by simpa using h7)]
    exact bad _ rfl (fun hv => h7 hv.2.2.2.2.2.2.1)
  rw [if_pos (by simpa using h7)]
  by_cases h8 : 0 ≤ t ∧ t ≤ 100
  rotate_left
  · exact bad _ (by simp; omega) (fun hv => h8 hv.2.2.2.2.2.2.2.1)
  rw [decide_eq_true h8]
  have wa := (width_eq (a := a) (b := b) (s := s) (h := h) (t := t) (y := a) (by omega) h2 h3 (p := p) (by omega)).2
  have wb := (width_eq (a := a) (b := b) (s := s) (h := h) (t := t) (y := -b) (by omega) h2 h3 (p := p) (by omega)).2
  simp only [acmeref01_Form.j0, Bool.not_true, Bool.false_eq_true, if_false, wa, wb, Option.bind_some, wrap64_id (x := -b) (by omega) (by omega), wrap64_id (x := 2000 * p) (by omega) (by omega)]
  have e : wid p l r (-b) = 1000 * p + 2 * b * (l + r) := by unfold wid; rw [Int.mul_neg, Int.neg_mul]; omega
  by_cases h9 : wid p l r a ≥ 0
  · rw [if_pos h9, e]
    congr 1
    unfold wid at h9
    rw [decide_eq_decide]
    exact ⟨fun h10 => ⟨h1, h2, h3, h4, h5, by omega, h7, h8, by omega, by omega⟩, fun hv => by have := hv.2.2.2.2.2.2.2.2.2; omega⟩
  · rw [if_neg h9, decide_eq_false]
    intro hv; unfold wid at h9; unfold Valid at hv; omega
end Go.Proofs.Yticbhgjenidjlaa.T
namespace Go.Proofs.Yticbhgjenidjlaa.T
open Go.RowKit Go.Proofs.YticbhgjenidjlaaW.PrintWords Go.Proofs.YticbhgjenidjlaaW.PrintLast
set_option linter.unusedVariables false
set_option linter.unusedSimpArgs false

theorem open_ev {p l r a b s : Int} {h : Bool} {t : Int} : Ev (fun k => thread_open.f k p l r a b s h t) (p, l, r, a, b, s, h, t, if Valid p l r a b s t then 0 else 2) := by
  unfold thread_open.f
  exact Ev.bind check_ev (Ev.pure _)
end Go.Proofs.Yticbhgjenidjlaa.T
namespace Go.Proofs.Yticbhgjenidjlaa.T
open Go.RowKit Go.Proofs.YticbhgjenidjlaaW.PrintWords Go.Proofs.YticbhgjenidjlaaW.PrintLast
set_option linter.unusedVariables false
set_option linter.unusedSimpArgs false

theorem lead_bound {p s : Int} (hp : 100 ≤ p ∧ p ≤ 200000) (hs : 1 ≤ s ∧ s ≤ 8) : 100 ≤ p * s ∧ p * s ≤ 1600000 := by
  have h1 := mulb (x := p) (X := 200000) (y := s) (Y := 8) (by omega) (by omega) (by omega) (by omega)
  have h2 := Int.mul_le_mul (a := 100) (b := 1) (c := p) (d := s) hp.1 hs.1 (by omega) (by omega)
  omega
theorem lead_eq {p l r a b s : Int} {h : Bool} {t : Int} (hp : 100 ≤ p ∧ p ≤ 200000) (hs : 1 ≤ s ∧ s ≤ 8) : thread_form_lead.f p l r a b s h t = some (p * s) := by
  have := lead_bound hp hs
  unfold thread_form_lead.f
  rw [wrap64_id (by omega) (by omega)]
def adv (p s : Int) (h : Bool) (x : Int) : Int := if h then -(p * s * x) else p * s * x
theorem adv_bound {p s x : Int} {h : Bool} (hp : 100 ≤ p ∧ p ≤ 200000) (hs : 1 ≤ s ∧ s ≤ 8) (hx : -1000000000 ≤ x ∧ x ≤ 1000000000) : (-1600000000000000 ≤ p * s * x ∧ p * s * x ≤ 1600000000000000) ∧ -1600000000000000 ≤ adv p s h x ∧ adv p s h x ≤ 1600000000000000 := by
  have hb := lead_bound hp hs
  have := mulbs (x := p * s) (X := 1600000) (y := x) (Y := 1000000000) (by omega) (by omega) (by omega) (by omega)
  unfold adv
  split <;> omega
theorem advance_ev {p l r a b s : Int} {h : Bool} {t x : Int} : Ev (fun k => thread_Advance.f k p l r a b s h t x)
    (if Valid p l r a b s t then if -1000000000 ≤ x ∧ x ≤ 1000000000 then ((low (adv p s h x) 1000000).1, (low (adv p s h x) 1000000).2, 0) else (0, 0, 3) else (0, 0, 2)) := by
  unfold thread_Advance.f
  refine Ev.bind open_ev ?_
  by_cases hv : Valid p l r a b s t
  rotate_left
  · simp only [if_neg hv]; exact Ev.pure _
  simp only [if_pos hv, if_true]
  obtain ⟨hp, hl, hr, ha, hb, hab, hs, ht, hwa, hwb⟩ := hv
  simp only [within_eq1, Option.bind_some]
  by_cases h1 : -1000000000 ≤ x ∧ x ≤ 1000000000
  rotate_left
  · simp only [decide_eq_false h1, Bool.false_eq_true, if_false, if_neg h1]; exact Ev.pure _
  simp only [decide_eq_true h1, if_true, if_pos h1, lead_eq hp hs, Option.bind_some]
  have hA := adv_bound (h := h) hp hs h1
  cases h with
  | true =>
    simp only [if_true]
    rw [wrap64_id (x := -x) (by omega) (by omega), show p * s * -x = adv p s true x by simp [adv, Int.mul_neg], wrap64_id (by omega) (by omega)]
    exact Ev.bind (ratio_ev _ _ (by omega) (by omega) (by omega) (by omega)) (Ev.pure _)
  | false =>
    simp only [Bool.false_eq_true, if_false]
    rw [show p * s * x = adv p s false x by simp [adv], wrap64_id (by omega) (by omega)]
    exact Ev.bind (ratio_ev _ _ (by omega) (by omega) (by omega) (by omega)) (Ev.pure _)
theorem perInch_ev {p l r a b s : Int} {h : Bool} {t : Int} : Ev (fun k => thread_PerInch.f k p l r a b s h t)
    (if Valid p l r a b s t then ((low 254000 p).1, (low 254000 p).2, 0) else (0, 0, 2)) := by
  unfold thread_PerInch.f
  refine Ev.bind check_ev ?_
  by_cases hv : Valid p l r a b s t
  rotate_left
  · simp only [if_neg hv]; exact Ev.pure _
  simp only [if_pos hv, if_true]
  obtain ⟨hp, hl, hr, ha, hb, hab, hs, ht, hwa, hwb⟩ := hv
  exact Ev.bind (ratio_ev _ _ (by omega) (by omega) (by omega) (by omega)) (Ev.pure _)
theorem dia_bound {d x t : Int} (hd : 1 ≤ d ∧ d ≤ 10000000) (hx : 0 ≤ x ∧ x ≤ 10000000) (ht : 0 ≤ t ∧ t ≤ 100) : 0 ≤ 2 * x * t ∧ 2 * x * t ≤ 2000000000 := by
  have := mulb (x := 2 * x) (X := 20000000) (y := t) (Y := 100) (by omega) (by omega) (by omega) (by omega)
  omega
theorem diameter_ev {p l r a b s : Int} {h : Bool} {t d x : Int} : Ev (fun k => thread_Diameter.f k p l r a b s h t d x)
    (if Valid p l r a b s t then if (1 ≤ d ∧ d ≤ 10000000) ∧ (0 ≤ x ∧ x ≤ 10000000) then ((low (1000 * d + 2 * x * t) 1000).1, (low (1000 * d + 2 * x * t) 1000).2, 0) else (0, 0, 3) else (0, 0, 2)) := by
  unfold thread_Diameter.f
  refine Ev.bind check_ev ?_
  by_cases hv : Valid p l r a b s t
  rotate_left
  · simp only [if_neg hv]; exact Ev.pure _
  simp only [if_pos hv, if_true]
  obtain ⟨hp, hl, hr, ha, hb, hab, hs, ht, hwa, hwb⟩ := hv
  simp only [within_eq1, Option.bind_some]
  by_cases h1 : 1 ≤ d ∧ d ≤ 10000000
  rotate_left
  · simp only [decide_eq_false h1, Bool.false_eq_true, if_false, if_neg (fun q : (1 ≤ d ∧ d ≤ 10000000) ∧ (0 ≤ x ∧ x ≤ 10000000) => h1 q.1)]; exact Ev.pure _
  simp only [decide_eq_true h1, if_true]
  by_cases h2 : 0 ≤ x ∧ x ≤ 10000000
  rotate_left
  · simp only [decide_eq_false h2, Bool.false_eq_true, if_false, if_neg (fun q : (1 ≤ d ∧ d ≤ 10000000) ∧ (0 ≤ x ∧ x ≤ 10000000) => h2 q.2)]; exact Ev.pure _
  simp only [decide_eq_true h2, if_true, if_pos (show (1 ≤ d ∧ d ≤ 10000000) ∧ (0 ≤ x ∧ x ≤ 10000000) from ⟨h1, h2⟩)]
  have hB := dia_bound h1 h2 ht
  rw [wrap64_id (x := 2 * x) (by omega) (by omega), wrap64_id (x := 2 * x * t) (by omega) (by omega), wrap64_id (x := 1000 * d) (by omega) (by omega), wrap64_id (by omega) (by omega)]
  exact Ev.bind (ratio_ev _ _ (by omega) (by omega) (by omega) (by omega)) (Ev.pure _)
theorem taper_bound {p s t : Int} (hp : 100 ≤ p ∧ p ≤ 200000) (hs : 1 ≤ s ∧ s ≤ 8) (ht : 0 ≤ t ∧ t ≤ 100) : 0 ≤ t * (p * s) ∧ t * (p * s) ≤ 160000000 ∧ (t ≠ 0 → 0 < t * (p * s)) := by
  have h1 := lead_bound hp hs
  have h2 := mulb (x := t) (X := 100) (y := p * s) (Y := 1600000) (by omega) (by omega) (by omega) (by omega)
  exact ⟨h2.1, by omega, fun h => Int.mul_pos (by omega) (by omega)⟩
theorem meets_ev {p l r a b s : Int} {h : Bool} {t x y : Int} : Ev (fun k => thread_Meets.f k p l r a b s h t x y)
    (if Valid p l r a b s t then if ((1 ≤ x ∧ x ≤ 10000000) ∧ (1 ≤ y ∧ y ≤ 10000000)) ∧ x ≤ y then if t = 0 then (0, 0, 7) else ((low (500 * (y - x)) (t * (p * s))).1, (low (500 * (y - x)) (t * (p * s))).2, 0) else (0, 0, 3) else (0, 0, 2)) := by
  unfold thread_Meets.f
  refine Ev.bind open_ev ?_
  by_cases hv : Valid p l r a b s t
  rotate_left
  · simp only [if_neg hv]; exact Ev.pure _
  simp only [if_pos hv, if_true]
  obtain ⟨hp, hl, hr, ha, hb, hab, hs, ht, hwa, hwb⟩ := hv
  simp only [within_eq2, Option.bind_some]
  by_cases h1 : (1 ≤ x ∧ x ≤ 10000000) ∧ (1 ≤ y ∧ y ≤ 10000000)
  rotate_left
  · simp only [decide_eq_false h1, Bool.false_eq_true, if_false, Bool.not_false, if_neg (fun q : ((1 ≤ x ∧ x ≤ 10000000) ∧ (1 ≤ y ∧ y ≤ 10000000)) ∧ x ≤ y => h1 q.1)]
    exact Ev.succ (Ev.of fun k => by simp [thread_Meets.j0])
  simp only [decide_eq_true h1, if_true]
  refine Ev.succ ?_
  simp only [thread_Meets.j0]
  by_cases h2 : x > y
  · simp only [decide_eq_true h2, if_true, if_neg (fun q : ((1 ≤ x ∧ x ≤ 10000000) ∧ (1 ≤ y ∧ y ≤ 10000000)) ∧ x ≤ y => by omega)]; exact Ev.pure _
  simp only [decide_eq_false h2, Bool.false_eq_true, if_false, if_pos (show ((1 ≤ x ∧ x ≤ 10000000) ∧ (1 ≤ y ∧ y ≤ 10000000)) ∧ x ≤ y from ⟨h1, by omega⟩)]
  by_cases h3 : t = 0
  · simp only [if_pos h3]; exact Ev.pure _
  have hB := taper_bound hp hs ht
  have hB3 := hB.2.2 h3
  simp only [if_neg h3, lead_eq hp hs, Option.bind_some]
  rw [wrap64_id (x := y - x) (by omega) (by omega), wrap64_id (x := (y - x) * 1000) (by omega) (by omega), show ((y - x) * 1000).tdiv 2 = 500 * (y - x) from by rw [show (y - x) * 1000 = 2 * (500 * (y - x)) by omega]; exact Int.mul_tdiv_cancel_left _ (by omega), wrap64_id (x := 500 * (y - x)) (by omega) (by omega), wrap64_id (x := t * (p * s)) (by omega) (by omega)]
  exact Ev.bind (ratio_ev _ _ (by omega) (by omega) (by omega) (by omega)) (Ev.pure _)
end Go.Proofs.Yticbhgjenidjlaa.T
namespace Go.Proofs.Yticbhgjenidjlaa.T
open Go Go.RowKit Go.Proofs.Yticbhgjenidjlaa.Ab
set_option linter.unusedVariables false
set_option linter.unusedSimpArgs false
theorem pure_ThreadMoves (a0_0 : Int) (a0_1 : Int) (a0_2 : Int) (a0_3 : Int) (a0_4 : Int) (a0_5 : Int) (a0_6 : Bool) (a0_7 : Int) (a1_0 : Int) (a1_1 : Int) (a1_2 : Int) (a1_3 : Int) (a1_4 : Int) (w0_0 : (Lit.int .i64 a0_0).wf = true) (w0_1 : (Lit.int .i64 a0_1).wf = true) (w0_2 : (Lit.int .i64 a0_2).wf = true) (w0_3 : (Lit.int .i64 a0_3).wf = true) (w0_4 : (Lit.int .i64 a0_4).wf = true) (w0_5 : (Lit.int .i64 a0_5).wf = true) (w0_7 : (Lit.int .i64 a0_7).wf = true) (w1_0 : (Lit.int .i64 a1_0).wf = true) (w1_1 : (Lit.int .i64 a1_1).wf = true) (w1_2 : (Lit.int .i64 a1_2).wf = true) (w1_3 : (Lit.int .i64 a1_3).wf = true) (w1_4 : (Lit.int .i64 a1_4).wf = true) : ∃ k, acmelaw01_ThreadMoves.f k a0_0 a0_1 a0_2 a0_3 a0_4 a0_5 a0_6 a0_7 a1_0 a1_1 a1_2 a1_3 a1_4 = some true := by
  have A3 := wf64 w0_3
  have A4 := wf64 w0_4
  have B0 := wf64 w1_0
  have B1 := wf64 w1_1
  have B2 := wf64 w1_2
  have B3 := wf64 w1_3
  have B4 := wf64 w1_4
  refine Ev.ex ?_
  unfold acmelaw01_ThreadMoves.f
  refine Ev.bind (v := Value.bool true) ?_ (Ev.of fun _ => rfl)
  unfold acmelaw01_ThreadMoves.T
  refine Ev.bind advance_ev ?_
  refine Ev.bind perInch_ev ?_
  refine Ev.bind diameter_ev ?_
  refine Ev.bind meets_ev ?_
  refine Ev.bind (form_ev w0_3 w0_4) ?_
  have known : Ev (fun _ => (acmelaw01_known.f).bind fun t => (some (Value.bool t))) (.bool true) := Ev.pure _
  by_cases hv : Valid a0_0 a0_1 a0_2 a0_3 a0_4 a0_5 a0_7
  rotate_left
  · simp only [if_neg hv, decide_eq_false hv, Bool.not_false, cond_true, beq_self_eq_true, Bool.and_self]
    exact known
  have hv' := hv
  obtain ⟨hp, hl, hr, ha, hb, hab, hs, ht, hwa, hwb⟩ := hv'
  have e0 : ((0 : Int) != 0) = false := rfl
  have e3 : ((3 : Int) != 3) = false := rfl
  have tailM : ∀ r3 : Int × Int × Int, r3 = (if ((1 ≤ a1_3 ∧ a1_3 ≤ 10000000) ∧ (1 ≤ a1_4 ∧ a1_4 ≤ 10000000)) ∧ a1_3 ≤ a1_4 then if a0_7 = 0 then (0, 0, 7) else ((low (500 * (a1_4 - a1_3)) (a0_7 * (a0_0 * a0_5))).1, (low (500 * (a1_4 - a1_3)) (a0_7 * (a0_0 * a0_5))).2, 0) else (0, 0, 3)) →
      Ev (fun k => (bif decide (a1_3 < 1) then (bif r3.snd.snd == 3 then (bif r3.fst == 0 && r3.snd.fst == 0 then (acmelaw01_known.f).bind fun r8 => some (Value.bool (r8)) else some (Value.bool (false))) else some (Value.bool (false))) else (bif decide (a1_3 > a1_4) then (bif r3.snd.snd == 3 then (bif r3.fst == 0 && r3.snd.fst == 0 then (acmelaw01_known.f).bind fun r8 => some (Value.bool (r8)) else some (Value.bool (false))) else some (Value.bool (false))) else (bif decide (a1_4 > 10000000) then (bif r3.snd.snd == 3 then (bif r3.fst == 0 && r3.snd.fst == 0 then (acmelaw01_known.f).bind fun r8 => some (Value.bool (r8)) else some (Value.bool (false))) else some (Value.bool (false))) else (bif a0_7 == 0 then (bif r3.snd.snd == 7 then (bif r3.fst == 0 && r3.snd.fst == 0 then (acmelaw01_known.f).bind fun r8 => some (Value.bool (r8)) else some (Value.bool (false))) else some (Value.bool (false))) else (bif r3.snd.snd == 0 then (acmeref01_Lowest.f k (IntKind.i64.wrap (500 * IntKind.i64.wrap (a1_4 - a1_3))) (IntKind.i64.wrap (IntKind.i64.wrap (a0_7 * a0_0) * a0_5))).bind fun r8 => (bif r3.fst == r8.fst && r3.snd.fst == r8.snd then (acmelaw01_known.f).bind fun r9 => some (Value.bool (r9)) else some (Value.bool (false))) else some (Value.bool (false)))))))) (.bool true) := by
    intro r3 h3
    have hL := lead_bound hp hs
    have hB := taper_bound hp hs ht
    by_cases c1 : a1_3 < 1
    · rw [if_neg (by omega)] at h3
      subst h3
      simp only [decide_eq_true c1, cond_true, beq_self_eq_true, Bool.and_self]
      exact known
    by_cases c2 : a1_3 > a1_4
    · rw [if_neg (by omega)] at h3
      subst h3
      simp only [decide_eq_false c1, decide_eq_true c2, cond_true, cond_false, beq_self_eq_true, Bool.and_self]
      exact known
    by_cases c3 : a1_4 > 10000000
    · rw [if_neg (by omega)] at h3
      subst h3
      simp only [decide_eq_false c1, decide_eq_false c2, decide_eq_true c3, cond_true, cond_false, beq_self_eq_true, Bool.and_self]
      exact known
    rw [if_pos (by omega)] at h3
    by_cases c4 : a0_7 = 0
    · rw [if_pos c4] at h3
      subst h3
      simp only [decide_eq_false c1, decide_eq_false c2, decide_eq_false c3, beq_iff_eq.mpr c4, cond_true, cond_false, beq_self_eq_true, Bool.and_self]
      exact known
    rw [if_neg c4] at h3
    subst h3
    have hB3 := hB.2.2 c4
    have hz : 0 ≤ a0_7 * a0_0 ∧ a0_7 * a0_0 ≤ 100 * 200000 := mulb (x := a0_7) (X := 100) (y := a0_0) (Y := 200000) (by omega) (by omega) (by omega) (by omega)
    simp only [decide_eq_false c1, decide_eq_false c2, decide_eq_false c3, beq_eq_false_iff_ne.mpr c4, cond_true, cond_false, beq_self_eq_true, i64_wrap]
    rw [wrap64_id (x := a1_4 - a1_3) (by omega) (by omega), wrap64_id (x := 500 * (a1_4 - a1_3)) (by omega) (by omega), wrap64_id (x := a0_7 * a0_0) (by omega) (by omega), Int.mul_assoc a0_7 a0_0 a0_5, wrap64_id (x := a0_7 * (a0_0 * a0_5)) (by omega) (by omega)]
    refine Ev.bind (lowest_ev _ _ (by omega) (by omega) (by omega) (by omega)) ?_
    simp only [beq_self_eq_true, Bool.and_self, cond_true]
    exact known
  have tailD : ∀ r2 r3 : Int × Int × Int, r3 = (if ((1 ≤ a1_3 ∧ a1_3 ≤ 10000000) ∧ (1 ≤ a1_4 ∧ a1_4 ≤ 10000000)) ∧ a1_3 ≤ a1_4 then if a0_7 = 0 then (0, 0, 7) else ((low (500 * (a1_4 - a1_3)) (a0_7 * (a0_0 * a0_5))).1, (low (500 * (a1_4 - a1_3)) (a0_7 * (a0_0 * a0_5))).2, 0) else (0, 0, 3)) →
      r2 = (if (1 ≤ a1_1 ∧ a1_1 ≤ 10000000) ∧ (0 ≤ a1_2 ∧ a1_2 ≤ 10000000) then ((low (1000 * a1_1 + 2 * a1_2 * a0_7) 1000).1, (low (1000 * a1_1 + 2 * a1_2 * a0_7) 1000).2, 0) else (0, 0, 3)) →
      Ev (fun k => (bif decide (a1_1 ≥ 1) then (bif decide (a1_1 ≤ 10000000) then (bif decide (a1_2 ≥ 0) then (bif decide (a1_2 ≤ 10000000) then (bif r2.snd.snd != 0 then some (Value.bool (false)) else (acmeref01_Lowest.f k (IntKind.i64.wrap (IntKind.i64.wrap (1000 * a1_1) + IntKind.i64.wrap (IntKind.i64.wrap (2 * a1_2) * a0_7))) 1000).bind fun r7 => (bif !(r2.fst == r7.fst && r2.snd.fst == r7.snd) then some (Value.bool (false)) else (bif decide (a1_3 < 1) then (bif r3.snd.snd == 3 then (bif r3.fst == 0 && r3.snd.fst == 0 then (acmelaw01_known.f).bind fun r8 => some (Value.bool (r8)) else some (Value.bool (false))) else some (Value.bool (false))) else (bif decide (a1_3 > a1_4) then (bif r3.snd.snd == 3 then (bif r3.fst == 0 && r3.snd.fst == 0 then (acmelaw01_known.f).bind fun r8 => some (Value.bool (r8)) else some (Value.bool (false))) else some (Value.bool (false))) else (bif decide (a1_4 > 10000000) then (bif r3.snd.snd == 3 then (bif r3.fst == 0 && r3.snd.fst == 0 then (acmelaw01_known.f).bind fun r8 => some (Value.bool (r8)) else some (Value.bool (false))) else some (Value.bool (false))) else (bif a0_7 == 0 then (bif r3.snd.snd == 7 then (bif r3.fst == 0 && r3.snd.fst == 0 then (acmelaw01_known.f).bind fun r8 => some (Value.bool (r8)) else some (Value.bool (false))) else some (Value.bool (false))) else (bif r3.snd.snd == 0 then (acmeref01_Lowest.f k (IntKind.i64.wrap (500 * IntKind.i64.wrap (a1_4 - a1_3))) (IntKind.i64.wrap (IntKind.i64.wrap (a0_7 * a0_0) * a0_5))).bind fun r8 => (bif r3.fst == r8.fst && r3.snd.fst == r8.snd then (acmelaw01_known.f).bind fun r9 => some (Value.bool (r9)) else some (Value.bool (false))) else some (Value.bool (false))))))))) else (bif r2.snd.snd != 3 then some (Value.bool (false)) else (bif !(r2.fst == 0 && r2.snd.fst == 0) then some (Value.bool (false)) else (bif decide (a1_3 < 1) then (bif r3.snd.snd == 3 then (bif r3.fst == 0 && r3.snd.fst == 0 then (acmelaw01_known.f).bind fun r7 => some (Value.bool (r7)) else some (Value.bool (false))) else some (Value.bool (false))) else (bif decide (a1_3 > a1_4) then (bif r3.snd.snd == 3 then (bif r3.fst == 0 && r3.snd.fst == 0 then (acmelaw01_known.f).bind fun r7 => some (Value.bool (r7)) else some (Value.bool (false))) else some (Value.bool (false))) else (bif decide (a1_4 > 10000000) then (bif r3.snd.snd == 3 then (bif r3.fst == 0 && r3.snd.fst == 0 then (acmelaw01_known.f).bind fun r7 => some (Value.bool (r7)) else some (Value.bool (false))) else some (Value.bool (false))) else (bif a0_7 == 0 then (bif r3.snd.snd == 7 then (bif r3.fst == 0 && r3.snd.fst == 0 then (acmelaw01_known.f).bind fun r7 => some (Value.bool (r7)) else some (Value.bool (false))) else some (Value.bool (false))) else (bif r3.snd.snd == 0 then (acmeref01_Lowest.f k (IntKind.i64.wrap (500 * IntKind.i64.wrap (a1_4 - a1_3))) (IntKind.i64.wrap (IntKind.i64.wrap (a0_7 * a0_0) * a0_5))).bind fun r7 => (bif r3.fst == r7.fst && r3.snd.fst == r7.snd then (acmelaw01_known.f).bind fun r8 => some (Value.bool (r8)) else some (Value.bool (false))) else some (Value.bool (false)))))))))) else (bif r2.snd.snd != 3 then some (Value.bool (false)) else (bif !(r2.fst == 0 && r2.snd.fst == 0) then some (Value.bool (false)) else (bif decide (a1_3 < 1) then (bif r3.snd.snd == 3 then (bif r3.fst == 0 && r3.snd.fst == 0 then (acmelaw01_known.f).bind fun r7 => some (Value.bool (r7)) else some (Value.bool (false))) else some (Value.bool (false))) else (bif decide (a1_3 > a1_4) then (bif r3.snd.snd == 3 then (bif r3.fst == 0 && r3.snd.fst == 0 then (acmelaw01_known.f).bind fun r7 => some (Value.bool (r7)) else some (Value.bool (false))) else some (Value.bool (false))) else (bif decide (a1_4 > 10000000) then (bif r3.snd.snd == 3 then (bif r3.fst == 0 && r3.snd.fst == 0 then (acmelaw01_known.f).bind fun r7 => some (Value.bool (r7)) else some (Value.bool (false))) else some (Value.bool (false))) else (bif a0_7 == 0 then (bif r3.snd.snd == 7 then (bif r3.fst == 0 && r3.snd.fst == 0 then (acmelaw01_known.f).bind fun r7 => some (Value.bool (r7)) else some (Value.bool (false))) else some (Value.bool (false))) else (bif r3.snd.snd == 0 then (acmeref01_Lowest.f k (IntKind.i64.wrap (500 * IntKind.i64.wrap (a1_4 - a1_3))) (IntKind.i64.wrap (IntKind.i64.wrap (a0_7 * a0_0) * a0_5))).bind fun r7 => (bif r3.fst == r7.fst && r3.snd.fst == r7.snd then (acmelaw01_known.f).bind fun r8 => some (Value.bool (r8)) else some (Value.bool (false))) else some (Value.bool (false)))))))))) else (bif r2.snd.snd != 3 then some (Value.bool (false)) else (bif !(r2.fst == 0 && r2.snd.fst == 0) then some (Value.bool (false)) else (bif decide (a1_3 < 1) then (bif r3.snd.snd == 3 then (bif r3.fst == 0 && r3.snd.fst == 0 then (acmelaw01_known.f).bind fun r7 => some (Value.bool (r7)) else some (Value.bool (false))) else some (Value.bool (false))) else (bif decide (a1_3 > a1_4) then (bif r3.snd.snd == 3 then (bif r3.fst == 0 && r3.snd.fst == 0 then (acmelaw01_known.f).bind fun r7 => some (Value.bool (r7)) else some (Value.bool (false))) else some (Value.bool (false))) else (bif decide (a1_4 > 10000000) then (bif r3.snd.snd == 3 then (bif r3.fst == 0 && r3.snd.fst == 0 then (acmelaw01_known.f).bind fun r7 => some (Value.bool (r7)) else some (Value.bool (false))) else some (Value.bool (false))) else (bif a0_7 == 0 then (bif r3.snd.snd == 7 then (bif r3.fst == 0 && r3.snd.fst == 0 then (acmelaw01_known.f).bind fun r7 => some (Value.bool (r7)) else some (Value.bool (false))) else some (Value.bool (false))) else (bif r3.snd.snd == 0 then (acmeref01_Lowest.f k (IntKind.i64.wrap (500 * IntKind.i64.wrap (a1_4 - a1_3))) (IntKind.i64.wrap (IntKind.i64.wrap (a0_7 * a0_0) * a0_5))).bind fun r7 => (bif r3.fst == r7.fst && r3.snd.fst == r7.snd then (acmelaw01_known.f).bind fun r8 => some (Value.bool (r8)) else some (Value.bool (false))) else some (Value.bool (false)))))))))) else (bif r2.snd.snd != 3 then some (Value.bool (false)) else (bif !(r2.fst == 0 && r2.snd.fst == 0) then some (Value.bool (false)) else (bif decide (a1_3 < 1) then (bif r3.snd.snd == 3 then (bif r3.fst == 0 && r3.snd.fst == 0 then (acmelaw01_known.f).bind fun r7 => some (Value.bool (r7)) else some (Value.bool (false))) else some (Value.bool (false))) else (bif decide (a1_3 > a1_4) then (bif r3.snd.snd == 3 then (bif r3.fst == 0 && r3.snd.fst == 0 then (acmelaw01_known.f).bind fun r7 => some (Value.bool (r7)) else some (Value.bool (false))) else some (Value.bool (false))) else (bif decide (a1_4 > 10000000) then (bif r3.snd.snd == 3 then (bif r3.fst == 0 && r3.snd.fst == 0 then (acmelaw01_known.f).bind fun r7 => some (Value.bool (r7)) else some (Value.bool (false))) else some (Value.bool (false))) else (bif a0_7 == 0 then (bif r3.snd.snd == 7 then (bif r3.fst == 0 && r3.snd.fst == 0 then (acmelaw01_known.f).bind fun r7 => some (Value.bool (r7)) else some (Value.bool (false))) else some (Value.bool (false))) else (bif r3.snd.snd == 0 then (acmeref01_Lowest.f k (IntKind.i64.wrap (500 * IntKind.i64.wrap (a1_4 - a1_3))) (IntKind.i64.wrap (IntKind.i64.wrap (a0_7 * a0_0) * a0_5))).bind fun r7 => (bif r3.fst == r7.fst && r3.snd.fst == r7.snd then (acmelaw01_known.f).bind fun r8 => some (Value.bool (r8)) else some (Value.bool (false))) else some (Value.bool (false))))))))))) (.bool true) := by
    intro r2 r3 h3 h2
    have tM := tailM r3 h3
    by_cases c1 : a1_1 ≥ 1
    rotate_left
    · rw [if_neg (by omega)] at h2
      subst h2
      simp only [decide_eq_false c1, cond_true, cond_false, beq_self_eq_true, Bool.and_self, Bool.not_true, e3]
      exact tM
    by_cases c2 : a1_1 ≤ 10000000
    rotate_left
    · rw [if_neg (by omega)] at h2
      subst h2
      simp only [decide_eq_true c1, decide_eq_false c2, cond_true, cond_false, beq_self_eq_true, Bool.and_self, Bool.not_true, e3]
      exact tM
    by_cases c3 : a1_2 ≥ 0
    rotate_left
    · rw [if_neg (by omega)] at h2
      subst h2
      simp only [decide_eq_true c1, decide_eq_true c2, decide_eq_false c3, cond_true, cond_false, beq_self_eq_true, Bool.and_self, Bool.not_true, e3]
      exact tM
    by_cases c4 : a1_2 ≤ 10000000
    rotate_left
    · rw [if_neg (by omega)] at h2
      subst h2
      simp only [decide_eq_true c1, decide_eq_true c2, decide_eq_true c3, decide_eq_false c4, cond_true, cond_false, beq_self_eq_true, Bool.and_self, Bool.not_true, e3]
      exact tM
    rw [if_pos (by omega)] at h2
    subst h2
    have hB := dia_bound (d := a1_1) (x := a1_2) (t := a0_7) (by omega) (by omega) ht
    simp only [decide_eq_true c1, decide_eq_true c2, decide_eq_true c3, decide_eq_true c4, cond_true, cond_false, e0, i64_wrap] at tM ⊢
    rw [wrap64_id (x := 2 * a1_2) (by omega) (by omega), wrap64_id (x := 2 * a1_2 * a0_7) (by omega) (by omega), wrap64_id (x := 1000 * a1_1) (by omega) (by omega), wrap64_id (x := 1000 * a1_1 + 2 * a1_2 * a0_7) (by omega) (by omega)]
    refine Ev.bind (lowest_ev _ 1000 (by omega) (by omega) (by omega) (by omega)) ?_
    simp only [beq_self_eq_true, Bool.and_self, Bool.not_true, cond_false]
    exact tM
  simp only [if_pos hv, decide_eq_true hv, Bool.not_true, cond_false, e0]
  refine Ev.bind (lowest_ev 254000 a0_0 (by omega) (by omega) (by omega) (by omega)) ?_
  simp only [beq_self_eq_true, Bool.and_self, Bool.not_true, cond_false]
  have tD := tailD _ _ rfl rfl
  by_cases c1 : a1_0 ≥ -1000000000
  rotate_left
  · simp only [decide_eq_false c1, if_neg (fun q : -1000000000 ≤ a1_0 ∧ a1_0 ≤ 1000000000 => c1 q.1), cond_true, cond_false, beq_self_eq_true, Bool.and_self, Bool.not_true, e3]
    exact tD
  by_cases c2 : a1_0 ≤ 1000000000
  rotate_left
  · simp only [decide_eq_true c1, decide_eq_false c2, if_neg (fun q : -1000000000 ≤ a1_0 ∧ a1_0 ≤ 1000000000 => c2 q.2), cond_true, cond_false, beq_self_eq_true, Bool.and_self, Bool.not_true, e3]
    exact tD
  have hA := adv_bound (h := a0_6) hp hs ⟨c1, c2⟩
  have hL := lead_bound hp hs
  simp only [decide_eq_true c1, decide_eq_true c2, if_pos (show -1000000000 ≤ a1_0 ∧ a1_0 ≤ 1000000000 from ⟨c1, c2⟩), cond_true, cond_false, e0]
  cases a0_6 with
  | true =>
    simp only [cond_true]
    rw [show IntKind.i64.wrap (0 - IntKind.i64.wrap (IntKind.i64.wrap (a0_0 * a0_5) * a1_0)) = adv a0_0 a0_5 true a1_0 from by
      rw [i64_wrap, i64_wrap, i64_wrap, wrap64_id (x := a0_0 * a0_5) (by omega) (by omega), wrap64_id (x := a0_0 * a0_5 * a1_0) (by omega) (by omega), wrap64_id (by omega) (by omega)]; simp [adv]]
    refine Ev.bind (lowest_ev _ 1000000 (by omega) (by omega) (by omega) (by omega)) ?_
    simp only [beq_self_eq_true, Bool.and_self, Bool.not_true, cond_false]
    exact tD
  | false =>
    simp only [cond_false]
    rw [show IntKind.i64.wrap (IntKind.i64.wrap (a0_0 * a0_5) * a1_0) = adv a0_0 a0_5 false a1_0 from by
      rw [i64_wrap, i64_wrap, wrap64_id (x := a0_0 * a0_5) (by omega) (by omega), wrap64_id (by omega) (by omega)]; simp [adv]]
    refine Ev.bind (lowest_ev _ 1000000 (by omega) (by omega) (by omega) (by omega)) ?_
    simp only [beq_self_eq_true, Bool.and_self, Bool.not_true, cond_false]
    exact tD
end Go.Proofs.Yticbhgjenidjlaa.T
namespace Go.Proofs.Yticbhgjenidjlaa.threadMoves
open Go.ChangeShapes Go.WideShapes Go.ChangeAt Go.RowKit Go.Proofs.Yticbhgjenidjlaa.T
open Go.ChangeMaps (open_string shut_string)
set_option linter.unusedVariables false
theorem own : ownKnob Try.prog.godebug = none := by kernel_rfl
theorem laidOut : laidOutB Try.prog = true := by kernel_rfl
set_option maxRecDepth 100000 in
theorem lifted (os : Os) (started : os.Started) (H : Type) (enc : TypeId × Value → H) :
    ReturnsInHanded {} Try.checked os 5 .any (Rows.threadMovesSpec.pre6 enc Try.prog Try.f5 Rows.threadMovesRow.domain false) (Rows.threadMovesSpec.post enc Try.prog Try.f5 false true false false) := by
  refine returnsInHanded_of_change_sized (C := Try.checked) own started (by kernel_rfl) Try.func5
    (ChangeSpec.witness6 (enc := enc) (C := Try.checked) false ⟨#[], #[.agg #[.int .i64 0, .int .i64 0, .int .i64 0, .int .i64 0, .int .i64 0, .int .i64 0, .bool false, .int .i64 0], .agg #[.int .i64 0, .int .i64 0, .int .i64 0, .int .i64 0, .int .i64 0]], []⟩ 8 (by kernel_rfl) (by kernel_rfl) (by kernel_rfl) (by kernel_rfl)) ?_
  intro W base args ds gs before hval0 hW hcnd hsz0 _
  have hval : ∀ (j : Nat) t v, Try.f5.params[j]? = some t → args[j]? = some v → Value.okWide Try.prog W .any base t v := hval0
  have hW' := hW
  obtain ⟨p, q, hA0, hV, rfl, hfz, hnd⟩ := hW
  have hA : DataW.TrodAll enc Try.prog W 0 (fun _ => true) true Try.f5.params.toList args.toList ds p := hA0
  rw [Try.params5] at hA hval
  obtain ⟨v0, vs0, d0, ds0, p0, q0, hargs, rfl, rfl, h0, r0⟩ := trodAll_cons hA
  obtain ⟨v1, vs1, d1, ds1, p1, q1, rfl, rfl, rfl, h1, r1⟩ := trodAll_cons r0
  obtain ⟨rfl, rfl, rfl⟩ := trodAll_nil r1
  obtain rfl : args = #[v0, v1] := by cases args; simp_all
  obtain ⟨rfl, rfl⟩ := trodVars_none hV
  have k0 := h0
  have lt0 : ∀ x ∈ p0, x.block < W.heap.size := by obtain ⟨m, hm⟩ := k0; exact DataW.trod_lt m _ _ _ hm
  obtain ⟨fuel0, hf0⟩ := h0
  obtain ⟨a0_0, a0_1, a0_2, a0_3, a0_4, a0_5, a0_6, a0_7, e0, w0_0, w0_1, w0_2, w0_3, w0_4, w0_5, w0_7⟩ := open23 hf0
  obtain rfl : v0 = .agg #[.int .i64 a0_0, .int .i64 a0_1, .int .i64 a0_2, .int .i64 a0_3, .int .i64 a0_4, .int .i64 a0_5, .bool a0_6, .int .i64 a0_7] := agg_of_cells e0 (by simp)
  have k1 := h1
  have lt1 : ∀ x ∈ p1, x.block < W.heap.size := by obtain ⟨m, hm⟩ := k1; exact DataW.trod_lt m _ _ _ hm
  obtain ⟨fuel1, hf1⟩ := h1
  obtain ⟨a1_0, a1_1, a1_2, a1_3, a1_4, e1, w1_0, w1_1, w1_2, w1_3, w1_4⟩ := open40 hf1
  obtain rfl : v1 = .agg #[.int .i64 a1_0, .int .i64 a1_1, .int .i64 a1_2, .int .i64 a1_3, .int .i64 a1_4] := agg_of_cells e1 (by simp)
  clear hA0 hval0 hsz0
  obtain ⟨k, hk⟩ := pure_ThreadMoves a0_0 a0_1 a0_2 a0_3 a0_4 a0_5 a0_6 a0_7 a1_0 a1_1 a1_2 a1_3 a1_4 w0_0 w0_1 w0_2 w0_3 w0_4 w0_5 w0_7 w1_0 w1_1 w1_2 w1_3 w1_4
  refine (acmelaw01_ThreadMoves.calls k a0_0 a0_1 a0_2 a0_3 a0_4 a0_5 a0_6 a0_7 a1_0 a1_1 a1_2 a1_3 a1_4 true W  hk).mono fun e W' ⟨he, bel⟩ => ?_
  subst he
  exact ⟨_, rfl, _, _, _, [], _, [], hW', trodAll_mk1 (shut_bool Try.underlying4 _), (trodAll_cons_mk (Below.trod laidOut (by kernel_rfl) (of_decide_eq_true (by kernel_rfl)) k0 bel lt0) (trodAll_cons_mk (Below.trod laidOut (by kernel_rfl) (of_decide_eq_true (by kernel_rfl)) k1 bel lt1) trodAll_mk0)), rfl, bel.frame _, fun h => by cases h⟩
theorem over : Rows.threadMovesRow.holds Try.pinned (OpenSpec.ofChange Rows.threadMovesSpec) :=
  OpenClaim.holds_of_wide 5 Try.f5 rfl rfl rfl rfl rfl rfl rfl ⟨rfl, rfl, rfl, rfl, rfl⟩ rfl rfl rfl rfl rfl (by kernel_rfl) Try.func5 (by kernel_rfl)
    (of_decide_eq_true (by kernel_rfl)) (by unfold Func.isWrapper; first | (rw [if_pos (by decide +kernel)]; kernel_rfl) | (rw [if_neg (by decide +kernel)]; exact ⟨rfl, rfl⟩))
    (fun os started H enc _ => lifted os started H enc)
theorem proved : Rows.ThreadMovesSaid := over
end Go.Proofs.Yticbhgjenidjlaa.threadMoves
namespace Go.Proofs.Yticbhgjenidjlaa
theorem threadMoves_holds : Rows.ThreadMovesSaid := threadMoves.proved
end Go.Proofs.Yticbhgjenidjlaa
