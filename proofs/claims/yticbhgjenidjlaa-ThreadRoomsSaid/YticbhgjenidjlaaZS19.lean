-- cut down, squeezed and laid together by pack.py (a program of this repository) out of this seat's texts
import Derived.KernelRfl
import Derived.ChangeKeysEq
import Derived.Below
import Derived.Deep.Draws
import Derived.Deep.AppendLies
import Derived.Maps.AppendAt
import Derived.OwnWalk
import Derived.Laws.BytesArg
import Derived.Laws.MakeOwn
import Derived.Laws.OwnMore
import Derived.Deep.OwnRows
import Derived.Tactics
import Derived.Lib.ConvBytes
import Derived.Laws.Slices
import Derived.WalkKit
import Derived.RowKit3
import Derived.Deep.LoopGhost
import Derived.Deep.QuietTactic
import Derived.BigQuiet
import Derived.WideLaws
import Derived.Deep.DeepCutAuto
import Derived.Deep.CutBlock
import Derived.Deep.RegionHeld3
import Derived.Laws.Rows
import Derived.Lib.AppendStr
import Derived.ArgAppend
import Derived.Laws.IdiomCopy
import Derived.OrdersHeld
import Derived.Laws.BitsLemmas
import Derived.RowKit
import Derived.Test.YticbhgjenidjlaaProg
import Derived.Laws.StructEq
import Derived.ProofKit
import Derived.OpenShut
import Derived.ShutString
import Derived.ChangeOld
import Derived.SizedLaws
import Derived.Carry
import Derived.Test.YticbhgjenidjlaaRows
import Derived.Test.YticbhgjenidjlaaZS9
import Derived.Test.YticbhgjenidjlaaZS3
import Derived.Test.YticbhgjenidjlaaZS18
import Derived.Test.YticbhgjenidjlaaZS14
import Derived.Test.YticbhgjenidjlaaZS8
import Derived.Test.YticbhgjenidjlaaZS7
import Derived.Test.YticbhgjenidjlaaZS4
import Derived.Test.YticbhgjenidjlaaZS6
import Derived.Test.YticbhgjenidjlaaZS5
import Derived.Test.YticbhgjenidjlaaZS2
import Derived.Test.YticbhgjenidjlaaZS10
import Derived.Test.YticbhgjenidjlaaZS11
import Derived.Test.YticbhgjenidjlaaZS12
import Derived.Test.YticbhgjenidjlaaZS13
import Derived.Test.YticbhgjenidjlaaZS1
import Derived.Test.YticbhgjenidjlaaZS17
import Derived.Test.YticbhgjenidjlaaZS16
import Derived.Test.YticbhgjenidjlaaZS15
namespace Go.Proofs.Yticbhgjenidjlaa.T
open Go.RowKit Go.Proofs.YticbhgjenidjlaaW.PrintWords Go.Proofs.YticbhgjenidjlaaW.PrintLast
set_option linter.unusedVariables false
set_option linter.unusedSimpArgs false

def Valid (p l r a b s t : Int) : Prop :=
  (100 ≤ p ∧ p ≤ 200000) ∧ (0 ≤ l ∧ l ≤ 3000) ∧ (0 ≤ r ∧ r ≤ 3000) ∧ (0 ≤ a ∧ a ≤ 200000) ∧ (0 ≤ b ∧ b ≤ 200000) ∧ 1 ≤ a + b ∧ (1 ≤ s ∧ s ≤ 8) ∧ (0 ≤ t ∧ t ≤ 100) ∧ 0 ≤ 1000 * p - 2 * a * (l + r) ∧ 0 ≤ 1000 * p - 2 * b * (l + r)
instance (p l r a b s t : Int) : Decidable (Valid p l r a b s t) := by unfold Valid; infer_instance
def wid (p l r y : Int) : Int := 1000 * p - 2 * y * (l + r)
theorem wid_bound {p l r y : Int} (hp : 0 ≤ p ∧ p ≤ 200000) (hl : 0 ≤ l ∧ l ≤ 3000) (hr : 0 ≤ r ∧ r ≤ 3000) (hy : -200000 ≤ y ∧ y ≤ 200000) :
    (-1200000000 ≤ y * (l + r) ∧ y * (l + r) ≤ 1200000000) ∧ -3000000000 ≤ wid p l r y ∧ wid p l r y ≤ 3000000000 := by
  have h := mulbs (x := y) (X := 200000) (y := l + r) (Y := 6000) (by omega) (by omega) (by omega) (by omega)
  unfold wid
  rw [Int.mul_assoc]
  omega
theorem width_eq {p l r a b s : Int} {h : Bool} {t y : Int} (hp : 0 ≤ p ∧ p ≤ 200000) (hl : 0 ≤ l ∧ l ≤ 3000) (hr : 0 ≤ r ∧ r ≤ 3000) (hy : -200000 ≤ y ∧ y ≤ 200000) :
    thread_form_width.f p l r a b s h t y = some (wid p l r y) ∧ acmeref01_Width.f p l r a b s h t y = some (wid p l r y) := by
  have hb := wid_bound hp hl hr hy
  unfold wid at *
  rw [Int.mul_assoc] at *
  unfold thread_form_width.f thread_form_leans.f acmeref01_Width.f
  simp only [Option.bind_some]
  rw [wrap64_id (x := l + r) (by omega) (by omega), wrap64_id (x := 2 * y) (by omega) (by omega), wrap64_id (x := 1000 * p) (by omega) (by omega)]
  rw [Int.mul_assoc, wrap64_id (x := 2 * (y * (l + r))) (by omega) (by omega), wrap64_id (by omega) (by omega)]
  exact ⟨rfl, rfl⟩
theorem in_eq (x lo hi : Int) : acmeref01_In.f x lo hi = some (decide (lo ≤ x ∧ x ≤ hi)) := by
  unfold acmeref01_In.f
  by_cases h : x ≥ lo
  · rw [if_pos h]; simp [show lo ≤ x from h]
  · rw [if_neg h]; simp; omega
theorem within_eq1 (lo hi x : Int) : thread_within.f lo hi [x] = some (decide (lo ≤ x ∧ x ≤ hi)) := by
  unfold thread_within.f
  congr 1
  rw [Bool.eq_iff_iff]
  simp [outside]
theorem within_eq2 (lo hi x y : Int) : thread_within.f lo hi [x, y] = some (decide ((lo ≤ x ∧ x ≤ hi) ∧ (lo ≤ y ∧ y ≤ hi))) := by
  unfold thread_within.f
  congr 1
  rw [Bool.eq_iff_iff]
  simp [outside]

theorem check_ev {p l r a b s : Int} {h : Bool} {t : Int} : Ev (fun k => thread_Check.f k p l r a b s h t) (if Valid p l r a b s t then 0 else 2) := by
  refine ⟨2, fun k hk => ?_⟩
  obtain ⟨k, rfl⟩ : ∃ j, k = j + 2 := ⟨k - 2, by omega⟩
  have bad : ∀ {q1 q2 q3 q4 q5 q6 q7 q8 q9 q10 q11 q12 q13 q14 : Int} {g1 g2 : Bool}, ¬ Valid p l r a b s t → ∀ b0 : Bool, b0 = false → thread_Check.j0 (k + 2) b0 q1 q2 q3 q4 q5 q6 g1 q7 q8 q9 q10 q11 q12 q13 g2 q14 = some (if Valid p l r a b s t then 0 else 2) := by
    intro q1 q2 q3 q4 q5 q6 q7 q8 q9 q10 q11 q12 q13 q14 g1 g2 hv b0 hb
    rw [if_neg hv, hb]; simp [thread_Check.j0, thread_Check.j1]
  simp only [thread_Check.f, within_eq1, within_eq2, Option.bind_some]
  by_cases h1 : 100 ≤ p ∧ p ≤ 200000
  rotate_left
  · rw [if_neg (by simpa using h1)]
    exact bad (fun hv => h1 hv.1) _ rfl
  rw [if_pos (by simpa using h1)]
  by_cases h2 : (0 ≤ l ∧ l ≤ 3000) ∧ (0 ≤ r ∧ r ≤ 3000)
  rotate_left
  · rw [if_neg (by simpa using h2)]
    exact bad (fun hv => h2 ⟨hv.2.1, hv.2.2.1⟩) _ rfl
  rw [if_pos (by simpa using h2)]
  by_cases h3 : (0 ≤ a ∧ a ≤ 200000) ∧ (0 ≤ b ∧ b ≤ 200000)
  rotate_left
  · rw [if_neg (by simpa using h3)]
    exact bad (fun hv => h3 ⟨hv.2.2.2.1, hv.2.2.2.2.1⟩) _ rfl
  rw [if_pos (by simpa using h3), wrap64_id (by omega) (by omega)]
  by_cases h4 : 1 ≤ a + b
  rotate_left
  · exact bad (fun hv => h4 hv.2.2.2.2.2.1) _ (by simp; omega)
  rw [decide_eq_true (show a + b ≥ 1 from h4)]
  have b1 : ∀ {q1 q2 q3 q4 q5 q6 q7 q8 q9 q10 q11 q12 q13 q14 : Int} {g1 g2 : Bool}, ¬ Valid p l r a b s t → ∀ b0 : Bool, b0 = true → thread_Check.j1 (k + 1) b0 q1 q2 q3 q4 q5 q6 g1 q7 q8 q9 q10 q11 q12 q13 g2 q14 = some (if Valid p l r a b s t then 0 else 2) := by
    intro q1 q2 q3 q4 q5 q6 q7 q8 q9 q10 q11 q12 q13 q14 g1 g2 hv b0 hb
    rw [if_neg hv, hb]; simp [thread_Check.j1]
  simp only [thread_Check.j0, if_true, within_eq1, Option.bind_some]
  by_cases h5 : 1 ≤ s ∧ s ≤ 8
  rotate_left
  · rw [if_neg (by simpa using h5)]
    exact b1 (fun hv => h5 hv.2.2.2.2.2.2.1) _ rfl
  rw [if_pos (by simpa using h5)]
  by_cases h6 : 0 ≤ t ∧ t ≤ 100
  rotate_left
  · exact b1 (fun hv => h6 hv.2.2.2.2.2.2.2.1) _ (by simp; omega)
  rw [decide_eq_true h6]
  have wa := (width_eq (a := a) (b := b) (s := s) (h := h) (t := t) (y := a) (by omega) h2.1 h2.2 (p := p) (by omega)).1
  have wb := (width_eq (a := a) (b := b) (s := s) (h := h) (t := t) (y := b) (by omega) h2.1 h2.2 (p := p) (by omega)).1
  simp only [thread_Check.j1, Bool.not_true, Bool.false_eq_true, if_false, wa, wb, Option.bind_some]
  by_cases h7 : wid p l r a < 0
  · rw [if_pos h7, if_neg]; intro hv; unfold wid at h7; unfold Valid at hv; omega
  · rw [if_neg h7]
    by_cases h8 : wid p l r b < 0
    · rw [if_pos h8, if_neg]; intro hv; unfold wid at h8; unfold Valid at hv; omega
    · rw [if_neg h8, if_pos]
      unfold wid at h7 h8; exact ⟨h1, h2.1, h2.2, h3.1, h3.2, h4, h5, h6, by omega, by omega⟩

theorem form_ev {p l r a b s : Int} {h : Bool} {t : Int} (wa : (Lit.int .i64 a).wf = true) (wb : (Lit.int .i64 b).wf = true) : Ev (fun k => acmeref01_Form.f k p l r a b s h t) (decide (Valid p l r a b s t)) := by
  refine ⟨1, fun k hk => ?_⟩
  obtain ⟨k, rfl⟩ : ∃ j, k = j + 1 := ⟨k - 1, by omega⟩
  have bad : ∀ b0 : Bool, b0 = true → ¬ Valid p l r a b s t → acmeref01_Form.j0 (k + 1) b0 p l r a b s h t = some (decide (Valid p l r a b s t)) := by
    intro b0 hb hv
    rw [decide_eq_false hv, hb]; simp [acmeref01_Form.j0]
  simp only [acmeref01_Form.f, in_eq, Option.bind_some]
  by_cases h1 : 100 ≤ p ∧ p ≤ 200000
  rotate_left
  · rw [if_neg (by simpa using h1)]
    exact bad _ rfl (fun hv => h1 hv.1)
  rw [if_pos (by simpa using h1)]
  by_cases h2 : 0 ≤ l ∧ l ≤ 3000
  rotate_left
  · rw [if_neg (by simpa using h2)]
    exact bad _ rfl (fun hv => h2 hv.2.1)
  rw [if_pos (by simpa using h2)]
  by_cases h3 : 0 ≤ r ∧ r ≤ 3000
  rotate_left
  · rw [if_neg (by simpa using h3)]
    exact bad _ rfl (fun hv => h3 hv.2.2.1)
  rw [if_pos (by simpa using h3)]
  by_cases h4 : 0 ≤ a ∧ a ≤ 200000
  rotate_left
  · rw [if_neg (by simpa using h4)]
    exact bad _ rfl (fun hv => h4 hv.2.2.2.1)
  rw [if_pos (by simpa using h4)]
  by_cases h5 : 0 ≤ b ∧ b ≤ 200000
  rotate_left
  · rw [if_neg (by simpa using h5)]
    exact bad _ rfl (fun hv => h5 hv.2.2.2.2.1)
  rw [if_pos (by simpa using h5), wrap64_id (x := a + b) (by omega) (by omega)]
  by_cases h6 : a + b = 0
  · rw [if_pos h6]
    exact bad _ rfl (fun hv => by have := hv.2.2.2.2.2.1; omega)
  rw [if_neg h6]
  by_cases h7 : 1 ≤ s ∧ s ≤ 8
  rotate_left
  · rw [if_neg (by simpa using h7)]
    exact bad _ rfl (fun hv => h7 hv.2.2.2.2.2.2.1)
  rw [if_pos (by simpa using h7)]
  by_cases h8 : 0 ≤ t ∧ t ≤ 100
  rotate_left
  · exact bad _ (by simp; omega) (fun hv => h8 hv.2.2.2.2.2.2.2.1)
  rw [decide_eq_true h8]
  have wa := (width_eq (a := a) (b := b) (s := s) (h := h) (t := t) (y := a) (by omega) h2 h3 (p := p) (by omega)).2
  have wb := (width_eq (a := a) (b := b) (s := s) (h := h) (t := t) (y := -b) (by omega) h2 h3 (p := p) (by omega)).2
  simp only [acmeref01_Form.j0, Bool.not_true, Bool.false_eq_true, if_false, wa, wb, Option.bind_some, wrap64_id (x := -b) (by omega) (by omega), wrap64_id (x := 2000 * p) (by omega) (by omega)]
  have e : wid p l r (-b) = 1000 * p + 2 * b * (l + r) := by unfold wid; rw [Int.mul_neg, Int.neg_mul]; omega
  by_cases h9 : wid p l r a ≥ 0
  · rw [if_pos h9, e]
    congr 1
    unfold wid at h9
    rw [decide_eq_decide]
    exact ⟨fun h10 => ⟨h1, h2, h3, h4, h5, by omega, h7, h8, by omega, by omega⟩, fun hv => by have := hv.2.2.2.2.2.2.2.2.2; omega⟩
  · rw [if_neg h9, decide_eq_false]
    intro hv; unfold wid at h9; unfold Valid at hv; omega
end Go.Proofs.Yticbhgjenidjlaa.T
namespace Go.Proofs.Yticbhgjenidjlaa.T
open Go.RowKit
set_option linter.unusedVariables false
set_option linter.unusedSimpArgs false

theorem tdiv_facts {x e : Int} (hx : 0 ≤ x) (he : 0 < e) : 0 ≤ x.tdiv e ∧ x.tdiv e * e ≤ x ∧ x < (x.tdiv e + 1) * e ∧ x.tdiv e ≤ x ∧ x = x.tdiv e * e + x.tmod e := by
  have h0 : 0 ≤ x.tdiv e := Int.tdiv_nonneg hx (by omega)
  have h1 : x.tdiv e * e + x.tmod e = x := by rw [Int.mul_comm]; exact Int.mul_tdiv_add_tmod _ _
  have h2 := Int.tmod_nonneg e hx
  have h3 := Int.tmod_lt_of_pos x he
  have h4 : x.tdiv e * 1 ≤ x.tdiv e * e := Int.mul_le_mul_of_nonneg_left (by omega) h0
  rw [Int.add_mul]
  omega
end Go.Proofs.Yticbhgjenidjlaa.T
namespace Go.Proofs.Yticbhgjenidjlaa.T
open Go.RowKit Go.Proofs.YticbhgjenidjlaaW.PrintWords Go.Proofs.YticbhgjenidjlaaW.PrintLast
set_option linter.unusedVariables false
set_option linter.unusedSimpArgs false

theorem open_ev {p l r a b s : Int} {h : Bool} {t : Int} : Ev (fun k => thread_open.f k p l r a b s h t) (p, l, r, a, b, s, h, t, if Valid p l r a b s t then 0 else 2) := by
  unfold thread_open.f
  exact Ev.bind check_ev (Ev.pure _)
end Go.Proofs.Yticbhgjenidjlaa.T
namespace Go.Proofs.Yticbhgjenidjlaa.T
open Go.RowKit Go.Proofs.YticbhgjenidjlaaW.PrintWords Go.Proofs.YticbhgjenidjlaaW.PrintLast
set_option linter.unusedVariables false
set_option linter.unusedSimpArgs false

theorem leans_eq {p l r a b s : Int} {h : Bool} {t : Int} (hl : 0 ≤ l ∧ l ≤ 3000) (hr : 0 ≤ r ∧ r ≤ 3000) : thread_form_leans.f p l r a b s h t = some (l + r) := by
  unfold thread_form_leans.f
  rw [wrap64_id (by omega) (by omega)]
end Go.Proofs.Yticbhgjenidjlaa.T
namespace Go.Proofs.Yticbhgjenidjlaa.T
open Go.RowKit Go.Proofs.YticbhgjenidjlaaW.PrintWords Go.Proofs.YticbhgjenidjlaaW.PrintLast Go.Proofs.YticbhgjenidjlaaW.PrintMore
set_option linter.unusedVariables false
set_option linter.unusedSimpArgs false

def out (al ar bl br x y : Int) : Int := mx (x * (bl - al)) (y * (bl - al)) + mx (x * (br - ar)) (y * (br - ar))
theorem isMate_eq {p l r a b s p2 l2 r2 a2 b2 s2 t t2 : Int} {h h2 : Bool} : thread_form_isMate.f p l r a b s h t p2 l2 r2 a2 b2 s2 h2 t2 = some (decide (p = p2 ∧ s = s2 ∧ h = h2 ∧ t = t2)) := by
  unfold thread_form_isMate.f thread_form_isKind.f
  by_cases h1 : p = p2 <;> by_cases h2' : s = s2 <;> by_cases h3 : h = h2 <;> by_cases h4 : t = t2 <;> simp_all
theorem isSpan_eq {x y u v : Int} : thread_isSpan.f x y u v = some (decide (x ≤ y ∧ u ≤ x ∧ y ≤ v)) := by
  unfold thread_isSpan.f
  rw [within_eq2]
  by_cases h1 : x ≤ y
  · rw [if_pos h1]
    simp only [Option.bind_some]
    congr 1
    rw [decide_eq_decide]
    omega
  · rw [if_neg h1, decide_eq_false (by omega)]
theorem mx_bound {x y b : Int} (hx : -b ≤ x ∧ x ≤ b) (hy : -b ≤ y ∧ y ≤ b) : -b ≤ mx x y ∧ mx x y ≤ b := by unfold mx; split <;> omega
theorem most_eq {x y d : Int} (hx : -200000 ≤ x ∧ x ≤ 200000) (hy : -200000 ≤ y ∧ y ≤ 200000) (hd : -3000 ≤ d ∧ d ≤ 3000) : thread_most.f x y d = some (mx (x * d) (y * d)) ∧ -600000000 ≤ mx (x * d) (y * d) ∧ mx (x * d) (y * d) ≤ 600000000 := by
  have h1 := mulbs (x := x) (X := 200000) (y := d) (Y := 3000) (by omega) (by omega) (by omega) (by omega)
  have h2 := mulbs (x := y) (X := 200000) (y := d) (Y := 3000) (by omega) (by omega) (by omega) (by omega)
  refine ⟨?_, mx_bound (by omega) (by omega)⟩
  unfold thread_most.f
  rw [wrap64_id (by omega) (by omega), wrap64_id (by omega) (by omega)]
theorem room_ev {p l r a b s p2 l2 r2 a2 b2 s2 t t2 x y : Int} {h h2 : Bool} : Ev (fun k => thread_Room.f k p l r a b s h t p2 l2 r2 a2 b2 s2 h2 t2 x y)
    (if Valid p l r a b s t then if Valid p2 l2 r2 a2 b2 s2 t2 then if p = p2 ∧ s = s2 ∧ h = h2 ∧ t = t2 then if x ≤ y ∧ -200000 ≤ x ∧ y ≤ 200000 then
      if out l r l2 r2 x y ≤ 0 then (0, 0) else if l + r = 0 then (0, 7) else ((out l r l2 r2 x y + (l + r) - 1).tdiv (l + r), 0) else (0, 3) else (0, 9) else (0, 2) else (0, 2)) := by
  unfold thread_Room.f
  refine Ev.bind open_ev ?_
  have last : ∀ e : Int, e ≠ 0 → Ev (fun k => thread_Room.j0 k e p l r a b s h t p2 l2 r2 a2 b2 s2 h2 t2 x y p l r a b s h t) (0, e) := fun e he => Ev.succ (Ev.of fun k => by show (if e = 0 then _ else some (0, e)) = some (0, e); rw [if_neg he])
  by_cases hv : Valid p l r a b s t
  rotate_left
  · simp only [if_neg hv]
    exact last 2 (by omega)
  simp only [if_pos hv, if_true]
  refine Ev.bind check_ev ?_
  by_cases hv2 : Valid p2 l2 r2 a2 b2 s2 t2
  rotate_left
  · simp only [if_neg hv2]
    exact last 2 (by omega)
  simp only [if_pos hv2]
  refine Ev.succ (Ev.of fun k => ?_)
  show (if (0 : Int) = 0 then (thread_form_isMate.f p l r a b s h t p2 l2 r2 a2 b2 s2 h2 t2).bind _ else some (0, 0)) = _
  rw [if_pos rfl, isMate_eq]
  simp only [Option.bind_some]
  by_cases hm : p = p2 ∧ s = s2 ∧ h = h2 ∧ t = t2
  rotate_left
  · rw [decide_eq_false hm, if_neg hm, if_neg (by simp)]
  rw [decide_eq_true hm, if_pos hm, if_pos rfl, isSpan_eq]
  simp only [Option.bind_some]
  by_cases hs : x ≤ y ∧ -200000 ≤ x ∧ y ≤ 200000
  rotate_left
  · rw [decide_eq_false hs, if_neg hs, if_neg (by simp)]
  rw [decide_eq_true hs, if_pos hs, if_pos rfl]
  obtain ⟨_, hl, hr, _⟩ := hv
  obtain ⟨_, hl2, hr2, _⟩ := hv2
  obtain ⟨m1, b1⟩ := most_eq (x := x) (y := y) (d := l2 - l) (by omega) (by omega) (by omega)
  obtain ⟨m2, b2'⟩ := most_eq (x := x) (y := y) (d := r2 - r) (by omega) (by omega) (by omega)
  rw [wrap64_id (x := l2 - l) (by omega) (by omega), wrap64_id (x := r2 - r) (by omega) (by omega), m1, m2]
  simp only [Option.bind_some]
  show (if wrap64 (mx (x * (l2 - l)) (y * (l2 - l)) + mx (x * (r2 - r)) (y * (r2 - r))) ≤ 0 then _ else _) = _
  rw [wrap64_id (x := mx (x * (l2 - l)) (y * (l2 - l)) + mx (x * (r2 - r)) (y * (r2 - r))) (by omega) (by omega)]
  rw [show mx (x * (l2 - l)) (y * (l2 - l)) + mx (x * (r2 - r)) (y * (r2 - r)) = out l r l2 r2 x y from rfl] at *
  have ho : -1200000000 ≤ out l r l2 r2 x y ∧ out l r l2 r2 x y ≤ 1200000000 := by unfold out; omega
  by_cases h0 : out l r l2 r2 x y ≤ 0
  · rw [if_pos h0, if_pos h0]
  rw [if_neg h0, if_neg h0, leans_eq hl hr]
  simp only [Option.bind_some]
  by_cases hz : l + r = 0
  · rw [if_pos hz, if_pos hz]
  rw [if_neg hz, if_neg hz, if_neg hz, wrap64_id (x := out l r l2 r2 x y + (l + r)) (by omega) (by omega), wrap64_id (x := out l r l2 r2 x y + (l + r) - 1) (by omega) (by omega)]
  have hq : 0 ≤ (out l r l2 r2 x y + (l + r) - 1).tdiv (l + r) := Int.tdiv_nonneg (by omega) (by omega)
  have hq2 : (out l r l2 r2 x y + (l + r) - 1).tdiv (l + r) ≤ out l r l2 r2 x y + (l + r) - 1 := Int.tdiv_le_self _ (by omega)
  rw [wrap64_id (by omega) (by omega)]
end Go.Proofs.Yticbhgjenidjlaa.T
namespace Go.Proofs.Yticbhgjenidjlaa.T
open Go Go.RowKit Go.Proofs.YticbhgjenidjlaaW.PrintWords Go.Proofs.YticbhgjenidjlaaW.PrintLast Go.Proofs.YticbhgjenidjlaaW.PrintMore
set_option linter.unusedVariables false
set_option linter.unusedSimpArgs false
theorem out_eq {p l r a b s t p2 l2 r2 a2 b2 s2 t2 x y c : Int} {h h2 : Bool} (hl : 0 ≤ l ∧ l ≤ 3000) (hr : 0 ≤ r ∧ r ≤ 3000) (hl2 : 0 ≤ l2 ∧ l2 ≤ 3000) (hr2 : 0 ≤ r2 ∧ r2 ≤ 3000)
    (hx : -200000 ≤ x ∧ x ≤ 200000) (hy : -200000 ≤ y ∧ y ≤ 200000) (hc : 0 ≤ c ∧ c ≤ 2000000000) :
    acmeref01_Out.f p l r a b s h t p2 l2 r2 a2 b2 s2 h2 t2 c x y = some (x * (l2 - l) + y * (r2 - r) - c * (l + r)) := by
  have m1 := mulbs (x := x) (X := 200000) (y := l) (Y := 3000) (by omega) (by omega) (by omega) (by omega)
  have m3 := mulbs (x := x) (X := 200000) (y := l2) (Y := 3000) (by omega) (by omega) (by omega) (by omega)
  have n2 := mulbs (x := y) (X := 200000) (y := r) (Y := 3000) (by omega) (by omega) (by omega) (by omega)
  have n4 := mulbs (x := y) (X := 200000) (y := r2) (Y := 3000) (by omega) (by omega) (by omega) (by omega)
  have c1 := mulbs (x := c) (X := 2000000000) (y := l) (Y := 3000) (by omega) (by omega) (by omega) (by omega)
  have c2 := mulbs (x := c) (X := 2000000000) (y := r) (Y := 3000) (by omega) (by omega) (by omega) (by omega)
  unfold acmeref01_Out.f
  rw [wrap64_id (x := x + c) (by omega) (by omega), wrap64_id (x := y + c) (by omega) (by omega), Int.add_mul, Int.add_mul, wrap64_id (x := x * l2) (by omega) (by omega), wrap64_id (x := x * l + c * l) (by omega) (by omega),
    wrap64_id (x := y * r + c * r) (by omega) (by omega), wrap64_id (x := y * r2) (by omega) (by omega), wrap64_id (x := x * l2 - (x * l + c * l)) (by omega) (by omega), wrap64_id (x := y * r + c * r - y * r2) (by omega) (by omega), wrap64_id (by omega) (by omega),
    Int.mul_sub, Int.mul_sub, Int.mul_add]
  congr 1
  omega
theorem goes_ev {p l r a b s t p2 l2 r2 a2 b2 s2 t2 x y c : Int} {h h2 : Bool} (hl : 0 ≤ l ∧ l ≤ 3000) (hr : 0 ≤ r ∧ r ≤ 3000) (hl2 : 0 ≤ l2 ∧ l2 ≤ 3000) (hr2 : 0 ≤ r2 ∧ r2 ≤ 3000)
    (hx : -200000 ≤ x ∧ x ≤ 200000) (hy : -200000 ≤ y ∧ y ≤ 200000) (hc : 0 ≤ c ∧ c ≤ 2000000000) (k : Nat) :
    acmeref01_Goes.f (k + 9) p l r a b s h t p2 l2 r2 a2 b2 s2 h2 t2 x y c = some (decide (out l r l2 r2 x y ≤ c * (l + r))) := by
  have o1 := out_eq (p := p) (a := a) (b := b) (s := s) (t := t) (p2 := p2) (a2 := a2) (b2 := b2) (s2 := s2) (t2 := t2) (h := h) (h2 := h2) hl hr hl2 hr2 hx hx hc
  have o2 := out_eq (p := p) (a := a) (b := b) (s := s) (t := t) (p2 := p2) (a2 := a2) (b2 := b2) (s2 := s2) (t2 := t2) (h := h) (h2 := h2) hl hr hl2 hr2 hx hy hc
  have o3 := out_eq (p := p) (a := a) (b := b) (s := s) (t := t) (p2 := p2) (a2 := a2) (b2 := b2) (s2 := s2) (t2 := t2) (h := h) (h2 := h2) hl hr hl2 hr2 hy hx hc
  have o4 := out_eq (p := p) (a := a) (b := b) (s := s) (t := t) (p2 := p2) (a2 := a2) (b2 := b2) (s2 := s2) (t2 := t2) (h := h) (h2 := h2) hl hr hl2 hr2 hy hy hc
  unfold out mx acmeref01_Goes.f
  simp only [acmeref01_Goes.l0, acmeref01_Goes.l1, o1, o2, o3, o4, Option.bind_some, Int.reduceLT, if_true, Int.reduceEq, if_false]
  generalize x * (l2 - l) = q1 at *
  generalize y * (l2 - l) = q2 at *
  generalize x * (r2 - r) = q3 at *
  generalize y * (r2 - r) = q4 at *
  generalize c * (l + r) = q5 at *
  have e1 : wrap64 (0 + 1) = 1 := wrap64_id (by omega) (by omega)
  have e2 : wrap64 (1 + 1) = 2 := wrap64_id (by omega) (by omega)
  simp only [e1, e2, Int.reduceLT, if_true, Int.reduceEq, if_false]
  by_cases h1 : q1 + q3 - q5 > 0
  · rw [if_pos h1, decide_eq_false]
    split <;> split <;> omega
  by_cases h2' : q1 + q4 - q5 > 0
  · rw [if_neg h1, if_pos h2', decide_eq_false]
    split <;> split <;> omega
  by_cases h3 : q2 + q3 - q5 > 0
  · rw [if_neg h1, if_neg h2', if_pos h3, decide_eq_false]
    split <;> split <;> omega
  by_cases h4 : q2 + q4 - q5 > 0
  · rw [if_neg h1, if_neg h2', if_neg h3, if_pos h4, decide_eq_false]
    split <;> split <;> omega
  rw [if_neg h1, if_neg h2', if_neg h3, if_neg h4, decide_eq_true]
  split <;> split <;> omega
theorem half_ev {p l r a b s t p2 l2 r2 a2 b2 s2 t2 x y : Int} {h h2 : Bool} (hl : 0 ≤ l ∧ l ≤ 3000) (hr : 0 ≤ r ∧ r ≤ 3000) (hl2 : 0 ≤ l2 ∧ l2 ≤ 3000) (hr2 : 0 ≤ r2 ∧ r2 ≤ 3000)
    (hx : -200000 ≤ x ∧ x ≤ 200000) (hy : -200000 ≤ y ∧ y ≤ 200000) (m : Int) (h1 : ¬ out l r l2 r2 x y ≤ (m - 1) * (l + r)) (h2' : out l r l2 r2 x y ≤ m * (l + r)) :
    ∀ (n : Nat) (no yes : Int), 0 ≤ no → no < m → m ≤ yes → yes ≤ 1200000000 → (yes - no).toNat ≤ n → Ev (fun k => acmeref01_Room.l0 k no yes p l r a b s h t p2 l2 r2 a2 b2 s2 h2 t2 x y) (m, true) := by
  intro n
  induction n with
  | zero => intro no yes h0 h3 h4 h5 h6; omega
  | succ n ih =>
    intro no yes h0 h3 h4 h5 h6
    have up : ∀ c d : Int, c ≤ d → c * (l + r) ≤ d * (l + r) := fun c d hcd => Int.mul_le_mul_of_nonneg_right hcd (by omega)
    by_cases hlast : yes - no > 1
    · have hmid : (no + yes).tdiv 2 = (no + yes) / 2 := Int.tdiv_eq_ediv_of_nonneg (by omega)
      have hg := fun k => goes_ev (p := p) (a := a) (b := b) (s := s) (t := t) (p2 := p2) (a2 := a2) (b2 := b2) (s2 := s2) (t2 := t2) (h := h) (h2 := h2) (c := (no + yes) / 2) hl hr hl2 hr2 hx hy (by omega) k
      have step : ∀ k, acmeref01_Room.l0 (k + 1) no yes p l r a b s h t p2 l2 r2 a2 b2 s2 h2 t2 x y = (acmeref01_Goes.f k p l r a b s h t p2 l2 r2 a2 b2 s2 h2 t2 x y ((no + yes) / 2)).bind fun q => if q = true then acmeref01_Room.l0 k no ((no + yes) / 2) p l r a b s h t p2 l2 r2 a2 b2 s2 h2 t2 x y else acmeref01_Room.l0 k ((no + yes) / 2) yes p l r a b s h t p2 l2 r2 a2 b2 s2 h2 t2 x y := by
        intro k
        simp only [acmeref01_Room.l0]
        rw [wrap64_id (x := yes - no) (by omega) (by omega), if_pos hlast, wrap64_id (x := no + yes) (by omega) (by omega), hmid, wrap64_id (x := (no + yes) / 2) (by omega) (by omega)]
      refine Ev.succ ?_
      simp only [step]
      refine Ev.bind (v := decide (out l r l2 r2 x y ≤ (no + yes) / 2 * (l + r))) ⟨9, fun k hk => by obtain ⟨j, rfl⟩ : ∃ j, k = j + 9 := ⟨k - 9, by omega⟩; exact hg j⟩ ?_
      by_cases hy2 : out l r l2 r2 x y ≤ (no + yes) / 2 * (l + r)
      · simp only [decide_eq_true hy2, if_true]
        refine ih _ _ h0 h3 ?_ (by omega) (by omega)
        rcases Int.lt_or_le ((no + yes) / 2) m with h7 | h7
        · have := up ((no + yes) / 2) (m - 1) (by omega); omega
        · exact h7
      · simp only [decide_eq_false hy2, Bool.false_eq_true, if_false]
        refine ih _ _ (by omega) ?_ h4 h5 (by omega)
        rcases Int.lt_or_le ((no + yes) / 2) m with h7 | h7
        · exact h7
        · have := up m ((no + yes) / 2) h7; omega
    · refine Ev.succ (Ev.of fun k => ?_)
      simp only [acmeref01_Room.l0]
      rw [wrap64_id (x := yes - no) (by omega) (by omega), if_neg hlast, show yes = m by omega]
end Go.Proofs.Yticbhgjenidjlaa.T
namespace Go.Proofs.Yticbhgjenidjlaa.T
open Go Go.RowKit Go.Proofs.Yticbhgjenidjlaa.Ab Go.Proofs.YticbhgjenidjlaaW.PrintWords Go.Proofs.YticbhgjenidjlaaW.PrintLast Go.Proofs.YticbhgjenidjlaaW.PrintMore
set_option linter.unusedVariables false
set_option linter.unusedSimpArgs false
theorem refRoom_ev {p l r a b s t p2 l2 r2 a2 b2 s2 t2 x y : Int} {h h2 : Bool} (hl : 0 ≤ l ∧ l ≤ 3000) (hr : 0 ≤ r ∧ r ≤ 3000) (hl2 : 0 ≤ l2 ∧ l2 ≤ 3000) (hr2 : 0 ≤ r2 ∧ r2 ≤ 3000)
    (hx : -200000 ≤ x ∧ x ≤ 200000) (hy : -200000 ≤ y ∧ y ≤ 200000) : Ev (fun k => acmeref01_Room.f k p l r a b s h t p2 l2 r2 a2 b2 s2 h2 t2 x y)
    (if out l r l2 r2 x y ≤ 0 then (0, true) else if l + r = 0 then (0, false) else ((out l r l2 r2 x y + (l + r) - 1).tdiv (l + r), true)) := by
  unfold acmeref01_Room.f
  refine Ev.bind (v := decide (out l r l2 r2 x y ≤ 0)) ⟨9, fun k hk => by obtain ⟨j, rfl⟩ : ∃ j, k = j + 9 := ⟨k - 9, by omega⟩; have := goes_ev (p := p) (a := a) (b := b) (s := s) (t := t) (p2 := p2) (a2 := a2) (b2 := b2) (s2 := s2) (t2 := t2) (h := h) (h2 := h2) (c := 0) hl hr hl2 hr2 hx hy (by omega) j; rwa [Int.zero_mul] at this⟩ ?_
  by_cases h0 : out l r l2 r2 x y ≤ 0
  · simp only [decide_eq_true h0, if_true, if_pos h0]; exact Ev.pure _
  simp only [decide_eq_false h0, Bool.false_eq_true, if_false, if_neg h0, wrap64_id (x := l + r) (by omega) (by omega)]
  by_cases hz : l + r = 0
  · simp only [if_pos hz]; exact Ev.pure _
  simp only [if_neg hz]
  have m1 := (most_eq (x := x) (y := y) (d := l2 - l) hx hy (by omega)).2
  have m2 := (most_eq (x := x) (y := y) (d := r2 - r) hx hy (by omega)).2
  have hob : out l r l2 r2 x y ≤ 1200000000 := by unfold out; omega
  have hT := tdiv_facts (x := out l r l2 r2 x y + (l + r) - 1) (e := l + r) (by omega) (by omega)
  generalize hn : (out l r l2 r2 x y + (l + r) - 1).tdiv (l + r) = n at *
  have e1 := hT.2.1
  have e2 := hT.2.2.1
  have hn3 : out l r l2 r2 x y ≤ n * (l + r) := by rw [Int.add_mul] at e2; omega
  have hn5 : ¬ out l r l2 r2 x y ≤ (n - 1) * (l + r) := by rw [Int.sub_mul]; omega
  have hn4 : 0 < n := by
    rcases Int.lt_or_le 0 n with h | h
    · exact h
    · rw [show n = 0 by omega] at hn3; omega
  have hn6 : n ≤ 1200000000 := by
    rcases Int.lt_or_le 1200000000 n with h | h
    · have := Int.mul_le_mul_of_nonneg_right (show 1200000000 ≤ n - 1 by omega) (show 0 ≤ l + r by omega)
      omega
    · exact h
  exact half_ev hl hr hl2 hr2 hx hy n hn5 hn3 1200000000 0 1200000000 (by omega) hn4 hn6 (by omega) (by omega)
theorem pure_ThreadRooms (a0_0 : Int) (a0_1 : Int) (a0_2 : Int) (a0_3 : Int) (a0_4 : Int) (a0_5 : Int) (a0_6 : Bool) (a0_7 : Int) (a1_0 : Int) (a1_1 : Int) (a1_2 : Int) (a1_3 : Int) (a1_4 : Int) (a1_5 : Int) (a1_6 : Bool) (a1_7 : Int) (a2_0 : Int) (a2_1 : Int) (w0_0 : (Lit.int .i64 a0_0).wf = true) (w0_1 : (Lit.int .i64 a0_1).wf = true) (w0_2 : (Lit.int .i64 a0_2).wf = true) (w0_3 : (Lit.int .i64 a0_3).wf = true) (w0_4 : (Lit.int .i64 a0_4).wf = true) (w0_5 : (Lit.int .i64 a0_5).wf = true) (w0_7 : (Lit.int .i64 a0_7).wf = true) (w1_0 : (Lit.int .i64 a1_0).wf = true) (w1_1 : (Lit.int .i64 a1_1).wf = true) (w1_2 : (Lit.int .i64 a1_2).wf = true) (w1_3 : (Lit.int .i64 a1_3).wf = true) (w1_4 : (Lit.int .i64 a1_4).wf = true) (w1_5 : (Lit.int .i64 a1_5).wf = true) (w1_7 : (Lit.int .i64 a1_7).wf = true) (w2_0 : (Lit.int .i64 a2_0).wf = true) (w2_1 : (Lit.int .i64 a2_1).wf = true) : ∃ k, acmelaw01_ThreadRooms.f k a0_0 a0_1 a0_2 a0_3 a0_4 a0_5 a0_6 a0_7 a1_0 a1_1 a1_2 a1_3 a1_4 a1_5 a1_6 a1_7 a2_0 a2_1 = some true := by
  have x0 := wf64 w2_0
  have x1 := wf64 w2_1
  refine Ev.ex ?_
  unfold acmelaw01_ThreadRooms.f
  refine Ev.bind (v := Value.bool true) ?_ (Ev.of fun _ => rfl)
  unfold acmelaw01_ThreadRooms.T
  have known : Ev (fun _ => (acmelaw01_known.f).bind fun t => (some (Value.bool t))) (.bool true) := Ev.pure _
  refine Ev.bind room_ev ?_
  refine Ev.bind (form_ev w0_3 w0_4) ?_
  by_cases hv : Valid a0_0 a0_1 a0_2 a0_3 a0_4 a0_5 a0_7
  rotate_left
  · simp only [if_neg hv, decide_eq_false hv, Bool.not_false, cond_true, beq_self_eq_true]
    exact known
  simp only [if_pos hv, decide_eq_true hv, Bool.not_true, cond_false]
  refine Ev.bind (form_ev w1_3 w1_4) ?_
  by_cases hv2 : Valid a1_0 a1_1 a1_2 a1_3 a1_4 a1_5 a1_7
  rotate_left
  · simp only [if_neg hv2, decide_eq_false hv2, Bool.not_false, cond_true, beq_self_eq_true]
    exact known
  simp only [if_pos hv2, decide_eq_true hv2, Bool.not_true, cond_false]
  have hm : acmeref01_Mates.f a0_0 a0_1 a0_2 a0_3 a0_4 a0_5 a0_6 a0_7 a1_0 a1_1 a1_2 a1_3 a1_4 a1_5 a1_6 a1_7 = some (decide (a0_0 = a1_0 ∧ a0_5 = a1_5 ∧ a0_6 = a1_6 ∧ a0_7 = a1_7)) := by
    unfold acmeref01_Mates.f
    by_cases h1 : a0_0 = a1_0 <;> by_cases h2' : a0_5 = a1_5 <;> by_cases h3 : a0_6 = a1_6 <;> by_cases h4 : a0_7 = a1_7 <;> simp_all
  simp only [hm, Option.bind_some]
  by_cases h1 : a0_0 = a1_0 ∧ a0_5 = a1_5 ∧ a0_6 = a1_6 ∧ a0_7 = a1_7
  rotate_left
  · simp only [if_neg h1, decide_eq_false h1, Bool.not_false, cond_true, beq_self_eq_true]
    exact known
  simp only [if_pos h1, decide_eq_true h1, Bool.not_true, cond_false]
  by_cases h2 : a2_0 < -200000
  · simp only [if_neg (show ¬ (a2_0 ≤ a2_1 ∧ -200000 ≤ a2_0 ∧ a2_1 ≤ 200000) by omega), decide_eq_true h2, cond_true, beq_self_eq_true]
    exact known
  simp only [decide_eq_false h2, cond_false]
  by_cases h3 : a2_0 > a2_1
  · simp only [if_neg (show ¬ (a2_0 ≤ a2_1 ∧ -200000 ≤ a2_0 ∧ a2_1 ≤ 200000) by omega), decide_eq_true h3, cond_true, beq_self_eq_true]
    exact known
  simp only [decide_eq_false h3, cond_false]
  by_cases h4 : a2_1 > 200000
  · simp only [if_neg (show ¬ (a2_0 ≤ a2_1 ∧ -200000 ≤ a2_0 ∧ a2_1 ≤ 200000) by omega), decide_eq_true h4, cond_true, beq_self_eq_true]
    exact known
  simp only [decide_eq_false h4, cond_false, if_pos (show a2_0 ≤ a2_1 ∧ -200000 ≤ a2_0 ∧ a2_1 ≤ 200000 by omega)]
  refine Ev.bind (refRoom_ev hv.2.1 hv.2.2.1 hv2.2.1 hv2.2.2.1 (by omega) (by omega)) ?_
  by_cases h5 : out a0_1 a0_2 a1_1 a1_2 a2_0 a2_1 ≤ 0
  · simp only [if_pos h5, Bool.not_true, cond_false, cond_true, beq_self_eq_true]
    exact known
  by_cases h6 : a0_1 + a0_2 = 0
  · simp only [if_neg h5, if_pos h6, Bool.not_false, cond_true, beq_self_eq_true]
    exact known
  simp only [if_neg h5, if_neg h6, Bool.not_true, cond_false, cond_true, beq_self_eq_true]
  exact known
end Go.Proofs.Yticbhgjenidjlaa.T
namespace Go.Proofs.Yticbhgjenidjlaa.threadRooms
open Go.ChangeShapes Go.WideShapes Go.ChangeAt Go.RowKit Go.Proofs.Yticbhgjenidjlaa.T
open Go.ChangeMaps (open_string shut_string)
set_option linter.unusedVariables false
theorem own : ownKnob Try.prog.godebug = none := by kernel_rfl
theorem laidOut : laidOutB Try.prog = true := by kernel_rfl
set_option maxRecDepth 100000 in
theorem lifted (os : Os) (started : os.Started) (H : Type) (enc : TypeId × Value → H) :
    ReturnsInHanded {} Try.checked os 6 .any (Rows.threadRoomsSpec.pre6 enc Try.prog Try.f6 Rows.threadRoomsRow.domain false) (Rows.threadRoomsSpec.post enc Try.prog Try.f6 false true false false) := by
  refine returnsInHanded_of_change_sized (C := Try.checked) own started (by kernel_rfl) Try.func6
    (ChangeSpec.witness6 (enc := enc) (C := Try.checked) false ⟨#[], #[.agg #[.int .i64 0, .int .i64 0, .int .i64 0, .int .i64 0, .int .i64 0, .int .i64 0, .bool false, .int .i64 0], .agg #[.int .i64 0, .int .i64 0, .int .i64 0, .int .i64 0, .int .i64 0, .int .i64 0, .bool false, .int .i64 0], .agg #[.int .i64 0, .int .i64 0]], []⟩ 8 (by kernel_rfl) (by kernel_rfl) (by kernel_rfl) (by kernel_rfl)) ?_
  intro W base args ds gs before hval0 hW hcnd hsz0 _
  have hval : ∀ (j : Nat) t v, Try.f6.params[j]? = some t → args[j]? = some v → Value.okWide Try.prog W .any base t v := hval0
  have hW' := hW
  obtain ⟨p, q, hA0, hV, rfl, hfz, hnd⟩ := hW
  have hA : DataW.TrodAll enc Try.prog W 0 (fun _ => true) true Try.f6.params.toList args.toList ds p := hA0
  rw [Try.params6] at hA hval
  obtain ⟨v0, vs0, d0, ds0, p0, q0, hargs, rfl, rfl, h0, r0⟩ := trodAll_cons hA
  obtain ⟨v1, vs1, d1, ds1, p1, q1, rfl, rfl, rfl, h1, r1⟩ := trodAll_cons r0
  obtain ⟨v2, vs2, d2, ds2, p2, q2, rfl, rfl, rfl, h2, r2⟩ := trodAll_cons r1
  obtain ⟨rfl, rfl, rfl⟩ := trodAll_nil r2
  obtain rfl : args = #[v0, v1, v2] := by cases args; simp_all
  obtain ⟨rfl, rfl⟩ := trodVars_none hV
  have k0 := h0
  have lt0 : ∀ x ∈ p0, x.block < W.heap.size := by obtain ⟨m, hm⟩ := k0; exact DataW.trod_lt m _ _ _ hm
  obtain ⟨fuel0, hf0⟩ := h0
  obtain ⟨a0_0, a0_1, a0_2, a0_3, a0_4, a0_5, a0_6, a0_7, e0, w0_0, w0_1, w0_2, w0_3, w0_4, w0_5, w0_7⟩ := open23 hf0
  obtain rfl : v0 = .agg #[.int .i64 a0_0, .int .i64 a0_1, .int .i64 a0_2, .int .i64 a0_3, .int .i64 a0_4, .int .i64 a0_5, .bool a0_6, .int .i64 a0_7] := agg_of_cells e0 (by simp)
  have k1 := h1
  have lt1 : ∀ x ∈ p1, x.block < W.heap.size := by obtain ⟨m, hm⟩ := k1; exact DataW.trod_lt m _ _ _ hm
  obtain ⟨fuel1, hf1⟩ := h1
  obtain ⟨a1_0, a1_1, a1_2, a1_3, a1_4, a1_5, a1_6, a1_7, e1, w1_0, w1_1, w1_2, w1_3, w1_4, w1_5, w1_7⟩ := open23 hf1
  obtain rfl : v1 = .agg #[.int .i64 a1_0, .int .i64 a1_1, .int .i64 a1_2, .int .i64 a1_3, .int .i64 a1_4, .int .i64 a1_5, .bool a1_6, .int .i64 a1_7] := agg_of_cells e1 (by simp)
  have k2 := h2
  have lt2 : ∀ x ∈ p2, x.block < W.heap.size := by obtain ⟨m, hm⟩ := k2; exact DataW.trod_lt m _ _ _ hm
  obtain ⟨fuel2, hf2⟩ := h2
  obtain ⟨a2_0, a2_1, e2, w2_0, w2_1⟩ := open43 hf2
  obtain rfl : v2 = .agg #[.int .i64 a2_0, .int .i64 a2_1] := agg_of_cells e2 (by simp)
  clear hA0 hval0 hsz0
  obtain ⟨k, hk⟩ := pure_ThreadRooms a0_0 a0_1 a0_2 a0_3 a0_4 a0_5 a0_6 a0_7 a1_0 a1_1 a1_2 a1_3 a1_4 a1_5 a1_6 a1_7 a2_0 a2_1 w0_0 w0_1 w0_2 w0_3 w0_4 w0_5 w0_7 w1_0 w1_1 w1_2 w1_3 w1_4 w1_5 w1_7 w2_0 w2_1
  refine (acmelaw01_ThreadRooms.calls k a0_0 a0_1 a0_2 a0_3 a0_4 a0_5 a0_6 a0_7 a1_0 a1_1 a1_2 a1_3 a1_4 a1_5 a1_6 a1_7 a2_0 a2_1 true W  hk).mono fun e W' ⟨he, bel⟩ => ?_
  subst he
  exact ⟨_, rfl, _, _, _, [], _, [], hW', trodAll_mk1 (shut_bool Try.underlying4 _), (trodAll_cons_mk (Below.trod laidOut (by kernel_rfl) (of_decide_eq_true (by kernel_rfl)) k0 bel lt0) (trodAll_cons_mk (Below.trod laidOut (by kernel_rfl) (of_decide_eq_true (by kernel_rfl)) k1 bel lt1) (trodAll_cons_mk (Below.trod laidOut (by kernel_rfl) (of_decide_eq_true (by kernel_rfl)) k2 bel lt2) trodAll_mk0))), rfl, bel.frame _, fun h => by cases h⟩
theorem over : Rows.threadRoomsRow.holds Try.pinned (OpenSpec.ofChange Rows.threadRoomsSpec) :=
  OpenClaim.holds_of_wide 6 Try.f6 rfl rfl rfl rfl rfl rfl rfl ⟨rfl, rfl, rfl, rfl, rfl⟩ rfl rfl rfl rfl rfl (by kernel_rfl) Try.func6 (by kernel_rfl)
    (of_decide_eq_true (by kernel_rfl)) (by unfold Func.isWrapper; first | (rw [if_pos (by decide +kernel)]; kernel_rfl) | (rw [if_neg (by decide +kernel)]; exact ⟨rfl, rfl⟩))
    (fun os started H enc _ => lifted os started H enc)
theorem proved : Rows.ThreadRoomsSaid := over
end Go.Proofs.Yticbhgjenidjlaa.threadRooms
namespace Go.Proofs.Yticbhgjenidjlaa
theorem threadRooms_holds : Rows.ThreadRoomsSaid := threadRooms.proved
end Go.Proofs.Yticbhgjenidjlaa
