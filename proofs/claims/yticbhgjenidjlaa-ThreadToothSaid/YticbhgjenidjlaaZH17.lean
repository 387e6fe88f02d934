-- cut down, squeezed and laid together by pack.py (a program of this repository) out of this seat's texts
import Derived.KernelRfl
import Derived.ChangeKeysEq
import Derived.Below
import Derived.Deep.Draws
import Derived.Deep.AppendLies
import Derived.Maps.AppendAt
import Derived.OwnWalk
import Derived.Laws.BytesArg
import Derived.Laws.MakeOwn
import Derived.Laws.OwnMore
import Derived.Deep.OwnRows
import Derived.Tactics
import Derived.Lib.ConvBytes
import Derived.Laws.Slices
import Derived.WalkKit
import Derived.RowKit3
import Derived.Deep.LoopGhost
import Derived.Deep.QuietTactic
import Derived.BigQuiet
import Derived.WideLaws
import Derived.Deep.DeepCutAuto
import Derived.Deep.CutBlock
import Derived.Deep.RegionHeld3
import Derived.Laws.Rows
import Derived.Lib.AppendStr
import Derived.ArgAppend
import Derived.Laws.IdiomCopy
import Derived.OrdersHeld
import Derived.Laws.BitsLemmas
import Derived.RowKit
import Derived.Test.YticbhgjenidjlaaProg
import Derived.Laws.StructEq
import Derived.ProofKit
import Derived.OpenShut
import Derived.ShutString
import Derived.ChangeOld
import Derived.SizedLaws
import Derived.Carry
import Derived.Test.YticbhgjenidjlaaRows
import Derived.Test.YticbhgjenidjlaaZH9
import Derived.Test.YticbhgjenidjlaaZH3
import Derived.Test.YticbhgjenidjlaaZH16
import Derived.Test.YticbhgjenidjlaaZH8
import Derived.Test.YticbhgjenidjlaaZH10
import Derived.Test.YticbhgjenidjlaaZH7
import Derived.Test.YticbhgjenidjlaaZH4
import Derived.Test.YticbhgjenidjlaaZH6
import Derived.Test.YticbhgjenidjlaaZH5
import Derived.Test.YticbhgjenidjlaaZH2
import Derived.Test.YticbhgjenidjlaaZH11
import Derived.Test.YticbhgjenidjlaaZH12
import Derived.Test.YticbhgjenidjlaaZH1
import Derived.Test.YticbhgjenidjlaaZH15
import Derived.Test.YticbhgjenidjlaaZH14
import Derived.Test.YticbhgjenidjlaaZH13
namespace Go.Proofs.Yticbhgjenidjlaa.T
open Go.RowKit Go.Proofs.YticbhgjenidjlaaW.PrintWords Go.Proofs.YticbhgjenidjlaaW.PrintLast
set_option linter.unusedVariables false
set_option linter.unusedSimpArgs false

def Valid (p l r a b s t : Int) : Prop :=
  (100 ≤ p ∧ p ≤ 200000) ∧ (0 ≤ l ∧ l ≤ 3000) ∧ (0 ≤ r ∧ r ≤ 3000) ∧ (0 ≤ a ∧ a ≤ 200000) ∧ (0 ≤ b ∧ b ≤ 200000) ∧ 1 ≤ a + b ∧ (1 ≤ s ∧ s ≤ 8) ∧ (0 ≤ t ∧ t ≤ 100) ∧ 0 ≤ 1000 * p - 2 * a * (l + r) ∧ 0 ≤ 1000 * p - 2 * b * (l + r)
instance (p l r a b s t : Int) : Decidable (Valid p l r a b s t) := by unfold Valid; infer_instance
def wid (p l r y : Int) : Int := 1000 * p - 2 * y * (l + r)
theorem wid_bound {p l r y : Int} (hp : 0 ≤ p ∧ p ≤ 200000) (hl : 0 ≤ l ∧ l ≤ 3000) (hr : 0 ≤ r ∧ r ≤ 3000) (hy : -200000 ≤ y ∧ y ≤ 200000) :
    (-1200000000 ≤ y * (l + r) ∧ y * (l + r) ≤ 1200000000) ∧ -3000000000 ≤ wid p l r y ∧ wid p l r y ≤ 3000000000 := by
  have h := mulbs (x := y) (X := 200000) (y := l + r) (Y := 6000) (by omega) (by omega) (by omega) (by omega)
  unfold wid
  rw [Int.mul_assoc]
  omega
theorem width_eq {p l r a b s : Int} {h : Bool} {t y : Int} (hp : 0 ≤ p ∧ p ≤ 200000) (hl : 0 ≤ l ∧ l ≤ 3000) (hr : 0 ≤ r ∧ r ≤ 3000) (hy : -200000 ≤ y ∧ y ≤ 200000) :
    thread_form_width.f p l r a b s h t y = some (wid p l r y) ∧ acmeref01_Width.f p l r a b s h t y = some (wid p l r y) := by
  have hb := wid_bound hp hl hr hy
  unfold wid at *
  rw [Int.mul_assoc] at *
  unfold thread_form_width.f thread_form_leans.f acmeref01_Width.f
  simp only [Option.bind_some]
  rw [wrap64_id (x := l + r) (by omega) (by omega), wrap64_id (x := 2 * y) (by omega) (by omega), wrap64_id (x := 1000 * p) (by omega) (by omega)]
  rw [Int.mul_assoc, wrap64_id (x := 2 * (y * (l + r))) (by omega) (by omega), wrap64_id (by omega) (by omega)]
  exact ⟨rfl, rfl⟩
theorem within_eq1 (lo hi x : Int) : thread_within.f lo hi [x] = some (decide (lo ≤ x ∧ x ≤ hi)) := by
  unfold thread_within.f
  congr 1
  rw [Bool.eq_iff_iff]
  simp [outside]
theorem within_eq2 (lo hi x y : Int) : thread_within.f lo hi [x, y] = some (decide ((lo ≤ x ∧ x ≤ hi) ∧ (lo ≤ y ∧ y ≤ hi))) := by
  unfold thread_within.f
  congr 1
  rw [Bool.eq_iff_iff]
  simp [outside]

theorem check_ev {p l r a b s : Int} {h : Bool} {t : Int} : Ev (fun k => thread_Check.f k p l r a b s h t) (if Valid p l r a b s t then 0 else 2) := by
  refine ⟨2, fun k hk => ?_⟩
  obtain ⟨k, rfl⟩ : ∃ j, k = j + 2 := ⟨k - 2, by omega⟩
  have bad : ∀ {q1 q2 q3 q4 q5 q6 q7 q8 q9 q10 q11 q12 q13 q14 : Int} {g1 g2 : Bool}, ¬ Valid p l r a b s t → ∀ b0 : Bool, b0 = false → thread_Check.j0 (k + 2) b0 q1 q2 q3 q4 q5 q6 g1 q7 q8 q9 q10 q11 q12 q13 g2 q14 = some (if Valid p l r a b s t then 0 else 2) := by
    intro q1 q2 q3 q4 q5 q6 q7 q8 q9 q10 q11 q12 q13 q14 g1 g2 hv b0 hb
    rw [if_neg hv, hb]; simp [thread_Check.j0, thread_Check.j1]
  simp only [thread_Check.f, within_eq1, within_eq2, Option.bind_some]
  by_cases h1 : 100 ≤ p ∧ p ≤ 200000
  rotate_left
  · rw [if_neg (by simpa using h1)]
    exact bad (fun hv => h1 hv.1) _ rfl
  rw [if_pos (by simpa using h1)]
  by_cases h2 : (0 ≤ l ∧ l ≤ 3000) ∧ (0 ≤ r ∧ r ≤ 3000)
  rotate_left
  · rw [if_neg (by simpa using h2)]
    exact bad (fun hv => h2 ⟨hv.2.1, hv.2.2.1⟩) _ rfl
  rw [if_pos (by simpa using h2)]
  by_cases h3 : (0 ≤ a ∧ a ≤ 200000) ∧ (0 ≤ b ∧ b ≤ 200000)
  rotate_left
  · rw [if_neg (by simpa using h3)]
    exact bad (fun hv => h3 ⟨hv.2.2.2.1, hv.2.2.2.2.1⟩) _ rfl
  rw [if_pos (by simpa using h3), wrap64_id (by omega) (by omega)]
  by_cases h4 : 1 ≤ a + b
  rotate_left
  · exact bad (fun hv => h4 hv.2.2.2.2.2.1) _ (by simp; omega)
  rw [decide_eq_true (show a + b ≥ 1 from h4)]
  have b1 : ∀ {q1 q2 q3 q4 q5 q6 q7 q8 q9 q10 q11 q12 q13 q14 : Int} {g1 g2 : Bool}, ¬ Valid p l r a b s t → ∀ b0 : Bool, b0 = true → thread_Check.j1 (k + 1) b0 q1 q2 q3 q4 q5 q6 g1 q7 q8 q9 q10 q11 q12 q13 g2 q14 = some (if Valid p l r a b s t then 0 else 2) := by
    intro q1 q2 q3 q4 q5 q6 q7 q8 q9 q10 q11 q12 q13 q14 g1 g2 hv b0 hb
    rw [if_neg hv, hb]; simp [thread_Check.j1]
  simp only [thread_Check.j0, if_true, within_eq1, Option.bind_some]
  by_cases h5 : 1 ≤ s ∧ s ≤ 8
  rotate_left
  · rw [if_neg (by simpa using h5)]
    exact b1 (fun hv => h5 hv.2.2.2.2.2.2.1) _ rfl
  rw [if_pos (by simpa using h5)]
  by_cases h6 : 0 ≤ t ∧ t ≤ 100
  rotate_left
  · exact b1 (fun hv => h6 hv.2.2.2.2.2.2.2.1) _ (by simp; omega)
  rw [decide_eq_true h6]
  have wa := (width_eq (a := a) (b := b) (s := s) (h := h) (t := t) (y := a) (by omega) h2.1 h2.2 (p := p) (by omega)).1
  have wb := (width_eq (a := a) (b := b) (s := s) (h := h) (t := t) (y := b) (by omega) h2.1 h2.2 (p := p) (by omega)).1
  simp only [thread_Check.j1, Bool.not_true, Bool.false_eq_true, if_false, wa, wb, Option.bind_some]
  by_cases h7 : wid p l r a < 0
  · rw [if_pos h7, if_neg]; intro hv; unfold wid at h7; unfold Valid at hv; omega
  · rw [if_neg h7]
    by_cases h8 : wid p l r b < 0
    · rw [if_pos h8, if_neg]; intro hv; unfold wid at h8; unfold Valid at hv; omega
    · rw [if_neg h8, if_pos]
      unfold wid at h7 h8; exact ⟨h1, h2.1, h2.2, h3.1, h3.2, h4, h5, h6, by omega, by omega⟩

end Go.Proofs.Yticbhgjenidjlaa.T
namespace Go.Proofs.Yticbhgjenidjlaa.T
open Go.RowKit Go.Proofs.YticbhgjenidjlaaW.PrintWords Go.Proofs.YticbhgjenidjlaaW.PrintLast
set_option linter.unusedVariables false
set_option linter.unusedSimpArgs false

theorem open_ev {p l r a b s : Int} {h : Bool} {t : Int} : Ev (fun k => thread_open.f k p l r a b s h t) (p, l, r, a, b, s, h, t, if Valid p l r a b s t then 0 else 2) := by
  unfold thread_open.f
  exact Ev.bind check_ev (Ev.pure _)
theorem has_eq2 {p l r a b s : Int} {h : Bool} {t x y : Int} (hb : 0 ≤ b ∧ b ≤ 200000) : thread_form_has.f p l r a b s h t [x, y] = some (decide ((-b ≤ x ∧ x ≤ a) ∧ (-b ≤ y ∧ y ≤ a))) := by
  unfold thread_form_has.f
  rw [wrap64_id (by omega) (by omega), within_eq2]; rfl
theorem has_eq1 {p l r a b s : Int} {h : Bool} {t x : Int} (hb : 0 ≤ b ∧ b ≤ 200000) : thread_form_has.f p l r a b s h t [x] = some (decide (-b ≤ x ∧ x ≤ a)) := by
  unfold thread_form_has.f
  rw [wrap64_id (by omega) (by omega), within_eq1]; rfl
def area (p l r x y : Int) : Int := 1000 * (y - x) * p - (y * y - x * x) * (l + r)
theorem area_bound {p l r x y : Int} (hp : 0 ≤ p ∧ p ≤ 200000) (hl : 0 ≤ l ∧ l ≤ 3000) (hr : 0 ≤ r ∧ r ≤ 3000) (hx : -200000 ≤ x ∧ x ≤ 200000) (hy : -200000 ≤ y ∧ y ≤ 200000) :
    (-400000 ≤ y - x ∧ y - x ≤ 400000) ∧ (-80000000000 ≤ (y - x) * p ∧ (y - x) * p ≤ 80000000000) ∧ (-40000000000 ≤ y * y ∧ y * y ≤ 40000000000) ∧ (-40000000000 ≤ x * x ∧ x * x ≤ 40000000000) ∧
    (-480000000000000 ≤ (y * y - x * x) * (l + r) ∧ (y * y - x * x) * (l + r) ≤ 480000000000000) := by
  have h1 := mulbs (x := y - x) (X := 400000) (y := p) (Y := 200000) (by omega) (by omega) (by omega) (by omega)
  have h2 := mulbs (x := y) (X := 200000) (y := y) (Y := 200000) (by omega) (by omega) (by omega) (by omega)
  have h3 := mulbs (x := x) (X := 200000) (y := x) (Y := 200000) (by omega) (by omega) (by omega) (by omega)
  have h4 := mulbs (x := y * y - x * x) (X := 80000000000) (y := l + r) (Y := 6000) (by omega) (by omega) (by omega) (by omega)
  omega
theorem area_twice (p l r x y : Int) : (y - x) * (wid p l r x + wid p l r y) = 2 * area p l r x y := by
  unfold wid area
  have e : (y - x) * (y + x) = y * y - x * x := by rw [Int.sub_mul, Int.mul_add, Int.mul_add, Int.mul_comm x y]; omega
  have e1 : 1000 * p - 2 * x * (l + r) + (1000 * p - 2 * y * (l + r)) = 2 * (1000 * p - (y + x) * (l + r)) := by
    rw [Int.mul_assoc, Int.mul_assoc, Int.add_mul]; omega
  rw [e1, Int.mul_left_comm, Int.mul_sub, ← Int.mul_assoc (y - x) (y + x), e, ← Int.mul_assoc (y - x) 1000 p, Int.mul_comm (y - x) 1000]
theorem area_ev {p l r a b s : Int} {h : Bool} {t x y : Int} : Ev (fun k => thread_Area.f k p l r a b s h t x y)
    (if Valid p l r a b s t then if ((-b ≤ x ∧ x ≤ a) ∧ (-b ≤ y ∧ y ≤ a)) ∧ x ≤ y then ((low (area p l r x y) 2000).1, (low (area p l r x y) 2000).2, 0) else (0, 0, 3) else (0, 0, 2)) := by
  unfold thread_Area.f
  refine Ev.bind open_ev ?_
  by_cases hv : Valid p l r a b s t
  rotate_left
  · simp only [if_neg hv]; exact Ev.pure _
  simp only [if_pos hv, if_true]
  obtain ⟨hp, hl, hr, ha, hb, hab, hs, ht, hwa, hwb⟩ := hv
  simp only [has_eq2 hb, Option.bind_some]
  by_cases h1 : (-b ≤ x ∧ x ≤ a) ∧ (-b ≤ y ∧ y ≤ a)
  rotate_left
  · rw [decide_eq_false h1]
    simp only [Bool.false_eq_true, if_false, Bool.not_false, if_neg (fun q : ((-b ≤ x ∧ x ≤ a) ∧ (-b ≤ y ∧ y ≤ a)) ∧ x ≤ y => h1 q.1)]
    exact Ev.succ (Ev.of fun k => by simp [thread_Area.j0])
  rw [decide_eq_true h1]
  simp only [if_true]
  refine Ev.succ ?_
  simp only [thread_Area.j0]
  by_cases h2 : x > y
  · rw [decide_eq_true h2, if_neg (fun q : ((-b ≤ x ∧ x ≤ a) ∧ (-b ≤ y ∧ y ≤ a)) ∧ x ≤ y => by omega)]
    simp only [if_true]; exact Ev.pure _
  rw [decide_eq_false h2, if_pos ⟨h1, by omega⟩]
  have wx := (width_eq (a := a) (b := b) (s := s) (h := h) (t := t) (y := x) (by omega) hl hr (p := p) (by omega)).1
  have wy := (width_eq (a := a) (b := b) (s := s) (h := h) (t := t) (y := y) (by omega) hl hr (p := p) (by omega)).1
  have bx := wid_bound (p := p) (by omega) hl hr (y := x) (by omega)
  have by_ := wid_bound (p := p) (by omega) hl hr (y := y) (by omega)
  have hA := area_bound (p := p) (by omega) hl hr (x := x) (y := y) (by omega) (by omega)
  have hA2 : -1000000000000000 ≤ area p l r x y ∧ area p l r x y ≤ 1000000000000000 := by unfold area; rw [Int.mul_assoc]; omega
  simp only [Bool.false_eq_true, if_false, wx, wy, Option.bind_some]
  rw [wrap64_id (x := y - x) (by omega) (by omega), wrap64_id (x := wid p l r x + wid p l r y) (by omega) (by omega), area_twice, wrap64_id (by omega) (by omega), ← low_two (area p l r x y) 2000 2 (by omega)]
  exact Ev.bind (ratio_ev _ 4000 (by omega) (by omega) (by omega) (by omega)) (Ev.pure _)
end Go.Proofs.Yticbhgjenidjlaa.T
namespace Go.Proofs.Yticbhgjenidjlaa.T
open Go.RowKit Go.Proofs.YticbhgjenidjlaaW.PrintWords Go.Proofs.YticbhgjenidjlaaW.PrintLast
set_option linter.unusedVariables false
set_option linter.unusedSimpArgs false

theorem width_ev {p l r a b s : Int} {h : Bool} {t y : Int} : Ev (fun k => thread_Width.f k p l r a b s h t y)
    (if Valid p l r a b s t then if -b ≤ y ∧ y ≤ a then ((low (wid p l r y) 2000).1, (low (wid p l r y) 2000).2, 0) else (0, 0, 3) else (0, 0, 2)) := by
  unfold thread_Width.f
  refine Ev.bind open_ev ?_
  by_cases hv : Valid p l r a b s t
  rotate_left
  · simp only [if_neg hv]; exact Ev.pure _
  simp only [if_pos hv, if_true]
  obtain ⟨hp, hl, hr, ha, hb, hab, hs, ht, hwa, hwb⟩ := hv
  simp only [has_eq1 hb, Option.bind_some]
  by_cases h1 : -b ≤ y ∧ y ≤ a
  rotate_left
  · simp only [decide_eq_false h1, Bool.false_eq_true, if_false, if_neg h1]; exact Ev.pure _
  simp only [decide_eq_true h1, if_true, if_pos h1]
  have wy := (width_eq (a := a) (b := b) (s := s) (h := h) (t := t) (y := y) (by omega) hl hr (p := p) (by omega)).1
  have by_ := wid_bound (p := p) (by omega) hl hr (y := y) (by omega)
  simp only [wy, Option.bind_some]
  exact Ev.bind (ratio_ev _ 2000 (by omega) (by omega) (by omega) (by omega)) (Ev.pure _)

end Go.Proofs.Yticbhgjenidjlaa.T
namespace Go.Proofs.Yticbhgjenidjlaa.T
open Go.RowKit Go.Proofs.YticbhgjenidjlaaW.PrintWords Go.Proofs.YticbhgjenidjlaaW.PrintLast
set_option linter.unusedVariables false
set_option linter.unusedSimpArgs false

structure CutOk (p l r a b s : Int) (h : Bool) (t : Int) (c0 c1 c2 c3 c4 c5 c6 : Int) : Prop where
  valid : Valid p l r a b s t
  left : l ≤ 1199
  right : r ≤ 1199
  above : a ≤ 100000
  below : b ≤ 100000
  pitch : p = 100 + c0
  small : p ≤ 65635
theorem tmod_bound {x n : Int} (h0 : 0 ≤ x) (hn : 0 < n) : 0 ≤ x.tmod n ∧ x.tmod n < n ∧ x.tmod n ≤ x := by
  have h1 := Int.tmod_lt_of_pos x hn
  have h2 := Int.tmod_nonneg n h0
  refine ⟨h2, h1, ?_⟩
  rw [Int.tmod_eq_emod_of_nonneg h0]
  have e := Int.mul_ediv_add_emod x n
  have := Int.mul_nonneg (Int.le_of_lt hn) (Int.ediv_nonneg h0 (Int.le_of_lt hn))
  omega
theorem cut_ev {c0 c1 c2 c3 c4 c5 c6 : Int} {h : Bool} (b0 : 0 ≤ c0 ∧ c0 ≤ 65535) (b1 : 0 ≤ c1 ∧ c1 ≤ 65535) (b2 : 0 ≤ c2 ∧ c2 ≤ 65535) (b3 : 0 ≤ c3 ∧ c3 ≤ 65535) (b4 : 0 ≤ c4 ∧ c4 ≤ 65535) (b5 : 0 ≤ c5 ∧ c5 ≤ 255) (b6 : 0 ≤ c6 ∧ c6 ≤ 255) :
    ∃ p l r a b s t, acmelaw01_Cut_form.f c0 c1 c2 c3 c4 c5 c6 h = some (p, l, r, a, b, s, h, t) ∧ CutOk p l r a b s h t c0 c1 c2 c3 c4 c5 c6 := by
  have w0 := wrap64_id (x := c0) (by omega) (by omega)
  have w1 := wrap64_id (x := c1) (by omega) (by omega)
  have w2 := wrap64_id (x := c2) (by omega) (by omega)
  have w3 := wrap64_id (x := c3) (by omega) (by omega)
  have w4 := wrap64_id (x := c4) (by omega) (by omega)
  have w5 := wrap64_id (x := c5) (by omega) (by omega)
  have w6 := wrap64_id (x := c6) (by omega) (by omega)
  have t1 := tmod_bound (n := 1200) b1.1 (by omega)
  have t2 := tmod_bound (n := 1200) b2.1 (by omega)
  have t5 := tmod_bound (n := 8) b5.1 (by omega)
  have t6 := tmod_bound (n := 101) b6.1 (by omega)
  unfold acmelaw01_Cut_form.f
  simp only [w0, w1, w2, w3, w4, w5, w6]
  generalize hl : c1.tmod 1200 = l at *
  generalize hr : c2.tmod 1200 = r at *
  generalize hs : c5.tmod 8 = s at *
  generalize ht : c6.tmod 101 = t at *
  rw [wrap64_id (x := l + r) (by omega) (by omega), wrap64_id (x := 100 + c0) (by omega) (by omega), wrap64_id (x := 500 * (100 + c0)) (by omega) (by omega), wrap64_id (x := 1 + s) (by omega) (by omega)]
  by_cases hn : l + r > 0
  · rw [if_pos hn, if_neg (by omega)]
    have hq0 : 0 ≤ (500 * (100 + c0)).tdiv (l + r) := Int.tdiv_nonneg (by omega) (by omega)
    have hq1 : (500 * (100 + c0)).tdiv (l + r) * (l + r) ≤ 500 * (100 + c0) := by
      have := Int.tdiv_mul_le (500 * (100 + c0)) (b := l + r) (by omega)
      have h2 : Int.tdiv (500 * (100 + c0)) (l + r) * (l + r) + Int.tmod (500 * (100 + c0)) (l + r) = 500 * (100 + c0) := by
        rw [Int.mul_comm]; exact Int.mul_tdiv_add_tmod _ _
      have h3 := Int.tmod_nonneg (l + r) (show 0 ≤ 500 * (100 + c0) by omega)
      omega
    have hq2 : (500 * (100 + c0)).tdiv (l + r) ≤ 500 * (100 + c0) := by
      have : (500 * (100 + c0)).tdiv (l + r) * 1 ≤ (500 * (100 + c0)).tdiv (l + r) * (l + r) := Int.mul_le_mul_of_nonneg_left (by omega) hq0
      omega
    generalize hq : (500 * (100 + c0)).tdiv (l + r) = q at *
    rw [wrap64_id (x := q) (by omega) (by omega)]
    have hmn : 0 ≤ mn 100000 q ∧ mn 100000 q ≤ 100000 ∧ mn 100000 q ≤ q := by unfold mn; split <;> omega
    generalize mn 100000 q = m at *
    rw [wrap64_id (x := m + 1) (by omega) (by omega), if_neg (by omega)]
    have t3 := tmod_bound (n := m + 1) b3.1 (by omega)
    have t4 := tmod_bound (n := m + 1) b4.1 (by omega)
    generalize c3.tmod (m + 1) = a at *
    generalize c4.tmod (m + 1) = b at *
    rw [wrap64_id (x := a + b) (by omega) (by omega)]
    have hm : ∀ x, 0 ≤ x → x ≤ m → 0 ≤ 1000 * (100 + c0) - 2 * x * (l + r) := by
      intro x h0 h1
      have : x * (l + r) ≤ q * (l + r) := Int.mul_le_mul_of_nonneg_right (by omega) (by omega)
      rw [Int.mul_assoc]
      omega
    by_cases hz : a + b = 0
    · rw [if_pos hz]
      have hv1 : 0 ≤ 1000 * (100 + c0) - 2 * 1 * (l + r) := by omega
      exact ⟨_, _, _, _, _, _, _, rfl, ⟨⟨by omega, by omega, by omega, by omega, by omega, by omega, by omega, by omega, hv1, hm b (by omega) (by omega)⟩, by omega, by omega, by omega, by omega, rfl, by omega⟩⟩
    · rw [if_neg hz]
      exact ⟨_, _, _, _, _, _, _, rfl, ⟨⟨by omega, by omega, by omega, by omega, by omega, by omega, by omega, by omega, hm a (by omega) (by omega), hm b (by omega) (by omega)⟩, by omega, by omega, by omega, by omega, rfl, by omega⟩⟩
  · rw [if_neg hn]
    have t3 := tmod_bound (n := 100001) b3.1 (by omega)
    have t4 := tmod_bound (n := 100001) b4.1 (by omega)
    generalize c3.tmod 100001 = a at *
    generalize c4.tmod 100001 = b at *
    rw [wrap64_id (x := a + b) (by omega) (by omega)]
    have hlr : l + r = 0 := by omega
    by_cases hz : a + b = 0
    · rw [if_pos hz]
      exact ⟨_, _, _, _, _, _, _, rfl, ⟨⟨by omega, by omega, by omega, by omega, by omega, by omega, by omega, by omega, by rw [hlr]; omega, by rw [hlr]; omega⟩, by omega, by omega, by omega, by omega, rfl, by omega⟩⟩
    · rw [if_neg hz]
      exact ⟨_, _, _, _, _, _, _, rfl, ⟨⟨by omega, by omega, by omega, by omega, by omega, by omega, by omega, by omega, by rw [hlr]; omega, by rw [hlr]; omega⟩, by omega, by omega, by omega, by omega, rfl, by omega⟩⟩
end Go.Proofs.Yticbhgjenidjlaa.T
namespace Go.Proofs.Yticbhgjenidjlaa.T
open Go.RowKit
set_option linter.unusedVariables false
set_option linter.unusedSimpArgs false

theorem wfU16 {x : Int} (h : (Lit.int .u16 x).wf = true) : 0 ≤ x ∧ x ≤ 65535 := by
  simp [Lit.wf, IntKind.min, IntKind.max, IntKind.signed, IntKind.bits] at h; omega
theorem wfU8 {x : Int} (h : (Lit.int .u8 x).wf = true) : 0 ≤ x ∧ x ≤ 255 := by
  simp [Lit.wf, IntKind.min, IntKind.max, IntKind.signed, IntKind.bits] at h; omega
theorem low_facts (n d : Int) (hd : 0 < d) : ∃ g q e : Int, 0 < g ∧ 0 < e ∧ n = g * q ∧ d = g * e ∧ low n d = (q, e) ∧ Int.gcd q e = 1 := by
  have hg : 0 < Int.gcd n d := Int.gcd_pos_of_ne_zero_right _ (by omega)
  obtain ⟨q, hq⟩ := Int.gcd_dvd_left (a := n) (b := d)
  obtain ⟨e, he⟩ := Int.gcd_dvd_right (a := n) (b := d)
  have hg' : (0 : Int) < (Int.gcd n d : Int) := by omega
  have hepos : 0 < e := by
    rcases Int.lt_trichotomy e 0 with h | h | h
    · have := Int.mul_neg_of_pos_of_neg hg' h; omega
    · rw [h] at he; omega
    · exact h
  refine ⟨(Int.gcd n d : Int), q, e, hg', hepos, hq, he, ?_, ?_⟩
  · unfold low
    have h1 : n.tdiv (Int.gcd n d : Int) = q := by
      have : ((Int.gcd n d : Int) * q).tdiv (Int.gcd n d : Int) = q := Int.mul_tdiv_cancel_left q (by omega)
      rwa [← hq] at this
    have h2 : d.tdiv (Int.gcd n d : Int) = e := by
      have : ((Int.gcd n d : Int) * e).tdiv (Int.gcd n d : Int) = e := Int.mul_tdiv_cancel_left e (by omega)
      rwa [← he] at this
    rw [h1, h2]
  · have : Int.gcd ((Int.gcd n d : Int) * q) ((Int.gcd n d : Int) * e) = Int.gcd n d * Int.gcd q e := by rw [Int.gcd_mul_left]; simp
    rw [← hq, ← he] at this
    have h3 : Int.gcd n d * 1 = Int.gcd n d * Int.gcd q e := by omega
    exact (Nat.eq_of_mul_eq_mul_left hg h3).symm
end Go.Proofs.Yticbhgjenidjlaa.T
namespace Go.Proofs.Yticbhgjenidjlaa.T
open Go Go.RowKit Go.Proofs.Yticbhgjenidjlaa.Ab
set_option linter.unusedVariables false
set_option linter.unusedSimpArgs false
structure Of2000 (x q e : Int) : Prop where
  den : 0 < e
  ex : ∃ g, 0 < g ∧ x = g * q ∧ 2000 = g * e
theorem Of2000.low {x : Int} : ∃ q e, low x 2000 = (q, e) ∧ Of2000 x q e := by
  obtain ⟨g, q, e, hg, he, hn, hd, hlow, _⟩ := low_facts x 2000 (by omega)
  exact ⟨q, e, hlow, he, g, hg, hn, hd⟩
theorem Of2000.one : Of2000 0 0 1 := ⟨by omega, 2000, by omega, by omega, by omega⟩
theorem Of2000.neg {x q e : Int} (h : Of2000 x q e) : Of2000 (-x) (-q) e := by
  obtain ⟨he, g, hg, hn, hd⟩ := h
  exact ⟨he, g, hg, by rw [hn, Int.mul_neg], hd⟩
theorem Of2000.bound {x q e : Int} (h : Of2000 x q e) (h0 : -4000000000000000000 ≤ x) (h1 : x ≤ 4000000000000000000) : -4000000000000000000 ≤ q ∧ q ≤ 4000000000000000000 := by
  obtain ⟨he, g, hg, hn, hd⟩ := h
  rcases Int.le_total 0 q with hq | hq
  · have : 1 * q ≤ g * q := Int.mul_le_mul_of_nonneg_right (by omega) hq
    omega
  · have : 1 * (-q) ≤ g * (-q) := Int.mul_le_mul_of_nonneg_right (by omega) (by omega)
    rw [Int.mul_neg, Int.mul_neg] at this; omega
theorem sum_ok {k : Nat} {x q e y u d : Int} (h : Of2000 x q e) (h' : Of2000 y u d) (hx : -4000000000000000000 ≤ x) (hx1 : x ≤ 4000000000000000000) (hy : -4000000000000000000 ≤ y) (hy1 : y ≤ 4000000000000000000) :
    acmelaw01_sum.f k q e u d = some (x + y, true) := by
  obtain ⟨he, g, hg, hn, hd⟩ := h
  obtain ⟨he', g', hg', hn', hd'⟩ := h'
  have f1 : ∀ {g e : Int}, 0 < g → 0 < e → 2000 = g * e → Int.tmod 2000 e = 0 ∧ Int.tdiv 2000 e = g ∧ g ≤ 2000 := by
    intro g e hg he hd
    refine ⟨by rw [hd]; exact Int.mul_tmod_left _ _, by rw [hd]; exact Int.mul_tdiv_cancel _ (by omega), ?_⟩
    have : g * 1 ≤ g * e := Int.mul_le_mul_of_nonneg_left (by omega) (by omega)
    omega
  obtain ⟨a1, a2, a3⟩ := f1 hg he hd
  obtain ⟨b1, b2, b3⟩ := f1 hg' he' hd'
  have e1 : q * g = x := by rw [hn, Int.mul_comm]
  have e2 : u * g' = y := by rw [hn', Int.mul_comm]
  have z : ((0 : Int) != 0) = false := rfl
  unfold acmelaw01_sum.f acmelaw01_sum.T
  simp only [i64_wrap, a1, a2, b1, b2, z, cond_false, decide_eq_false (show ¬ e < 1 by omega), decide_eq_false (show ¬ d < 1 by omega), decide_eq_false (show ¬ e = 0 by omega), decide_eq_false (show ¬ d = 0 by omega),
    wrap64_id (x := g) (by omega) (by omega), wrap64_id (x := g') (by omega) (by omega), e1, e2, wrap64_id (x := x) (by omega) (by omega), wrap64_id (x := y) (by omega) (by omega), wrap64_id (x := x + y) (by omega) (by omega)]
  rfl
theorem width_of {p l r a b s : Int} {h : Bool} {t y : Int} (hv : Valid p l r a b s t) (hy : -b ≤ y ∧ y ≤ a) : ∃ q e, Ev (fun k => thread_Width.f k p l r a b s h t y) (q, e, 0) ∧ Of2000 (wid p l r y) q e := by
  obtain ⟨q, e, hl, ho⟩ := Of2000.low (x := wid p l r y)
  refine ⟨q, e, ?_, ho⟩
  have := width_ev (p := p) (l := l) (r := r) (a := a) (b := b) (s := s) (h := h) (t := t) (y := y)
  rw [if_pos hv, if_pos hy, hl] at this
  exact this
theorem area_of {p l r a b s : Int} {h : Bool} {t x y : Int} (hv : Valid p l r a b s t) (hx : -b ≤ x ∧ x ≤ a) (hy : -b ≤ y ∧ y ≤ a) (hxy : x ≤ y) : ∃ q e, Ev (fun k => thread_Area.f k p l r a b s h t x y) (q, e, 0) ∧ Of2000 (area p l r x y) q e := by
  obtain ⟨q, e, hl, ho⟩ := Of2000.low (x := area p l r x y)
  refine ⟨q, e, ?_, ho⟩
  have := area_ev (p := p) (l := l) (r := r) (a := a) (b := b) (s := s) (h := h) (t := t) (x := x) (y := y)
  rw [if_pos hv, if_pos ⟨⟨hx, hy⟩, hxy⟩, hl] at this
  exact this
theorem at_eq {p l r a b s : Int} {h : Bool} {t n : Int} (hv : Valid p l r a b s t) (hn : 0 ≤ n ∧ n ≤ 65535) : ∃ y, acmelaw01_at.f p l r a b s h t n = some y ∧ -b ≤ y ∧ y ≤ a := by
  obtain ⟨hp, hl, hr, ha, hb, hab, hs, ht, hwa, hwb⟩ := hv
  have t1 := tmod_bound (n := a + b + 1) hn.1 (by omega)
  refine ⟨-b + n.tmod (a + b + 1), ?_, by omega, by omega⟩
  unfold acmelaw01_at.f
  simp only [wrap64_id (x := a + b) (by omega) (by omega), wrap64_id (x := a + b + 1) (by omega) (by omega), wrap64_id (x := n) (by omega) (by omega), wrap64_id (x := -b) (by omega) (by omega), wrap64_id (x := -b + n.tmod (a + b + 1)) (by omega) (by omega), if_neg (show ¬ a + b + 1 = 0 by omega)]
theorem three (x y z : Int) : ∃ u v w, u ≤ v ∧ v ≤ w ∧ (if z < if y < x then y else x then z else if y < x then y else x) = u ∧ (if z > if y > x then y else x then z else if y > x then y else x) = w ∧
    (if (if z < if y > x then y else x then z else if y > x then y else x) > if y < x then y else x then if z < if y > x then y else x then z else if y > x then y else x else if y < x then y else x) = v ∧ (u = x ∨ u = y ∨ u = z) ∧ (v = x ∨ v = y ∨ v = z) ∧ (w = x ∨ w = y ∨ w = z) := by
  refine ⟨_, _, _, ?_, ?_, rfl, rfl, rfl, ?_, ?_, ?_⟩ <;> (repeat' split) <;> omega
theorem pure_ThreadTooth (a0_0 : Int) (a0_1 : Int) (a0_2 : Int) (a0_3 : Int) (a0_4 : Int) (a0_5 : Int) (a0_6 : Int) (a0_7 : Bool) (a1_0 : Int) (a1_1 : Int) (a1_2 : Int) (w0_0 : (Lit.int .u16 a0_0).wf = true) (w0_1 : (Lit.int .u16 a0_1).wf = true) (w0_2 : (Lit.int .u16 a0_2).wf = true) (w0_3 : (Lit.int .u16 a0_3).wf = true) (w0_4 : (Lit.int .u16 a0_4).wf = true) (w0_5 : (Lit.int .u8 a0_5).wf = true) (w0_6 : (Lit.int .u8 a0_6).wf = true) (w1_0 : (Lit.int .u16 a1_0).wf = true) (w1_1 : (Lit.int .u16 a1_1).wf = true) (w1_2 : (Lit.int .u16 a1_2).wf = true) : ∃ k, acmelaw01_ThreadTooth.f k a0_0 a0_1 a0_2 a0_3 a0_4 a0_5 a0_6 a0_7 a1_0 a1_1 a1_2 = some true := by
  have b0 := wfU16 w0_0
  have b1 := wfU16 w0_1
  have b2 := wfU16 w0_2
  have b3 := wfU16 w0_3
  have b4 := wfU16 w0_4
  have b5 := wfU8 w0_5
  have b6 := wfU8 w0_6
  obtain ⟨p, l, r, a, b, s, t, hcut, hok⟩ := cut_ev (h := a0_7) b0 b1 b2 b3 b4 b5 b6
  obtain ⟨hv, hl9, hr9, ha9, hb9, _, hp9⟩ := hok
  have hv' := hv
  obtain ⟨hp, hl, hr, ha, hb, hab, hs, ht, hwa, hwb⟩ := hv'
  obtain ⟨x, hx, hx1⟩ := at_eq (h := a0_7) hv (wfU16 w1_0)
  obtain ⟨y, hy, hy1⟩ := at_eq (h := a0_7) hv (wfU16 w1_1)
  obtain ⟨z, hz, hz1⟩ := at_eq (h := a0_7) hv (wfU16 w1_2)
  obtain ⟨u, v, w, huv, hvw, e1, e2, e3, hu, hv1, hw⟩ := three x y z
  have hu1 : -b ≤ u ∧ u ≤ a := by omega
  have hv2 : -b ≤ v ∧ v ≤ a := by omega
  have hw1 : -b ≤ w ∧ w ≤ a := by omega
  refine Ev.ex ?_
  unfold acmelaw01_ThreadTooth.f
  refine Ev.bind (v := Value.bool true) ?_ (Ev.of fun _ => rfl)
  unfold acmelaw01_ThreadTooth.T
  simp only [hcut, hx, hy, hz, Option.bind_some, e1, e2, e3]
  obtain ⟨qa, ea, fa, oa⟩ := width_of (h := a0_7) hv hu1
  obtain ⟨qb, eb, fb, ob⟩ := width_of (h := a0_7) hv hw1
  obtain ⟨qm, em, fm, om⟩ := width_of (h := a0_7) (y := 0) hv (by omega)
  obtain ⟨qu, eu, fu, ou⟩ := area_of (h := a0_7) hv hu1 hv2 huv
  obtain ⟨qv, ee, fv, ov⟩ := area_of (h := a0_7) hv hv2 hw1 hvw
  obtain ⟨qw, ew, fw, ow⟩ := area_of (h := a0_7) hv hu1 hw1 (by omega)
  refine Ev.bind fa ?_
  refine Ev.bind fb ?_
  refine Ev.bind fm ?_
  refine Ev.bind fu ?_
  refine Ev.bind fv ?_
  refine Ev.bind fw ?_
  have z0 : ((0 : Int) != 0) = false := rfl
  have ba := wid_bound (p := p) (by omega) hl hr (y := u) (by omega)
  have bb := wid_bound (p := p) (by omega) hl hr (y := w) (by omega)
  have bm := wid_bound (p := p) (by omega) hl hr (y := 0) (by omega)
  have bA : ∀ x y : Int, -b ≤ x ∧ x ≤ a → -b ≤ y ∧ y ≤ a → -1000000000000000 ≤ area p l r x y ∧ area p l r x y ≤ 1000000000000000 := by
    intro x y hx hy
    have hA := area_bound (p := p) (by omega) hl hr (x := x) (y := y) (by omega) (by omega)
    unfold area; rw [Int.mul_assoc]; omega
  have cu := bA u v hu1 hv2
  have cv := bA v w hv2 hw1
  have cw := bA u w hu1 hw1
  have nb := ob.bound (by omega) (by omega)
  have hneg : wrap64 (0 - qb) = -qb := by rw [wrap64_id (by omega) (by omega)]; omega
  simp only [z0, cond_false, i64_wrap, hneg]
  refine Ev.bind (Ev.of fun k => sum_ok (k := k) oa ob.neg (by omega) (by omega) (by omega) (by omega)) ?_
  refine Ev.bind (Ev.of fun k => sum_ok (k := k) om om (by omega) (by omega) (by omega) (by omega)) ?_
  refine Ev.bind (Ev.of fun k => sum_ok (k := k) ob Of2000.one (by omega) (by omega) (by omega) (by omega)) ?_
  refine Ev.bind (Ev.of fun k => sum_ok (k := k) oa Of2000.one (by omega) (by omega) (by omega) (by omega)) ?_
  refine Ev.bind (Ev.of fun k => sum_ok (k := k) ou ov (by omega) (by omega) (by omega) (by omega)) ?_
  refine Ev.bind (Ev.of fun k => sum_ok (k := k) ow Of2000.one (by omega) (by omega) (by omega) (by omega)) ?_
  have h5 : area p l r u v + area p l r v w = area p l r u w + 0 := by
    unfold area
    have : ∀ x y : Int, 1000 * (y - x) * p = 1000 * (y * p) - 1000 * (x * p) := by intro x y; rw [Int.mul_assoc, Int.sub_mul, Int.mul_sub]
    have k2 : ∀ x y : Int, (y * y - x * x) * (l + r) = y * y * (l + r) - x * x * (l + r) := by intro x y; rw [Int.sub_mul]
    rw [this, this, this, k2, k2, k2]; omega
  have hwr : ∀ y, wid p l r y = 1000 * p - 2 * (y * (l + r)) := by intro y; unfold wid; rw [Int.mul_assoc]
  have mb : ∀ y : Int, -b ≤ y → y ≤ a → (-(b * (l + r)) ≤ y * (l + r) ∧ y * (l + r) ≤ a * (l + r)) := by
    intro y h1 h2
    have g1 : -b * (l + r) ≤ y * (l + r) := Int.mul_le_mul_of_nonneg_right h1 (by omega)
    have g2 : y * (l + r) ≤ a * (l + r) := Int.mul_le_mul_of_nonneg_right h2 (by omega)
    rw [Int.neg_mul] at g1
    exact ⟨g1, g2⟩
  rw [Int.mul_assoc] at hwa hwb
  have mu := mb u hu1.1 hu1.2
  have mw := mb w hw1.1 hw1.2
  have hB1 := mulb (x := w - u) (X := 400000) (y := l + r) (Y := 6000) (by omega) (by omega) (by omega) (by omega)
  have h1 : wid p l r u + -wid p l r w = 2 * (w - u) * (l + r) := by
    rw [hwr, hwr, Int.mul_assoc, Int.sub_mul]; omega
  have h2 : wid p l r 0 + wid p l r 0 = 2000 * p := by rw [hwr]; omega
  have h3 : wid p l r w + 0 ≥ 0 := by rw [hwr]; omega
  have h4 : wid p l r u + 0 ≤ 2000 * p := by rw [hwr]; omega
  have known : Ev (fun _ => (acmelaw01_known.f).bind fun t => (some (Value.bool t))) (.bool true) := Ev.pure _
  simp only [cond_true, wrap64_id (x := w - u) (by omega) (by omega), wrap64_id (x := 2 * (w - u)) (by omega) (by omega), wrap64_id (x := l + r) (by omega) (by omega), wrap64_id (x := 2 * (w - u) * (l + r)) (by rw [Int.mul_assoc]; omega) (by rw [Int.mul_assoc]; omega), wrap64_id (x := 2000 * p) (by omega) (by omega), h1, h2, h5, decide_eq_true h3, decide_eq_true h4, beq_self_eq_true]
  exact known
end Go.Proofs.Yticbhgjenidjlaa.T
namespace Go.Proofs.Yticbhgjenidjlaa.threadTooth
open Go.ChangeShapes Go.WideShapes Go.ChangeAt Go.RowKit Go.Proofs.Yticbhgjenidjlaa.T
open Go.ChangeMaps (open_string shut_string)
set_option linter.unusedVariables false
theorem own : ownKnob Try.prog.godebug = none := by kernel_rfl
theorem laidOut : laidOutB Try.prog = true := by kernel_rfl
set_option maxRecDepth 100000 in
theorem lifted (os : Os) (started : os.Started) (H : Type) (enc : TypeId × Value → H) :
    ReturnsInHanded {} Try.checked os 8 .any (Rows.threadToothSpec.pre6 enc Try.prog Try.f8 Rows.threadToothRow.domain false) (Rows.threadToothSpec.post enc Try.prog Try.f8 false true false false) := by
  refine returnsInHanded_of_change_sized (C := Try.checked) own started (by kernel_rfl) Try.func8
    (ChangeSpec.witness6 (enc := enc) (C := Try.checked) false ⟨#[], #[.agg #[.int .u16 0, .int .u16 0, .int .u16 0, .int .u16 0, .int .u16 0, .int .u8 0, .int .u8 0, .bool false], .agg #[.int .u16 0, .int .u16 0, .int .u16 0]], []⟩ 8 (by kernel_rfl) (by kernel_rfl) (by kernel_rfl) (by kernel_rfl)) ?_
  intro W base args ds gs before hval0 hW hcnd hsz0 _
  have hval : ∀ (j : Nat) t v, Try.f8.params[j]? = some t → args[j]? = some v → Value.okWide Try.prog W .any base t v := hval0
  have hW' := hW
  obtain ⟨p, q, hA0, hV, rfl, hfz, hnd⟩ := hW
  have hA : DataW.TrodAll enc Try.prog W 0 (fun _ => true) true Try.f8.params.toList args.toList ds p := hA0
  rw [Try.params8] at hA hval
  obtain ⟨v0, vs0, d0, ds0, p0, q0, hargs, rfl, rfl, h0, r0⟩ := trodAll_cons hA
  obtain ⟨v1, vs1, d1, ds1, p1, q1, rfl, rfl, rfl, h1, r1⟩ := trodAll_cons r0
  obtain ⟨rfl, rfl, rfl⟩ := trodAll_nil r1
  obtain rfl : args = #[v0, v1] := by cases args; simp_all
  obtain ⟨rfl, rfl⟩ := trodVars_none hV
  have k0 := h0
  have lt0 : ∀ x ∈ p0, x.block < W.heap.size := by obtain ⟨m, hm⟩ := k0; exact DataW.trod_lt m _ _ _ hm
  obtain ⟨fuel0, hf0⟩ := h0
  obtain ⟨a0_0, a0_1, a0_2, a0_3, a0_4, a0_5, a0_6, a0_7, e0, w0_0, w0_1, w0_2, w0_3, w0_4, w0_5, w0_6⟩ := open71 hf0
  obtain rfl : v0 = .agg #[.int .u16 a0_0, .int .u16 a0_1, .int .u16 a0_2, .int .u16 a0_3, .int .u16 a0_4, .int .u8 a0_5, .int .u8 a0_6, .bool a0_7] := agg_of_cells e0 (by simp)
  have k1 := h1
  have lt1 : ∀ x ∈ p1, x.block < W.heap.size := by obtain ⟨m, hm⟩ := k1; exact DataW.trod_lt m _ _ _ hm
  obtain ⟨fuel1, hf1⟩ := h1
  obtain ⟨a1_0, a1_1, a1_2, e1, w1_0, w1_1, w1_2⟩ := open72 hf1
  obtain rfl : v1 = .agg #[.int .u16 a1_0, .int .u16 a1_1, .int .u16 a1_2] := agg_of_cells e1 (by simp)
  clear hA0 hval0 hsz0
  obtain ⟨k, hk⟩ := pure_ThreadTooth a0_0 a0_1 a0_2 a0_3 a0_4 a0_5 a0_6 a0_7 a1_0 a1_1 a1_2 w0_0 w0_1 w0_2 w0_3 w0_4 w0_5 w0_6 w1_0 w1_1 w1_2
  refine (acmelaw01_ThreadTooth.calls k a0_0 a0_1 a0_2 a0_3 a0_4 a0_5 a0_6 a0_7 a1_0 a1_1 a1_2 true W  hk).mono fun e W' ⟨he, bel⟩ => ?_
  subst he
  exact ⟨_, rfl, _, _, _, [], _, [], hW', trodAll_mk1 (shut_bool Try.underlying4 _), (trodAll_cons_mk (Below.trod laidOut (by kernel_rfl) (of_decide_eq_true (by kernel_rfl)) k0 bel lt0) (trodAll_cons_mk (Below.trod laidOut (by kernel_rfl) (of_decide_eq_true (by kernel_rfl)) k1 bel lt1) trodAll_mk0)), rfl, bel.frame _, fun h => by cases h⟩
theorem over : Rows.threadToothRow.holds Try.pinned (OpenSpec.ofChange Rows.threadToothSpec) :=
  OpenClaim.holds_of_wide 8 Try.f8 rfl rfl rfl rfl rfl rfl rfl ⟨rfl, rfl, rfl, rfl, rfl⟩ rfl rfl rfl rfl rfl (by kernel_rfl) Try.func8 (by kernel_rfl)
    (of_decide_eq_true (by kernel_rfl)) (by unfold Func.isWrapper; first | (rw [if_pos (by decide +kernel)]; kernel_rfl) | (rw [if_neg (by decide +kernel)]; exact ⟨rfl, rfl⟩))
    (fun os started H enc _ => lifted os started H enc)
theorem proved : Rows.ThreadToothSaid := over
end Go.Proofs.Yticbhgjenidjlaa.threadTooth
namespace Go.Proofs.Yticbhgjenidjlaa
theorem threadTooth_holds : Rows.ThreadToothSaid := threadTooth.proved
end Go.Proofs.Yticbhgjenidjlaa
