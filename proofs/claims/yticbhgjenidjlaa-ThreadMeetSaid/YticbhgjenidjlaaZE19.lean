-- cut down, squeezed and laid together by pack.py (a program of this repository) out of this seat's texts
import Derived.KernelRfl
import Derived.ChangeKeysEq
import Derived.Below
import Derived.Deep.Draws
import Derived.Deep.AppendLies
import Derived.Maps.AppendAt
import Derived.OwnWalk
import Derived.Laws.BytesArg
import Derived.Laws.MakeOwn
import Derived.Laws.OwnMore
import Derived.Deep.OwnRows
import Derived.Tactics
import Derived.Lib.ConvBytes
import Derived.Laws.Slices
import Derived.WalkKit
import Derived.RowKit3
import Derived.Deep.LoopGhost
import Derived.Deep.QuietTactic
import Derived.BigQuiet
import Derived.WideLaws
import Derived.Deep.DeepCutAuto
import Derived.Deep.CutBlock
import Derived.Deep.RegionHeld3
import Derived.Laws.Rows
import Derived.Lib.AppendStr
import Derived.ArgAppend
import Derived.Laws.IdiomCopy
import Derived.OrdersHeld
import Derived.Laws.BitsLemmas
import Derived.RowKit
import Derived.Test.YticbhgjenidjlaaProg
import Derived.Laws.StructEq
import Derived.ProofKit
import Derived.OpenShut
import Derived.ShutString
import Derived.ChangeOld
import Derived.SizedLaws
import Derived.Carry
import Derived.Test.YticbhgjenidjlaaRows
import Derived.Test.YticbhgjenidjlaaZE9
import Derived.Test.YticbhgjenidjlaaZE3
import Derived.Test.YticbhgjenidjlaaZE18
import Derived.Test.YticbhgjenidjlaaZE8
import Derived.Test.YticbhgjenidjlaaZE10
import Derived.Test.YticbhgjenidjlaaZE7
import Derived.Test.YticbhgjenidjlaaZE4
import Derived.Test.YticbhgjenidjlaaZE6
import Derived.Test.YticbhgjenidjlaaZE5
import Derived.Test.YticbhgjenidjlaaZE2
import Derived.Test.YticbhgjenidjlaaZE11
import Derived.Test.YticbhgjenidjlaaZE16
import Derived.Test.YticbhgjenidjlaaZE1
import Derived.Test.YticbhgjenidjlaaZE15
import Derived.Test.YticbhgjenidjlaaZE14
import Derived.Test.YticbhgjenidjlaaZE12
import Derived.Test.YticbhgjenidjlaaZE13
import Derived.Test.YticbhgjenidjlaaZE17
namespace Go.Proofs.Yticbhgjenidjlaa.T
open Go.RowKit Go.Proofs.YticbhgjenidjlaaW.PrintWords Go.Proofs.YticbhgjenidjlaaW.PrintLast
set_option linter.unusedVariables false
set_option linter.unusedSimpArgs false

def Valid (p l r a b s t : Int) : Prop :=
  (100 ≤ p ∧ p ≤ 200000) ∧ (0 ≤ l ∧ l ≤ 3000) ∧ (0 ≤ r ∧ r ≤ 3000) ∧ (0 ≤ a ∧ a ≤ 200000) ∧ (0 ≤ b ∧ b ≤ 200000) ∧ 1 ≤ a + b ∧ (1 ≤ s ∧ s ≤ 8) ∧ (0 ≤ t ∧ t ≤ 100) ∧ 0 ≤ 1000 * p - 2 * a * (l + r) ∧ 0 ≤ 1000 * p - 2 * b * (l + r)
instance (p l r a b s t : Int) : Decidable (Valid p l r a b s t) := by unfold Valid; infer_instance
def wid (p l r y : Int) : Int := 1000 * p - 2 * y * (l + r)
theorem wid_bound {p l r y : Int} (hp : 0 ≤ p ∧ p ≤ 200000) (hl : 0 ≤ l ∧ l ≤ 3000) (hr : 0 ≤ r ∧ r ≤ 3000) (hy : -200000 ≤ y ∧ y ≤ 200000) :
    (-1200000000 ≤ y * (l + r) ∧ y * (l + r) ≤ 1200000000) ∧ -3000000000 ≤ wid p l r y ∧ wid p l r y ≤ 3000000000 := by
  have h := mulbs (x := y) (X := 200000) (y := l + r) (Y := 6000) (by omega) (by omega) (by omega) (by omega)
  unfold wid
  rw [Int.mul_assoc]
  omega
theorem width_eq {p l r a b s : Int} {h : Bool} {t y : Int} (hp : 0 ≤ p ∧ p ≤ 200000) (hl : 0 ≤ l ∧ l ≤ 3000) (hr : 0 ≤ r ∧ r ≤ 3000) (hy : -200000 ≤ y ∧ y ≤ 200000) :
    thread_form_width.f p l r a b s h t y = some (wid p l r y) ∧ acmeref01_Width.f p l r a b s h t y = some (wid p l r y) := by
  have hb := wid_bound hp hl hr hy
  unfold wid at *
  rw [Int.mul_assoc] at *
  unfold thread_form_width.f thread_form_leans.f acmeref01_Width.f
  simp only [Option.bind_some]
  rw [wrap64_id (x := l + r) (by omega) (by omega), wrap64_id (x := 2 * y) (by omega) (by omega), wrap64_id (x := 1000 * p) (by omega) (by omega)]
  rw [Int.mul_assoc, wrap64_id (x := 2 * (y * (l + r))) (by omega) (by omega), wrap64_id (by omega) (by omega)]
  exact ⟨rfl, rfl⟩
theorem within_eq1 (lo hi x : Int) : thread_within.f lo hi [x] = some (decide (lo ≤ x ∧ x ≤ hi)) := by
  unfold thread_within.f
  congr 1
  rw [Bool.eq_iff_iff]
  simp [outside]
theorem within_eq2 (lo hi x y : Int) : thread_within.f lo hi [x, y] = some (decide ((lo ≤ x ∧ x ≤ hi) ∧ (lo ≤ y ∧ y ≤ hi))) := by
  unfold thread_within.f
  congr 1
  rw [Bool.eq_iff_iff]
  simp [outside]

theorem check_ev {p l r a b s : Int} {h : Bool} {t : Int} : Ev (fun k => thread_Check.f k p l r a b s h t) (if Valid p l r a b s t then 0 else 2) := by
  refine ⟨2, fun k hk => ?_⟩
  obtain ⟨k, rfl⟩ : ∃ j, k = j + 2 := ⟨k - 2, by omega⟩
  have bad : ∀ {q1 q2 q3 q4 q5 q6 q7 q8 q9 q10 q11 q12 q13 q14 : Int} {g1 g2 : Bool}, ¬ Valid p l r a b s t → ∀ b0 : Bool, b0 = false → thread_Check.j0 (k + 2) b0 q1 q2 q3 q4 q5 q6 g1 q7 q8 q9 q10 q11 q12 q13 g2 q14 = some (if Valid p l r a b s t then 0 else 2) := by
    intro q1 q2 q3 q4 q5 q6 q7 q8 q9 q10 q11 q12 q13 q14 g1 g2 hv b0 hb
    rw [if_neg hv, hb]; simp [thread_Check.j0, thread_Check.j1]
  simp only [thread_Check.f, within_eq1, within_eq2, Option.bind_some]
  by_cases h1 : 100 ≤ p ∧ p ≤ 200000
  rotate_left
  · rw [if_neg (by simpa using h1)]
    exact bad (fun hv => h1 hv.1) _ rfl
  rw [if_pos (by simpa using h1)]
  by_cases h2 : (0 ≤ l ∧ l ≤ 3000) ∧ (0 ≤ r ∧ r ≤ 3000)
  rotate_left
  · rw [if_neg (by simpa using h2)]
    exact bad (fun hv => h2 ⟨hv.2.1, hv.2.2.1⟩) _ rfl
  rw [if_pos (by simpa using h2)]
  by_cases h3 : (0 ≤ a ∧ a ≤ 200000) ∧ (0 ≤ b ∧ b ≤ 200000)
  rotate_left
  · rw [if_neg (by simpa using h3)]
    exact bad (fun hv => h3 ⟨hv.2.2.2.1, hv.2.2.2.2.1⟩) _ rfl
  rw [if_pos (by simpa using h3), wrap64_id (by omega) (by omega)]
  by_cases h4 : 1 ≤ a + b
  rotate_left
  · exact bad (fun hv => h4 hv.2.2.2.2.2.1) _ (by simp; omega)
  rw [decide_eq_true (show a + b ≥ 1 from h4)]
  have b1 : ∀ {q1 q2 q3 q4 q5 q6 q7 q8 q9 q10 q11 q12 q13 q14 : Int} {g1 g2 : Bool}, ¬ Valid p l r a b s t → ∀ b0 : Bool, b0 = true → thread_Check.j1 (k + 1) b0 q1 q2 q3 q4 q5 q6 g1 q7 q8 q9 q10 q11 q12 q13 g2 q14 = some (if Valid p l r a b s t then 0 else 2) := by
    intro q1 q2 q3 q4 q5 q6 q7 q8 q9 q10 q11 q12 q13 q14 g1 g2 hv b0 hb
    rw [if_neg hv, hb]; simp [thread_Check.j1]
  simp only [thread_Check.j0, if_true, within_eq1, Option.bind_some]
  by_cases h5 : 1 ≤ s ∧ s ≤ 8
  rotate_left
  · rw [if_neg (by simpa using h5)]
    exact b1 (fun hv => h5 hv.2.2.2.2.2.2.1) _ rfl
  rw [if_pos (by simpa using h5)]
  by_cases h6 : 0 ≤ t ∧ t ≤ 100
  rotate_left
  · exact b1 (fun hv => h6 hv.2.2.2.2.2.2.2.1) _ (by simp; omega)
  rw [decide_eq_true h6]
  have wa := (width_eq (a := a) (b := b) (s := s) (h := h) (t := t) (y := a) (by omega) h2.1 h2.2 (p := p) (by omega)).1
  have wb := (width_eq (a := a) (b := b) (s := s) (h := h) (t := t) (y := b) (by omega) h2.1 h2.2 (p := p) (by omega)).1
  simp only [thread_Check.j1, Bool.not_true, Bool.false_eq_true, if_false, wa, wb, Option.bind_some]
  by_cases h7 : wid p l r a < 0
  · rw [if_pos h7, if_neg]; intro hv; unfold wid at h7; unfold Valid at hv; omega
  · rw [if_neg h7]
    by_cases h8 : wid p l r b < 0
    · rw [if_pos h8, if_neg]; intro hv; unfold wid at h8; unfold Valid at hv; omega
    · rw [if_neg h8, if_pos]
      unfold wid at h7 h8; exact ⟨h1, h2.1, h2.2, h3.1, h3.2, h4, h5, h6, by omega, by omega⟩

end Go.Proofs.Yticbhgjenidjlaa.T
namespace Go.Proofs.Yticbhgjenidjlaa.T
open Go.RowKit Go.Proofs.YticbhgjenidjlaaW.PrintWords Go.Proofs.YticbhgjenidjlaaW.PrintLast
set_option linter.unusedVariables false
set_option linter.unusedSimpArgs false

theorem open_ev {p l r a b s : Int} {h : Bool} {t : Int} : Ev (fun k => thread_open.f k p l r a b s h t) (p, l, r, a, b, s, h, t, if Valid p l r a b s t then 0 else 2) := by
  unfold thread_open.f
  exact Ev.bind check_ev (Ev.pure _)
theorem has_eq1 {p l r a b s : Int} {h : Bool} {t x : Int} (hb : 0 ≤ b ∧ b ≤ 200000) : thread_form_has.f p l r a b s h t [x] = some (decide (-b ≤ x ∧ x ≤ a)) := by
  unfold thread_form_has.f
  rw [wrap64_id (by omega) (by omega), within_eq1]; rfl
end Go.Proofs.Yticbhgjenidjlaa.T
namespace Go.Proofs.Yticbhgjenidjlaa.T
open Go.RowKit Go.Proofs.YticbhgjenidjlaaW.PrintWords Go.Proofs.YticbhgjenidjlaaW.PrintLast
set_option linter.unusedVariables false
set_option linter.unusedSimpArgs false

theorem width_ev {p l r a b s : Int} {h : Bool} {t y : Int} : Ev (fun k => thread_Width.f k p l r a b s h t y)
    (if Valid p l r a b s t then if -b ≤ y ∧ y ≤ a then ((low (wid p l r y) 2000).1, (low (wid p l r y) 2000).2, 0) else (0, 0, 3) else (0, 0, 2)) := by
  unfold thread_Width.f
  refine Ev.bind open_ev ?_
  by_cases hv : Valid p l r a b s t
  rotate_left
  · simp only [if_neg hv]; exact Ev.pure _
  simp only [if_pos hv, if_true]
  obtain ⟨hp, hl, hr, ha, hb, hab, hs, ht, hwa, hwb⟩ := hv
  simp only [has_eq1 hb, Option.bind_some]
  by_cases h1 : -b ≤ y ∧ y ≤ a
  rotate_left
  · simp only [decide_eq_false h1, Bool.false_eq_true, if_false, if_neg h1]; exact Ev.pure _
  simp only [decide_eq_true h1, if_true, if_pos h1]
  have wy := (width_eq (a := a) (b := b) (s := s) (h := h) (t := t) (y := y) (by omega) hl hr (p := p) (by omega)).1
  have by_ := wid_bound (p := p) (by omega) hl hr (y := y) (by omega)
  simp only [wy, Option.bind_some]
  exact Ev.bind (ratio_ev _ 2000 (by omega) (by omega) (by omega) (by omega)) (Ev.pure _)

theorem leans_eq {p l r a b s : Int} {h : Bool} {t : Int} (hl : 0 ≤ l ∧ l ≤ 3000) (hr : 0 ≤ r ∧ r ≤ 3000) : thread_form_leans.f p l r a b s h t = some (l + r) := by
  unfold thread_form_leans.f
  rw [wrap64_id (by omega) (by omega)]
theorem sharp_ev {p l r a b s : Int} {h : Bool} {t : Int} : Ev (fun k => thread_Sharp.f k p l r a b s h t)
    (if Valid p l r a b s t then if l + r = 0 then (0, 0, 7) else ((low (500 * p) (l + r)).1, (low (500 * p) (l + r)).2, 0) else (0, 0, 2)) := by
  unfold thread_Sharp.f
  refine Ev.bind open_ev ?_
  by_cases hv : Valid p l r a b s t
  rotate_left
  · simp only [if_neg hv]; exact Ev.pure _
  simp only [if_pos hv, if_true]
  obtain ⟨hp, hl, hr, ha, hb, hab, hs, ht, hwa, hwb⟩ := hv
  simp only [leans_eq hl hr, Option.bind_some]
  by_cases h1 : l + r = 0
  · simp only [if_pos h1]; exact Ev.pure _
  simp only [if_neg h1]
  rw [wrap64_id (by omega) (by omega)]
  exact Ev.bind (ratio_ev _ _ (by omega) (by omega) (by omega) (by omega)) (Ev.pure _)
end Go.Proofs.Yticbhgjenidjlaa.T
namespace Go.Proofs.Yticbhgjenidjlaa.T
open Go.RowKit Go.Proofs.YticbhgjenidjlaaW.PrintWords Go.Proofs.YticbhgjenidjlaaW.PrintLast
set_option linter.unusedVariables false
set_option linter.unusedSimpArgs false

structure CutOk (p l r a b s : Int) (h : Bool) (t : Int) (c0 c1 c2 c3 c4 c5 c6 : Int) : Prop where
  valid : Valid p l r a b s t
  left : l ≤ 1199
  right : r ≤ 1199
  above : a ≤ 100000
  below : b ≤ 100000
  pitch : p = 100 + c0
  small : p ≤ 65635
theorem tmod_bound {x n : Int} (h0 : 0 ≤ x) (hn : 0 < n) : 0 ≤ x.tmod n ∧ x.tmod n < n ∧ x.tmod n ≤ x := by
  have h1 := Int.tmod_lt_of_pos x hn
  have h2 := Int.tmod_nonneg n h0
  refine ⟨h2, h1, ?_⟩
  rw [Int.tmod_eq_emod_of_nonneg h0]
  have e := Int.mul_ediv_add_emod x n
  have := Int.mul_nonneg (Int.le_of_lt hn) (Int.ediv_nonneg h0 (Int.le_of_lt hn))
  omega
theorem cut_ev {c0 c1 c2 c3 c4 c5 c6 : Int} {h : Bool} (b0 : 0 ≤ c0 ∧ c0 ≤ 65535) (b1 : 0 ≤ c1 ∧ c1 ≤ 65535) (b2 : 0 ≤ c2 ∧ c2 ≤ 65535) (b3 : 0 ≤ c3 ∧ c3 ≤ 65535) (b4 : 0 ≤ c4 ∧ c4 ≤ 65535) (b5 : 0 ≤ c5 ∧ c5 ≤ 255) (b6 : 0 ≤ c6 ∧ c6 ≤ 255) :
    ∃ p l r a b s t, acmelaw01_Cut_form.f c0 c1 c2 c3 c4 c5 c6 h = some (p, l, r, a, b, s, h, t) ∧ CutOk p l r a b s h t c0 c1 c2 c3 c4 c5 c6 := by
  have w0 := wrap64_id (x := c0) (by omega) (by omega)
  have w1 := wrap64_id (x := c1) (by omega) (by omega)
  have w2 := wrap64_id (x := c2) (by omega) (by omega)
  have w3 := wrap64_id (x := c3) (by omega) (by omega)
  have w4 := wrap64_id (x := c4) (by omega) (by omega)
  have w5 := wrap64_id (x := c5) (by omega) (by omega)
  have w6 := wrap64_id (x := c6) (by omega) (by omega)
  have t1 := tmod_bound (n := 1200) b1.1 (by omega)
  have t2 := tmod_bound (n := 1200) b2.1 (by omega)
  have t5 := tmod_bound (n := 8) b5.1 (by omega)
  have t6 := tmod_bound (n := 101) b6.1 (by omega)
  unfold acmelaw01_Cut_form.f
  simp only [w0, w1, w2, w3, w4, w5, w6]
  generalize hl : c1.tmod 1200 = l at *
  generalize hr : c2.tmod 1200 = r at *
  generalize hs : c5.tmod 8 = s at *
  generalize ht : c6.tmod 101 = t at *
  rw [wrap64_id (x := l + r) (by omega) (by omega), wrap64_id (x := 100 + c0) (by omega) (by omega), wrap64_id (x := 500 * (100 + c0)) (by omega) (by omega), wrap64_id (x := 1 + s) (by omega) (by omega)]
  by_cases hn : l + r > 0
  · rw [if_pos hn, if_neg (by omega)]
    have hq0 : 0 ≤ (500 * (100 + c0)).tdiv (l + r) := Int.tdiv_nonneg (by omega) (by omega)
    have hq1 : (500 * (100 + c0)).tdiv (l + r) * (l + r) ≤ 500 * (100 + c0) := by
      have := Int.tdiv_mul_le (500 * (100 + c0)) (b := l + r) (by omega)
      have h2 : Int.tdiv (500 * (100 + c0)) (l + r) * (l + r) + Int.tmod (500 * (100 + c0)) (l + r) = 500 * (100 + c0) := by
        rw [Int.mul_comm]; exact Int.mul_tdiv_add_tmod _ _
      have h3 := Int.tmod_nonneg (l + r) (show 0 ≤ 500 * (100 + c0) by omega)
      omega
    have hq2 : (500 * (100 + c0)).tdiv (l + r) ≤ 500 * (100 + c0) := by
      have : (500 * (100 + c0)).tdiv (l + r) * 1 ≤ (500 * (100 + c0)).tdiv (l + r) * (l + r) := Int.mul_le_mul_of_nonneg_left (by omega) hq0
      omega
    generalize hq : (500 * (100 + c0)).tdiv (l + r) = q at *
    rw [wrap64_id (x := q) (by omega) (by omega)]
    have hmn : 0 ≤ mn 100000 q ∧ mn 100000 q ≤ 100000 ∧ mn 100000 q ≤ q := by unfold mn; split <;> omega
    generalize mn 100000 q = m at *
    rw [wrap64_id (x := m + 1) (by omega) (by omega), if_neg (by omega)]
    have t3 := tmod_bound (n := m + 1) b3.1 (by omega)
    have t4 := tmod_bound (n := m + 1) b4.1 (by omega)
    generalize c3.tmod (m + 1) = a at *
    generalize c4.tmod (m + 1) = b at *
    rw [wrap64_id (x := a + b) (by omega) (by omega)]
    have hm : ∀ x, 0 ≤ x → x ≤ m → 0 ≤ 1000 * (100 + c0) - 2 * x * (l + r) := by
      intro x h0 h1
      have : x * (l + r) ≤ q * (l + r) := Int.mul_le_mul_of_nonneg_right (by omega) (by omega)
      rw [Int.mul_assoc]
      omega
    by_cases hz : a + b = 0
    · rw [if_pos hz]
      have hv1 : 0 ≤ 1000 * (100 + c0) - 2 * 1 * (l + r) := by omega
      exact ⟨_, _, _, _, _, _, _, rfl, ⟨⟨by omega, by omega, by omega, by omega, by omega, by omega, by omega, by omega, hv1, hm b (by omega) (by omega)⟩, by omega, by omega, by omega, by omega, rfl, by omega⟩⟩
    · rw [if_neg hz]
      exact ⟨_, _, _, _, _, _, _, rfl, ⟨⟨by omega, by omega, by omega, by omega, by omega, by omega, by omega, by omega, hm a (by omega) (by omega), hm b (by omega) (by omega)⟩, by omega, by omega, by omega, by omega, rfl, by omega⟩⟩
  · rw [if_neg hn]
    have t3 := tmod_bound (n := 100001) b3.1 (by omega)
    have t4 := tmod_bound (n := 100001) b4.1 (by omega)
    generalize c3.tmod 100001 = a at *
    generalize c4.tmod 100001 = b at *
    rw [wrap64_id (x := a + b) (by omega) (by omega)]
    have hlr : l + r = 0 := by omega
    by_cases hz : a + b = 0
    · rw [if_pos hz]
      exact ⟨_, _, _, _, _, _, _, rfl, ⟨⟨by omega, by omega, by omega, by omega, by omega, by omega, by omega, by omega, by rw [hlr]; omega, by rw [hlr]; omega⟩, by omega, by omega, by omega, by omega, rfl, by omega⟩⟩
    · rw [if_neg hz]
      exact ⟨_, _, _, _, _, _, _, rfl, ⟨⟨by omega, by omega, by omega, by omega, by omega, by omega, by omega, by omega, by rw [hlr]; omega, by rw [hlr]; omega⟩, by omega, by omega, by omega, by omega, rfl, by omega⟩⟩
end Go.Proofs.Yticbhgjenidjlaa.T
namespace Go.Proofs.Yticbhgjenidjlaa.T
open Go.RowKit
set_option linter.unusedVariables false
set_option linter.unusedSimpArgs false

theorem wfU16 {x : Int} (h : (Lit.int .u16 x).wf = true) : 0 ≤ x ∧ x ≤ 65535 := by
  simp [Lit.wf, IntKind.min, IntKind.max, IntKind.signed, IntKind.bits] at h; omega
theorem wfU8 {x : Int} (h : (Lit.int .u8 x).wf = true) : 0 ≤ x ∧ x ≤ 255 := by
  simp [Lit.wf, IntKind.min, IntKind.max, IntKind.signed, IntKind.bits] at h; omega
theorem low_facts (n d : Int) (hd : 0 < d) : ∃ g q e : Int, 0 < g ∧ 0 < e ∧ n = g * q ∧ d = g * e ∧ low n d = (q, e) ∧ Int.gcd q e = 1 := by
  have hg : 0 < Int.gcd n d := Int.gcd_pos_of_ne_zero_right _ (by omega)
  obtain ⟨q, hq⟩ := Int.gcd_dvd_left (a := n) (b := d)
  obtain ⟨e, he⟩ := Int.gcd_dvd_right (a := n) (b := d)
  have hg' : (0 : Int) < (Int.gcd n d : Int) := by omega
  have hepos : 0 < e := by
    rcases Int.lt_trichotomy e 0 with h | h | h
    · have := Int.mul_neg_of_pos_of_neg hg' h; omega
    · rw [h] at he; omega
    · exact h
  refine ⟨(Int.gcd n d : Int), q, e, hg', hepos, hq, he, ?_, ?_⟩
  · unfold low
    have h1 : n.tdiv (Int.gcd n d : Int) = q := by
      have : ((Int.gcd n d : Int) * q).tdiv (Int.gcd n d : Int) = q := Int.mul_tdiv_cancel_left q (by omega)
      rwa [← hq] at this
    have h2 : d.tdiv (Int.gcd n d : Int) = e := by
      have : ((Int.gcd n d : Int) * e).tdiv (Int.gcd n d : Int) = e := Int.mul_tdiv_cancel_left e (by omega)
      rwa [← he] at this
    rw [h1, h2]
  · have : Int.gcd ((Int.gcd n d : Int) * q) ((Int.gcd n d : Int) * e) = Int.gcd n d * Int.gcd q e := by rw [Int.gcd_mul_left]; simp
    rw [← hq, ← he] at this
    have h3 : Int.gcd n d * 1 = Int.gcd n d * Int.gcd q e := by omega
    exact (Nat.eq_of_mul_eq_mul_left hg h3).symm
theorem tdiv_facts {x e : Int} (hx : 0 ≤ x) (he : 0 < e) : 0 ≤ x.tdiv e ∧ x.tdiv e * e ≤ x ∧ x < (x.tdiv e + 1) * e ∧ x.tdiv e ≤ x ∧ x = x.tdiv e * e + x.tmod e := by
  have h0 : 0 ≤ x.tdiv e := Int.tdiv_nonneg hx (by omega)
  have h1 : x.tdiv e * e + x.tmod e = x := by rw [Int.mul_comm]; exact Int.mul_tdiv_add_tmod _ _
  have h2 := Int.tmod_nonneg e hx
  have h3 := Int.tmod_lt_of_pos x he
  have h4 : x.tdiv e * 1 ≤ x.tdiv e * e := Int.mul_le_mul_of_nonneg_left (by omega) h0
  rw [Int.add_mul]
  omega
end Go.Proofs.Yticbhgjenidjlaa.T
namespace Go.Proofs.Yticbhgjenidjlaa.T
open Go Go.RowKit Go.Proofs.Yticbhgjenidjlaa.Ab
set_option linter.unusedVariables false
set_option linter.unusedSimpArgs false
theorem width_valid {p l r a b s : Int} {h : Bool} {t y q e : Int} (hv : Valid p l r a b s t) (hy : -b ≤ y ∧ y ≤ a) (hl : low (wid p l r y) 2000 = (q, e)) : Ev (fun k => thread_Width.f k p l r a b s h t y) (q, e, 0) := by
  have := width_ev (p := p) (l := l) (r := r) (a := a) (b := b) (s := s) (h := h) (t := t) (y := y)
  rw [if_pos hv, if_pos hy, hl] at this
  exact this
theorem pure_ThreadMeet (a0_0 : Int) (a0_1 : Int) (a0_2 : Int) (a0_3 : Int) (a0_4 : Int) (a0_5 : Int) (a0_6 : Int) (a0_7 : Bool) (a1 : Int) (w0_0 : (Lit.int .u16 a0_0).wf = true) (w0_1 : (Lit.int .u16 a0_1).wf = true) (w0_2 : (Lit.int .u16 a0_2).wf = true) (w0_3 : (Lit.int .u16 a0_3).wf = true) (w0_4 : (Lit.int .u16 a0_4).wf = true) (w0_5 : (Lit.int .u8 a0_5).wf = true) (w0_6 : (Lit.int .u8 a0_6).wf = true) (w1 : (Lit.int .u16 a1).wf = true) : ∃ k, acmelaw01_ThreadMeet.f k a0_0 a0_1 a0_2 a0_3 a0_4 a0_5 a0_6 a0_7 a1 = some true := by
  have b0 := wfU16 w0_0
  have b1 := wfU16 w0_1
  have b2 := wfU16 w0_2
  have b3 := wfU16 w0_3
  have b4 := wfU16 w0_4
  have b5 := wfU8 w0_5
  have b6 := wfU8 w0_6
  obtain ⟨p, l, r, a, b, s, t, hcut, hok⟩ := cut_ev (h := a0_7) b0 b1 b2 b3 b4 b5 b6
  obtain ⟨hv, hl9, hr9, ha9, hb9, _, hp9⟩ := hok
  have hv' := hv
  obtain ⟨hp, hl, hr, ha, hb, hab, hs, ht, hwa, hwb⟩ := hv'
  refine Ev.ex ?_
  unfold acmelaw01_ThreadMeet.f
  refine Ev.bind (v := Value.bool true) ?_ (Ev.of fun _ => rfl)
  unfold acmelaw01_ThreadMeet.T
  have known : Ev (fun _ => (acmelaw01_known.f).bind fun t => (some (Value.bool t))) (.bool true) := Ev.pure _
  have e0 : ((0 : Int) != 0) = false := rfl
  have e2 : ((2 : Int) != 2) = false := rfl
  simp only [hcut, Option.bind_some]
  have c1 := wfU16 w1
  refine Ev.bind sharp_ev ?_
  simp only [if_pos hv, i64_wrap, wrap64_id (x := l + r) (by omega) (by omega)]
  by_cases hz : l + r = 0
  · simp only [if_pos hz, beq_iff_eq.mpr hz, cond_true, beq_self_eq_true, Bool.and_self]
    exact known
  simp only [if_neg hz, beq_eq_false_iff_ne.mpr hz, cond_false, e0]
  obtain ⟨g, q, e, hg, he, hn, hd, hlow, hco⟩ := low_facts (500 * p) (l + r) (by omega)
  rw [hlow]
  have hq0 : 0 < q := by
    rcases Int.lt_trichotomy q 0 with h | h | h
    · have := Int.mul_neg_of_pos_of_neg hg h; omega
    · rw [h] at hn; omega
    · exact h
  have hq1 : q ≤ 32817500 := by
    have : 1 * q ≤ g * q := Int.mul_le_mul_of_nonneg_right (by omega) (by omega)
    omega
  have he1 : e ≤ 2398 := by
    have : 1 * e ≤ g * e := Int.mul_le_mul_of_nonneg_right (by omega) (by omega)
    omega
  have hcross : q * (l + r) = 500 * p * e := by rw [hd, hn, Int.mul_left_comm, Int.mul_assoc]
  have hB1 := mulb (x := q) (X := 32817500) (y := l + r) (Y := 2398) (by omega) hq1 (by omega) (by omega)
  have hB2 := mulb (x := a) (X := 100000) (y := e) (Y := 2398) (by omega) (by omega) (by omega) he1
  have hB3 := mulb (x := b) (X := 100000) (y := e) (Y := 2398) (by omega) (by omega) (by omega) he1
  have reach : ∀ x : Int, 0 ≤ 1000 * p - 2 * x * (l + r) → x * e ≤ q := by
    intro x hx
    have h1 : g * (x * e) ≤ g * q := by
      rw [Int.mul_left_comm, ← hd, ← hn]
      rw [Int.mul_assoc] at hx
      omega
    exact Int.le_of_mul_le_mul_left h1 hg
  have far : ∀ x : Int, q < x * e → ¬ 0 ≤ 1000 * p - 2 * x * (l + r) := by
    intro x hx h0
    have := reach x h0
    omega
  have ra := reach a hwa
  have rb := reach b hwb
  have hX := tdiv_facts (x := q) (e := e) (by omega) he
  generalize hS : q.tdiv e = S at *
  have hfar : ∀ y : Int, 0 ≤ y → q < (S + 1 + y) * e := by
    intro y hy
    have : (S + 1) * e ≤ (S + 1 + y) * e := Int.mul_le_mul_of_nonneg_right (by omega) (by omega)
    omega
  simp only [decide_eq_false (show ¬ e < 1 by omega), cond_false, hcross, wrap64_id (x := 500 * p) (by omega) (by omega), wrap64_id (x := 500 * p * e) (by omega) (by omega), wrap64_id (x := a * e) (by omega) (by omega), wrap64_id (x := b * e) (by omega) (by omega),
    decide_eq_false (show ¬ a * e > q by omega), decide_eq_false (show ¬ b * e > q by omega), decide_eq_false (show ¬ e = 0 by omega), show (500 * p * e != 500 * p * e) = false from by simp,
    wrap64_id (x := S) (by omega) (by omega), wrap64_id (x := S + 1) (by omega) (by omega), wrap64_id (x := a1) (by omega) (by omega), wrap64_id (x := S + 1 + a1) (by omega) (by omega)]
  have nv1 : ¬ Valid p l r (S + 1 + a1) b s t := fun h => far _ (hfar a1 (by omega)) h.2.2.2.2.2.2.2.2.1
  have nv2 : ¬ Valid p l r a (S + 1 + a1) s t := fun h => far _ (hfar a1 (by omega)) h.2.2.2.2.2.2.2.2.2
  refine Ev.bind check_ev ?_
  simp only [if_neg nv1, e2, cond_false]
  refine Ev.bind check_ev ?_
  simp only [if_neg nv2, e2, cond_false]
  by_cases h1 : S > 200000
  · simp only [decide_eq_true h1, cond_true]
    exact known
  simp only [decide_eq_false h1, cond_false, wrap64_id (x := S + b) (by omega) (by omega)]
  by_cases h2 : S + b = 0
  · simp only [beq_iff_eq.mpr h2, cond_true]
    exact known
  simp only [beq_eq_false_iff_ne.mpr h2, cond_false]
  have hSn : 0 ≤ 1000 * p - 2 * S * (l + r) := by
    have h3 : g * (S * e) ≤ g * q := Int.mul_le_mul_of_nonneg_left hX.2.1 (by omega)
    rw [Int.mul_left_comm, ← hd, ← hn] at h3
    rw [Int.mul_assoc]
    omega
  have hvS : Valid p l r S b s t := ⟨hp, hl, hr, by omega, hb, by omega, hs, ht, hSn, hwb⟩
  obtain ⟨g4, q4, e4, hg4, he4, hn4, hd4, hlow4, _⟩ := low_facts (wid p l r S) 2000 (by omega)
  refine Ev.bind (width_valid (y := S) hvS ⟨by omega, by omega⟩ hlow4) ?_
  simp only [beq_self_eq_true, cond_true]
  have hw0 : 0 ≤ wid p l r S := hSn
  have hw1 : wid p l r S = 2 * (g * (q - S * e)) := by
    unfold wid
    rw [Int.mul_sub, Int.mul_left_comm g S e, ← hd, ← hn, Int.mul_assoc]
    omega
  have hw2 : wid p l r S < 2 * (l + r) := by
    rw [hw1, hd]
    have : q - S * e < e := by have := hX.2.2.1; rw [Int.add_mul] at this; omega
    have := Int.mul_lt_mul_of_pos_left this hg
    omega
  have hq40 : 0 ≤ q4 := by
    rcases Int.lt_or_le q4 0 with h | h
    · have := Int.mul_neg_of_pos_of_neg hg4 h; omega
    · exact h
  have he41 : e4 ≤ 2000 := by
    have : 1 * e4 ≤ g4 * e4 := Int.mul_le_mul_of_nonneg_right (by omega) (by omega)
    omega
  have hq41 : q4 ≤ 4796 := by
    have : 1 * q4 ≤ g4 * q4 := Int.mul_le_mul_of_nonneg_right (by omega) hq40
    omega
  have hiff : (q4 == 0) = (e == 1) := by
    have e5 : q4 = 0 ↔ wid p l r S = 0 := by
      constructor
      · intro h; rw [hn4, h, Int.mul_zero]
      · intro h
        rcases Int.mul_eq_zero.mp (hn4.symm.trans h) with h5 | h5
        · omega
        · exact h5
    have e6 : wid p l r S = 0 ↔ e = 1 := by
      constructor
      · intro h
        have h5 : q = S * e := by
          rcases Int.mul_eq_zero.mp (show g * (q - S * e) = 0 by omega) with h6 | h6
          · omega
          · omega
        rw [h5] at hco
        have : Int.gcd (S * e) e = e.natAbs := by rw [Int.gcd_comm]; exact Int.gcd_mul_left_right _ _
        omega
      · intro h
        have : q = S * e := by
          have h5 := hX.2.1
          have h6 := hX.2.2.1
          rw [h, Int.mul_one] at h5 h6
          rw [h]; omega
        rw [hw1, this]; simp
    rw [Bool.eq_iff_iff]
    simp only [beq_iff_eq]
    exact e5.trans e6
  have hlast : 1000 * q4 < 2 * e4 * (l + r) := by
    have h5 : g4 * (1000 * q4) < g4 * (2 * e4 * (l + r)) := by
      rw [Int.mul_left_comm, ← hn4, show g4 * (2 * e4 * (l + r)) = 2 * (g4 * e4) * (l + r) from by rw [Int.mul_assoc, Int.mul_left_comm, ← Int.mul_assoc g4, ← Int.mul_assoc 2], ← hd4]
      omega
    exact Int.lt_of_mul_lt_mul_left h5 (by omega)
  have hB5 := mulb (x := 2 * e4) (X := 4000) (y := l + r) (Y := 2398) (by omega) (by omega) (by omega) (by omega)
  simp only [decide_eq_true (show e4 > 0 from he4), decide_eq_true (show q4 ≥ 0 from hq40), cond_true, hiff, beq_self_eq_true, wrap64_id (x := 1000 * q4) (by omega) (by omega), wrap64_id (x := 2 * e4) (by omega) (by omega), wrap64_id (x := 2 * e4 * (l + r)) (by omega) (by omega), decide_eq_true hlast]
  exact known
end Go.Proofs.Yticbhgjenidjlaa.T
namespace Go.Proofs.Yticbhgjenidjlaa.threadMeet
open Go.ChangeShapes Go.WideShapes Go.ChangeAt Go.RowKit Go.Proofs.Yticbhgjenidjlaa.T
open Go.ChangeMaps (open_string shut_string)
set_option linter.unusedVariables false
theorem own : ownKnob Try.prog.godebug = none := by kernel_rfl
theorem laidOut : laidOutB Try.prog = true := by kernel_rfl
set_option maxRecDepth 100000 in
theorem lifted (os : Os) (started : os.Started) (H : Type) (enc : TypeId × Value → H) :
    ReturnsInHanded {} Try.checked os 9 .any (Rows.threadMeetSpec.pre6 enc Try.prog Try.f9 Rows.threadMeetRow.domain false) (Rows.threadMeetSpec.post enc Try.prog Try.f9 false true false false) := by
  refine returnsInHanded_of_change_sized (C := Try.checked) own started (by kernel_rfl) Try.func9
    (ChangeSpec.witness6 (enc := enc) (C := Try.checked) false ⟨#[], #[.agg #[.int .u16 0, .int .u16 0, .int .u16 0, .int .u16 0, .int .u16 0, .int .u8 0, .int .u8 0, .bool false], .int .u16 0], []⟩ 8 (by kernel_rfl) (by kernel_rfl) (by kernel_rfl) (by kernel_rfl)) ?_
  intro W base args ds gs before hval0 hW hcnd hsz0 _
  have hval : ∀ (j : Nat) t v, Try.f9.params[j]? = some t → args[j]? = some v → Value.okWide Try.prog W .any base t v := hval0
  have hW' := hW
  obtain ⟨p, q, hA0, hV, rfl, hfz, hnd⟩ := hW
  have hA : DataW.TrodAll enc Try.prog W 0 (fun _ => true) true Try.f9.params.toList args.toList ds p := hA0
  rw [Try.params9] at hA hval
  obtain ⟨v0, vs0, d0, ds0, p0, q0, hargs, rfl, rfl, h0, r0⟩ := trodAll_cons hA
  obtain ⟨v1, vs1, d1, ds1, p1, q1, rfl, rfl, rfl, h1, r1⟩ := trodAll_cons r0
  obtain ⟨rfl, rfl, rfl⟩ := trodAll_nil r1
  obtain rfl : args = #[v0, v1] := by cases args; simp_all
  obtain ⟨rfl, rfl⟩ := trodVars_none hV
  have k0 := h0
  have lt0 : ∀ x ∈ p0, x.block < W.heap.size := by obtain ⟨m, hm⟩ := k0; exact DataW.trod_lt m _ _ _ hm
  obtain ⟨fuel0, hf0⟩ := h0
  obtain ⟨a0_0, a0_1, a0_2, a0_3, a0_4, a0_5, a0_6, a0_7, e0, w0_0, w0_1, w0_2, w0_3, w0_4, w0_5, w0_6⟩ := open71 hf0
  obtain rfl : v0 = .agg #[.int .u16 a0_0, .int .u16 a0_1, .int .u16 a0_2, .int .u16 a0_3, .int .u16 a0_4, .int .u8 a0_5, .int .u8 a0_6, .bool a0_7] := agg_of_cells e0 (by simp)
  have k1 := h1
  have lt1 : ∀ x ∈ p1, x.block < W.heap.size := by obtain ⟨m, hm⟩ := k1; exact DataW.trod_lt m _ _ _ hm
  obtain ⟨a1, rfl, rfl, rfl, w1⟩ := open_int Try.underlying69 (hval 1 69 v1 rfl rfl) h1
  clear hA0 hval0 hsz0
  obtain ⟨k, hk⟩ := pure_ThreadMeet a0_0 a0_1 a0_2 a0_3 a0_4 a0_5 a0_6 a0_7 a1 w0_0 w0_1 w0_2 w0_3 w0_4 w0_5 w0_6 w1
  refine (acmelaw01_ThreadMeet.calls k a0_0 a0_1 a0_2 a0_3 a0_4 a0_5 a0_6 a0_7 a1 true W  hk).mono fun e W' ⟨he, bel⟩ => ?_
  subst he
  exact ⟨_, rfl, _, _, _, [], _, [], hW', trodAll_mk1 (shut_bool Try.underlying4 _), (trodAll_cons_mk (Below.trod laidOut (by kernel_rfl) (of_decide_eq_true (by kernel_rfl)) k0 bel lt0) (trodAll_cons_mk (Below.trod laidOut (by kernel_rfl) (of_decide_eq_true (by kernel_rfl)) k1 bel lt1) trodAll_mk0)), rfl, bel.frame _, fun h => by cases h⟩
theorem over : Rows.threadMeetRow.holds Try.pinned (OpenSpec.ofChange Rows.threadMeetSpec) :=
  OpenClaim.holds_of_wide 9 Try.f9 rfl rfl rfl rfl rfl rfl rfl ⟨rfl, rfl, rfl, rfl, rfl⟩ rfl rfl rfl rfl rfl (by kernel_rfl) Try.func9 (by kernel_rfl)
    (of_decide_eq_true (by kernel_rfl)) (by unfold Func.isWrapper; first | (rw [if_pos (by decide +kernel)]; kernel_rfl) | (rw [if_neg (by decide +kernel)]; exact ⟨rfl, rfl⟩))
    (fun os started H enc _ => lifted os started H enc)
theorem proved : Rows.ThreadMeetSaid := over
end Go.Proofs.Yticbhgjenidjlaa.threadMeet
namespace Go.Proofs.Yticbhgjenidjlaa
theorem threadMeet_holds : Rows.ThreadMeetSaid := threadMeet.proved
end Go.Proofs.Yticbhgjenidjlaa
