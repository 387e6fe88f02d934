-- cut down, squeezed and laid together by pack.py (a program of this repository) out of this seat's texts
import Derived.KernelRfl
import Derived.ChangeKeysEq
import Derived.Below
import Derived.Deep.Draws
import Derived.Deep.AppendLies
import Derived.Maps.AppendAt
import Derived.OwnWalk
import Derived.Laws.BytesArg
import Derived.Laws.MakeOwn
import Derived.Laws.OwnMore
import Derived.Deep.OwnRows
import Derived.Tactics
import Derived.Lib.ConvBytes
import Derived.Laws.Slices
import Derived.WalkKit
import Derived.RowKit3
import Derived.Deep.LoopGhost
import Derived.Deep.QuietTactic
import Derived.BigQuiet
import Derived.WideLaws
import Derived.Deep.DeepCutAuto
import Derived.Deep.CutBlock
import Derived.Deep.RegionHeld3
import Derived.Laws.Rows
import Derived.Lib.AppendStr
import Derived.ArgAppend
import Derived.Laws.IdiomCopy
import Derived.OrdersHeld
import Derived.Laws.BitsLemmas
import Derived.RowKit
import Derived.Test.YticbhgjenidjlaaProg
import Derived.Laws.StructEq
import Derived.ProofKit
import Derived.OpenShut
import Derived.ShutString
import Derived.ChangeOld
import Derived.SizedLaws
import Derived.Carry
import Derived.Test.YticbhgjenidjlaaRows
import Derived.Test.YticbhgjenidjlaaZU9
import Derived.Test.YticbhgjenidjlaaZU3
import Derived.Test.YticbhgjenidjlaaZU18
import Derived.Test.YticbhgjenidjlaaZU8
import Derived.Test.YticbhgjenidjlaaZU10
import Derived.Test.YticbhgjenidjlaaZU7
import Derived.Test.YticbhgjenidjlaaZU4
import Derived.Test.YticbhgjenidjlaaZU6
import Derived.Test.YticbhgjenidjlaaZU5
import Derived.Test.YticbhgjenidjlaaZU2
import Derived.Test.YticbhgjenidjlaaZU11
import Derived.Test.YticbhgjenidjlaaZU16
import Derived.Test.YticbhgjenidjlaaZU1
import Derived.Test.YticbhgjenidjlaaZU15
import Derived.Test.YticbhgjenidjlaaZU14
import Derived.Test.YticbhgjenidjlaaZU12
import Derived.Test.YticbhgjenidjlaaZU13
import Derived.Test.YticbhgjenidjlaaZU17
namespace Go.Proofs.Yticbhgjenidjlaa.T
open Go.RowKit Go.Proofs.YticbhgjenidjlaaW.PrintWords Go.Proofs.YticbhgjenidjlaaW.PrintLast
set_option linter.unusedVariables false
set_option linter.unusedSimpArgs false

def Valid (p l r a b s t : Int) : Prop :=
  (100 ≤ p ∧ p ≤ 200000) ∧ (0 ≤ l ∧ l ≤ 3000) ∧ (0 ≤ r ∧ r ≤ 3000) ∧ (0 ≤ a ∧ a ≤ 200000) ∧ (0 ≤ b ∧ b ≤ 200000) ∧ 1 ≤ a + b ∧ (1 ≤ s ∧ s ≤ 8) ∧ (0 ≤ t ∧ t ≤ 100) ∧ 0 ≤ 1000 * p - 2 * a * (l + r) ∧ 0 ≤ 1000 * p - 2 * b * (l + r)
instance (p l r a b s t : Int) : Decidable (Valid p l r a b s t) := by unfold Valid; infer_instance
def wid (p l r y : Int) : Int := 1000 * p - 2 * y * (l + r)
theorem wid_bound {p l r y : Int} (hp : 0 ≤ p ∧ p ≤ 200000) (hl : 0 ≤ l ∧ l ≤ 3000) (hr : 0 ≤ r ∧ r ≤ 3000) (hy : -200000 ≤ y ∧ y ≤ 200000) :
    (-1200000000 ≤ y * (l + r) ∧ y * (l + r) ≤ 1200000000) ∧ -3000000000 ≤ wid p l r y ∧ wid p l r y ≤ 3000000000 := by
  have h := mulbs (x := y) (X := 200000) (y := l + r) (Y := 6000) (by omega) (by omega) (by omega) (by omega)
  unfold wid
  rw [Int.mul_assoc]
  omega
theorem width_eq {p l r a b s : Int} {h : Bool} {t y : Int} (hp : 0 ≤ p ∧ p ≤ 200000) (hl : 0 ≤ l ∧ l ≤ 3000) (hr : 0 ≤ r ∧ r ≤ 3000) (hy : -200000 ≤ y ∧ y ≤ 200000) :
    thread_form_width.f p l r a b s h t y = some (wid p l r y) ∧ acmeref01_Width.f p l r a b s h t y = some (wid p l r y) := by
  have hb := wid_bound hp hl hr hy
  unfold wid at *
  rw [Int.mul_assoc] at *
  unfold thread_form_width.f thread_form_leans.f acmeref01_Width.f
  simp only [Option.bind_some]
  rw [wrap64_id (x := l + r) (by omega) (by omega), wrap64_id (x := 2 * y) (by omega) (by omega), wrap64_id (x := 1000 * p) (by omega) (by omega)]
  rw [Int.mul_assoc, wrap64_id (x := 2 * (y * (l + r))) (by omega) (by omega), wrap64_id (by omega) (by omega)]
  exact ⟨rfl, rfl⟩
theorem within_eq1 (lo hi x : Int) : thread_within.f lo hi [x] = some (decide (lo ≤ x ∧ x ≤ hi)) := by
  unfold thread_within.f
  congr 1
  rw [Bool.eq_iff_iff]
  simp [outside]
theorem within_eq2 (lo hi x y : Int) : thread_within.f lo hi [x, y] = some (decide ((lo ≤ x ∧ x ≤ hi) ∧ (lo ≤ y ∧ y ≤ hi))) := by
  unfold thread_within.f
  congr 1
  rw [Bool.eq_iff_iff]
  simp [outside]

theorem check_ev {p l r a b s : Int} {h : Bool} {t : Int} : Ev (fun k => thread_Check.f k p l r a b s h t) (if Valid p l r a b s t then 0 else 2) := by
  refine ⟨2, fun k hk => ?_⟩
  obtain ⟨k, rfl⟩ : ∃ j, k = j + 2 := ⟨k - 2, by omega⟩
  have bad : ∀ {q1 q2 q3 q4 q5 q6 q7 q8 q9 q10 q11 q12 q13 q14 : Int} {g1 g2 : Bool}, ¬ Valid p l r a b s t → ∀ b0 : Bool, b0 = false → thread_Check.j0 (k + 2) b0 q1 q2 q3 q4 q5 q6 g1 q7 q8 q9 q10 q11 q12 q13 g2 q14 = some (if Valid p l r a b s t then 0 else 2) := by
    intro q1 q2 q3 q4 q5 q6 q7 q8 q9 q10 q11 q12 q13 q14 g1 g2 hv b0 hb
    rw [if_neg hv, hb]; simp [thread_Check.j0, thread_Check.j1]
  simp only [thread_Check.f, within_eq1, within_eq2, Option.bind_some]
  by_cases h1 : 100 ≤ p ∧ p ≤ 200000
  rotate_left
  · rw [if_neg (by simpa using h1)]
    exact bad (fun hv => h1 hv.1) _ rfl
  rw [if_pos (by simpa using h1)]
  by_cases h2 : (0 ≤ l ∧ l ≤ 3000) ∧ (0 ≤ r ∧ r ≤ 3000)
  rotate_left
  · rw [if_neg (by simpa using h2)]
    exact bad (fun hv => h2 ⟨hv.2.1, hv.2.2.1⟩) _ rfl
  rw [if_pos (by simpa using h2)]
  by_cases h3 : (0 ≤ a ∧ a ≤ 200000) ∧ (0 ≤ b ∧ b ≤ 200000)
  rotate_left
  · rw [if_neg (by simpa using h3)]
    exact bad (fun hv => h3 ⟨hv.2.2.2.1, hv.2.2.2.2.1⟩) _ rfl
  rw [if_pos (by simpa using h3), wrap64_id (by omega) (by omega)]
  by_cases h4 : 1 ≤ a + b
  rotate_left
  · exact bad (fun hv => h4 hv.2.2.2.2.2.1) _ (by simp; omega)
  rw [decide_eq_true (show a + b ≥ 1 from h4)]
  have b1 : ∀ {q1 q2 q3 q4 q5 q6 q7 q8 q9 q10 q11 q12 q13 q14 : Int} {g1 g2 : Bool}, ¬ Valid p l r a b s t → ∀ b0 : Bool, b0 = true → thread_Check.j1 (k + 1) b0 q1 q2 q3 q4 q5 q6 g1 q7 q8 q9 q10 q11 q12 q13 g2 q14 = some (if Valid p l r a b s t then 0 else 2) := by
    intro q1 q2 q3 q4 q5 q6 q7 q8 q9 q10 q11 q12 q13 q14 g1 g2 hv b0 hb
    rw [if_neg hv, hb]; simp [thread_Check.j1]
  simp only [thread_Check.j0, if_true, within_eq1, Option.bind_some]
  by_cases h5 : 1 ≤ s ∧ s ≤ 8
  rotate_left
  · rw [if_neg (by simpa using h5)]
    exact b1 (fun hv => h5 hv.2.2.2.2.2.2.1) _ rfl
  rw [if_pos (by simpa using h5)]
  by_cases h6 : 0 ≤ t ∧ t ≤ 100
  rotate_left
  · exact b1 (fun hv => h6 hv.2.2.2.2.2.2.2.1) _ (by simp; omega)
  rw [decide_eq_true h6]
  have wa := (width_eq (a := a) (b := b) (s := s) (h := h) (t := t) (y := a) (by omega) h2.1 h2.2 (p := p) (by omega)).1
  have wb := (width_eq (a := a) (b := b) (s := s) (h := h) (t := t) (y := b) (by omega) h2.1 h2.2 (p := p) (by omega)).1
  simp only [thread_Check.j1, Bool.not_true, Bool.false_eq_true, if_false, wa, wb, Option.bind_some]
  by_cases h7 : wid p l r a < 0
  · rw [if_pos h7, if_neg]; intro hv; unfold wid at h7; unfold Valid at hv; omega
  · rw [if_neg h7]
    by_cases h8 : wid p l r b < 0
    · rw [if_pos h8, if_neg]; intro hv; unfold wid at h8; unfold Valid at hv; omega
    · rw [if_neg h8, if_pos]
      unfold wid at h7 h8; exact ⟨h1, h2.1, h2.2, h3.1, h3.2, h4, h5, h6, by omega, by omega⟩

end Go.Proofs.Yticbhgjenidjlaa.T
namespace Go.Proofs.Yticbhgjenidjlaa.T
open Go.RowKit Go.Proofs.YticbhgjenidjlaaW.PrintWords Go.Proofs.YticbhgjenidjlaaW.PrintLast
set_option linter.unusedVariables false
set_option linter.unusedSimpArgs false

theorem open_ev {p l r a b s : Int} {h : Bool} {t : Int} : Ev (fun k => thread_open.f k p l r a b s h t) (p, l, r, a, b, s, h, t, if Valid p l r a b s t then 0 else 2) := by
  unfold thread_open.f
  exact Ev.bind check_ev (Ev.pure _)
end Go.Proofs.Yticbhgjenidjlaa.T
namespace Go.Proofs.Yticbhgjenidjlaa.T
open Go.RowKit Go.Proofs.YticbhgjenidjlaaW.PrintWords Go.Proofs.YticbhgjenidjlaaW.PrintLast
set_option linter.unusedVariables false
set_option linter.unusedSimpArgs false

theorem lead_bound {p s : Int} (hp : 100 ≤ p ∧ p ≤ 200000) (hs : 1 ≤ s ∧ s ≤ 8) : 100 ≤ p * s ∧ p * s ≤ 1600000 := by
  have h1 := mulb (x := p) (X := 200000) (y := s) (Y := 8) (by omega) (by omega) (by omega) (by omega)
  have h2 := Int.mul_le_mul (a := 100) (b := 1) (c := p) (d := s) hp.1 hs.1 (by omega) (by omega)
  omega
theorem lead_eq {p l r a b s : Int} {h : Bool} {t : Int} (hp : 100 ≤ p ∧ p ≤ 200000) (hs : 1 ≤ s ∧ s ≤ 8) : thread_form_lead.f p l r a b s h t = some (p * s) := by
  have := lead_bound hp hs
  unfold thread_form_lead.f
  rw [wrap64_id (by omega) (by omega)]
def adv (p s : Int) (h : Bool) (x : Int) : Int := if h then -(p * s * x) else p * s * x
theorem adv_bound {p s x : Int} {h : Bool} (hp : 100 ≤ p ∧ p ≤ 200000) (hs : 1 ≤ s ∧ s ≤ 8) (hx : -1000000000 ≤ x ∧ x ≤ 1000000000) : (-1600000000000000 ≤ p * s * x ∧ p * s * x ≤ 1600000000000000) ∧ -1600000000000000 ≤ adv p s h x ∧ adv p s h x ≤ 1600000000000000 := by
  have hb := lead_bound hp hs
  have := mulbs (x := p * s) (X := 1600000) (y := x) (Y := 1000000000) (by omega) (by omega) (by omega) (by omega)
  unfold adv
  split <;> omega
theorem advance_ev {p l r a b s : Int} {h : Bool} {t x : Int} : Ev (fun k => thread_Advance.f k p l r a b s h t x)
    (if Valid p l r a b s t then if -1000000000 ≤ x ∧ x ≤ 1000000000 then ((low (adv p s h x) 1000000).1, (low (adv p s h x) 1000000).2, 0) else (0, 0, 3) else (0, 0, 2)) := by
  unfold thread_Advance.f
  refine Ev.bind open_ev ?_
  by_cases hv : Valid p l r a b s t
  rotate_left
  · simp only [if_neg hv]; exact Ev.pure _
  simp only [if_pos hv, if_true]
  obtain ⟨hp, hl, hr, ha, hb, hab, hs, ht, hwa, hwb⟩ := hv
  simp only [within_eq1, Option.bind_some]
  by_cases h1 : -1000000000 ≤ x ∧ x ≤ 1000000000
  rotate_left
  · simp only [decide_eq_false h1, Bool.false_eq_true, if_false, if_neg h1]; exact Ev.pure _
  simp only [decide_eq_true h1, if_true, if_pos h1, lead_eq hp hs, Option.bind_some]
  have hA := adv_bound (h := h) hp hs h1
  cases h with
  | true =>
    simp only [if_true]
    rw [wrap64_id (x := -x) (by omega) (by omega), show p * s * -x = adv p s true x by simp [adv, Int.mul_neg], wrap64_id (by omega) (by omega)]
    exact Ev.bind (ratio_ev _ _ (by omega) (by omega) (by omega) (by omega)) (Ev.pure _)
  | false =>
    simp only [Bool.false_eq_true, if_false]
    rw [show p * s * x = adv p s false x by simp [adv], wrap64_id (by omega) (by omega)]
    exact Ev.bind (ratio_ev _ _ (by omega) (by omega) (by omega) (by omega)) (Ev.pure _)
theorem perInch_ev {p l r a b s : Int} {h : Bool} {t : Int} : Ev (fun k => thread_PerInch.f k p l r a b s h t)
    (if Valid p l r a b s t then ((low 254000 p).1, (low 254000 p).2, 0) else (0, 0, 2)) := by
  unfold thread_PerInch.f
  refine Ev.bind check_ev ?_
  by_cases hv : Valid p l r a b s t
  rotate_left
  · simp only [if_neg hv]; exact Ev.pure _
  simp only [if_pos hv, if_true]
  obtain ⟨hp, hl, hr, ha, hb, hab, hs, ht, hwa, hwb⟩ := hv
  exact Ev.bind (ratio_ev _ _ (by omega) (by omega) (by omega) (by omega)) (Ev.pure _)
end Go.Proofs.Yticbhgjenidjlaa.T
namespace Go.Proofs.Yticbhgjenidjlaa.T
open Go.RowKit Go.Proofs.YticbhgjenidjlaaW.PrintWords Go.Proofs.YticbhgjenidjlaaW.PrintLast
set_option linter.unusedVariables false
set_option linter.unusedSimpArgs false

structure CutOk (p l r a b s : Int) (h : Bool) (t : Int) (c0 c1 c2 c3 c4 c5 c6 : Int) : Prop where
  valid : Valid p l r a b s t
  left : l ≤ 1199
  right : r ≤ 1199
  above : a ≤ 100000
  below : b ≤ 100000
  pitch : p = 100 + c0
  small : p ≤ 65635
theorem tmod_bound {x n : Int} (h0 : 0 ≤ x) (hn : 0 < n) : 0 ≤ x.tmod n ∧ x.tmod n < n ∧ x.tmod n ≤ x := by
  have h1 := Int.tmod_lt_of_pos x hn
  have h2 := Int.tmod_nonneg n h0
  refine ⟨h2, h1, ?_⟩
  rw [Int.tmod_eq_emod_of_nonneg h0]
  have e := Int.mul_ediv_add_emod x n
  have := Int.mul_nonneg (Int.le_of_lt hn) (Int.ediv_nonneg h0 (Int.le_of_lt hn))
  omega
theorem cut_ev {c0 c1 c2 c3 c4 c5 c6 : Int} {h : Bool} (b0 : 0 ≤ c0 ∧ c0 ≤ 65535) (b1 : 0 ≤ c1 ∧ c1 ≤ 65535) (b2 : 0 ≤ c2 ∧ c2 ≤ 65535) (b3 : 0 ≤ c3 ∧ c3 ≤ 65535) (b4 : 0 ≤ c4 ∧ c4 ≤ 65535) (b5 : 0 ≤ c5 ∧ c5 ≤ 255) (b6 : 0 ≤ c6 ∧ c6 ≤ 255) :
    ∃ p l r a b s t, acmelaw01_Cut_form.f c0 c1 c2 c3 c4 c5 c6 h = some (p, l, r, a, b, s, h, t) ∧ CutOk p l r a b s h t c0 c1 c2 c3 c4 c5 c6 := by
  have w0 := wrap64_id (x := c0) (by omega) (by omega)
  have w1 := wrap64_id (x := c1) (by omega) (by omega)
  have w2 := wrap64_id (x := c2) (by omega) (by omega)
  have w3 := wrap64_id (x := c3) (by omega) (by omega)
  have w4 := wrap64_id (x := c4) (by omega) (by omega)
  have w5 := wrap64_id (x := c5) (by omega) (by omega)
  have w6 := wrap64_id (x := c6) (by omega) (by omega)
  have t1 := tmod_bound (n := 1200) b1.1 (by omega)
  have t2 := tmod_bound (n := 1200) b2.1 (by omega)
  have t5 := tmod_bound (n := 8) b5.1 (by omega)
  have t6 := tmod_bound (n := 101) b6.1 (by omega)
  unfold acmelaw01_Cut_form.f
  simp only [w0, w1, w2, w3, w4, w5, w6]
  generalize hl : c1.tmod 1200 = l at *
  generalize hr : c2.tmod 1200 = r at *
  generalize hs : c5.tmod 8 = s at *
  generalize ht : c6.tmod 101 = t at *
  rw [wrap64_id (x := l + r) (by omega) (by omega), wrap64_id (x := 100 + c0) (by omega) (by omega), wrap64_id (x := 500 * (100 + c0)) (by omega) (by omega), wrap64_id (x := 1 + s) (by omega) (by omega)]
  by_cases hn : l + r > 0
  · rw [if_pos hn, if_neg (by omega)]
    have hq0 : 0 ≤ (500 * (100 + c0)).tdiv (l + r) := Int.tdiv_nonneg (by omega) (by omega)
    have hq1 : (500 * (100 + c0)).tdiv (l + r) * (l + r) ≤ 500 * (100 + c0) := by
      have := Int.tdiv_mul_le (500 * (100 + c0)) (b := l + r) (by omega)
      have h2 : Int.tdiv (500 * (100 + c0)) (l + r) * (l + r) + Int.tmod (500 * (100 + c0)) (l + r) = 500 * (100 + c0) := by
        rw [Int.mul_comm]; exact Int.mul_tdiv_add_tmod _ _
      have h3 := Int.tmod_nonneg (l + r) (show 0 ≤ 500 * (100 + c0) by omega)
      omega
    have hq2 : (500 * (100 + c0)).tdiv (l + r) ≤ 500 * (100 + c0) := by
      have : (500 * (100 + c0)).tdiv (l + r) * 1 ≤ (500 * (100 + c0)).tdiv (l + r) * (l + r) := Int.mul_le_mul_of_nonneg_left (by omega) hq0
      omega
    generalize hq : (500 * (100 + c0)).tdiv (l + r) = q at *
    rw [wrap64_id (x := q) (by omega) (by omega)]
    have hmn : 0 ≤ mn 100000 q ∧ mn 100000 q ≤ 100000 ∧ mn 100000 q ≤ q := by unfold mn; split <;> omega
    generalize mn 100000 q = m at *
    rw [wrap64_id (x := m + 1) (by omega) (by omega), if_neg (by omega)]
    have t3 := tmod_bound (n := m + 1) b3.1 (by omega)
    have t4 := tmod_bound (n := m + 1) b4.1 (by omega)
    generalize c3.tmod (m + 1) = a at *
    generalize c4.tmod (m + 1) = b at *
    rw [wrap64_id (x := a + b) (by omega) (by omega)]
    have hm : ∀ x, 0 ≤ x → x ≤ m → 0 ≤ 1000 * (100 + c0) - 2 * x * (l + r) := by
      intro x h0 h1
      have : x * (l + r) ≤ q * (l + r) := Int.mul_le_mul_of_nonneg_right (by omega) (by omega)
      rw [Int.mul_assoc]
      omega
    by_cases hz : a + b = 0
    · rw [if_pos hz]
      have hv1 : 0 ≤ 1000 * (100 + c0) - 2 * 1 * (l + r) := by omega
      exact ⟨_, _, _, _, _, _, _, rfl, ⟨⟨by omega, by omega, by omega, by omega, by omega, by omega, by omega, by omega, hv1, hm b (by omega) (by omega)⟩, by omega, by omega, by omega, by omega, rfl, by omega⟩⟩
    · rw [if_neg hz]
      exact ⟨_, _, _, _, _, _, _, rfl, ⟨⟨by omega, by omega, by omega, by omega, by omega, by omega, by omega, by omega, hm a (by omega) (by omega), hm b (by omega) (by omega)⟩, by omega, by omega, by omega, by omega, rfl, by omega⟩⟩
  · rw [if_neg hn]
    have t3 := tmod_bound (n := 100001) b3.1 (by omega)
    have t4 := tmod_bound (n := 100001) b4.1 (by omega)
    generalize c3.tmod 100001 = a at *
    generalize c4.tmod 100001 = b at *
    rw [wrap64_id (x := a + b) (by omega) (by omega)]
    have hlr : l + r = 0 := by omega
    by_cases hz : a + b = 0
    · rw [if_pos hz]
      exact ⟨_, _, _, _, _, _, _, rfl, ⟨⟨by omega, by omega, by omega, by omega, by omega, by omega, by omega, by omega, by rw [hlr]; omega, by rw [hlr]; omega⟩, by omega, by omega, by omega, by omega, rfl, by omega⟩⟩
    · rw [if_neg hz]
      exact ⟨_, _, _, _, _, _, _, rfl, ⟨⟨by omega, by omega, by omega, by omega, by omega, by omega, by omega, by omega, by rw [hlr]; omega, by rw [hlr]; omega⟩, by omega, by omega, by omega, by omega, rfl, by omega⟩⟩
end Go.Proofs.Yticbhgjenidjlaa.T
namespace Go.Proofs.Yticbhgjenidjlaa.T
open Go.RowKit
set_option linter.unusedVariables false
set_option linter.unusedSimpArgs false

theorem wfU16 {x : Int} (h : (Lit.int .u16 x).wf = true) : 0 ≤ x ∧ x ≤ 65535 := by
  simp [Lit.wf, IntKind.min, IntKind.max, IntKind.signed, IntKind.bits] at h; omega
theorem wfU8 {x : Int} (h : (Lit.int .u8 x).wf = true) : 0 ≤ x ∧ x ≤ 255 := by
  simp [Lit.wf, IntKind.min, IntKind.max, IntKind.signed, IntKind.bits] at h; omega
theorem wfI16 {x : Int} (h : (Lit.int .i16 x).wf = true) : -32768 ≤ x ∧ x ≤ 32767 := by
  simp [Lit.wf, IntKind.min, IntKind.max, IntKind.signed, IntKind.bits] at h; omega

theorem low_facts (n d : Int) (hd : 0 < d) : ∃ g q e : Int, 0 < g ∧ 0 < e ∧ n = g * q ∧ d = g * e ∧ low n d = (q, e) ∧ Int.gcd q e = 1 := by
  have hg : 0 < Int.gcd n d := Int.gcd_pos_of_ne_zero_right _ (by omega)
  obtain ⟨q, hq⟩ := Int.gcd_dvd_left (a := n) (b := d)
  obtain ⟨e, he⟩ := Int.gcd_dvd_right (a := n) (b := d)
  have hg' : (0 : Int) < (Int.gcd n d : Int) := by omega
  have hepos : 0 < e := by
    rcases Int.lt_trichotomy e 0 with h | h | h
    · have := Int.mul_neg_of_pos_of_neg hg' h; omega
    · rw [h] at he; omega
    · exact h
  refine ⟨(Int.gcd n d : Int), q, e, hg', hepos, hq, he, ?_, ?_⟩
  · unfold low
    have h1 : n.tdiv (Int.gcd n d : Int) = q := by
      have : ((Int.gcd n d : Int) * q).tdiv (Int.gcd n d : Int) = q := Int.mul_tdiv_cancel_left q (by omega)
      rwa [← hq] at this
    have h2 : d.tdiv (Int.gcd n d : Int) = e := by
      have : ((Int.gcd n d : Int) * e).tdiv (Int.gcd n d : Int) = e := Int.mul_tdiv_cancel_left e (by omega)
      rwa [← he] at this
    rw [h1, h2]
  · have : Int.gcd ((Int.gcd n d : Int) * q) ((Int.gcd n d : Int) * e) = Int.gcd n d * Int.gcd q e := by rw [Int.gcd_mul_left]; simp
    rw [← hq, ← he] at this
    have h3 : Int.gcd n d * 1 = Int.gcd n d * Int.gcd q e := by omega
    exact (Nat.eq_of_mul_eq_mul_left hg h3).symm
theorem low_one (n : Int) : low n 1 = (n, 1) := by
  unfold low
  simp
theorem low_neg (n d : Int) : low (-n) d = (-(low n d).1, (low n d).2) := by
  unfold low
  rw [Int.neg_gcd, Int.neg_tdiv]
end Go.Proofs.Yticbhgjenidjlaa.T
namespace Go.Proofs.Yticbhgjenidjlaa.T
open Go Go.RowKit Go.Proofs.Yticbhgjenidjlaa.Ab
set_option linter.unusedVariables false
set_option linter.unusedSimpArgs false
theorem pure_ThreadTurns (a0_0 : Int) (a0_1 : Int) (a0_2 : Int) (a0_3 : Int) (a0_4 : Int) (a0_5 : Int) (a0_6 : Int) (a0_7 : Bool) (a1 : Int) (a2 : Int) (w0_0 : (Lit.int .u16 a0_0).wf = true) (w0_1 : (Lit.int .u16 a0_1).wf = true) (w0_2 : (Lit.int .u16 a0_2).wf = true) (w0_3 : (Lit.int .u16 a0_3).wf = true) (w0_4 : (Lit.int .u16 a0_4).wf = true) (w0_5 : (Lit.int .u8 a0_5).wf = true) (w0_6 : (Lit.int .u8 a0_6).wf = true) (w1 : (Lit.int .i16 a1).wf = true) (w2 : (Lit.int .i16 a2).wf = true) : ∃ k, acmelaw01_ThreadTurns.f k a0_0 a0_1 a0_2 a0_3 a0_4 a0_5 a0_6 a0_7 a1 a2 = some true := by
  have b0 := wfU16 w0_0
  have b1 := wfU16 w0_1
  have b2 := wfU16 w0_2
  have b3 := wfU16 w0_3
  have b4 := wfU16 w0_4
  have b5 := wfU8 w0_5
  have b6 := wfU8 w0_6
  obtain ⟨p, l, r, a, b, s, t, hcut, hok⟩ := cut_ev (h := a0_7) b0 b1 b2 b3 b4 b5 b6
  obtain ⟨hv, hl9, hr9, ha9, hb9, _, hp9⟩ := hok
  have hv' := hv
  obtain ⟨hp, hl, hr, ha, hb, hab, hs, ht, hwa, hwb⟩ := hv'
  refine Ev.ex ?_
  unfold acmelaw01_ThreadTurns.f
  refine Ev.bind (v := Value.bool true) ?_ (Ev.of fun _ => rfl)
  unfold acmelaw01_ThreadTurns.T
  have known : Ev (fun _ => (acmelaw01_known.f).bind fun t => (some (Value.bool t))) (.bool true) := Ev.pure _
  have e0 : ((0 : Int) != 0) = false := rfl
  simp only [hcut, Option.bind_some]
  have c1 := wfI16 w1
  have c2 := wfI16 w2
  have hL := lead_bound hp hs
  rw [show IntKind.i64.wrap (1000 * IntKind.i64.wrap a1) = 1000 * a1 from by rw [i64_wrap, i64_wrap, wrap64_id (x := a1) (by omega) (by omega), wrap64_id (by omega) (by omega)],
    show IntKind.i64.wrap (777 * IntKind.i64.wrap a2) = 777 * a2 from by rw [i64_wrap, i64_wrap, wrap64_id (x := a2) (by omega) (by omega), wrap64_id (by omega) (by omega)],
    show IntKind.i64.wrap (1000 * a1 + 777 * a2) = 1000 * a1 + 777 * a2 from by rw [i64_wrap, wrap64_id (by omega) (by omega)]]
  refine Ev.bind advance_ev ?_
  refine Ev.bind advance_ev ?_
  refine Ev.bind advance_ev ?_
  refine Ev.bind advance_ev ?_
  refine Ev.bind advance_ev ?_
  refine Ev.bind perInch_ev ?_
  have A1 := adv_bound (h := a0_7) hp hs (show -1000000000 ≤ 1000 * a1 ∧ 1000 * a1 ≤ 1000000000 by omega)
  have A2 := adv_bound (h := a0_7) hp hs (show -1000000000 ≤ 777 * a2 ∧ 777 * a2 ≤ 1000000000 by omega)
  have A3 := adv_bound (h := a0_7) hp hs (show -1000000000 ≤ 1000 * a1 + 777 * a2 ∧ 1000 * a1 + 777 * a2 ≤ 1000000000 by omega)
  simp only [if_pos hv, if_pos (show -1000000000 ≤ 1000 * a1 ∧ 1000 * a1 ≤ 1000000000 by omega), if_pos (show -1000000000 ≤ 777 * a2 ∧ 777 * a2 ≤ 1000000000 by omega), if_pos (show -1000000000 ≤ 1000 * a1 + 777 * a2 ∧ 1000 * a1 + 777 * a2 ≤ 1000000000 by omega), if_pos (show (-1000000000 : Int) ≤ 1000000 ∧ (1000000 : Int) ≤ 1000000000 by omega), e0, cond_false]
  have hsum : adv p s a0_7 (1000 * a1) + adv p s a0_7 (777 * a2) = adv p s a0_7 (1000 * a1 + 777 * a2) := by
    unfold adv
    rw [Int.mul_add]
    split <;> omega
  have hneg : adv p s (!a0_7) (1000 * a1) = -adv p s a0_7 (1000 * a1) := by
    unfold adv
    cases a0_7 <;> simp
  have hone : low (adv p s a0_7 1000000) 1000000 = (if a0_7 then -(p * s) else p * s, 1) := by
    rw [show adv p s a0_7 1000000 = 1000000 * (if a0_7 then -(p * s) else p * s) from by unfold adv; cases a0_7 <;> simp <;> omega]
    have := low_two (if a0_7 then -(p * s) else p * s) 1 1000000 (by omega)
    rw [Int.mul_one] at this
    rw [this, low_one]
  rw [hneg, low_neg, hone]
  obtain ⟨g1, q1, e1, hg1, he1, hn1, hd1, hlow1, _⟩ := low_facts (adv p s a0_7 (1000 * a1)) 1000000 (by omega)
  obtain ⟨g2, q2, e2, hg2, he2, hn2, hd2, hlow2, _⟩ := low_facts (adv p s a0_7 (777 * a2)) 1000000 (by omega)
  obtain ⟨g3, q3, e3, hg3, he3, hn3, hd3, hlow3, _⟩ := low_facts (adv p s a0_7 (1000 * a1 + 777 * a2)) 1000000 (by omega)
  obtain ⟨g4, q4, e4, hg4, he4, hn4, hd4, hlow4, _⟩ := low_facts 254000 p (by omega)
  rw [hlow1, hlow2, hlow3, hlow4]
  have md : ∀ g e : Int, 0 < e → 1000000 = g * e → Int.tmod 1000000 e = 0 ∧ Int.tdiv 1000000 e = g := by
    intro g e he h
    rw [h]
    exact ⟨Int.mul_tmod_left _ _, Int.mul_tdiv_cancel _ (by omega)⟩
  have m1 := md g1 e1 he1 hd1
  have m2 := md g2 e2 he2 hd2
  have m3 := md g3 e3 he3 hd3
  have gb : ∀ g e : Int, 0 < g → 0 < e → 1000000 = g * e → g ≤ 1000000 := by
    intro g e hg he h
    have : g * 1 ≤ g * e := Int.mul_le_mul_of_nonneg_left (by omega) (by omega)
    omega
  have gb1 := gb g1 e1 hg1 he1 hd1
  have gb2 := gb g2 e2 hg2 he2 hd2
  have gb3 := gb g3 e3 hg3 he3 hd3
  have qb : ∀ g q n : Int, 0 < g → n = g * q → -1600000000000000 ≤ n → n ≤ 1600000000000000 → -1600000000000000 ≤ q ∧ q ≤ 1600000000000000 := by
    intro g q n hg h h0 h1
    rcases Int.le_total 0 q with h2 | h2
    · have : 1 * q ≤ g * q := Int.mul_le_mul_of_nonneg_right (by omega) h2
      omega
    · have : g * q ≤ 1 * q := Int.mul_le_mul_of_nonpos_right (by omega) h2
      omega
  have qb1 := qb g1 q1 _ hg1 hn1 A1.2.1 A1.2.2
  have s1 : q1 * g1 = adv p s a0_7 (1000 * a1) := by rw [hn1, Int.mul_comm]
  have s2 : q2 * g2 = adv p s a0_7 (777 * a2) := by rw [hn2, Int.mul_comm]
  have s3 : q3 * g3 = adv p s a0_7 (1000 * a1 + 777 * a2) := by rw [hn3, Int.mul_comm]
  have s4 : q4 * p = 254000 * e4 := by rw [hn4, hd4, Int.mul_assoc, Int.mul_comm q4 (g4 * e4), Int.mul_assoc, Int.mul_comm e4 q4]
  have eb4 : e4 ≤ p := by
    have : 1 * e4 ≤ g4 * e4 := Int.mul_le_mul_of_nonneg_right (by omega) (by omega)
    omega
  simp only [decide_eq_false (show ¬ e1 < 1 by omega), decide_eq_false (show ¬ e2 < 1 by omega), decide_eq_false (show ¬ e3 < 1 by omega), decide_eq_false (show ¬ e1 = 0 by omega), decide_eq_false (show ¬ e2 = 0 by omega), decide_eq_false (show ¬ e3 = 0 by omega), m1.1, m2.1, m3.1, m1.2, m2.2, m3.2, e0, cond_false, i64_wrap,
    wrap64_id (x := g1) (by omega) (by omega), wrap64_id (x := g2) (by omega) (by omega), wrap64_id (x := g3) (by omega) (by omega), s1, s2, s3, s4,
    wrap64_id (x := adv p s a0_7 (1000 * a1)) (by omega) (by omega), wrap64_id (x := adv p s a0_7 (777 * a2)) (by omega) (by omega), wrap64_id (x := adv p s a0_7 (1000 * a1 + 777 * a2)) (by omega) (by omega), hsum,
    wrap64_id (x := 0 - q1) (by omega) (by omega), wrap64_id (x := p * s) (by omega) (by omega), wrap64_id (x := 0 - p * s) (by omega) (by omega), beq_self_eq_true, cond_true, show (-q1 == 0 - q1) = true from by simp, Bool.and_self]
  cases a0_7 with
  | true =>
    simp only [cond_true, if_true, show (-(p * s) == 0 - p * s) = true from by simp, beq_self_eq_true, Bool.and_self]
    exact known
  | false =>
    simp only [cond_false, cond_true, Bool.false_eq_true, if_false, beq_self_eq_true, Bool.and_self]
    exact known
end Go.Proofs.Yticbhgjenidjlaa.T
namespace Go.Proofs.Yticbhgjenidjlaa.threadTurns
open Go.ChangeShapes Go.WideShapes Go.ChangeAt Go.RowKit Go.Proofs.Yticbhgjenidjlaa.T
open Go.ChangeMaps (open_string shut_string)
set_option linter.unusedVariables false
theorem own : ownKnob Try.prog.godebug = none := by kernel_rfl
theorem laidOut : laidOutB Try.prog = true := by kernel_rfl
set_option maxRecDepth 100000 in
theorem lifted (os : Os) (started : os.Started) (H : Type) (enc : TypeId × Value → H) :
    ReturnsInHanded {} Try.checked os 10 .any (Rows.threadTurnsSpec.pre6 enc Try.prog Try.f10 Rows.threadTurnsRow.domain false) (Rows.threadTurnsSpec.post enc Try.prog Try.f10 false true false false) := by
  refine returnsInHanded_of_change_sized (C := Try.checked) own started (by kernel_rfl) Try.func10
    (ChangeSpec.witness6 (enc := enc) (C := Try.checked) false ⟨#[], #[.agg #[.int .u16 0, .int .u16 0, .int .u16 0, .int .u16 0, .int .u16 0, .int .u8 0, .int .u8 0, .bool false], .int .i16 0, .int .i16 0], []⟩ 8 (by kernel_rfl) (by kernel_rfl) (by kernel_rfl) (by kernel_rfl)) ?_
  intro W base args ds gs before hval0 hW hcnd hsz0 _
  have hval : ∀ (j : Nat) t v, Try.f10.params[j]? = some t → args[j]? = some v → Value.okWide Try.prog W .any base t v := hval0
  have hW' := hW
  obtain ⟨p, q, hA0, hV, rfl, hfz, hnd⟩ := hW
  have hA : DataW.TrodAll enc Try.prog W 0 (fun _ => true) true Try.f10.params.toList args.toList ds p := hA0
  rw [Try.params10] at hA hval
  obtain ⟨v0, vs0, d0, ds0, p0, q0, hargs, rfl, rfl, h0, r0⟩ := trodAll_cons hA
  obtain ⟨v1, vs1, d1, ds1, p1, q1, rfl, rfl, rfl, h1, r1⟩ := trodAll_cons r0
  obtain ⟨v2, vs2, d2, ds2, p2, q2, rfl, rfl, rfl, h2, r2⟩ := trodAll_cons r1
  obtain ⟨rfl, rfl, rfl⟩ := trodAll_nil r2
  obtain rfl : args = #[v0, v1, v2] := by cases args; simp_all
  obtain ⟨rfl, rfl⟩ := trodVars_none hV
  have k0 := h0
  have lt0 : ∀ x ∈ p0, x.block < W.heap.size := by obtain ⟨m, hm⟩ := k0; exact DataW.trod_lt m _ _ _ hm
  obtain ⟨fuel0, hf0⟩ := h0
  obtain ⟨a0_0, a0_1, a0_2, a0_3, a0_4, a0_5, a0_6, a0_7, e0, w0_0, w0_1, w0_2, w0_3, w0_4, w0_5, w0_6⟩ := open71 hf0
  obtain rfl : v0 = .agg #[.int .u16 a0_0, .int .u16 a0_1, .int .u16 a0_2, .int .u16 a0_3, .int .u16 a0_4, .int .u8 a0_5, .int .u8 a0_6, .bool a0_7] := agg_of_cells e0 (by simp)
  have k1 := h1
  have lt1 : ∀ x ∈ p1, x.block < W.heap.size := by obtain ⟨m, hm⟩ := k1; exact DataW.trod_lt m _ _ _ hm
  obtain ⟨a1, rfl, rfl, rfl, w1⟩ := open_int Try.underlying78 (hval 1 78 v1 rfl rfl) h1
  have k2 := h2
  have lt2 : ∀ x ∈ p2, x.block < W.heap.size := by obtain ⟨m, hm⟩ := k2; exact DataW.trod_lt m _ _ _ hm
  obtain ⟨a2, rfl, rfl, rfl, w2⟩ := open_int Try.underlying78 (hval 2 78 v2 rfl rfl) h2
  clear hA0 hval0 hsz0
  obtain ⟨k, hk⟩ := pure_ThreadTurns a0_0 a0_1 a0_2 a0_3 a0_4 a0_5 a0_6 a0_7 a1 a2 w0_0 w0_1 w0_2 w0_3 w0_4 w0_5 w0_6 w1 w2
  refine (acmelaw01_ThreadTurns.calls k a0_0 a0_1 a0_2 a0_3 a0_4 a0_5 a0_6 a0_7 a1 a2 true W  hk).mono fun e W' ⟨he, bel⟩ => ?_
  subst he
  exact ⟨_, rfl, _, _, _, [], _, [], hW', trodAll_mk1 (shut_bool Try.underlying4 _), (trodAll_cons_mk (Below.trod laidOut (by kernel_rfl) (of_decide_eq_true (by kernel_rfl)) k0 bel lt0) (trodAll_cons_mk (Below.trod laidOut (by kernel_rfl) (of_decide_eq_true (by kernel_rfl)) k1 bel lt1) (trodAll_cons_mk (Below.trod laidOut (by kernel_rfl) (of_decide_eq_true (by kernel_rfl)) k2 bel lt2) trodAll_mk0))), rfl, bel.frame _, fun h => by cases h⟩
theorem over : Rows.threadTurnsRow.holds Try.pinned (OpenSpec.ofChange Rows.threadTurnsSpec) :=
  OpenClaim.holds_of_wide 10 Try.f10 rfl rfl rfl rfl rfl rfl rfl ⟨rfl, rfl, rfl, rfl, rfl⟩ rfl rfl rfl rfl rfl (by kernel_rfl) Try.func10 (by kernel_rfl)
    (of_decide_eq_true (by kernel_rfl)) (by unfold Func.isWrapper; first | (rw [if_pos (by decide +kernel)]; kernel_rfl) | (rw [if_neg (by decide +kernel)]; exact ⟨rfl, rfl⟩))
    (fun os started H enc _ => lifted os started H enc)
theorem proved : Rows.ThreadTurnsSaid := over
end Go.Proofs.Yticbhgjenidjlaa.threadTurns
namespace Go.Proofs.Yticbhgjenidjlaa
theorem threadTurns_holds : Rows.ThreadTurnsSaid := threadTurns.proved
end Go.Proofs.Yticbhgjenidjlaa
