-- cut down, squeezed and laid together by pack.py (a program of this repository) out of this seat's texts
import Derived.KernelRfl
import Derived.ChangeKeysEq
import Derived.Below
import Derived.Deep.Draws
import Derived.Deep.AppendLies
import Derived.Maps.AppendAt
import Derived.OwnWalk
import Derived.Laws.BytesArg
import Derived.Laws.MakeOwn
import Derived.Laws.OwnMore
import Derived.Deep.OwnRows
import Derived.Tactics
import Derived.Lib.ConvBytes
import Derived.Laws.Slices
import Derived.WalkKit
import Derived.RowKit3
import Derived.Deep.LoopGhost
import Derived.Deep.QuietTactic
import Derived.BigQuiet
import Derived.WideLaws
import Derived.Deep.DeepCutAuto
import Derived.Deep.CutBlock
import Derived.Deep.RegionHeld3
import Derived.Laws.Rows
import Derived.Lib.AppendStr
import Derived.ArgAppend
import Derived.Laws.IdiomCopy
import Derived.OrdersHeld
import Derived.Laws.BitsLemmas
import Derived.RowKit
import Derived.Test.YticbhgjenidjlaaProg
import Derived.Laws.StructEq
import Derived.ProofKit
import Derived.OpenShut
import Derived.ShutString
import Derived.ChangeOld
import Derived.SizedLaws
import Derived.Carry
import Derived.Test.YticbhgjenidjlaaRows
import Derived.Test.YticbhgjenidjlaaZP9
import Derived.Test.YticbhgjenidjlaaZP3
import Derived.Test.YticbhgjenidjlaaZP20
import Derived.Test.YticbhgjenidjlaaZP8
import Derived.Test.YticbhgjenidjlaaZP10
import Derived.Test.YticbhgjenidjlaaZP7
import Derived.Test.YticbhgjenidjlaaZP4
import Derived.Test.YticbhgjenidjlaaZP6
import Derived.Test.YticbhgjenidjlaaZP5
import Derived.Test.YticbhgjenidjlaaZP2
import Derived.Test.YticbhgjenidjlaaZP11
import Derived.Test.YticbhgjenidjlaaZP12
import Derived.Test.YticbhgjenidjlaaZP13
import Derived.Test.YticbhgjenidjlaaZP18
import Derived.Test.YticbhgjenidjlaaZP1
import Derived.Test.YticbhgjenidjlaaZP17
import Derived.Test.YticbhgjenidjlaaZP16
import Derived.Test.YticbhgjenidjlaaZP14
import Derived.Test.YticbhgjenidjlaaZP15
import Derived.Test.YticbhgjenidjlaaZP19
namespace Go.Proofs.Yticbhgjenidjlaa.T
open Go.RowKit Go.Proofs.YticbhgjenidjlaaW.PrintWords Go.Proofs.YticbhgjenidjlaaW.PrintLast
set_option linter.unusedVariables false
set_option linter.unusedSimpArgs false

def Valid (p l r a b s t : Int) : Prop :=
  (100 ≤ p ∧ p ≤ 200000) ∧ (0 ≤ l ∧ l ≤ 3000) ∧ (0 ≤ r ∧ r ≤ 3000) ∧ (0 ≤ a ∧ a ≤ 200000) ∧ (0 ≤ b ∧ b ≤ 200000) ∧ 1 ≤ a + b ∧ (1 ≤ s ∧ s ≤ 8) ∧ (0 ≤ t ∧ t ≤ 100) ∧ 0 ≤ 1000 * p - 2 * a * (l + r) ∧ 0 ≤ 1000 * p - 2 * b * (l + r)
instance (p l r a b s t : Int) : Decidable (Valid p l r a b s t) := by unfold Valid; infer_instance
def wid (p l r y : Int) : Int := 1000 * p - 2 * y * (l + r)
theorem wid_bound {p l r y : Int} (hp : 0 ≤ p ∧ p ≤ 200000) (hl : 0 ≤ l ∧ l ≤ 3000) (hr : 0 ≤ r ∧ r ≤ 3000) (hy : -200000 ≤ y ∧ y ≤ 200000) :
    (-1200000000 ≤ y * (l + r) ∧ y * (l + r) ≤ 1200000000) ∧ -3000000000 ≤ wid p l r y ∧ wid p l r y ≤ 3000000000 := by
  have h := mulbs (x := y) (X := 200000) (y := l + r) (Y := 6000) (by omega) (by omega) (by omega) (by omega)
  unfold wid
  rw [Int.mul_assoc]
  omega
theorem width_eq {p l r a b s : Int} {h : Bool} {t y : Int} (hp : 0 ≤ p ∧ p ≤ 200000) (hl : 0 ≤ l ∧ l ≤ 3000) (hr : 0 ≤ r ∧ r ≤ 3000) (hy : -200000 ≤ y ∧ y ≤ 200000) :
    thread_form_width.f p l r a b s h t y = some (wid p l r y) ∧ acmeref01_Width.f p l r a b s h t y = some (wid p l r y) := by
  have hb := wid_bound hp hl hr hy
  unfold wid at *
  rw [Int.mul_assoc] at *
  unfold thread_form_width.f thread_form_leans.f acmeref01_Width.f
  simp only [Option.bind_some]
  rw [wrap64_id (x := l + r) (by omega) (by omega), wrap64_id (x := 2 * y) (by omega) (by omega), wrap64_id (x := 1000 * p) (by omega) (by omega)]
  rw [Int.mul_assoc, wrap64_id (x := 2 * (y * (l + r))) (by omega) (by omega), wrap64_id (by omega) (by omega)]
  exact ⟨rfl, rfl⟩
theorem within_eq1 (lo hi x : Int) : thread_within.f lo hi [x] = some (decide (lo ≤ x ∧ x ≤ hi)) := by
  unfold thread_within.f
  congr 1
  rw [Bool.eq_iff_iff]
  simp [outside]
theorem within_eq2 (lo hi x y : Int) : thread_within.f lo hi [x, y] = some (decide ((lo ≤ x ∧ x ≤ hi) ∧ (lo ≤ y ∧ y ≤ hi))) := by
  unfold thread_within.f
  congr 1
  rw [Bool.eq_iff_iff]
  simp [outside]

theorem check_ev {p l r a b s : Int} {h : Bool} {t : Int} : Ev (fun k => thread_Check.f k p l r a b s h t) (if Valid p l r a b s t then 0 else 2) := by
  refine ⟨2, fun k hk => ?_⟩
  obtain ⟨k, rfl⟩ : ∃ j, k = j + 2 := ⟨k - 2, by omega⟩
  have bad : ∀ {q1 q2 q3 q4 q5 q6 q7 q8 q9 q10 q11 q12 q13 q14 : Int} {g1 g2 : Bool}, ¬ Valid p l r a b s t → ∀ b0 : Bool, b0 = false → thread_Check.j0 (k + 2) b0 q1 q2 q3 q4 q5 q6 g1 q7 q8 q9 q10 q11 q12 q13 g2 q14 = some (if Valid p l r a b s t then 0 else 2) := by
    intro q1 q2 q3 q4 q5 q6 q7 q8 q9 q10 q11 q12 q13 q14 g1 g2 hv b0 hb
    rw [if_neg hv, hb]; simp [thread_Check.j0, thread_Check.j1]
  simp only [thread_Check.f, within_eq1, within_eq2, Option.bind_some]
  by_cases h1 : 100 ≤ p ∧ p ≤ 200000
  rotate_left
  · rw [if_neg (by simpa using h1)]
    exact bad (fun hv => h1 hv.1) _ rfl
  rw [if_pos (by simpa using h1)]
  by_cases h2 : (0 ≤ l ∧ l ≤ 3000) ∧ (0 ≤ r ∧ r ≤ 3000)
  rotate_left
  · rw [if_neg (by simpa using h2)]
    exact bad (fun hv => h2 ⟨hv.2.1, hv.2.2.1⟩) _ rfl
  rw [if_pos (by simpa using h2)]
  by_cases h3 : (0 ≤ a ∧ a ≤ 200000) ∧ (0 ≤ b ∧ b ≤ 200000)
  rotate_left
  · rw [if_neg (by simpa using h3)]
    exact bad (fun hv => h3 ⟨hv.2.2.2.1, hv.2.2.2.2.1⟩) _ rfl
  rw [if_pos (by simpa using h3), wrap64_id (by omega) (by omega)]
  by_cases h4 : 1 ≤ a + b
  rotate_left
  · exact bad (fun hv => h4 hv.2.2.2.2.2.1) _ (by simp; omega)
  rw [decide_eq_true (show a + b ≥ 1 from h4)]
  have b1 : ∀ {q1 q2 q3 q4 q5 q6 q7 q8 q9 q10 q11 q12 q13 q14 : Int} {g1 g2 : Bool}, ¬ Valid p l r a b s t → ∀ b0 : Bool, b0 = true → thread_Check.j1 (k + 1) b0 q1 q2 q3 q4 q5 q6 g1 q7 q8 q9 q10 q11 q12 q13 g2 q14 = some (if Valid p l r a b s t then 0 else 2) := by
    intro q1 q2 q3 q4 q5 q6 q7 q8 q9 q10 q11 q12 q13 q14 g1 g2 hv b0 hb
    rw [if_neg hv, hb]; simp [thread_Check.j1]
  simp only [thread_Check.j0, if_true, within_eq1, Option.bind_some]
  by_cases h5 : 1 ≤ s ∧ s ≤ 8
  rotate_left
  · rw [if_neg (by simpa using h5)]
    exact b1 (fun hv => h5 hv.2.2.2.2.2.2.1) _ rfl
  rw [if_pos (by simpa using h5)]
  by_cases h6 : 0 ≤ t ∧ t ≤ 100
  rotate_left
  · exact b1 (fun hv => h6 hv.2.2.2.2.2.2.2.1) _ (by simp; omega)
  rw [decide_eq_true h6]
  have wa := (width_eq (a := a) (b := b) (s := s) (h := h) (t := t) (y := a) (by omega) h2.1 h2.2 (p := p) (by omega)).1
  have wb := (width_eq (a := a) (b := b) (s := s) (h := h) (t := t) (y := b) (by omega) h2.1 h2.2 (p := p) (by omega)).1
  simp only [thread_Check.j1, Bool.not_true, Bool.false_eq_true, if_false, wa, wb, Option.bind_some]
  by_cases h7 : wid p l r a < 0
  · rw [if_pos h7, if_neg]; intro hv; unfold wid at h7; unfold Valid at hv; omega
  · rw [if_neg h7]
    by_cases h8 : wid p l r b < 0
    · rw [if_pos h8, if_neg]; intro hv; unfold wid at h8; unfold Valid at hv; omega
    · rw [if_neg h8, if_pos]
      unfold wid at h7 h8; exact ⟨h1, h2.1, h2.2, h3.1, h3.2, h4, h5, h6, by omega, by omega⟩

end Go.Proofs.Yticbhgjenidjlaa.T
namespace Go.Proofs.Yticbhgjenidjlaa.T
open Go.RowKit Go.Proofs.YticbhgjenidjlaaW.PrintWords Go.Proofs.YticbhgjenidjlaaW.PrintLast
set_option linter.unusedVariables false
set_option linter.unusedSimpArgs false

theorem open_ev {p l r a b s : Int} {h : Bool} {t : Int} : Ev (fun k => thread_open.f k p l r a b s h t) (p, l, r, a, b, s, h, t, if Valid p l r a b s t then 0 else 2) := by
  unfold thread_open.f
  exact Ev.bind check_ev (Ev.pure _)
end Go.Proofs.Yticbhgjenidjlaa.T
namespace Go.Proofs.Yticbhgjenidjlaa.T
open Go.RowKit Go.Proofs.YticbhgjenidjlaaW.PrintWords Go.Proofs.YticbhgjenidjlaaW.PrintLast
set_option linter.unusedVariables false
set_option linter.unusedSimpArgs false

theorem lead_bound {p s : Int} (hp : 100 ≤ p ∧ p ≤ 200000) (hs : 1 ≤ s ∧ s ≤ 8) : 100 ≤ p * s ∧ p * s ≤ 1600000 := by
  have h1 := mulb (x := p) (X := 200000) (y := s) (Y := 8) (by omega) (by omega) (by omega) (by omega)
  have h2 := Int.mul_le_mul (a := 100) (b := 1) (c := p) (d := s) hp.1 hs.1 (by omega) (by omega)
  omega
theorem lead_eq {p l r a b s : Int} {h : Bool} {t : Int} (hp : 100 ≤ p ∧ p ≤ 200000) (hs : 1 ≤ s ∧ s ≤ 8) : thread_form_lead.f p l r a b s h t = some (p * s) := by
  have := lead_bound hp hs
  unfold thread_form_lead.f
  rw [wrap64_id (by omega) (by omega)]
theorem dia_bound {d x t : Int} (hd : 1 ≤ d ∧ d ≤ 10000000) (hx : 0 ≤ x ∧ x ≤ 10000000) (ht : 0 ≤ t ∧ t ≤ 100) : 0 ≤ 2 * x * t ∧ 2 * x * t ≤ 2000000000 := by
  have := mulb (x := 2 * x) (X := 20000000) (y := t) (Y := 100) (by omega) (by omega) (by omega) (by omega)
  omega
theorem diameter_ev {p l r a b s : Int} {h : Bool} {t d x : Int} : Ev (fun k => thread_Diameter.f k p l r a b s h t d x)
    (if Valid p l r a b s t then if (1 ≤ d ∧ d ≤ 10000000) ∧ (0 ≤ x ∧ x ≤ 10000000) then ((low (1000 * d + 2 * x * t) 1000).1, (low (1000 * d + 2 * x * t) 1000).2, 0) else (0, 0, 3) else (0, 0, 2)) := by
  unfold thread_Diameter.f
  refine Ev.bind check_ev ?_
  by_cases hv : Valid p l r a b s t
  rotate_left
  · simp only [if_neg hv]; exact Ev.pure _
  simp only [if_pos hv, if_true]
  obtain ⟨hp, hl, hr, ha, hb, hab, hs, ht, hwa, hwb⟩ := hv
  simp only [within_eq1, Option.bind_some]
  by_cases h1 : 1 ≤ d ∧ d ≤ 10000000
  rotate_left
  · simp only [decide_eq_false h1, Bool.false_eq_true, if_false, if_neg (fun q : (1 ≤ d ∧ d ≤ 10000000) ∧ (0 ≤ x ∧ x ≤ 10000000) => h1 q.1)]; exact Ev.pure _
  simp only [decide_eq_true h1, if_true]
  by_cases h2 : 0 ≤ x ∧ x ≤ 10000000
  rotate_left
  · simp only [decide_eq_false h2, Bool.false_eq_true, if_false, if_neg (fun q : (1 ≤ d ∧ d ≤ 10000000) ∧ (0 ≤ x ∧ x ≤ 10000000) => h2 q.2)]; exact Ev.pure _
  simp only [decide_eq_true h2, if_true, if_pos (show (1 ≤ d ∧ d ≤ 10000000) ∧ (0 ≤ x ∧ x ≤ 10000000) from ⟨h1, h2⟩)]
  have hB := dia_bound h1 h2 ht
  rw [wrap64_id (x := 2 * x) (by omega) (by omega), wrap64_id (x := 2 * x * t) (by omega) (by omega), wrap64_id (x := 1000 * d) (by omega) (by omega), wrap64_id (by omega) (by omega)]
  exact Ev.bind (ratio_ev _ _ (by omega) (by omega) (by omega) (by omega)) (Ev.pure _)
theorem taper_bound {p s t : Int} (hp : 100 ≤ p ∧ p ≤ 200000) (hs : 1 ≤ s ∧ s ≤ 8) (ht : 0 ≤ t ∧ t ≤ 100) : 0 ≤ t * (p * s) ∧ t * (p * s) ≤ 160000000 ∧ (t ≠ 0 → 0 < t * (p * s)) := by
  have h1 := lead_bound hp hs
  have h2 := mulb (x := t) (X := 100) (y := p * s) (Y := 1600000) (by omega) (by omega) (by omega) (by omega)
  exact ⟨h2.1, by omega, fun h => Int.mul_pos (by omega) (by omega)⟩
theorem meets_ev {p l r a b s : Int} {h : Bool} {t x y : Int} : Ev (fun k => thread_Meets.f k p l r a b s h t x y)
    (if Valid p l r a b s t then if ((1 ≤ x ∧ x ≤ 10000000) ∧ (1 ≤ y ∧ y ≤ 10000000)) ∧ x ≤ y then if t = 0 then (0, 0, 7) else ((low (500 * (y - x)) (t * (p * s))).1, (low (500 * (y - x)) (t * (p * s))).2, 0) else (0, 0, 3) else (0, 0, 2)) := by
  unfold thread_Meets.f
  refine Ev.bind open_ev ?_
  by_cases hv : Valid p l r a b s t
  rotate_left
  · simp only [if_neg hv]; exact Ev.pure _
  simp only [if_pos hv, if_true]
  obtain ⟨hp, hl, hr, ha, hb, hab, hs, ht, hwa, hwb⟩ := hv
  simp only [within_eq2, Option.bind_some]
  by_cases h1 : (1 ≤ x ∧ x ≤ 10000000) ∧ (1 ≤ y ∧ y ≤ 10000000)
  rotate_left
  · simp only [decide_eq_false h1, Bool.false_eq_true, if_false, Bool.not_false, if_neg (fun q : ((1 ≤ x ∧ x ≤ 10000000) ∧ (1 ≤ y ∧ y ≤ 10000000)) ∧ x ≤ y => h1 q.1)]
    exact Ev.succ (Ev.of fun k => by simp [thread_Meets.j0])
  simp only [decide_eq_true h1, if_true]
  refine Ev.succ ?_
  simp only [thread_Meets.j0]
  by_cases h2 : x > y
  · simp only [decide_eq_true h2, if_true, if_neg (fun q : ((1 ≤ x ∧ x ≤ 10000000) ∧ (1 ≤ y ∧ y ≤ 10000000)) ∧ x ≤ y => by omega)]; exact Ev.pure _
  simp only [decide_eq_false h2, Bool.false_eq_true, if_false, if_pos (show ((1 ≤ x ∧ x ≤ 10000000) ∧ (1 ≤ y ∧ y ≤ 10000000)) ∧ x ≤ y from ⟨h1, by omega⟩)]
  by_cases h3 : t = 0
  · simp only [if_pos h3]; exact Ev.pure _
  have hB := taper_bound hp hs ht
  have hB3 := hB.2.2 h3
  simp only [if_neg h3, lead_eq hp hs, Option.bind_some]
  rw [wrap64_id (x := y - x) (by omega) (by omega), wrap64_id (x := (y - x) * 1000) (by omega) (by omega), show ((y - x) * 1000).tdiv 2 = 500 * (y - x) from by rw [show (y - x) * 1000 = 2 * (500 * (y - x)) by omega]; exact Int.mul_tdiv_cancel_left _ (by omega), wrap64_id (x := 500 * (y - x)) (by omega) (by omega), wrap64_id (x := t * (p * s)) (by omega) (by omega)]
  exact Ev.bind (ratio_ev _ _ (by omega) (by omega) (by omega) (by omega)) (Ev.pure _)
end Go.Proofs.Yticbhgjenidjlaa.T
namespace Go.Proofs.Yticbhgjenidjlaa.T
open Go.RowKit Go.Proofs.YticbhgjenidjlaaW.PrintWords Go.Proofs.YticbhgjenidjlaaW.PrintLast
set_option linter.unusedVariables false
set_option linter.unusedSimpArgs false

structure CutOk (p l r a b s : Int) (h : Bool) (t : Int) (c0 c1 c2 c3 c4 c5 c6 : Int) : Prop where
  valid : Valid p l r a b s t
  left : l ≤ 1199
  right : r ≤ 1199
  above : a ≤ 100000
  below : b ≤ 100000
  pitch : p = 100 + c0
  small : p ≤ 65635
theorem tmod_bound {x n : Int} (h0 : 0 ≤ x) (hn : 0 < n) : 0 ≤ x.tmod n ∧ x.tmod n < n ∧ x.tmod n ≤ x := by
  have h1 := Int.tmod_lt_of_pos x hn
  have h2 := Int.tmod_nonneg n h0
  refine ⟨h2, h1, ?_⟩
  rw [Int.tmod_eq_emod_of_nonneg h0]
  have e := Int.mul_ediv_add_emod x n
  have := Int.mul_nonneg (Int.le_of_lt hn) (Int.ediv_nonneg h0 (Int.le_of_lt hn))
  omega
theorem cut_ev {c0 c1 c2 c3 c4 c5 c6 : Int} {h : Bool} (b0 : 0 ≤ c0 ∧ c0 ≤ 65535) (b1 : 0 ≤ c1 ∧ c1 ≤ 65535) (b2 : 0 ≤ c2 ∧ c2 ≤ 65535) (b3 : 0 ≤ c3 ∧ c3 ≤ 65535) (b4 : 0 ≤ c4 ∧ c4 ≤ 65535) (b5 : 0 ≤ c5 ∧ c5 ≤ 255) (b6 : 0 ≤ c6 ∧ c6 ≤ 255) :
    ∃ p l r a b s t, acmelaw01_Cut_form.f c0 c1 c2 c3 c4 c5 c6 h = some (p, l, r, a, b, s, h, t) ∧ CutOk p l r a b s h t c0 c1 c2 c3 c4 c5 c6 := by
  have w0 := wrap64_id (x := c0) (by omega) (by omega)
  have w1 := wrap64_id (x := c1) (by omega) (by omega)
  have w2 := wrap64_id (x := c2) (by omega) (by omega)
  have w3 := wrap64_id (x := c3) (by omega) (by omega)
  have w4 := wrap64_id (x := c4) (by omega) (by omega)
  have w5 := wrap64_id (x := c5) (by omega) (by omega)
  have w6 := wrap64_id (x := c6) (by omega) (by omega)
  have t1 := tmod_bound (n := 1200) b1.1 (by omega)
  have t2 := tmod_bound (n := 1200) b2.1 (by omega)
  have t5 := tmod_bound (n := 8) b5.1 (by omega)
  have t6 := tmod_bound (n := 101) b6.1 (by omega)
  unfold acmelaw01_Cut_form.f
  simp only [w0, w1, w2, w3, w4, w5, w6]
  generalize hl : c1.tmod 1200 = l at *
  generalize hr : c2.tmod 1200 = r at *
  generalize hs : c5.tmod 8 = s at *
  generalize ht : c6.tmod 101 = t at *
  rw [wrap64_id (x := l + r) (by omega) (by omega), wrap64_id (x := 100 + c0) (by omega) (by omega), wrap64_id (x := 500 * (100 + c0)) (by omega) (by omega), wrap64_id (x := 1 + s) (by omega) (by omega)]
  by_cases hn : l + r > 0
  · rw [if_pos hn, if_neg (by omega)]
    have hq0 : 0 ≤ (500 * (100 + c0)).tdiv (l + r) := Int.tdiv_nonneg (by omega) (by omega)
    have hq1 : (500 * (100 + c0)).tdiv (l + r) * (l + r) ≤ 500 * (100 + c0) := by
      have := Int.tdiv_mul_le (500 * (100 + c0)) (b := l + r) (by omega)
      have h2 : Int.tdiv (500 * (100 + c0)) (l + r) * (l + r) + Int.tmod (500 * (100 + c0)) (l + r) = 500 * (100 + c0) := by
        rw [Int.mul_comm]; exact Int.mul_tdiv_add_tmod _ _
      have h3 := Int.tmod_nonneg (l + r) (show 0 ≤ 500 * (100 + c0) by omega)
      omega
    have hq2 : (500 * (100 + c0)).tdiv (l + r) ≤ 500 * (100 + c0) := by
      have : (500 * (100 + c0)).tdiv (l + r) * 1 ≤ (500 * (100 + c0)).tdiv (l + r) * (l + r) := Int.mul_le_mul_of_nonneg_left (by omega) hq0
      omega
    generalize hq : (500 * (100 + c0)).tdiv (l + r) = q at *
    rw [wrap64_id (x := q) (by omega) (by omega)]
    have hmn : 0 ≤ mn 100000 q ∧ mn 100000 q ≤ 100000 ∧ mn 100000 q ≤ q := by unfold mn; split <;> omega
    generalize mn 100000 q = m at *
    rw [wrap64_id (x := m + 1) (by omega) (by omega), if_neg (by omega)]
    have t3 := tmod_bound (n := m + 1) b3.1 (by omega)
    have t4 := tmod_bound (n := m + 1) b4.1 (by omega)
    generalize c3.tmod (m + 1) = a at *
    generalize c4.tmod (m + 1) = b at *
    rw [wrap64_id (x := a + b) (by omega) (by omega)]
    have hm : ∀ x, 0 ≤ x → x ≤ m → 0 ≤ 1000 * (100 + c0) - 2 * x * (l + r) := by
      intro x h0 h1
      have : x * (l + r) ≤ q * (l + r) := Int.mul_le_mul_of_nonneg_right (by omega) (by omega)
      rw [Int.mul_assoc]
      omega
    by_cases hz : a + b = 0
    · rw [if_pos hz]
      have hv1 : 0 ≤ 1000 * (100 + c0) - 2 * 1 * (l + r) := by omega
      exact ⟨_, _, _, _, _, _, _, rfl, ⟨⟨by omega, by omega, by omega, by omega, by omega, by omega, by omega, by omega, hv1, hm b (by omega) (by omega)⟩, by omega, by omega, by omega, by omega, rfl, by omega⟩⟩
    · rw [if_neg hz]
      exact ⟨_, _, _, _, _, _, _, rfl, ⟨⟨by omega, by omega, by omega, by omega, by omega, by omega, by omega, by omega, hm a (by omega) (by omega), hm b (by omega) (by omega)⟩, by omega, by omega, by omega, by omega, rfl, by omega⟩⟩
  · rw [if_neg hn]
    have t3 := tmod_bound (n := 100001) b3.1 (by omega)
    have t4 := tmod_bound (n := 100001) b4.1 (by omega)
    generalize c3.tmod 100001 = a at *
    generalize c4.tmod 100001 = b at *
    rw [wrap64_id (x := a + b) (by omega) (by omega)]
    have hlr : l + r = 0 := by omega
    by_cases hz : a + b = 0
    · rw [if_pos hz]
      exact ⟨_, _, _, _, _, _, _, rfl, ⟨⟨by omega, by omega, by omega, by omega, by omega, by omega, by omega, by omega, by rw [hlr]; omega, by rw [hlr]; omega⟩, by omega, by omega, by omega, by omega, rfl, by omega⟩⟩
    · rw [if_neg hz]
      exact ⟨_, _, _, _, _, _, _, rfl, ⟨⟨by omega, by omega, by omega, by omega, by omega, by omega, by omega, by omega, by rw [hlr]; omega, by rw [hlr]; omega⟩, by omega, by omega, by omega, by omega, rfl, by omega⟩⟩
end Go.Proofs.Yticbhgjenidjlaa.T
namespace Go.Proofs.Yticbhgjenidjlaa.T
open Go.RowKit
set_option linter.unusedVariables false
set_option linter.unusedSimpArgs false

theorem wfU16 {x : Int} (h : (Lit.int .u16 x).wf = true) : 0 ≤ x ∧ x ≤ 65535 := by
  simp [Lit.wf, IntKind.min, IntKind.max, IntKind.signed, IntKind.bits] at h; omega
theorem wfU8 {x : Int} (h : (Lit.int .u8 x).wf = true) : 0 ≤ x ∧ x ≤ 255 := by
  simp [Lit.wf, IntKind.min, IntKind.max, IntKind.signed, IntKind.bits] at h; omega
theorem wfU32 {x : Int} (h : (Lit.int .u32 x).wf = true) : 0 ≤ x ∧ x ≤ 4294967295 := by
  simp [Lit.wf, IntKind.min, IntKind.max, IntKind.signed, IntKind.bits] at h; omega
theorem low_facts (n d : Int) (hd : 0 < d) : ∃ g q e : Int, 0 < g ∧ 0 < e ∧ n = g * q ∧ d = g * e ∧ low n d = (q, e) ∧ Int.gcd q e = 1 := by
  have hg : 0 < Int.gcd n d := Int.gcd_pos_of_ne_zero_right _ (by omega)
  obtain ⟨q, hq⟩ := Int.gcd_dvd_left (a := n) (b := d)
  obtain ⟨e, he⟩ := Int.gcd_dvd_right (a := n) (b := d)
  have hg' : (0 : Int) < (Int.gcd n d : Int) := by omega
  have hepos : 0 < e := by
    rcases Int.lt_trichotomy e 0 with h | h | h
    · have := Int.mul_neg_of_pos_of_neg hg' h; omega
    · rw [h] at he; omega
    · exact h
  refine ⟨(Int.gcd n d : Int), q, e, hg', hepos, hq, he, ?_, ?_⟩
  · unfold low
    have h1 : n.tdiv (Int.gcd n d : Int) = q := by
      have : ((Int.gcd n d : Int) * q).tdiv (Int.gcd n d : Int) = q := Int.mul_tdiv_cancel_left q (by omega)
      rwa [← hq] at this
    have h2 : d.tdiv (Int.gcd n d : Int) = e := by
      have : ((Int.gcd n d : Int) * e).tdiv (Int.gcd n d : Int) = e := Int.mul_tdiv_cancel_left e (by omega)
      rwa [← he] at this
    rw [h1, h2]
  · have : Int.gcd ((Int.gcd n d : Int) * q) ((Int.gcd n d : Int) * e) = Int.gcd n d * Int.gcd q e := by rw [Int.gcd_mul_left]; simp
    rw [← hq, ← he] at this
    have h3 : Int.gcd n d * 1 = Int.gcd n d * Int.gcd q e := by omega
    exact (Nat.eq_of_mul_eq_mul_left hg h3).symm
theorem low_zero (d : Int) (hd : 0 < d) : low 0 d = (0, 1) := by
  unfold low
  rw [Int.gcd_zero_left]
  have : ((d.natAbs : Nat) : Int) = d := by omega
  rw [this, Int.zero_tdiv, Int.tdiv_self (by omega)]
theorem tdiv_facts {x e : Int} (hx : 0 ≤ x) (he : 0 < e) : 0 ≤ x.tdiv e ∧ x.tdiv e * e ≤ x ∧ x < (x.tdiv e + 1) * e ∧ x.tdiv e ≤ x ∧ x = x.tdiv e * e + x.tmod e := by
  have h0 : 0 ≤ x.tdiv e := Int.tdiv_nonneg hx (by omega)
  have h1 : x.tdiv e * e + x.tmod e = x := by rw [Int.mul_comm]; exact Int.mul_tdiv_add_tmod _ _
  have h2 := Int.tmod_nonneg e hx
  have h3 := Int.tmod_lt_of_pos x he
  have h4 : x.tdiv e * 1 ≤ x.tdiv e * e := Int.mul_le_mul_of_nonneg_left (by omega) h0
  rw [Int.add_mul]
  omega
end Go.Proofs.Yticbhgjenidjlaa.T
namespace Go.Proofs.Yticbhgjenidjlaa.T
open Go Go.RowKit Go.Proofs.Yticbhgjenidjlaa.Ab
set_option linter.unusedVariables false
set_option linter.unusedSimpArgs false
theorem pure_ThreadTapers (a0_0 : Int) (a0_1 : Int) (a0_2 : Int) (a0_3 : Int) (a0_4 : Int) (a0_5 : Int) (a0_6 : Int) (a0_7 : Bool) (a1 : Int) (a2 : Int) (w0_0 : (Lit.int .u16 a0_0).wf = true) (w0_1 : (Lit.int .u16 a0_1).wf = true) (w0_2 : (Lit.int .u16 a0_2).wf = true) (w0_3 : (Lit.int .u16 a0_3).wf = true) (w0_4 : (Lit.int .u16 a0_4).wf = true) (w0_5 : (Lit.int .u8 a0_5).wf = true) (w0_6 : (Lit.int .u8 a0_6).wf = true) (w1 : (Lit.int .u32 a1).wf = true) (w2 : (Lit.int .u16 a2).wf = true) : ∃ k, acmelaw01_ThreadTapers.f k a0_0 a0_1 a0_2 a0_3 a0_4 a0_5 a0_6 a0_7 a1 a2 = some true := by
  have b0 := wfU16 w0_0
  have b1 := wfU16 w0_1
  have b2 := wfU16 w0_2
  have b3 := wfU16 w0_3
  have b4 := wfU16 w0_4
  have b5 := wfU8 w0_5
  have b6 := wfU8 w0_6
  obtain ⟨p, l, r, a, b, s, t, hcut, hok⟩ := cut_ev (h := a0_7) b0 b1 b2 b3 b4 b5 b6
  obtain ⟨hv, hl9, hr9, ha9, hb9, _, hp9⟩ := hok
  have hv' := hv
  obtain ⟨hp, hl, hr, ha, hb, hab, hs, ht, hwa, hwb⟩ := hv'
  refine Ev.ex ?_
  unfold acmelaw01_ThreadTapers.f
  refine Ev.bind (v := Value.bool true) ?_ (Ev.of fun _ => rfl)
  unfold acmelaw01_ThreadTapers.T
  have known : Ev (fun _ => (acmelaw01_known.f).bind fun t => (some (Value.bool t))) (.bool true) := Ev.pure _
  have e0 : ((0 : Int) != 0) = false := rfl
  have e2 : ((2 : Int) != 2) = false := rfl
  simp only [hcut, Option.bind_some]
  have c1 := wfU32 w1
  have c2 := wfU16 w2
  have hL := lead_bound hp hs
  have hT := taper_bound hp hs ht
  have hm := tmod_bound (n := 9000000) c1.1 (by omega)
  rw [show IntKind.i64.wrap (1 + (IntKind.i64.wrap a1).tmod 9000000) = 1 + a1.tmod 9000000 from by rw [i64_wrap, i64_wrap, wrap64_id (x := a1) (by omega) (by omega), wrap64_id (by omega) (by omega)]]
  generalize a1.tmod 9000000 = m at *
  rw [show IntKind.i64.wrap (1 + m + IntKind.i64.wrap a2) = 1 + m + a2 from by rw [i64_wrap, i64_wrap, wrap64_id (x := a2) (by omega) (by omega), wrap64_id (by omega) (by omega)]]
  refine Ev.bind meets_ev ?_
  refine Ev.bind meets_ev ?_
  simp only [if_pos hv, if_pos (show ((1 ≤ 1 + m ∧ 1 + m ≤ 10000000) ∧ (1 ≤ 1 + m + a2 ∧ 1 + m + a2 ≤ 10000000)) ∧ 1 + m ≤ 1 + m + a2 by omega), if_pos (show ((1 ≤ 1 + m ∧ 1 + m ≤ 10000000) ∧ (1 ≤ 1 + m ∧ 1 + m ≤ 10000000)) ∧ 1 + m ≤ 1 + m by omega)]
  by_cases hz : t = 0
  · simp only [if_pos hz, beq_iff_eq.mpr hz, cond_true, beq_self_eq_true, Bool.and_self]
    exact known
  have hT3 := hT.2.2 hz
  simp only [if_neg hz, beq_eq_false_iff_ne.mpr hz, cond_false, e0]
  rw [show 500 * (1 + m - (1 + m)) = 0 by omega, low_zero _ hT3, show 500 * (1 + m + a2 - (1 + m)) = 500 * a2 by omega]
  obtain ⟨g, q, e, hg, he, hn, hd, hlow, _⟩ := low_facts (500 * a2) (t * (p * s)) hT3
  rw [hlow]
  have hq0 : 0 ≤ q := by
    rcases Int.lt_or_le q 0 with h | h
    · have := Int.mul_neg_of_pos_of_neg hg h; omega
    · exact h
  have hq1 : q ≤ 32767500 := by
    have : 1 * q ≤ g * q := Int.mul_le_mul_of_nonneg_right (by omega) hq0
    omega
  have hqL := mulb (x := q) (X := 32767500) (y := p * s) (Y := 1600000) hq0 hq1 (by omega) (by omega)
  have hX := tdiv_facts (x := q * (p * s)) (e := e) hqL.1 he
  simp only [decide_eq_false (show ¬ e < 1 by omega), decide_eq_false (show ¬ q < 0 by omega), decide_eq_false (show ¬ e = 0 by omega), cond_false, i64_wrap, beq_self_eq_true, Bool.and_self, Bool.not_true,
    wrap64_id (x := p * s) (by omega) (by omega), wrap64_id (x := q * (p * s)) (by omega) (by omega)]
  generalize hXe : (q * (p * s)).tdiv e = X at *
  simp only [wrap64_id (x := X) (by omega) (by omega), wrap64_id (x := X + 1) (by omega) (by omega)]
  by_cases hbig : X + 1 > 10000000
  · simp only [decide_eq_true hbig, cond_true]
    exact known
  simp only [decide_eq_false hbig, cond_false]
  refine Ev.bind diameter_ev ?_
  refine Ev.bind diameter_ev ?_
  simp only [if_pos hv, if_pos (show (1 ≤ 1 + m ∧ 1 + m ≤ 10000000) ∧ (0 ≤ X ∧ X ≤ 10000000) by omega), if_pos (show (1 ≤ 1 + m ∧ 1 + m ≤ 10000000) ∧ (0 ≤ X + 1 ∧ X + 1 ≤ 10000000) by omega), e0, cond_false]
  obtain ⟨g3, q3, e3, hg3, he3, hn3, hd3, hlow3, _⟩ := low_facts (1000 * (1 + m) + 2 * X * t) 1000 (by omega)
  obtain ⟨g4, q4, e4, hg4, he4, hn4, hd4, hlow4, _⟩ := low_facts (1000 * (1 + m) + 2 * (X + 1) * t) 1000 (by omega)
  rw [hlow3, hlow4]
  -- q lead = 500 a2 e / t
  have key : t * (q * (p * s)) = 500 * a2 * e := by
    rw [Int.mul_left_comm, hd, hn, Int.mul_left_comm q g e, Int.mul_assoc]
  have lo : X * t ≤ 500 * a2 := by
    have h1 : t * (X * e) ≤ t * (q * (p * s)) := Int.mul_le_mul_of_nonneg_left hX.2.1 (by omega)
    rw [key, ← Int.mul_assoc, Int.mul_comm t X] at h1
    exact Int.le_of_mul_le_mul_right h1 he
  have hi : 500 * a2 < (X + 1) * t := by
    have h1 : t * (q * (p * s)) < t * ((X + 1) * e) := Int.mul_lt_mul_of_pos_left hX.2.2.1 (by omega)
    rw [key, ← Int.mul_assoc, Int.mul_comm t (X + 1)] at h1
    exact Int.lt_of_mul_lt_mul_right h1 (by omega)
  have ge3 : e3 ≤ 1000 := by
    have : 1 * e3 ≤ g3 * e3 := Int.mul_le_mul_of_nonneg_right (by omega) (by omega)
    omega
  have ge4 : e4 ≤ 1000 := by
    have : 1 * e4 ≤ g4 * e4 := Int.mul_le_mul_of_nonneg_right (by omega) (by omega)
    omega
  have hR3 := mulb (x := 1 + m + a2) (X := 10000000) (y := e3) (Y := 1000) (by omega) (by omega) (by omega) ge3
  have hR4 := mulb (x := 1 + m + a2) (X := 10000000) (y := e4) (Y := 1000) (by omega) (by omega) (by omega) ge4
  have n3 : g3 * q3 ≤ g3 * ((1 + m + a2) * e3) := by
    rw [← hn3, Int.mul_left_comm, ← hd3, Int.mul_assoc]
    omega
  have n4 : g4 * ((1 + m + a2) * e4) < g4 * q4 := by
    rw [← hn4, Int.mul_left_comm, ← hd4, Int.mul_assoc]
    omega
  have r3 : q3 ≤ (1 + m + a2) * e3 := Int.le_of_mul_le_mul_left n3 hg3
  have r4 : (1 + m + a2) * e4 < q4 := Int.lt_of_mul_lt_mul_left n4 (by omega)
  simp only [decide_eq_false (show ¬ e3 < 1 by omega), decide_eq_false (show ¬ e4 < 1 by omega), cond_false, wrap64_id (x := (1 + m + a2) * e3) (by omega) (by omega), wrap64_id (x := (1 + m + a2) * e4) (by omega) (by omega), decide_eq_true r3, decide_eq_true (show q4 > (1 + m + a2) * e4 from r4), cond_true]
  by_cases hmod : (q * (p * s)).tmod e = 0
  · have hXE : X * e = q * (p * s) := by omega
    have heq : X * t = 500 * a2 := by
      have h1 : t * (X * e) = 500 * a2 * e := by rw [hXE, key]
      rw [← Int.mul_assoc, Int.mul_comm t X] at h1
      exact Int.eq_of_mul_eq_mul_right (by omega) h1
    have n5 : g3 * q3 = g3 * ((1 + m + a2) * e3) := by
      rw [← hn3, Int.mul_left_comm, ← hd3, Int.mul_assoc]
      omega
    have r5 : q3 = (1 + m + a2) * e3 := Int.eq_of_mul_eq_mul_left (by omega) n5
    simp only [hmod, e0, cond_false, ← r5, beq_self_eq_true, cond_true]
    exact known
  · simp only [bne_iff_ne.mpr hmod, cond_true]
    exact known
end Go.Proofs.Yticbhgjenidjlaa.T
namespace Go.Proofs.Yticbhgjenidjlaa.threadTapers
open Go.ChangeShapes Go.WideShapes Go.ChangeAt Go.RowKit Go.Proofs.Yticbhgjenidjlaa.T
open Go.ChangeMaps (open_string shut_string)
set_option linter.unusedVariables false
theorem own : ownKnob Try.prog.godebug = none := by kernel_rfl
theorem laidOut : laidOutB Try.prog = true := by kernel_rfl
set_option maxRecDepth 100000 in
theorem lifted (os : Os) (started : os.Started) (H : Type) (enc : TypeId × Value → H) :
    ReturnsInHanded {} Try.checked os 11 .any (Rows.threadTapersSpec.pre6 enc Try.prog Try.f11 Rows.threadTapersRow.domain false) (Rows.threadTapersSpec.post enc Try.prog Try.f11 false true false false) := by
  refine returnsInHanded_of_change_sized (C := Try.checked) own started (by kernel_rfl) Try.func11
    (ChangeSpec.witness6 (enc := enc) (C := Try.checked) false ⟨#[], #[.agg #[.int .u16 0, .int .u16 0, .int .u16 0, .int .u16 0, .int .u16 0, .int .u8 0, .int .u8 0, .bool false], .int .u32 0, .int .u16 0], []⟩ 8 (by kernel_rfl) (by kernel_rfl) (by kernel_rfl) (by kernel_rfl)) ?_
  intro W base args ds gs before hval0 hW hcnd hsz0 _
  have hval : ∀ (j : Nat) t v, Try.f11.params[j]? = some t → args[j]? = some v → Value.okWide Try.prog W .any base t v := hval0
  have hW' := hW
  obtain ⟨p, q, hA0, hV, rfl, hfz, hnd⟩ := hW
  have hA : DataW.TrodAll enc Try.prog W 0 (fun _ => true) true Try.f11.params.toList args.toList ds p := hA0
  rw [Try.params11] at hA hval
  obtain ⟨v0, vs0, d0, ds0, p0, q0, hargs, rfl, rfl, h0, r0⟩ := trodAll_cons hA
  obtain ⟨v1, vs1, d1, ds1, p1, q1, rfl, rfl, rfl, h1, r1⟩ := trodAll_cons r0
  obtain ⟨v2, vs2, d2, ds2, p2, q2, rfl, rfl, rfl, h2, r2⟩ := trodAll_cons r1
  obtain ⟨rfl, rfl, rfl⟩ := trodAll_nil r2
  obtain rfl : args = #[v0, v1, v2] := by cases args; simp_all
  obtain ⟨rfl, rfl⟩ := trodVars_none hV
  have k0 := h0
  have lt0 : ∀ x ∈ p0, x.block < W.heap.size := by obtain ⟨m, hm⟩ := k0; exact DataW.trod_lt m _ _ _ hm
  obtain ⟨fuel0, hf0⟩ := h0
  obtain ⟨a0_0, a0_1, a0_2, a0_3, a0_4, a0_5, a0_6, a0_7, e0, w0_0, w0_1, w0_2, w0_3, w0_4, w0_5, w0_6⟩ := open71 hf0
  obtain rfl : v0 = .agg #[.int .u16 a0_0, .int .u16 a0_1, .int .u16 a0_2, .int .u16 a0_3, .int .u16 a0_4, .int .u8 a0_5, .int .u8 a0_6, .bool a0_7] := agg_of_cells e0 (by simp)
  have k1 := h1
  have lt1 : ∀ x ∈ p1, x.block < W.heap.size := by obtain ⟨m, hm⟩ := k1; exact DataW.trod_lt m _ _ _ hm
  obtain ⟨a1, rfl, rfl, rfl, w1⟩ := open_int Try.underlying80 (hval 1 80 v1 rfl rfl) h1
  have k2 := h2
  have lt2 : ∀ x ∈ p2, x.block < W.heap.size := by obtain ⟨m, hm⟩ := k2; exact DataW.trod_lt m _ _ _ hm
  obtain ⟨a2, rfl, rfl, rfl, w2⟩ := open_int Try.underlying69 (hval 2 69 v2 rfl rfl) h2
  clear hA0 hval0 hsz0
  obtain ⟨k, hk⟩ := pure_ThreadTapers a0_0 a0_1 a0_2 a0_3 a0_4 a0_5 a0_6 a0_7 a1 a2 w0_0 w0_1 w0_2 w0_3 w0_4 w0_5 w0_6 w1 w2
  refine (acmelaw01_ThreadTapers.calls k a0_0 a0_1 a0_2 a0_3 a0_4 a0_5 a0_6 a0_7 a1 a2 true W  hk).mono fun e W' ⟨he, bel⟩ => ?_
  subst he
  exact ⟨_, rfl, _, _, _, [], _, [], hW', trodAll_mk1 (shut_bool Try.underlying4 _), (trodAll_cons_mk (Below.trod laidOut (by kernel_rfl) (of_decide_eq_true (by kernel_rfl)) k0 bel lt0) (trodAll_cons_mk (Below.trod laidOut (by kernel_rfl) (of_decide_eq_true (by kernel_rfl)) k1 bel lt1) (trodAll_cons_mk (Below.trod laidOut (by kernel_rfl) (of_decide_eq_true (by kernel_rfl)) k2 bel lt2) trodAll_mk0))), rfl, bel.frame _, fun h => by cases h⟩
theorem over : Rows.threadTapersRow.holds Try.pinned (OpenSpec.ofChange Rows.threadTapersSpec) :=
  OpenClaim.holds_of_wide 11 Try.f11 rfl rfl rfl rfl rfl rfl rfl ⟨rfl, rfl, rfl, rfl, rfl⟩ rfl rfl rfl rfl rfl (by kernel_rfl) Try.func11 (by kernel_rfl)
    (of_decide_eq_true (by kernel_rfl)) (by unfold Func.isWrapper; first | (rw [if_pos (by decide +kernel)]; kernel_rfl) | (rw [if_neg (by decide +kernel)]; exact ⟨rfl, rfl⟩))
    (fun os started H enc _ => lifted os started H enc)
theorem proved : Rows.ThreadTapersSaid := over
end Go.Proofs.Yticbhgjenidjlaa.threadTapers
namespace Go.Proofs.Yticbhgjenidjlaa
theorem threadTapers_holds : Rows.ThreadTapersSaid := threadTapers.proved
end Go.Proofs.Yticbhgjenidjlaa
