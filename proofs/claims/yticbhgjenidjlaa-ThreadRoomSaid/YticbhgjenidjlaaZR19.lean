-- cut down, squeezed and laid together by pack.py (a program of this repository) out of this seat's texts
import Derived.KernelRfl
import Derived.ChangeKeysEq
import Derived.Below
import Derived.Deep.Draws
import Derived.Deep.AppendLies
import Derived.Maps.AppendAt
import Derived.OwnWalk
import Derived.Laws.BytesArg
import Derived.Laws.MakeOwn
import Derived.Laws.OwnMore
import Derived.Deep.OwnRows
import Derived.Tactics
import Derived.Lib.ConvBytes
import Derived.Laws.Slices
import Derived.WalkKit
import Derived.RowKit3
import Derived.Deep.LoopGhost
import Derived.Deep.QuietTactic
import Derived.BigQuiet
import Derived.WideLaws
import Derived.Deep.DeepCutAuto
import Derived.Deep.CutBlock
import Derived.Deep.RegionHeld3
import Derived.Laws.Rows
import Derived.Lib.AppendStr
import Derived.ArgAppend
import Derived.Laws.IdiomCopy
import Derived.OrdersHeld
import Derived.Laws.BitsLemmas
import Derived.RowKit
import Derived.Test.YticbhgjenidjlaaProg
import Derived.Laws.StructEq
import Derived.ProofKit
import Derived.OpenShut
import Derived.ShutString
import Derived.ChangeOld
import Derived.SizedLaws
import Derived.Carry
import Derived.Test.YticbhgjenidjlaaRows
import Derived.Test.YticbhgjenidjlaaZR9
import Derived.Test.YticbhgjenidjlaaZR3
import Derived.Test.YticbhgjenidjlaaZR18
import Derived.Test.YticbhgjenidjlaaZR8
import Derived.Test.YticbhgjenidjlaaZR7
import Derived.Test.YticbhgjenidjlaaZR4
import Derived.Test.YticbhgjenidjlaaZR6
import Derived.Test.YticbhgjenidjlaaZR5
import Derived.Test.YticbhgjenidjlaaZR2
import Derived.Test.YticbhgjenidjlaaZR14
import Derived.Test.YticbhgjenidjlaaZR10
import Derived.Test.YticbhgjenidjlaaZR11
import Derived.Test.YticbhgjenidjlaaZR12
import Derived.Test.YticbhgjenidjlaaZR13
import Derived.Test.YticbhgjenidjlaaZR1
import Derived.Test.YticbhgjenidjlaaZR17
import Derived.Test.YticbhgjenidjlaaZR16
import Derived.Test.YticbhgjenidjlaaZR15
namespace Go.Proofs.Yticbhgjenidjlaa.T
open Go.RowKit Go.Proofs.YticbhgjenidjlaaW.PrintWords Go.Proofs.YticbhgjenidjlaaW.PrintLast
set_option linter.unusedVariables false
set_option linter.unusedSimpArgs false

def Valid (p l r a b s t : Int) : Prop :=
  (100 ≤ p ∧ p ≤ 200000) ∧ (0 ≤ l ∧ l ≤ 3000) ∧ (0 ≤ r ∧ r ≤ 3000) ∧ (0 ≤ a ∧ a ≤ 200000) ∧ (0 ≤ b ∧ b ≤ 200000) ∧ 1 ≤ a + b ∧ (1 ≤ s ∧ s ≤ 8) ∧ (0 ≤ t ∧ t ≤ 100) ∧ 0 ≤ 1000 * p - 2 * a * (l + r) ∧ 0 ≤ 1000 * p - 2 * b * (l + r)
instance (p l r a b s t : Int) : Decidable (Valid p l r a b s t) := by unfold Valid; infer_instance
def wid (p l r y : Int) : Int := 1000 * p - 2 * y * (l + r)
theorem wid_bound {p l r y : Int} (hp : 0 ≤ p ∧ p ≤ 200000) (hl : 0 ≤ l ∧ l ≤ 3000) (hr : 0 ≤ r ∧ r ≤ 3000) (hy : -200000 ≤ y ∧ y ≤ 200000) :
    (-1200000000 ≤ y * (l + r) ∧ y * (l + r) ≤ 1200000000) ∧ -3000000000 ≤ wid p l r y ∧ wid p l r y ≤ 3000000000 := by
  have h := mulbs (x := y) (X := 200000) (y := l + r) (Y := 6000) (by omega) (by omega) (by omega) (by omega)
  unfold wid
  rw [Int.mul_assoc]
  omega
theorem width_eq {p l r a b s : Int} {h : Bool} {t y : Int} (hp : 0 ≤ p ∧ p ≤ 200000) (hl : 0 ≤ l ∧ l ≤ 3000) (hr : 0 ≤ r ∧ r ≤ 3000) (hy : -200000 ≤ y ∧ y ≤ 200000) :
    thread_form_width.f p l r a b s h t y = some (wid p l r y) ∧ acmeref01_Width.f p l r a b s h t y = some (wid p l r y) := by
  have hb := wid_bound hp hl hr hy
  unfold wid at *
  rw [Int.mul_assoc] at *
  unfold thread_form_width.f thread_form_leans.f acmeref01_Width.f
  simp only [Option.bind_some]
  rw [wrap64_id (x := l + r) (by omega) (by omega), wrap64_id (x := 2 * y) (by omega) (by omega), wrap64_id (x := 1000 * p) (by omega) (by omega)]
  rw [Int.mul_assoc, wrap64_id (x := 2 * (y * (l + r))) (by omega) (by omega), wrap64_id (by omega) (by omega)]
  exact ⟨rfl, rfl⟩
theorem within_eq1 (lo hi x : Int) : thread_within.f lo hi [x] = some (decide (lo ≤ x ∧ x ≤ hi)) := by
  unfold thread_within.f
  congr 1
  rw [Bool.eq_iff_iff]
  simp [outside]
theorem within_eq2 (lo hi x y : Int) : thread_within.f lo hi [x, y] = some (decide ((lo ≤ x ∧ x ≤ hi) ∧ (lo ≤ y ∧ y ≤ hi))) := by
  unfold thread_within.f
  congr 1
  rw [Bool.eq_iff_iff]
  simp [outside]

theorem check_ev {p l r a b s : Int} {h : Bool} {t : Int} : Ev (fun k => thread_Check.f k p l r a b s h t) (if Valid p l r a b s t then 0 else 2) := by
  refine ⟨2, fun k hk => ?_⟩
  obtain ⟨k, rfl⟩ : ∃ j, k = j + 2 := ⟨k - 2, by omega⟩
  have bad : ∀ {q1 q2 q3 q4 q5 q6 q7 q8 q9 q10 q11 q12 q13 q14 : Int} {g1 g2 : Bool}, ¬ Valid p l r a b s t → ∀ b0 : Bool, b0 = false → thread_Check.j0 (k + 2) b0 q1 q2 q3 q4 q5 q6 g1 q7 q8 q9 q10 q11 q12 q13 g2 q14 = some (if Valid p l r a b s t then 0 else 2) := by
    intro q1 q2 q3 q4 q5 q6 q7 q8 q9 q10 q11 q12 q13 q14 g1 g2 hv b0 hb
    rw [if_neg hv, hb]; simp [thread_Check.j0, thread_Check.j1]
  simp only [thread_Check.f, within_eq1, within_eq2, Option.bind_some]
  by_cases h1 : 100 ≤ p ∧ p ≤ 200000
  rotate_left
  · rw [if_neg (by simpa using h1)]
    exact bad (fun hv => h1 hv.1) _ rfl
  rw [if_pos (by simpa using h1)]
  by_cases h2 : (0 ≤ l ∧ l ≤ 3000) ∧ (0 ≤ r ∧ r ≤ 3000)
  rotate_left
  · rw [if_neg (by simpa using h2)]
    exact bad (fun hv => h2 ⟨hv.2.1, hv.2.2.1⟩) _ rfl
  rw [if_pos (by simpa using h2)]
  by_cases h3 : (0 ≤ a ∧ a ≤ 200000) ∧ (0 ≤ b ∧ b ≤ 200000)
  rotate_left
  · rw [if_neg (by simpa using h3)]
    exact bad (fun hv => h3 ⟨hv.2.2.2.1, hv.2.2.2.2.1⟩) _ rfl
  rw [if_pos (by simpa using h3), wrap64_id (by omega) (by omega)]
  by_cases h4 : 1 ≤ a + b
  rotate_left
  · exact bad (fun hv => h4 hv.2.2.2.2.2.1) _ (by simp; omega)
  rw [decide_eq_true (show a + b ≥ 1 from h4)]
  have b1 : ∀ {q1 q2 q3 q4 q5 q6 q7 q8 q9 q10 q11 q12 q13 q14 : Int} {g1 g2 : Bool}, ¬ Valid p l r a b s t → ∀ b0 : Bool, b0 = true → thread_Check.j1 (k + 1) b0 q1 q2 q3 q4 q5 q6 g1 q7 q8 q9 q10 q11 q12 q13 g2 q14 = some (if Valid p l r a b s t then 0 else 2) := by
    intro q1 q2 q3 q4 q5 q6 q7 q8 q9 q10 q11 q12 q13 q14 g1 g2 hv b0 hb
    rw [if_neg hv, hb]; simp [thread_Check.j1]
  simp only [thread_Check.j0, if_true, within_eq1, Option.bind_some]
  by_cases h5 : 1 ≤ s ∧ s ≤ 8
  rotate_left
  · rw [if_neg (by simpa using h5)]
    exact b1 (fun hv => h5 hv.2.2.2.2.2.2.1) _ rfl
  rw [if_pos (by simpa using h5)]
  by_cases h6 : 0 ≤ t ∧ t ≤ 100
  rotate_left
  · exact b1 (fun hv => h6 hv.2.2.2.2.2.2.2.1) _ (by simp; omega)
  rw [decide_eq_true h6]
  have wa := (width_eq (a := a) (b := b) (s := s) (h := h) (t := t) (y := a) (by omega) h2.1 h2.2 (p := p) (by omega)).1
  have wb := (width_eq (a := a) (b := b) (s := s) (h := h) (t := t) (y := b) (by omega) h2.1 h2.2 (p := p) (by omega)).1
  simp only [thread_Check.j1, Bool.not_true, Bool.false_eq_true, if_false, wa, wb, Option.bind_some]
  by_cases h7 : wid p l r a < 0
  · rw [if_pos h7, if_neg]; intro hv; unfold wid at h7; unfold Valid at hv; omega
  · rw [if_neg h7]
    by_cases h8 : wid p l r b < 0
    · rw [if_pos h8, if_neg]; intro hv; unfold wid at h8; unfold Valid at hv; omega
    · rw [if_neg h8, if_pos]
      unfold wid at h7 h8; exact ⟨h1, h2.1, h2.2, h3.1, h3.2, h4, h5, h6, by omega, by omega⟩

end Go.Proofs.Yticbhgjenidjlaa.T
namespace Go.Proofs.Yticbhgjenidjlaa.T
open Go.RowKit Go.Proofs.YticbhgjenidjlaaW.PrintWords Go.Proofs.YticbhgjenidjlaaW.PrintLast
set_option linter.unusedVariables false
set_option linter.unusedSimpArgs false

structure CutOk (p l r a b s : Int) (h : Bool) (t : Int) (c0 c1 c2 c3 c4 c5 c6 : Int) : Prop where
  valid : Valid p l r a b s t
  left : l ≤ 1199
  right : r ≤ 1199
  above : a ≤ 100000
  below : b ≤ 100000
  pitch : p = 100 + c0
  small : p ≤ 65635
theorem tmod_bound {x n : Int} (h0 : 0 ≤ x) (hn : 0 < n) : 0 ≤ x.tmod n ∧ x.tmod n < n ∧ x.tmod n ≤ x := by
  have h1 := Int.tmod_lt_of_pos x hn
  have h2 := Int.tmod_nonneg n h0
  refine ⟨h2, h1, ?_⟩
  rw [Int.tmod_eq_emod_of_nonneg h0]
  have e := Int.mul_ediv_add_emod x n
  have := Int.mul_nonneg (Int.le_of_lt hn) (Int.ediv_nonneg h0 (Int.le_of_lt hn))
  omega
theorem cut_ev {c0 c1 c2 c3 c4 c5 c6 : Int} {h : Bool} (b0 : 0 ≤ c0 ∧ c0 ≤ 65535) (b1 : 0 ≤ c1 ∧ c1 ≤ 65535) (b2 : 0 ≤ c2 ∧ c2 ≤ 65535) (b3 : 0 ≤ c3 ∧ c3 ≤ 65535) (b4 : 0 ≤ c4 ∧ c4 ≤ 65535) (b5 : 0 ≤ c5 ∧ c5 ≤ 255) (b6 : 0 ≤ c6 ∧ c6 ≤ 255) :
    ∃ p l r a b s t, acmelaw01_Cut_form.f c0 c1 c2 c3 c4 c5 c6 h = some (p, l, r, a, b, s, h, t) ∧ CutOk p l r a b s h t c0 c1 c2 c3 c4 c5 c6 := by
  have w0 := wrap64_id (x := c0) (by omega) (by omega)
  have w1 := wrap64_id (x := c1) (by omega) (by omega)
  have w2 := wrap64_id (x := c2) (by omega) (by omega)
  have w3 := wrap64_id (x := c3) (by omega) (by omega)
  have w4 := wrap64_id (x := c4) (by omega) (by omega)
  have w5 := wrap64_id (x := c5) (by omega) (by omega)
  have w6 := wrap64_id (x := c6) (by omega) (by omega)
  have t1 := tmod_bound (n := 1200) b1.1 (by omega)
  have t2 := tmod_bound (n := 1200) b2.1 (by omega)
  have t5 := tmod_bound (n := 8) b5.1 (by omega)
  have t6 := tmod_bound (n := 101) b6.1 (by omega)
  unfold acmelaw01_Cut_form.f
  simp only [w0, w1, w2, w3, w4, w5, w6]
  generalize hl : c1.tmod 1200 = l at *
  generalize hr : c2.tmod 1200 = r at *
  generalize hs : c5.tmod 8 = s at *
  generalize ht : c6.tmod 101 = t at *
  rw [wrap64_id (x := l + r) (by omega) (by omega), wrap64_id (x := 100 + c0) (by omega) (by omega), wrap64_id (x := 500 * (100 + c0)) (by omega) (by omega), wrap64_id (x := 1 + s) (by omega) (by omega)]
  by_cases hn : l + r > 0
  · rw [if_pos hn, if_neg (by omega)]
    have hq0 : 0 ≤ (500 * (100 + c0)).tdiv (l + r) := Int.tdiv_nonneg (by omega) (by omega)
    have hq1 : (500 * (100 + c0)).tdiv (l + r) * (l + r) ≤ 500 * (100 + c0) := by
      have := Int.tdiv_mul_le (500 * (100 + c0)) (b := l + r) (by omega)
      have h2 : Int.tdiv (500 * (100 + c0)) (l + r) * (l + r) + Int.tmod (500 * (100 + c0)) (l + r) = 500 * (100 + c0) := by
        rw [Int.mul_comm]; exact Int.mul_tdiv_add_tmod _ _
      have h3 := Int.tmod_nonneg (l + r) (show 0 ≤ 500 * (100 + c0) by omega)
      omega
    have hq2 : (500 * (100 + c0)).tdiv (l + r) ≤ 500 * (100 + c0) := by
      have : (500 * (100 + c0)).tdiv (l + r) * 1 ≤ (500 * (100 + c0)).tdiv (l + r) * (l + r) := Int.mul_le_mul_of_nonneg_left (by omega) hq0
      omega
    generalize hq : (500 * (100 + c0)).tdiv (l + r) = q at *
    rw [wrap64_id (x := q) (by omega) (by omega)]
    have hmn : 0 ≤ mn 100000 q ∧ mn 100000 q ≤ 100000 ∧ mn 100000 q ≤ q := by unfold mn; split <;> omega
    generalize mn 100000 q = m at *
    rw [wrap64_id (x := m + 1) (by omega) (by omega), if_neg (by omega)]
    have t3 := tmod_bound (n := m + 1) b3.1 (by omega)
    have t4 := tmod_bound (n := m + 1) b4.1 (by omega)
    generalize c3.tmod (m + 1) = a at *
    generalize c4.tmod (m + 1) = b at *
    rw [wrap64_id (x := a + b) (by omega) (by omega)]
    have hm : ∀ x, 0 ≤ x → x ≤ m → 0 ≤ 1000 * (100 + c0) - 2 * x * (l + r) := by
      intro x h0 h1
      have : x * (l + r) ≤ q * (l + r) := Int.mul_le_mul_of_nonneg_right (by omega) (by omega)
      rw [Int.mul_assoc]
      omega
    by_cases hz : a + b = 0
    · rw [if_pos hz]
      have hv1 : 0 ≤ 1000 * (100 + c0) - 2 * 1 * (l + r) := by omega
      exact ⟨_, _, _, _, _, _, _, rfl, ⟨⟨by omega, by omega, by omega, by omega, by omega, by omega, by omega, by omega, hv1, hm b (by omega) (by omega)⟩, by omega, by omega, by omega, by omega, rfl, by omega⟩⟩
    · rw [if_neg hz]
      exact ⟨_, _, _, _, _, _, _, rfl, ⟨⟨by omega, by omega, by omega, by omega, by omega, by omega, by omega, by omega, hm a (by omega) (by omega), hm b (by omega) (by omega)⟩, by omega, by omega, by omega, by omega, rfl, by omega⟩⟩
  · rw [if_neg hn]
    have t3 := tmod_bound (n := 100001) b3.1 (by omega)
    have t4 := tmod_bound (n := 100001) b4.1 (by omega)
    generalize c3.tmod 100001 = a at *
    generalize c4.tmod 100001 = b at *
    rw [wrap64_id (x := a + b) (by omega) (by omega)]
    have hlr : l + r = 0 := by omega
    by_cases hz : a + b = 0
    · rw [if_pos hz]
      exact ⟨_, _, _, _, _, _, _, rfl, ⟨⟨by omega, by omega, by omega, by omega, by omega, by omega, by omega, by omega, by rw [hlr]; omega, by rw [hlr]; omega⟩, by omega, by omega, by omega, by omega, rfl, by omega⟩⟩
    · rw [if_neg hz]
      exact ⟨_, _, _, _, _, _, _, rfl, ⟨⟨by omega, by omega, by omega, by omega, by omega, by omega, by omega, by omega, by rw [hlr]; omega, by rw [hlr]; omega⟩, by omega, by omega, by omega, by omega, rfl, by omega⟩⟩
end Go.Proofs.Yticbhgjenidjlaa.T
namespace Go.Proofs.Yticbhgjenidjlaa.T
open Go.RowKit
set_option linter.unusedVariables false
set_option linter.unusedSimpArgs false

theorem wfU16 {x : Int} (h : (Lit.int .u16 x).wf = true) : 0 ≤ x ∧ x ≤ 65535 := by
  simp [Lit.wf, IntKind.min, IntKind.max, IntKind.signed, IntKind.bits] at h; omega
theorem wfU8 {x : Int} (h : (Lit.int .u8 x).wf = true) : 0 ≤ x ∧ x ≤ 255 := by
  simp [Lit.wf, IntKind.min, IntKind.max, IntKind.signed, IntKind.bits] at h; omega
theorem tdiv_facts {x e : Int} (hx : 0 ≤ x) (he : 0 < e) : 0 ≤ x.tdiv e ∧ x.tdiv e * e ≤ x ∧ x < (x.tdiv e + 1) * e ∧ x.tdiv e ≤ x ∧ x = x.tdiv e * e + x.tmod e := by
  have h0 : 0 ≤ x.tdiv e := Int.tdiv_nonneg hx (by omega)
  have h1 : x.tdiv e * e + x.tmod e = x := by rw [Int.mul_comm]; exact Int.mul_tdiv_add_tmod _ _
  have h2 := Int.tmod_nonneg e hx
  have h3 := Int.tmod_lt_of_pos x he
  have h4 : x.tdiv e * 1 ≤ x.tdiv e * e := Int.mul_le_mul_of_nonneg_left (by omega) h0
  rw [Int.add_mul]
  omega
end Go.Proofs.Yticbhgjenidjlaa.T
namespace Go.Proofs.Yticbhgjenidjlaa.T
open Go.RowKit Go.Proofs.YticbhgjenidjlaaW.PrintWords Go.Proofs.YticbhgjenidjlaaW.PrintLast
set_option linter.unusedVariables false
set_option linter.unusedSimpArgs false

theorem open_ev {p l r a b s : Int} {h : Bool} {t : Int} : Ev (fun k => thread_open.f k p l r a b s h t) (p, l, r, a, b, s, h, t, if Valid p l r a b s t then 0 else 2) := by
  unfold thread_open.f
  exact Ev.bind check_ev (Ev.pure _)
end Go.Proofs.Yticbhgjenidjlaa.T
namespace Go.Proofs.Yticbhgjenidjlaa.T
open Go.RowKit Go.Proofs.YticbhgjenidjlaaW.PrintWords Go.Proofs.YticbhgjenidjlaaW.PrintLast
set_option linter.unusedVariables false
set_option linter.unusedSimpArgs false

theorem leans_eq {p l r a b s : Int} {h : Bool} {t : Int} (hl : 0 ≤ l ∧ l ≤ 3000) (hr : 0 ≤ r ∧ r ≤ 3000) : thread_form_leans.f p l r a b s h t = some (l + r) := by
  unfold thread_form_leans.f
  rw [wrap64_id (by omega) (by omega)]
end Go.Proofs.Yticbhgjenidjlaa.T
namespace Go.Proofs.Yticbhgjenidjlaa.T
open Go.RowKit Go.Proofs.YticbhgjenidjlaaW.PrintWords Go.Proofs.YticbhgjenidjlaaW.PrintLast Go.Proofs.YticbhgjenidjlaaW.PrintMore
set_option linter.unusedVariables false
set_option linter.unusedSimpArgs false

def out (al ar bl br x y : Int) : Int := mx (x * (bl - al)) (y * (bl - al)) + mx (x * (br - ar)) (y * (br - ar))
theorem isMate_eq {p l r a b s p2 l2 r2 a2 b2 s2 t t2 : Int} {h h2 : Bool} : thread_form_isMate.f p l r a b s h t p2 l2 r2 a2 b2 s2 h2 t2 = some (decide (p = p2 ∧ s = s2 ∧ h = h2 ∧ t = t2)) := by
  unfold thread_form_isMate.f thread_form_isKind.f
  by_cases h1 : p = p2 <;> by_cases h2' : s = s2 <;> by_cases h3 : h = h2 <;> by_cases h4 : t = t2 <;> simp_all
theorem isSpan_eq {x y u v : Int} : thread_isSpan.f x y u v = some (decide (x ≤ y ∧ u ≤ x ∧ y ≤ v)) := by
  unfold thread_isSpan.f
  rw [within_eq2]
  by_cases h1 : x ≤ y
  · rw [if_pos h1]
    simp only [Option.bind_some]
    congr 1
    rw [decide_eq_decide]
    omega
  · rw [if_neg h1, decide_eq_false (by omega)]
theorem mx_bound {x y b : Int} (hx : -b ≤ x ∧ x ≤ b) (hy : -b ≤ y ∧ y ≤ b) : -b ≤ mx x y ∧ mx x y ≤ b := by unfold mx; split <;> omega
theorem most_eq {x y d : Int} (hx : -200000 ≤ x ∧ x ≤ 200000) (hy : -200000 ≤ y ∧ y ≤ 200000) (hd : -3000 ≤ d ∧ d ≤ 3000) : thread_most.f x y d = some (mx (x * d) (y * d)) ∧ -600000000 ≤ mx (x * d) (y * d) ∧ mx (x * d) (y * d) ≤ 600000000 := by
  have h1 := mulbs (x := x) (X := 200000) (y := d) (Y := 3000) (by omega) (by omega) (by omega) (by omega)
  have h2 := mulbs (x := y) (X := 200000) (y := d) (Y := 3000) (by omega) (by omega) (by omega) (by omega)
  refine ⟨?_, mx_bound (by omega) (by omega)⟩
  unfold thread_most.f
  rw [wrap64_id (by omega) (by omega), wrap64_id (by omega) (by omega)]
theorem room_ev {p l r a b s p2 l2 r2 a2 b2 s2 t t2 x y : Int} {h h2 : Bool} : Ev (fun k => thread_Room.f k p l r a b s h t p2 l2 r2 a2 b2 s2 h2 t2 x y)
    (if Valid p l r a b s t then if Valid p2 l2 r2 a2 b2 s2 t2 then if p = p2 ∧ s = s2 ∧ h = h2 ∧ t = t2 then if x ≤ y ∧ -200000 ≤ x ∧ y ≤ 200000 then
      if out l r l2 r2 x y ≤ 0 then (0, 0) else if l + r = 0 then (0, 7) else ((out l r l2 r2 x y + (l + r) - 1).tdiv (l + r), 0) else (0, 3) else (0, 9) else (0, 2) else (0, 2)) := by
  unfold thread_Room.f
  refine Ev.bind open_ev ?_
  have last : ∀ e : Int, e ≠ 0 → Ev (fun k => thread_Room.j0 k e p l r a b s h t p2 l2 r2 a2 b2 s2 h2 t2 x y p l r a b s h t) (0, e) := fun e he => Ev.succ (Ev.of fun k => by show (if e = 0 then _ else some (0, e)) = some (0, e); rw [if_neg he])
  by_cases hv : Valid p l r a b s t
  rotate_left
  · simp only [if_neg hv]
    exact last 2 (by omega)
  simp only [if_pos hv, if_true]
  refine Ev.bind check_ev ?_
  by_cases hv2 : Valid p2 l2 r2 a2 b2 s2 t2
  rotate_left
  · simp only [if_neg hv2]
    exact last 2 (by omega)
  simp only [if_pos hv2]
  refine Ev.succ (Ev.of fun k => ?_)
  show (if (0 : Int) = 0 then (thread_form_isMate.f p l r a b s h t p2 l2 r2 a2 b2 s2 h2 t2).bind _ else some (0, 0)) = _
  rw [if_pos rfl, isMate_eq]
  simp only [Option.bind_some]
  by_cases hm : p = p2 ∧ s = s2 ∧ h = h2 ∧ t = t2
  rotate_left
  · rw [decide_eq_false hm, if_neg hm, if_neg (by simp)]
  rw [decide_eq_true hm, if_pos hm, if_pos rfl, isSpan_eq]
  simp only [Option.bind_some]
  by_cases hs : x ≤ y ∧ -200000 ≤ x ∧ y ≤ 200000
  rotate_left
  · rw [decide_eq_false hs, if_neg hs, if_neg (by simp)]
  rw [decide_eq_true hs, if_pos hs, if_pos rfl]
  obtain ⟨_, hl, hr, _⟩ := hv
  obtain ⟨_, hl2, hr2, _⟩ := hv2
  obtain ⟨m1, b1⟩ := most_eq (x := x) (y := y) (d := l2 - l) (by omega) (by omega) (by omega)
  obtain ⟨m2, b2'⟩ := most_eq (x := x) (y := y) (d := r2 - r) (by omega) (by omega) (by omega)
  rw [wrap64_id (x := l2 - l) (by omega) (by omega), wrap64_id (x := r2 - r) (by omega) (by omega), m1, m2]
  simp only [Option.bind_some]
  show (if wrap64 (mx (x * (l2 - l)) (y * (l2 - l)) + mx (x * (r2 - r)) (y * (r2 - r))) ≤ 0 then _ else _) = _
  rw [wrap64_id (x := mx (x * (l2 - l)) (y * (l2 - l)) + mx (x * (r2 - r)) (y * (r2 - r))) (by omega) (by omega)]
  rw [show mx (x * (l2 - l)) (y * (l2 - l)) + mx (x * (r2 - r)) (y * (r2 - r)) = out l r l2 r2 x y from rfl] at *
  have ho : -1200000000 ≤ out l r l2 r2 x y ∧ out l r l2 r2 x y ≤ 1200000000 := by unfold out; omega
  by_cases h0 : out l r l2 r2 x y ≤ 0
  · rw [if_pos h0, if_pos h0]
  rw [if_neg h0, if_neg h0, leans_eq hl hr]
  simp only [Option.bind_some]
  by_cases hz : l + r = 0
  · rw [if_pos hz, if_pos hz]
  rw [if_neg hz, if_neg hz, if_neg hz, wrap64_id (x := out l r l2 r2 x y + (l + r)) (by omega) (by omega), wrap64_id (x := out l r l2 r2 x y + (l + r) - 1) (by omega) (by omega)]
  have hq : 0 ≤ (out l r l2 r2 x y + (l + r) - 1).tdiv (l + r) := Int.tdiv_nonneg (by omega) (by omega)
  have hq2 : (out l r l2 r2 x y + (l + r) - 1).tdiv (l + r) ≤ out l r l2 r2 x y + (l + r) - 1 := Int.tdiv_le_self _ (by omega)
  rw [wrap64_id (by omega) (by omega)]
end Go.Proofs.Yticbhgjenidjlaa.T
namespace Go.Proofs.Yticbhgjenidjlaa.T
open Go Go.RowKit Go.Proofs.Yticbhgjenidjlaa.Ab Go.Proofs.YticbhgjenidjlaaW.PrintWords Go.Proofs.YticbhgjenidjlaaW.PrintLast Go.Proofs.YticbhgjenidjlaaW.PrintMore
set_option linter.unusedVariables false
set_option linter.unusedSimpArgs false
theorem lies_eq {k : Nat} {p l r a b s t p2 l2 r2 a2 b2 s2 t2 x y c : Int} {h h2 : Bool} (hl : 0 ≤ l ∧ l ≤ 3000) (hr : 0 ≤ r ∧ r ≤ 3000) (hl2 : 0 ≤ l2 ∧ l2 ≤ 3000) (hr2 : 0 ≤ r2 ∧ r2 ≤ 3000)
    (hx : -200000 ≤ x ∧ x ≤ 200000) (hy : -200000 ≤ y ∧ y ≤ 200000) (hc : -10 ≤ c ∧ c ≤ 2000000000) :
    acmelaw01_lies.f k p l r a b s h t p2 l2 r2 a2 b2 s2 h2 t2 x y c = some (decide (out l r l2 r2 x y ≤ c * (l + r))) := by
  have m1 := mulbs (x := x) (X := 200000) (y := l) (Y := 3000) (by omega) (by omega) (by omega) (by omega)
  have m2 := mulbs (x := x) (X := 200000) (y := r) (Y := 3000) (by omega) (by omega) (by omega) (by omega)
  have m3 := mulbs (x := x) (X := 200000) (y := l2) (Y := 3000) (by omega) (by omega) (by omega) (by omega)
  have m4 := mulbs (x := x) (X := 200000) (y := r2) (Y := 3000) (by omega) (by omega) (by omega) (by omega)
  have n1 := mulbs (x := y) (X := 200000) (y := l) (Y := 3000) (by omega) (by omega) (by omega) (by omega)
  have n2 := mulbs (x := y) (X := 200000) (y := r) (Y := 3000) (by omega) (by omega) (by omega) (by omega)
  have n3 := mulbs (x := y) (X := 200000) (y := l2) (Y := 3000) (by omega) (by omega) (by omega) (by omega)
  have n4 := mulbs (x := y) (X := 200000) (y := r2) (Y := 3000) (by omega) (by omega) (by omega) (by omega)
  have c1 := mulbs (x := c) (X := 2000000000) (y := l) (Y := 3000) (by omega) (by omega) (by omega) (by omega)
  have c2 := mulbs (x := c) (X := 2000000000) (y := r) (Y := 3000) (by omega) (by omega) (by omega) (by omega)
  unfold acmelaw01_lies.f acmelaw01_lies.T
  simp only [i64_wrap, wrap64_id (x := x + c) (by omega) (by omega), wrap64_id (x := y + c) (by omega) (by omega), Int.add_mul]
  simp only [wrap64_id (x := x * l2) (by omega) (by omega), wrap64_id (x := y * l2) (by omega) (by omega), wrap64_id (x := x * r2) (by omega) (by omega), wrap64_id (x := y * r2) (by omega) (by omega),
    wrap64_id (x := x * l + c * l) (by omega) (by omega), wrap64_id (x := y * l + c * l) (by omega) (by omega), wrap64_id (x := x * r + c * r) (by omega) (by omega), wrap64_id (x := y * r + c * r) (by omega) (by omega)]
  simp only [wrap64_id (x := x * l2 - (x * l + c * l)) (by omega) (by omega), wrap64_id (x := y * l2 - (y * l + c * l)) (by omega) (by omega), wrap64_id (x := x * r + c * r - x * r2) (by omega) (by omega), wrap64_id (x := y * r + c * r - y * r2) (by omega) (by omega)]
  unfold out mx
  rw [Int.mul_sub, Int.mul_sub, Int.mul_sub, Int.mul_sub, Int.mul_add]
  generalize x * l = q1 at *
  generalize x * r = q2 at *
  generalize x * l2 = q3 at *
  generalize x * r2 = q4 at *
  generalize y * l = q5 at *
  generalize y * r = q6 at *
  generalize y * l2 = q7 at *
  generalize y * r2 = q8 at *
  generalize c * l = q9 at *
  generalize c * r = q10 at *
  have key : ∀ (u v : Prop) [Decidable u] [Decidable v], (u ↔ v) → ((some (Value.bool (decide u))).bind asB1) = some (decide v) := by
    intro u v _ _ huv
    rw [show decide u = decide v from decide_eq_decide.mpr huv]; rfl
  by_cases h1 : q7 - (q5 + q9) > q3 - (q1 + q9) <;> by_cases h2 : q6 + q10 - q8 < q2 + q10 - q4
  · simp only [decide_eq_true h1, decide_eq_true h2, cond_true]
    refine key _ _ ?_
    split <;> split <;> omega
  · simp only [decide_eq_true h1, decide_eq_false h2, cond_true, cond_false]
    refine key _ _ ?_
    split <;> split <;> omega
  · simp only [decide_eq_false h1, decide_eq_true h2, cond_true, cond_false]
    refine key _ _ ?_
    split <;> split <;> omega
  · simp only [decide_eq_false h1, decide_eq_false h2, cond_false]
    refine key _ _ ?_
    split <;> split <;> omega
end Go.Proofs.Yticbhgjenidjlaa.T
namespace Go.Proofs.Yticbhgjenidjlaa.T
open Go Go.RowKit Go.Proofs.Yticbhgjenidjlaa.Ab Go.Proofs.YticbhgjenidjlaaW.PrintWords Go.Proofs.YticbhgjenidjlaaW.PrintLast Go.Proofs.YticbhgjenidjlaaW.PrintMore
set_option linter.unusedVariables false
set_option linter.unusedSimpArgs false
theorem mx_mono {x y X Y d : Int} (h1 : X ≤ x) (h2 : x ≤ Y) (h3 : X ≤ y) (h4 : y ≤ Y) : mx (x * d) (y * d) ≤ mx (X * d) (Y * d) := by
  rcases Int.le_total 0 d with h | h
  · have a1 := Int.mul_le_mul_of_nonneg_right h2 h
    have a2 := Int.mul_le_mul_of_nonneg_right h4 h
    unfold mx
    split <;> split <;> omega
  · have a1 := Int.mul_le_mul_of_nonpos_right h1 h
    have a2 := Int.mul_le_mul_of_nonpos_right h3 h
    unfold mx
    split <;> split <;> omega
theorem out_mono {l r l2 r2 x y X Y : Int} (h1 : X ≤ x) (h2 : x ≤ Y) (h3 : X ≤ y) (h4 : y ≤ Y) : out l r l2 r2 x y ≤ out l r l2 r2 X Y := by
  have a1 := mx_mono (d := l2 - l) h1 h2 h3 h4
  have a2 := mx_mono (d := r2 - r) h1 h2 h3 h4
  unfold out; omega
theorem out_self {l r x y : Int} : out l r l r x y = 0 := by unfold out mx; simp
theorem out_bound {l r l2 r2 x y : Int} (hl : 0 ≤ l ∧ l ≤ 3000) (hr : 0 ≤ r ∧ r ≤ 3000) (hl2 : 0 ≤ l2 ∧ l2 ≤ 3000) (hr2 : 0 ≤ r2 ∧ r2 ≤ 3000) (hx : -200000 ≤ x ∧ x ≤ 200000) (hy : -200000 ≤ y ∧ y ≤ 200000) : out l r l2 r2 x y ≤ 1200000000 := by
  have m1 := (most_eq (x := x) (y := y) (d := l2 - l) hx hy (by omega)).2
  have m2 := (most_eq (x := x) (y := y) (d := r2 - r) hx hy (by omega)).2
  unfold out; omega
def roomOf (l r l2 r2 x y : Int) : Int × Int := if out l r l2 r2 x y ≤ 0 then (0, 0) else if l + r = 0 then (0, 7) else ((out l r l2 r2 x y + (l + r) - 1).tdiv (l + r), 0)
theorem room_valid {p l r a b s l2 r2 a2 b2 t x y : Int} {h : Bool} (hv : Valid p l r a b s t) (hv2 : Valid p l2 r2 a2 b2 s t) (hxy : x ≤ y ∧ -200000 ≤ x ∧ y ≤ 200000) :
    Ev (fun k => thread_Room.f k p l r a b s h t p l2 r2 a2 b2 s h t x y) (roomOf l r l2 r2 x y) := by
  have := room_ev (p := p) (l := l) (r := r) (a := a) (b := b) (s := s) (t := t) (p2 := p) (l2 := l2) (r2 := r2) (a2 := a2) (b2 := b2) (s2 := s) (t2 := t) (x := x) (y := y) (h := h) (h2 := h)
  rw [if_pos hv, if_pos hv2, if_pos ⟨rfl, rfl, rfl, rfl⟩, if_pos hxy] at this
  exact this
theorem pure_ThreadRoom (a0_0 : Int) (a0_1 : Int) (a0_2 : Int) (a0_3 : Int) (a0_4 : Int) (a0_5 : Int) (a0_6 : Int) (a0_7 : Bool) (a1_0 : Int) (a1_1 : Int) (a2_0 : Int) (a2_1 : Int) (a2_2 : Int) (a2_3 : Int) (w0_0 : (Lit.int .u16 a0_0).wf = true) (w0_1 : (Lit.int .u16 a0_1).wf = true) (w0_2 : (Lit.int .u16 a0_2).wf = true) (w0_3 : (Lit.int .u16 a0_3).wf = true) (w0_4 : (Lit.int .u16 a0_4).wf = true) (w0_5 : (Lit.int .u8 a0_5).wf = true) (w0_6 : (Lit.int .u8 a0_6).wf = true) (w1_0 : (Lit.int .u16 a1_0).wf = true) (w1_1 : (Lit.int .u16 a1_1).wf = true) (w2_0 : (Lit.int .u16 a2_0).wf = true) (w2_1 : (Lit.int .u16 a2_1).wf = true) (w2_2 : (Lit.int .u16 a2_2).wf = true) (w2_3 : (Lit.int .u16 a2_3).wf = true) : ∃ k, acmelaw01_ThreadRoom.f k a0_0 a0_1 a0_2 a0_3 a0_4 a0_5 a0_6 a0_7 a1_0 a1_1 a2_0 a2_1 a2_2 a2_3 = some true := by
  have b0 := wfU16 w0_0
  have b1 := wfU16 w0_1
  have b2 := wfU16 w0_2
  have b3 := wfU16 w0_3
  have b4 := wfU16 w0_4
  have b5 := wfU8 w0_5
  have b6 := wfU8 w0_6
  have d0 := wfU16 w1_0
  have d1 := wfU16 w1_1
  have e0 := wfU16 w2_0
  have e1 := wfU16 w2_1
  have e2 := wfU16 w2_2
  have e3 := wfU16 w2_3
  obtain ⟨p, l, r, a, b, s, t, hcut, hok⟩ := cut_ev (h := a0_7) b0 b1 b2 b3 b4 b5 b6
  obtain ⟨hv, hl9, hr9, ha9, hb9, _, hp9⟩ := hok
  have hv' := hv
  obtain ⟨hp, hl, hr, ha, hb, hab, hs, ht, hwa, hwb⟩ := hv'
  refine Ev.ex ?_
  unfold acmelaw01_ThreadRoom.f
  refine Ev.bind (v := Value.bool true) ?_ (Ev.of fun _ => rfl)
  unfold acmelaw01_ThreadRoom.T
  have known : Ev (fun _ => (acmelaw01_known.f).bind fun t => (some (Value.bool t))) (.bool true) := Ev.pure _
  have tl := tmod_bound (x := a1_0) (n := 1200) (by omega) (by omega)
  have tr := tmod_bound (x := a1_1) (n := 1200) (by omega) (by omega)
  simp only [hcut, Option.bind_some, i64_wrap, wrap64_id (x := a1_0) (by omega) (by omega), wrap64_id (x := a1_1) (by omega) (by omega), wrap64_id (x := a2_0) (by omega) (by omega), wrap64_id (x := a2_1) (by omega) (by omega), wrap64_id (x := a2_2) (by omega) (by omega), wrap64_id (x := a2_3) (by omega) (by omega),
    wrap64_id (x := a2_0 - 30000) (by omega) (by omega), wrap64_id (x := a2_1 - 30000) (by omega) (by omega), wrap64_id (x := l + r) (by omega) (by omega)]
  generalize a1_0.tmod 1200 = L at *
  generalize a1_1.tmod 1200 = R at *
  obtain ⟨X, hX⟩ : ∃ X, X = (if a2_1 - 30000 < a2_0 - 30000 then a2_1 - 30000 else a2_0 - 30000) := ⟨_, rfl⟩
  obtain ⟨Y, hY⟩ : ∃ Y, Y = (if a2_1 - 30000 > a2_0 - 30000 then a2_1 - 30000 else a2_0 - 30000) := ⟨_, rfl⟩
  simp only [← hX, ← hY]
  have hXY : X ≤ Y ∧ -30000 ≤ X ∧ Y ≤ 35535 := by rw [hX, hY]; split <;> split <;> omega
  clear hX hY
  have hN := tmod_bound (x := a2_2) (n := Y - X + 1) (by omega) (by omega)
  have hN' := tmod_bound (x := a2_3) (n := Y - X + 1) (by omega) (by omega)
  simp only [wrap64_id (x := Y - X) (by omega) (by omega), wrap64_id (x := Y - X + 1) (by omega) (by omega), wrap64_id (x := X + a2_2.tmod (Y - X + 1)) (by omega) (by omega), wrap64_id (x := X + a2_3.tmod (Y - X + 1)) (by omega) (by omega), decide_eq_false (show ¬ Y - X + 1 = 0 by omega), cond_false]
  obtain ⟨u, hu⟩ : ∃ u, u = (if X + a2_3.tmod (Y - X + 1) < X + a2_2.tmod (Y - X + 1) then X + a2_3.tmod (Y - X + 1) else X + a2_2.tmod (Y - X + 1)) := ⟨_, rfl⟩
  obtain ⟨v, hvv⟩ : ∃ v, v = (if X + a2_3.tmod (Y - X + 1) > X + a2_2.tmod (Y - X + 1) then X + a2_3.tmod (Y - X + 1) else X + a2_2.tmod (Y - X + 1)) := ⟨_, rfl⟩
  simp only [← hu, ← hvv]
  have huv : u ≤ v ∧ X ≤ u ∧ v ≤ Y := by rw [hu, hvv]; split <;> split <;> omega
  clear hu hvv
  have hv2 : Valid p L R 0 1 s t := ⟨hp, by omega, by omega, by omega, by omega, by omega, hs, ht, by omega, by omega⟩
  have hmono : out l r L R u v ≤ out l r L R X Y := out_mono (by omega) (by omega) (by omega) (by omega)
  have hob := out_bound (l := l) (r := r) (l2 := L) (r2 := R) (x := X) (y := Y) hl hr (by omega) (by omega) (by omega) (by omega)
  have lies : ∀ (k : Nat) (x y c : Int), -30000 ≤ x → x ≤ 35535 → -30000 ≤ y → y ≤ 35535 → -10 ≤ c → c ≤ 2000000000 → acmelaw01_lies.f k p l r a b s a0_7 t p L R 0 1 s a0_7 t x y c = some (decide (out l r L R x y ≤ c * (l + r))) := fun k x y c h1 h2 h3 h4 h5 h6 => lies_eq hl hr (by omega) (by omega) (by omega) (by omega) (by omega)
  refine Ev.bind (room_valid hv hv2 ⟨by omega, by omega, by omega⟩) ?_
  refine Ev.bind (room_valid hv hv ⟨by omega, by omega, by omega⟩) ?_
  refine Ev.bind check_ev ?_
  have z0 : ((0 : Int) != 0) = false := rfl
  have z7 : ((0 : Int) == 7) = false := rfl
  simp only [if_pos hv2, show roomOf l r l r X Y = (0, 0) from by unfold roomOf; rw [out_self]; rfl, z0, cond_false]
  by_cases hM : out l r L R X Y ≤ 0
  · simp only [show roomOf l r L R X Y = (0, 0) from by unfold roomOf; rw [if_pos hM], z7, z0, cond_false, decide_eq_false (show ¬ (0 : Int) < 0 by omega), lies _ X Y 0 (by omega) (by omega) (by omega) (by omega) (by omega) (by omega), Option.bind_some, Int.zero_mul, decide_eq_true hM, Bool.not_true, decide_eq_false (show ¬ (0 : Int) > 0 by omega)]
    refine Ev.bind (room_valid hv hv2 ⟨by omega, by omega, by omega⟩) ?_
    simp only [show roomOf l r L R u v = (0, 0) from by unfold roomOf; rw [if_pos (by omega)], beq_self_eq_true, cond_true, decide_eq_true (show (0 : Int) ≤ 0 by omega), lies _ u v 0 (by omega) (by omega) (by omega) (by omega) (by omega) (by omega), Option.bind_some, Int.zero_mul, decide_eq_true (show out l r L R u v ≤ 0 by omega)]
    exact known
  by_cases hz : l + r = 0
  · simp only [show roomOf l r L R X Y = (0, 7) from by unfold roomOf; rw [if_neg hM, if_pos hz], beq_self_eq_true, cond_true, hz, lies _ X Y 0 (by omega) (by omega) (by omega) (by omega) (by omega) (by omega), lies _ X Y 100000 (by omega) (by omega) (by omega) (by omega) (by omega) (by omega), Option.bind_some, Int.zero_mul, Int.mul_zero, decide_eq_false hM, Bool.not_false]
    exact known
  have hn0 : 0 < l + r := by omega
  have hn1 : l + r ≤ 2398 := by omega
  generalize hG : l + r = G at *
  generalize hMM : out l r L R X Y = M at *
  have hT := tdiv_facts (x := M + G - 1) (e := G) (by omega) hn0
  generalize hn : (M + G - 1).tdiv G = n at *
  have hn2 : n ≤ M + G - 1 := by rw [← hn]; exact Int.tdiv_le_self _ (by omega)
  have hR : roomOf l r L R X Y = (n, 0) := by unfold roomOf; rw [hMM, if_neg hM, hG, if_neg hz, hn]
  have hn3 : M ≤ n * G := by have := hT.2.2.1; rw [Int.add_mul] at this; omega
  have hn4 : 1 ≤ n := by
    rcases Int.lt_or_le n 1 with h | h
    · rw [show n = 0 by omega] at hn3; omega
    · exact h
  have hn5 : ¬ M ≤ (n - 1) * G := by have := hT.2.1; rw [Int.sub_mul]; omega
  simp only [hR, z7, z0, cond_false, decide_eq_false (show ¬ n < 0 by omega), lies _ X Y n (by omega) (by omega) (by omega) (by omega) (by omega) (by omega), hMM, Option.bind_some, decide_eq_true hn3, Bool.not_true, decide_eq_true (show n > 0 by omega), cond_true,
    wrap64_id (x := n - 1) (by omega) (by omega), lies _ X Y (n - 1) (by omega) (by omega) (by omega) (by omega) (by omega) (by omega), decide_eq_false hn5]
  refine Ev.bind (room_valid hv hv2 ⟨by omega, by omega, by omega⟩) ?_
  by_cases hM2 : out l r L R u v ≤ 0
  · simp only [show roomOf l r L R u v = (0, 0) from by unfold roomOf; rw [if_pos hM2], beq_self_eq_true, cond_true, decide_eq_true (show (0 : Int) ≤ n by omega), lies _ u v n (by omega) (by omega) (by omega) (by omega) (by omega) (by omega), Option.bind_some, decide_eq_true (show out l r L R u v ≤ n * G by omega)]
    exact known
  have hT2 := tdiv_facts (x := out l r L R u v + G - 1) (e := G) (by omega) hn0
  have hq : (out l r L R u v + G - 1).tdiv G ≤ n := by
    have h1 : (out l r L R u v + G - 1).tdiv G * G < (n + 1) * G := by omega
    have := Int.lt_of_mul_lt_mul_right h1 (by omega)
    omega
  simp only [show roomOf l r L R u v = ((out l r L R u v + G - 1).tdiv G, 0) from by unfold roomOf; rw [if_neg hM2, hG, if_neg hz], beq_self_eq_true, cond_true, decide_eq_true hq, lies _ u v n (by omega) (by omega) (by omega) (by omega) (by omega) (by omega), Option.bind_some, decide_eq_true (show out l r L R u v ≤ n * G by omega)]
  exact known
end Go.Proofs.Yticbhgjenidjlaa.T
namespace Go.Proofs.Yticbhgjenidjlaa.threadRoom
open Go.ChangeShapes Go.WideShapes Go.ChangeAt Go.RowKit Go.Proofs.Yticbhgjenidjlaa.T
open Go.ChangeMaps (open_string shut_string)
set_option linter.unusedVariables false
theorem own : ownKnob Try.prog.godebug = none := by kernel_rfl
theorem laidOut : laidOutB Try.prog = true := by kernel_rfl
set_option maxRecDepth 100000 in
theorem lifted (os : Os) (started : os.Started) (H : Type) (enc : TypeId × Value → H) :
    ReturnsInHanded {} Try.checked os 12 .any (Rows.threadRoomSpec.pre6 enc Try.prog Try.f12 Rows.threadRoomRow.domain false) (Rows.threadRoomSpec.post enc Try.prog Try.f12 false true false false) := by
  refine returnsInHanded_of_change_sized (C := Try.checked) own started (by kernel_rfl) Try.func12
    (ChangeSpec.witness6 (enc := enc) (C := Try.checked) false ⟨#[], #[.agg #[.int .u16 0, .int .u16 0, .int .u16 0, .int .u16 0, .int .u16 0, .int .u8 0, .int .u8 0, .bool false], .agg #[.int .u16 0, .int .u16 0], .agg #[.int .u16 0, .int .u16 0, .int .u16 0, .int .u16 0]], []⟩ 8 (by kernel_rfl) (by kernel_rfl) (by kernel_rfl) (by kernel_rfl)) ?_
  intro W base args ds gs before hval0 hW hcnd hsz0 _
  have hval : ∀ (j : Nat) t v, Try.f12.params[j]? = some t → args[j]? = some v → Value.okWide Try.prog W .any base t v := hval0
  have hW' := hW
  obtain ⟨p, q, hA0, hV, rfl, hfz, hnd⟩ := hW
  have hA : DataW.TrodAll enc Try.prog W 0 (fun _ => true) true Try.f12.params.toList args.toList ds p := hA0
  rw [Try.params12] at hA hval
  obtain ⟨v0, vs0, d0, ds0, p0, q0, hargs, rfl, rfl, h0, r0⟩ := trodAll_cons hA
  obtain ⟨v1, vs1, d1, ds1, p1, q1, rfl, rfl, rfl, h1, r1⟩ := trodAll_cons r0
  obtain ⟨v2, vs2, d2, ds2, p2, q2, rfl, rfl, rfl, h2, r2⟩ := trodAll_cons r1
  obtain ⟨rfl, rfl, rfl⟩ := trodAll_nil r2
  obtain rfl : args = #[v0, v1, v2] := by cases args; simp_all
  obtain ⟨rfl, rfl⟩ := trodVars_none hV
  have k0 := h0
  have lt0 : ∀ x ∈ p0, x.block < W.heap.size := by obtain ⟨m, hm⟩ := k0; exact DataW.trod_lt m _ _ _ hm
  obtain ⟨fuel0, hf0⟩ := h0
  obtain ⟨a0_0, a0_1, a0_2, a0_3, a0_4, a0_5, a0_6, a0_7, e0, w0_0, w0_1, w0_2, w0_3, w0_4, w0_5, w0_6⟩ := open71 hf0
  obtain rfl : v0 = .agg #[.int .u16 a0_0, .int .u16 a0_1, .int .u16 a0_2, .int .u16 a0_3, .int .u16 a0_4, .int .u8 a0_5, .int .u8 a0_6, .bool a0_7] := agg_of_cells e0 (by simp)
  have k1 := h1
  have lt1 : ∀ x ∈ p1, x.block < W.heap.size := by obtain ⟨m, hm⟩ := k1; exact DataW.trod_lt m _ _ _ hm
  obtain ⟨fuel1, hf1⟩ := h1
  obtain ⟨a1_0, a1_1, e1, w1_0, w1_1⟩ := open82 hf1
  obtain rfl : v1 = .agg #[.int .u16 a1_0, .int .u16 a1_1] := agg_of_cells e1 (by simp)
  have k2 := h2
  have lt2 : ∀ x ∈ p2, x.block < W.heap.size := by obtain ⟨m, hm⟩ := k2; exact DataW.trod_lt m _ _ _ hm
  obtain ⟨fuel2, hf2⟩ := h2
  obtain ⟨a2_0, a2_1, a2_2, a2_3, e2, w2_0, w2_1, w2_2, w2_3⟩ := open83 hf2
  obtain rfl : v2 = .agg #[.int .u16 a2_0, .int .u16 a2_1, .int .u16 a2_2, .int .u16 a2_3] := agg_of_cells e2 (by simp)
  clear hA0 hval0 hsz0
  obtain ⟨k, hk⟩ := pure_ThreadRoom a0_0 a0_1 a0_2 a0_3 a0_4 a0_5 a0_6 a0_7 a1_0 a1_1 a2_0 a2_1 a2_2 a2_3 w0_0 w0_1 w0_2 w0_3 w0_4 w0_5 w0_6 w1_0 w1_1 w2_0 w2_1 w2_2 w2_3
  refine (acmelaw01_ThreadRoom.calls k a0_0 a0_1 a0_2 a0_3 a0_4 a0_5 a0_6 a0_7 a1_0 a1_1 a2_0 a2_1 a2_2 a2_3 true W  hk).mono fun e W' ⟨he, bel⟩ => ?_
  subst he
  exact ⟨_, rfl, _, _, _, [], _, [], hW', trodAll_mk1 (shut_bool Try.underlying4 _), (trodAll_cons_mk (Below.trod laidOut (by kernel_rfl) (of_decide_eq_true (by kernel_rfl)) k0 bel lt0) (trodAll_cons_mk (Below.trod laidOut (by kernel_rfl) (of_decide_eq_true (by kernel_rfl)) k1 bel lt1) (trodAll_cons_mk (Below.trod laidOut (by kernel_rfl) (of_decide_eq_true (by kernel_rfl)) k2 bel lt2) trodAll_mk0))), rfl, bel.frame _, fun h => by cases h⟩
theorem over : Rows.threadRoomRow.holds Try.pinned (OpenSpec.ofChange Rows.threadRoomSpec) :=
  OpenClaim.holds_of_wide 12 Try.f12 rfl rfl rfl rfl rfl rfl rfl ⟨rfl, rfl, rfl, rfl, rfl⟩ rfl rfl rfl rfl rfl (by kernel_rfl) Try.func12 (by kernel_rfl)
    (of_decide_eq_true (by kernel_rfl)) (by unfold Func.isWrapper; first | (rw [if_pos (by decide +kernel)]; kernel_rfl) | (rw [if_neg (by decide +kernel)]; exact ⟨rfl, rfl⟩))
    (fun os started H enc _ => lifted os started H enc)
theorem proved : Rows.ThreadRoomSaid := over
end Go.Proofs.Yticbhgjenidjlaa.threadRoom
namespace Go.Proofs.Yticbhgjenidjlaa
theorem threadRoom_holds : Rows.ThreadRoomSaid := threadRoom.proved
end Go.Proofs.Yticbhgjenidjlaa
