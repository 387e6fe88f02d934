-- cut down, squeezed and laid together by pack.py (a program of this repository) out of this seat's texts
import Derived.KernelRfl
import Derived.WalkKit
import Derived.ProofKit
import Derived.OpenShut
import Derived.ShutString
import Derived.ChangeOld
import Derived.Below
import Derived.SizedLaws
import Derived.Carry
import Derived.Test.YticbhgjenidjlaaRows
import Derived.Test.YticbhgjenidjlaaZG9
import Derived.Test.YticbhgjenidjlaaZG2
import Derived.Test.YticbhgjenidjlaaZG5
import Derived.Test.YticbhgjenidjlaaZG21
import Derived.Test.YticbhgjenidjlaaZG8
import Derived.Test.YticbhgjenidjlaaZG12
import Derived.Test.YticbhgjenidjlaaZG4
import Derived.Test.YticbhgjenidjlaaZG7
import Derived.Test.YticbhgjenidjlaaZG3
import Derived.Test.YticbhgjenidjlaaZG6
import Derived.Test.YticbhgjenidjlaaZG1
import Derived.Test.YticbhgjenidjlaaZG13
import Derived.Test.YticbhgjenidjlaaZG15
import Derived.Test.YticbhgjenidjlaaZG14
import Derived.Test.YticbhgjenidjlaaZG10
import Derived.Test.YticbhgjenidjlaaZG11
import Derived.Test.YticbhgjenidjlaaZG20
import Derived.Test.YticbhgjenidjlaaZG18
import Derived.Test.YticbhgjenidjlaaZG16
import Derived.Test.YticbhgjenidjlaaZG19
import Derived.Test.YticbhgjenidjlaaZG17
namespace Go.Proofs.Yticbhgjenidjlaa.T
open Go.RowKit Go.Proofs.YticbhgjenidjlaaW.PrintWords Go.Proofs.YticbhgjenidjlaaW.PrintLast
set_option linter.unusedVariables false
set_option linter.unusedSimpArgs false

def Valid (p l r a b s t : Int) : Prop :=
  (100 ≤ p ∧ p ≤ 200000) ∧ (0 ≤ l ∧ l ≤ 3000) ∧ (0 ≤ r ∧ r ≤ 3000) ∧ (0 ≤ a ∧ a ≤ 200000) ∧ (0 ≤ b ∧ b ≤ 200000) ∧ 1 ≤ a + b ∧ (1 ≤ s ∧ s ≤ 8) ∧ (0 ≤ t ∧ t ≤ 100) ∧ 0 ≤ 1000 * p - 2 * a * (l + r) ∧ 0 ≤ 1000 * p - 2 * b * (l + r)
instance (p l r a b s t : Int) : Decidable (Valid p l r a b s t) := by unfold Valid; infer_instance
def wid (p l r y : Int) : Int := 1000 * p - 2 * y * (l + r)
theorem wid_bound {p l r y : Int} (hp : 0 ≤ p ∧ p ≤ 200000) (hl : 0 ≤ l ∧ l ≤ 3000) (hr : 0 ≤ r ∧ r ≤ 3000) (hy : -200000 ≤ y ∧ y ≤ 200000) :
    (-1200000000 ≤ y * (l + r) ∧ y * (l + r) ≤ 1200000000) ∧ -3000000000 ≤ wid p l r y ∧ wid p l r y ≤ 3000000000 := by
  have h := mulbs (x := y) (X := 200000) (y := l + r) (Y := 6000) (by omega) (by omega) (by omega) (by omega)
  unfold wid
  rw [Int.mul_assoc]
  omega
theorem width_eq {p l r a b s : Int} {h : Bool} {t y : Int} (hp : 0 ≤ p ∧ p ≤ 200000) (hl : 0 ≤ l ∧ l ≤ 3000) (hr : 0 ≤ r ∧ r ≤ 3000) (hy : -200000 ≤ y ∧ y ≤ 200000) :
    thread_form_width.f p l r a b s h t y = some (wid p l r y) ∧ acmeref01_Width.f p l r a b s h t y = some (wid p l r y) := by
  have hb := wid_bound hp hl hr hy
  unfold wid at *
  rw [Int.mul_assoc] at *
  unfold thread_form_width.f thread_form_leans.f acmeref01_Width.f
  simp only [Option.bind_some]
  rw [wrap64_id (x := l + r) (by omega) (by omega), wrap64_id (x := 2 * y) (by omega) (by omega), wrap64_id (x := 1000 * p) (by omega) (by omega)]
  rw [Int.mul_assoc, wrap64_id (x := 2 * (y * (l + r))) (by omega) (by omega), wrap64_id (by omega) (by omega)]
  exact ⟨rfl, rfl⟩
theorem in_eq (x lo hi : Int) : acmeref01_In.f x lo hi = some (decide (lo ≤ x ∧ x ≤ hi)) := by
  unfold acmeref01_In.f
  by_cases h : x ≥ lo
  · rw [if_pos h]; simp [show lo ≤ x from h]
  · rw [if_neg h]; simp; omega
theorem within_eq1 (lo hi x : Int) : thread_within.f lo hi [x] = some (decide (lo ≤ x ∧ x ≤ hi)) := by
  unfold thread_within.f
  congr 1
  rw [Bool.eq_iff_iff]
  simp [outside]
theorem within_eq2 (lo hi x y : Int) : thread_within.f lo hi [x, y] = some (decide ((lo ≤ x ∧ x ≤ hi) ∧ (lo ≤ y ∧ y ≤ hi))) := by
  unfold thread_within.f
  congr 1
  rw [Bool.eq_iff_iff]
  simp [outside]

theorem check_ev {p l r a b s : Int} {h : Bool} {t : Int} : Ev (fun k => thread_Check.f k p l r a b s h t) (if Valid p l r a b s t then 0 else 2) := by
  refine ⟨2, fun k hk => ?_⟩
  obtain ⟨k, rfl⟩ : ∃ j, k = j + 2 := ⟨k - 2, by omega⟩
  have bad : ∀ {q1 q2 q3 q4 q5 q6 q7 q8 q9 q10 q11 q12 q13 q14 : Int} {g1 g2 : Bool}, ¬ Valid p l r a b s t → ∀ b0 : Bool, b0 = false → thread_Check.j0 (k + 2) b0 q1 q2 q3 q4 q5 q6 g1 q7 q8 q9 q10 q11 q12 q13 g2 q14 = some (if Valid p l r a b s t then 0 else 2) := by
    intro q1 q2 q3 q4 q5 q6 q7 q8 q9 q10 q11 q12 q13 q14 g1 g2 hv b0 hb
    rw [if_neg hv, hb]; simp [thread_Check.j0, thread_Check.j1]
  simp only [thread_Check.f, within_eq1, within_eq2, Option.bind_some]
  by_cases h1 : 100 ≤ p ∧ p ≤ 200000
  rotate_left
  · rw [if_neg (by simpa using h1)]
    exact bad (fun hv => h1 hv.1) _ rfl
  rw [if_pos (by simpa using h1)]
  by_cases h2 : (0 ≤ l ∧ l ≤ 3000) ∧ (0 ≤ r ∧ r ≤ 3000)
  rotate_left
  · rw [if_neg (by simpa using h2)]
    exact bad (fun hv => h2 ⟨hv.2.1, hv.2.2.1⟩) _ rfl
  rw [if_pos (by simpa using h2)]
  by_cases h3 : (0 ≤ a ∧ a ≤ 200000) ∧ (0 ≤ b ∧ b ≤ 200000)
  rotate_left
  · rw [if_neg (by simpa using h3)]
    exact bad (fun hv => h3 ⟨hv.2.2.2.1, hv.2.2.2.2.1⟩) _ rfl
  rw [if_pos (by simpa using h3), wrap64_id (by omega) (by omega)]
  by_cases h4 : 1 ≤ a + b
  rotate_left
  · exact bad (fun hv => h4 hv.2.2.2.2.2.1) _ (by simp; omega)
  rw [decide_eq_true (show a + b ≥ 1 from h4)]
  have b1 : ∀ {q1 q2 q3 q4 q5 q6 q7 q8 q9 q10 q11 q12 q13 q14 : Int} {g1 g2 : Bool}, ¬ Valid p l r a b s t → ∀ b0 : Bool, b0 = true → thread_Check.j1 (k + 1) b0 q1 q2 q3 q4 q5 q6 g1 q7 q8 q9 q10 q11 q12 q13 g2 q14 = some (if Valid p l r a b s t then 0 else 2) := by
    intro q1 q2 q3 q4 q5 q6 q7 q8 q9 q10 q11 q12 q13 q14 g1 g2 hv b0 hb
    rw [if_neg hv, hb]; simp [thread_Check.j1]
  simp only [thread_Check.j0, if_true, within_eq1, Option.bind_some]
  by_cases h5 : 1 ≤ s ∧ s ≤ 8
  rotate_left
  · rw [if_neg (by simpa using h5)]
    exact b1 (fun hv => h5 hv.2.2.2.2.2.2.1) _ rfl
  rw [if_pos (by simpa using h5)]
  by_cases h6 : 0 ≤ t ∧ t ≤ 100
  rotate_left
  · exact b1 (fun hv => h6 hv.2.2.2.2.2.2.2.1) _ (by simp; omega)
  rw [decide_eq_true h6]
  have wa := (width_eq (a := a) (b := b) (s := s) (h := h) (t := t) (y := a) (by omega) h2.1 h2.2 (p := p) (by omega)).1
  have wb := (width_eq (a := a) (b := b) (s := s) (h := h) (t := t) (y := b) (by omega) h2.1 h2.2 (p := p) (by omega)).1
  simp only [thread_Check.j1, Bool.not_true, Bool.false_eq_true, if_false, wa, wb, Option.bind_some]
  by_cases h7 : wid p l r a < 0
  · rw [if_pos h7, if_neg]; intro hv; unfold wid at h7; unfold Valid at hv; omega
  · rw [if_neg h7]
    by_cases h8 : wid p l r b < 0
    · rw [if_pos h8, if_neg]; intro hv; unfold wid at h8; unfold Valid at hv; omega
    · rw [if_neg h8, if_pos]
      unfold wid at h7 h8; exact ⟨h1, h2.1, h2.2, h3.1, h3.2, h4, h5, h6, by omega, by omega⟩

theorem form_ev {p l r a b s : Int} {h : Bool} {t : Int} (wa : (Lit.int .i64 a).wf = true) (wb : (Lit.int .i64 b).wf = true) : Ev (fun k => acmeref01_Form.f k p l r a b s h t) (decide (Valid p l r a b s t)) := by
  refine ⟨1, fun k hk => ?_⟩
  obtain ⟨k, rfl⟩ : ∃ j, k = j + 1 := ⟨k - 1, by omega⟩
  have bad : ∀ b0 : Bool, b0 = true → ¬ Valid p l r a b s t → acmeref01_Form.j0 (k + 1) b0 p l r a b s h t = some (decide (Valid p l r a b s t)) := by
    intro b0 hb hv
    rw [decide_eq_false hv, hb]; simp [acmeref01_Form.j0]
  simp only [acmeref01_Form.f, in_eq, Option.bind_some]
  by_cases h1 : 100 ≤ p ∧ p ≤ 200000
  rotate_left
  · rw [if_neg (by simpa using h1)]
    exact bad _ rfl (fun hv => h1 hv.1)
  rw [if_pos (by simpa using h1)]
  by_cases h2 : 0 ≤ l ∧ l ≤ 3000
  rotate_left
  · rw [if_neg (by simpa using h2)]
    exact bad _ rfl (fun hv => h2 hv.2.1)
  rw [if_pos (by simpa using h2)]
  by_cases h3 : 0 ≤ r ∧ r ≤ 3000
  rotate_left
  · rw [if_neg (by simpa using h3)]
    exact bad _ rfl (fun hv => h3 hv.2.2.1)
  rw [if_pos (by simpa using h3)]
  by_cases h4 : 0 ≤ a ∧ a ≤ 200000
  rotate_left
  · rw [if_neg (by simpa using h4)]
    exact bad _ rfl (fun hv => h4 hv.2.2.2.1)
  rw [if_pos (by simpa using h4)]
  by_cases h5 : 0 ≤ b ∧ b ≤ 200000
  rotate_left
  · rw [if_neg (by simpa using h5)]
    exact bad _ rfl (fun hv => h5 hv.2.2.2.2.1)
  rw [if_pos (by simpa using h5), wrap64_id (x := a + b) (by omega) (by omega)]
  by_cases h6 : a + b = 0
  · rw [if_pos h6]
    exact bad _ rfl (fun hv => by have := hv.2.2.2.2.2.1; omega)
  rw [if_neg h6]
  by_cases h7 : 1 ≤ s ∧ s ≤ 8
  rotate_left
  · rw [if_neg (by simpa using h7)]
    exact bad _ rfl (fun hv => h7 hv.2.2.2.2.2.2.1)
  rw [if_pos (by simpa using h7)]
  by_cases h8 : 0 ≤ t ∧ t ≤ 100
  rotate_left
  · exact bad _ (by simp; omega) (fun hv => h8 hv.2.2.2.2.2.2.2.1)
  rw [decide_eq_true h8]
  have wa := (width_eq (a := a) (b := b) (s := s) (h := h) (t := t) (y := a) (by omega) h2 h3 (p := p) (by omega)).2
  have wb := (width_eq (a := a) (b := b) (s := s) (h := h) (t := t) (y := -b) (by omega) h2 h3 (p := p) (by omega)).2
  simp only [acmeref01_Form.j0, Bool.not_true, Bool.false_eq_true, if_false, wa, wb, Option.bind_some, wrap64_id (x := -b) (by omega) (by omega), wrap64_id (x := 2000 * p) (by omega) (by omega)]
  have e : wid p l r (-b) = 1000 * p + 2 * b * (l + r) := by unfold wid; rw [Int.mul_neg, Int.neg_mul]; omega
  by_cases h9 : wid p l r a ≥ 0
  · rw [if_pos h9, e]
    congr 1
    unfold wid at h9
    rw [decide_eq_decide]
    exact ⟨fun h10 => ⟨h1, h2, h3, h4, h5, by omega, h7, h8, by omega, by omega⟩, fun hv => by have := hv.2.2.2.2.2.2.2.2.2; omega⟩
  · rw [if_neg h9, decide_eq_false]
    intro hv; unfold wid at h9; unfold Valid at hv; omega
end Go.Proofs.Yticbhgjenidjlaa.T
namespace Go.Proofs.Yticbhgjenidjlaa.T
open Go Go.RowKit Go.Proofs.YticbhgjenidjlaaW.PrintWords Go.Proofs.YticbhgjenidjlaaW.PrintLast Go.Proofs.Yticbhgjenidjlaa.Ab
set_option linter.unusedVariables false
set_option linter.unusedSimpArgs false

abbrev vld (x : S23) : Prop := Valid x.f0 x.f1 x.f2 x.f3 x.f4 x.f5 x.f7
def tab (l : List S23) : Int := if l.length > 100 then 5 else if ∀ x ∈ l, vld x then 0 else 2
theorem tab_zero {l : List S23} (h : tab l = 0) : l.length ≤ 100 ∧ ∀ x ∈ l, vld x := by
  unfold tab at h
  split at h
  · omega
  · split at h
    · exact ⟨by omega, by assumption⟩
    · omega
theorem wsucc {i : Nat} (h : i ≤ 1000000) : wrap64 ((i : Int) + 1) = ((i + 1 : Nat) : Int) := by rw [wrap64_id (by omega) (by omega)]; omega
theorem rd23 {l : List S23} {i : Nat} (h : i < l.length) : rd_T23 l (i : Int) = l[i] := by simp [rd_T23, List.getD, h]
theorem badO_ev (x : S23) : Ev (fun k => badO k x) (!decide (vld x)) := by
  unfold badO
  refine Ev.bind check_ev ?_
  by_cases h : vld x
  · simp only [if_pos h, decide_eq_true h]; exact Ev.pure _
  · simp only [if_neg h, decide_eq_false h]; exact Ev.pure _
theorem anyO_ev : ∀ l : List S23, Ev (fun k => anyO (badO k) l) (decide (¬ ∀ x ∈ l, vld x))
  | [] => by simp only [anyO]; exact Ev.of fun _ => by simp
  | x :: l => by
    simp only [anyO]
    refine Ev.bind (badO_ev x) ?_
    by_cases h : vld x
    · simp only [decide_eq_true h, Bool.not_true, Bool.false_eq_true, if_false]
      have := anyO_ev l
      simpa [h] using this
    · simp only [decide_eq_false h, Bool.not_false, if_true]
      refine Ev.of fun _ => ?_
      simp [h]
theorem checkTable_ev (l : List S23) : Ev (fun k => thread_checkTable.f k l) (tab l) := by
  unfold thread_checkTable.f tab
  by_cases h : l.length > 100
  · rw [if_pos h]; simp only [if_pos (show (l.length : Int) > 100 by omega)]; exact Ev.pure _
  · rw [if_neg h]; simp only [if_neg (show ¬ (l.length : Int) > 100 by omega)]
    refine Ev.bind (anyO_ev l) ?_
    by_cases h2 : ∀ x ∈ l, vld x
    · rw [if_pos h2, decide_eq_false (fun q => q h2)]; exact Ev.of fun _ => rfl
    · rw [if_neg h2, decide_eq_true h2]; exact Ev.of fun _ => rfl
theorem table_l0 {l : List S23} (hw : ∀ x ∈ l, wf23 x) (hn : l.length ≤ 1000) : ∀ d i, i + d = l.length → Ev (fun k => acmeref01_Table.l0 k l (i : Int)) (if ∀ x ∈ l.drop i, vld x then 0 else 2) := by
  intro d
  induction d with
  | zero =>
    intro i hi
    refine Ev.succ ?_
    simp only [acmeref01_Table.l0, if_neg (show ¬ (i : Int) < (l.length : Int) by omega)]
    rw [List.drop_of_length_le (by omega), if_pos (by simp)]
    exact Ev.pure _
  | succ d ih =>
    intro i hi
    have hlt : i < l.length := by omega
    refine Ev.succ ?_
    simp only [acmeref01_Table.l0, if_pos (show (i : Int) < (l.length : Int) by omega), if_pos (show 0 ≤ (i : Int) by omega), rd23 hlt, wsucc (i := i) (by omega)]
    have hwf := hw l[i] (List.getElem_mem _)
    refine Ev.bind (form_ev hwf.2.2.2.1 hwf.2.2.2.2.1) ?_
    rw [List.drop_eq_getElem_cons hlt]
    by_cases h : vld l[i]
    · simp only [decide_eq_true h, if_true]
      simp only [List.forall_mem_cons, h, true_and]
      exact ih (i + 1) (by omega)
    · simp only [decide_eq_false h, Bool.false_eq_true, if_false]
      refine Ev.of fun _ => ?_
      rw [if_neg fun q => h (q _ List.mem_cons_self)]
theorem table_ev {l : List S23} (hw : ∀ x ∈ l, wf23 x) (hn : l.length ≤ 1000) : Ev (fun k => acmeref01_Table.f k l) (tab l) := by
  unfold acmeref01_Table.f tab
  by_cases h : l.length > 100
  · rw [if_pos h]; simp only [if_pos (show (l.length : Int) > 100 by omega)]; exact Ev.pure _
  · rw [if_neg h]; simp only [if_neg (show ¬ (l.length : Int) > 100 by omega)]
    exact table_l0 hw hn l.length 0 (by omega)

def idx (p : Nat → Bool) : Nat → Nat → List Int
  | _, 0 => []
  | i, d + 1 => if p i then (i : Int) :: idx p (i + 1) d else idx p (i + 1) d
structure Sn where
  (s0 s1 s2 s3 s4 s5 s6 s7 s8 s9 s10 s11 s12 s13 s14 : Int)
def agF (s : Sn) (x : S23) : Bool :=
  [(x.f0, s.s0, s.s1), (x.f1, s.s2, s.s3), (x.f2, s.s4, s.s5), (x.f3, s.s6, s.s7), (x.f4, s.s8, s.s9), (x.f5, s.s10, s.s11), (x.f7, s.s12, s.s13)].all okV && (s.s14 == 0 || s.s14 == (if x.f6 then 2 else 1))
def snF (s : Sn) : Bool := ([(0, s.s0, s.s1), (0, s.s2, s.s3), (0, s.s4, s.s5), (0, s.s6, s.s7), (0, s.s8, s.s9), (0, s.s10, s.s11), (0, s.s12, s.s13)] : List Val3).all okS && !(outside 0 2 s.s14)
theorem agrees_eq (s : Sn) (x : S23) : thread_form_agrees.f x.f0 x.f1 x.f2 x.f3 x.f4 x.f5 x.f6 x.f7 s.s0 s.s1 s.s2 s.s3 s.s4 s.s5 s.s6 s.s7 s.s8 s.s9 s.s10 s.s11 s.s12 s.s13 s.s14 = some (agF s x) := rfl
theorem isSeen_eq (s : Sn) : thread_isSeen.f s.s0 s.s1 s.s2 s.s3 s.s4 s.s5 s.s6 s.s7 s.s8 s.s9 s.s10 s.s11 s.s12 s.s13 s.s14 = some (snF s) := rfl
theorem agree_l0 {l : List S23} (hn : l.length ≤ 1000) (s : Sn) : ∀ d i acc, i + d = l.length → acc.length ≤ i →
    Ev (fun k => thread_Agree.l0 k acc l (l.length : Int) (i : Int) s.s0 s.s1 s.s2 s.s3 s.s4 s.s5 s.s6 s.s7 s.s8 s.s9 s.s10 s.s11 s.s12 s.s13 s.s14) (acc ++ idx (fun j => agF s (l.getD j z23)) i d, 0) := by
  intro d
  induction d with
  | zero =>
    intro i acc hi ha
    refine Ev.succ ?_
    simp only [thread_Agree.l0, if_neg (show ¬ (i : Int) < (l.length : Int) by omega), idx, List.append_nil]
    exact Ev.pure _
  | succ d ih =>
    intro i acc hi ha
    have hlt : i < l.length := by omega
    refine Ev.succ ?_
    simp only [thread_Agree.l0, if_pos (show (i : Int) < (l.length : Int) by omega), if_pos (show 0 ≤ (i : Int) by omega), rd23 hlt, wsucc (i := i) (by omega), agrees_eq, Option.bind_some, idx]
    simp only [show l.getD i z23 = l[i] from by simp [List.getD, hlt]]
    by_cases h : agF s l[i] = true
    · simp only [h, if_true, if_pos (show acc.length < 17592186044416 by omega)]
      have := ih (i + 1) (acc ++ [(i : Int)]) (by omega) (by simp; omega)
      simpa using this
    · simp only [if_neg h]
      exact ih (i + 1) acc (by omega) (by omega)
theorem agree_ev {l : List S23} (s : Sn) : Ev (fun k => thread_Agree.f k l s.s0 s.s1 s.s2 s.s3 s.s4 s.s5 s.s6 s.s7 s.s8 s.s9 s.s10 s.s11 s.s12 s.s13 s.s14)
    (if tab l = 0 then if snF s = true then (idx (fun j => agF s (l.getD j z23)) 0 l.length, 0) else ([], 3) else ([], tab l)) := by
  unfold thread_Agree.f
  refine Ev.bind (checkTable_ev l) ?_
  by_cases h : tab l = 0
  · simp only [if_pos h, isSeen_eq, Option.bind_some]
    by_cases h2 : snF s = true
    · simp only [if_pos h2]
      have := agree_l0 (l := l) (by have := tab_zero h; omega) s l.length 0 [] (by omega) (by simp)
      simpa using this
    · simp only [if_neg h2]; exact Ev.pure _
  · simp only [if_neg h]; exact Ev.pure _

theorem same_l0 {a : List Int} (hn : a.length ≤ 1000) : ∀ d i, i + d = a.length → Ev (fun k => acmeref01_Same.l0 k a a (i : Int)) true := by
  intro d
  induction d with
  | zero =>
    intro i hi
    refine Ev.succ ?_
    simp only [acmeref01_Same.l0, if_neg (show ¬ (i : Int) < (a.length : Int) by omega)]
    exact Ev.pure _
  | succ d ih =>
    intro i hi
    refine Ev.succ ?_
    simp only [acmeref01_Same.l0, if_pos (show (i : Int) < (a.length : Int) by omega), if_pos (show 0 ≤ (i : Int) by omega), if_true, wsucc (i := i) (by omega)]
    exact ih (i + 1) (by omega)
theorem same_ev {a : List Int} (hn : a.length ≤ 1000) : Ev (fun k => acmeref01_Same.f k a a) true := by
  unfold acmeref01_Same.f
  simp only [if_true]
  exact same_l0 hn a.length 0 (by omega)

theorem out_eq (lo hi x : Int) : outside lo hi x = false ↔ lo ≤ x ∧ x ≤ hi := by
  unfold outside
  simp only [Bool.or_eq_false_iff, decide_eq_false_iff_not]
  omega
theorem okV_eq (x l h : Int) : okV (x, l, h) = decide (l ≤ x ∧ x ≤ h) := by
  have := out_eq l h x
  unfold okV
  by_cases q : l ≤ x ∧ x ≤ h
  · simp only [this.mpr q, decide_eq_true q]; rfl
  · have q2 : outside l h x = true := by simpa using fun e => q (this.mp e)
    simp only [q2, decide_eq_false q]; rfl
theorem okS_eq (x l h : Int) : okS (x, l, h) = decide (0 ≤ l ∧ l ≤ h ∧ h ≤ 10000000) := by
  unfold okS outside
  rw [Bool.eq_iff_iff]
  simp
  omega
theorem seen_ev (s : Sn) : Ev (fun k => acmeref01_Seen.f k s.s0 s.s1 s.s2 s.s3 s.s4 s.s5 s.s6 s.s7 s.s8 s.s9 s.s10 s.s11 s.s12 s.s13 s.s14) (snF s) := by
  refine Ev.of fun k => ?_
  unfold acmeref01_Seen.f
  have : acmeref01_Seen.T acmelaw01_known.f s.s0 s.s1 s.s2 s.s3 s.s4 s.s5 s.s6 s.s7 s.s8 s.s9 s.s10 s.s11 s.s12 s.s13 s.s14 = some (.bool (snF s)) := by
    unfold acmeref01_Seen.T snF
    simp only [List.all_cons, List.all_nil, okS_eq, Bool.and_true]
    have h14 : (!outside 0 2 s.s14) = decide (s.s14 = 0 ∨ s.s14 = 1 ∨ s.s14 = 2) := by
      unfold outside; rw [Bool.eq_iff_iff]; simp; omega
    rw [h14]
    by_cases h1 : (0 ≤ s.s0 ∧ s.s0 ≤ s.s1 ∧ s.s1 ≤ 10000000) ∧ (0 ≤ s.s2 ∧ s.s2 ≤ s.s3 ∧ s.s3 ≤ 10000000) ∧ (0 ≤ s.s4 ∧ s.s4 ≤ s.s5 ∧ s.s5 ≤ 10000000) ∧ (0 ≤ s.s6 ∧ s.s6 ≤ s.s7 ∧ s.s7 ≤ 10000000) ∧ (0 ≤ s.s8 ∧ s.s8 ≤ s.s9 ∧ s.s9 ≤ 10000000) ∧ (0 ≤ s.s10 ∧ s.s10 ≤ s.s11 ∧ s.s11 ≤ 10000000) ∧ (0 ≤ s.s12 ∧ s.s12 ≤ s.s13 ∧ s.s13 ≤ 10000000)
    · obtain ⟨a0, a1, a2, a3, a4, a5, a6⟩ := h1
      simp only [decide_eq_true a0, decide_eq_true a1, decide_eq_true a2, decide_eq_true a3, decide_eq_true a4, decide_eq_true a5, decide_eq_true a6, Bool.true_and]
      simp only [decide_eq_false (show ¬ s.s0 < 0 by omega), decide_eq_false (show ¬ s.s0 > s.s1 by omega), decide_eq_false (show ¬ s.s1 > 10000000 by omega), decide_eq_false (show ¬ s.s2 < 0 by omega), decide_eq_false (show ¬ s.s2 > s.s3 by omega), decide_eq_false (show ¬ s.s3 > 10000000 by omega), decide_eq_false (show ¬ s.s4 < 0 by omega), decide_eq_false (show ¬ s.s4 > s.s5 by omega), decide_eq_false (show ¬ s.s5 > 10000000 by omega), decide_eq_false (show ¬ s.s6 < 0 by omega), decide_eq_false (show ¬ s.s6 > s.s7 by omega), decide_eq_false (show ¬ s.s7 > 10000000 by omega), decide_eq_false (show ¬ s.s8 < 0 by omega), decide_eq_false (show ¬ s.s8 > s.s9 by omega), decide_eq_false (show ¬ s.s9 > 10000000 by omega), decide_eq_false (show ¬ s.s10 < 0 by omega), decide_eq_false (show ¬ s.s10 > s.s11 by omega), decide_eq_false (show ¬ s.s11 > 10000000 by omega), decide_eq_false (show ¬ s.s12 < 0 by omega), decide_eq_false (show ¬ s.s12 > s.s13 by omega), decide_eq_false (show ¬ s.s13 > 10000000 by omega), cond_false]
      by_cases e0 : s.s14 = 0
      · simp [e0]
      · by_cases e1 : s.s14 = 1
        · simp [e1]
        · by_cases e2 : s.s14 = 2
          · simp [e2]
          · simp [beq_eq_false_iff_ne.mpr e0, beq_eq_false_iff_ne.mpr e1, e0, e1, e2]
    · have hf : (decide (0 ≤ s.s0 ∧ s.s0 ≤ s.s1 ∧ s.s1 ≤ 10000000) && (decide (0 ≤ s.s2 ∧ s.s2 ≤ s.s3 ∧ s.s3 ≤ 10000000) && (decide (0 ≤ s.s4 ∧ s.s4 ≤ s.s5 ∧ s.s5 ≤ 10000000) && (decide (0 ≤ s.s6 ∧ s.s6 ≤ s.s7 ∧ s.s7 ≤ 10000000) && (decide (0 ≤ s.s8 ∧ s.s8 ≤ s.s9 ∧ s.s9 ≤ 10000000) && (decide (0 ≤ s.s10 ∧ s.s10 ≤ s.s11 ∧ s.s11 ≤ 10000000) && decide (0 ≤ s.s12 ∧ s.s12 ≤ s.s13 ∧ s.s13 ≤ 10000000))))))) = false := by
        rw [Bool.eq_false_iff]
        intro q
        simp only [Bool.and_eq_true, decide_eq_true_eq] at q
        exact h1 ⟨q.1, q.2.1, q.2.2.1, q.2.2.2.1, q.2.2.2.2.1, q.2.2.2.2.2.1, q.2.2.2.2.2.2⟩
      rw [hf, Bool.false_and]
      have no : ∀ {p : Prop} [Decidable p] {r : Option Value}, (¬ p → r = some (.bool false)) → (bif decide p then some (Value.bool false) else r) = some (.bool false) := fun hr => by
        rename_i p _ r
        by_cases h : p
        · simp only [decide_eq_true h, cond_true]
        · simp only [decide_eq_false h, cond_false]; exact hr h
      iterate 21 (refine no fun _ => ?_)
      omega
  rw [this]; rfl
theorem refAgrees_ev (s : Sn) (x : S23) (hs : snF s = true) : Ev (fun k => acmeref01_Agrees.f k x.f0 x.f1 x.f2 x.f3 x.f4 x.f5 x.f6 x.f7 s.s0 s.s1 s.s2 s.s3 s.s4 s.s5 s.s6 s.s7 s.s8 s.s9 s.s10 s.s11 s.s12 s.s13 s.s14) (agF s x) := by
  have h14 : s.s14 = 0 ∨ s.s14 = 1 ∨ s.s14 = 2 := by
    unfold snF outside at hs
    simp only [Bool.and_eq_true] at hs
    have := hs.2
    simp at this
    omega
  refine Ev.of fun k => ?_
  unfold acmeref01_Agrees.f
  have : acmeref01_Agrees.T acmelaw01_known.f x.f0 x.f1 x.f2 x.f3 x.f4 x.f5 x.f6 x.f7 s.s0 s.s1 s.s2 s.s3 s.s4 s.s5 s.s6 s.s7 s.s8 s.s9 s.s10 s.s11 s.s12 s.s13 s.s14 = some (.bool (agF s x)) := by
    unfold acmeref01_Agrees.T agF
    simp only [List.all_cons, List.all_nil, okV_eq, Bool.and_true]
    have no : ∀ {p q : Prop} [Decidable p] [Decidable q] {c : Bool} {r : Option Value}, (¬ p → ¬ q → r = some (.bool c)) → (bif decide p then some (Value.bool false) else bif decide q then some (Value.bool false) else r) = some (.bool (decide (¬ p ∧ ¬ q) && c)) := fun hr => by
      rename_i p q _ _ c r
      by_cases h : p
      · simp [h]
      · by_cases h2 : q
        · simp [h, h2]
        · simp [h, h2, hr h h2]
    have e : ∀ x l h : Int, decide (l ≤ x ∧ x ≤ h) = decide (¬ x < l ∧ ¬ x > h) := fun x l h => by
      rw [Bool.eq_iff_iff]; simp only [decide_eq_true_eq]; omega
    simp only [e, Bool.and_assoc]
    refine no fun _ _ => ?_
    refine no fun _ _ => ?_
    refine no fun _ _ => ?_
    refine no fun _ _ => ?_
    refine no fun _ _ => ?_
    refine no fun _ _ => ?_
    refine no fun _ _ => ?_
    rcases h14 with h | h | h <;> cases x.f6 <;> simp [h]
  rw [this]; rfl
theorem refAgrees_some (s : Sn) (x : S23) : ∃ r, Ev (fun k => acmeref01_Agrees.f k x.f0 x.f1 x.f2 x.f3 x.f4 x.f5 x.f6 x.f7 s.s0 s.s1 s.s2 s.s3 s.s4 s.s5 s.s6 s.s7 s.s8 s.s9 s.s10 s.s11 s.s12 s.s13 s.s14) r := by
  have : ∃ r, acmeref01_Agrees.T acmelaw01_known.f x.f0 x.f1 x.f2 x.f3 x.f4 x.f5 x.f6 x.f7 s.s0 s.s1 s.s2 s.s3 s.s4 s.s5 s.s6 s.s7 s.s8 s.s9 s.s10 s.s11 s.s12 s.s13 s.s14 = some (.bool r) := by
    unfold acmeref01_Agrees.T
    have two : ∀ {b : Bool} {r : Option Value}, (∃ c, r = some (.bool c)) → ∃ c, (bif b then some (Value.bool false) else r) = some (.bool c) := fun {b r} h => by
      cases b
      · exact h
      · exact ⟨false, rfl⟩
    iterate 14 (refine two ?_)
    cases s.s14 == 0
    · exact ⟨_, rfl⟩
    · exact ⟨_, rfl⟩
  obtain ⟨r, hr⟩ := this
  refine ⟨r, Ev.of fun k => ?_⟩
  unfold acmeref01_Agrees.f
  rw [hr]; rfl
end Go.Proofs.Yticbhgjenidjlaa.T
namespace Go.Proofs.Yticbhgjenidjlaa.T
open Go Go.RowKit Go.Proofs.YticbhgjenidjlaaW.PrintWords Go.Proofs.YticbhgjenidjlaaW.PrintLast Go.Proofs.Yticbhgjenidjlaa.Ab
set_option linter.unusedVariables false
set_option linter.unusedSimpArgs false

def near (a b e : Int) : Bool := decide (-(2 * e) ≤ a - b ∧ a - b ≤ 2 * e)
def alk (e0 e1 e2 : Int) (x y : S23) : Bool :=
  (x.f5 == y.f5 && (x.f6 == y.f6 && x.f7 == y.f7)) && (near x.f0 y.f0 e0 && (near x.f1 y.f1 e1 && (near x.f2 y.f2 e1 && (near x.f3 y.f3 e2 && near x.f4 y.f4 e2))))
theorem isNear_eq {a b e : Int} (ha : 0 ≤ a ∧ a ≤ 200000) (hb : 0 ≤ b ∧ b ≤ 200000) (he : 0 ≤ e ∧ e ≤ 10000000) : thread_isNear.f a b e = some (near a b e) := by
  unfold thread_isNear.f thread_within.f
  rw [wrap64_id (x := (-2) * e) (by omega) (by omega), wrap64_id (x := 2 * e) (by omega) (by omega), wrap64_id (x := a - b) (by omega) (by omega)]
  simp only [List.any_cons, List.any_nil, Bool.or_false, Option.bind_some, Option.some.injEq]
  unfold outside near
  rw [Bool.eq_iff_iff]
  simp only [Bool.not_eq_true', Bool.or_eq_false_iff, decide_eq_false_iff_not, decide_eq_true_eq]
  omega
theorem bnd {x : S23} (h : vld x) : (0 ≤ x.f0 ∧ x.f0 ≤ 200000) ∧ (0 ≤ x.f1 ∧ x.f1 ≤ 200000) ∧ (0 ≤ x.f2 ∧ x.f2 ≤ 200000) ∧ (0 ≤ x.f3 ∧ x.f3 ≤ 200000) ∧ (0 ≤ x.f4 ∧ x.f4 ≤ 200000) ∧ (1 ≤ x.f5 ∧ x.f5 ≤ 8) ∧ (0 ≤ x.f7 ∧ x.f7 ≤ 100) := by
  obtain ⟨hp, hl, hr, ha, hb, hab, hs, ht, hwa, hwb⟩ := h
  exact ⟨by omega, by omega, by omega, by omega, by omega, by omega, by omega⟩
theorem isAlike_eq {e0 e1 e2 : Int} {x y : S23} (hx : vld x) (hy : vld y) (h0 : 0 ≤ e0 ∧ e0 ≤ 10000000) (h1 : 0 ≤ e1 ∧ e1 ≤ 10000000) (h2 : 0 ≤ e2 ∧ e2 ≤ 10000000) :
    thread_form_isAlike.f x.f0 x.f1 x.f2 x.f3 x.f4 x.f5 x.f6 x.f7 y.f0 y.f1 y.f2 y.f3 y.f4 y.f5 y.f6 y.f7 e0 e1 e2 = some (alk e0 e1 e2 x y) := by
  obtain ⟨a0, a1, a2, a3, a4, _, _⟩ := bnd hx
  obtain ⟨b0, b1, b2, b3, b4, _, _⟩ := bnd hy
  unfold thread_form_isAlike.f alk
  rw [isNear_eq a0 b0 h0, isNear_eq a1 b1 h1, isNear_eq a2 b2 h1, isNear_eq a3 b3 h2, isNear_eq a4 b4 h2]
  have hk : thread_form_isKind.f x.f0 x.f1 x.f2 x.f3 x.f4 x.f5 x.f6 x.f7 y.f0 y.f1 y.f2 y.f3 y.f4 y.f5 y.f6 y.f7 = some (x.f5 == y.f5 && (x.f6 == y.f6 && x.f7 == y.f7)) := by
    unfold thread_form_isKind.f
    by_cases q : x.f5 = y.f5
    · rw [if_pos q, beq_iff_eq.mpr q]
      cases x.f6 == y.f6 <;> simp
    · rw [if_neg q, beq_eq_false_iff_ne.mpr q]; rfl
  rw [hk]
  generalize near x.f0 y.f0 e0 = n0
  generalize near x.f1 y.f1 e1 = n1
  generalize near x.f2 y.f2 e1 = n2
  generalize near x.f3 y.f3 e2 = n3
  generalize near x.f4 y.f4 e2 = n4
  generalize (x.f5 == y.f5 && (x.f6 == y.f6 && x.f7 == y.f7)) = c
  simp only [Option.bind_some]
  cases c <;> cases n0 <;> cases n1 <;> cases n2 <;> cases n3 <;> rfl
theorem far_eq {a b e : Int} (ha : 0 ≤ a ∧ a ≤ 200000) (hb : 0 ≤ b ∧ b ≤ 200000) (he : 0 ≤ e ∧ e ≤ 10000000) : decide (wrap64 ((if b > a then b else a) - if b < a then b else a) > wrap64 (2 * e)) = !near a b e := by
  unfold near
  rw [wrap64_id (x := 2 * e) (by omega) (by omega)]
  have : ((if b > a then b else a) - if b < a then b else a) = if a < b then b - a else a - b := by split <;> split <;> (try split) <;> omega
  rw [this, wrap64_id (by split <;> omega) (by split <;> omega), Bool.eq_iff_iff]
  simp only [decide_eq_true_eq, Bool.not_eq_true', decide_eq_false_iff_not]
  split <;> omega
theorem far_zero {a b : Int} (ha : 0 ≤ a ∧ a ≤ 200000) (hb : 0 ≤ b ∧ b ≤ 200000) : decide (wrap64 ((if b > a then b else a) - if b < a then b else a) > wrap64 (2 * 0)) = !(a == b) := by
  rw [far_eq ha hb (by omega)]
  congr 1
  unfold near
  rw [Bool.eq_iff_iff]
  simp only [decide_eq_true_eq, beq_iff_eq]
  omega
theorem refAlike_ev {e0 e1 e2 : Int} {x y : S23} (hx : vld x) (hy : vld y) (h0 : 0 ≤ e0 ∧ e0 ≤ 10000000) (h1 : 0 ≤ e1 ∧ e1 ≤ 10000000) (h2 : 0 ≤ e2 ∧ e2 ≤ 10000000) :
    Ev (fun k => acmeref01_Alike.f k x.f0 x.f1 x.f2 x.f3 x.f4 x.f5 x.f6 x.f7 y.f0 y.f1 y.f2 y.f3 y.f4 y.f5 y.f6 y.f7 e0 e1 e2) (alk e0 e1 e2 x y) := by
  obtain ⟨a0, a1, a2, a3, a4, a5, a7⟩ := bnd hx
  obtain ⟨b0, b1, b2, b3, b4, b5, b7⟩ := bnd hy
  refine Ev.of fun k => ?_
  unfold acmeref01_Alike.f acmeref01_Alike.T alk
  simp only [i64_wrap]
  rw [far_eq a0 b0 h0, far_eq a1 b1 h1, far_eq a2 b2 h1, far_eq a3 b3 h2, far_eq a4 b4 h2, far_zero (by omega) (by omega), far_zero (by omega) (by omega)]
  generalize near x.f0 y.f0 e0 = n0
  generalize near x.f1 y.f1 e1 = n1
  generalize near x.f2 y.f2 e1 = n2
  generalize near x.f3 y.f3 e2 = n3
  generalize near x.f4 y.f4 e2 = n4
  generalize (x.f5 == y.f5) = c5
  generalize (x.f6 == y.f6) = c6
  generalize (x.f7 == y.f7) = c7
  cases n0 <;> cases n1 <;> cases n2 <;> cases n3 <;> cases n4 <;> cases c5 <;> cases c6 <;> cases c7 <;> rfl

def col (q : Nat → Nat → Bool) (k : Nat) : Nat → Nat → List S67
  | _, 0 => []
  | i, d + 1 => if q i k then ⟨i, k⟩ :: col q k (i + 1) d else col q k (i + 1) d
def cols (q : Nat → Nat → Bool) : Nat → Nat → List S67
  | _, 0 => []
  | k, d + 1 => col q k 0 k ++ cols q (k + 1) d
def row (q : Nat → Nat → Bool) (i : Nat) : Nat → Nat → List S67
  | _, 0 => []
  | k, d + 1 => if q i k then ⟨i, k⟩ :: row q i (k + 1) d else row q i (k + 1) d
def rows (q : Nat → Nat → Bool) : Nat → Nat → List S67
  | _, 0 => []
  | i, d + 1 => row q i (i + 1) d ++ rows q (i + 1) d
theorem col_len (q : Nat → Nat → Bool) (k : Nat) : ∀ d i, (col q k i d).length ≤ d
  | 0, i => by simp [col]
  | d + 1, i => by have := col_len q k d (i + 1); simp only [col]; split <;> simp <;> omega
theorem mem_col {q : Nat → Nat → Bool} {k : Nat} {x : S67} : ∀ d i, x ∈ col q k i d ↔ ∃ a, i ≤ a ∧ a < i + d ∧ q a k = true ∧ x = ⟨a, k⟩
  | 0, i => by simp [col]; intros; omega
  | d + 1, i => by
    have ih := mem_col (q := q) (k := k) (x := x) d (i + 1)
    have : x ∈ col q k i (d + 1) ↔ (q i k = true ∧ x = ⟨i, k⟩) ∨ x ∈ col q k (i + 1) d := by
      simp only [col]
      split
      · rename_i h; simp [h]
      · rename_i h; simp [h]
    rw [this, ih]
    constructor
    · rintro (⟨h1, h2⟩ | ⟨a, h1, h2, h3, h4⟩)
      · exact ⟨i, by omega, by omega, h1, h2⟩
      · exact ⟨a, by omega, by omega, h3, h4⟩
    · rintro ⟨a, h1, h2, h3, h4⟩
      by_cases e : a = i
      · subst e; exact .inl ⟨h3, h4⟩
      · exact .inr ⟨a, by omega, by omega, h3, h4⟩
theorem mem_row {q : Nat → Nat → Bool} {i : Nat} {x : S67} : ∀ d k, x ∈ row q i k d ↔ ∃ b, k ≤ b ∧ b < k + d ∧ q i b = true ∧ x = ⟨i, b⟩
  | 0, k => by simp [row]; intros; omega
  | d + 1, k => by
    have ih := mem_row (q := q) (i := i) (x := x) d (k + 1)
    have : x ∈ row q i k (d + 1) ↔ (q i k = true ∧ x = ⟨i, k⟩) ∨ x ∈ row q i (k + 1) d := by
      simp only [row]
      split
      · rename_i h; simp [h]
      · rename_i h; simp [h]
    rw [this, ih]
    constructor
    · rintro (⟨h1, h2⟩ | ⟨a, h1, h2, h3, h4⟩)
      · exact ⟨k, by omega, by omega, h1, h2⟩
      · exact ⟨a, by omega, by omega, h3, h4⟩
    · rintro ⟨a, h1, h2, h3, h4⟩
      by_cases e : a = k
      · subst e; exact .inl ⟨h3, h4⟩
      · exact .inr ⟨a, by omega, by omega, h3, h4⟩
theorem mem_cols {q : Nat → Nat → Bool} {x : S67} : ∀ d k, x ∈ cols q k d ↔ ∃ a b, k ≤ b ∧ b < k + d ∧ a < b ∧ q a b = true ∧ x = ⟨a, b⟩
  | 0, k => by simp [cols]; intros; omega
  | d + 1, k => by
    simp only [cols, List.mem_append, mem_col, mem_cols d (k + 1)]
    constructor
    · rintro (⟨a, h1, h2, h3, h4⟩ | ⟨a, b, h1, h2, h3, h4, h5⟩)
      · exact ⟨a, k, by omega, by omega, by omega, h3, h4⟩
      · exact ⟨a, b, by omega, by omega, h3, h4, h5⟩
    · rintro ⟨a, b, h1, h2, h3, h4, h5⟩
      by_cases e : b = k
      · subst e; exact .inl ⟨a, by omega, by omega, h4, h5⟩
      · exact .inr ⟨a, b, by omega, by omega, h3, h4, h5⟩
theorem mem_rows {q : Nat → Nat → Bool} {x : S67} : ∀ d i, x ∈ rows q i d ↔ ∃ a b, i ≤ a ∧ a < b ∧ b < i + d ∧ q a b = true ∧ x = ⟨a, b⟩
  | 0, i => by simp [rows]; intros; omega
  | d + 1, i => by
    simp only [rows, List.mem_append, mem_row, mem_rows d (i + 1)]
    constructor
    · rintro (⟨b, h1, h2, h3, h4⟩ | ⟨a, b, h1, h2, h3, h4, h5⟩)
      · exact ⟨i, b, by omega, by omega, by omega, h3, h4⟩
      · exact ⟨a, b, by omega, by omega, by omega, h4, h5⟩
    · rintro ⟨a, b, h1, h2, h3, h4, h5⟩
      by_cases e : a = i
      · subst e; exact .inl ⟨b, by omega, by omega, h4, h5⟩
      · exact .inr ⟨a, b, by omega, by omega, by omega, h4, h5⟩
theorem sorted_row (q : Nat → Nat → Bool) (i : Nat) : ∀ d k, (row q i k d).Pairwise fun x y => lt67 x y = true
  | 0, k => by simp [row]
  | d + 1, k => by
    have ih := sorted_row q i d (k + 1)
    simp only [row]
    split
    · refine List.Pairwise.cons (fun y hy => ?_) ih
      obtain ⟨b, h1, h2, h3, rfl⟩ := (mem_row d (k + 1)).1 hy
      unfold lt67; simp; omega
    · exact ih
theorem sorted_rows (q : Nat → Nat → Bool) : ∀ d i, (rows q i d).Pairwise fun x y => lt67 x y = true
  | 0, i => by simp [rows]
  | d + 1, i => by
    simp only [rows]
    refine List.pairwise_append.2 ⟨sorted_row q i d (i + 1), sorted_rows q d (i + 1), fun x hx y hy => ?_⟩
    obtain ⟨b, h1, h2, h3, rfl⟩ := (mem_row d (i + 1)).1 hx
    obtain ⟨a', b', h1', h2', h3', h4', rfl⟩ := (mem_rows d (i + 1)).1 hy
    unfold lt67; simp; omega
def ltc (x y : S67) : Prop := x.f1 < y.f1 ∨ x.f1 = y.f1 ∧ x.f0 < y.f0
theorem sorted_col (q : Nat → Nat → Bool) (k : Nat) : ∀ d i, (col q k i d).Pairwise ltc
  | 0, i => by simp [col]
  | d + 1, i => by
    have ih := sorted_col q k d (i + 1)
    simp only [col]
    split
    · refine List.Pairwise.cons (fun y hy => ?_) ih
      obtain ⟨b, h1, h2, h3, rfl⟩ := (mem_col d (i + 1)).1 hy
      exact .inr ⟨rfl, by show (i : Int) < (b : Int); omega⟩
    · exact ih
theorem sorted_cols (q : Nat → Nat → Bool) : ∀ d k, (cols q k d).Pairwise ltc
  | 0, k => by simp [cols]
  | d + 1, k => by
    simp only [cols]
    refine List.pairwise_append.2 ⟨sorted_col q k k 0, sorted_cols q d (k + 1), fun x hx y hy => ?_⟩
    obtain ⟨b, h1, h2, h3, rfl⟩ := (mem_col k 0).1 hx
    obtain ⟨a', b', h1', h2', h3', h4', rfl⟩ := (mem_cols d (k + 1)).1 hy
    exact .inl (by show (k : Int) < (b' : Int); omega)
theorem sort_cols (q : Nat → Nat → Bool) (n : Nat) : ((cols q 0 n).mergeSort fun x y => !lt67 y x) = rows q 0 n := by
  have hp : (rows q 0 n).Perm (cols q 0 n) := by
    rw [List.perm_ext_iff_of_nodup]
    · intro x
      rw [mem_rows, mem_cols]
      constructor
      · rintro ⟨a, b, h1, h2, h3, h4, h5⟩; exact ⟨a, b, by omega, by omega, by omega, h4, h5⟩
      · rintro ⟨a, b, h1, h2, h3, h4, h5⟩; exact ⟨a, b, by omega, by omega, by omega, h4, h5⟩
    · exact (sorted_rows q n 0).imp fun {x y} h e => by subst e; unfold lt67 at h; simp at h
    · exact (sorted_cols q n 0).imp fun {x y} h e => by subst e; unfold ltc at h; omega
  refine List.Perm.eq_of_pairwise (le := fun x y => (!lt67 y x) = true) (fun a b _ _ h1 h2 => ?_) (List.pairwise_mergeSort (fun a b c h1 h2 => ?_) (fun a b => ?_) _) ((sorted_rows q n 0).imp fun {x y} h => ?_) ((List.mergeSort_perm _ _).trans hp.symm)
  · unfold lt67 at h1 h2
    simp only [Bool.not_eq_true', decide_eq_false_iff_not] at h1 h2
    obtain ⟨a0, a1⟩ := a
    obtain ⟨b0, b1⟩ := b
    simp only at h1 h2
    obtain rfl : a0 = b0 := by omega
    obtain rfl : a1 = b1 := by omega
    rfl
  · unfold lt67 at h1 h2 ⊢
    simp only [Bool.not_eq_true', decide_eq_false_iff_not] at h1 h2 ⊢
    omega
  · unfold lt67
    simp only [Bool.or_eq_true, Bool.not_eq_true', decide_eq_false_iff_not]
    omega
  · unfold lt67 at h ⊢
    simp only [Bool.not_eq_true', decide_eq_false_iff_not, decide_eq_true_eq] at h ⊢
    omega

section
variable {l : List S23} {e0 e1 e2 : Int}
abbrev qOf (l : List S23) (e0 e1 e2 : Int) (i k : Nat) : Bool := alk e0 e1 e2 (l.getD i z23) (l.getD k z23)
theorem getD23 {i : Nat} (h : i < l.length) : l.getD i z23 = l[i] := by simp [List.getD, h]
theorem alike_l1 (hv : ∀ x ∈ l, vld x) (hn : l.length ≤ 100) (h0 : 0 ≤ e0 ∧ e0 ≤ 10000000) (h1 : 0 ≤ e1 ∧ e1 ≤ 10000000) (h2 : 0 ≤ e2 ∧ e2 ≤ 10000000) {j : Nat} (hj : j < l.length) {v : List S67 × Int} : ∀ d i acc, i + d = j → acc.length ≤ 200 * j + i →
    Ev (fun k => thread_Alike.l0 k l (acc ++ col (qOf l e0 e1 e2) j i d) l (l.length : Int) ((j + 1 : Nat) : Int) e0 e1 e2) v →
    Ev (fun k => thread_Alike.l1 k l acc (j : Int) l (l.length : Int) (j : Int) (j : Int) (i : Int) e0 e1 e2 (l[j]).f0 (l[j]).f1 (l[j]).f2 (l[j]).f3 (l[j]).f4 (l[j]).f5 (l[j]).f6 (l[j]).f7) v := by
  intro d
  induction d with
  | zero =>
    intro i acc hi ha hE
    refine Ev.succ ?_
    simp only [thread_Alike.l1, if_neg (show ¬ (i : Int) < (j : Int) by omega), wsucc (i := j) (by omega)]
    simpa [col] using hE
  | succ d ih =>
    intro i acc hi ha hE
    have hlt : i < l.length := by omega
    refine Ev.succ ?_
    simp only [thread_Alike.l1, if_pos (show (i : Int) < (j : Int) by omega), if_pos (show 0 ≤ (i : Int) by omega), if_pos (show (i : Int) < (l.length : Int) by omega), rd23 hlt, wsucc (i := i) (by omega),
      isAlike_eq (hv _ (List.getElem_mem hlt)) (hv _ (List.getElem_mem hj)) h0 h1 h2, Option.bind_some]
    simp only [col, qOf, getD23 hlt, getD23 hj] at hE
    by_cases h : alk e0 e1 e2 l[i] l[j] = true
    · simp only [h, if_true, if_pos (show acc.length < 8796093022208 by omega)] at hE ⊢
      refine ih (i + 1) (acc ++ [⟨(i : Int), (j : Int)⟩]) (by omega) (by simp; omega) ?_
      simpa using hE
    · simp only [if_neg h] at hE ⊢
      exact ih (i + 1) acc (by omega) (by omega) hE
theorem alike_l0 (hv : ∀ x ∈ l, vld x) (hn : l.length ≤ 100) (h0 : 0 ≤ e0 ∧ e0 ≤ 10000000) (h1 : 0 ≤ e1 ∧ e1 ≤ 10000000) (h2 : 0 ≤ e2 ∧ e2 ≤ 10000000) : ∀ d j acc, j + d = l.length → acc.length ≤ 200 * j →
    Ev (fun k => thread_Alike.l0 k l acc l (l.length : Int) (j : Int) e0 e1 e2) ((acc ++ cols (qOf l e0 e1 e2) j d).mergeSort fun x y => !lt67 y x, 0) := by
  intro d
  induction d with
  | zero =>
    intro j acc hj ha
    refine Ev.succ ?_
    simp only [thread_Alike.l0, if_neg (show ¬ (j : Int) < (l.length : Int) by omega), sort67.f, if_pos (show acc.length < 4611686018427387904 by omega), Option.bind_some, cols, List.append_nil]
    exact Ev.pure _
  | succ d ih =>
    intro j acc hj ha
    have hlt : j < l.length := by omega
    refine Ev.succ ?_
    simp only [thread_Alike.l0, if_pos (show (j : Int) < (l.length : Int) by omega), if_pos (show 0 ≤ (j : Int) by omega), rd23 hlt, cols]
    refine alike_l1 hv hn h0 h1 h2 hlt j 0 acc (by omega) (by omega) ?_
    have hc := col_len (qOf l e0 e1 e2) j j 0
    have := ih (j + 1) (acc ++ col (qOf l e0 e1 e2) j 0 j) (by omega) (by simp only [List.length_append]; omega)
    rwa [List.append_assoc] at this
theorem alike_ev : Ev (fun k => thread_Alike.f k l e0 e1 e2)
    (if tab l = 0 then if (0 ≤ e0 ∧ e0 ≤ 10000000) ∧ (0 ≤ e1 ∧ e1 ≤ 10000000) ∧ (0 ≤ e2 ∧ e2 ≤ 10000000) then (rows (qOf l e0 e1 e2) 0 l.length, 0) else ([], 3) else ([], tab l)) := by
  unfold thread_Alike.f
  refine Ev.bind (checkTable_ev l) ?_
  by_cases h : tab l = 0
  · simp only [if_pos h]
    have hw : thread_within.f 0 10000000 [e0, e1, e2] = some (decide ((0 ≤ e0 ∧ e0 ≤ 10000000) ∧ (0 ≤ e1 ∧ e1 ≤ 10000000) ∧ (0 ≤ e2 ∧ e2 ≤ 10000000))) := by
      unfold thread_within.f outside
      congr 1
      rw [Bool.eq_iff_iff]
      simp
    rw [show (fun k => (thread_within.f 0 10000000 [e0, e1, e2]).bind fun t320 => if t320 = true then thread_Alike.l0 k l [] l (l.length : Int) 0 e0 e1 e2 else some ([], 3)) = fun k => if decide ((0 ≤ e0 ∧ e0 ≤ 10000000) ∧ (0 ≤ e1 ∧ e1 ≤ 10000000) ∧ (0 ≤ e2 ∧ e2 ≤ 10000000)) = true then thread_Alike.l0 k l [] l (l.length : Int) 0 e0 e1 e2 else some ([], 3) from by funext k; rw [hw]; rfl]
    by_cases he : (0 ≤ e0 ∧ e0 ≤ 10000000) ∧ (0 ≤ e1 ∧ e1 ≤ 10000000) ∧ (0 ≤ e2 ∧ e2 ≤ 10000000)
    · simp only [if_pos he, decide_eq_true he, if_true]
      obtain ⟨hn, hv⟩ := tab_zero h
      have := alike_l0 hv hn he.1 he.2.1 he.2.2 l.length 0 [] (by omega) (by simp)
      rw [List.nil_append, sort_cols] at this
      exact this
    · simp only [if_neg he, decide_eq_false he, Bool.false_eq_true, if_false]; exact Ev.pure _
  · simp only [if_neg h]; exact Ev.pure _
end
end Go.Proofs.Yticbhgjenidjlaa.T
namespace Go.Proofs.Yticbhgjenidjlaa.T
open Go.RowKit Go.Proofs.YticbhgjenidjlaaW.PrintWords Go.Proofs.YticbhgjenidjlaaW.PrintLast
set_option linter.unusedVariables false
set_option linter.unusedSimpArgs false
section
variable {l : List S23} {e0 e1 e2 : Int} (s : Sn)
theorem inA_eq (x : Int) : acmeref01_In.f x 0 10000000 = some (decide (0 ≤ x ∧ x ≤ 10000000)) := by
  unfold acmeref01_In.f
  by_cases h : 0 ≤ x
  · by_cases h2 : x ≤ 10000000 <;> simp [h, h2]
  · simp [h]
theorem law_l3 (hv : ∀ x ∈ l, vld x) (hn : l.length ≤ 100) (h0 : 0 ≤ e0 ∧ e0 ≤ 10000000) (h1 : 0 ≤ e1 ∧ e1 ≤ 10000000) (h2 : 0 ≤ e2 ∧ e2 ≤ 10000000) {Q : List S67} {i : Nat} (hi : i < l.length) {v : Bool} : ∀ d j pre rest, j + d = l.length → pre.length ≤ 200 * i + j → Q = pre ++ (row (qOf l e0 e1 e2) i j d ++ rest) →
    Ev (fun k => acmelaw01_ThreadAgrees.l2 k l Q 0 ((pre ++ row (qOf l e0 e1 e2) i j d).length : Int) ((i + 1 : Nat) : Int) e0 e1 e2) v →
    Ev (fun k => acmelaw01_ThreadAgrees.l3 k l Q 0 (pre.length : Int) (i : Int) (j : Int) e0 e1 e2) v := by
  intro d
  induction d with
  | zero =>
    intro j pre rest hj hp hQ hE
    refine Ev.succ ?_
    simp only [acmelaw01_ThreadAgrees.l3, if_neg (show ¬ (j : Int) < (l.length : Int) by omega), wsucc (i := i) (by omega)]
    simpa [row] using hE
  | succ d ih =>
    intro j pre rest hj hp hQ hE
    have hlt : j < l.length := by omega
    refine Ev.succ ?_
    simp only [acmelaw01_ThreadAgrees.l3, if_pos (show (j : Int) < (l.length : Int) by omega), if_pos (show (i : Int) < (l.length : Int) by omega), if_pos (show 0 ≤ (i : Int) by omega), if_pos (show 0 ≤ (j : Int) by omega), rd23 hlt, rd23 hi, wsucc (i := j) (by omega)]
    refine Ev.bind (refAlike_ev (hv _ (List.getElem_mem hi)) (hv _ (List.getElem_mem hlt)) h0 h1 h2) ?_
    simp only [row, qOf, getD23 hlt, getD23 hi] at hE hQ
    by_cases h : alk e0 e1 e2 l[i] l[j] = true
    · simp only [h, if_true] at hE hQ ⊢
      have hlen : pre.length < Q.length := by rw [hQ]; simp
      have hat : rd_T67 Q (pre.length : Int) = ⟨(i : Int), (j : Int)⟩ := by
        unfold rd_T67
        rw [hQ]
        simp [List.getD]
      simp only [if_neg (show ¬ (pre.length : Int) ≥ (Q.length : Int) by omega), if_pos (show 0 ≤ (pre.length : Int) by omega), if_pos (show (pre.length : Int) < (Q.length : Int) by omega), hat, beq_self_eq_true, Bool.not_true, Bool.or_self, Bool.false_eq_true, if_false, wsucc (i := pre.length) (by omega)]
      have := ih (j + 1) (pre ++ [⟨(i : Int), (j : Int)⟩]) rest (by omega) (by simp; omega) (by rw [hQ]; simp) (by simpa using hE)
      simpa using this
    · simp only [if_neg h] at hE hQ ⊢
      exact ih (j + 1) pre rest (by omega) (by omega) hQ hE
theorem law_l2 (hv : ∀ x ∈ l, vld x) (hn : l.length ≤ 100) (h0 : 0 ≤ e0 ∧ e0 ≤ 10000000) (h1 : 0 ≤ e1 ∧ e1 ≤ 10000000) (h2 : 0 ≤ e2 ∧ e2 ≤ 10000000) {Q : List S67} : ∀ d i pre, i + d = l.length → pre.length ≤ 200 * i → Q = pre ++ rows (qOf l e0 e1 e2) i d →
    Ev (fun k => acmelaw01_ThreadAgrees.l2 k l Q 0 (pre.length : Int) (i : Int) e0 e1 e2) true := by
  intro d
  induction d with
  | zero =>
    intro i pre hi hp hQ
    refine Ev.succ ?_
    have : pre.length = Q.length := by rw [hQ]; simp [rows]
    simp only [acmelaw01_ThreadAgrees.l2, if_neg (show ¬ (i : Int) < (l.length : Int) by omega), if_true, if_pos (show (pre.length : Int) = (Q.length : Int) by omega)]
    exact Ev.of fun _ => rfl
  | succ d ih =>
    intro i pre hi hp hQ
    have hlt : i < l.length := by omega
    refine Ev.succ ?_
    simp only [acmelaw01_ThreadAgrees.l2, if_pos (show (i : Int) < (l.length : Int) by omega), wsucc (i := i) (by omega)]
    simp only [rows] at hQ
    have hc : (row (qOf l e0 e1 e2) i (i + 1) d).length ≤ d := by
      have : ∀ d k, (row (qOf l e0 e1 e2) i k d).length ≤ d := by
        intro d
        induction d with
        | zero => intro k; simp [row]
        | succ d ih => intro k; have := ih (k + 1); simp only [row]; split <;> simp <;> omega
      exact this d (i + 1)
    refine law_l3 hv hn h0 h1 h2 hlt d (i + 1) pre (rows (qOf l e0 e1 e2) (i + 1) d) (by omega) (by omega) hQ ?_
    exact ih (i + 1) (pre ++ row (qOf l e0 e1 e2) i (i + 1) d) (by omega) (by simp only [List.length_append]; omega) (by rw [hQ, List.append_assoc])
theorem law_j3 (hv : ∀ x ∈ l, vld x) (hn : l.length ≤ 100) {Q : List S67} {c : Int} (hQ : (Q, c) = if (0 ≤ e0 ∧ e0 ≤ 10000000) ∧ (0 ≤ e1 ∧ e1 ≤ 10000000) ∧ (0 ≤ e2 ∧ e2 ≤ 10000000) then (rows (qOf l e0 e1 e2) 0 l.length, 0) else ([], 3)) :
    Ev (fun k => acmelaw01_ThreadAgrees.j3 k l Q c e0 e1 e2) true := by
  have j4 : ∀ b : Bool, (b = true ↔ ¬ ((0 ≤ e0 ∧ e0 ≤ 10000000) ∧ (0 ≤ e1 ∧ e1 ≤ 10000000) ∧ (0 ≤ e2 ∧ e2 ≤ 10000000))) → Ev (fun k => acmelaw01_ThreadAgrees.j4 k l Q c b e0 e1 e2) true := by
    intro b hb
    refine Ev.succ ?_
    by_cases he : (0 ≤ e0 ∧ e0 ≤ 10000000) ∧ (0 ≤ e1 ∧ e1 ≤ 10000000) ∧ (0 ≤ e2 ∧ e2 ≤ 10000000)
    · rw [if_pos he] at hQ
      simp only [Prod.mk.injEq] at hQ
      obtain ⟨hQ, rfl⟩ := hQ
      obtain rfl : b = false := Bool.eq_false_iff.mpr fun q => hb.mp q he
      simp only [acmelaw01_ThreadAgrees.j4, Bool.false_eq_true, if_false]
      exact law_l2 hv hn he.1 he.2.1 he.2.2 l.length 0 [] (by omega) (by simp) (by simpa using hQ)
    · rw [if_neg he] at hQ
      simp only [Prod.mk.injEq] at hQ
      obtain ⟨rfl, rfl⟩ := hQ
      obtain rfl : b = true := hb.mpr he
      simp only [acmelaw01_ThreadAgrees.j4, if_true, List.length_nil, Int.natCast_zero]
      exact Ev.of fun _ => rfl
  refine Ev.succ ?_
  simp only [acmelaw01_ThreadAgrees.j3, inA_eq, Option.bind_some]
  by_cases g0 : 0 ≤ e0 ∧ e0 ≤ 10000000
  · simp only [decide_eq_true g0, if_true]
    by_cases g1 : 0 ≤ e1 ∧ e1 ≤ 10000000
    · simp only [decide_eq_true g1, if_true]
      refine j4 _ ?_
      by_cases g2 : 0 ≤ e2 ∧ e2 ≤ 10000000
      · simp only [decide_eq_true g2]; exact ⟨fun q => by simp at q, fun q => absurd ⟨g0, g1, g2⟩ q⟩
      · simp only [decide_eq_false g2]; exact ⟨fun _ q => g2 q.2.2, fun _ => rfl⟩
    · simp only [decide_eq_false g1, Bool.false_eq_true, if_false]
      exact j4 _ ⟨fun _ q => g1 q.2.1, fun _ => rfl⟩
  · simp only [decide_eq_false g0, Bool.false_eq_true, if_false]
    exact j4 _ ⟨fun _ q => g0 q.1, fun _ => rfl⟩
theorem law_l1 (hv : ∀ x ∈ l, vld x) (hn : l.length ≤ 100) {Q : List S67} {c : Int} (hQ : (Q, c) = if (0 ≤ e0 ∧ e0 ≤ 10000000) ∧ (0 ≤ e1 ∧ e1 ≤ 10000000) ∧ (0 ≤ e2 ∧ e2 ≤ 10000000) then (rows (qOf l e0 e1 e2) 0 l.length, 0) else ([], 3)) {A : List Int} {b : Int}
    (hA : (A, b) = if snF s = true then (idx (fun j => agF s (l.getD j z23)) 0 l.length, 0) else ([], 3)) : ∀ d i acc, i + d = l.length → acc.length ≤ i → (snF s = true → A = acc ++ idx (fun j => agF s (l.getD j z23)) i d) →
    Ev (fun k => acmelaw01_ThreadAgrees.l1 k l A b Q c acc (i : Int) s.s0 s.s1 s.s2 s.s3 s.s4 s.s5 s.s6 s.s7 s.s8 s.s9 s.s10 s.s11 s.s12 s.s13 s.s14 e0 e1 e2) true := by
  intro d
  induction d with
  | zero =>
    intro i acc hi ha hacc
    refine Ev.succ ?_
    simp only [acmelaw01_ThreadAgrees.l1, if_neg (show ¬ (i : Int) < (l.length : Int) by omega)]
    refine Ev.bind (seen_ev s) ?_
    by_cases h : snF s = true
    · have hacc := hacc h
      simp only [idx, List.append_nil] at hacc
      subst hacc
      rw [if_pos h] at hA
      simp only [Prod.mk.injEq] at hA
      obtain ⟨_, rfl⟩ := hA
      simp only [h, if_true]
      refine Ev.bind (same_ev (by omega)) ?_
      simp only [if_true]
      exact law_j3 hv hn hQ
    · rw [if_neg h] at hA
      simp only [Prod.mk.injEq] at hA
      obtain ⟨rfl, rfl⟩ := hA
      simp only [h, if_false, if_true, List.length_nil, Int.natCast_zero]
      exact law_j3 hv hn hQ
  | succ d ih =>
    intro i acc hi ha hacc
    have hlt : i < l.length := by omega
    refine Ev.succ ?_
    simp only [acmelaw01_ThreadAgrees.l1, if_pos (show (i : Int) < (l.length : Int) by omega), if_pos (show 0 ≤ (i : Int) by omega), rd23 hlt, wsucc (i := i) (by omega)]
    obtain ⟨r, hr, hrr⟩ : ∃ r, Ev (fun k => acmeref01_Agrees.f k (l[i]).f0 (l[i]).f1 (l[i]).f2 (l[i]).f3 (l[i]).f4 (l[i]).f5 (l[i]).f6 (l[i]).f7 s.s0 s.s1 s.s2 s.s3 s.s4 s.s5 s.s6 s.s7 s.s8 s.s9 s.s10 s.s11 s.s12 s.s13 s.s14) r ∧ (snF s = true → r = agF s l[i]) := by
      by_cases h : snF s = true
      · exact ⟨_, refAgrees_ev s l[i] h, fun _ => rfl⟩
      · obtain ⟨r, hr⟩ := refAgrees_some s l[i]
        exact ⟨r, hr, fun q => absurd q h⟩
    refine Ev.bind hr ?_
    simp only [idx, getD23 hlt] at hacc
    cases r with
    | true =>
      simp only [if_true, if_pos (show acc.length < 17592186044416 by omega)]
      exact ih (i + 1) (acc ++ [(i : Int)]) (by omega) (by simp; omega) fun q => by
        have := hacc q
        rw [if_pos (hrr q).symm] at this
        simpa using this
    | false =>
      simp only [Bool.false_eq_true, if_false]
      exact ih (i + 1) acc (by omega) (by omega) fun q => by
        have := hacc q
        rw [if_neg (by rw [← hrr q]; simp)] at this
        exact this
theorem law_l0 (hw : ∀ x ∈ l, wf23 x) (hn : l.length ≤ 1000) {Q : List S67} {c : Int} {A : List Int} {b : Int} (hA : (A, b) = if tab l = 0 then if snF s = true then (idx (fun j => agF s (l.getD j z23)) 0 l.length, 0) else ([], 3) else ([], tab l))
    (hQ : (Q, c) = if tab l = 0 then if (0 ≤ e0 ∧ e0 ≤ 10000000) ∧ (0 ≤ e1 ∧ e1 ≤ 10000000) ∧ (0 ≤ e2 ∧ e2 ≤ 10000000) then (rows (qOf l e0 e1 e2) 0 l.length, 0) else ([], 3) else ([], tab l)) : ∀ d i, i + d = l.length →
    Ev (fun k => acmelaw01_ThreadAgrees.l0 k l l A b Q c (i : Int) s.s0 s.s1 s.s2 s.s3 s.s4 s.s5 s.s6 s.s7 s.s8 s.s9 s.s10 s.s11 s.s12 s.s13 s.s14 e0 e1 e2) true := by
  intro d
  induction d with
  | zero =>
    intro i hi
    refine Ev.succ ?_
    simp only [acmelaw01_ThreadAgrees.l0, if_neg (show ¬ (i : Int) < (l.length : Int) by omega)]
    refine Ev.bind (table_ev hw hn) ?_
    by_cases h : tab l = 0
    · rw [if_pos h] at hA hQ
      simp only [if_pos h]
      obtain ⟨h1, h2⟩ := tab_zero h
      exact law_l1 s h2 h1 hQ hA l.length 0 [] (by omega) (by simp) fun q => by
        rw [if_pos q] at hA
        simp only [Prod.mk.injEq] at hA
        simpa using hA.1
    · rw [if_neg h] at hA hQ
      simp only [Prod.mk.injEq] at hA hQ
      obtain ⟨rfl, rfl⟩ := hA
      obtain ⟨rfl, rfl⟩ := hQ
      simp only [if_neg h, if_true, List.length_nil, Int.natCast_zero, Int.add_zero, wrap64_id (x := 0) (by omega) (by omega)]
      exact Ev.of fun _ => rfl
  | succ d ih =>
    intro i hi
    have hlt : i < l.length := by omega
    refine Ev.succ ?_
    simp only [acmelaw01_ThreadAgrees.l0, if_pos (show (i : Int) < (l.length : Int) by omega), if_pos (show 0 ≤ (i : Int) by omega), beq_self_eq_true, Bool.not_true, Bool.or_self, Bool.false_eq_true, if_false, wsucc (i := i) (by omega)]
    exact ih (i + 1) (by omega)
end
theorem pure_ThreadAgrees (l0 : List S23) (a1_0 : Int) (a1_1 : Int) (a1_2 : Int) (a1_3 : Int) (a1_4 : Int) (a1_5 : Int) (a1_6 : Int) (a1_7 : Int) (a1_8 : Int) (a1_9 : Int) (a1_10 : Int) (a1_11 : Int) (a1_12 : Int) (a1_13 : Int) (a1_14 : Int) (a2_0 : Int) (a2_1 : Int) (a2_2 : Int) (w0 : ∀ x ∈ l0, wf23 x) (w1_0 : (Lit.int .i64 a1_0).wf = true) (w1_1 : (Lit.int .i64 a1_1).wf = true) (w1_2 : (Lit.int .i64 a1_2).wf = true) (w1_3 : (Lit.int .i64 a1_3).wf = true) (w1_4 : (Lit.int .i64 a1_4).wf = true) (w1_5 : (Lit.int .i64 a1_5).wf = true) (w1_6 : (Lit.int .i64 a1_6).wf = true) (w1_7 : (Lit.int .i64 a1_7).wf = true) (w1_8 : (Lit.int .i64 a1_8).wf = true) (w1_9 : (Lit.int .i64 a1_9).wf = true) (w1_10 : (Lit.int .i64 a1_10).wf = true) (w1_11 : (Lit.int .i64 a1_11).wf = true) (w1_12 : (Lit.int .i64 a1_12).wf = true) (w1_13 : (Lit.int .i64 a1_13).wf = true) (w1_14 : (Lit.int .i64 a1_14).wf = true) (w2_0 : (Lit.int .i64 a2_0).wf = true) (w2_1 : (Lit.int .i64 a2_1).wf = true) (w2_2 : (Lit.int .i64 a2_2).wf = true) : ∃ k, acmelaw01_ThreadAgrees.f k l0 a1_0 a1_1 a1_2 a1_3 a1_4 a1_5 a1_6 a1_7 a1_8 a1_9 a1_10 a1_11 a1_12 a1_13 a1_14 a2_0 a2_1 a2_2 = some true := by
  refine Ev.ex ?_
  have known : ∀ {s : Sn}, Ev (fun k => acmelaw01_ThreadAgrees.j0 k l0 true s.s0 s.s1 s.s2 s.s3 s.s4 s.s5 s.s6 s.s7 s.s8 s.s9 s.s10 s.s11 s.s12 s.s13 s.s14 a2_0 a2_1 a2_2) true := by
    intro s
    refine Ev.succ ?_
    simp only [acmelaw01_ThreadAgrees.j0, if_true]
    exact Ev.of fun _ => rfl
  have rest : ∀ {s : Sn}, l0.length ≤ 105 → Ev (fun k => acmelaw01_ThreadAgrees.j0 k l0 false s.s0 s.s1 s.s2 s.s3 s.s4 s.s5 s.s6 s.s7 s.s8 s.s9 s.s10 s.s11 s.s12 s.s13 s.s14 a2_0 a2_1 a2_2) true := by
    intro s hn
    refine Ev.succ ?_
    simp only [acmelaw01_ThreadAgrees.j0, Bool.false_eq_true, if_false, Option.bind_some, List.length_nil, List.nil_append, if_pos (show 0 + l0.length < 2199023255552 by omega)]
    refine Ev.bind (agree_ev s) ?_
    refine Ev.bind alike_ev ?_
    exact law_l0 s w0 (by omega) rfl rfl l0.length 0 (by omega)
  unfold acmelaw01_ThreadAgrees.f
  by_cases h1 : (l0.length : Int) > 30
  · simp only [if_pos h1]
    by_cases h2 : (l0.length : Int) ≤ 100
    · simp only [if_pos h2]
      exact known (s := ⟨a1_0, a1_1, a1_2, a1_3, a1_4, a1_5, a1_6, a1_7, a1_8, a1_9, a1_10, a1_11, a1_12, a1_13, a1_14⟩)
    · simp only [if_neg h2]
      by_cases h3 : (l0.length : Int) > 105
      · simp only [decide_eq_true h3]
        exact known (s := ⟨a1_0, a1_1, a1_2, a1_3, a1_4, a1_5, a1_6, a1_7, a1_8, a1_9, a1_10, a1_11, a1_12, a1_13, a1_14⟩)
      · simp only [decide_eq_false h3]
        exact rest (s := ⟨a1_0, a1_1, a1_2, a1_3, a1_4, a1_5, a1_6, a1_7, a1_8, a1_9, a1_10, a1_11, a1_12, a1_13, a1_14⟩) (by omega)
  · simp only [if_neg h1, decide_eq_false (show ¬ (l0.length : Int) > 105 by omega)]
    exact rest (s := ⟨a1_0, a1_1, a1_2, a1_3, a1_4, a1_5, a1_6, a1_7, a1_8, a1_9, a1_10, a1_11, a1_12, a1_13, a1_14⟩) (by omega)
end Go.Proofs.Yticbhgjenidjlaa.T
namespace Go.Proofs.Yticbhgjenidjlaa.threadAgrees
open Go.ChangeShapes Go.WideShapes Go.ChangeAt Go.RowKit Go.Proofs.Yticbhgjenidjlaa.T
open Go.ChangeMaps (open_string shut_string)
set_option linter.unusedVariables false
theorem own : ownKnob Try.prog.godebug = none := by kernel_rfl
theorem laidOut : laidOutB Try.prog = true := by kernel_rfl
set_option maxRecDepth 100000 in
theorem lifted (os : Os) (started : os.Started) (H : Type) (enc : TypeId × Value → H) :
    ReturnsInHanded {} Try.checked os 7 .any (Rows.threadAgreesSpec.pre6 enc Try.prog Try.f7 Rows.threadAgreesRow.domain false) (Rows.threadAgreesSpec.post enc Try.prog Try.f7 false true false false) := by
  refine returnsInHanded_of_change_sized (C := Try.checked) own started (by kernel_rfl) Try.func7
    (ChangeSpec.witness6 (enc := enc) (C := Try.checked) false ⟨#[], #[.slice none 0 0, .agg #[.int .i64 0, .int .i64 0, .int .i64 0, .int .i64 0, .int .i64 0, .int .i64 0, .int .i64 0, .int .i64 0, .int .i64 0, .int .i64 0, .int .i64 0, .int .i64 0, .int .i64 0, .int .i64 0, .int .i64 0], .agg #[.int .i64 0, .int .i64 0, .int .i64 0]], []⟩ 8 (by kernel_rfl) (by kernel_rfl) (by kernel_rfl) (by kernel_rfl)) ?_
  intro W base args ds gs before hval0 hW hcnd hsz0 _
  have hval : ∀ (j : Nat) t v, Try.f7.params[j]? = some t → args[j]? = some v → Value.okWide Try.prog W .any base t v := hval0
  have hW' := hW
  obtain ⟨p, q, hA0, hV, rfl, hfz, hnd⟩ := hW
  have hA : DataW.TrodAll enc Try.prog W 0 (fun _ => true) true Try.f7.params.toList args.toList ds p := hA0
  rw [Try.params7] at hA hval
  obtain ⟨v0, vs0, d0, ds0, p0, q0, hargs, rfl, rfl, h0, r0⟩ := trodAll_cons hA
  obtain ⟨v1, vs1, d1, ds1, p1, q1, rfl, rfl, rfl, h1, r1⟩ := trodAll_cons r0
  obtain ⟨v2, vs2, d2, ds2, p2, q2, rfl, rfl, rfl, h2, r2⟩ := trodAll_cons r1
  obtain ⟨rfl, rfl, rfl⟩ := trodAll_nil r2
  obtain rfl : args = #[v0, v1, v2] := by cases args; simp_all
  obtain ⟨rfl, rfl⟩ := trodVars_none hV
  have k0 := h0
  have lt0 : ∀ x ∈ p0, x.block < W.heap.size := by obtain ⟨m, hm⟩ := k0; exact DataW.trod_lt m _ _ _ hm
  obtain ⟨A0, len0, cap0, rfl⟩ := okWide_slice Try.underlying50 (hval 0 50 v0 rfl rfl)
  obtain ⟨l0, rfl, C0, c0, w0⟩ := openS50 h0
  have k1 := h1
  have lt1 : ∀ x ∈ p1, x.block < W.heap.size := by obtain ⟨m, hm⟩ := k1; exact DataW.trod_lt m _ _ _ hm
  obtain ⟨fuel1, hf1⟩ := h1
  obtain ⟨a1_0, a1_1, a1_2, a1_3, a1_4, a1_5, a1_6, a1_7, a1_8, a1_9, a1_10, a1_11, a1_12, a1_13, a1_14, e1, w1_0, w1_1, w1_2, w1_3, w1_4, w1_5, w1_6, w1_7, w1_8, w1_9, w1_10, w1_11, w1_12, w1_13, w1_14⟩ := open53 hf1
  obtain rfl : v1 = .agg #[.int .i64 a1_0, .int .i64 a1_1, .int .i64 a1_2, .int .i64 a1_3, .int .i64 a1_4, .int .i64 a1_5, .int .i64 a1_6, .int .i64 a1_7, .int .i64 a1_8, .int .i64 a1_9, .int .i64 a1_10, .int .i64 a1_11, .int .i64 a1_12, .int .i64 a1_13, .int .i64 a1_14] := agg_of_cells e1 (by simp)
  have k2 := h2
  have lt2 : ∀ x ∈ p2, x.block < W.heap.size := by obtain ⟨m, hm⟩ := k2; exact DataW.trod_lt m _ _ _ hm
  obtain ⟨fuel2, hf2⟩ := h2
  obtain ⟨a2_0, a2_1, a2_2, e2, w2_0, w2_1, w2_2⟩ := open55 hf2
  obtain rfl : v2 = .agg #[.int .i64 a2_0, .int .i64 a2_1, .int .i64 a2_2] := agg_of_cells e2 (by simp)
  clear hA0 hval0 hsz0
  obtain ⟨k, hk⟩ := pure_ThreadAgrees l0 a1_0 a1_1 a1_2 a1_3 a1_4 a1_5 a1_6 a1_7 a1_8 a1_9 a1_10 a1_11 a1_12 a1_13 a1_14 a2_0 a2_1 a2_2 w0 w1_0 w1_1 w1_2 w1_3 w1_4 w1_5 w1_6 w1_7 w1_8 w1_9 w1_10 w1_11 w1_12 w1_13 w1_14 w2_0 w2_1 w2_2
  refine (acmelaw01_ThreadAgrees.calls k A0 cap0 l0 a1_0 a1_1 a1_2 a1_3 a1_4 a1_5 a1_6 a1_7 a1_8 a1_9 a1_10 a1_11 a1_12 a1_13 a1_14 a2_0 a2_1 a2_2 true W C0 c0 hk).mono fun e W' ⟨he, bel⟩ => ?_
  subst he
  exact ⟨_, rfl, _, _, _, [], _, [], hW', trodAll_mk1 (shut_bool Try.underlying4 _), (trodAll_cons_mk (Below.trod laidOut (by kernel_rfl) (of_decide_eq_true (by kernel_rfl)) k0 bel lt0) (trodAll_cons_mk (Below.trod laidOut (by kernel_rfl) (of_decide_eq_true (by kernel_rfl)) k1 bel lt1) (trodAll_cons_mk (Below.trod laidOut (by kernel_rfl) (of_decide_eq_true (by kernel_rfl)) k2 bel lt2) trodAll_mk0))), rfl, bel.frame _, fun h => by cases h⟩
theorem over : Rows.threadAgreesRow.holds Try.pinned (OpenSpec.ofChange Rows.threadAgreesSpec) :=
  OpenClaim.holds_of_wide 7 Try.f7 rfl rfl rfl rfl rfl rfl rfl ⟨rfl, rfl, rfl, rfl, rfl⟩ rfl rfl rfl rfl rfl (by kernel_rfl) Try.func7 (by kernel_rfl)
    (of_decide_eq_true (by kernel_rfl)) (by unfold Func.isWrapper; first | (rw [if_pos (by decide +kernel)]; kernel_rfl) | (rw [if_neg (by decide +kernel)]; exact ⟨rfl, rfl⟩))
    (fun os started H enc _ => lifted os started H enc)
theorem proved : Rows.ThreadAgreesSaid := over
end Go.Proofs.Yticbhgjenidjlaa.threadAgrees
namespace Go.Proofs.Yticbhgjenidjlaa
theorem threadAgrees_holds : Rows.ThreadAgreesSaid := threadAgrees.proved
end Go.Proofs.Yticbhgjenidjlaa
