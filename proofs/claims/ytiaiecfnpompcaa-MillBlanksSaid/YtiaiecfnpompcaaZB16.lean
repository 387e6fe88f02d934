-- cut down, squeezed and laid together by pack.py (a program of this repository) out of this seat's texts
import Derived.ChangeKeysEq
import Derived.WalkKit
import Derived.MapKept
import Derived.RangeFuncNested
import Derived.RangeFuncBound
import Derived.RangeFuncCalls
import Derived.RangeFuncLeaves
import Derived.Shelf.Abstract
import Derived.Shelf.RegionOpen
import Derived.OwnWalkIn
import Derived.TacticsInMore
import Derived.LoopNIn
import Derived.LoopIn
import Derived.Shelf.SlSortCmp.InsertionK
import Derived.ProofKit
import Derived.OpenShut
import Derived.ShutString
import Derived.ChangeOld
import Derived.Below
import Derived.SizedLaws
import Derived.Carry
import Derived.Test.YtiaiecfnpompcaaRows
import Derived.Test.YtiaiecfnpompcaaZB9
import Derived.Test.YtiaiecfnpompcaaZB2
import Derived.Test.YtiaiecfnpompcaaZB8
import Derived.Test.YtiaiecfnpompcaaZB10
import Derived.Test.YtiaiecfnpompcaaZB4
import Derived.Test.YtiaiecfnpompcaaZB7
import Derived.Test.YtiaiecfnpompcaaZB3
import Derived.Test.YtiaiecfnpompcaaZB6
import Derived.Test.YtiaiecfnpompcaaZB5
import Derived.Test.YtiaiecfnpompcaaZB1
import Derived.Test.YtiaiecfnpompcaaZB12
import Derived.Test.YtiaiecfnpompcaaZB13
import Derived.Test.YtiaiecfnpompcaaZB14
import Derived.Test.YtiaiecfnpompcaaZB11
import Derived.Test.YtiaiecfnpompcaaZB15
namespace Go.Proofs.Ytiaiecfnpompcaa.T
open Go.RowKit Go.Proofs.YtiaiecfnpompcaaW.PrintWords
set_option linter.unusedVariables false
set_option linter.unusedSimpArgs false
def Ev {α : Type} (F : Nat → Option α) (v : α) : Prop := ∃ k0, ∀ k, k0 ≤ k → F k = some v
theorem Ev.of {α : Type} {F : Nat → Option α} {v : α} (h : ∀ k, F k = some v) : Ev F v := ⟨0, fun k _ => h k⟩
theorem Ev.pure {α : Type} (v : α) : Ev (fun _ => some v) v := ⟨0, fun _ _ => rfl⟩
theorem Ev.bind {α β : Type} {F : Nat → Option α} {G : Nat → α → Option β} {v : α} {u : β} (h : Ev F v) (h2 : Ev (fun k => G k v) u) : Ev (fun k => (F k).bind (G k)) u := by
  obtain ⟨a, ha⟩ := h
  obtain ⟨b, hb⟩ := h2
  exact ⟨max a b, fun k hk => by show (F k).bind (G k) = _; rw [ha k (by omega)]; exact hb k (by omega)⟩
theorem Ev.succ {α : Type} {F : Nat → Option α} {v : α} (h : Ev (fun k => F (k + 1)) v) : Ev F v := by
  obtain ⟨a, ha⟩ := h
  exact ⟨a + 1, fun k hk => by obtain ⟨j, rfl⟩ : ∃ j, k = j + 1 := ⟨k - 1, by omega⟩; exact ha j (by omega)⟩
theorem Ev.ex {α : Type} {F : Nat → Option α} {v : α} (h : Ev F v) : ∃ k, F k = some v := by obtain ⟨a, ha⟩ := h; exact ⟨a, ha a (Nat.le_refl _)⟩
theorem wrap64_id {x : Int} (h0 : -9223372036854775808 ≤ x) (h1 : x ≤ 9223372036854775807) : wrap64 x = x := by unfold wrap64; omega

theorem within_one (a b x : Int) : mill_within.f a b [x] = some (decide (a ≤ x ∧ x ≤ b)) := by
  unfold mill_within.f
  congr 1
  simp only [List.any_cons, List.any_nil, Bool.or_false, outside]
  by_cases h1 : x < a
  · have : ¬ (a ≤ x ∧ x ≤ b) := by omega
    simp [h1, this]
  · by_cases h2 : b < x
    · have : ¬ (a ≤ x ∧ x ≤ b) := by omega
      simp [h2, this]
    · have : a ≤ x ∧ x ≤ b := by omega
      simp [h1, h2, this]
theorem within_two (a b x y : Int) : mill_within.f a b [x, y] = some (decide ((a ≤ x ∧ x ≤ b) ∧ a ≤ y ∧ y ≤ b)) := by
  have h1 := within_one a b x
  have h2 := within_one a b y
  unfold mill_within.f at *
  simp only [Option.some.injEq, List.any_cons, List.any_nil, Bool.or_false] at *
  rw [Bool.not_or, h1, h2]
  by_cases g1 : a ≤ x ∧ x ≤ b <;> by_cases g2 : a ≤ y ∧ y ≤ b <;> simp [g1, g2]
theorem isSpan_eq (lo hi a b : Int) : mill_isSpan.f lo hi a b = some (decide (a ≤ lo ∧ lo ≤ hi ∧ hi ≤ b)) := by
  unfold mill_isSpan.f
  rw [within_two]
  simp only [Option.bind_some, decide_eq_true_eq]
  split
  · congr 1; rw [decide_eq_decide]; omega
  · congr 1
    symm
    rw [decide_eq_false_iff_not]; omega
theorem span_eq (lo hi a b : Int) : acmeref12_Span.f lo hi a b = some (decide (a ≤ lo ∧ lo ≤ hi ∧ hi ≤ b)) := by
  unfold acmeref12_Span.f acmeref12_In.f
  by_cases h1 : lo ≥ a
  · by_cases h2 : lo ≤ hi
    · simp only [if_pos h1, Option.bind_some, decide_eq_true h2, if_true]; congr 1; rw [decide_eq_decide]; omega
    · simp only [if_pos h1, Option.bind_some, decide_eq_false h2]; simp; omega
  · simp only [if_neg h1, Option.bind_some]; simp; omega
theorem in_eq (x a b : Int) : acmeref12_In.f x a b = some (decide (a ≤ x ∧ x ≤ b)) := by
  unfold acmeref12_In.f
  split <;> simp <;> omega

def okP (p : S46) : Prop := (1 ≤ p.f0 ∧ p.f0 ≤ 100000) ∧ 1 ≤ p.f1 ∧ p.f1 ≤ 10000000
instance (p : S46) : Decidable (okP p) := by unfold okP; infer_instance
def vol : List S46 → Int
  | [] => 0
  | p :: l => p.f0 * p.f0 * p.f1 + vol l
theorem vol_append (l : List S46) (p : S46) : vol (l ++ [p]) = vol l + p.f0 * p.f0 * p.f1 := by
  induction l with
  | nil => simp [vol]
  | cons q l ih => simp only [List.cons_append, vol, ih]; omega
theorem part_le {p : S46} (h : okP p) : 1 ≤ p.f0 * p.f0 * p.f1 ∧ p.f0 * p.f0 * p.f1 ≤ 100000000000000000 ∧ 1 ≤ p.f0 * p.f0 ∧ p.f0 * p.f0 ≤ 10000000000 := by
  obtain ⟨⟨h1, h2⟩, h3, h4⟩ := h
  have a1 : 1 * 1 ≤ p.f0 * p.f0 := Int.mul_le_mul h1 h1 (by omega) (by omega)
  have a2 : p.f0 * p.f0 ≤ 100000 * 100000 := Int.mul_le_mul h2 h2 (by omega) (by omega)
  have a3 : 1 * 1 ≤ p.f0 * p.f0 * p.f1 := Int.mul_le_mul (by omega) h3 (by omega) (by omega)
  have a4 : p.f0 * p.f0 * p.f1 ≤ 10000000000 * 10000000 := Int.mul_le_mul (by omega) h4 (by omega) (by omega)
  omega
theorem sq_wrap {p : S46} (h : okP p) : wrap64 (p.f0 * p.f0) = p.f0 * p.f0 := by
  have := part_le h
  generalize p.f0 * p.f0 = x at *
  exact wrap64_id (by omega) (by omega)
theorem cu_wrap {p : S46} (h : okP p) : wrap64 (p.f0 * p.f0 * p.f1) = p.f0 * p.f0 * p.f1 := by
  have := part_le h
  generalize p.f0 * p.f0 * p.f1 = x at *
  exact wrap64_id (by omega) (by omega)
theorem vol_le : ∀ (l : List S46), (∀ p ∈ l, okP p) → 0 ≤ vol l ∧ vol l ≤ l.length * 100000000000000000 ∧ l.length ≤ vol l
  | [], _ => by simp [vol]
  | p :: l, h => by
    have h1 := part_le (h p (by simp))
    have h2 := vol_le l (fun q hq => h q (by simp [hq]))
    simp only [vol, List.length_cons]
    omega
theorem step_bound {V X : Int} {i : Nat} (h1 : 0 ≤ V) (h2 : V ≤ i * 100000000000000000) (h3 : i < 10) (h4 : 1 ≤ X) (h5 : X ≤ 100000000000000000) : wrap64 (V + X) = V + X := wrap64_id (by omega) (by omega)
theorem i_bound {i : Nat} (h : i < 10) : wrap64 ((i : Int) + 1) = ((i + 1 : Nat) : Int) := by rw [wrap64_id (by omega) (by omega)]; rfl
theorem rd_T46_get {l : List S46} {i : Nat} (h : i < l.length) : rd_T46 l i = l[i] := by simp [rd_T46, h]

def volEnd (l : List S46) (w0 w1 : Int) : Int × Int :=
  if ∀ p ∈ l, okP p then if l = [] then (0, 2) else if 1 ≤ w0 ∧ w0 ≤ w1 ∧ w1 ≤ 100000 then (vol l, 0) else (0, 3) else (0, 2)
theorem volume_loop (l : List S46) (hlen : l.length ≤ 10) (w0 w1 : Int) : ∀ (n i : Nat), n = l.length - i → i ≤ l.length → (∀ p ∈ l.take i, okP p) → Ev (fun k => mill_volume.l0 k l (vol (l.take i)) l l.length i w0 w1) (volEnd l w0 w1) := by
  intro n
  induction n with
  | zero =>
    intro i hn hi hok
    have : i = l.length := by omega
    subst this
    rw [List.take_length] at hok
    refine Ev.succ (Ev.of fun k => ?_)
    simp only [mill_volume.l0, List.take_length]
    rw [if_neg (by omega)]
    unfold volEnd
    rw [if_pos hok]
    by_cases he : l = []
    · subst he; simp
    · have : ¬ ((l.length : Int) = 0) := by have := List.length_pos_iff.2 he; omega
      rw [if_neg this, if_neg he, isSpan_eq]
      simp only [Option.bind_some, decide_eq_true_eq]
      split <;> rfl
  | succ n ih =>
    intro i hn hi hok
    have hlt : i < l.length := by omega
    have n1 : n = l.length - (i + 1) := by omega
    have n2 : i + 1 ≤ l.length := by omega
    have hok' : ∀ (h : okP l[i]), ∀ p ∈ l.take (i + 1), okP p := by
      intro h p hp
      rw [List.take_succ_eq_append_getElem hlt, List.mem_append, List.mem_singleton] at hp
      rcases hp with hp | rfl
      · exact hok p hp
      · exact h
    have hnot : ¬ okP l[i] → volEnd l w0 w1 = (0, 2) := by
      intro h
      unfold volEnd
      rw [if_neg (fun q => h (q _ (List.getElem_mem hlt)))]
    refine Ev.succ ?_
    simp only [mill_volume.l0]
    have q1 : (i : Int) < (l.length : Int) := by omega
    have q2 : (0 : Int) ≤ (i : Int) := by omega
    simp only [if_pos q1, if_pos q2, rd_T46_get hlt, within_one, Option.bind_some, decide_eq_true_eq]
    by_cases h1 : 1 ≤ (l[i]).f0 ∧ (l[i]).f0 ≤ 100000
    · simp only [if_pos h1]
      by_cases h2 : 1 ≤ (l[i]).f1 ∧ (l[i]).f1 ≤ 10000000
      · simp only [if_pos h2]
        have hp := part_le ⟨h1, h2⟩
        have hv := vol_le (l.take i) hok
        have hl : (l.take i).length = i := by simp; omega
        rw [hl] at hv
        have e1 := sq_wrap ⟨h1, h2⟩
        have e2 := cu_wrap ⟨h1, h2⟩
        have e3 : wrap64 (vol (l.take i) + (l[i]).f0 * (l[i]).f0 * (l[i]).f1) = vol (l.take (i + 1)) := by
          rw [step_bound hv.1 hv.2.1 (Nat.lt_of_lt_of_le hlt hlen) hp.1 hp.2.1, List.take_succ_eq_append_getElem hlt, vol_append]
        have e4 : wrap64 ((i : Int) + 1) = ((i + 1 : Nat) : Int) := i_bound (Nat.lt_of_lt_of_le hlt hlen)
        simp only [e1, e2, e3, e4]
        exact ih (i + 1) n1 n2 (hok' ⟨h1, h2⟩)
      · simp only [if_neg h2]
        rw [hnot (fun q => h2 q.2)]
        exact Ev.pure _
    · simp only [if_neg h1]
      rw [hnot (fun q => h1 q.1)]
      exact Ev.pure _
def volF (l : List S46) (w0 w1 : Int) : Int × Int := if 10 < l.length then (0, 5) else volEnd l w0 w1
theorem volume_ev (l : List S46) (w0 w1 : Int) : Ev (fun k => mill_volume.f k l w0 w1) (volF l w0 w1) := by
  unfold mill_volume.f volF
  by_cases h : 10 < l.length
  · have h' : (l.length : Int) > 10 := by omega
    simp only [if_pos h, if_pos h']; exact Ev.pure _
  · have h' : ¬ (l.length : Int) > 10 := by omega
    simp only [if_neg h, if_neg h']
    have := volume_loop l (by omega) w0 w1 l.length 0 (by simp) (by omega) (by simp)
    simpa [vol] using this

def volR (l : List S46) : Int × Int := if 10 < l.length then (0, 5) else if ∀ p ∈ l, okP p then if l = [] then (0, 2) else (vol l, 0) else (0, 2)
theorem Volume_loop (l : List S46) (hlen : l.length ≤ 10) : ∀ (n i : Nat), n = l.length - i → i ≤ l.length → (∀ p ∈ l.take i, okP p) → Ev (fun k => acmeref12_Volume.l0 k l (vol (l.take i)) i) (if ∀ p ∈ l, okP p then if l = [] then (0, 2) else (vol l, 0) else (0, 2)) := by
  intro n
  induction n with
  | zero =>
    intro i hn hi hok
    have : i = l.length := by omega
    subst this
    rw [List.take_length] at hok
    refine Ev.succ (Ev.of fun k => ?_)
    simp only [acmeref12_Volume.l0, List.take_length]
    rw [if_neg (by omega), if_pos hok]
    by_cases he : l = []
    · subst he; simp
    · have : ¬ ((l.length : Int) = 0) := by have := List.length_pos_iff.2 he; omega
      rw [if_neg this, if_neg he]
  | succ n ih =>
    intro i hn hi hok
    have hlt : i < l.length := by omega
    have n1 : n = l.length - (i + 1) := by omega
    have n2 : i + 1 ≤ l.length := by omega
    have hok' : ∀ (h : okP l[i]), ∀ p ∈ l.take (i + 1), okP p := by
      intro h p hp
      rw [List.take_succ_eq_append_getElem hlt, List.mem_append, List.mem_singleton] at hp
      rcases hp with hp | rfl
      · exact hok p hp
      · exact h
    have hnot : ¬ okP l[i] → (if ∀ p ∈ l, okP p then if l = [] then ((0, 2) : Int × Int) else (vol l, 0) else (0, 2)) = (0, 2) := by
      intro h
      rw [if_neg (fun q => h (q _ (List.getElem_mem hlt)))]
    refine Ev.succ ?_
    simp only [acmeref12_Volume.l0]
    have q1 : (i : Int) < (l.length : Int) := by omega
    have q2 : (0 : Int) ≤ (i : Int) := by omega
    simp only [if_pos q1, if_pos q2, rd_T46_get hlt, in_eq, Option.bind_some, decide_eq_true_eq]
    by_cases h1 : 1 ≤ (l[i]).f0 ∧ (l[i]).f0 ≤ 100000
    · simp only [if_pos h1]
      by_cases h2 : 1 ≤ (l[i]).f1 ∧ (l[i]).f1 ≤ 10000000
      · simp only [if_pos h2]
        have hp := part_le ⟨h1, h2⟩
        have hv := vol_le (l.take i) hok
        have hl : (l.take i).length = i := by simp; omega
        rw [hl] at hv
        have e1 := sq_wrap ⟨h1, h2⟩
        have e2 := cu_wrap ⟨h1, h2⟩
        have e3 : wrap64 (vol (l.take i) + (l[i]).f0 * (l[i]).f0 * (l[i]).f1) = vol (l.take (i + 1)) := by
          rw [step_bound hv.1 hv.2.1 (Nat.lt_of_lt_of_le hlt hlen) hp.1 hp.2.1, List.take_succ_eq_append_getElem hlt, vol_append]
        have e4 : wrap64 ((i : Int) + 1) = ((i + 1 : Nat) : Int) := i_bound (Nat.lt_of_lt_of_le hlt hlen)
        simp only [e1, e2, e3, e4]
        exact ih (i + 1) n1 n2 (hok' ⟨h1, h2⟩)
      · simp only [if_neg h2]
        rw [hnot (fun q => h2 q.2)]
        exact Ev.pure _
    · simp only [if_neg h1]
      rw [hnot (fun q => h1 q.1)]
      exact Ev.pure _
theorem Volume_ev (l : List S46) : Ev (fun k => acmeref12_Volume.f k l) (volR l) := by
  unfold acmeref12_Volume.f volR
  by_cases h : 10 < l.length
  · have h' : (l.length : Int) > 10 := by omega
    simp only [if_pos h, if_pos h']; exact Ev.pure _
  · have h' : ¬ (l.length : Int) > 10 := by omega
    simp only [if_neg h, if_neg h']
    have := Volume_loop l (by omega) l.length 0 (by simp) (by omega) (by simp)
    simpa [vol] using this
end Go.Proofs.Ytiaiecfnpompcaa.T
namespace Go.Proofs.Ytiaiecfnpompcaa.T
open Go.RowKit Go.Proofs.YtiaiecfnpompcaaW.PrintWords
set_option linter.unusedVariables false
set_option linter.unusedSimpArgs false
theorem volF_ok {l : List S46} {w0 w1 : Int} (h : (volF l w0 w1).2 = 0) : (volF l w0 w1).1 = vol l ∧ volR l = (vol l, 0) ∧ (1 ≤ w0 ∧ w0 ≤ w1 ∧ w1 ≤ 100000) ∧ 1 ≤ vol l ∧ vol l ≤ 1000000000000000000 := by
  unfold volF volEnd at h ⊢
  unfold volR
  by_cases h1 : 10 < l.length
  · simp [h1] at h
  · simp only [if_neg h1] at h ⊢
    by_cases h2 : ∀ p ∈ l, okP p
    · simp only [if_pos h2] at h ⊢
      by_cases h3 : l = []
      · simp [h3] at h
      · simp only [if_neg h3] at h ⊢
        by_cases h4 : 1 ≤ w0 ∧ w0 ≤ w1 ∧ w1 ≤ 100000
        · simp only [if_pos h4] at h ⊢
          have h5 := vol_le l h2
          have h6 := List.length_pos_iff.2 h3
          refine ⟨trivial, trivial, h4, ?_⟩
          generalize vol l = V at h5 ⊢
          generalize l.length = n at *
          omega
        · simp [if_neg h4] at h
    · simp only [if_neg h2] at h
      simp at h
theorem sq_bound {w : Int} (h0 : 1 ≤ w) (h1 : w ≤ 100000) : 1 ≤ w * w ∧ w * w ≤ 10000000000 := by
  have a1 : 1 * 1 ≤ w * w := Int.mul_le_mul h0 h0 (by omega) (by omega)
  have a2 : w * w ≤ 100000 * 100000 := Int.mul_le_mul h1 h1 (by omega) (by omega)
  omega
theorem tdiv_wrap {a b : Int} (h0 : 0 ≤ a) (h1 : a ≤ 9223372036854775807) (h2 : 1 ≤ b) : wrap64 (Int.tdiv a b) = a / b := by
  rw [Int.tdiv_eq_ediv_of_nonneg h0]
  have h3 : 0 ≤ a / b := Int.ediv_nonneg h0 (by omega)
  have h4 : a / b ≤ a := Int.ediv_le_self _ h0
  generalize a / b = q at *
  exact wrap64_id (by omega) (by omega)
def blankF (l : List S46) (w0 w1 : Int) : Int × Int × Int :=
  if (volF l w0 w1).2 = 0 then (vol l / (w1 * w1), (vol l + w0 * w0 - 1) / (w0 * w0), 0) else (0, 0, (volF l w0 w1).2)
theorem blank_ev (l : List S46) (w0 w1 : Int) : Ev (fun k => mill_Blank.f k l w0 w1) (blankF l w0 w1) := by
  unfold mill_Blank.f blankF
  refine Ev.bind (volume_ev l w0 w1) ?_
  by_cases h : (volF l w0 w1).2 = 0
  · obtain ⟨e1, _, ⟨hw0, hw1, hw2⟩, hv1, hv2⟩ := volF_ok h
    simp only [if_pos h, e1]
    have b0 := sq_bound hw0 (by omega)
    have b1 := sq_bound (w := w1) (by omega) hw2
    generalize vol l = V at *
    generalize w0 * w0 = a at *
    generalize w1 * w1 = b at *
    have q0 : wrap64 a = a := wrap64_id (by omega) (by omega)
    have q1 : wrap64 b = b := wrap64_id (by omega) (by omega)
    have q2 : wrap64 (V + a) = V + a := wrap64_id (by omega) (by omega)
    have q3 : wrap64 (V + a - 1) = V + a - 1 := wrap64_id (by omega) (by omega)
    have n0 : ¬ a = 0 := by omega
    have n1 : ¬ b = 0 := by omega
    simp only [q0, q1, q2, q3, if_neg n0, if_neg n1]
    rw [tdiv_wrap (by omega) (by omega) (by omega), tdiv_wrap (by omega) (by omega) (by omega)]
    exact Ev.pure _
  · simp only [if_neg h]
    exact Ev.pure _
theorem cube_bound {c w : Int} (h0 : 1 ≤ c) (h1 : c ≤ 10000000) (h2 : 1 ≤ w) (h3 : w ≤ 100000) : (1 ≤ c * w ∧ c * w ≤ 1000000000000) ∧ 1 ≤ c * w * w ∧ c * w * w ≤ 100000000000000000 := by
  have a1 : 1 * 1 ≤ c * w := Int.mul_le_mul h0 h2 (by omega) (by omega)
  have a2 : c * w ≤ 10000000 * 100000 := Int.mul_le_mul h1 h3 (by omega) (by omega)
  have a3 : 1 * 1 ≤ c * w * w := Int.mul_le_mul (by omega) h2 (by omega) (by omega)
  have a4 : c * w * w ≤ 1000000000000 * 100000 := Int.mul_le_mul (by omega) h3 (by omega) (by omega)
  generalize c * w = x at *
  generalize x * w = y at *
  omega
theorem cube_wrap {c w : Int} (h0 : 1 ≤ c) (h1 : c ≤ 10000000) (h2 : 1 ≤ w) (h3 : w ≤ 100000) : wrap64 (c * w) = c * w ∧ wrap64 (c * w * w) = c * w * w ∧ 1 ≤ c * w * w ∧ c * w * w ≤ 100000000000000000 := by
  have h := cube_bound h0 h1 h2 h3
  generalize c * w * w = y at *
  generalize c * w = x at *
  exact ⟨wrap64_id (by omega) (by omega), wrap64_id (by omega) (by omega), by omega, by omega⟩
theorem sub_wrap {X V : Int} (h0 : 1 ≤ X) (h1 : X ≤ 100000000000000000) (h2 : 1 ≤ V) (h3 : V ≤ 1000000000000000000) : wrap64 (X - V) = X - V := wrap64_id (by omega) (by omega)
def spareF (l : List S46) (w0 w1 c0 c1 : Int) : Int × Int × Int :=
  if (volF l w0 w1).2 = 0 then if 1 ≤ c0 ∧ c0 ≤ c1 ∧ c1 ≤ 10000000 then (c0 * w0 * w0 - vol l, c1 * w1 * w1 - vol l, 0) else (0, 0, 3) else (0, 0, (volF l w0 w1).2)
theorem spare_ev (l : List S46) (w0 w1 c0 c1 : Int) : Ev (fun k => mill_Spare.f k l w0 w1 c0 c1) (spareF l w0 w1 c0 c1) := by
  unfold mill_Spare.f spareF
  refine Ev.bind (volume_ev l w0 w1) ?_
  by_cases h : (volF l w0 w1).2 = 0
  · obtain ⟨e1, _, ⟨hw0, hw1, hw2⟩, hv1, hv2⟩ := volF_ok h
    simp only [if_pos h, e1, isSpan_eq, Option.bind_some, decide_eq_true_eq]
    by_cases hc : 1 ≤ c0 ∧ c0 ≤ c1 ∧ c1 ≤ 10000000
    · simp only [if_pos hc]
      obtain ⟨a1, a2, a3, a4⟩ := cube_wrap (c := c0) (w := w0) hc.1 (by omega) hw0 (by omega)
      obtain ⟨b1, b2, b3, b4⟩ := cube_wrap (c := c1) (w := w1) (by omega) hc.2.2 (by omega) hw2
      simp only [a1, a2, b1, b2, sub_wrap a3 a4 hv1 hv2, sub_wrap b3 b4 hv1 hv2]
      exact Ev.pure _
    · simp only [if_neg hc]
      exact Ev.pure _
  · simp only [if_neg h]
    exact Ev.pure _
end Go.Proofs.Ytiaiecfnpompcaa.T
namespace Go.Proofs.Ytiaiecfnpompcaa.T
open Go.RowKit Go.Proofs.YtiaiecfnpompcaaW.PrintWords
set_option linter.unusedVariables false
set_option linter.unusedSimpArgs false
theorem low_facts {V b : Int} (h0 : 1 ≤ V) (h1 : V ≤ 1000000000000000000) (h2 : 1 ≤ b) (h3 : b ≤ 10000000000) :
    0 ≤ V / b ∧ V / b ≤ V ∧ wrap64 (V / b + 1) = V / b + 1 ∧ V < wrap64 ((V / b + 1) * b) := by
  have a1 : 0 ≤ V / b := Int.ediv_nonneg (by omega) (by omega)
  have a2 : V / b ≤ V := Int.ediv_le_self _ (by omega)
  have a3 := Int.mul_ediv_add_emod V b
  have a4 := Int.emod_nonneg V (show b ≠ 0 by omega)
  have a5 := Int.emod_lt_of_pos V (show 0 < b by omega)
  have a6 : (V / b + 1) * b = b * (V / b) + b := by rw [Int.add_mul, Int.one_mul, Int.mul_comm]
  rw [a6]
  generalize b * (V / b) = x at *
  generalize V / b = q at *
  generalize V % b = r at *
  refine ⟨a1, a2, wrap64_id (by omega) (by omega), ?_⟩
  rw [wrap64_id (by omega) (by omega)]
  omega
theorem high_facts {V a : Int} (h0 : 1 ≤ V) (h1 : V ≤ 1000000000000000000) (h2 : 1 ≤ a) (h3 : a ≤ 10000000000) :
    1 ≤ (V + a - 1) / a ∧ (V + a - 1) / a ≤ V / a + 1 ∧ V ≤ wrap64 ((V + a - 1) / a * a) ∧ wrap64 (wrap64 ((V + a - 1) / a - 1) * a) < V ∧ wrap64 (V / a + 1) = V / a + 1 := by
  have e : V + a - 1 = (V - 1) + 1 * a := by omega
  have e1 : (V + a - 1) / a = (V - 1) / a + 1 := by rw [e, Int.add_mul_ediv_right _ _ (by omega)]
  rw [e1]
  have m1 : (V - 1) / a ≤ V / a := Int.ediv_le_ediv (by omega) (by omega)
  have a1 : 0 ≤ (V - 1) / a := Int.ediv_nonneg (by omega) (by omega)
  have a2 : V / a ≤ V := Int.ediv_le_self _ (by omega)
  have a3 := Int.mul_ediv_add_emod (V - 1) a
  have a4 := Int.emod_nonneg (V - 1) (show a ≠ 0 by omega)
  have a5 := Int.emod_lt_of_pos (V - 1) (show 0 < a by omega)
  have a6 : ((V - 1) / a + 1) * a = a * ((V - 1) / a) + a := by rw [Int.add_mul, Int.one_mul, Int.mul_comm]
  have a7 : wrap64 ((V - 1) / a + 1 - 1) = (V - 1) / a := by rw [wrap64_id (by omega) (by omega)]; omega
  have a8 : (V - 1) / a * a = a * ((V - 1) / a) := Int.mul_comm _ _
  rw [a6, a7, a8]
  generalize a * ((V - 1) / a) = x at *
  generalize (V - 1) / a = q at *
  generalize (V - 1) % a = r at *
  generalize V / a = s at *
  refine ⟨by omega, by omega, ?_, ?_, wrap64_id (by omega) (by omega)⟩
  · rw [wrap64_id (by omega) (by omega)]; omega
  · rw [wrap64_id (by omega) (by omega)]; omega


theorem j6_ev {x11 V w0 w1 c0 c1 s0 s1 : Int} (h : x11 = 0 → s0 = wrap64 (wrap64 (wrap64 (c0 * w0) * w0) - V) ∧ s1 = wrap64 (wrap64 (wrap64 (c1 * w1) * w1) - V)) : Ev (fun k => acmelaw12_MillBlanks.j6 k x11 V w0 w1 c0 c1 s0 s1) true := by
  refine Ev.succ (Ev.of fun k => ?_)
  simp only [acmelaw12_MillBlanks.j6]
  by_cases hx : x11 = 0
  · obtain ⟨h1, h2⟩ := h hx
    simp only [if_pos hx, acmelaw12_span.f, acmelaw12_known.f, Option.bind_some, ← h1, ← h2, beq_self_eq_true, Bool.and_self, if_true]
  · simp only [if_neg hx, acmelaw12_known.f, Option.bind_some]
theorem j5_bad {x9 x11 V w0 w1 c0 c1 b0 b1 s0 s1 : Int} (h9 : ¬ x9 = 0) (h : x11 = 0 → s0 = wrap64 (wrap64 (wrap64 (c0 * w0) * w0) - V) ∧ s1 = wrap64 (wrap64 (wrap64 (c1 * w1) * w1) - V)) : Ev (fun k => acmelaw12_MillBlanks.j5 k x9 x11 V false w0 w1 c0 c1 b0 b1 s0 s1) true := by
  refine Ev.succ ?_
  simp only [acmelaw12_MillBlanks.j5, if_neg h9, Bool.false_eq_true, if_false]
  exact j6_ev h
theorem j5_good {x11 V w0 w1 c0 c1 s0 s1 : Int} (hV0 : 1 ≤ V) (hV1 : V ≤ 1000000000000000000) (hw0 : 1 ≤ w0) (hw1 : w0 ≤ w1) (hw2 : w1 ≤ 100000) (h : x11 = 0 → s0 = wrap64 (wrap64 (wrap64 (c0 * w0) * w0) - V) ∧ s1 = wrap64 (wrap64 (wrap64 (c1 * w1) * w1) - V)) : Ev (fun k => acmelaw12_MillBlanks.j5 k 0 x11 V false w0 w1 c0 c1 (V / (w1 * w1)) ((V + w0 * w0 - 1) / (w0 * w0)) s0 s1) true := by
  have b0 := sq_bound hw0 (by omega)
  have b1 := sq_bound (w := w1) (by omega) hw2
  refine Ev.succ ?_
  have q0 : wrap64 (w0 * w0) = w0 * w0 := by generalize w0 * w0 = x at *; exact wrap64_id (by omega) (by omega)
  have q1 : wrap64 (w1 * w1) = w1 * w1 := by generalize w1 * w1 = x at *; exact wrap64_id (by omega) (by omega)
  obtain ⟨l1, l2, l3, l4⟩ := low_facts hV0 hV1 b1.1 b1.2
  obtain ⟨u1, u2, u3, u4, u5⟩ := high_facts hV0 hV1 b0.1 b0.2
  have t0 := tdiv_wrap (a := V) (b := w0 * w0) (by omega) (by omega) b0.1
  have t1 := tdiv_wrap (a := V) (b := w1 * w1) (by omega) (by omega) b1.1
  have n1 : ¬ V / (w1 * w1) < 0 := Int.not_lt.2 l1
  have n2 : ¬ w1 * w1 = 0 := by generalize w1 * w1 = x at *; omega
  have n3 : ¬ V / (w1 * w1) > V / (w1 * w1) := Int.lt_irrefl _
  have n4 : ¬ wrap64 ((V / (w1 * w1) + 1) * (w1 * w1)) ≤ V := Int.not_le.2 l4
  have n5 : ¬ (V + w0 * w0 - 1) / (w0 * w0) < 1 := Int.not_lt.2 u1
  have n6 : ¬ w0 * w0 = 0 := by generalize w0 * w0 = x at *; omega
  have n7 : ¬ (V + w0 * w0 - 1) / (w0 * w0) > V / (w0 * w0) + 1 := Int.not_lt.2 u2
  have n8 : ¬ wrap64 ((V + w0 * w0 - 1) / (w0 * w0) * (w0 * w0)) < V := Int.not_lt.2 u3
  have n9 : ¬ wrap64 (wrap64 ((V + w0 * w0 - 1) / (w0 * w0) - 1) * (w0 * w0)) ≥ V := Int.not_le.2 u4
  simp only [acmelaw12_MillBlanks.j5, Bool.false_eq_true, if_false, if_true, q0, q1, t0, t1, l3, u5, if_neg n1, if_neg n2, if_neg n3, if_neg n4, if_neg n5, if_neg n6, if_neg n7, if_neg n8, if_neg n9]
  exact j6_ev h
theorem j4_bad {e V w0 w1 c0 c1 : Int} (h : ¬ e = 0) : Ev (fun k => acmelaw12_MillBlanks.j4 k e e V e e w0 w1 c0 c1 0 0 0 0) true := by
  refine Ev.succ ?_
  simp only [acmelaw12_MillBlanks.j4, if_true, if_neg h, beq_self_eq_true, Bool.not_true, Bool.or_false, Bool.false_eq_true, if_false]
  exact j5_bad h (fun q => absurd q h)
theorem j3_bad {e V w0 w1 c0 c1 : Int} (h : ¬ e = 0) : Ev (fun k => acmelaw12_MillBlanks.j3 k e e V e e false w0 w1 c0 c1 0 0 0 0) true := by
  refine Ev.succ ?_
  simp only [acmelaw12_MillBlanks.j3, Bool.false_eq_true, if_false]
  exact j4_bad h
theorem j2_bad {e V w0 w1 c0 c1 : Int} (h : ¬ e = 0) : Ev (fun k => acmelaw12_MillBlanks.j2 k e e V e w0 w1 c0 c1 0 0 0 0) true := by
  refine Ev.succ ?_
  simp only [acmelaw12_MillBlanks.j2, if_neg h]
  exact j3_bad h
theorem j1_bad {e V w0 w1 c0 c1 : Int} (h : ¬ e = 0) : Ev (fun k => acmelaw12_MillBlanks.j1 k e e V e false w0 w1 c0 c1 0 0 0 0) true := by
  refine Ev.succ ?_
  simp only [acmelaw12_MillBlanks.j1, Bool.false_eq_true, if_false]
  exact j2_bad h
theorem j1_span {V w0 w1 c0 c1 : Int} : Ev (fun k => acmelaw12_MillBlanks.j1 k 3 3 V 0 true w0 w1 c0 c1 0 0 0 0) true := by
  refine Ev.succ ?_
  simp only [acmelaw12_MillBlanks.j1, if_true]
  exact j2_bad (by decide)
theorem j4_good {V w0 w1 c0 c1 s0 s1 : Int} (hV0 : 1 ≤ V) (hV1 : V ≤ 1000000000000000000) (hw0 : 1 ≤ w0) (hw1 : w0 ≤ w1) (hw2 : w1 ≤ 100000) (h0 : s0 = wrap64 (wrap64 (wrap64 (c0 * w0) * w0) - V)) (h1 : s1 = wrap64 (wrap64 (wrap64 (c1 * w1) * w1) - V)) : Ev (fun k => acmelaw12_MillBlanks.j4 k 0 0 V 0 0 w0 w1 c0 c1 (V / (w1 * w1)) ((V + w0 * w0 - 1) / (w0 * w0)) s0 s1) true := by
  refine Ev.succ ?_
  simp only [acmelaw12_MillBlanks.j4, if_true]
  exact j5_good hV0 hV1 hw0 hw1 hw2 (fun _ => ⟨h0, h1⟩)
theorem j4_cut {V w0 w1 c0 c1 : Int} (hV0 : 1 ≤ V) (hV1 : V ≤ 1000000000000000000) (hw0 : 1 ≤ w0) (hw1 : w0 ≤ w1) (hw2 : w1 ≤ 100000) : Ev (fun k => acmelaw12_MillBlanks.j4 k 0 3 V 0 3 w0 w1 c0 c1 (V / (w1 * w1)) ((V + w0 * w0 - 1) / (w0 * w0)) 0 0) true := by
  refine Ev.succ ?_
  have h3 : ¬ (3 : Int) = 0 := by decide
  simp only [acmelaw12_MillBlanks.j4, if_true, if_neg h3, beq_self_eq_true, Bool.not_true, Bool.or_false]
  exact j5_good hV0 hV1 hw0 hw1 hw2 (fun q => absurd q h3)
theorem tail_good {l : List S46} {w0 w1 c0 c1 : Int} (h : (volF l w0 w1).2 = 0) : Ev (fun k => acmelaw12_MillBlanks.j1 k (blankF l w0 w1).2.2 (spareF l w0 w1 c0 c1).2.2 (vol l) 0 false w0 w1 c0 c1 (blankF l w0 w1).1 (blankF l w0 w1).2.1 (spareF l w0 w1 c0 c1).1 (spareF l w0 w1 c0 c1).2.1) true := by
  obtain ⟨e1, e2, ⟨hw0, hw1, hw2⟩, hv1, hv2⟩ := volF_ok h
  refine Ev.succ ?_
  simp only [acmelaw12_MillBlanks.j1, Bool.false_eq_true, if_false]
  refine Ev.succ ?_
  simp only [acmelaw12_MillBlanks.j2, if_true, span_eq, Option.bind_some]
  unfold blankF spareF
  simp only [if_pos h]
  refine Ev.succ ?_
  by_cases hc : 1 ≤ c0 ∧ c0 ≤ c1 ∧ c1 ≤ 10000000
  · obtain ⟨a1, a2, a3, a4⟩ := cube_wrap (c := c0) (w := w0) hc.1 (by omega) hw0 (by omega)
    obtain ⟨b1, b2, b3, b4⟩ := cube_wrap (c := c1) (w := w1) (by omega) hc.2.2 (by omega) hw2
    simp only [acmelaw12_MillBlanks.j3, if_pos hc, decide_eq_true hc, Bool.not_true, Bool.false_eq_true, if_false]
    exact j4_good hv1 hv2 hw0 hw1 hw2 (by rw [a1, a2, sub_wrap a3 a4 hv1 hv2]) (by rw [b1, b2, sub_wrap b3 b4 hv1 hv2])
  · simp only [acmelaw12_MillBlanks.j3, if_neg hc, decide_eq_false hc, Bool.not_false, if_true]
    exact j4_cut hv1 hv2 hw0 hw1 hw2
theorem volF_bad {l : List S46} {w0 w1 : Int} (h : ¬ (volF l w0 w1).2 = 0) : ((volR l).2 = (volF l w0 w1).2) ∨ ((volR l).2 = 0 ∧ (volF l w0 w1).2 = 3 ∧ ¬ (1 ≤ w0 ∧ w0 ≤ w1 ∧ w1 ≤ 100000)) := by
  unfold volF volEnd at h ⊢
  unfold volR
  by_cases h1 : 10 < l.length
  · simp [h1]
  · simp only [if_neg h1] at h ⊢
    by_cases h2 : ∀ p ∈ l, okP p
    · simp only [if_pos h2] at h ⊢
      by_cases h3 : l = []
      · simp [h3]
      · simp only [if_neg h3] at h ⊢
        by_cases h4 : 1 ≤ w0 ∧ w0 ≤ w1 ∧ w1 ≤ 100000
        · simp [if_pos h4] at h
        · simp only [if_neg h4]; exact .inr ⟨by trivial, by trivial, h4⟩
    · simp only [if_neg h2]; exact .inl (by trivial)
theorem tail_ev (l : List S46) (w0 w1 c0 c1 : Int) : Ev (fun k => (acmeref12_Volume.f k l).bind fun bt290 => (if bt290.2 = 0 then ((acmeref12_Span.f w0 w1 1 100000).bind fun t292 => (acmelaw12_MillBlanks.j1 k (blankF l w0 w1).2.2 (spareF l w0 w1 c0 c1).2.2 bt290.1 bt290.2 (!t292) w0 w1 c0 c1 (blankF l w0 w1).1 (blankF l w0 w1).2.1 (spareF l w0 w1 c0 c1).1 (spareF l w0 w1 c0 c1).2.1)) else (acmelaw12_MillBlanks.j1 k (blankF l w0 w1).2.2 (spareF l w0 w1 c0 c1).2.2 bt290.1 bt290.2 false w0 w1 c0 c1 (blankF l w0 w1).1 (blankF l w0 w1).2.1 (spareF l w0 w1 c0 c1).1 (spareF l w0 w1 c0 c1).2.1))) true := by
  refine Ev.bind (Volume_ev l) ?_
  by_cases h : (volF l w0 w1).2 = 0
  · obtain ⟨e1, e2, hw, hv1, hv2⟩ := volF_ok h
    simp only [e2, if_true, span_eq, Option.bind_some, decide_eq_true hw, Bool.not_true]
    exact tail_good h
  · have hb : blankF l w0 w1 = (0, 0, (volF l w0 w1).2) := by unfold blankF; rw [if_neg h]
    have hs : spareF l w0 w1 c0 c1 = (0, 0, (volF l w0 w1).2) := by unfold spareF; rw [if_neg h]
    rw [hb, hs]
    rcases volF_bad h with q | ⟨q1, q2, q3⟩
    · have h' : ¬ (volR l).2 = 0 := by rw [q]; exact h
      simp only [if_neg h']
      rw [q]
      exact j1_bad h
    · simp only [q1, if_true, span_eq, Option.bind_some, decide_eq_false q3, Bool.not_false]
      rw [q2]
      exact j1_span
end Go.Proofs.Ytiaiecfnpompcaa.T
namespace Go.Proofs.Ytiaiecfnpompcaa.T
open Go.RowKit Go.Proofs.YtiaiecfnpompcaaW.PrintWords
set_option linter.unusedVariables false
set_option linter.unusedSimpArgs false
theorem loop_ev (l : List S46) (hlen : l.length ≤ 15) (w0 w1 c0 c1 : Int) : ∀ (n i : Nat), n = l.length - i → i ≤ l.length → Ev (fun k => acmelaw12_MillBlanks.l0 k l l (blankF l w0 w1).2.2 (spareF l w0 w1 c0 c1).2.2 i w0 w1 c0 c1 (blankF l w0 w1).1 (blankF l w0 w1).2.1 (spareF l w0 w1 c0 c1).1 (spareF l w0 w1 c0 c1).2.1) true := by
  intro n
  induction n with
  | zero =>
    intro i hn hi
    refine Ev.succ ?_
    have q : ¬ (i : Int) < (l.length : Int) := by omega
    simp only [acmelaw12_MillBlanks.l0, if_neg q]
    exact tail_ev l w0 w1 c0 c1
  | succ n ih =>
    intro i hn hi
    have n1 : n = l.length - (i + 1) := by omega
    have n2 : i + 1 ≤ l.length := by omega
    have q : (i : Int) < (l.length : Int) := by omega
    have q0 : (0 : Int) ≤ (i : Int) := by omega
    have e : wrap64 ((i : Int) + 1) = ((i + 1 : Nat) : Int) := by rw [wrap64_id (by omega) (by omega)]; rfl
    refine Ev.succ ?_
    simp only [acmelaw12_MillBlanks.l0, if_pos q, if_pos q0, beq_self_eq_true, Bool.not_true, Bool.or_false, Bool.false_eq_true, if_false, e]
    exact ih (i + 1) n1 n2
theorem blanks_ev (l : List S46) (w0 w1 c0 c1 : Int) : Ev (fun k => acmelaw12_MillBlanks.f k l w0 w1 c0 c1) true := by
  unfold acmelaw12_MillBlanks.f
  by_cases h : (l.length : Int) > 15
  · simp only [if_pos h, acmelaw12_known.f, Option.bind_some]; exact Ev.pure _
  · have h2 : ([] : List S46).length + l.length < 8796093022208 := by simp; omega
    simp only [if_neg h, Option.bind_some, if_pos h2, List.nil_append]
    refine Ev.bind (blank_ev l w0 w1) ?_
    refine Ev.bind (spare_ev l w0 w1 c0 c1) ?_
    exact loop_ev l (by omega) w0 w1 c0 c1 l.length 0 (by simp) (by omega)
end Go.Proofs.Ytiaiecfnpompcaa.T
namespace Go.Proofs.Ytiaiecfnpompcaa.T
open Go.RowKit Go.Proofs.YtiaiecfnpompcaaW.PrintWords Go.Proofs.YtiaiecfnpompcaaW.PrintLast
set_option linter.unusedVariables false
theorem pure_MillBlanks (l0 : List S46) (a1_0 : Int) (a1_1 : Int) (a2_0 : Int) (a2_1 : Int) (w0 : ∀ x ∈ l0, wf46 x) (w1_0 : (Lit.int .i64 a1_0).wf = true) (w1_1 : (Lit.int .i64 a1_1).wf = true) (w2_0 : (Lit.int .i64 a2_0).wf = true) (w2_1 : (Lit.int .i64 a2_1).wf = true) : ∃ k, acmelaw12_MillBlanks.f k l0 a1_0 a1_1 a2_0 a2_1 = some true := by
  exact (blanks_ev l0 a1_0 a1_1 a2_0 a2_1).ex
end Go.Proofs.Ytiaiecfnpompcaa.T
namespace Go.Proofs.Ytiaiecfnpompcaa.millBlanks
open Go.ChangeShapes Go.WideShapes Go.ChangeAt Go.RowKit Go.Proofs.Ytiaiecfnpompcaa.T
open Go.ChangeMaps (open_string shut_string)
set_option linter.unusedVariables false
theorem own : ownKnob Try.prog.godebug = none := by kernel_rfl
theorem laidOut : laidOutB Try.prog = true := by kernel_rfl
set_option maxRecDepth 100000 in
theorem lifted (os : Os) (started : os.Started) (H : Type) (enc : TypeId × Value → H) :
    ReturnsInHanded {} Try.checked os 4 .any (Rows.millBlanksSpec.pre6 enc Try.prog Try.f4 Rows.millBlanksRow.domain false) (Rows.millBlanksSpec.post enc Try.prog Try.f4 false true false false) := by
  refine returnsInHanded_of_change_sized (C := Try.checked) own started (by kernel_rfl) Try.func4
    (ChangeSpec.witness6 (enc := enc) (C := Try.checked) false ⟨#[], #[.slice none 0 0, .agg #[.int .i64 0, .int .i64 0], .agg #[.int .i64 0, .int .i64 0]], []⟩ 8 (by kernel_rfl) (by kernel_rfl) (by kernel_rfl) (by kernel_rfl)) ?_
  intro W base args ds gs before hval0 hW hcnd hsz0 _
  have hval : ∀ (j : Nat) t v, Try.f4.params[j]? = some t → args[j]? = some v → Value.okWide Try.prog W .any base t v := hval0
  have hW' := hW
  obtain ⟨p, q, hA0, hV, rfl, hfz, hnd⟩ := hW
  have hA : DataW.TrodAll enc Try.prog W 0 (fun _ => true) true Try.f4.params.toList args.toList ds p := hA0
  rw [Try.params4] at hA hval
  obtain ⟨v0, vs0, d0, ds0, p0, q0, hargs, rfl, rfl, h0, r0⟩ := trodAll_cons hA
  obtain ⟨v1, vs1, d1, ds1, p1, q1, rfl, rfl, rfl, h1, r1⟩ := trodAll_cons r0
  obtain ⟨v2, vs2, d2, ds2, p2, q2, rfl, rfl, rfl, h2, r2⟩ := trodAll_cons r1
  obtain ⟨rfl, rfl, rfl⟩ := trodAll_nil r2
  obtain rfl : args = #[v0, v1, v2] := by cases args; simp_all
  obtain ⟨rfl, rfl⟩ := trodVars_none hV
  have k0 := h0
  have lt0 : ∀ x ∈ p0, x.block < W.heap.size := by obtain ⟨m, hm⟩ := k0; exact DataW.trod_lt m _ _ _ hm
  obtain ⟨A0, len0, cap0, rfl⟩ := okWide_slice Try.underlying39 (hval 0 39 v0 rfl rfl)
  obtain ⟨l0, rfl, C0, c0, w0⟩ := openS39 h0
  have k1 := h1
  have lt1 : ∀ x ∈ p1, x.block < W.heap.size := by obtain ⟨m, hm⟩ := k1; exact DataW.trod_lt m _ _ _ hm
  obtain ⟨fuel1, hf1⟩ := h1
  obtain ⟨a1_0, a1_1, e1, w1_0, w1_1⟩ := open41 hf1
  obtain rfl : v1 = .agg #[.int .i64 a1_0, .int .i64 a1_1] := agg_of_cells e1 (by simp)
  have k2 := h2
  have lt2 : ∀ x ∈ p2, x.block < W.heap.size := by obtain ⟨m, hm⟩ := k2; exact DataW.trod_lt m _ _ _ hm
  obtain ⟨fuel2, hf2⟩ := h2
  obtain ⟨a2_0, a2_1, e2, w2_0, w2_1⟩ := open41 hf2
  obtain rfl : v2 = .agg #[.int .i64 a2_0, .int .i64 a2_1] := agg_of_cells e2 (by simp)
  clear hA0 hval0 hsz0
  obtain ⟨k, hk⟩ := pure_MillBlanks l0 a1_0 a1_1 a2_0 a2_1 w0 w1_0 w1_1 w2_0 w2_1
  refine (acmelaw12_MillBlanks.calls k A0 cap0 l0 a1_0 a1_1 a2_0 a2_1 true W C0 c0 hk).mono fun e W' ⟨he, bel⟩ => ?_
  subst he
  exact ⟨_, rfl, _, _, _, [], _, [], hW', trodAll_mk1 (shut_bool Try.underlying4 _), (trodAll_cons_mk (Below.trod laidOut (by kernel_rfl) (of_decide_eq_true (by kernel_rfl)) k0 bel lt0) (trodAll_cons_mk (Below.trod laidOut (by kernel_rfl) (of_decide_eq_true (by kernel_rfl)) k1 bel lt1) (trodAll_cons_mk (Below.trod laidOut (by kernel_rfl) (of_decide_eq_true (by kernel_rfl)) k2 bel lt2) trodAll_mk0))), rfl, bel.frame _, fun h => by cases h⟩
theorem over : Rows.millBlanksRow.holds Try.pinned (OpenSpec.ofChange Rows.millBlanksSpec) :=
  OpenClaim.holds_of_wide 4 Try.f4 rfl rfl rfl rfl rfl rfl rfl ⟨rfl, rfl, rfl, rfl, rfl⟩ rfl rfl rfl rfl rfl (by kernel_rfl) Try.func4 (by kernel_rfl)
    (of_decide_eq_true (by kernel_rfl)) (by unfold Func.isWrapper; first | (rw [if_pos (by decide +kernel)]; kernel_rfl) | (rw [if_neg (by decide +kernel)]; exact ⟨rfl, rfl⟩))
    (fun os started H enc _ => lifted os started H enc)
theorem proved : Rows.MillBlanksSaid := over
end Go.Proofs.Ytiaiecfnpompcaa.millBlanks
namespace Go.Proofs.Ytiaiecfnpompcaa
theorem millBlanks_holds : Rows.MillBlanksSaid := millBlanks.proved
end Go.Proofs.Ytiaiecfnpompcaa
