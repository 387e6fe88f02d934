-- cut down, squeezed and laid together by pack.py (a program of this repository) out of this seat's texts
import Derived.ChangeKeysEq
import Derived.Laws.StructEq
import Derived.WalkKit
import Derived.MapKept
import Derived.RangeFuncNested
import Derived.RangeFuncBound
import Derived.RangeFuncCalls
import Derived.RangeFuncLeaves
import Derived.Shelf.Abstract
import Derived.Shelf.RegionOpen
import Derived.OwnWalkIn
import Derived.TacticsInMore
import Derived.LoopNIn
import Derived.LoopIn
import Derived.Shelf.SlSortCmp.InsertionK
import Derived.ProofKit
import Derived.OpenShut
import Derived.ShutString
import Derived.ChangeOld
import Derived.Below
import Derived.SizedLaws
import Derived.Carry
import Derived.Test.YtiaiecfnpompcaaRows
import Derived.Test.YtiaiecfnpompcaaZV8
import Derived.Test.YtiaiecfnpompcaaZV4
import Derived.Test.YtiaiecfnpompcaaZV7
import Derived.Test.YtiaiecfnpompcaaZV6
import Derived.Test.YtiaiecfnpompcaaZV2
import Derived.Test.YtiaiecfnpompcaaZV3
import Derived.Test.YtiaiecfnpompcaaZV5
import Derived.Test.YtiaiecfnpompcaaZV1
import Derived.Test.YtiaiecfnpompcaaZV11
import Derived.Test.YtiaiecfnpompcaaZV12
import Derived.Test.YtiaiecfnpompcaaZV13
import Derived.Test.YtiaiecfnpompcaaZV10
import Derived.Test.YtiaiecfnpompcaaZV14
import Derived.Test.YtiaiecfnpompcaaZV9
import Derived.Test.YtiaiecfnpompcaaZV15
namespace Go.Proofs.Ytiaiecfnpompcaa.T
open Go.RowKit Go.Proofs.YtiaiecfnpompcaaW.PrintWords
set_option linter.unusedVariables false
set_option linter.unusedSimpArgs false
def Ev {α : Type} (F : Nat → Option α) (v : α) : Prop := ∃ k0, ∀ k, k0 ≤ k → F k = some v
theorem Ev.of {α : Type} {F : Nat → Option α} {v : α} (h : ∀ k, F k = some v) : Ev F v := ⟨0, fun k _ => h k⟩
theorem Ev.pure {α : Type} (v : α) : Ev (fun _ => some v) v := ⟨0, fun _ _ => rfl⟩
theorem Ev.bind {α β : Type} {F : Nat → Option α} {G : Nat → α → Option β} {v : α} {u : β} (h : Ev F v) (h2 : Ev (fun k => G k v) u) : Ev (fun k => (F k).bind (G k)) u := by
  obtain ⟨a, ha⟩ := h
  obtain ⟨b, hb⟩ := h2
  exact ⟨max a b, fun k hk => by show (F k).bind (G k) = _; rw [ha k (by omega)]; exact hb k (by omega)⟩
theorem Ev.succ {α : Type} {F : Nat → Option α} {v : α} (h : Ev (fun k => F (k + 1)) v) : Ev F v := by
  obtain ⟨a, ha⟩ := h
  exact ⟨a + 1, fun k hk => by obtain ⟨j, rfl⟩ : ∃ j, k = j + 1 := ⟨k - 1, by omega⟩; exact ha j (by omega)⟩
theorem Ev.ite {α : Type} {p : Prop} [Decidable p] {F G : Nat → Option α} {v : α} (h1 : p → Ev F v) (h2 : ¬ p → Ev G v) : Ev (fun k => if p then F k else G k) v := by
  by_cases h : p
  · simpa [h] using h1 h
  · simpa [h] using h2 h
theorem Ev.ex {α : Type} {F : Nat → Option α} {v : α} (h : Ev F v) : ∃ k, F k = some v := by obtain ⟨a, ha⟩ := h; exact ⟨a, ha a (Nat.le_refl _)⟩
theorem wrap64_id {x : Int} (h0 : -9223372036854775808 ≤ x) (h1 : x ≤ 9223372036854775807) : wrap64 x = x := by unfold wrap64; omega

theorem within_one (a b x : Int) : mill_within.f a b [x] = some (decide (a ≤ x ∧ x ≤ b)) := by
  unfold mill_within.f
  congr 1
  simp only [List.any_cons, List.any_nil, Bool.or_false, outside]
  by_cases h1 : x < a
  · have : ¬ (a ≤ x ∧ x ≤ b) := by omega
    simp [h1, this]
  · by_cases h2 : b < x
    · have : ¬ (a ≤ x ∧ x ≤ b) := by omega
      simp [h2, this]
    · have : a ≤ x ∧ x ≤ b := by omega
      simp [h1, h2, this]
theorem within_two (a b x y : Int) : mill_within.f a b [x, y] = some (decide ((a ≤ x ∧ x ≤ b) ∧ a ≤ y ∧ y ≤ b)) := by
  have h1 := within_one a b x
  have h2 := within_one a b y
  unfold mill_within.f at *
  simp only [Option.some.injEq, List.any_cons, List.any_nil, Bool.or_false] at *
  rw [Bool.not_or, h1, h2]
  by_cases g1 : a ≤ x ∧ x ≤ b <;> by_cases g2 : a ≤ y ∧ y ≤ b <;> simp [g1, g2]
theorem isSpan_eq (lo hi a b : Int) : mill_isSpan.f lo hi a b = some (decide (a ≤ lo ∧ lo ≤ hi ∧ hi ≤ b)) := by
  unfold mill_isSpan.f
  rw [within_two]
  simp only [Option.bind_some, decide_eq_true_eq]
  split
  · congr 1; rw [decide_eq_decide]; omega
  · congr 1
    symm
    rw [decide_eq_false_iff_not]; omega
def okP (p : S46) : Prop := (1 ≤ p.f0 ∧ p.f0 ≤ 100000) ∧ 1 ≤ p.f1 ∧ p.f1 ≤ 10000000
instance (p : S46) : Decidable (okP p) := by unfold okP; infer_instance
def vol : List S46 → Int
  | [] => 0
  | p :: l => p.f0 * p.f0 * p.f1 + vol l
theorem vol_append (l : List S46) (p : S46) : vol (l ++ [p]) = vol l + p.f0 * p.f0 * p.f1 := by
  induction l with
  | nil => simp [vol]
  | cons q l ih => simp only [List.cons_append, vol, ih]; omega
theorem part_le {p : S46} (h : okP p) : 1 ≤ p.f0 * p.f0 * p.f1 ∧ p.f0 * p.f0 * p.f1 ≤ 100000000000000000 ∧ 1 ≤ p.f0 * p.f0 ∧ p.f0 * p.f0 ≤ 10000000000 := by
  obtain ⟨⟨h1, h2⟩, h3, h4⟩ := h
  have a1 : 1 * 1 ≤ p.f0 * p.f0 := Int.mul_le_mul h1 h1 (by omega) (by omega)
  have a2 : p.f0 * p.f0 ≤ 100000 * 100000 := Int.mul_le_mul h2 h2 (by omega) (by omega)
  have a3 : 1 * 1 ≤ p.f0 * p.f0 * p.f1 := Int.mul_le_mul (by omega) h3 (by omega) (by omega)
  have a4 : p.f0 * p.f0 * p.f1 ≤ 10000000000 * 10000000 := Int.mul_le_mul (by omega) h4 (by omega) (by omega)
  omega
theorem sq_wrap {p : S46} (h : okP p) : wrap64 (p.f0 * p.f0) = p.f0 * p.f0 := by
  have := part_le h
  generalize p.f0 * p.f0 = x at *
  exact wrap64_id (by omega) (by omega)
theorem cu_wrap {p : S46} (h : okP p) : wrap64 (p.f0 * p.f0 * p.f1) = p.f0 * p.f0 * p.f1 := by
  have := part_le h
  generalize p.f0 * p.f0 * p.f1 = x at *
  exact wrap64_id (by omega) (by omega)
theorem vol_le : ∀ (l : List S46), (∀ p ∈ l, okP p) → 0 ≤ vol l ∧ vol l ≤ l.length * 100000000000000000 ∧ l.length ≤ vol l
  | [], _ => by simp [vol]
  | p :: l, h => by
    have h1 := part_le (h p (by simp))
    have h2 := vol_le l (fun q hq => h q (by simp [hq]))
    simp only [vol, List.length_cons]
    omega
theorem step_bound {V X : Int} {i : Nat} (h1 : 0 ≤ V) (h2 : V ≤ i * 100000000000000000) (h3 : i < 10) (h4 : 1 ≤ X) (h5 : X ≤ 100000000000000000) : wrap64 (V + X) = V + X := wrap64_id (by omega) (by omega)
theorem i_bound {i : Nat} (h : i < 10) : wrap64 ((i : Int) + 1) = ((i + 1 : Nat) : Int) := by rw [wrap64_id (by omega) (by omega)]; rfl
theorem rd_T46_get {l : List S46} {i : Nat} (h : i < l.length) : rd_T46 l i = l[i] := by simp [rd_T46, h]

def volEnd (l : List S46) (w0 w1 : Int) : Int × Int :=
  if ∀ p ∈ l, okP p then if l = [] then (0, 2) else if 1 ≤ w0 ∧ w0 ≤ w1 ∧ w1 ≤ 100000 then (vol l, 0) else (0, 3) else (0, 2)
theorem volume_loop (l : List S46) (hlen : l.length ≤ 10) (w0 w1 : Int) : ∀ (n i : Nat), n = l.length - i → i ≤ l.length → (∀ p ∈ l.take i, okP p) → Ev (fun k => mill_volume.l0 k l (vol (l.take i)) l l.length i w0 w1) (volEnd l w0 w1) := by
  intro n
  induction n with
  | zero =>
    intro i hn hi hok
    have : i = l.length := by omega
    subst this
    rw [List.take_length] at hok
    refine Ev.succ (Ev.of fun k => ?_)
    simp only [mill_volume.l0, List.take_length]
    rw [if_neg (by omega)]
    unfold volEnd
    rw [if_pos hok]
    by_cases he : l = []
    · subst he; simp
    · have : ¬ ((l.length : Int) = 0) := by have := List.length_pos_iff.2 he; omega
      rw [if_neg this, if_neg he, isSpan_eq]
      simp only [Option.bind_some, decide_eq_true_eq]
      split <;> rfl
  | succ n ih =>
    intro i hn hi hok
    have hlt : i < l.length := by omega
    have n1 : n = l.length - (i + 1) := by omega
    have n2 : i + 1 ≤ l.length := by omega
    have hok' : ∀ (h : okP l[i]), ∀ p ∈ l.take (i + 1), okP p := by
      intro h p hp
      rw [List.take_succ_eq_append_getElem hlt, List.mem_append, List.mem_singleton] at hp
      rcases hp with hp | rfl
      · exact hok p hp
      · exact h
    have hnot : ¬ okP l[i] → volEnd l w0 w1 = (0, 2) := by
      intro h
      unfold volEnd
      rw [if_neg (fun q => h (q _ (List.getElem_mem hlt)))]
    refine Ev.succ ?_
    simp only [mill_volume.l0]
    have q1 : (i : Int) < (l.length : Int) := by omega
    have q2 : (0 : Int) ≤ (i : Int) := by omega
    simp only [if_pos q1, if_pos q2, rd_T46_get hlt, within_one, Option.bind_some, decide_eq_true_eq]
    by_cases h1 : 1 ≤ (l[i]).f0 ∧ (l[i]).f0 ≤ 100000
    · simp only [if_pos h1]
      by_cases h2 : 1 ≤ (l[i]).f1 ∧ (l[i]).f1 ≤ 10000000
      · simp only [if_pos h2]
        have hp := part_le ⟨h1, h2⟩
        have hv := vol_le (l.take i) hok
        have hl : (l.take i).length = i := by simp; omega
        rw [hl] at hv
        have e1 := sq_wrap ⟨h1, h2⟩
        have e2 := cu_wrap ⟨h1, h2⟩
        have e3 : wrap64 (vol (l.take i) + (l[i]).f0 * (l[i]).f0 * (l[i]).f1) = vol (l.take (i + 1)) := by
          rw [step_bound hv.1 hv.2.1 (Nat.lt_of_lt_of_le hlt hlen) hp.1 hp.2.1, List.take_succ_eq_append_getElem hlt, vol_append]
        have e4 : wrap64 ((i : Int) + 1) = ((i + 1 : Nat) : Int) := i_bound (Nat.lt_of_lt_of_le hlt hlen)
        simp only [e1, e2, e3, e4]
        exact ih (i + 1) n1 n2 (hok' ⟨h1, h2⟩)
      · simp only [if_neg h2]
        rw [hnot (fun q => h2 q.2)]
        exact Ev.pure _
    · simp only [if_neg h1]
      rw [hnot (fun q => h1 q.1)]
      exact Ev.pure _
def volF (l : List S46) (w0 w1 : Int) : Int × Int := if 10 < l.length then (0, 5) else volEnd l w0 w1
theorem volume_ev (l : List S46) (w0 w1 : Int) : Ev (fun k => mill_volume.f k l w0 w1) (volF l w0 w1) := by
  unfold mill_volume.f volF
  by_cases h : 10 < l.length
  · have h' : (l.length : Int) > 10 := by omega
    simp only [if_pos h, if_pos h']; exact Ev.pure _
  · have h' : ¬ (l.length : Int) > 10 := by omega
    simp only [if_neg h, if_neg h']
    have := volume_loop l (by omega) w0 w1 l.length 0 (by simp) (by omega) (by simp)
    simpa [vol] using this

def volR (l : List S46) : Int × Int := if 10 < l.length then (0, 5) else if ∀ p ∈ l, okP p then if l = [] then (0, 2) else (vol l, 0) else (0, 2)
end Go.Proofs.Ytiaiecfnpompcaa.T
namespace Go.Proofs.Ytiaiecfnpompcaa.T
open Go.RowKit Go.Proofs.YtiaiecfnpompcaaW.PrintWords
set_option linter.unusedVariables false
set_option linter.unusedSimpArgs false
theorem volF_ok {l : List S46} {w0 w1 : Int} (h : (volF l w0 w1).2 = 0) : (volF l w0 w1).1 = vol l ∧ volR l = (vol l, 0) ∧ (1 ≤ w0 ∧ w0 ≤ w1 ∧ w1 ≤ 100000) ∧ 1 ≤ vol l ∧ vol l ≤ 1000000000000000000 := by
  unfold volF volEnd at h ⊢
  unfold volR
  by_cases h1 : 10 < l.length
  · simp [h1] at h
  · simp only [if_neg h1] at h ⊢
    by_cases h2 : ∀ p ∈ l, okP p
    · simp only [if_pos h2] at h ⊢
      by_cases h3 : l = []
      · simp [h3] at h
      · simp only [if_neg h3] at h ⊢
        by_cases h4 : 1 ≤ w0 ∧ w0 ≤ w1 ∧ w1 ≤ 100000
        · simp only [if_pos h4] at h ⊢
          have h5 := vol_le l h2
          have h6 := List.length_pos_iff.2 h3
          refine ⟨trivial, trivial, h4, ?_⟩
          generalize vol l = V at h5 ⊢
          generalize l.length = n at *
          omega
        · simp [if_neg h4] at h
    · simp only [if_neg h2] at h
      simp at h
theorem sq_bound {w : Int} (h0 : 1 ≤ w) (h1 : w ≤ 100000) : 1 ≤ w * w ∧ w * w ≤ 10000000000 := by
  have a1 : 1 * 1 ≤ w * w := Int.mul_le_mul h0 h0 (by omega) (by omega)
  have a2 : w * w ≤ 100000 * 100000 := Int.mul_le_mul h1 h1 (by omega) (by omega)
  omega
theorem tdiv_wrap {a b : Int} (h0 : 0 ≤ a) (h1 : a ≤ 9223372036854775807) (h2 : 1 ≤ b) : wrap64 (Int.tdiv a b) = a / b := by
  rw [Int.tdiv_eq_ediv_of_nonneg h0]
  have h3 : 0 ≤ a / b := Int.ediv_nonneg h0 (by omega)
  have h4 : a / b ≤ a := Int.ediv_le_self _ h0
  generalize a / b = q at *
  exact wrap64_id (by omega) (by omega)
def blankF (l : List S46) (w0 w1 : Int) : Int × Int × Int :=
  if (volF l w0 w1).2 = 0 then (vol l / (w1 * w1), (vol l + w0 * w0 - 1) / (w0 * w0), 0) else (0, 0, (volF l w0 w1).2)
theorem blank_ev (l : List S46) (w0 w1 : Int) : Ev (fun k => mill_Blank.f k l w0 w1) (blankF l w0 w1) := by
  unfold mill_Blank.f blankF
  refine Ev.bind (volume_ev l w0 w1) ?_
  by_cases h : (volF l w0 w1).2 = 0
  · obtain ⟨e1, _, ⟨hw0, hw1, hw2⟩, hv1, hv2⟩ := volF_ok h
    simp only [if_pos h, e1]
    have b0 := sq_bound hw0 (by omega)
    have b1 := sq_bound (w := w1) (by omega) hw2
    generalize vol l = V at *
    generalize w0 * w0 = a at *
    generalize w1 * w1 = b at *
    have q0 : wrap64 a = a := wrap64_id (by omega) (by omega)
    have q1 : wrap64 b = b := wrap64_id (by omega) (by omega)
    have q2 : wrap64 (V + a) = V + a := wrap64_id (by omega) (by omega)
    have q3 : wrap64 (V + a - 1) = V + a - 1 := wrap64_id (by omega) (by omega)
    have n0 : ¬ a = 0 := by omega
    have n1 : ¬ b = 0 := by omega
    simp only [q0, q1, q2, q3, if_neg n0, if_neg n1]
    rw [tdiv_wrap (by omega) (by omega) (by omega), tdiv_wrap (by omega) (by omega) (by omega)]
    exact Ev.pure _
  · simp only [if_neg h]
    exact Ev.pure _
theorem cube_bound {c w : Int} (h0 : 1 ≤ c) (h1 : c ≤ 10000000) (h2 : 1 ≤ w) (h3 : w ≤ 100000) : (1 ≤ c * w ∧ c * w ≤ 1000000000000) ∧ 1 ≤ c * w * w ∧ c * w * w ≤ 100000000000000000 := by
  have a1 : 1 * 1 ≤ c * w := Int.mul_le_mul h0 h2 (by omega) (by omega)
  have a2 : c * w ≤ 10000000 * 100000 := Int.mul_le_mul h1 h3 (by omega) (by omega)
  have a3 : 1 * 1 ≤ c * w * w := Int.mul_le_mul (by omega) h2 (by omega) (by omega)
  have a4 : c * w * w ≤ 1000000000000 * 100000 := Int.mul_le_mul (by omega) h3 (by omega) (by omega)
  generalize c * w = x at *
  generalize x * w = y at *
  omega
theorem cube_wrap {c w : Int} (h0 : 1 ≤ c) (h1 : c ≤ 10000000) (h2 : 1 ≤ w) (h3 : w ≤ 100000) : wrap64 (c * w) = c * w ∧ wrap64 (c * w * w) = c * w * w ∧ 1 ≤ c * w * w ∧ c * w * w ≤ 100000000000000000 := by
  have h := cube_bound h0 h1 h2 h3
  generalize c * w * w = y at *
  generalize c * w = x at *
  exact ⟨wrap64_id (by omega) (by omega), wrap64_id (by omega) (by omega), by omega, by omega⟩
theorem sub_wrap {X V : Int} (h0 : 1 ≤ X) (h1 : X ≤ 100000000000000000) (h2 : 1 ≤ V) (h3 : V ≤ 1000000000000000000) : wrap64 (X - V) = X - V := wrap64_id (by omega) (by omega)
def spareF (l : List S46) (w0 w1 c0 c1 : Int) : Int × Int × Int :=
  if (volF l w0 w1).2 = 0 then if 1 ≤ c0 ∧ c0 ≤ c1 ∧ c1 ≤ 10000000 then (c0 * w0 * w0 - vol l, c1 * w1 * w1 - vol l, 0) else (0, 0, 3) else (0, 0, (volF l w0 w1).2)
theorem spare_ev (l : List S46) (w0 w1 c0 c1 : Int) : Ev (fun k => mill_Spare.f k l w0 w1 c0 c1) (spareF l w0 w1 c0 c1) := by
  unfold mill_Spare.f spareF
  refine Ev.bind (volume_ev l w0 w1) ?_
  by_cases h : (volF l w0 w1).2 = 0
  · obtain ⟨e1, _, ⟨hw0, hw1, hw2⟩, hv1, hv2⟩ := volF_ok h
    simp only [if_pos h, e1, isSpan_eq, Option.bind_some, decide_eq_true_eq]
    by_cases hc : 1 ≤ c0 ∧ c0 ≤ c1 ∧ c1 ≤ 10000000
    · simp only [if_pos hc]
      obtain ⟨a1, a2, a3, a4⟩ := cube_wrap (c := c0) (w := w0) hc.1 (by omega) hw0 (by omega)
      obtain ⟨b1, b2, b3, b4⟩ := cube_wrap (c := c1) (w := w1) (by omega) hc.2.2 (by omega) hw2
      simp only [a1, a2, b1, b2, sub_wrap a3 a4 hv1 hv2, sub_wrap b3 b4 hv1 hv2]
      exact Ev.pure _
    · simp only [if_neg hc]
      exact Ev.pure _
  · simp only [if_neg h]
    exact Ev.pure _
end Go.Proofs.Ytiaiecfnpompcaa.T
namespace Go.Proofs.Ytiaiecfnpompcaa.T
open Go.RowKit Go.Proofs.YtiaiecfnpompcaaW.PrintWords
set_option linter.unusedVariables false
set_option linter.unusedSimpArgs false
theorem wfU16 {x : Int} (h : (Lit.int .u16 x).wf = true) : 0 ≤ x ∧ x ≤ 65535 := by
  simp [Lit.wf, IntKind.min, IntKind.max, IntKind.signed, IntKind.bits] at h; omega
theorem wfU8 {x : Int} (h : (Lit.int .u8 x).wf = true) : 0 ≤ x ∧ x ≤ 255 := by
  simp [Lit.wf, IntKind.min, IntKind.max, IntKind.signed, IntKind.bits] at h; omega
def okS (p : S46) : Prop := (1 ≤ p.f0 ∧ p.f0 ≤ 500) ∧ 1 ≤ p.f1 ∧ p.f1 ≤ 65536
theorem okS_okP {p : S46} (h : okS p) : okP p := by unfold okS okP at *; omega
theorem partS_le {p : S46} (h : okS p) : 1 ≤ p.f0 * p.f0 * p.f1 ∧ p.f0 * p.f0 * p.f1 ≤ 16384000000 := by
  obtain ⟨⟨h1, h2⟩, h3, h4⟩ := h
  have a1 : 1 * 1 ≤ p.f0 * p.f0 := Int.mul_le_mul h1 h1 (by omega) (by omega)
  have a2 : p.f0 * p.f0 ≤ 500 * 500 := Int.mul_le_mul h2 h2 (by omega) (by omega)
  have a3 : 1 * 1 ≤ p.f0 * p.f0 * p.f1 := Int.mul_le_mul (by omega) h3 (by omega) (by omega)
  have a4 : p.f0 * p.f0 * p.f1 ≤ 250000 * 65536 := Int.mul_le_mul (by omega) h4 (by omega) (by omega)
  omega
theorem volS_le : ∀ (l : List S46), (∀ p ∈ l, okS p) → 0 ≤ vol l ∧ vol l ≤ l.length * 16384000000 ∧ l.length ≤ vol l
  | [], _ => by simp [vol]
  | p :: l, h => by
    have h1 := partS_le (h p (by simp))
    have h2 := volS_le l (fun q hq => h q (by simp [hq]))
    simp only [vol, List.length_cons]
    omega
theorem tmod_between {a m : Int} (h0 : 0 ≤ a) (h1 : 1 ≤ m) : 0 ≤ Int.tmod a m ∧ Int.tmod a m ≤ m - 1 := by
  have a1 := Int.tmod_nonneg m h0
  have a2 := Int.tmod_lt_of_pos a (show 0 < m by omega)
  omega
theorem pick {a lo hi : Int} (ha : 0 ≤ a) (ha1 : a ≤ 65535) (h0 : 0 ≤ lo) (h1 : lo ≤ hi) (h2 : hi ≤ 100000000) :
    ¬ wrap64 (wrap64 (hi - lo) + 1) = 0 ∧ lo ≤ wrap64 (lo + Int.tmod (wrap64 a) (wrap64 (wrap64 (hi - lo) + 1))) ∧ wrap64 (lo + Int.tmod (wrap64 a) (wrap64 (wrap64 (hi - lo) + 1))) ≤ hi := by
  have e1 : wrap64 (hi - lo) = hi - lo := wrap64_id (by omega) (by omega)
  have e2 : wrap64 (hi - lo + 1) = hi - lo + 1 := wrap64_id (by omega) (by omega)
  have e3 : wrap64 a = a := wrap64_id (by omega) (by omega)
  rw [e1, e2, e3]
  have t := tmod_between (a := a) ha (show 1 ≤ hi - lo + 1 by omega)
  rw [wrap64_id (by omega) (by omega)]
  omega
theorem sqS {w : Int} (h0 : 20 ≤ w) (h1 : w ≤ 294) : 400 ≤ w * w ∧ w * w ≤ 86436 := by
  have a1 : 20 * 20 ≤ w * w := Int.mul_le_mul h0 h0 (by omega) (by omega)
  have a2 : w * w ≤ 294 * 294 := Int.mul_le_mul h1 h1 (by omega) (by omega)
  omega
theorem sq_mono {a b : Int} (h0 : 0 ≤ a) (h1 : a ≤ b) : a * a ≤ b * b := Int.mul_le_mul h1 h1 h0 (by omega)
theorem volumes_facts {V a b d : Int} (hV0 : 1 ≤ V) (hV1 : V ≤ 98304000000) (ha : 400 ≤ a) (had : a ≤ d) (hdb : d ≤ b) (hb : b ≤ 86436) :
    0 ≤ V / b ∧ 1 ≤ (V + a - 1) / a ∧ V / b ≤ (V + a - 1) / a ∧ (V + a - 1) / a ≤ 98304000000 ∧ V ≤ a * ((V + a - 1) / a) ∧ a * ((V + a - 1) / a) ≤ V + a ∧
    V ≤ d * ((V + a - 1) / a) ∧ d * ((V + a - 1) / a) ≤ 9000000000000000 ∧ (V / b > 0 → d * (V / b - 1) < V) ∧ 0 ≤ d * (V / b - 1) + 86436 ∧ d * (V / b - 1) ≤ 98304000000 := by
  have e : V + a - 1 = (V - 1) + 1 * a := by omega
  have e1 : (V + a - 1) / a = (V - 1) / a + 1 := by rw [e, Int.add_mul_ediv_right _ _ (by omega)]
  rw [e1]
  have c1 := Int.mul_ediv_add_emod (V - 1) a
  have c2 := Int.emod_nonneg (V - 1) (show a ≠ 0 by omega)
  have c3 := Int.emod_lt_of_pos (V - 1) (show 0 < a by omega)
  have c4 : 0 ≤ (V - 1) / a := Int.ediv_nonneg (by omega) (by omega)
  have c5 : (V - 1) / a ≤ V - 1 := Int.ediv_le_self _ (by omega)
  have g1 := Int.mul_ediv_add_emod V b
  have g2 := Int.emod_nonneg V (show b ≠ 0 by omega)
  have g3 := Int.emod_lt_of_pos V (show 0 < b by omega)
  have g4 : 0 ≤ V / b := Int.ediv_nonneg (by omega) (by omega)
  have g5 : V / b ≤ V := Int.ediv_le_self _ (by omega)
  generalize (V - 1) / a = q at *
  generalize V / b = p at *
  generalize (V - 1) % a = r at *
  generalize V % b = s at *
  have k1 : a * (q + 1) = a * q + a := by rw [Int.mul_add, Int.mul_one]
  have k2 : a * (q + 1) ≤ d * (q + 1) := Int.mul_le_mul had (Int.le_refl _) (by omega) (by omega)
  have k3 : d * (q + 1) ≤ 86436 * 98304000000 := Int.mul_le_mul (by omega) (by omega) (by omega) (by omega)
  have k4 : d * (p - 1) = d * p - d := by rw [Int.mul_sub, Int.mul_one]
  have k5 : d * p ≤ b * p := Int.mul_le_mul hdb (Int.le_refl _) g4 (by omega)
  have k6 : 0 ≤ d * p := Int.mul_nonneg (by omega) g4
  have k7 : p ≤ q + 1 := by
    rcases Int.lt_or_le (q + 1) p with h | h
    · have m1 : a * (q + 2) ≤ b * p := Int.mul_le_mul (by omega) (by omega) (by omega) (by omega)
      have m2 : a * (q + 2) = a * q + 2 * a := by rw [Int.mul_add]; omega
      omega
    · exact h
  generalize a * (q + 1) = x1 at *
  generalize d * (q + 1) = x2 at *
  generalize d * (p - 1) = x3 at *
  generalize a * q = x4 at *
  generalize b * p = x5 at *
  generalize d * p = x6 at *
  refine ⟨g4, by omega, k7, by omega, by omega, by omega, by omega, by omega, fun h => by omega, by omega, by omega⟩
theorem spare_facts {c w V : Int} (h0 : 1 ≤ c) (h1 : c ≤ 10000000) (h2 : 20 ≤ w) (h3 : w ≤ 294) (h4 : 1 ≤ V) (h5 : V ≤ 98304000000) :
    wrap64 (wrap64 (wrap64 (c * w) * w) - V) = c * w * w - V ∧ c * w * w = c * (w * w) := by
  obtain ⟨a1, a2, a3, a4⟩ := cube_wrap (c := c) (w := w) h0 h1 (by omega) (by omega)
  rw [a1, a2, sub_wrap a3 a4 h4 (by omega)]
  exact ⟨rfl, Int.mul_assoc _ _ _⟩
end Go.Proofs.Ytiaiecfnpompcaa.T
namespace Go.Proofs.Ytiaiecfnpompcaa.T
open Go.RowKit Go.Proofs.YtiaiecfnpompcaaW.PrintWords
set_option linter.unusedVariables false
set_option linter.unusedSimpArgs false
theorem volF_S {l : List S46} {w0 w1 : Int} (h1 : 1 ≤ l.length) (h2 : l.length ≤ 6) (hok : ∀ p ∈ l, okS p) (hw : 20 ≤ w0 ∧ w0 ≤ w1 ∧ w1 ≤ 294) : volF l w0 w1 = (vol l, 0) := by
  unfold volF volEnd
  have e : ¬ l = [] := by intro q; subst q; simp at h1
  rw [if_neg (by omega), if_pos (fun p hp => okS_okP (hok p hp)), if_neg e, if_pos (by omega)]
theorem vj5 {l : List S46} {w0 w1 d c0 c1 a20 a21 a22 : Int} (h1 : 1 ≤ l.length) (h2 : l.length ≤ 6) (hok : ∀ p ∈ l, okS p) (hw : 20 ≤ w0 ∧ w0 ≤ w1 ∧ w1 ≤ 294) (hd0 : w0 ≤ d) (hd1 : d ≤ w1)
    (hc0 : 1 ≤ c0) (hc1 : c0 ≤ c1) (hc2 : c1 ≤ 20000000) (ha : 0 ≤ a22 ∧ a22 ≤ 65535) :
    Ev (fun k => acmelaw12_MillVolumes.j5 k l (vol l) d a20 a21 a22 w0 w1 (vol l / (w1 * w1)) ((vol l + w0 * w0 - 1) / (w0 * w0)) c0 c1) true := by
  have hvl := volS_le l hok
  have hV0 : 1 ≤ vol l := by omega
  have hV1 : vol l ≤ 98304000000 := by omega
  refine Ev.succ ?_
  simp only [acmelaw12_MillVolumes.j5]
  refine Ev.ite (fun _ => ?_) (fun hc => ?_)
  · simp only [acmelaw12_known.f, Option.bind_some]; exact Ev.pure _
  · have h3 : ([] : List S46).length + l.length < 8796093022208 := by simp; omega
    simp only [Option.bind_some, if_pos h3, List.nil_append]
    refine Ev.bind (spare_ev l w0 w1 c0 c1) ?_
    have hs : spareF l w0 w1 c0 c1 = (c0 * w0 * w0 - vol l, c1 * w1 * w1 - vol l, 0) := by
      unfold spareF
      rw [volF_S h1 h2 hok hw, if_pos rfl, if_pos (by omega)]
    obtain ⟨n1, n2, n3⟩ := pick (a := a22) (lo := c0) (hi := c1) ha.1 ha.2 (by omega) hc1 (by omega)
    rw [hs]
    simp only [if_neg n1, if_true]
    generalize wrap64 (c0 + Int.tmod (wrap64 a22) (wrap64 (wrap64 (c1 - c0) + 1))) = n at *
    obtain ⟨f1, g1⟩ := spare_facts (c := c0) (w := w0) hc0 (by omega) hw.1 (by omega) hV0 hV1
    obtain ⟨f2, g2⟩ := spare_facts (c := c1) (w := w1) (by omega) (by omega) (by omega) hw.2.2 hV0 hV1
    obtain ⟨f3, g3⟩ := spare_facts (c := n) (w := d) (by omega) (by omega) (by omega) (by omega) hV0 hV1
    have s0 := sqS (w := w0) hw.1 (by omega)
    have s1 := sqS (w := w1) (by omega) hw.2.2
    have q0 := sq_mono (a := w0) (b := d) (by omega) hd0
    have q1 := sq_mono (a := d) (b := w1) (by omega) hd1
    obtain ⟨v1, v2, v3, v4, v5, v6, v7, v8, v9, v10, v11⟩ := volumes_facts (V := vol l) (a := w0 * w0) (b := w1 * w1) (d := d * d) hV0 hV1 s0.1 q0 q1 s1.2
    have m1 : c0 * (w0 * w0) ≤ n * (d * d) := Int.mul_le_mul n2 q0 (by omega) (by omega)
    have m2 : n * (d * d) ≤ c1 * (w1 * w1) := Int.mul_le_mul n3 q1 (by omega) (by omega)
    have m3 : c0 ≥ (vol l + w0 * w0 - 1) / (w0 * w0) → vol l ≤ c0 * (w0 * w0) := by
      intro h
      have := Int.mul_le_mul (Int.le_refl (w0 * w0)) h (by omega) (by omega)
      rw [Int.mul_comm c0]; omega
    simp only [f1, f2, f3]
    rw [g1, g2, g3]
    generalize (vol l + w0 * w0 - 1) / (w0 * w0) = H at *
    generalize vol l / (w1 * w1) = L at *
    generalize n * (d * d) = x1 at *
    generalize c0 * (w0 * w0) = x2 at *
    generalize c1 * (w1 * w1) = x3 at *
    generalize vol l = V at *
    have t1 : ¬ x1 - V < x2 - V := by omega
    have t2 : ¬ x1 - V > x3 - V := by omega
    simp only [if_neg t1, if_neg t2, acmelaw12_known.f, Option.bind_some]
    refine Ev.ite (fun h => ?_) (fun _ => Ev.pure _)
    have t3 : ¬ x2 - V < 0 := by have := m3 h; omega
    simp only [if_neg t3]
    exact Ev.pure _
theorem vj3 {l : List S46} {w0 w1 d a20 a21 a22 : Int} (h1 : 1 ≤ l.length) (h2 : l.length ≤ 6) (hok : ∀ p ∈ l, okS p) (hw : 20 ≤ w0 ∧ w0 ≤ w1 ∧ w1 ≤ 294) (hd0 : w0 ≤ d) (hd1 : d ≤ w1)
    (hH : 1 ≤ (vol l + w0 * w0 - 1) / (w0 * w0)) (ha0 : 0 ≤ a20 ∧ a20 ≤ 65535) (ha1 : 0 ≤ a21 ∧ a21 ≤ 65535) (ha : 0 ≤ a22 ∧ a22 ≤ 65535) :
    Ev (fun k => acmelaw12_MillVolumes.j3 k l (vol l) d false a20 a21 a22 w0 w1 (vol l / (w1 * w1)) ((vol l + w0 * w0 - 1) / (w0 * w0))) true := by
  refine Ev.succ ?_
  have e0 : wrap64 a20 = a20 := wrap64_id (by omega) (by omega)
  have e1 : wrap64 a21 = a21 := wrap64_id (by omega) (by omega)
  have e2 : wrap64 (1 + a20) = 1 + a20 := wrap64_id (by omega) (by omega)
  have e3 : wrap64 (1 + a20 + a21) = 1 + a20 + a21 := wrap64_id (by omega) (by omega)
  simp only [acmelaw12_MillVolumes.j3, Bool.false_eq_true, if_false, acmelaw12_span.f, Option.bind_some, e0, e1, e2, e3]
  have far := @vj5 l w0 w1 d (1 + a20) (1 + a20 + a21) a20 a21 a22 h1 h2 hok hw hd0 hd1 (by omega) (by omega) (by omega) ha
  refine Ev.ite (fun _ => Ev.succ ?_) (fun _ => Ev.succ ?_)
  · simp only [acmelaw12_MillVolumes.j4, acmelaw12_span.f, Option.bind_some, decide_eq_true_eq, e1]
    refine Ev.ite (fun hle => ?_) (fun _ => far)
    have e4 : wrap64 ((vol l + w0 * w0 - 1) / (w0 * w0) + a21) = (vol l + w0 * w0 - 1) / (w0 * w0) + a21 := by
      generalize (vol l + w0 * w0 - 1) / (w0 * w0) = H at *
      exact wrap64_id (by omega) (by omega)
    rw [e4]
    exact @vj5 l w0 w1 d _ _ a20 a21 a22 h1 h2 hok hw hd0 hd1 hH (by omega) (by omega) ha
  · simp only [acmelaw12_MillVolumes.j4, Bool.false_eq_true, if_false]
    exact far
theorem vj1 {x0 : List S106} {l : List S46} {i a10 a11 a12 a20 a21 a22 : Int} (h1 : 1 ≤ l.length) (h2 : l.length ≤ 6) (hok : ∀ p ∈ l, okS p) (hb0 : 0 ≤ a10 ∧ a10 ≤ 255) (hb1 : 0 ≤ a11 ∧ a11 ≤ 255) (hb2 : 0 ≤ a12 ∧ a12 ≤ 255)
    (ha0 : 0 ≤ a20 ∧ a20 ≤ 65535) (ha1 : 0 ≤ a21 ∧ a21 ≤ 65535) (ha : 0 ≤ a22 ∧ a22 ≤ 65535) :
    Ev (fun k => acmelaw12_MillVolumes.j1 k x0 l (vol l) i false a10 a11 a12 a20 a21 a22) true := by
  have hvl := volS_le l hok
  have hV0 : 1 ≤ vol l := by omega
  have hV1 : vol l ≤ 98304000000 := by omega
  have e0 : wrap64 a10 = a10 := wrap64_id (by omega) (by omega)
  have e1 : wrap64 a11 = a11 := wrap64_id (by omega) (by omega)
  have e2 : wrap64 (20 + a10) = 20 + a10 := wrap64_id (by omega) (by omega)
  have tm := tmod_between (a := a11) (m := 20) hb1.1 (by omega)
  have e3 : wrap64 (20 + a10 + Int.tmod a11 20) = 20 + a10 + Int.tmod a11 20 := wrap64_id (by omega) (by omega)
  refine Ev.succ ?_
  have h3 : ([] : List S46).length + l.length < 8796093022208 := by simp; omega
  simp only [acmelaw12_MillVolumes.j1, Bool.false_eq_true, if_false, acmelaw12_span.f, Option.bind_some, e0, e1, e2, e3, if_pos h3, List.nil_append]
  generalize hw0 : 20 + a10 = w0 at *
  generalize hw1 : w0 + Int.tmod a11 20 = w1 at *
  have hw : 20 ≤ w0 ∧ w0 ≤ w1 ∧ w1 ≤ 294 := by omega
  refine Ev.bind (blank_ev l w0 w1) ?_
  have hbl : blankF l w0 w1 = (vol l / (w1 * w1), (vol l + w0 * w0 - 1) / (w0 * w0), 0) := by
    unfold blankF
    rw [volF_S h1 h2 hok hw, if_pos rfl]
  rw [hbl]
  have s0 := sqS (w := w0) hw.1 (by omega)
  have s1 := sqS (w := w1) (by omega) hw.2.2
  obtain ⟨n1, n2, n3⟩ := pick (a := a12) (lo := w0) (hi := w1) hb2.1 (by omega) (by omega) hw.2.1 (by omega)
  have q0 := sq_mono (a := w0) (b := wrap64 (w0 + Int.tmod (wrap64 a12) (wrap64 (wrap64 (w1 - w0) + 1)))) (by omega) n2
  have q1 := sq_mono (a := wrap64 (w0 + Int.tmod (wrap64 a12) (wrap64 (wrap64 (w1 - w0) + 1)))) (b := w1) (by omega) n3
  obtain ⟨v1, v2, v3, v4, v5, v6, v7, v8, v9, v10, v11⟩ := volumes_facts hV0 hV1 s0.1 q0 q1 s1.2
  have t1 : ¬ vol l / (w1 * w1) < 0 := by omega
  have t2 : decide (vol l / (w1 * w1) > (vol l + w0 * w0 - 1) / (w0 * w0)) = false := decide_eq_false (by omega)
  simp only [if_true, if_neg t1, t2]
  refine Ev.succ ?_
  simp only [acmelaw12_MillVolumes.j2, Bool.false_eq_true, if_false, if_neg n1]
  have last := @vj3 l w0 w1 (wrap64 (w0 + Int.tmod (wrap64 a12) (wrap64 (wrap64 (w1 - w0) + 1)))) a20 a21 a22 h1 h2 hok hw n2 n3 v2 ha0 ha1 ha
  generalize wrap64 (w0 + Int.tmod (wrap64 a12) (wrap64 (wrap64 (w1 - w0) + 1))) = d at *
  have k1 : wrap64 (d * d) = d * d := by
    generalize d * d = x at *
    generalize w0 * w0 = x1 at *
    generalize w1 * w1 = x2 at *
    exact wrap64_id (by omega) (by omega)
  have k2 : wrap64 (vol l / (w1 * w1) - 1) = vol l / (w1 * w1) - 1 := by
    generalize vol l / (w1 * w1) = x at *
    generalize (vol l + w0 * w0 - 1) / (w0 * w0) = y at *
    exact wrap64_id (by omega) (by omega)
  rw [k1, k2]
  have k3 : wrap64 (d * d * ((vol l + w0 * w0 - 1) / (w0 * w0))) = d * d * ((vol l + w0 * w0 - 1) / (w0 * w0)) := by
    generalize d * d * ((vol l + w0 * w0 - 1) / (w0 * w0)) = x at *
    generalize vol l = V at *
    exact wrap64_id (by omega) (by omega)
  have k4 : wrap64 (d * d * (vol l / (w1 * w1) - 1)) = d * d * (vol l / (w1 * w1) - 1) := by
    generalize d * d * (vol l / (w1 * w1) - 1) = x at *
    exact wrap64_id (by omega) (by omega)
  rw [k3, k4]
  have t3 : ¬ (vol l + w0 * w0 - 1) / (w0 * w0) > 1099511627776 := Int.not_lt.2 (Int.le_trans v4 (by decide))
  have t4 : ¬ d * d * ((vol l + w0 * w0 - 1) / (w0 * w0)) < vol l := Int.not_lt.2 v7
  simp only [if_neg t3, if_neg t4]
  refine Ev.ite (fun h => ?_) (fun _ => last)
  have t5 : decide (d * d * (vol l / (w1 * w1) - 1) ≥ vol l) = false := decide_eq_false (Int.not_le.2 (v9 h))
  rw [t5]
  exact last
theorem part_wrap {x y : Int} (h0 : 0 ≤ x) (h1 : x ≤ 65535) (h2 : 0 ≤ y) (h3 : y ≤ 65535) : okS ⟨wrap64 (1 + Int.tmod (wrap64 x) 500), wrap64 (1 + wrap64 y)⟩ := by
  have e0 : wrap64 x = x := wrap64_id (by omega) (by omega)
  have e1 : wrap64 y = y := wrap64_id (by omega) (by omega)
  have tm := tmod_between (a := x) (m := 500) h0 (by omega)
  rw [e0, e1, wrap64_id (x := 1 + Int.tmod x 500) (by omega) (by omega), wrap64_id (x := 1 + y) (by omega) (by omega)]
  unfold okS
  exact ⟨⟨by show 1 ≤ 1 + Int.tmod x 500; omega, by show 1 + Int.tmod x 500 ≤ 500; omega⟩, by show 1 ≤ 1 + y; omega, by show 1 + y ≤ 65536; omega⟩
theorem sum_wrap {l : List S46} {p : S46} {n : Nat} (hl : l.length = n) (hn : n ≤ 6) (hok : ∀ p ∈ l, okS p) (hp : okS p) : wrap64 (vol l + wrap64 (wrap64 (p.f0 * p.f0) * p.f1)) = vol (l ++ [p]) := by
  rw [sq_wrap (okS_okP hp), cu_wrap (okS_okP hp), vol_append]
  have h1 := volS_le l hok
  have h2 := partS_le hp
  generalize p.f0 * p.f0 * p.f1 = x at *
  generalize vol l = V at *
  exact wrap64_id (by omega) (by omega)
theorem rd106_get {l : List S106} {i : Nat} (h : i < l.length) : rd_T106 l i = l[i] := by simp [rd_T106, h]
theorem vl0 {x0 : List S106} {a10 a11 a12 a20 a21 a22 : Int} (hx : ∀ p ∈ x0, (0 ≤ p.f0 ∧ p.f0 ≤ 65535) ∧ 0 ≤ p.f1 ∧ p.f1 ≤ 65535) (hb0 : 0 ≤ a10 ∧ a10 ≤ 255) (hb1 : 0 ≤ a11 ∧ a11 ≤ 255) (hb2 : 0 ≤ a12 ∧ a12 ≤ 255)
    (ha0 : 0 ≤ a20 ∧ a20 ≤ 65535) (ha1 : 0 ≤ a21 ∧ a21 ≤ 65535) (ha : 0 ≤ a22 ∧ a22 ≤ 65535) : ∀ (n : Nat) (l : List S46), n + l.length = 6 → (∀ p ∈ l, okS p) →
    Ev (fun k => acmelaw12_MillVolumes.l0 k x0 l (vol l) (l.length : Int) a10 a11 a12 a20 a21 a22) true := by
  have app : ∀ {l : List S46} {p : S46}, (∀ p ∈ l, okS p) → okS p → ∀ q ∈ l ++ [p], okS q := by
    intro l p h1 h2 q hq
    rcases List.mem_append.1 hq with h | h
    · exact h1 q h
    · rw [List.mem_singleton] at h; subst h; exact h2
  intro n
  induction n with
  | zero =>
    intro l hl hok
    refine Ev.succ ?_
    have z : ¬ (l.length : Int) = 0 := by omega
    have z6 : ¬ (l.length : Int) < 6 := by omega
    simp only [acmelaw12_MillVolumes.l0, if_neg z, decide_eq_false z6]
    have go := @vj1 x0 l (l.length : Int) a10 a11 a12 a20 a21 a22 (by omega) (by omega) hok hb0 hb1 hb2 ha0 ha1 ha
    exact Ev.ite (fun _ => go) (fun _ => go)
  | succ n ih =>
    intro l hl hok
    have ei : wrap64 ((l.length : Int) + 1) = ((l.length + 1 : Nat) : Int) := by rw [wrap64_id (by omega) (by omega)]; rfl
    have hcap : l.length < 8796093022208 := by omega
    -- a round that adds a part
    have round : Ev (fun k => acmelaw12_MillVolumes.j1 k x0 l (vol l) (l.length : Int) true a10 a11 a12 a20 a21 a22) true := by
      refine Ev.succ ?_
      simp only [acmelaw12_MillVolumes.j1, if_true]
      refine Ev.ite (fun hlt => ?_) (fun _ => ?_)
      · have hlt' : l.length < x0.length := by omega
        have h0 : (0 : Int) ≤ (l.length : Int) := by omega
        have hm := hx _ (List.getElem_mem hlt')
        simp only [if_pos h0, if_pos hcap, rd106_get hlt', ei]
        have hp := part_wrap hm.1.1 hm.1.2 hm.2.1 hm.2.2
        have hs := sum_wrap (n := l.length) rfl (by omega) hok hp
        simp only at hs
        rw [hs]
        have := ih (l ++ [⟨wrap64 (1 + Int.tmod (wrap64 (x0[l.length]).f0) 500), wrap64 (1 + wrap64 (x0[l.length]).f1)⟩]) (by simp; omega) (app hok hp)
        simpa using this
      · simp only [if_pos hcap, ei]
        have hp : okS ⟨30, 100⟩ := by unfold okS; simp
        have hs := sum_wrap (p := ⟨30, 100⟩) (n := l.length) rfl (by omega) hok hp
        have c9 : wrap64 (wrap64 (30 * 30) * 100) = 90000 := by unfold wrap64; omega
        simp only [c9] at hs
        rw [hs]
        have := ih (l ++ [⟨30, 100⟩]) (by simp; omega) (app hok hp)
        simpa using this
    refine Ev.succ ?_
    simp only [acmelaw12_MillVolumes.l0]
    refine Ev.ite (fun _ => round) (fun h0 => ?_)
    have go := @vj1 x0 l (l.length : Int) a10 a11 a12 a20 a21 a22 (by omega) (by omega) hok hb0 hb1 hb2 ha0 ha1 ha
    refine Ev.ite (fun _ => ?_) (fun _ => go)
    have z6 : (l.length : Int) < 6 := by omega
    rw [decide_eq_true z6]
    exact round
end Go.Proofs.Ytiaiecfnpompcaa.T
namespace Go.Proofs.Ytiaiecfnpompcaa.T
open Go.RowKit Go.Proofs.YtiaiecfnpompcaaW.PrintWords Go.Proofs.YtiaiecfnpompcaaW.PrintLast
set_option linter.unusedVariables false
theorem pure_MillVolumes (l0 : List S106) (a1_0 : Int) (a1_1 : Int) (a1_2 : Int) (a2_0 : Int) (a2_1 : Int) (a2_2 : Int) (w0 : ∀ x ∈ l0, wf106 x) (w1_0 : (Lit.int .u8 a1_0).wf = true) (w1_1 : (Lit.int .u8 a1_1).wf = true) (w1_2 : (Lit.int .u8 a1_2).wf = true) (w2_0 : (Lit.int .u16 a2_0).wf = true) (w2_1 : (Lit.int .u16 a2_1).wf = true) (w2_2 : (Lit.int .u16 a2_2).wf = true) : ∃ k, acmelaw12_MillVolumes.f k l0 a1_0 a1_1 a1_2 a2_0 a2_1 a2_2 = some true := by
  have hx : ∀ p ∈ l0, (0 ≤ p.f0 ∧ p.f0 ≤ 65535) ∧ 0 ≤ p.f1 ∧ p.f1 ≤ 65535 := fun p hp => ⟨wfU16 (w0 p hp).1, wfU16 (w0 p hp).2⟩
  have h := vl0 hx (wfU8 w1_0) (wfU8 w1_1) (wfU8 w1_2) (wfU16 w2_0) (wfU16 w2_1) (wfU16 w2_2) 6 [] (by simp) (by simp)
  simp only [vol, List.length_nil] at h
  exact h.ex
end Go.Proofs.Ytiaiecfnpompcaa.T
namespace Go.Proofs.Ytiaiecfnpompcaa.millVolumes
open Go.ChangeShapes Go.WideShapes Go.ChangeAt Go.RowKit Go.Proofs.Ytiaiecfnpompcaa.T
open Go.ChangeMaps (open_string shut_string)
set_option linter.unusedVariables false
theorem own : ownKnob Try.prog.godebug = none := by kernel_rfl
theorem laidOut : laidOutB Try.prog = true := by kernel_rfl
set_option maxRecDepth 100000 in
theorem lifted (os : Os) (started : os.Started) (H : Type) (enc : TypeId × Value → H) :
    ReturnsInHanded {} Try.checked os 10 .any (Rows.millVolumesSpec.pre6 enc Try.prog Try.f10 Rows.millVolumesRow.domain false) (Rows.millVolumesSpec.post enc Try.prog Try.f10 false true false false) := by
  refine returnsInHanded_of_change_sized (C := Try.checked) own started (by kernel_rfl) Try.func10
    (ChangeSpec.witness6 (enc := enc) (C := Try.checked) false ⟨#[], #[.slice none 0 0, .agg #[.int .u8 0, .int .u8 0, .int .u8 0], .agg #[.int .u16 0, .int .u16 0, .int .u16 0]], []⟩ 8 (by kernel_rfl) (by kernel_rfl) (by kernel_rfl) (by kernel_rfl)) ?_
  intro W base args ds gs before hval0 hW hcnd hsz0 _
  have hval : ∀ (j : Nat) t v, Try.f10.params[j]? = some t → args[j]? = some v → Value.okWide Try.prog W .any base t v := hval0
  have hW' := hW
  obtain ⟨p, q, hA0, hV, rfl, hfz, hnd⟩ := hW
  have hA : DataW.TrodAll enc Try.prog W 0 (fun _ => true) true Try.f10.params.toList args.toList ds p := hA0
  rw [Try.params10] at hA hval
  obtain ⟨v0, vs0, d0, ds0, p0, q0, hargs, rfl, rfl, h0, r0⟩ := trodAll_cons hA
  obtain ⟨v1, vs1, d1, ds1, p1, q1, rfl, rfl, rfl, h1, r1⟩ := trodAll_cons r0
  obtain ⟨v2, vs2, d2, ds2, p2, q2, rfl, rfl, rfl, h2, r2⟩ := trodAll_cons r1
  obtain ⟨rfl, rfl, rfl⟩ := trodAll_nil r2
  obtain rfl : args = #[v0, v1, v2] := by cases args; simp_all
  obtain ⟨rfl, rfl⟩ := trodVars_none hV
  have k0 := h0
  have lt0 : ∀ x ∈ p0, x.block < W.heap.size := by obtain ⟨m, hm⟩ := k0; exact DataW.trod_lt m _ _ _ hm
  obtain ⟨A0, len0, cap0, rfl⟩ := okWide_slice Try.underlying104 (hval 0 104 v0 rfl rfl)
  obtain ⟨l0, rfl, C0, c0, w0⟩ := openS104 h0
  have k1 := h1
  have lt1 : ∀ x ∈ p1, x.block < W.heap.size := by obtain ⟨m, hm⟩ := k1; exact DataW.trod_lt m _ _ _ hm
  obtain ⟨fuel1, hf1⟩ := h1
  obtain ⟨a1_0, a1_1, a1_2, e1, w1_0, w1_1, w1_2⟩ := open94 hf1
  obtain rfl : v1 = .agg #[.int .u8 a1_0, .int .u8 a1_1, .int .u8 a1_2] := agg_of_cells e1 (by simp)
  have k2 := h2
  have lt2 : ∀ x ∈ p2, x.block < W.heap.size := by obtain ⟨m, hm⟩ := k2; exact DataW.trod_lt m _ _ _ hm
  obtain ⟨fuel2, hf2⟩ := h2
  obtain ⟨a2_0, a2_1, a2_2, e2, w2_0, w2_1, w2_2⟩ := open105 hf2
  obtain rfl : v2 = .agg #[.int .u16 a2_0, .int .u16 a2_1, .int .u16 a2_2] := agg_of_cells e2 (by simp)
  clear hA0 hval0 hsz0
  obtain ⟨k, hk⟩ := pure_MillVolumes l0 a1_0 a1_1 a1_2 a2_0 a2_1 a2_2 w0 w1_0 w1_1 w1_2 w2_0 w2_1 w2_2
  refine (acmelaw12_MillVolumes.calls k A0 cap0 l0 a1_0 a1_1 a1_2 a2_0 a2_1 a2_2 true W C0 c0 hk).mono fun e W' ⟨he, bel⟩ => ?_
  subst he
  exact ⟨_, rfl, _, _, _, [], _, [], hW', trodAll_mk1 (shut_bool Try.underlying4 _), (trodAll_cons_mk (Below.trod laidOut (by kernel_rfl) (of_decide_eq_true (by kernel_rfl)) k0 bel lt0) (trodAll_cons_mk (Below.trod laidOut (by kernel_rfl) (of_decide_eq_true (by kernel_rfl)) k1 bel lt1) (trodAll_cons_mk (Below.trod laidOut (by kernel_rfl) (of_decide_eq_true (by kernel_rfl)) k2 bel lt2) trodAll_mk0))), rfl, bel.frame _, fun h => by cases h⟩
theorem over : Rows.millVolumesRow.holds Try.pinned (OpenSpec.ofChange Rows.millVolumesSpec) :=
  OpenClaim.holds_of_wide 10 Try.f10 rfl rfl rfl rfl rfl rfl rfl ⟨rfl, rfl, rfl, rfl, rfl⟩ rfl rfl rfl rfl rfl (by kernel_rfl) Try.func10 (by kernel_rfl)
    (of_decide_eq_true (by kernel_rfl)) (by unfold Func.isWrapper; first | (rw [if_pos (by decide +kernel)]; kernel_rfl) | (rw [if_neg (by decide +kernel)]; exact ⟨rfl, rfl⟩))
    (fun os started H enc _ => lifted os started H enc)
theorem proved : Rows.MillVolumesSaid := over
end Go.Proofs.Ytiaiecfnpompcaa.millVolumes
namespace Go.Proofs.Ytiaiecfnpompcaa
theorem millVolumes_holds : Rows.MillVolumesSaid := millVolumes.proved
end Go.Proofs.Ytiaiecfnpompcaa
