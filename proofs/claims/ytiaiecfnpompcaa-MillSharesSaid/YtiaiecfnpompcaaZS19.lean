-- cut down, squeezed and laid together by pack.py (a program of this repository) out of this seat's texts
import Derived.ChangeKeysEq
import Derived.Laws.StructEq
import Derived.WalkKit
import Derived.MapKept
import Derived.RangeFuncNested
import Derived.RangeFuncBound
import Derived.RangeFuncCalls
import Derived.RangeFuncLeaves
import Derived.Shelf.Abstract
import Derived.Shelf.RegionOpen
import Derived.OwnWalkIn
import Derived.TacticsInMore
import Derived.LoopNIn
import Derived.LoopIn
import Derived.Shelf.SlSortCmp.InsertionK
import Derived.ProofKit
import Derived.OpenShut
import Derived.ShutString
import Derived.ChangeOld
import Derived.Below
import Derived.SizedLaws
import Derived.Carry
import Derived.Test.YtiaiecfnpompcaaRows
import Derived.Test.YtiaiecfnpompcaaZS17
import Derived.Test.YtiaiecfnpompcaaZS2
import Derived.Test.YtiaiecfnpompcaaZS9
import Derived.Test.YtiaiecfnpompcaaZS3
import Derived.Test.YtiaiecfnpompcaaZS4
import Derived.Test.YtiaiecfnpompcaaZS8
import Derived.Test.YtiaiecfnpompcaaZS5
import Derived.Test.YtiaiecfnpompcaaZS6
import Derived.Test.YtiaiecfnpompcaaZS7
import Derived.Test.YtiaiecfnpompcaaZS1
import Derived.Test.YtiaiecfnpompcaaZS14
import Derived.Test.YtiaiecfnpompcaaZS15
import Derived.Test.YtiaiecfnpompcaaZS16
import Derived.Test.YtiaiecfnpompcaaZS11
import Derived.Test.YtiaiecfnpompcaaZS12
import Derived.Test.YtiaiecfnpompcaaZS13
import Derived.Test.YtiaiecfnpompcaaZS10
import Derived.Test.YtiaiecfnpompcaaZS18
namespace Go.Proofs.Ytiaiecfnpompcaa.T
open Go.RowKit Go.Proofs.YtiaiecfnpompcaaW.PrintWords
set_option linter.unusedVariables false
set_option linter.unusedSimpArgs false
def Ev {α : Type} (F : Nat → Option α) (v : α) : Prop := ∃ k0, ∀ k, k0 ≤ k → F k = some v
theorem Ev.of {α : Type} {F : Nat → Option α} {v : α} (h : ∀ k, F k = some v) : Ev F v := ⟨0, fun k _ => h k⟩
theorem Ev.pure {α : Type} (v : α) : Ev (fun _ => some v) v := ⟨0, fun _ _ => rfl⟩
theorem Ev.bind {α β : Type} {F : Nat → Option α} {G : Nat → α → Option β} {v : α} {u : β} (h : Ev F v) (h2 : Ev (fun k => G k v) u) : Ev (fun k => (F k).bind (G k)) u := by
  obtain ⟨a, ha⟩ := h
  obtain ⟨b, hb⟩ := h2
  exact ⟨max a b, fun k hk => by show (F k).bind (G k) = _; rw [ha k (by omega)]; exact hb k (by omega)⟩
theorem Ev.succ {α : Type} {F : Nat → Option α} {v : α} (h : Ev (fun k => F (k + 1)) v) : Ev F v := by
  obtain ⟨a, ha⟩ := h
  exact ⟨a + 1, fun k hk => by obtain ⟨j, rfl⟩ : ∃ j, k = j + 1 := ⟨k - 1, by omega⟩; exact ha j (by omega)⟩
theorem Ev.ite {α : Type} {p : Prop} [Decidable p] {F G : Nat → Option α} {v : α} (h1 : p → Ev F v) (h2 : ¬ p → Ev G v) : Ev (fun k => if p then F k else G k) v := by
  by_cases h : p
  · simpa [h] using h1 h
  · simpa [h] using h2 h
theorem Ev.ex {α : Type} {F : Nat → Option α} {v : α} (h : Ev F v) : ∃ k, F k = some v := by obtain ⟨a, ha⟩ := h; exact ⟨a, ha a (Nat.le_refl _)⟩
theorem wrap64_id {x : Int} (h0 : -9223372036854775808 ≤ x) (h1 : x ≤ 9223372036854775807) : wrap64 x = x := by unfold wrap64; omega

def okP (p : S46) : Prop := (1 ≤ p.f0 ∧ p.f0 ≤ 100000) ∧ 1 ≤ p.f1 ∧ p.f1 ≤ 10000000
instance (p : S46) : Decidable (okP p) := by unfold okP; infer_instance
end Go.Proofs.Ytiaiecfnpompcaa.T
namespace Go.Proofs.Ytiaiecfnpompcaa.T
open Go.RowKit Go.Proofs.YtiaiecfnpompcaaW.PrintWords
set_option linter.unusedVariables false
set_option linter.unusedSimpArgs false
def DI (l : List Int) : Int := ((distinctI l).length : Int)
theorem mem_addI (acc : List Int) (x y : Int) : y ∈ addI acc x ↔ y ∈ acc ∨ y = x := by
  unfold addI
  split
  · rename_i h
    obtain ⟨z, hz, e⟩ := List.any_eq_true.1 h
    have : z = x := by simpa using e
    subst this
    exact ⟨.inl, fun h => h.elim id (fun e => e ▸ hz)⟩
  · simp
theorem nodup_addI {acc : List Int} (h : acc.Nodup) (x : Int) : (addI acc x).Nodup := by
  unfold addI
  split
  · exact h
  · rename_i hn
    rw [List.nodup_append]
    refine ⟨h, by simp, ?_⟩
    intro a ha b hb e
    rw [List.mem_singleton] at hb
    subst hb; subst e
    exact hn (List.any_eq_true.2 ⟨a, ha, by simp⟩)
theorem fold_addI : ∀ (l acc : List Int), acc.Nodup → (l.foldl addI acc).Nodup ∧ ∀ y, y ∈ l.foldl addI acc ↔ y ∈ acc ∨ y ∈ l
  | [], acc, h => ⟨h, by simp⟩
  | x :: l, acc, h => by
    obtain ⟨h1, h2⟩ := fold_addI l (addI acc x) (nodup_addI h x)
    refine ⟨h1, fun y => ?_⟩
    rw [List.foldl_cons, h2, mem_addI, List.mem_cons]
    constructor
    · rintro ((h | h) | h)
      · exact .inl h
      · exact .inr (.inl h)
      · exact .inr (.inr h)
    · rintro (h | h | h)
      · exact .inl (.inl h)
      · exact .inl (.inr h)
      · exact .inr h
theorem distinctI_spec (l : List Int) : (distinctI l).Nodup ∧ ∀ y, y ∈ distinctI l ↔ y ∈ l := by
  obtain ⟨h1, h2⟩ := fold_addI l [] (by simp)
  exact ⟨h1, fun y => by unfold distinctI; rw [h2]; simp⟩
theorem length_addI (acc : List Int) (x : Int) : acc.length ≤ (addI acc x).length := by
  unfold addI
  split
  · exact Nat.le_refl _
  · simp
theorem DI_append (l : List Int) : ∀ (r : List Int), DI l ≤ DI (l ++ r) := by
  intro r
  have go : ∀ (r acc : List Int), acc.length ≤ (r.foldl addI acc).length := by
    intro r
    induction r with
    | nil => intro acc; exact Nat.le_refl _
    | cons x r ih => intro acc; exact Nat.le_trans (length_addI acc x) (ih _)
  unfold DI distinctI
  rw [List.foldl_append]
  have := go r (l.foldl addI [])
  omega
def comps (n m : Nat) (needs : List Int) : Nat → List Int → List Int → List (List Int)
  | 0, _, _ => []
  | d + 1, left, now => if now.length = n then [now] else
    (List.range m).flatMap fun c => if left.getD c 0 < needs.getD now.length 0 then [] else comps n m needs d (left.set c (left.getD c 0 - needs.getD now.length 0)) (now ++ [(c : Int)])
def upd (st : List Int × Int) (x : List Int) : List Int × Int := if DI x < st.2 then (x, DI x) else st
theorem comps_ext (n m : Nat) (needs : List Int) : ∀ (d : Nat) (left now x : List Int), x ∈ comps n m needs d left now → ∃ r, x = now ++ r
  | 0, _, _, _, h => by simp [comps] at h
  | d + 1, left, now, x, h => by
    rw [comps] at h
    split at h
    · rw [List.mem_singleton] at h; exact ⟨[], by simp [h]⟩
    · obtain ⟨c, _, hc⟩ := List.mem_flatMap.1 h
      split at hc
      · simp at hc
      · obtain ⟨r, hr⟩ := comps_ext n m needs d _ _ _ hc
        exact ⟨(c : Int) :: r, by rw [hr]; simp⟩
theorem fold_upd_stay : ∀ (l : List (List Int)) (st : List Int × Int), (∀ x ∈ l, st.2 ≤ DI x) → l.foldl upd st = st
  | [], _, _ => rfl
  | x :: l, st, h => by
    have e : upd st x = st := by unfold upd; rw [if_neg (by have := h x (by simp); omega)]
    rw [List.foldl_cons, e]
    exact fold_upd_stay l st (fun y hy => h y (by simp [hy]))
theorem fold_flat {α β γ : Type} (f : γ → β → γ) (g : α → List β) : ∀ (l : List α) (st : γ), (l.flatMap g).foldl f st = l.foldl (fun st a => (g a).foldl f st) st
  | [], _ => rfl
  | a :: l, st => by
    rw [List.flatMap_cons, List.foldl_append, List.foldl_cons]
    exact fold_flat f g l _
theorem shareF_eq (needs : List Int) : ∀ (d : Nat) (left now : List Int) (st : List Int × Int), now.length + d = needs.length + 1 → now.length ≤ needs.length →
    shareF needs d left now st = (comps needs.length left.length needs d left now).foldl upd st
  | 0, left, now, st, h, h2 => by omega
  | d + 1, left, now, st, h, h2 => by
    rw [shareF]
    by_cases h1 : ((distinctI now).length : Int) ≥ st.2
    · rw [if_pos h1]
      symm
      apply fold_upd_stay
      intro x hx
      obtain ⟨r, rfl⟩ := comps_ext _ _ _ _ _ _ _ hx
      exact Int.le_trans h1 (DI_append now r)
    · rw [if_neg h1, comps]
      by_cases h3 : now.length = needs.length
      · rw [if_pos h3, if_pos h3]
        show _ = upd st now
        unfold upd DI
        rw [if_pos (by omega)]
      · rw [if_neg h3, if_neg h3, fold_flat]
        congr 1
        funext st' c
        by_cases h4 : left.getD c 0 < needs.getD now.length 0
        · rw [if_pos h4, if_pos h4]; rfl
        · rw [if_neg h4, if_neg h4]
          have := shareF_eq needs d (left.set c (left.getD c 0 - needs.getD now.length 0)) (now ++ [(c : Int)]) st' (by simp; omega) (by simp; omega)
          rw [List.length_set] at this
          exact this
def pick (acc : Option (List Int)) (x : List Int) : Option (List Int) := match acc with
  | none => some x
  | some b => if DI x < DI b then some x else some b
def best (l : List (List Int)) : Option (List Int) := l.foldl pick none
def comb (a b : Option (List Int)) : Option (List Int) := match b with
  | none => a
  | some x => pick a x
theorem pick_lt {b x : List Int} (h : DI x < DI b) : pick (some b) x = some x := by unfold pick; exact if_pos h
theorem pick_ge {b x : List Int} (h : ¬ DI x < DI b) : pick (some b) x = some b := by unfold pick; exact if_neg h
theorem upd_lt {b x : List Int} (h : DI x < DI b) : upd (b, DI b) x = (x, DI x) := by unfold upd; exact if_pos h
theorem upd_ge {b x : List Int} (h : ¬ DI x < DI b) : upd (b, DI b) x = (b, DI b) := by unfold upd; exact if_neg h
theorem fold_pick : ∀ (l : List (List Int)) (a : Option (List Int)), l.foldl pick a = comb a (best l)
  | [], a => rfl
  | x :: l, a => by
    have h1 := fold_pick l (pick a x)
    have h2 := fold_pick l (pick none x)
    unfold best
    rw [List.foldl_cons, List.foldl_cons, h1, h2]
    cases hb : best l with
    | none => cases a <;> rfl
    | some y =>
      show pick (comb a (some x)) y = comb a (pick (some x) y)
      cases a with
      | none =>
        show pick (some x) y = comb none (pick (some x) y)
        by_cases h4 : DI y < DI x
        · rw [pick_lt h4]; rfl
        · rw [pick_ge h4]; rfl
      | some b =>
        show pick (pick (some b) x) y = comb (some b) (pick (some x) y)
        by_cases h3 : DI x < DI b
        · rw [pick_lt h3]
          by_cases h4 : DI y < DI x
          · rw [pick_lt h4]; show some y = pick (some b) y; rw [pick_lt (by omega)]
          · rw [pick_ge h4]; show some x = pick (some b) x; rw [pick_lt h3]
        · rw [pick_ge h3]
          by_cases h4 : DI y < DI x
          · rw [pick_lt h4]; rfl
          · rw [pick_ge h4, pick_ge (by omega)]; show some b = pick (some b) x; rw [pick_ge h3]
theorem best_flat {α : Type} (g : α → List (List Int)) (l : List α) : best (l.flatMap g) = l.foldl (fun a c => comb a (best (g c))) none := by
  unfold best
  rw [fold_flat]
  congr 1
  funext a c
  exact fold_pick _ _
theorem fold_pick_isSome : ∀ (l : List (List Int)) (b : List Int), ∃ x, l.foldl pick (some b) = some x ∧ (x = b ∨ x ∈ l)
  | [], b => ⟨b, rfl, .inl rfl⟩
  | y :: l, b => by
    rw [List.foldl_cons]
    by_cases h : DI y < DI b
    · rw [pick_lt h]
      obtain ⟨x, hx, hm⟩ := fold_pick_isSome l y
      exact ⟨x, hx, .inr (by rcases hm with rfl | hm <;> simp_all)⟩
    · rw [pick_ge h]
      obtain ⟨x, hx, hm⟩ := fold_pick_isSome l b
      exact ⟨x, hx, by rcases hm with rfl | hm; exact .inl rfl; exact .inr (by simp [hm])⟩
theorem fold_upd_some : ∀ (l : List (List Int)) (b : List Int), l.foldl upd (b, DI b) = match l.foldl pick (some b) with | none => (b, DI b) | some x => (x, DI x)
  | [], b => rfl
  | x :: l, b => by
    rw [List.foldl_cons, List.foldl_cons]
    by_cases h : DI x < DI b
    · rw [upd_lt h, pick_lt h, fold_upd_some l x]
      obtain ⟨z, hz, _⟩ := fold_pick_isSome l x
      rw [hz]
    · rw [upd_ge h, pick_ge h]; exact fold_upd_some l b
theorem fold_upd_top {m : Nat} : ∀ (l : List (List Int)), (∀ x ∈ l, DI x ≤ m) → l.foldl upd ([], (m : Int) + 1) = match best l with | none => ([], (m : Int) + 1) | some x => (x, DI x)
  | [], _ => rfl
  | x :: l, h => by
    have hx := h x (by simp)
    have e : upd ([], (m : Int) + 1) x = (x, DI x) := by unfold upd; rw [if_pos (by show DI x < (m : Int) + 1; omega)]
    unfold best
    rw [List.foldl_cons, e, fold_upd_some, List.foldl_cons]
    obtain ⟨y, hy, _⟩ := fold_pick_isSome l x
    show _ = match l.foldl pick (some x) with | none => ([], (m : Int) + 1) | some x => (x, DI x)
    rw [hy]
end Go.Proofs.Ytiaiecfnpompcaa.T
namespace Go.Proofs.Ytiaiecfnpompcaa.T
open Go.RowKit Go.Proofs.YtiaiecfnpompcaaW.PrintWords
set_option linter.unusedVariables false
set_option linter.unusedSimpArgs false
theorem rd_getD (l : List Int) (i : Nat) : rd l (i : Int) = l.getD i 0 := by simp [rd]
theorem rd_get {l : List Int} {i : Nat} (h : i < l.length) : rd l (i : Int) = l[i] := by simp [rd, h]
theorem idx_wrap {i : Nat} (h : i ≤ 1000) : wrap64 ((i : Int) + 1) = ((i + 1 : Nat) : Int) := by rw [wrap64_id (by omega) (by omega)]; rfl
theorem has_loop (l : List Int) (c : Int) (hlen : l.length ≤ 100) : ∀ (n i : Nat), n = l.length - i → i ≤ l.length → Ev (fun k => acmeref12_Has.l0 k l c i) (decide (c ∈ l.drop i)) := by
  intro n
  induction n with
  | zero =>
    intro i hn hi
    have : i = l.length := by omega
    subst this
    refine Ev.succ (Ev.of fun k => ?_)
    simp only [acmeref12_Has.l0]
    rw [if_neg (by omega), List.drop_length]
    simp
  | succ n ih =>
    intro i hn hi
    have hlt : i < l.length := by omega
    refine Ev.succ ?_
    simp only [acmeref12_Has.l0]
    have q1 : (i : Int) < (l.length : Int) := by omega
    have q2 : (0 : Int) ≤ (i : Int) := by omega
    simp only [if_pos q1, if_pos q2, rd_get hlt, idx_wrap (show i ≤ 1000 by omega)]
    rw [List.drop_eq_getElem_cons hlt]
    by_cases h : l[i] = c
    · simp only [if_pos h]
      have : decide (c ∈ l[i] :: l.drop (i + 1)) = true := decide_eq_true (by rw [h]; simp)
      rw [this]
      exact Ev.pure _
    · simp only [if_neg h]
      have e : decide (c ∈ l[i] :: l.drop (i + 1)) = decide (c ∈ l.drop (i + 1)) := by
        rw [decide_eq_decide, List.mem_cons]
        exact ⟨fun q => q.elim (fun q => absurd q.symm h) id, .inr⟩
      rw [e]
      exact ih (i + 1) (by omega) (by omega)
theorem has_ev (l : List Int) (c : Int) (hlen : l.length ≤ 100) : Ev (fun k => acmeref12_Has.f k l c) (decide (c ∈ l)) := by
  have := has_loop l c hlen l.length 0 (by simp) (by omega)
  simpa [acmeref12_Has.f] using this
def cntN (l : List Int) : Nat → Nat → Int
  | 0, _ => 0
  | n + 1, i => (if (i : Int) ∈ l then 1 else 0) + cntN l n (i + 1)
theorem cntN_bound (l : List Int) : ∀ n i, 0 ≤ cntN l n i ∧ cntN l n i ≤ n
  | 0, _ => by simp [cntN]
  | n + 1, i => by
    have := cntN_bound l n (i + 1)
    rw [cntN]
    split <;> omega
theorem many_loop (l : List Int) (m : Nat) (hm : m ≤ 100) (hlen : l.length ≤ 100) : ∀ (n i : Nat) (c : Int), n = m - i → i ≤ m → 0 ≤ c → c ≤ i → Ev (fun k => acmeref12_Many.l0 k l m c i) (c + cntN l n i) := by
  intro n
  induction n with
  | zero =>
    intro i c hn hi h0 h1
    have : i = m := by omega
    subst this
    refine Ev.succ (Ev.of fun k => ?_)
    simp only [acmeref12_Many.l0]
    rw [if_neg (by omega)]
    simp [cntN]
  | succ n ih =>
    intro i c hn hi h0 h1
    refine Ev.succ ?_
    simp only [acmeref12_Many.l0]
    have q1 : (i : Int) < (m : Int) := by omega
    simp only [if_pos q1, idx_wrap (show i ≤ 1000 by omega)]
    refine Ev.bind (has_ev l i hlen) ?_
    rw [cntN]
    by_cases h : (i : Int) ∈ l
    · have e : wrap64 (c + 1) = c + 1 := wrap64_id (by omega) (by omega)
      simp only [decide_eq_true h, if_true, if_pos h, e]
      have := ih (i + 1) (c + 1) (by omega) (by omega) (by omega) (by omega)
      rw [← Int.add_assoc]
      exact this
    · simp only [decide_eq_false h, Bool.false_eq_true, if_false, if_neg h]
      rw [Int.zero_add]
      exact ih (i + 1) c (by omega) (by omega) h0 (by omega)
theorem cntN_range (l : List Int) : ∀ n i, cntN l n i = (((List.range' i n).filter fun c : Nat => decide ((c : Int) ∈ l)).length : Int)
  | 0, _ => rfl
  | n + 1, i => by
    rw [cntN, cntN_range l n (i + 1), List.range'_succ, List.filter_cons]
    by_cases h : (i : Int) ∈ l
    · rw [if_pos h, if_pos (decide_eq_true h), List.length_cons]; omega
    · rw [if_neg h, if_neg (by simpa using h)]; omega
def inR (m : Nat) (l : List Int) : Prop := ∀ x ∈ l, 0 ≤ x ∧ x < (m : Int)
theorem cntN_DI {l : List Int} {m : Nat} (h : inR m l) : cntN l m 0 = DI l := by
  rw [cntN_range]
  unfold DI
  congr 1
  obtain ⟨h1, h2⟩ := distinctI_spec l
  have e : (((List.range' 0 m).filter fun c : Nat => decide ((c : Int) ∈ l)).map (fun c : Nat => (c : Int))).length = (distinctI l).length := by
    apply List.Perm.length_eq
    rw [List.perm_ext_iff_of_nodup _ h1]
    · intro y
      rw [h2, List.mem_map]
      constructor
      · rintro ⟨c, hc, rfl⟩
        have := (List.mem_filter.1 hc).2
        simpa using this
      · intro hy
        obtain ⟨h3, h4⟩ := h y hy
        refine ⟨y.toNat, List.mem_filter.2 ⟨?_, ?_⟩, by omega⟩
        · rw [List.mem_range'_1]; omega
        · rw [show ((y.toNat : Nat) : Int) = y by omega]; simpa using hy
    · show List.Pairwise (fun a b : Int => a ≠ b) _
      rw [List.pairwise_map]
      have q : List.Pairwise (fun a b : Nat => a ≠ b) ((List.range' 0 m).filter fun c : Nat => decide ((c : Int) ∈ l)) := List.Pairwise.filter _ (List.nodup_range')
      exact q.imp (fun {a b} hab e => hab (by omega))
  rw [← e, List.length_map]
theorem many_ev {l : List Int} {m : Nat} (hm : m ≤ 100) (hlen : l.length ≤ 100) (h : inR m l) : Ev (fun k => acmeref12_Many.f k l m) (DI l) := by
  have := many_loop l m hm hlen m 0 0 (by omega) (by omega) (by omega) (by omega)
  rw [Int.zero_add, cntN_DI h] at this
  exact this
end Go.Proofs.Ytiaiecfnpompcaa.T
namespace Go.Proofs.Ytiaiecfnpompcaa.T
open Go.RowKit Go.Proofs.YtiaiecfnpompcaaW.PrintWords
set_option linter.unusedVariables false
set_option linter.unusedSimpArgs false
inductive Path (coils needs : List Int) : List Int → List Int → Prop
  | nil : Path coils needs [] coils
  | snoc {now left : List Int} {c : Nat} : Path coils needs now left → c < coils.length → now.length < needs.length → needs.getD now.length 0 ≤ left.getD c 0 → Path coils needs (now ++ [(c : Int)]) (left.set c (left.getD c 0 - needs.getD now.length 0))
def subL (coils left : List Int) : List Int := List.zipWith (fun a b => a - b) coils left
section
variable {coils needs : List Int} (hcb : ∀ x ∈ coils, 1 ≤ x ∧ x ≤ 10000000) (hnb : ∀ x ∈ needs, 1 ≤ x ∧ x ≤ 10000000) (hcl : coils.length ≤ 8) (hnl : needs.length ≤ 8)
theorem Path.len {now left : List Int} (h : Path coils needs now left) : left.length = coils.length := by
  induction h with
  | nil => rfl
  | snoc _ _ _ _ ih => rw [List.length_set]; exact ih
theorem Path.nowlen {now left : List Int} (h : Path coils needs now left) : now.length ≤ needs.length := by
  induction h with
  | nil => simp
  | snoc _ _ h _ _ => simp; omega
theorem Path.inr {now left : List Int} (h : Path coils needs now left) : inR coils.length now := by
  induction h with
  | nil => intro x hx; simp at hx
  | snoc _ hc _ _ ih =>
    intro x hx
    rcases List.mem_append.1 hx with h | h
    · exact ih x h
    · rw [List.mem_singleton] at h; subst h; omega
include hnb in
theorem need_b {i : Nat} (h : i < needs.length) : 1 ≤ needs.getD i 0 ∧ needs.getD i 0 ≤ 10000000 := by
  have e : needs.getD i 0 = needs[i] := by simp [h]
  rw [e]; exact hnb _ (List.getElem_mem h)
include hcb hnb in
theorem Path.bound {now left : List Int} (h : Path coils needs now left) : ∀ c, c < coils.length → 0 ≤ left.getD c 0 ∧ left.getD c 0 ≤ 10000000 := by
  induction h with
  | nil =>
    intro c hc
    have e : coils.getD c 0 = coils[c] := by simp [hc]
    rw [e]; have := hcb _ (List.getElem_mem hc); omega
  | @snoc now left c0 hp hc0 hn hle ih =>
    intro c hc
    have hl := hp.len
    have h1 := ih c hc
    have h2 := need_b hnb hn
    by_cases e : c0 = c
    · subst e
      have : (left.set c0 (left.getD c0 0 - needs.getD now.length 0)).getD c0 0 = left.getD c0 0 - needs.getD now.length 0 := by simp [List.getD, hl, hc]
      rw [this]; omega
    · have : (left.set c0 (left.getD c0 0 - needs.getD now.length 0)).getD c 0 = left.getD c 0 := by simp [List.getD, List.getElem?_set, e]
      rw [this]; exact h1
theorem subL_len {left : List Int} (h : left.length = coils.length) : (subL coils left).length = coils.length := by simp [subL, h]
theorem subL_get {left : List Int} (h : left.length = coils.length) {c : Nat} (hc : c < coils.length) : (subL coils left).getD c 0 = coils.getD c 0 - left.getD c 0 := by
  have h1 : c < left.length := by omega
  simp [subL, List.getD, List.getElem?_zipWith, hc, h1]
theorem subL_self : subL coils coils = List.replicate coils.length 0 := by
  apply List.ext_getElem?
  intro j
  by_cases hj : j < coils.length
  · simp [subL, hj]
  · simp [subL, hj]
theorem subL_set {left : List Int} (h : left.length = coils.length) {c : Nat} (hc : c < coils.length) (y : Int) : (subL coils left).set c (coils.getD c 0 - left.getD c 0 + y) = subL coils (left.set c (left.getD c 0 - y)) := by
  apply List.ext_getElem?
  intro j
  have h1 : c < left.length := by omega
  by_cases hj : c = j
  · subst hj
    have e0 : c < (List.zipWith (fun a b => a - b) coils left).length := by simp; omega
    simp [subL, List.getD, List.getElem?_zipWith, List.getElem?_set, hc, h1, e0]
    omega
  · simp only [subL, List.getElem?_set, hj, if_false, List.getElem?_zipWith]
include hcb hnb hnl in
theorem ref_step {now left rest : List Int} {c : Nat} (hp : Path coils needs now left) (hc : c < coils.length) (hn : now.length < needs.length) (k : Nat) :
    acmeref12_Share.l0 (k + 1) coils needs (now ++ (c : Int) :: rest) (subL coils left) (now.length : Int) =
      if left.getD c 0 < needs.getD now.length 0 then some (([] : List Int), false) else acmeref12_Share.l0 k coils needs (now ++ (c : Int) :: rest) (subL coils (left.set c (left.getD c 0 - needs.getD now.length 0))) ((now.length + 1 : Nat) : Int) := by
  have hl := hp.len
  have hb := hp.bound hcb hnb c hc
  have hy := need_b hnb hn
  have hx : 1 ≤ coils.getD c 0 ∧ coils.getD c 0 ≤ 10000000 := by
    have e : coils.getD c 0 = coils[c] := by simp [hc]
    rw [e]; exact hcb _ (List.getElem_mem hc)
  have g1 : rd (now ++ (c : Int) :: rest) (now.length : Int) = (c : Int) := by rw [rd_getD]; simp
  have g2 : rd (subL coils left) (c : Int) = coils.getD c 0 - left.getD c 0 := by rw [rd_getD, subL_get hl hc]
  have g3 : rd needs (now.length : Int) = needs.getD now.length 0 := rd_getD _ _
  have g4 : rd coils (c : Int) = coils.getD c 0 := rd_getD _ _
  have p1 : ((now.length : Int)) < ((now ++ (c : Int) :: rest).length : Int) := by simp; omega
  have p2 : (0 : Int) ≤ (now.length : Int) := by omega
  have p3 : (0 : Int) ≤ (c : Int) := by omega
  have p4 : (c : Int) < ((subL coils left).length : Int) := by rw [subL_len hl]; omega
  have p5 : (now.length : Int) < (needs.length : Int) := by omega
  have p6 : (c : Int) < (coils.length : Int) := by omega
  have ew : wrap64 (coils.getD c 0 - left.getD c 0 + needs.getD now.length 0) = coils.getD c 0 - left.getD c 0 + needs.getD now.length 0 := wrap64_id (by omega) (by omega)
  have g5 : rd (subL coils (left.set c (left.getD c 0 - needs.getD now.length 0))) (c : Int) = coils.getD c 0 - (left.getD c 0 - needs.getD now.length 0) := by
    rw [rd_getD, subL_get (by rw [List.length_set]; exact hl) hc]
    congr 1
    simp [List.getD, hl, hc]
  simp only [acmeref12_Share.l0, g1, g2, g3, g4, if_pos p1, if_pos p2, if_pos p3, if_pos p4, if_pos p5, if_pos p6, ew, Option.bind_some, Int.toNat_natCast, subL_set hl hc, g5, idx_wrap (show now.length ≤ 1000 by omega)]
  by_cases h : left.getD c 0 < needs.getD now.length 0
  · rw [if_pos h, if_pos (by omega)]
  · rw [if_neg h, if_neg (by omega)]
include hcb hnb hnl in
theorem ref_steps {now left : List Int} (hp : Path coils needs now left) : ∀ (rest : List Int) (v : List Int × Bool),
    Ev (fun k => acmeref12_Share.l0 k coils needs (now ++ rest) (subL coils left) (now.length : Int)) v → Ev (fun k => acmeref12_Share.l0 k coils needs (now ++ rest) (List.replicate coils.length 0) 0) v := by
  induction hp with
  | nil =>
    intro rest v h
    rw [subL_self] at h
    simpa using h
  | @snoc now left c hp hc hn hle ih =>
    intro rest v h
    have e : now ++ [(c : Int)] ++ rest = now ++ (c : Int) :: rest := by simp
    rw [e] at h ⊢
    refine ih ((c : Int) :: rest) v ?_
    refine Ev.succ ?_
    have hh : ¬ left.getD c 0 < needs.getD now.length 0 := by omega
    simp only [ref_step hcb hnb hnl hp hc hn, if_neg hh]
    have e2 : (now ++ [(c : Int)]).length = now.length + 1 := by simp
    rw [e2] at h
    exact h
def outR (o : Option (List Int)) : List Int × Bool := match o with
  | none => ([], false)
  | some x => (x, true)
theorem best_mem {l : List (List Int)} {x : List Int} (h : best l = some x) : x ∈ l := by
  cases l with
  | nil => simp [best] at h
  | cons y l =>
    obtain ⟨z, hz, hm⟩ := fold_pick_isSome l y
    have : best (y :: l) = some z := hz
    rw [this] at h
    injection h with h
    subst h
    rcases hm with rfl | hm <;> simp_all
theorem comps_mem (n m : Nat) (needs : List Int) : ∀ (d : Nat) (left now x : List Int), inR m now → x ∈ comps n m needs d left now → inR m x ∧ x.length = n
  | 0, _, _, _, _, h => by simp [comps] at h
  | d + 1, left, now, x, hn, h => by
    rw [comps] at h
    split at h
    · rename_i e
      rw [List.mem_singleton] at h; subst h; exact ⟨hn, e⟩
    · obtain ⟨c, hcr, hc⟩ := List.mem_flatMap.1 h
      split at hc
      · simp at hc
      · refine comps_mem n m needs d _ _ _ ?_ hc
        intro y hy
        rcases List.mem_append.1 hy with q | q
        · exact hn y q
        · rw [List.mem_singleton] at q; subst q
          have := List.mem_range.1 hcr
          omega
end
end Go.Proofs.Ytiaiecfnpompcaa.T
namespace Go.Proofs.Ytiaiecfnpompcaa.T
open Go.RowKit Go.Proofs.YtiaiecfnpompcaaW.PrintWords
set_option linter.unusedVariables false
set_option linter.unusedSimpArgs false
section
variable {coils needs : List Int} (hcb : ∀ x ∈ coils, 1 ≤ x ∧ x ≤ 10000000) (hnb : ∀ x ∈ needs, 1 ≤ x ∧ x ≤ 10000000) (hcl : coils.length ≤ 8) (hnl : needs.length ≤ 8)
include hcl in
theorem ref_open {now : List Int} {v : List Int × Bool} (h : Ev (fun k => acmeref12_Share.l0 k coils needs now (List.replicate coils.length 0) 0) v) : Ev (fun k => acmeref12_Share.f k coils needs now) v := by
  refine Ev.succ ?_
  have p1 : (0 : Int) ≤ (coils.length : Int) := by omega
  have p2 : coils.length ≤ 35184372088832 := by omega
  simp only [acmeref12_Share.f, if_pos p1, Int.toNat_natCast, if_pos p2]
  exact h
include hcb hnb hcl hnl in
theorem ref_ev : ∀ (d : Nat) (now left : List Int), Path coils needs now left → now.length + d = needs.length + 1 →
    Ev (fun k => acmeref12_Share.f k coils needs now) (outR (best (comps needs.length coils.length needs d left now))) := by
  intro d
  induction d with
  | zero => intro now left hp h; have := hp.nowlen; omega
  | succ d ih =>
    intro now left hp hd
    have hnow := hp.nowlen
    refine ref_open hcl ?_
    have st := ref_steps hcb hnb hnl hp []
    rw [List.append_nil] at st
    refine st _ ?_
    refine Ev.succ ?_
    have p1 : ¬ (now.length : Int) < (now.length : Int) := Int.lt_irrefl _
    simp only [acmeref12_Share.l0, if_neg p1]
    by_cases he : now.length = needs.length
    · have he' : (now.length : Int) = (needs.length : Int) := by omega
      simp only [if_pos he']
      rw [comps, if_pos he]
      exact Ev.pure _
    · have he' : ¬ (now.length : Int) = (needs.length : Int) := by omega
      have hlt : now.length < needs.length := by omega
      simp only [if_neg he']
      rw [comps, if_neg he, best_flat, List.range_eq_range']
      -- the children
      generalize hg : (fun c : Nat => if left.getD c 0 < needs.getD now.length 0 then ([] : List (List Int)) else comps needs.length coils.length needs d (left.set c (left.getD c 0 - needs.getD now.length 0)) (now ++ [(c : Int)])) = g
      have child : ∀ c, c < coils.length → Ev (fun k => acmeref12_Share.f k coils needs (now ++ [(c : Int)])) (outR (best (g c))) ∧ ∀ x, best (g c) = some x → inR coils.length x ∧ x.length = needs.length := by
        intro c hc
        rw [← hg]
        by_cases h4 : left.getD c 0 < needs.getD now.length 0
        · simp only [if_pos h4]
          refine ⟨?_, fun x hx => by simp [best] at hx⟩
          refine ref_open hcl ?_
          refine ref_steps hcb hnb hnl hp [(c : Int)] _ ?_
          refine Ev.succ ?_
          simp only [ref_step hcb hnb hnl hp hc hlt, if_pos h4]
          exact Ev.pure _
        · simp only [if_neg h4]
          have hp2 := Path.snoc hp hc hlt (by omega)
          refine ⟨ih _ _ hp2 (by simp; omega), fun x hx => ?_⟩
          exact comps_mem _ _ _ _ _ _ _ hp2.inr (best_mem hx)
      have loop : ∀ (n i : Nat) (acc : Option (List Int)), n = coils.length - i → i ≤ coils.length → (∀ b, acc = some b → inR coils.length b ∧ b.length = needs.length) →
          Ev (fun k => acmeref12_Share.l1 k coils needs now (outR acc).1 (outR acc).2 (i : Int)) (outR ((List.range' i n).foldl (fun a c => comb a (best (g c))) acc)) := by
        intro n
        induction n with
        | zero =>
          intro i acc hn hi hacc
          refine Ev.succ ?_
          have q : ¬ (i : Int) < (coils.length : Int) := by omega
          simp only [acmeref12_Share.l1, if_neg q]
          exact Ev.pure _
        | succ n ihn =>
          intro i acc hn hi hacc
          refine Ev.succ ?_
          have q : (i : Int) < (coils.length : Int) := by omega
          have q1 : ([] : List Int).length + now.length < 17592186044416 := by simp; omega
          have q2 : now.length < 17592186044416 := by omega
          simp only [acmeref12_Share.l1, if_pos q, Option.bind_some, if_pos q1, List.nil_append, if_pos q2, idx_wrap (show i ≤ 1000 by omega)]
          obtain ⟨hc1, hc2⟩ := child i (by omega)
          refine Ev.bind hc1 ?_
          rw [List.range'_succ, List.foldl_cons]
          cases hb : best (g i) with
          | none =>
            simp only [outR, Bool.false_eq_true, if_false]
            exact ihn (i + 1) acc (by omega) (by omega) hacc
          | some x =>
            obtain ⟨hx1, hx2⟩ := hc2 x hb
            have ok : ∀ b, some x = some b → inR coils.length b ∧ b.length = needs.length := by
              intro b e; injection e with e; subst e; exact ⟨hx1, hx2⟩
            cases ha : acc with
            | none =>
              simp only [outR, if_true, Bool.false_eq_true, if_false]
              exact ihn (i + 1) (some x) (by omega) (by omega) ok
            | some b =>
              obtain ⟨hb1, hb2⟩ := hacc b ha
              simp only [outR, if_true]
              refine Ev.bind (many_ev (by omega) (by omega) hx1) ?_
              refine Ev.bind (many_ev (by omega) (by omega) hb1) ?_
              refine Ev.ite (fun h => ?_) (fun h => ?_)
              · have e : comb (some b) (some x) = some x := pick_lt h
                rw [e]
                exact ihn (i + 1) (some x) (by omega) (by omega) ok
              · have e : comb (some b) (some x) = some b := pick_ge h
                rw [e]
                exact ihn (i + 1) (some b) (by omega) (by omega) (fun b' e => by injection e with e; subst e; exact ⟨hb1, hb2⟩)
      have fin := loop coils.length 0 none (by omega) (by omega) (fun b e => by simp at e)
      rw [← hg] at fin
      exact fin
end
end Go.Proofs.Ytiaiecfnpompcaa.T
namespace Go.Proofs.Ytiaiecfnpompcaa.T
open Go.RowKit Go.Proofs.YtiaiecfnpompcaaW.PrintWords Go.Proofs.YtiaiecfnpompcaaW.PrintLast
set_option linter.unusedVariables false
theorem ints_loop (l : List Int) (hlen : l.length ≤ 100) : ∀ (n i : Nat), n = l.length - i → i ≤ l.length → Ev (fun k => acmeref12_Ints.l0 k l l i) true := by
  intro n
  induction n with
  | zero =>
    intro i hn hi
    refine Ev.succ ?_
    have q : ¬ (i : Int) < (l.length : Int) := by omega
    simp only [acmeref12_Ints.l0, if_neg q]
    exact Ev.pure _
  | succ n ih =>
    intro i hn hi
    refine Ev.succ ?_
    have q : (i : Int) < (l.length : Int) := by omega
    have q2 : (0 : Int) ≤ (i : Int) := by omega
    simp only [acmeref12_Ints.l0, if_pos q, if_pos q2, if_true, idx_wrap (show i ≤ 1000 by omega)]
    exact ih (i + 1) (by omega) (by omega)
theorem ints_self (l : List Int) (hlen : l.length ≤ 100) : Ev (fun k => acmeref12_Ints.f k l l) true := by
  have := ints_loop l hlen l.length 0 (by omega) (by omega)
  simpa [acmeref12_Ints.f] using this
theorem in_eqb (x a b : Int) : acmeref12_In.f x a b = some (decide (a ≤ x ∧ x ≤ b)) := by
  unfold acmeref12_In.f
  split <;> simp <;> omega
theorem goodI_iff (l : List Int) : goodI l = true ↔ ∀ x ∈ l, 1 ≤ x ∧ x ≤ 10000000 := by
  refine ⟨goodI_spec, fun h => ?_⟩
  unfold goodI
  rw [Bool.not_eq_true', List.any_eq_false]
  intro x hx
  have := h x hx
  simp [outside]
  omega
theorem shares_bad {a b r : List Int} {e : Int} {i : Int} (he : ¬ e = 0) (hr : r.length = 0) : Ev (fun k => acmelaw12_MillShares.l0 k a b r e e i) true := by
  have j : Ev (fun k => acmelaw12_MillShares.j5 k a b r e e i false) true := by
    refine Ev.succ ?_
    have hr' : (r.length : Int) = 0 := by omega
    simp only [acmelaw12_MillShares.j5, Bool.false_eq_true, if_false, if_neg he, if_true, if_pos hr', acmelaw12_known.f, Option.bind_some]
    exact Ev.pure _
  refine Ev.succ ?_
  simp only [acmelaw12_MillShares.l0]
  refine Ev.ite (fun _ => ?_) (fun _ => j)
  have : (e == 0) = false := beq_eq_false_iff_ne.mpr he
  rw [this]
  exact j
section
variable {a b : List Int} (hal : a.length ≤ 5) (hbl : b.length ≤ 6)
include hal hbl in
theorem shares_good (ha : goodI a = true) (hb : goodI b = true) {r1 : List Int} {r2 : Int} (hr : mill_Share.f a b = some (r1, r2)) : Ev (fun k => acmelaw12_MillShares.j5 k a b r1 r2 0 ((a.length + b.length : Nat) : Int) false) true := by
  have ref := ref_ev (goodI_spec ha) (goodI_spec hb) (by omega) (by omega) (b.length + 1) [] a Path.nil (by simp)
  have eqs := shareF_eq b (b.length + 1) a [] ([], (a.length : Int) + 1) (by simp) (by simp)
  have hin : ∀ x ∈ comps b.length a.length b (b.length + 1) a [], inR a.length x ∧ x.length = b.length := fun x hx => comps_mem _ _ _ _ _ _ _ (by intro y hy; simp at hy) hx
  have hDI : ∀ x ∈ comps b.length a.length b (b.length + 1) a [], DI x ≤ (a.length : Nat) := by
    intro x hx
    have h1 := (hin x hx).1
    rw [← cntN_DI h1]
    exact (cntN_bound x a.length 0).2
  rw [fold_upd_top _ hDI] at eqs
  unfold mill_Share.f at hr
  rw [if_neg (by omega), if_neg (by omega), if_neg (by rw [ha]; decide), if_neg (by rw [hb]; decide), eqs] at hr
  refine Ev.succ ?_
  simp only [acmelaw12_MillShares.j5, Bool.false_eq_true, if_false, if_true]
  refine Ev.bind ref ?_
  cases hbest : best (comps b.length a.length b (b.length + 1) a []) with
  | none =>
    rw [hbest] at hr
    simp only at hr
    rw [if_pos (by omega)] at hr
    injection hr with hr
    injection hr with h1 h2
    subst h1; subst h2
    simp only [outR, Bool.false_eq_true, if_false, if_true, List.length_nil, Int.natCast_zero, acmelaw12_known.f, Option.bind_some]
    exact Ev.pure _
  | some x =>
    have hx := best_mem hbest
    rw [hbest] at hr
    simp only at hr
    have := hDI x hx
    rw [if_neg (by omega)] at hr
    injection hr with hr
    injection hr with h1 h2
    subst h1; subst h2
    simp only [outR, if_true]
    refine Ev.bind (ints_self x (by have := (hin x hx).2; omega)) ?_
    simp only [if_true, acmelaw12_known.f, Option.bind_some]
    exact Ev.pure _
include hal hbl in
theorem shares_loop {r1 : List Int} {r2 : Int} (hr : mill_Share.f a b = some (r1, r2)) : ∀ (n i : Nat), n = a.length + b.length - i → i ≤ a.length + b.length → (∀ j (h : j < a.length), j < i → 1 ≤ a[j] ∧ a[j] ≤ 10000000) → (∀ j (h : j < b.length), a.length + j < i → 1 ≤ b[j] ∧ b[j] ≤ 10000000) →
    Ev (fun k => acmelaw12_MillShares.l0 k a b r1 r2 0 i) true := by
  have bad : (goodI a = false ∨ goodI b = false) → r1.length = 0 ∧ r2 = 2 := by
    intro h
    unfold mill_Share.f at hr
    rw [if_neg (by omega), if_neg (by omega)] at hr
    by_cases h1 : goodI a = false
    · rw [if_pos h1] at hr
      injection hr with hr; injection hr with h1 h2; subst h1; subst h2; exact ⟨rfl, rfl⟩
    · have h2 : goodI b = false := h.resolve_left h1
      rw [if_neg h1, if_pos h2] at hr
      injection hr with hr; injection hr with h1 h2; subst h1; subst h2; exact ⟨rfl, rfl⟩
  have ew : wrap64 ((a.length : Int) + (b.length : Int)) = ((a.length + b.length : Nat) : Int) := by rw [wrap64_id (by omega) (by omega)]; rfl
  intro n
  induction n with
  | zero =>
    intro i hn hi h1 h2
    have hi' : i = a.length + b.length := by omega
    subst hi'
    refine Ev.succ ?_
    have q : ¬ ((a.length + b.length : Nat) : Int) < ((a.length + b.length : Nat) : Int) := Int.lt_irrefl _
    simp only [acmelaw12_MillShares.l0, ew, if_neg q]
    refine shares_good hal hbl ((goodI_iff a).2 ?_) ((goodI_iff b).2 ?_) hr
    · intro x hx
      obtain ⟨j, hj, rfl⟩ := List.mem_iff_getElem.1 hx
      exact h1 j hj (by omega)
    · intro x hx
      obtain ⟨j, hj, rfl⟩ := List.mem_iff_getElem.1 hx
      exact h2 j hj (by omega)
  | succ n ih =>
    intro i hn hi h1 h2
    refine Ev.succ ?_
    have q : (i : Int) < ((a.length + b.length : Nat) : Int) := by omega
    simp only [acmelaw12_MillShares.l0, ew, if_pos q]
    refine Ev.succ ?_
    have b0 : ((0 : Int) == 0) = true := rfl
    simp only [acmelaw12_MillShares.j5, b0, if_true, idx_wrap (show i ≤ 1000 by omega), in_eqb, Option.bind_some, decide_eq_true_eq]
    by_cases hia : i < a.length
    · have q1 : (i : Int) < (a.length : Int) := by omega
      have q2 : (0 : Int) ≤ (i : Int) := by omega
      simp only [if_pos q1, if_pos q2, rd_get hia]
      by_cases hg : 1 ≤ a[i] ∧ a[i] ≤ 10000000
      · simp only [if_pos hg]
        refine ih (i + 1) (by omega) (by omega) ?_ ?_
        · intro j hj hji
          by_cases e : j = i
          · subst e; exact hg
          · exact h1 j hj (by omega)
        · intro j hj hji; omega
      · simp only [if_neg hg]
        obtain ⟨e1, e2⟩ := bad (.inl (by
          cases hga : goodI a with
          | false => rfl
          | true => exact absurd (goodI_spec hga _ (List.getElem_mem hia)) hg))
        rw [e2]
        exact shares_bad (by decide) e1
    · have q1 : ¬ (i : Int) < (a.length : Int) := by omega
      have hib : i - a.length < b.length := by omega
      have e3 : wrap64 ((i : Int) - (a.length : Int)) = ((i - a.length : Nat) : Int) := by rw [wrap64_id (by omega) (by omega)]; omega
      have q2 : (0 : Int) ≤ ((i - a.length : Nat) : Int) := by omega
      have q3 : ((i - a.length : Nat) : Int) < (b.length : Int) := by omega
      simp only [if_neg q1, e3, if_pos q2, if_pos q3, rd_get hib]
      by_cases hg : 1 ≤ b[i - a.length] ∧ b[i - a.length] ≤ 10000000
      · simp only [if_pos hg]
        refine ih (i + 1) (by omega) (by omega) ?_ ?_
        · intro j hj hji
          exact h1 j hj (by omega)
        · intro j hj hji
          by_cases e : j = i - a.length
          · subst e; exact hg
          · exact h2 j hj (by omega)
      · simp only [if_neg hg]
        obtain ⟨e1, e2⟩ := bad (.inr (by
          cases hgb : goodI b with
          | false => rfl
          | true => exact absurd (goodI_spec hgb _ (List.getElem_mem hib)) hg))
        rw [e2]
        exact shares_bad (by decide) e1
end
theorem ints_f (l : List Int) (h : l.length ≤ 100) : acmelaw12_ints.f l = some l := by
  unfold acmelaw12_ints.f
  have : ([] : List Int).length + l.length < 17592186044416 := by simp; omega
  simp only [Option.bind_some, if_pos this, List.nil_append]
theorem share_some (a b : List Int) : ∃ r1 r2, mill_Share.f a b = some (r1, r2) := by
  unfold mill_Share.f
  split
  · exact ⟨_, _, rfl⟩
  split
  · exact ⟨_, _, rfl⟩
  split
  · exact ⟨_, _, rfl⟩
  split
  · exact ⟨_, _, rfl⟩
  split
  · exact ⟨_, _, rfl⟩
  · exact ⟨_, _, rfl⟩
theorem shares_known (a b : List Int) : Ev (fun k => acmelaw12_MillShares.j0 k a b true) true := by
  refine Ev.succ ?_
  simp only [acmelaw12_MillShares.j0, if_true, acmelaw12_known.f, Option.bind_some]
  exact Ev.pure _
theorem shares_run (a b : List Int) (h0 : a.length ≤ 12) (h1 : b.length ≤ 12) (h2 : a.length ≤ 5 ∨ 8 < a.length) (h3 : b.length ≤ 6 ∨ 8 < b.length) : Ev (fun k => acmelaw12_MillShares.j0 k a b false) true := by
  obtain ⟨r1, r2, hr⟩ := share_some a b
  refine Ev.succ ?_
  simp only [acmelaw12_MillShares.j0, Bool.false_eq_true, if_false, ints_f a (by omega), ints_f b (by omega), Option.bind_some, hr]
  refine Ev.bind (ints_self a (by omega)) ?_
  simp only [if_true]
  refine Ev.bind (ints_self b (by omega)) ?_
  refine Ev.succ ?_
  simp only [acmelaw12_MillShares.j1, Bool.not_true, Bool.false_eq_true, if_false]
  have long : (8 < a.length ∨ 8 < b.length) → Ev (fun k => acmelaw12_MillShares.j2 k a b r1 r2 0 true) true := by
    intro h
    refine Ev.succ ?_
    simp only [acmelaw12_MillShares.j2, if_true]
    refine Ev.succ ?_
    simp only [acmelaw12_MillShares.j3]
    unfold mill_Share.f at hr
    have e : r1.length = 0 ∧ r2 = 5 := by
      by_cases h4 : 8 < a.length
      · rw [if_pos h4] at hr
        injection hr with hr; injection hr with h1 h2; subst h1; subst h2; exact ⟨rfl, rfl⟩
      · rw [if_neg h4, if_pos (h.resolve_left h4)] at hr
        injection hr with hr; injection hr with h1 h2; subst h1; subst h2; exact ⟨rfl, rfl⟩
    rw [e.2]
    exact shares_bad (by decide) e.1
  refine Ev.ite (fun h => long (.inl (by omega))) (fun h => ?_)
  by_cases h4 : (b.length : Int) > 8
  · simp only [decide_eq_true h4]
    exact long (.inr (by omega))
  · simp only [decide_eq_false h4]
    refine Ev.succ ?_
    simp only [acmelaw12_MillShares.j2, Bool.false_eq_true, if_false]
    refine Ev.succ ?_
    simp only [acmelaw12_MillShares.j3]
    exact shares_loop (by omega) (by omega) hr (a.length + b.length) 0 (by omega) (by omega) (fun j _ h => by omega) (fun j _ h => by omega)
theorem pure_MillShares (l0 : List Int) (l1 : List Int) (w0 : ∀ x ∈ l0, wf3 x) (w1 : ∀ x ∈ l1, wf3 x) : ∃ k, acmelaw12_MillShares.f k l0 l1 = some true := by
  apply Ev.ex
  unfold acmelaw12_MillShares.f
  by_cases c1 : (l0.length : Int) > 12
  · have c2 : (l0.length : Int) > 5 := by omega
    have c3 : ¬ (l0.length : Int) ≤ 8 := by omega
    simp only [if_pos c1, if_pos c2, if_neg c3]
    exact Ev.ite (fun _ => Ev.ite (fun _ => shares_known _ _) (fun _ => shares_known _ _)) (fun _ => shares_known _ _)
  · simp only [if_neg c1]
    by_cases c4 : (l1.length : Int) > 12
    · simp only [decide_eq_true c4]
      refine Ev.ite (fun _ => Ev.ite (fun _ => shares_known _ _) (fun _ => ?_)) (fun _ => ?_)
      · exact Ev.ite (fun _ => Ev.ite (fun _ => shares_known _ _) (fun _ => shares_known _ _)) (fun _ => shares_known _ _)
      · exact Ev.ite (fun _ => Ev.ite (fun _ => shares_known _ _) (fun _ => shares_known _ _)) (fun _ => shares_known _ _)
    · simp only [decide_eq_false c4]
      refine Ev.ite (fun q1 => Ev.ite (fun q2 => shares_known _ _) (fun q2 => ?_)) (fun q1 => ?_)
      · refine Ev.ite (fun q3 => Ev.ite (fun q4 => shares_known _ _) (fun q4 => shares_run _ _ (by omega) (by omega) (by omega) (by omega))) (fun q3 => shares_run _ _ (by omega) (by omega) (by omega) (by omega))
      · refine Ev.ite (fun q3 => Ev.ite (fun q4 => shares_known _ _) (fun q4 => shares_run _ _ (by omega) (by omega) (by omega) (by omega))) (fun q3 => shares_run _ _ (by omega) (by omega) (by omega) (by omega))
end Go.Proofs.Ytiaiecfnpompcaa.T
namespace Go.Proofs.Ytiaiecfnpompcaa.millShares
open Go.ChangeShapes Go.WideShapes Go.ChangeAt Go.RowKit Go.Proofs.Ytiaiecfnpompcaa.T
open Go.ChangeMaps (open_string shut_string)
set_option linter.unusedVariables false
theorem own : ownKnob Try.prog.godebug = none := by kernel_rfl
theorem laidOut : laidOutB Try.prog = true := by kernel_rfl
set_option maxRecDepth 100000 in
theorem lifted (os : Os) (started : os.Started) (H : Type) (enc : TypeId × Value → H) :
    ReturnsInHanded {} Try.checked os 5 .any (Rows.millSharesSpec.pre6 enc Try.prog Try.f5 Rows.millSharesRow.domain false) (Rows.millSharesSpec.post enc Try.prog Try.f5 false true false false) := by
  refine returnsInHanded_of_change_sized (C := Try.checked) own started (by kernel_rfl) Try.func5
    (ChangeSpec.witness6 (enc := enc) (C := Try.checked) false ⟨#[], #[.slice none 0 0, .slice none 0 0], []⟩ 8 (by kernel_rfl) (by kernel_rfl) (by kernel_rfl) (by kernel_rfl)) ?_
  intro W base args ds gs before hval0 hW hcnd hsz0 _
  have hval : ∀ (j : Nat) t v, Try.f5.params[j]? = some t → args[j]? = some v → Value.okWide Try.prog W .any base t v := hval0
  have hW' := hW
  obtain ⟨p, q, hA0, hV, rfl, hfz, hnd⟩ := hW
  have hA : DataW.TrodAll enc Try.prog W 0 (fun _ => true) true Try.f5.params.toList args.toList ds p := hA0
  rw [Try.params5] at hA hval
  obtain ⟨v0, vs0, d0, ds0, p0, q0, hargs, rfl, rfl, h0, r0⟩ := trodAll_cons hA
  obtain ⟨v1, vs1, d1, ds1, p1, q1, rfl, rfl, rfl, h1, r1⟩ := trodAll_cons r0
  obtain ⟨rfl, rfl, rfl⟩ := trodAll_nil r1
  obtain rfl : args = #[v0, v1] := by cases args; simp_all
  obtain ⟨rfl, rfl⟩ := trodVars_none hV
  have k0 := h0
  have lt0 : ∀ x ∈ p0, x.block < W.heap.size := by obtain ⟨m, hm⟩ := k0; exact DataW.trod_lt m _ _ _ hm
  obtain ⟨A0, len0, cap0, rfl⟩ := okWide_slice Try.underlying22 (hval 0 22 v0 rfl rfl)
  obtain ⟨l0, rfl, C0, c0, w0⟩ := openS22 h0
  have k1 := h1
  have lt1 : ∀ x ∈ p1, x.block < W.heap.size := by obtain ⟨m, hm⟩ := k1; exact DataW.trod_lt m _ _ _ hm
  obtain ⟨A1, len1, cap1, rfl⟩ := okWide_slice Try.underlying22 (hval 1 22 v1 rfl rfl)
  obtain ⟨l1, rfl, C1, c1, w1⟩ := openS22 h1
  clear hA0 hval0 hsz0
  obtain ⟨k, hk⟩ := pure_MillShares l0 l1 w0 w1
  refine (acmelaw12_MillShares.calls k A0 cap0 l0 A1 cap1 l1 true W C0 c0 C1 c1 hk).mono fun e W' ⟨he, bel⟩ => ?_
  subst he
  exact ⟨_, rfl, _, _, _, [], _, [], hW', trodAll_mk1 (shut_bool Try.underlying4 _), (trodAll_cons_mk (Below.trod laidOut (by kernel_rfl) (of_decide_eq_true (by kernel_rfl)) k0 bel lt0) (trodAll_cons_mk (Below.trod laidOut (by kernel_rfl) (of_decide_eq_true (by kernel_rfl)) k1 bel lt1) trodAll_mk0)), rfl, bel.frame _, fun h => by cases h⟩
theorem over : Rows.millSharesRow.holds Try.pinned (OpenSpec.ofChange Rows.millSharesSpec) :=
  OpenClaim.holds_of_wide 5 Try.f5 rfl rfl rfl rfl rfl rfl rfl ⟨rfl, rfl, rfl, rfl, rfl⟩ rfl rfl rfl rfl rfl (by kernel_rfl) Try.func5 (by kernel_rfl)
    (of_decide_eq_true (by kernel_rfl)) (by unfold Func.isWrapper; first | (rw [if_pos (by decide +kernel)]; kernel_rfl) | (rw [if_neg (by decide +kernel)]; exact ⟨rfl, rfl⟩))
    (fun os started H enc _ => lifted os started H enc)
theorem proved : Rows.MillSharesSaid := over
end Go.Proofs.Ytiaiecfnpompcaa.millShares
namespace Go.Proofs.Ytiaiecfnpompcaa
theorem millShares_holds : Rows.MillSharesSaid := millShares.proved
end Go.Proofs.Ytiaiecfnpompcaa
