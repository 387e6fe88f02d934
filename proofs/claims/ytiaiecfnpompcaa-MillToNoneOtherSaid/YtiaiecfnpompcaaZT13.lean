-- cut down, squeezed and laid together by pack.py (a program of this repository) out of this seat's texts
import Derived.WalkKit
import Derived.MapKept
import Derived.RangeFuncNested
import Derived.RangeFuncBound
import Derived.RangeFuncCalls
import Derived.RangeFuncLeaves
import Derived.Shelf.Abstract
import Derived.Shelf.RegionOpen
import Derived.OwnWalkIn
import Derived.TacticsInMore
import Derived.LoopNIn
import Derived.LoopIn
import Derived.ChangeKeysEq
import Derived.Maps.Views
import Derived.WideKeyEntry
import Derived.Test.YtiaiecfnpompcaaZT11
import Derived.Test.YtiaiecfnpompcaaZT2
import Derived.Test.YtiaiecfnpompcaaZT9
import Derived.Test.YtiaiecfnpompcaaZT5
import Derived.Test.YtiaiecfnpompcaaZT8
import Derived.Test.YtiaiecfnpompcaaZT10
import Derived.Test.YtiaiecfnpompcaaZT12
import Derived.Test.YtiaiecfnpompcaaZT4
import Derived.Test.YtiaiecfnpompcaaZT7
import Derived.Test.YtiaiecfnpompcaaZT3
import Derived.Test.YtiaiecfnpompcaaZT6
import Derived.Test.YtiaiecfnpompcaaZT1
namespace Go.Proofs.Ytiaiecfnpompcaa.T
open Go.RowKit Go.Maps Go.Proofs.YtiaiecfnpompcaaW.PrintWords Go.Proofs.YtiaiecfnpompcaaW.PrintLast Go.Proofs.YtiaiecfnpompcaaW.PrintMore
set_option linter.unusedVariables false
set_option linter.unusedSimpArgs false
def okRun (x : S144) : Prop := (0 ≤ x.f0 ∧ x.f0 ≤ 1000) ∧ (0 ≤ x.f3 ∧ x.f3 ≤ 1000) ∧ (0 ≤ x.f4 ∧ x.f4 ≤ 1000) ∧ 0 ≤ x.f1 ∧ x.f1 ≤ x.f2 ∧ x.f2 ≤ 100000
def hoursR (x : S144) (m f t : Int) : Int × Int := if x.f0 = m then (mx x.f1 f, mn x.f2 t) else (1, 0)
def hourKeys (m a : Int) : Nat → List S79
 | 0 => []
 | n + 1 => hourKeys m a n ++ [⟨3, m, a + (n : Int)⟩]
def runKeys (x : S144) (m f t : Int) : List S79 := if (hoursR x m f t).1 > (hoursR x m f t).2 then [] else
 [⟨1, 0, x.f3⟩, ⟨2, 0, x.f4⟩] ++ hourKeys x.f0 (hoursR x m f t).1 ((hoursR x m f t).2 + 1 - (hoursR x m f t).1).toNat
def longRun (x : S144) (m f t : Int) : Prop := (hoursR x m f t).1 ≤ (hoursR x m f t).2 ∧ (hoursR x m f t).2 - (hoursR x m f t).1 ≥ 1000
instance (x : S144) (m f t : Int) : Decidable (longRun x m f t) := by unfold longRun; infer_instance
def allKeys (l : List S144) (m f t : Int) : List S79 := l.flatMap fun x => runKeys x m f t
def okLot (m f t : Int) : Prop := (0 ≤ m ∧ m ≤ 1000) ∧ ((0 ≤ f ∧ f ≤ 100000) ∧ 0 ≤ t ∧ t ≤ 100000) ∧ f ≤ t
instance (m f t : Int) : Decidable (okLot m f t) := by unfold okLot; infer_instance
def causesE (l : List S144) (m f t : Int) : Int := if ¬ okLot m f t then 2 else if ∃ x ∈ l, longRun x m f t then 5 else if (distinctC (allKeys l m f t)).length > 1000 then 5 else 0
theorem hourKeys_mem {m a : Int} : ∀ {n : Nat} {y : S79}, y ∈ hourKeys m a n → y.f0 = 3 ∧ y.f1 = m ∧ a ≤ y.f2 ∧ y.f2 < a + n
 | 0, y, h => by simp [hourKeys] at h
 | n + 1, y, h => by
  rw [hourKeys] at h
  rcases List.mem_append.1 h with q | q
  ·have := hourKeys_mem q; omega
  ·rw [List.mem_singleton] at q; subst q; exact ⟨rfl, rfl, by show a ≤ a + (n : Int); omega, by show a + (n : Int) < a + ((n + 1 : Nat) : Int); omega⟩
theorem wfI {x : Int} (h0 : -9223372036854775808 ≤ x) (h1 : x ≤ 9223372036854775807) : (Lit.int .i64 x).wf = true := by
 simp [Lit.wf, IntKind.min, IntKind.max, IntKind.signed, IntKind.bits]; omega
theorem mx_le {a b : Int} : a ≤ mx a b ∧ b ≤ mx a b ∧ (mx a b = a ∨ mx a b = b) := by unfold mx; split <;> omega
theorem mn_le {a b : Int} : mn a b ≤ a ∧ mn a b ≤ b ∧ (mn a b = a ∨ mn a b = b) := by unfold mn; split <;> omega
theorem hoursR_b {x : S144} {m f t : Int} (h : okRun x) (hl : okLot m f t) : 0 ≤ (hoursR x m f t).1 ∧ (hoursR x m f t).1 ≤ 100000 ∧ 0 ≤ (hoursR x m f t).2 ∧ (hoursR x m f t).2 ≤ 100000 := by
 obtain ⟨h0, h3, h4, h1, h12, h2⟩ := h
 obtain ⟨_, ⟨hf, ht⟩, hft⟩ := hl
 unfold hoursR
 split
 ·have a1 := @mx_le x.f1 f
  have a2 := @mn_le x.f2 t
  show 0 ≤ mx x.f1 f ∧ mx x.f1 f ≤ 100000 ∧ 0 ≤ mn x.f2 t ∧ mn x.f2 t ≤ 100000
  omega
 ·show (0 : Int) ≤ 1 ∧ (1 : Int) ≤ 100000 ∧ (0 : Int) ≤ 0 ∧ (0 : Int) ≤ 100000
  omega
theorem okC_mk {a b c : Int} (ha : 0 ≤ a ∧ a ≤ 100000) (hb : 0 ≤ b ∧ b ≤ 100000) (hc : 0 ≤ c ∧ c ≤ 100000) : okC ⟨a, b, c⟩ :=
 ⟨wfI (by show _ ≤ a; omega) (by show a ≤ _; omega), wfI (by show _ ≤ b; omega) (by show b ≤ _; omega), wfI (by show _ ≤ c; omega) (by show c ≤ _; omega)⟩
theorem allKeys_ok {l : List S144} {m f t : Int} (hl : ∀ x ∈ l, okRun x) (g : okLot m f t) : ∀ y ∈ allKeys l m f t, okC y := by
 intro y hy
 unfold allKeys at hy
 obtain ⟨x, hx, hk⟩ := List.mem_flatMap.1 hy
 have hb := hoursR_b (hl x hx) g
 obtain ⟨h0, h3, h4, _⟩ := hl x hx
 unfold runKeys at hk
 split at hk
 ·simp at hk
 ·rcases List.mem_append.1 hk with q | q
  ·rcases List.mem_cons.1 q with rfl | q
   ·exact okC_mk (by omega) (by omega) (by omega)
   ·rw [List.mem_singleton] at q; subst q
    exact okC_mk (by omega) (by omega) (by omega)
  ·have q2 := hourKeys_mem q
   exact ⟨wfI (by omega) (by omega), wfI (by omega) (by omega), wfI (by omega) (by omega)⟩
theorem isNumber_eq (m : Int) : mill_isNumber.f [m] = some (decide (0 ≤ m ∧ m ≤ 1000)) := by unfold mill_isNumber.f; rw [within_one]; rfl
theorem areHours_eq (f t : Int) : mill_areHours.f f t = some (decide (((0 ≤ f ∧ f ≤ 100000) ∧ 0 ≤ t ∧ t ≤ 100000) ∧ f ≤ t)) := by
 unfold mill_areHours.f
 rw [within_two]
 simp only [Option.bind_some, decide_eq_true_eq]
 by_cases h : (0 ≤ f ∧ f ≤ 100000) ∧ 0 ≤ t ∧ t ≤ 100000
 ·rw [if_pos h]; by_cases h2 : f ≤ t <;> simp [h, h2]
 ·rw [if_neg h]; simp [h]
theorem runHours_eq (x : S144) (m f t : Int) : mill_run_hours.f x.f0 x.f1 x.f2 x.f3 x.f4 m f t = some ((hoursR x m f t).1, (hoursR x m f t).2) := by
 unfold mill_run_hours.f hoursR; split <;> rfl
set_option maxHeartbeats 40000000 in
set_option maxRecDepth 100000 in
theorem shop_causes.calls (A0 : Option Addr) (c0 : Nat) (l : List S144) (m f t : Int) (w : World) (hC : Kd.C k144 w A0 l.length l) (hc0 : l.length ≤ c0) (hlen : l.length ≤ 100) (hl : ∀ x ∈ l, okRun x) :
  Calls Try.prog 69 #[.slice A0 l.length c0, .agg #[.int .i64 m, .int .i64 f, .int .i64 t]] w fun e w' => ∃ v, e = .returned (.tuple #[v, .int .i64 (causesE l m f t)]) ∧ Below w.heap.size w w' ∧
   (causesE l m f t ≠ 0 → v = .map none) ∧ (causesE l m f t = 0 → ∃ B n, v = .map (some B) ∧ w.heap.size ≤ B ∧ w'.ownsMap Try.prog 79 (plainElem Try.prog 4) B n (setC (allKeys l m f t))) := by
 have hmm := @run_makeMap Try.prog
 by_cases g1 : 0 ≤ m ∧ m ≤ 1000
 rotate_left
 ·have g1b : decide (0 ≤ m ∧ m ≤ 1000) = false := decide_eq_false g1
  have e0 : causesE l m f t = 2 := by unfold causesE; rw [if_pos (fun q => g1 q.1)]
  rw [e0]
  replace g1 := Aside0.mk g1
  go_enter Try.func69, Try.ntmps69
  go_wp2_with (first | ((with_reducible refine gate_dst (N := 3) rfl ?_); refine box_event ?hg (N := 3) ?hd (cs := #[.int .i64 m, .int .i64 f, .int .i64 t]) (t := 58) ?hr ?_; (case hd => rfl); (case hg => rfl); (case hr => first | (go_simp; done) | (go_simp; rfl)); intro b3 hg3 w2 hL hb3; have hge3 : w.heap.size ≤ b3 := Nat.le_of_eq hg3.symm; have hB := below_step (Below.refl w.heap.size w) hb3; obtain ⟨z0, z1, z2⟩ := bc3 hL; clear hg3 hb3) | ((with_reducible refine gate_dst (N := 14) rfl ?_); refine Kd.R_lit (Kd.int .i64) _ 3 ?hg (N := 14) ?hd (xs := ([m] : List Int)) (inner := [.int .i64 m]) (ok := fun _ => True) (okp := fun _ => True) ?hr ?hp (fun _ hk => hk) trivial (Below.refl _ _) (Nat.le_refl _) (by simp) ?_; (case hd => rfl); (case hg => rfl); (case hr => first | (go_simp; done) | (go_simp; rfl)); (case hp => exact (Reps.one (show Kd.M (Kd.int .i64) _ _ _ m [.int .i64 m] from rfl) (Reps.none _ _))); intro v14 w3 ho14 hb14 hg_ hnew_; clear hg_ hnew_; obtain ⟨A14, c14, rfl⟩ := Kd.R_slice ho14; replace hL := blk_below hL hb14; have hB := below_step hB hb14; clear z0 z1 z2; obtain ⟨z0, z1, z2⟩ := bc3 hL; clear hb14) | (go_at_call 90; refine (mill_isNumber.calls A14 c14 [m] _ _ (Kd.R_reads' ho14).2.2 (Kd.R_reads' ho14).2.1 (isNumber_eq m)).mono ?_; rintro e w4 ⟨rfl, hb⟩; replace hL := blk_below hL hb; have hB := below_step hB hb; clear z0 z1 z2; obtain ⟨z0, z1, z2⟩ := bc3 hL; clear hb))
  go_ret2
  exact ⟨_, rfl, hB, fun _ => rfl, fun q => absurd q (by decide)⟩
 have g1b : decide (0 ≤ m ∧ m ≤ 1000) = true := decide_eq_true g1
 by_cases g2 : ((0 ≤ f ∧ f ≤ 100000) ∧ 0 ≤ t ∧ t ≤ 100000) ∧ f ≤ t
 rotate_left
 ·have g2b : decide (((0 ≤ f ∧ f ≤ 100000) ∧ 0 ≤ t ∧ t ≤ 100000) ∧ f ≤ t) = false := decide_eq_false g2
  have e0 : causesE l m f t = 2 := by unfold causesE; rw [if_pos (fun q => g2 ⟨q.2.1, q.2.2⟩)]
  rw [e0]
  replace g1 := Aside0.mk g1
  replace g2 := Aside0.mk g2
  go_enter Try.func69, Try.ntmps69
  go_wp2_with (first | ((with_reducible refine gate_dst (N := 3) rfl ?_); refine box_event ?hg (N := 3) ?hd (cs := #[.int .i64 m, .int .i64 f, .int .i64 t]) (t := 58) ?hr ?_; (case hd => rfl); (case hg => rfl); (case hr => first | (go_simp; done) | (go_simp; rfl)); intro b3 hg3 w2 hL hb3; have hge3 : w.heap.size ≤ b3 := Nat.le_of_eq hg3.symm; have hB := below_step (Below.refl w.heap.size w) hb3; obtain ⟨z0, z1, z2⟩ := bc3 hL; clear hg3 hb3) | ((with_reducible refine gate_dst (N := 14) rfl ?_); refine Kd.R_lit (Kd.int .i64) _ 3 ?hg (N := 14) ?hd (xs := ([m] : List Int)) (inner := [.int .i64 m]) (ok := fun _ => True) (okp := fun _ => True) ?hr ?hp (fun _ hk => hk) trivial (Below.refl _ _) (Nat.le_refl _) (by simp) ?_; (case hd => rfl); (case hg => rfl); (case hr => first | (go_simp; done) | (go_simp; rfl)); (case hp => exact (Reps.one (show Kd.M (Kd.int .i64) _ _ _ m [.int .i64 m] from rfl) (Reps.none _ _))); intro v14 w3 ho14 hb14 hg_ hnew_; clear hg_ hnew_; obtain ⟨A14, c14, rfl⟩ := Kd.R_slice ho14; replace hL := blk_below hL hb14; have hB := below_step hB hb14; clear z0 z1 z2; obtain ⟨z0, z1, z2⟩ := bc3 hL; clear hb14) | (go_at_call 90; refine (mill_isNumber.calls A14 c14 [m] _ _ (Kd.R_reads' ho14).2.2 (Kd.R_reads' ho14).2.1 (isNumber_eq m)).mono ?_; rintro e w4 ⟨rfl, hb⟩; replace hL := blk_below hL hb; have hB := below_step hB hb; clear z0 z1 z2; obtain ⟨z0, z1, z2⟩ := bc3 hL; clear hb) | (go_at_call 91; refine (mill_areHours.calls f t _ _ (areHours_eq f t)).mono ?_; rintro e w5 ⟨rfl, hb⟩; replace hL := blk_below hL hb; have hB := below_step hB hb; clear z0 z1 z2; obtain ⟨z0, z1, z2⟩ := bc3 hL; clear hb))
  go_ret2
  exact ⟨_, rfl, hB, fun _ => rfl, fun q => absurd q (by decide)⟩
 have g2b : decide (((0 ≤ f ∧ f ≤ 100000) ∧ 0 ≤ t ∧ t ≤ 100000) ∧ f ≤ t) = true := decide_eq_true g2
 have g3 : okLot m f t := ⟨g1, g2.1, g2.2⟩
 replace g1 := Aside0.mk g1
 replace g2 := Aside0.mk g2
 replace g3 := Aside0.mk g3
 go_enter Try.func69, Try.ntmps69
 go_wp2_with (first | ((with_reducible refine gate_dst (N := 3) rfl ?_); refine box_event ?hg (N := 3) ?hd (cs := #[.int .i64 m, .int .i64 f, .int .i64 t]) (t := 58) ?hr ?_; (case hd => rfl); (case hg => rfl); (case hr => first | (go_simp; done) | (go_simp; rfl)); intro b3 hg3 w2 hL hb3; have hge3 : w.heap.size ≤ b3 := Nat.le_of_eq hg3.symm; have hB := below_step (Below.refl w.heap.size w) hb3; obtain ⟨z0, z1, z2⟩ := bc3 hL; clear hg3 hb3) | ((with_reducible refine gate_dst (N := 14) rfl ?_); refine Kd.R_lit (Kd.int .i64) _ 3 ?hg (N := 14) ?hd (xs := ([m] : List Int)) (inner := [.int .i64 m]) (ok := fun _ => True) (okp := fun _ => True) ?hr ?hp (fun _ hk => hk) trivial (Below.refl _ _) (Nat.le_refl _) (by simp) ?_; (case hd => rfl); (case hg => rfl); (case hr => first | (go_simp; done) | (go_simp; rfl)); (case hp => exact (Reps.one (show Kd.M (Kd.int .i64) _ _ _ m [.int .i64 m] from rfl) (Reps.none _ _))); intro v14 w3 ho14 hb14 hg_ hnew_; clear hg_ hnew_; obtain ⟨A14, c14, rfl⟩ := Kd.R_slice ho14; replace hL := blk_below hL hb14; have hB := below_step hB hb14; clear z0 z1 z2; obtain ⟨z0, z1, z2⟩ := bc3 hL; clear hb14) | (go_at_call 90; refine (mill_isNumber.calls A14 c14 [m] _ _ (Kd.R_reads' ho14).2.2 (Kd.R_reads' ho14).2.1 (isNumber_eq m)).mono ?_; rintro e w4 ⟨rfl, hb⟩; replace hL := blk_below hL hb; have hB := below_step hB hb; clear z0 z1 z2; obtain ⟨z0, z1, z2⟩ := bc3 hL; clear hb) | (go_at_call 91; refine (mill_areHours.calls f t _ _ (areHours_eq f t)).mono ?_; rintro e w5 ⟨rfl, hb⟩; replace hL := blk_below hL hb; have hB := below_step hB hb; clear z0 z1 z2; obtain ⟨z0, z1, z2⟩ := bc3 hL; clear hb))
 have hown0 : (w5.alloc (.map #[] 0)).ownsMap Try.prog 79 (plainElem (H := Unit) Try.prog 4) w5.heap.size 0 (setC (allKeys (l.take 0) m f t)) := by rw [List.take_zero, show allKeys [] m f t = [] from rfl, setC_nil]; exact World.ownsMap_made _ _ _ _
 have hneB : b3 ≠ w5.heap.size := Nat.ne_of_lt (blk_lt hL)
 have hBge : w.heap.size ≤ w5.heap.size := below_size hB
 replace hL := blk_alloc hL (.map #[] 0)
 replace hB := below_alloc hB (.map #[] 0)
 generalize w5.alloc (.map #[] 0) = w6 at hown0 hL hB ⊢
 generalize w5.heap.size = B at hown0 hneB hBge ⊢
 clear z0 z1 z2 ho14
 go_loopw [28] (fun v28 wr => ∃ (i n : Nat), i ≤ l.length ∧ v28 = .int .i64 i ∧ n ≤ 1010 * i ∧ (∀ x ∈ l.take i, ¬ longRun x m f t) ∧ wr.ownsMap Try.prog 79 (plainElem (H := Unit) Try.prog 4) B n (setC (allKeys (l.take i) m f t)) ∧
   wr.heap[b3]? = some (.cells #[.int .i64 m, .int .i64 f, .int .i64 t] 58 (0, 0)) ∧ Below w.heap.size w wr)
  (fun v28 _ => l.length - (intOf v28).toNat)
 case atStart => exact ⟨0, 0, Nat.zero_le _, rfl, Nat.zero_le _, (fun x hx => by simp at hx), hown0, hL, hB⟩
 case round =>
  clear hown0 hL hB
  obtain ⟨i, n, hi, rfl, hn, hno, hown, hL, hB⟩ := hrel
  by_cases hlt : i < l.length
  rotate_left
  ·have p2n : decide (i < l.length) = false := decide_eq_false hlt
   have hil : i = l.length := by omega
   rw [hil, List.take_length] at hno hown
   clear hil hn
   replace hlt := Aside0.mk hlt
   have hok : ∀ x ∈ allKeys l m f t, okC x := allKeys_ok hl g3.out
   have hs := size_setC hok
   by_cases c1 : (distinctC (allKeys l m f t)).length > 1000
   ·have e0 : causesE l m f t = 5 := by unfold causesE; rw [if_neg (fun q => q g3.out), if_neg (fun ⟨x, hx, hq⟩ => hno x hx hq), if_pos c1]
    have c1b : decide (1000 < Maps.size (setC (allKeys l m f t))) = true := decide_eq_true (by omega)
    have c1c : decide ((1000 : Int) < (Maps.size (setC (allKeys l m f t)) : Int)) = true := decide_eq_true (by omega)
    replace c1 := Aside0.mk c1
    replace hs := Aside0.mk hs
    clear hno hok
    go_wp2_with (first | (at_len; refine wpList_len_own _ rfl _ 149 rfl 79 4 Try.underlying149 _ B n _ rfl hown ?_) | go_in)
    go_ret2
    rw [e0]
    exact ⟨_, rfl, hB, fun _ => rfl, fun q => absurd q (by decide)⟩
   ·have e0 : causesE l m f t = 0 := by unfold causesE; rw [if_neg (fun q => q g3.out), if_neg (fun ⟨x, hx, hq⟩ => hno x hx hq), if_neg c1]
    have c1b : decide (1000 < Maps.size (setC (allKeys l m f t))) = false := decide_eq_false (by omega)
    have c1c : decide ((1000 : Int) < (Maps.size (setC (allKeys l m f t)) : Int)) = false := decide_eq_false (by omega)
    replace c1 := Aside0.mk c1
    replace hs := Aside0.mk hs
    clear hno hok
    go_wp2_with (first | (at_len; refine wpList_len_own _ rfl _ 149 rfl 79 4 Try.underlying149 _ B n _ rfl hown ?_) | go_in)
    go_ret2
    rw [e0]
    exact ⟨_, rfl, hB, fun q => absurd rfl q, fun _ => ⟨B, n, rfl, hBge, hown⟩⟩
  have p2n : decide (i < l.length) = true := decide_eq_true hlt
  have p2t := eq_true hlt
  obtain ⟨ad, e1, hx0, hx1, hx2, hx3, hx4⟩ := at_T144 (Kd.C_below hC hB) (i : Int) (by omega) (by omega)
  cases e1
  rw [Int.toNat_natCast] at hx0 hx1 hx2 hx3 hx4
  have hxi : rd_T144 l (i : Int) = l[i] := by simp [rd_T144, hlt]
  have hxr : okRun (rd_T144 l (i : Int)) := by rw [hxi]; exact hl _ (List.getElem_mem hlt)
  have htk : l.take (i + 1) = l.take i ++ [rd_T144 l (i : Int)] := by rw [List.take_succ_eq_append_getElem hlt, hxi]
  generalize rd_T144 l (i : Int) = x at hx0 hx1 hx2 hx3 hx4 hxi hxr htk
  obtain ⟨x0, x1, x2, x3, x4⟩ := x
  dsimp only at hx0 hx1 hx2 hx3 hx4
  replace hlt := Aside0.mk hlt
  replace hxr := Aside0.mk hxr
  replace htk := Aside0.mk htk
  replace hxi := Aside0.mk hxi
  replace hno := Aside0.mk hno
  go_upto_region 7 with (first | ((with_reducible refine gate_dst (N := 8) rfl ?_); refine box_event ?hg (N := 8) ?hd (cs := #[.int .i64 0, .int .i64 0, .int .i64 0, .int .i64 0, .int .i64 0]) (t := 144) ?hr ?_; (case hd => rfl); (case hg => rfl); (case hr => first | (go_simp; done) | (go_simp; rfl)); intro g8 hg8 w7 hb8 hbb; have hge8 : wr.heap.size ≤ g8 := Nat.le_of_eq hg8.symm; clear hg8; obtain ⟨y0, y1, y2, y3, y4⟩ := bc5 hb8; obtain ⟨f0, f1, f2, f3, f4⟩ := bf5 hb8))
  have hx8 : (((((w7.setCell ⟨g8, 0, none⟩ (.int .i64 x0)).setCell ⟨g8, 1, none⟩ (.int .i64 x1)).setCell ⟨g8, 2, none⟩ (.int .i64 x2)).setCell ⟨g8, 3, none⟩ (.int .i64 x3)).setCell ⟨g8, 4, none⟩ (.int .i64 x4)).heap[g8]? = some (.cells #[.int .i64 x0, .int .i64 x1, .int .i64 x2, .int .i64 x3, .int .i64 x4] 144 (0, 0)) := bto (bput (bput (bput (bput (bput hb8 0 _) 1 _) 2 _) 3 _) 4 _) rfl
  have hbs : Below wr.heap.size wr (((((w7.setCell ⟨g8, 0, none⟩ (.int .i64 x0)).setCell ⟨g8, 1, none⟩ (.int .i64 x1)).setCell ⟨g8, 2, none⟩ (.int .i64 x2)).setCell ⟨g8, 3, none⟩ (.int .i64 x3)).setCell ⟨g8, 4, none⟩ (.int .i64 x4)) := below_set (below_set (below_set (below_set (below_set hbb hge8) hge8) hge8) hge8) hge8
  have hne8 : g8 ≠ B := Nat.ne_of_gt (Nat.lt_of_lt_of_le hown.lt hge8)
  clear y0 y1 y2 y3 y4 f0 f1 f2 f3 f4 hb8 hbb
  generalize ((((w7.setCell ⟨g8, 0, none⟩ (.int .i64 x0)).setCell ⟨g8, 1, none⟩ (.int .i64 x1)).setCell ⟨g8, 2, none⟩ (.int .i64 x2)).setCell ⟨g8, 3, none⟩ (.int .i64 x3)).setCell ⟨g8, 4, none⟩ (.int .i64 x4) = w8 at hx8 hbs ⊢
  replace hown := hown.kept (grown_of_below hbs none) (by simp)
  replace hL := blk_below hL hbs
  replace hB := below_step hB hbs
  clear hbs hx0 hx1 hx2 hx3 hx4
  have hpb := hoursR_b hxr.out g3.out
  have hrk : runKeys ⟨x0, x1, x2, x3, x4⟩ m f t = if (hoursR ⟨x0, x1, x2, x3, x4⟩ m f t).1 > (hoursR ⟨x0, x1, x2, x3, x4⟩ m f t).2 then [] else [⟨1, 0, x3⟩, ⟨2, 0, x4⟩] ++ hourKeys x0 (hoursR ⟨x0, x1, x2, x3, x4⟩ m f t).1 ((hoursR ⟨x0, x1, x2, x3, x4⟩ m f t).2 + 1 - (hoursR ⟨x0, x1, x2, x3, x4⟩ m f t).1).toNat := rfl
  have hlr : longRun ⟨x0, x1, x2, x3, x4⟩ m f t ↔ (hoursR ⟨x0, x1, x2, x3, x4⟩ m f t).1 ≤ (hoursR ⟨x0, x1, x2, x3, x4⟩ m f t).2 ∧ (hoursR ⟨x0, x1, x2, x3, x4⟩ m f t).2 - (hoursR ⟨x0, x1, x2, x3, x4⟩ m f t).1 ≥ 1000 := Iff.rfl
  have hrh := runHours_eq ⟨x0, x1, x2, x3, x4⟩ m f t
  generalize (hoursR ⟨x0, x1, x2, x3, x4⟩ m f t).1 = p at hpb hrk hlr hrh
  generalize (hoursR ⟨x0, x1, x2, x3, x4⟩ m f t).2 = q at hpb hrk hlr hrh
  obtain ⟨z0, z1, z2⟩ := bc3 hL
  obtain ⟨y0, y1, y2, y3, y4⟩ := bc5 hx8
  have hall : allKeys (l.take (i + 1)) m f t = allKeys (l.take i) m f t ++ runKeys ⟨x0, x1, x2, x3, x4⟩ m f t := by rw [htk.out]; simp [allKeys]
  replace hall := Aside0.mk hall
  replace hrk := Aside0.mk hrk
  replace hlr := Aside0.mk hlr
  replace hrh := Aside0.mk hrh
  by_cases c1 : p > q
  ·have c1b : decide (q < p) = true := decide_eq_true c1
   have e1 : allKeys (l.take (i + 1)) m f t = allKeys (l.take i) m f t := by rw [hall.out, hrk.out, if_pos c1, List.append_nil]
   have hno' : ∀ x ∈ l.take (i + 1), ¬ longRun x m f t := by
    intro x hx
    rw [htk.out] at hx
    rcases List.mem_append.1 hx with h | h
    ·exact hno.out x h
    ·rw [List.mem_singleton] at h; subst h; intro hq; have := hlr.out.1 hq; omega
   replace c1 := Aside0.mk c1
   replace e1 := Aside0.mk e1
   replace hno' := Aside0.mk hno'
   go_wp2_with (go_at_call 68; refine (mill_run_hours.calls x0 x1 x2 x3 x4 m f t p q _ hrh.out).mono ?_; rintro e w9 ⟨rfl, hb⟩; replace hown := hown.kept (grown_of_below hb none) (by simp); replace hL := blk_below hL hb; replace hx8 := blk_below hx8 hb; replace hB := below_step hB hb; clear hb z0 z1 z2 y0 y1 y2 y3 y4; obtain ⟨y0, y1, y2, y3, y4⟩ := bc5 hx8)
   go_roundw
   case rel => exact ⟨i + 1, n, by have := of_eq_true p2t; omega, by go_num, by omega, hno'.out, by rw [e1.out]; exact hown, hL, hB⟩
   case measure => have := of_eq_true p2t; simp [intOf]; omega
  have c1b : decide (q < p) = false := decide_eq_false c1
  have hwq : wrap64 (q - p) = q - p := by unfold wrap64; omega
  by_cases c2 : q - p ≥ 1000
  ·have c2b : decide (1000 ≤ q - p) = true := decide_eq_true c2
   have e0 : causesE l m f t = 5 := by
    unfold causesE
    rw [if_neg (fun q => q g3.out), if_pos ⟨⟨x0, x1, x2, x3, x4⟩, by rw [hxi.out]; exact List.getElem_mem _, hlr.out.2 ⟨by omega, c2⟩⟩]
   replace c1 := Aside0.mk c1
   replace c2 := Aside0.mk c2
   replace e0 := Aside0.mk e0
   go_wp2_with (go_at_call 68; refine (mill_run_hours.calls x0 x1 x2 x3 x4 m f t p q _ hrh.out).mono ?_; rintro e w9 ⟨rfl, hb⟩; replace hown := hown.kept (grown_of_below hb none) (by simp); replace hL := blk_below hL hb; replace hx8 := blk_below hx8 hb; replace hB := below_step hB hb; clear hb z0 z1 z2 y0 y1 y2 y3 y4; obtain ⟨y0, y1, y2, y3, y4⟩ := bc5 hx8)
   go_ret2
   rw [e0.out]
   exact ⟨_, rfl, hB, fun _ => rfl, fun q => absurd q (by decide)⟩
  have c2b : decide (1000 ≤ q - p) = false := decide_eq_false c2
  have hrk2 : runKeys ⟨x0, x1, x2, x3, x4⟩ m f t = [⟨1, 0, x3⟩, ⟨2, 0, x4⟩] ++ hourKeys x0 p (q + 1 - p).toNat := by rw [hrk.out, if_neg c1]
  have hno' : ∀ x ∈ l.take (i + 1), ¬ longRun x m f t := by
   intro x hx
   rw [htk.out] at hx
   rcases List.mem_append.1 hx with h | h
   ·exact hno.out x h
   ·rw [List.mem_singleton] at h; subst h; intro hq; have := hlr.out.1 hq; omega
  have hk1 : keyOf Try.prog 79 (.agg #[.int .i64 1, .int .i64 0, .int .i64 x3]) = some (litC ⟨1, 0, x3⟩) := key79 (okC_mk (by omega) (by omega) (by have h : 0 ≤ x3 ∧ x3 ≤ 1000 := hxr.out.2.1; omega))
  have hk2 : keyOf Try.prog 79 (.agg #[.int .i64 2, .int .i64 0, .int .i64 x4]) = some (litC ⟨2, 0, x4⟩) := key79 (okC_mk (by omega) (by omega) (by have h : 0 ≤ x4 ∧ x4 ≤ 1000 := hxr.out.2.2.1; omega))
  have hn2 : n + 2 < maxLen := by unfold maxLen; have := of_eq_true p2t; omega
  have hs2 : setC (allKeys (l.take i) m f t ++ [⟨1, 0, x3⟩, ⟨2, 0, x4⟩]) = ((setC (allKeys (l.take i) m f t)).put (litC ⟨1, 0, x3⟩) (.lit (.bool true))).put (litC ⟨2, 0, x4⟩) (.lit (.bool true)) := by
   rw [show allKeys (l.take i) m f t ++ [⟨1, 0, x3⟩, ⟨2, 0, x4⟩] = (allKeys (l.take i) m f t ++ [⟨1, 0, x3⟩]) ++ [⟨2, 0, x4⟩] by simp, setC_snoc, setC_snoc]
  replace c1 := Aside0.mk c1
  replace c2 := Aside0.mk c2
  replace hrk2 := Aside0.mk hrk2
  replace hno' := Aside0.mk hno'
  replace hs2 := Aside0.mk hs2
  replace hk1 := Aside0.mk hk1
  replace hk2 := Aside0.mk hk2
  go_wp2_with (first | (go_at_call 68; refine (mill_run_hours.calls x0 x1 x2 x3 x4 m f t p q _ hrh.out).mono ?_; rintro e w9 ⟨rfl, hb⟩; replace hown := hown.kept (grown_of_below hb none) (by simp); replace hL := blk_below hL hb; replace hx8 := blk_below hx8 hb; replace hB := below_step hB hb; clear hb z0 z1 z2 y0 y1 y2 y3 y4; obtain ⟨y0, y1, y2, y3, y4⟩ := bc5 hx8) | (at_mapUpdate; refine wpList_mapUpdate_own _ rfl _ _ _ 149 rfl 79 4 law79 Try.underlying149 (plainElem (H := Unit) Try.prog 4) B n _ rfl hown (by have := hn2; omega) _ _ _ rfl rfl hk1.out _ [] (plainElem_bool Try.underlying4 true) ?_; intro w10 hown1 hgrow1; replace hL := blk_grown hL hgrow1 (by simpa using hneB); replace hx8 := blk_grown hx8 hgrow1 (by simpa using hne8); clear y0 y1 y2 y3 y4; obtain ⟨y0, y1, y2, y3, y4⟩ := bc5 hx8) | (at_mapUpdate; refine wpList_mapUpdate_own _ rfl _ _ _ 149 rfl 79 4 law79 Try.underlying149 (plainElem (H := Unit) Try.prog 4) B (n + 1) _ rfl hown1 (by have := hn2; omega) _ _ _ rfl rfl hk2.out _ [] (plainElem_bool Try.underlying4 true) ?_; intro w11 hown2 hgrow2; replace hL := blk_grown hL hgrow2 (by simpa using hneB); replace hx8 := blk_grown hx8 hgrow2 (by simpa using hne8); clear y0 y1 y2 y3 y4; obtain ⟨y0, y1, y2, y3, y4⟩ := bc5 hx8))
  have hB2 : Below w.heap.size w w11 := (hB.grown hgrow1 hB.size (fun j hj => by cases hj; exact hBge)).grown hgrow2 (hB.grown hgrow1 hB.size (fun j hj => by cases hj; exact hBge)).size (fun j hj => by cases hj; exact hBge)
  clear hB hgrow1 hgrow2 hown hown1 y0 y1 y2 y3 y4
  have hx0b : 0 ≤ x0 ∧ x0 ≤ 1000 := hxr.out.1
  replace hk1 := trivial
  replace hk2 := trivial
  go_loopw [11] (fun v11 wv => ∃ (j nj : Nat), v11 = .int .i64 (p + (j : Int)) ∧ (j : Int) ≤ q + 1 - p ∧ nj ≤ n + 2 + j ∧ wv.ownsMap Try.prog 79 (plainElem (H := Unit) Try.prog 4) B nj (setC (allKeys (l.take i) m f t ++ [⟨1, 0, x3⟩, ⟨2, 0, x4⟩] ++ hourKeys x0 p j)) ∧
    wv.heap[b3]? = some (.cells #[.int .i64 m, .int .i64 f, .int .i64 t] 58 (0, 0)) ∧ wv.heap[g8]? = some (.cells #[.int .i64 x0, .int .i64 x1, .int .i64 x2, .int .i64 x3, .int .i64 x4] 144 (0, 0)) ∧ Below w.heap.size w wv)
   (fun v11 _ => (q + 1 - intOf v11).toNat)
  case atStart => exact ⟨0, n + 1 + 1, by simp, by have := c1.out; omega, by omega, by rw [hourKeys, List.append_nil, hs2.out]; exact hown2, hL, hx8, hB2⟩
  case round =>
   clear hown2 hL hx8 hB2
   obtain ⟨j, nj, rfl, hj, hnj, hown, hL, hx8, hB⟩ := hrel
   by_cases hjq : p + (j : Int) ≤ q
   ·have hjb : decide (p + (j : Int) ≤ q) = true := decide_eq_true hjq
    have hk3 : keyOf Try.prog 79 (.agg #[.int .i64 3, .int .i64 x0, .int .i64 (p + (j : Int))]) = some (litC ⟨3, x0, p + (j : Int)⟩) := key79 (okC_mk (by omega) (by omega) (by omega))
    have hwj : wrap64 (p + (j : Int) + 1) = p + (j : Int) + 1 := by unfold wrap64; omega
    have hn3 : nj < maxLen := by have := hn2; unfold maxLen at *; omega
    obtain ⟨y0, y1, y2, y3, y4⟩ := bc5 hx8
    replace hk3 := Aside0.mk hk3
    replace hwj := Aside0.mk hwj
    go_wp2_with (at_mapUpdate; refine wpList_mapUpdate_own _ rfl _ _ _ 149 rfl 79 4 law79 Try.underlying149 (plainElem (H := Unit) Try.prog 4) B nj _ rfl hown hn3 _ _ _ rfl rfl hk3.out _ [] (plainElem_bool Try.underlying4 true) ?_; intro w12 hown3 hgrow3)
    go_roundw
    case rel => exact ⟨j + 1, nj + 1, by first | (rw [hwj.out]; congr 1; omega) | (congr 1; omega), by omega, by omega, by rw [hourKeys, ← List.append_assoc, setC_snoc]; exact hown3, blk_grown hL hgrow3 (by simpa using hneB), blk_grown hx8 hgrow3 (by simpa using hne8), hB.grown hgrow3 hB.size (fun j hj => by cases hj; exact hBge)⟩
    case measure => simp [intOf]; omega
   ·have hjb : decide (p + (j : Int) ≤ q) = false := decide_eq_false hjq
    have hjj : j = (q + 1 - p).toNat := by omega
    have e2 : allKeys (l.take (i + 1)) m f t = allKeys (l.take i) m f t ++ [⟨1, 0, x3⟩, ⟨2, 0, x4⟩] ++ hourKeys x0 p j := by rw [hall.out, hrk2.out, hjj, List.append_assoc]
    have hnn : nj ≤ 1010 * (i + 1) := by have := c2.out; omega
    replace hjq := Aside0.mk hjq
    replace e2 := Aside0.mk e2
    replace hjj := Aside0.mk hjj
    go_wp2
    go_roundw
    case rel => exact ⟨i + 1, nj, by have := of_eq_true p2t; omega, by go_num, hnn, hno'.out, by rw [e2.out]; exact hown, hL, hB⟩
    case measure => have := of_eq_true p2t; simp [intOf]; omega
end Go.Proofs.Ytiaiecfnpompcaa.T
namespace Go.Proofs.Ytiaiecfnpompcaa.T
open Go.RowKit Go.Proofs.YtiaiecfnpompcaaW.PrintWords Go.Proofs.YtiaiecfnpompcaaW.PrintLast Go.Proofs.YtiaiecfnpompcaaW.PrintMore
attribute [local go_sem] max2_int min2_int max_two min_two max_three min_three max_four min_four   -- for this text's walks alone
set_option linter.unusedVariables false
set_option linter.unusedSimpArgs false
attribute [local go_sem] wl_100001

def mill_run_isValid.f (a0_0 : Int) (a0_1 : Int) (a0_2 : Int) (a0_3 : Int) (a0_4 : Int) : Option (Bool) := (mill_isNumber.f (([a0_0, a0_3, a0_4] : List Int))).bind fun t160 => (if t160 = true then ((mill_areHours.f a0_1 a0_2).bind fun t161 => (some t161)) else (some false))
set_option maxHeartbeats 8000000 in
set_option maxRecDepth 100000 in
theorem mill_run_isValid.calls (a0_0 : Int) (a0_1 : Int) (a0_2 : Int) (a0_3 : Int) (a0_4 : Int) (r : Bool) (w : World) (h : mill_run_isValid.f a0_0 a0_1 a0_2 a0_3 a0_4 = some r) :
  Calls Try.prog 67 #[.agg #[.int .i64 a0_0, .int .i64 a0_1, .int .i64 a0_2, .int .i64 a0_3, .int .i64 a0_4]] w fun e w' => e = .returned (.bool r) ∧ Below w.heap.size w w' := by
 have hu146 := Try.underlying146
 have HB := Aside0.mk (Below.refl w.heap.size w)
 have H : ((mill_isNumber.f (([a0_0, a0_3, a0_4] : List Int))).bind fun t160 => (if t160 = true then ((mill_areHours.f a0_1 a0_2).bind fun t161 => (some t161)) else (some false))) = some r := h
 clear h
 obtain ⟨y157, hy157⟩ : ∃ y_ : List Int, y_ = (([a0_0, a0_3, a0_4] : List Int)) := ⟨_, rfl⟩
 replace H : ((mill_isNumber.f y157).bind fun t160 => (if t160 = true then ((mill_areHours.f a0_1 a0_2).bind fun t161 => (some t161)) else (some false))) = some r := by first | (rw [hy157]; with_reducible exact H) | (have H2_ := (Option.bind_some _ _).symm.trans H; rw [hy157]; with_reducible exact H2_) | (have H2_ := (Option.bind_some _ _).symm.trans H; with_reducible exact H2_) | with_reducible exact H | (rw [hy157]; exact H) | exact H
 have Ny157 := Aside0.mk hy157
 clear hy157
 replace H := Option.bind_eq_some_iff.mp H
 obtain ⟨t160, A20, H⟩ := H; (try dsimp only at H)
 have A2 := Aside0.mk A20
 clear A20
 by_cases c3 : t160 = true
 ·subst c3
  have H1 : ((mill_areHours.f a0_1 a0_2).bind fun t161 => (some t161)) = some r := by rw [if_pos rfl] at H; exact H
  clear H
  have H := H1
  clear H1
  replace H := Option.bind_eq_some_iff.mp H
  obtain ⟨t161, A40, H⟩ := H; (try dsimp only at H)
  have A4 := Aside0.mk A40
  clear A40
  obtain rfl := Option.some.inj H
  go_enter Try.func67, Try.ntmps67
  go_wp2_with (first | ((with_reducible refine gate_dst (N := 1) rfl ?_); refine box_event ?hg (N := 1) ?hd (cs := #[.int .i64 a0_0, .int .i64 a0_1, .int .i64 a0_2, .int .i64 a0_3, .int .i64 a0_4]) (t := 146) ?hr ?_; (case hd => rfl); (case hg => rfl); (case hr => first | (go_simp; done) | (go_simp; rfl)); intro gb156 hg w5 hbox hb; have BK156 := Aside0.mk (hbox); have GW156 := Aside0.mk ((by rw [hg]; exact (below_size HB.out) : w.heap.size ≤ gb156)); have GE156 := GW156; replace HB := Aside0.mk (below_step HB.out hb); clear hb hbox hg; obtain ⟨hcz6_0, hcz6_1, hcz6_2, hcz6_3, hcz6_4⟩ := bc5 BK156.out; obtain ⟨hfz6_0, hfz6_1, hfz6_2, hfz6_3, hfz6_4⟩ := bf5 BK156.out) | ((with_reducible refine gate_dst (N := 12) rfl ?_); refine Kd.R_lit (Kd.int .i64) _ 3 ?hg (N := 12) ?hd (xs := ([a0_0, a0_3, a0_4] : List Int)) (inner := [.int .i64 a0_0, .int .i64 a0_3, .int .i64 a0_4]) (ok := fun _ => True) (okp := fun _ => True) ?hr ?hp (fun _ hk => hk) trivial (Below.refl _ _) (Nat.le_refl _) (by simp) ?_; (case hd => rfl); (case hg => rfl); (case hr => first | (go_simp; done) | (go_simp; rfl)); (case hp => exact (Reps.one (show Kd.M (Kd.int .i64) _ _ _ a0_0 [.int .i64 a0_0] from rfl) (Reps.one (show Kd.M (Kd.int .i64) _ _ _ a0_3 [.int .i64 a0_3] from rfl) (Reps.one (show Kd.M (Kd.int .i64) _ _ _ a0_4 [.int .i64 a0_4] from rfl) (Reps.none _ _))))); intro v158 w7 ho8 hb hg_ hnew_; clear hg_ hnew_; (first | rw [← Ny157.out] at ho8 | (simp only [Int.reduceToNat] at ho8; rw [← Ny157.out] at ho8)); have HO159 := Aside0.mk (Kd.R_lower ho8 (below_size (by repeat (first | (with_reducible first | exact HB.out | apply below_alloc | apply pw_below_drewN | apply below_drew1 | refine below_set ?_ (Aside0.out (by assumption))) | exact HB.out)))); replace BK156 := Aside0.mk (blk_below (g := gb156) (o := .cells #[.int .i64 a0_0, .int .i64 a0_1, .int .i64 a0_2, .int .i64 a0_3, .int .i64 a0_4] 146 (0, 0)) (by repeat (first | (with_reducible first | exact BK156.out | refine blk_drewN ?_ _ | refine blk_drew ?_ | refine blk_alloc ?_ _) | exact BK156.out)) hb); replace HB := Aside0.mk (below_step (by repeat (first | (with_reducible first | exact HB.out | apply below_alloc | apply pw_below_drewN | apply below_drew1 | refine below_set ?_ (Aside0.out (by assumption))) | exact HB.out)) hb); clear hb ho8; obtain ⟨Ao9, co9, eo9⟩ := Kd.R_slice HO159.out; subst eo9) | ((with_reducible refine gate_callee (f := 90) rfl ?_); refine goesL_ (some 13) rfl rfl Try.func90 (by kernel_rfl) rfl #[.slice Ao9 y157.length co9] rfl (by (try simp only [List.map_toArray, List.map_cons, List.map_nil]); first | done | rfl | (simp only [List.length_drop, List.length_take]; rfl)) ?_; (with_reducible refine (mill_isNumber.calls _ _ y157 true _ ?side1 ?side2 A2.out).mono ?_); (case side1 => repeat (first | exact (Kd.R_reads' HO159.out).2.2 | (with_reducible refine Kd.C_alloc ?_ _) | (with_reducible refine Kd.C_drewN ?_ _) | (with_reducible refine Kd.C_drew ?_))); (case side2 => exact (Kd.R_reads' HO159.out).2.1); rintro e w10 ⟨rfl, hb⟩; refine ⟨_, rfl, ?_⟩; replace HO159 := Aside0.mk (Kd.R_below (by (with_reducible repeat (first | apply Kd.R_alloc | apply Kd.R_drewN | apply Kd.R_drew)); exact HO159.out) hb); replace BK156 := Aside0.mk (blk_below (g := gb156) (o := .cells #[.int .i64 a0_0, .int .i64 a0_1, .int .i64 a0_2, .int .i64 a0_3, .int .i64 a0_4] 146 (0, 0)) (by repeat (first | (with_reducible first | exact BK156.out | refine blk_drewN ?_ _ | refine blk_drew ?_ | refine blk_alloc ?_ _) | exact BK156.out)) hb); replace HB := Aside0.mk (below_step (by repeat (first | (with_reducible first | exact HB.out | apply below_alloc | apply pw_below_drewN | apply below_drew1 | refine below_set ?_ (Aside0.out (by assumption))) | exact HB.out)) hb); (try clear hb); (try clear hb2); (try clear hk); (try clear hi); obtain ⟨hcz11_0, hcz11_1, hcz11_2, hcz11_3, hcz11_4⟩ := bc5 BK156.out; obtain ⟨hfz11_0, hfz11_1, hfz11_2, hfz11_3, hfz11_4⟩ := bf5 BK156.out) | (go_at_call 91; (with_reducible refine (mill_areHours.calls a0_1 a0_2 t161 _ A4.out).mono ?_); rintro e w12 ⟨rfl, hb⟩; replace HO159 := Aside0.mk (Kd.R_below (by (with_reducible repeat (first | apply Kd.R_alloc | apply Kd.R_drewN | apply Kd.R_drew)); exact HO159.out) hb); replace BK156 := Aside0.mk (blk_below (g := gb156) (o := .cells #[.int .i64 a0_0, .int .i64 a0_1, .int .i64 a0_2, .int .i64 a0_3, .int .i64 a0_4] 146 (0, 0)) (by repeat (first | (with_reducible first | exact BK156.out | refine blk_drewN ?_ _ | refine blk_drew ?_ | refine blk_alloc ?_ _) | exact BK156.out)) hb); replace HB := Aside0.mk (below_step (by repeat (first | (with_reducible first | exact HB.out | apply below_alloc | apply pw_below_drewN | apply below_drew1 | refine below_set ?_ (Aside0.out (by assumption))) | exact HB.out)) hb); (try clear hb); (try clear hb2); (try clear hk); (try clear hi)))
  go_ret
  exact ⟨by first | rfl | (simp [errW_none, errW_some] <;> rfl) | (simp [*, errW_none, errW_some] <;> rfl), by repeat (first | (with_reducible first | exact HB.out | apply below_alloc | apply pw_below_drewN | apply below_drew1 | refine below_set ?_ (Aside0.out (by assumption))) | exact HB.out)⟩
 ·replace c3 := Bool.eq_false_iff.mpr c3
  subst c3
  have H1 : (some false) = some r := by rw [if_neg (show ¬ (false = true) by decide)] at H; exact H
  clear H
  have H := H1
  clear H1
  obtain rfl := Option.some.inj H
  go_enter Try.func67, Try.ntmps67
  go_wp2_with (first | ((with_reducible refine gate_dst (N := 1) rfl ?_); refine box_event ?hg (N := 1) ?hd (cs := #[.int .i64 a0_0, .int .i64 a0_1, .int .i64 a0_2, .int .i64 a0_3, .int .i64 a0_4]) (t := 146) ?hr ?_; (case hd => rfl); (case hg => rfl); (case hr => first | (go_simp; done) | (go_simp; rfl)); intro gb156 hg w13 hbox hb; have BK156 := Aside0.mk (hbox); have GW156 := Aside0.mk ((by rw [hg]; exact (below_size HB.out) : w.heap.size ≤ gb156)); have GE156 := GW156; replace HB := Aside0.mk (below_step HB.out hb); clear hb hbox hg; obtain ⟨hcz14_0, hcz14_1, hcz14_2, hcz14_3, hcz14_4⟩ := bc5 BK156.out; obtain ⟨hfz14_0, hfz14_1, hfz14_2, hfz14_3, hfz14_4⟩ := bf5 BK156.out) | ((with_reducible refine gate_dst (N := 12) rfl ?_); refine Kd.R_lit (Kd.int .i64) _ 3 ?hg (N := 12) ?hd (xs := ([a0_0, a0_3, a0_4] : List Int)) (inner := [.int .i64 a0_0, .int .i64 a0_3, .int .i64 a0_4]) (ok := fun _ => True) (okp := fun _ => True) ?hr ?hp (fun _ hk => hk) trivial (Below.refl _ _) (Nat.le_refl _) (by simp) ?_; (case hd => rfl); (case hg => rfl); (case hr => first | (go_simp; done) | (go_simp; rfl)); (case hp => exact (Reps.one (show Kd.M (Kd.int .i64) _ _ _ a0_0 [.int .i64 a0_0] from rfl) (Reps.one (show Kd.M (Kd.int .i64) _ _ _ a0_3 [.int .i64 a0_3] from rfl) (Reps.one (show Kd.M (Kd.int .i64) _ _ _ a0_4 [.int .i64 a0_4] from rfl) (Reps.none _ _))))); intro v158 w15 ho16 hb hg_ hnew_; clear hg_ hnew_; (first | rw [← Ny157.out] at ho16 | (simp only [Int.reduceToNat] at ho16; rw [← Ny157.out] at ho16)); have HO159 := Aside0.mk (Kd.R_lower ho16 (below_size (by repeat (first | (with_reducible first | exact HB.out | apply below_alloc | apply pw_below_drewN | apply below_drew1 | refine below_set ?_ (Aside0.out (by assumption))) | exact HB.out)))); replace BK156 := Aside0.mk (blk_below (g := gb156) (o := .cells #[.int .i64 a0_0, .int .i64 a0_1, .int .i64 a0_2, .int .i64 a0_3, .int .i64 a0_4] 146 (0, 0)) (by repeat (first | (with_reducible first | exact BK156.out | refine blk_drewN ?_ _ | refine blk_drew ?_ | refine blk_alloc ?_ _) | exact BK156.out)) hb); replace HB := Aside0.mk (below_step (by repeat (first | (with_reducible first | exact HB.out | apply below_alloc | apply pw_below_drewN | apply below_drew1 | refine below_set ?_ (Aside0.out (by assumption))) | exact HB.out)) hb); clear hb ho16; obtain ⟨Ao17, co17, eo17⟩ := Kd.R_slice HO159.out; subst eo17) | ((with_reducible refine gate_callee (f := 90) rfl ?_); refine goesL_ (some 13) rfl rfl Try.func90 (by kernel_rfl) rfl #[.slice Ao17 y157.length co17] rfl (by (try simp only [List.map_toArray, List.map_cons, List.map_nil]); first | done | rfl | (simp only [List.length_drop, List.length_take]; rfl)) ?_; (with_reducible refine (mill_isNumber.calls _ _ y157 false _ ?side1 ?side2 A2.out).mono ?_); (case side1 => repeat (first | exact (Kd.R_reads' HO159.out).2.2 | (with_reducible refine Kd.C_alloc ?_ _) | (with_reducible refine Kd.C_drewN ?_ _) | (with_reducible refine Kd.C_drew ?_))); (case side2 => exact (Kd.R_reads' HO159.out).2.1); rintro e w18 ⟨rfl, hb⟩; refine ⟨_, rfl, ?_⟩; replace HO159 := Aside0.mk (Kd.R_below (by (with_reducible repeat (first | apply Kd.R_alloc | apply Kd.R_drewN | apply Kd.R_drew)); exact HO159.out) hb); replace BK156 := Aside0.mk (blk_below (g := gb156) (o := .cells #[.int .i64 a0_0, .int .i64 a0_1, .int .i64 a0_2, .int .i64 a0_3, .int .i64 a0_4] 146 (0, 0)) (by repeat (first | (with_reducible first | exact BK156.out | refine blk_drewN ?_ _ | refine blk_drew ?_ | refine blk_alloc ?_ _) | exact BK156.out)) hb); replace HB := Aside0.mk (below_step (by repeat (first | (with_reducible first | exact HB.out | apply below_alloc | apply pw_below_drewN | apply below_drew1 | refine below_set ?_ (Aside0.out (by assumption))) | exact HB.out)) hb); (try clear hb); (try clear hb2); (try clear hk); (try clear hi)))
  go_ret
  exact ⟨by first | rfl | (simp [errW_none, errW_some] <;> rfl) | (simp [*, errW_none, errW_some] <;> rfl), by repeat (first | (with_reducible first | exact HB.out | apply below_alloc | apply pw_below_drewN | apply below_drew1 | refine below_set ?_ (Aside0.out (by assumption))) | exact HB.out)⟩

end Go.Proofs.Ytiaiecfnpompcaa.T
namespace Go.Proofs.Ytiaiecfnpompcaa.T
open Go.RowKit Go.Proofs.YtiaiecfnpompcaaW.PrintWords Go.Proofs.YtiaiecfnpompcaaW.PrintLast Go.Proofs.YtiaiecfnpompcaaW.PrintMore
attribute [local go_sem] max2_int min2_int max_two min_two max_three min_three max_four min_four   -- for this text's walks alone
set_option linter.unusedVariables false
set_option linter.unusedSimpArgs false
attribute [local go_sem] wl_100001

mutual
def mill_Check.l0 : Nat → List (S144) → List (S144) → Int → Int → Option (Int)
 | 0, _, _, _, _ => none
 | k + 1, x0, x12, x13, x14 => if x14 < x13 then (if 0 ≤ x14 then (if x14 < (x12.length : Int) then ((mill_run_isValid.f ((rd_T144 x12 x14).f0) ((rd_T144 x12 x14).f1) ((rd_T144 x12 x14).f2) ((rd_T144 x12 x14).f3) ((rd_T144 x12 x14).f4)).bind fun t165 => (if t165 = true then (if x14 ≤ (x0.length : Int) then ((some (x0.take (x14 : Int).toNat : List (S144))).bind fun y166 => (mill_Check.l1 k x0 x12 x13 x14 y166 (y166.length : Int) 0 ((rd_T144 x12 x14).f0) ((rd_T144 x12 x14).f1) ((rd_T144 x12 x14).f2) ((rd_T144 x12 x14).f3) ((rd_T144 x12 x14).f4))) else (none)) else (some 2))) else (none)) else (none)) else (some 0)
def mill_Check.l1 : Nat → List (S144) → List (S144) → Int → Int → List (S144) → Int → Int → Int → Int → Int → Int → Int → Option (Int)
 | 0, _, _, _, _, _, _, _, _, _, _, _, _ => none
 | k + 1, x0, x12, x13, x14, x25, x26, x27, x165000, x165001, x165002, x165003, x165004 => if x27 < x26 then (if 0 ≤ x27 then (if x27 < (x25.length : Int) then ((mill_run_hours.f ((rd_T144 x25 x27).f0) ((rd_T144 x25 x27).f1) ((rd_T144 x25 x27).f2) ((rd_T144 x25 x27).f3) ((rd_T144 x25 x27).f4) x165000 x165001 x165002).bind fun bt172 => (if bt172.1 ≤ bt172.2 then (some 6) else (mill_Check.l1 k x0 x12 x13 x14 x25 x26 (wrap64 (x27 + 1)) x165000 x165001 x165002 x165003 x165004))) else (none)) else (none)) else (mill_Check.l0 k x0 x12 x13 (wrap64 (x14 + 1)))
end
def mill_Check.f (k : Nat) (l0 : List (S144)) : Option (Int) := if (l0.length : Int) > 60 then (some 5) else (mill_Check.l0 k l0 l0 (l0.length : Int) 0)
set_option maxHeartbeats 8000000 in
set_option maxRecDepth 100000 in
theorem mill_Check.calls (k : Nat) (A0 : Option Addr) (c0 : Nat) (l0 : List (S144)) (r : Int) (w : World) (hr0 : Kd.C k144 w A0 l0.length l0) (hc0 : l0.length ≤ c0) (h : mill_Check.f k l0 = some r) :
  Calls Try.prog 32 #[.slice A0 l0.length c0] w fun e w' => e = .returned (.int .i64 r) ∧ Below w.heap.size w w' := by
 have hu144 := Try.underlying144
 have hu146 := Try.underlying146
 have HR0 := Aside0.mk hr0
 have HC0 := Aside0.mk hc0
 clear hr0 hc0
 have HB := Aside0.mk (Below.refl w.heap.size w)
 have H : (if (l0.length : Int) > 60 then (some 5) else (mill_Check.l0 k l0 l0 (l0.length : Int) 0)) = some r := h
 clear h
 by_cases c2 : (l0.length : Int) > 60
 ·rw [if_pos c2] at H
  have c2b0 : decide (60 < (l0.length : Int)) = true := decide_eq_true c2
  have c2b1 : decide (60 < l0.length) = true := decide_eq_true (by omega)
  clear c2
  obtain rfl := Option.some.inj H
  go_enter Try.func32, Try.ntmps32
  go_wp2
  go_ret
  exact ⟨by first | rfl | (simp [errW_none, errW_some] <;> rfl) | (simp [*, errW_none, errW_some] <;> rfl), by repeat (first | (with_reducible first | exact HB.out | apply below_alloc | apply pw_below_drewN | apply below_drew1) | exact HB.out)⟩
 ·rw [if_neg c2] at H
  have c2b0 : decide (60 < (l0.length : Int)) = false := decide_eq_false c2
  have c2b1 : decide (60 < l0.length) = false := decide_eq_false (by omega)
  clear c2
  have H' := Aside0.mk H
  clear H
  go_enter Try.func32, Try.ntmps32
  go_wp2
  go_loopg [14] k (fun kq v14 w' => ∃ (x14_1 : Int), v14 = .int .i64 x14_1 ∧ Aside0 (mill_Check.l0 kq l0 l0 (l0.length : Int) x14_1 = some r) ∧ Aside0 (kq ≤ k) ∧ Aside0 (Below w.heap.size w w'))
  case atStart => exact ⟨(0), (by first | rfl | (simp; done) | (simp [*]; done)), H', ⟨Nat.le_refl _⟩, ⟨by repeat (first | (with_reducible first | exact HB.out | apply below_alloc | apply pw_below_drewN | apply below_drew1) | exact HB.out)⟩⟩
  case round =>
   clear H'
   try clear c2; try clear c2b0; try clear c2b1; try clear p2
   obtain ⟨x14_1, rfl, HA, HK1, HB⟩ := hrel
   cases gk with
   | zero => exact absurd HA.out (by simp [mill_Check.l0])
   | succ k1 =>
    have H := HA.out
    clear HA
    simp only [mill_Check.l0] at H
    by_cases c3 : x14_1 < (l0.length : Int)
    ·rw [if_pos c3] at H
     have c3b0 : decide (x14_1 < (l0.length : Int)) = true := decide_eq_true c3
     clear c3
     by_cases c4 : 0 ≤ x14_1
     ·rw [if_pos c4] at H
      have c4b0 : decide (0 ≤ x14_1) = true := decide_eq_true c4
      clear c4
      by_cases c5 : x14_1 < (l0.length : Int)
      ·rw [if_pos c5] at H
       have c5b0 : decide (x14_1 < (l0.length : Int)) = true := decide_eq_true c5
       clear c5
       replace H := Option.bind_eq_some_iff.mp H
       obtain ⟨t165, A60, H⟩ := H; (try dsimp only at H)
       have A6 := Aside0.mk A60
       clear A60
       by_cases c7 : t165 = true
       ·subst c7
        have H1 : (if x14_1 ≤ (l0.length : Int) then ((some (l0.take (x14_1 : Int).toNat : List (S144))).bind fun y166 => (mill_Check.l1 k1 l0 l0 (l0.length : Int) x14_1 y166 (y166.length : Int) 0 ((rd_T144 l0 x14_1).f0) ((rd_T144 l0 x14_1).f1) ((rd_T144 l0 x14_1).f2) ((rd_T144 l0 x14_1).f3) ((rd_T144 l0 x14_1).f4))) else (none)) = some r := by rw [if_pos rfl] at H; exact H
        clear H
        have H := H1
        clear H1
        have c8b0 := eq_true (of_decide_eq_true ‹_› : 0 ≤ x14_1)
        by_cases c9 : x14_1 ≤ (l0.length : Int)
        ·rw [if_pos c9] at H
         have c9b0 := eq_true c9
         have c9b1 : decide (x14_1 ≤ (l0.length : Int)) = true := decide_eq_true c9
         clear c9
         obtain ⟨y166, hy166⟩ : ∃ y_ : List (S144), y_ = (l0.take (x14_1 : Int).toNat) := ⟨_, rfl⟩
         replace H : (mill_Check.l1 k1 l0 l0 (l0.length : Int) x14_1 y166 (y166.length : Int) 0 ((rd_T144 l0 x14_1).f0) ((rd_T144 l0 x14_1).f1) ((rd_T144 l0 x14_1).f2) ((rd_T144 l0 x14_1).f3) ((rd_T144 l0 x14_1).f4)) = some r := by first | (rw [hy166]; with_reducible exact H) | (have H2_ := (Option.bind_some _ _).symm.trans H; rw [hy166]; with_reducible exact H2_) | (have H2_ := (Option.bind_some _ _).symm.trans H; with_reducible exact H2_) | with_reducible exact H | (rw [hy166]; exact H) | exact H
         have Ny166 := Aside0.mk hy166
         clear hy166
         have H' := Aside0.mk H
         clear H
         have p163 : 0 ≤ (x14_1 : Int) := of_decide_eq_true ‹_›
         have q163 : x14_1 < (l0.length : Int) := of_decide_eq_true ‹_›
         obtain ⟨ad163, e163, hx163_0, hx163_1, hx163_2, hx163_3, hx163_4⟩ := at_T144 HR0.out x14_1 p163 q163
         cases e163
         replace hx163_0 := bl_ HB hx163_0
         replace hx163_1 := bl_ HB hx163_1
         replace hx163_2 := bl_ HB hx163_2
         replace hx163_3 := bl_ HB hx163_3
         replace hx163_4 := bl_ HB hx163_4
         replace p163 := eq_true p163
         replace q163 := eq_true q163
         go_wp2_with (first | ((with_reducible refine gate_dst (N := 4) rfl ?_); refine box_event ?hg (N := 4) ?hd (cs := #[.int .i64 0, .int .i64 0, .int .i64 0, .int .i64 0, .int .i64 0]) (t := 144) ?hr ?_; (case hd => rfl); (case hg => rfl); (case hr => first | (go_simp; done) | (go_simp; rfl)); intro gb164 hg w10 hbox hb; have BK164 := Aside0.mk (hbox); have GW164 := Aside0.mk ((by rw [hg]; exact (below_size HB.out) : w.heap.size ≤ gb164)); have GE164 := GW164; replace HB := Aside0.mk (below_step HB.out hb); clear hb hbox hg; obtain ⟨hcz11_0, hcz11_1, hcz11_2, hcz11_3, hcz11_4⟩ := bc5 BK164.out; obtain ⟨hfz11_0, hfz11_1, hfz11_2, hfz11_3, hfz11_4⟩ := bf5 BK164.out) | ((with_reducible refine gate_callee (f := 67) rfl ?_); refine goesL_ (some 21) rfl rfl Try.func67 (by kernel_rfl) rfl #[.agg #[.int .i64 ((rd_T144 l0 x14_1).f0), .int .i64 ((rd_T144 l0 x14_1).f1), .int .i64 ((rd_T144 l0 x14_1).f2), .int .i64 ((rd_T144 l0 x14_1).f3), .int .i64 ((rd_T144 l0 x14_1).f4)]] rfl (by (try simp only [List.map_toArray, List.map_cons, List.map_nil]); first | done | rfl | (simp only [List.length_drop, List.length_take]; rfl)) ?_; (with_reducible refine (mill_run_isValid.calls ((rd_T144 l0 x14_1).f0) ((rd_T144 l0 x14_1).f1) ((rd_T144 l0 x14_1).f2) ((rd_T144 l0 x14_1).f3) ((rd_T144 l0 x14_1).f4) true _ A6.out).mono ?_); rintro e w12 ⟨rfl, hb⟩; refine ⟨_, rfl, ?_⟩; replace BK164 := Aside0.mk (blk_below (g := gb164) (o := .cells #[.int .i64 ((rd_T144 l0 x14_1).f0), .int .i64 ((rd_T144 l0 x14_1).f1), .int .i64 ((rd_T144 l0 x14_1).f2), .int .i64 ((rd_T144 l0 x14_1).f3), .int .i64 ((rd_T144 l0 x14_1).f4)] 144 (0, 0)) (by exact bto (bput (bput (bput (bput (bput (BK164.out) _ _) _ _) _ _) _ _) _ _) rfl) hb); replace HB := Aside0.mk (below_step (by repeat (first | (with_reducible first | exact HB.out | apply below_alloc | apply pw_below_drewN | apply below_drew1 | refine below_set ?_ (Aside0.out (by assumption))) | exact HB.out)) hb); (try clear hb); (try clear hb2); (try clear hk); (try clear hi); have q13 : (x14_1 : Int) ≤ ((l0.length : Int) : Int) := of_decide_eq_true ‹_›; obtain ⟨i013, hi013, _, hsz13, _⟩ := info_parts info144; have hroom13 : l0.length ≤ c0 := HC0.out; have hC13 : Kd.C k144 _ (some ad163) l0.length l0 := HR0.out; have hcut13 := cut_to (P := Try.prog) 56 144 .i64 Try.underlying56 hi013 (some ad163) l0.length c0 x14_1 (of_decide_eq_true ‹_›) q13 hroom13; have hr13 := Kd.C_take (m := (x14_1 : Int).toNat) hC13 (by omega); have hy13 : y166.length = (x14_1 : Int).toNat := (by rw [Ny166.out, List.length_take]; omega); rw [← Ny166.out] at hr13; rw [← hy13] at hcut13; have HR169 := Aside0.mk hr13; have HC169 := Aside0.mk (show y166.length ≤ c0 from by omega); clear hr13 hC13 hroom13 hi013 hsz13; have KY13 := Aside0.mk hy13; clear hy13; replace q13 := eq_true q13))
         go_loopg [27] k1 (fun kq v27 w' => ∃ (x27_2 : Int), v27 = .int .i64 x27_2 ∧ Aside0 (mill_Check.l1 kq l0 l0 (l0.length : Int) x14_1 y166 (y166.length : Int) x27_2 ((rd_T144 l0 x14_1).f0) ((rd_T144 l0 x14_1).f1) ((rd_T144 l0 x14_1).f2) ((rd_T144 l0 x14_1).f3) ((rd_T144 l0 x14_1).f4) = some r) ∧ Aside0 (kq ≤ k1) ∧ Aside0 (w'.heap[gb164]? = some (.cells #[.int .i64 ((rd_T144 l0 x14_1).f0), .int .i64 ((rd_T144 l0 x14_1).f1), .int .i64 ((rd_T144 l0 x14_1).f2), .int .i64 ((rd_T144 l0 x14_1).f3), .int .i64 ((rd_T144 l0 x14_1).f4)] 144 (0, 0))) ∧ Aside0 (Below w.heap.size w w'))
         case atStart => exact ⟨(0), (by first | rfl | (simp; done) | (simp [*]; done)), H', ⟨Nat.le_refl _⟩, BK164, ⟨by repeat (first | (with_reducible first | exact HB.out | apply below_alloc | apply pw_below_drewN | apply below_drew1 | refine below_set ?_ (Aside0.out (by assumption))) | exact HB.out)⟩⟩
         case round =>
          clear H'
          try clear p1; try clear q1; try clear hx1; try clear c2; try clear c2b0; try clear c2b1; try clear p2; try clear c3; try clear c3b0; try clear c4; try clear c4b0; try clear c5; try clear c5b0; try clear c6; try clear c7; try clear c8; try clear c8b0; try clear c9; try clear c9b0; try clear c9b1; try clear q13; try clear hcz11_0; try clear hcz11_1; try clear hcz11_2; try clear hcz11_3; try clear hcz11_4; try clear hfz11_0; try clear hfz11_1; try clear hfz11_2; try clear hfz11_3; try clear hfz11_4; try clear hx163_0; try clear hx163_1; try clear hx163_2; try clear hx163_3; try clear hx163_4; try clear p163; try clear p2; try clear q13; try clear q163
          obtain ⟨x27_2, rfl, HA, HK2, BK164, HB⟩ := hrel
          cases gk with
          | zero => exact absurd HA.out (by simp [mill_Check.l1])
          | succ k2 =>
           have H := HA.out
           clear HA
           simp only [mill_Check.l1] at H
           by_cases c14 : x27_2 < (y166.length : Int)
           ·rw [if_pos c14] at H
            have c14b0 : decide (x27_2 < (y166.length : Int)) = true := decide_eq_true c14
            clear c14
            by_cases c15 : 0 ≤ x27_2
            ·rw [if_pos c15] at H
             have c15b0 : decide (0 ≤ x27_2) = true := decide_eq_true c15
             clear c15
             by_cases c16 : x27_2 < (y166.length : Int)
             ·rw [if_pos c16] at H
              have c16b0 : decide (x27_2 < (y166.length : Int)) = true := decide_eq_true c16
              clear c16
              replace H := Option.bind_eq_some_iff.mp H
              obtain ⟨⟨t172, t173⟩, A170, H⟩ := H; (try dsimp only at H)
              have A17 := Aside0.mk A170
              clear A170
              by_cases c18 : t172 ≤ t173
              ·rw [if_pos c18] at H
               have c18b0 : decide (t172 ≤ t173) = true := decide_eq_true c18
               clear c18
               obtain rfl := Option.some.inj H
               have p170 : 0 ≤ (x27_2 : Int) := of_decide_eq_true ‹_›
               have q170 : x27_2 < (y166.length : Int) := of_decide_eq_true ‹_›
               obtain ⟨ad170, e170, hx170_0, hx170_1, hx170_2, hx170_3, hx170_4⟩ := at_T144 HR169.out x27_2 p170 q170
               obtain rfl : ad163 = ad170 := (by injection e170)
               replace hx170_0 := bl_ HB hx170_0
               replace hx170_1 := bl_ HB hx170_1
               replace hx170_2 := bl_ HB hx170_2
               replace hx170_3 := bl_ HB hx170_3
               replace hx170_4 := bl_ HB hx170_4
               replace p170 := eq_true p170
               replace q170 := eq_true q170
               go_wp2_with (first | ((with_reducible refine gate_dst (N := 6) rfl ?_); refine box_event ?hg (N := 6) ?hd (cs := #[.int .i64 0, .int .i64 0, .int .i64 0, .int .i64 0, .int .i64 0]) (t := 144) ?hr ?_; (case hd => rfl); (case hg => rfl); (case hr => first | (go_simp; done) | (go_simp; rfl)); intro gb171 hg w19 hbox hb; have BK171 := Aside0.mk (hbox); have GW171 := Aside0.mk ((by rw [hg]; exact (below_size (by repeat (first | (with_reducible first | exact HB.out | apply below_alloc | apply pw_below_drewN | apply below_drew1 | refine below_set ?_ (Aside0.out (by assumption))) | exact HB.out))) : w.heap.size ≤ gb171)); have GE171 := GW171; replace HB := Aside0.mk (below_step (by repeat (first | (with_reducible first | exact HB.out | apply below_alloc | apply pw_below_drewN | apply below_drew1 | refine below_set ?_ (Aside0.out (by assumption))) | exact HB.out)) hb); have NB164_171 := Aside0.mk ((by rw [hg]; exact Nat.ne_of_lt (blk_lt BK164.out) : gb164 ≠ gb171)); have NB171_164 := Aside0.mk ((by rw [hg]; exact Nat.ne_of_gt (blk_lt BK164.out) : gb171 ≠ gb164)); replace BK164 := Aside0.mk (blk_below (g := gb164) (o := .cells #[.int .i64 ((rd_T144 l0 x14_1).f0), .int .i64 ((rd_T144 l0 x14_1).f1), .int .i64 ((rd_T144 l0 x14_1).f2), .int .i64 ((rd_T144 l0 x14_1).f3), .int .i64 ((rd_T144 l0 x14_1).f4)] 144 (0, 0)) (by repeat (first | (with_reducible first | exact BK164.out | refine blk_drewN ?_ _ | refine blk_drew ?_ | refine blk_alloc ?_ _) | exact BK164.out)) hb); clear hb hbox hg; have hnb20 := NB171_164.out; have hnc20 := NB164_171.out; obtain ⟨hcz21_0, hcz21_1, hcz21_2, hcz21_3, hcz21_4⟩ := bc5 BK171.out; obtain ⟨hfz21_0, hfz21_1, hfz21_2, hfz21_3, hfz21_4⟩ := bf5 BK171.out; obtain ⟨hcz22_0, hcz22_1, hcz22_2, hcz22_3, hcz22_4⟩ := bc5 BK164.out; obtain ⟨hfz22_0, hfz22_1, hfz22_2, hfz22_3, hfz22_4⟩ := bf5 BK164.out) | ((with_reducible refine gate_callee (f := 68) rfl ?_); refine goesL_ (some 40) rfl rfl Try.func68 (by kernel_rfl) rfl #[.agg #[.int .i64 ((rd_T144 y166 x27_2).f0), .int .i64 ((rd_T144 y166 x27_2).f1), .int .i64 ((rd_T144 y166 x27_2).f2), .int .i64 ((rd_T144 y166 x27_2).f3), .int .i64 ((rd_T144 y166 x27_2).f4)], .int .i64 ((rd_T144 l0 x14_1).f0), .int .i64 ((rd_T144 l0 x14_1).f1), .int .i64 ((rd_T144 l0 x14_1).f2)] rfl (by (try simp only [List.map_toArray, List.map_cons, List.map_nil]); first | done | rfl | (simp only [List.length_drop, List.length_take]; rfl)) ?_; (with_reducible refine (mill_run_hours.calls ((rd_T144 y166 x27_2).f0) ((rd_T144 y166 x27_2).f1) ((rd_T144 y166 x27_2).f2) ((rd_T144 y166 x27_2).f3) ((rd_T144 y166 x27_2).f4) ((rd_T144 l0 x14_1).f0) ((rd_T144 l0 x14_1).f1) ((rd_T144 l0 x14_1).f2) t172 t173 _ A17.out).mono ?_); rintro e w23 ⟨rfl, hb⟩; refine ⟨_, rfl, ?_⟩; replace BK164 := Aside0.mk (blk_below (g := gb164) (o := .cells #[.int .i64 ((rd_T144 l0 x14_1).f0), .int .i64 ((rd_T144 l0 x14_1).f1), .int .i64 ((rd_T144 l0 x14_1).f2), .int .i64 ((rd_T144 l0 x14_1).f3), .int .i64 ((rd_T144 l0 x14_1).f4)] 144 (0, 0)) (by repeat (first | (with_reducible first | exact BK164.out | refine blk_drewN ?_ _ | refine blk_drew ?_ | refine blk_alloc ?_ _) | refine blk_far ?_ NB164_171.out _ | exact BK164.out)) hb); replace BK171 := Aside0.mk (blk_below (g := gb171) (o := .cells #[.int .i64 ((rd_T144 y166 x27_2).f0), .int .i64 ((rd_T144 y166 x27_2).f1), .int .i64 ((rd_T144 y166 x27_2).f2), .int .i64 ((rd_T144 y166 x27_2).f3), .int .i64 ((rd_T144 y166 x27_2).f4)] 144 (0, 0)) (by exact bto (bput (bput (bput (bput (bput (BK171.out) _ _) _ _) _ _) _ _) _ _) rfl) hb); replace HB := Aside0.mk (below_step (by repeat (first | (with_reducible first | exact HB.out | apply below_alloc | apply pw_below_drewN | apply below_drew1 | refine below_set ?_ (Aside0.out (by assumption))) | exact HB.out)) hb); (try clear hb); (try clear hb2); (try clear hk); (try clear hi)))
               go_ret
               exact ⟨by first | rfl | (simp [errW_none, errW_some] <;> rfl) | (simp [*, errW_none, errW_some] <;> rfl), by repeat (first | (with_reducible first | exact HB.out | apply below_alloc | apply pw_below_drewN | apply below_drew1 | refine below_set ?_ (Aside0.out (by assumption))) | exact HB.out)⟩
              ·rw [if_neg c18] at H
               have c18b0 : decide (t172 ≤ t173) = false := decide_eq_false c18
               clear c18
               have H' := Aside0.mk H
               clear H
               have p170 : 0 ≤ (x27_2 : Int) := of_decide_eq_true ‹_›
               have q170 : x27_2 < (y166.length : Int) := of_decide_eq_true ‹_›
               obtain ⟨ad170, e170, hx170_0, hx170_1, hx170_2, hx170_3, hx170_4⟩ := at_T144 HR169.out x27_2 p170 q170
               obtain rfl : ad163 = ad170 := (by injection e170)
               replace hx170_0 := bl_ HB hx170_0
               replace hx170_1 := bl_ HB hx170_1
               replace hx170_2 := bl_ HB hx170_2
               replace hx170_3 := bl_ HB hx170_3
               replace hx170_4 := bl_ HB hx170_4
               replace p170 := eq_true p170
               replace q170 := eq_true q170
               go_wp2_with (first | ((with_reducible refine gate_dst (N := 6) rfl ?_); refine box_event ?hg (N := 6) ?hd (cs := #[.int .i64 0, .int .i64 0, .int .i64 0, .int .i64 0, .int .i64 0]) (t := 144) ?hr ?_; (case hd => rfl); (case hg => rfl); (case hr => first | (go_simp; done) | (go_simp; rfl)); intro gb171 hg w24 hbox hb; have BK171 := Aside0.mk (hbox); have GW171 := Aside0.mk ((by rw [hg]; exact (below_size (by repeat (first | (with_reducible first | exact HB.out | apply below_alloc | apply pw_below_drewN | apply below_drew1 | refine below_set ?_ (Aside0.out (by assumption))) | exact HB.out))) : w.heap.size ≤ gb171)); have GE171 := GW171; replace HB := Aside0.mk (below_step (by repeat (first | (with_reducible first | exact HB.out | apply below_alloc | apply pw_below_drewN | apply below_drew1 | refine below_set ?_ (Aside0.out (by assumption))) | exact HB.out)) hb); have NB164_171 := Aside0.mk ((by rw [hg]; exact Nat.ne_of_lt (blk_lt BK164.out) : gb164 ≠ gb171)); have NB171_164 := Aside0.mk ((by rw [hg]; exact Nat.ne_of_gt (blk_lt BK164.out) : gb171 ≠ gb164)); replace BK164 := Aside0.mk (blk_below (g := gb164) (o := .cells #[.int .i64 ((rd_T144 l0 x14_1).f0), .int .i64 ((rd_T144 l0 x14_1).f1), .int .i64 ((rd_T144 l0 x14_1).f2), .int .i64 ((rd_T144 l0 x14_1).f3), .int .i64 ((rd_T144 l0 x14_1).f4)] 144 (0, 0)) (by repeat (first | (with_reducible first | exact BK164.out | refine blk_drewN ?_ _ | refine blk_drew ?_ | refine blk_alloc ?_ _) | exact BK164.out)) hb); clear hb hbox hg; have hnb25 := NB171_164.out; have hnc25 := NB164_171.out; obtain ⟨hcz26_0, hcz26_1, hcz26_2, hcz26_3, hcz26_4⟩ := bc5 BK171.out; obtain ⟨hfz26_0, hfz26_1, hfz26_2, hfz26_3, hfz26_4⟩ := bf5 BK171.out; obtain ⟨hcz27_0, hcz27_1, hcz27_2, hcz27_3, hcz27_4⟩ := bc5 BK164.out; obtain ⟨hfz27_0, hfz27_1, hfz27_2, hfz27_3, hfz27_4⟩ := bf5 BK164.out) | ((with_reducible refine gate_callee (f := 68) rfl ?_); refine goesL_ (some 40) rfl rfl Try.func68 (by kernel_rfl) rfl #[.agg #[.int .i64 ((rd_T144 y166 x27_2).f0), .int .i64 ((rd_T144 y166 x27_2).f1), .int .i64 ((rd_T144 y166 x27_2).f2), .int .i64 ((rd_T144 y166 x27_2).f3), .int .i64 ((rd_T144 y166 x27_2).f4)], .int .i64 ((rd_T144 l0 x14_1).f0), .int .i64 ((rd_T144 l0 x14_1).f1), .int .i64 ((rd_T144 l0 x14_1).f2)] rfl (by (try simp only [List.map_toArray, List.map_cons, List.map_nil]); first | done | rfl | (simp only [List.length_drop, List.length_take]; rfl)) ?_; (with_reducible refine (mill_run_hours.calls ((rd_T144 y166 x27_2).f0) ((rd_T144 y166 x27_2).f1) ((rd_T144 y166 x27_2).f2) ((rd_T144 y166 x27_2).f3) ((rd_T144 y166 x27_2).f4) ((rd_T144 l0 x14_1).f0) ((rd_T144 l0 x14_1).f1) ((rd_T144 l0 x14_1).f2) t172 t173 _ A17.out).mono ?_); rintro e w28 ⟨rfl, hb⟩; refine ⟨_, rfl, ?_⟩; replace BK164 := Aside0.mk (blk_below (g := gb164) (o := .cells #[.int .i64 ((rd_T144 l0 x14_1).f0), .int .i64 ((rd_T144 l0 x14_1).f1), .int .i64 ((rd_T144 l0 x14_1).f2), .int .i64 ((rd_T144 l0 x14_1).f3), .int .i64 ((rd_T144 l0 x14_1).f4)] 144 (0, 0)) (by repeat (first | (with_reducible first | exact BK164.out | refine blk_drewN ?_ _ | refine blk_drew ?_ | refine blk_alloc ?_ _) | refine blk_far ?_ NB164_171.out _ | exact BK164.out)) hb); replace BK171 := Aside0.mk (blk_below (g := gb171) (o := .cells #[.int .i64 ((rd_T144 y166 x27_2).f0), .int .i64 ((rd_T144 y166 x27_2).f1), .int .i64 ((rd_T144 y166 x27_2).f2), .int .i64 ((rd_T144 y166 x27_2).f3), .int .i64 ((rd_T144 y166 x27_2).f4)] 144 (0, 0)) (by exact bto (bput (bput (bput (bput (bput (BK171.out) _ _) _ _) _ _) _ _) _ _) rfl) hb); replace HB := Aside0.mk (below_step (by repeat (first | (with_reducible first | exact HB.out | apply below_alloc | apply pw_below_drewN | apply below_drew1 | refine below_set ?_ (Aside0.out (by assumption))) | exact HB.out)) hb); (try clear hb); (try clear hb2); (try clear hk); (try clear hi)))
               go_roundg k2
               case measure => have := HK1.out; have := HK2.out; omega
               case rel => exact ⟨(wrap64 (x27_2 + 1)), (by first | rfl | (simp; done) | (simp [*]; done)), H', ⟨by have := HK1.out; have := HK2.out; omega⟩, BK164, ⟨by repeat (first | (with_reducible first | exact HB.out | apply below_alloc | apply pw_below_drewN | apply below_drew1 | refine below_set ?_ (Aside0.out (by assumption))) | exact HB.out)⟩⟩
             ·rw [if_neg c16] at H
              exact absurd H (by simp)
            ·rw [if_neg c15] at H
             exact absurd H (by simp)
           ·rw [if_neg c14] at H
            have c14b0 : decide (x27_2 < (y166.length : Int)) = false := decide_eq_false c14
            clear c14
            have H' := Aside0.mk H
            clear H
            go_wp2
            go_roundg k2
            case measure => have := HK1.out; have := HK2.out; omega
            case rel => exact ⟨(wrap64 (x14_1 + 1)), (by first | rfl | (simp; done) | (simp [*]; done)), H', ⟨by have := HK1.out; have := HK2.out; omega⟩, ⟨by repeat (first | (with_reducible first | exact HB.out | apply below_alloc | apply pw_below_drewN | apply below_drew1 | refine below_set ?_ (Aside0.out (by assumption))) | exact HB.out)⟩⟩
        ·rw [if_neg c9] at H
         exact absurd H (by simp)
       ·replace c7 := Bool.eq_false_iff.mpr c7
        subst c7
        have H1 : (some 2) = some r := by rw [if_neg (show ¬ (false = true) by decide)] at H; exact H
        clear H
        have H := H1
        clear H1
        obtain rfl := Option.some.inj H
        have p163 : 0 ≤ (x14_1 : Int) := of_decide_eq_true ‹_›
        have q163 : x14_1 < (l0.length : Int) := of_decide_eq_true ‹_›
        obtain ⟨ad163, e163, hx163_0, hx163_1, hx163_2, hx163_3, hx163_4⟩ := at_T144 HR0.out x14_1 p163 q163
        cases e163
        replace hx163_0 := bl_ HB hx163_0
        replace hx163_1 := bl_ HB hx163_1
        replace hx163_2 := bl_ HB hx163_2
        replace hx163_3 := bl_ HB hx163_3
        replace hx163_4 := bl_ HB hx163_4
        replace p163 := eq_true p163
        replace q163 := eq_true q163
        go_wp2_with (first | ((with_reducible refine gate_dst (N := 4) rfl ?_); refine box_event ?hg (N := 4) ?hd (cs := #[.int .i64 0, .int .i64 0, .int .i64 0, .int .i64 0, .int .i64 0]) (t := 144) ?hr ?_; (case hd => rfl); (case hg => rfl); (case hr => first | (go_simp; done) | (go_simp; rfl)); intro gb164 hg w29 hbox hb; have BK164 := Aside0.mk (hbox); have GW164 := Aside0.mk ((by rw [hg]; exact (below_size HB.out) : w.heap.size ≤ gb164)); have GE164 := GW164; replace HB := Aside0.mk (below_step HB.out hb); clear hb hbox hg; obtain ⟨hcz30_0, hcz30_1, hcz30_2, hcz30_3, hcz30_4⟩ := bc5 BK164.out; obtain ⟨hfz30_0, hfz30_1, hfz30_2, hfz30_3, hfz30_4⟩ := bf5 BK164.out) | ((with_reducible refine gate_callee (f := 67) rfl ?_); refine goesL_ (some 21) rfl rfl Try.func67 (by kernel_rfl) rfl #[.agg #[.int .i64 ((rd_T144 l0 x14_1).f0), .int .i64 ((rd_T144 l0 x14_1).f1), .int .i64 ((rd_T144 l0 x14_1).f2), .int .i64 ((rd_T144 l0 x14_1).f3), .int .i64 ((rd_T144 l0 x14_1).f4)]] rfl (by (try simp only [List.map_toArray, List.map_cons, List.map_nil]); first | done | rfl | (simp only [List.length_drop, List.length_take]; rfl)) ?_; (with_reducible refine (mill_run_isValid.calls ((rd_T144 l0 x14_1).f0) ((rd_T144 l0 x14_1).f1) ((rd_T144 l0 x14_1).f2) ((rd_T144 l0 x14_1).f3) ((rd_T144 l0 x14_1).f4) false _ A6.out).mono ?_); rintro e w31 ⟨rfl, hb⟩; refine ⟨_, rfl, ?_⟩; replace BK164 := Aside0.mk (blk_below (g := gb164) (o := .cells #[.int .i64 ((rd_T144 l0 x14_1).f0), .int .i64 ((rd_T144 l0 x14_1).f1), .int .i64 ((rd_T144 l0 x14_1).f2), .int .i64 ((rd_T144 l0 x14_1).f3), .int .i64 ((rd_T144 l0 x14_1).f4)] 144 (0, 0)) (by exact bto (bput (bput (bput (bput (bput (BK164.out) _ _) _ _) _ _) _ _) _ _) rfl) hb); replace HB := Aside0.mk (below_step (by repeat (first | (with_reducible first | exact HB.out | apply below_alloc | apply pw_below_drewN | apply below_drew1 | refine below_set ?_ (Aside0.out (by assumption))) | exact HB.out)) hb); (try clear hb); (try clear hb2); (try clear hk); (try clear hi)))
        go_ret
        exact ⟨by first | rfl | (simp [errW_none, errW_some] <;> rfl) | (simp [*, errW_none, errW_some] <;> rfl), by repeat (first | (with_reducible first | exact HB.out | apply below_alloc | apply pw_below_drewN | apply below_drew1 | refine below_set ?_ (Aside0.out (by assumption))) | exact HB.out)⟩
      ·rw [if_neg c5] at H
       exact absurd H (by simp)
     ·rw [if_neg c4] at H
      exact absurd H (by simp)
    ·rw [if_neg c3] at H
     have c3b0 : decide (x14_1 < (l0.length : Int)) = false := decide_eq_false c3
     clear c3
     obtain rfl := Option.some.inj H
     go_wp2
     go_ret
     exact ⟨by first | rfl | (simp [errW_none, errW_some] <;> rfl) | (simp [*, errW_none, errW_some] <;> rfl), by repeat (first | (with_reducible first | exact HB.out | apply below_alloc | apply pw_below_drewN | apply below_drew1) | exact HB.out)⟩

end Go.Proofs.Ytiaiecfnpompcaa.T
namespace Go.Proofs.Ytiaiecfnpompcaa.T
open Go.RowKit Go.Maps Go.Proofs.YtiaiecfnpompcaaW.PrintWords Go.Proofs.YtiaiecfnpompcaaW.PrintLast Go.Proofs.YtiaiecfnpompcaaW.PrintMore
set_option linter.unusedVariables false
set_option linter.unusedSimpArgs false
theorem sort79_perm {a b : List S79} (h : a.Perm b) : (a.mergeSort fun x y => !lt79 y x) = b.mergeSort fun x y => !lt79 y x := by
 have tr : ∀ x y z : S79, (!lt79 y x) = true → (!lt79 z y) = true → (!lt79 z x) = true := by
  intro x y z h1 h2
  simp only [lt79, Bool.not_eq_true', decide_eq_false_iff_not] at *
  omega
 have tt : ∀ x y : S79, ((!lt79 y x) || !lt79 x y) = true := by
  intro x y
  simp only [lt79, Bool.or_eq_true, Bool.not_eq_true', decide_eq_false_iff_not]
  omega
 refine List.Perm.eq_of_pairwise (le := fun x y => (!lt79 y x) = true) ?_ (List.pairwise_mergeSort tr tt a) (List.pairwise_mergeSort tr tt b) ((List.mergeSort_perm a _).trans (h.trans (List.mergeSort_perm b _).symm))
 intro x y _ _ h1 h2
 simp only [lt79, Bool.not_eq_true', decide_eq_false_iff_not] at h1 h2
 obtain ⟨x0, x1, x2⟩ := x
 obtain ⟨y0, y1, y2⟩ := y
 dsimp only at h1 h2
 obtain rfl : x0 = y0 := by omega
 obtain rfl : x1 = y1 := by omega
 obtain rfl : x2 = y2 := by omega
 rfl
def sortC (ks : List S79) : List S79 := (distinctC ks).mergeSort fun x y => !lt79 y x
instance (x : S144) : Decidable (okRun x) := by unfold okRun; infer_instance
def mill_Causes.g (k : Nat) (l : List S144) (m f t : Int) : Option (List S79 × Int) :=
 (mill_Check.f k l).bind fun e => if e ≠ 0 then some ([], e) else if l.length ≤ 100 ∧ ∀ x ∈ l, okRun x then (if causesE l m f t ≠ 0 then some ([], causesE l m f t) else some (sortC (allKeys l m f t), 0)) else none
def mill_Causes.f (l : List S144) (m f t : Int) : Option (List S79 × Int) := mill_Causes.g 1000 l m f t
theorem hourKeys_len (m a : Int) : ∀ n : Nat, (hourKeys m a n).length = n
 | 0 => rfl
 | n + 1 => by rw [hourKeys, List.length_append, hourKeys_len m a n]; rfl
theorem runKeys_len {x : S144} {m f t : Int} (h : ¬ longRun x m f t) : (runKeys x m f t).length ≤ 1002 := by
 unfold runKeys
 split
 ·simp
 ·rw [List.length_append, hourKeys_len]
  unfold longRun at h
  simp only [List.length_cons, List.length_nil]
  omega
theorem allKeys_len {m f t : Int} : ∀ {l : List S144}, (∀ x ∈ l, ¬ longRun x m f t) → (allKeys l m f t).length ≤ 1002 * l.length
 | [], _ => by simp [allKeys]
 | x :: l, h => by
  have h1 := runKeys_len (h x (by simp))
  have h2 := allKeys_len (l := l) (fun y hy => h y (by simp [hy]))
  have e : allKeys (x :: l) m f t = runKeys x m f t ++ allKeys l m f t := rfl
  rw [e, List.length_append, List.length_cons]
  omega
theorem causesE_zero {l : List S144} {m f t : Int} (h : causesE l m f t = 0) : okLot m f t ∧ ∀ x ∈ l, ¬ longRun x m f t := by
 unfold causesE at h
 split at h
 ·cases h
 ·rename_i g
  split at h
  ·cases h
  ·rename_i g2
   exact ⟨Classical.not_not.1 g, fun x hx hq => g2 ⟨x, hx, hq⟩⟩
set_option maxHeartbeats 4000000 in
set_option maxRecDepth 100000 in
theorem sorted_nil (w : World) : Calls Try.prog 70 #[.map none] w fun e w' => ∃ v, e = .returned v ∧ Kd.R k79 79 w' w.heap.size (fun _ => True) v [] ∧ Below w.heap.size w w' := by
 have hrg := run_range_nilMap (P := Try.prog) w 149 79 4 Try.underlying149
 have hnx : ∀ ty, (Instr.next (.pointer (some ⟨w.heap.size, 0, none⟩)) false ty).run Try.prog (w.alloc (.mapIter none 0 #[] 0)) = _ := fun ty => run_next_nilMap w ty 0 0 #[]
 go_enter Try.func70, Try.ntmps70
 go_wp2
 refine wp_loop_rounds 1 ?_
 rw [rounds_succ]
 go_wp2_with (go_at_call 92; refine (sort92.calls [] _ _ (Kd.R_nil k79 79 _ w.heap.size (fun _ => True)) rfl).mono ?_; rintro e w2 ⟨rfl, hR2, hb2⟩)
 go_ret
 rw [List.mergeSort_nil] at hR2
 exact ⟨_, rfl, hR2, ((Below.refl _ _).alloc (Nat.le_refl _) _).trans hb2⟩
end Go.Proofs.Ytiaiecfnpompcaa.T
namespace Go.Proofs.Ytiaiecfnpompcaa.T
open Go.RowKit Go.Maps Go.Proofs.YtiaiecfnpompcaaW.PrintWords Go.Proofs.YtiaiecfnpompcaaW.PrintLast Go.Proofs.YtiaiecfnpompcaaW.PrintMore
set_option linter.unusedVariables false
set_option linter.unusedSimpArgs false
set_option maxHeartbeats 40000000 in
set_option maxRecDepth 100000 in
theorem mill_Causes.calls_g (k : Nat) (A0 : Option Addr) (c0 : Nat) (l : List S144) (m f t : Int) (r1 : List S79) (r2 : Int) (w : World) (hC : Kd.C k144 w A0 l.length l) (hc0 : l.length ≤ c0) (h : mill_Causes.g k l m f t = some (r1, r2)) :
  Calls Try.prog 33 #[.slice A0 l.length c0, .agg #[.int .i64 m, .int .i64 f, .int .i64 t]] w fun e w' => ∃ v, e = .returned (.tuple #[v, .int .i64 r2]) ∧ Kd.R k79 79 w' w.heap.size (fun _ => True) v r1 ∧ Below w.heap.size w w' := by
 unfold mill_Causes.g at h
 obtain ⟨e1, hck, h⟩ := Option.bind_eq_some_iff.1 h
 replace hck := Aside0.mk hck
 by_cases c1 : e1 = 0
 rotate_left
 ·rw [if_pos c1] at h
  injection h with h
  injection h with ha hb
  subst ha; subst hb
  have c1b : (e1 != 0) = true := by simpa using c1
  clear h
  replace c1 := Aside0.mk c1
  go_enter Try.func33, Try.ntmps33
  go_wp2_with (first | ((with_reducible refine gate_dst (N := 3) rfl ?_); refine box_event ?hg (N := 3) ?hd (cs := #[.int .i64 m, .int .i64 f, .int .i64 t]) (t := 58) ?hr ?_; (case hd => rfl); (case hg => rfl); (case hr => first | (go_simp; done) | (go_simp; rfl)); intro b3 hg3 w2 hL hb3; have hge3 : w.heap.size ≤ b3 := Nat.le_of_eq hg3.symm; have hB := below_step (Below.refl w.heap.size w) hb3; obtain ⟨z0, z1, z2⟩ := bc3 hL; clear hg3 hb3) | (go_at_call 32; with_reducible refine (mill_Check.calls k A0 c0 l e1 _ (Kd.C_below hC hB) hc0 hck.out).mono ?_; rintro e w4 ⟨rfl, hb⟩; replace hL := blk_below hL hb; have hB := below_step hB hb; clear z0 z1 z2; obtain ⟨z0, z1, z2⟩ := bc3 hL; clear hb))
  go_ret2
  exact ⟨_, rfl, Kd.R_nil _ _ _ _ _, hB⟩
 subst c1
 rw [if_neg (by simp)] at h
 by_cases hp : l.length ≤ 100 ∧ ∀ x ∈ l, okRun x
 rotate_left
 ·rw [if_neg hp] at h; cases h
 rw [if_pos hp] at h
 replace hp := Aside0.mk hp
 by_cases c2 : causesE l m f t = 0
 rotate_left
 ·rw [if_pos c2] at h
  injection h with h
  injection h with ha hb
  subst ha; subst hb
  have c2b : (causesE l m f t != 0) = true := by simpa using c2
  replace c2 := Aside0.mk c2
  clear h
  go_enter Try.func33, Try.ntmps33
  go_wp2_with (first | ((with_reducible refine gate_dst (N := 3) rfl ?_); refine box_event ?hg (N := 3) ?hd (cs := #[.int .i64 m, .int .i64 f, .int .i64 t]) (t := 58) ?hr ?_; (case hd => rfl); (case hg => rfl); (case hr => first | (go_simp; done) | (go_simp; rfl)); intro b3 hg3 w2 hL hb3; have hge3 : w.heap.size ≤ b3 := Nat.le_of_eq hg3.symm; have hB := below_step (Below.refl w.heap.size w) hb3; obtain ⟨z0, z1, z2⟩ := bc3 hL; clear hg3 hb3) | (go_at_call 32; with_reducible refine (mill_Check.calls k A0 c0 l 0 _ (Kd.C_below hC hB) hc0 hck.out).mono ?_; rintro e w4 ⟨rfl, hb⟩; replace hL := blk_below hL hb; have hB := below_step hB hb; clear z0 z1 z2; obtain ⟨z0, z1, z2⟩ := bc3 hL; clear hb) | ((go_at_call 69; with_reducible refine (shop_causes.calls A0 c0 l m f t _ (Kd.C_below hC hB) hc0 hp.out.1 hp.out.2).mono ?_; rintro e w5 ⟨v, rfl, hb, hbad, hgood⟩; have hsz := below_size hB; have hB2 := below_step hB hb; clear z0 z1 z2 hL); obtain rfl := hbad c2.out; clear hbad hgood) | (go_at_call 70; with_reducible refine (sorted_nil _).mono ?_; rintro e w6 ⟨v2, rfl, hR6, hb6⟩))
  go_ret2
  exact ⟨_, rfl, Kd.R_lower hR6 (below_size hB2), below_step hB2 hb6⟩
 rw [if_neg (fun q => q c2)] at h
 injection h with h
 injection h with ha hb
 subst ha; subst hb
 clear h
 obtain ⟨q1, q2⟩ := causesE_zero c2
 have hok := allKeys_ok hp.out.2 q1
 have hlen := allKeys_len q2
 have hlen2 : (allKeys l m f t).length ≤ 1000000 := by have := hp.out.1; omega
 replace c2 := Aside0.mk c2
 replace q1 := Aside0.mk q1
 replace q2 := Aside0.mk q2
 replace hok := Aside0.mk hok
 replace hlen := Aside0.mk hlen
 replace hlen2 := Aside0.mk hlen2
 go_enter Try.func33, Try.ntmps33
 go_wp2_with (first | ((with_reducible refine gate_dst (N := 3) rfl ?_); refine box_event ?hg (N := 3) ?hd (cs := #[.int .i64 m, .int .i64 f, .int .i64 t]) (t := 58) ?hr ?_; (case hd => rfl); (case hg => rfl); (case hr => first | (go_simp; done) | (go_simp; rfl)); intro b3 hg3 w2 hL hb3; have hge3 : w.heap.size ≤ b3 := Nat.le_of_eq hg3.symm; have hB := below_step (Below.refl w.heap.size w) hb3; obtain ⟨z0, z1, z2⟩ := bc3 hL; clear hg3 hb3) | (go_at_call 32; with_reducible refine (mill_Check.calls k A0 c0 l 0 _ (Kd.C_below hC hB) hc0 hck.out).mono ?_; rintro e w4 ⟨rfl, hb⟩; replace hL := blk_below hL hb; have hB := below_step hB hb; clear z0 z1 z2; obtain ⟨z0, z1, z2⟩ := bc3 hL; clear hb) | ((go_at_call 69; with_reducible refine (shop_causes.calls A0 c0 l m f t _ (Kd.C_below hC hB) hc0 hp.out.1 hp.out.2).mono ?_; rintro e w5 ⟨v, rfl, hb, hbad, hgood⟩; have hsz := below_size hB; have hB2 := below_step hB hb; clear z0 z1 z2 hL); rw [c2.out] at hgood ⊢; obtain ⟨B, n, rfl, hge, hown⟩ := hgood rfl; clear hbad hgood) | (go_at_call 70; with_reducible refine (sorted_calls B n _ _ hown hok.out hlen2.out).mono ?_; rintro e w6 ⟨v2, l2, rfl, hp2, hR6, hb6⟩))
 go_ret2
 rw [sort79_perm hp2] at hR6
 exact ⟨_, rfl, Kd.R_lower hR6 (below_size hB2), below_step hB2 hb6⟩
theorem mill_Causes.calls (A0 : Option Addr) (c0 : Nat) (l : List S144) (m f t : Int) (r1 : List S79) (r2 : Int) (w : World) (hC : Kd.C k144 w A0 l.length l) (hc0 : l.length ≤ c0) (h : mill_Causes.f l m f t = some (r1, r2)) :
  Calls Try.prog 33 #[.slice A0 l.length c0, .agg #[.int .i64 m, .int .i64 f, .int .i64 t]] w fun e w' => ∃ v, e = .returned (.tuple #[v, .int .i64 r2]) ∧ Kd.R k79 79 w' w.heap.size (fun _ => True) v r1 ∧ Below w.heap.size w w' := mill_Causes.calls_g 1000 A0 c0 l m f t r1 r2 w hC hc0 h
end Go.Proofs.Ytiaiecfnpompcaa.T
namespace Go.Proofs.Ytiaiecfnpompcaa.T
open Go.RowKit Go.Maps Go.Proofs.YtiaiecfnpompcaaW.PrintWords Go.Proofs.YtiaiecfnpompcaaW.PrintLast Go.Proofs.YtiaiecfnpompcaaW.PrintMore
set_option linter.unusedVariables false
set_option linter.unusedSimpArgs false

def CellsV (w : World) (A : Option Addr) (vs : List Value) : Prop := ∀ (i : Nat) (v : Value), vs[i]? = some v → ∃ ad, A = some ad ∧ w.cell? (ad.add i) = some v
def AtAllV (P : Program) (g : Nat) (lb : Array Value) (ps : List Bool) (vs : List Value) (w : World) : Prop :=
 ∀ (i : Nat) (v : Value) (b : Bool), vs[i]? = some v → ps[i]? = some b → ∀ q : Nat, Calls P g (#[v] ++ lb) (w.drewN q) fun e w' => e = .returned (.bool b) ∧ w.drewN q = w'

theorem idx_any109 (g : Nat) (lb : Array Value) (eg : ∀ args w, (callFunc g args).run Try.prog w = .ok (.enter g args) w) (A : Option Addr) (c : Nat) (vs : List Value) (ps : List Bool) (w : World)
  (hl : ps.length = vs.length) (hr : CellsV w A vs) (hb : vs.length ≤ 9223372036854775807) (hp : AtAllV Try.prog g lb ps vs w) :
  Calls Try.prog 109 #[.slice A vs.length c, .func (.func g) #[] lb] w fun e w' => (∃ n : Int, e = .returned (.int .i64 n) ∧ (decide (0 ≤ n)) = ps.any id) ∧ Drawn0 w w' := by
 have HP : Hid (AtAllV Try.prog g lb ps vs w) := hp
 have HR : Hid (CellsV w A vs) := hr
 have HL : Hid (ps.length = vs.length) := hl
 clear hp hr hl
 go_enter Try.func109, Try.ntmps109
 go_wp2
 go_loopg [5, 8] vs.length (fun gg _ s8 wr => ∃ (i : Int) (q : Nat), 0 ≤ i ∧ i ≤ vs.length ∧ vs.length - i.toNat ≤ gg ∧ s8 = .int .i64 i ∧ wr = w.drewN q ∧ Hid ((ps.take i.toNat).any id = false))
 case atStart => exact ⟨0, 0, by omega, by omega, by omega, rfl, rfl, rfl⟩
 case round =>
  obtain ⟨i, q, h0, h1, hg, rfl, rfl, hA⟩ := hrel
  by_cases hlt : i < vs.length
  ·have hk : i.toNat < vs.length := by omega
   have hk2 : i.toNat < ps.length := by have := HL.out; omega
   obtain ⟨ad, hAd, hcell⟩ := HR.out i.toNat vs[i.toNat] (List.getElem?_eq_getElem hk)
   subst hAd
   have HC := HP.out i.toNat vs[i.toNat] ps[i.toNat] (List.getElem?_eq_getElem hk) (List.getElem?_eq_getElem hk2)
   have hT : Hid (ps.take (i.toNat + 1) = ps.take i.toNat ++ [ps[i.toNat]]) := List.take_succ_eq_append_getElem hk2
   have HM : Hid (ps[i.toNat] ∈ ps) := List.getElem_mem hk2
   clear HP HL
   generalize vs[i.toNat] = v at hcell HC
   generalize ps[i.toNat] = b at HC hT HM
   have e0 : decide (0 ≤ i) = true := decide_eq_true h0
   cases b with
   | true =>
    go_wp2_with (go_at_fn g; refine (HC _).mono ?_; rintro e w' ⟨rfl, rfl⟩)
    go_ret
    refine ⟨⟨i, rfl, ?_⟩, ⟨_, rfl⟩⟩
    rw [decide_eq_true h0, eq_comm, List.any_eq_true]
    exact ⟨true, HM.out, rfl⟩
   | false =>
    go_wp2_with (go_at_fn g; refine (HC _).mono ?_; rintro e w' ⟨rfl, rfl⟩)
    go_roundg (vs.length - (i+1).toNat)
    case measure => omega
    case rel =>
     refine ⟨i + 1, _, by omega, by omega, by omega, rfl, rfl, ?_⟩
     show (ps.take (i + 1).toNat).any id = false
     rw [show (i + 1).toNat = i.toNat + 1 by omega, hT.out, List.any_append, hA.out]; rfl
  ·clear HP
   go_wp2
   go_ret
   refine ⟨⟨-1, rfl, ?_⟩, ⟨_, rfl⟩⟩
   have := hA.out
   rw [List.take_of_length_le (by have := HL.out; omega)] at this
   rw [this]; rfl
theorem contains_any100 (g : Nat) (lb : Array Value) (eg : ∀ args w, (callFunc g args).run Try.prog w = .ok (.enter g args) w) (A : Option Addr) (c : Nat) (vs : List Value) (ps : List Bool) (w : World)
  (hl : ps.length = vs.length) (hr : CellsV w A vs) (hb : vs.length ≤ 9223372036854775807) (hp : AtAllV Try.prog g lb ps vs w) :
  Calls Try.prog 100 #[.slice A vs.length c, .func (.func g) #[] lb] w fun e w' => e = .returned (.bool (ps.any id)) ∧ Drawn0 w w' := by
 have HP : Hid (AtAllV Try.prog g lb ps vs w) := hp
 have HR : Hid (CellsV w A vs) := hr
 have HL : Hid (ps.length = vs.length) := hl
 clear hp hr hl
 go_enter Try.func100, Try.ntmps100
 go_wp2_with (go_at_call 109; refine (idx_any109 g lb eg A c vs ps _ HL.out HR.out hb HP.out).mono ?_; rintro e w' ⟨⟨n, rfl, hn⟩, hd⟩; have HN := hid hn; have HD := hid hd; clear hn hd)
 go_ret
 exact ⟨by rw [← HN.out]; rfl, HD.out⟩

theorem idx_any108 (g : Nat) (lb : Array Value) (eg : ∀ args w, (callFunc g args).run Try.prog w = .ok (.enter g args) w) (A : Option Addr) (c : Nat) (vs : List Value) (ps : List Bool) (w : World)
  (hl : ps.length = vs.length) (hr : CellsV w A vs) (hb : vs.length ≤ 9223372036854775807) (hp : AtAllV Try.prog g lb ps vs w) :
  Calls Try.prog 108 #[.slice A vs.length c, .func (.func g) #[] lb] w fun e w' => (∃ n : Int, e = .returned (.int .i64 n) ∧ (decide (0 ≤ n)) = ps.any id) ∧ Drawn0 w w' := by
 have HP : Hid (AtAllV Try.prog g lb ps vs w) := hp
 have HR : Hid (CellsV w A vs) := hr
 have HL : Hid (ps.length = vs.length) := hl
 clear hp hr hl
 go_enter Try.func108, Try.ntmps108
 go_wp2
 go_loopg [5, 8] vs.length (fun gg _ s8 wr => ∃ (i : Int) (q : Nat), 0 ≤ i ∧ i ≤ vs.length ∧ vs.length - i.toNat ≤ gg ∧ s8 = .int .i64 i ∧ wr = w.drewN q ∧ Hid ((ps.take i.toNat).any id = false))
 case atStart => exact ⟨0, 0, by omega, by omega, by omega, rfl, rfl, rfl⟩
 case round =>
  obtain ⟨i, q, h0, h1, hg, rfl, rfl, hA⟩ := hrel
  by_cases hlt : i < vs.length
  ·have hk : i.toNat < vs.length := by omega
   have hk2 : i.toNat < ps.length := by have := HL.out; omega
   obtain ⟨ad, hAd, hcell⟩ := HR.out i.toNat vs[i.toNat] (List.getElem?_eq_getElem hk)
   subst hAd
   have HC := HP.out i.toNat vs[i.toNat] ps[i.toNat] (List.getElem?_eq_getElem hk) (List.getElem?_eq_getElem hk2)
   have hT : Hid (ps.take (i.toNat + 1) = ps.take i.toNat ++ [ps[i.toNat]]) := List.take_succ_eq_append_getElem hk2
   have HM : Hid (ps[i.toNat] ∈ ps) := List.getElem_mem hk2
   clear HP HL
   generalize vs[i.toNat] = v at hcell HC
   generalize ps[i.toNat] = b at HC hT HM
   have e0 : decide (0 ≤ i) = true := decide_eq_true h0
   cases b with
   | true =>
    go_wp2_with (go_at_fn g; refine (HC _).mono ?_; rintro e w' ⟨rfl, rfl⟩)
    go_ret
    refine ⟨⟨i, rfl, ?_⟩, ⟨_, rfl⟩⟩
    rw [decide_eq_true h0, eq_comm, List.any_eq_true]
    exact ⟨true, HM.out, rfl⟩
   | false =>
    go_wp2_with (go_at_fn g; refine (HC _).mono ?_; rintro e w' ⟨rfl, rfl⟩)
    go_roundg (vs.length - (i+1).toNat)
    case measure => omega
    case rel =>
     refine ⟨i + 1, _, by omega, by omega, by omega, rfl, rfl, ?_⟩
     show (ps.take (i + 1).toNat).any id = false
     rw [show (i + 1).toNat = i.toNat + 1 by omega, hT.out, List.any_append, hA.out]; rfl
  ·clear HP
   go_wp2
   go_ret
   refine ⟨⟨-1, rfl, ?_⟩, ⟨_, rfl⟩⟩
   have := hA.out
   rw [List.take_of_length_le (by have := HL.out; omega)] at this
   rw [this]; rfl
theorem contains_any99 (g : Nat) (lb : Array Value) (eg : ∀ args w, (callFunc g args).run Try.prog w = .ok (.enter g args) w) (A : Option Addr) (c : Nat) (vs : List Value) (ps : List Bool) (w : World)
  (hl : ps.length = vs.length) (hr : CellsV w A vs) (hb : vs.length ≤ 9223372036854775807) (hp : AtAllV Try.prog g lb ps vs w) :
  Calls Try.prog 99 #[.slice A vs.length c, .func (.func g) #[] lb] w fun e w' => e = .returned (.bool (ps.any id)) ∧ Drawn0 w w' := by
 have HP : Hid (AtAllV Try.prog g lb ps vs w) := hp
 have HR : Hid (CellsV w A vs) := hr
 have HL : Hid (ps.length = vs.length) := hl
 clear hp hr hl
 go_enter Try.func99, Try.ntmps99
 go_wp2_with (go_at_call 108; refine (idx_any108 g lb eg A c vs ps _ HL.out HR.out hb HP.out).mono ?_; rintro e w' ⟨⟨n, rfl, hn⟩, hd⟩; have HN := hid hn; have HD := hid hd; clear hn hd)
 go_ret
 exact ⟨by rw [← HN.out]; rfl, HD.out⟩

theorem atKey_fold (u : DataW Unit) (k : Lit) (hk : WideAt.IsKeyLit k) (z : DataW Unit) : ∀ (acc : List Lit) (m : DataW Unit), IsMap m → (∀ x ∈ acc, WideAt.IsKeyLit x) →
  (k ∈ acc → (acc.foldl (fun m x => m.put x u) m).atKey k z = u) ∧ (k ∉ acc → (acc.foldl (fun m x => m.put x u) m).atKey k z = m.atKey k z)
 | [], m, _, _ => ⟨fun h => by simp at h, fun _ => rfl⟩
 | x :: r, m, hm, h => by
  obtain ⟨i1, i2⟩ := atKey_fold u k hk z r (m.put x u) (hm.put x u) (fun y hy => h y (by simp [hy]))
  rw [List.foldl_cons]
  refine ⟨fun q => ?_, fun q => ?_⟩
  ·by_cases g : k ∈ r
   ·exact i1 g
   ·have e : k = x := (List.mem_cons.1 q).resolve_right g
    rw [i2 g, e, atKey_put_same hm (e ▸ hk)]
  ·have g : k ∉ r := fun hh => q (List.mem_cons_of_mem _ hh)
   have e : k ≠ x := fun hh => q (by simp [hh])
   rw [i2 g, atKey_put_other e]
theorem atKey_setC {l : List S79} (h : ∀ x ∈ l, okC x) {x : S79} (hx : okC x) (z : DataW Unit) : (setC l).atKey (litC x) z = if x ∈ l then .lit (.bool true) else z := by
 obtain ⟨i1, i2⟩ := atKey_fold (.lit (.bool true)) (litC x) (law79.key (key79 hx)) z (l.map litC) (.map []) isMap_empty (fun y hy => by
  obtain ⟨s, hs, rfl⟩ := List.mem_map.1 hy
  exact law79.key (key79 (h s hs)))
 have e : litC x ∈ l.map litC ↔ x ∈ l := by
  constructor
  ·intro hm
   obtain ⟨y, hy, e⟩ := List.mem_map.1 hm
   rw [litC_inj hx (h y hy) e.symm]; exact hy
  ·exact fun hm => List.mem_map.2 ⟨x, hm, rfl⟩
 by_cases g : x ∈ l
 ·rw [if_pos g]; exact i1 (e.2 g)
 ·rw [if_neg g]; exact i2 (fun q => g (e.1 q))
theorem zero4 (w : World) : (zeroValue 4).run Try.prog w = .ok (.bool false) w := by kernel_rfl
theorem plainB (b : Bool) : plainElem (H := Unit) Try.prog 4 (.bool b) = some (.lit (.bool b), []) := by simp [plainElem, Try.underlying4, Lit.wf]
theorem look79 {w : World} {B n : Nat} {ks : List S79} (hown : w.ownsMap Try.prog 79 (plainElem (H := Unit) Try.prog 4) B n (setC ks)) (hok : ∀ x ∈ ks, okC x) {x : S79} (hx : okC x) :
  (Instr.lookup 149 (.map (some B)) (.agg #[.int .i64 x.f0, .int .i64 x.f1, .int .i64 x.f2]) false).run Try.prog w = .ok (.bool (decide (x ∈ ks))) w := by
 obtain ⟨v, ps, hrun, hv⟩ := hown.lookup law79 Try.underlying149 (zero4 w) (plainB false) (key79 hx)
 obtain ⟨c, rfl⟩ := invB v _ hv
 rw [atKey_setC hok hx, plainB] at hv
 rw [show (.agg #[.int .i64 x.f0, .int .i64 x.f1, .int .i64 x.f2] : Value) = vC x from rfl, hrun]
 simp only [Option.some.injEq, Prod.mk.injEq] at hv
 obtain ⟨hv, _⟩ := hv
 clear hrun hown
 by_cases g : x ∈ ks
 ·rw [if_pos g] at hv
  rw [decide_eq_true g]
  simp only [DataW.lit.injEq, Lit.bool.injEq] at hv
  rw [hv]
 ·rw [if_neg g] at hv
  rw [decide_eq_false g]
  simp only [DataW.lit.injEq, Lit.bool.injEq] at hv
  rw [hv]
theorem has_calls (b B n : Nat) (ks : List S79) (x : S79) (w : World) (hL : w.heap[b]? = some (.cells #[.int .i64 x.f0, .int .i64 x.f1, .int .i64 x.f2] 79 (0, 0))) (hown : w.ownsMap Try.prog 79 (plainElem (H := Unit) Try.prog 4) B n (setC ks)) (hok : ∀ x ∈ ks, okC x) (hx : okC x) :
  Calls Try.prog 97 #[.map (some B), .pointer (some ⟨b, 0, none⟩)] w fun e w' => e = .returned (.bool (decide (x ∈ ks))) ∧ w = w' := by
 have hlk := look79 hown hok hx
 generalize decide (x ∈ ks) = r at hlk ⊢
 obtain ⟨x0, x1, x2⟩ := x
 dsimp only at hL hlk
 obtain ⟨z0, z1, z2⟩ := bc3 hL
 clear hown hok hx hL
 go_enter Try.func97, Try.ntmps97
 go_wp2
 go_ret
 exact ⟨rfl, rfl⟩
theorem hasNot_calls (b B n : Nat) (ks : List S79) (x : S79) (w : World) (hL : w.heap[b]? = some (.cells #[.int .i64 x.f0, .int .i64 x.f1, .int .i64 x.f2] 79 (0, 0))) (hown : w.ownsMap Try.prog 79 (plainElem (H := Unit) Try.prog 4) B n (setC ks)) (hok : ∀ x ∈ ks, okC x) (hx : okC x) :
  Calls Try.prog 98 #[.map (some B), .pointer (some ⟨b, 0, none⟩)] w fun e w' => e = .returned (.bool (!decide (x ∈ ks))) ∧ w = w' := by
 have hlk := look79 hown hok hx
 generalize decide (x ∈ ks) = r at hlk ⊢
 obtain ⟨x0, x1, x2⟩ := x
 dsimp only at hL hlk
 obtain ⟨z0, z1, z2⟩ := bc3 hL
 clear hown hok hx hL
 go_enter Try.func98, Try.ntmps98
 go_wp2
 go_ret
 exact ⟨rfl, rfl⟩
theorem many1_calls (A : Option Addr) (n c : Nat) (w : World) : Calls Try.prog 101 #[.slice A n c] w fun e w' => e = .returned (.bool (decide ((40 : Int) < (n : Int)))) ∧ w = w' := by
 go_enter Try.func101, Try.ntmps101
 go_wp2
 go_ret
 exact ⟨rfl, rfl⟩
theorem areMany_calls (A : Option Addr) (c : Nat) (ls : List (Option Addr × Nat × Nat)) (w : World) (hb : ls.length ≤ 100) (hr : CellsV w A (ls.map fun p => .slice p.1 p.2.1 p.2.2)) :
  Calls Try.prog 73 #[.slice A ls.length c] w fun e w' => e = .returned (.bool (ls.any fun p => decide ((40 : Int) < (p.2.1 : Int)))) ∧ Drawn0 w w' := by
 have e1 : (ls.any fun p => decide ((40 : Int) < (p.2.1 : Int))) = (ls.map fun p => decide ((40 : Int) < (p.2.1 : Int))).any id := by rw [List.any_map]; rfl
 rw [e1]
 have hlen : (ls.map fun p => (.slice p.1 p.2.1 p.2.2 : Value)).length = ls.length := by simp
 have HC := contains_any100 101 #[] (enters_of Try.func101 (by kernel_rfl) rfl) A c (ls.map fun p => .slice p.1 p.2.1 p.2.2) (ls.map fun p => decide ((40 : Int) < (p.2.1 : Int))) w (by simp) hr (by rw [hlen]; omega) (by
  intro i v b hv hb2 q
  rw [List.getElem?_map] at hv hb2
  obtain ⟨p, hp, rfl⟩ := Option.map_eq_some_iff.1 hv
  rw [hp] at hb2
  injection hb2 with hb2
  subst hb2
  exact many1_calls _ _ _ _)
 rw [hlen] at HC
 generalize (ls.map fun p => decide ((40 : Int) < (p.2.1 : Int))).any id = r at HC ⊢
 clear e1 hlen hr
 replace HC := hid HC
 go_enter Try.func73, Try.ntmps73
 go_wp2_with (go_at_call 100; refine (HC.out).mono ?_; rintro e w' ⟨rfl, hd⟩; have HD := hid hd; clear hd)
 go_ret
 exact ⟨rfl, HD.out⟩
end Go.Proofs.Ytiaiecfnpompcaa.T
namespace Go.Proofs.Ytiaiecfnpompcaa.T
open Go.RowKit Go.Maps Go.Proofs.YtiaiecfnpompcaaW.PrintWords Go.Proofs.YtiaiecfnpompcaaW.PrintLast Go.Proofs.YtiaiecfnpompcaaW.PrintMore
set_option linter.unusedVariables false
set_option linter.unusedSimpArgs false

def kMap : Kd Nat := Kd.scalar (fun B => Value.map (some B)) (fun _ => rfl)
theorem info149 : (Try.prog.info? 149).map (fun i => (i.zero, i.size, i.bytes)) = some (some (.map none), 1, 8) := by kernel_rfl
abbrev OwnC (w : World) (B n : Nat) (ks : List S79) : Prop := w.ownsMap Try.prog 79 (plainElem (H := Unit) Try.prog 4) B n (setC ks)
def MapsR (w : World) (base : Nat) (v : Value) (kss : List (List S79)) : Prop :=
 ∃ Bs : List Nat, Kd.R kMap 149 w base (fun _ => True) v Bs ∧ Bs.length = kss.length ∧ ∀ (i B : Nat) (ks : List S79), Bs[i]? = some B → kss[i]? = some ks → base ≤ B ∧ ∃ n, OwnC w B n ks
theorem MapsR.nil (w : World) (base : Nat) : MapsR w base (.slice none 0 0) [] := ⟨[], Kd.R_nil _ _ _ _ _, rfl, fun i B ks h => by simp at h⟩
theorem MapsR.below {w w' : World} {base : Nat} {v : Value} {kss : List (List S79)} (h : MapsR w base v kss) (hb : Below w.heap.size w w') : MapsR w' base v kss := by
 obtain ⟨Bs, hR, hl, hm⟩ := h
 refine ⟨Bs, Kd.R_below hR hb, hl, fun i B ks h1 h2 => ?_⟩
 obtain ⟨h3, n, ho⟩ := hm i B ks h1 h2
 exact ⟨h3, n, ho.kept (grown_of_below hb none) (by simp)⟩
theorem MapsR.lower {w : World} {b base : Nat} {v : Value} {kss : List (List S79)} (h : MapsR w base v kss) (hb : b ≤ base) : MapsR w b v kss := by
 obtain ⟨Bs, hR, hl, hm⟩ := h
 exact ⟨Bs, Kd.R_lower hR hb, hl, fun i B ks h1 h2 => ⟨Nat.le_trans hb (hm i B ks h1 h2).1, (hm i B ks h1 h2).2⟩⟩
theorem map_ne_row {w : World} {base B n : Nat} {v : Value} {Bs : List Nat} {ok : Nat → Prop} {ks : List S79} (hR : Kd.R kMap 149 w base ok v Bs) (ho : OwnC w B n ks) : some B ≠ v.ownBlock := by
 obtain ⟨es, clock, hb, _⟩ := ho
 obtain ⟨_, inner, hown, _⟩ := hR
 rcases hown.2 with ⟨rfl, _⟩ | ⟨g, cap, cur, rfl, _, hg, _⟩
 ·simp [Value.ownBlock]
 ·intro e
  injection e with e
  have e : B = g := e
  rw [e, hg] at hb
  cases hb
theorem MapsR.put {w w' : World} {base B n : Nat} {v v' : Value} {kss : List (List S79)} {ks : List S79} {Bs : List Nat} (hR : Kd.R kMap 149 w base (fun _ => True) v Bs) (hl : Bs.length = kss.length)
  (hm : ∀ (i B : Nat) (ks : List S79), Bs[i]? = some B → kss[i]? = some ks → base ≤ B ∧ ∃ n, OwnC w B n ks) (hB : base ≤ B) (ho : OwnC w B n ks) (hg : w.grownBy w' v.ownBlock) (hR' : Kd.R kMap 149 w' base (fun _ => True) v' (Bs ++ [B])) : MapsR w' base v' (kss ++ [ks]) := by
 refine ⟨Bs ++ [B], hR', by simp [hl], fun i C qs h1 h2 => ?_⟩
 by_cases hi : i < Bs.length
 ·rw [List.getElem?_append_left hi] at h1
  rw [List.getElem?_append_left (by omega)] at h2
  obtain ⟨h3, n, h4⟩ := hm i C qs h1 h2
  exact ⟨h3, n, h4.kept hg (map_ne_row hR h4)⟩
 ·rw [List.getElem?_append_right (by omega)] at h1 h2
  rw [← hl] at h2
  by_cases hz : i - Bs.length = 0
  ·rw [hz] at h1 h2
   simp only [List.getElem?_cons_zero, Option.some.injEq] at h1 h2
   subst h1; subst h2
   exact ⟨hB, n, ho.kept hg (map_ne_row hR ho)⟩
  ·rw [List.getElem?_eq_none (by simp; omega)] at h1
   cases h1
def keysOf (l : List S144) (x : S58) : List S79 := allKeys l x.f0 x.f1 x.f2
def errOf (l : List S144) (x : S58) : Int := causesE l x.f0 x.f1 x.f2
def allE (l : List S144) : List S58 → Int
 | [] => 0
 | x :: r => if errOf l x ≠ 0 then errOf l x else allE l r
theorem allE_zero {l : List S144} : ∀ {ls : List S58}, (∀ x ∈ ls, errOf l x = 0) → allE l ls = 0
 | [], _ => rfl
 | x :: r, h => by
  unfold allE
  rw [if_neg (by simp [h x (by simp)])]
  exact allE_zero (fun y hy => h y (by simp [hy]))
theorem allE_zero' {l : List S144} : ∀ {ls : List S58}, allE l ls = 0 → ∀ x ∈ ls, errOf l x = 0
 | x :: r, h, y, hy => by
  unfold allE at h
  by_cases g : errOf l x = 0
  ·rw [if_neg (by simp [g])] at h
   rcases List.mem_cons.1 hy with e | hy
   ·rw [e]; exact g
   ·exact allE_zero' h y hy
  ·rw [if_pos g] at h; exact absurd h g
theorem allE_at {l : List S144} {x : S58} {r : List S58} (hx : errOf l x ≠ 0) : ∀ {b : List S58}, (∀ y ∈ b, errOf l y = 0) → allE l (b ++ x :: r) = errOf l x
 | [], _ => by
  show allE l (x :: r) = _
  unfold allE
  rw [if_pos hx]
 | y :: b, h => by
  show allE l (y :: (b ++ x :: r)) = _
  unfold allE
  rw [if_neg (by simp [h y (by simp)])]
  exact allE_at hx (fun z hz => h z (by simp [hz]))
set_option maxHeartbeats 40000000 in
set_option maxRecDepth 100000 in
theorem all_calls (A0 : Option Addr) (c0 : Nat) (l : List S144) (A1 : Option Addr) (c1 : Nat) (ls : List S58) (w : World) (hC : Kd.C k144 w A0 l.length l) (hc0 : l.length ≤ c0) (hlen : l.length ≤ 100) (hl : ∀ x ∈ l, okRun x)
  (hC1 : Kd.C k58 w A1 ls.length ls) (hc1 : ls.length ≤ c1) (hls : ls.length ≤ 1000) :
  Calls Try.prog 75 #[.slice A0 l.length c0, .slice A1 ls.length c1] w fun e w' => ∃ v, e = .returned (.tuple #[v, .int .i64 (allE l ls)]) ∧ Below w.heap.size w w' ∧
   (allE l ls ≠ 0 → v = .slice none 0 0) ∧ (allE l ls = 0 → MapsR w' w.heap.size v (ls.map (keysOf l))) := by
 go_enter Try.func75, Try.ntmps75
 go_wp2
 go_loopw [4, 12] (fun v4 v12 wr => ∃ i : Nat, i ≤ ls.length ∧ v12 = .int .i64 i ∧ (∀ x ∈ ls.take i, errOf l x = 0) ∧ MapsR wr w.heap.size v4 ((ls.take i).map (keysOf l)) ∧ Below w.heap.size w wr)
  (fun _ v12 _ => ls.length - (intOf v12).toNat)
 case atStart => exact ⟨0, Nat.zero_le _, rfl, (fun x hx => by simp at hx), MapsR.nil _ _, Below.refl _ _⟩
 case round => as_aux_lemma =>
  obtain ⟨i, hi, rfl, hz, hM, hB⟩ := hrel
  by_cases hlt : i < ls.length
  rotate_left
  ·have p2n : decide (i < ls.length) = false := decide_eq_false hlt
   have p2b : decide ((i : Int) < (ls.length : Int)) = false := decide_eq_false (by omega)
   have hil : i = ls.length := by omega
   rw [hil, List.take_length] at hz hM
   clear hil
   replace hlt := Aside0.mk hlt
   have e0 := allE_zero hz
   replace hz := Aside0.mk hz
   replace e0 := Aside0.mk e0
   go_wp2
   go_ret2
   rw [e0.out]
   exact ⟨_, rfl, hB, fun q => absurd rfl q, fun _ => hM⟩
  have p2n : decide (i < ls.length) = true := decide_eq_true hlt
  have p2b : decide ((i : Int) < (ls.length : Int)) = true := decide_eq_true (by omega)
  have p2t := eq_true hlt
  obtain ⟨ad, e1, hx0, hx1, hx2⟩ := at_T58 (Kd.C_below hC1 hB) (i : Int) (by omega) (by omega)
  cases e1
  rw [Int.toNat_natCast] at hx0 hx1 hx2
  have hxi : rd_T58 ls (i : Int) = ls[i] := by simp [rd_T58, hlt]
  have htk : ls.take (i + 1) = ls.take i ++ [rd_T58 ls (i : Int)] := by rw [List.take_succ_eq_append_getElem hlt, hxi]
  have hsp : ls = ls.take i ++ rd_T58 ls (i : Int) :: ls.drop (i + 1) := by rw [hxi, List.getElem_cons_drop, List.take_append_drop]
  generalize rd_T58 ls (i : Int) = x at hx0 hx1 hx2 hxi htk hsp
  obtain ⟨x0, x1, x2⟩ := x
  dsimp only at hx0 hx1 hx2
  replace hlt := Aside0.mk hlt
  replace hxi := Aside0.mk hxi
  replace htk := Aside0.mk htk
  replace hsp := Aside0.mk hsp
  replace hz := Aside0.mk hz
  obtain ⟨Bs, hR, hBl, hBm⟩ := hM
  obtain ⟨AL, cL, rfl⟩ := Kd.R_slice hR
  replace hBm := Aside0.mk hBm
  replace hBl := Aside0.mk hBl
  go_upto_region 4 with (first | ((with_reducible refine gate_dst (N := 7) rfl ?_); refine box_event ?hg (N := 7) ?hd (cs := #[.int .i64 0, .int .i64 0, .int .i64 0]) (t := 58) ?hr ?_; (case hd => rfl); (case hg => rfl); (case hr => first | (go_simp; done) | (go_simp; rfl)); intro g3 hg3 w2 hb3 hbb; have hge3 : wr.heap.size ≤ g3 := Nat.le_of_eq hg3.symm; clear hg3; obtain ⟨y0, y1, y2⟩ := bc3 hb3; obtain ⟨f0, f1, f2⟩ := bf3 hb3))
  have hx3 : (((w2.setCell ⟨g3, 0, none⟩ (.int .i64 x0)).setCell ⟨g3, 1, none⟩ (.int .i64 x1)).setCell ⟨g3, 2, none⟩ (.int .i64 x2)).heap[g3]? = some (.cells #[.int .i64 x0, .int .i64 x1, .int .i64 x2] 58 (0, 0)) := bto (bput (bput (bput hb3 0 _) 1 _) 2 _) rfl
  have hbs : Below wr.heap.size wr (((w2.setCell ⟨g3, 0, none⟩ (.int .i64 x0)).setCell ⟨g3, 1, none⟩ (.int .i64 x1)).setCell ⟨g3, 2, none⟩ (.int .i64 x2)) := below_set (below_set (below_set hbb hge3) hge3) hge3
  clear y0 y1 y2 f0 f1 f2 hb3 hbb
  generalize ((w2.setCell ⟨g3, 0, none⟩ (.int .i64 x0)).setCell ⟨g3, 1, none⟩ (.int .i64 x1)).setCell ⟨g3, 2, none⟩ (.int .i64 x2) = w3 at hx3 hbs ⊢
  have hR3 := Kd.R_below hR hbs
  have hBm3 : Aside0 (∀ (j B : Nat) (ks : List S79), Bs[j]? = some B → ((ls.take i).map (keysOf l))[j]? = some ks → w.heap.size ≤ B ∧ ∃ n, OwnC w3 B n ks) := ⟨fun j B ks h1 h2 => ⟨(hBm.out j B ks h1 h2).1, (hBm.out j B ks h1 h2).2.imp fun n hn => hn.kept (grown_of_below hbs none) (by simp)⟩⟩
  have hB3 := below_step hB hbs
  clear hR hBm hbs hx0 hx1 hx2 hB
  obtain ⟨y0, y1, y2⟩ := bc3 hx3
  have hsz := below_size hB3
  by_cases ce : errOf l ⟨x0, x1, x2⟩ = 0
  rotate_left
  ·have ceb : (causesE l x0 x1 x2 != 0) = true := by simpa [errOf] using ce
   have e0 : allE l ls = errOf l ⟨x0, x1, x2⟩ := by rw [hsp.out]; exact allE_at ce hz.out
   replace ce := Aside0.mk ce
   replace e0 := Aside0.mk e0
   go_wp2_with (go_at_call 69; refine (shop_causes.calls A0 c0 l x0 x1 x2 _ (Kd.C_below hC hB3) hc0 hlen hl).mono ?_; rintro e w4 ⟨v4, rfl, hb, hn0, hz0⟩; replace hB3 := below_step hB3 hb; clear hb hz0 y0 y1 y2)
   go_ret2
   rw [e0.out]
   exact ⟨_, rfl, hB3, fun _ => rfl, fun q => absurd q ce.out⟩
  ·have ceb : (causesE l x0 x1 x2 != 0) = false := by simpa [errOf] using ce
   have ce2 : Aside0 (causesE l x0 x1 x2 = 0) := ⟨ce⟩
   replace ce := Aside0.mk ce
   have hbl : Aside0 (Bs.length ≤ 1000) := ⟨by have := hBl.out; have := hlt.out; rw [List.length_map, List.length_take] at *; omega⟩
   go_upto_region 7 with (go_at_call 69; refine (shop_causes.calls A0 c0 l x0 x1 x2 _ (Kd.C_below hC hB3) hc0 hlen hl).mono ?_; rintro e w4 ⟨v4, rfl, hb, hn0, hz0⟩; obtain ⟨B, n, rfl, hBge, hown⟩ := hz0 ce2.out; have hR4 := Kd.R_below hR3 hb; have hBm4 : Aside0 (∀ (j B : Nat) (ks : List S79), Bs[j]? = some B → ((ls.take i).map (keysOf l))[j]? = some ks → w.heap.size ≤ B ∧ ∃ n, OwnC w4 B n ks) := ⟨fun j B ks h1 h2 => ⟨(hBm3.out j B ks h1 h2).1, (hBm3.out j B ks h1 h2).2.imp fun n hn => hn.kept (grown_of_below hb none) (by simp)⟩⟩; replace hB3 := below_step hB3 hb; clear hb hz0 hn0 y0 y1 y2 hR3 hBm3)
   have hBge2 := Nat.le_trans hsz hBge
   replace hown : Aside0 (OwnC w4 B n (keysOf l ⟨x0, x1, x2⟩)) := ⟨hown⟩
   go_wp2_with ((with_reducible refine gate_builtin (b := .append) (xs := #[.tmp 25, .tmp 27]) rfl ?_); at_builtin; refine Kd.R_append kMap (w0 := w) w.heap.size rfl (.tmp 25) (.tmp 27) 157 149 (.map none) 8 rfl Try.underlying157 info149 rfl (by decide) (by omega) (.slice AL Bs.length cL) Bs B [.map (some B)] (fun _ => True) (fun _ => False) rfl (by first | (go_simp; done) | (go_simp; rfl)) ?aP (fun _ hk => hk.elim) ?aF ?aO ?aB ?aS ?aL ?_; (case aP => exact rfl); (case aF => exact fun _ _ => trivial); (case aO => exact hR4); (case aB => exact hB3); (case aS => exact below_size hB3); (case aL => have := hbl.out; omega); intro v1 w5 ho hb hg hat)
   have hput := MapsR.put hR4 hBl.out hBm4.out hBge2 hown.out hg ho
   go_roundw
   case rel => exact ⟨i + 1, by have := of_eq_true p2t; omega, by go_num, (fun x hx => by rw [htk.out] at hx; rcases List.mem_append.1 hx with q | q; exact hz.out x q; rw [List.mem_singleton] at q; subst q; exact ce.out), by rw [htk.out, List.map_append]; exact hput, hb⟩
   case measure => have := of_eq_true p2t; simp [intOf]; omega
end Go.Proofs.Ytiaiecfnpompcaa.T
namespace Go.Proofs.Ytiaiecfnpompcaa.T
open Go.RowKit Go.Maps Go.Proofs.YtiaiecfnpompcaaW.PrintWords Go.Proofs.YtiaiecfnpompcaaW.PrintLast Go.Proofs.YtiaiecfnpompcaaW.PrintMore
set_option linter.unusedVariables false
set_option linter.unusedSimpArgs false

theorem cells_of_block {w : World} {g t : Nat} {cs : Array Value} (h : w.heap[g]? = some (.cells cs t (0, 0))) : CellsV w (some ⟨g, 0, none⟩) cs.toList := by
 intro i v hv
 refine ⟨_, rfl, ?_⟩
 have e : (⟨g, 0, none⟩ : Addr).add i = ⟨g, i, none⟩ := by simp [Addr.add]; intro h; exact h.symm
 rw [e, blk_cell h i]
 simpa using hv
theorem areMany_two (g : Nat) (A1 A2 : Option Addr) (n1 n2 c1 c2 : Nat) (b : Bool) (w : World) (hL : w.heap[g]? = some (.cells #[.slice A1 n1 c1, .slice A2 n2 c2] 68 (0, 0))) (hb : (decide (40 < n1) || decide (40 < n2)) = b) :
  Calls Try.prog 73 #[.slice (some ⟨g, 0, none⟩) 2 2] w fun e w' => e = .returned (.bool b) ∧ Drawn0 w w' := by
 have h := areMany_calls (some ⟨g, 0, none⟩) 2 [(A1, n1, c1), (A2, n2, c2)] w (by simp) (cells_of_block hL)
 have e : ([(A1, n1, c1), (A2, n2, c2)].any fun p => decide ((40 : Int) < (p.2.1 : Int))) = b := by
  rw [← hb]
  simp only [List.any_cons, List.any_nil, Bool.or_false]
  congr 1 <;> (apply decide_eq_decide.2; omega)
 rw [e] at h
 exact h
theorem areMany_one (g : Nat) (A1 : Option Addr) (n1 c1 : Nat) (b : Bool) (w : World) (hL : w.heap[g]? = some (.cells #[.slice A1 n1 c1] 68 (0, 0))) (hb : decide (40 < n1) = b) :
  Calls Try.prog 73 #[.slice (some ⟨g, 0, none⟩) 1 1] w fun e w' => e = .returned (.bool b) ∧ Drawn0 w w' := by
 have h := areMany_calls (some ⟨g, 0, none⟩) 1 [(A1, n1, c1)] w (by simp) (cells_of_block hL)
 have e : ([(A1, n1, c1)].any fun p => decide ((40 : Int) < (p.2.1 : Int))) = b := by
  rw [← hb]
  simp only [List.any_cons, List.any_nil, Bool.or_false]
  apply decide_eq_decide.2; omega
 rw [e] at h
 exact h
theorem maps_cells {w : World} {base n c : Nat} {A : Option Addr} {Bs : List Nat} {ok : Nat → Prop} (hR : Kd.R kMap 149 w base ok (.slice A n c) Bs) : n = Bs.length ∧ CellsV w A (Bs.map fun B => .map (some B)) := by
 obtain ⟨h1, _, hC⟩ := Kd.R_reads' hR
 refine ⟨h1, fun i v hv => ?_⟩
 rw [List.getElem?_map] at hv
 obtain ⟨B, hB, rfl⟩ := Option.map_eq_some_iff.1 hv
 have hi : i < Bs.length := (List.getElem?_eq_some_iff.1 hB).1
 obtain ⟨ad, e, hc⟩ := ReadsOf.at_ (Kd.reads_of_C (enc := fun B => Value.map (some B)) (d := (0 : Nat)) (h1 := fun _ => rfl) hC) (i : Int) (by omega) (by omega)
 refine ⟨ad, e, ?_⟩
 rw [Int.toNat_natCast] at hc
 rw [hc]
 simp [rdOf, hB]
theorem own_drewN {w : World} {B n : Nat} {ks : List S79} (h : OwnC w B n ks) (q : Nat) : OwnC (w.drewN q) B n ks := h
theorem maps_any (neg : Bool) {w : World} {base n c g : Nat} {A : Option Addr} {kss : List (List S79)} {x : S79} (hM : MapsR w base (.slice A n c) kss) (hok : ∀ ks ∈ kss, ∀ y ∈ ks, okC y) (hk : kss.length ≤ 100000) (hx : okC x)
  (hL : w.heap[g]? = some (.cells #[.int .i64 x.f0, .int .i64 x.f1, .int .i64 x.f2] 79 (0, 0))) :
  Calls Try.prog 99 #[.slice A n c, .func (.func (if neg then 98 else 97)) #[] #[.pointer (some ⟨g, 0, none⟩)]] w fun e w' => e = .returned (.bool (kss.any fun ks => if neg then !decide (x ∈ ks) else decide (x ∈ ks))) ∧ Drawn0 w w' := by
 obtain ⟨Bs, hR, hl, hm⟩ := hM
 obtain ⟨hn, hcell⟩ := maps_cells hR
 have e1 : (kss.any fun ks => if neg then !decide (x ∈ ks) else decide (x ∈ ks)) = (kss.map fun ks => if neg then !decide (x ∈ ks) else decide (x ∈ ks)).any id := by rw [List.any_map]; rfl
 rw [e1]
 have hlen : (Bs.map fun B => (.map (some B) : Value)).length = n := by simp [hn]
 have hp : ∀ (i : Nat) (v : Value) (b : Bool), (Bs.map fun B => (.map (some B) : Value))[i]? = some v → (kss.map fun ks => if neg then !decide (x ∈ ks) else decide (x ∈ ks))[i]? = some b → ∃ B n ks, v = .map (some B) ∧ b = (if neg then !decide (x ∈ ks) else decide (x ∈ ks)) ∧ OwnC w B n ks ∧ ∀ y ∈ ks, okC y := by
  intro i v b hv hb
  rw [List.getElem?_map] at hv hb
  obtain ⟨B, hB, rfl⟩ := Option.map_eq_some_iff.1 hv
  obtain ⟨ks, hks, rfl⟩ := Option.map_eq_some_iff.1 hb
  obtain ⟨_, m, ho⟩ := hm i B ks hB hks
  exact ⟨B, m, ks, rfl, rfl, ho, hok ks (List.mem_of_getElem? hks)⟩
 have HC := contains_any99 (if neg then 98 else 97) #[.pointer (some ⟨g, 0, none⟩)] (by cases neg; exact enters_of Try.func97 (by kernel_rfl) rfl; exact enters_of Try.func98 (by kernel_rfl) rfl) A c (Bs.map fun B => .map (some B)) (kss.map fun ks => if neg then !decide (x ∈ ks) else decide (x ∈ ks)) w (by simp [hl]) hcell (by rw [hlen, hn, hl]; omega) (by
  intro i v b hv hb q
  obtain ⟨B, m, ks, rfl, rfl, ho, hks⟩ := hp i v b hv hb
  have hL' : (w.drewN q).heap[g]? = _ := hL
  cases neg
  ·exact has_calls g B m ks x (w.drewN q) hL' (own_drewN ho q) hks hx
  ·exact hasNot_calls g B m ks x (w.drewN q) hL' (own_drewN ho q) hks hx)
 rw [hlen] at HC
 exact HC
def gdB (kss gss : List (List S79)) (x : S79) : Bool := (!(kss.any fun ks => !decide (x ∈ ks))) && !(gss.any fun ks => decide (x ∈ ks))
def culKeys (kss gss : List (List S79)) : List S79 := (kss.headD []).filter (gdB kss gss)
def culF (k : Nat) (l : List S144) (bad good : List S58) : Option (List S79 × Int) :=
 (mill_Check.f k l).bind fun e => if e ≠ 0 then some ([], e) else if 40 < bad.length ∨ 40 < good.length then some ([], 5) else if bad.length = 0 then some ([], 7) else
  if l.length ≤ 100 ∧ ∀ x ∈ l, okRun x then (if allE l bad ≠ 0 then some ([], allE l bad) else if allE l good ≠ 0 then some ([], allE l good) else some (culKeys (bad.map (keysOf l)) (good.map (keysOf l)), 0)) else none

set_option maxHeartbeats 40000000 in
set_option maxRecDepth 100000 in
theorem culprits_calls (k : Nat) (A0 : Option Addr) (c0 : Nat) (l : List S144) (A1 : Option Addr) (c1 : Nat) (bad : List S58) (A2 : Option Addr) (c2 : Nat) (good : List S58) (r1 : List S79) (r2 : Int) (w : World) (hC : Kd.C k144 w A0 l.length l) (hc0 : l.length ≤ c0)
  (hC1 : Kd.C k58 w A1 bad.length bad) (hc1 : bad.length ≤ c1) (hC2 : Kd.C k58 w A2 good.length good) (hc2 : good.length ≤ c2) (h : culF k l bad good = some (r1, r2)) :
  Calls Try.prog 72 #[.slice A0 l.length c0, .slice A1 bad.length c1, .slice A2 good.length c2] w fun e w' => ∃ v, e = .returned (.tuple #[v, .int .i64 r2]) ∧ Below w.heap.size w w' ∧
   (r2 ≠ 0 → v = .map none ∧ r1 = []) ∧ (r2 = 0 → ∃ B n ks, v = .map (some B) ∧ w.heap.size ≤ B ∧ OwnC w' B n ks ∧ (∀ x ∈ ks, okC x) ∧ ks.length ≤ 1000000 ∧ ∀ x, x ∈ ks ↔ x ∈ r1) := by
 unfold culF at h
 obtain ⟨e1, hck, h⟩ := Option.bind_eq_some_iff.1 h
 replace hck := Aside0.mk hck
 have hB := Below.refl w.heap.size w
 by_cases q1 : e1 = 0
 rotate_left
 ·as_aux_lemma =>
  rw [if_pos q1] at h
  injection h with h
  injection h with ha hb
  subst ha; subst hb
  have q1b : (e1 != 0) = true := by simpa using q1
  have q1a := Aside0.mk q1
  clear q1
  go_enter Try.func72, Try.ntmps72
  go_wp2_with (go_at_call 32; with_reducible refine (mill_Check.calls k A0 c0 l _ _ (Kd.C_below hC hB) hc0 hck.out).mono ?_; rintro e w4 ⟨rfl, hb⟩; replace hB := below_step hB hb; clear hb)
  go_ret2
  exact ⟨_, rfl, hB, fun _ => (by simp), fun q => absurd q q1a.out⟩
 subst q1
 rw [if_neg (by simp)] at h
 by_cases q2 : 40 < bad.length ∨ 40 < good.length
 ·as_aux_lemma =>
  rw [if_pos q2] at h
  injection h with h
  injection h with ha hb
  subst ha; subst hb
  have hmany : Aside0 ((decide (40 < bad.length) || decide (40 < good.length)) = true) := ⟨by simpa using q2⟩
  clear q2
  go_enter Try.func72, Try.ntmps72
  go_wp2_with (first | (go_at_call 32; with_reducible refine (mill_Check.calls k A0 c0 l _ _ (Kd.C_below hC hB) hc0 hck.out).mono ?_; rintro e w4 ⟨rfl, hb⟩; replace hB := below_step hB hb; clear hb) | (go_at_call 73; refine (areMany_two _ A1 A2 bad.length good.length c1 c2 _ _ ?hL hmany.out).mono ?_; (case hL => first | exact (MapKept.heap_alloc _ _).1 | simp); rintro e w5 ⟨rfl, hd⟩; replace hB := (hB.alloc (below_size hB) _).trans (hd.below.mono (Nat.le_trans (below_size hB) (by simp))); clear hd))
  go_ret2
  exact ⟨_, rfl, hB, fun _ => (by simp), fun q => absurd q (by decide)⟩
 rw [if_neg q2] at h
 have hmany : Aside0 ((decide (40 < bad.length) || decide (40 < good.length)) = false) := ⟨by simpa using q2⟩
 have hls1 : Aside0 (bad.length ≤ 1000) := ⟨by omega⟩
 have hls2 : Aside0 (good.length ≤ 1000) := ⟨by omega⟩
 clear q2
 by_cases q3 : bad.length = 0
 ·as_aux_lemma =>
  rw [if_pos q3] at h
  injection h with h
  injection h with ha hb
  subst ha; subst hb
  have q3b : ((bad.length : Int) == 0) = true := beq_iff_eq.mpr (by omega)
  replace q3 := Aside0.mk q3
  go_enter Try.func72, Try.ntmps72
  go_wp2_with (first | (go_at_call 32; with_reducible refine (mill_Check.calls k A0 c0 l _ _ (Kd.C_below hC hB) hc0 hck.out).mono ?_; rintro e w4 ⟨rfl, hb⟩; replace hB := below_step hB hb; clear hb) | (go_at_call 73; refine (areMany_two _ A1 A2 bad.length good.length c1 c2 _ _ ?hL hmany.out).mono ?_; (case hL => first | exact (MapKept.heap_alloc _ _).1 | simp); rintro e w5 ⟨rfl, hd⟩; replace hB := (hB.alloc (below_size hB) _).trans (hd.below.mono (Nat.le_trans (below_size hB) (by simp))); clear hd))
  go_ret2
  exact ⟨_, rfl, hB, fun _ => (by simp), fun q => absurd q (by decide)⟩
 rw [if_neg q3] at h
 have q3b : ((bad.length : Int) == 0) = false := beq_eq_false_iff_ne.mpr (by omega)
 replace q3 := Aside0.mk q3
 by_cases hp : l.length ≤ 100 ∧ ∀ x ∈ l, okRun x
 rotate_left
 ·rw [if_neg hp] at h; cases h
 rw [if_pos hp] at h
 replace hp := Aside0.mk hp
 by_cases q4 : allE l bad = 0
 rotate_left
 ·as_aux_lemma =>
  rw [if_pos q4] at h
  injection h with h
  injection h with ha hb
  subst ha; subst hb
  have q4b : (allE l bad != 0) = true := by simpa using q4
  replace q4 := Aside0.mk q4
  go_enter Try.func72, Try.ntmps72
  go_wp2_with (first | (go_at_call 32; with_reducible refine (mill_Check.calls k A0 c0 l _ _ (Kd.C_below hC hB) hc0 hck.out).mono ?_; rintro e w4 ⟨rfl, hb⟩; replace hB := below_step hB hb; clear hb) | (go_at_call 73; refine (areMany_two _ A1 A2 bad.length good.length c1 c2 _ _ ?hL hmany.out).mono ?_; (case hL => first | exact (MapKept.heap_alloc _ _).1 | simp); rintro e w5 ⟨rfl, hd⟩; replace hB := (hB.alloc (below_size hB) _).trans (hd.below.mono (Nat.le_trans (below_size hB) (by simp))); clear hd) | (go_at_call 75; with_reducible refine (all_calls A0 c0 l A1 c1 bad _ (Kd.C_below hC hB) hc0 hp.out.1 hp.out.2 (Kd.C_below hC1 hB) hc1 hls1.out).mono ?_; rintro e w6 ⟨vx, rfl, hb, hn0, hz0⟩; have hszB := below_size hB; replace hB := below_step hB hb; clear hb))
  go_ret2
  exact ⟨_, rfl, hB, fun _ => (by simp), fun q => absurd q q4.out⟩
 rw [if_neg (by simpa using q4)] at h
 have q4b : (allE l bad != 0) = false := by simpa using q4
 replace q4 := Aside0.mk q4
 by_cases q5 : allE l good = 0
 rotate_left
 ·as_aux_lemma =>
  rw [if_pos q5] at h
  injection h with h
  injection h with ha hb
  subst ha; subst hb
  have q5b : (allE l good != 0) = true := by simpa using q5
  replace q5 := Aside0.mk q5
  go_enter Try.func72, Try.ntmps72
  go_upto_region 9 with (first | (go_at_call 32; with_reducible refine (mill_Check.calls k A0 c0 l _ _ (Kd.C_below hC hB) hc0 hck.out).mono ?_; rintro e w4 ⟨rfl, hb⟩; replace hB := below_step hB hb; clear hb) | (go_at_call 73; refine (areMany_two _ A1 A2 bad.length good.length c1 c2 _ _ ?hL hmany.out).mono ?_; (case hL => first | exact (MapKept.heap_alloc _ _).1 | simp); rintro e w5 ⟨rfl, hd⟩; replace hB := (hB.alloc (below_size hB) _).trans (hd.below.mono (Nat.le_trans (below_size hB) (by simp))); clear hd) | (go_at_call 75; with_reducible refine (all_calls A0 c0 l A1 c1 bad _ (Kd.C_below hC hB) hc0 hp.out.1 hp.out.2 (Kd.C_below hC1 hB) hc1 hls1.out).mono ?_; rintro e w6 ⟨vx, rfl, hb, hn0, hz0⟩; have hszB := below_size hB; replace hB := below_step hB hb; clear hb))
  have hMx := Aside0.mk (hz0 q4.out)
  clear hn0 hz0
  go_wp2_with (go_at_call 75; with_reducible refine (all_calls A0 c0 l A2 c2 good _ (Kd.C_below hC hB) hc0 hp.out.1 hp.out.2 (Kd.C_below hC2 hB) hc2 hls2.out).mono ?_; rintro e w7 ⟨vy, rfl, hb, hn1, hz1⟩; have hszG := below_size hB; have hMx2 := hMx.out.below hb; replace hB := below_step hB hb; clear hb)
  go_ret2
  exact ⟨_, rfl, hB, fun _ => (by simp), fun q => absurd q q5.out⟩
 rw [if_neg (by simpa using q5)] at h
 have q5b : (allE l good != 0) = false := by simpa using q5
 replace q5 := Aside0.mk q5
 injection h with h
 injection h with ha hb
 subst ha; subst hb
 clear h
 have hkok : ∀ (ls : List S58), allE l ls = 0 → ∀ ks ∈ ls.map (keysOf l), (∀ y ∈ ks, okC y) ∧ ks.length ≤ 1000000 := by
  intro ls h0 ks hks
  obtain ⟨x, hx, rfl⟩ := List.mem_map.1 hks
  obtain ⟨t1, t2⟩ := causesE_zero (allE_zero' h0 x hx)
  have hlen := allKeys_len t2
  exact ⟨allKeys_ok hp.out.2 t1, by unfold keysOf; have := hp.out.1; omega⟩
 have hok1 := hkok bad q4.out
 have hok2 := hkok good q5.out
 clear hkok
 obtain ⟨kss, hkss⟩ : ∃ kss, bad.map (keysOf l) = kss := ⟨_, rfl⟩
 obtain ⟨gss, hgss⟩ : ∃ gss, good.map (keysOf l) = gss := ⟨_, rfl⟩
 rw [hkss] at hok1
 rw [hgss] at hok2
 rw [hkss, hgss]
 have hkl : Aside0 (kss.length ≤ 1000 ∧ gss.length ≤ 1000 ∧ kss.length ≠ 0) := ⟨by rw [← hkss, ← hgss, List.length_map, List.length_map]; exact ⟨hls1.out, hls2.out, q3.out⟩⟩
 obtain ⟨K0, kr, hk0⟩ : ∃ K0 kr, kss = K0 :: kr := List.exists_cons_of_ne_nil (fun e => hkl.out.2.2 (by rw [e]; rfl))
 have hokK := hok1 K0 (by rw [hk0]; simp)
 obtain ⟨hokK, hlenK⟩ := hokK
 replace hlenK := Aside0.mk hlenK
 replace hkss := Aside0.mk hkss
 replace hgss := Aside0.mk hgss
 replace hok1 := Aside0.mk hok1
 replace hok2 := Aside0.mk hok2
 replace hk0 := Aside0.mk hk0
 go_enter Try.func72, Try.ntmps72
 go_upto_region 9 with (first | (go_at_call 32; with_reducible refine (mill_Check.calls k A0 c0 l _ _ (Kd.C_below hC hB) hc0 hck.out).mono ?_; rintro e w4 ⟨rfl, hb⟩; replace hB := below_step hB hb; clear hb) | (go_at_call 73; refine (areMany_two _ A1 A2 bad.length good.length c1 c2 _ _ ?hL hmany.out).mono ?_; (case hL => first | exact (MapKept.heap_alloc _ _).1 | simp); rintro e w5 ⟨rfl, hd⟩; replace hB := (hB.alloc (below_size hB) _).trans (hd.below.mono (Nat.le_trans (below_size hB) (by simp))); clear hd) | (go_at_call 75; with_reducible refine (all_calls A0 c0 l A1 c1 bad _ (Kd.C_below hC hB) hc0 hp.out.1 hp.out.2 (Kd.C_below hC1 hB) hc1 hls1.out).mono ?_; rintro e w6 ⟨vx, rfl, hb, hn0, hz0⟩; have hszB := below_size hB; replace hB := below_step hB hb; clear hb))
 have hMx := Aside0.mk (hz0 q4.out)
 clear hn0 hz0
 go_upto_region 14 with (go_at_call 75; with_reducible refine (all_calls A0 c0 l A2 c2 good _ (Kd.C_below hC hB) hc0 hp.out.1 hp.out.2 (Kd.C_below hC2 hB) hc2 hls2.out).mono ?_; rintro e w7 ⟨vy, rfl, hb, hn1, hz1⟩; have hszG := below_size hB; have hMx2 := hMx.out.below hb; replace hB := below_step hB hb; clear hb)
 have hMy := hz1 q5.out
 clear hn1 hz1 hMx
 have hMx := hMx2.lower hszB
 replace hMy := hMy.lower hszG
 clear hMx2
 rw [hkss.out] at hMx
 rw [hgss.out] at hMy
 have hmm := @run_makeMap Try.prog
 go_upto_region 15 with fail
 clear hmm
 have hout0 : (w7.alloc (.map #[] 0)).ownsMap Try.prog 79 (plainElem (H := Unit) Try.prog 4) w7.heap.size 0 (setC []) := by rw [setC_nil]; exact World.ownsMap_made _ _ _ _
 have hb0 : Below w7.heap.size w7 (w7.alloc (.map #[] 0)) := (Below.refl _ _).alloc (Nat.le_refl _) _
 have hs8 : (w7.alloc (.map #[] 0)).heap.size = w7.heap.size + 1 := by simp
 have hBo := below_size hB
 have hMxW : ∀ wr, Below w7.heap.size w7 wr → MapsR wr w.heap.size vx kss := fun wr h => hMx.below h
 have hMyW : ∀ wr, Below w7.heap.size w7 wr → MapsR wr w.heap.size vy gss := fun wr h => hMy.below h
 have hBW : ∀ wr, Below w7.heap.size w7 wr → Below w.heap.size w wr := fun wr h => below_step hB h
 obtain ⟨Bs, hRx, hlx, hmx⟩ := hMx
 obtain ⟨B0, hB0⟩ : ∃ B0, Bs[0]? = some B0 := ⟨Bs[0]'(by have := hkl.out.2.2; omega), by simp⟩
 obtain ⟨hB0b, n0, hown0⟩ := hmx 0 B0 K0 hB0 (by rw [hk0.out]; rfl)
 have hB0lt := hown0.lt
 obtain ⟨Ax, cx, rfl⟩ := Kd.R_slice hRx
 obtain ⟨_, hcx⟩ := maps_cells hRx
 obtain ⟨adx, rfl, hcell0⟩ := hcx 0 (.map (some B0)) (by rw [List.getElem?_map, hB0]; rfl)
 clear hcx hmx
 have hcell8 : (w7.alloc (.map #[] 0)).cell? (adx.add 0) = some (.map (some B0)) := (hb0.cell (World.block_lt_of_cell? w7 _ hcell0)).trans hcell0
 have hown8 : OwnC (w7.alloc (.map #[] 0)) B0 n0 K0 := hown0.alloc _
 rw [hlx] at *
 obtain ⟨Ay, cy, hvy⟩ : ∃ A c, vy = .slice A gss.length c := by obtain ⟨Bs', hR', hl', _⟩ := hMy; obtain ⟨A, c, rfl⟩ := Kd.R_slice hR'; exact ⟨A, c, by rw [hl']⟩
 subst hvy
 clear hMy hRx hlx hcell0 hown0 hB hB0
 generalize hW8 : w7.alloc (.map #[] 0) = w8 at hout0 hb0 hs8 hcell8 hown8 ⊢
 clear hW8
 generalize hBoe : w7.heap.size = Bo at hout0 hb0 hs8 hMxW hMyW hBW hBo hB0lt ⊢
 replace hs8 := Aside0.mk hs8
 replace hBo := Aside0.mk hBo
 replace hB0lt := Aside0.mk hB0lt
 replace hBoe := Aside0.mk hBoe
 have p0n : decide (0 < kss.length) = true := decide_eq_true (by have := hkl.out.2.2; omega)
 have p0i : decide ((0 : Int) < (kss.length : Int)) = true := decide_eq_true (by have := hkl.out.2.2; omega)
 have p0t : (0 < kss.length) = True := eq_true (by have := hkl.out.2.2; omega)
 have e0 : adx.add 0 = adx := by cases adx with | mk b o s => cases s <;> simp [Addr.add]
 rw [e0] at hcell8
 go_wp2_with (first | (at_range; refine wpList_range_own _ rfl _ 149 rfl 79 4 law79 Try.underlying149 _ B0 n0 _ rfl hown8 ?_; intro w9 hrg0 hg0 hs0) | go_in)
 have hb9 : Below Bo w7 w9 := hb0.grown hg0 (by have := hs8.out; omega) (fun j hj => by cases hj)
 have hout9 := hout0.kept hg0 (by simp)
 have hitl : Aside0 (Bo < w8.heap.size) := ⟨by have := hs8.out; omega⟩
 replace hs0 := Aside0.mk hs0
 clear hout0 hb0 hcell8 hown8 hg0 e0
 generalize w8.heap.size = it at hrg0 hitl hs0 ⊢
 go_loopw [52] (fun _ wr => ∃ (left : Lit → Bool) (cnt : Nat) (ks : List S79), wr.ranges Try.prog 79 (plainElem (H := Unit) Try.prog 4) B0 it n0 (setC K0) left cnt ∧
   OwnC wr Bo ks.length ks ∧ (∀ x ∈ ks, okC x ∧ x ∈ K0 ∧ gdB kss gss x = true ∧ left (litC x) = false) ∧ ks.Nodup ∧ (∀ x ∈ K0, gdB kss gss x = true → left (litC x) = false → x ∈ ks) ∧ Below Bo w7 wr ∧ it < wr.heap.size)
  (fun _ wr => wr.rangeLeft B0 it)
 case atStart => exact ⟨_, _, [], hrg0, hout9, (fun x hx => by simp at hx), by simp, (fun x hx _ hf => by rw [has_setC hokK (hokK x hx), decide_eq_false_iff_not] at hf; exact absurd hx hf), hb9, by have := hs0.out; omega⟩
 case round => as_aux_lemma =>
  clear hrg0 hs0 hb9 hout9
  obtain ⟨left, cnt, ks, hrg, hown, hin, hnd, hall, hBl, hsz⟩ := hrel
  have hsub : ks.length ≤ (distinctC K0).length := by
   obtain ⟨t1, t2⟩ := distinctC_spec K0 [] (by simp)
   have hperm : ks.Perm ((distinctC K0).filter fun x => decide (x ∈ ks)) := by
    refine (List.perm_ext_iff_of_nodup hnd (List.Pairwise.filter _ t1)).2 (fun x => ?_)
    rw [List.mem_filter, decide_eq_true_eq]
    exact ⟨fun hx => ⟨(t2 x).2 (.inr (hin x hx).2.1), hx⟩, fun hx => hx.2⟩
   rw [hperm.length_eq]
   exact List.length_filter_le _ _
  have hdl := distinctC_len K0 []
  have hll : ks.length ≤ 1000000 := by unfold distinctC at hsub; simp at hdl; have := hlenK.out; omega
  clear hsub hdl
  replace hll := Aside0.mk hll
  replace hin := Aside0.mk hin
  replace hall := Aside0.mk hall
  replace hnd := Aside0.mk hnd
  go_wp2_with (first | (at_next; refine wpList_next_ranges _ rfl _ rfl 79 law79 (plainElem (H := Unit) Try.prog 4) vC mkB inv79' invB' B0 it n0 _ _ _ rfl hrg ?_ ?_) | go_in)
  ·intro hc0 hl0
   replace hl0 := Aside0.mk hl0
   go_wp2
   go_ret2
   refine ⟨_, rfl, hBW _ hBl, fun q => absurd rfl q, fun _ => ⟨Bo, ks.length, ks, rfl, hBo.out, hown, fun x hx => (hin.out x hx).1, hll.out, fun x => ?_⟩⟩
   unfold culKeys
   rw [hk0.out, List.headD_cons, List.mem_filter]
   constructor
   ·intro hx
    obtain ⟨_, t2, t3, _⟩ := hin.out x hx
    refine ⟨t2, ?_⟩
    rw [hk0.out] at t3
    exact t3
   ·rintro ⟨t2, t3⟩
    refine hall.out x t2 ?_ (hl0.out _)
    rw [hk0.out]
    exact t3
  ·intro x c kl ya yb w1 cnt1 hkey hlk hv hat hrg1 hlt hg1 hs1 hen
   have hox := okC_of_key hkey
   have ekl : kl = litC x := by have h2 := hkey.symm.trans (key79 hox); injection h2
   subst ekl
   have hxk : x ∈ K0 := by have h2 := has_true_of_atKey hat; rw [has_setC hokK hox, decide_eq_true_eq] at h2; exact h2
   have hown1 := hown.kept hg1 (by have := hitl.out; intro e; injection e with e; omega)
   have hBl1 := hBl.grown hg1 (by have := hitl.out; omega) (fun j hj => by cases hj; exact Nat.le_of_lt hitl.out)
   have hen' : (Instr.entry (.pointer (some ⟨it, 0, none⟩))).run Try.prog w1 = .ok (.tuple #[.agg #[.int .i64 x.f0, .int .i64 x.f1, .int .i64 x.f2], mkB c]) w1 := hen
   clear hen hg1 hown hBl
   replace hs1 := Aside0.mk hs1
   go_upto_region 18 with (first | ((with_reducible refine gate_dst (N := 11) rfl ?_); refine box_event ?hg (N := 11) ?hd (cs := #[.int .i64 0, .int .i64 0, .int .i64 0]) (t := 79) ?hr ?_; (case hd => rfl); (case hg => rfl); (case hr => first | (go_simp; done) | (go_simp; rfl)); intro g3 hg3 w2 hb3 hbb; have hge3 : w1.heap.size ≤ g3 := Nat.le_of_eq hg3.symm; clear hg3; obtain ⟨y0, y1, y2⟩ := bc3 hb3; obtain ⟨f0, f1, f2⟩ := bf3 hb3))
   have hx3 : (((w2.setCell ⟨g3, 0, none⟩ (.int .i64 x.f0)).setCell ⟨g3, 1, none⟩ (.int .i64 x.f1)).setCell ⟨g3, 2, none⟩ (.int .i64 x.f2)).heap[g3]? = some (.cells #[.int .i64 x.f0, .int .i64 x.f1, .int .i64 x.f2] 79 (0, 0)) := bto (bput (bput (bput hb3 0 _) 1 _) 2 _) rfl
   have hbs : Below w1.heap.size w1 (((w2.setCell ⟨g3, 0, none⟩ (.int .i64 x.f0)).setCell ⟨g3, 1, none⟩ (.int .i64 x.f1)).setCell ⟨g3, 2, none⟩ (.int .i64 x.f2)) := below_set (below_set (below_set hbb hge3) hge3) hge3
   clear y0 y1 y2 f0 f1 f2 hb3 hbb
   generalize ((w2.setCell ⟨g3, 0, none⟩ (.int .i64 x.f0)).setCell ⟨g3, 1, none⟩ (.int .i64 x.f1)).setCell ⟨g3, 2, none⟩ (.int .i64 x.f2) = w3 at hx3 hbs ⊢
   have hrg3 := hrg1.kept (grown_of_below hbs none) (by simp) (by simp)
   have hown3 := hown1.kept (grown_of_below hbs none) (by simp)
   have hle1 : Aside0 (Bo ≤ w1.heap.size) := ⟨by have := hitl.out; have := hs1.out; omega⟩
   have hBl3 := hBl1.trans (hbs.mono hle1.out)
   have hle3 : Aside0 (Bo ≤ w3.heap.size) := ⟨by have := below_size hbs; have := hle1.out; omega⟩
   have hsz3 := Aside0.mk (below_size hbs)
   clear hbs hown1 hBl1
   have hM1 := maps_any true (hMxW _ hBl3) (fun ks h => (hok1.out ks h).1) (by have := hkl.out.1; omega) hox hx3
   have hkx : keyOf Try.prog 79 (.agg #[.int .i64 x.f0, .int .i64 x.f1, .int .i64 x.f2]) = some (litC x) := key79 hox
   have hgd : gdB kss gss x = ((!(kss.any fun ks => !decide (x ∈ ks))) && !(gss.any fun ks => decide (x ∈ ks))) := rfl
   have hM1' : Calls Try.prog 99 #[.slice (some adx) kss.length cx, .func (.func 98) #[] #[.pointer (some ⟨g3, 0, none⟩)]] w3 fun e w' => e = .returned (.bool (kss.any fun ks => !decide (x ∈ ks))) ∧ Drawn0 w3 w' := hM1
   clear hM1
   cases hb1 : (kss.any fun ks => !decide (x ∈ ks)) with
   | true =>
    have hg0 : Aside0 (gdB kss gss x = false) := ⟨by rw [hgd, hb1]; rfl⟩
    rw [hb1] at hM1'
    replace hM1' := Aside0.mk hM1'
    clear hgd hb1
    go_wp2_with (go_at_call 99; with_reducible refine (hM1'.out).mono ?_; rintro e w4 ⟨rfl, hd⟩; have hb4 := hd.below; clear hd)
    have hrg4 := hrg3.kept (grown_of_below hb4 none) (by simp) (by simp)
    have hown4 := hown3.kept (grown_of_below hb4 none) (by simp)
    have hBl4 := hBl3.trans (hb4.mono hle3.out)
    have hsz4 : it < w4.heap.size := by have := below_size hb4; have := hsz3.out; have := hs1.out; omega
    go_roundw
    case rel => exact ⟨_, cnt1, ks, hrg4, hown4, (fun z hz => ⟨(hin.out z hz).1, (hin.out z hz).2.1, (hin.out z hz).2.2.1, by rw [(hin.out z hz).2.2.2]; rfl⟩), hnd.out, (fun z hz hzg hf => by by_cases e : z = x; subst e; rw [hg0.out] at hzg; cases hzg; refine hall.out z hz hzg ?_; rw [litC_same (hokK z hz) hox, decide_eq_false e] at hf; simpa using hf), hBl4, hsz4⟩
    case measure => rw [hrg4.left_eq, hrg.left_eq]; exact hlt
   | false =>
    rw [hb1] at hM1'
    have hM2W : ∀ wq, Below w3.heap.size w3 wq → Calls Try.prog 99 #[.slice Ay gss.length cy, .func (.func 97) #[] #[.pointer (some ⟨g3, 0, none⟩)]] wq fun e w' => e = .returned (.bool (gss.any fun ks => decide (x ∈ ks))) ∧ Drawn0 wq w' := fun wq hq => maps_any false (hMyW _ (hBl3.trans (hq.mono hle3.out))) (fun ks h => (hok2.out ks h).1) (by have := hkl.out.2.1; omega) hox (blk_below hx3 hq)
    cases hb2 : (gss.any fun ks => decide (x ∈ ks)) with
    | true =>
     have hg0 : Aside0 (gdB kss gss x = false) := ⟨by rw [hgd, hb2]; simp⟩
     rw [hb2] at hM2W
     replace hM1' := Aside0.mk hM1'
     replace hM2W := Aside0.mk hM2W
     clear hgd hb1 hb2
     go_wp2_with (first | (go_at_call 99; with_reducible refine (hM1'.out).mono ?_; rintro e w4 ⟨rfl, hd⟩; have hb4 := hd.below; clear hd) | (go_at_call 99; with_reducible refine (hM2W.out _ hb4).mono ?_; rintro e w5 ⟨rfl, hd⟩; have hb5 := hd.below; clear hd))
     have hb2 := below_step hb4 hb5
     have hrg4 := hrg3.kept (grown_of_below hb2 none) (by simp) (by simp)
     have hown4 := hown3.kept (grown_of_below hb2 none) (by simp)
     have hBl4 := hBl3.trans (hb2.mono hle3.out)
     have hsz4 : it < w5.heap.size := by have := below_size hb2; have := hsz3.out; have := hs1.out; omega
     go_roundw
     case rel => exact ⟨_, cnt1, ks, hrg4, hown4, (fun z hz => ⟨(hin.out z hz).1, (hin.out z hz).2.1, (hin.out z hz).2.2.1, by rw [(hin.out z hz).2.2.2]; rfl⟩), hnd.out, (fun z hz hzg hf => by by_cases e : z = x; subst e; rw [hg0.out] at hzg; cases hzg; refine hall.out z hz hzg ?_; rw [litC_same (hokK z hz) hox, decide_eq_false e] at hf; simpa using hf), hBl4, hsz4⟩
     case measure => rw [hrg4.left_eq, hrg.left_eq]; exact hlt
    | false =>
     have hg0 : Aside0 (gdB kss gss x = true) := ⟨by rw [hgd, hb1, hb2]; rfl⟩
     rw [hb2] at hM2W
     replace hM1' := Aside0.mk hM1'
     replace hM2W := Aside0.mk hM2W
     replace hkx := Aside0.mk hkx
     clear hgd hb1 hb2
     go_upto_region 21 with (first | (go_at_call 99; with_reducible refine (hM1'.out).mono ?_; rintro e w4 ⟨rfl, hd⟩; have hb4 := hd.below; clear hd) | (go_at_call 99; with_reducible refine (hM2W.out _ hb4).mono ?_; rintro e w5 ⟨rfl, hd⟩; have hb5 := hd.below; clear hd))
     have hb2 := below_step hb4 hb5
     have hrg4 := hrg3.kept (grown_of_below hb2 none) (by simp) (by simp)
     have hown4 := hown3.kept (grown_of_below hb2 none) (by simp)
     have hBl4 := hBl3.trans (hb2.mono hle3.out)
     have hsz4 : it < w5.heap.size := by have := below_size hb2; have := hsz3.out; have := hs1.out; omega
     have hx5 := blk_below hx3 hb2
     obtain ⟨y0, y1, y2⟩ := bc3 hx5
     go_wp2_with (at_mapUpdate; refine wpList_mapUpdate_own _ rfl _ _ _ 149 rfl 79 4 law79 Try.underlying149 (plainElem (H := Unit) Try.prog 4) Bo ks.length _ rfl hown4 (by have := hll.out; unfold maxLen; omega) _ _ _ rfl rfl hkx.out _ [] (plainElem_bool Try.underlying4 true) ?_; intro w6 hown6 hgrow6)
     have hrg6 := hrg4.kept hgrow6 (by have := hB0lt.out; intro e; injection e with e; omega) (by have := hitl.out; intro e; injection e with e; omega)
     have hBl6 := hBl4.grown hgrow6 (by have := hitl.out; omega) (fun j hj => by cases hj; exact Nat.le_refl _)
     rw [← setC_snoc] at hown6
     have hsz6 := hgrow6.size
     (try simp only [Act.put])
     go_roundw
     case rel => exact ⟨_, cnt1, ks ++ [x], hrg6, by rw [List.length_append]; exact hown6, (fun z hz => by rcases List.mem_append.1 hz with q | q; exact ⟨(hin.out z q).1, (hin.out z q).2.1, (hin.out z q).2.2.1, by rw [(hin.out z q).2.2.2]; rfl⟩; rw [List.mem_singleton] at q; subst q; exact ⟨hox, hxk, hg0.out, by rw [litC_same hox hox]; simp⟩), (by rw [List.nodup_append]; refine ⟨hnd.out, by simp, ?_⟩; intro a ha b hb3 e; rw [List.mem_singleton] at hb3; subst hb3; subst e; have := (hin.out _ ha).2.2.2; rw [hlk] at this; exact absurd this (by decide)), (fun z hz hzg hf => by by_cases e : z = x; subst e; simp; refine List.mem_append_left _ (hall.out z hz hzg ?_); rw [litC_same (hokK z hz) hox, decide_eq_false e] at hf; simpa using hf), hBl6, by omega⟩
     case measure => rw [hrg6.left_eq, hrg.left_eq]; exact hlt
end Go.Proofs.Ytiaiecfnpompcaa.T
namespace Go.Proofs.Ytiaiecfnpompcaa.T
open Go.RowKit Go.Maps Go.Proofs.YtiaiecfnpompcaaW.PrintWords Go.Proofs.YtiaiecfnpompcaaW.PrintLast Go.Proofs.YtiaiecfnpompcaaW.PrintMore
set_option linter.unusedVariables false
set_option linter.unusedSimpArgs false

theorem sortC_mem {a b : List S79} (h : ∀ x, x ∈ a ↔ x ∈ b) : sortC a = sortC b := by
 unfold sortC
 obtain ⟨a1, a2⟩ := distinctC_spec a [] (by simp)
 obtain ⟨b1, b2⟩ := distinctC_spec b [] (by simp)
 refine sort79_perm ((List.perm_ext_iff_of_nodup a1 b1).2 fun x => ?_)
 show x ∈ distinctC a ↔ x ∈ distinctC b
 unfold distinctC
 rw [a2, b2, h]
theorem sortC_nil : sortC [] = [] := by unfold sortC distinctC; rw [List.foldl_nil, List.mergeSort_nil]
theorem sorted_any (v : Value) (r1 : List S79) (r2 : Int) (w : World) (hn : r2 ≠ 0 → v = .map none ∧ r1 = []) (hz : r2 = 0 → ∃ B n ks, v = .map (some B) ∧ OwnC w B n ks ∧ (∀ x ∈ ks, okC x) ∧ ks.length ≤ 1000000 ∧ ∀ x, x ∈ ks ↔ x ∈ r1) :
  Calls Try.prog 70 #[v] w fun e w' => ∃ u, e = .returned u ∧ Kd.R k79 79 w' w.heap.size (fun _ => True) u (sortC r1) ∧ Below w.heap.size w w' := by
 by_cases c : r2 = 0
 ·obtain ⟨B, n, ks, rfl, ho, hok, hlen, hm⟩ := hz c
  refine (sorted_calls B n ks w ho hok hlen).mono ?_
  rintro e w' ⟨u, l, rfl, hp, hR, hb⟩
  rw [sort79_perm hp] at hR
  rw [← sortC_mem hm]
  exact ⟨u, rfl, hR, hb⟩
 ·obtain ⟨rfl, rfl⟩ := hn c
  rw [sortC_nil]
  exact sorted_nil w
def mill_Culprits.f (l : List S144) (bad good : List S58) : Option (List S79 × Int) := (culF 1000 l bad good).bind fun p => some (sortC p.1, p.2)
set_option maxHeartbeats 40000000 in
set_option maxRecDepth 100000 in
theorem mill_Culprits.calls_g (k : Nat) (A0 : Option Addr) (c0 : Nat) (l : List S144) (A1 : Option Addr) (c1 : Nat) (bad : List S58) (A2 : Option Addr) (c2 : Nat) (good : List S58) (r1 : List S79) (r2 : Int) (w : World) (hC : Kd.C k144 w A0 l.length l) (hc0 : l.length ≤ c0)
  (hC1 : Kd.C k58 w A1 bad.length bad) (hc1 : bad.length ≤ c1) (hC2 : Kd.C k58 w A2 good.length good) (hc2 : good.length ≤ c2) (h : culF k l bad good = some (r1, r2)) :
  Calls Try.prog 40 #[.slice A0 l.length c0, .slice A1 bad.length c1, .slice A2 good.length c2] w fun e w' => ∃ v, e = .returned (.tuple #[v, .int .i64 r2]) ∧ Kd.R k79 79 w' w.heap.size (fun _ => True) v (sortC r1) ∧ Below w.heap.size w w' := by
 have hcul : ∀ W, Below w.heap.size w W → _ := fun W hW => culprits_calls k A0 c0 l A1 c1 bad A2 c2 good r1 r2 W (Kd.C_below hC hW) hc0 (Kd.C_below hC1 hW) hc1 (Kd.C_below hC2 hW) hc2 h
 have hB := Below.refl w.heap.size w
 replace hcul := Aside0.mk hcul
 clear h
 go_enter Try.func40, Try.ntmps40
 go_wp2_with (first | (go_at_call 72; with_reducible refine (hcul.out _ hB).mono ?_; rintro e w4 ⟨v, rfl, hb, hn, hz⟩; replace hB := below_step hB hb; replace hn := Aside0.mk hn; replace hz := Aside0.mk hz; clear hb) | (go_at_call 70; with_reducible refine (sorted_any v r1 r2 _ hn.out (fun q => (hz.out q).imp fun B h => h.imp fun n h => h.imp fun ks h => ⟨h.1, h.2.2⟩)).mono ?_; rintro e w5 ⟨u, rfl, hR, hb⟩; have hsz := below_size hB; replace hB := below_step hB hb; clear hb))
 go_ret2
 exact ⟨_, rfl, Kd.R_lower hR hsz, hB⟩
theorem mill_Culprits.calls (A0 : Option Addr) (c0 : Nat) (l : List S144) (A1 : Option Addr) (c1 : Nat) (bad : List S58) (A2 : Option Addr) (c2 : Nat) (good : List S58) (r1 : List S79) (r2 : Int) (w : World) (hC : Kd.C k144 w A0 l.length l) (hc0 : l.length ≤ c0)
  (hC1 : Kd.C k58 w A1 bad.length bad) (hc1 : bad.length ≤ c1) (hC2 : Kd.C k58 w A2 good.length good) (hc2 : good.length ≤ c2) (h : mill_Culprits.f l bad good = some (r1, r2)) :
  Calls Try.prog 40 #[.slice A0 l.length c0, .slice A1 bad.length c1, .slice A2 good.length c2] w fun e w' => ∃ v, e = .returned (.tuple #[v, .int .i64 r2]) ∧ Kd.R k79 79 w' w.heap.size (fun _ => True) v r1 ∧ Below w.heap.size w w' := by
 unfold mill_Culprits.f at h
 obtain ⟨p, hp, h⟩ := Option.bind_eq_some_iff.1 h
 injection h with h
 injection h with ha hb
 subst ha; subst hb
 exact mill_Culprits.calls_g 1000 A0 c0 l A1 c1 bad A2 c2 good p.1 p.2 w hC hc0 hC1 hc1 hC2 hc2 hp
end Go.Proofs.Ytiaiecfnpompcaa.T
namespace Go.Proofs.Ytiaiecfnpompcaa.T
open Go.RowKit Go.Maps Go.Proofs.YtiaiecfnpompcaaW.PrintWords Go.Proofs.YtiaiecfnpompcaaW.PrintLast Go.Proofs.YtiaiecfnpompcaaW.PrintMore
set_option linter.unusedVariables false
set_option linter.unusedSimpArgs false

attribute [local go_sem] max2_int min2_int max_two min_two
theorem distinctC_nodup (ks : List S79) : (distinctC ks).Nodup ∧ ∀ y, y ∈ distinctC ks ↔ y ∈ ks := by
 obtain ⟨h1, h2⟩ := distinctC_spec ks [] (by simp)
 exact ⟨h1, fun y => by unfold distinctC; rw [h2]; simp⟩
theorem meas_lt {n i : Nat} (h : i < n) : n - (intOf (.int .i64 ((i + 1 : Nat) : Int))).toNat < n - (intOf (.int .i64 (i : Int))).toNat := by simp [intOf]; omega
theorem distinctC_le (ks : List S79) : (distinctC ks).length ≤ ks.length := by have := distinctC_len ks []; unfold distinctC; simp at this; exact this
end Go.Proofs.Ytiaiecfnpompcaa.T
namespace Go.Proofs.Ytiaiecfnpompcaa.T
open Go.RowKit Go.Proofs.YtiaiecfnpompcaaW.PrintWords Go.Proofs.YtiaiecfnpompcaaW.PrintLast Go.Proofs.YtiaiecfnpompcaaW.PrintMore
attribute [local go_sem] max2_int min2_int max_two min_two max_three min_three max_four min_four   -- for this text's walks alone
set_option linter.unusedVariables false
set_option linter.unusedSimpArgs false
attribute [local go_sem] wl_100001

def mill_isCause.j0 : Nat → Int → Bool → Int → Int → Int → Option (Bool)
 | 0, _, _, _, _, _ => none
 | k + 1, x4, x5, x175000, x175001, x175002 => if x5 = true then (if x175001 = 0 then ((mill_isNumber.f (([x175002] : List Int))).bind fun t178 => (some t178)) else (some false)) else (if x4 = 3 then ((mill_isNumber.f (([x175001] : List Int))).bind fun t182 => (if t182 = true then ((mill_areHours.f x175002 x175002).bind fun t183 => (some t183)) else (some false))) else (some false))
def mill_isCause.f (k : Nat) (a0_0 : Int) (a0_1 : Int) (a0_2 : Int) : Option (Bool) := if a0_0 = 1 then (mill_isCause.j0 k a0_0 (a0_0 == 1) a0_0 a0_1 a0_2) else (mill_isCause.j0 k a0_0 (a0_0 == 2) a0_0 a0_1 a0_2)
set_option maxHeartbeats 8000000 in
set_option maxRecDepth 100000 in
theorem mill_isCause.calls (k : Nat) (a0_0 : Int) (a0_1 : Int) (a0_2 : Int) (r : Bool) (w : World) (h : mill_isCause.f k a0_0 a0_1 a0_2 = some r) :
  Calls Try.prog 74 #[.agg #[.int .i64 a0_0, .int .i64 a0_1, .int .i64 a0_2]] w fun e w' => e = .returned (.bool r) ∧ Below w.heap.size w w' := by
 have hu79 := Try.underlying79
 have HB := Aside0.mk (Below.refl w.heap.size w)
 have H : (if a0_0 = 1 then (mill_isCause.j0 k a0_0 (a0_0 == 1) a0_0 a0_1 a0_2) else (mill_isCause.j0 k a0_0 (a0_0 == 2) a0_0 a0_1 a0_2)) = some r := h
 clear h
 have HC2 := Aside0.mk H
 clear H
 go_enter Try.func74, Try.ntmps74
 go_upto_if 5 with (first | ((with_reducible refine gate_dst (N := 1) rfl ?_); (try (refine gate_guard (by rfl) ?_; dsimp only)); refine box_event ?hg (N := 1) ?hd (cs := #[.int .i64 a0_0, .int .i64 a0_1, .int .i64 a0_2]) (t := 79) ?hr ?_; (case hd => rfl); (case hg => rfl); (case hr => first | (go_simp; done) | (go_simp; rfl)); intro gb174 hg w3 hbox hb; have BK174 := Aside0.mk (hbox); have GW174 := Aside0.mk ((by rw [hg]; exact (below_size HB.out) : w.heap.size ≤ gb174)); have GE174 := GW174; replace HB := Aside0.mk (below_step HB.out hb); clear hb hbox hg; obtain ⟨hcz4_0, hcz4_1, hcz4_2⟩ := bc3 BK174.out; obtain ⟨hfz4_0, hfz4_1, hfz4_2⟩ := bf3 BK174.out))
 (try simp only [Act.put, sa_, s0_, s1_])
 go_cut [5] (fun v5 wc => ∃ (kq : Nat) (x5_1 : Bool), v5 = .bool x5_1 ∧ Aside0 (mill_isCause.j0 kq a0_0 x5_1 a0_0 a0_1 a0_2 = some r) ∧ Aside0 (kq ≤ k) ∧ Aside0 (wc.heap[gb174]? = some (.cells #[.int .i64 a0_0, .int .i64 a0_1, .int .i64 a0_2] 79 (0, 0))) ∧ Aside0 (Below w.heap.size w wc))
 case first =>
  have H := HC2.out
  clear HC2
  by_cases c5 : a0_0 = 1
  ·rw [if_pos c5] at H
   have c5b0 : (a0_0 == 1) = true := beq_iff_eq.mpr c5
   have c5b1 : (a0_0 != 1) = false := bne_eq_false_iff_eq.mpr c5
   clear c5
   (first | rw [c5b0] | (simp only [i64_w, i32_w]; rw [c5b0]) | skip)
   have H' := Aside0.mk H
   clear H
   go_wp2
   go_meet
   case rel => exact ⟨_, ((a0_0 == 1)), (by first | rfl | (simp; done) | (simp [*]; done)), H', ⟨by first | omega | exact Nat.le_refl _⟩, BK174, ⟨by repeat (first | (with_reducible first | exact HB.out | apply below_alloc | apply pw_below_drewN | apply below_drew1 | refine below_set ?_ (Aside0.out (by assumption))) | exact HB.out)⟩⟩
  ·rw [if_neg c5] at H
   have c5b0 : (a0_0 == 1) = false := beq_eq_false_iff_ne.mpr c5
   have c5b1 : (a0_0 != 1) = true := bne_iff_ne.mpr c5
   (first | rw [c5b0] | (simp only [i64_w, i32_w]; rw [c5b0]) | skip)
   have H' := Aside0.mk H
   clear H
   go_wp2
   go_meet
   case rel => exact ⟨_, ((a0_0 == 2)), (by first | rfl | (simp; done) | (simp [*]; done)), H', ⟨by first | omega | exact Nat.le_refl _⟩, BK174, ⟨by repeat (first | (with_reducible first | exact HB.out | apply below_alloc | apply pw_below_drewN | apply below_drew1 | refine below_set ?_ (Aside0.out (by assumption))) | exact HB.out)⟩⟩
 case rest =>
  clear HC2
  try clear p2; try clear c5; try clear c5b0; try clear c5b1; try clear hcz4_0; try clear hcz4_1; try clear hcz4_2; try clear hfz4_0; try clear hfz4_1; try clear hfz4_2
  obtain ⟨kq, x5_1, rfl, HA, HJ1, BK174, HB⟩ := hcut
  cases kq with
  | zero => exact absurd HA.out (by simp [mill_isCause.j0])
  | succ kj1 =>
   have H := HA.out
   clear HA
   simp only [mill_isCause.j0] at H
   by_cases c6 : x5_1 = true
   ·subst c6
    have H1 : (if a0_1 = 0 then ((mill_isNumber.f (([a0_2] : List Int))).bind fun t178 => (some t178)) else (some false)) = some r := by rw [if_pos rfl] at H; exact H
    clear H
    have H := H1
    clear H1
    by_cases c7 : a0_1 = 0
    ·rw [if_pos c7] at H
     have c7b0 : (a0_1 == 0) = true := beq_iff_eq.mpr c7
     have c7b1 : (a0_1 != 0) = false := bne_eq_false_iff_eq.mpr c7
     clear c7
     obtain ⟨y175, hy175⟩ : ∃ y_ : List Int, y_ = (([a0_2] : List Int)) := ⟨_, rfl⟩
     replace H : ((mill_isNumber.f y175).bind fun t178 => (some t178)) = some r := by first | (rw [hy175]; with_reducible exact H) | (have H2_ := (Option.bind_some _ _).symm.trans H; rw [hy175]; with_reducible exact H2_) | (have H2_ := (Option.bind_some _ _).symm.trans H; with_reducible exact H2_) | with_reducible exact H | (rw [hy175]; exact H) | exact H
     have Ny175 := Aside0.mk hy175
     clear hy175
     replace H := Option.bind_eq_some_iff.mp H
     obtain ⟨t178, A80, H⟩ := H; (try dsimp only at H)
     have A8 := Aside0.mk A80
     clear A80
     obtain rfl := Option.some.inj H
     obtain ⟨hcz9_0, hcz9_1, hcz9_2⟩ := bc3 BK174.out
     obtain ⟨hfz9_0, hfz9_1, hfz9_2⟩ := bf3 BK174.out
     go_wp2_with (first | ((with_reducible refine gate_dst (N := 14) rfl ?_); (try (refine gate_guard (by rfl) ?_; dsimp only)); refine Kd.R_lit (Kd.int .i64) _ 3 ?hg (N := 14) ?hd (xs := ([a0_2] : List Int)) (inner := [.int .i64 a0_2]) (ok := fun _ => True) (okp := fun _ => True) ?hr ?hp (fun _ hk => hk) trivial (Below.refl _ _) (Nat.le_refl _) (by simp) ?_; (case hd => rfl); (case hg => rfl); (case hr => first | (go_simp; done) | (go_simp; rfl)); (case hp => exact (Reps.one (show Kd.M (Kd.int .i64) _ _ _ a0_2 [.int .i64 a0_2] from rfl) (Reps.none _ _))); intro v176 w10 ho11 hb hg_ hnew_; clear hg_ hnew_; (first | rw [← Ny175.out] at ho11 | (simp only [Int.reduceToNat] at ho11; rw [← Ny175.out] at ho11)); have HO177 := Aside0.mk (Kd.R_lower ho11 (below_size (by repeat (first | (with_reducible first | exact HB.out | apply below_alloc | apply pw_below_drewN | apply below_drew1 | refine below_set ?_ (Aside0.out (by assumption))) | exact HB.out)))); replace BK174 := Aside0.mk (blk_below (g := gb174) (o := .cells #[.int .i64 a0_0, .int .i64 a0_1, .int .i64 a0_2] 79 (0, 0)) (by repeat (first | (with_reducible first | exact BK174.out | refine blk_drewN ?_ _ | refine blk_drew ?_ | refine blk_alloc ?_ _) | exact BK174.out)) hb); replace HB := Aside0.mk (below_step (by repeat (first | (with_reducible first | exact HB.out | apply below_alloc | apply pw_below_drewN | apply below_drew1 | refine below_set ?_ (Aside0.out (by assumption))) | exact HB.out)) hb); clear hb ho11; obtain ⟨Ao12, co12, eo12⟩ := Kd.R_slice HO177.out; subst eo12) | (go_at_call 90; (with_reducible refine (mill_isNumber.calls _ _ y175 t178 _ ?side1 ?side2 A8.out).mono ?_); (case side1 => repeat (first | exact (Kd.R_reads' HO177.out).2.2 | (with_reducible refine Kd.C_alloc ?_ _) | (with_reducible refine Kd.C_drewN ?_ _) | (with_reducible refine Kd.C_drew ?_))); (case side2 => exact (Kd.R_reads' HO177.out).2.1); rintro e w13 ⟨rfl, hb⟩; replace HO177 := Aside0.mk (Kd.R_below (by (with_reducible repeat (first | apply Kd.R_alloc | apply Kd.R_drewN | apply Kd.R_drew)); exact HO177.out) hb); replace BK174 := Aside0.mk (blk_below (g := gb174) (o := .cells #[.int .i64 a0_0, .int .i64 a0_1, .int .i64 a0_2] 79 (0, 0)) (by repeat (first | (with_reducible first | exact BK174.out | refine blk_drewN ?_ _ | refine blk_drew ?_ | refine blk_alloc ?_ _) | exact BK174.out)) hb); replace HB := Aside0.mk (below_step (by repeat (first | (with_reducible first | exact HB.out | apply below_alloc | apply pw_below_drewN | apply below_drew1 | refine below_set ?_ (Aside0.out (by assumption))) | exact HB.out)) hb); (try clear hb); (try clear hb2); (try clear hk); (try clear hi)))
     go_ret
     exact ⟨by first | rfl | (simp [errW_none, errW_some] <;> rfl) | (simp [*, errW_none, errW_some] <;> rfl), by repeat (first | (with_reducible first | exact HB.out | apply below_alloc | apply pw_below_drewN | apply below_drew1 | refine below_set ?_ (Aside0.out (by assumption))) | exact HB.out)⟩
    ·rw [if_neg c7] at H
     have c7b0 : (a0_1 == 0) = false := beq_eq_false_iff_ne.mpr c7
     have c7b1 : (a0_1 != 0) = true := bne_iff_ne.mpr c7
     obtain rfl := Option.some.inj H
     obtain ⟨hcz14_0, hcz14_1, hcz14_2⟩ := bc3 BK174.out
     obtain ⟨hfz14_0, hfz14_1, hfz14_2⟩ := bf3 BK174.out
     go_wp2
     go_ret
     exact ⟨by first | rfl | (simp [errW_none, errW_some] <;> rfl) | (simp [*, errW_none, errW_some] <;> rfl), by repeat (first | (with_reducible first | exact HB.out | apply below_alloc | apply pw_below_drewN | apply below_drew1 | refine below_set ?_ (Aside0.out (by assumption))) | exact HB.out)⟩
   ·replace c6 := Bool.eq_false_iff.mpr c6
    subst c6
    have H1 : (if a0_0 = 3 then ((mill_isNumber.f (([a0_1] : List Int))).bind fun t182 => (if t182 = true then ((mill_areHours.f a0_2 a0_2).bind fun t183 => (some t183)) else (some false))) else (some false)) = some r := by rw [if_neg (show ¬ (false = true) by decide)] at H; exact H
    clear H
    have H := H1
    clear H1
    by_cases c15 : a0_0 = 3
    ·rw [if_pos c15] at H
     have c15b0 : (a0_0 == 3) = true := beq_iff_eq.mpr c15
     have c15b1 : (a0_0 != 3) = false := bne_eq_false_iff_eq.mpr c15
     clear c15
     obtain ⟨y179, hy179⟩ : ∃ y_ : List Int, y_ = (([a0_1] : List Int)) := ⟨_, rfl⟩
     replace H : ((mill_isNumber.f y179).bind fun t182 => (if t182 = true then ((mill_areHours.f a0_2 a0_2).bind fun t183 => (some t183)) else (some false))) = some r := by first | (rw [hy179]; with_reducible exact H) | (have H2_ := (Option.bind_some _ _).symm.trans H; rw [hy179]; with_reducible exact H2_) | (have H2_ := (Option.bind_some _ _).symm.trans H; with_reducible exact H2_) | with_reducible exact H | (rw [hy179]; exact H) | exact H
     have Ny179 := Aside0.mk hy179
     clear hy179
     replace H := Option.bind_eq_some_iff.mp H
     obtain ⟨t182, A160, H⟩ := H; (try dsimp only at H)
     have A16 := Aside0.mk A160
     clear A160
     by_cases c17 : t182 = true
     ·subst c17
      have H1 : ((mill_areHours.f a0_2 a0_2).bind fun t183 => (some t183)) = some r := by rw [if_pos rfl] at H; exact H
      clear H
      have H := H1
      clear H1
      replace H := Option.bind_eq_some_iff.mp H
      obtain ⟨t183, A180, H⟩ := H; (try dsimp only at H)
      have A18 := Aside0.mk A180
      clear A180
      obtain rfl := Option.some.inj H
      obtain ⟨hcz19_0, hcz19_1, hcz19_2⟩ := bc3 BK174.out
      obtain ⟨hfz19_0, hfz19_1, hfz19_2⟩ := bf3 BK174.out
      go_wp2_with (first | ((with_reducible refine gate_dst (N := 21) rfl ?_); (try (refine gate_guard (by rfl) ?_; dsimp only)); refine Kd.R_lit (Kd.int .i64) _ 3 ?hg (N := 21) ?hd (xs := ([a0_1] : List Int)) (inner := [.int .i64 a0_1]) (ok := fun _ => True) (okp := fun _ => True) ?hr ?hp (fun _ hk => hk) trivial (Below.refl _ _) (Nat.le_refl _) (by simp) ?_; (case hd => rfl); (case hg => rfl); (case hr => first | (go_simp; done) | (go_simp; rfl)); (case hp => exact (Reps.one (show Kd.M (Kd.int .i64) _ _ _ a0_1 [.int .i64 a0_1] from rfl) (Reps.none _ _))); intro v180 w20 ho21 hb hg_ hnew_; clear hg_ hnew_; (first | rw [← Ny179.out] at ho21 | (simp only [Int.reduceToNat] at ho21; rw [← Ny179.out] at ho21)); have HO181 := Aside0.mk (Kd.R_lower ho21 (below_size (by repeat (first | (with_reducible first | exact HB.out | apply below_alloc | apply pw_below_drewN | apply below_drew1 | refine below_set ?_ (Aside0.out (by assumption))) | exact HB.out)))); replace BK174 := Aside0.mk (blk_below (g := gb174) (o := .cells #[.int .i64 a0_0, .int .i64 a0_1, .int .i64 a0_2] 79 (0, 0)) (by repeat (first | (with_reducible first | exact BK174.out | refine blk_drewN ?_ _ | refine blk_drew ?_ | refine blk_alloc ?_ _) | exact BK174.out)) hb); replace HB := Aside0.mk (below_step (by repeat (first | (with_reducible first | exact HB.out | apply below_alloc | apply pw_below_drewN | apply below_drew1 | refine below_set ?_ (Aside0.out (by assumption))) | exact HB.out)) hb); clear hb ho21; obtain ⟨Ao22, co22, eo22⟩ := Kd.R_slice HO181.out; subst eo22) | ((with_reducible refine gate_callee (f := 90) rfl ?_); refine goesL_ (some 22) rfl rfl Try.func90 (by kernel_rfl) rfl #[.slice Ao22 y179.length co22] rfl (by (try simp only [List.map_toArray, List.map_cons, List.map_nil]); first | done | rfl | (simp only [List.length_drop, List.length_take]; rfl)) ?_; (with_reducible refine (mill_isNumber.calls _ _ y179 true _ ?side1 ?side2 A16.out).mono ?_); (case side1 => repeat (first | exact (Kd.R_reads' HO181.out).2.2 | (with_reducible refine Kd.C_alloc ?_ _) | (with_reducible refine Kd.C_drewN ?_ _) | (with_reducible refine Kd.C_drew ?_))); (case side2 => exact (Kd.R_reads' HO181.out).2.1); rintro e w23 ⟨rfl, hb⟩; refine ⟨_, rfl, ?_⟩; replace HO181 := Aside0.mk (Kd.R_below (by (with_reducible repeat (first | apply Kd.R_alloc | apply Kd.R_drewN | apply Kd.R_drew)); exact HO181.out) hb); replace BK174 := Aside0.mk (blk_below (g := gb174) (o := .cells #[.int .i64 a0_0, .int .i64 a0_1, .int .i64 a0_2] 79 (0, 0)) (by repeat (first | (with_reducible first | exact BK174.out | refine blk_drewN ?_ _ | refine blk_drew ?_ | refine blk_alloc ?_ _) | exact BK174.out)) hb); replace HB := Aside0.mk (below_step (by repeat (first | (with_reducible first | exact HB.out | apply below_alloc | apply pw_below_drewN | apply below_drew1 | refine below_set ?_ (Aside0.out (by assumption))) | exact HB.out)) hb); (try clear hb); (try clear hb2); (try clear hk); (try clear hi); obtain ⟨hcz24_0, hcz24_1, hcz24_2⟩ := bc3 BK174.out; obtain ⟨hfz24_0, hfz24_1, hfz24_2⟩ := bf3 BK174.out) | (go_at_call 91; (with_reducible refine (mill_areHours.calls a0_2 a0_2 t183 _ A18.out).mono ?_); rintro e w25 ⟨rfl, hb⟩; replace HO181 := Aside0.mk (Kd.R_below (by (with_reducible repeat (first | apply Kd.R_alloc | apply Kd.R_drewN | apply Kd.R_drew)); exact HO181.out) hb); replace BK174 := Aside0.mk (blk_below (g := gb174) (o := .cells #[.int .i64 a0_0, .int .i64 a0_1, .int .i64 a0_2] 79 (0, 0)) (by repeat (first | (with_reducible first | exact BK174.out | refine blk_drewN ?_ _ | refine blk_drew ?_ | refine blk_alloc ?_ _) | exact BK174.out)) hb); replace HB := Aside0.mk (below_step (by repeat (first | (with_reducible first | exact HB.out | apply below_alloc | apply pw_below_drewN | apply below_drew1 | refine below_set ?_ (Aside0.out (by assumption))) | exact HB.out)) hb); (try clear hb); (try clear hb2); (try clear hk); (try clear hi)))
      go_ret
      exact ⟨by first | rfl | (simp [errW_none, errW_some] <;> rfl) | (simp [*, errW_none, errW_some] <;> rfl), by repeat (first | (with_reducible first | exact HB.out | apply below_alloc | apply pw_below_drewN | apply below_drew1 | refine below_set ?_ (Aside0.out (by assumption))) | exact HB.out)⟩
     ·replace c17 := Bool.eq_false_iff.mpr c17
      subst c17
      have H1 : (some false) = some r := by rw [if_neg (show ¬ (false = true) by decide)] at H; exact H
      clear H
      have H := H1
      clear H1
      obtain rfl := Option.some.inj H
      obtain ⟨hcz26_0, hcz26_1, hcz26_2⟩ := bc3 BK174.out
      obtain ⟨hfz26_0, hfz26_1, hfz26_2⟩ := bf3 BK174.out
      go_wp2_with (first | ((with_reducible refine gate_dst (N := 21) rfl ?_); (try (refine gate_guard (by rfl) ?_; dsimp only)); refine Kd.R_lit (Kd.int .i64) _ 3 ?hg (N := 21) ?hd (xs := ([a0_1] : List Int)) (inner := [.int .i64 a0_1]) (ok := fun _ => True) (okp := fun _ => True) ?hr ?hp (fun _ hk => hk) trivial (Below.refl _ _) (Nat.le_refl _) (by simp) ?_; (case hd => rfl); (case hg => rfl); (case hr => first | (go_simp; done) | (go_simp; rfl)); (case hp => exact (Reps.one (show Kd.M (Kd.int .i64) _ _ _ a0_1 [.int .i64 a0_1] from rfl) (Reps.none _ _))); intro v180 w27 ho28 hb hg_ hnew_; clear hg_ hnew_; (first | rw [← Ny179.out] at ho28 | (simp only [Int.reduceToNat] at ho28; rw [← Ny179.out] at ho28)); have HO181 := Aside0.mk (Kd.R_lower ho28 (below_size (by repeat (first | (with_reducible first | exact HB.out | apply below_alloc | apply pw_below_drewN | apply below_drew1 | refine below_set ?_ (Aside0.out (by assumption))) | exact HB.out)))); replace BK174 := Aside0.mk (blk_below (g := gb174) (o := .cells #[.int .i64 a0_0, .int .i64 a0_1, .int .i64 a0_2] 79 (0, 0)) (by repeat (first | (with_reducible first | exact BK174.out | refine blk_drewN ?_ _ | refine blk_drew ?_ | refine blk_alloc ?_ _) | exact BK174.out)) hb); replace HB := Aside0.mk (below_step (by repeat (first | (with_reducible first | exact HB.out | apply below_alloc | apply pw_below_drewN | apply below_drew1 | refine below_set ?_ (Aside0.out (by assumption))) | exact HB.out)) hb); clear hb ho28; obtain ⟨Ao29, co29, eo29⟩ := Kd.R_slice HO181.out; subst eo29) | ((with_reducible refine gate_callee (f := 90) rfl ?_); refine goesL_ (some 22) rfl rfl Try.func90 (by kernel_rfl) rfl #[.slice Ao29 y179.length co29] rfl (by (try simp only [List.map_toArray, List.map_cons, List.map_nil]); first | done | rfl | (simp only [List.length_drop, List.length_take]; rfl)) ?_; (with_reducible refine (mill_isNumber.calls _ _ y179 false _ ?side1 ?side2 A16.out).mono ?_); (case side1 => repeat (first | exact (Kd.R_reads' HO181.out).2.2 | (with_reducible refine Kd.C_alloc ?_ _) | (with_reducible refine Kd.C_drewN ?_ _) | (with_reducible refine Kd.C_drew ?_))); (case side2 => exact (Kd.R_reads' HO181.out).2.1); rintro e w30 ⟨rfl, hb⟩; refine ⟨_, rfl, ?_⟩; replace HO181 := Aside0.mk (Kd.R_below (by (with_reducible repeat (first | apply Kd.R_alloc | apply Kd.R_drewN | apply Kd.R_drew)); exact HO181.out) hb); replace BK174 := Aside0.mk (blk_below (g := gb174) (o := .cells #[.int .i64 a0_0, .int .i64 a0_1, .int .i64 a0_2] 79 (0, 0)) (by repeat (first | (with_reducible first | exact BK174.out | refine blk_drewN ?_ _ | refine blk_drew ?_ | refine blk_alloc ?_ _) | exact BK174.out)) hb); replace HB := Aside0.mk (below_step (by repeat (first | (with_reducible first | exact HB.out | apply below_alloc | apply pw_below_drewN | apply below_drew1 | refine below_set ?_ (Aside0.out (by assumption))) | exact HB.out)) hb); (try clear hb); (try clear hb2); (try clear hk); (try clear hi)))
      go_ret
      exact ⟨by first | rfl | (simp [errW_none, errW_some] <;> rfl) | (simp [*, errW_none, errW_some] <;> rfl), by repeat (first | (with_reducible first | exact HB.out | apply below_alloc | apply pw_below_drewN | apply below_drew1 | refine below_set ?_ (Aside0.out (by assumption))) | exact HB.out)⟩
    ·rw [if_neg c15] at H
     have c15b0 : (a0_0 == 3) = false := beq_eq_false_iff_ne.mpr c15
     have c15b1 : (a0_0 != 3) = true := bne_iff_ne.mpr c15
     obtain rfl := Option.some.inj H
     go_wp2
     go_ret
     exact ⟨by first | rfl | (simp [errW_none, errW_some] <;> rfl) | (simp [*, errW_none, errW_some] <;> rfl), by repeat (first | (with_reducible first | exact HB.out | apply below_alloc | apply pw_below_drewN | apply below_drew1 | refine below_set ?_ (Aside0.out (by assumption))) | exact HB.out)⟩

end Go.Proofs.Ytiaiecfnpompcaa.T
namespace Go.Proofs.Ytiaiecfnpompcaa.T
open Go.RowKit Go.Maps Go.Proofs.YtiaiecfnpompcaaW.PrintWords Go.Proofs.YtiaiecfnpompcaaW.PrintLast Go.Proofs.YtiaiecfnpompcaaW.PrintMore
set_option linter.unusedVariables false
set_option linter.unusedSimpArgs false

attribute [local go_sem] max2_int min2_int max_two min_two
def recI (x : S79) (kss : List (List S79)) (n : Nat) : List Int := ((List.range n).filter fun i => decide (x ∈ kss.getD i [])).map Int.ofNat
theorem recI_succ (x : S79) (kss : List (List S79)) (n : Nat) : recI x kss (n + 1) = recI x kss n ++ if x ∈ kss.getD n [] then [(n : Int)] else [] := by
 unfold recI
 rw [List.range_succ, List.filter_append, List.map_append, List.filter_cons, List.filter_nil]
 by_cases c : x ∈ kss.getD n []
 ·rw [if_pos c, decide_eq_true c]; rfl
 ·rw [if_neg c, decide_eq_false c]; rfl
theorem recI_len (x : S79) (kss : List (List S79)) (n : Nat) : (recI x kss n).length ≤ n := by
 unfold recI
 rw [List.length_map]
 exact Nat.le_trans (List.length_filter_le _ _) (by rw [List.length_range]; exact Nat.le_refl _)
def okCb (x : S79) : Bool := (Lit.int .i64 x.f0).wf && ((Lit.int .i64 x.f1).wf && (Lit.int .i64 x.f2).wf)
theorem okCb_ok {x : S79} (h : okCb x = true) : okC x := by
 unfold okCb at h
 rw [Bool.and_eq_true, Bool.and_eq_true] at h
 exact h
def mill_Recall.g (k : Nat) (l : List S144) (lots : List S58) (x : S79) : Option (List Int × Int) :=
 (mill_Check.f k l).bind fun e => if e ≠ 0 then some ([], e) else if 40 < lots.length then some ([], 5) else (mill_isCause.f k x.f0 x.f1 x.f2).bind fun b => if b = false then some ([], 2) else
  if (l.length ≤ 100 ∧ ∀ y ∈ l, okRun y) ∧ okCb x = true then (if allE l lots ≠ 0 then some ([], allE l lots) else some (recI x (lots.map (keysOf l)) lots.length, 0)) else none
set_option maxHeartbeats 40000000 in
set_option maxRecDepth 100000 in
theorem mill_Recall.calls_g (k : Nat) (A0 : Option Addr) (c0 : Nat) (l : List S144) (A1 : Option Addr) (c1 : Nat) (lots : List S58) (x : S79) (r1 : List Int) (r2 : Int) (w : World) (hC : Kd.C k144 w A0 l.length l) (hc0 : l.length ≤ c0)
  (hC1 : Kd.C k58 w A1 lots.length lots) (hc1 : lots.length ≤ c1) (h : mill_Recall.g k l lots x = some (r1, r2)) :
  Calls Try.prog 43 #[.slice A0 l.length c0, .slice A1 lots.length c1, .agg #[.int .i64 x.f0, .int .i64 x.f1, .int .i64 x.f2]] w fun e w' => ∃ v : Value, e = .returned (.tuple #[v, .int .i64 r2]) ∧ Kd.R (Kd.int .i64) 3 w' w.heap.size (fun _ => True) v r1 ∧ Below w.heap.size w w' := by
 unfold mill_Recall.g at h
 obtain ⟨e1, hck, h⟩ := Option.bind_eq_some_iff.1 h
 replace hck := Aside0.mk hck
 have hB := Below.refl w.heap.size w
 have hu79 := Try.underlying79
 by_cases q1 : e1 = 0
 rotate_left
 ·as_aux_lemma =>
  rw [if_pos q1] at h
  injection h with h
  injection h with ha hb
  subst ha; subst hb
  have q1b : (e1 != 0) = true := by simpa using q1
  clear q1
  go_enter Try.func43, Try.ntmps43
  go_wp2_with (first | ((with_reducible refine gate_dst (N := 5) rfl ?_); refine box_event ?hg (N := 5) ?hd (cs := #[.int .i64 x.f0, .int .i64 x.f1, .int .i64 x.f2]) (t := 79) ?hr ?_; (case hd => rfl); (case hg => rfl); (case hr => first | (go_simp; done) | (go_simp; rfl)); intro gb hg w7 hbx hb; have hbs : gb < w7.heap.size := World.block_lt_of_cell? w7 ⟨gb, 0, none⟩ (bc3 hbx).1; replace hB := below_step hB hb; clear hb hg) | (go_at_call 32; with_reducible refine (mill_Check.calls k A0 c0 l _ _ (Kd.C_below hC hB) hc0 hck.out).mono ?_; rintro e w4 ⟨rfl, hb⟩; replace hB := below_step hB hb; replace hbx := blk_below hbx hb; clear hb))
  go_ret2
  exact ⟨_, rfl, Kd.R_nil _ _ _ _ _, hB⟩
 subst q1
 rw [if_neg (by simp)] at h
 by_cases q2 : 40 < lots.length
 ·as_aux_lemma =>
  rw [if_pos q2] at h
  injection h with h
  injection h with ha hb
  subst ha; subst hb
  have hmany : Aside0 (decide (40 < lots.length) = true) := ⟨by simpa using q2⟩
  clear q2
  go_enter Try.func43, Try.ntmps43
  go_wp2_with (first | ((with_reducible refine gate_dst (N := 5) rfl ?_); refine box_event ?hg (N := 5) ?hd (cs := #[.int .i64 x.f0, .int .i64 x.f1, .int .i64 x.f2]) (t := 79) ?hr ?_; (case hd => rfl); (case hg => rfl); (case hr => first | (go_simp; done) | (go_simp; rfl)); intro gb hg w7 hbx hb; have hbs : gb < w7.heap.size := World.block_lt_of_cell? w7 ⟨gb, 0, none⟩ (bc3 hbx).1; replace hB := below_step hB hb; clear hb hg) | (go_at_call 32; with_reducible refine (mill_Check.calls k A0 c0 l _ _ (Kd.C_below hC hB) hc0 hck.out).mono ?_; rintro e w4 ⟨rfl, hb⟩; replace hB := below_step hB hb; replace hbx := blk_below hbx hb; clear hb) | (go_at_call 73; refine (areMany_one _ A1 lots.length c1 _ _ ?hL hmany.out).mono ?_; (case hL => first | exact (MapKept.heap_alloc _ _).1 | simp); rintro e w5 ⟨rfl, hd⟩; replace hB := (hB.alloc (below_size hB) _).trans (hd.below.mono (Nat.le_trans (below_size hB) (by simp))); replace hbx := blk_below hbx (((Below.refl w4.heap.size w4).alloc (Nat.le_refl _) _).trans (hd.below.mono (by simp))); clear hd; obtain ⟨y0, y1, y2⟩ := bc3 hbx))
  go_ret2
  exact ⟨_, rfl, Kd.R_nil _ _ _ _ _, hB⟩
 rw [if_neg q2] at h
 have hmany : Aside0 (decide (40 < lots.length) = false) := ⟨by simpa using q2⟩
 have hls : Aside0 (lots.length ≤ 1000) := ⟨by omega⟩
 clear q2
 obtain ⟨b1, hic, h⟩ := Option.bind_eq_some_iff.1 h
 replace hic := Aside0.mk hic
 cases b1
 ·as_aux_lemma =>
  rw [if_pos rfl] at h
  injection h with h
  injection h with ha hb
  subst ha; subst hb
  go_enter Try.func43, Try.ntmps43
  go_wp2_with (first | ((with_reducible refine gate_dst (N := 5) rfl ?_); refine box_event ?hg (N := 5) ?hd (cs := #[.int .i64 x.f0, .int .i64 x.f1, .int .i64 x.f2]) (t := 79) ?hr ?_; (case hd => rfl); (case hg => rfl); (case hr => first | (go_simp; done) | (go_simp; rfl)); intro gb hg w7 hbx hb; have hbs : gb < w7.heap.size := World.block_lt_of_cell? w7 ⟨gb, 0, none⟩ (bc3 hbx).1; replace hB := below_step hB hb; clear hb hg) | (go_at_call 32; with_reducible refine (mill_Check.calls k A0 c0 l _ _ (Kd.C_below hC hB) hc0 hck.out).mono ?_; rintro e w4 ⟨rfl, hb⟩; replace hB := below_step hB hb; replace hbx := blk_below hbx hb; clear hb) | (go_at_call 73; refine (areMany_one _ A1 lots.length c1 _ _ ?hL hmany.out).mono ?_; (case hL => first | exact (MapKept.heap_alloc _ _).1 | simp); rintro e w5 ⟨rfl, hd⟩; replace hB := (hB.alloc (below_size hB) _).trans (hd.below.mono (Nat.le_trans (below_size hB) (by simp))); replace hbx := blk_below hbx (((Below.refl w4.heap.size w4).alloc (Nat.le_refl _) _).trans (hd.below.mono (by simp))); clear hd; obtain ⟨y0, y1, y2⟩ := bc3 hbx) | (go_at_call 74; with_reducible refine (mill_isCause.calls k _ _ _ _ _ hic.out).mono ?_; rintro e w6 ⟨rfl, hb⟩; replace hB := below_step hB hb; replace hbx := blk_below hbx hb; clear hb y0 y1 y2))
  go_ret2
  exact ⟨_, rfl, Kd.R_nil _ _ _ _ _, hB⟩
 rw [if_neg (by simp)] at h
 by_cases hp : (l.length ≤ 100 ∧ ∀ y ∈ l, okRun y) ∧ okCb x = true
 rotate_left
 ·rw [if_neg hp] at h; cases h
 rw [if_pos hp] at h
 have hox : Aside0 (okC x) := ⟨okCb_ok hp.2⟩
 have hlk := Aside0.mk hp.1
 clear hp
 by_cases q4 : allE l lots = 0
 rotate_left
 ·as_aux_lemma =>
  rw [if_pos q4] at h
  injection h with h
  injection h with ha hb
  subst ha; subst hb
  replace q4 := Aside0.mk q4
  go_enter Try.func43, Try.ntmps43
  go_upto_region 10 with (first | ((with_reducible refine gate_dst (N := 5) rfl ?_); refine box_event ?hg (N := 5) ?hd (cs := #[.int .i64 x.f0, .int .i64 x.f1, .int .i64 x.f2]) (t := 79) ?hr ?_; (case hd => rfl); (case hg => rfl); (case hr => first | (go_simp; done) | (go_simp; rfl)); intro gb hg w7 hbx hb; have hbs : gb < w7.heap.size := World.block_lt_of_cell? w7 ⟨gb, 0, none⟩ (bc3 hbx).1; replace hB := below_step hB hb; clear hb hg) | (go_at_call 32; with_reducible refine (mill_Check.calls k A0 c0 l _ _ (Kd.C_below hC hB) hc0 hck.out).mono ?_; rintro e w4 ⟨rfl, hb⟩; replace hB := below_step hB hb; replace hbx := blk_below hbx hb; clear hb) | (go_at_call 73; refine (areMany_one _ A1 lots.length c1 _ _ ?hL hmany.out).mono ?_; (case hL => first | exact (MapKept.heap_alloc _ _).1 | simp); rintro e w5 ⟨rfl, hd⟩; replace hB := (hB.alloc (below_size hB) _).trans (hd.below.mono (Nat.le_trans (below_size hB) (by simp))); replace hbx := blk_below hbx (((Below.refl w4.heap.size w4).alloc (Nat.le_refl _) _).trans (hd.below.mono (by simp))); clear hd; obtain ⟨y0, y1, y2⟩ := bc3 hbx) | (go_at_call 74; with_reducible refine (mill_isCause.calls k _ _ _ _ _ hic.out).mono ?_; rintro e w6 ⟨rfl, hb⟩; replace hB := below_step hB hb; replace hbx := blk_below hbx hb; clear hb y0 y1 y2) | (go_at_call 75; with_reducible refine (all_calls A0 c0 l A1 c1 lots _ (Kd.C_below hC hB) hc0 hlk.out.1 hlk.out.2 (Kd.C_below hC1 hB) hc1 hls.out).mono ?_; rintro e w8 ⟨vx, rfl, hb, hn1, hz1⟩; replace hB := below_step hB hb; obtain rfl := hn1 q4.out; clear hb hn1 hz1))
  go_loopw [6, 34] (fun v6 v34 wr => v6 = .slice none 0 0 ∧ v34 = .int .i64 0 ∧ Below w.heap.size w wr) (fun _ _ _ => 0)
  case atStart => exact ⟨rfl, rfl, hB⟩
  case round =>
   obtain ⟨rfl, rfl, hBr⟩ := hrel
   go_wp2
   go_ret2
   exact ⟨_, rfl, Kd.R_nil _ _ _ _ _, hBr⟩
 rw [if_neg (by simpa using q4)] at h
 injection h with h
 injection h with ha hb
 subst ha; subst hb
 have q4a := Aside0.mk q4
 clear q4
 have hok1 : ∀ ks ∈ lots.map (keysOf l), ∀ y ∈ ks, okC y := by
  intro ks hks
  obtain ⟨z, hz, rfl⟩ := List.mem_map.1 hks
  obtain ⟨t1, t2⟩ := causesE_zero (allE_zero' q4a.out z hz)
  exact allKeys_ok hlk.out.2 t1
 obtain ⟨kss, hkss⟩ : ∃ kss, lots.map (keysOf l) = kss := ⟨_, rfl⟩
 rw [hkss] at hok1 ⊢
 have hkl : Aside0 (kss.length = lots.length) := ⟨by rw [← hkss, List.length_map]⟩
 rw [← hkl.out]
 replace hkss := Aside0.mk hkss
 replace hok1 := Aside0.mk hok1
 have q4b : (allE l lots) = 0 := q4a.out
 go_enter Try.func43, Try.ntmps43
 rw [hkl.out]
 go_upto_region 9 with (first | ((with_reducible refine gate_dst (N := 5) rfl ?_); refine box_event ?hg (N := 5) ?hd (cs := #[.int .i64 x.f0, .int .i64 x.f1, .int .i64 x.f2]) (t := 79) ?hr ?_; (case hd => rfl); (case hg => rfl); (case hr => first | (go_simp; done) | (go_simp; rfl)); intro gb hg w7 hbx hb; have hbs : gb < w7.heap.size := World.block_lt_of_cell? w7 ⟨gb, 0, none⟩ (bc3 hbx).1; replace hB := below_step hB hb; clear hb hg) | (go_at_call 32; with_reducible refine (mill_Check.calls k A0 c0 l _ _ (Kd.C_below hC hB) hc0 hck.out).mono ?_; rintro e w4 ⟨rfl, hb⟩; replace hB := below_step hB hb; replace hbx := blk_below hbx hb; clear hb) | (go_at_call 73; refine (areMany_one _ A1 lots.length c1 _ _ ?hL hmany.out).mono ?_; (case hL => first | exact (MapKept.heap_alloc _ _).1 | simp); rintro e w5 ⟨rfl, hd⟩; replace hB := (hB.alloc (below_size hB) _).trans (hd.below.mono (Nat.le_trans (below_size hB) (by simp))); replace hbx := blk_below hbx (((Below.refl w4.heap.size w4).alloc (Nat.le_refl _) _).trans (hd.below.mono (by simp))); clear hd; obtain ⟨y0, y1, y2⟩ := bc3 hbx) | (go_at_call 74; with_reducible refine (mill_isCause.calls k _ _ _ _ _ hic.out).mono ?_; rintro e w6 ⟨rfl, hb⟩; replace hB := below_step hB hb; replace hbx := blk_below hbx hb; clear hb y0 y1 y2) | (go_at_call 75; with_reducible refine (all_calls A0 c0 l A1 c1 lots _ (Kd.C_below hC hB) hc0 hlk.out.1 hlk.out.2 (Kd.C_below hC1 hB) hc1 hls.out).mono ?_; rintro e w8 ⟨vx, rfl, hb, hn1, hz1⟩; have hszA := below_size hB; replace hB := below_step hB hb; replace hbx := blk_below hbx hb; replace hz1 := Aside0.mk (hz1 q4a.out); clear hb hn1))
 have hMx := hz1.out.lower hszA
 clear hz1 hszA h hC hC1
 rw [hkss.out] at hMx
 obtain ⟨Bs, hRx, hlx, hmx⟩ := hMx
 obtain ⟨Ax, cx, rfl⟩ := Kd.R_slice hRx
 obtain ⟨_, hcx⟩ := maps_cells hRx
 have hel : ∀ (i : Nat) (hi : i < kss.length), ∃ ad C m, Ax = some ad ∧ (∀ wr, Below w8.heap.size w8 wr → OwnC wr C m kss[i]) ∧ ∀ wr, Below w8.heap.size w8 wr → wr.cell? (ad.add i) = some (.map (some C)) := by
  intro i hi
  have hi2 : i < Bs.length := by omega
  obtain ⟨ad, e1, hc⟩ := hcx i (.map (some Bs[i])) (by rw [List.getElem?_map, List.getElem?_eq_getElem hi2]; rfl)
  obtain ⟨_, m, ho⟩ := hmx i Bs[i] kss[i] (List.getElem?_eq_getElem hi2) (List.getElem?_eq_getElem hi)
  exact ⟨ad, Bs[i], m, e1, fun wr h => ho.kept (grown_of_below h none) (by simp), fun wr h => (h.cell (World.block_lt_of_cell? w8 _ hc)).trans hc⟩
 clear hcx hmx hRx
 rw [hlx] at *
 clear hlx
 replace hel := Aside0.mk hel
 replace hB := Aside0.mk hB
 replace hbx := Aside0.mk hbx
 go_wp2
 go_loopw [6, 34] (fun v6 v34 wr => ∃ i : Nat, i ≤ kss.length ∧ v34 = .int .i64 i ∧ Kd.R (Kd.int .i64) 3 wr w8.heap.size (fun _ => True) v6 (recI x kss i) ∧ Below w8.heap.size w8 wr)
  (fun _ v34 _ => kss.length - (intOf v34).toNat)
 case atStart => exact ⟨0, Nat.zero_le _, rfl, Kd.R_nil _ _ _ _ _, Below.refl _ _⟩
 case round => as_aux_lemma =>
  obtain ⟨i, hi, rfl, hR, hbr⟩ := hrel
  by_cases hlt : i < kss.length
  rotate_left
  ·have p2n : decide (i < kss.length) = false := decide_eq_false hlt
   have p2b : decide ((i : Int) < (kss.length : Int)) = false := decide_eq_false (by omega)
   have hil : i = lots.length := by have := hkl.out; omega
   replace hlt := Aside0.mk hlt
   replace hil := Aside0.mk hil
   go_wp2
   go_ret2
   refine ⟨_, rfl, ?_, below_step hB.out hbr⟩
   rw [← hil.out]
   exact Kd.R_lower hR (below_size hB.out)
  have p2n : decide (i < kss.length) = true := decide_eq_true hlt
  have p2b : decide ((i : Int) < (kss.length : Int)) = true := decide_eq_true (by omega)
  have p2t := eq_true hlt
  obtain ⟨ad, C, m, rfl, hCo, hcell⟩ := hel.out i hlt
  replace hcell := hcell _ hbr
  have hqok := hok1.out kss[i] (List.getElem_mem hlt)
  have hbx2 := blk_below hbx.out hbr
  obtain ⟨y0, y1, y2⟩ := bc3 hbx2
  clear hbx2
  have hlk2 := look79 (hCo _ hbr) hqok hox.out
  have hsn : recI x kss (i + 1) = recI x kss i ++ if x ∈ kss[i] then [(i : Int)] else [] := by
   rw [recI_succ, show kss.getD i [] = kss[i] by simp [hlt]]
  have hll := Aside0.mk (recI_len x kss i)
  have hwi : wrap64 ((i : Int) + 1) = ((i + 1 : Nat) : Int) := by have := hls.out; have := hkl.out; rw [wrap64_id (by omega) (by omega)]; rfl
  have hib : (i : Int) < 1000000 := by have := hls.out; have := hkl.out; omega
  replace hib := Aside0.mk hib
  replace hlt := Aside0.mk hlt
  replace hCo := Aside0.mk hCo
  replace hqok := Aside0.mk hqok
  generalize kss[i] = qs at hCo hsn hqok hlk2
  by_cases g : x ∈ qs
  ·rw [decide_eq_true g] at hlk2
   rw [if_pos g] at hsn
   replace hsn := Aside0.mk hsn
   clear g
   generalize recI x kss i = ls at hR hsn hll
   obtain ⟨A6, c6, rfl⟩ := Kd.R_slice hR
   go_wp2_with (first | ((with_reducible refine gate_builtin (b := .append) (xs := #[.tmp 42, .tmp 44]) rfl ?_); at_builtin; refine Kd.R_append (Kd.int .i64) (w0 := w8) w8.heap.size rfl (.tmp 42) (.tmp 44) 22 3 (.int .i64 0) 8 rfl Try.underlying22 info3 rfl (by decide) (by omega) (.slice A6 ls.length c6) ls (i : Int) [.int .i64 (i : Int)] (fun _ => True) (fun _ => False) rfl (by first | (go_simp; done) | (go_simp; rfl)) ?aP (fun _ hk => hk.elim) ?aF ?aO ?aB ?aS ?aL ?_; (case aP => rfl); (case aF => exact fun _ _ => trivial); (case aO => exact hR); (case aB => exact hbr); (case aS => exact below_size hbr); (case aL => have := hll.out; have := hib.out; omega); intro v1 w9 ho hb hg hat; clear hat hg))
   go_roundw
   case rel => exact ⟨i + 1, Nat.succ_le_of_lt (of_eq_true p2t), by go_num, by rw [hsn.out]; exact ho, hb⟩
   case measure => rw [hwi]; exact meas_lt (of_eq_true p2t)
  ·rw [decide_eq_false g] at hlk2
   rw [if_neg g, List.append_nil] at hsn
   replace hsn := Aside0.mk hsn
   clear g
   go_wp2
   go_roundw
   case rel => exact ⟨i + 1, Nat.succ_le_of_lt (of_eq_true p2t), by go_num, by rw [hsn.out]; exact hR, hbr⟩
   case measure => rw [hwi]; exact meas_lt (of_eq_true p2t)
def mill_Recall.f (l : List S144) (lots : List S58) (a2_0 a2_1 a2_2 : Int) : Option (List Int × Int) := mill_Recall.g 1000 l lots ⟨a2_0, a2_1, a2_2⟩
theorem mill_Recall.calls (A0 : Option Addr) (c0 : Nat) (l : List S144) (A1 : Option Addr) (c1 : Nat) (lots : List S58) (a2_0 a2_1 a2_2 : Int) (r1 : List Int) (r2 : Int) (w : World) (hC : Kd.C k144 w A0 l.length l) (hc0 : l.length ≤ c0)
  (hC1 : Kd.C k58 w A1 lots.length lots) (hc1 : lots.length ≤ c1) (h : mill_Recall.f l lots a2_0 a2_1 a2_2 = some (r1, r2)) :
  Calls Try.prog 43 #[.slice A0 l.length c0, .slice A1 lots.length c1, .agg #[.int .i64 a2_0, .int .i64 a2_1, .int .i64 a2_2]] w fun e w' => ∃ v : Value, e = .returned (.tuple #[v, .int .i64 r2]) ∧ Kd.R (Kd.int .i64) 3 w' w.heap.size (fun _ => True) v r1 ∧ Below w.heap.size w w' :=
 mill_Recall.calls_g 1000 A0 c0 l A1 c1 lots ⟨a2_0, a2_1, a2_2⟩ r1 r2 w hC hc0 hC1 hc1 h
end Go.Proofs.Ytiaiecfnpompcaa.T
namespace Go.Proofs.Ytiaiecfnpompcaa.T
open Go.RowKit Go.Maps Go.ChangeMaps Go.Proofs.YtiaiecfnpompcaaW.PrintWords Go.Proofs.YtiaiecfnpompcaaW.PrintLast Go.Proofs.YtiaiecfnpompcaaW.PrintMore
set_option linter.unusedVariables false
set_option linter.unusedSimpArgs false
abbrev OwnD (w : World) (B n : Nat) (D : DataW Unit) : Prop := w.ownsMap Try.prog 79 (plainElem (H := Unit) Try.prog 4) B n D
def AtD (D : DataW Unit) (p : S79 → Bool) : Prop := ∀ z, okC z → ∀ d, D.atKey (litC z) d = if p z then .lit (.bool true) else d
theorem AtD_set {l : List S79} (h : ∀ x ∈ l, okC x) : AtD (setC l) (fun z => decide (z ∈ l)) := by
 intro z hz d
 rw [atKey_setC h hz]
 by_cases g : z ∈ l
 ·rw [if_pos g, if_pos (decide_eq_true g)]
 ·rw [if_neg g, if_neg (by simpa using g)]
theorem AtD.del {D : DataW Unit} {p q : S79 → Bool} (h : AtD D p) {x : S79} (hx : okC x) (hq : ∀ z, q z = (p z && !decide (z = x))) : AtD (D.del (litC x)) q := by
 intro z hz d
 rw [hq]
 by_cases g : z = x
 ·subst g
  rw [atKey_del_same]
  simp
 ·rw [atKey_del_other (fun e => g (litC_inj hz hx e)), h z hz]
  simp [g]
theorem AtD.has {D : DataW Unit} {p : S79 → Bool} (h : AtD D p) {x : S79} (hx : okC x) : Maps.has D (litC x) = p x := by
 cases e : p x
 ·exact has_false_of_atKey (fun d => by rw [h x hx, e]; rfl)
 ·exact has_true_of_atKey (y := .lit (.bool true)) (fun d => by rw [h x hx, e]; rfl)
theorem distinct_of_nodup : ∀ (l acc : List S79), (acc ++ l).Nodup → l.foldl addC acc = acc ++ l
 | [], acc, _ => by simp
 | x :: l, acc, h => by
  have hx : x ∉ acc := fun hm => by
   rw [List.nodup_append] at h
   exact h.2.2 x hm x (by simp) rfl
  show l.foldl addC (addC acc x) = _
  have e : addC acc x = acc ++ [x] := by unfold addC; rw [if_neg hx]
  rw [e, distinct_of_nodup l (acc ++ [x]) (by simpa using h)]
  simp
theorem size_set {l : List S79} (h : ∀ x ∈ l, okC x) (hn : l.Nodup) : Maps.size (setC l) = l.length := by
 have := size_setC h
 unfold distinctC at this
 rw [distinct_of_nodup l [] (by simpa using hn), List.nil_append] at this
 omega
theorem look117 {w : World} {B n : Nat} {D : DataW Unit} {p : S79 → Bool} (hown : OwnD w B n D) (h : AtD D p) {x : S79} (hx : okC x) :
  (Instr.lookup 117 (.map (some B)) (.agg #[.int .i64 x.f0, .int .i64 x.f1, .int .i64 x.f2]) false).run Try.prog w = .ok (.bool (p x)) w := by
 obtain ⟨v, ps, hrun, hv⟩ := hown.lookup law79 Try.underlying117 (zero4 w) (plainB false) (key79 hx)
 obtain ⟨c, rfl⟩ := invB v _ hv
 rw [h x hx, plainB] at hv
 rw [show (.agg #[.int .i64 x.f0, .int .i64 x.f1, .int .i64 x.f2] : Value) = vC x from rfl, hrun]
 simp only [Option.some.injEq, Prod.mk.injEq] at hv
 obtain ⟨hv, _⟩ := hv
 cases e : p x <;> rw [e] at hv <;> simp at hv <;> rw [hv]
theorem ent117 {w wb : World} {B n : Nat} {ks : List S79} {x : S79} (hown : OwnC w B n ks) (hb : Below wb.heap.size wb w) (hB : wb.heap.size ≤ B) (hx : okC x) (hn : n < 10000000) :
  ∃ (v0 : Value) (st : Nat) (w2 : World), (Instr.mapEntry 117 (.map (some B)) (.agg #[.int .i64 x.f0, .int .i64 x.f1, .int .i64 x.f2])).run Try.prog w = .ok (.tuple #[v0, .int .i64 ((st : Nat) : Int)]) w2 ∧ Below wb.heap.size wb w2 ∧
   ∃ w3, (Instr.entryStore 117 (.map (some B)) (.int .i64 ((st : Nat) : Int)) (.bool true)).run Try.prog w2 = .ok () w3 ∧ OwnC w3 B (n + 1) (ks ++ [x]) ∧ Below wb.heap.size wb w3 := by
 have hk : keyOf Try.prog 79 (.agg #[.int .i64 x.f0, .int .i64 x.f1, .int .i64 x.f2]) = some (litC x) := key79 hx
 obtain ⟨w', hrun, hown', hturn⟩ := World.ownsMap.store hown law79 Try.underlying117 (by unfold maxLen; omega) hk (plainB true)
 obtain ⟨es, clock, hblk, F, hs, hD⟩ := id hown
 obtain ⟨v0, st, es1, clock1, h1, _, h2⟩ := Go.WideElems.entry_then_store law79' Try.underlying117 (fun u => zero4 u) hblk F hk
 have hm1 : w.mapTurned (setBlock w B (.map es1 clock1)) B := ⟨es, clock, es1, clock1, hblk, rfl⟩
 obtain ⟨es', clock', h3, h4⟩ := h2 (setBlock w B (.map es1 clock1)) (.bool true) (heap_setBlock_same hblk _)
 rw [hrun] at h4
 injection h4 with _ h4
 refine ⟨v0, st, _, h1, hb.grown hm1.grown hb.size (fun k hk => by cases hk; exact hB), _, h3, ?_⟩
 have e : setBlock (setBlock w B (.map es1 clock1)) B (.map es' clock') = w' := by rw [h4]; simp [setBlock]
 rw [e]
 exact ⟨by unfold OwnC; rw [setC_snoc]; exact hown', hb.grown hturn.grown hb.size (fun k hk => by cases hk; exact hB)⟩
theorem left_step {c first : List S79} {i : Nat} (hi : i < first.length) (hn : first.Nodup) :
  (∀ z, decide (z ∈ c ∧ z ∉ first.take (i + 1)) = (decide (z ∈ c ∧ z ∉ first.take i) && !decide (z = first[i]))) ∧ first[i] ∉ first.take i := by
 have h1 : first.take (i + 1) = first.take i ++ [first[i]] := by rw [List.take_add_one, List.getElem?_eq_getElem hi]; rfl
 refine ⟨fun z => ?_, fun hm => ?_⟩
 ·rw [h1]
  simp only [List.mem_append, List.mem_singleton, not_or]
  by_cases a : z ∈ c <;> by_cases b : z ∈ first.take i <;> by_cases d : z = first[i] <;> simp [a, b, d]
 ·have h2 : (first.take (i + 1)).Nodup := hn.sublist (List.take_sublist _ _)
  rw [h1, List.nodup_append] at h2
  exact h2.2.2 _ hm _ (by simp) rfl
theorem left_size {c first : List S79} {i : Nat} (hi : i < first.length) (hn : first.Nodup) (hc : c.Nodup) :
  (c.filter fun z => decide (z ∉ first.take (i + 1))).length + (if first[i] ∈ c then 1 else 0) = (c.filter fun z => decide (z ∉ first.take i)).length := by
 have h1 : first.take (i + 1) = first.take i ++ [first[i]] := by rw [List.take_add_one, List.getElem?_eq_getElem hi]; rfl
 have h2 := (left_step (c := c) hi hn).2
 generalize first[i] = x at *
 rw [h1]
 generalize first.take i = t at *
 clear h1 hi hn
 induction c with
 | nil => simp
 | cons y c ih =>
  have hc2 := ih (List.nodup_cons.1 hc).2
  have hy := (List.nodup_cons.1 hc).1
  rw [List.filter_cons, List.filter_cons]
  by_cases a : y = x
  ·subst a
   rw [if_neg hy] at hc2
   have e1 : (decide (y ∉ t ++ [y]) = true) = False := by simp
   have e2 : (decide (y ∉ t) = true) = True := by simp [h2]
   simp only [e1, e2, if_true, if_false, List.mem_cons, true_or, List.length_cons]
   omega
  ·have e : (x ∈ y :: c) = (x ∈ c) := by simp [Ne.symm a]
   simp only [e]
   by_cases b : y ∈ t
   ·have e1 : (decide (y ∉ t ++ [x]) = true) = False := by simp [b]
    have e2 : (decide (y ∉ t) = true) = False := by simp [b]
    simp only [e1, e2, if_false]; exact hc2
   ·have e1 : (decide (y ∉ t ++ [x]) = true) = True := by simp [a, b]
    have e2 : (decide (y ∉ t) = true) = True := by simp [b]
    simp only [e1, e2, if_true, List.length_cons]; omega
theorem left_none {c first : List S79} (h : ∀ z ∈ c, z ∈ first) : (c.filter fun z => decide (z ∉ first)) = [] := by
 rw [List.filter_eq_nil_iff]
 intro z hz
 simpa using h z hz
theorem all_step {α : Type} (l : List α) (p : α → Bool) {i : Nat} (hi : i < l.length) : (l.take (i + 1)).all p = ((l.take i).all p && p l[i]) := by
 rw [List.take_add_one, List.getElem?_eq_getElem hi, List.all_append]; simp [Option.toList]
theorem eq79 (z x : S79) : (z.f0 == x.f0 && (z.f1 == x.f1 && z.f2 == x.f2)) = decide (z = x) := by
 cases z; cases x
 simp only [S79.mk.injEq]
 rw [Bool.eq_iff_iff]
 simp
end Go.Proofs.Ytiaiecfnpompcaa.T
