-- cut down, squeezed and laid together by pack.py (a program of this repository) out of this seat's texts
import Derived.WalkKit
import Derived.MapKept
import Derived.RangeFuncNested
import Derived.RangeFuncBound
import Derived.RangeFuncCalls
import Derived.RangeFuncLeaves
import Derived.Shelf.Abstract
import Derived.Shelf.RegionOpen
import Derived.OwnWalkIn
import Derived.TacticsInMore
import Derived.LoopNIn
import Derived.LoopIn
import Derived.Shelf.SlSortCmp.InsertionK
import Derived.ChangeKeysEq
import Derived.Maps.Views
import Derived.Test.YtiaiecfnpompcaaZR18
import Derived.Test.YtiaiecfnpompcaaZR15
import Derived.Test.YtiaiecfnpompcaaZR2
import Derived.Test.YtiaiecfnpompcaaZR10
import Derived.Test.YtiaiecfnpompcaaZR13
import Derived.Test.YtiaiecfnpompcaaZR14
import Derived.Test.YtiaiecfnpompcaaZR19
import Derived.Test.YtiaiecfnpompcaaZR3
import Derived.Test.YtiaiecfnpompcaaZR9
import Derived.Test.YtiaiecfnpompcaaZR4
import Derived.Test.YtiaiecfnpompcaaZR12
import Derived.Test.YtiaiecfnpompcaaZR8
import Derived.Test.YtiaiecfnpompcaaZR6
import Derived.Test.YtiaiecfnpompcaaZR7
import Derived.Test.YtiaiecfnpompcaaZR11
import Derived.Test.YtiaiecfnpompcaaZR5
import Derived.Test.YtiaiecfnpompcaaZR1
import Derived.Test.YtiaiecfnpompcaaZR16
import Derived.Test.YtiaiecfnpompcaaZR17
namespace Go.Proofs.Ytiaiecfnpompcaa.T
open Go.RowKit Go.Maps Go.Proofs.YtiaiecfnpompcaaW.PrintWords Go.Proofs.YtiaiecfnpompcaaW.PrintLast Go.Proofs.YtiaiecfnpompcaaW.PrintMore
set_option linter.unusedVariables false
set_option linter.unusedSimpArgs false
def Yq (x : S144) : Prop := (0 ≤ x.f0 ∧ x.f0 ≤ 1000) ∧ (0 ≤ x.f3 ∧ x.f3 ≤ 1000) ∧ (0 ≤ x.f4 ∧ x.f4 ≤ 1000) ∧ 0 ≤ x.f1 ∧ x.f1 ≤ x.f2 ∧ x.f2 ≤ 100000
def Yc (x : S144) (m f t : Int) : Int × Int := if x.f0 = m then (mx x.f1 f, mn x.f2 t) else (1, 0)
def Ym (m a : Int) : Nat → List S79
 | 0 => []
 | n + 1 => Ym m a n ++ [⟨3, m, a + (n : Int)⟩]
def Jn (x : S144) (m f t : Int) : List S79 := if (Yc x m f t).1 > (Yc x m f t).2 then [] else
 [⟨1, 0, x.f3⟩, ⟨2, 0, x.f4⟩] ++ Ym x.f0 (Yc x m f t).1 ((Yc x m f t).2 + 1 - (Yc x m f t).1).toNat
def YX (x : S144) (m f t : Int) : Prop := (Yc x m f t).1 ≤ (Yc x m f t).2 ∧ (Yc x m f t).2 - (Yc x m f t).1 ≥ 1000
instance (x : S144) (m f t : Int) : Decidable (YX x m f t) := by unfold YX; infer_instance
def X7 (l : List S144) (m f t : Int) : List S79 := l.flatMap fun x => Jn x m f t
def Jq (m f t : Int) : Prop := (0 ≤ m ∧ m ≤ 1000) ∧ ((0 ≤ f ∧ f ≤ 100000) ∧ 0 ≤ t ∧ t ≤ 100000) ∧ f ≤ t
instance (m f t : Int) : Decidable (Jq m f t) := by unfold Jq; infer_instance
def Yg (l : List S144) (m f t : Int) : Int := if ¬ Jq m f t then 2 else if ∃ x ∈ l, YX x m f t then 5 else if (XD (X7 l m f t)).length > 1000 then 5 else 0
theorem XbG {m a : Int} : ∀ {n : Nat} {y : S79}, y ∈ Ym m a n → y.f0 = 3 ∧ y.f1 = m ∧ a ≤ y.f2 ∧ y.f2 < a + n
 | 0, y, h => by simp [Ym] at h
 | n + 1, y, h => by
  rw [Ym] at h
  rcases List.mem_append.1 h with q | q
  ·have := XbG q; omega
  ·rw [List.mem_singleton] at q; subst q; exact ⟨rfl, rfl, by show a ≤ a + (n : Int); omega, by show a + (n : Int) < a + ((n + 1 : Nat) : Int); omega⟩
theorem wfI {x : Int} (h0 : -9223372036854775808 ≤ x) (h1 : x ≤ 9223372036854775807) : (Lit.int .i64 x).wf = true := by
 simp [Lit.wf, IntKind.min, IntKind.max, IntKind.signed, IntKind.bits]; omega
theorem XfI {a b : Int} : a ≤ mx a b ∧ b ≤ mx a b ∧ (mx a b = a ∨ mx a b = b) := by unfold mx; split <;> omega
theorem XfJ {a b : Int} : mn a b ≤ a ∧ mn a b ≤ b ∧ (mn a b = a ∨ mn a b = b) := by unfold mn; split <;> omega
theorem XeQ {x : S144} {m f t : Int} (h : Yq x) (hl : Jq m f t) : 0 ≤ (Yc x m f t).1 ∧ (Yc x m f t).1 ≤ 100000 ∧ 0 ≤ (Yc x m f t).2 ∧ (Yc x m f t).2 ≤ 100000 := by
 obtain ⟨h0, h3, h4, h1, h12, h2⟩ := h
 obtain ⟨_, ⟨hf, ht⟩, hft⟩ := hl
 unfold Yc
 split
 ·have a1 := @XfI x.f1 f
  have a2 := @XfJ x.f2 t
  show 0 ≤ mx x.f1 f ∧ mx x.f1 f ≤ 100000 ∧ 0 ≤ mn x.f2 t ∧ mn x.f2 t ≤ 100000
  omega
 ·show (0 : Int) ≤ 1 ∧ (1 : Int) ≤ 100000 ∧ (0 : Int) ≤ 0 ∧ (0 : Int) ≤ 100000
  omega
theorem XcH {a b c : Int} (ha : 0 ≤ a ∧ a ≤ 100000) (hb : 0 ≤ b ∧ b ≤ 100000) (hc : 0 ≤ c ∧ c ≤ 100000) : okC ⟨a, b, c⟩ :=
 ⟨wfI (by show _ ≤ a; omega) (by show a ≤ _; omega), wfI (by show _ ≤ b; omega) (by show b ≤ _; omega), wfI (by show _ ≤ c; omega) (by show c ≤ _; omega)⟩
theorem Xal {l : List S144} {m f t : Int} (hl : ∀ x ∈ l, Yq x) (g : Jq m f t) : ∀ y ∈ X7 l m f t, okC y := by
 intro y hy
 unfold X7 at hy
 obtain ⟨x, hx, hk⟩ := List.mem_flatMap.1 hy
 have hb := XeQ (hl x hx) g
 obtain ⟨h0, h3, h4, _⟩ := hl x hx
 unfold Jn at hk
 split at hk
 ·simp at hk
 ·rcases List.mem_append.1 hk with q | q
  ·rcases List.mem_cons.1 q with rfl | q
   ·exact XcH (by omega) (by omega) (by omega)
   ·rw [List.mem_singleton] at q; subst q
    exact XcH (by omega) (by omega) (by omega)
  ·have q2 := XbG q
   exact ⟨wfI (by omega) (by omega), wfI (by omega) (by omega), wfI (by omega) (by omega)⟩
theorem Jd (m : Int) : XM.f [m] = some (decide (0 ≤ m ∧ m ≤ 1000)) := by unfold XM.f; rw [J6]; rfl
theorem JS (f t : Int) : X4.f f t = some (decide (((0 ≤ f ∧ f ≤ 100000) ∧ 0 ≤ t ∧ t ≤ 100000) ∧ f ≤ t)) := by
 unfold X4.f
 rw [XcA]
 simp only [Option.bind_some, decide_eq_true_eq]
 by_cases h : (0 ≤ f ∧ f ≤ 100000) ∧ 0 ≤ t ∧ t ≤ 100000
 ·rw [if_pos h]; by_cases h2 : f ≤ t <;> simp [h, h2]
 ·rw [if_neg h]; simp [h]
theorem Xcf (x : S144) (m f t : Int) : Yj.f x.f0 x.f1 x.f2 x.f3 x.f4 m f t = some ((Yc x m f t).1, (Yc x m f t).2) := by
 unfold Yj.f Yc; split <;> rfl
set_option maxHeartbeats 40000000 in
set_option maxRecDepth 100000 in
theorem shop_causes.calls (A0 : Option Addr) (c0 : Nat) (l : List S144) (m f t : Int) (w : World) (hC : Kd.C k144 w A0 l.length l) (hc0 : l.length ≤ c0) (hlen : l.length ≤ 100) (hl : ∀ x ∈ l, Yq x) :
  Calls Try.prog 69 #[.slice A0 l.length c0, .agg #[.int .i64 m, .int .i64 f, .int .i64 t]] w fun e w' => ∃ v, e = .returned (.tuple #[v, .int .i64 (Yg l m f t)]) ∧ Below w.heap.size w w' ∧
   (Yg l m f t ≠ 0 → v = .map none) ∧ (Yg l m f t = 0 → ∃ B n, v = .map (some B) ∧ w.heap.size ≤ B ∧ w'.ownsMap Try.prog 79 (plainElem Try.prog 4) B n (setC (X7 l m f t))) := by
 have hmm := @run_makeMap Try.prog
 by_cases g1 : 0 ≤ m ∧ m ≤ 1000
 rotate_left
 ·have g1b : decide (0 ≤ m ∧ m ≤ 1000) = false := decide_eq_false g1
  have e0 : Yg l m f t = 2 := by unfold Yg; rw [if_pos (fun q => g1 q.1)]
  rw [e0]
  replace g1 := Xa.mk g1
  go_enter Try.func69, Try.ntmps69
  go_wp2_with (first | ((with_reducible refine Xz (N := 3) rfl ?_); refine XH ?hg (N := 3) ?hd (cs := #[.int .i64 m, .int .i64 f, .int .i64 t]) (t := 58) ?hr ?_; (case hd => rfl); (case hg => rfl); (case hr => first | (go_simp; done) | (go_simp; rfl)); intro b3 hg3 w2 hL hb3; have hge3 : w.heap.size ≤ b3 := Nat.le_of_eq hg3.symm; have hB := Xi (Below.refl w.heap.size w) hb3; obtain ⟨z0, z1, z2⟩ := bc3 hL; clear hg3 hb3) | ((with_reducible refine Xz (N := 14) rfl ?_); refine Kd.R_lit (Kd.int .i64) _ 3 ?hg (N := 14) ?hd (xs := ([m] : List Int)) (inner := [.int .i64 m]) (ok := fun _ => True) (okp := fun _ => True) ?hr ?hp (fun _ hk => hk) trivial (Below.refl _ _) (Nat.le_refl _) (by simp) ?_; (case hd => rfl); (case hg => rfl); (case hr => first | (go_simp; done) | (go_simp; rfl)); (case hp => exact (Reps.one (show Kd.M (Kd.int .i64) _ _ _ m [.int .i64 m] from rfl) (Reps.none _ _))); intro v14 w3 ho14 hb14 hg_ hnew_; clear hg_ hnew_; obtain ⟨A14, c14, rfl⟩ := Kd.R_slice ho14; replace hL := Xu hL hb14; have hB := Xi hB hb14; clear z0 z1 z2; obtain ⟨z0, z1, z2⟩ := bc3 hL; clear hb14) | (go_at_call 90; refine (XM.calls A14 c14 [m] _ _ (Kd.R_reads' ho14).2.2 (Kd.R_reads' ho14).2.1 (Jd m)).mono ?_; rintro e w4 ⟨rfl, hb⟩; replace hL := Xu hL hb; have hB := Xi hB hb; clear z0 z1 z2; obtain ⟨z0, z1, z2⟩ := bc3 hL; clear hb))
  go_ret2
  exact ⟨_, rfl, hB, fun _ => rfl, fun q => absurd q (by decide)⟩
 have g1b : decide (0 ≤ m ∧ m ≤ 1000) = true := decide_eq_true g1
 by_cases g2 : ((0 ≤ f ∧ f ≤ 100000) ∧ 0 ≤ t ∧ t ≤ 100000) ∧ f ≤ t
 rotate_left
 ·have g2b : decide (((0 ≤ f ∧ f ≤ 100000) ∧ 0 ≤ t ∧ t ≤ 100000) ∧ f ≤ t) = false := decide_eq_false g2
  have e0 : Yg l m f t = 2 := by unfold Yg; rw [if_pos (fun q => g2 ⟨q.2.1, q.2.2⟩)]
  rw [e0]
  replace g1 := Xa.mk g1
  replace g2 := Xa.mk g2
  go_enter Try.func69, Try.ntmps69
  go_wp2_with (first | ((with_reducible refine Xz (N := 3) rfl ?_); refine XH ?hg (N := 3) ?hd (cs := #[.int .i64 m, .int .i64 f, .int .i64 t]) (t := 58) ?hr ?_; (case hd => rfl); (case hg => rfl); (case hr => first | (go_simp; done) | (go_simp; rfl)); intro b3 hg3 w2 hL hb3; have hge3 : w.heap.size ≤ b3 := Nat.le_of_eq hg3.symm; have hB := Xi (Below.refl w.heap.size w) hb3; obtain ⟨z0, z1, z2⟩ := bc3 hL; clear hg3 hb3) | ((with_reducible refine Xz (N := 14) rfl ?_); refine Kd.R_lit (Kd.int .i64) _ 3 ?hg (N := 14) ?hd (xs := ([m] : List Int)) (inner := [.int .i64 m]) (ok := fun _ => True) (okp := fun _ => True) ?hr ?hp (fun _ hk => hk) trivial (Below.refl _ _) (Nat.le_refl _) (by simp) ?_; (case hd => rfl); (case hg => rfl); (case hr => first | (go_simp; done) | (go_simp; rfl)); (case hp => exact (Reps.one (show Kd.M (Kd.int .i64) _ _ _ m [.int .i64 m] from rfl) (Reps.none _ _))); intro v14 w3 ho14 hb14 hg_ hnew_; clear hg_ hnew_; obtain ⟨A14, c14, rfl⟩ := Kd.R_slice ho14; replace hL := Xu hL hb14; have hB := Xi hB hb14; clear z0 z1 z2; obtain ⟨z0, z1, z2⟩ := bc3 hL; clear hb14) | (go_at_call 90; refine (XM.calls A14 c14 [m] _ _ (Kd.R_reads' ho14).2.2 (Kd.R_reads' ho14).2.1 (Jd m)).mono ?_; rintro e w4 ⟨rfl, hb⟩; replace hL := Xu hL hb; have hB := Xi hB hb; clear z0 z1 z2; obtain ⟨z0, z1, z2⟩ := bc3 hL; clear hb) | (go_at_call 91; refine (X4.calls f t _ _ (JS f t)).mono ?_; rintro e w5 ⟨rfl, hb⟩; replace hL := Xu hL hb; have hB := Xi hB hb; clear z0 z1 z2; obtain ⟨z0, z1, z2⟩ := bc3 hL; clear hb))
  go_ret2
  exact ⟨_, rfl, hB, fun _ => rfl, fun q => absurd q (by decide)⟩
 have g2b : decide (((0 ≤ f ∧ f ≤ 100000) ∧ 0 ≤ t ∧ t ≤ 100000) ∧ f ≤ t) = true := decide_eq_true g2
 have g3 : Jq m f t := ⟨g1, g2.1, g2.2⟩
 replace g1 := Xa.mk g1
 replace g2 := Xa.mk g2
 replace g3 := Xa.mk g3
 go_enter Try.func69, Try.ntmps69
 go_wp2_with (first | ((with_reducible refine Xz (N := 3) rfl ?_); refine XH ?hg (N := 3) ?hd (cs := #[.int .i64 m, .int .i64 f, .int .i64 t]) (t := 58) ?hr ?_; (case hd => rfl); (case hg => rfl); (case hr => first | (go_simp; done) | (go_simp; rfl)); intro b3 hg3 w2 hL hb3; have hge3 : w.heap.size ≤ b3 := Nat.le_of_eq hg3.symm; have hB := Xi (Below.refl w.heap.size w) hb3; obtain ⟨z0, z1, z2⟩ := bc3 hL; clear hg3 hb3) | ((with_reducible refine Xz (N := 14) rfl ?_); refine Kd.R_lit (Kd.int .i64) _ 3 ?hg (N := 14) ?hd (xs := ([m] : List Int)) (inner := [.int .i64 m]) (ok := fun _ => True) (okp := fun _ => True) ?hr ?hp (fun _ hk => hk) trivial (Below.refl _ _) (Nat.le_refl _) (by simp) ?_; (case hd => rfl); (case hg => rfl); (case hr => first | (go_simp; done) | (go_simp; rfl)); (case hp => exact (Reps.one (show Kd.M (Kd.int .i64) _ _ _ m [.int .i64 m] from rfl) (Reps.none _ _))); intro v14 w3 ho14 hb14 hg_ hnew_; clear hg_ hnew_; obtain ⟨A14, c14, rfl⟩ := Kd.R_slice ho14; replace hL := Xu hL hb14; have hB := Xi hB hb14; clear z0 z1 z2; obtain ⟨z0, z1, z2⟩ := bc3 hL; clear hb14) | (go_at_call 90; refine (XM.calls A14 c14 [m] _ _ (Kd.R_reads' ho14).2.2 (Kd.R_reads' ho14).2.1 (Jd m)).mono ?_; rintro e w4 ⟨rfl, hb⟩; replace hL := Xu hL hb; have hB := Xi hB hb; clear z0 z1 z2; obtain ⟨z0, z1, z2⟩ := bc3 hL; clear hb) | (go_at_call 91; refine (X4.calls f t _ _ (JS f t)).mono ?_; rintro e w5 ⟨rfl, hb⟩; replace hL := Xu hL hb; have hB := Xi hB hb; clear z0 z1 z2; obtain ⟨z0, z1, z2⟩ := bc3 hL; clear hb))
 have hown0 : (w5.alloc (.map #[] 0)).ownsMap Try.prog 79 (plainElem (H := Unit) Try.prog 4) w5.heap.size 0 (setC (X7 (l.take 0) m f t)) := by rw [List.take_zero, show X7 [] m f t = [] from rfl, Xeu]; exact World.ownsMap_made _ _ _ _
 have hneB : b3 ≠ w5.heap.size := Nat.ne_of_lt (YV hL)
 have hBge : w.heap.size ≤ w5.heap.size := Xg hB
 replace hL := Yi hL (.map #[] 0)
 replace hB := Xs hB (.map #[] 0)
 generalize w5.alloc (.map #[] 0) = w6 at hown0 hL hB ⊢
 generalize w5.heap.size = B at hown0 hneB hBge ⊢
 clear z0 z1 z2 ho14
 go_loopw [28] (fun v28 wr => ∃ (i n : Nat), i ≤ l.length ∧ v28 = .int .i64 i ∧ n ≤ 1010 * i ∧ (∀ x ∈ l.take i, ¬ YX x m f t) ∧ wr.ownsMap Try.prog 79 (plainElem (H := Unit) Try.prog 4) B n (setC (X7 (l.take i) m f t)) ∧
   wr.heap[b3]? = some (.cells #[.int .i64 m, .int .i64 f, .int .i64 t] 58 (0, 0)) ∧ Below w.heap.size w wr)
  (fun v28 _ => l.length - (intOf v28).toNat)
 case atStart => exact ⟨0, 0, Nat.zero_le _, rfl, Nat.zero_le _, (fun x hx => by simp at hx), hown0, hL, hB⟩
 case round =>
  clear hown0 hL hB
  obtain ⟨i, n, hi, rfl, hn, hno, hown, hL, hB⟩ := hrel
  by_cases hlt : i < l.length
  rotate_left
  ·have p2n : decide (i < l.length) = false := decide_eq_false hlt
   have hil : i = l.length := by omega
   rw [hil, List.take_length] at hno hown
   clear hil hn
   replace hlt := Xa.mk hlt
   have hok : ∀ x ∈ X7 l m f t, okC x := Xal hl g3.out
   have hs := XaJ hok
   by_cases c1 : (XD (X7 l m f t)).length > 1000
   ·have e0 : Yg l m f t = 5 := by unfold Yg; rw [if_neg (fun q => q g3.out), if_neg (fun ⟨x, hx, hq⟩ => hno x hx hq), if_pos c1]
    have c1b : decide (1000 < Maps.size (setC (X7 l m f t))) = true := decide_eq_true (by omega)
    have c1c : decide ((1000 : Int) < (Maps.size (setC (X7 l m f t)) : Int)) = true := decide_eq_true (by omega)
    replace c1 := Xa.mk c1
    replace hs := Xa.mk hs
    clear hno hok
    go_wp2_with (first | (at_len; refine wpList_len_own _ rfl _ 149 rfl 79 4 Try.underlying149 _ B n _ rfl hown ?_) | go_in)
    go_ret2
    rw [e0]
    exact ⟨_, rfl, hB, fun _ => rfl, fun q => absurd q (by decide)⟩
   ·have e0 : Yg l m f t = 0 := by unfold Yg; rw [if_neg (fun q => q g3.out), if_neg (fun ⟨x, hx, hq⟩ => hno x hx hq), if_neg c1]
    have c1b : decide (1000 < Maps.size (setC (X7 l m f t))) = false := decide_eq_false (by omega)
    have c1c : decide ((1000 : Int) < (Maps.size (setC (X7 l m f t)) : Int)) = false := decide_eq_false (by omega)
    replace c1 := Xa.mk c1
    replace hs := Xa.mk hs
    clear hno hok
    go_wp2_with (first | (at_len; refine wpList_len_own _ rfl _ 149 rfl 79 4 Try.underlying149 _ B n _ rfl hown ?_) | go_in)
    go_ret2
    rw [e0]
    exact ⟨_, rfl, hB, fun q => absurd rfl q, fun _ => ⟨B, n, rfl, hBge, hown⟩⟩
  have p2n : decide (i < l.length) = true := decide_eq_true hlt
  have p2t := eq_true hlt
  obtain ⟨ad, e1, hx0, hx1, hx2, hx3, hx4⟩ := Yb (Kd.C_below hC hB) (i : Int) (by omega) (by omega)
  cases e1
  rw [Int.toNat_natCast] at hx0 hx1 hx2 hx3 hx4
  have hxi : Xc l (i : Int) = l[i] := by simp [Xc, hlt]
  have hxr : Yq (Xc l (i : Int)) := by rw [hxi]; exact hl _ (List.getElem_mem hlt)
  have htk : l.take (i + 1) = l.take i ++ [Xc l (i : Int)] := by rw [List.take_succ_eq_append_getElem hlt, hxi]
  generalize Xc l (i : Int) = x at hx0 hx1 hx2 hx3 hx4 hxi hxr htk
  obtain ⟨x0, x1, x2, x3, x4⟩ := x
  dsimp only at hx0 hx1 hx2 hx3 hx4
  replace hlt := Xa.mk hlt
  replace hxr := Xa.mk hxr
  replace htk := Xa.mk htk
  replace hxi := Xa.mk hxi
  replace hno := Xa.mk hno
  go_upto_region 7 with (first | ((with_reducible refine Xz (N := 8) rfl ?_); refine XH ?hg (N := 8) ?hd (cs := #[.int .i64 0, .int .i64 0, .int .i64 0, .int .i64 0, .int .i64 0]) (t := 144) ?hr ?_; (case hd => rfl); (case hg => rfl); (case hr => first | (go_simp; done) | (go_simp; rfl)); intro g8 hg8 w7 hb8 hbb; have hge8 : wr.heap.size ≤ g8 := Nat.le_of_eq hg8.symm; clear hg8; obtain ⟨y0, y1, y2, y3, y4⟩ := bc5 hb8; obtain ⟨f0, f1, f2, f3, f4⟩ := bf5 hb8))
  have hx8 : (((((w7.setCell ⟨g8, 0, none⟩ (.int .i64 x0)).setCell ⟨g8, 1, none⟩ (.int .i64 x1)).setCell ⟨g8, 2, none⟩ (.int .i64 x2)).setCell ⟨g8, 3, none⟩ (.int .i64 x3)).setCell ⟨g8, 4, none⟩ (.int .i64 x4)).heap[g8]? = some (.cells #[.int .i64 x0, .int .i64 x1, .int .i64 x2, .int .i64 x3, .int .i64 x4] 144 (0, 0)) := bto (bput (bput (bput (bput (bput hb8 0 _) 1 _) 2 _) 3 _) 4 _) rfl
  have hbs : Below wr.heap.size wr (((((w7.setCell ⟨g8, 0, none⟩ (.int .i64 x0)).setCell ⟨g8, 1, none⟩ (.int .i64 x1)).setCell ⟨g8, 2, none⟩ (.int .i64 x2)).setCell ⟨g8, 3, none⟩ (.int .i64 x3)).setCell ⟨g8, 4, none⟩ (.int .i64 x4)) := XC (XC (XC (XC (XC hbb hge8) hge8) hge8) hge8) hge8
  have hne8 : g8 ≠ B := Nat.ne_of_gt (Nat.lt_of_lt_of_le hown.lt hge8)
  clear y0 y1 y2 y3 y4 f0 f1 f2 f3 f4 hb8 hbb
  generalize ((((w7.setCell ⟨g8, 0, none⟩ (.int .i64 x0)).setCell ⟨g8, 1, none⟩ (.int .i64 x1)).setCell ⟨g8, 2, none⟩ (.int .i64 x2)).setCell ⟨g8, 3, none⟩ (.int .i64 x3)).setCell ⟨g8, 4, none⟩ (.int .i64 x4) = w8 at hx8 hbs ⊢
  replace hown := hown.kept (XG hbs none) (by simp)
  replace hL := Xu hL hbs
  replace hB := Xi hB hbs
  clear hbs hx0 hx1 hx2 hx3 hx4
  have hpb := XeQ hxr.out g3.out
  have hrk : Jn ⟨x0, x1, x2, x3, x4⟩ m f t = if (Yc ⟨x0, x1, x2, x3, x4⟩ m f t).1 > (Yc ⟨x0, x1, x2, x3, x4⟩ m f t).2 then [] else [⟨1, 0, x3⟩, ⟨2, 0, x4⟩] ++ Ym x0 (Yc ⟨x0, x1, x2, x3, x4⟩ m f t).1 ((Yc ⟨x0, x1, x2, x3, x4⟩ m f t).2 + 1 - (Yc ⟨x0, x1, x2, x3, x4⟩ m f t).1).toNat := rfl
  have hlr : YX ⟨x0, x1, x2, x3, x4⟩ m f t ↔ (Yc ⟨x0, x1, x2, x3, x4⟩ m f t).1 ≤ (Yc ⟨x0, x1, x2, x3, x4⟩ m f t).2 ∧ (Yc ⟨x0, x1, x2, x3, x4⟩ m f t).2 - (Yc ⟨x0, x1, x2, x3, x4⟩ m f t).1 ≥ 1000 := Iff.rfl
  have hrh := Xcf ⟨x0, x1, x2, x3, x4⟩ m f t
  generalize (Yc ⟨x0, x1, x2, x3, x4⟩ m f t).1 = p at hpb hrk hlr hrh
  generalize (Yc ⟨x0, x1, x2, x3, x4⟩ m f t).2 = q at hpb hrk hlr hrh
  obtain ⟨z0, z1, z2⟩ := bc3 hL
  obtain ⟨y0, y1, y2, y3, y4⟩ := bc5 hx8
  have hall : X7 (l.take (i + 1)) m f t = X7 (l.take i) m f t ++ Jn ⟨x0, x1, x2, x3, x4⟩ m f t := by rw [htk.out]; simp [X7]
  replace hall := Xa.mk hall
  replace hrk := Xa.mk hrk
  replace hlr := Xa.mk hlr
  replace hrh := Xa.mk hrh
  by_cases c1 : p > q
  ·have c1b : decide (q < p) = true := decide_eq_true c1
   have e1 : X7 (l.take (i + 1)) m f t = X7 (l.take i) m f t := by rw [hall.out, hrk.out, if_pos c1, List.append_nil]
   have hno' : ∀ x ∈ l.take (i + 1), ¬ YX x m f t := by
    intro x hx
    rw [htk.out] at hx
    rcases List.mem_append.1 hx with h | h
    ·exact hno.out x h
    ·rw [List.mem_singleton] at h; subst h; intro hq; have := hlr.out.1 hq; omega
   replace c1 := Xa.mk c1
   replace e1 := Xa.mk e1
   replace hno' := Xa.mk hno'
   go_wp2_with (go_at_call 68; refine (Yj.calls x0 x1 x2 x3 x4 m f t p q _ hrh.out).mono ?_; rintro e w9 ⟨rfl, hb⟩; replace hown := hown.kept (XG hb none) (by simp); replace hL := Xu hL hb; replace hx8 := Xu hx8 hb; replace hB := Xi hB hb; clear hb z0 z1 z2 y0 y1 y2 y3 y4; obtain ⟨y0, y1, y2, y3, y4⟩ := bc5 hx8)
   go_roundw
   case rel => exact ⟨i + 1, n, by have := of_eq_true p2t; omega, by go_num, by omega, hno'.out, by rw [e1.out]; exact hown, hL, hB⟩
   case measure => have := of_eq_true p2t; simp [intOf]; omega
  have c1b : decide (q < p) = false := decide_eq_false c1
  have hwq : wrap64 (q - p) = q - p := by unfold wrap64; omega
  by_cases c2 : q - p ≥ 1000
  ·have c2b : decide (1000 ≤ q - p) = true := decide_eq_true c2
   have e0 : Yg l m f t = 5 := by
    unfold Yg
    rw [if_neg (fun q => q g3.out), if_pos ⟨⟨x0, x1, x2, x3, x4⟩, by rw [hxi.out]; exact List.getElem_mem _, hlr.out.2 ⟨by omega, c2⟩⟩]
   replace c1 := Xa.mk c1
   replace c2 := Xa.mk c2
   replace e0 := Xa.mk e0
   go_wp2_with (go_at_call 68; refine (Yj.calls x0 x1 x2 x3 x4 m f t p q _ hrh.out).mono ?_; rintro e w9 ⟨rfl, hb⟩; replace hown := hown.kept (XG hb none) (by simp); replace hL := Xu hL hb; replace hx8 := Xu hx8 hb; replace hB := Xi hB hb; clear hb z0 z1 z2 y0 y1 y2 y3 y4; obtain ⟨y0, y1, y2, y3, y4⟩ := bc5 hx8)
   go_ret2
   rw [e0.out]
   exact ⟨_, rfl, hB, fun _ => rfl, fun q => absurd q (by decide)⟩
  have c2b : decide (1000 ≤ q - p) = false := decide_eq_false c2
  have hrk2 : Jn ⟨x0, x1, x2, x3, x4⟩ m f t = [⟨1, 0, x3⟩, ⟨2, 0, x4⟩] ++ Ym x0 p (q + 1 - p).toNat := by rw [hrk.out, if_neg c1]
  have hno' : ∀ x ∈ l.take (i + 1), ¬ YX x m f t := by
   intro x hx
   rw [htk.out] at hx
   rcases List.mem_append.1 hx with h | h
   ·exact hno.out x h
   ·rw [List.mem_singleton] at h; subst h; intro hq; have := hlr.out.1 hq; omega
  have hk1 : keyOf Try.prog 79 (.agg #[.int .i64 1, .int .i64 0, .int .i64 x3]) = some (litC ⟨1, 0, x3⟩) := J2 (XcH (by omega) (by omega) (by have h : 0 ≤ x3 ∧ x3 ≤ 1000 := hxr.out.2.1; omega))
  have hk2 : keyOf Try.prog 79 (.agg #[.int .i64 2, .int .i64 0, .int .i64 x4]) = some (litC ⟨2, 0, x4⟩) := J2 (XcH (by omega) (by omega) (by have h : 0 ≤ x4 ∧ x4 ≤ 1000 := hxr.out.2.2.1; omega))
  have hn2 : n + 2 < maxLen := by unfold maxLen; have := of_eq_true p2t; omega
  have hs2 : setC (X7 (l.take i) m f t ++ [⟨1, 0, x3⟩, ⟨2, 0, x4⟩]) = ((setC (X7 (l.take i) m f t)).put (litC ⟨1, 0, x3⟩) (.lit (.bool true))).put (litC ⟨2, 0, x4⟩) (.lit (.bool true)) := by
   rw [show X7 (l.take i) m f t ++ [⟨1, 0, x3⟩, ⟨2, 0, x4⟩] = (X7 (l.take i) m f t ++ [⟨1, 0, x3⟩]) ++ [⟨2, 0, x4⟩] by simp, XaK, XaK]
  replace c1 := Xa.mk c1
  replace c2 := Xa.mk c2
  replace hrk2 := Xa.mk hrk2
  replace hno' := Xa.mk hno'
  replace hs2 := Xa.mk hs2
  replace hk1 := Xa.mk hk1
  replace hk2 := Xa.mk hk2
  go_wp2_with (first | (go_at_call 68; refine (Yj.calls x0 x1 x2 x3 x4 m f t p q _ hrh.out).mono ?_; rintro e w9 ⟨rfl, hb⟩; replace hown := hown.kept (XG hb none) (by simp); replace hL := Xu hL hb; replace hx8 := Xu hx8 hb; replace hB := Xi hB hb; clear hb z0 z1 z2 y0 y1 y2 y3 y4; obtain ⟨y0, y1, y2, y3, y4⟩ := bc5 hx8) | (at_mapUpdate; refine wpList_mapUpdate_own _ rfl _ _ _ 149 rfl 79 4 JQ Try.underlying149 (plainElem (H := Unit) Try.prog 4) B n _ rfl hown (by have := hn2; omega) _ _ _ rfl rfl hk1.out _ [] (plainElem_bool Try.underlying4 true) ?_; intro w10 hown1 hgrow1; replace hL := Yx hL hgrow1 (by simpa using hneB); replace hx8 := Yx hx8 hgrow1 (by simpa using hne8); clear y0 y1 y2 y3 y4; obtain ⟨y0, y1, y2, y3, y4⟩ := bc5 hx8) | (at_mapUpdate; refine wpList_mapUpdate_own _ rfl _ _ _ 149 rfl 79 4 JQ Try.underlying149 (plainElem (H := Unit) Try.prog 4) B (n + 1) _ rfl hown1 (by have := hn2; omega) _ _ _ rfl rfl hk2.out _ [] (plainElem_bool Try.underlying4 true) ?_; intro w11 hown2 hgrow2; replace hL := Yx hL hgrow2 (by simpa using hneB); replace hx8 := Yx hx8 hgrow2 (by simpa using hne8); clear y0 y1 y2 y3 y4; obtain ⟨y0, y1, y2, y3, y4⟩ := bc5 hx8))
  have hB2 : Below w.heap.size w w11 := (hB.grown hgrow1 hB.size (fun j hj => by cases hj; exact hBge)).grown hgrow2 (hB.grown hgrow1 hB.size (fun j hj => by cases hj; exact hBge)).size (fun j hj => by cases hj; exact hBge)
  clear hB hgrow1 hgrow2 hown hown1 y0 y1 y2 y3 y4
  have hx0b : 0 ≤ x0 ∧ x0 ≤ 1000 := hxr.out.1
  replace hk1 := trivial
  replace hk2 := trivial
  go_loopw [11] (fun v11 wv => ∃ (j nj : Nat), v11 = .int .i64 (p + (j : Int)) ∧ (j : Int) ≤ q + 1 - p ∧ nj ≤ n + 2 + j ∧ wv.ownsMap Try.prog 79 (plainElem (H := Unit) Try.prog 4) B nj (setC (X7 (l.take i) m f t ++ [⟨1, 0, x3⟩, ⟨2, 0, x4⟩] ++ Ym x0 p j)) ∧
    wv.heap[b3]? = some (.cells #[.int .i64 m, .int .i64 f, .int .i64 t] 58 (0, 0)) ∧ wv.heap[g8]? = some (.cells #[.int .i64 x0, .int .i64 x1, .int .i64 x2, .int .i64 x3, .int .i64 x4] 144 (0, 0)) ∧ Below w.heap.size w wv)
   (fun v11 _ => (q + 1 - intOf v11).toNat)
  case atStart => exact ⟨0, n + 1 + 1, by simp, by have := c1.out; omega, by omega, by rw [Ym, List.append_nil, hs2.out]; exact hown2, hL, hx8, hB2⟩
  case round =>
   clear hown2 hL hx8 hB2
   obtain ⟨j, nj, rfl, hj, hnj, hown, hL, hx8, hB⟩ := hrel
   by_cases hjq : p + (j : Int) ≤ q
   ·have hjb : decide (p + (j : Int) ≤ q) = true := decide_eq_true hjq
    have hk3 : keyOf Try.prog 79 (.agg #[.int .i64 3, .int .i64 x0, .int .i64 (p + (j : Int))]) = some (litC ⟨3, x0, p + (j : Int)⟩) := J2 (XcH (by omega) (by omega) (by omega))
    have hwj : wrap64 (p + (j : Int) + 1) = p + (j : Int) + 1 := by unfold wrap64; omega
    have hn3 : nj < maxLen := by have := hn2; unfold maxLen at *; omega
    obtain ⟨y0, y1, y2, y3, y4⟩ := bc5 hx8
    replace hk3 := Xa.mk hk3
    replace hwj := Xa.mk hwj
    go_wp2_with (at_mapUpdate; refine wpList_mapUpdate_own _ rfl _ _ _ 149 rfl 79 4 JQ Try.underlying149 (plainElem (H := Unit) Try.prog 4) B nj _ rfl hown hn3 _ _ _ rfl rfl hk3.out _ [] (plainElem_bool Try.underlying4 true) ?_; intro w12 hown3 hgrow3)
    go_roundw
    case rel => exact ⟨j + 1, nj + 1, by first | (rw [hwj.out]; congr 1; omega) | (congr 1; omega), by omega, by omega, by rw [Ym, ← List.append_assoc, XaK]; exact hown3, Yx hL hgrow3 (by simpa using hneB), Yx hx8 hgrow3 (by simpa using hne8), hB.grown hgrow3 hB.size (fun j hj => by cases hj; exact hBge)⟩
    case measure => simp [intOf]; omega
   ·have hjb : decide (p + (j : Int) ≤ q) = false := decide_eq_false hjq
    have hjj : j = (q + 1 - p).toNat := by omega
    have e2 : X7 (l.take (i + 1)) m f t = X7 (l.take i) m f t ++ [⟨1, 0, x3⟩, ⟨2, 0, x4⟩] ++ Ym x0 p j := by rw [hall.out, hrk2.out, hjj, List.append_assoc]
    have hnn : nj ≤ 1010 * (i + 1) := by have := c2.out; omega
    replace hjq := Xa.mk hjq
    replace e2 := Xa.mk e2
    replace hjj := Xa.mk hjj
    go_wp2
    go_roundw
    case rel => exact ⟨i + 1, nj, by have := of_eq_true p2t; omega, by go_num, hnn, hno'.out, by rw [e2.out]; exact hown, hL, hB⟩
    case measure => have := of_eq_true p2t; simp [intOf]; omega
end Go.Proofs.Ytiaiecfnpompcaa.T
namespace Go.Proofs.Ytiaiecfnpompcaa.T
open Go.RowKit Go.Proofs.YtiaiecfnpompcaaW.PrintWords Go.Proofs.YtiaiecfnpompcaaW.PrintLast Go.Proofs.YtiaiecfnpompcaaW.PrintMore
attribute [local go_sem] XX XW X6 X5 XQ XP X0 XZ
set_option linter.unusedVariables false
set_option linter.unusedSimpArgs false
attribute [local go_sem] XO

def Yp.f (a0_0 : Int) (a0_1 : Int) (a0_2 : Int) (a0_3 : Int) (a0_4 : Int) : Option (Bool) := (XM.f (([a0_0, a0_3, a0_4] : List Int))).bind fun t160 => (if t160 = true then ((X4.f a0_1 a0_2).bind fun t161 => (some t161)) else (some false))
set_option maxHeartbeats 8000000 in
set_option maxRecDepth 100000 in
theorem Yp.calls (a0_0 : Int) (a0_1 : Int) (a0_2 : Int) (a0_3 : Int) (a0_4 : Int) (r : Bool) (w : World) (h : Yp.f a0_0 a0_1 a0_2 a0_3 a0_4 = some r) :
  Calls Try.prog 67 #[.agg #[.int .i64 a0_0, .int .i64 a0_1, .int .i64 a0_2, .int .i64 a0_3, .int .i64 a0_4]] w fun e w' => e = .returned (.bool r) ∧ Below w.heap.size w w' := by
 have hu146 := Try.underlying146
 have HB := Xa.mk (Below.refl w.heap.size w)
 have H : ((XM.f (([a0_0, a0_3, a0_4] : List Int))).bind fun t160 => (if t160 = true then ((X4.f a0_1 a0_2).bind fun t161 => (some t161)) else (some false))) = some r := h
 clear h
 obtain ⟨y157, hy157⟩ : ∃ y_ : List Int, y_ = (([a0_0, a0_3, a0_4] : List Int)) := ⟨_, rfl⟩
 replace H : ((XM.f y157).bind fun t160 => (if t160 = true then ((X4.f a0_1 a0_2).bind fun t161 => (some t161)) else (some false))) = some r := by first | (rw [hy157]; with_reducible exact H) | (have H2_ := (Option.bind_some _ _).symm.trans H; rw [hy157]; with_reducible exact H2_) | (have H2_ := (Option.bind_some _ _).symm.trans H; with_reducible exact H2_) | with_reducible exact H | (rw [hy157]; exact H) | exact H
 have Ny157 := Xa.mk hy157
 clear hy157
 replace H := Option.bind_eq_some_iff.mp H
 obtain ⟨t160, A20, H⟩ := H; (try dsimp only at H)
 have A2 := Xa.mk A20
 clear A20
 by_cases c3 : t160 = true
 ·subst c3
  have H1 : ((X4.f a0_1 a0_2).bind fun t161 => (some t161)) = some r := by rw [if_pos rfl] at H; exact H
  clear H
  have H := H1
  clear H1
  replace H := Option.bind_eq_some_iff.mp H
  obtain ⟨t161, A40, H⟩ := H; (try dsimp only at H)
  have A4 := Xa.mk A40
  clear A40
  obtain rfl := Option.some.inj H
  go_enter Try.func67, Try.ntmps67
  go_wp2_with (first | ((with_reducible refine Xz (N := 1) rfl ?_); refine XH ?hg (N := 1) ?hd (cs := #[.int .i64 a0_0, .int .i64 a0_1, .int .i64 a0_2, .int .i64 a0_3, .int .i64 a0_4]) (t := 146) ?hr ?_; (case hd => rfl); (case hg => rfl); (case hr => first | (go_simp; done) | (go_simp; rfl)); intro gb156 hg w5 hbox hb; have BK156 := Xa.mk (hbox); have GW156 := Xa.mk ((by rw [hg]; exact (Xg HB.out) : w.heap.size ≤ gb156)); have GE156 := GW156; replace HB := Xa.mk (Xi HB.out hb); clear hb hbox hg; obtain ⟨hcz6_0, hcz6_1, hcz6_2, hcz6_3, hcz6_4⟩ := bc5 BK156.out; obtain ⟨hfz6_0, hfz6_1, hfz6_2, hfz6_3, hfz6_4⟩ := bf5 BK156.out) | ((with_reducible refine Xz (N := 12) rfl ?_); refine Kd.R_lit (Kd.int .i64) _ 3 ?hg (N := 12) ?hd (xs := ([a0_0, a0_3, a0_4] : List Int)) (inner := [.int .i64 a0_0, .int .i64 a0_3, .int .i64 a0_4]) (ok := fun _ => True) (okp := fun _ => True) ?hr ?hp (fun _ hk => hk) trivial (Below.refl _ _) (Nat.le_refl _) (by simp) ?_; (case hd => rfl); (case hg => rfl); (case hr => first | (go_simp; done) | (go_simp; rfl)); (case hp => exact (Reps.one (show Kd.M (Kd.int .i64) _ _ _ a0_0 [.int .i64 a0_0] from rfl) (Reps.one (show Kd.M (Kd.int .i64) _ _ _ a0_3 [.int .i64 a0_3] from rfl) (Reps.one (show Kd.M (Kd.int .i64) _ _ _ a0_4 [.int .i64 a0_4] from rfl) (Reps.none _ _))))); intro v158 w7 ho8 hb hg_ hnew_; clear hg_ hnew_; (first | rw [← Ny157.out] at ho8 | (simp only [Int.reduceToNat] at ho8; rw [← Ny157.out] at ho8)); have HO159 := Xa.mk (Kd.R_lower ho8 (Xg (hb_ HB))); replace BK156 := Xa.mk (Xu (g := gb156) (o := .cells #[.int .i64 a0_0, .int .i64 a0_1, .int .i64 a0_2, .int .i64 a0_3, .int .i64 a0_4] 146 (0, 0)) (bk_ BK156) hb); replace HB := sb_ HB hb; clear hb ho8; obtain ⟨Ao9, co9, eo9⟩ := Kd.R_slice HO159.out; subst eo9) | ((with_reducible refine Xp (f := 90) rfl ?_); refine XL (some 13) rfl rfl Try.func90 (by kernel_rfl) rfl #[.slice Ao9 y157.length co9] rfl (by (try simp only [List.map_toArray, List.map_cons, List.map_nil]); first | done | rfl | (simp only [List.length_drop, List.length_take]; rfl)) ?_; (with_reducible refine (XM.calls _ _ y157 true _ ?side1 ?side2 A2.out).mono ?_); (case side1 => exact cA_ (Kd.R_reads' HO159.out).2.2); (case side2 => exact (Kd.R_reads' HO159.out).2.1); rintro e w10 ⟨rfl, hb⟩; refine ⟨_, rfl, ?_⟩; replace HO159 := rb_ HO159 hb; replace BK156 := Xa.mk (Xu (g := gb156) (o := .cells #[.int .i64 a0_0, .int .i64 a0_1, .int .i64 a0_2, .int .i64 a0_3, .int .i64 a0_4] 146 (0, 0)) (bk_ BK156) hb); replace HB := sb_ HB hb; (try clear hb); (try clear hb2); (try clear hk); (try clear hi); obtain ⟨hcz11_0, hcz11_1, hcz11_2, hcz11_3, hcz11_4⟩ := bc5 BK156.out; obtain ⟨hfz11_0, hfz11_1, hfz11_2, hfz11_3, hfz11_4⟩ := bf5 BK156.out) | (go_at_call 91; (with_reducible refine (X4.calls a0_1 a0_2 t161 _ A4.out).mono ?_); rintro e w12 ⟨rfl, hb⟩; replace HO159 := rb_ HO159 hb; replace BK156 := Xa.mk (Xu (g := gb156) (o := .cells #[.int .i64 a0_0, .int .i64 a0_1, .int .i64 a0_2, .int .i64 a0_3, .int .i64 a0_4] 146 (0, 0)) (bk_ BK156) hb); replace HB := sb_ HB hb; (try clear hb); (try clear hb2); (try clear hk); (try clear hi)))
  go_ret
  exact ⟨by first | rfl | (simp [errW_none, errW_some] <;> rfl) | (simp [*, errW_none, errW_some] <;> rfl), by repeat (first | (with_reducible first | exact HB.out | apply Xs | apply Xo | apply Xl | refine XC ?_ (Xa.out (by assumption))) | exact HB.out)⟩
 ·replace c3 := Bool.eq_false_iff.mpr c3
  subst c3
  have H1 : (some false) = some r := by rw [if_neg (show ¬ (false = true) by decide)] at H; exact H
  clear H
  have H := H1
  clear H1
  obtain rfl := Option.some.inj H
  go_enter Try.func67, Try.ntmps67
  go_wp2_with (first | ((with_reducible refine Xz (N := 1) rfl ?_); refine XH ?hg (N := 1) ?hd (cs := #[.int .i64 a0_0, .int .i64 a0_1, .int .i64 a0_2, .int .i64 a0_3, .int .i64 a0_4]) (t := 146) ?hr ?_; (case hd => rfl); (case hg => rfl); (case hr => first | (go_simp; done) | (go_simp; rfl)); intro gb156 hg w13 hbox hb; have BK156 := Xa.mk (hbox); have GW156 := Xa.mk ((by rw [hg]; exact (Xg HB.out) : w.heap.size ≤ gb156)); have GE156 := GW156; replace HB := Xa.mk (Xi HB.out hb); clear hb hbox hg; obtain ⟨hcz14_0, hcz14_1, hcz14_2, hcz14_3, hcz14_4⟩ := bc5 BK156.out; obtain ⟨hfz14_0, hfz14_1, hfz14_2, hfz14_3, hfz14_4⟩ := bf5 BK156.out) | ((with_reducible refine Xz (N := 12) rfl ?_); refine Kd.R_lit (Kd.int .i64) _ 3 ?hg (N := 12) ?hd (xs := ([a0_0, a0_3, a0_4] : List Int)) (inner := [.int .i64 a0_0, .int .i64 a0_3, .int .i64 a0_4]) (ok := fun _ => True) (okp := fun _ => True) ?hr ?hp (fun _ hk => hk) trivial (Below.refl _ _) (Nat.le_refl _) (by simp) ?_; (case hd => rfl); (case hg => rfl); (case hr => first | (go_simp; done) | (go_simp; rfl)); (case hp => exact (Reps.one (show Kd.M (Kd.int .i64) _ _ _ a0_0 [.int .i64 a0_0] from rfl) (Reps.one (show Kd.M (Kd.int .i64) _ _ _ a0_3 [.int .i64 a0_3] from rfl) (Reps.one (show Kd.M (Kd.int .i64) _ _ _ a0_4 [.int .i64 a0_4] from rfl) (Reps.none _ _))))); intro v158 w15 ho16 hb hg_ hnew_; clear hg_ hnew_; (first | rw [← Ny157.out] at ho16 | (simp only [Int.reduceToNat] at ho16; rw [← Ny157.out] at ho16)); have HO159 := Xa.mk (Kd.R_lower ho16 (Xg (hb_ HB))); replace BK156 := Xa.mk (Xu (g := gb156) (o := .cells #[.int .i64 a0_0, .int .i64 a0_1, .int .i64 a0_2, .int .i64 a0_3, .int .i64 a0_4] 146 (0, 0)) (bk_ BK156) hb); replace HB := sb_ HB hb; clear hb ho16; obtain ⟨Ao17, co17, eo17⟩ := Kd.R_slice HO159.out; subst eo17) | ((with_reducible refine Xp (f := 90) rfl ?_); refine XL (some 13) rfl rfl Try.func90 (by kernel_rfl) rfl #[.slice Ao17 y157.length co17] rfl (by (try simp only [List.map_toArray, List.map_cons, List.map_nil]); first | done | rfl | (simp only [List.length_drop, List.length_take]; rfl)) ?_; (with_reducible refine (XM.calls _ _ y157 false _ ?side1 ?side2 A2.out).mono ?_); (case side1 => exact cA_ (Kd.R_reads' HO159.out).2.2); (case side2 => exact (Kd.R_reads' HO159.out).2.1); rintro e w18 ⟨rfl, hb⟩; refine ⟨_, rfl, ?_⟩; replace HO159 := rb_ HO159 hb; replace BK156 := Xa.mk (Xu (g := gb156) (o := .cells #[.int .i64 a0_0, .int .i64 a0_1, .int .i64 a0_2, .int .i64 a0_3, .int .i64 a0_4] 146 (0, 0)) (bk_ BK156) hb); replace HB := sb_ HB hb; (try clear hb); (try clear hb2); (try clear hk); (try clear hi)))
  go_ret
  exact ⟨by first | rfl | (simp [errW_none, errW_some] <;> rfl) | (simp [*, errW_none, errW_some] <;> rfl), by repeat (first | (with_reducible first | exact HB.out | apply Xs | apply Xo | apply Xl | refine XC ?_ (Xa.out (by assumption))) | exact HB.out)⟩

end Go.Proofs.Ytiaiecfnpompcaa.T
namespace Go.Proofs.Ytiaiecfnpompcaa.T
open Go.RowKit Go.Proofs.YtiaiecfnpompcaaW.PrintWords Go.Proofs.YtiaiecfnpompcaaW.PrintLast Go.Proofs.YtiaiecfnpompcaaW.PrintMore
attribute [local go_sem] XX XW X6 X5 XQ XP X0 XZ
set_option linter.unusedVariables false
set_option linter.unusedSimpArgs false
attribute [local go_sem] XO

mutual
def XE.l0 : Nat → List (S144) → List (S144) → Int → Int → Option (Int)
 | 0, _, _, _, _ => none
 | k + 1, x0, x12, x13, x14 => if x14 < x13 then (if 0 ≤ x14 then (if x14 < (x12.length : Int) then ((Yp.f ((Xc x12 x14).f0) ((Xc x12 x14).f1) ((Xc x12 x14).f2) ((Xc x12 x14).f3) ((Xc x12 x14).f4)).bind fun t165 => (if t165 = true then (if x14 ≤ (x0.length : Int) then ((some (x0.take (x14 : Int).toNat : List (S144))).bind fun y166 => (XE.l1 k x0 x12 x13 x14 y166 (y166.length : Int) 0 ((Xc x12 x14).f0) ((Xc x12 x14).f1) ((Xc x12 x14).f2) ((Xc x12 x14).f3) ((Xc x12 x14).f4))) else (none)) else (some 2))) else (none)) else (none)) else (some 0)
def XE.l1 : Nat → List (S144) → List (S144) → Int → Int → List (S144) → Int → Int → Int → Int → Int → Int → Int → Option (Int)
 | 0, _, _, _, _, _, _, _, _, _, _, _, _ => none
 | k + 1, x0, x12, x13, x14, x25, x26, x27, x165000, x165001, x165002, x165003, x165004 => if x27 < x26 then (if 0 ≤ x27 then (if x27 < (x25.length : Int) then ((Yj.f ((Xc x25 x27).f0) ((Xc x25 x27).f1) ((Xc x25 x27).f2) ((Xc x25 x27).f3) ((Xc x25 x27).f4) x165000 x165001 x165002).bind fun bt172 => (if bt172.1 ≤ bt172.2 then (some 6) else (XE.l1 k x0 x12 x13 x14 x25 x26 (wrap64 (x27 + 1)) x165000 x165001 x165002 x165003 x165004))) else (none)) else (none)) else (XE.l0 k x0 x12 x13 (wrap64 (x14 + 1)))
end
def XE.f (k : Nat) (l0 : List (S144)) : Option (Int) := if (l0.length : Int) > 60 then (some 5) else (XE.l0 k l0 l0 (l0.length : Int) 0)
set_option maxHeartbeats 8000000 in
set_option maxRecDepth 100000 in
theorem XE.calls (k : Nat) (A0 : Option Addr) (c0 : Nat) (l0 : List (S144)) (r : Int) (w : World) (hr0 : Kd.C k144 w A0 l0.length l0) (hc0 : l0.length ≤ c0) (h : XE.f k l0 = some r) :
  Calls Try.prog 32 #[.slice A0 l0.length c0] w fun e w' => e = .returned (.int .i64 r) ∧ Below w.heap.size w w' := by
 have hu144 := Try.underlying144
 have hu146 := Try.underlying146
 have HR0 := Xa.mk hr0
 have HC0 := Xa.mk hc0
 clear hr0 hc0
 have HB := Xa.mk (Below.refl w.heap.size w)
 have H : (if (l0.length : Int) > 60 then (some 5) else (XE.l0 k l0 l0 (l0.length : Int) 0)) = some r := h
 clear h
 by_cases c2 : (l0.length : Int) > 60
 ·rw [if_pos c2] at H
  have c2b0 : decide (60 < (l0.length : Int)) = true := decide_eq_true c2
  have c2b1 : decide (60 < l0.length) = true := decide_eq_true (by omega)
  clear c2
  obtain rfl := Option.some.inj H
  go_enter Try.func32, Try.ntmps32
  go_wp2
  go_ret
  exact ⟨by first | rfl | (simp [errW_none, errW_some] <;> rfl) | (simp [*, errW_none, errW_some] <;> rfl), by repeat (first | (with_reducible first | exact HB.out | apply Xs | apply Xo | apply Xl) | exact HB.out)⟩
 ·rw [if_neg c2] at H
  have c2b0 : decide (60 < (l0.length : Int)) = false := decide_eq_false c2
  have c2b1 : decide (60 < l0.length) = false := decide_eq_false (by omega)
  clear c2
  have H' := Xa.mk H
  clear H
  go_enter Try.func32, Try.ntmps32
  go_wp2
  go_loopg [14] k (fun kq v14 w' => ∃ (x14_1 : Int), v14 = .int .i64 x14_1 ∧ Xa (XE.l0 kq l0 l0 (l0.length : Int) x14_1 = some r) ∧ Xa (kq ≤ k) ∧ Xa (Below w.heap.size w w'))
  case atStart => exact ⟨(0), fx_, H', ⟨Nat.le_refl _⟩, ⟨hb_ HB⟩⟩
  case round =>
   clear H'
   try clear c2; try clear c2b0; try clear c2b1; try clear p2
   obtain ⟨x14_1, rfl, HA, HK1, HB⟩ := hrel
   cases gk with
   | zero => exact absurd HA.out (by simp [XE.l0])
   | succ k1 =>
    have H := HA.out
    clear HA
    simp only [XE.l0] at H
    by_cases c3 : x14_1 < (l0.length : Int)
    ·rw [if_pos c3] at H
     have c3b0 : decide (x14_1 < (l0.length : Int)) = true := decide_eq_true c3
     clear c3
     by_cases c4 : 0 ≤ x14_1
     ·rw [if_pos c4] at H
      have c4b0 : decide (0 ≤ x14_1) = true := decide_eq_true c4
      clear c4
      by_cases c5 : x14_1 < (l0.length : Int)
      ·rw [if_pos c5] at H
       have c5b0 : decide (x14_1 < (l0.length : Int)) = true := decide_eq_true c5
       clear c5
       replace H := Option.bind_eq_some_iff.mp H
       obtain ⟨t165, A60, H⟩ := H; (try dsimp only at H)
       have A6 := Xa.mk A60
       clear A60
       by_cases c7 : t165 = true
       ·subst c7
        have H1 : (if x14_1 ≤ (l0.length : Int) then ((some (l0.take (x14_1 : Int).toNat : List (S144))).bind fun y166 => (XE.l1 k1 l0 l0 (l0.length : Int) x14_1 y166 (y166.length : Int) 0 ((Xc l0 x14_1).f0) ((Xc l0 x14_1).f1) ((Xc l0 x14_1).f2) ((Xc l0 x14_1).f3) ((Xc l0 x14_1).f4))) else (none)) = some r := by rw [if_pos rfl] at H; exact H
        clear H
        have H := H1
        clear H1
        have c8b0 := eq_true (of_decide_eq_true ‹_› : 0 ≤ x14_1)
        by_cases c9 : x14_1 ≤ (l0.length : Int)
        ·rw [if_pos c9] at H
         have c9b0 := eq_true c9
         have c9b1 : decide (x14_1 ≤ (l0.length : Int)) = true := decide_eq_true c9
         clear c9
         obtain ⟨y166, hy166⟩ : ∃ y_ : List (S144), y_ = (l0.take (x14_1 : Int).toNat) := ⟨_, rfl⟩
         replace H : (XE.l1 k1 l0 l0 (l0.length : Int) x14_1 y166 (y166.length : Int) 0 ((Xc l0 x14_1).f0) ((Xc l0 x14_1).f1) ((Xc l0 x14_1).f2) ((Xc l0 x14_1).f3) ((Xc l0 x14_1).f4)) = some r := by first | (rw [hy166]; with_reducible exact H) | (have H2_ := (Option.bind_some _ _).symm.trans H; rw [hy166]; with_reducible exact H2_) | (have H2_ := (Option.bind_some _ _).symm.trans H; with_reducible exact H2_) | with_reducible exact H | (rw [hy166]; exact H) | exact H
         have Ny166 := Xa.mk hy166
         clear hy166
         have H' := Xa.mk H
         clear H
         have p163 : 0 ≤ (x14_1 : Int) := of_decide_eq_true ‹_›
         have q163 : x14_1 < (l0.length : Int) := of_decide_eq_true ‹_›
         obtain ⟨ad163, e163, hx163_0, hx163_1, hx163_2, hx163_3, hx163_4⟩ := Yb HR0.out x14_1 p163 q163
         cases e163
         replace hx163_0 := bl_ HB hx163_0
         replace hx163_1 := bl_ HB hx163_1
         replace hx163_2 := bl_ HB hx163_2
         replace hx163_3 := bl_ HB hx163_3
         replace hx163_4 := bl_ HB hx163_4
         replace p163 := eq_true p163
         replace q163 := eq_true q163
         go_wp2_with (first | ((with_reducible refine Xz (N := 4) rfl ?_); refine XH ?hg (N := 4) ?hd (cs := #[.int .i64 0, .int .i64 0, .int .i64 0, .int .i64 0, .int .i64 0]) (t := 144) ?hr ?_; (case hd => rfl); (case hg => rfl); (case hr => first | (go_simp; done) | (go_simp; rfl)); intro gb164 hg w10 hbox hb; have BK164 := Xa.mk (hbox); have GW164 := Xa.mk ((by rw [hg]; exact (Xg HB.out) : w.heap.size ≤ gb164)); have GE164 := GW164; replace HB := Xa.mk (Xi HB.out hb); clear hb hbox hg; obtain ⟨hcz11_0, hcz11_1, hcz11_2, hcz11_3, hcz11_4⟩ := bc5 BK164.out; obtain ⟨hfz11_0, hfz11_1, hfz11_2, hfz11_3, hfz11_4⟩ := bf5 BK164.out) | ((with_reducible refine Xp (f := 67) rfl ?_); refine XL (some 21) rfl rfl Try.func67 (by kernel_rfl) rfl #[.agg #[.int .i64 ((Xc l0 x14_1).f0), .int .i64 ((Xc l0 x14_1).f1), .int .i64 ((Xc l0 x14_1).f2), .int .i64 ((Xc l0 x14_1).f3), .int .i64 ((Xc l0 x14_1).f4)]] rfl (by (try simp only [List.map_toArray, List.map_cons, List.map_nil]); first | done | rfl | (simp only [List.length_drop, List.length_take]; rfl)) ?_; (with_reducible refine (Yp.calls ((Xc l0 x14_1).f0) ((Xc l0 x14_1).f1) ((Xc l0 x14_1).f2) ((Xc l0 x14_1).f3) ((Xc l0 x14_1).f4) true _ A6.out).mono ?_); rintro e w12 ⟨rfl, hb⟩; refine ⟨_, rfl, ?_⟩; replace BK164 := Xa.mk (Xu (g := gb164) (o := .cells #[.int .i64 ((Xc l0 x14_1).f0), .int .i64 ((Xc l0 x14_1).f1), .int .i64 ((Xc l0 x14_1).f2), .int .i64 ((Xc l0 x14_1).f3), .int .i64 ((Xc l0 x14_1).f4)] 144 (0, 0)) (by exact bto (bput (bput (bput (bput (bput (BK164.out) _ _) _ _) _ _) _ _) _ _) rfl) hb); replace HB := sb_ HB hb; (try clear hb); (try clear hb2); (try clear hk); (try clear hi); have q13 : (x14_1 : Int) ≤ ((l0.length : Int) : Int) := of_decide_eq_true ‹_›; obtain ⟨i013, hi013, _, hsz13, _⟩ := info_parts XfO; have hroom13 : l0.length ≤ c0 := HC0.out; have hC13 : Kd.C k144 _ (some ad163) l0.length l0 := HR0.out; have hcut13 := Xho (P := Try.prog) 56 144 .i64 Try.underlying56 hi013 (some ad163) l0.length c0 x14_1 (of_decide_eq_true ‹_›) q13 hroom13; have hr13 := Kd.C_take (m := (x14_1 : Int).toNat) hC13 (by omega); have hy13 : y166.length = (x14_1 : Int).toNat := (by rw [Ny166.out, List.length_take]; omega); rw [← Ny166.out] at hr13; rw [← hy13] at hcut13; have HR169 := Xa.mk hr13; have HC169 := Xa.mk (show y166.length ≤ c0 from by omega); clear hr13 hC13 hroom13 hi013 hsz13; have KY13 := Xa.mk hy13; clear hy13; replace q13 := eq_true q13))
         go_loopg [27] k1 (fun kq v27 w' => ∃ (x27_2 : Int), v27 = .int .i64 x27_2 ∧ Xa (XE.l1 kq l0 l0 (l0.length : Int) x14_1 y166 (y166.length : Int) x27_2 ((Xc l0 x14_1).f0) ((Xc l0 x14_1).f1) ((Xc l0 x14_1).f2) ((Xc l0 x14_1).f3) ((Xc l0 x14_1).f4) = some r) ∧ Xa (kq ≤ k1) ∧ Xa (w'.heap[gb164]? = some (.cells #[.int .i64 ((Xc l0 x14_1).f0), .int .i64 ((Xc l0 x14_1).f1), .int .i64 ((Xc l0 x14_1).f2), .int .i64 ((Xc l0 x14_1).f3), .int .i64 ((Xc l0 x14_1).f4)] 144 (0, 0))) ∧ Xa (Below w.heap.size w w'))
         case atStart => exact ⟨(0), fx_, H', ⟨Nat.le_refl _⟩, BK164, ⟨hb_ HB⟩⟩
         case round =>
          clear H'
          try clear p1; try clear q1; try clear hx1; try clear c2; try clear c2b0; try clear c2b1; try clear p2; try clear c3; try clear c3b0; try clear c4; try clear c4b0; try clear c5; try clear c5b0; try clear c6; try clear c7; try clear c8; try clear c8b0; try clear c9; try clear c9b0; try clear c9b1; try clear q13; try clear hcz11_0; try clear hcz11_1; try clear hcz11_2; try clear hcz11_3; try clear hcz11_4; try clear hfz11_0; try clear hfz11_1; try clear hfz11_2; try clear hfz11_3; try clear hfz11_4; try clear hx163_0; try clear hx163_1; try clear hx163_2; try clear hx163_3; try clear hx163_4; try clear p163; try clear p2; try clear q13; try clear q163
          obtain ⟨x27_2, rfl, HA, HK2, BK164, HB⟩ := hrel
          cases gk with
          | zero => exact absurd HA.out (by simp [XE.l1])
          | succ k2 =>
           have H := HA.out
           clear HA
           simp only [XE.l1] at H
           by_cases c14 : x27_2 < (y166.length : Int)
           ·rw [if_pos c14] at H
            have c14b0 : decide (x27_2 < (y166.length : Int)) = true := decide_eq_true c14
            clear c14
            by_cases c15 : 0 ≤ x27_2
            ·rw [if_pos c15] at H
             have c15b0 : decide (0 ≤ x27_2) = true := decide_eq_true c15
             clear c15
             by_cases c16 : x27_2 < (y166.length : Int)
             ·rw [if_pos c16] at H
              have c16b0 : decide (x27_2 < (y166.length : Int)) = true := decide_eq_true c16
              clear c16
              replace H := Option.bind_eq_some_iff.mp H
              obtain ⟨⟨t172, t173⟩, A170, H⟩ := H; (try dsimp only at H)
              have A17 := Xa.mk A170
              clear A170
              by_cases c18 : t172 ≤ t173
              ·rw [if_pos c18] at H
               have c18b0 : decide (t172 ≤ t173) = true := decide_eq_true c18
               clear c18
               obtain rfl := Option.some.inj H
               have p170 : 0 ≤ (x27_2 : Int) := of_decide_eq_true ‹_›
               have q170 : x27_2 < (y166.length : Int) := of_decide_eq_true ‹_›
               obtain ⟨ad170, e170, hx170_0, hx170_1, hx170_2, hx170_3, hx170_4⟩ := Yb HR169.out x27_2 p170 q170
               obtain rfl : ad163 = ad170 := (by injection e170)
               replace hx170_0 := bl_ HB hx170_0
               replace hx170_1 := bl_ HB hx170_1
               replace hx170_2 := bl_ HB hx170_2
               replace hx170_3 := bl_ HB hx170_3
               replace hx170_4 := bl_ HB hx170_4
               replace p170 := eq_true p170
               replace q170 := eq_true q170
               go_wp2_with (first | ((with_reducible refine Xz (N := 6) rfl ?_); refine XH ?hg (N := 6) ?hd (cs := #[.int .i64 0, .int .i64 0, .int .i64 0, .int .i64 0, .int .i64 0]) (t := 144) ?hr ?_; (case hd => rfl); (case hg => rfl); (case hr => first | (go_simp; done) | (go_simp; rfl)); intro gb171 hg w19 hbox hb; have BK171 := Xa.mk (hbox); have GW171 := Xa.mk ((by rw [hg]; exact (Xg (hb_ HB)) : w.heap.size ≤ gb171)); have GE171 := GW171; replace HB := sb_ HB hb; have NB164_171 := Xa.mk ((by rw [hg]; exact Nat.ne_of_lt (YV BK164.out) : gb164 ≠ gb171)); have NB171_164 := Xa.mk ((by rw [hg]; exact Nat.ne_of_gt (YV BK164.out) : gb171 ≠ gb164)); replace BK164 := Xa.mk (Xu (g := gb164) (o := .cells #[.int .i64 ((Xc l0 x14_1).f0), .int .i64 ((Xc l0 x14_1).f1), .int .i64 ((Xc l0 x14_1).f2), .int .i64 ((Xc l0 x14_1).f3), .int .i64 ((Xc l0 x14_1).f4)] 144 (0, 0)) (bk_ BK164) hb); clear hb hbox hg; have hnb20 := NB171_164.out; have hnc20 := NB164_171.out; obtain ⟨hcz21_0, hcz21_1, hcz21_2, hcz21_3, hcz21_4⟩ := bc5 BK171.out; obtain ⟨hfz21_0, hfz21_1, hfz21_2, hfz21_3, hfz21_4⟩ := bf5 BK171.out; obtain ⟨hcz22_0, hcz22_1, hcz22_2, hcz22_3, hcz22_4⟩ := bc5 BK164.out; obtain ⟨hfz22_0, hfz22_1, hfz22_2, hfz22_3, hfz22_4⟩ := bf5 BK164.out) | ((with_reducible refine Xp (f := 68) rfl ?_); refine XL (some 40) rfl rfl Try.func68 (by kernel_rfl) rfl #[.agg #[.int .i64 ((Xc y166 x27_2).f0), .int .i64 ((Xc y166 x27_2).f1), .int .i64 ((Xc y166 x27_2).f2), .int .i64 ((Xc y166 x27_2).f3), .int .i64 ((Xc y166 x27_2).f4)], .int .i64 ((Xc l0 x14_1).f0), .int .i64 ((Xc l0 x14_1).f1), .int .i64 ((Xc l0 x14_1).f2)] rfl (by (try simp only [List.map_toArray, List.map_cons, List.map_nil]); first | done | rfl | (simp only [List.length_drop, List.length_take]; rfl)) ?_; (with_reducible refine (Yj.calls ((Xc y166 x27_2).f0) ((Xc y166 x27_2).f1) ((Xc y166 x27_2).f2) ((Xc y166 x27_2).f3) ((Xc y166 x27_2).f4) ((Xc l0 x14_1).f0) ((Xc l0 x14_1).f1) ((Xc l0 x14_1).f2) t172 t173 _ A17.out).mono ?_); rintro e w23 ⟨rfl, hb⟩; refine ⟨_, rfl, ?_⟩; replace BK164 := Xa.mk (Xu (g := gb164) (o := .cells #[.int .i64 ((Xc l0 x14_1).f0), .int .i64 ((Xc l0 x14_1).f1), .int .i64 ((Xc l0 x14_1).f2), .int .i64 ((Xc l0 x14_1).f3), .int .i64 ((Xc l0 x14_1).f4)] 144 (0, 0)) (by repeat (first | (with_reducible first | exact BK164.out | refine XaW ?_ _ | refine X3 ?_ | refine Yi ?_ _) | refine XfS ?_ NB164_171.out _ | exact BK164.out)) hb); replace BK171 := Xa.mk (Xu (g := gb171) (o := .cells #[.int .i64 ((Xc y166 x27_2).f0), .int .i64 ((Xc y166 x27_2).f1), .int .i64 ((Xc y166 x27_2).f2), .int .i64 ((Xc y166 x27_2).f3), .int .i64 ((Xc y166 x27_2).f4)] 144 (0, 0)) (by exact bto (bput (bput (bput (bput (bput (BK171.out) _ _) _ _) _ _) _ _) _ _) rfl) hb); replace HB := sb_ HB hb; (try clear hb); (try clear hb2); (try clear hk); (try clear hi)))
               go_ret
               exact ⟨by first | rfl | (simp [errW_none, errW_some] <;> rfl) | (simp [*, errW_none, errW_some] <;> rfl), by repeat (first | (with_reducible first | exact HB.out | apply Xs | apply Xo | apply Xl | refine XC ?_ (Xa.out (by assumption))) | exact HB.out)⟩
              ·rw [if_neg c18] at H
               have c18b0 : decide (t172 ≤ t173) = false := decide_eq_false c18
               clear c18
               have H' := Xa.mk H
               clear H
               have p170 : 0 ≤ (x27_2 : Int) := of_decide_eq_true ‹_›
               have q170 : x27_2 < (y166.length : Int) := of_decide_eq_true ‹_›
               obtain ⟨ad170, e170, hx170_0, hx170_1, hx170_2, hx170_3, hx170_4⟩ := Yb HR169.out x27_2 p170 q170
               obtain rfl : ad163 = ad170 := (by injection e170)
               replace hx170_0 := bl_ HB hx170_0
               replace hx170_1 := bl_ HB hx170_1
               replace hx170_2 := bl_ HB hx170_2
               replace hx170_3 := bl_ HB hx170_3
               replace hx170_4 := bl_ HB hx170_4
               replace p170 := eq_true p170
               replace q170 := eq_true q170
               go_wp2_with (first | ((with_reducible refine Xz (N := 6) rfl ?_); refine XH ?hg (N := 6) ?hd (cs := #[.int .i64 0, .int .i64 0, .int .i64 0, .int .i64 0, .int .i64 0]) (t := 144) ?hr ?_; (case hd => rfl); (case hg => rfl); (case hr => first | (go_simp; done) | (go_simp; rfl)); intro gb171 hg w24 hbox hb; have BK171 := Xa.mk (hbox); have GW171 := Xa.mk ((by rw [hg]; exact (Xg (hb_ HB)) : w.heap.size ≤ gb171)); have GE171 := GW171; replace HB := sb_ HB hb; have NB164_171 := Xa.mk ((by rw [hg]; exact Nat.ne_of_lt (YV BK164.out) : gb164 ≠ gb171)); have NB171_164 := Xa.mk ((by rw [hg]; exact Nat.ne_of_gt (YV BK164.out) : gb171 ≠ gb164)); replace BK164 := Xa.mk (Xu (g := gb164) (o := .cells #[.int .i64 ((Xc l0 x14_1).f0), .int .i64 ((Xc l0 x14_1).f1), .int .i64 ((Xc l0 x14_1).f2), .int .i64 ((Xc l0 x14_1).f3), .int .i64 ((Xc l0 x14_1).f4)] 144 (0, 0)) (bk_ BK164) hb); clear hb hbox hg; have hnb25 := NB171_164.out; have hnc25 := NB164_171.out; obtain ⟨hcz26_0, hcz26_1, hcz26_2, hcz26_3, hcz26_4⟩ := bc5 BK171.out; obtain ⟨hfz26_0, hfz26_1, hfz26_2, hfz26_3, hfz26_4⟩ := bf5 BK171.out; obtain ⟨hcz27_0, hcz27_1, hcz27_2, hcz27_3, hcz27_4⟩ := bc5 BK164.out; obtain ⟨hfz27_0, hfz27_1, hfz27_2, hfz27_3, hfz27_4⟩ := bf5 BK164.out) | ((with_reducible refine Xp (f := 68) rfl ?_); refine XL (some 40) rfl rfl Try.func68 (by kernel_rfl) rfl #[.agg #[.int .i64 ((Xc y166 x27_2).f0), .int .i64 ((Xc y166 x27_2).f1), .int .i64 ((Xc y166 x27_2).f2), .int .i64 ((Xc y166 x27_2).f3), .int .i64 ((Xc y166 x27_2).f4)], .int .i64 ((Xc l0 x14_1).f0), .int .i64 ((Xc l0 x14_1).f1), .int .i64 ((Xc l0 x14_1).f2)] rfl (by (try simp only [List.map_toArray, List.map_cons, List.map_nil]); first | done | rfl | (simp only [List.length_drop, List.length_take]; rfl)) ?_; (with_reducible refine (Yj.calls ((Xc y166 x27_2).f0) ((Xc y166 x27_2).f1) ((Xc y166 x27_2).f2) ((Xc y166 x27_2).f3) ((Xc y166 x27_2).f4) ((Xc l0 x14_1).f0) ((Xc l0 x14_1).f1) ((Xc l0 x14_1).f2) t172 t173 _ A17.out).mono ?_); rintro e w28 ⟨rfl, hb⟩; refine ⟨_, rfl, ?_⟩; replace BK164 := Xa.mk (Xu (g := gb164) (o := .cells #[.int .i64 ((Xc l0 x14_1).f0), .int .i64 ((Xc l0 x14_1).f1), .int .i64 ((Xc l0 x14_1).f2), .int .i64 ((Xc l0 x14_1).f3), .int .i64 ((Xc l0 x14_1).f4)] 144 (0, 0)) (by repeat (first | (with_reducible first | exact BK164.out | refine XaW ?_ _ | refine X3 ?_ | refine Yi ?_ _) | refine XfS ?_ NB164_171.out _ | exact BK164.out)) hb); replace BK171 := Xa.mk (Xu (g := gb171) (o := .cells #[.int .i64 ((Xc y166 x27_2).f0), .int .i64 ((Xc y166 x27_2).f1), .int .i64 ((Xc y166 x27_2).f2), .int .i64 ((Xc y166 x27_2).f3), .int .i64 ((Xc y166 x27_2).f4)] 144 (0, 0)) (by exact bto (bput (bput (bput (bput (bput (BK171.out) _ _) _ _) _ _) _ _) _ _) rfl) hb); replace HB := sb_ HB hb; (try clear hb); (try clear hb2); (try clear hk); (try clear hi)))
               go_roundg k2
               case measure => have := HK1.out; have := HK2.out; omega
               case rel => exact ⟨(wrap64 (x27_2 + 1)), fx_, H', ⟨by have := HK1.out; have := HK2.out; omega⟩, BK164, ⟨hb_ HB⟩⟩
             ·rw [if_neg c16] at H
              exact absurd H (by simp)
            ·rw [if_neg c15] at H
             exact absurd H (by simp)
           ·rw [if_neg c14] at H
            have c14b0 : decide (x27_2 < (y166.length : Int)) = false := decide_eq_false c14
            clear c14
            have H' := Xa.mk H
            clear H
            go_wp2
            go_roundg k2
            case measure => have := HK1.out; have := HK2.out; omega
            case rel => exact ⟨(wrap64 (x14_1 + 1)), fx_, H', ⟨by have := HK1.out; have := HK2.out; omega⟩, ⟨hb_ HB⟩⟩
        ·rw [if_neg c9] at H
         exact absurd H (by simp)
       ·replace c7 := Bool.eq_false_iff.mpr c7
        subst c7
        have H1 : (some 2) = some r := by rw [if_neg (show ¬ (false = true) by decide)] at H; exact H
        clear H
        have H := H1
        clear H1
        obtain rfl := Option.some.inj H
        have p163 : 0 ≤ (x14_1 : Int) := of_decide_eq_true ‹_›
        have q163 : x14_1 < (l0.length : Int) := of_decide_eq_true ‹_›
        obtain ⟨ad163, e163, hx163_0, hx163_1, hx163_2, hx163_3, hx163_4⟩ := Yb HR0.out x14_1 p163 q163
        cases e163
        replace hx163_0 := bl_ HB hx163_0
        replace hx163_1 := bl_ HB hx163_1
        replace hx163_2 := bl_ HB hx163_2
        replace hx163_3 := bl_ HB hx163_3
        replace hx163_4 := bl_ HB hx163_4
        replace p163 := eq_true p163
        replace q163 := eq_true q163
        go_wp2_with (first | ((with_reducible refine Xz (N := 4) rfl ?_); refine XH ?hg (N := 4) ?hd (cs := #[.int .i64 0, .int .i64 0, .int .i64 0, .int .i64 0, .int .i64 0]) (t := 144) ?hr ?_; (case hd => rfl); (case hg => rfl); (case hr => first | (go_simp; done) | (go_simp; rfl)); intro gb164 hg w29 hbox hb; have BK164 := Xa.mk (hbox); have GW164 := Xa.mk ((by rw [hg]; exact (Xg HB.out) : w.heap.size ≤ gb164)); have GE164 := GW164; replace HB := Xa.mk (Xi HB.out hb); clear hb hbox hg; obtain ⟨hcz30_0, hcz30_1, hcz30_2, hcz30_3, hcz30_4⟩ := bc5 BK164.out; obtain ⟨hfz30_0, hfz30_1, hfz30_2, hfz30_3, hfz30_4⟩ := bf5 BK164.out) | ((with_reducible refine Xp (f := 67) rfl ?_); refine XL (some 21) rfl rfl Try.func67 (by kernel_rfl) rfl #[.agg #[.int .i64 ((Xc l0 x14_1).f0), .int .i64 ((Xc l0 x14_1).f1), .int .i64 ((Xc l0 x14_1).f2), .int .i64 ((Xc l0 x14_1).f3), .int .i64 ((Xc l0 x14_1).f4)]] rfl (by (try simp only [List.map_toArray, List.map_cons, List.map_nil]); first | done | rfl | (simp only [List.length_drop, List.length_take]; rfl)) ?_; (with_reducible refine (Yp.calls ((Xc l0 x14_1).f0) ((Xc l0 x14_1).f1) ((Xc l0 x14_1).f2) ((Xc l0 x14_1).f3) ((Xc l0 x14_1).f4) false _ A6.out).mono ?_); rintro e w31 ⟨rfl, hb⟩; refine ⟨_, rfl, ?_⟩; replace BK164 := Xa.mk (Xu (g := gb164) (o := .cells #[.int .i64 ((Xc l0 x14_1).f0), .int .i64 ((Xc l0 x14_1).f1), .int .i64 ((Xc l0 x14_1).f2), .int .i64 ((Xc l0 x14_1).f3), .int .i64 ((Xc l0 x14_1).f4)] 144 (0, 0)) (by exact bto (bput (bput (bput (bput (bput (BK164.out) _ _) _ _) _ _) _ _) _ _) rfl) hb); replace HB := sb_ HB hb; (try clear hb); (try clear hb2); (try clear hk); (try clear hi)))
        go_ret
        exact ⟨by first | rfl | (simp [errW_none, errW_some] <;> rfl) | (simp [*, errW_none, errW_some] <;> rfl), by repeat (first | (with_reducible first | exact HB.out | apply Xs | apply Xo | apply Xl | refine XC ?_ (Xa.out (by assumption))) | exact HB.out)⟩
      ·rw [if_neg c5] at H
       exact absurd H (by simp)
     ·rw [if_neg c4] at H
      exact absurd H (by simp)
    ·rw [if_neg c3] at H
     have c3b0 : decide (x14_1 < (l0.length : Int)) = false := decide_eq_false c3
     clear c3
     obtain rfl := Option.some.inj H
     go_wp2
     go_ret
     exact ⟨by first | rfl | (simp [errW_none, errW_some] <;> rfl) | (simp [*, errW_none, errW_some] <;> rfl), by repeat (first | (with_reducible first | exact HB.out | apply Xs | apply Xo | apply Xl) | exact HB.out)⟩

end Go.Proofs.Ytiaiecfnpompcaa.T
namespace Go.Proofs.Ytiaiecfnpompcaa.T
open Go.RowKit Go.Maps Go.Proofs.YtiaiecfnpompcaaW.PrintWords Go.Proofs.YtiaiecfnpompcaaW.PrintLast Go.Proofs.YtiaiecfnpompcaaW.PrintMore
set_option linter.unusedVariables false
set_option linter.unusedSimpArgs false
theorem Xes {a b : List S79} (h : a.Perm b) : (a.mergeSort fun x y => !lt79 y x) = b.mergeSort fun x y => !lt79 y x := by
 have tr : ∀ x y z : S79, (!lt79 y x) = true → (!lt79 z y) = true → (!lt79 z x) = true := by
  intro x y z h1 h2
  simp only [lt79, Bool.not_eq_true', decide_eq_false_iff_not] at *
  omega
 have tt : ∀ x y : S79, ((!lt79 y x) || !lt79 x y) = true := by
  intro x y
  simp only [lt79, Bool.or_eq_true, Bool.not_eq_true', decide_eq_false_iff_not]
  omega
 refine List.Perm.eq_of_pairwise (le := fun x y => (!lt79 y x) = true) ?_ (List.pairwise_mergeSort tr tt a) (List.pairwise_mergeSort tr tt b) ((List.mergeSort_perm a _).trans (h.trans (List.mergeSort_perm b _).symm))
 intro x y _ _ h1 h2
 simp only [lt79, Bool.not_eq_true', decide_eq_false_iff_not] at h1 h2
 obtain ⟨x0, x1, x2⟩ := x
 obtain ⟨y0, y1, y2⟩ := y
 dsimp only at h1 h2
 obtain rfl : x0 = y0 := by omega
 obtain rfl : x1 = y1 := by omega
 obtain rfl : x2 = y2 := by omega
 rfl
def X8 (ks : List S79) : List S79 := (XD ks).mergeSort fun x y => !lt79 y x
instance (x : S144) : Decidable (Yq x) := by unfold Yq; infer_instance
theorem Xag (m a : Int) : ∀ n : Nat, (Ym m a n).length = n
 | 0 => rfl
 | n + 1 => by rw [Ym, List.length_append, Xag m a n]; rfl
theorem Xev {x : S144} {m f t : Int} (h : ¬ YX x m f t) : (Jn x m f t).length ≤ 1002 := by
 unfold Jn
 split
 ·simp
 ·rw [List.length_append, Xag]
  unfold YX at h
  simp only [List.length_cons, List.length_nil]
  omega
theorem XaD {m f t : Int} : ∀ {l : List S144}, (∀ x ∈ l, ¬ YX x m f t) → (X7 l m f t).length ≤ 1002 * l.length
 | [], _ => by simp [X7]
 | x :: l, h => by
  have h1 := Xev (h x (by simp))
  have h2 := XaD (l := l) (fun y hy => h y (by simp [hy]))
  have e : X7 (x :: l) m f t = Jn x m f t ++ X7 l m f t := rfl
  rw [e, List.length_append, List.length_cons]
  omega
theorem Xai {l : List S144} {m f t : Int} (h : Yg l m f t = 0) : Jq m f t ∧ ∀ x ∈ l, ¬ YX x m f t := by
 unfold Yg at h
 split at h
 ·cases h
 ·rename_i g
  split at h
  ·cases h
  ·rename_i g2
   exact ⟨Classical.not_not.1 g, fun x hx hq => g2 ⟨x, hx, hq⟩⟩
end Go.Proofs.Ytiaiecfnpompcaa.T
namespace Go.Proofs.Ytiaiecfnpompcaa.T
open Go.RowKit Go.Maps Go.Proofs.YtiaiecfnpompcaaW.PrintWords Go.Proofs.YtiaiecfnpompcaaW.PrintLast Go.Proofs.YtiaiecfnpompcaaW.PrintMore
set_option linter.unusedVariables false
set_option linter.unusedSimpArgs false

def JM (w : World) (A : Option Addr) (vs : List Value) : Prop := ∀ (i : Nat) (v : Value), vs[i]? = some v → ∃ ad, A = some ad ∧ w.cell? (ad.add i) = some v
def XaH (P : Program) (g : Nat) (lb : Array Value) (ps : List Bool) (vs : List Value) (w : World) : Prop :=
 ∀ (i : Nat) (v : Value) (b : Bool), vs[i]? = some v → ps[i]? = some b → ∀ q : Nat, Calls P g (#[v] ++ lb) (w.drewN q) fun e w' => e = .returned (.bool b) ∧ w.drewN q = w'

theorem Xfp (g : Nat) (lb : Array Value) (eg : ∀ args w, (callFunc g args).run Try.prog w = .ok (.enter g args) w) (A : Option Addr) (c : Nat) (vs : List Value) (ps : List Bool) (w : World)
  (hl : ps.length = vs.length) (hr : JM w A vs) (hb : vs.length ≤ 9223372036854775807) (hp : XaH Try.prog g lb ps vs w) :
  Calls Try.prog 109 #[.slice A vs.length c, .func (.func g) #[] lb] w fun e w' => (∃ n : Int, e = .returned (.int .i64 n) ∧ (decide (0 ≤ n)) = ps.any id) ∧ Xq w w' := by
 have HP : Hid (XaH Try.prog g lb ps vs w) := hp
 have HR : Hid (JM w A vs) := hr
 have HL : Hid (ps.length = vs.length) := hl
 clear hp hr hl
 go_enter Try.func109, Try.ntmps109
 go_wp2
 go_loopg [5, 8] vs.length (fun gg _ s8 wr => ∃ (i : Int) (q : Nat), 0 ≤ i ∧ i ≤ vs.length ∧ vs.length - i.toNat ≤ gg ∧ s8 = .int .i64 i ∧ wr = w.drewN q ∧ Hid ((ps.take i.toNat).any id = false))
 case atStart => exact ⟨0, 0, by omega, by omega, by omega, rfl, rfl, rfl⟩
 case round =>
  obtain ⟨i, q, h0, h1, hg, rfl, rfl, hA⟩ := hrel
  by_cases hlt : i < vs.length
  ·have hk : i.toNat < vs.length := by omega
   have hk2 : i.toNat < ps.length := by have := HL.out; omega
   obtain ⟨ad, hAd, hcell⟩ := HR.out i.toNat vs[i.toNat] (List.getElem?_eq_getElem hk)
   subst hAd
   have HC := HP.out i.toNat vs[i.toNat] ps[i.toNat] (List.getElem?_eq_getElem hk) (List.getElem?_eq_getElem hk2)
   have hT : Hid (ps.take (i.toNat + 1) = ps.take i.toNat ++ [ps[i.toNat]]) := List.take_succ_eq_append_getElem hk2
   have HM : Hid (ps[i.toNat] ∈ ps) := List.getElem_mem hk2
   clear HP HL
   generalize vs[i.toNat] = v at hcell HC
   generalize ps[i.toNat] = b at HC hT HM
   have e0 : decide (0 ≤ i) = true := decide_eq_true h0
   cases b with
   | true =>
    go_wp2_with (go_at_fn g; refine (HC _).mono ?_; rintro e w' ⟨rfl, rfl⟩)
    go_ret
    refine ⟨⟨i, rfl, ?_⟩, ⟨_, rfl⟩⟩
    rw [decide_eq_true h0, eq_comm, List.any_eq_true]
    exact ⟨true, HM.out, rfl⟩
   | false =>
    go_wp2_with (go_at_fn g; refine (HC _).mono ?_; rintro e w' ⟨rfl, rfl⟩)
    go_roundg (vs.length - (i+1).toNat)
    case measure => omega
    case rel =>
     refine ⟨i + 1, _, by omega, by omega, by omega, rfl, rfl, ?_⟩
     show (ps.take (i + 1).toNat).any id = false
     rw [show (i + 1).toNat = i.toNat + 1 by omega, hT.out, List.any_append, hA.out]; rfl
  ·clear HP
   go_wp2
   go_ret
   refine ⟨⟨-1, rfl, ?_⟩, ⟨_, rfl⟩⟩
   have := hA.out
   rw [List.take_of_length_le (by have := HL.out; omega)] at this
   rw [this]; rfl
theorem Xcs (g : Nat) (lb : Array Value) (eg : ∀ args w, (callFunc g args).run Try.prog w = .ok (.enter g args) w) (A : Option Addr) (c : Nat) (vs : List Value) (ps : List Bool) (w : World)
  (hl : ps.length = vs.length) (hr : JM w A vs) (hb : vs.length ≤ 9223372036854775807) (hp : XaH Try.prog g lb ps vs w) :
  Calls Try.prog 100 #[.slice A vs.length c, .func (.func g) #[] lb] w fun e w' => e = .returned (.bool (ps.any id)) ∧ Xq w w' := by
 have HP : Hid (XaH Try.prog g lb ps vs w) := hp
 have HR : Hid (JM w A vs) := hr
 have HL : Hid (ps.length = vs.length) := hl
 clear hp hr hl
 go_enter Try.func100, Try.ntmps100
 go_wp2_with (go_at_call 109; refine (Xfp g lb eg A c vs ps _ HL.out HR.out hb HP.out).mono ?_; rintro e w' ⟨⟨n, rfl, hn⟩, hd⟩; have HN := hid hn; have HD := hid hd; clear hn hd)
 go_ret
 exact ⟨by rw [← HN.out]; rfl, HD.out⟩

theorem Xfq (g : Nat) (lb : Array Value) (eg : ∀ args w, (callFunc g args).run Try.prog w = .ok (.enter g args) w) (A : Option Addr) (c : Nat) (vs : List Value) (ps : List Bool) (w : World)
  (hl : ps.length = vs.length) (hr : JM w A vs) (hb : vs.length ≤ 9223372036854775807) (hp : XaH Try.prog g lb ps vs w) :
  Calls Try.prog 108 #[.slice A vs.length c, .func (.func g) #[] lb] w fun e w' => (∃ n : Int, e = .returned (.int .i64 n) ∧ (decide (0 ≤ n)) = ps.any id) ∧ Xq w w' := by
 have HP : Hid (XaH Try.prog g lb ps vs w) := hp
 have HR : Hid (JM w A vs) := hr
 have HL : Hid (ps.length = vs.length) := hl
 clear hp hr hl
 go_enter Try.func108, Try.ntmps108
 go_wp2
 go_loopg [5, 8] vs.length (fun gg _ s8 wr => ∃ (i : Int) (q : Nat), 0 ≤ i ∧ i ≤ vs.length ∧ vs.length - i.toNat ≤ gg ∧ s8 = .int .i64 i ∧ wr = w.drewN q ∧ Hid ((ps.take i.toNat).any id = false))
 case atStart => exact ⟨0, 0, by omega, by omega, by omega, rfl, rfl, rfl⟩
 case round =>
  obtain ⟨i, q, h0, h1, hg, rfl, rfl, hA⟩ := hrel
  by_cases hlt : i < vs.length
  ·have hk : i.toNat < vs.length := by omega
   have hk2 : i.toNat < ps.length := by have := HL.out; omega
   obtain ⟨ad, hAd, hcell⟩ := HR.out i.toNat vs[i.toNat] (List.getElem?_eq_getElem hk)
   subst hAd
   have HC := HP.out i.toNat vs[i.toNat] ps[i.toNat] (List.getElem?_eq_getElem hk) (List.getElem?_eq_getElem hk2)
   have hT : Hid (ps.take (i.toNat + 1) = ps.take i.toNat ++ [ps[i.toNat]]) := List.take_succ_eq_append_getElem hk2
   have HM : Hid (ps[i.toNat] ∈ ps) := List.getElem_mem hk2
   clear HP HL
   generalize vs[i.toNat] = v at hcell HC
   generalize ps[i.toNat] = b at HC hT HM
   have e0 : decide (0 ≤ i) = true := decide_eq_true h0
   cases b with
   | true =>
    go_wp2_with (go_at_fn g; refine (HC _).mono ?_; rintro e w' ⟨rfl, rfl⟩)
    go_ret
    refine ⟨⟨i, rfl, ?_⟩, ⟨_, rfl⟩⟩
    rw [decide_eq_true h0, eq_comm, List.any_eq_true]
    exact ⟨true, HM.out, rfl⟩
   | false =>
    go_wp2_with (go_at_fn g; refine (HC _).mono ?_; rintro e w' ⟨rfl, rfl⟩)
    go_roundg (vs.length - (i+1).toNat)
    case measure => omega
    case rel =>
     refine ⟨i + 1, _, by omega, by omega, by omega, rfl, rfl, ?_⟩
     show (ps.take (i + 1).toNat).any id = false
     rw [show (i + 1).toNat = i.toNat + 1 by omega, hT.out, List.any_append, hA.out]; rfl
  ·clear HP
   go_wp2
   go_ret
   refine ⟨⟨-1, rfl, ?_⟩, ⟨_, rfl⟩⟩
   have := hA.out
   rw [List.take_of_length_le (by have := HL.out; omega)] at this
   rw [this]; rfl
theorem Xc0 (g : Nat) (lb : Array Value) (eg : ∀ args w, (callFunc g args).run Try.prog w = .ok (.enter g args) w) (A : Option Addr) (c : Nat) (vs : List Value) (ps : List Bool) (w : World)
  (hl : ps.length = vs.length) (hr : JM w A vs) (hb : vs.length ≤ 9223372036854775807) (hp : XaH Try.prog g lb ps vs w) :
  Calls Try.prog 99 #[.slice A vs.length c, .func (.func g) #[] lb] w fun e w' => e = .returned (.bool (ps.any id)) ∧ Xq w w' := by
 have HP : Hid (XaH Try.prog g lb ps vs w) := hp
 have HR : Hid (JM w A vs) := hr
 have HL : Hid (ps.length = vs.length) := hl
 clear hp hr hl
 go_enter Try.func99, Try.ntmps99
 go_wp2_with (go_at_call 108; refine (Xfq g lb eg A c vs ps _ HL.out HR.out hb HP.out).mono ?_; rintro e w' ⟨⟨n, rfl, hn⟩, hd⟩; have HN := hid hn; have HD := hid hd; clear hn hd)
 go_ret
 exact ⟨by rw [← HN.out]; rfl, HD.out⟩

theorem Xc3 (u : DataW Unit) (k : Lit) (hk : WideAt.IsKeyLit k) (z : DataW Unit) : ∀ (acc : List Lit) (m : DataW Unit), IsMap m → (∀ x ∈ acc, WideAt.IsKeyLit x) →
  (k ∈ acc → (acc.foldl (fun m x => m.put x u) m).atKey k z = u) ∧ (k ∉ acc → (acc.foldl (fun m x => m.put x u) m).atKey k z = m.atKey k z)
 | [], m, _, _ => ⟨fun h => by simp at h, fun _ => rfl⟩
 | x :: r, m, hm, h => by
  obtain ⟨i1, i2⟩ := Xc3 u k hk z r (m.put x u) (hm.put x u) (fun y hy => h y (by simp [hy]))
  rw [List.foldl_cons]
  refine ⟨fun q => ?_, fun q => ?_⟩
  ·by_cases g : k ∈ r
   ·exact i1 g
   ·have e : k = x := (List.mem_cons.1 q).resolve_right g
    rw [i2 g, e, atKey_put_same hm (e ▸ hk)]
  ·have g : k ∉ r := fun hh => q (List.mem_cons_of_mem _ hh)
   have e : k ≠ x := fun hh => q (by simp [hh])
   rw [i2 g, atKey_put_other e]
theorem Xfx {l : List S79} (h : ∀ x ∈ l, okC x) {x : S79} (hx : okC x) (z : DataW Unit) : (setC l).atKey (litC x) z = if x ∈ l then .lit (.bool true) else z := by
 obtain ⟨i1, i2⟩ := Xc3 (.lit (.bool true)) (litC x) (JQ.key (J2 hx)) z (l.map litC) (.map []) isMap_empty (fun y hy => by
  obtain ⟨s, hs, rfl⟩ := List.mem_map.1 hy
  exact JQ.key (J2 (h s hs)))
 have e : litC x ∈ l.map litC ↔ x ∈ l := by
  constructor
  ·intro hm
   obtain ⟨y, hy, e⟩ := List.mem_map.1 hm
   rw [XeM hx (h y hy) e.symm]; exact hy
  ·exact fun hm => List.mem_map.2 ⟨x, hm, rfl⟩
 by_cases g : x ∈ l
 ·rw [if_pos g]; exact i1 (e.2 g)
 ·rw [if_neg g]; exact i2 (fun q => g (e.1 q))
theorem zero4 (w : World) : (zeroValue 4).run Try.prog w = .ok (.bool false) w := by kernel_rfl
theorem Xg0 (b : Bool) : plainElem (H := Unit) Try.prog 4 (.bool b) = some (.lit (.bool b), []) := by simp [plainElem, Try.underlying4, Lit.wf]
theorem Xed {w : World} {B n : Nat} {ks : List S79} (hown : w.ownsMap Try.prog 79 (plainElem (H := Unit) Try.prog 4) B n (setC ks)) (hok : ∀ x ∈ ks, okC x) {x : S79} (hx : okC x) :
  (Instr.lookup 149 (.map (some B)) (.agg #[.int .i64 x.f0, .int .i64 x.f1, .int .i64 x.f2]) false).run Try.prog w = .ok (.bool (decide (x ∈ ks))) w := by
 obtain ⟨v, ps, hrun, hv⟩ := hown.lookup JQ Try.underlying149 (zero4 w) (Xg0 false) (J2 hx)
 obtain ⟨c, rfl⟩ := invB v _ hv
 rw [Xfx hok hx, Xg0] at hv
 rw [show (.agg #[.int .i64 x.f0, .int .i64 x.f1, .int .i64 x.f2] : Value) = vC x from rfl, hrun]
 simp only [Option.some.injEq, Prod.mk.injEq] at hv
 obtain ⟨hv, _⟩ := hv
 clear hrun hown
 by_cases g : x ∈ ks
 ·rw [if_pos g] at hv
  rw [decide_eq_true g]
  simp only [DataW.lit.injEq, Lit.bool.injEq] at hv
  rw [hv]
 ·rw [if_neg g] at hv
  rw [decide_eq_false g]
  simp only [DataW.lit.injEq, Lit.bool.injEq] at hv
  rw [hv]
theorem XgB (b B n : Nat) (ks : List S79) (x : S79) (w : World) (hL : w.heap[b]? = some (.cells #[.int .i64 x.f0, .int .i64 x.f1, .int .i64 x.f2] 79 (0, 0))) (hown : w.ownsMap Try.prog 79 (plainElem (H := Unit) Try.prog 4) B n (setC ks)) (hok : ∀ x ∈ ks, okC x) (hx : okC x) :
  Calls Try.prog 97 #[.map (some B), .pointer (some ⟨b, 0, none⟩)] w fun e w' => e = .returned (.bool (decide (x ∈ ks))) ∧ w = w' := by
 have hlk := Xed hown hok hx
 generalize decide (x ∈ ks) = r at hlk ⊢
 obtain ⟨x0, x1, x2⟩ := x
 dsimp only at hL hlk
 obtain ⟨z0, z1, z2⟩ := bc3 hL
 clear hown hok hx hL
 go_enter Try.func97, Try.ntmps97
 go_wp2
 go_ret
 exact ⟨rfl, rfl⟩
theorem Xeg (b B n : Nat) (ks : List S79) (x : S79) (w : World) (hL : w.heap[b]? = some (.cells #[.int .i64 x.f0, .int .i64 x.f1, .int .i64 x.f2] 79 (0, 0))) (hown : w.ownsMap Try.prog 79 (plainElem (H := Unit) Try.prog 4) B n (setC ks)) (hok : ∀ x ∈ ks, okC x) (hx : okC x) :
  Calls Try.prog 98 #[.map (some B), .pointer (some ⟨b, 0, none⟩)] w fun e w' => e = .returned (.bool (!decide (x ∈ ks))) ∧ w = w' := by
 have hlk := Xed hown hok hx
 generalize decide (x ∈ ks) = r at hlk ⊢
 obtain ⟨x0, x1, x2⟩ := x
 dsimp only at hL hlk
 obtain ⟨z0, z1, z2⟩ := bc3 hL
 clear hown hok hx hL
 go_enter Try.func98, Try.ntmps98
 go_wp2
 go_ret
 exact ⟨rfl, rfl⟩
theorem XeI (A : Option Addr) (n c : Nat) (w : World) : Calls Try.prog 101 #[.slice A n c] w fun e w' => e = .returned (.bool (decide ((40 : Int) < (n : Int)))) ∧ w = w' := by
 go_enter Try.func101, Try.ntmps101
 go_wp2
 go_ret
 exact ⟨rfl, rfl⟩
theorem Xa4 (A : Option Addr) (c : Nat) (ls : List (Option Addr × Nat × Nat)) (w : World) (hb : ls.length ≤ 100) (hr : JM w A (ls.map fun p => .slice p.1 p.2.1 p.2.2)) :
  Calls Try.prog 73 #[.slice A ls.length c] w fun e w' => e = .returned (.bool (ls.any fun p => decide ((40 : Int) < (p.2.1 : Int)))) ∧ Xq w w' := by
 have e1 : (ls.any fun p => decide ((40 : Int) < (p.2.1 : Int))) = (ls.map fun p => decide ((40 : Int) < (p.2.1 : Int))).any id := by rw [List.any_map]; rfl
 rw [e1]
 have hlen : (ls.map fun p => (.slice p.1 p.2.1 p.2.2 : Value)).length = ls.length := by simp
 have HC := Xcs 101 #[] (enters_of Try.func101 (by kernel_rfl) rfl) A c (ls.map fun p => .slice p.1 p.2.1 p.2.2) (ls.map fun p => decide ((40 : Int) < (p.2.1 : Int))) w (by simp) hr (by rw [hlen]; omega) (by
  intro i v b hv hb2 q
  rw [List.getElem?_map] at hv hb2
  obtain ⟨p, hp, rfl⟩ := Option.map_eq_some_iff.1 hv
  rw [hp] at hb2
  injection hb2 with hb2
  subst hb2
  exact XeI _ _ _ _)
 rw [hlen] at HC
 generalize (ls.map fun p => decide ((40 : Int) < (p.2.1 : Int))).any id = r at HC ⊢
 clear e1 hlen hr
 replace HC := hid HC
 go_enter Try.func73, Try.ntmps73
 go_wp2_with (go_at_call 100; refine (HC.out).mono ?_; rintro e w' ⟨rfl, hd⟩; have HD := hid hd; clear hd)
 go_ret
 exact ⟨rfl, HD.out⟩
end Go.Proofs.Ytiaiecfnpompcaa.T
namespace Go.Proofs.Ytiaiecfnpompcaa.T
open Go.RowKit Go.Maps Go.Proofs.YtiaiecfnpompcaaW.PrintWords Go.Proofs.YtiaiecfnpompcaaW.PrintLast Go.Proofs.YtiaiecfnpompcaaW.PrintMore
set_option linter.unusedVariables false
set_option linter.unusedSimpArgs false

def kMap : Kd Nat := Kd.scalar (fun B => Value.map (some B)) (fun _ => rfl)
theorem XhY : (Try.prog.info? 149).map (fun i => (i.zero, i.size, i.bytes)) = some (some (.map none), 1, 8) := by kernel_rfl
abbrev OwnC (w : World) (B n : Nat) (ks : List S79) : Prop := w.ownsMap Try.prog 79 (plainElem (H := Unit) Try.prog 4) B n (setC ks)
def Jj (w : World) (base : Nat) (v : Value) (kss : List (List S79)) : Prop :=
 ∃ Bs : List Nat, Kd.R kMap 149 w base (fun _ => True) v Bs ∧ Bs.length = kss.length ∧ ∀ (i B : Nat) (ks : List S79), Bs[i]? = some B → kss[i]? = some ks → base ≤ B ∧ ∃ n, OwnC w B n ks
theorem Jj.nil (w : World) (base : Nat) : Jj w base (.slice none 0 0) [] := ⟨[], Kd.R_nil _ _ _ _ _, rfl, fun i B ks h => by simp at h⟩
theorem Jj.below {w w' : World} {base : Nat} {v : Value} {kss : List (List S79)} (h : Jj w base v kss) (hb : Below w.heap.size w w') : Jj w' base v kss := by
 obtain ⟨Bs, hR, hl, hm⟩ := h
 refine ⟨Bs, Kd.R_below hR hb, hl, fun i B ks h1 h2 => ?_⟩
 obtain ⟨h3, n, ho⟩ := hm i B ks h1 h2
 exact ⟨h3, n, ho.kept (XG hb none) (by simp)⟩
theorem Jj.lower {w : World} {b base : Nat} {v : Value} {kss : List (List S79)} (h : Jj w base v kss) (hb : b ≤ base) : Jj w b v kss := by
 obtain ⟨Bs, hR, hl, hm⟩ := h
 exact ⟨Bs, Kd.R_lower hR hb, hl, fun i B ks h1 h2 => ⟨Nat.le_trans hb (hm i B ks h1 h2).1, (hm i B ks h1 h2).2⟩⟩
theorem XcM {w : World} {base B n : Nat} {v : Value} {Bs : List Nat} {ok : Nat → Prop} {ks : List S79} (hR : Kd.R kMap 149 w base ok v Bs) (ho : OwnC w B n ks) : some B ≠ v.ownBlock := by
 obtain ⟨es, clock, hb, _⟩ := ho
 obtain ⟨_, inner, hown, _⟩ := hR
 rcases hown.2 with ⟨rfl, _⟩ | ⟨g, cap, cur, rfl, _, hg, _⟩
 ·simp [Value.ownBlock]
 ·intro e
  injection e with e
  have e : B = g := e
  rw [e, hg] at hb
  cases hb
theorem Jj.put {w w' : World} {base B n : Nat} {v v' : Value} {kss : List (List S79)} {ks : List S79} {Bs : List Nat} (hR : Kd.R kMap 149 w base (fun _ => True) v Bs) (hl : Bs.length = kss.length)
  (hm : ∀ (i B : Nat) (ks : List S79), Bs[i]? = some B → kss[i]? = some ks → base ≤ B ∧ ∃ n, OwnC w B n ks) (hB : base ≤ B) (ho : OwnC w B n ks) (hg : w.grownBy w' v.ownBlock) (hR' : Kd.R kMap 149 w' base (fun _ => True) v' (Bs ++ [B])) : Jj w' base v' (kss ++ [ks]) := by
 refine ⟨Bs ++ [B], hR', by simp [hl], fun i C qs h1 h2 => ?_⟩
 by_cases hi : i < Bs.length
 ·rw [List.getElem?_append_left hi] at h1
  rw [List.getElem?_append_left (by omega)] at h2
  obtain ⟨h3, n, h4⟩ := hm i C qs h1 h2
  exact ⟨h3, n, h4.kept hg (XcM hR h4)⟩
 ·rw [List.getElem?_append_right (by omega)] at h1 h2
  rw [← hl] at h2
  by_cases hz : i - Bs.length = 0
  ·rw [hz] at h1 h2
   simp only [List.getElem?_cons_zero, Option.some.injEq] at h1 h2
   subst h1; subst h2
   exact ⟨hB, n, ho.kept hg (XcM hR ho)⟩
  ·rw [List.getElem?_eq_none (by simp; omega)] at h1
   cases h1
def XB (l : List S144) (x : S58) : List S79 := X7 l x.f0 x.f1 x.f2
def Jg (l : List S144) (x : S58) : Int := Yg l x.f0 x.f1 x.f2
def allE (l : List S144) : List S58 → Int
 | [] => 0
 | x :: r => if Jg l x ≠ 0 then Jg l x else allE l r
theorem XdW {l : List S144} : ∀ {ls : List S58}, (∀ x ∈ ls, Jg l x = 0) → allE l ls = 0
 | [], _ => rfl
 | x :: r, h => by
  unfold allE
  rw [if_neg (by simp [h x (by simp)])]
  exact XdW (fun y hy => h y (by simp [hy]))
theorem Jb {l : List S144} : ∀ {ls : List S58}, allE l ls = 0 → ∀ x ∈ ls, Jg l x = 0
 | x :: r, h, y, hy => by
  unfold allE at h
  by_cases g : Jg l x = 0
  ·rw [if_neg (by simp [g])] at h
   rcases List.mem_cons.1 hy with e | hy
   ·rw [e]; exact g
   ·exact Jb h y hy
  ·rw [if_pos g] at h; exact absurd h g
theorem XfU {l : List S144} {x : S58} {r : List S58} (hx : Jg l x ≠ 0) : ∀ {b : List S58}, (∀ y ∈ b, Jg l y = 0) → allE l (b ++ x :: r) = Jg l x
 | [], _ => by
  show allE l (x :: r) = _
  unfold allE
  rw [if_pos hx]
 | y :: b, h => by
  show allE l (y :: (b ++ x :: r)) = _
  unfold allE
  rw [if_neg (by simp [h y (by simp)])]
  exact XfU hx (fun z hz => h z (by simp [hz]))
set_option maxHeartbeats 40000000 in
set_option maxRecDepth 100000 in
theorem YN (A0 : Option Addr) (c0 : Nat) (l : List S144) (A1 : Option Addr) (c1 : Nat) (ls : List S58) (w : World) (hC : Kd.C k144 w A0 l.length l) (hc0 : l.length ≤ c0) (hlen : l.length ≤ 100) (hl : ∀ x ∈ l, Yq x)
  (hC1 : Kd.C k58 w A1 ls.length ls) (hc1 : ls.length ≤ c1) (hls : ls.length ≤ 1000) :
  Calls Try.prog 75 #[.slice A0 l.length c0, .slice A1 ls.length c1] w fun e w' => ∃ v, e = .returned (.tuple #[v, .int .i64 (allE l ls)]) ∧ Below w.heap.size w w' ∧
   (allE l ls ≠ 0 → v = .slice none 0 0) ∧ (allE l ls = 0 → Jj w' w.heap.size v (ls.map (XB l))) := by
 go_enter Try.func75, Try.ntmps75
 go_wp2
 go_loopw [4, 12] (fun v4 v12 wr => ∃ i : Nat, i ≤ ls.length ∧ v12 = .int .i64 i ∧ (∀ x ∈ ls.take i, Jg l x = 0) ∧ Jj wr w.heap.size v4 ((ls.take i).map (XB l)) ∧ Below w.heap.size w wr)
  (fun _ v12 _ => ls.length - (intOf v12).toNat)
 case atStart => exact ⟨0, Nat.zero_le _, rfl, (fun x hx => by simp at hx), Jj.nil _ _, Below.refl _ _⟩
 case round => as_aux_lemma =>
  obtain ⟨i, hi, rfl, hz, hM, hB⟩ := hrel
  by_cases hlt : i < ls.length
  rotate_left
  ·have p2n : decide (i < ls.length) = false := decide_eq_false hlt
   have p2b : decide ((i : Int) < (ls.length : Int)) = false := decide_eq_false (by omega)
   have hil : i = ls.length := by omega
   rw [hil, List.take_length] at hz hM
   clear hil
   replace hlt := Xa.mk hlt
   have e0 := XdW hz
   replace hz := Xa.mk hz
   replace e0 := Xa.mk e0
   go_wp2
   go_ret2
   rw [e0.out]
   exact ⟨_, rfl, hB, fun q => absurd rfl q, fun _ => hM⟩
  have p2n : decide (i < ls.length) = true := decide_eq_true hlt
  have p2b : decide ((i : Int) < (ls.length : Int)) = true := decide_eq_true (by omega)
  have p2t := eq_true hlt
  obtain ⟨ad, e1, hx0, hx1, hx2⟩ := YW (Kd.C_below hC1 hB) (i : Int) (by omega) (by omega)
  cases e1
  rw [Int.toNat_natCast] at hx0 hx1 hx2
  have hxi : XJ ls (i : Int) = ls[i] := by simp [XJ, hlt]
  have htk : ls.take (i + 1) = ls.take i ++ [XJ ls (i : Int)] := by rw [List.take_succ_eq_append_getElem hlt, hxi]
  have hsp : ls = ls.take i ++ XJ ls (i : Int) :: ls.drop (i + 1) := by rw [hxi, List.getElem_cons_drop, List.take_append_drop]
  generalize XJ ls (i : Int) = x at hx0 hx1 hx2 hxi htk hsp
  obtain ⟨x0, x1, x2⟩ := x
  dsimp only at hx0 hx1 hx2
  replace hlt := Xa.mk hlt
  replace hxi := Xa.mk hxi
  replace htk := Xa.mk htk
  replace hsp := Xa.mk hsp
  replace hz := Xa.mk hz
  obtain ⟨Bs, hR, hBl, hBm⟩ := hM
  obtain ⟨AL, cL, rfl⟩ := Kd.R_slice hR
  replace hBm := Xa.mk hBm
  replace hBl := Xa.mk hBl
  go_upto_region 4 with (first | ((with_reducible refine Xz (N := 7) rfl ?_); refine XH ?hg (N := 7) ?hd (cs := #[.int .i64 0, .int .i64 0, .int .i64 0]) (t := 58) ?hr ?_; (case hd => rfl); (case hg => rfl); (case hr => first | (go_simp; done) | (go_simp; rfl)); intro g3 hg3 w2 hb3 hbb; have hge3 : wr.heap.size ≤ g3 := Nat.le_of_eq hg3.symm; clear hg3; obtain ⟨y0, y1, y2⟩ := bc3 hb3; obtain ⟨f0, f1, f2⟩ := bf3 hb3))
  have hx3 : (((w2.setCell ⟨g3, 0, none⟩ (.int .i64 x0)).setCell ⟨g3, 1, none⟩ (.int .i64 x1)).setCell ⟨g3, 2, none⟩ (.int .i64 x2)).heap[g3]? = some (.cells #[.int .i64 x0, .int .i64 x1, .int .i64 x2] 58 (0, 0)) := bto (bput (bput (bput hb3 0 _) 1 _) 2 _) rfl
  have hbs : Below wr.heap.size wr (((w2.setCell ⟨g3, 0, none⟩ (.int .i64 x0)).setCell ⟨g3, 1, none⟩ (.int .i64 x1)).setCell ⟨g3, 2, none⟩ (.int .i64 x2)) := XC (XC (XC hbb hge3) hge3) hge3
  clear y0 y1 y2 f0 f1 f2 hb3 hbb
  generalize ((w2.setCell ⟨g3, 0, none⟩ (.int .i64 x0)).setCell ⟨g3, 1, none⟩ (.int .i64 x1)).setCell ⟨g3, 2, none⟩ (.int .i64 x2) = w3 at hx3 hbs ⊢
  have hR3 := Kd.R_below hR hbs
  have hBm3 : Xa (∀ (j B : Nat) (ks : List S79), Bs[j]? = some B → ((ls.take i).map (XB l))[j]? = some ks → w.heap.size ≤ B ∧ ∃ n, OwnC w3 B n ks) := ⟨fun j B ks h1 h2 => ⟨(hBm.out j B ks h1 h2).1, (hBm.out j B ks h1 h2).2.imp fun n hn => hn.kept (XG hbs none) (by simp)⟩⟩
  have hB3 := Xi hB hbs
  clear hR hBm hbs hx0 hx1 hx2 hB
  obtain ⟨y0, y1, y2⟩ := bc3 hx3
  have hsz := Xg hB3
  by_cases ce : Jg l ⟨x0, x1, x2⟩ = 0
  rotate_left
  ·have ceb : (Yg l x0 x1 x2 != 0) = true := by simpa [Jg] using ce
   have e0 : allE l ls = Jg l ⟨x0, x1, x2⟩ := by rw [hsp.out]; exact XfU ce hz.out
   replace ce := Xa.mk ce
   replace e0 := Xa.mk e0
   go_wp2_with (go_at_call 69; refine (shop_causes.calls A0 c0 l x0 x1 x2 _ (Kd.C_below hC hB3) hc0 hlen hl).mono ?_; rintro e w4 ⟨v4, rfl, hb, hn0, hz0⟩; replace hB3 := Xi hB3 hb; clear hb hz0 y0 y1 y2)
   go_ret2
   rw [e0.out]
   exact ⟨_, rfl, hB3, fun _ => rfl, fun q => absurd q ce.out⟩
  ·have ceb : (Yg l x0 x1 x2 != 0) = false := by simpa [Jg] using ce
   have ce2 : Xa (Yg l x0 x1 x2 = 0) := ⟨ce⟩
   replace ce := Xa.mk ce
   have hbl : Xa (Bs.length ≤ 1000) := ⟨by have := hBl.out; have := hlt.out; rw [List.length_map, List.length_take] at *; omega⟩
   go_upto_region 7 with (go_at_call 69; refine (shop_causes.calls A0 c0 l x0 x1 x2 _ (Kd.C_below hC hB3) hc0 hlen hl).mono ?_; rintro e w4 ⟨v4, rfl, hb, hn0, hz0⟩; obtain ⟨B, n, rfl, hBge, hown⟩ := hz0 ce2.out; have hR4 := Kd.R_below hR3 hb; have hBm4 : Xa (∀ (j B : Nat) (ks : List S79), Bs[j]? = some B → ((ls.take i).map (XB l))[j]? = some ks → w.heap.size ≤ B ∧ ∃ n, OwnC w4 B n ks) := ⟨fun j B ks h1 h2 => ⟨(hBm3.out j B ks h1 h2).1, (hBm3.out j B ks h1 h2).2.imp fun n hn => hn.kept (XG hb none) (by simp)⟩⟩; replace hB3 := Xi hB3 hb; clear hb hz0 hn0 y0 y1 y2 hR3 hBm3)
   have hBge2 := Nat.le_trans hsz hBge
   replace hown : Xa (OwnC w4 B n (XB l ⟨x0, x1, x2⟩)) := ⟨hown⟩
   go_wp2_with ((with_reducible refine YJ (b := .append) (xs := #[.tmp 25, .tmp 27]) rfl ?_); at_builtin; refine Kd.R_append kMap (w0 := w) w.heap.size rfl (.tmp 25) (.tmp 27) 157 149 (.map none) 8 rfl Try.underlying157 XhY rfl (by decide) (by omega) (.slice AL Bs.length cL) Bs B [.map (some B)] (fun _ => True) (fun _ => False) rfl (by first | (go_simp; done) | (go_simp; rfl)) ?aP (fun _ hk => hk.elim) ?aF ?aO ?aB ?aS ?aL ?_; (case aP => exact rfl); (case aF => exact fun _ _ => trivial); (case aO => exact hR4); (case aB => exact hB3); (case aS => exact Xg hB3); (case aL => have := hbl.out; omega); intro v1 w5 ho hb hg hat)
   have hput := Jj.put hR4 hBl.out hBm4.out hBge2 hown.out hg ho
   go_roundw
   case rel => exact ⟨i + 1, by have := of_eq_true p2t; omega, by go_num, (fun x hx => by rw [htk.out] at hx; rcases List.mem_append.1 hx with q | q; exact hz.out x q; rw [List.mem_singleton] at q; subst q; exact ce.out), by rw [htk.out, List.map_append]; exact hput, hb⟩
   case measure => have := of_eq_true p2t; simp [intOf]; omega
end Go.Proofs.Ytiaiecfnpompcaa.T
namespace Go.Proofs.Ytiaiecfnpompcaa.T
open Go.RowKit Go.Maps Go.Proofs.YtiaiecfnpompcaaW.PrintWords Go.Proofs.YtiaiecfnpompcaaW.PrintLast Go.Proofs.YtiaiecfnpompcaaW.PrintMore
set_option linter.unusedVariables false
set_option linter.unusedSimpArgs false

theorem XaA {w : World} {g t : Nat} {cs : Array Value} (h : w.heap[g]? = some (.cells cs t (0, 0))) : JM w (some ⟨g, 0, none⟩) cs.toList := by
 intro i v hv
 refine ⟨_, rfl, ?_⟩
 have e : (⟨g, 0, none⟩ : Addr).add i = ⟨g, i, none⟩ := by simp [Addr.add]; intro h; exact h.symm
 rw [e, Xe h i]
 simpa using hv
theorem Jv (g : Nat) (A1 A2 : Option Addr) (n1 n2 c1 c2 : Nat) (b : Bool) (w : World) (hL : w.heap[g]? = some (.cells #[.slice A1 n1 c1, .slice A2 n2 c2] 68 (0, 0))) (hb : (decide (40 < n1) || decide (40 < n2)) = b) :
  Calls Try.prog 73 #[.slice (some ⟨g, 0, none⟩) 2 2] w fun e w' => e = .returned (.bool b) ∧ Xq w w' := by
 have h := Xa4 (some ⟨g, 0, none⟩) 2 [(A1, n1, c1), (A2, n2, c2)] w (by simp) (XaA hL)
 have e : ([(A1, n1, c1), (A2, n2, c2)].any fun p => decide ((40 : Int) < (p.2.1 : Int))) = b := by
  rw [← hb]
  simp only [List.any_cons, List.any_nil, Bool.or_false]
  congr 1 <;> (apply decide_eq_decide.2; omega)
 rw [e] at h
 exact h
theorem YL (g : Nat) (A1 : Option Addr) (n1 c1 : Nat) (b : Bool) (w : World) (hL : w.heap[g]? = some (.cells #[.slice A1 n1 c1] 68 (0, 0))) (hb : decide (40 < n1) = b) :
  Calls Try.prog 73 #[.slice (some ⟨g, 0, none⟩) 1 1] w fun e w' => e = .returned (.bool b) ∧ Xq w w' := by
 have h := Xa4 (some ⟨g, 0, none⟩) 1 [(A1, n1, c1)] w (by simp) (XaA hL)
 have e : ([(A1, n1, c1)].any fun p => decide ((40 : Int) < (p.2.1 : Int))) = b := by
  rw [← hb]
  simp only [List.any_cons, List.any_nil, Bool.or_false]
  apply decide_eq_decide.2; omega
 rw [e] at h
 exact h
theorem Xaa {w : World} {base n c : Nat} {A : Option Addr} {Bs : List Nat} {ok : Nat → Prop} (hR : Kd.R kMap 149 w base ok (.slice A n c) Bs) : n = Bs.length ∧ JM w A (Bs.map fun B => .map (some B)) := by
 obtain ⟨h1, _, hC⟩ := Kd.R_reads' hR
 refine ⟨h1, fun i v hv => ?_⟩
 rw [List.getElem?_map] at hv
 obtain ⟨B, hB, rfl⟩ := Option.map_eq_some_iff.1 hv
 have hi : i < Bs.length := (List.getElem?_eq_some_iff.1 hB).1
 obtain ⟨ad, e, hc⟩ := XaX.at_ (Kd.reads_of_C (enc := fun B => Value.map (some B)) (d := (0 : Nat)) (h1 := fun _ => rfl) hC) (i : Int) (by omega) (by omega)
 refine ⟨ad, e, ?_⟩
 rw [Int.toNat_natCast] at hc
 rw [hc]
 simp [rdOf, hB]
theorem XdB {w : World} {B n : Nat} {ks : List S79} (h : OwnC w B n ks) (q : Nat) : OwnC (w.drewN q) B n ks := h
theorem XeH (neg : Bool) {w : World} {base n c g : Nat} {A : Option Addr} {kss : List (List S79)} {x : S79} (hM : Jj w base (.slice A n c) kss) (hok : ∀ ks ∈ kss, ∀ y ∈ ks, okC y) (hk : kss.length ≤ 100000) (hx : okC x)
  (hL : w.heap[g]? = some (.cells #[.int .i64 x.f0, .int .i64 x.f1, .int .i64 x.f2] 79 (0, 0))) :
  Calls Try.prog 99 #[.slice A n c, .func (.func (if neg then 98 else 97)) #[] #[.pointer (some ⟨g, 0, none⟩)]] w fun e w' => e = .returned (.bool (kss.any fun ks => if neg then !decide (x ∈ ks) else decide (x ∈ ks))) ∧ Xq w w' := by
 obtain ⟨Bs, hR, hl, hm⟩ := hM
 obtain ⟨hn, hcell⟩ := Xaa hR
 have e1 : (kss.any fun ks => if neg then !decide (x ∈ ks) else decide (x ∈ ks)) = (kss.map fun ks => if neg then !decide (x ∈ ks) else decide (x ∈ ks)).any id := by rw [List.any_map]; rfl
 rw [e1]
 have hlen : (Bs.map fun B => (.map (some B) : Value)).length = n := by simp [hn]
 have hp : ∀ (i : Nat) (v : Value) (b : Bool), (Bs.map fun B => (.map (some B) : Value))[i]? = some v → (kss.map fun ks => if neg then !decide (x ∈ ks) else decide (x ∈ ks))[i]? = some b → ∃ B n ks, v = .map (some B) ∧ b = (if neg then !decide (x ∈ ks) else decide (x ∈ ks)) ∧ OwnC w B n ks ∧ ∀ y ∈ ks, okC y := by
  intro i v b hv hb
  rw [List.getElem?_map] at hv hb
  obtain ⟨B, hB, rfl⟩ := Option.map_eq_some_iff.1 hv
  obtain ⟨ks, hks, rfl⟩ := Option.map_eq_some_iff.1 hb
  obtain ⟨_, m, ho⟩ := hm i B ks hB hks
  exact ⟨B, m, ks, rfl, rfl, ho, hok ks (List.mem_of_getElem? hks)⟩
 have HC := Xc0 (if neg then 98 else 97) #[.pointer (some ⟨g, 0, none⟩)] (by cases neg; exact enters_of Try.func97 (by kernel_rfl) rfl; exact enters_of Try.func98 (by kernel_rfl) rfl) A c (Bs.map fun B => .map (some B)) (kss.map fun ks => if neg then !decide (x ∈ ks) else decide (x ∈ ks)) w (by simp [hl]) hcell (by rw [hlen, hn, hl]; omega) (by
  intro i v b hv hb q
  obtain ⟨B, m, ks, rfl, rfl, ho, hks⟩ := hp i v b hv hb
  have hL' : (w.drewN q).heap[g]? = _ := hL
  cases neg
  ·exact XgB g B m ks x (w.drewN q) hL' (XdB ho q) hks hx
  ·exact Xeg g B m ks x (w.drewN q) hL' (XdB ho q) hks hx)
 rw [hlen] at HC
 exact HC
def gdB (kss gss : List (List S79)) (x : S79) : Bool := (!(kss.any fun ks => !decide (x ∈ ks))) && !(gss.any fun ks => decide (x ∈ ks))
def XaT (kss gss : List (List S79)) : List S79 := (kss.headD []).filter (gdB kss gss)
def culF (k : Nat) (l : List S144) (bad good : List S58) : Option (List S79 × Int) :=
 (XE.f k l).bind fun e => if e ≠ 0 then some ([], e) else if 40 < bad.length ∨ 40 < good.length then some ([], 5) else if bad.length = 0 then some ([], 7) else
  if l.length ≤ 100 ∧ ∀ x ∈ l, Yq x then (if allE l bad ≠ 0 then some ([], allE l bad) else if allE l good ≠ 0 then some ([], allE l good) else some (XaT (bad.map (XB l)) (good.map (XB l)), 0)) else none

set_option maxHeartbeats 40000000 in
set_option maxRecDepth 100000 in
theorem XcZ (k : Nat) (A0 : Option Addr) (c0 : Nat) (l : List S144) (A1 : Option Addr) (c1 : Nat) (bad : List S58) (A2 : Option Addr) (c2 : Nat) (good : List S58) (r1 : List S79) (r2 : Int) (w : World) (hC : Kd.C k144 w A0 l.length l) (hc0 : l.length ≤ c0)
  (hC1 : Kd.C k58 w A1 bad.length bad) (hc1 : bad.length ≤ c1) (hC2 : Kd.C k58 w A2 good.length good) (hc2 : good.length ≤ c2) (h : culF k l bad good = some (r1, r2)) :
  Calls Try.prog 72 #[.slice A0 l.length c0, .slice A1 bad.length c1, .slice A2 good.length c2] w fun e w' => ∃ v, e = .returned (.tuple #[v, .int .i64 r2]) ∧ Below w.heap.size w w' ∧
   (r2 ≠ 0 → v = .map none ∧ r1 = []) ∧ (r2 = 0 → ∃ B n ks, v = .map (some B) ∧ w.heap.size ≤ B ∧ OwnC w' B n ks ∧ (∀ x ∈ ks, okC x) ∧ ks.length ≤ 1000000 ∧ ∀ x, x ∈ ks ↔ x ∈ r1) := by
 unfold culF at h
 obtain ⟨e1, hck, h⟩ := Option.bind_eq_some_iff.1 h
 replace hck := Xa.mk hck
 have hB := Below.refl w.heap.size w
 by_cases q1 : e1 = 0
 rotate_left
 ·as_aux_lemma =>
  rw [if_pos q1] at h
  injection h with h
  injection h with ha hb
  subst ha; subst hb
  have q1b : (e1 != 0) = true := by simpa using q1
  have q1a := Xa.mk q1
  clear q1
  go_enter Try.func72, Try.ntmps72
  go_wp2_with (go_at_call 32; with_reducible refine (XE.calls k A0 c0 l _ _ (Kd.C_below hC hB) hc0 hck.out).mono ?_; rintro e w4 ⟨rfl, hb⟩; replace hB := Xi hB hb; clear hb)
  go_ret2
  exact ⟨_, rfl, hB, fun _ => (by simp), fun q => absurd q q1a.out⟩
 subst q1
 rw [if_neg (by simp)] at h
 by_cases q2 : 40 < bad.length ∨ 40 < good.length
 ·as_aux_lemma =>
  rw [if_pos q2] at h
  injection h with h
  injection h with ha hb
  subst ha; subst hb
  have hmany : Xa ((decide (40 < bad.length) || decide (40 < good.length)) = true) := ⟨by simpa using q2⟩
  clear q2
  go_enter Try.func72, Try.ntmps72
  go_wp2_with (first | (go_at_call 32; with_reducible refine (XE.calls k A0 c0 l _ _ (Kd.C_below hC hB) hc0 hck.out).mono ?_; rintro e w4 ⟨rfl, hb⟩; replace hB := Xi hB hb; clear hb) | (go_at_call 73; refine (Jv _ A1 A2 bad.length good.length c1 c2 _ _ ?hL hmany.out).mono ?_; (case hL => first | exact (MapKept.heap_alloc _ _).1 | simp); rintro e w5 ⟨rfl, hd⟩; replace hB := (hB.alloc (Xg hB) _).trans (hd.below.mono (Nat.le_trans (Xg hB) (by simp))); clear hd))
  go_ret2
  exact ⟨_, rfl, hB, fun _ => (by simp), fun q => absurd q (by decide)⟩
 rw [if_neg q2] at h
 have hmany : Xa ((decide (40 < bad.length) || decide (40 < good.length)) = false) := ⟨by simpa using q2⟩
 have hls1 : Xa (bad.length ≤ 1000) := ⟨by omega⟩
 have hls2 : Xa (good.length ≤ 1000) := ⟨by omega⟩
 clear q2
 by_cases q3 : bad.length = 0
 ·as_aux_lemma =>
  rw [if_pos q3] at h
  injection h with h
  injection h with ha hb
  subst ha; subst hb
  have q3b : ((bad.length : Int) == 0) = true := beq_iff_eq.mpr (by omega)
  replace q3 := Xa.mk q3
  go_enter Try.func72, Try.ntmps72
  go_wp2_with (first | (go_at_call 32; with_reducible refine (XE.calls k A0 c0 l _ _ (Kd.C_below hC hB) hc0 hck.out).mono ?_; rintro e w4 ⟨rfl, hb⟩; replace hB := Xi hB hb; clear hb) | (go_at_call 73; refine (Jv _ A1 A2 bad.length good.length c1 c2 _ _ ?hL hmany.out).mono ?_; (case hL => first | exact (MapKept.heap_alloc _ _).1 | simp); rintro e w5 ⟨rfl, hd⟩; replace hB := (hB.alloc (Xg hB) _).trans (hd.below.mono (Nat.le_trans (Xg hB) (by simp))); clear hd))
  go_ret2
  exact ⟨_, rfl, hB, fun _ => (by simp), fun q => absurd q (by decide)⟩
 rw [if_neg q3] at h
 have q3b : ((bad.length : Int) == 0) = false := beq_eq_false_iff_ne.mpr (by omega)
 replace q3 := Xa.mk q3
 by_cases hp : l.length ≤ 100 ∧ ∀ x ∈ l, Yq x
 rotate_left
 ·rw [if_neg hp] at h; cases h
 rw [if_pos hp] at h
 replace hp := Xa.mk hp
 by_cases q4 : allE l bad = 0
 rotate_left
 ·as_aux_lemma =>
  rw [if_pos q4] at h
  injection h with h
  injection h with ha hb
  subst ha; subst hb
  have q4b : (allE l bad != 0) = true := by simpa using q4
  replace q4 := Xa.mk q4
  go_enter Try.func72, Try.ntmps72
  go_wp2_with (first | (go_at_call 32; with_reducible refine (XE.calls k A0 c0 l _ _ (Kd.C_below hC hB) hc0 hck.out).mono ?_; rintro e w4 ⟨rfl, hb⟩; replace hB := Xi hB hb; clear hb) | (go_at_call 73; refine (Jv _ A1 A2 bad.length good.length c1 c2 _ _ ?hL hmany.out).mono ?_; (case hL => first | exact (MapKept.heap_alloc _ _).1 | simp); rintro e w5 ⟨rfl, hd⟩; replace hB := (hB.alloc (Xg hB) _).trans (hd.below.mono (Nat.le_trans (Xg hB) (by simp))); clear hd) | (go_at_call 75; with_reducible refine (YN A0 c0 l A1 c1 bad _ (Kd.C_below hC hB) hc0 hp.out.1 hp.out.2 (Kd.C_below hC1 hB) hc1 hls1.out).mono ?_; rintro e w6 ⟨vx, rfl, hb, hn0, hz0⟩; have hszB := Xg hB; replace hB := Xi hB hb; clear hb))
  go_ret2
  exact ⟨_, rfl, hB, fun _ => (by simp), fun q => absurd q q4.out⟩
 rw [if_neg (by simpa using q4)] at h
 have q4b : (allE l bad != 0) = false := by simpa using q4
 replace q4 := Xa.mk q4
 by_cases q5 : allE l good = 0
 rotate_left
 ·as_aux_lemma =>
  rw [if_pos q5] at h
  injection h with h
  injection h with ha hb
  subst ha; subst hb
  have q5b : (allE l good != 0) = true := by simpa using q5
  replace q5 := Xa.mk q5
  go_enter Try.func72, Try.ntmps72
  go_upto_region 9 with (first | (go_at_call 32; with_reducible refine (XE.calls k A0 c0 l _ _ (Kd.C_below hC hB) hc0 hck.out).mono ?_; rintro e w4 ⟨rfl, hb⟩; replace hB := Xi hB hb; clear hb) | (go_at_call 73; refine (Jv _ A1 A2 bad.length good.length c1 c2 _ _ ?hL hmany.out).mono ?_; (case hL => first | exact (MapKept.heap_alloc _ _).1 | simp); rintro e w5 ⟨rfl, hd⟩; replace hB := (hB.alloc (Xg hB) _).trans (hd.below.mono (Nat.le_trans (Xg hB) (by simp))); clear hd) | (go_at_call 75; with_reducible refine (YN A0 c0 l A1 c1 bad _ (Kd.C_below hC hB) hc0 hp.out.1 hp.out.2 (Kd.C_below hC1 hB) hc1 hls1.out).mono ?_; rintro e w6 ⟨vx, rfl, hb, hn0, hz0⟩; have hszB := Xg hB; replace hB := Xi hB hb; clear hb))
  have hMx := Xa.mk (hz0 q4.out)
  clear hn0 hz0
  go_wp2_with (go_at_call 75; with_reducible refine (YN A0 c0 l A2 c2 good _ (Kd.C_below hC hB) hc0 hp.out.1 hp.out.2 (Kd.C_below hC2 hB) hc2 hls2.out).mono ?_; rintro e w7 ⟨vy, rfl, hb, hn1, hz1⟩; have hszG := Xg hB; have hMx2 := hMx.out.below hb; replace hB := Xi hB hb; clear hb)
  go_ret2
  exact ⟨_, rfl, hB, fun _ => (by simp), fun q => absurd q q5.out⟩
 rw [if_neg (by simpa using q5)] at h
 have q5b : (allE l good != 0) = false := by simpa using q5
 replace q5 := Xa.mk q5
 injection h with h
 injection h with ha hb
 subst ha; subst hb
 clear h
 have hkok : ∀ (ls : List S58), allE l ls = 0 → ∀ ks ∈ ls.map (XB l), (∀ y ∈ ks, okC y) ∧ ks.length ≤ 1000000 := by
  intro ls h0 ks hks
  obtain ⟨x, hx, rfl⟩ := List.mem_map.1 hks
  obtain ⟨t1, t2⟩ := Xai (Jb h0 x hx)
  have hlen := XaD t2
  exact ⟨Xal hp.out.2 t1, by unfold XB; have := hp.out.1; omega⟩
 have hok1 := hkok bad q4.out
 have hok2 := hkok good q5.out
 clear hkok
 obtain ⟨kss, hkss⟩ : ∃ kss, bad.map (XB l) = kss := ⟨_, rfl⟩
 obtain ⟨gss, hgss⟩ : ∃ gss, good.map (XB l) = gss := ⟨_, rfl⟩
 rw [hkss] at hok1
 rw [hgss] at hok2
 rw [hkss, hgss]
 have hkl : Xa (kss.length ≤ 1000 ∧ gss.length ≤ 1000 ∧ kss.length ≠ 0) := ⟨by rw [← hkss, ← hgss, List.length_map, List.length_map]; exact ⟨hls1.out, hls2.out, q3.out⟩⟩
 obtain ⟨K0, kr, hk0⟩ : ∃ K0 kr, kss = K0 :: kr := List.exists_cons_of_ne_nil (fun e => hkl.out.2.2 (by rw [e]; rfl))
 have hokK := hok1 K0 (by rw [hk0]; simp)
 obtain ⟨hokK, hlenK⟩ := hokK
 replace hlenK := Xa.mk hlenK
 replace hkss := Xa.mk hkss
 replace hgss := Xa.mk hgss
 replace hok1 := Xa.mk hok1
 replace hok2 := Xa.mk hok2
 replace hk0 := Xa.mk hk0
 go_enter Try.func72, Try.ntmps72
 go_upto_region 9 with (first | (go_at_call 32; with_reducible refine (XE.calls k A0 c0 l _ _ (Kd.C_below hC hB) hc0 hck.out).mono ?_; rintro e w4 ⟨rfl, hb⟩; replace hB := Xi hB hb; clear hb) | (go_at_call 73; refine (Jv _ A1 A2 bad.length good.length c1 c2 _ _ ?hL hmany.out).mono ?_; (case hL => first | exact (MapKept.heap_alloc _ _).1 | simp); rintro e w5 ⟨rfl, hd⟩; replace hB := (hB.alloc (Xg hB) _).trans (hd.below.mono (Nat.le_trans (Xg hB) (by simp))); clear hd) | (go_at_call 75; with_reducible refine (YN A0 c0 l A1 c1 bad _ (Kd.C_below hC hB) hc0 hp.out.1 hp.out.2 (Kd.C_below hC1 hB) hc1 hls1.out).mono ?_; rintro e w6 ⟨vx, rfl, hb, hn0, hz0⟩; have hszB := Xg hB; replace hB := Xi hB hb; clear hb))
 have hMx := Xa.mk (hz0 q4.out)
 clear hn0 hz0
 go_upto_region 14 with (go_at_call 75; with_reducible refine (YN A0 c0 l A2 c2 good _ (Kd.C_below hC hB) hc0 hp.out.1 hp.out.2 (Kd.C_below hC2 hB) hc2 hls2.out).mono ?_; rintro e w7 ⟨vy, rfl, hb, hn1, hz1⟩; have hszG := Xg hB; have hMx2 := hMx.out.below hb; replace hB := Xi hB hb; clear hb)
 have hMy := hz1 q5.out
 clear hn1 hz1 hMx
 have hMx := hMx2.lower hszB
 replace hMy := hMy.lower hszG
 clear hMx2
 rw [hkss.out] at hMx
 rw [hgss.out] at hMy
 have hmm := @run_makeMap Try.prog
 go_upto_region 15 with fail
 clear hmm
 have hout0 : (w7.alloc (.map #[] 0)).ownsMap Try.prog 79 (plainElem (H := Unit) Try.prog 4) w7.heap.size 0 (setC []) := by rw [Xeu]; exact World.ownsMap_made _ _ _ _
 have hb0 : Below w7.heap.size w7 (w7.alloc (.map #[] 0)) := (Below.refl _ _).alloc (Nat.le_refl _) _
 have hs8 : (w7.alloc (.map #[] 0)).heap.size = w7.heap.size + 1 := by simp
 have hBo := Xg hB
 have hMxW : ∀ wr, Below w7.heap.size w7 wr → Jj wr w.heap.size vx kss := fun wr h => hMx.below h
 have hMyW : ∀ wr, Below w7.heap.size w7 wr → Jj wr w.heap.size vy gss := fun wr h => hMy.below h
 have hBW : ∀ wr, Below w7.heap.size w7 wr → Below w.heap.size w wr := fun wr h => Xi hB h
 obtain ⟨Bs, hRx, hlx, hmx⟩ := hMx
 obtain ⟨B0, hB0⟩ : ∃ B0, Bs[0]? = some B0 := ⟨Bs[0]'(by have := hkl.out.2.2; omega), by simp⟩
 obtain ⟨hB0b, n0, hown0⟩ := hmx 0 B0 K0 hB0 (by rw [hk0.out]; rfl)
 have hB0lt := hown0.lt
 obtain ⟨Ax, cx, rfl⟩ := Kd.R_slice hRx
 obtain ⟨_, hcx⟩ := Xaa hRx
 obtain ⟨adx, rfl, hcell0⟩ := hcx 0 (.map (some B0)) (by rw [List.getElem?_map, hB0]; rfl)
 clear hcx hmx
 have hcell8 : (w7.alloc (.map #[] 0)).cell? (adx.add 0) = some (.map (some B0)) := (hb0.cell (World.block_lt_of_cell? w7 _ hcell0)).trans hcell0
 have hown8 : OwnC (w7.alloc (.map #[] 0)) B0 n0 K0 := hown0.alloc _
 rw [hlx] at *
 obtain ⟨Ay, cy, hvy⟩ : ∃ A c, vy = .slice A gss.length c := by obtain ⟨Bs', hR', hl', _⟩ := hMy; obtain ⟨A, c, rfl⟩ := Kd.R_slice hR'; exact ⟨A, c, by rw [hl']⟩
 subst hvy
 clear hMy hRx hlx hcell0 hown0 hB hB0
 generalize hW8 : w7.alloc (.map #[] 0) = w8 at hout0 hb0 hs8 hcell8 hown8 ⊢
 clear hW8
 generalize hBoe : w7.heap.size = Bo at hout0 hb0 hs8 hMxW hMyW hBW hBo hB0lt ⊢
 replace hs8 := Xa.mk hs8
 replace hBo := Xa.mk hBo
 replace hB0lt := Xa.mk hB0lt
 replace hBoe := Xa.mk hBoe
 have p0n : decide (0 < kss.length) = true := decide_eq_true (by have := hkl.out.2.2; omega)
 have p0i : decide ((0 : Int) < (kss.length : Int)) = true := decide_eq_true (by have := hkl.out.2.2; omega)
 have p0t : (0 < kss.length) = True := eq_true (by have := hkl.out.2.2; omega)
 have e0 : adx.add 0 = adx := by cases adx with | mk b o s => cases s <;> simp [Addr.add]
 rw [e0] at hcell8
 go_wp2_with (first | (at_range; refine wpList_range_own _ rfl _ 149 rfl 79 4 JQ Try.underlying149 _ B0 n0 _ rfl hown8 ?_; intro w9 hrg0 hg0 hs0) | go_in)
 have hb9 : Below Bo w7 w9 := hb0.grown hg0 (by have := hs8.out; omega) (fun j hj => by cases hj)
 have hout9 := hout0.kept hg0 (by simp)
 have hitl : Xa (Bo < w8.heap.size) := ⟨by have := hs8.out; omega⟩
 replace hs0 := Xa.mk hs0
 clear hout0 hb0 hcell8 hown8 hg0 e0
 generalize w8.heap.size = it at hrg0 hitl hs0 ⊢
 go_loopw [52] (fun _ wr => ∃ (left : Lit → Bool) (cnt : Nat) (ks : List S79), wr.ranges Try.prog 79 (plainElem (H := Unit) Try.prog 4) B0 it n0 (setC K0) left cnt ∧
   OwnC wr Bo ks.length ks ∧ (∀ x ∈ ks, okC x ∧ x ∈ K0 ∧ gdB kss gss x = true ∧ left (litC x) = false) ∧ ks.Nodup ∧ (∀ x ∈ K0, gdB kss gss x = true → left (litC x) = false → x ∈ ks) ∧ Below Bo w7 wr ∧ it < wr.heap.size)
  (fun _ wr => wr.rangeLeft B0 it)
 case atStart => exact ⟨_, _, [], hrg0, hout9, (fun x hx => by simp at hx), by simp, (fun x hx _ hf => by rw [XbH hokK (hokK x hx), decide_eq_false_iff_not] at hf; exact absurd hx hf), hb9, by have := hs0.out; omega⟩
 case round => as_aux_lemma =>
  clear hrg0 hs0 hb9 hout9
  obtain ⟨left, cnt, ks, hrg, hown, hin, hnd, hall, hBl, hsz⟩ := hrel
  have hsub : ks.length ≤ (XD K0).length := by
   obtain ⟨t1, t2⟩ := Y2 K0 [] (by simp)
   have hperm : ks.Perm ((XD K0).filter fun x => decide (x ∈ ks)) := by
    refine (List.perm_ext_iff_of_nodup hnd (List.Pairwise.filter _ t1)).2 (fun x => ?_)
    rw [List.mem_filter, decide_eq_true_eq]
    exact ⟨fun hx => ⟨(t2 x).2 (.inr (hin x hx).2.1), hx⟩, fun hx => hx.2⟩
   rw [hperm.length_eq]
   exact List.length_filter_le _ _
  have hdl := Jo K0 []
  have hll : ks.length ≤ 1000000 := by unfold XD at hsub; simp at hdl; have := hlenK.out; omega
  clear hsub hdl
  replace hll := Xa.mk hll
  replace hin := Xa.mk hin
  replace hall := Xa.mk hall
  replace hnd := Xa.mk hnd
  go_wp2_with (first | (at_next; refine wpList_next_ranges _ rfl _ rfl 79 JQ (plainElem (H := Unit) Try.prog 4) vC mkB Xhe Xif B0 it n0 _ _ _ rfl hrg ?_ ?_) | go_in)
  ·intro hc0 hl0
   replace hl0 := Xa.mk hl0
   go_wp2
   go_ret2
   refine ⟨_, rfl, hBW _ hBl, fun q => absurd rfl q, fun _ => ⟨Bo, ks.length, ks, rfl, hBo.out, hown, fun x hx => (hin.out x hx).1, hll.out, fun x => ?_⟩⟩
   unfold XaT
   rw [hk0.out, List.headD_cons, List.mem_filter]
   constructor
   ·intro hx
    obtain ⟨_, t2, t3, _⟩ := hin.out x hx
    refine ⟨t2, ?_⟩
    rw [hk0.out] at t3
    exact t3
   ·rintro ⟨t2, t3⟩
    refine hall.out x t2 ?_ (hl0.out _)
    rw [hk0.out]
    exact t3
  ·intro x c kl ya yb w1 cnt1 hkey hlk hv hat hrg1 hlt hg1 hs1 hen
   have hox := XcG hkey
   have ekl : kl = litC x := by have h2 := hkey.symm.trans (J2 hox); injection h2
   subst ekl
   have hxk : x ∈ K0 := by have h2 := has_true_of_atKey hat; rw [XbH hokK hox, decide_eq_true_eq] at h2; exact h2
   have hown1 := hown.kept hg1 (by have := hitl.out; intro e; injection e with e; omega)
   have hBl1 := hBl.grown hg1 (by have := hitl.out; omega) (fun j hj => by cases hj; exact Nat.le_of_lt hitl.out)
   have hen' : (Instr.entry (.pointer (some ⟨it, 0, none⟩))).run Try.prog w1 = .ok (.tuple #[.agg #[.int .i64 x.f0, .int .i64 x.f1, .int .i64 x.f2], mkB c]) w1 := hen
   clear hen hg1 hown hBl
   replace hs1 := Xa.mk hs1
   go_upto_region 18 with (first | ((with_reducible refine Xz (N := 11) rfl ?_); refine XH ?hg (N := 11) ?hd (cs := #[.int .i64 0, .int .i64 0, .int .i64 0]) (t := 79) ?hr ?_; (case hd => rfl); (case hg => rfl); (case hr => first | (go_simp; done) | (go_simp; rfl)); intro g3 hg3 w2 hb3 hbb; have hge3 : w1.heap.size ≤ g3 := Nat.le_of_eq hg3.symm; clear hg3; obtain ⟨y0, y1, y2⟩ := bc3 hb3; obtain ⟨f0, f1, f2⟩ := bf3 hb3))
   have hx3 : (((w2.setCell ⟨g3, 0, none⟩ (.int .i64 x.f0)).setCell ⟨g3, 1, none⟩ (.int .i64 x.f1)).setCell ⟨g3, 2, none⟩ (.int .i64 x.f2)).heap[g3]? = some (.cells #[.int .i64 x.f0, .int .i64 x.f1, .int .i64 x.f2] 79 (0, 0)) := bto (bput (bput (bput hb3 0 _) 1 _) 2 _) rfl
   have hbs : Below w1.heap.size w1 (((w2.setCell ⟨g3, 0, none⟩ (.int .i64 x.f0)).setCell ⟨g3, 1, none⟩ (.int .i64 x.f1)).setCell ⟨g3, 2, none⟩ (.int .i64 x.f2)) := XC (XC (XC hbb hge3) hge3) hge3
   clear y0 y1 y2 f0 f1 f2 hb3 hbb
   generalize ((w2.setCell ⟨g3, 0, none⟩ (.int .i64 x.f0)).setCell ⟨g3, 1, none⟩ (.int .i64 x.f1)).setCell ⟨g3, 2, none⟩ (.int .i64 x.f2) = w3 at hx3 hbs ⊢
   have hrg3 := hrg1.kept (XG hbs none) (by simp) (by simp)
   have hown3 := hown1.kept (XG hbs none) (by simp)
   have hle1 : Xa (Bo ≤ w1.heap.size) := ⟨by have := hitl.out; have := hs1.out; omega⟩
   have hBl3 := hBl1.trans (hbs.mono hle1.out)
   have hle3 : Xa (Bo ≤ w3.heap.size) := ⟨by have := Xg hbs; have := hle1.out; omega⟩
   have hsz3 := Xa.mk (Xg hbs)
   clear hbs hown1 hBl1
   have hM1 := XeH true (hMxW _ hBl3) (fun ks h => (hok1.out ks h).1) (by have := hkl.out.1; omega) hox hx3
   have hkx : keyOf Try.prog 79 (.agg #[.int .i64 x.f0, .int .i64 x.f1, .int .i64 x.f2]) = some (litC x) := J2 hox
   have hgd : gdB kss gss x = ((!(kss.any fun ks => !decide (x ∈ ks))) && !(gss.any fun ks => decide (x ∈ ks))) := rfl
   have hM1' : Calls Try.prog 99 #[.slice (some adx) kss.length cx, .func (.func 98) #[] #[.pointer (some ⟨g3, 0, none⟩)]] w3 fun e w' => e = .returned (.bool (kss.any fun ks => !decide (x ∈ ks))) ∧ Xq w3 w' := hM1
   clear hM1
   cases hb1 : (kss.any fun ks => !decide (x ∈ ks)) with
   | true =>
    have hg0 : Xa (gdB kss gss x = false) := ⟨by rw [hgd, hb1]; rfl⟩
    rw [hb1] at hM1'
    replace hM1' := Xa.mk hM1'
    clear hgd hb1
    go_wp2_with (go_at_call 99; with_reducible refine (hM1'.out).mono ?_; rintro e w4 ⟨rfl, hd⟩; have hb4 := hd.below; clear hd)
    have hrg4 := hrg3.kept (XG hb4 none) (by simp) (by simp)
    have hown4 := hown3.kept (XG hb4 none) (by simp)
    have hBl4 := hBl3.trans (hb4.mono hle3.out)
    have hsz4 : it < w4.heap.size := by have := Xg hb4; have := hsz3.out; have := hs1.out; omega
    go_roundw
    case rel => exact ⟨_, cnt1, ks, hrg4, hown4, (fun z hz => ⟨(hin.out z hz).1, (hin.out z hz).2.1, (hin.out z hz).2.2.1, by rw [(hin.out z hz).2.2.2]; rfl⟩), hnd.out, (fun z hz hzg hf => by by_cases e : z = x; subst e; rw [hg0.out] at hzg; cases hzg; refine hall.out z hz hzg ?_; rw [YH (hokK z hz) hox, decide_eq_false e] at hf; simpa using hf), hBl4, hsz4⟩
    case measure => rw [hrg4.left_eq, hrg.left_eq]; exact hlt
   | false =>
    rw [hb1] at hM1'
    have hM2W : ∀ wq, Below w3.heap.size w3 wq → Calls Try.prog 99 #[.slice Ay gss.length cy, .func (.func 97) #[] #[.pointer (some ⟨g3, 0, none⟩)]] wq fun e w' => e = .returned (.bool (gss.any fun ks => decide (x ∈ ks))) ∧ Xq wq w' := fun wq hq => XeH false (hMyW _ (hBl3.trans (hq.mono hle3.out))) (fun ks h => (hok2.out ks h).1) (by have := hkl.out.2.1; omega) hox (Xu hx3 hq)
    cases hb2 : (gss.any fun ks => decide (x ∈ ks)) with
    | true =>
     have hg0 : Xa (gdB kss gss x = false) := ⟨by rw [hgd, hb2]; simp⟩
     rw [hb2] at hM2W
     replace hM1' := Xa.mk hM1'
     replace hM2W := Xa.mk hM2W
     clear hgd hb1 hb2
     go_wp2_with (first | (go_at_call 99; with_reducible refine (hM1'.out).mono ?_; rintro e w4 ⟨rfl, hd⟩; have hb4 := hd.below; clear hd) | (go_at_call 99; with_reducible refine (hM2W.out _ hb4).mono ?_; rintro e w5 ⟨rfl, hd⟩; have hb5 := hd.below; clear hd))
     have hb2 := Xi hb4 hb5
     have hrg4 := hrg3.kept (XG hb2 none) (by simp) (by simp)
     have hown4 := hown3.kept (XG hb2 none) (by simp)
     have hBl4 := hBl3.trans (hb2.mono hle3.out)
     have hsz4 : it < w5.heap.size := by have := Xg hb2; have := hsz3.out; have := hs1.out; omega
     go_roundw
     case rel => exact ⟨_, cnt1, ks, hrg4, hown4, (fun z hz => ⟨(hin.out z hz).1, (hin.out z hz).2.1, (hin.out z hz).2.2.1, by rw [(hin.out z hz).2.2.2]; rfl⟩), hnd.out, (fun z hz hzg hf => by by_cases e : z = x; subst e; rw [hg0.out] at hzg; cases hzg; refine hall.out z hz hzg ?_; rw [YH (hokK z hz) hox, decide_eq_false e] at hf; simpa using hf), hBl4, hsz4⟩
     case measure => rw [hrg4.left_eq, hrg.left_eq]; exact hlt
    | false =>
     have hg0 : Xa (gdB kss gss x = true) := ⟨by rw [hgd, hb1, hb2]; rfl⟩
     rw [hb2] at hM2W
     replace hM1' := Xa.mk hM1'
     replace hM2W := Xa.mk hM2W
     replace hkx := Xa.mk hkx
     clear hgd hb1 hb2
     go_upto_region 21 with (first | (go_at_call 99; with_reducible refine (hM1'.out).mono ?_; rintro e w4 ⟨rfl, hd⟩; have hb4 := hd.below; clear hd) | (go_at_call 99; with_reducible refine (hM2W.out _ hb4).mono ?_; rintro e w5 ⟨rfl, hd⟩; have hb5 := hd.below; clear hd))
     have hb2 := Xi hb4 hb5
     have hrg4 := hrg3.kept (XG hb2 none) (by simp) (by simp)
     have hown4 := hown3.kept (XG hb2 none) (by simp)
     have hBl4 := hBl3.trans (hb2.mono hle3.out)
     have hsz4 : it < w5.heap.size := by have := Xg hb2; have := hsz3.out; have := hs1.out; omega
     have hx5 := Xu hx3 hb2
     obtain ⟨y0, y1, y2⟩ := bc3 hx5
     go_wp2_with (at_mapUpdate; refine wpList_mapUpdate_own _ rfl _ _ _ 149 rfl 79 4 JQ Try.underlying149 (plainElem (H := Unit) Try.prog 4) Bo ks.length _ rfl hown4 (by have := hll.out; unfold maxLen; omega) _ _ _ rfl rfl hkx.out _ [] (plainElem_bool Try.underlying4 true) ?_; intro w6 hown6 hgrow6)
     have hrg6 := hrg4.kept hgrow6 (by have := hB0lt.out; intro e; injection e with e; omega) (by have := hitl.out; intro e; injection e with e; omega)
     have hBl6 := hBl4.grown hgrow6 (by have := hitl.out; omega) (fun j hj => by cases hj; exact Nat.le_refl _)
     rw [← XaK] at hown6
     have hsz6 := hgrow6.size
     (try simp only [Act.put])
     go_roundw
     case rel => exact ⟨_, cnt1, ks ++ [x], hrg6, by rw [List.length_append]; exact hown6, (fun z hz => by rcases List.mem_append.1 hz with q | q; exact ⟨(hin.out z q).1, (hin.out z q).2.1, (hin.out z q).2.2.1, by rw [(hin.out z q).2.2.2]; rfl⟩; rw [List.mem_singleton] at q; subst q; exact ⟨hox, hxk, hg0.out, by rw [YH hox hox]; simp⟩), (by rw [List.nodup_append]; refine ⟨hnd.out, by simp, ?_⟩; intro a ha b hb3 e; rw [List.mem_singleton] at hb3; subst hb3; subst e; have := (hin.out _ ha).2.2.2; rw [hlk] at this; exact absurd this (by decide)), (fun z hz hzg hf => by by_cases e : z = x; subst e; simp; refine List.mem_append_left _ (hall.out z hz hzg ?_); rw [YH (hokK z hz) hox, decide_eq_false e] at hf; simpa using hf), hBl6, by omega⟩
     case measure => rw [hrg6.left_eq, hrg.left_eq]; exact hlt
end Go.Proofs.Ytiaiecfnpompcaa.T
namespace Go.Proofs.Ytiaiecfnpompcaa.T
open Go.RowKit Go.Maps Go.Proofs.YtiaiecfnpompcaaW.PrintWords Go.Proofs.YtiaiecfnpompcaaW.PrintLast Go.Proofs.YtiaiecfnpompcaaW.PrintMore
set_option linter.unusedVariables false
set_option linter.unusedSimpArgs false

attribute [local go_sem] XX XW X6 X5
def cntC (ks qs : List S79) : Nat := ((XD ks).filter fun x => decide (x ∈ qs)).length
def YY (ks qs : List S79) : Int := mx (cntC ks qs : Int) (((XD ks).length : Int) - (cntC ks qs : Int))
theorem Yz (ks : List S79) : (XD ks).Nodup ∧ ∀ y, y ∈ XD ks ↔ y ∈ ks := by
 obtain ⟨h1, h2⟩ := Y2 ks [] (by simp)
 exact ⟨h1, fun y => by unfold XD; rw [h2]; simp⟩
theorem JJ {a b : List S79} (h : ∀ x, x ∈ a ↔ x ∈ b) : (XD a).Perm (XD b) :=
 (List.perm_ext_iff_of_nodup (Yz a).1 (Yz b).1).2 fun x => by rw [(Yz a).2, (Yz b).2, h]
theorem XgL {a b : List S79} (h : ∀ x, x ∈ a ↔ x ∈ b) (qs : List S79) : YY a qs = YY b qs := by
 have hp := JJ h
 unfold YY cntC
 rw [(hp.filter _).length_eq, hp.length_eq]
set_option maxHeartbeats 40000000 in
set_option maxRecDepth 100000 in
theorem Xbn (B n C m : Nat) (ks qs : List S79) (w : World) (hown : OwnC w B n ks) (hok : ∀ x ∈ ks, okC x) (hlen : ks.length ≤ 1000000) (hq : OwnC w C m qs) (hqk : ∀ x ∈ qs, okC x) :
  Calls Try.prog 76 #[.map (some B), .map (some C)] w fun e w' => e = .returned (.int .i64 (YY ks qs)) ∧ Below w.heap.size w w' := by
 have hownW : ∀ wr, Below w.heap.size w wr → OwnC wr B n ks := fun wr h => hown.kept (XG h none) (by simp)
 have hqW : ∀ wr, Below w.heap.size w wr → OwnC wr C m qs := fun wr h => hq.kept (XG h none) (by simp)
 clear hq
 go_enter Try.func76, Try.ntmps76
 go_wp2_with (first | (at_range; refine wpList_range_own _ rfl _ 149 rfl 79 4 JQ Try.underlying149 _ B n _ rfl hown ?_; intro w0 hrg0 hg0 hs0) | go_in)
 have hb0 : Below w.heap.size w w0 := (Below.refl _ _).grown hg0 (Nat.le_refl _) (fun j hj => by cases hj)
 clear hg0 hown
 go_frame
 go_loopw [5] (fun v5 wr => ∃ (left : Lit → Bool) (cnt : Nat) (vs : List S79), v5 = .int .i64 ((vs.filter fun x => decide (x ∈ qs)).length : Int) ∧ wr.ranges Try.prog 79 (plainElem (H := Unit) Try.prog 4) B w.heap.size n (setC ks) left cnt ∧
   (∀ x ∈ vs, okC x ∧ x ∈ ks ∧ left (litC x) = false) ∧ vs.Nodup ∧ (∀ x ∈ ks, left (litC x) = false → x ∈ vs) ∧ Below w.heap.size w wr ∧ w.heap.size < wr.heap.size)
  (fun _ wr => wr.rangeLeft B w.heap.size)
 case atStart => exact ⟨_, _, [], rfl, hrg0, (fun x hx => by simp at hx), by simp, (fun x hx hf => by rw [XbH hok (hok x hx), decide_eq_false_iff_not] at hf; exact absurd hx hf), hb0, by omega⟩
 case round => as_aux_lemma =>
  clear hrg0 hs0 hb0
  obtain ⟨left, cnt, vs, rfl, hrg, hin, hnd, hall, hB, hsz⟩ := hrel
  have hsub : vs.length ≤ (XD ks).length := by
   obtain ⟨t1, t2⟩ := Yz ks
   have hperm : vs.Perm ((XD ks).filter fun x => decide (x ∈ vs)) := by
    refine (List.perm_ext_iff_of_nodup hnd (List.Pairwise.filter _ t1)).2 (fun x => ?_)
    rw [List.mem_filter, decide_eq_true_eq]
    exact ⟨fun hx => ⟨(t2 x).2 (hin x hx).2.1, hx⟩, fun hx => hx.2⟩
   rw [hperm.length_eq]
   exact List.length_filter_le _ _
  have hdl := Jo ks []
  have hfl := List.length_filter_le (fun x => decide (x ∈ qs)) vs
  have hll : (vs.filter fun x => decide (x ∈ qs)).length ≤ 1000000 := by unfold XD at hsub; simp at hdl; omega
  clear hsub hdl hfl
  replace hll := Xa.mk hll
  replace hin := Xa.mk hin
  replace hall := Xa.mk hall
  replace hnd := Xa.mk hnd
  generalize hN : ((vs.filter fun x => decide (x ∈ qs)).length : Int) = N
  have hNb : 0 ≤ N ∧ N ≤ 1000000 := by have := hll.out; omega
  replace hN := Xa.mk hN
  go_wp2_with (first | (at_next; refine wpList_next_ranges _ rfl _ rfl 79 JQ (plainElem (H := Unit) Try.prog 4) vC mkB Xhe Xif B w.heap.size n _ _ _ rfl hrg ?_ ?_) | go_in)
  ·intro hc0 hl0
   have hown := hownW _ hB
   have hperm : vs.Perm (XD ks) := (List.perm_ext_iff_of_nodup hnd.out (Yz ks).1).2 fun x => by
    rw [(Yz ks).2]
    exact ⟨fun hx => (hin.out x hx).2.1, fun hx => hall.out x hx (hl0 _)⟩
   have e1 : N = (cntC ks qs : Int) := by rw [← hN.out]; unfold cntC; rw [(hperm.filter _).length_eq]
   have e2 : Maps.size (setC ks) = ((XD ks).length : Int) := XaJ hok
   have e3 : cntC ks qs ≤ (XD ks).length := by unfold cntC; exact List.length_filter_le _ _
   have e4 : (XD ks).length ≤ 1000000 := by have := Jo ks []; unfold XD; simp at this; omega
   have hfin : mx N (wrap64 (Maps.size (setC ks) - N)) = YY ks qs := by
    unfold YY
    rw [e1, e2, YD (by omega) (by omega)]
   replace hfin := Xa.mk hfin
   clear e1 e2 e3 e4
   replace hperm := Xa.mk hperm
   replace hl0 := Xa.mk hl0
   go_wp2_with (first | (at_len; refine wpList_len_own _ rfl _ 149 rfl 79 4 Try.underlying149 _ B n _ rfl hown ?_) | go_in)
   all_goals
    go_ret
    refine ⟨?_, hB⟩
    rw [← hfin.out]
    unfold mx
    first
     | (rw [if_pos (by omega)]; rfl)
     | (rw [if_neg (by omega)]; rfl)
  ·intro x c kl ya yb w1 cnt1 hkey hlk hv hat hrg1 hlt hg1 hs1 hen
   have hox := XcG hkey
   have ekl : kl = litC x := by have h2 := hkey.symm.trans (J2 hox); injection h2
   subst ekl
   have hxk : x ∈ ks := by have h2 := has_true_of_atKey hat; rw [XbH hok hox, decide_eq_true_eq] at h2; exact h2
   have hB1 := hB.grown hg1 hB.size (fun j hj => by cases hj; exact Nat.le_refl _)
   have hen' : (Instr.entry (.pointer (some ⟨w.heap.size, 0, none⟩))).run Try.prog w1 = .ok (.tuple #[.agg #[.int .i64 x.f0, .int .i64 x.f1, .int .i64 x.f2], mkB c]) w1 := hen
   clear hen hg1
   replace hs1 := Xa.mk hs1
   go_upto_region 5 with (first | ((with_reducible refine Xz (N := 6) rfl ?_); refine XH ?hg (N := 6) ?hd (cs := #[.int .i64 0, .int .i64 0, .int .i64 0]) (t := 79) ?hr ?_; (case hd => rfl); (case hg => rfl); (case hr => first | (go_simp; done) | (go_simp; rfl)); intro g3 hg3 w2 hb3 hbb; have hge3 : w1.heap.size ≤ g3 := Nat.le_of_eq hg3.symm; clear hg3; obtain ⟨y0, y1, y2⟩ := bc3 hb3; obtain ⟨f0, f1, f2⟩ := bf3 hb3))
   have hx3 : (((w2.setCell ⟨g3, 0, none⟩ (.int .i64 x.f0)).setCell ⟨g3, 1, none⟩ (.int .i64 x.f1)).setCell ⟨g3, 2, none⟩ (.int .i64 x.f2)).heap[g3]? = some (.cells #[.int .i64 x.f0, .int .i64 x.f1, .int .i64 x.f2] 79 (0, 0)) := bto (bput (bput (bput hb3 0 _) 1 _) 2 _) rfl
   have hbs : Below w1.heap.size w1 (((w2.setCell ⟨g3, 0, none⟩ (.int .i64 x.f0)).setCell ⟨g3, 1, none⟩ (.int .i64 x.f1)).setCell ⟨g3, 2, none⟩ (.int .i64 x.f2)) := XC (XC (XC hbb hge3) hge3) hge3
   clear y0 y1 y2 f0 f1 f2 hb3 hbb
   generalize ((w2.setCell ⟨g3, 0, none⟩ (.int .i64 x.f0)).setCell ⟨g3, 1, none⟩ (.int .i64 x.f1)).setCell ⟨g3, 2, none⟩ (.int .i64 x.f2) = w3 at hx3 hbs ⊢
   have hrg3 := hrg1.kept (XG hbs none) (by simp) (by simp)
   have hB3 := Xi hB1 hbs
   have hsz3 : w.heap.size < w3.heap.size := by have := Xg hbs; have := hs1.out; omega
   have hlk2 := Xed (hqW _ hB3) hqk hox
   have hnd' : Xa (vs ++ [x]).Nodup := ⟨by rw [List.nodup_append]; refine ⟨hnd.out, by simp, ?_⟩; intro a ha b hb3 e; rw [List.mem_singleton] at hb3; subst hb3; subst e; have := (hin.out _ ha).2.2; rw [hlk] at this; exact absurd this (by decide)⟩
   have hfl : ((vs ++ [x]).filter fun x => decide (x ∈ qs)) = (vs.filter fun x => decide (x ∈ qs)) ++ if x ∈ qs then [x] else [] := by
    rw [List.filter_append, List.filter_cons, List.filter_nil]
    by_cases g : x ∈ qs <;> simp [g]
   obtain ⟨y0, y1, y2⟩ := bc3 hx3
   by_cases g : x ∈ qs
   ·have hN1 : ((((vs ++ [x]).filter fun x => decide (x ∈ qs)).length : Nat) : Int) = N + 1 := by rw [hfl, if_pos g, List.length_append, ← hN.out]; rfl
    replace hN1 := Xa.mk hN1
    have hw1 : wrap64 (N + 1) = N + 1 := YD (by omega) (by omega)
    rw [decide_eq_true g] at hlk2
    clear hfl g
    go_wp2
    go_roundw
    case rel => exact ⟨_, cnt1, vs ++ [x], by first | (rw [hN1.out]; done) | (rw [hN1.out, hw1]; done), hrg3, (fun z hz => (by rcases List.mem_append.1 hz with q | q; exact ⟨(hin.out z q).1, (hin.out z q).2.1, by rw [(hin.out z q).2.2]; rfl⟩; rw [List.mem_singleton] at q; subst q; exact ⟨hox, hxk, by rw [YH hox hox]; simp⟩)), hnd'.out, (fun z hz hf => by by_cases e : z = x; subst e; simp; refine List.mem_append_left _ (hall.out z hz ?_); rw [YH (hok z hz) hox, decide_eq_false e] at hf; simpa using hf), hB3, hsz3⟩
    case measure => rw [hrg3.left_eq, hrg.left_eq]; exact hlt
   ·have hN1 : ((((vs ++ [x]).filter fun x => decide (x ∈ qs)).length : Nat) : Int) = N := by rw [hfl, if_neg g, List.append_nil, ← hN.out]
    replace hN1 := Xa.mk hN1
    rw [decide_eq_false g] at hlk2
    clear hfl g
    go_wp2
    go_roundw
    case rel => exact ⟨_, cnt1, vs ++ [x], by rw [hN1.out], hrg3, (fun z hz => (by rcases List.mem_append.1 hz with q | q; exact ⟨(hin.out z q).1, (hin.out z q).2.1, by rw [(hin.out z q).2.2]; rfl⟩; rw [List.mem_singleton] at q; subst q; exact ⟨hox, hxk, by rw [YH hox hox]; simp⟩)), hnd'.out, (fun z hz hf => by by_cases e : z = x; subst e; simp; refine List.mem_append_left _ (hall.out z hz ?_); rw [YH (hok z hz) hox, decide_eq_false e] at hf; simpa using hf), hB3, hsz3⟩
    case measure => rw [hrg3.left_eq, hrg.left_eq]; exact hlt

def stAt (c : List S79) (kss : List (List S79)) : Nat → Int × Int
 | 0 => (0, YY c (kss.headD []))
 | i + 1 => if YY c (kss.getD i []) < (stAt c kss i).2 then ((i : Int), YY c (kss.getD i [])) else stAt c kss i
def Yw.g (k : Nat) (l : List S144) (bad good lots : List S58) : Option (Int × Int × Int) :=
 (culF k l bad good).bind fun p => if p.2 ≠ 0 then some (0, 0, p.2) else if 40 < lots.length then some (0, 0, 5) else if allE l lots ≠ 0 then some (0, 0, allE l lots) else if lots.length = 0 then some (0, 0, 7) else
  if (XD p.1).length = 0 then some (0, 0, 9) else some ((stAt p.1 (lots.map (XB l)) lots.length).1, (stAt p.1 (lots.map (XB l)) lots.length).2, 0)
theorem Xcu {n i : Nat} (h : i < n) : n - (intOf (.int .i64 ((i + 1 : Nat) : Int))).toNat < n - (intOf (.int .i64 (i : Int))).toNat := by simp [intOf]; omega
theorem XdN {α : Type} {l : List α} (d : α) (h : 0 < l.length) : l.headD d = l[0] := by
 cases l
 ·simp at h
 ·rfl
theorem XgD {k : Nat} {l : List S144} {bad good : List S58} {r1 : List S79} (h : culF k l bad good = some (r1, 0)) : l.length ≤ 100 ∧ ∀ x ∈ l, Yq x := by
 unfold culF at h
 obtain ⟨e, he, h⟩ := Option.bind_eq_some_iff.1 h
 split at h
 ·rename_i g; simp only [Option.some.injEq, Prod.mk.injEq] at h; exact absurd h.2 g
 ·split at h
  ·simp at h
  ·split at h
   ·simp at h
   ·split at h
    ·rename_i g; exact g
    ·simp at h
set_option maxHeartbeats 40000000 in
set_option maxRecDepth 100000 in
theorem Yw.calls_g (k : Nat) (A0 : Option Addr) (c0 : Nat) (l : List S144) (A1 : Option Addr) (c1 : Nat) (bad : List S58) (A2 : Option Addr) (c2 : Nat) (good : List S58) (A3 : Option Addr) (c3 : Nat) (lots : List S58) (r1 r2 r3 : Int) (w : World) (hC : Kd.C k144 w A0 l.length l) (hc0 : l.length ≤ c0)
  (hC1 : Kd.C k58 w A1 bad.length bad) (hc1 : bad.length ≤ c1) (hC2 : Kd.C k58 w A2 good.length good) (hc2 : good.length ≤ c2) (hC3 : Kd.C k58 w A3 lots.length lots) (hc3 : lots.length ≤ c3) (h : Yw.g k l bad good lots = some (r1, r2, r3)) :
  Calls Try.prog 44 #[.slice A0 l.length c0, .slice A1 bad.length c1, .slice A2 good.length c2, .slice A3 lots.length c3] w fun e w' => e = .returned (.tuple #[.int .i64 r1, .int .i64 r2, .int .i64 r3]) ∧ Below w.heap.size w w' := by
 unfold Yw.g at h
 obtain ⟨p, hp0, h⟩ := Option.bind_eq_some_iff.1 h
 obtain ⟨p1, p2⟩ := p
 have hcul : ∀ W, Below w.heap.size w W → _ := fun W hW => XcZ k A0 c0 l A1 c1 bad A2 c2 good p1 p2 W (Kd.C_below hC hW) hc0 (Kd.C_below hC1 hW) hc1 (Kd.C_below hC2 hW) hc2 hp0
 replace hcul := Xa.mk hcul
 have hB := Below.refl w.heap.size w
 dsimp only at h
 by_cases q1 : p2 = 0
 rotate_left
 ·as_aux_lemma =>
  rw [if_pos q1] at h
  simp only [Option.some.injEq, Prod.mk.injEq] at h
  obtain ⟨rfl, rfl, rfl⟩ := h
  have q1b : (p2 != 0) = true := by simpa using q1
  replace q1 := Xa.mk q1
  replace hp0 := Xa.mk hp0
  go_enter Try.func44, Try.ntmps44
  go_wp2_with (go_at_call 72; with_reducible refine (hcul.out _ hB).mono ?_; rintro e w4 ⟨vc, rfl, hb, hn, hz⟩; have hsz0 := Xg hB; replace hB := Xi hB hb; replace hn := Xa.mk hn; replace hz := Xa.mk hz; clear hb)
  go_ret3
  exact ⟨rfl, hB⟩
 subst q1
 have hlk := XgD hp0
 rw [if_neg (by simp)] at h
 replace hlk := Xa.mk hlk
 replace hp0 := Xa.mk hp0
 by_cases q2 : 40 < lots.length
 ·as_aux_lemma =>
  rw [if_pos q2] at h
  simp only [Option.some.injEq, Prod.mk.injEq] at h
  obtain ⟨rfl, rfl, rfl⟩ := h
  have hmany : Xa (decide (40 < lots.length) = true) := ⟨by simpa using q2⟩
  clear q2
  go_enter Try.func44, Try.ntmps44
  go_wp2_with (first | (go_at_call 72; with_reducible refine (hcul.out _ hB).mono ?_; rintro e w4 ⟨vc, rfl, hb, hn, hz⟩; have hsz0 := Xg hB; replace hB := Xi hB hb; replace hn := Xa.mk hn; replace hz := Xa.mk hz; clear hb) | (go_at_call 73; refine (YL _ A3 lots.length c3 _ _ ?hL hmany.out).mono ?_; (case hL => first | exact (MapKept.heap_alloc _ _).1 | simp); rintro e w5 ⟨rfl, hd⟩; replace hB := (hB.alloc (Xg hB) _).trans (hd.below.mono (Nat.le_trans (Xg hB) (by simp))); clear hd))
  go_ret3
  exact ⟨rfl, hB⟩
 rw [if_neg q2] at h
 have hmany : Xa (decide (40 < lots.length) = false) := ⟨by simpa using q2⟩
 have hls : Xa (lots.length ≤ 1000) := ⟨by omega⟩
 clear q2
 by_cases q3 : allE l lots = 0
 rotate_left
 ·as_aux_lemma =>
  rw [if_pos q3] at h
  simp only [Option.some.injEq, Prod.mk.injEq] at h
  obtain ⟨rfl, rfl, rfl⟩ := h
  have q3b : (allE l lots != 0) = true := by simpa using q3
  replace q3 := Xa.mk q3
  go_enter Try.func44, Try.ntmps44
  go_wp2_with (first | (go_at_call 72; with_reducible refine (hcul.out _ hB).mono ?_; rintro e w4 ⟨vc, rfl, hb, hn, hz⟩; have hsz0 := Xg hB; replace hB := Xi hB hb; replace hn := Xa.mk hn; replace hz := Xa.mk hz; clear hb) | (go_at_call 73; refine (YL _ A3 lots.length c3 _ _ ?hL hmany.out).mono ?_; (case hL => first | exact (MapKept.heap_alloc _ _).1 | simp); rintro e w5 ⟨rfl, hd⟩; replace hB := (hB.alloc (Xg hB) _).trans (hd.below.mono (Nat.le_trans (Xg hB) (by simp))); clear hd) | (go_at_call 75; with_reducible refine (YN A0 c0 l A3 c3 lots _ (Kd.C_below hC hB) hc0 hlk.out.1 hlk.out.2 (Kd.C_below hC3 hB) hc3 hls.out).mono ?_; rintro e w6 ⟨vx, rfl, hb, hn1, hz1⟩; replace hB := Xi hB hb; clear hb hn1 hz1))
  go_ret3
  exact ⟨rfl, hB⟩
 rw [if_neg (by simpa using q3)] at h
 have q3b : (allE l lots != 0) = false := by simpa using q3
 have q3a := Xa.mk q3
 clear q3
 by_cases q4 : lots.length = 0
 ·as_aux_lemma =>
  rw [if_pos q4] at h
  simp only [Option.some.injEq, Prod.mk.injEq] at h
  obtain ⟨rfl, rfl, rfl⟩ := h
  have q4b : ((lots.length : Int) == 0) = true := beq_iff_eq.mpr (by omega)
  replace q4 := Xa.mk q4
  go_enter Try.func44, Try.ntmps44
  go_wp2_with (first | (go_at_call 72; with_reducible refine (hcul.out _ hB).mono ?_; rintro e w4 ⟨vc, rfl, hb, hn, hz⟩; have hsz0 := Xg hB; replace hB := Xi hB hb; replace hn := Xa.mk hn; replace hz := Xa.mk hz; clear hb) | (go_at_call 73; refine (YL _ A3 lots.length c3 _ _ ?hL hmany.out).mono ?_; (case hL => first | exact (MapKept.heap_alloc _ _).1 | simp); rintro e w5 ⟨rfl, hd⟩; replace hB := (hB.alloc (Xg hB) _).trans (hd.below.mono (Nat.le_trans (Xg hB) (by simp))); clear hd) | (go_at_call 75; with_reducible refine (YN A0 c0 l A3 c3 lots _ (Kd.C_below hC hB) hc0 hlk.out.1 hlk.out.2 (Kd.C_below hC3 hB) hc3 hls.out).mono ?_; rintro e w6 ⟨vx, rfl, hb, hn1, hz1⟩; replace hB := Xi hB hb; clear hb hn1 hz1))
  go_ret3
  exact ⟨rfl, hB⟩
 rw [if_neg q4] at h
 have q4b : ((lots.length : Int) == 0) = false := beq_eq_false_iff_ne.mpr (by omega)
 replace q4 := Xa.mk q4
 have hpok : ∀ (ls : List S58), allE l ls = 0 → ∀ ks ∈ ls.map (XB l), (∀ y ∈ ks, okC y) ∧ ks.length ≤ 1000000 := by
  intro ls h0 ks hks
  obtain ⟨x, hx, rfl⟩ := List.mem_map.1 hks
  obtain ⟨t1, t2⟩ := Xai (Jb h0 x hx)
  have hlen := XaD t2
  exact ⟨Xal hlk.out.2 t1, by unfold XB; have := hlk.out.1; omega⟩
 have hok1 := hpok lots q3a.out
 clear hpok
 obtain ⟨kss, hkss⟩ : ∃ kss, lots.map (XB l) = kss := ⟨_, rfl⟩
 rw [hkss] at hok1 h
 have hkl : Xa (kss.length = lots.length) := ⟨by rw [← hkss, List.length_map]⟩
 replace hkss := Xa.mk hkss
 replace hok1 := Xa.mk hok1
 by_cases q5 : (XD p1).length = 0
 ·as_aux_lemma =>
  rw [if_pos q5] at h
  simp only [Option.some.injEq, Prod.mk.injEq] at h
  obtain ⟨rfl, rfl, rfl⟩ := h
  replace q5 := Xa.mk q5
  go_enter Try.func44, Try.ntmps44
  go_upto_region 2 with (go_at_call 72; with_reducible refine (hcul.out _ hB).mono ?_; rintro e w4 ⟨vc, rfl, hb, hn, hz⟩; have hsz0 := Xg hB; replace hB := Xi hB hb; replace hn := Xa.mk hn; replace hz := Xa.mk hz; clear hb)
  obtain ⟨B, n, ks, rfl, hBge, hown, hokc, hlenc, hmem⟩ := hz.out (by simp)
  have hsz : Maps.size (setC ks) = 0 := by have h1 := XaJ hokc; have h2 := (JJ hmem).length_eq; have := q5.out; omega
  have hszb : (Maps.size (setC ks) == 0) = true := by rw [hsz]; rfl
  have hszc : ((Maps.size (setC ks) : Int) == 0) = true := by rw [hsz]; rfl
  replace hsz := Xa.mk hsz
  clear hn hz
  go_wp2_with (first | (go_at_call 73; refine (YL _ A3 lots.length c3 _ _ ?hL hmany.out).mono ?_; (case hL => first | exact (MapKept.heap_alloc _ _).1 | simp); rintro e w5 ⟨rfl, hd⟩; replace hB := (hB.alloc (Xg hB) _).trans (hd.below.mono (Nat.le_trans (Xg hB) (by simp))); replace hown := (hown.alloc _).kept (XG hd.below none) (by simp); clear hd) | (go_at_call 75; with_reducible refine (YN A0 c0 l A3 c3 lots _ (Kd.C_below hC hB) hc0 hlk.out.1 hlk.out.2 (Kd.C_below hC3 hB) hc3 hls.out).mono ?_; rintro e w6 ⟨vx, rfl, hb, hn1, hz1⟩; replace hB := Xi hB hb; replace hown := hown.kept (XG hb none) (by simp); clear hb hn1 hz1) | (at_len; refine wpList_len_own _ rfl _ 149 rfl 79 4 Try.underlying149 _ B n _ rfl hown ?_) | go_in)
  go_ret3
  exact ⟨rfl, hB⟩
 rw [if_neg q5] at h
 simp only [Option.some.injEq, Prod.mk.injEq] at h
 obtain ⟨rfl, rfl, rfl⟩ := h
 replace q5 := Xa.mk q5
 go_enter Try.func44, Try.ntmps44
 go_upto_region 2 with (go_at_call 72; with_reducible refine (hcul.out _ hB).mono ?_; rintro e w4 ⟨vc, rfl, hb, hn, hz⟩; have hsz0 := Xg hB; replace hB := Xi hB hb; replace hn := Xa.mk hn; replace hz := Xa.mk hz; clear hb)
 obtain ⟨B, n, ks, rfl, hBge, hown, hokc, hlenc, hmem⟩ := hz.out (by simp)
 have hsz : Maps.size (setC ks) = (XD p1).length := by have h1 := XaJ hokc; have h2 := (JJ hmem).length_eq; omega
 have hszb : (Maps.size (setC ks) == 0) = false := beq_eq_false_iff_ne.mpr (by rw [hsz]; have := q5.out; omega)
 have hszc : ((Maps.size (setC ks) : Int) == 0) = false := beq_eq_false_iff_ne.mpr (by rw [hsz]; have := q5.out; omega)
 replace hsz := Xa.mk hsz
 replace hmem := Xa.mk hmem
 replace hokc := Xa.mk hokc
 replace hlenc := Xa.mk hlenc
 clear hn hz
 go_upto_region 13 with (first | (go_at_call 73; refine (YL _ A3 lots.length c3 _ _ ?hL hmany.out).mono ?_; (case hL => first | exact (MapKept.heap_alloc _ _).1 | simp); rintro e w5 ⟨rfl, hd⟩; replace hB := (hB.alloc (Xg hB) _).trans (hd.below.mono (Nat.le_trans (Xg hB) (by simp))); replace hown := (hown.alloc _).kept (XG hd.below none) (by simp); clear hd) | (go_at_call 75; with_reducible refine (YN A0 c0 l A3 c3 lots _ (Kd.C_below hC hB) hc0 hlk.out.1 hlk.out.2 (Kd.C_below hC3 hB) hc3 hls.out).mono ?_; rintro e w6 ⟨vx, rfl, hb, hn1, hz1⟩; have hszA := Xg hB; replace hB := Xi hB hb; replace hown := hown.kept (XG hb none) (by simp); replace hz1 := Xa.mk (hz1 q3a.out); clear hb hn1) | (at_len; refine wpList_len_own _ rfl _ 149 rfl 79 4 Try.underlying149 _ B n _ rfl hown ?_) | go_in)
 have hMx := hz1.out.lower hszA
 clear hz1 hszb hszc hszA hsz0 hBge
 rw [hkss.out] at hMx
 have hMxW : ∀ wr, Below w6.heap.size w6 wr → Jj wr w.heap.size vx kss := fun wr h => hMx.below h
 have hOwnW : ∀ wr, Below w6.heap.size w6 wr → OwnC wr B n ks := fun wr h => hown.kept (XG h none) (by simp)
 have hBW : ∀ wr, Below w6.heap.size w6 wr → Below w.heap.size w wr := fun wr h => Xi hB h
 obtain ⟨Bs, hRx, hlx, hmx⟩ := hMx
 obtain ⟨Ax, cx, rfl⟩ := Kd.R_slice hRx
 obtain ⟨_, hcx⟩ := Xaa hRx
 have hnk : 0 < Bs.length := by have := hkl.out; have := q4.out; omega
 obtain ⟨adx, rfl, hcell0⟩ := hcx 0 (.map (some Bs[0])) (by rw [List.getElem?_map, List.getElem?_eq_getElem hnk]; rfl)
 have hel : ∀ (i : Nat) (hi : i < kss.length), ∃ C m, (∀ wr, Below w6.heap.size w6 wr → OwnC wr C m kss[i]) ∧ ∀ wr, Below w6.heap.size w6 wr → wr.cell? (adx.add i) = some (.map (some C)) := by
  intro i hi
  have hi2 : i < Bs.length := by omega
  obtain ⟨ad, e1, hc⟩ := hcx i (.map (some Bs[i])) (by rw [List.getElem?_map, List.getElem?_eq_getElem hi2]; rfl)
  injection e1 with e1
  subst e1
  obtain ⟨_, m, ho⟩ := hmx i Bs[i] kss[i] (List.getElem?_eq_getElem hi2) (List.getElem?_eq_getElem hi)
  exact ⟨Bs[i], m, fun wr h => ho.kept (XG h none) (by simp), fun wr h => (h.cell (World.block_lt_of_cell? w6 _ hc)).trans hc⟩
 clear hcx hmx hRx hcell0 hown hB
 rw [hlx] at *
 replace hel := Xa.mk hel
 replace hMxW := Xa.mk hMxW
 replace hOwnW := Xa.mk hOwnW
 replace hBW := Xa.mk hBW
 have hboth : ∀ (i : Nat) (hi : i < kss.length), YY ks kss[i] = YY p1 kss[i] := fun i hi => XgL hmem.out _
 replace hboth := Xa.mk hboth
 obtain ⟨C0, m0, hC0, hcell0⟩ := hel.out 0 hnk
 have hb66 := Below.refl w6.heap.size w6
 replace hcell0 := hcell0 _ hb66
 have e0 : adx.add 0 = adx := by cases adx with | mk b o s => cases s <;> simp [Addr.add]
 rw [e0] at hcell0
 have p0n : decide (0 < kss.length) = true := decide_eq_true hnk
 have p0i : decide ((0 : Int) < (kss.length : Int)) = true := decide_eq_true (by omega)
 have p0t : (0 < kss.length) = True := eq_true hnk
 have hs0 : stAt p1 kss 0 = ((0 : Int), YY ks kss[0]) := by
  show ((0 : Int), YY p1 (kss.headD [])) = _
  rw [XdN [] hnk, hboth.out 0 hnk]
 replace hnk := Xa.mk hnk
 replace hs0 := Xa.mk hs0
 replace hC0 := Xa.mk hC0
 go_wp2_with (go_at_call 76; with_reducible refine (Xbn B n C0 m0 ks kss[0] _ (hOwnW.out _ hb66) hokc.out hlenc.out (hC0.out _ hb66) (hok1.out _ (List.getElem_mem _)).1).mono ?_; rintro e w7 ⟨rfl, hb7⟩)
 go_loopw [8, 9, 56] (fun v8 v9 v56 wr => ∃ i : Nat, i ≤ kss.length ∧ v56 = .int .i64 i ∧ v8 = .int .i64 (stAt p1 kss i).1 ∧ v9 = .int .i64 (stAt p1 kss i).2 ∧ Below w6.heap.size w6 wr)
  (fun _ _ v56 _ => kss.length - (intOf v56).toNat)
 case atStart => exact ⟨0, Nat.zero_le _, rfl, by rw [hs0.out], by rw [hs0.out], hb7⟩
 case round => as_aux_lemma =>
  clear hcell0 hb7
  obtain ⟨i, hi, rfl, rfl, rfl, hbr⟩ := hrel
  by_cases hlt : i < kss.length
  rotate_left
  ·have p2n : decide (i < kss.length) = false := decide_eq_false hlt
   have p2b : decide ((i : Int) < (kss.length : Int)) = false := decide_eq_false (by omega)
   have hil : i = lots.length := by have := hkl.out; omega
   replace hlt := Xa.mk hlt
   replace hil := Xa.mk hil
   go_wp2
   go_ret3
   rw [hil.out]
   exact ⟨rfl, hBW.out _ hbr⟩
  have p2n : decide (i < kss.length) = true := decide_eq_true hlt
  have p2b : decide ((i : Int) < (kss.length : Int)) = true := decide_eq_true (by omega)
  have p2t := eq_true hlt
  obtain ⟨C, m, hCo, hcell⟩ := hel.out i hlt
  replace hcell := hcell _ hbr
  have hbo := hboth.out i hlt
  have hsn : stAt p1 kss (i + 1) = if YY p1 kss[i] < (stAt p1 kss i).2 then ((i : Int), YY p1 kss[i]) else stAt p1 kss i := by
   rw [stAt, show kss.getD i [] = kss[i] by simp [hlt]]
  have hqok := (hok1.out kss[i] (List.getElem_mem hlt)).1
  replace hCo := Xa.mk hCo
  replace hqok := Xa.mk hqok
  generalize kss[i] = qs at hCo hbo hsn hqok
  rw [← hbo] at hsn
  generalize hsi : stAt p1 kss i = st at hsn
  obtain ⟨s1, s2⟩ := st
  have hwi : wrap64 ((i : Int) + 1) = ((i + 1 : Nat) : Int) := by have := hls.out; have := hkl.out; rw [YD (by omega) (by omega)]; rfl
  replace hlt := Xa.mk hlt
  replace hsi := Xa.mk hsi
  by_cases c : YY ks qs < s2
  ·have cb : decide (YY ks qs < s2) = true := decide_eq_true c
   have hsn2 : stAt p1 kss (i + 1) = ((i : Int), YY ks qs) := by rw [hsn, if_pos c]
   replace hsn2 := Xa.mk hsn2
   replace hbo := Xa.mk hbo
   clear hsn
   replace c := Xa.mk c
   go_wp2_with (go_at_call 76; with_reducible refine (Xbn B n C m ks qs _ (hOwnW.out _ hbr) hokc.out hlenc.out (hCo.out _ hbr) hqok.out).mono ?_; rintro e w8 ⟨rfl, hb8⟩)
   go_roundw
   case rel => exact ⟨i + 1, Nat.succ_le_of_lt (of_eq_true p2t), by go_num, by rw [hsn2.out], by rw [hsn2.out], hbr.trans (hb8.mono hbr.size)⟩
   case measure => rw [hwi]; exact Xcu (of_eq_true p2t)
  ·have cb : decide (YY ks qs < s2) = false := decide_eq_false c
   have hsn2 : stAt p1 kss (i + 1) = (s1, s2) := by rw [hsn, if_neg c]
   replace hsn2 := Xa.mk hsn2
   replace hbo := Xa.mk hbo
   clear hsn
   replace c := Xa.mk c
   go_wp2_with (go_at_call 76; with_reducible refine (Xbn B n C m ks qs _ (hOwnW.out _ hbr) hokc.out hlenc.out (hCo.out _ hbr) hqok.out).mono ?_; rintro e w8 ⟨rfl, hb8⟩)
   go_roundw
   case rel => exact ⟨i + 1, Nat.succ_le_of_lt (of_eq_true p2t), by go_num, by rw [hsn2.out], by rw [hsn2.out], hbr.trans (hb8.mono hbr.size)⟩
   case measure => rw [hwi]; exact Xcu (of_eq_true p2t)
def Yw.f (l : List S144) (bad good lots : List S58) : Option (Int × Int × Int) := Yw.g 1000 l bad good lots
theorem Yw.calls (A0 : Option Addr) (c0 : Nat) (l : List S144) (A1 : Option Addr) (c1 : Nat) (bad : List S58) (A2 : Option Addr) (c2 : Nat) (good : List S58) (A3 : Option Addr) (c3 : Nat) (lots : List S58) (r1 r2 r3 : Int) (w : World) (hC : Kd.C k144 w A0 l.length l) (hc0 : l.length ≤ c0)
  (hC1 : Kd.C k58 w A1 bad.length bad) (hc1 : bad.length ≤ c1) (hC2 : Kd.C k58 w A2 good.length good) (hc2 : good.length ≤ c2) (hC3 : Kd.C k58 w A3 lots.length lots) (hc3 : lots.length ≤ c3) (h : Yw.f l bad good lots = some (r1, r2, r3)) :
  Calls Try.prog 44 #[.slice A0 l.length c0, .slice A1 bad.length c1, .slice A2 good.length c2, .slice A3 lots.length c3] w fun e w' => e = .returned (.tuple #[.int .i64 r1, .int .i64 r2, .int .i64 r3]) ∧ Below w.heap.size w w' :=
 Yw.calls_g 1000 A0 c0 l A1 c1 bad A2 c2 good A3 c3 lots r1 r2 r3 w hC hc0 hC1 hc1 hC2 hc2 hC3 hc3 h
end Go.Proofs.Ytiaiecfnpompcaa.T
namespace Go.Proofs.Ytiaiecfnpompcaa.T
open Go.RowKit Go.Proofs.YtiaiecfnpompcaaW.PrintWords Go.Proofs.YtiaiecfnpompcaaW.PrintLast Go.Proofs.YtiaiecfnpompcaaW.PrintMore
attribute [local go_sem] XX XW X6 X5 XQ XP X0 XZ
set_option linter.unusedVariables false
set_option linter.unusedSimpArgs false
attribute [local go_sem] XO

def X1.j0 : Nat → Int → Bool → Int → Int → Int → Option (Bool)
 | 0, _, _, _, _, _ => none
 | k + 1, x4, x5, x175000, x175001, x175002 => if x5 = true then (if x175001 = 0 then ((XM.f (([x175002] : List Int))).bind fun t178 => (some t178)) else (some false)) else (if x4 = 3 then ((XM.f (([x175001] : List Int))).bind fun t182 => (if t182 = true then ((X4.f x175002 x175002).bind fun t183 => (some t183)) else (some false))) else (some false))
def X1.f (k : Nat) (a0_0 : Int) (a0_1 : Int) (a0_2 : Int) : Option (Bool) := if a0_0 = 1 then (X1.j0 k a0_0 (a0_0 == 1) a0_0 a0_1 a0_2) else (X1.j0 k a0_0 (a0_0 == 2) a0_0 a0_1 a0_2)
set_option maxHeartbeats 8000000 in
set_option maxRecDepth 100000 in
theorem X1.calls (k : Nat) (a0_0 : Int) (a0_1 : Int) (a0_2 : Int) (r : Bool) (w : World) (h : X1.f k a0_0 a0_1 a0_2 = some r) :
  Calls Try.prog 74 #[.agg #[.int .i64 a0_0, .int .i64 a0_1, .int .i64 a0_2]] w fun e w' => e = .returned (.bool r) ∧ Below w.heap.size w w' := by
 have hu79 := Try.underlying79
 have HB := Xa.mk (Below.refl w.heap.size w)
 have H : (if a0_0 = 1 then (X1.j0 k a0_0 (a0_0 == 1) a0_0 a0_1 a0_2) else (X1.j0 k a0_0 (a0_0 == 2) a0_0 a0_1 a0_2)) = some r := h
 clear h
 have HC2 := Xa.mk H
 clear H
 go_enter Try.func74, Try.ntmps74
 go_upto_if 5 with (first | ((with_reducible refine Xz (N := 1) rfl ?_); (try (refine Yk (by rfl) ?_; dsimp only)); refine XH ?hg (N := 1) ?hd (cs := #[.int .i64 a0_0, .int .i64 a0_1, .int .i64 a0_2]) (t := 79) ?hr ?_; (case hd => rfl); (case hg => rfl); (case hr => first | (go_simp; done) | (go_simp; rfl)); intro gb174 hg w3 hbox hb; have BK174 := Xa.mk (hbox); have GW174 := Xa.mk ((by rw [hg]; exact (Xg HB.out) : w.heap.size ≤ gb174)); have GE174 := GW174; replace HB := Xa.mk (Xi HB.out hb); clear hb hbox hg; obtain ⟨hcz4_0, hcz4_1, hcz4_2⟩ := bc3 BK174.out; obtain ⟨hfz4_0, hfz4_1, hfz4_2⟩ := bf3 BK174.out))
 (try simp only [Act.put, sa_, s0_, s1_])
 go_cut [5] (fun v5 wc => ∃ (kq : Nat) (x5_1 : Bool), v5 = .bool x5_1 ∧ Xa (X1.j0 kq a0_0 x5_1 a0_0 a0_1 a0_2 = some r) ∧ Xa (kq ≤ k) ∧ Xa (wc.heap[gb174]? = some (.cells #[.int .i64 a0_0, .int .i64 a0_1, .int .i64 a0_2] 79 (0, 0))) ∧ Xa (Below w.heap.size w wc))
 case first =>
  have H := HC2.out
  clear HC2
  by_cases c5 : a0_0 = 1
  ·rw [if_pos c5] at H
   have c5b0 : (a0_0 == 1) = true := beq_iff_eq.mpr c5
   have c5b1 : (a0_0 != 1) = false := bne_eq_false_iff_eq.mpr c5
   clear c5
   (first | rw [c5b0] | (simp only [XR, XS]; rw [c5b0]) | skip)
   have H' := Xa.mk H
   clear H
   go_wp2
   go_meet
   case rel => exact ⟨_, ((a0_0 == 1)), fx_, H', ⟨by first | omega | exact Nat.le_refl _⟩, BK174, ⟨hb_ HB⟩⟩
  ·rw [if_neg c5] at H
   have c5b0 : (a0_0 == 1) = false := beq_eq_false_iff_ne.mpr c5
   have c5b1 : (a0_0 != 1) = true := bne_iff_ne.mpr c5
   (first | rw [c5b0] | (simp only [XR, XS]; rw [c5b0]) | skip)
   have H' := Xa.mk H
   clear H
   go_wp2
   go_meet
   case rel => exact ⟨_, ((a0_0 == 2)), fx_, H', ⟨by first | omega | exact Nat.le_refl _⟩, BK174, ⟨hb_ HB⟩⟩
 case rest =>
  clear HC2
  try clear p2; try clear c5; try clear c5b0; try clear c5b1; try clear hcz4_0; try clear hcz4_1; try clear hcz4_2; try clear hfz4_0; try clear hfz4_1; try clear hfz4_2
  obtain ⟨kq, x5_1, rfl, HA, HJ1, BK174, HB⟩ := hcut
  cases kq with
  | zero => exact absurd HA.out (by simp [X1.j0])
  | succ kj1 =>
   have H := HA.out
   clear HA
   simp only [X1.j0] at H
   by_cases c6 : x5_1 = true
   ·subst c6
    have H1 : (if a0_1 = 0 then ((XM.f (([a0_2] : List Int))).bind fun t178 => (some t178)) else (some false)) = some r := by rw [if_pos rfl] at H; exact H
    clear H
    have H := H1
    clear H1
    by_cases c7 : a0_1 = 0
    ·rw [if_pos c7] at H
     have c7b0 : (a0_1 == 0) = true := beq_iff_eq.mpr c7
     have c7b1 : (a0_1 != 0) = false := bne_eq_false_iff_eq.mpr c7
     clear c7
     obtain ⟨y175, hy175⟩ : ∃ y_ : List Int, y_ = (([a0_2] : List Int)) := ⟨_, rfl⟩
     replace H : ((XM.f y175).bind fun t178 => (some t178)) = some r := by first | (rw [hy175]; with_reducible exact H) | (have H2_ := (Option.bind_some _ _).symm.trans H; rw [hy175]; with_reducible exact H2_) | (have H2_ := (Option.bind_some _ _).symm.trans H; with_reducible exact H2_) | with_reducible exact H | (rw [hy175]; exact H) | exact H
     have Ny175 := Xa.mk hy175
     clear hy175
     replace H := Option.bind_eq_some_iff.mp H
     obtain ⟨t178, A80, H⟩ := H; (try dsimp only at H)
     have A8 := Xa.mk A80
     clear A80
     obtain rfl := Option.some.inj H
     obtain ⟨hcz9_0, hcz9_1, hcz9_2⟩ := bc3 BK174.out
     obtain ⟨hfz9_0, hfz9_1, hfz9_2⟩ := bf3 BK174.out
     go_wp2_with (first | ((with_reducible refine Xz (N := 14) rfl ?_); (try (refine Yk (by rfl) ?_; dsimp only)); refine Kd.R_lit (Kd.int .i64) _ 3 ?hg (N := 14) ?hd (xs := ([a0_2] : List Int)) (inner := [.int .i64 a0_2]) (ok := fun _ => True) (okp := fun _ => True) ?hr ?hp (fun _ hk => hk) trivial (Below.refl _ _) (Nat.le_refl _) (by simp) ?_; (case hd => rfl); (case hg => rfl); (case hr => first | (go_simp; done) | (go_simp; rfl)); (case hp => exact (Reps.one (show Kd.M (Kd.int .i64) _ _ _ a0_2 [.int .i64 a0_2] from rfl) (Reps.none _ _))); intro v176 w10 ho11 hb hg_ hnew_; clear hg_ hnew_; (first | rw [← Ny175.out] at ho11 | (simp only [Int.reduceToNat] at ho11; rw [← Ny175.out] at ho11)); have HO177 := Xa.mk (Kd.R_lower ho11 (Xg (hb_ HB))); replace BK174 := Xa.mk (Xu (g := gb174) (o := .cells #[.int .i64 a0_0, .int .i64 a0_1, .int .i64 a0_2] 79 (0, 0)) (bk_ BK174) hb); replace HB := sb_ HB hb; clear hb ho11; obtain ⟨Ao12, co12, eo12⟩ := Kd.R_slice HO177.out; subst eo12) | (go_at_call 90; (with_reducible refine (XM.calls _ _ y175 t178 _ ?side1 ?side2 A8.out).mono ?_); (case side1 => exact cA_ (Kd.R_reads' HO177.out).2.2); (case side2 => exact (Kd.R_reads' HO177.out).2.1); rintro e w13 ⟨rfl, hb⟩; replace HO177 := rb_ HO177 hb; replace BK174 := Xa.mk (Xu (g := gb174) (o := .cells #[.int .i64 a0_0, .int .i64 a0_1, .int .i64 a0_2] 79 (0, 0)) (bk_ BK174) hb); replace HB := sb_ HB hb; (try clear hb); (try clear hb2); (try clear hk); (try clear hi)))
     go_ret
     exact ⟨by first | rfl | (simp [errW_none, errW_some] <;> rfl) | (simp [*, errW_none, errW_some] <;> rfl), by repeat (first | (with_reducible first | exact HB.out | apply Xs | apply Xo | apply Xl | refine XC ?_ (Xa.out (by assumption))) | exact HB.out)⟩
    ·rw [if_neg c7] at H
     have c7b0 : (a0_1 == 0) = false := beq_eq_false_iff_ne.mpr c7
     have c7b1 : (a0_1 != 0) = true := bne_iff_ne.mpr c7
     obtain rfl := Option.some.inj H
     obtain ⟨hcz14_0, hcz14_1, hcz14_2⟩ := bc3 BK174.out
     obtain ⟨hfz14_0, hfz14_1, hfz14_2⟩ := bf3 BK174.out
     go_wp2
     go_ret
     exact ⟨by first | rfl | (simp [errW_none, errW_some] <;> rfl) | (simp [*, errW_none, errW_some] <;> rfl), by repeat (first | (with_reducible first | exact HB.out | apply Xs | apply Xo | apply Xl | refine XC ?_ (Xa.out (by assumption))) | exact HB.out)⟩
   ·replace c6 := Bool.eq_false_iff.mpr c6
    subst c6
    have H1 : (if a0_0 = 3 then ((XM.f (([a0_1] : List Int))).bind fun t182 => (if t182 = true then ((X4.f a0_2 a0_2).bind fun t183 => (some t183)) else (some false))) else (some false)) = some r := by rw [if_neg (show ¬ (false = true) by decide)] at H; exact H
    clear H
    have H := H1
    clear H1
    by_cases c15 : a0_0 = 3
    ·rw [if_pos c15] at H
     have c15b0 : (a0_0 == 3) = true := beq_iff_eq.mpr c15
     have c15b1 : (a0_0 != 3) = false := bne_eq_false_iff_eq.mpr c15
     clear c15
     obtain ⟨y179, hy179⟩ : ∃ y_ : List Int, y_ = (([a0_1] : List Int)) := ⟨_, rfl⟩
     replace H : ((XM.f y179).bind fun t182 => (if t182 = true then ((X4.f a0_2 a0_2).bind fun t183 => (some t183)) else (some false))) = some r := by first | (rw [hy179]; with_reducible exact H) | (have H2_ := (Option.bind_some _ _).symm.trans H; rw [hy179]; with_reducible exact H2_) | (have H2_ := (Option.bind_some _ _).symm.trans H; with_reducible exact H2_) | with_reducible exact H | (rw [hy179]; exact H) | exact H
     have Ny179 := Xa.mk hy179
     clear hy179
     replace H := Option.bind_eq_some_iff.mp H
     obtain ⟨t182, A160, H⟩ := H; (try dsimp only at H)
     have A16 := Xa.mk A160
     clear A160
     by_cases c17 : t182 = true
     ·subst c17
      have H1 : ((X4.f a0_2 a0_2).bind fun t183 => (some t183)) = some r := by rw [if_pos rfl] at H; exact H
      clear H
      have H := H1
      clear H1
      replace H := Option.bind_eq_some_iff.mp H
      obtain ⟨t183, A180, H⟩ := H; (try dsimp only at H)
      have A18 := Xa.mk A180
      clear A180
      obtain rfl := Option.some.inj H
      obtain ⟨hcz19_0, hcz19_1, hcz19_2⟩ := bc3 BK174.out
      obtain ⟨hfz19_0, hfz19_1, hfz19_2⟩ := bf3 BK174.out
      go_wp2_with (first | ((with_reducible refine Xz (N := 21) rfl ?_); (try (refine Yk (by rfl) ?_; dsimp only)); refine Kd.R_lit (Kd.int .i64) _ 3 ?hg (N := 21) ?hd (xs := ([a0_1] : List Int)) (inner := [.int .i64 a0_1]) (ok := fun _ => True) (okp := fun _ => True) ?hr ?hp (fun _ hk => hk) trivial (Below.refl _ _) (Nat.le_refl _) (by simp) ?_; (case hd => rfl); (case hg => rfl); (case hr => first | (go_simp; done) | (go_simp; rfl)); (case hp => exact (Reps.one (show Kd.M (Kd.int .i64) _ _ _ a0_1 [.int .i64 a0_1] from rfl) (Reps.none _ _))); intro v180 w20 ho21 hb hg_ hnew_; clear hg_ hnew_; (first | rw [← Ny179.out] at ho21 | (simp only [Int.reduceToNat] at ho21; rw [← Ny179.out] at ho21)); have HO181 := Xa.mk (Kd.R_lower ho21 (Xg (hb_ HB))); replace BK174 := Xa.mk (Xu (g := gb174) (o := .cells #[.int .i64 a0_0, .int .i64 a0_1, .int .i64 a0_2] 79 (0, 0)) (bk_ BK174) hb); replace HB := sb_ HB hb; clear hb ho21; obtain ⟨Ao22, co22, eo22⟩ := Kd.R_slice HO181.out; subst eo22) | ((with_reducible refine Xp (f := 90) rfl ?_); refine XL (some 22) rfl rfl Try.func90 (by kernel_rfl) rfl #[.slice Ao22 y179.length co22] rfl (by (try simp only [List.map_toArray, List.map_cons, List.map_nil]); first | done | rfl | (simp only [List.length_drop, List.length_take]; rfl)) ?_; (with_reducible refine (XM.calls _ _ y179 true _ ?side1 ?side2 A16.out).mono ?_); (case side1 => exact cA_ (Kd.R_reads' HO181.out).2.2); (case side2 => exact (Kd.R_reads' HO181.out).2.1); rintro e w23 ⟨rfl, hb⟩; refine ⟨_, rfl, ?_⟩; replace HO181 := rb_ HO181 hb; replace BK174 := Xa.mk (Xu (g := gb174) (o := .cells #[.int .i64 a0_0, .int .i64 a0_1, .int .i64 a0_2] 79 (0, 0)) (bk_ BK174) hb); replace HB := sb_ HB hb; (try clear hb); (try clear hb2); (try clear hk); (try clear hi); obtain ⟨hcz24_0, hcz24_1, hcz24_2⟩ := bc3 BK174.out; obtain ⟨hfz24_0, hfz24_1, hfz24_2⟩ := bf3 BK174.out) | (go_at_call 91; (with_reducible refine (X4.calls a0_2 a0_2 t183 _ A18.out).mono ?_); rintro e w25 ⟨rfl, hb⟩; replace HO181 := rb_ HO181 hb; replace BK174 := Xa.mk (Xu (g := gb174) (o := .cells #[.int .i64 a0_0, .int .i64 a0_1, .int .i64 a0_2] 79 (0, 0)) (bk_ BK174) hb); replace HB := sb_ HB hb; (try clear hb); (try clear hb2); (try clear hk); (try clear hi)))
      go_ret
      exact ⟨by first | rfl | (simp [errW_none, errW_some] <;> rfl) | (simp [*, errW_none, errW_some] <;> rfl), by repeat (first | (with_reducible first | exact HB.out | apply Xs | apply Xo | apply Xl | refine XC ?_ (Xa.out (by assumption))) | exact HB.out)⟩
     ·replace c17 := Bool.eq_false_iff.mpr c17
      subst c17
      have H1 : (some false) = some r := by rw [if_neg (show ¬ (false = true) by decide)] at H; exact H
      clear H
      have H := H1
      clear H1
      obtain rfl := Option.some.inj H
      obtain ⟨hcz26_0, hcz26_1, hcz26_2⟩ := bc3 BK174.out
      obtain ⟨hfz26_0, hfz26_1, hfz26_2⟩ := bf3 BK174.out
      go_wp2_with (first | ((with_reducible refine Xz (N := 21) rfl ?_); (try (refine Yk (by rfl) ?_; dsimp only)); refine Kd.R_lit (Kd.int .i64) _ 3 ?hg (N := 21) ?hd (xs := ([a0_1] : List Int)) (inner := [.int .i64 a0_1]) (ok := fun _ => True) (okp := fun _ => True) ?hr ?hp (fun _ hk => hk) trivial (Below.refl _ _) (Nat.le_refl _) (by simp) ?_; (case hd => rfl); (case hg => rfl); (case hr => first | (go_simp; done) | (go_simp; rfl)); (case hp => exact (Reps.one (show Kd.M (Kd.int .i64) _ _ _ a0_1 [.int .i64 a0_1] from rfl) (Reps.none _ _))); intro v180 w27 ho28 hb hg_ hnew_; clear hg_ hnew_; (first | rw [← Ny179.out] at ho28 | (simp only [Int.reduceToNat] at ho28; rw [← Ny179.out] at ho28)); have HO181 := Xa.mk (Kd.R_lower ho28 (Xg (hb_ HB))); replace BK174 := Xa.mk (Xu (g := gb174) (o := .cells #[.int .i64 a0_0, .int .i64 a0_1, .int .i64 a0_2] 79 (0, 0)) (bk_ BK174) hb); replace HB := sb_ HB hb; clear hb ho28; obtain ⟨Ao29, co29, eo29⟩ := Kd.R_slice HO181.out; subst eo29) | ((with_reducible refine Xp (f := 90) rfl ?_); refine XL (some 22) rfl rfl Try.func90 (by kernel_rfl) rfl #[.slice Ao29 y179.length co29] rfl (by (try simp only [List.map_toArray, List.map_cons, List.map_nil]); first | done | rfl | (simp only [List.length_drop, List.length_take]; rfl)) ?_; (with_reducible refine (XM.calls _ _ y179 false _ ?side1 ?side2 A16.out).mono ?_); (case side1 => exact cA_ (Kd.R_reads' HO181.out).2.2); (case side2 => exact (Kd.R_reads' HO181.out).2.1); rintro e w30 ⟨rfl, hb⟩; refine ⟨_, rfl, ?_⟩; replace HO181 := rb_ HO181 hb; replace BK174 := Xa.mk (Xu (g := gb174) (o := .cells #[.int .i64 a0_0, .int .i64 a0_1, .int .i64 a0_2] 79 (0, 0)) (bk_ BK174) hb); replace HB := sb_ HB hb; (try clear hb); (try clear hb2); (try clear hk); (try clear hi)))
      go_ret
      exact ⟨by first | rfl | (simp [errW_none, errW_some] <;> rfl) | (simp [*, errW_none, errW_some] <;> rfl), by repeat (first | (with_reducible first | exact HB.out | apply Xs | apply Xo | apply Xl | refine XC ?_ (Xa.out (by assumption))) | exact HB.out)⟩
    ·rw [if_neg c15] at H
     have c15b0 : (a0_0 == 3) = false := beq_eq_false_iff_ne.mpr c15
     have c15b1 : (a0_0 != 3) = true := bne_iff_ne.mpr c15
     obtain rfl := Option.some.inj H
     go_wp2
     go_ret
     exact ⟨by first | rfl | (simp [errW_none, errW_some] <;> rfl) | (simp [*, errW_none, errW_some] <;> rfl), by repeat (first | (with_reducible first | exact HB.out | apply Xs | apply Xo | apply Xl | refine XC ?_ (Xa.out (by assumption))) | exact HB.out)⟩

end Go.Proofs.Ytiaiecfnpompcaa.T
namespace Go.Proofs.Ytiaiecfnpompcaa.T
open Go.RowKit Go.Maps Go.Proofs.YtiaiecfnpompcaaW.PrintWords Go.Proofs.YtiaiecfnpompcaaW.PrintLast Go.Proofs.YtiaiecfnpompcaaW.PrintMore
set_option linter.unusedVariables false
set_option linter.unusedSimpArgs false

attribute [local go_sem] XX XW X6 X5
def recI (x : S79) (kss : List (List S79)) (n : Nat) : List Int := ((List.range n).filter fun i => decide (x ∈ kss.getD i [])).map Int.ofNat
theorem Xdw (x : S79) (kss : List (List S79)) (n : Nat) : recI x kss (n + 1) = recI x kss n ++ if x ∈ kss.getD n [] then [(n : Int)] else [] := by
 unfold recI
 rw [List.range_succ, List.filter_append, List.map_append, List.filter_cons, List.filter_nil]
 by_cases c : x ∈ kss.getD n []
 ·rw [if_pos c, decide_eq_true c]; rfl
 ·rw [if_neg c, decide_eq_false c]; rfl
theorem XcC (x : S79) (kss : List (List S79)) (n : Nat) : (recI x kss n).length ≤ n := by
 unfold recI
 rw [List.length_map]
 exact Nat.le_trans (List.length_filter_le _ _) (by rw [List.length_range]; exact Nat.le_refl _)
def okCb (x : S79) : Bool := (Lit.int .i64 x.f0).wf && ((Lit.int .i64 x.f1).wf && (Lit.int .i64 x.f2).wf)
theorem XhM {x : S79} (h : okCb x = true) : okC x := by
 unfold okCb at h
 rw [Bool.and_eq_true, Bool.and_eq_true] at h
 exact h
def Yh.g (k : Nat) (l : List S144) (lots : List S58) (x : S79) : Option (List Int × Int) :=
 (XE.f k l).bind fun e => if e ≠ 0 then some ([], e) else if 40 < lots.length then some ([], 5) else (X1.f k x.f0 x.f1 x.f2).bind fun b => if b = false then some ([], 2) else
  if (l.length ≤ 100 ∧ ∀ y ∈ l, Yq y) ∧ okCb x = true then (if allE l lots ≠ 0 then some ([], allE l lots) else some (recI x (lots.map (XB l)) lots.length, 0)) else none
set_option maxHeartbeats 40000000 in
set_option maxRecDepth 100000 in
theorem Yh.calls_g (k : Nat) (A0 : Option Addr) (c0 : Nat) (l : List S144) (A1 : Option Addr) (c1 : Nat) (lots : List S58) (x : S79) (r1 : List Int) (r2 : Int) (w : World) (hC : Kd.C k144 w A0 l.length l) (hc0 : l.length ≤ c0)
  (hC1 : Kd.C k58 w A1 lots.length lots) (hc1 : lots.length ≤ c1) (h : Yh.g k l lots x = some (r1, r2)) :
  Calls Try.prog 43 #[.slice A0 l.length c0, .slice A1 lots.length c1, .agg #[.int .i64 x.f0, .int .i64 x.f1, .int .i64 x.f2]] w fun e w' => ∃ v : Value, e = .returned (.tuple #[v, .int .i64 r2]) ∧ Kd.R (Kd.int .i64) 3 w' w.heap.size (fun _ => True) v r1 ∧ Below w.heap.size w w' := by
 unfold Yh.g at h
 obtain ⟨e1, hck, h⟩ := Option.bind_eq_some_iff.1 h
 replace hck := Xa.mk hck
 have hB := Below.refl w.heap.size w
 have hu79 := Try.underlying79
 by_cases q1 : e1 = 0
 rotate_left
 ·as_aux_lemma =>
  rw [if_pos q1] at h
  injection h with h
  injection h with ha hb
  subst ha; subst hb
  have q1b : (e1 != 0) = true := by simpa using q1
  clear q1
  go_enter Try.func43, Try.ntmps43
  go_wp2_with (first | ((with_reducible refine Xz (N := 5) rfl ?_); refine XH ?hg (N := 5) ?hd (cs := #[.int .i64 x.f0, .int .i64 x.f1, .int .i64 x.f2]) (t := 79) ?hr ?_; (case hd => rfl); (case hg => rfl); (case hr => first | (go_simp; done) | (go_simp; rfl)); intro gb hg w7 hbx hb; have hbs : gb < w7.heap.size := World.block_lt_of_cell? w7 ⟨gb, 0, none⟩ (bc3 hbx).1; replace hB := Xi hB hb; clear hb hg) | (go_at_call 32; with_reducible refine (XE.calls k A0 c0 l _ _ (Kd.C_below hC hB) hc0 hck.out).mono ?_; rintro e w4 ⟨rfl, hb⟩; replace hB := Xi hB hb; replace hbx := Xu hbx hb; clear hb))
  go_ret2
  exact ⟨_, rfl, Kd.R_nil _ _ _ _ _, hB⟩
 subst q1
 rw [if_neg (by simp)] at h
 by_cases q2 : 40 < lots.length
 ·as_aux_lemma =>
  rw [if_pos q2] at h
  injection h with h
  injection h with ha hb
  subst ha; subst hb
  have hmany : Xa (decide (40 < lots.length) = true) := ⟨by simpa using q2⟩
  clear q2
  go_enter Try.func43, Try.ntmps43
  go_wp2_with (first | ((with_reducible refine Xz (N := 5) rfl ?_); refine XH ?hg (N := 5) ?hd (cs := #[.int .i64 x.f0, .int .i64 x.f1, .int .i64 x.f2]) (t := 79) ?hr ?_; (case hd => rfl); (case hg => rfl); (case hr => first | (go_simp; done) | (go_simp; rfl)); intro gb hg w7 hbx hb; have hbs : gb < w7.heap.size := World.block_lt_of_cell? w7 ⟨gb, 0, none⟩ (bc3 hbx).1; replace hB := Xi hB hb; clear hb hg) | (go_at_call 32; with_reducible refine (XE.calls k A0 c0 l _ _ (Kd.C_below hC hB) hc0 hck.out).mono ?_; rintro e w4 ⟨rfl, hb⟩; replace hB := Xi hB hb; replace hbx := Xu hbx hb; clear hb) | (go_at_call 73; refine (YL _ A1 lots.length c1 _ _ ?hL hmany.out).mono ?_; (case hL => first | exact (MapKept.heap_alloc _ _).1 | simp); rintro e w5 ⟨rfl, hd⟩; replace hB := (hB.alloc (Xg hB) _).trans (hd.below.mono (Nat.le_trans (Xg hB) (by simp))); replace hbx := Xu hbx (((Below.refl w4.heap.size w4).alloc (Nat.le_refl _) _).trans (hd.below.mono (by simp))); clear hd; obtain ⟨y0, y1, y2⟩ := bc3 hbx))
  go_ret2
  exact ⟨_, rfl, Kd.R_nil _ _ _ _ _, hB⟩
 rw [if_neg q2] at h
 have hmany : Xa (decide (40 < lots.length) = false) := ⟨by simpa using q2⟩
 have hls : Xa (lots.length ≤ 1000) := ⟨by omega⟩
 clear q2
 obtain ⟨b1, hic, h⟩ := Option.bind_eq_some_iff.1 h
 replace hic := Xa.mk hic
 cases b1
 ·as_aux_lemma =>
  rw [if_pos rfl] at h
  injection h with h
  injection h with ha hb
  subst ha; subst hb
  go_enter Try.func43, Try.ntmps43
  go_wp2_with (first | ((with_reducible refine Xz (N := 5) rfl ?_); refine XH ?hg (N := 5) ?hd (cs := #[.int .i64 x.f0, .int .i64 x.f1, .int .i64 x.f2]) (t := 79) ?hr ?_; (case hd => rfl); (case hg => rfl); (case hr => first | (go_simp; done) | (go_simp; rfl)); intro gb hg w7 hbx hb; have hbs : gb < w7.heap.size := World.block_lt_of_cell? w7 ⟨gb, 0, none⟩ (bc3 hbx).1; replace hB := Xi hB hb; clear hb hg) | (go_at_call 32; with_reducible refine (XE.calls k A0 c0 l _ _ (Kd.C_below hC hB) hc0 hck.out).mono ?_; rintro e w4 ⟨rfl, hb⟩; replace hB := Xi hB hb; replace hbx := Xu hbx hb; clear hb) | (go_at_call 73; refine (YL _ A1 lots.length c1 _ _ ?hL hmany.out).mono ?_; (case hL => first | exact (MapKept.heap_alloc _ _).1 | simp); rintro e w5 ⟨rfl, hd⟩; replace hB := (hB.alloc (Xg hB) _).trans (hd.below.mono (Nat.le_trans (Xg hB) (by simp))); replace hbx := Xu hbx (((Below.refl w4.heap.size w4).alloc (Nat.le_refl _) _).trans (hd.below.mono (by simp))); clear hd; obtain ⟨y0, y1, y2⟩ := bc3 hbx) | (go_at_call 74; with_reducible refine (X1.calls k _ _ _ _ _ hic.out).mono ?_; rintro e w6 ⟨rfl, hb⟩; replace hB := Xi hB hb; replace hbx := Xu hbx hb; clear hb y0 y1 y2))
  go_ret2
  exact ⟨_, rfl, Kd.R_nil _ _ _ _ _, hB⟩
 rw [if_neg (by simp)] at h
 by_cases hp : (l.length ≤ 100 ∧ ∀ y ∈ l, Yq y) ∧ okCb x = true
 rotate_left
 ·rw [if_neg hp] at h; cases h
 rw [if_pos hp] at h
 have hox : Xa (okC x) := ⟨XhM hp.2⟩
 have hlk := Xa.mk hp.1
 clear hp
 by_cases q4 : allE l lots = 0
 rotate_left
 ·as_aux_lemma =>
  rw [if_pos q4] at h
  injection h with h
  injection h with ha hb
  subst ha; subst hb
  replace q4 := Xa.mk q4
  go_enter Try.func43, Try.ntmps43
  go_upto_region 10 with (first | ((with_reducible refine Xz (N := 5) rfl ?_); refine XH ?hg (N := 5) ?hd (cs := #[.int .i64 x.f0, .int .i64 x.f1, .int .i64 x.f2]) (t := 79) ?hr ?_; (case hd => rfl); (case hg => rfl); (case hr => first | (go_simp; done) | (go_simp; rfl)); intro gb hg w7 hbx hb; have hbs : gb < w7.heap.size := World.block_lt_of_cell? w7 ⟨gb, 0, none⟩ (bc3 hbx).1; replace hB := Xi hB hb; clear hb hg) | (go_at_call 32; with_reducible refine (XE.calls k A0 c0 l _ _ (Kd.C_below hC hB) hc0 hck.out).mono ?_; rintro e w4 ⟨rfl, hb⟩; replace hB := Xi hB hb; replace hbx := Xu hbx hb; clear hb) | (go_at_call 73; refine (YL _ A1 lots.length c1 _ _ ?hL hmany.out).mono ?_; (case hL => first | exact (MapKept.heap_alloc _ _).1 | simp); rintro e w5 ⟨rfl, hd⟩; replace hB := (hB.alloc (Xg hB) _).trans (hd.below.mono (Nat.le_trans (Xg hB) (by simp))); replace hbx := Xu hbx (((Below.refl w4.heap.size w4).alloc (Nat.le_refl _) _).trans (hd.below.mono (by simp))); clear hd; obtain ⟨y0, y1, y2⟩ := bc3 hbx) | (go_at_call 74; with_reducible refine (X1.calls k _ _ _ _ _ hic.out).mono ?_; rintro e w6 ⟨rfl, hb⟩; replace hB := Xi hB hb; replace hbx := Xu hbx hb; clear hb y0 y1 y2) | (go_at_call 75; with_reducible refine (YN A0 c0 l A1 c1 lots _ (Kd.C_below hC hB) hc0 hlk.out.1 hlk.out.2 (Kd.C_below hC1 hB) hc1 hls.out).mono ?_; rintro e w8 ⟨vx, rfl, hb, hn1, hz1⟩; replace hB := Xi hB hb; obtain rfl := hn1 q4.out; clear hb hn1 hz1))
  go_loopw [6, 34] (fun v6 v34 wr => v6 = .slice none 0 0 ∧ v34 = .int .i64 0 ∧ Below w.heap.size w wr) (fun _ _ _ => 0)
  case atStart => exact ⟨rfl, rfl, hB⟩
  case round =>
   obtain ⟨rfl, rfl, hBr⟩ := hrel
   go_wp2
   go_ret2
   exact ⟨_, rfl, Kd.R_nil _ _ _ _ _, hBr⟩
 rw [if_neg (by simpa using q4)] at h
 injection h with h
 injection h with ha hb
 subst ha; subst hb
 have q4a := Xa.mk q4
 clear q4
 have hok1 : ∀ ks ∈ lots.map (XB l), ∀ y ∈ ks, okC y := by
  intro ks hks
  obtain ⟨z, hz, rfl⟩ := List.mem_map.1 hks
  obtain ⟨t1, t2⟩ := Xai (Jb q4a.out z hz)
  exact Xal hlk.out.2 t1
 obtain ⟨kss, hkss⟩ : ∃ kss, lots.map (XB l) = kss := ⟨_, rfl⟩
 rw [hkss] at hok1 ⊢
 have hkl : Xa (kss.length = lots.length) := ⟨by rw [← hkss, List.length_map]⟩
 rw [← hkl.out]
 replace hkss := Xa.mk hkss
 replace hok1 := Xa.mk hok1
 have q4b : (allE l lots) = 0 := q4a.out
 go_enter Try.func43, Try.ntmps43
 rw [hkl.out]
 go_upto_region 9 with (first | ((with_reducible refine Xz (N := 5) rfl ?_); refine XH ?hg (N := 5) ?hd (cs := #[.int .i64 x.f0, .int .i64 x.f1, .int .i64 x.f2]) (t := 79) ?hr ?_; (case hd => rfl); (case hg => rfl); (case hr => first | (go_simp; done) | (go_simp; rfl)); intro gb hg w7 hbx hb; have hbs : gb < w7.heap.size := World.block_lt_of_cell? w7 ⟨gb, 0, none⟩ (bc3 hbx).1; replace hB := Xi hB hb; clear hb hg) | (go_at_call 32; with_reducible refine (XE.calls k A0 c0 l _ _ (Kd.C_below hC hB) hc0 hck.out).mono ?_; rintro e w4 ⟨rfl, hb⟩; replace hB := Xi hB hb; replace hbx := Xu hbx hb; clear hb) | (go_at_call 73; refine (YL _ A1 lots.length c1 _ _ ?hL hmany.out).mono ?_; (case hL => first | exact (MapKept.heap_alloc _ _).1 | simp); rintro e w5 ⟨rfl, hd⟩; replace hB := (hB.alloc (Xg hB) _).trans (hd.below.mono (Nat.le_trans (Xg hB) (by simp))); replace hbx := Xu hbx (((Below.refl w4.heap.size w4).alloc (Nat.le_refl _) _).trans (hd.below.mono (by simp))); clear hd; obtain ⟨y0, y1, y2⟩ := bc3 hbx) | (go_at_call 74; with_reducible refine (X1.calls k _ _ _ _ _ hic.out).mono ?_; rintro e w6 ⟨rfl, hb⟩; replace hB := Xi hB hb; replace hbx := Xu hbx hb; clear hb y0 y1 y2) | (go_at_call 75; with_reducible refine (YN A0 c0 l A1 c1 lots _ (Kd.C_below hC hB) hc0 hlk.out.1 hlk.out.2 (Kd.C_below hC1 hB) hc1 hls.out).mono ?_; rintro e w8 ⟨vx, rfl, hb, hn1, hz1⟩; have hszA := Xg hB; replace hB := Xi hB hb; replace hbx := Xu hbx hb; replace hz1 := Xa.mk (hz1 q4a.out); clear hb hn1))
 have hMx := hz1.out.lower hszA
 clear hz1 hszA h hC hC1
 rw [hkss.out] at hMx
 obtain ⟨Bs, hRx, hlx, hmx⟩ := hMx
 obtain ⟨Ax, cx, rfl⟩ := Kd.R_slice hRx
 obtain ⟨_, hcx⟩ := Xaa hRx
 have hel : ∀ (i : Nat) (hi : i < kss.length), ∃ ad C m, Ax = some ad ∧ (∀ wr, Below w8.heap.size w8 wr → OwnC wr C m kss[i]) ∧ ∀ wr, Below w8.heap.size w8 wr → wr.cell? (ad.add i) = some (.map (some C)) := by
  intro i hi
  have hi2 : i < Bs.length := by omega
  obtain ⟨ad, e1, hc⟩ := hcx i (.map (some Bs[i])) (by rw [List.getElem?_map, List.getElem?_eq_getElem hi2]; rfl)
  obtain ⟨_, m, ho⟩ := hmx i Bs[i] kss[i] (List.getElem?_eq_getElem hi2) (List.getElem?_eq_getElem hi)
  exact ⟨ad, Bs[i], m, e1, fun wr h => ho.kept (XG h none) (by simp), fun wr h => (h.cell (World.block_lt_of_cell? w8 _ hc)).trans hc⟩
 clear hcx hmx hRx
 rw [hlx] at *
 clear hlx
 replace hel := Xa.mk hel
 replace hB := Xa.mk hB
 replace hbx := Xa.mk hbx
 go_wp2
 go_loopw [6, 34] (fun v6 v34 wr => ∃ i : Nat, i ≤ kss.length ∧ v34 = .int .i64 i ∧ Kd.R (Kd.int .i64) 3 wr w8.heap.size (fun _ => True) v6 (recI x kss i) ∧ Below w8.heap.size w8 wr)
  (fun _ v34 _ => kss.length - (intOf v34).toNat)
 case atStart => exact ⟨0, Nat.zero_le _, rfl, Kd.R_nil _ _ _ _ _, Below.refl _ _⟩
 case round => as_aux_lemma =>
  obtain ⟨i, hi, rfl, hR, hbr⟩ := hrel
  by_cases hlt : i < kss.length
  rotate_left
  ·have p2n : decide (i < kss.length) = false := decide_eq_false hlt
   have p2b : decide ((i : Int) < (kss.length : Int)) = false := decide_eq_false (by omega)
   have hil : i = lots.length := by have := hkl.out; omega
   replace hlt := Xa.mk hlt
   replace hil := Xa.mk hil
   go_wp2
   go_ret2
   refine ⟨_, rfl, ?_, Xi hB.out hbr⟩
   rw [← hil.out]
   exact Kd.R_lower hR (Xg hB.out)
  have p2n : decide (i < kss.length) = true := decide_eq_true hlt
  have p2b : decide ((i : Int) < (kss.length : Int)) = true := decide_eq_true (by omega)
  have p2t := eq_true hlt
  obtain ⟨ad, C, m, rfl, hCo, hcell⟩ := hel.out i hlt
  replace hcell := hcell _ hbr
  have hqok := hok1.out kss[i] (List.getElem_mem hlt)
  have hbx2 := Xu hbx.out hbr
  obtain ⟨y0, y1, y2⟩ := bc3 hbx2
  clear hbx2
  have hlk2 := Xed (hCo _ hbr) hqok hox.out
  have hsn : recI x kss (i + 1) = recI x kss i ++ if x ∈ kss[i] then [(i : Int)] else [] := by
   rw [Xdw, show kss.getD i [] = kss[i] by simp [hlt]]
  have hll := Xa.mk (XcC x kss i)
  have hwi : wrap64 ((i : Int) + 1) = ((i + 1 : Nat) : Int) := by have := hls.out; have := hkl.out; rw [YD (by omega) (by omega)]; rfl
  have hib : (i : Int) < 1000000 := by have := hls.out; have := hkl.out; omega
  replace hib := Xa.mk hib
  replace hlt := Xa.mk hlt
  replace hCo := Xa.mk hCo
  replace hqok := Xa.mk hqok
  generalize kss[i] = qs at hCo hsn hqok hlk2
  by_cases g : x ∈ qs
  ·rw [decide_eq_true g] at hlk2
   rw [if_pos g] at hsn
   replace hsn := Xa.mk hsn
   clear g
   generalize recI x kss i = ls at hR hsn hll
   obtain ⟨A6, c6, rfl⟩ := Kd.R_slice hR
   go_wp2_with (first | ((with_reducible refine YJ (b := .append) (xs := #[.tmp 42, .tmp 44]) rfl ?_); at_builtin; refine Kd.R_append (Kd.int .i64) (w0 := w8) w8.heap.size rfl (.tmp 42) (.tmp 44) 22 3 (.int .i64 0) 8 rfl Try.underlying22 Xih rfl (by decide) (by omega) (.slice A6 ls.length c6) ls (i : Int) [.int .i64 (i : Int)] (fun _ => True) (fun _ => False) rfl (by first | (go_simp; done) | (go_simp; rfl)) ?aP (fun _ hk => hk.elim) ?aF ?aO ?aB ?aS ?aL ?_; (case aP => rfl); (case aF => exact fun _ _ => trivial); (case aO => exact hR); (case aB => exact hbr); (case aS => exact Xg hbr); (case aL => have := hll.out; have := hib.out; omega); intro v1 w9 ho hb hg hat; clear hat hg))
   go_roundw
   case rel => exact ⟨i + 1, Nat.succ_le_of_lt (of_eq_true p2t), by go_num, by rw [hsn.out]; exact ho, hb⟩
   case measure => rw [hwi]; exact Xcu (of_eq_true p2t)
  ·rw [decide_eq_false g] at hlk2
   rw [if_neg g, List.append_nil] at hsn
   replace hsn := Xa.mk hsn
   clear g
   go_wp2
   go_roundw
   case rel => exact ⟨i + 1, Nat.succ_le_of_lt (of_eq_true p2t), by go_num, by rw [hsn.out]; exact hR, hbr⟩
   case measure => rw [hwi]; exact Xcu (of_eq_true p2t)
def Yh.f (l : List S144) (lots : List S58) (a2_0 a2_1 a2_2 : Int) : Option (List Int × Int) := Yh.g 1000 l lots ⟨a2_0, a2_1, a2_2⟩
theorem Yh.calls (A0 : Option Addr) (c0 : Nat) (l : List S144) (A1 : Option Addr) (c1 : Nat) (lots : List S58) (a2_0 a2_1 a2_2 : Int) (r1 : List Int) (r2 : Int) (w : World) (hC : Kd.C k144 w A0 l.length l) (hc0 : l.length ≤ c0)
  (hC1 : Kd.C k58 w A1 lots.length lots) (hc1 : lots.length ≤ c1) (h : Yh.f l lots a2_0 a2_1 a2_2 = some (r1, r2)) :
  Calls Try.prog 43 #[.slice A0 l.length c0, .slice A1 lots.length c1, .agg #[.int .i64 a2_0, .int .i64 a2_1, .int .i64 a2_2]] w fun e w' => ∃ v : Value, e = .returned (.tuple #[v, .int .i64 r2]) ∧ Kd.R (Kd.int .i64) 3 w' w.heap.size (fun _ => True) v r1 ∧ Below w.heap.size w w' :=
 Yh.calls_g 1000 A0 c0 l A1 c1 lots ⟨a2_0, a2_1, a2_2⟩ r1 r2 w hC hc0 hC1 hc1 h
end Go.Proofs.Ytiaiecfnpompcaa.T
namespace Go.Proofs.Ytiaiecfnpompcaa.T
open Go.RowKit Go.Proofs.YtiaiecfnpompcaaW.PrintWords Go.Proofs.YtiaiecfnpompcaaW.PrintLast Go.Proofs.YtiaiecfnpompcaaW.PrintMore
attribute [local go_sem] XX XW X6 X5 XQ XP X0 XZ
set_option linter.unusedVariables false
set_option linter.unusedSimpArgs false
attribute [local go_sem] XO

mutual
def Xb.j0 : Nat → List (S144) → Bool → List (S58) → List (S58) → List (S58) → Int → Int → Int → Option (Bool)
 | 0, _, _, _, _, _, _, _, _ => none
 | k + 1, x0, x52, x284000, x284001, x284002, x285000, x285001, x285002 => if x52 = true then ((X2.f).bind fun t292 => (some t292)) else ((YE.f x0).bind fun t293 => ((Ya.f x284000).bind fun t296 => ((Ya.f x284001).bind fun t299 => ((Ya.f x284002).bind fun t302 => ((Yh.f t293 t302 x285000 x285001 x285002).bind fun bt305 => ((Yw.f t293 t296 t299 t302).bind fun bt309 => ((XN.f k t293 x0).bind fun t312 => (if t312 = true then ((Xw.f k t296 x284000).bind fun t313 => (if t313 = true then ((Xw.f k t299 x284001).bind fun t314 => (if t314 = true then ((Xw.f k t302 x284002).bind fun t315 => (Xb.j1 k x0 bt305.1 bt305.2 bt309.1 bt309.2.1 bt309.2.2 (!t315) x284000 x284001 x284002 x285000 x285001 x285002)) else (Xb.j1 k x0 bt305.1 bt305.2 bt309.1 bt309.2.1 bt309.2.2 true x284000 x284001 x284002 x285000 x285001 x285002))) else (Xb.j1 k x0 bt305.1 bt305.2 bt309.1 bt309.2.1 bt309.2.2 true x284000 x284001 x284002 x285000 x285001 x285002))) else (Xb.j1 k x0 bt305.1 bt305.2 bt309.1 bt309.2.1 bt309.2.2 true x284000 x284001 x284002 x285000 x285001 x285002)))))))))
def Xb.j1 : Nat → List (S144) → List Int → Int → Int → Int → Int → Bool → List (S58) → List (S58) → List (S58) → Int → Int → Int → Option (Bool)
 | 0, _, _, _, _, _, _, _, _, _, _, _, _, _ => none
 | k + 1, x0, x11, x12, x13, x14, x15, x105, x284000, x284001, x284002, x285000, x285001, x285002 => if x105 = true then (none) else ((Xf.f k x0 x284000 x284001).bind fun bt316 => ((Xk.f k x0).bind fun t320 => (if (x284002.length : Int) > 40 then (if t320 = 0 then (if bt316.2 = 0 then (Xb.j2 k x0 x11 x12 x13 x14 x15 bt316.1 5 5 x284000 x284001 x284002 x285000 x285001 x285002) else (Xb.j2 k x0 x11 x12 x13 x14 x15 bt316.1 bt316.2 5 x284000 x284001 x284002 x285000 x285001 x285002)) else (if bt316.2 = 0 then (Xb.j2 k x0 x11 x12 x13 x14 x15 bt316.1 5 t320 x284000 x284001 x284002 x285000 x285001 x285002) else (Xb.j2 k x0 x11 x12 x13 x14 x15 bt316.1 bt316.2 t320 x284000 x284001 x284002 x285000 x285001 x285002))) else (Xb.j2 k x0 x11 x12 x13 x14 x15 bt316.1 bt316.2 t320 x284000 x284001 x284002 x285000 x285001 x285002))))
def Xb.j2 : Nat → List (S144) → List Int → Int → Int → Int → Int → List (S79) → Int → Int → List (S58) → List (S58) → List (S58) → Int → Int → Int → Option (Bool)
 | 0, _, _, _, _, _, _, _, _, _, _, _, _, _, _, _ => none
 | k + 1, x0, x11, x12, x13, x14, x15, x16, x17, x18, x284000, x284001, x284002, x285000, x285001, x285002 => if x18 = 0 then ((XU.f k x285000 x285001 x285002).bind fun t321 => (Xb.j3 k x0 x11 x12 x13 x14 x15 x16 x17 x18 (!t321) x284000 x284001 x284002 x285000 x285001 x285002)) else (Xb.j3 k x0 x11 x12 x13 x14 x15 x16 x17 x18 false x284000 x284001 x284002 x285000 x285001 x285002)
def Xb.j3 : Nat → List (S144) → List Int → Int → Int → Int → Int → List (S79) → Int → Int → Bool → List (S58) → List (S58) → List (S58) → Int → Int → Int → Option (Bool)
 | 0, _, _, _, _, _, _, _, _, _, _, _, _, _, _, _, _ => none
 | k + 1, x0, x11, x12, x13, x14, x15, x16, x17, x18, x131, x284000, x284001, x284002, x285000, x285001, x285002 => if x131 = true then (Xb.j4 k x0 x11 x12 x13 x14 x15 x16 x17 2 x284000 x284001 x284002 x285000 x285001 x285002) else (Xb.j4 k x0 x11 x12 x13 x14 x15 x16 x17 x18 x284000 x284001 x284002 x285000 x285001 x285002)
def Xb.j4 : Nat → List (S144) → List Int → Int → Int → Int → Int → List (S79) → Int → Int → List (S58) → List (S58) → List (S58) → Int → Int → Int → Option (Bool)
 | 0, _, _, _, _, _, _, _, _, _, _, _, _, _, _, _ => none
 | k + 1, x0, x11, x12, x13, x14, x15, x16, x17, x18, x284000, x284001, x284002, x285000, x285001, x285002 => (some (([] : List (List (S79))) : List (List (S79)))).bind fun y322 => (if x18 = 0 then (Xb.j5 k x0 x11 x12 x13 x14 x15 x16 x17 x18 y322 true x284000 x284001 x284002 x285000 x285001 x285002) else (Xb.j5 k x0 x11 x12 x13 x14 x15 x16 x17 x18 y322 (x17 == 0) x284000 x284001 x284002 x285000 x285001 x285002))
def Xb.j5 : Nat → List (S144) → List Int → Int → Int → Int → Int → List (S79) → Int → Int → List (List (S79)) → Bool → List (S58) → List (S58) → List (S58) → Int → Int → Int → Option (Bool)
 | 0, _, _, _, _, _, _, _, _, _, _, _, _, _, _, _, _, _ => none
 | k + 1, x0, x11, x12, x13, x14, x15, x16, x17, x18, x19, x138, x284000, x284001, x284002, x285000, x285001, x285002 => if x138 = true then ((Xx.f k x0 x284002).bind fun bt325 => (if x18 = 0 then (if x17 = 0 then (Xb.j6 k x11 x12 x13 x14 x15 x16 bt325.2 bt325.2 bt325.1 x284000 x284001 x284002 x285000 x285001 x285002) else (Xb.j6 k x11 x12 x13 x14 x15 x16 x17 bt325.2 bt325.1 x284000 x284001 x284002 x285000 x285001 x285002)) else (if x17 = 0 then (Xb.j6 k x11 x12 x13 x14 x15 x16 bt325.2 x18 bt325.1 x284000 x284001 x284002 x285000 x285001 x285002) else (Xb.j6 k x11 x12 x13 x14 x15 x16 x17 x18 bt325.1 x284000 x284001 x284002 x285000 x285001 x285002)))) else (Xb.j6 k x11 x12 x13 x14 x15 x16 x17 x18 x19 x284000 x284001 x284002 x285000 x285001 x285002)
def Xb.j6 : Nat → List Int → Int → Int → Int → Int → List (S79) → Int → Int → List (List (S79)) → List (S58) → List (S58) → List (S58) → Int → Int → Int → Option (Bool)
 | 0, _, _, _, _, _, _, _, _, _, _, _, _, _, _, _ => none
 | k + 1, x11, x12, x13, x14, x15, x16, x17, x18, x19, x284000, x284001, x284002, x285000, x285001, x285002 => if x17 = 0 then (Xb.j7 k x11 x12 x13 x14 x15 x16 x17 x18 x19 ((x284002.length : Int) == 0) x285000 x285001 x285002) else (Xb.j7 k x11 x12 x13 x14 x15 x16 x17 x18 x19 false x285000 x285001 x285002)
def Xb.j7 : Nat → List Int → Int → Int → Int → Int → List (S79) → Int → Int → List (List (S79)) → Bool → Int → Int → Int → Option (Bool)
 | 0, _, _, _, _, _, _, _, _, _, _, _, _, _ => none
 | k + 1, x11, x12, x13, x14, x15, x16, x17, x18, x19, x160, x285000, x285001, x285002 => if x160 = true then (Xb.j8 k x11 x12 x13 x14 x15 x16 7 x18 x19 x285000 x285001 x285002) else (Xb.j8 k x11 x12 x13 x14 x15 x16 x17 x18 x19 x285000 x285001 x285002)
def Xb.j8 : Nat → List Int → Int → Int → Int → Int → List (S79) → Int → Int → List (List (S79)) → Int → Int → Int → Option (Bool)
 | 0, _, _, _, _, _, _, _, _, _, _, _, _ => none
 | k + 1, x11, x12, x13, x14, x15, x16, x17, x18, x19, x285000, x285001, x285002 => if x17 = 0 then (Xb.j9 k x11 x12 x13 x14 x15 x16 x17 x18 x19 ((x16.length : Int) == 0) x285000 x285001 x285002) else (Xb.j9 k x11 x12 x13 x14 x15 x16 x17 x18 x19 false x285000 x285001 x285002)
def Xb.j9 : Nat → List Int → Int → Int → Int → Int → List (S79) → Int → Int → List (List (S79)) → Bool → Int → Int → Int → Option (Bool)
 | 0, _, _, _, _, _, _, _, _, _, _, _, _, _ => none
 | k + 1, x11, x12, x13, x14, x15, x16, x17, x18, x19, x167, x285000, x285001, x285002 => if x167 = true then (Xb.j10 k x11 x12 x13 x14 x15 x16 9 x18 x19 x285000 x285001 x285002) else (Xb.j10 k x11 x12 x13 x14 x15 x16 x17 x18 x19 x285000 x285001 x285002)
def Xb.j10 : Nat → List Int → Int → Int → Int → Int → List (S79) → Int → Int → List (List (S79)) → Int → Int → Int → Option (Bool)
 | 0, _, _, _, _, _, _, _, _, _, _, _, _ => none
 | k + 1, x11, x12, x13, x14, x15, x16, x17, x18, x19, x285000, x285001, x285002 => if x12 = x18 then (Xb.j11 k x11 x13 x14 x16 x17 x18 x19 (x15 != x17) x285000 x285001 x285002) else (Xb.j11 k x11 x13 x14 x16 x17 x18 x19 true x285000 x285001 x285002)
def Xb.j11 : Nat → List Int → Int → Int → List (S79) → Int → Int → List (List (S79)) → Bool → Int → Int → Int → Option (Bool)
 | 0, _, _, _, _, _, _, _, _, _, _, _ => none
 | k + 1, x11, x13, x14, x16, x17, x18, x19, x175, x285000, x285001, x285002 => if x175 = true then (none) else (Xb.l0 k x11 x13 x14 x16 x17 x18 x19 (([] : List Int)) 0 x285000 x285001 x285002)
def Xb.l0 : Nat → List Int → Int → Int → List (S79) → Int → Int → List (List (S79)) → List Int → Int → Int → Int → Int → Option (Bool)
 | 0, _, _, _, _, _, _, _, _, _, _, _, _ => none
 | k + 1, x11, x13, x14, x16, x17, x18, x19, x22, x23, x285000, x285001, x285002 => if x23 < (x19.length : Int) then (Xb.j13 k x11 x13 x14 x16 x17 x18 x19 x22 x23 (x18 == 0) x285000 x285001 x285002) else (Xb.j13 k x11 x13 x14 x16 x17 x18 x19 x22 x23 false x285000 x285001 x285002)
def Xb.j13 : Nat → List Int → Int → Int → List (S79) → Int → Int → List (List (S79)) → List Int → Int → Bool → Int → Int → Int → Option (Bool)
 | 0, _, _, _, _, _, _, _, _, _, _, _, _, _ => none
 | k + 1, x11, x13, x14, x16, x17, x18, x19, x22, x23, x184, x285000, x285001, x285002 => if x184 = true then (if 0 ≤ x23 then (if x23 < (x19.length : Int) then ((Xy.f k (XA x19 x23) x285000 x285001 x285002).bind fun t333 => (if t333 = true then (if x22.length < 17592186044416 then (Xb.l0 k x11 x13 x14 x16 x17 x18 x19 (x22 ++ [x23]) (wrap64 (x23 + 1)) x285000 x285001 x285002) else (none)) else (Xb.l0 k x11 x13 x14 x16 x17 x18 x19 x22 (wrap64 (x23 + 1)) x285000 x285001 x285002))) else (none)) else (none)) else ((XV.f k x11 x22).bind fun t337 => (if t337 = true then (if x17 = 0 then (Xb.l1 k x13 x14 x16 x19 0 (wrap64 ((x16.length : Int) + 1)) 0) else (if x13 = 0 then (if x14 = 0 then ((X2.f).bind fun t338 => (some t338)) else (none)) else (none))) else (none)))
def Xb.l1 : Nat → Int → Int → List (S79) → List (List (S79)) → Int → Int → Int → Option (Bool)
 | 0, _, _, _, _, _, _, _ => none
 | k + 1, x13, x14, x16, x19, x24, x25, x26 => if x26 < (x19.length : Int) then (Xb.l2 k x13 x14 x16 x19 x24 x25 x26 0 0) else (if x13 = x24 then (if x14 = x25 then ((X2.f).bind fun t339 => (some t339)) else (none)) else (none))
def Xb.l2 : Nat → Int → Int → List (S79) → List (List (S79)) → Int → Int → Int → Int → Int → Option (Bool)
 | 0, _, _, _, _, _, _, _, _, _ => none
 | k + 1, x13, x14, x16, x19, x24, x25, x26, x27, x28 => if x28 < (x16.length : Int) then (if 0 ≤ x26 then (if x26 < (x19.length : Int) then (if 0 ≤ x28 then ((Xy.f k (XA x19 x26) ((Xn x16 x28).f0) ((Xn x16 x28).f1) ((Xn x16 x28).f2)).bind fun t342 => (if t342 = true then (Xb.l2 k x13 x14 x16 x19 x24 x25 x26 (wrap64 (x27 + 1)) (wrap64 (x28 + 1))) else (Xb.l2 k x13 x14 x16 x19 x24 x25 x26 x27 (wrap64 (x28 + 1))))) else (none)) else (none)) else (none)) else (if (mx x27 (wrap64 ((x16.length : Int) - x27))) < x25 then (Xb.l1 k x13 x14 x16 x19 x26 (mx x27 (wrap64 ((x16.length : Int) - x27))) (wrap64 (x26 + 1))) else (Xb.l1 k x13 x14 x16 x19 x24 x25 (wrap64 (x26 + 1))))
end
def Xb.f (k : Nat) (l0 : List (S144)) (l1_0 : List (S58)) (l1_1 : List (S58)) (l1_2 : List (S58)) (a2_0 : Int) (a2_1 : Int) (a2_2 : Int) : Option (Bool) := (Xv.f k l0 (([l1_0, l1_1, l1_2] : List (List (S58))))).bind fun t288 => (if t288 = true then (Xb.j0 k l0 true l1_0 l1_1 l1_2 a2_0 a2_1 a2_2) else ((Xt.f k l1_0).bind fun t289 => (if t289 = true then (Xb.j0 k l0 true l1_0 l1_1 l1_2 a2_0 a2_1 a2_2) else ((Xt.f k l1_1).bind fun t290 => (if t290 = true then (Xb.j0 k l0 true l1_0 l1_1 l1_2 a2_0 a2_1 a2_2) else ((Xt.f k l1_2).bind fun t291 => (Xb.j0 k l0 t291 l1_0 l1_1 l1_2 a2_0 a2_1 a2_2)))))))
def Xb.T3 : Bool × List (List Nat × List Nat) := (true, [([], []), ([0], [0]), ([], []), ([2], [2]), ([3, 1], [3]), ([], []), ([5], [5]), ([6, 4], [6]), ([], []), ([8], [8]), ([9, 7], [9]), ([1, 10, 0, 1], [1]), ([4, 11, 0, 1, 2, 3, 4, 11], [4]), ([7, 12, 0, 1, 2, 3, 4, 5, 6, 7, 11, 12], [7]), ([10, 13, 0, 1, 2, 3, 4, 5, 6, 7, 8, 9, 10, 11, 12, 13], [10])])
def Xb.B3 : List Nat := [0, 1, 0, 4, 15, 0, 32, 127, 0, 256, 1023, 2047, 4095, 8191, 16383]
theorem Xb.tab3 : rtab .any (Xan Try.f8 3) = Xb.T3 := by kernel_rfl
theorem Xb.bits3 : YI Xb.T3.2 Xb.B3 = true := by kernel_rfl
def Xb.T49 : Bool × List (List Nat × List Nat) := (true, [([], []), ([], []), ([0, 1], [0, 1]), ([2], [2]), ([], []), ([], []), ([4, 5], [4, 5]), ([6], [6]), ([3, 7], [3, 7])])
def Xb.B49 : List Nat := [0, 0, 3, 7, 0, 0, 48, 112, 255]
theorem Xb.tab49 : rtab .any (Xan Try.f8 49) = Xb.T49 := by kernel_rfl
theorem Xb.bits49 : YI Xb.T49.2 Xb.B49 = true := by kernel_rfl
end Go.Proofs.Ytiaiecfnpompcaa.T
