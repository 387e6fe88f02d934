-- cut down, squeezed and laid together by pack.py (a program of this repository) out of this seat's texts
import Derived.ChangeKeysEq
import Derived.Test.YtiaiecfnpompcaaZE13
import Derived.Test.YtiaiecfnpompcaaZE2
import Derived.Test.YtiaiecfnpompcaaZE3
import Derived.Test.YtiaiecfnpompcaaZE9
import Derived.Test.YtiaiecfnpompcaaZE4
import Derived.Test.YtiaiecfnpompcaaZE12
import Derived.Test.YtiaiecfnpompcaaZE8
import Derived.Test.YtiaiecfnpompcaaZE6
import Derived.Test.YtiaiecfnpompcaaZE7
import Derived.Test.YtiaiecfnpompcaaZE11
import Derived.Test.YtiaiecfnpompcaaZE5
import Derived.Test.YtiaiecfnpompcaaZE10
import Derived.Test.YtiaiecfnpompcaaZE1
namespace Go.Proofs.Ytiaiecfnpompcaa.T
open Go.RowKit Go.Proofs.YtiaiecfnpompcaaW.PrintWords Go.Proofs.YtiaiecfnpompcaaW.PrintLast Go.Proofs.YtiaiecfnpompcaaW.PrintMore
attribute [local go_sem] max2_int min2_int max_two min_two max_three min_three max_four min_four   -- for this text's walks alone
set_option linter.unusedVariables false
set_option linter.unusedSimpArgs false
attribute [local go_sem] wl_100001

mutual
def acmeref12_Causes.j0 : Nat → List (S144) → Bool → Int → Int → Int → Option ((List (S79)) × Int)
 | 0, _, _, _, _, _ => none
 | k + 1, x0, x29, x258000, x258001, x258002 => if x29 = true then (some (([] : List (S79)), 2)) else (acmeref12_Causes.l0 k x0 (([] : List (S79))) 0 0 x258000 x258001 x258002)
def acmeref12_Causes.l0 : Nat → List (S144) → List (S79) → Int → Int → Int → Int → Int → Option ((List (S79)) × Int)
 | 0, _, _, _, _, _, _, _ => none
 | k + 1, x0, x6, x7, x8, x258000, x258001, x258002 => if x8 < (x0.length : Int) then (if 0 ≤ x8 then (if ((rd_T144 x0 x8).f0) = x258000 then (acmeref12_Causes.j2 k x0 x6 x7 x8 (mx ((rd_T144 x0 x8).f1) x258001) (mn ((rd_T144 x0 x8).f2) x258002) (decide ((mx ((rd_T144 x0 x8).f1) x258001) > (mn ((rd_T144 x0 x8).f2) x258002))) x258000 x258001 x258002) else (acmeref12_Causes.j2 k x0 x6 x7 x8 (mx ((rd_T144 x0 x8).f1) x258001) (mn ((rd_T144 x0 x8).f2) x258002) true x258000 x258001 x258002)) else (none)) else (if (wrap64 ((x6.length : Int) + x7)) > 1000 then (some (([] : List (S79)), 5)) else (acmeref12_Causes.l1 k x0 x6 x7 x258001 x258000 x258001 x258002))
def acmeref12_Causes.j2 : Nat → List (S144) → List (S79) → Int → Int → Int → Int → Bool → Int → Int → Int → Option ((List (S79)) × Int)
 | 0, _, _, _, _, _, _, _, _, _, _ => none
 | k + 1, x0, x6, x7, x8, x9, x10, x65, x258000, x258001, x258002 => if x65 = true then (acmeref12_Causes.l0 k x0 x6 x7 (wrap64 (x8 + 1)) x258000 x258001 x258002) else (if 0 ≤ x8 then (if x8 < (x0.length : Int) then ((acmeref12_Add.f k x6 1 0 ((rd_T144 x0 x8).f3)).bind fun t267 => ((acmeref12_Add.f k t267 2 0 ((rd_T144 x0 x8).f4)).bind fun t271 => (acmeref12_Causes.l0 k x0 t271 (wrap64 (x7 + (wrap64 ((wrap64 (x10 - x9)) + 1)))) (wrap64 (x8 + 1)) x258000 x258001 x258002))) else (none)) else (none))
def acmeref12_Causes.l1 : Nat → List (S144) → List (S79) → Int → Int → Int → Int → Int → Option ((List (S79)) × Int)
 | 0, _, _, _, _, _, _, _ => none
 | k + 1, x0, x6, x7, x11, x258000, x258001, x258002 => if x11 ≤ x258002 then (acmeref12_Causes.j4 k x0 x6 x7 x11 (decide (x7 > 0)) x258000 x258001 x258002) else (acmeref12_Causes.j4 k x0 x6 x7 x11 false x258000 x258001 x258002)
def acmeref12_Causes.j4 : Nat → List (S144) → List (S79) → Int → Int → Bool → Int → Int → Int → Option ((List (S79)) × Int)
 | 0, _, _, _, _, _, _, _, _ => none
 | k + 1, x0, x6, x7, x11, x101, x258000, x258001, x258002 => if x101 = true then (acmeref12_Causes.l2 k x0 x6 x7 x11 0 x258000 x258001 x258002) else (some (x6, 0))
def acmeref12_Causes.l2 : Nat → List (S144) → List (S79) → Int → Int → Int → Int → Int → Int → Option ((List (S79)) × Int)
 | 0, _, _, _, _, _, _, _, _ => none
 | k + 1, x0, x6, x7, x11, x12, x258000, x258001, x258002 => if x12 < (x0.length : Int) then (if 0 ≤ x12 then (if ((rd_T144 x0 x12).f0) = x258000 then ((acmeref12_In.f x11 ((rd_T144 x0 x12).f1) ((rd_T144 x0 x12).f2)).bind fun t277 => (if t277 = true then (if x6.length < 5864062014805 then (acmeref12_Causes.l2 k x0 (x6 ++ [(⟨3, x258000, x11⟩ : S79)]) (wrap64 (x7 - 1)) x11 (wrap64 (x12 + 1)) x258000 x258001 x258002) else (none)) else (acmeref12_Causes.l2 k x0 x6 x7 x11 (wrap64 (x12 + 1)) x258000 x258001 x258002))) else (acmeref12_Causes.l2 k x0 x6 x7 x11 (wrap64 (x12 + 1)) x258000 x258001 x258002)) else (none)) else (acmeref12_Causes.l1 k x0 x6 x7 (wrap64 (x11 + 1)) x258000 x258001 x258002)
end
def acmeref12_Causes.f (k : Nat) (l0 : List (S144)) (a1_0 : Int) (a1_1 : Int) (a1_2 : Int) : Option ((List (S79)) × Int) := (acmeref12_In.f a1_0 0 1000).bind fun t258 => (if t258 = true then ((acmeref12_In.f a1_1 0 a1_2).bind fun t259 => (if t259 = true then (acmeref12_Causes.j0 k l0 (decide (a1_2 > 100000)) a1_0 a1_1 a1_2) else (acmeref12_Causes.j0 k l0 true a1_0 a1_1 a1_2))) else (acmeref12_Causes.j0 k l0 true a1_0 a1_1 a1_2))
def acmeref12_Causes.T7 : Bool × List (List Nat × List Nat) := (true, [([], []), ([], []), ([0, 1], [0, 1]), ([2], [2]), ([3], [3]), ([], []), ([5], [5]), ([4, 6], [4, 6]), ([], []), ([], []), ([8, 9], [8, 9]), ([10], [10]), ([11], [11]), ([], []), ([13], [13]), ([12, 14], [12, 14]), ([7, 0, 1, 2, 3, 4, 5, 6, 7], [7]), ([15, 16, 0, 1, 2, 3, 4, 5, 6, 7, 8, 9, 10, 11, 12, 13, 14, 15, 16], [15])])
def acmeref12_Causes.B7 : List Nat := [0, 0, 3, 7, 15, 0, 32, 127, 0, 0, 768, 1792, 3840, 0, 8192, 32512, 255, 131071]
theorem acmeref12_Causes.tab7 : rtab .any (opsOf Try.f36 7) = acmeref12_Causes.T7 := by kernel_rfl
theorem acmeref12_Causes.bits7 : waitsOk acmeref12_Causes.T7.2 acmeref12_Causes.B7 = true := by kernel_rfl
def acmeref12_Causes.T8 : Bool × List (List Nat × List Nat) := (true, [([], []), ([], []), ([0, 1], [0, 1]), ([2], [2]), ([3], [3]), ([], []), ([5], [5]), ([4, 6], [4, 6]), ([7], [7]), ([8], [8]), ([8], [8]), ([9, 10, 8], [8, 9, 10]), ([8, 11], [8, 11])])
def acmeref12_Causes.B8 : List Nat := [0, 0, 3, 7, 15, 0, 32, 127, 255, 511, 511, 2047, 4095]
theorem acmeref12_Causes.tab8 : rtab .any (opsOf Try.f36 8) = acmeref12_Causes.T8 := by kernel_rfl
theorem acmeref12_Causes.bits8 : waitsOk acmeref12_Causes.T8.2 acmeref12_Causes.B8 = true := by kernel_rfl
def acmeref12_Causes.T9 : Bool × List (List Nat × List Nat) := (true, [([], []), ([], []), ([], []), ([1, 2], [1, 2]), ([3], [3]), ([4], [4]), ([5], [5]), ([0, 6], [0, 6]), ([], []), ([], []), ([8, 9], [8, 9]), ([10], [10]), ([11], [11]), ([12], [12]), ([7, 13, 7], [7, 13]), ([14, 14, 0, 1, 2, 3, 4, 5, 6, 7, 8, 9, 10, 11, 12, 13, 14], [0, 14])])
def acmeref12_Causes.B9 : List Nat := [0, 0, 0, 6, 14, 30, 62, 127, 0, 0, 768, 1792, 3840, 7936, 16383, 32767]
theorem acmeref12_Causes.tab9 : rtab .any (opsOf Try.f36 9) = acmeref12_Causes.T9 := by kernel_rfl
theorem acmeref12_Causes.bits9 : waitsOk acmeref12_Causes.T9.2 acmeref12_Causes.B9 = true := by kernel_rfl
def acmeref12_Causes.T19 : Bool × List (List Nat × List Nat) := (true, [([], []), ([], []), ([0, 1], [0, 1]), ([2], [2]), ([3], [3]), ([], []), ([5], [5]), ([4, 6], [4, 6]), ([7], [7]), ([8], [8]), ([8], [8]), ([8], [8]), ([10, 11, 8], [8, 10, 11]), ([12, 8], [8, 12]), ([13, 8], [8, 13]), ([8], [8]), ([8], [8]), ([15, 16, 8], [8, 15, 16]), ([17, 8], [8, 17]), ([18, 8], [8, 18]), ([9, 14, 19, 8, 8], [8, 9, 14, 19]), ([8, 20], [8, 20])])
def acmeref12_Causes.B19 : List Nat := [0, 0, 3, 7, 15, 0, 32, 127, 255, 511, 511, 511, 3583, 7679, 15871, 511, 511, 98815, 229887, 492031, 1048575, 2097151]
theorem acmeref12_Causes.tab19 : rtab .any (opsOf Try.f36 19) = acmeref12_Causes.T19 := by kernel_rfl
theorem acmeref12_Causes.bits19 : waitsOk acmeref12_Causes.T19.2 acmeref12_Causes.B19 = true := by kernel_rfl
set_option maxHeartbeats 8000000 in
set_option maxRecDepth 100000 in
theorem acmeref12_Causes.calls (k : Nat) (A0 : Option Addr) (c0 : Nat) (l0 : List (S144)) (a1_0 : Int) (a1_1 : Int) (a1_2 : Int) (r1 : List (S79)) (r2 : Int) (w : World) (hr0 : Kd.C k144 w A0 l0.length l0) (hc0 : l0.length ≤ c0) (h : acmeref12_Causes.f k l0 a1_0 a1_1 a1_2 = some (r1, r2)) :
  Calls Try.prog 36 #[.slice A0 l0.length c0, .agg #[.int .i64 a1_0, .int .i64 a1_1, .int .i64 a1_2]] w fun e w' => ∃ v0_ : Value, e = .returned (.tuple #[v0_, .int .i64 r2]) ∧ Kd.R k79 79 w' w.heap.size (fun _ => True) v0_ r1 ∧ Below w.heap.size w w' := by
 have hu58 := Try.underlying58
 have hu79 := Try.underlying79
 have HR0 := Aside0.mk hr0
 have HC0 := Aside0.mk hc0
 clear hr0 hc0
 have HB := Aside0.mk (Below.refl w.heap.size w)
 have H : ((acmeref12_In.f a1_0 0 1000).bind fun t258 => (if t258 = true then ((acmeref12_In.f a1_1 0 a1_2).bind fun t259 => (if t259 = true then (acmeref12_Causes.j0 k l0 (decide (a1_2 > 100000)) a1_0 a1_1 a1_2) else (acmeref12_Causes.j0 k l0 true a1_0 a1_1 a1_2))) else (acmeref12_Causes.j0 k l0 true a1_0 a1_1 a1_2))) = some (r1, r2) := h
 clear h
 have HC3 := Aside0.mk H
 clear H
 go_enter Try.func36, Try.ntmps36
 go_upto_region 1 with (first | ((with_reducible refine gate_dst (N := 3) rfl ?_); refine box_event ?hg (N := 3) ?hd (cs := #[.int .i64 a1_0, .int .i64 a1_1, .int .i64 a1_2]) (t := 58) ?hr ?_; (case hd => rfl); (case hg => rfl); (case hr => first | (go_simp; done) | (go_simp; rfl)); intro gb257 hg w4 hbox hb; have BK257 := Aside0.mk (hbox); have GW257 := Aside0.mk ((by rw [hg]; exact (below_size HB.out) : w.heap.size ≤ gb257)); have GE257 := GW257; replace HB := Aside0.mk (below_step HB.out hb); clear hb hbox hg))
 (try simp only [Act.put, sa_, s0_, s1_])
 go_cut [29] (fun v29 wc => ∃ (kq : Nat) (x29_2 : Bool), v29 = .bool x29_2 ∧ Aside0 (acmeref12_Causes.j0 kq l0 x29_2 a1_0 a1_1 a1_2 = some (r1, r2)) ∧ Aside0 (kq ≤ k) ∧ Aside0 (wc.heap[gb257]? = some (.cells #[.int .i64 a1_0, .int .i64 a1_1, .int .i64 a1_2] 58 (0, 0))) ∧ Aside0 (Below w.heap.size w wc))
 case first => as_aux_lemma =>
  have H := HC3.out
  clear HC3
  replace H := Option.bind_eq_some_iff.mp H
  obtain ⟨t258, A50, H⟩ := H; (try dsimp only at H)
  have A5 := Aside0.mk A50
  clear A50
  by_cases c6 : t258 = true
  ·subst c6
   have H1 : ((acmeref12_In.f a1_1 0 a1_2).bind fun t259 => (if t259 = true then (acmeref12_Causes.j0 k l0 (decide (a1_2 > 100000)) a1_0 a1_1 a1_2) else (acmeref12_Causes.j0 k l0 true a1_0 a1_1 a1_2))) = some (r1, r2) := by rw [if_pos rfl] at H; exact H
   clear H
   have H := H1
   clear H1
   replace H := Option.bind_eq_some_iff.mp H
   obtain ⟨t259, A70, H⟩ := H; (try dsimp only at H)
   have A7 := Aside0.mk A70
   clear A70
   by_cases c8 : t259 = true
   ·subst c8
    have H1 : (acmeref12_Causes.j0 k l0 (decide (a1_2 > 100000)) a1_0 a1_1 a1_2) = some (r1, r2) := by rw [if_pos rfl] at H; exact H
    clear H
    have H := H1
    clear H1
    have H' := Aside0.mk H
    clear H
    obtain ⟨hcz9_0, hcz9_1, hcz9_2⟩ := bc3 BK257.out
    obtain ⟨hfz9_0, hfz9_1, hfz9_2⟩ := bf3 BK257.out
    go_wp2_with (first | ((with_reducible refine gate_callee (f := 19) rfl ?_); refine goesL_ (some 15) rfl rfl Try.func19 (by kernel_rfl) rfl #[.int .i64 a1_0, .int .i64 0, .int .i64 1000] rfl (by (try simp only [List.map_toArray, List.map_cons, List.map_nil]); first | done | rfl | (simp only [List.length_drop, List.length_take]; rfl)) ?_; (with_reducible refine (acmeref12_In.calls a1_0 0 1000 true _ A5.out).mono ?_); rintro e w' ⟨rfl, ⟨nd, rfl⟩⟩; refine ⟨_, rfl, ?_⟩) | (go_at_call 19; (with_reducible refine (acmeref12_In.calls a1_1 0 a1_2 true _ A7.out).mono ?_); rintro e w' ⟨rfl, ⟨nd, rfl⟩⟩))
    go_meet
    case rel => exact ⟨_, (decide (a1_2 > 100000)), (by first | rfl | (simp; done) | (simp [*]; done)), H', ⟨by first | omega | exact Nat.le_refl _⟩, BK257, ⟨by repeat (first | (with_reducible first | exact HB.out | apply below_alloc | apply pw_below_drewN | apply below_drew1 | refine below_set ?_ (Aside0.out (by assumption))) | exact HB.out)⟩⟩
   ·replace c8 := Bool.eq_false_iff.mpr c8
    subst c8
    have H1 : (acmeref12_Causes.j0 k l0 true a1_0 a1_1 a1_2) = some (r1, r2) := by rw [if_neg (show ¬ (false = true) by decide)] at H; exact H
    clear H
    have H := H1
    clear H1
    have H' := Aside0.mk H
    clear H
    obtain ⟨hcz10_0, hcz10_1, hcz10_2⟩ := bc3 BK257.out
    obtain ⟨hfz10_0, hfz10_1, hfz10_2⟩ := bf3 BK257.out
    go_wp2_with (first | ((with_reducible refine gate_callee (f := 19) rfl ?_); refine goesL_ (some 15) rfl rfl Try.func19 (by kernel_rfl) rfl #[.int .i64 a1_0, .int .i64 0, .int .i64 1000] rfl (by (try simp only [List.map_toArray, List.map_cons, List.map_nil]); first | done | rfl | (simp only [List.length_drop, List.length_take]; rfl)) ?_; (with_reducible refine (acmeref12_In.calls a1_0 0 1000 true _ A5.out).mono ?_); rintro e w' ⟨rfl, ⟨nd, rfl⟩⟩; refine ⟨_, rfl, ?_⟩) | (go_at_call 19; (with_reducible refine (acmeref12_In.calls a1_1 0 a1_2 false _ A7.out).mono ?_); rintro e w' ⟨rfl, ⟨nd, rfl⟩⟩))
    go_meet
    case rel => exact ⟨_, (true), (by first | rfl | (simp; done) | (simp [*]; done)), H', ⟨by first | omega | exact Nat.le_refl _⟩, BK257, ⟨by repeat (first | (with_reducible first | exact HB.out | apply below_alloc | apply pw_below_drewN | apply below_drew1 | refine below_set ?_ (Aside0.out (by assumption))) | exact HB.out)⟩⟩
  ·replace c6 := Bool.eq_false_iff.mpr c6
   subst c6
   have H1 : (acmeref12_Causes.j0 k l0 true a1_0 a1_1 a1_2) = some (r1, r2) := by rw [if_neg (show ¬ (false = true) by decide)] at H; exact H
   clear H
   have H := H1
   clear H1
   have H' := Aside0.mk H
   clear H
   obtain ⟨hcz11_0, hcz11_1, hcz11_2⟩ := bc3 BK257.out
   obtain ⟨hfz11_0, hfz11_1, hfz11_2⟩ := bf3 BK257.out
   go_wp2_with (first | ((with_reducible refine gate_callee (f := 19) rfl ?_); refine goesL_ (some 15) rfl rfl Try.func19 (by kernel_rfl) rfl #[.int .i64 a1_0, .int .i64 0, .int .i64 1000] rfl (by (try simp only [List.map_toArray, List.map_cons, List.map_nil]); first | done | rfl | (simp only [List.length_drop, List.length_take]; rfl)) ?_; (with_reducible refine (acmeref12_In.calls a1_0 0 1000 false _ A5.out).mono ?_); rintro e w' ⟨rfl, ⟨nd, rfl⟩⟩; refine ⟨_, rfl, ?_⟩))
   go_meet
   case rel => exact ⟨_, (true), (by first | rfl | (simp; done) | (simp [*]; done)), H', ⟨by first | omega | exact Nat.le_refl _⟩, BK257, ⟨by repeat (first | (with_reducible first | exact HB.out | apply below_alloc | apply pw_below_drewN | apply below_drew1 | refine below_set ?_ (Aside0.out (by assumption))) | exact HB.out)⟩⟩
 case rest => as_aux_lemma =>
  clear HC3
  try clear c1; try clear p2; try clear c3; try clear c6; try clear c8; try clear hcz10_0; try clear hcz10_1; try clear hcz10_2; try clear hcz11_0; try clear hcz11_1; try clear hcz11_2; try clear hcz9_0; try clear hcz9_1; try clear hcz9_2; try clear hfz10_0; try clear hfz10_1; try clear hfz10_2; try clear hfz11_0; try clear hfz11_1; try clear hfz11_2; try clear hfz9_0; try clear hfz9_1; try clear hfz9_2
  obtain ⟨kq, x29_2, rfl, HA, HJ2, BK257, HB⟩ := hcut
  cases kq with
  | zero => exact absurd HA.out (by simp [acmeref12_Causes.j0])
  | succ kj2 =>
   have H := HA.out
   clear HA
   simp only [acmeref12_Causes.j0] at H
   by_cases c12 : x29_2 = true
   ·subst c12
    have H1 : (some (([] : List (S79)), 2)) = some (r1, r2) := by rw [if_pos rfl] at H; exact H
    clear H
    have H := H1
    clear H1
    simp only [Option.some.injEq, Prod.mk.injEq] at H
    obtain ⟨rfl, rfl⟩ := H
    go_wp2
    go_ret2
    exact ⟨_, by first | rfl | (simp [errW_none, errW_some] <;> rfl) | (simp [*, errW_none, errW_some] <;> rfl), by first | exact Kd.R_nil _ _ _ _ _ | exact Kd.N_nil _ _ _ _ _ | exact Kd.V_nil _ _ _ _ _ | exact Kd.Q_nil _ _ _ _ _ | exact Kd.S_nil _ _ _ _ _, by repeat (first | (with_reducible first | exact HB.out | apply below_alloc | apply pw_below_drewN | apply below_drew1 | refine below_set ?_ (Aside0.out (by assumption))) | exact HB.out)⟩
   ·replace c12 := Bool.eq_false_iff.mpr c12
    subst c12
    have H1 : (acmeref12_Causes.l0 kj2 l0 (([] : List (S79))) 0 0 a1_0 a1_1 a1_2) = some (r1, r2) := by rw [if_neg (show ¬ (false = true) by decide)] at H; exact H
    clear H
    have H := H1
    clear H1
    obtain ⟨y260, hy260⟩ : ∃ y_ : List (S79), y_ = (([] : List (S79))) := ⟨_, rfl⟩
    replace H : (acmeref12_Causes.l0 kj2 l0 y260 0 0 a1_0 a1_1 a1_2) = some (r1, r2) := by first | (rw [hy260]; with_reducible exact H) | (have H2_ := (Option.bind_some _ _).symm.trans H; rw [hy260]; with_reducible exact H2_) | (have H2_ := (Option.bind_some _ _).symm.trans H; with_reducible exact H2_) | with_reducible exact H | (rw [hy260]; exact H) | exact H
    have Ny260 := Aside0.mk hy260
    clear hy260
    have H' := Aside0.mk H
    clear H
    go_wp2_with (first | ((with_reducible refine gate_dst (N := 30) rfl ?_); refine Kd.R_lit k79 _ 79 ?hg (N := 30) ?hd (xs := ([] : List (S79))) (inner := []) (ok := fun _ => True) (okp := fun _ => True) ?hr ?hp (fun _ hk => hk) trivial (Below.refl _ _) (Nat.le_refl _) (by simp) ?_; (case hd => rfl); (case hg => rfl); (case hr => first | (go_simp; done) | (go_simp; rfl)); (case hp => exact (Reps.none _ _)); intro v261 w13 ho14 hb hg_ hnew_; clear hg_ hnew_; (first | rw [← Ny260.out] at ho14 | (simp only [Int.reduceToNat] at ho14; rw [← Ny260.out] at ho14)); have HO262 := Aside0.mk (Kd.R_lower ho14 (below_size (by repeat (first | (with_reducible first | exact HB.out | apply below_alloc | apply pw_below_drewN | apply below_drew1 | refine below_set ?_ (Aside0.out (by assumption))) | exact HB.out)))); replace BK257 := Aside0.mk (blk_below (g := gb257) (o := .cells #[.int .i64 a1_0, .int .i64 a1_1, .int .i64 a1_2] 58 (0, 0)) (by repeat (first | (with_reducible first | exact BK257.out | refine blk_drewN ?_ _ | refine blk_drew ?_ | refine blk_alloc ?_ _) | exact BK257.out)) hb); replace HB := Aside0.mk (below_step (by repeat (first | (with_reducible first | exact HB.out | apply below_alloc | apply pw_below_drewN | apply below_drew1 | refine below_set ?_ (Aside0.out (by assumption))) | exact HB.out)) hb); clear hb ho14))
    go_loopg [6, 7, 8] kj2 (fun kq v6 v7 v8 w' => ∃ (x6_2 : List (S79)) (x7_2 : Int) (x8_2 : Int), v7 = .int .i64 x7_2 ∧ v8 = .int .i64 x8_2 ∧ Aside0 (acmeref12_Causes.l0 kq l0 x6_2 x7_2 x8_2 a1_0 a1_1 a1_2 = some (r1, r2)) ∧ Aside0 (kq ≤ kj2) ∧ Aside0 (Kd.R k79 79 w' w.heap.size (fun _ => True) v6 x6_2) ∧ Aside0 (w'.heap[gb257]? = some (.cells #[.int .i64 a1_0, .int .i64 a1_1, .int .i64 a1_2] 58 (0, 0))) ∧ Aside0 (Below w.heap.size w w'))
    case atStart => exact ⟨(y260), (0), (0), (by first | rfl | (simp; done) | (simp [*]; done)), (by first | rfl | (simp; done) | (simp [*]; done)), H', ⟨Nat.le_refl _⟩, ⟨by (with_reducible repeat (first | apply Kd.R_alloc | apply Kd.R_drewN | apply Kd.R_drew)); exact HO262.out⟩, BK257, ⟨by repeat (first | (with_reducible first | exact HB.out | apply below_alloc | apply pw_below_drewN | apply below_drew1 | refine below_set ?_ (Aside0.out (by assumption))) | exact HB.out)⟩⟩
    case round => as_aux_lemma =>
     clear H'
     try clear c1; try clear p2; try clear c3; try clear c6; try clear c8; try clear c12; try clear hcz10_0; try clear hcz10_1; try clear hcz10_2; try clear hcz11_0; try clear hcz11_1; try clear hcz11_2; try clear hcz9_0; try clear hcz9_1; try clear hcz9_2; try clear hfz10_0; try clear hfz10_1; try clear hfz10_2; try clear hfz11_0; try clear hfz11_1; try clear hfz11_2; try clear hfz9_0; try clear hfz9_1; try clear hfz9_2; try clear p2
     obtain ⟨x6_2, x7_2, x8_2, rfl, rfl, HA, HK2, HO_6, BK257, HB⟩ := hrel
     cases gk with
     | zero => exact absurd HA.out (by simp [acmeref12_Causes.l0])
     | succ k2 =>
      have H := HA.out
      clear HA
      simp only [acmeref12_Causes.l0] at H
      by_cases c15 : x8_2 < (l0.length : Int)
      ·rw [if_pos c15] at H
       have c15b0 : decide (x8_2 < (l0.length : Int)) = true := decide_eq_true c15
       clear c15
       by_cases c16 : 0 ≤ x8_2
       ·rw [if_pos c16] at H
        have c16b0 : decide (0 ≤ x8_2) = true := decide_eq_true c16
        clear c16
        obtain ⟨ji17, hji17⟩ : ∃ j_ : Int, (mx ((rd_T144 l0 x8_2).f1) a1_1) = j_ := ⟨_, rfl⟩
        replace H : (if ((rd_T144 l0 x8_2).f0) = a1_0 then (acmeref12_Causes.j2 k2 l0 x6_2 x7_2 x8_2 ji17 (mn ((rd_T144 l0 x8_2).f2) a1_2) (decide ((ji17) > (mn ((rd_T144 l0 x8_2).f2) a1_2))) a1_0 a1_1 a1_2) else (acmeref12_Causes.j2 k2 l0 x6_2 x7_2 x8_2 ji17 (mn ((rd_T144 l0 x8_2).f2) a1_2) true a1_0 a1_1 a1_2)) = some (r1, r2) := by first | (rw [hji17] at H; exact H) | (simp only [hji17] at H ⊢; exact H)
        have hji17_ : (if ((rd_T144 l0 x8_2).f1) < a1_1 then a1_1 else ((rd_T144 l0 x8_2).f1)) = ji17 := hji17
        obtain ⟨ji18, hji18⟩ : ∃ j_ : Int, (mn ((rd_T144 l0 x8_2).f2) a1_2) = j_ := ⟨_, rfl⟩
        replace H : (if ((rd_T144 l0 x8_2).f0) = a1_0 then (acmeref12_Causes.j2 k2 l0 x6_2 x7_2 x8_2 ji17 ji18 (decide ((ji17) > (ji18))) a1_0 a1_1 a1_2) else (acmeref12_Causes.j2 k2 l0 x6_2 x7_2 x8_2 ji17 ji18 true a1_0 a1_1 a1_2)) = some (r1, r2) := by first | (rw [hji18] at H; exact H) | (simp only [hji18] at H ⊢; exact H)
        have hji18_ : (if a1_2 < ((rd_T144 l0 x8_2).f2) then a1_2 else ((rd_T144 l0 x8_2).f2)) = ji18 := hji18
        have HC19 := Aside0.mk H
        clear H
        try go_wp2
        have n0_ := Aside0.mk (Kd.R_drew HO_6.out)
        have n1_ := Aside0.mk (blk_drew BK257.out)
        have n2_ := Aside0.mk (below_drew1 HB.out)
        clear HO_6
        clear BK257
        clear HB
        have HO_6 := n0_
        have BK257 := n1_
        have HB := n2_
        clear n0_ n1_ n2_
        have p263 : 0 ≤ (x8_2 : Int) := of_decide_eq_true ‹_›
        have q263 : x8_2 < (l0.length : Int) := of_decide_eq_true ‹_›
        obtain ⟨ad263, e263, hx263_0, hx263_1, hx263_2, hx263_3, hx263_4⟩ := at_T144 HR0.out x8_2 p263 q263
        have hw263_4 := hx263_4
        have hw263_3 := hx263_3
        have hw263_2 := hx263_2
        have hw263_1 := hx263_1
        have hw263_0 := hx263_0
        cases e263
        replace hx263_0 := bl_ HB hx263_0
        replace hx263_1 := bl_ HB hx263_1
        replace hx263_2 := bl_ HB hx263_2
        replace hx263_3 := bl_ HB hx263_3
        replace hx263_4 := bl_ HB hx263_4
        replace p263 := eq_true p263
        replace q263 := eq_true q263
        have p264 : 0 ≤ (x8_2 : Int) := of_decide_eq_true ‹_›
        have q264 : x8_2 < (l0.length : Int) := of_decide_eq_true ‹_›
        obtain ⟨ad264, e264, hx264_0, hx264_1, hx264_2, hx264_3, hx264_4⟩ := at_T144 HR0.out x8_2 p264 q264
        have hw264_4 := hx264_4
        have hw264_3 := hx264_3
        have hw264_2 := hx264_2
        have hw264_1 := hx264_1
        have hw264_0 := hx264_0
        obtain rfl : ad263 = ad264 := (by injection e264)
        replace hx264_0 := bl_ HB hx264_0
        replace hx264_1 := bl_ HB hx264_1
        replace hx264_2 := bl_ HB hx264_2
        replace hx264_3 := bl_ HB hx264_3
        replace hx264_4 := bl_ HB hx264_4
        replace p264 := eq_true p264
        replace q264 := eq_true q264
        refine start_ (n := 18) (S := fun w' => w'.cell? ⟨gb257, 0, none⟩ = some (.int .i64 a1_0) ∧ w'.cell? ⟨gb257, 1, none⟩ = some (.int .i64 a1_1) ∧ w'.cell? ⟨gb257, 2, none⟩ = some (.int .i64 a1_2) ∧ w'.cell? (ad263.add ((x8_2).toNat * 5)) = some (.int .i64 ((rd_T144 l0 x8_2).f0)) ∧ w'.cell? ⟨(ad263.add ((x8_2).toNat * 5)).block, (ad263.add ((x8_2).toNat * 5)).off + 1, none⟩ = some (.int .i64 ((rd_T144 l0 x8_2).f1)) ∧ w'.cell? ⟨(ad263.add ((x8_2).toNat * 5)).block, (ad263.add ((x8_2).toNat * 5)).off + 2, none⟩ = some (.int .i64 ((rd_T144 l0 x8_2).f2)) ∧ w'.cell? ⟨(ad263.add ((x8_2).toNat * 5)).block, (ad263.add ((x8_2).toNat * 5)).off + 3, none⟩ = some (.int .i64 ((rd_T144 l0 x8_2).f3)) ∧ w'.cell? ⟨(ad263.add ((x8_2).toNat * 5)).block, (ad263.add ((x8_2).toNat * 5)).off + 4, none⟩ = some (.int .i64 ((rd_T144 l0 x8_2).f4)) ∧ w'.cell? (ad263.add ((x8_2).toNat * 5)) = some (.int .i64 ((rd_T144 l0 x8_2).f0)) ∧ w'.cell? ⟨(ad263.add ((x8_2).toNat * 5)).block, (ad263.add ((x8_2).toNat * 5)).off + 1, none⟩ = some (.int .i64 ((rd_T144 l0 x8_2).f1)) ∧ w'.cell? ⟨(ad263.add ((x8_2).toNat * 5)).block, (ad263.add ((x8_2).toNat * 5)).off + 2, none⟩ = some (.int .i64 ((rd_T144 l0 x8_2).f2)) ∧ w'.cell? ⟨(ad263.add ((x8_2).toNat * 5)).block, (ad263.add ((x8_2).toNat * 5)).off + 3, none⟩ = some (.int .i64 ((rd_T144 l0 x8_2).f3)) ∧ w'.cell? ⟨(ad263.add ((x8_2).toNat * 5)).block, (ad263.add ((x8_2).toNat * 5)).off + 4, none⟩ = some (.int .i64 ((rd_T144 l0 x8_2).f4))) (ds := []) #[false, false, false, false, false, false, false, false, false, false, false, false, false, false, false, false, false, false] (by kernel_rfl) rfl rfl ⟨(blk_cell BK257.out 0).trans rfl, (blk_cell BK257.out 1).trans rfl, (blk_cell BK257.out 2).trans rfl, ((HB.out.cell (World.block_lt_of_cell? w _ hw263_0)).trans hw263_0), ((HB.out.cell (World.block_lt_of_cell? w _ hw263_1)).trans hw263_1), ((HB.out.cell (World.block_lt_of_cell? w _ hw263_2)).trans hw263_2), ((HB.out.cell (World.block_lt_of_cell? w _ hw263_3)).trans hw263_3), ((HB.out.cell (World.block_lt_of_cell? w _ hw263_4)).trans hw263_4), ((HB.out.cell (World.block_lt_of_cell? w _ hw264_0)).trans hw264_0), ((HB.out.cell (World.block_lt_of_cell? w _ hw264_1)).trans hw264_1), ((HB.out.cell (World.block_lt_of_cell? w _ hw264_2)).trans hw264_2), ((HB.out.cell (World.block_lt_of_cell? w _ hw264_3)).trans hw264_3), ((HB.out.cell (World.block_lt_of_cell? w _ hw264_4)).trans hw264_4)⟩ (fun hHeld => ?_); refine with_tabW acmeref12_Causes.tab7 acmeref12_Causes.bits7 (fun HT_ HW_ => ?_)
        generalize wr.drew = w20 at HO_6 BK257 HB hx263_0 hx263_1 hx263_2 hx263_3 hx263_4 hx264_0 hx264_1 hx264_2 hx264_3 hx264_4 hHeld ⊢
        refine pure_ (i := 0) (N := some 37) (v := ?_) (a' := ?_) #[true, false, false, false, false, false, false, false, false, false, false, false, false, false, false, false, false, false] rfl rfl (any_of HT_.out (by kernel_rfl)) (fun _ _ _ h => h) (Or.inl ⟨by rfl, ?_⟩) ?_ ?_
        rotate_left
        ·intro w'
         go_simp
         with_reducible rfl
        rotate_left
        ·simp only [Act.put, sa_, s0_, s1_, i64_w, i32_w]
         rfl
        refine pure_ (i := 1) (N := some 38) (v := ?_) (a' := ?_) #[true, true, false, false, false, false, false, false, false, false, false, false, false, false, false, false, false, false] rfl rfl (any_of HT_.out (by kernel_rfl)) (fun _ _ _ h => h) (Or.inl ⟨by rfl, ?_⟩) ?_ ?_
        rotate_left
        ·intro w'
         go_simp
         with_reducible rfl
        rotate_left
        ·simp only [Act.put, sa_, s0_, s1_, i64_w, i32_w]
         rfl
        refine pure_ (i := 2) (N := some 39) (v := ?_) (a' := ?_) #[true, true, true, false, false, false, false, false, false, false, false, false, false, false, false, false, false, false] rfl rfl (any_of HT_.out (by kernel_rfl)) (fun _ _ _ h => h) (Or.inl ⟨by rfl, ?_⟩) ?_ ?_
        rotate_left
        ·intro w'
         go_simp
         with_reducible rfl
        rotate_left
        ·simp only [Act.put, sa_, s0_, s1_, i64_w, i32_w]
         rfl
        refine pure_ (i := 3) (N := some 40) (v := ?_) (a' := ?_) #[true, true, true, true, false, false, false, false, false, false, false, false, false, false, false, false, false, false] rfl rfl (any_of HT_.out (by kernel_rfl)) (fun _ _ _ h => h) (Or.inl ⟨by rfl, ?_⟩) ?_ ?_
        rotate_left
        ·intro w'
         go_simp
         with_reducible rfl
        rotate_left
        ·simp only [Act.put, sa_, s0_, s1_, i64_w, i32_w]
         rfl
        refine pure_ (i := 5) (N := some 42) (v := ?_) (a' := ?_) #[true, true, true, true, false, true, false, false, false, false, false, false, false, false, false, false, false, false] rfl rfl (any_of HT_.out (by kernel_rfl)) (fun _ _ _ h => h) (Or.inl ⟨by rfl, ?_⟩) ?_ ?_
        rotate_left
        ·intro w'
         go_simp
         with_reducible rfl
        rotate_left
        ·simp only [Act.put, sa_, s0_, s1_, i64_w, i32_w]
         rfl
        refine pure_ (i := 8) (N := some 45) (v := ?_) (a' := ?_) #[true, true, true, true, false, true, false, false, true, false, false, false, false, false, false, false, false, false] rfl rfl (any_of HT_.out (by kernel_rfl)) (fun _ _ _ h => h) (Or.inl ⟨by rfl, ?_⟩) ?_ ?_
        rotate_left
        ·intro w'
         go_simp
         with_reducible rfl
        rotate_left
        ·simp only [Act.put, sa_, s0_, s1_, i64_w, i32_w]
         rfl
        refine pure_ (i := 9) (N := some 46) (v := ?_) (a' := ?_) #[true, true, true, true, false, true, false, false, true, true, false, false, false, false, false, false, false, false] rfl rfl (any_of HT_.out (by kernel_rfl)) (fun _ _ _ h => h) (Or.inl ⟨by rfl, ?_⟩) ?_ ?_
        rotate_left
        ·intro w'
         go_simp
         with_reducible rfl
        rotate_left
        ·simp only [Act.put, sa_, s0_, s1_, i64_w, i32_w]
         rfl
        refine pure_ (i := 10) (N := some 47) (v := ?_) (a' := ?_) #[true, true, true, true, false, true, false, false, true, true, true, false, false, false, false, false, false, false] rfl rfl (any_of HT_.out (by kernel_rfl)) (fun _ _ _ h => h) (Or.inl ⟨by rfl, ?_⟩) ?_ ?_
        rotate_left
        ·intro w'
         go_simp
         with_reducible rfl
        rotate_left
        ·simp only [Act.put, sa_, s0_, s1_, i64_w, i32_w]
         rfl
        refine pure_ (i := 11) (N := some 48) (v := ?_) (a' := ?_) #[true, true, true, true, false, true, false, false, true, true, true, true, false, false, false, false, false, false] rfl rfl (any_of HT_.out (by kernel_rfl)) (fun _ _ _ h => h) (Or.inl ⟨by rfl, ?_⟩) ?_ ?_
        rotate_left
        ·intro w'
         go_simp
         with_reducible rfl
        rotate_left
        ·simp only [Act.put, sa_, s0_, s1_, i64_w, i32_w]
         rfl
        refine pure_ (i := 13) (N := some 50) (v := ?_) (a' := ?_) #[true, true, true, true, false, true, false, false, true, true, true, true, false, true, false, false, false, false] rfl rfl (any_of HT_.out (by kernel_rfl)) (fun _ _ _ h => h) (Or.inl ⟨by rfl, ?_⟩) ?_ ?_
        rotate_left
        ·intro w'
         go_simp
         with_reducible rfl
        rotate_left
        ·simp only [Act.put, sa_, s0_, s1_, i64_w, i32_w]
         rfl
        refine take_ (i := 4) (N := some 41) (v := ?_) (a' := ?_) #[true, true, true, true, true, true, false, false, true, true, true, true, false, true, false, false, false, false] rfl rfl (take_ofW HT_.out HW_.out (by kernel_rfl)) (fun _ _ _ h => h) (Or.inl ⟨by rfl, ?_⟩) hHeld ?_ ?_
        rotate_left
        ·rintro w' ⟨s0, s1, s2, s3, s4, s5, s6, s7, s8, s9, s10, s11, s12⟩
         go_simp
         with_reducible rfl
        rotate_left
        ·simp only [Act.put, sa_, s0_, s1_, i64_w, i32_w]
         rfl
        refine take_ (i := 6) (N := some 43) (v := ?_) (a' := ?_) #[true, true, true, true, true, true, true, false, true, true, true, true, false, true, false, false, false, false] rfl rfl (take_ofW HT_.out HW_.out (by kernel_rfl)) (fun _ _ _ h => h) (Or.inl ⟨by rfl, ?_⟩) hHeld ?_ ?_
        rotate_left
        ·rintro w' ⟨s0, s1, s2, s3, s4, s5, s6, s7, s8, s9, s10, s11, s12⟩
         go_simp
         with_reducible rfl
        rotate_left
        ·simp only [Act.put, sa_, s0_, s1_, i64_w, i32_w]
         rfl
        refine pure_ (i := 7) (N := some 44) (v := ?_) (a' := ?_) #[true, true, true, true, true, true, true, true, true, true, true, true, false, true, false, false, false, false] rfl rfl (any_of HT_.out (by kernel_rfl)) (fun _ _ _ h => h) (Or.inl ⟨by rfl, ?_⟩) ?_ ?_
        rotate_left
        ·intro w'
         go_simp
         with_reducible rfl
        rotate_left
        ·simp only [Act.put, sa_, s0_, s1_, i64_w, i32_w]
         rfl
        refine pure_ (i := 16) (N := some 9) (v := ?_) (a' := ?_) #[true, true, true, true, true, true, true, true, true, true, true, true, false, true, false, false, true, false] rfl rfl (any_of HT_.out (by kernel_rfl)) (fun _ _ _ h => h) (Or.inl ⟨by rfl, ?_⟩) ?_ ?_
        rotate_left
        ·intro w'
         go_simp
         with_reducible rfl
        rotate_left
        ·simp only [Act.put, sa_, s0_, s1_, i64_w, i32_w]
         rfl
        refine take_ (i := 12) (N := some 49) (v := ?_) (a' := ?_) #[true, true, true, true, true, true, true, true, true, true, true, true, true, true, false, false, true, false] rfl rfl (take_ofW HT_.out HW_.out (by kernel_rfl)) (fun _ _ _ h => h) (Or.inl ⟨by rfl, ?_⟩) hHeld ?_ ?_
        rotate_left
        ·rintro w' ⟨s0, s1, s2, s3, s4, s5, s6, s7, s8, s9, s10, s11, s12⟩
         go_simp
         with_reducible rfl
        rotate_left
        ·simp only [Act.put, sa_, s0_, s1_, i64_w, i32_w]
         rfl
        refine take_ (i := 14) (N := some 51) (v := ?_) (a' := ?_) #[true, true, true, true, true, true, true, true, true, true, true, true, true, true, true, false, true, false] rfl rfl (take_ofW HT_.out HW_.out (by kernel_rfl)) (fun _ _ _ h => h) (Or.inl ⟨by rfl, ?_⟩) hHeld ?_ ?_
        rotate_left
        ·rintro w' ⟨s0, s1, s2, s3, s4, s5, s6, s7, s8, s9, s10, s11, s12⟩
         go_simp
         with_reducible rfl
        rotate_left
        ·simp only [Act.put, sa_, s0_, s1_, i64_w, i32_w]
         rfl
        refine pure_ (i := 15) (N := some 52) (v := ?_) (a' := ?_) #[true, true, true, true, true, true, true, true, true, true, true, true, true, true, true, true, true, false] rfl rfl (any_of HT_.out (by kernel_rfl)) (fun _ _ _ h => h) (Or.inl ⟨by rfl, ?_⟩) ?_ ?_
        rotate_left
        ·intro w'
         go_simp
         with_reducible rfl
        rotate_left
        ·simp only [Act.put, sa_, s0_, s1_, i64_w, i32_w]
         rfl
        refine pure_ (i := 17) (N := some 10) (v := ?_) (a' := ?_) #[true, true, true, true, true, true, true, true, true, true, true, true, true, true, true, true, true, true] rfl rfl (any_of HT_.out (by kernel_rfl)) (fun _ _ _ h => h) (Or.inl ⟨by rfl, ?_⟩) ?_ ?_
        rotate_left
        ·intro w'
         go_simp
         with_reducible rfl
        rotate_left
        ·simp only [Act.put, sa_, s0_, s1_, i64_w, i32_w]
         rfl
        refine done_ (done_of HT_.out (by kernel_rfl)) ?_
        go_upto_region 8 with (fail)
        go_cut [65] (fun v65 wc => ∃ (kq : Nat) (x65_18 : Bool), v65 = .bool x65_18 ∧ Aside0 (acmeref12_Causes.j2 kq l0 x6_2 x7_2 x8_2 ji17 ji18 x65_18 a1_0 a1_1 a1_2 = some (r1, r2)) ∧ Aside0 (kq ≤ k2) ∧ Aside0 (Kd.R k79 79 wc w.heap.size (fun _ => True) u6 x6_2) ∧ Aside0 (wc.heap[gb257]? = some (.cells #[.int .i64 a1_0, .int .i64 a1_1, .int .i64 a1_2] 58 (0, 0))) ∧ Aside0 (Below w.heap.size w wc))
        case first => as_aux_lemma =>
         have H := HC19.out
         clear HC19
         by_cases c21 : ((rd_T144 l0 x8_2).f0) = a1_0
         ·rw [if_pos c21] at H
          have c21b0 : (((rd_T144 l0 x8_2).f0) == a1_0) = true := beq_iff_eq.mpr c21
          have c21b1 : (((rd_T144 l0 x8_2).f0) != a1_0) = false := bne_eq_false_iff_eq.mpr c21
          clear c21
          (first | rw [c21b0] | (simp only [i64_w, i32_w]; rw [c21b0]) | skip)
          have H' := Aside0.mk H
          clear H
          try go_wp2
          have n0_ := Aside0.mk (Kd.R_drew HO_6.out)
          have n1_ := Aside0.mk (blk_drew BK257.out)
          have n2_ := Aside0.mk (below_drew1 HB.out)
          clear HO_6
          clear BK257
          clear HB
          have HO_6 := n0_
          have BK257 := n1_
          have HB := n2_
          clear n0_ n1_ n2_
          have p265 : 0 ≤ (x8_2 : Int) := of_decide_eq_true ‹_›
          have q265 : x8_2 < (l0.length : Int) := of_decide_eq_true ‹_›
          obtain ⟨ad265, e265, hx265_0, hx265_1, hx265_2, hx265_3, hx265_4⟩ := at_T144 HR0.out x8_2 p265 q265
          have hw265_4 := hx265_4
          have hw265_3 := hx265_3
          have hw265_2 := hx265_2
          have hw265_1 := hx265_1
          have hw265_0 := hx265_0
          obtain rfl : ad263 = ad265 := (by injection e265)
          replace hx265_0 := bl_ HB hx265_0
          replace hx265_1 := bl_ HB hx265_1
          replace hx265_2 := bl_ HB hx265_2
          replace hx265_3 := bl_ HB hx265_3
          replace hx265_4 := bl_ HB hx265_4
          replace p265 := eq_true p265
          replace q265 := eq_true q265
          refine start_ (n := 13) (S := fun w' => w'.cell? ⟨gb257, 0, none⟩ = some (.int .i64 a1_0) ∧ w'.cell? ⟨gb257, 1, none⟩ = some (.int .i64 a1_1) ∧ w'.cell? ⟨gb257, 2, none⟩ = some (.int .i64 a1_2) ∧ w'.cell? (ad263.add ((x8_2).toNat * 5)) = some (.int .i64 ((rd_T144 l0 x8_2).f0)) ∧ w'.cell? ⟨(ad263.add ((x8_2).toNat * 5)).block, (ad263.add ((x8_2).toNat * 5)).off + 1, none⟩ = some (.int .i64 ((rd_T144 l0 x8_2).f1)) ∧ w'.cell? ⟨(ad263.add ((x8_2).toNat * 5)).block, (ad263.add ((x8_2).toNat * 5)).off + 2, none⟩ = some (.int .i64 ((rd_T144 l0 x8_2).f2)) ∧ w'.cell? ⟨(ad263.add ((x8_2).toNat * 5)).block, (ad263.add ((x8_2).toNat * 5)).off + 3, none⟩ = some (.int .i64 ((rd_T144 l0 x8_2).f3)) ∧ w'.cell? ⟨(ad263.add ((x8_2).toNat * 5)).block, (ad263.add ((x8_2).toNat * 5)).off + 4, none⟩ = some (.int .i64 ((rd_T144 l0 x8_2).f4))) (ds := []) #[false, false, false, false, false, false, false, false, false, false, false, false, false] (by kernel_rfl) rfl rfl ⟨(blk_cell BK257.out 0).trans rfl, (blk_cell BK257.out 1).trans rfl, (blk_cell BK257.out 2).trans rfl, ((HB.out.cell (World.block_lt_of_cell? w _ hw265_0)).trans hw265_0), ((HB.out.cell (World.block_lt_of_cell? w _ hw265_1)).trans hw265_1), ((HB.out.cell (World.block_lt_of_cell? w _ hw265_2)).trans hw265_2), ((HB.out.cell (World.block_lt_of_cell? w _ hw265_3)).trans hw265_3), ((HB.out.cell (World.block_lt_of_cell? w _ hw265_4)).trans hw265_4)⟩ (fun hHeld => ?_); refine with_tabW acmeref12_Causes.tab8 acmeref12_Causes.bits8 (fun HT_ HW_ => ?_)
          generalize w20.drew = w22 at HO_6 BK257 HB hx265_0 hx265_1 hx265_2 hx265_3 hx265_4 hHeld ⊢
          refine pure_ (i := 0) (N := some 53) (v := ?_) (a' := ?_) #[true, false, false, false, false, false, false, false, false, false, false, false, false] rfl rfl (any_of HT_.out (by kernel_rfl)) (fun _ _ _ h => h) (Or.inl ⟨by rfl, ?_⟩) ?_ ?_
          rotate_left
          ·intro w'
           go_simp
           with_reducible rfl
          rotate_left
          ·simp only [Act.put, sa_, s0_, s1_, i64_w, i32_w]
           rfl
          refine pure_ (i := 1) (N := some 54) (v := ?_) (a' := ?_) #[true, true, false, false, false, false, false, false, false, false, false, false, false] rfl rfl (any_of HT_.out (by kernel_rfl)) (fun _ _ _ h => h) (Or.inl ⟨by rfl, ?_⟩) ?_ ?_
          rotate_left
          ·intro w'
           go_simp
           with_reducible rfl
          rotate_left
          ·simp only [Act.put, sa_, s0_, s1_, i64_w, i32_w]
           rfl
          refine pure_ (i := 2) (N := some 55) (v := ?_) (a' := ?_) #[true, true, true, false, false, false, false, false, false, false, false, false, false] rfl rfl (any_of HT_.out (by kernel_rfl)) (fun _ _ _ h => h) (Or.inl ⟨by rfl, ?_⟩) ?_ ?_
          rotate_left
          ·intro w'
           go_simp
           with_reducible rfl
          rotate_left
          ·simp only [Act.put, sa_, s0_, s1_, i64_w, i32_w]
           rfl
          refine pure_ (i := 3) (N := some 56) (v := ?_) (a' := ?_) #[true, true, true, true, false, false, false, false, false, false, false, false, false] rfl rfl (any_of HT_.out (by kernel_rfl)) (fun _ _ _ h => h) (Or.inl ⟨by rfl, ?_⟩) ?_ ?_
          rotate_left
          ·intro w'
           go_simp
           with_reducible rfl
          rotate_left
          ·simp only [Act.put, sa_, s0_, s1_, i64_w, i32_w]
           rfl
          refine pure_ (i := 5) (N := some 58) (v := ?_) (a' := ?_) #[true, true, true, true, false, true, false, false, false, false, false, false, false] rfl rfl (any_of HT_.out (by kernel_rfl)) (fun _ _ _ h => h) (Or.inl ⟨by rfl, ?_⟩) ?_ ?_
          rotate_left
          ·intro w'
           go_simp
           with_reducible rfl
          rotate_left
          ·simp only [Act.put, sa_, s0_, s1_, i64_w, i32_w]
           rfl
          refine take_ (i := 4) (N := some 57) (v := ?_) (a' := ?_) #[true, true, true, true, true, true, false, false, false, false, false, false, false] rfl rfl (take_ofW HT_.out HW_.out (by kernel_rfl)) (fun _ _ _ h => h) (Or.inl ⟨by rfl, ?_⟩) hHeld ?_ ?_
          rotate_left
          ·rintro w' ⟨s0, s1, s2, s3, s4, s5, s6, s7⟩
           go_simp
           with_reducible rfl
          rotate_left
          ·simp only [Act.put, sa_, s0_, s1_, i64_w, i32_w]
           rfl
          refine take_ (i := 6) (N := some 59) (v := ?_) (a' := ?_) #[true, true, true, true, true, true, true, false, false, false, false, false, false] rfl rfl (take_ofW HT_.out HW_.out (by kernel_rfl)) (fun _ _ _ h => h) (Or.inl ⟨by rfl, ?_⟩) hHeld ?_ ?_
          rotate_left
          ·rintro w' ⟨s0, s1, s2, s3, s4, s5, s6, s7⟩
           go_simp
           with_reducible rfl
          rotate_left
          ·simp only [Act.put, sa_, s0_, s1_, i64_w, i32_w]
           rfl
          refine pure_ (i := 7) (N := some 60) (v := ?_) (a' := ?_) #[true, true, true, true, true, true, true, true, false, false, false, false, false] rfl rfl (any_of HT_.out (by kernel_rfl)) (fun _ _ _ h => h) (Or.inl ⟨by rfl, ?_⟩) ?_ ?_
          rotate_left
          ·intro w'
           go_simp
           with_reducible rfl
          rotate_left
          ·simp only [Act.put, sa_, s0_, s1_, i64_w, i32_w]
           rfl
          refine pure_ (i := 8) (N := some 61) (v := ?_) (a' := ?_) #[true, true, true, true, true, true, true, true, true, false, false, false, false] rfl rfl (any_of HT_.out (by kernel_rfl)) (fun _ _ _ h => h) (Or.inl ⟨by rfl, ?_⟩) ?_ ?_
          rotate_left
          ·intro w'
           go_simp
           with_reducible rfl
          rotate_left
          ·simp only [Act.put, sa_, s0_, s1_, i64_w, i32_w]
           rfl
          refine pure_ (i := 9) (N := some 62) (v := ?_) (a' := ?_) #[true, true, true, true, true, true, true, true, true, true, false, false, false] rfl rfl (any_of HT_.out (by kernel_rfl)) (fun _ _ _ h => h) (Or.inl ⟨by rfl, ?_⟩) ?_ ?_
          rotate_left
          ·intro w'
           go_simp
           with_reducible rfl
          rotate_left
          ·simp only [Act.put, sa_, s0_, s1_, i64_w, i32_w]
           rfl
          refine pure_ (i := 10) (N := some 63) (v := ?_) (a' := ?_) #[true, true, true, true, true, true, true, true, true, true, true, false, false] rfl rfl (any_of HT_.out (by kernel_rfl)) (fun _ _ _ h => h) (Or.inl ⟨by rfl, ?_⟩) ?_ ?_
          rotate_left
          ·intro w'
           go_simp
           with_reducible rfl
          rotate_left
          ·simp only [Act.put, sa_, s0_, s1_, i64_w, i32_w]
           rfl
          refine pure_ (i := 11) (N := some 64) (v := ?_) (a' := ?_) #[true, true, true, true, true, true, true, true, true, true, true, true, false] rfl rfl (any_of HT_.out (by kernel_rfl)) (fun _ _ _ h => h) (Or.inl ⟨by rfl, ?_⟩) ?_ ?_
          rotate_left
          ·intro w'
           go_simp
           with_reducible rfl
          rotate_left
          ·simp only [Act.put, sa_, s0_, s1_, i64_w, i32_w]
           rfl
          refine pure_ (i := 12) (N := some 65) (v := ?_) (a' := ?_) #[true, true, true, true, true, true, true, true, true, true, true, true, true] rfl rfl (any_of HT_.out (by kernel_rfl)) (fun _ _ _ h => h) (Or.inl ⟨by rfl, ?_⟩) ?_ ?_
          rotate_left
          ·intro w'
           go_simp
           with_reducible rfl
          rotate_left
          ·simp only [Act.put, sa_, s0_, s1_, i64_w, i32_w]
           rfl
          refine done_ (done_of HT_.out (by kernel_rfl)) ?_
          try go_wp2
          go_meet
          case rel => exact ⟨_, (decide ((ji17) > (ji18))), (by first | rfl | (simp; done) | (simp only [← hji17, ← hji18] <;> (first | rfl | simp)) | (simp [*]; done)), H', ⟨by have := HJ2.out; have := HK2.out; first | omega | exact Nat.le_refl _⟩, ⟨by (with_reducible repeat (first | apply Kd.R_alloc | apply Kd.R_drewN | apply Kd.R_drew)); exact HO_6.out⟩, BK257, ⟨by repeat (first | (with_reducible first | exact HB.out | apply below_alloc | apply pw_below_drewN | apply below_drew1 | refine below_set ?_ (Aside0.out (by assumption))) | exact HB.out)⟩⟩
         ·rw [if_neg c21] at H
          have c21b0 : (((rd_T144 l0 x8_2).f0) == a1_0) = false := beq_eq_false_iff_ne.mpr c21
          have c21b1 : (((rd_T144 l0 x8_2).f0) != a1_0) = true := bne_iff_ne.mpr c21
          (first | rw [c21b0] | (simp only [i64_w, i32_w]; rw [c21b0]) | skip)
          have H' := Aside0.mk H
          clear H
          try go_wp2
          have n0_ := Aside0.mk (Kd.R_drew HO_6.out)
          have n1_ := Aside0.mk (blk_drew BK257.out)
          have n2_ := Aside0.mk (below_drew1 HB.out)
          clear HO_6
          clear BK257
          clear HB
          have HO_6 := n0_
          have BK257 := n1_
          have HB := n2_
          clear n0_ n1_ n2_
          have p265 : 0 ≤ (x8_2 : Int) := of_decide_eq_true ‹_›
          have q265 : x8_2 < (l0.length : Int) := of_decide_eq_true ‹_›
          obtain ⟨ad265, e265, hx265_0, hx265_1, hx265_2, hx265_3, hx265_4⟩ := at_T144 HR0.out x8_2 p265 q265
          have hw265_4 := hx265_4
          have hw265_3 := hx265_3
          have hw265_2 := hx265_2
          have hw265_1 := hx265_1
          have hw265_0 := hx265_0
          obtain rfl : ad263 = ad265 := (by injection e265)
          replace hx265_0 := bl_ HB hx265_0
          replace hx265_1 := bl_ HB hx265_1
          replace hx265_2 := bl_ HB hx265_2
          replace hx265_3 := bl_ HB hx265_3
          replace hx265_4 := bl_ HB hx265_4
          replace p265 := eq_true p265
          replace q265 := eq_true q265
          refine start_ (n := 13) (S := fun w' => w'.cell? ⟨gb257, 0, none⟩ = some (.int .i64 a1_0) ∧ w'.cell? ⟨gb257, 1, none⟩ = some (.int .i64 a1_1) ∧ w'.cell? ⟨gb257, 2, none⟩ = some (.int .i64 a1_2) ∧ w'.cell? (ad263.add ((x8_2).toNat * 5)) = some (.int .i64 ((rd_T144 l0 x8_2).f0)) ∧ w'.cell? ⟨(ad263.add ((x8_2).toNat * 5)).block, (ad263.add ((x8_2).toNat * 5)).off + 1, none⟩ = some (.int .i64 ((rd_T144 l0 x8_2).f1)) ∧ w'.cell? ⟨(ad263.add ((x8_2).toNat * 5)).block, (ad263.add ((x8_2).toNat * 5)).off + 2, none⟩ = some (.int .i64 ((rd_T144 l0 x8_2).f2)) ∧ w'.cell? ⟨(ad263.add ((x8_2).toNat * 5)).block, (ad263.add ((x8_2).toNat * 5)).off + 3, none⟩ = some (.int .i64 ((rd_T144 l0 x8_2).f3)) ∧ w'.cell? ⟨(ad263.add ((x8_2).toNat * 5)).block, (ad263.add ((x8_2).toNat * 5)).off + 4, none⟩ = some (.int .i64 ((rd_T144 l0 x8_2).f4))) (ds := []) #[false, false, false, false, false, false, false, false, false, false, false, false, false] (by kernel_rfl) rfl rfl ⟨(blk_cell BK257.out 0).trans rfl, (blk_cell BK257.out 1).trans rfl, (blk_cell BK257.out 2).trans rfl, ((HB.out.cell (World.block_lt_of_cell? w _ hw265_0)).trans hw265_0), ((HB.out.cell (World.block_lt_of_cell? w _ hw265_1)).trans hw265_1), ((HB.out.cell (World.block_lt_of_cell? w _ hw265_2)).trans hw265_2), ((HB.out.cell (World.block_lt_of_cell? w _ hw265_3)).trans hw265_3), ((HB.out.cell (World.block_lt_of_cell? w _ hw265_4)).trans hw265_4)⟩ (fun hHeld => ?_); refine with_tabW acmeref12_Causes.tab8 acmeref12_Causes.bits8 (fun HT_ HW_ => ?_)
          generalize w20.drew = w23 at HO_6 BK257 HB hx265_0 hx265_1 hx265_2 hx265_3 hx265_4 hHeld ⊢
          refine pure_ (i := 0) (N := some 53) (v := ?_) (a' := ?_) #[true, false, false, false, false, false, false, false, false, false, false, false, false] rfl rfl (any_of HT_.out (by kernel_rfl)) (fun _ _ _ h => h) (Or.inl ⟨by rfl, ?_⟩) ?_ ?_
          rotate_left
          ·intro w'
           go_simp
           with_reducible rfl
          rotate_left
          ·simp only [Act.put, sa_, s0_, s1_, i64_w, i32_w]
           rfl
          refine pure_ (i := 1) (N := some 54) (v := ?_) (a' := ?_) #[true, true, false, false, false, false, false, false, false, false, false, false, false] rfl rfl (any_of HT_.out (by kernel_rfl)) (fun _ _ _ h => h) (Or.inl ⟨by rfl, ?_⟩) ?_ ?_
          rotate_left
          ·intro w'
           go_simp
           with_reducible rfl
          rotate_left
          ·simp only [Act.put, sa_, s0_, s1_, i64_w, i32_w]
           rfl
          refine pure_ (i := 2) (N := some 55) (v := ?_) (a' := ?_) #[true, true, true, false, false, false, false, false, false, false, false, false, false] rfl rfl (any_of HT_.out (by kernel_rfl)) (fun _ _ _ h => h) (Or.inl ⟨by rfl, ?_⟩) ?_ ?_
          rotate_left
          ·intro w'
           go_simp
           with_reducible rfl
          rotate_left
          ·simp only [Act.put, sa_, s0_, s1_, i64_w, i32_w]
           rfl
          refine pure_ (i := 3) (N := some 56) (v := ?_) (a' := ?_) #[true, true, true, true, false, false, false, false, false, false, false, false, false] rfl rfl (any_of HT_.out (by kernel_rfl)) (fun _ _ _ h => h) (Or.inl ⟨by rfl, ?_⟩) ?_ ?_
          rotate_left
          ·intro w'
           go_simp
           with_reducible rfl
          rotate_left
          ·simp only [Act.put, sa_, s0_, s1_, i64_w, i32_w]
           rfl
          refine pure_ (i := 5) (N := some 58) (v := ?_) (a' := ?_) #[true, true, true, true, false, true, false, false, false, false, false, false, false] rfl rfl (any_of HT_.out (by kernel_rfl)) (fun _ _ _ h => h) (Or.inl ⟨by rfl, ?_⟩) ?_ ?_
          rotate_left
          ·intro w'
           go_simp
           with_reducible rfl
          rotate_left
          ·simp only [Act.put, sa_, s0_, s1_, i64_w, i32_w]
           rfl
          refine take_ (i := 4) (N := some 57) (v := ?_) (a' := ?_) #[true, true, true, true, true, true, false, false, false, false, false, false, false] rfl rfl (take_ofW HT_.out HW_.out (by kernel_rfl)) (fun _ _ _ h => h) (Or.inl ⟨by rfl, ?_⟩) hHeld ?_ ?_
          rotate_left
          ·rintro w' ⟨s0, s1, s2, s3, s4, s5, s6, s7⟩
           go_simp
           with_reducible rfl
          rotate_left
          ·simp only [Act.put, sa_, s0_, s1_, i64_w, i32_w]
           rfl
          refine take_ (i := 6) (N := some 59) (v := ?_) (a' := ?_) #[true, true, true, true, true, true, true, false, false, false, false, false, false] rfl rfl (take_ofW HT_.out HW_.out (by kernel_rfl)) (fun _ _ _ h => h) (Or.inl ⟨by rfl, ?_⟩) hHeld ?_ ?_
          rotate_left
          ·rintro w' ⟨s0, s1, s2, s3, s4, s5, s6, s7⟩
           go_simp
           with_reducible rfl
          rotate_left
          ·simp only [Act.put, sa_, s0_, s1_, i64_w, i32_w]
           rfl
          refine pure_ (i := 7) (N := some 60) (v := ?_) (a' := ?_) #[true, true, true, true, true, true, true, true, false, false, false, false, false] rfl rfl (any_of HT_.out (by kernel_rfl)) (fun _ _ _ h => h) (Or.inl ⟨by rfl, ?_⟩) ?_ ?_
          rotate_left
          ·intro w'
           go_simp
           with_reducible rfl
          rotate_left
          ·simp only [Act.put, sa_, s0_, s1_, i64_w, i32_w]
           rfl
          refine pure_ (i := 8) (N := some 61) (v := ?_) (a' := ?_) #[true, true, true, true, true, true, true, true, true, false, false, false, false] rfl rfl (any_of HT_.out (by kernel_rfl)) (fun _ _ _ h => h) (Or.inl ⟨by rfl, ?_⟩) ?_ ?_
          rotate_left
          ·intro w'
           go_simp
           with_reducible rfl
          rotate_left
          ·simp only [Act.put, sa_, s0_, s1_, i64_w, i32_w]
           rfl
          refine pure_ (i := 9) (N := some 62) (v := undef) (a' := ?_) #[true, true, true, true, true, true, true, true, true, true, false, false, false] rfl rfl (any_of HT_.out (by kernel_rfl)) (fun _ _ _ h => h) (Or.inr ⟨by rfl, rfl⟩) ?_ ?_
          rotate_left
          ·simp only [Act.put, sa_, s0_, s1_, i64_w, i32_w]
           rfl
          refine pure_ (i := 10) (N := some 63) (v := undef) (a' := ?_) #[true, true, true, true, true, true, true, true, true, true, true, false, false] rfl rfl (any_of HT_.out (by kernel_rfl)) (fun _ _ _ h => h) (Or.inr ⟨by rfl, rfl⟩) ?_ ?_
          rotate_left
          ·simp only [Act.put, sa_, s0_, s1_, i64_w, i32_w]
           rfl
          refine pure_ (i := 11) (N := some 64) (v := undef) (a' := ?_) #[true, true, true, true, true, true, true, true, true, true, true, true, false] rfl rfl (any_of HT_.out (by kernel_rfl)) (fun _ _ _ h => h) (Or.inr ⟨by rfl, rfl⟩) ?_ ?_
          rotate_left
          ·simp only [Act.put, sa_, s0_, s1_, i64_w, i32_w]
           rfl
          refine pure_ (i := 12) (N := some 65) (v := ?_) (a' := ?_) #[true, true, true, true, true, true, true, true, true, true, true, true, true] rfl rfl (any_of HT_.out (by kernel_rfl)) (fun _ _ _ h => h) (Or.inl ⟨by rfl, ?_⟩) ?_ ?_
          rotate_left
          ·intro w'
           go_simp
           with_reducible rfl
          rotate_left
          ·simp only [Act.put, sa_, s0_, s1_, i64_w, i32_w]
           rfl
          refine done_ (done_of HT_.out (by kernel_rfl)) ?_
          try go_wp2
          go_meet
          case rel => exact ⟨_, (true), (by first | rfl | (simp; done) | (simp [*]; done)), H', ⟨by have := HJ2.out; have := HK2.out; first | omega | exact Nat.le_refl _⟩, ⟨by (with_reducible repeat (first | apply Kd.R_alloc | apply Kd.R_drewN | apply Kd.R_drew)); exact HO_6.out⟩, BK257, ⟨by repeat (first | (with_reducible first | exact HB.out | apply below_alloc | apply pw_below_drewN | apply below_drew1 | refine below_set ?_ (Aside0.out (by assumption))) | exact HB.out)⟩⟩
        case rest => as_aux_lemma =>
         clear HC19
         try clear c1; try clear c2; try clear p2; try clear q2; try clear hx2; try clear c3; try clear c6; try clear c8; try clear c12; try clear c15; try clear c15b0; try clear c16; try clear c16b0; try clear c19; try clear c21; try clear c21b0; try clear c21b1; try clear hcz10_0; try clear hcz10_1; try clear hcz10_2; try clear hcz11_0; try clear hcz11_1; try clear hcz11_2; try clear hcz9_0; try clear hcz9_1; try clear hcz9_2; try clear hfz10_0; try clear hfz10_1; try clear hfz10_2; try clear hfz11_0; try clear hfz11_1; try clear hfz11_2; try clear hfz9_0; try clear hfz9_1; try clear hfz9_2; try clear hx263_0; try clear hx263_1; try clear hx263_2; try clear hx263_3; try clear hx263_4; try clear hx264_0; try clear hx264_1; try clear hx264_2; try clear hx264_3; try clear hx264_4; try clear hx265_0; try clear hx265_1; try clear hx265_2; try clear hx265_3; try clear hx265_4; try clear p2; try clear p263; try clear p264; try clear p265; try clear q263; try clear q264; try clear q265
         obtain ⟨kq, x65_18, rfl, HA, HJ18, HO_6, BK257, HB⟩ := hcut
         cases kq with
         | zero => exact absurd HA.out (by simp [acmeref12_Causes.j2])
         | succ kj18 =>
          have H := HA.out
          clear HA
          simp only [acmeref12_Causes.j2] at H
          by_cases c24 : x65_18 = true
          ·subst c24
           have H1 : (acmeref12_Causes.l0 kj18 l0 x6_2 x7_2 (wrap64 (x8_2 + 1)) a1_0 a1_1 a1_2) = some (r1, r2) := by rw [if_pos rfl] at H; exact H
           clear H
           have H := H1
           clear H1
           have H' := Aside0.mk H
           clear H
           go_wp2
           go_roundg kj18
           case measure => have := HJ2.out; have := HK2.out; have := HJ18.out; omega
           case rel => exact ⟨(x6_2), (x7_2), (wrap64 (x8_2 + 1)), (by first | rfl | (simp; done) | (simp [*]; done)), (by first | rfl | (simp; done) | (simp [*]; done)), H', ⟨by have := HJ2.out; have := HK2.out; have := HJ18.out; omega⟩, ⟨by (with_reducible repeat (first | apply Kd.R_alloc | apply Kd.R_drewN | apply Kd.R_drew)); exact HO_6.out⟩, BK257, ⟨by repeat (first | (with_reducible first | exact HB.out | apply below_alloc | apply pw_below_drewN | apply below_drew1 | refine below_set ?_ (Aside0.out (by assumption))) | exact HB.out)⟩⟩
          ·replace c24 := Bool.eq_false_iff.mpr c24
           subst c24
           have H1 : (if 0 ≤ x8_2 then (if x8_2 < (l0.length : Int) then ((acmeref12_Add.f kj18 x6_2 1 0 ((rd_T144 l0 x8_2).f3)).bind fun t267 => ((acmeref12_Add.f kj18 t267 2 0 ((rd_T144 l0 x8_2).f4)).bind fun t271 => (acmeref12_Causes.l0 kj18 l0 t271 (wrap64 (x7_2 + (wrap64 ((wrap64 (ji18 - ji17)) + 1)))) (wrap64 (x8_2 + 1)) a1_0 a1_1 a1_2))) else (none)) else (none)) = some (r1, r2) := by rw [if_neg (show ¬ (false = true) by decide)] at H; exact H
           clear H
           have H := H1
           clear H1
           by_cases c25 : 0 ≤ x8_2
           ·rw [if_pos c25] at H
            have c25b0 : decide (0 ≤ x8_2) = true := decide_eq_true c25
            clear c25
            by_cases c26 : x8_2 < (l0.length : Int)
            ·rw [if_pos c26] at H
             have c26b0 : decide (x8_2 < (l0.length : Int)) = true := decide_eq_true c26
             clear c26
             replace H := Option.bind_eq_some_iff.mp H
             obtain ⟨t267, A270, H⟩ := H; (try dsimp only at H)
             have A27 := Aside0.mk A270
             clear A270
             replace H := Option.bind_eq_some_iff.mp H
             obtain ⟨t271, A280, H⟩ := H; (try dsimp only at H)
             have A28 := Aside0.mk A280
             clear A280
             have H' := Aside0.mk H
             clear H
             try go_wp2
             have n0_ := Aside0.mk (Kd.R_drew HO_6.out)
             have n1_ := Aside0.mk (blk_drew BK257.out)
             have n2_ := Aside0.mk (below_drew1 HB.out)
             clear HO_6
             clear BK257
             clear HB
             have HO_6 := n0_
             have BK257 := n1_
             have HB := n2_
             clear n0_ n1_ n2_
             have p266 : 0 ≤ (x8_2 : Int) := of_decide_eq_true ‹_›
             have q266 : x8_2 < (l0.length : Int) := of_decide_eq_true ‹_›
             obtain ⟨ad266, e266, hx266_0, hx266_1, hx266_2, hx266_3, hx266_4⟩ := at_T144 HR0.out x8_2 p266 q266
             have hw266_4 := hx266_4
             have hw266_3 := hx266_3
             have hw266_2 := hx266_2
             have hw266_1 := hx266_1
             have hw266_0 := hx266_0
             obtain rfl : ad263 = ad266 := (by injection e266)
             replace hx266_0 := bl_ HB hx266_0
             replace hx266_1 := bl_ HB hx266_1
             replace hx266_2 := bl_ HB hx266_2
             replace hx266_3 := bl_ HB hx266_3
             replace hx266_4 := bl_ HB hx266_4
             replace p266 := eq_true p266
             replace q266 := eq_true q266
             have p270 : 0 ≤ (x8_2 : Int) := of_decide_eq_true ‹_›
             have q270 : x8_2 < (l0.length : Int) := of_decide_eq_true ‹_›
             obtain ⟨ad270, e270, hx270_0, hx270_1, hx270_2, hx270_3, hx270_4⟩ := at_T144 HR0.out x8_2 p270 q270
             have hw270_4 := hx270_4
             have hw270_3 := hx270_3
             have hw270_2 := hx270_2
             have hw270_1 := hx270_1
             have hw270_0 := hx270_0
             obtain rfl : ad263 = ad270 := (by injection e270)
             replace hx270_0 := bl_ HB hx270_0
             replace hx270_1 := bl_ HB hx270_1
             replace hx270_2 := bl_ HB hx270_2
             replace hx270_3 := bl_ HB hx270_3
             replace hx270_4 := bl_ HB hx270_4
             replace p270 := eq_true p270
             replace q270 := eq_true q270
             obtain ⟨Ao30, co30, eo30⟩ := Kd.R_slice HO_6.out
             (first | subst eo30 | (injection eo30 with f1_ f2_ f3_; have f4_ := f1_.symm; have f5_ := f3_.symm; clear f1_ f2_ f3_; subst f4_; subst f5_))
             refine start_ (n := 16) (S := fun w' => w'.cell? (ad263.add ((x8_2).toNat * 5)) = some (.int .i64 ((rd_T144 l0 x8_2).f0)) ∧ w'.cell? ⟨(ad263.add ((x8_2).toNat * 5)).block, (ad263.add ((x8_2).toNat * 5)).off + 1, none⟩ = some (.int .i64 ((rd_T144 l0 x8_2).f1)) ∧ w'.cell? ⟨(ad263.add ((x8_2).toNat * 5)).block, (ad263.add ((x8_2).toNat * 5)).off + 2, none⟩ = some (.int .i64 ((rd_T144 l0 x8_2).f2)) ∧ w'.cell? ⟨(ad263.add ((x8_2).toNat * 5)).block, (ad263.add ((x8_2).toNat * 5)).off + 3, none⟩ = some (.int .i64 ((rd_T144 l0 x8_2).f3)) ∧ w'.cell? ⟨(ad263.add ((x8_2).toNat * 5)).block, (ad263.add ((x8_2).toNat * 5)).off + 4, none⟩ = some (.int .i64 ((rd_T144 l0 x8_2).f4)) ∧ w'.cell? (ad263.add ((x8_2).toNat * 5)) = some (.int .i64 ((rd_T144 l0 x8_2).f0)) ∧ w'.cell? ⟨(ad263.add ((x8_2).toNat * 5)).block, (ad263.add ((x8_2).toNat * 5)).off + 1, none⟩ = some (.int .i64 ((rd_T144 l0 x8_2).f1)) ∧ w'.cell? ⟨(ad263.add ((x8_2).toNat * 5)).block, (ad263.add ((x8_2).toNat * 5)).off + 2, none⟩ = some (.int .i64 ((rd_T144 l0 x8_2).f2)) ∧ w'.cell? ⟨(ad263.add ((x8_2).toNat * 5)).block, (ad263.add ((x8_2).toNat * 5)).off + 3, none⟩ = some (.int .i64 ((rd_T144 l0 x8_2).f3)) ∧ w'.cell? ⟨(ad263.add ((x8_2).toNat * 5)).block, (ad263.add ((x8_2).toNat * 5)).off + 4, none⟩ = some (.int .i64 ((rd_T144 l0 x8_2).f4))) (ds := []) #[false, false, false, false, false, false, false, false, false, false, false, false, false, false, false, false] (by kernel_rfl) rfl rfl ⟨((HB.out.cell (World.block_lt_of_cell? w _ hw266_0)).trans hw266_0), ((HB.out.cell (World.block_lt_of_cell? w _ hw266_1)).trans hw266_1), ((HB.out.cell (World.block_lt_of_cell? w _ hw266_2)).trans hw266_2), ((HB.out.cell (World.block_lt_of_cell? w _ hw266_3)).trans hw266_3), ((HB.out.cell (World.block_lt_of_cell? w _ hw266_4)).trans hw266_4), ((HB.out.cell (World.block_lt_of_cell? w _ hw270_0)).trans hw270_0), ((HB.out.cell (World.block_lt_of_cell? w _ hw270_1)).trans hw270_1), ((HB.out.cell (World.block_lt_of_cell? w _ hw270_2)).trans hw270_2), ((HB.out.cell (World.block_lt_of_cell? w _ hw270_3)).trans hw270_3), ((HB.out.cell (World.block_lt_of_cell? w _ hw270_4)).trans hw270_4)⟩ (fun hHeld => ?_); refine with_tabW acmeref12_Causes.tab9 acmeref12_Causes.bits9 (fun HT_ HW_ => ?_)
             generalize wc.drew = w29 at HO_6 BK257 HB hx266_0 hx266_1 hx266_2 hx266_3 hx266_4 hx270_0 hx270_1 hx270_2 hx270_3 hx270_4 hHeld ⊢
             refine pure_ (i := 0) (N := some 66) (v := ?_) (a' := ?_) #[true, false, false, false, false, false, false, false, false, false, false, false, false, false, false, false] rfl rfl (any_of HT_.out (by kernel_rfl)) (fun _ _ _ h => h) (Or.inl ⟨by rfl, ?_⟩) ?_ ?_
             rotate_left
             ·intro w'
              go_simp
              with_reducible rfl
             rotate_left
             ·simp only [Act.put, sa_, s0_, s1_, i64_w, i32_w]
              rfl
             refine pure_ (i := 1) (N := some 67) (v := ?_) (a' := ?_) #[true, true, false, false, false, false, false, false, false, false, false, false, false, false, false, false] rfl rfl (any_of HT_.out (by kernel_rfl)) (fun _ _ _ h => h) (Or.inl ⟨by rfl, ?_⟩) ?_ ?_
             rotate_left
             ·intro w'
              go_simp
              with_reducible rfl
             rotate_left
             ·simp only [Act.put, sa_, s0_, s1_, i64_w, i32_w]
              rfl
             refine pure_ (i := 2) (N := some 68) (v := ?_) (a' := ?_) #[true, true, true, false, false, false, false, false, false, false, false, false, false, false, false, false] rfl rfl (any_of HT_.out (by kernel_rfl)) (fun _ _ _ h => h) (Or.inl ⟨by rfl, ?_⟩) ?_ ?_
             rotate_left
             ·intro w'
              go_simp
              with_reducible rfl
             rotate_left
             ·simp only [Act.put, sa_, s0_, s1_, i64_w, i32_w]
              rfl
             refine pure_ (i := 3) (N := some 69) (v := ?_) (a' := ?_) #[true, true, true, true, false, false, false, false, false, false, false, false, false, false, false, false] rfl rfl (any_of HT_.out (by kernel_rfl)) (fun _ _ _ h => h) (Or.inl ⟨by rfl, ?_⟩) ?_ ?_
             rotate_left
             ·intro w'
              go_simp
              with_reducible rfl
             rotate_left
             ·simp only [Act.put, sa_, s0_, s1_, i64_w, i32_w]
              rfl
             refine pure_ (i := 4) (N := some 70) (v := ?_) (a' := ?_) #[true, true, true, true, true, false, false, false, false, false, false, false, false, false, false, false] rfl rfl (any_of HT_.out (by kernel_rfl)) (fun _ _ _ h => h) (Or.inl ⟨by rfl, ?_⟩) ?_ ?_
             rotate_left
             ·intro w'
              go_simp
              with_reducible rfl
             rotate_left
             ·simp only [Act.put, sa_, s0_, s1_, i64_w, i32_w]
              rfl
             refine pure_ (i := 8) (N := some 74) (v := ?_) (a' := ?_) #[true, true, true, true, true, false, false, false, true, false, false, false, false, false, false, false] rfl rfl (any_of HT_.out (by kernel_rfl)) (fun _ _ _ h => h) (Or.inl ⟨by rfl, ?_⟩) ?_ ?_
             rotate_left
             ·intro w'
              go_simp
              with_reducible rfl
             rotate_left
             ·simp only [Act.put, sa_, s0_, s1_, i64_w, i32_w]
              rfl
             refine pure_ (i := 9) (N := some 75) (v := ?_) (a' := ?_) #[true, true, true, true, true, false, false, false, true, true, false, false, false, false, false, false] rfl rfl (any_of HT_.out (by kernel_rfl)) (fun _ _ _ h => h) (Or.inl ⟨by rfl, ?_⟩) ?_ ?_
             rotate_left
             ·intro w'
              go_simp
              with_reducible rfl
             rotate_left
             ·simp only [Act.put, sa_, s0_, s1_, i64_w, i32_w]
              rfl
             refine pure_ (i := 10) (N := some 76) (v := ?_) (a' := ?_) #[true, true, true, true, true, false, false, false, true, true, true, false, false, false, false, false] rfl rfl (any_of HT_.out (by kernel_rfl)) (fun _ _ _ h => h) (Or.inl ⟨by rfl, ?_⟩) ?_ ?_
             rotate_left
             ·intro w'
              go_simp
              with_reducible rfl
             rotate_left
             ·simp only [Act.put, sa_, s0_, s1_, i64_w, i32_w]
              rfl
             refine pure_ (i := 11) (N := some 77) (v := ?_) (a' := ?_) #[true, true, true, true, true, false, false, false, true, true, true, true, false, false, false, false] rfl rfl (any_of HT_.out (by kernel_rfl)) (fun _ _ _ h => h) (Or.inl ⟨by rfl, ?_⟩) ?_ ?_
             rotate_left
             ·intro w'
              go_simp
              with_reducible rfl
             rotate_left
             ·simp only [Act.put, sa_, s0_, s1_, i64_w, i32_w]
              rfl
             refine take_ (i := 5) (N := some 71) (v := ?_) (a' := ?_) #[true, true, true, true, true, true, false, false, true, true, true, true, false, false, false, false] rfl rfl (take_ofW HT_.out HW_.out (by kernel_rfl)) (fun _ _ _ h => h) (Or.inl ⟨by rfl, ?_⟩) hHeld ?_ ?_
             rotate_left
             ·rintro w' ⟨s0, s1, s2, s3, s4, s5, s6, s7, s8, s9⟩
              go_simp
              with_reducible rfl
             rotate_left
             ·simp only [Act.put, sa_, s0_, s1_, i64_w, i32_w]
              rfl
             refine pure_ (i := 6) (N := some 72) (v := ?_) (a' := ?_) #[true, true, true, true, true, true, true, false, true, true, true, true, false, false, false, false] rfl rfl (any_of HT_.out (by kernel_rfl)) (fun _ _ _ h => h) (Or.inl ⟨by rfl, ?_⟩) ?_ ?_
             rotate_left
             ·intro w'
              go_simp
              with_reducible rfl
             rotate_left
             ·simp only [Act.put, sa_, s0_, s1_, i64_w, i32_w]
              rfl
             refine take_ (i := 12) (N := some 78) (v := ?_) (a' := ?_) #[true, true, true, true, true, true, true, false, true, true, true, true, true, false, false, false] rfl rfl (take_ofW HT_.out HW_.out (by kernel_rfl)) (fun _ _ _ h => h) (Or.inl ⟨by rfl, ?_⟩) hHeld ?_ ?_
             rotate_left
             ·rintro w' ⟨s0, s1, s2, s3, s4, s5, s6, s7, s8, s9⟩
              go_simp
              with_reducible rfl
             rotate_left
             ·simp only [Act.put, sa_, s0_, s1_, i64_w, i32_w]
              rfl
             refine pure_ (i := 13) (N := some 79) (v := ?_) (a' := ?_) #[true, true, true, true, true, true, true, false, true, true, true, true, true, true, false, false] rfl rfl (any_of HT_.out (by kernel_rfl)) (fun _ _ _ h => h) (Or.inl ⟨by rfl, ?_⟩) ?_ ?_
             rotate_left
             ·intro w'
              go_simp
              with_reducible rfl
             rotate_left
             ·simp only [Act.put, sa_, s0_, s1_, i64_w, i32_w]
              rfl
             refine one_ (i := 7) (N := some 73) #[true, true, true, true, true, true, true, true, true, true, true, true, true, true, false, false] rfl rfl (one_of HT_.out (by kernel_rfl)) (by decide) (fun K hK => ?_)
             refine goes_ Try.func71 (by kernel_rfl) rfl #[.slice Ao30 x6_2.length co30, .agg #[.int .i64 1, .int .i64 0, .int .i64 ((rd_T144 l0 x8_2).f3)]] (by rfl) rfl rfl (by (try simp only [List.map_toArray, List.map_cons, List.map_nil]); first | done | rfl | (simp only [List.length_drop, List.length_take]; rfl)) ?_
             with_reducible refine (acmeref12_Add.calls_R (base := w.heap.size) kj18 _ _ x6_2 1 0 ((rd_T144 l0 x8_2).f3) t267 _ ?side1 ?side2 A27.out).mono ?_
             (case side1 => exact (by (with_reducible repeat (first | apply Kd.R_alloc | apply Kd.R_drewN | apply Kd.R_drew)); exact HO_6.out))
             (case side2 => exact (below_size (by repeat (first | (with_reducible first | exact HB.out | apply below_alloc | apply pw_below_drewN | apply below_drew1 | refine below_set ?_ (Aside0.out (by assumption))) | exact HB.out))))
             rintro e w31 ⟨v268, rfl, ho0, hb⟩
             refine ⟨_, rfl, ?_⟩
             have n1_ := Aside0.mk ho0
             have n2_ := Aside0.mk (blk_below (g := gb257) (o := .cells #[.int .i64 a1_0, .int .i64 a1_1, .int .i64 a1_2] 58 (0, 0)) (by repeat (first | (with_reducible first | exact BK257.out | refine blk_drewN ?_ _ | refine blk_drew ?_ | refine blk_alloc ?_ _) | exact BK257.out)) hb)
             have n3_ := Aside0.mk (below_step (by repeat (first | (with_reducible first | exact HB.out | apply below_alloc | apply pw_below_drewN | apply below_drew1 | refine below_set ?_ (Aside0.out (by assumption))) | exact HB.out)) hb)
             clear HO_6
             clear BK257
             clear HB
             have HO269 := n1_
             have BK257 := n2_
             have HB := n3_
             clear n1_ n2_ n3_
             (try clear hb)
             (try clear hb2)
             (try clear hk)
             (try clear hi)
             (try clear ho0)
             obtain ⟨Ao32, co32, eo32⟩ := Kd.R_slice HO269.out
             (first | subst eo32 | (injection eo32 with f1_ f2_ f3_; have f4_ := f1_.symm; have f5_ := f3_.symm; clear f1_ f2_ f3_; subst f4_; subst f5_))
             refine hK.out _ _ ⟨((HB.out.cell (World.block_lt_of_cell? w _ hw266_0)).trans hw266_0), ((HB.out.cell (World.block_lt_of_cell? w _ hw266_1)).trans hw266_1), ((HB.out.cell (World.block_lt_of_cell? w _ hw266_2)).trans hw266_2), ((HB.out.cell (World.block_lt_of_cell? w _ hw266_3)).trans hw266_3), ((HB.out.cell (World.block_lt_of_cell? w _ hw266_4)).trans hw266_4), ((HB.out.cell (World.block_lt_of_cell? w _ hw270_0)).trans hw270_0), ((HB.out.cell (World.block_lt_of_cell? w _ hw270_1)).trans hw270_1), ((HB.out.cell (World.block_lt_of_cell? w _ hw270_2)).trans hw270_2), ((HB.out.cell (World.block_lt_of_cell? w _ hw270_3)).trans hw270_3), ((HB.out.cell (World.block_lt_of_cell? w _ hw270_4)).trans hw270_4)⟩ (fun hHeld => ?_)
             clear hK K
             refine norm_ (a' := ?_) ?_ ?_
             rotate_left
             ·show Act.put _ (some 73) _ = _
              simp only [Act.put, sa_, s0_, s1_, i64_w, i32_w]
              rfl
             refine one_ (i := 14) (N := some 80) #[true, true, true, true, true, true, true, true, true, true, true, true, true, true, true, false] rfl rfl (one_of HT_.out (by kernel_rfl)) (by decide) (fun K hK => ?_)
             refine goes_ Try.func71 (by kernel_rfl) rfl #[.slice Ao32 t267.length co32, .agg #[.int .i64 2, .int .i64 0, .int .i64 ((rd_T144 l0 x8_2).f4)]] (by rfl) rfl rfl (by (try simp only [List.map_toArray, List.map_cons, List.map_nil]); first | done | rfl | (simp only [List.length_drop, List.length_take]; rfl)) ?_
             with_reducible refine (acmeref12_Add.calls_R (base := w.heap.size) kj18 _ _ t267 2 0 ((rd_T144 l0 x8_2).f4) t271 _ ?side1 ?side2 A28.out).mono ?_
             (case side1 => exact (by (with_reducible repeat (first | apply Kd.R_alloc | apply Kd.R_drewN | apply Kd.R_drew)); exact HO269.out))
             (case side2 => exact (below_size (by repeat (first | (with_reducible first | exact HB.out | apply below_alloc | apply pw_below_drewN | apply below_drew1 | refine below_set ?_ (Aside0.out (by assumption))) | exact HB.out))))
             rintro e w33 ⟨v272, rfl, ho0, hb⟩
             refine ⟨_, rfl, ?_⟩
             have n2_ := Aside0.mk ho0
             have n3_ := Aside0.mk (blk_below (g := gb257) (o := .cells #[.int .i64 a1_0, .int .i64 a1_1, .int .i64 a1_2] 58 (0, 0)) (by repeat (first | (with_reducible first | exact BK257.out | refine blk_drewN ?_ _ | refine blk_drew ?_ | refine blk_alloc ?_ _) | exact BK257.out)) hb)
             have n4_ := Aside0.mk (below_step (by repeat (first | (with_reducible first | exact HB.out | apply below_alloc | apply pw_below_drewN | apply below_drew1 | refine below_set ?_ (Aside0.out (by assumption))) | exact HB.out)) hb)
             clear HO_6
             clear HO269
             clear BK257
             clear HB
             have HO273 := n2_
             have BK257 := n3_
             have HB := n4_
             clear n2_ n3_ n4_
             (try clear hb)
             (try clear hb2)
             (try clear hk)
             (try clear hi)
             (try clear ho0)
             refine hK.out _ _ ⟨((HB.out.cell (World.block_lt_of_cell? w _ hw266_0)).trans hw266_0), ((HB.out.cell (World.block_lt_of_cell? w _ hw266_1)).trans hw266_1), ((HB.out.cell (World.block_lt_of_cell? w _ hw266_2)).trans hw266_2), ((HB.out.cell (World.block_lt_of_cell? w _ hw266_3)).trans hw266_3), ((HB.out.cell (World.block_lt_of_cell? w _ hw266_4)).trans hw266_4), ((HB.out.cell (World.block_lt_of_cell? w _ hw270_0)).trans hw270_0), ((HB.out.cell (World.block_lt_of_cell? w _ hw270_1)).trans hw270_1), ((HB.out.cell (World.block_lt_of_cell? w _ hw270_2)).trans hw270_2), ((HB.out.cell (World.block_lt_of_cell? w _ hw270_3)).trans hw270_3), ((HB.out.cell (World.block_lt_of_cell? w _ hw270_4)).trans hw270_4)⟩ (fun hHeld => ?_)
             clear hK K
             refine norm_ (a' := ?_) ?_ ?_
             rotate_left
             ·show Act.put _ (some 80) _ = _
              simp only [Act.put, sa_, s0_, s1_, i64_w, i32_w]
              rfl
             refine pure_ (i := 15) (N := some 6) (v := ?_) (a' := ?_) #[true, true, true, true, true, true, true, true, true, true, true, true, true, true, true, true] rfl rfl (any_of HT_.out (by kernel_rfl)) (fun _ _ _ h => h) (Or.inl ⟨by rfl, ?_⟩) ?_ ?_
             rotate_left
             ·intro w'
              go_simp
              with_reducible rfl
             rotate_left
             ·simp only [Act.put, sa_, s0_, s1_, i64_w, i32_w]
              rfl
             refine done_ (done_of HT_.out (by kernel_rfl)) ?_
             try go_wp2
             go_roundg kj18
             case measure => have := HJ2.out; have := HK2.out; have := HJ18.out; omega
             case rel => exact ⟨(t271), (wrap64 (x7_2 + (wrap64 ((wrap64 (ji18 - ji17)) + 1)))), (wrap64 (x8_2 + 1)), (by first | rfl | (simp; done) | (simp only [← hji17, ← hji18] <;> (first | rfl | simp)) | (simp [*]; done)), (by first | rfl | (simp; done) | (simp [*]; done)), H', ⟨by have := HJ2.out; have := HK2.out; have := HJ18.out; omega⟩, ⟨by (with_reducible repeat (first | apply Kd.R_alloc | apply Kd.R_drewN | apply Kd.R_drew)); exact Kd.R_mono HO273.out (fun _ hk => trivial)⟩, BK257, ⟨by repeat (first | (with_reducible first | exact HB.out | apply below_alloc | apply pw_below_drewN | apply below_drew1 | refine below_set ?_ (Aside0.out (by assumption))) | exact HB.out)⟩⟩
            ·rw [if_neg c26] at H
             exact absurd H (by simp)
           ·rw [if_neg c25] at H
            exact absurd H (by simp)
       ·rw [if_neg c16] at H
        exact absurd H (by simp)
      ·rw [if_neg c15] at H
       have c15b0 : decide (x8_2 < (l0.length : Int)) = false := decide_eq_false c15
       clear c15
       by_cases c34 : (wrap64 ((x6_2.length : Int) + x7_2)) > 1000
       ·rw [if_pos c34] at H
        have c34b0 : decide (1000 < (wrap64 ((x6_2.length : Int) + x7_2))) = true := decide_eq_true c34
        clear c34
        simp only [Option.some.injEq, Prod.mk.injEq] at H
        obtain ⟨rfl, rfl⟩ := H
        obtain ⟨Ao35, co35, eo35⟩ := Kd.R_slice HO_6.out
        subst eo35
        go_wp2
        go_ret2
        exact ⟨_, by first | rfl | (simp [errW_none, errW_some] <;> rfl) | (simp [*, errW_none, errW_some] <;> rfl), by first | exact Kd.R_nil _ _ _ _ _ | exact Kd.N_nil _ _ _ _ _ | exact Kd.V_nil _ _ _ _ _ | exact Kd.Q_nil _ _ _ _ _ | exact Kd.S_nil _ _ _ _ _, by repeat (first | (with_reducible first | exact HB.out | apply below_alloc | apply pw_below_drewN | apply below_drew1 | refine below_set ?_ (Aside0.out (by assumption))) | exact HB.out)⟩
       ·rw [if_neg c34] at H
        have c34b0 : decide (1000 < (wrap64 ((x6_2.length : Int) + x7_2))) = false := decide_eq_false c34
        clear c34
        have H' := Aside0.mk H
        clear H
        obtain ⟨Ao36, co36, eo36⟩ := Kd.R_slice HO_6.out
        subst eo36
        obtain ⟨hcz37_0, hcz37_1, hcz37_2⟩ := bc3 BK257.out
        obtain ⟨hfz37_0, hfz37_1, hfz37_2⟩ := bf3 BK257.out
        go_wp2
        go_loopg [6, 7, 11] k2 (fun kq v6 v7 v11 w' => ∃ (x6_3 : List (S79)) (x7_3 : Int) (x11_3 : Int), v7 = .int .i64 x7_3 ∧ v11 = .int .i64 x11_3 ∧ Aside0 (acmeref12_Causes.l1 kq l0 x6_3 x7_3 x11_3 a1_0 a1_1 a1_2 = some (r1, r2)) ∧ Aside0 (kq ≤ k2) ∧ Aside0 (Kd.R k79 79 w' w.heap.size (fun _ => True) v6 x6_3) ∧ Aside0 (w'.heap[gb257]? = some (.cells #[.int .i64 a1_0, .int .i64 a1_1, .int .i64 a1_2] 58 (0, 0))) ∧ Aside0 (Below w.heap.size w w'))
        case atStart => exact ⟨(x6_2), (x7_2), (a1_1), (by first | rfl | (simp; done) | (simp [*]; done)), (by first | rfl | (simp; done) | (simp [*]; done)), H', ⟨Nat.le_refl _⟩, ⟨by (with_reducible repeat (first | apply Kd.R_alloc | apply Kd.R_drewN | apply Kd.R_drew)); exact HO_6.out⟩, BK257, ⟨by repeat (first | (with_reducible first | exact HB.out | apply below_alloc | apply pw_below_drewN | apply below_drew1 | refine below_set ?_ (Aside0.out (by assumption))) | exact HB.out)⟩⟩
        case round => as_aux_lemma =>
         clear H'
         try clear c1; try clear c2; try clear p2; try clear q2; try clear hx2; try clear c3; try clear c6; try clear p6; try clear c7; try clear c8; try clear c12; try clear c15; try clear c15b0; try clear c16; try clear c16b0; try clear c19; try clear c21; try clear c21b0; try clear c21b1; try clear c24; try clear c25; try clear c25b0; try clear c26; try clear c26b0; try clear p26; try clear q26; try clear hx26; try clear p27; try clear q27; try clear hx27; try clear c34; try clear c34b0; try clear hcz10_0; try clear hcz10_1; try clear hcz10_2; try clear hcz11_0; try clear hcz11_1; try clear hcz11_2; try clear hcz37_0; try clear hcz37_1; try clear hcz37_2; try clear hcz9_0; try clear hcz9_1; try clear hcz9_2; try clear hfz10_0; try clear hfz10_1; try clear hfz10_2; try clear hfz11_0; try clear hfz11_1; try clear hfz11_2; try clear hfz37_0; try clear hfz37_1; try clear hfz37_2; try clear hfz9_0; try clear hfz9_1; try clear hfz9_2; try clear hx263_0; try clear hx263_1; try clear hx263_2; try clear hx263_3; try clear hx263_4; try clear hx264_0; try clear hx264_1; try clear hx264_2; try clear hx264_3; try clear hx264_4; try clear hx265_0; try clear hx265_1; try clear hx265_2; try clear hx265_3; try clear hx265_4; try clear hx266_0; try clear hx266_1; try clear hx266_2; try clear hx266_3; try clear hx266_4; try clear hx270_0; try clear hx270_1; try clear hx270_2; try clear hx270_3; try clear hx270_4; try clear p2; try clear p263; try clear p264; try clear p265; try clear p266; try clear p270; try clear q2; try clear q263; try clear q264; try clear q265; try clear q266; try clear q270
         obtain ⟨x6_3, x7_3, x11_3, rfl, rfl, HA, HK3, HO_6, BK257, HB⟩ := hrel
         cases gk with
         | zero => exact absurd HA.out (by simp [acmeref12_Causes.l1])
         | succ k3 =>
          have H := HA.out
          clear HA
          simp only [acmeref12_Causes.l1] at H
          have HC38 := Aside0.mk H
          clear H
          go_upto_region 14 with (fail)
          go_cut [101] (fun v101 wc => ∃ (kq : Nat) (x101_37 : Bool), v101 = .bool x101_37 ∧ Aside0 (acmeref12_Causes.j4 kq l0 x6_3 x7_3 x11_3 x101_37 a1_0 a1_1 a1_2 = some (r1, r2)) ∧ Aside0 (kq ≤ k3) ∧ Aside0 (Kd.R k79 79 wc w.heap.size (fun _ => True) u6 x6_3) ∧ Aside0 (wc.heap[gb257]? = some (.cells #[.int .i64 a1_0, .int .i64 a1_1, .int .i64 a1_2] 58 (0, 0))) ∧ Aside0 (Below w.heap.size w wc))
          case first => as_aux_lemma =>
           have H := HC38.out
           clear HC38
           by_cases c39 : x11_3 ≤ a1_2
           ·rw [if_pos c39] at H
            have c39b0 : decide (x11_3 ≤ a1_2) = true := decide_eq_true c39
            clear c39
            (first | rw [c39b0] | (simp only [i64_w, i32_w]; rw [c39b0]) | skip)
            have H' := Aside0.mk H
            clear H
            obtain ⟨hcz40_0, hcz40_1, hcz40_2⟩ := bc3 BK257.out
            obtain ⟨hfz40_0, hfz40_1, hfz40_2⟩ := bf3 BK257.out
            go_wp2
            go_meet
            case rel => exact ⟨_, (decide (x7_3 > 0)), (by first | rfl | (simp; done) | (simp [*]; done)), H', ⟨by have := HJ2.out; have := HK2.out; have := HK3.out; first | omega | exact Nat.le_refl _⟩, ⟨by (with_reducible repeat (first | apply Kd.R_alloc | apply Kd.R_drewN | apply Kd.R_drew)); exact HO_6.out⟩, BK257, ⟨by repeat (first | (with_reducible first | exact HB.out | apply below_alloc | apply pw_below_drewN | apply below_drew1 | refine below_set ?_ (Aside0.out (by assumption))) | exact HB.out)⟩⟩
           ·rw [if_neg c39] at H
            have c39b0 : decide (x11_3 ≤ a1_2) = false := decide_eq_false c39
            clear c39
            (first | rw [c39b0] | (simp only [i64_w, i32_w]; rw [c39b0]) | skip)
            have H' := Aside0.mk H
            clear H
            obtain ⟨hcz41_0, hcz41_1, hcz41_2⟩ := bc3 BK257.out
            obtain ⟨hfz41_0, hfz41_1, hfz41_2⟩ := bf3 BK257.out
            go_wp2
            go_meet
            case rel => exact ⟨_, (false), (by first | rfl | (simp; done) | (simp [*]; done)), H', ⟨by have := HJ2.out; have := HK2.out; have := HK3.out; first | omega | exact Nat.le_refl _⟩, ⟨by (with_reducible repeat (first | apply Kd.R_alloc | apply Kd.R_drewN | apply Kd.R_drew)); exact HO_6.out⟩, BK257, ⟨by repeat (first | (with_reducible first | exact HB.out | apply below_alloc | apply pw_below_drewN | apply below_drew1 | refine below_set ?_ (Aside0.out (by assumption))) | exact HB.out)⟩⟩
          case rest => as_aux_lemma =>
           clear HC38
           try clear c1; try clear c2; try clear p2; try clear q2; try clear hx2; try clear c3; try clear c6; try clear p6; try clear c7; try clear c8; try clear c12; try clear c15; try clear c15b0; try clear c16; try clear c16b0; try clear c19; try clear c21; try clear c21b0; try clear c21b1; try clear c24; try clear c25; try clear c25b0; try clear c26; try clear c26b0; try clear p26; try clear q26; try clear hx26; try clear p27; try clear q27; try clear hx27; try clear c34; try clear c34b0; try clear c39; try clear c39b0; try clear hcz10_0; try clear hcz10_1; try clear hcz10_2; try clear hcz11_0; try clear hcz11_1; try clear hcz11_2; try clear hcz37_0; try clear hcz37_1; try clear hcz37_2; try clear hcz40_0; try clear hcz40_1; try clear hcz40_2; try clear hcz41_0; try clear hcz41_1; try clear hcz41_2; try clear hcz9_0; try clear hcz9_1; try clear hcz9_2; try clear hfz10_0; try clear hfz10_1; try clear hfz10_2; try clear hfz11_0; try clear hfz11_1; try clear hfz11_2; try clear hfz37_0; try clear hfz37_1; try clear hfz37_2; try clear hfz40_0; try clear hfz40_1; try clear hfz40_2; try clear hfz41_0; try clear hfz41_1; try clear hfz41_2; try clear hfz9_0; try clear hfz9_1; try clear hfz9_2; try clear hx263_0; try clear hx263_1; try clear hx263_2; try clear hx263_3; try clear hx263_4; try clear hx264_0; try clear hx264_1; try clear hx264_2; try clear hx264_3; try clear hx264_4; try clear hx265_0; try clear hx265_1; try clear hx265_2; try clear hx265_3; try clear hx265_4; try clear hx266_0; try clear hx266_1; try clear hx266_2; try clear hx266_3; try clear hx266_4; try clear hx270_0; try clear hx270_1; try clear hx270_2; try clear hx270_3; try clear hx270_4; try clear p2; try clear p26; try clear p263; try clear p264; try clear p265; try clear p266; try clear p27; try clear p270; try clear p6; try clear q2; try clear q26; try clear q263; try clear q264; try clear q265; try clear q266; try clear q27; try clear q270
           obtain ⟨kq, x101_37, rfl, HA, HJ37, HO_6, BK257, HB⟩ := hcut
           cases kq with
           | zero => exact absurd HA.out (by simp [acmeref12_Causes.j4])
           | succ kj37 =>
            have H := HA.out
            clear HA
            simp only [acmeref12_Causes.j4] at H
            by_cases c42 : x101_37 = true
            ·subst c42
             have H1 : (acmeref12_Causes.l2 kj37 l0 x6_3 x7_3 x11_3 0 a1_0 a1_1 a1_2) = some (r1, r2) := by rw [if_pos rfl] at H; exact H
             clear H
             have H := H1
             clear H1
             have H' := Aside0.mk H
             clear H
             go_wp2
             go_loopg [6, 7, 12] kj37 (fun kq v6 v7 v12 w' => ∃ (x6_5 : List (S79)) (x7_5 : Int) (x12_5 : Int), v7 = .int .i64 x7_5 ∧ v12 = .int .i64 x12_5 ∧ Aside0 (acmeref12_Causes.l2 kq l0 x6_5 x7_5 x11_3 x12_5 a1_0 a1_1 a1_2 = some (r1, r2)) ∧ Aside0 (kq ≤ kj37) ∧ Aside0 (Kd.R k79 79 w' w.heap.size (fun _ => True) v6 x6_5) ∧ Aside0 (w'.heap[gb257]? = some (.cells #[.int .i64 a1_0, .int .i64 a1_1, .int .i64 a1_2] 58 (0, 0))) ∧ Aside0 (Below w.heap.size w w'))
             case atStart => exact ⟨(x6_3), (x7_3), (0), (by first | rfl | (simp; done) | (simp [*]; done)), (by first | rfl | (simp; done) | (simp [*]; done)), H', ⟨Nat.le_refl _⟩, ⟨by (with_reducible repeat (first | apply Kd.R_alloc | apply Kd.R_drewN | apply Kd.R_drew)); exact HO_6.out⟩, BK257, ⟨by repeat (first | (with_reducible first | exact HB.out | apply below_alloc | apply pw_below_drewN | apply below_drew1 | refine below_set ?_ (Aside0.out (by assumption))) | exact HB.out)⟩⟩
             case round => as_aux_lemma =>
              clear H'
              try clear c1; try clear c2; try clear p2; try clear q2; try clear hx2; try clear c3; try clear c4; try clear c6; try clear p6; try clear c7; try clear c8; try clear c12; try clear c15; try clear c15b0; try clear c16; try clear c16b0; try clear c19; try clear c21; try clear c21b0; try clear c21b1; try clear c24; try clear c25; try clear c25b0; try clear c26; try clear c26b0; try clear p26; try clear q26; try clear hx26; try clear p27; try clear q27; try clear hx27; try clear c34; try clear c34b0; try clear c39; try clear c39b0; try clear c42; try clear hcz10_0; try clear hcz10_1; try clear hcz10_2; try clear hcz11_0; try clear hcz11_1; try clear hcz11_2; try clear hcz37_0; try clear hcz37_1; try clear hcz37_2; try clear hcz40_0; try clear hcz40_1; try clear hcz40_2; try clear hcz41_0; try clear hcz41_1; try clear hcz41_2; try clear hcz9_0; try clear hcz9_1; try clear hcz9_2; try clear hfz10_0; try clear hfz10_1; try clear hfz10_2; try clear hfz11_0; try clear hfz11_1; try clear hfz11_2; try clear hfz37_0; try clear hfz37_1; try clear hfz37_2; try clear hfz40_0; try clear hfz40_1; try clear hfz40_2; try clear hfz41_0; try clear hfz41_1; try clear hfz41_2; try clear hfz9_0; try clear hfz9_1; try clear hfz9_2; try clear hx263_0; try clear hx263_1; try clear hx263_2; try clear hx263_3; try clear hx263_4; try clear hx264_0; try clear hx264_1; try clear hx264_2; try clear hx264_3; try clear hx264_4; try clear hx265_0; try clear hx265_1; try clear hx265_2; try clear hx265_3; try clear hx265_4; try clear hx266_0; try clear hx266_1; try clear hx266_2; try clear hx266_3; try clear hx266_4; try clear hx270_0; try clear hx270_1; try clear hx270_2; try clear hx270_3; try clear hx270_4; try clear p2; try clear p26; try clear p263; try clear p264; try clear p265; try clear p266; try clear p27; try clear p270; try clear p6; try clear q2; try clear q26; try clear q263; try clear q264; try clear q265; try clear q266; try clear q27; try clear q270
              obtain ⟨x6_5, x7_5, x12_5, rfl, rfl, HA, HK5, HO_6, BK257, HB⟩ := hrel
              cases gk with
              | zero => exact absurd HA.out (by simp [acmeref12_Causes.l2])
              | succ k5 =>
               have H := HA.out
               clear HA
               simp only [acmeref12_Causes.l2] at H
               by_cases c43 : x12_5 < (l0.length : Int)
               ·rw [if_pos c43] at H
                have c43b0 : decide (x12_5 < (l0.length : Int)) = true := decide_eq_true c43
                clear c43
                by_cases c44 : 0 ≤ x12_5
                ·rw [if_pos c44] at H
                 have c44b0 : decide (0 ≤ x12_5) = true := decide_eq_true c44
                 clear c44
                 by_cases c45 : ((rd_T144 l0 x12_5).f0) = a1_0
                 ·rw [if_pos c45] at H
                  have c45b0 : (((rd_T144 l0 x12_5).f0) == a1_0) = true := beq_iff_eq.mpr c45
                  have c45b1 : (((rd_T144 l0 x12_5).f0) != a1_0) = false := bne_eq_false_iff_eq.mpr c45
                  clear c45
                  replace H := Option.bind_eq_some_iff.mp H
                  obtain ⟨t277, A460, H⟩ := H; (try dsimp only at H)
                  have A46 := Aside0.mk A460
                  clear A460
                  by_cases c47 : t277 = true
                  ·subst c47
                   have H1 : (if x6_5.length < 5864062014805 then (acmeref12_Causes.l2 k5 l0 (x6_5 ++ [(⟨3, a1_0, x11_3⟩ : S79)]) (wrap64 (x7_5 - 1)) x11_3 (wrap64 (x12_5 + 1)) a1_0 a1_1 a1_2) else (none)) = some (r1, r2) := by rw [if_pos rfl] at H; exact H
                   clear H
                   have H := H1
                   clear H1
                   by_cases c48 : x6_5.length < 5864062014805
                   ·rw [if_pos c48] at H
                    have LMc48 := Aside0.mk c48
                    clear c48
                    obtain ⟨y278, hy278⟩ : ∃ y_ : List (S79), y_ = (x6_5 ++ [(⟨3, a1_0, x11_3⟩ : S79)]) := ⟨_, rfl⟩
                    replace H : (acmeref12_Causes.l2 k5 l0 y278 (wrap64 (x7_5 - 1)) x11_3 (wrap64 (x12_5 + 1)) a1_0 a1_1 a1_2) = some (r1, r2) := by first | (rw [hy278]; with_reducible exact H) | (have H2_ := (Option.bind_some _ _).symm.trans H; rw [hy278]; with_reducible exact H2_) | (have H2_ := (Option.bind_some _ _).symm.trans H; with_reducible exact H2_) | with_reducible exact H | (rw [hy278]; exact H) | exact H
                    have Ny278 := Aside0.mk hy278
                    clear hy278
                    have H' := Aside0.mk H
                    clear H
                    try go_wp2
                    have n0_ := Aside0.mk (Kd.R_drew HO_6.out)
                    have n1_ := Aside0.mk (blk_drew BK257.out)
                    have n2_ := Aside0.mk (below_drew1 HB.out)
                    clear HO_6
                    clear BK257
                    clear HB
                    have HO_6 := n0_
                    have BK257 := n1_
                    have HB := n2_
                    clear n0_ n1_ n2_
                    have p274 : 0 ≤ (x12_5 : Int) := of_decide_eq_true ‹_›
                    have q274 : x12_5 < (l0.length : Int) := of_decide_eq_true ‹_›
                    obtain ⟨ad274, e274, hx274_0, hx274_1, hx274_2, hx274_3, hx274_4⟩ := at_T144 HR0.out x12_5 p274 q274
                    have hw274_4 := hx274_4
                    have hw274_3 := hx274_3
                    have hw274_2 := hx274_2
                    have hw274_1 := hx274_1
                    have hw274_0 := hx274_0
                    cases e274
                    replace hx274_0 := bl_ HB hx274_0
                    replace hx274_1 := bl_ HB hx274_1
                    replace hx274_2 := bl_ HB hx274_2
                    replace hx274_3 := bl_ HB hx274_3
                    replace hx274_4 := bl_ HB hx274_4
                    replace p274 := eq_true p274
                    replace q274 := eq_true q274
                    have p275 : 0 ≤ (x12_5 : Int) := of_decide_eq_true ‹_›
                    have q275 : x12_5 < (l0.length : Int) := of_decide_eq_true ‹_›
                    obtain ⟨ad275, e275, hx275_0, hx275_1, hx275_2, hx275_3, hx275_4⟩ := at_T144 HR0.out x12_5 p275 q275
                    have hw275_4 := hx275_4
                    have hw275_3 := hx275_3
                    have hw275_2 := hx275_2
                    have hw275_1 := hx275_1
                    have hw275_0 := hx275_0
                    obtain rfl : ad274 = ad275 := (by injection e275)
                    replace hx275_0 := bl_ HB hx275_0
                    replace hx275_1 := bl_ HB hx275_1
                    replace hx275_2 := bl_ HB hx275_2
                    replace hx275_3 := bl_ HB hx275_3
                    replace hx275_4 := bl_ HB hx275_4
                    replace p275 := eq_true p275
                    replace q275 := eq_true q275
                    have p276 : 0 ≤ (x12_5 : Int) := of_decide_eq_true ‹_›
                    have q276 : x12_5 < (l0.length : Int) := of_decide_eq_true ‹_›
                    obtain ⟨ad276, e276, hx276_0, hx276_1, hx276_2, hx276_3, hx276_4⟩ := at_T144 HR0.out x12_5 p276 q276
                    have hw276_4 := hx276_4
                    have hw276_3 := hx276_3
                    have hw276_2 := hx276_2
                    have hw276_1 := hx276_1
                    have hw276_0 := hx276_0
                    obtain rfl : ad274 = ad276 := (by injection e276)
                    replace hx276_0 := bl_ HB hx276_0
                    replace hx276_1 := bl_ HB hx276_1
                    replace hx276_2 := bl_ HB hx276_2
                    replace hx276_3 := bl_ HB hx276_3
                    replace hx276_4 := bl_ HB hx276_4
                    replace p276 := eq_true p276
                    replace q276 := eq_true q276
                    refine start_ (n := 22) (S := fun w' => w'.cell? ⟨gb257, 0, none⟩ = some (.int .i64 a1_0) ∧ w'.cell? ⟨gb257, 1, none⟩ = some (.int .i64 a1_1) ∧ w'.cell? ⟨gb257, 2, none⟩ = some (.int .i64 a1_2) ∧ w'.cell? (ad274.add ((x12_5).toNat * 5)) = some (.int .i64 ((rd_T144 l0 x12_5).f0)) ∧ w'.cell? ⟨(ad274.add ((x12_5).toNat * 5)).block, (ad274.add ((x12_5).toNat * 5)).off + 1, none⟩ = some (.int .i64 ((rd_T144 l0 x12_5).f1)) ∧ w'.cell? ⟨(ad274.add ((x12_5).toNat * 5)).block, (ad274.add ((x12_5).toNat * 5)).off + 2, none⟩ = some (.int .i64 ((rd_T144 l0 x12_5).f2)) ∧ w'.cell? ⟨(ad274.add ((x12_5).toNat * 5)).block, (ad274.add ((x12_5).toNat * 5)).off + 3, none⟩ = some (.int .i64 ((rd_T144 l0 x12_5).f3)) ∧ w'.cell? ⟨(ad274.add ((x12_5).toNat * 5)).block, (ad274.add ((x12_5).toNat * 5)).off + 4, none⟩ = some (.int .i64 ((rd_T144 l0 x12_5).f4)) ∧ w'.cell? (ad274.add ((x12_5).toNat * 5)) = some (.int .i64 ((rd_T144 l0 x12_5).f0)) ∧ w'.cell? ⟨(ad274.add ((x12_5).toNat * 5)).block, (ad274.add ((x12_5).toNat * 5)).off + 1, none⟩ = some (.int .i64 ((rd_T144 l0 x12_5).f1)) ∧ w'.cell? ⟨(ad274.add ((x12_5).toNat * 5)).block, (ad274.add ((x12_5).toNat * 5)).off + 2, none⟩ = some (.int .i64 ((rd_T144 l0 x12_5).f2)) ∧ w'.cell? ⟨(ad274.add ((x12_5).toNat * 5)).block, (ad274.add ((x12_5).toNat * 5)).off + 3, none⟩ = some (.int .i64 ((rd_T144 l0 x12_5).f3)) ∧ w'.cell? ⟨(ad274.add ((x12_5).toNat * 5)).block, (ad274.add ((x12_5).toNat * 5)).off + 4, none⟩ = some (.int .i64 ((rd_T144 l0 x12_5).f4)) ∧ w'.cell? (ad274.add ((x12_5).toNat * 5)) = some (.int .i64 ((rd_T144 l0 x12_5).f0)) ∧ w'.cell? ⟨(ad274.add ((x12_5).toNat * 5)).block, (ad274.add ((x12_5).toNat * 5)).off + 1, none⟩ = some (.int .i64 ((rd_T144 l0 x12_5).f1)) ∧ w'.cell? ⟨(ad274.add ((x12_5).toNat * 5)).block, (ad274.add ((x12_5).toNat * 5)).off + 2, none⟩ = some (.int .i64 ((rd_T144 l0 x12_5).f2)) ∧ w'.cell? ⟨(ad274.add ((x12_5).toNat * 5)).block, (ad274.add ((x12_5).toNat * 5)).off + 3, none⟩ = some (.int .i64 ((rd_T144 l0 x12_5).f3)) ∧ w'.cell? ⟨(ad274.add ((x12_5).toNat * 5)).block, (ad274.add ((x12_5).toNat * 5)).off + 4, none⟩ = some (.int .i64 ((rd_T144 l0 x12_5).f4))) (ds := []) #[false, false, false, false, false, false, false, false, false, false, false, false, false, false, false, false, false, false, false, false, false, false] (by kernel_rfl) rfl rfl ⟨(blk_cell BK257.out 0).trans rfl, (blk_cell BK257.out 1).trans rfl, (blk_cell BK257.out 2).trans rfl, ((HB.out.cell (World.block_lt_of_cell? w _ hw274_0)).trans hw274_0), ((HB.out.cell (World.block_lt_of_cell? w _ hw274_1)).trans hw274_1), ((HB.out.cell (World.block_lt_of_cell? w _ hw274_2)).trans hw274_2), ((HB.out.cell (World.block_lt_of_cell? w _ hw274_3)).trans hw274_3), ((HB.out.cell (World.block_lt_of_cell? w _ hw274_4)).trans hw274_4), ((HB.out.cell (World.block_lt_of_cell? w _ hw275_0)).trans hw275_0), ((HB.out.cell (World.block_lt_of_cell? w _ hw275_1)).trans hw275_1), ((HB.out.cell (World.block_lt_of_cell? w _ hw275_2)).trans hw275_2), ((HB.out.cell (World.block_lt_of_cell? w _ hw275_3)).trans hw275_3), ((HB.out.cell (World.block_lt_of_cell? w _ hw275_4)).trans hw275_4), ((HB.out.cell (World.block_lt_of_cell? w _ hw276_0)).trans hw276_0), ((HB.out.cell (World.block_lt_of_cell? w _ hw276_1)).trans hw276_1), ((HB.out.cell (World.block_lt_of_cell? w _ hw276_2)).trans hw276_2), ((HB.out.cell (World.block_lt_of_cell? w _ hw276_3)).trans hw276_3), ((HB.out.cell (World.block_lt_of_cell? w _ hw276_4)).trans hw276_4)⟩ (fun hHeld => ?_); refine with_tabW acmeref12_Causes.tab19 acmeref12_Causes.bits19 (fun HT_ HW_ => ?_)
                    generalize wr.drew = w49 at HO_6 BK257 HB hx274_0 hx274_1 hx274_2 hx274_3 hx274_4 hx275_0 hx275_1 hx275_2 hx275_3 hx275_4 hx276_0 hx276_1 hx276_2 hx276_3 hx276_4 hHeld ⊢
                    refine pure_ (i := 0) (N := some 110) (v := ?_) (a' := ?_) #[true, false, false, false, false, false, false, false, false, false, false, false, false, false, false, false, false, false, false, false, false, false] rfl rfl (any_of HT_.out (by kernel_rfl)) (fun _ _ _ h => h) (Or.inl ⟨by rfl, ?_⟩) ?_ ?_
                    rotate_left
                    ·intro w'
                     go_simp
                     with_reducible rfl
                    rotate_left
                    ·simp only [Act.put, sa_, s0_, s1_, i64_w, i32_w]
                     rfl
                    refine pure_ (i := 1) (N := some 111) (v := ?_) (a' := ?_) #[true, true, false, false, false, false, false, false, false, false, false, false, false, false, false, false, false, false, false, false, false, false] rfl rfl (any_of HT_.out (by kernel_rfl)) (fun _ _ _ h => h) (Or.inl ⟨by rfl, ?_⟩) ?_ ?_
                    rotate_left
                    ·intro w'
                     go_simp
                     with_reducible rfl
                    rotate_left
                    ·simp only [Act.put, sa_, s0_, s1_, i64_w, i32_w]
                     rfl
                    refine pure_ (i := 2) (N := some 112) (v := ?_) (a' := ?_) #[true, true, true, false, false, false, false, false, false, false, false, false, false, false, false, false, false, false, false, false, false, false] rfl rfl (any_of HT_.out (by kernel_rfl)) (fun _ _ _ h => h) (Or.inl ⟨by rfl, ?_⟩) ?_ ?_
                    rotate_left
                    ·intro w'
                     go_simp
                     with_reducible rfl
                    rotate_left
                    ·simp only [Act.put, sa_, s0_, s1_, i64_w, i32_w]
                     rfl
                    refine pure_ (i := 3) (N := some 113) (v := ?_) (a' := ?_) #[true, true, true, true, false, false, false, false, false, false, false, false, false, false, false, false, false, false, false, false, false, false] rfl rfl (any_of HT_.out (by kernel_rfl)) (fun _ _ _ h => h) (Or.inl ⟨by rfl, ?_⟩) ?_ ?_
                    rotate_left
                    ·intro w'
                     go_simp
                     with_reducible rfl
                    rotate_left
                    ·simp only [Act.put, sa_, s0_, s1_, i64_w, i32_w]
                     rfl
                    refine pure_ (i := 5) (N := some 115) (v := ?_) (a' := ?_) #[true, true, true, true, false, true, false, false, false, false, false, false, false, false, false, false, false, false, false, false, false, false] rfl rfl (any_of HT_.out (by kernel_rfl)) (fun _ _ _ h => h) (Or.inl ⟨by rfl, ?_⟩) ?_ ?_
                    rotate_left
                    ·intro w'
                     go_simp
                     with_reducible rfl
                    rotate_left
                    ·simp only [Act.put, sa_, s0_, s1_, i64_w, i32_w]
                     rfl
                    refine take_ (i := 4) (N := some 114) (v := ?_) (a' := ?_) #[true, true, true, true, true, true, false, false, false, false, false, false, false, false, false, false, false, false, false, false, false, false] rfl rfl (take_ofW HT_.out HW_.out (by kernel_rfl)) (fun _ _ _ h => h) (Or.inl ⟨by rfl, ?_⟩) hHeld ?_ ?_
                    rotate_left
                    ·rintro w' ⟨s0, s1, s2, s3, s4, s5, s6, s7, s8, s9, s10, s11, s12, s13, s14, s15, s16, s17⟩
                     go_simp
                     with_reducible rfl
                    rotate_left
                    ·simp only [Act.put, sa_, s0_, s1_, i64_w, i32_w]
                     rfl
                    refine take_ (i := 6) (N := some 116) (v := ?_) (a' := ?_) #[true, true, true, true, true, true, true, false, false, false, false, false, false, false, false, false, false, false, false, false, false, false] rfl rfl (take_ofW HT_.out HW_.out (by kernel_rfl)) (fun _ _ _ h => h) (Or.inl ⟨by rfl, ?_⟩) hHeld ?_ ?_
                    rotate_left
                    ·rintro w' ⟨s0, s1, s2, s3, s4, s5, s6, s7, s8, s9, s10, s11, s12, s13, s14, s15, s16, s17⟩
                     go_simp
                     with_reducible rfl
                    rotate_left
                    ·simp only [Act.put, sa_, s0_, s1_, i64_w, i32_w]
                     rfl
                    refine pure_ (i := 7) (N := some 117) (v := ?_) (a' := ?_) #[true, true, true, true, true, true, true, true, false, false, false, false, false, false, false, false, false, false, false, false, false, false] rfl rfl (any_of HT_.out (by kernel_rfl)) (fun _ _ _ h => h) (Or.inl ⟨by rfl, ?_⟩) ?_ ?_
                    rotate_left
                    ·intro w'
                     go_simp
                     with_reducible rfl
                    rotate_left
                    ·simp only [Act.put, sa_, s0_, s1_, i64_w, i32_w]
                     rfl
                    refine pure_ (i := 8) (N := some 118) (v := ?_) (a' := ?_) #[true, true, true, true, true, true, true, true, true, false, false, false, false, false, false, false, false, false, false, false, false, false] rfl rfl (any_of HT_.out (by kernel_rfl)) (fun _ _ _ h => h) (Or.inl ⟨by rfl, ?_⟩) ?_ ?_
                    rotate_left
                    ·intro w'
                     go_simp
                     with_reducible rfl
                    rotate_left
                    ·simp only [Act.put, sa_, s0_, s1_, i64_w, i32_w]
                     rfl
                    refine pure_ (i := 9) (N := some 119) (v := ?_) (a' := ?_) #[true, true, true, true, true, true, true, true, true, true, false, false, false, false, false, false, false, false, false, false, false, false] rfl rfl (any_of HT_.out (by kernel_rfl)) (fun _ _ _ h => h) (Or.inl ⟨by rfl, ?_⟩) ?_ ?_
                    rotate_left
                    ·intro w'
                     go_simp
                     with_reducible rfl
                    rotate_left
                    ·simp only [Act.put, sa_, s0_, s1_, i64_w, i32_w]
                     rfl
                    refine pure_ (i := 10) (N := some 120) (v := ?_) (a' := ?_) #[true, true, true, true, true, true, true, true, true, true, true, false, false, false, false, false, false, false, false, false, false, false] rfl rfl (any_of HT_.out (by kernel_rfl)) (fun _ _ _ h => h) (Or.inl ⟨by rfl, ?_⟩) ?_ ?_
                    rotate_left
                    ·intro w'
                     go_simp
                     with_reducible rfl
                    rotate_left
                    ·simp only [Act.put, sa_, s0_, s1_, i64_w, i32_w]
                     rfl
                    refine pure_ (i := 11) (N := some 121) (v := ?_) (a' := ?_) #[true, true, true, true, true, true, true, true, true, true, true, true, false, false, false, false, false, false, false, false, false, false] rfl rfl (any_of HT_.out (by kernel_rfl)) (fun _ _ _ h => h) (Or.inl ⟨by rfl, ?_⟩) ?_ ?_
                    rotate_left
                    ·intro w'
                     go_simp
                     with_reducible rfl
                    rotate_left
                    ·simp only [Act.put, sa_, s0_, s1_, i64_w, i32_w]
                     rfl
                    refine pure_ (i := 12) (N := some 122) (v := ?_) (a' := ?_) #[true, true, true, true, true, true, true, true, true, true, true, true, true, false, false, false, false, false, false, false, false, false] rfl rfl (any_of HT_.out (by kernel_rfl)) (fun _ _ _ h => h) (Or.inl ⟨by rfl, ?_⟩) ?_ ?_
                    rotate_left
                    ·intro w'
                     go_simp
                     with_reducible rfl
                    rotate_left
                    ·simp only [Act.put, sa_, s0_, s1_, i64_w, i32_w]
                     rfl
                    refine pure_ (i := 13) (N := some 123) (v := ?_) (a' := ?_) #[true, true, true, true, true, true, true, true, true, true, true, true, true, true, false, false, false, false, false, false, false, false] rfl rfl (any_of HT_.out (by kernel_rfl)) (fun _ _ _ h => h) (Or.inl ⟨by rfl, ?_⟩) ?_ ?_
                    rotate_left
                    ·intro w'
                     go_simp
                     with_reducible rfl
                    rotate_left
                    ·simp only [Act.put, sa_, s0_, s1_, i64_w, i32_w]
                     rfl
                    refine pure_ (i := 15) (N := some 125) (v := ?_) (a' := ?_) #[true, true, true, true, true, true, true, true, true, true, true, true, true, true, false, true, false, false, false, false, false, false] rfl rfl (any_of HT_.out (by kernel_rfl)) (fun _ _ _ h => h) (Or.inl ⟨by rfl, ?_⟩) ?_ ?_
                    rotate_left
                    ·intro w'
                     go_simp
                     with_reducible rfl
                    rotate_left
                    ·simp only [Act.put, sa_, s0_, s1_, i64_w, i32_w]
                     rfl
                    refine pure_ (i := 16) (N := some 126) (v := ?_) (a' := ?_) #[true, true, true, true, true, true, true, true, true, true, true, true, true, true, false, true, true, false, false, false, false, false] rfl rfl (any_of HT_.out (by kernel_rfl)) (fun _ _ _ h => h) (Or.inl ⟨by rfl, ?_⟩) ?_ ?_
                    rotate_left
                    ·intro w'
                     go_simp
                     with_reducible rfl
                    rotate_left
                    ·simp only [Act.put, sa_, s0_, s1_, i64_w, i32_w]
                     rfl
                    refine pure_ (i := 17) (N := some 127) (v := ?_) (a' := ?_) #[true, true, true, true, true, true, true, true, true, true, true, true, true, true, false, true, true, true, false, false, false, false] rfl rfl (any_of HT_.out (by kernel_rfl)) (fun _ _ _ h => h) (Or.inl ⟨by rfl, ?_⟩) ?_ ?_
                    rotate_left
                    ·intro w'
                     go_simp
                     with_reducible rfl
                    rotate_left
                    ·simp only [Act.put, sa_, s0_, s1_, i64_w, i32_w]
                     rfl
                    refine pure_ (i := 18) (N := some 128) (v := ?_) (a' := ?_) #[true, true, true, true, true, true, true, true, true, true, true, true, true, true, false, true, true, true, true, false, false, false] rfl rfl (any_of HT_.out (by kernel_rfl)) (fun _ _ _ h => h) (Or.inl ⟨by rfl, ?_⟩) ?_ ?_
                    rotate_left
                    ·intro w'
                     go_simp
                     with_reducible rfl
                    rotate_left
                    ·simp only [Act.put, sa_, s0_, s1_, i64_w, i32_w]
                     rfl
                    refine take_ (i := 14) (N := some 124) (v := ?_) (a' := ?_) #[true, true, true, true, true, true, true, true, true, true, true, true, true, true, true, true, true, true, true, false, false, false] rfl rfl (take_ofW HT_.out HW_.out (by kernel_rfl)) (fun _ _ _ h => h) (Or.inl ⟨by rfl, ?_⟩) hHeld ?_ ?_
                    rotate_left
                    ·rintro w' ⟨s0, s1, s2, s3, s4, s5, s6, s7, s8, s9, s10, s11, s12, s13, s14, s15, s16, s17⟩
                     go_simp
                     with_reducible rfl
                    rotate_left
                    ·simp only [Act.put, sa_, s0_, s1_, i64_w, i32_w]
                     rfl
                    refine take_ (i := 19) (N := some 129) (v := ?_) (a' := ?_) #[true, true, true, true, true, true, true, true, true, true, true, true, true, true, true, true, true, true, true, true, false, false] rfl rfl (take_ofW HT_.out HW_.out (by kernel_rfl)) (fun _ _ _ h => h) (Or.inl ⟨by rfl, ?_⟩) hHeld ?_ ?_
                    rotate_left
                    ·rintro w' ⟨s0, s1, s2, s3, s4, s5, s6, s7, s8, s9, s10, s11, s12, s13, s14, s15, s16, s17⟩
                     go_simp
                     with_reducible rfl
                    rotate_left
                    ·simp only [Act.put, sa_, s0_, s1_, i64_w, i32_w]
                     rfl
                    refine one_ (i := 20) (N := some 130) #[true, true, true, true, true, true, true, true, true, true, true, true, true, true, true, true, true, true, true, true, true, false] rfl rfl (one_of HT_.out (by kernel_rfl)) (by decide) (fun K hK => ?_)
                    refine goes_ Try.func19 (by kernel_rfl) rfl #[.int .i64 x11_3, .int .i64 ((rd_T144 l0 x12_5).f1), .int .i64 ((rd_T144 l0 x12_5).f2)] (by rfl) rfl rfl (by (try simp only [List.map_toArray, List.map_cons, List.map_nil]); first | done | rfl | (simp only [List.length_drop, List.length_take]; rfl)) ?_
                    with_reducible refine (acmeref12_In.calls x11_3 ((rd_T144 l0 x12_5).f1) ((rd_T144 l0 x12_5).f2) true _ A46.out).mono ?_
                    rintro e w' ⟨rfl, ⟨nd, rfl⟩⟩
                    refine ⟨_, rfl, ?_⟩
                    refine hK.out _ _ ⟨(blk_cell BK257.out 0).trans rfl, (blk_cell BK257.out 1).trans rfl, (blk_cell BK257.out 2).trans rfl, ((HB.out.cell (World.block_lt_of_cell? w _ hw274_0)).trans hw274_0), ((HB.out.cell (World.block_lt_of_cell? w _ hw274_1)).trans hw274_1), ((HB.out.cell (World.block_lt_of_cell? w _ hw274_2)).trans hw274_2), ((HB.out.cell (World.block_lt_of_cell? w _ hw274_3)).trans hw274_3), ((HB.out.cell (World.block_lt_of_cell? w _ hw274_4)).trans hw274_4), ((HB.out.cell (World.block_lt_of_cell? w _ hw275_0)).trans hw275_0), ((HB.out.cell (World.block_lt_of_cell? w _ hw275_1)).trans hw275_1), ((HB.out.cell (World.block_lt_of_cell? w _ hw275_2)).trans hw275_2), ((HB.out.cell (World.block_lt_of_cell? w _ hw275_3)).trans hw275_3), ((HB.out.cell (World.block_lt_of_cell? w _ hw275_4)).trans hw275_4), ((HB.out.cell (World.block_lt_of_cell? w _ hw276_0)).trans hw276_0), ((HB.out.cell (World.block_lt_of_cell? w _ hw276_1)).trans hw276_1), ((HB.out.cell (World.block_lt_of_cell? w _ hw276_2)).trans hw276_2), ((HB.out.cell (World.block_lt_of_cell? w _ hw276_3)).trans hw276_3), ((HB.out.cell (World.block_lt_of_cell? w _ hw276_4)).trans hw276_4)⟩ (fun hHeld => ?_)
                    clear hK K
                    refine norm_ (a' := ?_) ?_ ?_
                    rotate_left
                    ·show Act.put _ (some 130) _ = _
                     simp only [Act.put, sa_, s0_, s1_, i64_w, i32_w]
                     rfl
                    refine pure_ (i := 21) (N := some 131) (v := ?_) (a' := ?_) #[true, true, true, true, true, true, true, true, true, true, true, true, true, true, true, true, true, true, true, true, true, true] rfl rfl (any_of HT_.out (by kernel_rfl)) (fun _ _ _ h => h) (Or.inl ⟨by rfl, ?_⟩) ?_ ?_
                    rotate_left
                    ·intro w'
                     go_simp
                     with_reducible rfl
                    rotate_left
                    ·simp only [Act.put, sa_, s0_, s1_, i64_w, i32_w]
                     rfl
                    refine done_ (done_of HT_.out (by kernel_rfl)) ?_
                    obtain ⟨hcz50_0, hcz50_1, hcz50_2⟩ := bc3 BK257.out
                    obtain ⟨hfz50_0, hfz50_1, hfz50_2⟩ := bf3 BK257.out
                    try go_wp2_with (first | ((with_reducible refine gate_builtin (b := .append) (xs := #[.tmp 132, .tmp 137]) rfl ?_); at_builtin; refine Kd.R_append k79 (w0 := w) w.heap.size rfl (.tmp 132) (.tmp 137) 62 79 (.agg #[(.int .i64 0), (.int .i64 0), (.int .i64 0)]) 24 rfl Try.underlying62 info79 rfl (by decide) (by omega) u6 x6_5 (⟨3, a1_0, x11_3⟩ : S79) [.int .i64 3, .int .i64 a1_0, .int .i64 x11_3] (fun _ => True) (fun _ => False) rfl rfl ?aP (fun _ hk => hk.elim) ?aF ?aO ?aB ?aS ?aL ?_; (case aP => exact k79_mkM _ _ _ (⟨3, a1_0, x11_3⟩ : S79)); (case aB => exact (by repeat (first | (with_reducible first | exact HB.out | apply below_alloc | apply pw_below_drewN | apply below_drew1 | refine below_set ?_ (Aside0.out (by assumption))) | exact HB.out))); (case aF => exact (fun _ _ => trivial)); (case aO => exact (by (with_reducible repeat (first | apply Kd.R_alloc | apply Kd.R_drewN | apply Kd.R_drew)); exact HO_6.out)); (case aS => exact (below_size (by repeat (first | (with_reducible first | exact HB.out | apply below_alloc | apply pw_below_drewN | apply below_drew1 | refine below_set ?_ (Aside0.out (by assumption))) | exact HB.out)))); (case aL => have := LMc48.out; omega); intro v279 w51 ho hb hg hat; rw [← Ny278.out] at ho; replace BK257 := Aside0.mk (blk_grown (g := gb257) (o := .cells #[.int .i64 a1_0, .int .i64 a1_1, .int .i64 a1_2] 58 (0, 0)) (by repeat (first | (with_reducible first | exact BK257.out | refine blk_drewN ?_ _ | refine blk_drew ?_ | refine blk_alloc ?_ _) | exact BK257.out)) hg (Kd.R_ne HO_6.out BK257.out (by decide))); replace HB := Aside0.mk (hb); have HO280 := Aside0.mk (ho); clear HO_6; clear ho hb hg hat))
                    go_roundg k5
                    case measure => have := HJ2.out; have := HK2.out; have := HK3.out; have := HJ37.out; have := HK5.out; omega
                    case rel => exact ⟨(y278), (wrap64 (x7_5 - 1)), (wrap64 (x12_5 + 1)), (by first | rfl | (simp; done) | (simp [*]; done)), (by first | rfl | (simp; done) | (simp [*]; done)), H', ⟨by have := HJ2.out; have := HK2.out; have := HK3.out; have := HJ37.out; have := HK5.out; omega⟩, ⟨by (with_reducible repeat (first | apply Kd.R_alloc | apply Kd.R_drewN | apply Kd.R_drew)); exact HO280.out⟩, BK257, ⟨by repeat (first | (with_reducible first | exact HB.out | apply below_alloc | apply pw_below_drewN | apply below_drew1 | refine below_set ?_ (Aside0.out (by assumption))) | exact HB.out)⟩⟩
                   ·rw [if_neg c48] at H
                    exact absurd H (by simp)
                  ·replace c47 := Bool.eq_false_iff.mpr c47
                   subst c47
                   have H1 : (acmeref12_Causes.l2 k5 l0 x6_5 x7_5 x11_3 (wrap64 (x12_5 + 1)) a1_0 a1_1 a1_2) = some (r1, r2) := by rw [if_neg (show ¬ (false = true) by decide)] at H; exact H
                   clear H
                   have H := H1
                   clear H1
                   have H' := Aside0.mk H
                   clear H
                   try go_wp2
                   have n0_ := Aside0.mk (Kd.R_drew HO_6.out)
                   have n1_ := Aside0.mk (blk_drew BK257.out)
                   have n2_ := Aside0.mk (below_drew1 HB.out)
                   clear HO_6
                   clear BK257
                   clear HB
                   have HO_6 := n0_
                   have BK257 := n1_
                   have HB := n2_
                   clear n0_ n1_ n2_
                   have p274 : 0 ≤ (x12_5 : Int) := of_decide_eq_true ‹_›
                   have q274 : x12_5 < (l0.length : Int) := of_decide_eq_true ‹_›
                   obtain ⟨ad274, e274, hx274_0, hx274_1, hx274_2, hx274_3, hx274_4⟩ := at_T144 HR0.out x12_5 p274 q274
                   have hw274_4 := hx274_4
                   have hw274_3 := hx274_3
                   have hw274_2 := hx274_2
                   have hw274_1 := hx274_1
                   have hw274_0 := hx274_0
                   cases e274
                   replace hx274_0 := bl_ HB hx274_0
                   replace hx274_1 := bl_ HB hx274_1
                   replace hx274_2 := bl_ HB hx274_2
                   replace hx274_3 := bl_ HB hx274_3
                   replace hx274_4 := bl_ HB hx274_4
                   replace p274 := eq_true p274
                   replace q274 := eq_true q274
                   have p275 : 0 ≤ (x12_5 : Int) := of_decide_eq_true ‹_›
                   have q275 : x12_5 < (l0.length : Int) := of_decide_eq_true ‹_›
                   obtain ⟨ad275, e275, hx275_0, hx275_1, hx275_2, hx275_3, hx275_4⟩ := at_T144 HR0.out x12_5 p275 q275
                   have hw275_4 := hx275_4
                   have hw275_3 := hx275_3
                   have hw275_2 := hx275_2
                   have hw275_1 := hx275_1
                   have hw275_0 := hx275_0
                   obtain rfl : ad274 = ad275 := (by injection e275)
                   replace hx275_0 := bl_ HB hx275_0
                   replace hx275_1 := bl_ HB hx275_1
                   replace hx275_2 := bl_ HB hx275_2
                   replace hx275_3 := bl_ HB hx275_3
                   replace hx275_4 := bl_ HB hx275_4
                   replace p275 := eq_true p275
                   replace q275 := eq_true q275
                   have p276 : 0 ≤ (x12_5 : Int) := of_decide_eq_true ‹_›
                   have q276 : x12_5 < (l0.length : Int) := of_decide_eq_true ‹_›
                   obtain ⟨ad276, e276, hx276_0, hx276_1, hx276_2, hx276_3, hx276_4⟩ := at_T144 HR0.out x12_5 p276 q276
                   have hw276_4 := hx276_4
                   have hw276_3 := hx276_3
                   have hw276_2 := hx276_2
                   have hw276_1 := hx276_1
                   have hw276_0 := hx276_0
                   obtain rfl : ad274 = ad276 := (by injection e276)
                   replace hx276_0 := bl_ HB hx276_0
                   replace hx276_1 := bl_ HB hx276_1
                   replace hx276_2 := bl_ HB hx276_2
                   replace hx276_3 := bl_ HB hx276_3
                   replace hx276_4 := bl_ HB hx276_4
                   replace p276 := eq_true p276
                   replace q276 := eq_true q276
                   refine start_ (n := 22) (S := fun w' => w'.cell? ⟨gb257, 0, none⟩ = some (.int .i64 a1_0) ∧ w'.cell? ⟨gb257, 1, none⟩ = some (.int .i64 a1_1) ∧ w'.cell? ⟨gb257, 2, none⟩ = some (.int .i64 a1_2) ∧ w'.cell? (ad274.add ((x12_5).toNat * 5)) = some (.int .i64 ((rd_T144 l0 x12_5).f0)) ∧ w'.cell? ⟨(ad274.add ((x12_5).toNat * 5)).block, (ad274.add ((x12_5).toNat * 5)).off + 1, none⟩ = some (.int .i64 ((rd_T144 l0 x12_5).f1)) ∧ w'.cell? ⟨(ad274.add ((x12_5).toNat * 5)).block, (ad274.add ((x12_5).toNat * 5)).off + 2, none⟩ = some (.int .i64 ((rd_T144 l0 x12_5).f2)) ∧ w'.cell? ⟨(ad274.add ((x12_5).toNat * 5)).block, (ad274.add ((x12_5).toNat * 5)).off + 3, none⟩ = some (.int .i64 ((rd_T144 l0 x12_5).f3)) ∧ w'.cell? ⟨(ad274.add ((x12_5).toNat * 5)).block, (ad274.add ((x12_5).toNat * 5)).off + 4, none⟩ = some (.int .i64 ((rd_T144 l0 x12_5).f4)) ∧ w'.cell? (ad274.add ((x12_5).toNat * 5)) = some (.int .i64 ((rd_T144 l0 x12_5).f0)) ∧ w'.cell? ⟨(ad274.add ((x12_5).toNat * 5)).block, (ad274.add ((x12_5).toNat * 5)).off + 1, none⟩ = some (.int .i64 ((rd_T144 l0 x12_5).f1)) ∧ w'.cell? ⟨(ad274.add ((x12_5).toNat * 5)).block, (ad274.add ((x12_5).toNat * 5)).off + 2, none⟩ = some (.int .i64 ((rd_T144 l0 x12_5).f2)) ∧ w'.cell? ⟨(ad274.add ((x12_5).toNat * 5)).block, (ad274.add ((x12_5).toNat * 5)).off + 3, none⟩ = some (.int .i64 ((rd_T144 l0 x12_5).f3)) ∧ w'.cell? ⟨(ad274.add ((x12_5).toNat * 5)).block, (ad274.add ((x12_5).toNat * 5)).off + 4, none⟩ = some (.int .i64 ((rd_T144 l0 x12_5).f4)) ∧ w'.cell? (ad274.add ((x12_5).toNat * 5)) = some (.int .i64 ((rd_T144 l0 x12_5).f0)) ∧ w'.cell? ⟨(ad274.add ((x12_5).toNat * 5)).block, (ad274.add ((x12_5).toNat * 5)).off + 1, none⟩ = some (.int .i64 ((rd_T144 l0 x12_5).f1)) ∧ w'.cell? ⟨(ad274.add ((x12_5).toNat * 5)).block, (ad274.add ((x12_5).toNat * 5)).off + 2, none⟩ = some (.int .i64 ((rd_T144 l0 x12_5).f2)) ∧ w'.cell? ⟨(ad274.add ((x12_5).toNat * 5)).block, (ad274.add ((x12_5).toNat * 5)).off + 3, none⟩ = some (.int .i64 ((rd_T144 l0 x12_5).f3)) ∧ w'.cell? ⟨(ad274.add ((x12_5).toNat * 5)).block, (ad274.add ((x12_5).toNat * 5)).off + 4, none⟩ = some (.int .i64 ((rd_T144 l0 x12_5).f4))) (ds := []) #[false, false, false, false, false, false, false, false, false, false, false, false, false, false, false, false, false, false, false, false, false, false] (by kernel_rfl) rfl rfl ⟨(blk_cell BK257.out 0).trans rfl, (blk_cell BK257.out 1).trans rfl, (blk_cell BK257.out 2).trans rfl, ((HB.out.cell (World.block_lt_of_cell? w _ hw274_0)).trans hw274_0), ((HB.out.cell (World.block_lt_of_cell? w _ hw274_1)).trans hw274_1), ((HB.out.cell (World.block_lt_of_cell? w _ hw274_2)).trans hw274_2), ((HB.out.cell (World.block_lt_of_cell? w _ hw274_3)).trans hw274_3), ((HB.out.cell (World.block_lt_of_cell? w _ hw274_4)).trans hw274_4), ((HB.out.cell (World.block_lt_of_cell? w _ hw275_0)).trans hw275_0), ((HB.out.cell (World.block_lt_of_cell? w _ hw275_1)).trans hw275_1), ((HB.out.cell (World.block_lt_of_cell? w _ hw275_2)).trans hw275_2), ((HB.out.cell (World.block_lt_of_cell? w _ hw275_3)).trans hw275_3), ((HB.out.cell (World.block_lt_of_cell? w _ hw275_4)).trans hw275_4), ((HB.out.cell (World.block_lt_of_cell? w _ hw276_0)).trans hw276_0), ((HB.out.cell (World.block_lt_of_cell? w _ hw276_1)).trans hw276_1), ((HB.out.cell (World.block_lt_of_cell? w _ hw276_2)).trans hw276_2), ((HB.out.cell (World.block_lt_of_cell? w _ hw276_3)).trans hw276_3), ((HB.out.cell (World.block_lt_of_cell? w _ hw276_4)).trans hw276_4)⟩ (fun hHeld => ?_); refine with_tabW acmeref12_Causes.tab19 acmeref12_Causes.bits19 (fun HT_ HW_ => ?_)
                   generalize wr.drew = w52 at HO_6 BK257 HB hx274_0 hx274_1 hx274_2 hx274_3 hx274_4 hx275_0 hx275_1 hx275_2 hx275_3 hx275_4 hx276_0 hx276_1 hx276_2 hx276_3 hx276_4 hHeld ⊢
                   refine pure_ (i := 0) (N := some 110) (v := ?_) (a' := ?_) #[true, false, false, false, false, false, false, false, false, false, false, false, false, false, false, false, false, false, false, false, false, false] rfl rfl (any_of HT_.out (by kernel_rfl)) (fun _ _ _ h => h) (Or.inl ⟨by rfl, ?_⟩) ?_ ?_
                   rotate_left
                   ·intro w'
                    go_simp
                    with_reducible rfl
                   rotate_left
                   ·simp only [Act.put, sa_, s0_, s1_, i64_w, i32_w]
                    rfl
                   refine pure_ (i := 1) (N := some 111) (v := ?_) (a' := ?_) #[true, true, false, false, false, false, false, false, false, false, false, false, false, false, false, false, false, false, false, false, false, false] rfl rfl (any_of HT_.out (by kernel_rfl)) (fun _ _ _ h => h) (Or.inl ⟨by rfl, ?_⟩) ?_ ?_
                   rotate_left
                   ·intro w'
                    go_simp
                    with_reducible rfl
                   rotate_left
                   ·simp only [Act.put, sa_, s0_, s1_, i64_w, i32_w]
                    rfl
                   refine pure_ (i := 2) (N := some 112) (v := ?_) (a' := ?_) #[true, true, true, false, false, false, false, false, false, false, false, false, false, false, false, false, false, false, false, false, false, false] rfl rfl (any_of HT_.out (by kernel_rfl)) (fun _ _ _ h => h) (Or.inl ⟨by rfl, ?_⟩) ?_ ?_
                   rotate_left
                   ·intro w'
                    go_simp
                    with_reducible rfl
                   rotate_left
                   ·simp only [Act.put, sa_, s0_, s1_, i64_w, i32_w]
                    rfl
                   refine pure_ (i := 3) (N := some 113) (v := ?_) (a' := ?_) #[true, true, true, true, false, false, false, false, false, false, false, false, false, false, false, false, false, false, false, false, false, false] rfl rfl (any_of HT_.out (by kernel_rfl)) (fun _ _ _ h => h) (Or.inl ⟨by rfl, ?_⟩) ?_ ?_
                   rotate_left
                   ·intro w'
                    go_simp
                    with_reducible rfl
                   rotate_left
                   ·simp only [Act.put, sa_, s0_, s1_, i64_w, i32_w]
                    rfl
                   refine pure_ (i := 5) (N := some 115) (v := ?_) (a' := ?_) #[true, true, true, true, false, true, false, false, false, false, false, false, false, false, false, false, false, false, false, false, false, false] rfl rfl (any_of HT_.out (by kernel_rfl)) (fun _ _ _ h => h) (Or.inl ⟨by rfl, ?_⟩) ?_ ?_
                   rotate_left
                   ·intro w'
                    go_simp
                    with_reducible rfl
                   rotate_left
                   ·simp only [Act.put, sa_, s0_, s1_, i64_w, i32_w]
                    rfl
                   refine take_ (i := 4) (N := some 114) (v := ?_) (a' := ?_) #[true, true, true, true, true, true, false, false, false, false, false, false, false, false, false, false, false, false, false, false, false, false] rfl rfl (take_ofW HT_.out HW_.out (by kernel_rfl)) (fun _ _ _ h => h) (Or.inl ⟨by rfl, ?_⟩) hHeld ?_ ?_
                   rotate_left
                   ·rintro w' ⟨s0, s1, s2, s3, s4, s5, s6, s7, s8, s9, s10, s11, s12, s13, s14, s15, s16, s17⟩
                    go_simp
                    with_reducible rfl
                   rotate_left
                   ·simp only [Act.put, sa_, s0_, s1_, i64_w, i32_w]
                    rfl
                   refine take_ (i := 6) (N := some 116) (v := ?_) (a' := ?_) #[true, true, true, true, true, true, true, false, false, false, false, false, false, false, false, false, false, false, false, false, false, false] rfl rfl (take_ofW HT_.out HW_.out (by kernel_rfl)) (fun _ _ _ h => h) (Or.inl ⟨by rfl, ?_⟩) hHeld ?_ ?_
                   rotate_left
                   ·rintro w' ⟨s0, s1, s2, s3, s4, s5, s6, s7, s8, s9, s10, s11, s12, s13, s14, s15, s16, s17⟩
                    go_simp
                    with_reducible rfl
                   rotate_left
                   ·simp only [Act.put, sa_, s0_, s1_, i64_w, i32_w]
                    rfl
                   refine pure_ (i := 7) (N := some 117) (v := ?_) (a' := ?_) #[true, true, true, true, true, true, true, true, false, false, false, false, false, false, false, false, false, false, false, false, false, false] rfl rfl (any_of HT_.out (by kernel_rfl)) (fun _ _ _ h => h) (Or.inl ⟨by rfl, ?_⟩) ?_ ?_
                   rotate_left
                   ·intro w'
                    go_simp
                    with_reducible rfl
                   rotate_left
                   ·simp only [Act.put, sa_, s0_, s1_, i64_w, i32_w]
                    rfl
                   refine pure_ (i := 8) (N := some 118) (v := ?_) (a' := ?_) #[true, true, true, true, true, true, true, true, true, false, false, false, false, false, false, false, false, false, false, false, false, false] rfl rfl (any_of HT_.out (by kernel_rfl)) (fun _ _ _ h => h) (Or.inl ⟨by rfl, ?_⟩) ?_ ?_
                   rotate_left
                   ·intro w'
                    go_simp
                    with_reducible rfl
                   rotate_left
                   ·simp only [Act.put, sa_, s0_, s1_, i64_w, i32_w]
                    rfl
                   refine pure_ (i := 9) (N := some 119) (v := ?_) (a' := ?_) #[true, true, true, true, true, true, true, true, true, true, false, false, false, false, false, false, false, false, false, false, false, false] rfl rfl (any_of HT_.out (by kernel_rfl)) (fun _ _ _ h => h) (Or.inl ⟨by rfl, ?_⟩) ?_ ?_
                   rotate_left
                   ·intro w'
                    go_simp
                    with_reducible rfl
                   rotate_left
                   ·simp only [Act.put, sa_, s0_, s1_, i64_w, i32_w]
                    rfl
                   refine pure_ (i := 10) (N := some 120) (v := ?_) (a' := ?_) #[true, true, true, true, true, true, true, true, true, true, true, false, false, false, false, false, false, false, false, false, false, false] rfl rfl (any_of HT_.out (by kernel_rfl)) (fun _ _ _ h => h) (Or.inl ⟨by rfl, ?_⟩) ?_ ?_
                   rotate_left
                   ·intro w'
                    go_simp
                    with_reducible rfl
                   rotate_left
                   ·simp only [Act.put, sa_, s0_, s1_, i64_w, i32_w]
                    rfl
                   refine pure_ (i := 11) (N := some 121) (v := ?_) (a' := ?_) #[true, true, true, true, true, true, true, true, true, true, true, true, false, false, false, false, false, false, false, false, false, false] rfl rfl (any_of HT_.out (by kernel_rfl)) (fun _ _ _ h => h) (Or.inl ⟨by rfl, ?_⟩) ?_ ?_
                   rotate_left
                   ·intro w'
                    go_simp
                    with_reducible rfl
                   rotate_left
                   ·simp only [Act.put, sa_, s0_, s1_, i64_w, i32_w]
                    rfl
                   refine pure_ (i := 12) (N := some 122) (v := ?_) (a' := ?_) #[true, true, true, true, true, true, true, true, true, true, true, true, true, false, false, false, false, false, false, false, false, false] rfl rfl (any_of HT_.out (by kernel_rfl)) (fun _ _ _ h => h) (Or.inl ⟨by rfl, ?_⟩) ?_ ?_
                   rotate_left
                   ·intro w'
                    go_simp
                    with_reducible rfl
                   rotate_left
                   ·simp only [Act.put, sa_, s0_, s1_, i64_w, i32_w]
                    rfl
                   refine pure_ (i := 13) (N := some 123) (v := ?_) (a' := ?_) #[true, true, true, true, true, true, true, true, true, true, true, true, true, true, false, false, false, false, false, false, false, false] rfl rfl (any_of HT_.out (by kernel_rfl)) (fun _ _ _ h => h) (Or.inl ⟨by rfl, ?_⟩) ?_ ?_
                   rotate_left
                   ·intro w'
                    go_simp
                    with_reducible rfl
                   rotate_left
                   ·simp only [Act.put, sa_, s0_, s1_, i64_w, i32_w]
                    rfl
                   refine pure_ (i := 15) (N := some 125) (v := ?_) (a' := ?_) #[true, true, true, true, true, true, true, true, true, true, true, true, true, true, false, true, false, false, false, false, false, false] rfl rfl (any_of HT_.out (by kernel_rfl)) (fun _ _ _ h => h) (Or.inl ⟨by rfl, ?_⟩) ?_ ?_
                   rotate_left
                   ·intro w'
                    go_simp
                    with_reducible rfl
                   rotate_left
                   ·simp only [Act.put, sa_, s0_, s1_, i64_w, i32_w]
                    rfl
                   refine pure_ (i := 16) (N := some 126) (v := ?_) (a' := ?_) #[true, true, true, true, true, true, true, true, true, true, true, true, true, true, false, true, true, false, false, false, false, false] rfl rfl (any_of HT_.out (by kernel_rfl)) (fun _ _ _ h => h) (Or.inl ⟨by rfl, ?_⟩) ?_ ?_
                   rotate_left
                   ·intro w'
                    go_simp
                    with_reducible rfl
                   rotate_left
                   ·simp only [Act.put, sa_, s0_, s1_, i64_w, i32_w]
                    rfl
                   refine pure_ (i := 17) (N := some 127) (v := ?_) (a' := ?_) #[true, true, true, true, true, true, true, true, true, true, true, true, true, true, false, true, true, true, false, false, false, false] rfl rfl (any_of HT_.out (by kernel_rfl)) (fun _ _ _ h => h) (Or.inl ⟨by rfl, ?_⟩) ?_ ?_
                   rotate_left
                   ·intro w'
                    go_simp
                    with_reducible rfl
                   rotate_left
                   ·simp only [Act.put, sa_, s0_, s1_, i64_w, i32_w]
                    rfl
                   refine pure_ (i := 18) (N := some 128) (v := ?_) (a' := ?_) #[true, true, true, true, true, true, true, true, true, true, true, true, true, true, false, true, true, true, true, false, false, false] rfl rfl (any_of HT_.out (by kernel_rfl)) (fun _ _ _ h => h) (Or.inl ⟨by rfl, ?_⟩) ?_ ?_
                   rotate_left
                   ·intro w'
                    go_simp
                    with_reducible rfl
                   rotate_left
                   ·simp only [Act.put, sa_, s0_, s1_, i64_w, i32_w]
                    rfl
                   refine take_ (i := 14) (N := some 124) (v := ?_) (a' := ?_) #[true, true, true, true, true, true, true, true, true, true, true, true, true, true, true, true, true, true, true, false, false, false] rfl rfl (take_ofW HT_.out HW_.out (by kernel_rfl)) (fun _ _ _ h => h) (Or.inl ⟨by rfl, ?_⟩) hHeld ?_ ?_
                   rotate_left
                   ·rintro w' ⟨s0, s1, s2, s3, s4, s5, s6, s7, s8, s9, s10, s11, s12, s13, s14, s15, s16, s17⟩
                    go_simp
                    with_reducible rfl
                   rotate_left
                   ·simp only [Act.put, sa_, s0_, s1_, i64_w, i32_w]
                    rfl
                   refine take_ (i := 19) (N := some 129) (v := ?_) (a' := ?_) #[true, true, true, true, true, true, true, true, true, true, true, true, true, true, true, true, true, true, true, true, false, false] rfl rfl (take_ofW HT_.out HW_.out (by kernel_rfl)) (fun _ _ _ h => h) (Or.inl ⟨by rfl, ?_⟩) hHeld ?_ ?_
                   rotate_left
                   ·rintro w' ⟨s0, s1, s2, s3, s4, s5, s6, s7, s8, s9, s10, s11, s12, s13, s14, s15, s16, s17⟩
                    go_simp
                    with_reducible rfl
                   rotate_left
                   ·simp only [Act.put, sa_, s0_, s1_, i64_w, i32_w]
                    rfl
                   refine one_ (i := 20) (N := some 130) #[true, true, true, true, true, true, true, true, true, true, true, true, true, true, true, true, true, true, true, true, true, false] rfl rfl (one_of HT_.out (by kernel_rfl)) (by decide) (fun K hK => ?_)
                   refine goes_ Try.func19 (by kernel_rfl) rfl #[.int .i64 x11_3, .int .i64 ((rd_T144 l0 x12_5).f1), .int .i64 ((rd_T144 l0 x12_5).f2)] (by rfl) rfl rfl (by (try simp only [List.map_toArray, List.map_cons, List.map_nil]); first | done | rfl | (simp only [List.length_drop, List.length_take]; rfl)) ?_
                   with_reducible refine (acmeref12_In.calls x11_3 ((rd_T144 l0 x12_5).f1) ((rd_T144 l0 x12_5).f2) false _ A46.out).mono ?_
                   rintro e w' ⟨rfl, ⟨nd, rfl⟩⟩
                   refine ⟨_, rfl, ?_⟩
                   refine hK.out _ _ ⟨(blk_cell BK257.out 0).trans rfl, (blk_cell BK257.out 1).trans rfl, (blk_cell BK257.out 2).trans rfl, ((HB.out.cell (World.block_lt_of_cell? w _ hw274_0)).trans hw274_0), ((HB.out.cell (World.block_lt_of_cell? w _ hw274_1)).trans hw274_1), ((HB.out.cell (World.block_lt_of_cell? w _ hw274_2)).trans hw274_2), ((HB.out.cell (World.block_lt_of_cell? w _ hw274_3)).trans hw274_3), ((HB.out.cell (World.block_lt_of_cell? w _ hw274_4)).trans hw274_4), ((HB.out.cell (World.block_lt_of_cell? w _ hw275_0)).trans hw275_0), ((HB.out.cell (World.block_lt_of_cell? w _ hw275_1)).trans hw275_1), ((HB.out.cell (World.block_lt_of_cell? w _ hw275_2)).trans hw275_2), ((HB.out.cell (World.block_lt_of_cell? w _ hw275_3)).trans hw275_3), ((HB.out.cell (World.block_lt_of_cell? w _ hw275_4)).trans hw275_4), ((HB.out.cell (World.block_lt_of_cell? w _ hw276_0)).trans hw276_0), ((HB.out.cell (World.block_lt_of_cell? w _ hw276_1)).trans hw276_1), ((HB.out.cell (World.block_lt_of_cell? w _ hw276_2)).trans hw276_2), ((HB.out.cell (World.block_lt_of_cell? w _ hw276_3)).trans hw276_3), ((HB.out.cell (World.block_lt_of_cell? w _ hw276_4)).trans hw276_4)⟩ (fun hHeld => ?_)
                   clear hK K
                   refine norm_ (a' := ?_) ?_ ?_
                   rotate_left
                   ·show Act.put _ (some 130) _ = _
                    simp only [Act.put, sa_, s0_, s1_, i64_w, i32_w]
                    rfl
                   refine pure_ (i := 21) (N := some 131) (v := ?_) (a' := ?_) #[true, true, true, true, true, true, true, true, true, true, true, true, true, true, true, true, true, true, true, true, true, true] rfl rfl (any_of HT_.out (by kernel_rfl)) (fun _ _ _ h => h) (Or.inl ⟨by rfl, ?_⟩) ?_ ?_
                   rotate_left
                   ·intro w'
                    go_simp
                    with_reducible rfl
                   rotate_left
                   ·simp only [Act.put, sa_, s0_, s1_, i64_w, i32_w]
                    rfl
                   refine done_ (done_of HT_.out (by kernel_rfl)) ?_
                   try go_wp2
                   go_roundg k5
                   case measure => have := HJ2.out; have := HK2.out; have := HK3.out; have := HJ37.out; have := HK5.out; omega
                   case rel => exact ⟨(x6_5), (x7_5), (wrap64 (x12_5 + 1)), (by first | rfl | (simp; done) | (simp [*]; done)), (by first | rfl | (simp; done) | (simp [*]; done)), H', ⟨by have := HJ2.out; have := HK2.out; have := HK3.out; have := HJ37.out; have := HK5.out; omega⟩, ⟨by (with_reducible repeat (first | apply Kd.R_alloc | apply Kd.R_drewN | apply Kd.R_drew)); exact HO_6.out⟩, BK257, ⟨by repeat (first | (with_reducible first | exact HB.out | apply below_alloc | apply pw_below_drewN | apply below_drew1 | refine below_set ?_ (Aside0.out (by assumption))) | exact HB.out)⟩⟩
                 ·rw [if_neg c45] at H
                  have c45b0 : (((rd_T144 l0 x12_5).f0) == a1_0) = false := beq_eq_false_iff_ne.mpr c45
                  have c45b1 : (((rd_T144 l0 x12_5).f0) != a1_0) = true := bne_iff_ne.mpr c45
                  have H' := Aside0.mk H
                  clear H
                  try go_wp2
                  have n0_ := Aside0.mk (Kd.R_drew HO_6.out)
                  have n1_ := Aside0.mk (blk_drew BK257.out)
                  have n2_ := Aside0.mk (below_drew1 HB.out)
                  clear HO_6
                  clear BK257
                  clear HB
                  have HO_6 := n0_
                  have BK257 := n1_
                  have HB := n2_
                  clear n0_ n1_ n2_
                  have p274 : 0 ≤ (x12_5 : Int) := of_decide_eq_true ‹_›
                  have q274 : x12_5 < (l0.length : Int) := of_decide_eq_true ‹_›
                  obtain ⟨ad274, e274, hx274_0, hx274_1, hx274_2, hx274_3, hx274_4⟩ := at_T144 HR0.out x12_5 p274 q274
                  have hw274_4 := hx274_4
                  have hw274_3 := hx274_3
                  have hw274_2 := hx274_2
                  have hw274_1 := hx274_1
                  have hw274_0 := hx274_0
                  cases e274
                  replace hx274_0 := bl_ HB hx274_0
                  replace hx274_1 := bl_ HB hx274_1
                  replace hx274_2 := bl_ HB hx274_2
                  replace hx274_3 := bl_ HB hx274_3
                  replace hx274_4 := bl_ HB hx274_4
                  replace p274 := eq_true p274
                  replace q274 := eq_true q274
                  refine start_ (n := 22) (S := fun w' => w'.cell? ⟨gb257, 0, none⟩ = some (.int .i64 a1_0) ∧ w'.cell? ⟨gb257, 1, none⟩ = some (.int .i64 a1_1) ∧ w'.cell? ⟨gb257, 2, none⟩ = some (.int .i64 a1_2) ∧ w'.cell? (ad274.add ((x12_5).toNat * 5)) = some (.int .i64 ((rd_T144 l0 x12_5).f0)) ∧ w'.cell? ⟨(ad274.add ((x12_5).toNat * 5)).block, (ad274.add ((x12_5).toNat * 5)).off + 1, none⟩ = some (.int .i64 ((rd_T144 l0 x12_5).f1)) ∧ w'.cell? ⟨(ad274.add ((x12_5).toNat * 5)).block, (ad274.add ((x12_5).toNat * 5)).off + 2, none⟩ = some (.int .i64 ((rd_T144 l0 x12_5).f2)) ∧ w'.cell? ⟨(ad274.add ((x12_5).toNat * 5)).block, (ad274.add ((x12_5).toNat * 5)).off + 3, none⟩ = some (.int .i64 ((rd_T144 l0 x12_5).f3)) ∧ w'.cell? ⟨(ad274.add ((x12_5).toNat * 5)).block, (ad274.add ((x12_5).toNat * 5)).off + 4, none⟩ = some (.int .i64 ((rd_T144 l0 x12_5).f4))) (ds := []) #[false, false, false, false, false, false, false, false, false, false, false, false, false, false, false, false, false, false, false, false, false, false] (by kernel_rfl) rfl rfl ⟨(blk_cell BK257.out 0).trans rfl, (blk_cell BK257.out 1).trans rfl, (blk_cell BK257.out 2).trans rfl, ((HB.out.cell (World.block_lt_of_cell? w _ hw274_0)).trans hw274_0), ((HB.out.cell (World.block_lt_of_cell? w _ hw274_1)).trans hw274_1), ((HB.out.cell (World.block_lt_of_cell? w _ hw274_2)).trans hw274_2), ((HB.out.cell (World.block_lt_of_cell? w _ hw274_3)).trans hw274_3), ((HB.out.cell (World.block_lt_of_cell? w _ hw274_4)).trans hw274_4)⟩ (fun hHeld => ?_); refine with_tabW acmeref12_Causes.tab19 acmeref12_Causes.bits19 (fun HT_ HW_ => ?_)
                  generalize wr.drew = w53 at HO_6 BK257 HB hx274_0 hx274_1 hx274_2 hx274_3 hx274_4 hHeld ⊢
                  refine pure_ (i := 0) (N := some 110) (v := ?_) (a' := ?_) #[true, false, false, false, false, false, false, false, false, false, false, false, false, false, false, false, false, false, false, false, false, false] rfl rfl (any_of HT_.out (by kernel_rfl)) (fun _ _ _ h => h) (Or.inl ⟨by rfl, ?_⟩) ?_ ?_
                  rotate_left
                  ·intro w'
                   go_simp
                   with_reducible rfl
                  rotate_left
                  ·simp only [Act.put, sa_, s0_, s1_, i64_w, i32_w]
                   rfl
                  refine pure_ (i := 1) (N := some 111) (v := ?_) (a' := ?_) #[true, true, false, false, false, false, false, false, false, false, false, false, false, false, false, false, false, false, false, false, false, false] rfl rfl (any_of HT_.out (by kernel_rfl)) (fun _ _ _ h => h) (Or.inl ⟨by rfl, ?_⟩) ?_ ?_
                  rotate_left
                  ·intro w'
                   go_simp
                   with_reducible rfl
                  rotate_left
                  ·simp only [Act.put, sa_, s0_, s1_, i64_w, i32_w]
                   rfl
                  refine pure_ (i := 2) (N := some 112) (v := ?_) (a' := ?_) #[true, true, true, false, false, false, false, false, false, false, false, false, false, false, false, false, false, false, false, false, false, false] rfl rfl (any_of HT_.out (by kernel_rfl)) (fun _ _ _ h => h) (Or.inl ⟨by rfl, ?_⟩) ?_ ?_
                  rotate_left
                  ·intro w'
                   go_simp
                   with_reducible rfl
                  rotate_left
                  ·simp only [Act.put, sa_, s0_, s1_, i64_w, i32_w]
                   rfl
                  refine pure_ (i := 3) (N := some 113) (v := ?_) (a' := ?_) #[true, true, true, true, false, false, false, false, false, false, false, false, false, false, false, false, false, false, false, false, false, false] rfl rfl (any_of HT_.out (by kernel_rfl)) (fun _ _ _ h => h) (Or.inl ⟨by rfl, ?_⟩) ?_ ?_
                  rotate_left
                  ·intro w'
                   go_simp
                   with_reducible rfl
                  rotate_left
                  ·simp only [Act.put, sa_, s0_, s1_, i64_w, i32_w]
                   rfl
                  refine pure_ (i := 5) (N := some 115) (v := ?_) (a' := ?_) #[true, true, true, true, false, true, false, false, false, false, false, false, false, false, false, false, false, false, false, false, false, false] rfl rfl (any_of HT_.out (by kernel_rfl)) (fun _ _ _ h => h) (Or.inl ⟨by rfl, ?_⟩) ?_ ?_
                  rotate_left
                  ·intro w'
                   go_simp
                   with_reducible rfl
                  rotate_left
                  ·simp only [Act.put, sa_, s0_, s1_, i64_w, i32_w]
                   rfl
                  refine take_ (i := 4) (N := some 114) (v := ?_) (a' := ?_) #[true, true, true, true, true, true, false, false, false, false, false, false, false, false, false, false, false, false, false, false, false, false] rfl rfl (take_ofW HT_.out HW_.out (by kernel_rfl)) (fun _ _ _ h => h) (Or.inl ⟨by rfl, ?_⟩) hHeld ?_ ?_
                  rotate_left
                  ·rintro w' ⟨s0, s1, s2, s3, s4, s5, s6, s7⟩
                   go_simp
                   with_reducible rfl
                  rotate_left
                  ·simp only [Act.put, sa_, s0_, s1_, i64_w, i32_w]
                   rfl
                  refine take_ (i := 6) (N := some 116) (v := ?_) (a' := ?_) #[true, true, true, true, true, true, true, false, false, false, false, false, false, false, false, false, false, false, false, false, false, false] rfl rfl (take_ofW HT_.out HW_.out (by kernel_rfl)) (fun _ _ _ h => h) (Or.inl ⟨by rfl, ?_⟩) hHeld ?_ ?_
                  rotate_left
                  ·rintro w' ⟨s0, s1, s2, s3, s4, s5, s6, s7⟩
                   go_simp
                   with_reducible rfl
                  rotate_left
                  ·simp only [Act.put, sa_, s0_, s1_, i64_w, i32_w]
                   rfl
                  refine pure_ (i := 7) (N := some 117) (v := ?_) (a' := ?_) #[true, true, true, true, true, true, true, true, false, false, false, false, false, false, false, false, false, false, false, false, false, false] rfl rfl (any_of HT_.out (by kernel_rfl)) (fun _ _ _ h => h) (Or.inl ⟨by rfl, ?_⟩) ?_ ?_
                  rotate_left
                  ·intro w'
                   go_simp
                   with_reducible rfl
                  rotate_left
                  ·simp only [Act.put, sa_, s0_, s1_, i64_w, i32_w]
                   rfl
                  refine pure_ (i := 8) (N := some 118) (v := ?_) (a' := ?_) #[true, true, true, true, true, true, true, true, true, false, false, false, false, false, false, false, false, false, false, false, false, false] rfl rfl (any_of HT_.out (by kernel_rfl)) (fun _ _ _ h => h) (Or.inl ⟨by rfl, ?_⟩) ?_ ?_
                  rotate_left
                  ·intro w'
                   go_simp
                   with_reducible rfl
                  rotate_left
                  ·simp only [Act.put, sa_, s0_, s1_, i64_w, i32_w]
                   rfl
                  refine pure_ (i := 9) (N := some 119) (v := undef) (a' := ?_) #[true, true, true, true, true, true, true, true, true, true, false, false, false, false, false, false, false, false, false, false, false, false] rfl rfl (any_of HT_.out (by kernel_rfl)) (fun _ _ _ h => h) (Or.inr ⟨by rfl, rfl⟩) ?_ ?_
                  rotate_left
                  ·simp only [Act.put, sa_, s0_, s1_, i64_w, i32_w]
                   rfl
                  refine pure_ (i := 10) (N := some 120) (v := undef) (a' := ?_) #[true, true, true, true, true, true, true, true, true, true, true, false, false, false, false, false, false, false, false, false, false, false] rfl rfl (any_of HT_.out (by kernel_rfl)) (fun _ _ _ h => h) (Or.inr ⟨by rfl, rfl⟩) ?_ ?_
                  rotate_left
                  ·simp only [Act.put, sa_, s0_, s1_, i64_w, i32_w]
                   rfl
                  refine pure_ (i := 11) (N := some 121) (v := undef) (a' := ?_) #[true, true, true, true, true, true, true, true, true, true, true, true, false, false, false, false, false, false, false, false, false, false] rfl rfl (any_of HT_.out (by kernel_rfl)) (fun _ _ _ h => h) (Or.inr ⟨by rfl, rfl⟩) ?_ ?_
                  rotate_left
                  ·simp only [Act.put, sa_, s0_, s1_, i64_w, i32_w]
                   rfl
                  refine pure_ (i := 12) (N := some 122) (v := undef) (a' := ?_) #[true, true, true, true, true, true, true, true, true, true, true, true, true, false, false, false, false, false, false, false, false, false] rfl rfl (any_of HT_.out (by kernel_rfl)) (fun _ _ _ h => h) (Or.inr ⟨by rfl, rfl⟩) ?_ ?_
                  rotate_left
                  ·simp only [Act.put, sa_, s0_, s1_, i64_w, i32_w]
                   rfl
                  refine pure_ (i := 13) (N := some 123) (v := undef) (a' := ?_) #[true, true, true, true, true, true, true, true, true, true, true, true, true, true, false, false, false, false, false, false, false, false] rfl rfl (any_of HT_.out (by kernel_rfl)) (fun _ _ _ h => h) (Or.inr ⟨by rfl, rfl⟩) ?_ ?_
                  rotate_left
                  ·simp only [Act.put, sa_, s0_, s1_, i64_w, i32_w]
                   rfl
                  refine pure_ (i := 14) (N := some 124) (v := undef) (a' := ?_) #[true, true, true, true, true, true, true, true, true, true, true, true, true, true, true, false, false, false, false, false, false, false] rfl rfl (any_of HT_.out (by kernel_rfl)) (fun _ _ _ h => h) (Or.inr ⟨by rfl, rfl⟩) ?_ ?_
                  rotate_left
                  ·simp only [Act.put, sa_, s0_, s1_, i64_w, i32_w]
                   rfl
                  refine pure_ (i := 15) (N := some 125) (v := undef) (a' := ?_) #[true, true, true, true, true, true, true, true, true, true, true, true, true, true, true, true, false, false, false, false, false, false] rfl rfl (any_of HT_.out (by kernel_rfl)) (fun _ _ _ h => h) (Or.inr ⟨by rfl, rfl⟩) ?_ ?_
                  rotate_left
                  ·simp only [Act.put, sa_, s0_, s1_, i64_w, i32_w]
                   rfl
                  refine pure_ (i := 16) (N := some 126) (v := undef) (a' := ?_) #[true, true, true, true, true, true, true, true, true, true, true, true, true, true, true, true, true, false, false, false, false, false] rfl rfl (any_of HT_.out (by kernel_rfl)) (fun _ _ _ h => h) (Or.inr ⟨by rfl, rfl⟩) ?_ ?_
                  rotate_left
                  ·simp only [Act.put, sa_, s0_, s1_, i64_w, i32_w]
                   rfl
                  refine pure_ (i := 17) (N := some 127) (v := undef) (a' := ?_) #[true, true, true, true, true, true, true, true, true, true, true, true, true, true, true, true, true, true, false, false, false, false] rfl rfl (any_of HT_.out (by kernel_rfl)) (fun _ _ _ h => h) (Or.inr ⟨by rfl, rfl⟩) ?_ ?_
                  rotate_left
                  ·simp only [Act.put, sa_, s0_, s1_, i64_w, i32_w]
                   rfl
                  refine pure_ (i := 18) (N := some 128) (v := undef) (a' := ?_) #[true, true, true, true, true, true, true, true, true, true, true, true, true, true, true, true, true, true, true, false, false, false] rfl rfl (any_of HT_.out (by kernel_rfl)) (fun _ _ _ h => h) (Or.inr ⟨by rfl, rfl⟩) ?_ ?_
                  rotate_left
                  ·simp only [Act.put, sa_, s0_, s1_, i64_w, i32_w]
                   rfl
                  refine pure_ (i := 19) (N := some 129) (v := undef) (a' := ?_) #[true, true, true, true, true, true, true, true, true, true, true, true, true, true, true, true, true, true, true, true, false, false] rfl rfl (any_of HT_.out (by kernel_rfl)) (fun _ _ _ h => h) (Or.inr ⟨by rfl, rfl⟩) ?_ ?_
                  rotate_left
                  ·simp only [Act.put, sa_, s0_, s1_, i64_w, i32_w]
                   rfl
                  refine pure_ (i := 20) (N := some 130) (v := undef) (a' := ?_) #[true, true, true, true, true, true, true, true, true, true, true, true, true, true, true, true, true, true, true, true, true, false] rfl rfl (any_of HT_.out (by kernel_rfl)) (fun _ _ _ h => h) (Or.inr ⟨by rfl, rfl⟩) ?_ ?_
                  rotate_left
                  ·simp only [Act.put, sa_, s0_, s1_, i64_w, i32_w]
                   rfl
                  refine pure_ (i := 21) (N := some 131) (v := ?_) (a' := ?_) #[true, true, true, true, true, true, true, true, true, true, true, true, true, true, true, true, true, true, true, true, true, true] rfl rfl (any_of HT_.out (by kernel_rfl)) (fun _ _ _ h => h) (Or.inl ⟨by rfl, ?_⟩) ?_ ?_
                  rotate_left
                  ·intro w'
                   go_simp
                   with_reducible rfl
                  rotate_left
                  ·simp only [Act.put, sa_, s0_, s1_, i64_w, i32_w]
                   rfl
                  refine done_ (done_of HT_.out (by kernel_rfl)) ?_
                  try go_wp2
                  go_roundg k5
                  case measure => have := HJ2.out; have := HK2.out; have := HK3.out; have := HJ37.out; have := HK5.out; omega
                  case rel => exact ⟨(x6_5), (x7_5), (wrap64 (x12_5 + 1)), (by first | rfl | (simp; done) | (simp [*]; done)), (by first | rfl | (simp; done) | (simp [*]; done)), H', ⟨by have := HJ2.out; have := HK2.out; have := HK3.out; have := HJ37.out; have := HK5.out; omega⟩, ⟨by (with_reducible repeat (first | apply Kd.R_alloc | apply Kd.R_drewN | apply Kd.R_drew)); exact HO_6.out⟩, BK257, ⟨by repeat (first | (with_reducible first | exact HB.out | apply below_alloc | apply pw_below_drewN | apply below_drew1 | refine below_set ?_ (Aside0.out (by assumption))) | exact HB.out)⟩⟩
                ·rw [if_neg c44] at H
                 exact absurd H (by simp)
               ·rw [if_neg c43] at H
                have c43b0 : decide (x12_5 < (l0.length : Int)) = false := decide_eq_false c43
                clear c43
                have H' := Aside0.mk H
                clear H
                go_wp2
                go_roundg k5
                case measure => have := HJ2.out; have := HK2.out; have := HK3.out; have := HJ37.out; have := HK5.out; omega
                case rel => exact ⟨(x6_5), (x7_5), (wrap64 (x11_3 + 1)), (by first | rfl | (simp; done) | (simp [*]; done)), (by first | rfl | (simp; done) | (simp [*]; done)), H', ⟨by have := HJ2.out; have := HK2.out; have := HK3.out; have := HJ37.out; have := HK5.out; omega⟩, ⟨by (with_reducible repeat (first | apply Kd.R_alloc | apply Kd.R_drewN | apply Kd.R_drew)); exact HO_6.out⟩, BK257, ⟨by repeat (first | (with_reducible first | exact HB.out | apply below_alloc | apply pw_below_drewN | apply below_drew1 | refine below_set ?_ (Aside0.out (by assumption))) | exact HB.out)⟩⟩
            ·replace c42 := Bool.eq_false_iff.mpr c42
             subst c42
             have H1 : (some (x6_3, 0)) = some (r1, r2) := by rw [if_neg (show ¬ (false = true) by decide)] at H; exact H
             clear H
             have H := H1
             clear H1
             simp only [Option.some.injEq, Prod.mk.injEq] at H
             obtain ⟨rfl, rfl⟩ := H
             go_wp2
             go_ret2
             exact ⟨_, by first | rfl | (simp [errW_none, errW_some] <;> rfl) | (simp [*, errW_none, errW_some] <;> rfl), by (with_reducible repeat (first | apply Kd.R_alloc | apply Kd.R_drewN | apply Kd.R_drew)); exact HO_6.out, by repeat (first | (with_reducible first | exact HB.out | apply below_alloc | apply pw_below_drewN | apply below_drew1 | refine below_set ?_ (Aside0.out (by assumption))) | exact HB.out)⟩

end Go.Proofs.Ytiaiecfnpompcaa.T
namespace Go.Proofs.Ytiaiecfnpompcaa.T
open Go.RowKit Go.Proofs.YtiaiecfnpompcaaW.PrintWords Go.Proofs.YtiaiecfnpompcaaW.PrintLast Go.Proofs.YtiaiecfnpompcaaW.PrintMore
attribute [local go_sem] max2_int min2_int max_two min_two max_three min_three max_four min_four   -- for this text's walks alone
set_option linter.unusedVariables false
set_option linter.unusedSimpArgs false
attribute [local go_sem] wl_100001

def acmeref12_Lots.l0 : Nat → List (S144) → List (S58) → List (List (S79)) → Int → Option ((List (List (S79))) × Int)
 | 0, _, _, _, _ => none
 | k + 1, x0, x1, x6, x7 => if x7 < (x1.length : Int) then (if 0 ≤ x7 then ((acmeref12_Causes.f k x0 ((rd_T58 x1 x7).f0) ((rd_T58 x1 x7).f1) ((rd_T58 x1 x7).f2)).bind fun bt247 => (if bt247.2 = 0 then (if x6.length < 5864062014805 then (acmeref12_Lots.l0 k x0 x1 (x6 ++ [bt247.1]) (wrap64 (x7 + 1))) else (none)) else (some (([] : List (List (S79))), bt247.2)))) else (none)) else (some (x6, 0))
def acmeref12_Lots.f (k : Nat) (l0 : List (S144)) (l1 : List (S58)) : Option ((List (List (S79))) × Int) := acmeref12_Lots.l0 k l0 l1 (([] : List (List (S79)))) 0
set_option maxHeartbeats 8000000 in
set_option maxRecDepth 100000 in
theorem acmeref12_Lots.calls (k : Nat) (A0 : Option Addr) (c0 : Nat) (l0 : List (S144)) (A1 : Option Addr) (c1 : Nat) (l1 : List (S58)) (r1 : List (List (S79))) (r2 : Int) (w : World) (hr0 : Kd.C k144 w A0 l0.length l0) (hc0 : l0.length ≤ c0) (hr1 : Kd.C k58 w A1 l1.length l1) (hc1 : l1.length ≤ c1) (h : acmeref12_Lots.f k l0 l1 = some (r1, r2)) :
  Calls Try.prog 46 #[.slice A0 l0.length c0, .slice A1 l1.length c1] w fun e w' => ∃ v0_ : Value, e = .returned (.tuple #[v0_, .int .i64 r2]) ∧ Kd.S (Kd.slice 79 k79) 62 w' w.heap.size (fun _ => True) v0_ r1 ∧ Below w.heap.size w w' := by
 have hu58 := Try.underlying58
 have HR0 := Aside0.mk hr0
 have HC0 := Aside0.mk hc0
 clear hr0 hc0
 have HR1 := Aside0.mk hr1
 have HC1 := Aside0.mk hc1
 clear hr1 hc1
 have HB := Aside0.mk (Below.refl w.heap.size w)
 have H : (acmeref12_Lots.l0 k l0 l1 (([] : List (List (S79)))) 0) = some (r1, r2) := h
 clear h
 obtain ⟨y243, hy243⟩ : ∃ y_ : List (List (S79)), y_ = (([] : List (List (S79)))) := ⟨_, rfl⟩
 replace H : (acmeref12_Lots.l0 k l0 l1 y243 0) = some (r1, r2) := by first | (rw [hy243]; with_reducible exact H) | (have H2_ := (Option.bind_some _ _).symm.trans H; rw [hy243]; with_reducible exact H2_) | (have H2_ := (Option.bind_some _ _).symm.trans H; with_reducible exact H2_) | with_reducible exact H | (rw [hy243]; exact H) | exact H
 have Ny243 := Aside0.mk hy243
 clear hy243
 have H' := Aside0.mk H
 clear H
 go_enter Try.func46, Try.ntmps46
 go_wp2_with (first | ((with_reducible refine gate_dst (N := 10) rfl ?_); refine Kd.S_lit (Kd.slice 79 k79) _ 62 ?hg (N := 10) ?hd (xs := ([] : List (List (S79)))) (inner := []) (ok := fun _ => True) (okp := fun _ => True) ?hr ?hp (fun _ hk => hk) trivial (Below.refl _ _) (Nat.le_refl _) (by simp) ?_; (case hd => rfl); (case hg => rfl); (case hr => first | (go_simp; done) | (go_simp; rfl)); (case hp => exact (Reps.none _ _)); intro v244 w3 ho4 hb hg_ hnew_; clear hg_ hnew_; (first | rw [← Ny243.out] at ho4 | (simp only [Int.reduceToNat] at ho4; rw [← Ny243.out] at ho4)); have HO245 := Aside0.mk (Kd.S_lower ho4 (below_size HB.out)); replace HB := Aside0.mk (below_step HB.out hb); clear hb ho4))
 go_loopg [6, 7] k (fun kq v6 v7 w' => ∃ (x6_1 : List (List (S79))) (x7_1 : Int), v7 = .int .i64 x7_1 ∧ Aside0 (acmeref12_Lots.l0 kq l0 l1 x6_1 x7_1 = some (r1, r2)) ∧ Aside0 (kq ≤ k) ∧ Aside0 (Kd.S (Kd.slice 79 k79) 62 w' w.heap.size (fun _ => True) v6 x6_1) ∧ Aside0 (Below w.heap.size w w'))
 case atStart => exact ⟨(y243), (0), (by first | rfl | (simp; done) | (simp [*]; done)), H', ⟨Nat.le_refl _⟩, ⟨by (with_reducible repeat (first | apply Kd.S_alloc | apply Kd.S_drewN | apply Kd.S_drew)); exact HO245.out⟩, ⟨by repeat (first | (with_reducible first | exact HB.out | apply below_alloc | apply pw_below_drewN | apply below_drew1) | exact HB.out)⟩⟩
 case round => as_aux_lemma =>
  clear H'
  try clear c1; try clear p2; try clear c4
  obtain ⟨x6_1, x7_1, rfl, HA, HK1, HO_6, HB⟩ := hrel
  cases gk with
  | zero => exact absurd HA.out (by simp [acmeref12_Lots.l0])
  | succ k1 =>
   have H := HA.out
   clear HA
   simp only [acmeref12_Lots.l0] at H
   by_cases c5 : x7_1 < (l1.length : Int)
   ·rw [if_pos c5] at H
    have c5b0 : decide (x7_1 < (l1.length : Int)) = true := decide_eq_true c5
    clear c5
    by_cases c6 : 0 ≤ x7_1
    ·rw [if_pos c6] at H
     have c6b0 : decide (0 ≤ x7_1) = true := decide_eq_true c6
     clear c6
     replace H := Option.bind_eq_some_iff.mp H
     obtain ⟨⟨t247, t250⟩, A70, H⟩ := H; (try dsimp only at H)
     have A7 := Aside0.mk A70
     clear A70
     by_cases c8 : t250 = 0
     ·rw [if_pos c8] at H
      have c8b0 : (t250 == 0) = true := beq_iff_eq.mpr c8
      have c8b1 : (t250 != 0) = false := bne_eq_false_iff_eq.mpr c8
      clear c8
      by_cases c9 : x6_1.length < 5864062014805
      ·rw [if_pos c9] at H
       have LMc9 := Aside0.mk c9
       clear c9
       obtain ⟨y251, hy251⟩ : ∃ y_ : List (List (S79)), y_ = (x6_1 ++ [t247]) := ⟨_, rfl⟩
       replace H : (acmeref12_Lots.l0 k1 l0 l1 y251 (wrap64 (x7_1 + 1))) = some (r1, r2) := by first | (rw [hy251]; with_reducible exact H) | (have H2_ := (Option.bind_some _ _).symm.trans H; rw [hy251]; with_reducible exact H2_) | (have H2_ := (Option.bind_some _ _).symm.trans H; with_reducible exact H2_) | with_reducible exact H | (rw [hy251]; exact H) | exact H
       have Ny251 := Aside0.mk hy251
       clear hy251
       have H' := Aside0.mk H
       clear H
       have p246 : 0 ≤ (x7_1 : Int) := of_decide_eq_true ‹_›
       have q246 : x7_1 < (l1.length : Int) := of_decide_eq_true ‹_›
       obtain ⟨ad246, e246, hx246_0, hx246_1, hx246_2⟩ := at_T58 HR1.out x7_1 p246 q246
       cases e246
       replace hx246_0 := bl_ HB hx246_0
       replace hx246_1 := bl_ HB hx246_1
       replace hx246_2 := bl_ HB hx246_2
       replace p246 := eq_true p246
       replace q246 := eq_true q246
       go_wp2_with (first | ((with_reducible refine gate_callee (f := 36) rfl ?_); refine goesL_ (some 23) rfl rfl Try.func36 (by kernel_rfl) rfl #[.slice A0 l0.length c0, .agg #[.int .i64 ((rd_T58 l1 x7_1).f0), .int .i64 ((rd_T58 l1 x7_1).f1), .int .i64 ((rd_T58 l1 x7_1).f2)]] rfl (by (try simp only [List.map_toArray, List.map_cons, List.map_nil]); first | done | rfl | (simp only [List.length_drop, List.length_take]; rfl)) ?_; (with_reducible refine (acmeref12_Causes.calls k1 _ _ l0 ((rd_T58 l1 x7_1).f0) ((rd_T58 l1 x7_1).f1) ((rd_T58 l1 x7_1).f2) t247 t250 _ ?side1 ?side2 A7.out).mono ?_); (case side1 => repeat (first | exact (Kd.C_below HR0.out HB.out) | (with_reducible refine Kd.C_alloc ?_ _) | (with_reducible refine Kd.C_drewN ?_ _) | (with_reducible refine Kd.C_drew ?_))); (case side2 => exact HC0.out); rintro e w10 ⟨v248, rfl, ho0, hb⟩; refine ⟨_, rfl, ?_⟩; replace HO_6 := Aside0.mk (Kd.S_elder' (by (with_reducible repeat (first | apply Kd.S_alloc | apply Kd.S_drewN | apply Kd.S_drew)); exact HO_6.out) (Kd.R_base ho0) hb); have HO249 := Aside0.mk (Kd.R_lower ho0 (below_size HB.out)); replace HB := Aside0.mk (below_step HB.out hb); (try clear hb); (try clear hb2); (try clear hk); (try clear hi); (try clear ho0); obtain ⟨Ao12, co12, eo12⟩ := Kd.R_slice HO249.out; subst eo12) | ((with_reducible refine gate_builtin (b := .append) (xs := #[.tmp 29, .tmp 31]) rfl ?_); at_builtin; refine Kd.S_append (Kd.slice 79 k79) (w0 := w) w.heap.size rfl (.tmp 29) (.tmp 31) 84 62 (.slice none 0 0) 24 rfl Try.underlying84 info62 rfl (by decide) (by omega) u6 x6_1 t247 [.slice Ao12 t247.length co12] (fun _ => True) (fun k_ => some k_ = (.slice Ao12 t247.length co12 : Value).ownBlock) rfl rfl ?aP (fun k_ hk_ => ((Kd.R_mono (ok' := fun k_ => ((fun _ => True)) k_ ∧ some k_ ≠ (u6 : Value).ownBlock) (Kd.R_apart' (HO249.out) (Kd.S_typed HO_6.out) (by decide)) (fun k_ hk => ⟨trivial, hk.2⟩))).1 k_ hk_.symm) ?aF ?aO ?aB ?aS ?aL ?_; (case aP => exact Kd.M_row (Kd.R_mono (Kd.R_tight rfl (Kd.R_mono (ok' := fun k_ => ((fun _ => True)) k_ ∧ some k_ ≠ (u6 : Value).ownBlock) (Kd.R_apart' (HO249.out) (Kd.S_typed HO_6.out) (by decide)) (fun k_ hk => ⟨trivial, hk.2⟩))) (fun _ h_ => h_))); (case aB => exact HB.out); (case aF => exact (fun _ _ => trivial)); (case aO => exact (by (with_reducible repeat (first | apply Kd.S_alloc | apply Kd.S_drewN | apply Kd.S_drew)); exact Kd.S_mono HO_6.out (fun k_ hk => ⟨trivial, fun e_ => hk.2 e_⟩))); (case aS => exact (below_size HB.out)); (case aL => have := LMc9.out; omega); intro v252 w11 ho hb hg hat; rw [← Ny251.out] at ho; replace HB := Aside0.mk (hb); have HO253 := Aside0.mk (ho); clear HO_6 HO249; clear ho hb hg hat))
       go_roundg k1
       case measure => have := HK1.out; omega
       case rel => exact ⟨(y251), (wrap64 (x7_1 + 1)), (by first | rfl | (simp; done) | (simp [*]; done)), H', ⟨by have := HK1.out; omega⟩, ⟨by (with_reducible repeat (first | apply Kd.S_alloc | apply Kd.S_drewN | apply Kd.S_drew)); exact HO253.out⟩, ⟨by repeat (first | (with_reducible first | exact HB.out | apply below_alloc | apply pw_below_drewN | apply below_drew1) | exact HB.out)⟩⟩
      ·rw [if_neg c9] at H
       exact absurd H (by simp)
     ·rw [if_neg c8] at H
      have c8b0 : (t250 == 0) = false := beq_eq_false_iff_ne.mpr c8
      have c8b1 : (t250 != 0) = true := bne_iff_ne.mpr c8
      simp only [Option.some.injEq, Prod.mk.injEq] at H
      obtain ⟨rfl, rfl⟩ := H
      have p246 : 0 ≤ (x7_1 : Int) := of_decide_eq_true ‹_›
      have q246 : x7_1 < (l1.length : Int) := of_decide_eq_true ‹_›
      obtain ⟨ad246, e246, hx246_0, hx246_1, hx246_2⟩ := at_T58 HR1.out x7_1 p246 q246
      cases e246
      replace hx246_0 := bl_ HB hx246_0
      replace hx246_1 := bl_ HB hx246_1
      replace hx246_2 := bl_ HB hx246_2
      replace p246 := eq_true p246
      replace q246 := eq_true q246
      go_wp2_with (first | ((with_reducible refine gate_callee (f := 36) rfl ?_); refine goesL_ (some 23) rfl rfl Try.func36 (by kernel_rfl) rfl #[.slice A0 l0.length c0, .agg #[.int .i64 ((rd_T58 l1 x7_1).f0), .int .i64 ((rd_T58 l1 x7_1).f1), .int .i64 ((rd_T58 l1 x7_1).f2)]] rfl (by (try simp only [List.map_toArray, List.map_cons, List.map_nil]); first | done | rfl | (simp only [List.length_drop, List.length_take]; rfl)) ?_; (with_reducible refine (acmeref12_Causes.calls k1 _ _ l0 ((rd_T58 l1 x7_1).f0) ((rd_T58 l1 x7_1).f1) ((rd_T58 l1 x7_1).f2) t247 t250 _ ?side1 ?side2 A7.out).mono ?_); (case side1 => repeat (first | exact (Kd.C_below HR0.out HB.out) | (with_reducible refine Kd.C_alloc ?_ _) | (with_reducible refine Kd.C_drewN ?_ _) | (with_reducible refine Kd.C_drew ?_))); (case side2 => exact HC0.out); rintro e w13 ⟨v248, rfl, ho0, hb⟩; refine ⟨_, rfl, ?_⟩; replace HO_6 := Aside0.mk (Kd.S_elder' (by (with_reducible repeat (first | apply Kd.S_alloc | apply Kd.S_drewN | apply Kd.S_drew)); exact HO_6.out) (Kd.R_base ho0) hb); have HO249 := Aside0.mk (Kd.R_lower ho0 (below_size HB.out)); replace HB := Aside0.mk (below_step HB.out hb); (try clear hb); (try clear hb2); (try clear hk); (try clear hi); (try clear ho0)))
      go_ret2
      exact ⟨_, by first | rfl | (simp [errW_none, errW_some] <;> rfl) | (simp [*, errW_none, errW_some] <;> rfl), by first | exact Kd.S_nil _ _ _ _ _ | exact Kd.N_nil _ _ _ _ _ | exact Kd.V_nil _ _ _ _ _ | exact Kd.Q_nil _ _ _ _ _ | exact Kd.R_nil _ _ _ _ _, by repeat (first | (with_reducible first | exact HB.out | apply below_alloc | apply pw_below_drewN | apply below_drew1) | exact HB.out)⟩
    ·rw [if_neg c6] at H
     exact absurd H (by simp)
   ·rw [if_neg c5] at H
    have c5b0 : decide (x7_1 < (l1.length : Int)) = false := decide_eq_false c5
    clear c5
    simp only [Option.some.injEq, Prod.mk.injEq] at H
    obtain ⟨rfl, rfl⟩ := H
    go_wp2
    go_ret2
    exact ⟨_, by first | rfl | (simp [errW_none, errW_some] <;> rfl) | (simp [*, errW_none, errW_some] <;> rfl), by (with_reducible repeat (first | apply Kd.S_alloc | apply Kd.S_drewN | apply Kd.S_drew)); exact HO_6.out, by repeat (first | (with_reducible first | exact HB.out | apply below_alloc | apply pw_below_drewN | apply below_drew1) | exact HB.out)⟩

end Go.Proofs.Ytiaiecfnpompcaa.T
namespace Go.Proofs.Ytiaiecfnpompcaa.T
open Go.RowKit Go.Proofs.YtiaiecfnpompcaaW.PrintWords Go.Proofs.YtiaiecfnpompcaaW.PrintLast Go.Proofs.YtiaiecfnpompcaaW.PrintMore
attribute [local go_sem] max2_int min2_int max_two min_two max_three min_three max_four min_four   -- for this text's walks alone
set_option linter.unusedVariables false
set_option linter.unusedSimpArgs false
attribute [local go_sem] wl_100001

attribute [local go_sem high] eqA79
def acmeref12_Caused.l0 : Nat → List (S79) → Int → Int → Int → Int → Option (Bool)
 | 0, _, _, _, _, _ => none
 | k + 1, x0, x5, x255000, x255001, x255002 => if x5 < (x0.length : Int) then (if 0 ≤ x5 then (if (((rd_T79 x0 x5).f0) == x255000 && (((rd_T79 x0 x5).f1) == x255001 && (((rd_T79 x0 x5).f2) == x255002))) = true then (some true) else (acmeref12_Caused.l0 k x0 (wrap64 (x5 + 1)) x255000 x255001 x255002)) else (none)) else (some false)
def acmeref12_Caused.f (k : Nat) (l0 : List (S79)) (a1_0 : Int) (a1_1 : Int) (a1_2 : Int) : Option (Bool) := acmeref12_Caused.l0 k l0 0 a1_0 a1_1 a1_2
set_option maxHeartbeats 8000000 in
set_option maxRecDepth 100000 in
theorem acmeref12_Caused.calls (k : Nat) (A0 : Option Addr) (c0 : Nat) (l0 : List (S79)) (a1_0 : Int) (a1_1 : Int) (a1_2 : Int) (r : Bool) (w : World) (hr0 : Kd.C k79 w A0 l0.length l0) (hc0 : l0.length ≤ c0) (h : acmeref12_Caused.f k l0 a1_0 a1_1 a1_2 = some r) :
  Calls Try.prog 47 #[.slice A0 l0.length c0, .agg #[.int .i64 a1_0, .int .i64 a1_1, .int .i64 a1_2]] w fun e w' => e = .returned (.bool r) ∧ Below w.heap.size w w' := by
 have hu79 := Try.underlying79
 have HR0 := Aside0.mk hr0
 have HC0 := Aside0.mk hc0
 clear hr0 hc0
 have HB := Aside0.mk (Below.refl w.heap.size w)
 have H : (acmeref12_Caused.l0 k l0 0 a1_0 a1_1 a1_2) = some r := h
 clear h
 have H' := Aside0.mk H
 clear H
 go_enter Try.func47, Try.ntmps47
 go_wp2_with (first | ((with_reducible refine gate_dst (N := 3) rfl ?_); refine box_event ?hg (N := 3) ?hd (cs := #[.int .i64 a1_0, .int .i64 a1_1, .int .i64 a1_2]) (t := 79) ?hr ?_; (case hd => rfl); (case hg => rfl); (case hr => first | (go_simp; done) | (go_simp; rfl)); intro gb254 hg w3 hbox hb; have BK254 := Aside0.mk (hbox); have GW254 := Aside0.mk ((by rw [hg]; exact (below_size HB.out) : w.heap.size ≤ gb254)); have GE254 := GW254; replace HB := Aside0.mk (below_step HB.out hb); clear hb hbox hg))
 repeat (go_quiet (first | ((with_reducible refine gate_dst (N := 3) rfl ?_); refine box_event ?hg (N := 3) ?hd (cs := #[.int .i64 a1_0, .int .i64 a1_1, .int .i64 a1_2]) (t := 79) ?hr ?_; (case hd => rfl); (case hg => rfl); (case hr => first | (go_simp; done) | (go_simp; rfl)); intro gb254 hg w3 hbox hb; have BK254 := Aside0.mk (hbox); have GW254 := Aside0.mk ((by rw [hg]; exact (below_size HB.out) : w.heap.size ≤ gb254)); have GE254 := GW254; replace HB := Aside0.mk (below_step HB.out hb); clear hb hbox hg)); try go_wp2_with (first | ((with_reducible refine gate_dst (N := 3) rfl ?_); refine box_event ?hg (N := 3) ?hd (cs := #[.int .i64 a1_0, .int .i64 a1_1, .int .i64 a1_2]) (t := 79) ?hr ?_; (case hd => rfl); (case hg => rfl); (case hr => first | (go_simp; done) | (go_simp; rfl)); intro gb254 hg w3 hbox hb; have BK254 := Aside0.mk (hbox); have GW254 := Aside0.mk ((by rw [hg]; exact (below_size HB.out) : w.heap.size ≤ gb254)); have GE254 := GW254; replace HB := Aside0.mk (below_step HB.out hb); clear hb hbox hg)))
 go_loopg [5] k (fun kq v5 w' => ∃ (x5_1 : Int), v5 = .int .i64 x5_1 ∧ Aside0 (acmeref12_Caused.l0 kq l0 x5_1 a1_0 a1_1 a1_2 = some r) ∧ Aside0 (kq ≤ k) ∧ Aside0 (w'.heap[gb254]? = some (.cells #[.int .i64 a1_0, .int .i64 a1_1, .int .i64 a1_2] 79 (0, 0))) ∧ Aside0 (Below w.heap.size w w'))
 case atStart => exact ⟨(0), (by first | rfl | (simp; done) | (simp [*]; done)), H', ⟨Nat.le_refl _⟩, BK254, ⟨by repeat (first | (with_reducible first | exact HB.out | apply below_alloc | apply pw_below_drewN | apply below_drew1 | refine below_set ?_ (Aside0.out (by assumption))) | exact HB.out)⟩⟩
 case round => as_aux_lemma =>
  clear H'
  try clear p2
  obtain ⟨x5_1, rfl, HA, HK1, BK254, HB⟩ := hrel
  cases gk with
  | zero => exact absurd HA.out (by simp [acmeref12_Caused.l0])
  | succ k1 =>
   have H := HA.out
   clear HA
   simp only [acmeref12_Caused.l0] at H
   by_cases c4 : x5_1 < (l0.length : Int)
   ·rw [if_pos c4] at H
    have c4b0 : decide (x5_1 < (l0.length : Int)) = true := decide_eq_true c4
    clear c4
    by_cases c5 : 0 ≤ x5_1
    ·rw [if_pos c5] at H
     have c5b0 : decide (0 ≤ x5_1) = true := decide_eq_true c5
     clear c5
     by_cases c6 : (((rd_T79 l0 x5_1).f0) == a1_0 && (((rd_T79 l0 x5_1).f1) == a1_1 && (((rd_T79 l0 x5_1).f2) == a1_2))) = true
     ·rw [if_pos c6] at H
      have c6b0 : (((rd_T79 l0 x5_1).f0) == a1_0 && (((rd_T79 l0 x5_1).f1) == a1_1 && (((rd_T79 l0 x5_1).f2) == a1_2))) = true := c6
      (try (have c6b1 : decide (((rd_T79 l0 x5_1).f0) = a1_0 && (((rd_T79 l0 x5_1).f1) == a1_1 && (((rd_T79 l0 x5_1).f2) == a1_2))) = true := by simpa using c6))
      (try (have c6b2 : (((rd_T79 l0 x5_1).f0) == a1_0 && (((rd_T79 l0 x5_1).f1) == a1_1 && (((rd_T79 l0 x5_1).f2) == a1_2))) = true := by simpa using c6))
      clear c6
      obtain rfl := Option.some.inj H
      have p255 : 0 ≤ (x5_1 : Int) := of_decide_eq_true ‹_›
      have q255 : x5_1 < (l0.length : Int) := of_decide_eq_true ‹_›
      obtain ⟨ad255, e255, hx255_0, hx255_1, hx255_2⟩ := at_T79 HR0.out x5_1 p255 q255
      cases e255
      replace hx255_0 := bl_ HB hx255_0
      replace hx255_1 := bl_ HB hx255_1
      replace hx255_2 := bl_ HB hx255_2
      replace p255 := eq_true p255
      replace q255 := eq_true q255
      obtain ⟨hcz7_0, hcz7_1, hcz7_2⟩ := bc3 BK254.out
      obtain ⟨hfz7_0, hfz7_1, hfz7_2⟩ := bf3 BK254.out
      go_wp2
      repeat (go_quiet (fail); try go_wp2)
      go_ret
      exact ⟨by first | rfl | (simp [errW_none, errW_some] <;> rfl) | (simp [*, errW_none, errW_some] <;> rfl), by repeat (first | (with_reducible first | exact HB.out | apply below_alloc | apply pw_below_drewN | apply below_drew1 | refine below_set ?_ (Aside0.out (by assumption))) | exact HB.out)⟩
     ·rw [if_neg c6] at H
      have c6b0 : (((rd_T79 l0 x5_1).f0) == a1_0 && (((rd_T79 l0 x5_1).f1) == a1_1 && (((rd_T79 l0 x5_1).f2) == a1_2))) = false := by simpa using c6
      (try (have c6b1 : decide (((rd_T79 l0 x5_1).f0) = a1_0 && (((rd_T79 l0 x5_1).f1) == a1_1 && (((rd_T79 l0 x5_1).f2) == a1_2))) = false := by simpa using c6))
      (try (have c6b2 : (((rd_T79 l0 x5_1).f0) == a1_0 && (((rd_T79 l0 x5_1).f1) == a1_1 && (((rd_T79 l0 x5_1).f2) == a1_2))) = false := by simpa using c6))
      (try (have c6b3 : ¬ (((rd_T79 l0 x5_1).f0) = a1_0 && (((rd_T79 l0 x5_1).f1) == a1_1 && (((rd_T79 l0 x5_1).f2) == a1_2))) := by simpa using c6))
      clear c6
      have H' := Aside0.mk H
      clear H
      have p255 : 0 ≤ (x5_1 : Int) := of_decide_eq_true ‹_›
      have q255 : x5_1 < (l0.length : Int) := of_decide_eq_true ‹_›
      obtain ⟨ad255, e255, hx255_0, hx255_1, hx255_2⟩ := at_T79 HR0.out x5_1 p255 q255
      cases e255
      replace hx255_0 := bl_ HB hx255_0
      replace hx255_1 := bl_ HB hx255_1
      replace hx255_2 := bl_ HB hx255_2
      replace p255 := eq_true p255
      replace q255 := eq_true q255
      obtain ⟨hcz8_0, hcz8_1, hcz8_2⟩ := bc3 BK254.out
      obtain ⟨hfz8_0, hfz8_1, hfz8_2⟩ := bf3 BK254.out
      go_wp2
      repeat (go_quiet (fail); try go_wp2)
      go_roundg k1
      case measure => have := HK1.out; omega
      case rel => exact ⟨(wrap64 (x5_1 + 1)), (by first | rfl | (simp; done) | (simp [*]; done)), H', ⟨by have := HK1.out; omega⟩, BK254, ⟨by repeat (first | (with_reducible first | exact HB.out | apply below_alloc | apply pw_below_drewN | apply below_drew1 | refine below_set ?_ (Aside0.out (by assumption))) | exact HB.out)⟩⟩
    ·rw [if_neg c5] at H
     exact absurd H (by simp)
   ·rw [if_neg c4] at H
    have c4b0 : decide (x5_1 < (l0.length : Int)) = false := decide_eq_false c4
    clear c4
    obtain rfl := Option.some.inj H
    go_wp2
    repeat (go_quiet (fail); try go_wp2)
    go_ret
    exact ⟨by first | rfl | (simp [errW_none, errW_some] <;> rfl) | (simp [*, errW_none, errW_some] <;> rfl), by repeat (first | (with_reducible first | exact HB.out | apply below_alloc | apply pw_below_drewN | apply below_drew1 | refine below_set ?_ (Aside0.out (by assumption))) | exact HB.out)⟩

end Go.Proofs.Ytiaiecfnpompcaa.T
