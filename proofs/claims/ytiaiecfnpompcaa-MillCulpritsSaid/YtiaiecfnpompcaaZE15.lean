-- cut down, squeezed and laid together by pack.py (a program of this repository) out of this seat's texts
import Derived.ChangeKeysEq
import Derived.Test.YtiaiecfnpompcaaZE13
import Derived.Test.YtiaiecfnpompcaaZE2
import Derived.Test.YtiaiecfnpompcaaZE14
import Derived.Test.YtiaiecfnpompcaaZE3
import Derived.Test.YtiaiecfnpompcaaZE9
import Derived.Test.YtiaiecfnpompcaaZE4
import Derived.Test.YtiaiecfnpompcaaZE12
import Derived.Test.YtiaiecfnpompcaaZE8
import Derived.Test.YtiaiecfnpompcaaZE6
import Derived.Test.YtiaiecfnpompcaaZE7
import Derived.Test.YtiaiecfnpompcaaZE11
import Derived.Test.YtiaiecfnpompcaaZE5
import Derived.Test.YtiaiecfnpompcaaZE10
import Derived.Test.YtiaiecfnpompcaaZE1
namespace Go.Proofs.Ytiaiecfnpompcaa.T
open Go.RowKit Go.Proofs.YtiaiecfnpompcaaW.PrintWords Go.Proofs.YtiaiecfnpompcaaW.PrintLast Go.Proofs.YtiaiecfnpompcaaW.PrintMore
attribute [local go_sem] max2_int min2_int max_two min_two max_three min_three max_four min_four   -- for this text's walks alone
set_option linter.unusedVariables false
set_option linter.unusedSimpArgs false
attribute [local go_sem] wl_100001

mutual
def acmeref12_Culprits.j0 : Nat → List (S144) → List (S58) → List (S58) → Bool → Option ((List (S79)) × Int)
 | 0, _, _, _, _ => none
 | k + 1, x0, x1, x2, x29 => if x29 = true then (some (([] : List (S79)), 5)) else (if (x1.length : Int) = 0 then (some (([] : List (S79)), 7)) else ((acmeref12_Lots.f k x0 x1).bind fun bt257 => (if bt257.2 = 0 then ((acmeref12_Lots.f k x0 x2).bind fun bt261 => (if bt261.2 = 0 then (acmeref12_Culprits.l0 k bt257.1 bt261.1 (([] : List (S79))) 0) else (some (([] : List (S79)), bt261.2)))) else (some (([] : List (S79)), bt257.2)))))
def acmeref12_Culprits.l0 : Nat → List (List (S79)) → List (List (S79)) → List (S79) → Int → Option ((List (S79)) × Int)
 | 0, _, _, _, _ => none
 | k + 1, x9, x11, x12, x13 => if 0 < (x9.length : Int) then (if x13 < ((rd_L8 x9 0).length : Int) then (acmeref12_Culprits.l1 k x9 x11 x12 x13 true 0) else (some (x12, 0))) else (none)
def acmeref12_Culprits.l1 : Nat → List (List (S79)) → List (List (S79)) → List (S79) → Int → Bool → Int → Option ((List (S79)) × Int)
 | 0, _, _, _, _, _, _ => none
 | k + 1, x9, x11, x12, x13, x14, x15 => if x15 < (x9.length : Int) then (if x14 = true then (if 0 ≤ x15 then (if 0 < (x9.length : Int) then (if 0 ≤ x13 then (if x13 < ((rd_L8 x9 0).length : Int) then ((acmeref12_Caused.f k (rd_L8 x9 x15) ((rd_T79 (rd_L8 x9 0) x13).f0) ((rd_T79 (rd_L8 x9 0) x13).f1) ((rd_T79 (rd_L8 x9 0) x13).f2)).bind fun t272 => (acmeref12_Culprits.l1 k x9 x11 x12 x13 t272 (wrap64 (x15 + 1)))) else (none)) else (none)) else (none)) else (none)) else (acmeref12_Culprits.l1 k x9 x11 x12 x13 false (wrap64 (x15 + 1)))) else (acmeref12_Culprits.l2 k x9 x11 x12 x13 x14 0)
def acmeref12_Culprits.l2 : Nat → List (List (S79)) → List (List (S79)) → List (S79) → Int → Bool → Int → Option ((List (S79)) × Int)
 | 0, _, _, _, _, _, _ => none
 | k + 1, x9, x11, x12, x13, x14, x16 => if x16 < (x11.length : Int) then (if x14 = true then (if 0 ≤ x16 then (if 0 < (x9.length : Int) then (if 0 ≤ x13 then (if x13 < ((rd_L8 x9 0).length : Int) then ((acmeref12_Caused.f k (rd_L8 x11 x16) ((rd_T79 (rd_L8 x9 0) x13).f0) ((rd_T79 (rd_L8 x9 0) x13).f1) ((rd_T79 (rd_L8 x9 0) x13).f2)).bind fun t276 => (acmeref12_Culprits.l2 k x9 x11 x12 x13 (!t276) (wrap64 (x16 + 1)))) else (none)) else (none)) else (none)) else (none)) else (acmeref12_Culprits.l2 k x9 x11 x12 x13 false (wrap64 (x16 + 1)))) else (if x14 = true then (if 0 < (x9.length : Int) then (if 0 ≤ x13 then (if x13 < ((rd_L8 x9 0).length : Int) then (if x12.length < 5864062014805 then (acmeref12_Culprits.l0 k x9 x11 (x12 ++ [(⟨(rd_T79 (rd_L8 x9 0) x13).f0, (rd_T79 (rd_L8 x9 0) x13).f1, (rd_T79 (rd_L8 x9 0) x13).f2⟩ : S79)]) (wrap64 (x13 + 1))) else (none)) else (none)) else (none)) else (none)) else (acmeref12_Culprits.l0 k x9 x11 x12 (wrap64 (x13 + 1))))
end
def acmeref12_Culprits.f (k : Nat) (l0 : List (S144)) (l1 : List (S58)) (l2 : List (S58)) : Option ((List (S79)) × Int) := (acmeref12_Check.f k l0).bind fun t256 => (if t256 = 0 then (if (l1.length : Int) > 40 then (acmeref12_Culprits.j0 k l0 l1 l2 true) else (acmeref12_Culprits.j0 k l0 l1 l2 (decide ((l2.length : Int) > 40)))) else (some (([] : List (S79)), t256)))
def acmeref12_Culprits.T22 : Bool × List (List Nat × List Nat) := (true, [([], []), ([0], [0]), ([1], [1]), ([1], [1]), ([2, 3, 1], [1, 2, 3]), ([4, 1], [1, 4]), ([1], [1]), ([6, 1], [1, 6]), ([7, 1], [1, 7]), ([1], [1]), ([8, 9, 1], [1, 8, 9]), ([10, 1], [1, 10]), ([5, 11, 1, 1], [1, 5, 11]), ([1, 12], [1, 12]), ([13, 12, 0, 1, 2, 3, 4, 5, 6, 7, 8, 9, 10, 11, 12, 13], [0, 13])])
def acmeref12_Culprits.B22 : List Nat := [0, 1, 3, 3, 15, 31, 3, 67, 195, 3, 963, 1987, 4095, 8191, 16383]
theorem acmeref12_Culprits.tab22 : rtab .any (opsOf Try.f41 22) = acmeref12_Culprits.T22 := by kernel_rfl
theorem acmeref12_Culprits.bits22 : waitsOk acmeref12_Culprits.T22.2 acmeref12_Culprits.B22 = true := by kernel_rfl
def acmeref12_Culprits.T26 : Bool × List (List Nat × List Nat) := (true, [([], []), ([0], [0]), ([1], [1]), ([1], [1]), ([2, 3, 1], [1, 2, 3]), ([4, 1], [1, 4]), ([1], [1]), ([6, 1], [1, 6]), ([7, 1], [1, 7]), ([1], [1]), ([8, 9, 1], [1, 8, 9]), ([10, 1], [1, 10]), ([5, 11, 1, 1], [1, 5, 11]), ([12, 1], [1, 12]), ([1, 13], [1, 13]), ([14, 12, 0, 1, 2, 3, 4, 5, 6, 7, 8, 9, 10, 11, 12, 13, 14], [0, 14])])
def acmeref12_Culprits.B26 : List Nat := [0, 1, 3, 3, 15, 31, 3, 67, 195, 3, 963, 1987, 4095, 8191, 16383, 32767]
theorem acmeref12_Culprits.tab26 : rtab .any (opsOf Try.f41 26) = acmeref12_Culprits.T26 := by kernel_rfl
theorem acmeref12_Culprits.bits26 : waitsOk acmeref12_Culprits.T26.2 acmeref12_Culprits.B26 = true := by kernel_rfl
set_option maxHeartbeats 8000000 in
set_option maxRecDepth 100000 in
theorem acmeref12_Culprits.calls (k : Nat) (A0 : Option Addr) (c0 : Nat) (l0 : List (S144)) (A1 : Option Addr) (c1 : Nat) (l1 : List (S58)) (A2 : Option Addr) (c2 : Nat) (l2 : List (S58)) (r1 : List (S79)) (r2 : Int) (w : World) (hr0 : Kd.C k144 w A0 l0.length l0) (hc0 : l0.length ≤ c0) (hr1 : Kd.C k58 w A1 l1.length l1) (hc1 : l1.length ≤ c1) (hr2 : Kd.C k58 w A2 l2.length l2) (hc2 : l2.length ≤ c2) (h : acmeref12_Culprits.f k l0 l1 l2 = some (r1, r2)) :
  Calls Try.prog 41 #[.slice A0 l0.length c0, .slice A1 l1.length c1, .slice A2 l2.length c2] w fun e w' => ∃ v0_ : Value, e = .returned (.tuple #[v0_, .int .i64 r2]) ∧ Kd.R k79 79 w' w.heap.size (fun _ => True) v0_ r1 ∧ Below w.heap.size w w' := by
 have hu79 := Try.underlying79
 have HR0 := Aside0.mk hr0
 have HC0 := Aside0.mk hc0
 clear hr0 hc0
 have HR1 := Aside0.mk hr1
 have HC1 := Aside0.mk hc1
 clear hr1 hc1
 have HR2 := Aside0.mk hr2
 have HC2 := Aside0.mk hc2
 clear hr2 hc2
 have HB := Aside0.mk (Below.refl w.heap.size w)
 have H : ((acmeref12_Check.f k l0).bind fun t256 => (if t256 = 0 then (if (l1.length : Int) > 40 then (acmeref12_Culprits.j0 k l0 l1 l2 true) else (acmeref12_Culprits.j0 k l0 l1 l2 (decide ((l2.length : Int) > 40)))) else (some (([] : List (S79)), t256)))) = some (r1, r2) := h
 clear h
 replace H := Option.bind_eq_some_iff.mp H
 obtain ⟨t256, A40, H⟩ := H; (try dsimp only at H)
 have A4 := Aside0.mk A40
 clear A40
 by_cases c5 : t256 = 0
 ·rw [if_pos c5] at H
  have c5b0 : (t256 == 0) = true := beq_iff_eq.mpr c5
  have c5b1 : (t256 != 0) = false := bne_eq_false_iff_eq.mpr c5
  clear c5
  have HC6 := Aside0.mk H
  clear H
  go_enter Try.func41, Try.ntmps41
  go_upto_region 4 with (first | ((with_reducible refine gate_callee (f := 34) rfl ?_); refine goesL_ (some 18) rfl rfl Try.func34 (by kernel_rfl) rfl #[.slice A0 l0.length c0] rfl (by (try simp only [List.map_toArray, List.map_cons, List.map_nil]); first | done | rfl | (simp only [List.length_drop, List.length_take]; rfl)) ?_; (with_reducible refine (acmeref12_Check.calls k _ _ l0 t256 _ ?side1 ?side2 A4.out).mono ?_); (case side1 => repeat (first | exact HR0.out | (with_reducible refine Kd.C_alloc ?_ _) | (with_reducible refine Kd.C_drewN ?_ _) | (with_reducible refine Kd.C_drew ?_))); (case side2 => exact HC0.out); rintro e w7 ⟨rfl, hb⟩; refine ⟨_, rfl, ?_⟩; replace HB := Aside0.mk (below_step HB.out hb); (try clear hb); (try clear hb2); (try clear hk); (try clear hi)))
  (try simp only [Act.put, sa_, s0_, s1_])
  go_cut [29] (fun v29 wc => ∃ (kq : Nat) (x29_5 : Bool), v29 = .bool x29_5 ∧ Aside0 (acmeref12_Culprits.j0 kq l0 l1 l2 x29_5 = some (r1, r2)) ∧ Aside0 (kq ≤ k) ∧ Aside0 (Below w.heap.size w wc))
  case first => as_aux_lemma =>
   have H := HC6.out
   clear HC6
   by_cases c8 : (l1.length : Int) > 40
   ·rw [if_pos c8] at H
    have c8b0 : decide (40 < (l1.length : Int)) = true := decide_eq_true c8
    have c8b1 : decide (40 < l1.length) = true := decide_eq_true (by omega)
    clear c8
    (first | rw [c8b0] | (simp only [i64_w, i32_w]; rw [c8b0]) | skip)
    have H' := Aside0.mk H
    clear H
    go_wp2
    go_meet
    case rel => exact ⟨_, (true), (by first | rfl | (simp; done) | (simp [*]; done)), H', ⟨by first | omega | exact Nat.le_refl _⟩, ⟨by repeat (first | (with_reducible first | exact HB.out | apply below_alloc | apply pw_below_drewN | apply below_drew1) | exact HB.out)⟩⟩
   ·rw [if_neg c8] at H
    have c8b0 : decide (40 < (l1.length : Int)) = false := decide_eq_false c8
    have c8b1 : decide (40 < l1.length) = false := decide_eq_false (by omega)
    clear c8
    (first | rw [c8b0] | (simp only [i64_w, i32_w]; rw [c8b0]) | skip)
    have H' := Aside0.mk H
    clear H
    go_wp2
    go_meet
    case rel => exact ⟨_, (decide ((l2.length : Int) > 40)), (by first | rfl | (simp; done) | (simp [*]; done)), H', ⟨by first | omega | exact Nat.le_refl _⟩, ⟨by repeat (first | (with_reducible first | exact HB.out | apply below_alloc | apply pw_below_drewN | apply below_drew1) | exact HB.out)⟩⟩
  case rest => as_aux_lemma =>
   clear HC6
   try clear c1; try clear c2; try clear p2; try clear c3; try clear c4; try clear c5; try clear c5b0; try clear c5b1; try clear c8; try clear c8b0; try clear c8b1
   obtain ⟨kq, x29_5, rfl, HA, HJ5, HB⟩ := hcut
   cases kq with
   | zero => exact absurd HA.out (by simp [acmeref12_Culprits.j0])
   | succ kj5 =>
    have H := HA.out
    clear HA
    simp only [acmeref12_Culprits.j0] at H
    by_cases c9 : x29_5 = true
    ·subst c9
     have H1 : (some (([] : List (S79)), 5)) = some (r1, r2) := by rw [if_pos rfl] at H; exact H
     clear H
     have H := H1
     clear H1
     simp only [Option.some.injEq, Prod.mk.injEq] at H
     obtain ⟨rfl, rfl⟩ := H
     go_wp2
     go_ret2
     exact ⟨_, by first | rfl | (simp [errW_none, errW_some] <;> rfl) | (simp [*, errW_none, errW_some] <;> rfl), by first | exact Kd.R_nil _ _ _ _ _ | exact Kd.N_nil _ _ _ _ _ | exact Kd.V_nil _ _ _ _ _ | exact Kd.Q_nil _ _ _ _ _ | exact Kd.S_nil _ _ _ _ _, by repeat (first | (with_reducible first | exact HB.out | apply below_alloc | apply pw_below_drewN | apply below_drew1) | exact HB.out)⟩
    ·replace c9 := Bool.eq_false_iff.mpr c9
     subst c9
     have H1 : (if (l1.length : Int) = 0 then (some (([] : List (S79)), 7)) else ((acmeref12_Lots.f kj5 l0 l1).bind fun bt257 => (if bt257.2 = 0 then ((acmeref12_Lots.f kj5 l0 l2).bind fun bt261 => (if bt261.2 = 0 then (acmeref12_Culprits.l0 kj5 bt257.1 bt261.1 (([] : List (S79))) 0) else (some (([] : List (S79)), bt261.2)))) else (some (([] : List (S79)), bt257.2))))) = some (r1, r2) := by rw [if_neg (show ¬ (false = true) by decide)] at H; exact H
     clear H
     have H := H1
     clear H1
     by_cases c10 : (l1.length : Int) = 0
     ·rw [if_pos c10] at H
      have c10b0 : ((l1.length : Int) == 0) = true := beq_iff_eq.mpr c10
      have c10b1 : ((l1.length : Int) != 0) = false := bne_eq_false_iff_eq.mpr c10
      clear c10
      simp only [Option.some.injEq, Prod.mk.injEq] at H
      obtain ⟨rfl, rfl⟩ := H
      go_wp2
      go_ret2
      exact ⟨_, by first | rfl | (simp [errW_none, errW_some] <;> rfl) | (simp [*, errW_none, errW_some] <;> rfl), by first | exact Kd.R_nil _ _ _ _ _ | exact Kd.N_nil _ _ _ _ _ | exact Kd.V_nil _ _ _ _ _ | exact Kd.Q_nil _ _ _ _ _ | exact Kd.S_nil _ _ _ _ _, by repeat (first | (with_reducible first | exact HB.out | apply below_alloc | apply pw_below_drewN | apply below_drew1) | exact HB.out)⟩
     ·rw [if_neg c10] at H
      have c10b0 : ((l1.length : Int) == 0) = false := beq_eq_false_iff_ne.mpr c10
      have c10b1 : ((l1.length : Int) != 0) = true := bne_iff_ne.mpr c10
      have c10b2 : ¬ (l1 = []) := fun h_ => c10 (by rw [h_]; rfl)
      replace H := Option.bind_eq_some_iff.mp H
      obtain ⟨⟨t257, t258⟩, A110, H⟩ := H; (try dsimp only at H)
      have A11 := Aside0.mk A110
      clear A110
      by_cases c12 : t258 = 0
      ·rw [if_pos c12] at H
       have c12b0 : (t258 == 0) = true := beq_iff_eq.mpr c12
       have c12b1 : (t258 != 0) = false := bne_eq_false_iff_eq.mpr c12
       clear c12
       replace H := Option.bind_eq_some_iff.mp H
       obtain ⟨⟨t261, t262⟩, A130, H⟩ := H; (try dsimp only at H)
       have A13 := Aside0.mk A130
       clear A130
       by_cases c14 : t262 = 0
       ·rw [if_pos c14] at H
        have c14b0 : (t262 == 0) = true := beq_iff_eq.mpr c14
        have c14b1 : (t262 != 0) = false := bne_eq_false_iff_eq.mpr c14
        clear c14
        obtain ⟨y265, hy265⟩ : ∃ y_ : List (S79), y_ = (([] : List (S79))) := ⟨_, rfl⟩
        replace H : (acmeref12_Culprits.l0 kj5 t257 t261 y265 0) = some (r1, r2) := by first | (rw [hy265]; with_reducible exact H) | (have H2_ := (Option.bind_some _ _).symm.trans H; rw [hy265]; with_reducible exact H2_) | (have H2_ := (Option.bind_some _ _).symm.trans H; with_reducible exact H2_) | with_reducible exact H | (rw [hy265]; exact H) | exact H
        have Ny265 := Aside0.mk hy265
        clear hy265
        have H' := Aside0.mk H
        clear H
        go_wp2_with (first | ((with_reducible refine gate_callee (f := 46) rfl ?_); refine goesL_ (some 36) rfl rfl Try.func46 (by kernel_rfl) rfl #[.slice A0 l0.length c0, .slice A1 l1.length c1] rfl (by (try simp only [List.map_toArray, List.map_cons, List.map_nil]); first | done | rfl | (simp only [List.length_drop, List.length_take]; rfl)) ?_; (with_reducible refine (acmeref12_Lots.calls kj5 _ _ l0 _ _ l1 t257 t258 _ ?side1 ?side2 ?side3 ?side4 A11.out).mono ?_); (case side1 => repeat (first | exact (Kd.C_below HR0.out HB.out) | (with_reducible refine Kd.C_alloc ?_ _) | (with_reducible refine Kd.C_drewN ?_ _) | (with_reducible refine Kd.C_drew ?_))); (case side2 => exact HC0.out); (case side3 => repeat (first | exact (Kd.C_below HR1.out HB.out) | (with_reducible refine Kd.C_alloc ?_ _) | (with_reducible refine Kd.C_drewN ?_ _) | (with_reducible refine Kd.C_drew ?_))); (case side4 => exact HC1.out); rintro e w15 ⟨v259, rfl, ho0, hb⟩; refine ⟨_, rfl, ?_⟩; have HO260 := Aside0.mk (Kd.S_lower ho0 (below_size HB.out)); replace HB := Aside0.mk (below_step HB.out hb); (try clear hb); (try clear hb2); (try clear hk); (try clear hi); (try clear ho0)) | ((with_reducible refine gate_callee (f := 46) rfl ?_); refine goesL_ (some 45) rfl rfl Try.func46 (by kernel_rfl) rfl #[.slice A0 l0.length c0, .slice A2 l2.length c2] rfl (by (try simp only [List.map_toArray, List.map_cons, List.map_nil]); first | done | rfl | (simp only [List.length_drop, List.length_take]; rfl)) ?_; (with_reducible refine (acmeref12_Lots.calls kj5 _ _ l0 _ _ l2 t261 t262 _ ?side1 ?side2 ?side3 ?side4 A13.out).mono ?_); (case side1 => repeat (first | exact (Kd.C_below HR0.out HB.out) | (with_reducible refine Kd.C_alloc ?_ _) | (with_reducible refine Kd.C_drewN ?_ _) | (with_reducible refine Kd.C_drew ?_))); (case side2 => exact HC0.out); (case side3 => repeat (first | exact (Kd.C_below HR2.out HB.out) | (with_reducible refine Kd.C_alloc ?_ _) | (with_reducible refine Kd.C_drewN ?_ _) | (with_reducible refine Kd.C_drew ?_))); (case side4 => exact HC2.out); rintro e w16 ⟨v263, rfl, ho0, hb⟩; refine ⟨_, rfl, ?_⟩; have HO264 := Aside0.mk (Kd.S_lower (Kd.S_new' ho0 (Kd.S_lt (by (with_reducible repeat (first | apply Kd.S_alloc | apply Kd.S_drewN | apply Kd.S_drew)); exact HO260.out))) (below_size HB.out)); replace HO260 := Aside0.mk (Kd.S_elder' (by (with_reducible repeat (first | apply Kd.S_alloc | apply Kd.S_drewN | apply Kd.S_drew)); exact HO260.out) (Kd.S_base ho0) hb); replace HB := Aside0.mk (below_step HB.out hb); (try clear hb); (try clear hb2); (try clear hk); (try clear hi); (try clear ho0)) | ((with_reducible refine gate_dst (N := 51) rfl ?_); (try (refine gate_guard (by rfl) ?_; dsimp only)); refine Kd.R_lit k79 _ 79 ?hg (N := 51) ?hd (xs := ([] : List (S79))) (inner := []) (ok := fun _ => True) (okp := fun _ => True) ?hr ?hp (fun _ hk => hk) trivial (Below.refl _ _) (Nat.le_refl _) (by simp) ?_; (case hd => rfl); (case hg => rfl); (case hr => first | (go_simp; done) | (go_simp; rfl)); (case hp => exact (Reps.none _ _)); intro v266 w17 ho18 hb hg_ hnew_; clear hg_ hnew_; (first | rw [← Ny265.out] at ho18 | (simp only [Int.reduceToNat] at ho18; rw [← Ny265.out] at ho18)); replace HO260 := Aside0.mk (Kd.S_elder' (by (with_reducible repeat (first | apply Kd.S_alloc | apply Kd.S_drewN | apply Kd.S_drew)); exact HO260.out) (Kd.R_base ho18) hb); replace HO264 := Aside0.mk (Kd.S_elder' (by (with_reducible repeat (first | apply Kd.S_alloc | apply Kd.S_drewN | apply Kd.S_drew)); exact HO264.out) (Kd.R_base ho18) hb); have HO267 := Aside0.mk (Kd.R_lower ho18 (below_size HB.out)); replace HB := Aside0.mk (below_step HB.out hb); clear hb ho18))
        go_loopg [12, 13] kj5 (fun kq v12 v13 w' => ∃ (x12_2 : List (S79)) (x13_2 : Int), v13 = .int .i64 x13_2 ∧ Aside0 (acmeref12_Culprits.l0 kq t257 t261 x12_2 x13_2 = some (r1, r2)) ∧ Aside0 (kq ≤ kj5) ∧ Aside0 (Kd.S (Kd.slice 79 k79) 62 w' w.heap.size (fun k_ => some k_ ≠ (v263 : Value).ownBlock ∧ some k_ ≠ (v12 : Value).ownBlock) v259 t257) ∧ Aside0 (Kd.S (Kd.slice 79 k79) 62 w' w.heap.size (fun k_ => some k_ ≠ (v259 : Value).ownBlock ∧ some k_ ≠ (v12 : Value).ownBlock) v263 t261) ∧ Aside0 (Kd.R k79 79 w' w.heap.size (fun _ => True) v12 x12_2) ∧ Aside0 (Below w.heap.size w w'))
        case atStart => exact ⟨(y265), (0), (by first | rfl | (simp; done) | (simp [*]; done)), H', ⟨Nat.le_refl _⟩, ⟨by (with_reducible repeat (first | apply Kd.S_alloc | apply Kd.S_drewN | apply Kd.S_drew)); exact Kd.S_mono HO260.out (fun _ hk => ⟨hk.1.2, hk.2⟩)⟩, ⟨by (with_reducible repeat (first | apply Kd.S_alloc | apply Kd.S_drewN | apply Kd.S_drew)); exact Kd.S_mono HO264.out (fun _ hk => ⟨hk.1.2, hk.2⟩)⟩, ⟨by (with_reducible repeat (first | apply Kd.R_alloc | apply Kd.R_drewN | apply Kd.R_drew)); exact HO267.out⟩, ⟨by repeat (first | (with_reducible first | exact HB.out | apply below_alloc | apply pw_below_drewN | apply below_drew1) | exact HB.out)⟩⟩
        case round => as_aux_lemma =>
         clear H'
         try clear c1; try clear c2; try clear p2; try clear c3; try clear c4; try clear c5; try clear c5b0; try clear c5b1; try clear c8; try clear c8b0; try clear c8b1; try clear c9; try clear c10; try clear c10b0; try clear c10b1; try clear c10b2; try clear c12; try clear c12b0; try clear c12b1; try clear c14; try clear c14b0; try clear c14b1; try clear p2
         obtain ⟨x12_2, x13_2, rfl, HA, HK2, HO_9, HO_11, HO_12, HB⟩ := hrel
         cases gk with
         | zero => exact absurd HA.out (by simp [acmeref12_Culprits.l0])
         | succ k2 =>
          have H := HA.out
          clear HA
          simp only [acmeref12_Culprits.l0] at H
          by_cases c19 : 0 < (t257.length : Int)
          ·rw [if_pos c19] at H
           have c19b0 : decide (0 < (t257.length : Int)) = true := decide_eq_true c19
           have c19b1 : decide (0 < t257.length) = true := decide_eq_true (by omega)
           clear c19
           by_cases c20 : x13_2 < ((rd_L8 t257 0).length : Int)
           ·rw [if_pos c20] at H
            have c20b0 : decide (x13_2 < ((rd_L8 t257 0).length : Int)) = true := decide_eq_true c20
            clear c20
            have H' := Aside0.mk H
            clear H
            obtain ⟨Ao21, co21, eo21⟩ := Kd.S_slice HO_9.out
            subst eo21
            have p268 : 0 ≤ (0 : Int) := (by omega)
            have q268 : 0 < (t257.length : Int) := of_decide_eq_true ‹_›
            obtain ⟨ad268, A268_0, c268_0, e268, hx268_0, hl268_0, hi268_0⟩ := at_L8 (Kd.S_reads' HO_9.out).2.2 0 p268 q268
            cases e268
            obtain ⟨ce268, hce268, hMe268, hcc268⟩ := Kd.S_get HO_9.out [] 0 p268 (by first | exact q268 | exact of_decide_eq_true ‹_› | (have e_ := (Kd.S_reads' HO_9.out).1; omega))
            obtain ⟨ve268_0, rfl, ge268_0⟩ := hMe268
            have hv268_0 := hcc268 0 _ rfl
            rw [Nat.add_zero, show ((Kd.slice 79 k79)).sz = 1 from rfl, Nat.mul_one] at hv268_0
            replace hv268_0 := Option.some.inj (hv268_0.symm.trans hx268_0)
            rw [hv268_0] at ge268_0
            have HL268_0 := Aside0.mk (show Kd.R k79 79 _ _ _ _ (rd_L8 t257 0) from ge268_0)
            clear hv268_0 ge268_0
            clear hcc268 hce268
            have qi268 : (0 < t257.length) = True := eq_true (by omega)
            (try rw [show ((0 : Int)).toNat = 0 from rfl] at hx268_0)
            (try rw [Addr.add_zero'] at hx268_0)
            have HR268_0 := Aside0.mk hi268_0
            have HC268_0 := Aside0.mk hl268_0
            clear hi268_0 hl268_0
            replace p268 := eq_true p268
            replace q268 := eq_true q268
            go_wp2
            go_loopg [14, 15] k2 (fun kq v14 v15 w' => ∃ (x14_3 : Bool) (x15_3 : Int), v14 = .bool x14_3 ∧ v15 = .int .i64 x15_3 ∧ Aside0 (acmeref12_Culprits.l1 kq t257 t261 x12_2 x13_2 x14_3 x15_3 = some (r1, r2)) ∧ Aside0 (kq ≤ k2) ∧ Aside0 (Kd.S (Kd.slice 79 k79) 62 w' w.heap.size (fun k_ => some k_ ≠ (v263 : Value).ownBlock ∧ some k_ ≠ (u12 : Value).ownBlock) (.slice (some ad268) t257.length co21) t257) ∧ Aside0 (Kd.S (Kd.slice 79 k79) 62 w' w.heap.size (fun k_ => some k_ ≠ ((.slice (some ad268) t257.length co21) : Value).ownBlock ∧ some k_ ≠ (u12 : Value).ownBlock) v263 t261) ∧ Aside0 (Kd.R k79 79 w' w.heap.size (fun _ => True) u12 x12_2) ∧ Aside0 (Kd.C k79 w' A268_0 (rd_L8 t257 0).length (rd_L8 t257 0)) ∧ Aside0 (Below w.heap.size w w'))
            case atStart => exact ⟨(true), (0), (by first | rfl | (simp; done) | (simp [*]; done)), (by first | rfl | (simp; done) | (simp [*]; done)), H', ⟨Nat.le_refl _⟩, ⟨by (with_reducible repeat (first | apply Kd.S_alloc | apply Kd.S_drewN | apply Kd.S_drew)); exact HO_9.out⟩, ⟨by (with_reducible repeat (first | apply Kd.S_alloc | apply Kd.S_drewN | apply Kd.S_drew)); exact HO_11.out⟩, ⟨by (with_reducible repeat (first | apply Kd.R_alloc | apply Kd.R_drewN | apply Kd.R_drew)); exact HO_12.out⟩, ⟨by repeat (first | (with_reducible exact HR268_0.out) | (with_reducible refine Kd.C_alloc ?_ _) | (with_reducible refine Kd.C_drewN ?_ _) | (with_reducible refine Kd.C_drew ?_) | exact HR268_0.out)⟩, ⟨by repeat (first | (with_reducible first | exact HB.out | apply below_alloc | apply pw_below_drewN | apply below_drew1) | exact HB.out)⟩⟩
            case round => as_aux_lemma =>
             clear H'
             try clear c1; try clear c2; try clear p2; try clear q2; try clear hx2; try clear qi2; try clear c3; try clear c4; try clear c5; try clear c5b0; try clear c5b1; try clear c8; try clear c8b0; try clear c8b1; try clear c9; try clear c10; try clear c10b0; try clear c10b1; try clear c10b2; try clear c12; try clear c12b0; try clear c12b1; try clear c14; try clear c14b0; try clear c14b1; try clear c19; try clear c19b0; try clear c19b1; try clear c20; try clear c20b0; try clear hx268_0; try clear p2; try clear p268; try clear q268
             obtain ⟨x14_3, x15_3, rfl, rfl, HA, HK3, HO_9, HO_11, HO_12, HR268_0, HB⟩ := hrel
             cases gk with
             | zero => exact absurd HA.out (by simp [acmeref12_Culprits.l1])
             | succ k3 =>
              have H := HA.out
              clear HA
              simp only [acmeref12_Culprits.l1] at H
              by_cases c22 : x15_3 < (t257.length : Int)
              ·rw [if_pos c22] at H
               have c22b0 : decide (x15_3 < (t257.length : Int)) = true := decide_eq_true c22
               clear c22
               by_cases c23 : x14_3 = true
               ·subst c23
                have H1 : (if 0 ≤ x15_3 then (if 0 < (t257.length : Int) then (if 0 ≤ x13_2 then (if x13_2 < ((rd_L8 t257 0).length : Int) then ((acmeref12_Caused.f k3 (rd_L8 t257 x15_3) ((rd_T79 (rd_L8 t257 0) x13_2).f0) ((rd_T79 (rd_L8 t257 0) x13_2).f1) ((rd_T79 (rd_L8 t257 0) x13_2).f2)).bind fun t272 => (acmeref12_Culprits.l1 k3 t257 t261 x12_2 x13_2 t272 (wrap64 (x15_3 + 1)))) else (none)) else (none)) else (none)) else (none)) = some (r1, r2) := by rw [if_pos rfl] at H; exact H
                clear H
                have H := H1
                clear H1
                by_cases c24 : 0 ≤ x15_3
                ·rw [if_pos c24] at H
                 have c24b0 : decide (0 ≤ x15_3) = true := decide_eq_true c24
                 clear c24
                 by_cases c25 : 0 < (t257.length : Int)
                 ·rw [if_pos c25] at H
                  have c25b0 : decide (0 < (t257.length : Int)) = true := decide_eq_true c25
                  have c25b1 : decide (0 < t257.length) = true := decide_eq_true (by omega)
                  clear c25
                  by_cases c26 : 0 ≤ x13_2
                  ·rw [if_pos c26] at H
                   have c26b0 : decide (0 ≤ x13_2) = true := decide_eq_true c26
                   clear c26
                   by_cases c27 : x13_2 < ((rd_L8 t257 0).length : Int)
                   ·rw [if_pos c27] at H
                    have c27b0 : decide (x13_2 < ((rd_L8 t257 0).length : Int)) = true := decide_eq_true c27
                    clear c27
                    replace H := Option.bind_eq_some_iff.mp H
                    obtain ⟨t272, A280, H⟩ := H; (try dsimp only at H)
                    have A28 := Aside0.mk A280
                    clear A280
                    have H' := Aside0.mk H
                    clear H
                    try go_wp2
                    have n0_ := Aside0.mk (Kd.S_drew HO_9.out)
                    have n1_ := Aside0.mk (Kd.S_drew HO_11.out)
                    have n2_ := Aside0.mk (Kd.R_drew HO_12.out)
                    have n3_ := Aside0.mk (Kd.C_drew HR268_0.out)
                    have n4_ := Aside0.mk (below_drew1 HB.out)
                    clear HO_9
                    clear HO_11
                    clear HO_12
                    clear HR268_0
                    clear HB
                    have HO_9 := n0_
                    have HO_11 := n1_
                    have HO_12 := n2_
                    have HR268_0 := n3_
                    have HB := n4_
                    clear n0_ n1_ n2_ n3_ n4_
                    have p269 : 0 ≤ (x15_3 : Int) := of_decide_eq_true ‹_›
                    have q269 : x15_3 < (t257.length : Int) := of_decide_eq_true ‹_›
                    obtain ⟨ad269, A269_0, c269_0, e269, hx269_0, hl269_0, hi269_0⟩ := at_L8 (Kd.S_reads' HO_9.out).2.2 x15_3 p269 q269
                    obtain rfl : ad268 = ad269 := (by injection e269)
                    obtain ⟨ce269, hce269, hMe269, hcc269⟩ := Kd.S_get HO_9.out [] x15_3 p269 (by first | exact q269 | exact of_decide_eq_true ‹_› | (have e_ := (Kd.S_reads' HO_9.out).1; omega))
                    obtain ⟨ve269_0, rfl, ge269_0⟩ := hMe269
                    have hv269_0 := hcc269 0 _ rfl
                    rw [Nat.add_zero, show ((Kd.slice 79 k79)).sz = 1 from rfl, Nat.mul_one] at hv269_0
                    replace hv269_0 := Option.some.inj (hv269_0.symm.trans hx269_0)
                    rw [hv269_0] at ge269_0
                    have HL269_0 := Aside0.mk (show Kd.R k79 79 _ _ _ _ (rd_L8 t257 x15_3) from ge269_0)
                    clear hv269_0 ge269_0
                    clear hcc269 hce269
                    have HR269_0 := Aside0.mk hi269_0
                    have HC269_0 := Aside0.mk hl269_0
                    clear hi269_0 hl269_0
                    replace p269 := eq_true p269
                    replace q269 := eq_true q269
                    have p270 : 0 ≤ (0 : Int) := (by omega)
                    have q270 : 0 < (t257.length : Int) := of_decide_eq_true ‹_›
                    obtain ⟨ad270, A270_0, c270_0, e270, hx270_0, hl270_0, hi270_0⟩ := at_L8 (Kd.S_reads' HO_9.out).2.2 0 p270 q270
                    obtain rfl : ad268 = ad270 := (by injection e270)
                    obtain ⟨ce270, hce270, hMe270, hcc270⟩ := Kd.S_get HO_9.out [] 0 p270 (by first | exact q270 | exact of_decide_eq_true ‹_› | (have e_ := (Kd.S_reads' HO_9.out).1; omega))
                    obtain ⟨ve270_0, rfl, ge270_0⟩ := hMe270
                    have hv270_0 := hcc270 0 _ rfl
                    rw [Nat.add_zero, show ((Kd.slice 79 k79)).sz = 1 from rfl, Nat.mul_one] at hv270_0
                    replace hv270_0 := Option.some.inj (hv270_0.symm.trans hx270_0)
                    rw [hv270_0] at ge270_0
                    have HL270_0 := Aside0.mk (show Kd.R k79 79 _ _ _ _ (rd_L8 t257 0) from ge270_0)
                    clear hv270_0 ge270_0
                    clear hcc270 hce270
                    have qi270 : (0 < t257.length) = True := eq_true (by omega)
                    (try rw [show ((0 : Int)).toNat = 0 from rfl] at hx270_0)
                    (try rw [Addr.add_zero'] at hx270_0)
                    have HR270_0 := Aside0.mk hi270_0
                    have HC270_0 := Aside0.mk hl270_0
                    clear hi270_0 hl270_0
                    replace p270 := eq_true p270
                    replace q270 := eq_true q270
                    have p271 : 0 ≤ (x13_2 : Int) := of_decide_eq_true ‹_›
                    have q271 : x13_2 < ((rd_L8 t257 0).length : Int) := of_decide_eq_true ‹_›
                    obtain ⟨ad271, e271, hx271_0, hx271_1, hx271_2⟩ := at_T79 (by repeat (first | (with_reducible exact HR270_0.out) | (with_reducible refine Kd.C_alloc ?_ _) | (with_reducible refine Kd.C_drewN ?_ _) | (with_reducible refine Kd.C_drew ?_) | exact HR270_0.out)) x13_2 p271 q271
                    cases e271
                    replace p271 := eq_true p271
                    replace q271 := eq_true q271
                    refine start_ (n := 15) (S := fun w' => w'.cell? (ad268.add (x15_3).toNat) = some (.slice A269_0 (rd_L8 t257 x15_3).length c269_0) ∧ w'.cell? ad268 = some (.slice (some ad271) (rd_L8 t257 0).length c270_0) ∧ w'.cell? (ad271.add ((x13_2).toNat * 3)) = some (.int .i64 ((rd_T79 (rd_L8 t257 0) x13_2).f0)) ∧ w'.cell? ⟨(ad271.add ((x13_2).toNat * 3)).block, (ad271.add ((x13_2).toNat * 3)).off + 1, none⟩ = some (.int .i64 ((rd_T79 (rd_L8 t257 0) x13_2).f1)) ∧ w'.cell? ⟨(ad271.add ((x13_2).toNat * 3)).block, (ad271.add ((x13_2).toNat * 3)).off + 2, none⟩ = some (.int .i64 ((rd_T79 (rd_L8 t257 0) x13_2).f2))) (ds := []) #[false, false, false, false, false, false, false, false, false, false, false, false, false, false, false] (by kernel_rfl) rfl rfl ⟨hx269_0, hx270_0, hx271_0, hx271_1, hx271_2⟩ (fun hHeld => ?_); refine with_tabW acmeref12_Culprits.tab22 acmeref12_Culprits.bits22 (fun HT_ HW_ => ?_)
                    generalize wr.drew = w29 at HO_9 HO_11 HO_12 HR268_0 HB HL269_0 HL270_0 HR269_0 HR270_0 hx269_0 hx270_0 hx271_0 hx271_1 hx271_2 hHeld ⊢
                    refine pure_ (i := 0) (N := some 66) (v := ?_) (a' := ?_) #[true, false, false, false, false, false, false, false, false, false, false, false, false, false, false] rfl rfl (any_of HT_.out (by kernel_rfl)) (fun _ _ _ h => h) (Or.inl ⟨by rfl, ?_⟩) ?_ ?_
                    rotate_left
                    ·intro w'
                     go_simp
                     with_reducible rfl
                    rotate_left
                    ·simp only [Act.put, sa_, s0_, s1_, i64_w, i32_w]
                     rfl
                    refine pure_ (i := 1) (N := some 67) (v := ?_) (a' := ?_) #[true, true, false, false, false, false, false, false, false, false, false, false, false, false, false] rfl rfl (any_of HT_.out (by kernel_rfl)) (fun _ _ _ h => h) (Or.inl ⟨by rfl, ?_⟩) ?_ ?_
                    rotate_left
                    ·intro w'
                     go_simp
                     with_reducible rfl
                    rotate_left
                    ·simp only [Act.put, sa_, s0_, s1_, i64_w, i32_w]
                     rfl
                    refine pure_ (i := 2) (N := some 68) (v := ?_) (a' := ?_) #[true, true, true, false, false, false, false, false, false, false, false, false, false, false, false] rfl rfl (any_of HT_.out (by kernel_rfl)) (fun _ _ _ h => h) (Or.inl ⟨by rfl, ?_⟩) ?_ ?_
                    rotate_left
                    ·intro w'
                     go_simp
                     with_reducible rfl
                    rotate_left
                    ·simp only [Act.put, sa_, s0_, s1_, i64_w, i32_w]
                     rfl
                    refine pure_ (i := 3) (N := some 69) (v := ?_) (a' := ?_) #[true, true, true, true, false, false, false, false, false, false, false, false, false, false, false] rfl rfl (any_of HT_.out (by kernel_rfl)) (fun _ _ _ h => h) (Or.inl ⟨by rfl, ?_⟩) ?_ ?_
                    rotate_left
                    ·intro w'
                     go_simp
                     with_reducible rfl
                    rotate_left
                    ·simp only [Act.put, sa_, s0_, s1_, i64_w, i32_w]
                     rfl
                    refine pure_ (i := 4) (N := some 70) (v := ?_) (a' := ?_) #[true, true, true, true, true, false, false, false, false, false, false, false, false, false, false] rfl rfl (any_of HT_.out (by kernel_rfl)) (fun _ _ _ h => h) (Or.inl ⟨by rfl, ?_⟩) ?_ ?_
                    rotate_left
                    ·intro w'
                     go_simp
                     with_reducible rfl
                    rotate_left
                    ·simp only [Act.put, sa_, s0_, s1_, i64_w, i32_w]
                     rfl
                    refine pure_ (i := 6) (N := some 72) (v := ?_) (a' := ?_) #[true, true, true, true, true, false, true, false, false, false, false, false, false, false, false] rfl rfl (any_of HT_.out (by kernel_rfl)) (fun _ _ _ h => h) (Or.inl ⟨by rfl, ?_⟩) ?_ ?_
                    rotate_left
                    ·intro w'
                     go_simp
                     with_reducible rfl
                    rotate_left
                    ·simp only [Act.put, sa_, s0_, s1_, i64_w, i32_w]
                     rfl
                    refine pure_ (i := 7) (N := some 73) (v := ?_) (a' := ?_) #[true, true, true, true, true, false, true, true, false, false, false, false, false, false, false] rfl rfl (any_of HT_.out (by kernel_rfl)) (fun _ _ _ h => h) (Or.inl ⟨by rfl, ?_⟩) ?_ ?_
                    rotate_left
                    ·intro w'
                     go_simp
                     with_reducible rfl
                    rotate_left
                    ·simp only [Act.put, sa_, s0_, s1_, i64_w, i32_w]
                     rfl
                    refine pure_ (i := 9) (N := some 75) (v := ?_) (a' := ?_) #[true, true, true, true, true, false, true, true, false, true, false, false, false, false, false] rfl rfl (any_of HT_.out (by kernel_rfl)) (fun _ _ _ h => h) (Or.inl ⟨by rfl, ?_⟩) ?_ ?_
                    rotate_left
                    ·intro w'
                     go_simp
                     with_reducible rfl
                    rotate_left
                    ·simp only [Act.put, sa_, s0_, s1_, i64_w, i32_w]
                     rfl
                    refine take_ (i := 5) (N := some 71) (v := ?_) (a' := ?_) #[true, true, true, true, true, true, true, true, false, true, false, false, false, false, false] rfl rfl (take_ofW HT_.out HW_.out (by kernel_rfl)) (fun _ _ _ h => h) (Or.inl ⟨by rfl, ?_⟩) hHeld ?_ ?_
                    rotate_left
                    ·rintro w' ⟨s0, s1, s2, s3, s4⟩
                     go_simp
                     with_reducible rfl
                    rotate_left
                    ·simp only [Act.put, sa_, s0_, s1_, i64_w, i32_w]
                     rfl
                    refine take_ (i := 8) (N := some 74) (v := ?_) (a' := ?_) #[true, true, true, true, true, true, true, true, true, true, false, false, false, false, false] rfl rfl (take_ofW HT_.out HW_.out (by kernel_rfl)) (fun _ _ _ h => h) (Or.inl ⟨by rfl, ?_⟩) hHeld ?_ ?_
                    rotate_left
                    ·rintro w' ⟨s0, s1, s2, s3, s4⟩
                     go_simp
                     with_reducible rfl
                    rotate_left
                    ·simp only [Act.put, sa_, s0_, s1_, i64_w, i32_w]
                     rfl
                    refine pure_ (i := 10) (N := some 76) (v := ?_) (a' := ?_) #[true, true, true, true, true, true, true, true, true, true, true, false, false, false, false] rfl rfl (any_of HT_.out (by kernel_rfl)) (fun _ _ _ h => h) (Or.inl ⟨by rfl, ?_⟩) ?_ ?_
                    rotate_left
                    ·intro w'
                     go_simp
                     with_reducible rfl
                    rotate_left
                    ·simp only [Act.put, sa_, s0_, s1_, i64_w, i32_w]
                     rfl
                    refine take_ (i := 11) (N := some 77) (v := ?_) (a' := ?_) #[true, true, true, true, true, true, true, true, true, true, true, true, false, false, false] rfl rfl (take_ofW HT_.out HW_.out (by kernel_rfl)) (fun _ _ _ h => h) (Or.inl ⟨by rfl, ?_⟩) hHeld ?_ ?_
                    rotate_left
                    ·rintro w' ⟨s0, s1, s2, s3, s4⟩
                     go_simp
                     with_reducible rfl
                    rotate_left
                    ·simp only [Act.put, sa_, s0_, s1_, i64_w, i32_w]
                     rfl
                    refine one_ (i := 12) (N := some 78) #[true, true, true, true, true, true, true, true, true, true, true, true, true, false, false] rfl rfl (one_of HT_.out (by kernel_rfl)) (by decide) (fun K hK => ?_)
                    refine goes_ Try.func47 (by kernel_rfl) rfl #[.slice A269_0 (rd_L8 t257 x15_3).length c269_0, .agg #[.int .i64 ((rd_T79 (rd_L8 t257 0) x13_2).f0), .int .i64 ((rd_T79 (rd_L8 t257 0) x13_2).f1), .int .i64 ((rd_T79 (rd_L8 t257 0) x13_2).f2)]] (by rfl) rfl rfl (by (try simp only [List.map_toArray, List.map_cons, List.map_nil]); first | done | rfl | (simp only [List.length_drop, List.length_take]; rfl)) ?_
                    with_reducible refine (acmeref12_Caused.calls k3 _ _ (rd_L8 t257 x15_3) ((rd_T79 (rd_L8 t257 0) x13_2).f0) ((rd_T79 (rd_L8 t257 0) x13_2).f1) ((rd_T79 (rd_L8 t257 0) x13_2).f2) t272 _ ?side1 ?side2 A28.out).mono ?_
                    (case side1 => repeat (first | exact (by repeat (first | (with_reducible exact HR269_0.out) | (with_reducible refine Kd.C_alloc ?_ _) | (with_reducible refine Kd.C_drewN ?_ _) | (with_reducible refine Kd.C_drew ?_) | exact HR269_0.out)) | (with_reducible refine Kd.C_alloc ?_ _) | (with_reducible refine Kd.C_drewN ?_ _) | (with_reducible refine Kd.C_drew ?_)))
                    (case side2 => exact HC269_0.out)
                    rintro e w30 ⟨rfl, hb⟩
                    have HS0_ := (hb.cell (World.block_lt_of_cell? _ _ (hHeld.1))).trans (hHeld.1)
                    have HS1_ := (hb.cell (World.block_lt_of_cell? _ _ (hHeld.2.1))).trans (hHeld.2.1)
                    have HS2_ := (hb.cell (World.block_lt_of_cell? _ _ (hHeld.2.2.1))).trans (hHeld.2.2.1)
                    have HS3_ := (hb.cell (World.block_lt_of_cell? _ _ (hHeld.2.2.2.1))).trans (hHeld.2.2.2.1)
                    have HS4_ := (hb.cell (World.block_lt_of_cell? _ _ (hHeld.2.2.2.2))).trans (hHeld.2.2.2.2)
                    refine ⟨_, rfl, ?_⟩
                    have n0_ := Aside0.mk (Kd.S_below (by (with_reducible repeat (first | apply Kd.S_alloc | apply Kd.S_drewN | apply Kd.S_drew)); exact HO_9.out) hb)
                    have n1_ := Aside0.mk (Kd.S_below (by (with_reducible repeat (first | apply Kd.S_alloc | apply Kd.S_drewN | apply Kd.S_drew)); exact HO_11.out) hb)
                    have n2_ := Aside0.mk (Kd.R_below (by (with_reducible repeat (first | apply Kd.R_alloc | apply Kd.R_drewN | apply Kd.R_drew)); exact HO_12.out) hb)
                    have n3_ := Aside0.mk (Kd.R_below (by (with_reducible repeat (first | apply Kd.R_alloc | apply Kd.R_drewN | apply Kd.R_drew)); exact HL269_0.out) hb)
                    have n4_ := Aside0.mk (Kd.R_below (by (with_reducible repeat (first | apply Kd.R_alloc | apply Kd.R_drewN | apply Kd.R_drew)); exact HL270_0.out) hb)
                    have n5_ := Aside0.mk (Kd.C_below (by repeat (first | (with_reducible exact HR268_0.out) | (with_reducible refine Kd.C_alloc ?_ _) | (with_reducible refine Kd.C_drewN ?_ _) | (with_reducible refine Kd.C_drew ?_) | exact HR268_0.out)) hb)
                    have n6_ := Aside0.mk (Kd.C_below (by repeat (first | (with_reducible exact HR269_0.out) | (with_reducible refine Kd.C_alloc ?_ _) | (with_reducible refine Kd.C_drewN ?_ _) | (with_reducible refine Kd.C_drew ?_) | exact HR269_0.out)) hb)
                    have n7_ := Aside0.mk (Kd.C_below (by repeat (first | (with_reducible exact HR270_0.out) | (with_reducible refine Kd.C_alloc ?_ _) | (with_reducible refine Kd.C_drewN ?_ _) | (with_reducible refine Kd.C_drew ?_) | exact HR270_0.out)) hb)
                    have n8_ := Aside0.mk (below_step HB.out hb)
                    clear HO_9
                    clear HO_11
                    clear HO_12
                    clear HL269_0
                    clear HL270_0
                    clear HR268_0
                    clear HR269_0
                    clear HR270_0
                    clear HB
                    have HO_9 := n0_
                    have HO_11 := n1_
                    have HO_12 := n2_
                    have HL269_0 := n3_
                    have HL270_0 := n4_
                    have HR268_0 := n5_
                    have HR269_0 := n6_
                    have HR270_0 := n7_
                    have HB := n8_
                    clear n0_ n1_ n2_ n3_ n4_ n5_ n6_ n7_ n8_
                    (try clear hb)
                    (try clear hb2)
                    (try clear hk)
                    (try clear hi)
                    refine hK.out _ _ ⟨HS0_, HS1_, HS2_, HS3_, HS4_⟩ (fun hHeld => ?_)
                    clear hK K
                    refine norm_ (a' := ?_) ?_ ?_
                    rotate_left
                    ·show Act.put _ (some 78) _ = _
                     simp only [Act.put, sa_, s0_, s1_, i64_w, i32_w]
                     rfl
                    refine pure_ (i := 13) (N := some 79) (v := ?_) (a' := ?_) #[true, true, true, true, true, true, true, true, true, true, true, true, true, true, false] rfl rfl (any_of HT_.out (by kernel_rfl)) (fun _ _ _ h => h) (Or.inl ⟨by rfl, ?_⟩) ?_ ?_
                    rotate_left
                    ·intro w'
                     go_simp
                     with_reducible rfl
                    rotate_left
                    ·simp only [Act.put, sa_, s0_, s1_, i64_w, i32_w]
                     rfl
                    refine pure_ (i := 14) (N := some 14) (v := ?_) (a' := ?_) #[true, true, true, true, true, true, true, true, true, true, true, true, true, true, true] rfl rfl (any_of HT_.out (by kernel_rfl)) (fun _ _ _ h => h) (Or.inl ⟨by rfl, ?_⟩) ?_ ?_
                    rotate_left
                    ·intro w'
                     go_simp
                     with_reducible rfl
                    rotate_left
                    ·simp only [Act.put, sa_, s0_, s1_, i64_w, i32_w]
                     rfl
                    refine done_ (done_of HT_.out (by kernel_rfl)) ?_
                    try go_wp2
                    go_roundg k3
                    case measure => have := HJ5.out; have := HK2.out; have := HK3.out; omega
                    case rel => exact ⟨(t272), (wrap64 (x15_3 + 1)), (by first | rfl | (simp; done) | (simp [*]; done)), (by first | rfl | (simp; done) | (simp [*]; done)), H', ⟨by have := HJ5.out; have := HK2.out; have := HK3.out; omega⟩, ⟨by (with_reducible repeat (first | apply Kd.S_alloc | apply Kd.S_drewN | apply Kd.S_drew)); exact HO_9.out⟩, ⟨by (with_reducible repeat (first | apply Kd.S_alloc | apply Kd.S_drewN | apply Kd.S_drew)); exact HO_11.out⟩, ⟨by (with_reducible repeat (first | apply Kd.R_alloc | apply Kd.R_drewN | apply Kd.R_drew)); exact HO_12.out⟩, ⟨by repeat (first | (with_reducible exact HR268_0.out) | (with_reducible refine Kd.C_alloc ?_ _) | (with_reducible refine Kd.C_drewN ?_ _) | (with_reducible refine Kd.C_drew ?_) | exact HR268_0.out)⟩, ⟨by repeat (first | (with_reducible first | exact HB.out | apply below_alloc | apply pw_below_drewN | apply below_drew1) | exact HB.out)⟩⟩
                   ·rw [if_neg c27] at H
                    exact absurd H (by simp)
                  ·rw [if_neg c26] at H
                   exact absurd H (by simp)
                 ·rw [if_neg c25] at H
                  exact absurd H (by simp)
                ·rw [if_neg c24] at H
                 exact absurd H (by simp)
               ·replace c23 := Bool.eq_false_iff.mpr c23
                subst c23
                have H1 : (acmeref12_Culprits.l1 k3 t257 t261 x12_2 x13_2 false (wrap64 (x15_3 + 1))) = some (r1, r2) := by rw [if_neg (show ¬ (false = true) by decide)] at H; exact H
                clear H
                have H := H1
                clear H1
                have H' := Aside0.mk H
                clear H
                try go_wp2
                have n0_ := Aside0.mk (Kd.S_drew HO_9.out)
                have n1_ := Aside0.mk (Kd.S_drew HO_11.out)
                have n2_ := Aside0.mk (Kd.R_drew HO_12.out)
                have n3_ := Aside0.mk (Kd.C_drew HR268_0.out)
                have n4_ := Aside0.mk (below_drew1 HB.out)
                clear HO_9
                clear HO_11
                clear HO_12
                clear HR268_0
                clear HB
                have HO_9 := n0_
                have HO_11 := n1_
                have HO_12 := n2_
                have HR268_0 := n3_
                have HB := n4_
                clear n0_ n1_ n2_ n3_ n4_
                refine start_ (n := 15) (S := fun w' => True) (ds := []) #[false, false, false, false, false, false, false, false, false, false, false, false, false, false, false] (by kernel_rfl) rfl rfl trivial (fun hHeld => ?_); refine with_tabW acmeref12_Culprits.tab22 acmeref12_Culprits.bits22 (fun HT_ HW_ => ?_)
                generalize wr.drew = w31 at HO_9 HO_11 HO_12 HR268_0 HB hHeld ⊢
                refine pure_ (i := 0) (N := some 66) (v := ?_) (a' := ?_) #[true, false, false, false, false, false, false, false, false, false, false, false, false, false, false] rfl rfl (any_of HT_.out (by kernel_rfl)) (fun _ _ _ h => h) (Or.inl ⟨by rfl, ?_⟩) ?_ ?_
                rotate_left
                ·intro w'
                 go_simp
                 with_reducible rfl
                rotate_left
                ·simp only [Act.put, sa_, s0_, s1_, i64_w, i32_w]
                 rfl
                refine pure_ (i := 1) (N := some 67) (v := ?_) (a' := ?_) #[true, true, false, false, false, false, false, false, false, false, false, false, false, false, false] rfl rfl (any_of HT_.out (by kernel_rfl)) (fun _ _ _ h => h) (Or.inl ⟨by rfl, ?_⟩) ?_ ?_
                rotate_left
                ·intro w'
                 go_simp
                 with_reducible rfl
                rotate_left
                ·simp only [Act.put, sa_, s0_, s1_, i64_w, i32_w]
                 rfl
                refine pure_ (i := 2) (N := some 68) (v := undef) (a' := ?_) #[true, true, true, false, false, false, false, false, false, false, false, false, false, false, false] rfl rfl (any_of HT_.out (by kernel_rfl)) (fun _ _ _ h => h) (Or.inr ⟨by rfl, rfl⟩) ?_ ?_
                rotate_left
                ·simp only [Act.put, sa_, s0_, s1_, i64_w, i32_w]
                 rfl
                refine pure_ (i := 3) (N := some 69) (v := undef) (a' := ?_) #[true, true, true, true, false, false, false, false, false, false, false, false, false, false, false] rfl rfl (any_of HT_.out (by kernel_rfl)) (fun _ _ _ h => h) (Or.inr ⟨by rfl, rfl⟩) ?_ ?_
                rotate_left
                ·simp only [Act.put, sa_, s0_, s1_, i64_w, i32_w]
                 rfl
                refine pure_ (i := 4) (N := some 70) (v := undef) (a' := ?_) #[true, true, true, true, true, false, false, false, false, false, false, false, false, false, false] rfl rfl (any_of HT_.out (by kernel_rfl)) (fun _ _ _ h => h) (Or.inr ⟨by rfl, rfl⟩) ?_ ?_
                rotate_left
                ·simp only [Act.put, sa_, s0_, s1_, i64_w, i32_w]
                 rfl
                refine pure_ (i := 5) (N := some 71) (v := undef) (a' := ?_) #[true, true, true, true, true, true, false, false, false, false, false, false, false, false, false] rfl rfl (any_of HT_.out (by kernel_rfl)) (fun _ _ _ h => h) (Or.inr ⟨by rfl, rfl⟩) ?_ ?_
                rotate_left
                ·simp only [Act.put, sa_, s0_, s1_, i64_w, i32_w]
                 rfl
                refine pure_ (i := 6) (N := some 72) (v := undef) (a' := ?_) #[true, true, true, true, true, true, true, false, false, false, false, false, false, false, false] rfl rfl (any_of HT_.out (by kernel_rfl)) (fun _ _ _ h => h) (Or.inr ⟨by rfl, rfl⟩) ?_ ?_
                rotate_left
                ·simp only [Act.put, sa_, s0_, s1_, i64_w, i32_w]
                 rfl
                refine pure_ (i := 7) (N := some 73) (v := undef) (a' := ?_) #[true, true, true, true, true, true, true, true, false, false, false, false, false, false, false] rfl rfl (any_of HT_.out (by kernel_rfl)) (fun _ _ _ h => h) (Or.inr ⟨by rfl, rfl⟩) ?_ ?_
                rotate_left
                ·simp only [Act.put, sa_, s0_, s1_, i64_w, i32_w]
                 rfl
                refine pure_ (i := 8) (N := some 74) (v := undef) (a' := ?_) #[true, true, true, true, true, true, true, true, true, false, false, false, false, false, false] rfl rfl (any_of HT_.out (by kernel_rfl)) (fun _ _ _ h => h) (Or.inr ⟨by rfl, rfl⟩) ?_ ?_
                rotate_left
                ·simp only [Act.put, sa_, s0_, s1_, i64_w, i32_w]
                 rfl
                refine pure_ (i := 9) (N := some 75) (v := undef) (a' := ?_) #[true, true, true, true, true, true, true, true, true, true, false, false, false, false, false] rfl rfl (any_of HT_.out (by kernel_rfl)) (fun _ _ _ h => h) (Or.inr ⟨by rfl, rfl⟩) ?_ ?_
                rotate_left
                ·simp only [Act.put, sa_, s0_, s1_, i64_w, i32_w]
                 rfl
                refine pure_ (i := 10) (N := some 76) (v := undef) (a' := ?_) #[true, true, true, true, true, true, true, true, true, true, true, false, false, false, false] rfl rfl (any_of HT_.out (by kernel_rfl)) (fun _ _ _ h => h) (Or.inr ⟨by rfl, rfl⟩) ?_ ?_
                rotate_left
                ·simp only [Act.put, sa_, s0_, s1_, i64_w, i32_w]
                 rfl
                refine pure_ (i := 11) (N := some 77) (v := undef) (a' := ?_) #[true, true, true, true, true, true, true, true, true, true, true, true, false, false, false] rfl rfl (any_of HT_.out (by kernel_rfl)) (fun _ _ _ h => h) (Or.inr ⟨by rfl, rfl⟩) ?_ ?_
                rotate_left
                ·simp only [Act.put, sa_, s0_, s1_, i64_w, i32_w]
                 rfl
                refine pure_ (i := 12) (N := some 78) (v := undef) (a' := ?_) #[true, true, true, true, true, true, true, true, true, true, true, true, true, false, false] rfl rfl (any_of HT_.out (by kernel_rfl)) (fun _ _ _ h => h) (Or.inr ⟨by rfl, rfl⟩) ?_ ?_
                rotate_left
                ·simp only [Act.put, sa_, s0_, s1_, i64_w, i32_w]
                 rfl
                refine pure_ (i := 13) (N := some 79) (v := ?_) (a' := ?_) #[true, true, true, true, true, true, true, true, true, true, true, true, true, true, false] rfl rfl (any_of HT_.out (by kernel_rfl)) (fun _ _ _ h => h) (Or.inl ⟨by rfl, ?_⟩) ?_ ?_
                rotate_left
                ·intro w'
                 go_simp
                 with_reducible rfl
                rotate_left
                ·simp only [Act.put, sa_, s0_, s1_, i64_w, i32_w]
                 rfl
                refine pure_ (i := 14) (N := some 14) (v := ?_) (a' := ?_) #[true, true, true, true, true, true, true, true, true, true, true, true, true, true, true] rfl rfl (any_of HT_.out (by kernel_rfl)) (fun _ _ _ h => h) (Or.inl ⟨by rfl, ?_⟩) ?_ ?_
                rotate_left
                ·intro w'
                 go_simp
                 with_reducible rfl
                rotate_left
                ·simp only [Act.put, sa_, s0_, s1_, i64_w, i32_w]
                 rfl
                refine done_ (done_of HT_.out (by kernel_rfl)) ?_
                try go_wp2
                go_roundg k3
                case measure => have := HJ5.out; have := HK2.out; have := HK3.out; omega
                case rel => exact ⟨(false), (wrap64 (x15_3 + 1)), (by first | rfl | (simp; done) | (simp [*]; done)), (by first | rfl | (simp; done) | (simp [*]; done)), H', ⟨by have := HJ5.out; have := HK2.out; have := HK3.out; omega⟩, ⟨by (with_reducible repeat (first | apply Kd.S_alloc | apply Kd.S_drewN | apply Kd.S_drew)); exact HO_9.out⟩, ⟨by (with_reducible repeat (first | apply Kd.S_alloc | apply Kd.S_drewN | apply Kd.S_drew)); exact HO_11.out⟩, ⟨by (with_reducible repeat (first | apply Kd.R_alloc | apply Kd.R_drewN | apply Kd.R_drew)); exact HO_12.out⟩, ⟨by repeat (first | (with_reducible exact HR268_0.out) | (with_reducible refine Kd.C_alloc ?_ _) | (with_reducible refine Kd.C_drewN ?_ _) | (with_reducible refine Kd.C_drew ?_) | exact HR268_0.out)⟩, ⟨by repeat (first | (with_reducible first | exact HB.out | apply below_alloc | apply pw_below_drewN | apply below_drew1) | exact HB.out)⟩⟩
              ·rw [if_neg c22] at H
               have c22b0 : decide (x15_3 < (t257.length : Int)) = false := decide_eq_false c22
               clear c22
               have H' := Aside0.mk H
               clear H
               go_wp2
               go_loopg [14, 16] k3 (fun kq v14 v16 w' => ∃ (x14_4 : Bool) (x16_4 : Int), v14 = .bool x14_4 ∧ v16 = .int .i64 x16_4 ∧ Aside0 (acmeref12_Culprits.l2 kq t257 t261 x12_2 x13_2 x14_4 x16_4 = some (r1, r2)) ∧ Aside0 (kq ≤ k3) ∧ Aside0 (Kd.S (Kd.slice 79 k79) 62 w' w.heap.size (fun k_ => some k_ ≠ (v263 : Value).ownBlock ∧ some k_ ≠ (u12 : Value).ownBlock) (.slice (some ad268) t257.length co21) t257) ∧ Aside0 (Kd.S (Kd.slice 79 k79) 62 w' w.heap.size (fun k_ => some k_ ≠ ((.slice (some ad268) t257.length co21) : Value).ownBlock ∧ some k_ ≠ (u12 : Value).ownBlock) v263 t261) ∧ Aside0 (Kd.R k79 79 w' w.heap.size (fun _ => True) u12 x12_2) ∧ Aside0 (Kd.C k79 w' A268_0 (rd_L8 t257 0).length (rd_L8 t257 0)) ∧ Aside0 (Below w.heap.size w w'))
               case atStart => exact ⟨(x14_3), (0), (by first | rfl | (simp; done) | (simp [*]; done)), (by first | rfl | (simp; done) | (simp [*]; done)), H', ⟨Nat.le_refl _⟩, ⟨by (with_reducible repeat (first | apply Kd.S_alloc | apply Kd.S_drewN | apply Kd.S_drew)); exact HO_9.out⟩, ⟨by (with_reducible repeat (first | apply Kd.S_alloc | apply Kd.S_drewN | apply Kd.S_drew)); exact HO_11.out⟩, ⟨by (with_reducible repeat (first | apply Kd.R_alloc | apply Kd.R_drewN | apply Kd.R_drew)); exact HO_12.out⟩, ⟨by repeat (first | (with_reducible exact HR268_0.out) | (with_reducible refine Kd.C_alloc ?_ _) | (with_reducible refine Kd.C_drewN ?_ _) | (with_reducible refine Kd.C_drew ?_) | exact HR268_0.out)⟩, ⟨by repeat (first | (with_reducible first | exact HB.out | apply below_alloc | apply pw_below_drewN | apply below_drew1) | exact HB.out)⟩⟩
               case round => as_aux_lemma =>
                clear H'
                try clear c1; try clear c2; try clear p2; try clear q2; try clear hx2; try clear qi2; try clear c3; try clear c4; try clear c5; try clear c5b0; try clear c5b1; try clear p6; try clear c8; try clear c8b0; try clear c8b1; try clear c9; try clear c10; try clear c10b0; try clear c10b1; try clear c10b2; try clear c12; try clear c12b0; try clear c12b1; try clear c14; try clear c14b0; try clear c14b1; try clear c19; try clear c19b0; try clear c19b1; try clear c20; try clear c20b0; try clear c22; try clear c22b0; try clear c23; try clear c24; try clear c24b0; try clear c25; try clear c25b0; try clear c25b1; try clear c26; try clear c26b0; try clear p26; try clear q26; try clear hx26; try clear qi26; try clear c27; try clear c27b0; try clear p27; try clear q27; try clear hx27; try clear qi27; try clear hx268_0; try clear hx269_0; try clear hx270_0; try clear hx271_0; try clear hx271_1; try clear hx271_2; try clear p2; try clear p268; try clear p269; try clear p270; try clear p271; try clear q2; try clear q268; try clear q269; try clear q270; try clear q271
                obtain ⟨x14_4, x16_4, rfl, rfl, HA, HK4, HO_9, HO_11, HO_12, HR268_0, HB⟩ := hrel
                cases gk with
                | zero => exact absurd HA.out (by simp [acmeref12_Culprits.l2])
                | succ k4 =>
                 have H := HA.out
                 clear HA
                 simp only [acmeref12_Culprits.l2] at H
                 by_cases c32 : x16_4 < (t261.length : Int)
                 ·rw [if_pos c32] at H
                  have c32b0 : decide (x16_4 < (t261.length : Int)) = true := decide_eq_true c32
                  clear c32
                  by_cases c33 : x14_4 = true
                  ·subst c33
                   have H1 : (if 0 ≤ x16_4 then (if 0 < (t257.length : Int) then (if 0 ≤ x13_2 then (if x13_2 < ((rd_L8 t257 0).length : Int) then ((acmeref12_Caused.f k4 (rd_L8 t261 x16_4) ((rd_T79 (rd_L8 t257 0) x13_2).f0) ((rd_T79 (rd_L8 t257 0) x13_2).f1) ((rd_T79 (rd_L8 t257 0) x13_2).f2)).bind fun t276 => (acmeref12_Culprits.l2 k4 t257 t261 x12_2 x13_2 (!t276) (wrap64 (x16_4 + 1)))) else (none)) else (none)) else (none)) else (none)) = some (r1, r2) := by rw [if_pos rfl] at H; exact H
                   clear H
                   have H := H1
                   clear H1
                   by_cases c34 : 0 ≤ x16_4
                   ·rw [if_pos c34] at H
                    have c34b0 : decide (0 ≤ x16_4) = true := decide_eq_true c34
                    clear c34
                    by_cases c35 : 0 < (t257.length : Int)
                    ·rw [if_pos c35] at H
                     have c35b0 : decide (0 < (t257.length : Int)) = true := decide_eq_true c35
                     have c35b1 : decide (0 < t257.length) = true := decide_eq_true (by omega)
                     clear c35
                     by_cases c36 : 0 ≤ x13_2
                     ·rw [if_pos c36] at H
                      have c36b0 : decide (0 ≤ x13_2) = true := decide_eq_true c36
                      clear c36
                      by_cases c37 : x13_2 < ((rd_L8 t257 0).length : Int)
                      ·rw [if_pos c37] at H
                       have c37b0 : decide (x13_2 < ((rd_L8 t257 0).length : Int)) = true := decide_eq_true c37
                       clear c37
                       replace H := Option.bind_eq_some_iff.mp H
                       obtain ⟨t276, A380, H⟩ := H; (try dsimp only at H)
                       have A38 := Aside0.mk A380
                       clear A380
                       have H' := Aside0.mk H
                       clear H
                       obtain ⟨Ao39, co39, eo39⟩ := Kd.S_slice HO_11.out
                       subst eo39
                       try go_wp2
                       have n0_ := Aside0.mk (Kd.S_drew HO_9.out)
                       have n1_ := Aside0.mk (Kd.S_drew HO_11.out)
                       have n2_ := Aside0.mk (Kd.R_drew HO_12.out)
                       have n3_ := Aside0.mk (Kd.C_drew HR268_0.out)
                       have n4_ := Aside0.mk (below_drew1 HB.out)
                       clear HO_9
                       clear HO_11
                       clear HO_12
                       clear HR268_0
                       clear HB
                       have HO_9 := n0_
                       have HO_11 := n1_
                       have HO_12 := n2_
                       have HR268_0 := n3_
                       have HB := n4_
                       clear n0_ n1_ n2_ n3_ n4_
                       have p273 : 0 ≤ (x16_4 : Int) := of_decide_eq_true ‹_›
                       have q273 : x16_4 < (t261.length : Int) := of_decide_eq_true ‹_›
                       obtain ⟨ad273, A273_0, c273_0, e273, hx273_0, hl273_0, hi273_0⟩ := at_L8 (Kd.S_reads' HO_11.out).2.2 x16_4 p273 q273
                       cases e273
                       obtain ⟨ce273, hce273, hMe273, hcc273⟩ := Kd.S_get HO_11.out [] x16_4 p273 (by first | exact q273 | exact of_decide_eq_true ‹_› | (have e_ := (Kd.S_reads' HO_11.out).1; omega))
                       obtain ⟨ve273_0, rfl, ge273_0⟩ := hMe273
                       have hv273_0 := hcc273 0 _ rfl
                       rw [Nat.add_zero, show ((Kd.slice 79 k79)).sz = 1 from rfl, Nat.mul_one] at hv273_0
                       replace hv273_0 := Option.some.inj (hv273_0.symm.trans hx273_0)
                       rw [hv273_0] at ge273_0
                       have HL273_0 := Aside0.mk (show Kd.R k79 79 _ _ _ _ (rd_L8 t261 x16_4) from ge273_0)
                       clear hv273_0 ge273_0
                       clear hcc273 hce273
                       have HR273_0 := Aside0.mk hi273_0
                       have HC273_0 := Aside0.mk hl273_0
                       clear hi273_0 hl273_0
                       replace p273 := eq_true p273
                       replace q273 := eq_true q273
                       have p274 : 0 ≤ (0 : Int) := (by omega)
                       have q274 : 0 < (t257.length : Int) := of_decide_eq_true ‹_›
                       obtain ⟨ad274, A274_0, c274_0, e274, hx274_0, hl274_0, hi274_0⟩ := at_L8 (Kd.S_reads' HO_9.out).2.2 0 p274 q274
                       obtain rfl : ad268 = ad274 := (by injection e274)
                       obtain ⟨ce274, hce274, hMe274, hcc274⟩ := Kd.S_get HO_9.out [] 0 p274 (by first | exact q274 | exact of_decide_eq_true ‹_› | (have e_ := (Kd.S_reads' HO_9.out).1; omega))
                       obtain ⟨ve274_0, rfl, ge274_0⟩ := hMe274
                       have hv274_0 := hcc274 0 _ rfl
                       rw [Nat.add_zero, show ((Kd.slice 79 k79)).sz = 1 from rfl, Nat.mul_one] at hv274_0
                       replace hv274_0 := Option.some.inj (hv274_0.symm.trans hx274_0)
                       rw [hv274_0] at ge274_0
                       have HL274_0 := Aside0.mk (show Kd.R k79 79 _ _ _ _ (rd_L8 t257 0) from ge274_0)
                       clear hv274_0 ge274_0
                       clear hcc274 hce274
                       have qi274 : (0 < t257.length) = True := eq_true (by omega)
                       (try rw [show ((0 : Int)).toNat = 0 from rfl] at hx274_0)
                       (try rw [Addr.add_zero'] at hx274_0)
                       have HR274_0 := Aside0.mk hi274_0
                       have HC274_0 := Aside0.mk hl274_0
                       clear hi274_0 hl274_0
                       replace p274 := eq_true p274
                       replace q274 := eq_true q274
                       have p275 : 0 ≤ (x13_2 : Int) := of_decide_eq_true ‹_›
                       have q275 : x13_2 < ((rd_L8 t257 0).length : Int) := of_decide_eq_true ‹_›
                       obtain ⟨ad275, e275, hx275_0, hx275_1, hx275_2⟩ := at_T79 (by repeat (first | (with_reducible exact HR274_0.out) | (with_reducible refine Kd.C_alloc ?_ _) | (with_reducible refine Kd.C_drewN ?_ _) | (with_reducible refine Kd.C_drew ?_) | exact HR274_0.out)) x13_2 p275 q275
                       cases e275
                       replace p275 := eq_true p275
                       replace q275 := eq_true q275
                       refine start_ (n := 16) (S := fun w' => w'.cell? (ad273.add (x16_4).toNat) = some (.slice A273_0 (rd_L8 t261 x16_4).length c273_0) ∧ w'.cell? ad268 = some (.slice (some ad275) (rd_L8 t257 0).length c274_0) ∧ w'.cell? (ad275.add ((x13_2).toNat * 3)) = some (.int .i64 ((rd_T79 (rd_L8 t257 0) x13_2).f0)) ∧ w'.cell? ⟨(ad275.add ((x13_2).toNat * 3)).block, (ad275.add ((x13_2).toNat * 3)).off + 1, none⟩ = some (.int .i64 ((rd_T79 (rd_L8 t257 0) x13_2).f1)) ∧ w'.cell? ⟨(ad275.add ((x13_2).toNat * 3)).block, (ad275.add ((x13_2).toNat * 3)).off + 2, none⟩ = some (.int .i64 ((rd_T79 (rd_L8 t257 0) x13_2).f2))) (ds := []) #[false, false, false, false, false, false, false, false, false, false, false, false, false, false, false, false] (by kernel_rfl) rfl rfl ⟨hx273_0, hx274_0, hx275_0, hx275_1, hx275_2⟩ (fun hHeld => ?_); refine with_tabW acmeref12_Culprits.tab26 acmeref12_Culprits.bits26 (fun HT_ HW_ => ?_)
                       generalize wr.drew = w40 at HO_9 HO_11 HO_12 HR268_0 HB HL273_0 HL274_0 HR273_0 HR274_0 hx273_0 hx274_0 hx275_0 hx275_1 hx275_2 hHeld ⊢
                       refine pure_ (i := 0) (N := some 86) (v := ?_) (a' := ?_) #[true, false, false, false, false, false, false, false, false, false, false, false, false, false, false, false] rfl rfl (any_of HT_.out (by kernel_rfl)) (fun _ _ _ h => h) (Or.inl ⟨by rfl, ?_⟩) ?_ ?_
                       rotate_left
                       ·intro w'
                        go_simp
                        with_reducible rfl
                       rotate_left
                       ·simp only [Act.put, sa_, s0_, s1_, i64_w, i32_w]
                        rfl
                       refine pure_ (i := 1) (N := some 87) (v := ?_) (a' := ?_) #[true, true, false, false, false, false, false, false, false, false, false, false, false, false, false, false] rfl rfl (any_of HT_.out (by kernel_rfl)) (fun _ _ _ h => h) (Or.inl ⟨by rfl, ?_⟩) ?_ ?_
                       rotate_left
                       ·intro w'
                        go_simp
                        with_reducible rfl
                       rotate_left
                       ·simp only [Act.put, sa_, s0_, s1_, i64_w, i32_w]
                        rfl
                       refine pure_ (i := 2) (N := some 88) (v := ?_) (a' := ?_) #[true, true, true, false, false, false, false, false, false, false, false, false, false, false, false, false] rfl rfl (any_of HT_.out (by kernel_rfl)) (fun _ _ _ h => h) (Or.inl ⟨by rfl, ?_⟩) ?_ ?_
                       rotate_left
                       ·intro w'
                        go_simp
                        with_reducible rfl
                       rotate_left
                       ·simp only [Act.put, sa_, s0_, s1_, i64_w, i32_w]
                        rfl
                       refine pure_ (i := 3) (N := some 89) (v := ?_) (a' := ?_) #[true, true, true, true, false, false, false, false, false, false, false, false, false, false, false, false] rfl rfl (any_of HT_.out (by kernel_rfl)) (fun _ _ _ h => h) (Or.inl ⟨by rfl, ?_⟩) ?_ ?_
                       rotate_left
                       ·intro w'
                        go_simp
                        with_reducible rfl
                       rotate_left
                       ·simp only [Act.put, sa_, s0_, s1_, i64_w, i32_w]
                        rfl
                       refine pure_ (i := 4) (N := some 90) (v := ?_) (a' := ?_) #[true, true, true, true, true, false, false, false, false, false, false, false, false, false, false, false] rfl rfl (any_of HT_.out (by kernel_rfl)) (fun _ _ _ h => h) (Or.inl ⟨by rfl, ?_⟩) ?_ ?_
                       rotate_left
                       ·intro w'
                        go_simp
                        with_reducible rfl
                       rotate_left
                       ·simp only [Act.put, sa_, s0_, s1_, i64_w, i32_w]
                        rfl
                       refine pure_ (i := 6) (N := some 92) (v := ?_) (a' := ?_) #[true, true, true, true, true, false, true, false, false, false, false, false, false, false, false, false] rfl rfl (any_of HT_.out (by kernel_rfl)) (fun _ _ _ h => h) (Or.inl ⟨by rfl, ?_⟩) ?_ ?_
                       rotate_left
                       ·intro w'
                        go_simp
                        with_reducible rfl
                       rotate_left
                       ·simp only [Act.put, sa_, s0_, s1_, i64_w, i32_w]
                        rfl
                       refine pure_ (i := 7) (N := some 93) (v := ?_) (a' := ?_) #[true, true, true, true, true, false, true, true, false, false, false, false, false, false, false, false] rfl rfl (any_of HT_.out (by kernel_rfl)) (fun _ _ _ h => h) (Or.inl ⟨by rfl, ?_⟩) ?_ ?_
                       rotate_left
                       ·intro w'
                        go_simp
                        with_reducible rfl
                       rotate_left
                       ·simp only [Act.put, sa_, s0_, s1_, i64_w, i32_w]
                        rfl
                       refine pure_ (i := 9) (N := some 95) (v := ?_) (a' := ?_) #[true, true, true, true, true, false, true, true, false, true, false, false, false, false, false, false] rfl rfl (any_of HT_.out (by kernel_rfl)) (fun _ _ _ h => h) (Or.inl ⟨by rfl, ?_⟩) ?_ ?_
                       rotate_left
                       ·intro w'
                        go_simp
                        with_reducible rfl
                       rotate_left
                       ·simp only [Act.put, sa_, s0_, s1_, i64_w, i32_w]
                        rfl
                       refine take_ (i := 5) (N := some 91) (v := ?_) (a' := ?_) #[true, true, true, true, true, true, true, true, false, true, false, false, false, false, false, false] rfl rfl (take_ofW HT_.out HW_.out (by kernel_rfl)) (fun _ _ _ h => h) (Or.inl ⟨by rfl, ?_⟩) hHeld ?_ ?_
                       rotate_left
                       ·rintro w' ⟨s0, s1, s2, s3, s4⟩
                        go_simp
                        with_reducible rfl
                       rotate_left
                       ·simp only [Act.put, sa_, s0_, s1_, i64_w, i32_w]
                        rfl
                       refine take_ (i := 8) (N := some 94) (v := ?_) (a' := ?_) #[true, true, true, true, true, true, true, true, true, true, false, false, false, false, false, false] rfl rfl (take_ofW HT_.out HW_.out (by kernel_rfl)) (fun _ _ _ h => h) (Or.inl ⟨by rfl, ?_⟩) hHeld ?_ ?_
                       rotate_left
                       ·rintro w' ⟨s0, s1, s2, s3, s4⟩
                        go_simp
                        with_reducible rfl
                       rotate_left
                       ·simp only [Act.put, sa_, s0_, s1_, i64_w, i32_w]
                        rfl
                       refine pure_ (i := 10) (N := some 96) (v := ?_) (a' := ?_) #[true, true, true, true, true, true, true, true, true, true, true, false, false, false, false, false] rfl rfl (any_of HT_.out (by kernel_rfl)) (fun _ _ _ h => h) (Or.inl ⟨by rfl, ?_⟩) ?_ ?_
                       rotate_left
                       ·intro w'
                        go_simp
                        with_reducible rfl
                       rotate_left
                       ·simp only [Act.put, sa_, s0_, s1_, i64_w, i32_w]
                        rfl
                       refine take_ (i := 11) (N := some 97) (v := ?_) (a' := ?_) #[true, true, true, true, true, true, true, true, true, true, true, true, false, false, false, false] rfl rfl (take_ofW HT_.out HW_.out (by kernel_rfl)) (fun _ _ _ h => h) (Or.inl ⟨by rfl, ?_⟩) hHeld ?_ ?_
                       rotate_left
                       ·rintro w' ⟨s0, s1, s2, s3, s4⟩
                        go_simp
                        with_reducible rfl
                       rotate_left
                       ·simp only [Act.put, sa_, s0_, s1_, i64_w, i32_w]
                        rfl
                       refine one_ (i := 12) (N := some 98) #[true, true, true, true, true, true, true, true, true, true, true, true, true, false, false, false] rfl rfl (one_of HT_.out (by kernel_rfl)) (by decide) (fun K hK => ?_)
                       refine goes_ Try.func47 (by kernel_rfl) rfl #[.slice A273_0 (rd_L8 t261 x16_4).length c273_0, .agg #[.int .i64 ((rd_T79 (rd_L8 t257 0) x13_2).f0), .int .i64 ((rd_T79 (rd_L8 t257 0) x13_2).f1), .int .i64 ((rd_T79 (rd_L8 t257 0) x13_2).f2)]] (by rfl) rfl rfl (by (try simp only [List.map_toArray, List.map_cons, List.map_nil]); first | done | rfl | (simp only [List.length_drop, List.length_take]; rfl)) ?_
                       with_reducible refine (acmeref12_Caused.calls k4 _ _ (rd_L8 t261 x16_4) ((rd_T79 (rd_L8 t257 0) x13_2).f0) ((rd_T79 (rd_L8 t257 0) x13_2).f1) ((rd_T79 (rd_L8 t257 0) x13_2).f2) t276 _ ?side1 ?side2 A38.out).mono ?_
                       (case side1 => repeat (first | exact (by repeat (first | (with_reducible exact HR273_0.out) | (with_reducible refine Kd.C_alloc ?_ _) | (with_reducible refine Kd.C_drewN ?_ _) | (with_reducible refine Kd.C_drew ?_) | exact HR273_0.out)) | (with_reducible refine Kd.C_alloc ?_ _) | (with_reducible refine Kd.C_drewN ?_ _) | (with_reducible refine Kd.C_drew ?_)))
                       (case side2 => exact HC273_0.out)
                       rintro e w41 ⟨rfl, hb⟩
                       have HS0_ := (hb.cell (World.block_lt_of_cell? _ _ (hHeld.1))).trans (hHeld.1)
                       have HS1_ := (hb.cell (World.block_lt_of_cell? _ _ (hHeld.2.1))).trans (hHeld.2.1)
                       have HS2_ := (hb.cell (World.block_lt_of_cell? _ _ (hHeld.2.2.1))).trans (hHeld.2.2.1)
                       have HS3_ := (hb.cell (World.block_lt_of_cell? _ _ (hHeld.2.2.2.1))).trans (hHeld.2.2.2.1)
                       have HS4_ := (hb.cell (World.block_lt_of_cell? _ _ (hHeld.2.2.2.2))).trans (hHeld.2.2.2.2)
                       refine ⟨_, rfl, ?_⟩
                       have n0_ := Aside0.mk (Kd.S_below (by (with_reducible repeat (first | apply Kd.S_alloc | apply Kd.S_drewN | apply Kd.S_drew)); exact HO_9.out) hb)
                       have n1_ := Aside0.mk (Kd.S_below (by (with_reducible repeat (first | apply Kd.S_alloc | apply Kd.S_drewN | apply Kd.S_drew)); exact HO_11.out) hb)
                       have n2_ := Aside0.mk (Kd.R_below (by (with_reducible repeat (first | apply Kd.R_alloc | apply Kd.R_drewN | apply Kd.R_drew)); exact HO_12.out) hb)
                       have n3_ := Aside0.mk (Kd.R_below (by (with_reducible repeat (first | apply Kd.R_alloc | apply Kd.R_drewN | apply Kd.R_drew)); exact HL273_0.out) hb)
                       have n4_ := Aside0.mk (Kd.R_below (by (with_reducible repeat (first | apply Kd.R_alloc | apply Kd.R_drewN | apply Kd.R_drew)); exact HL274_0.out) hb)
                       have n5_ := Aside0.mk (Kd.C_below (by repeat (first | (with_reducible exact HR268_0.out) | (with_reducible refine Kd.C_alloc ?_ _) | (with_reducible refine Kd.C_drewN ?_ _) | (with_reducible refine Kd.C_drew ?_) | exact HR268_0.out)) hb)
                       have n6_ := Aside0.mk (Kd.C_below (by repeat (first | (with_reducible exact HR273_0.out) | (with_reducible refine Kd.C_alloc ?_ _) | (with_reducible refine Kd.C_drewN ?_ _) | (with_reducible refine Kd.C_drew ?_) | exact HR273_0.out)) hb)
                       have n7_ := Aside0.mk (Kd.C_below (by repeat (first | (with_reducible exact HR274_0.out) | (with_reducible refine Kd.C_alloc ?_ _) | (with_reducible refine Kd.C_drewN ?_ _) | (with_reducible refine Kd.C_drew ?_) | exact HR274_0.out)) hb)
                       have n8_ := Aside0.mk (below_step HB.out hb)
                       clear HO_9
                       clear HO_11
                       clear HO_12
                       clear HL273_0
                       clear HL274_0
                       clear HR268_0
                       clear HR273_0
                       clear HR274_0
                       clear HB
                       have HO_9 := n0_
                       have HO_11 := n1_
                       have HO_12 := n2_
                       have HL273_0 := n3_
                       have HL274_0 := n4_
                       have HR268_0 := n5_
                       have HR273_0 := n6_
                       have HR274_0 := n7_
                       have HB := n8_
                       clear n0_ n1_ n2_ n3_ n4_ n5_ n6_ n7_ n8_
                       (try clear hb)
                       (try clear hb2)
                       (try clear hk)
                       (try clear hi)
                       refine hK.out _ _ ⟨HS0_, HS1_, HS2_, HS3_, HS4_⟩ (fun hHeld => ?_)
                       clear hK K
                       refine norm_ (a' := ?_) ?_ ?_
                       rotate_left
                       ·show Act.put _ (some 98) _ = _
                        simp only [Act.put, sa_, s0_, s1_, i64_w, i32_w]
                        rfl
                       refine pure_ (i := 13) (N := some 99) (v := ?_) (a' := ?_) #[true, true, true, true, true, true, true, true, true, true, true, true, true, true, false, false] rfl rfl (any_of HT_.out (by kernel_rfl)) (fun _ _ _ h => h) (Or.inl ⟨by rfl, ?_⟩) ?_ ?_
                       rotate_left
                       ·intro w'
                        go_simp
                        with_reducible rfl
                       rotate_left
                       ·simp only [Act.put, sa_, s0_, s1_, i64_w, i32_w]
                        rfl
                       refine pure_ (i := 14) (N := some 100) (v := ?_) (a' := ?_) #[true, true, true, true, true, true, true, true, true, true, true, true, true, true, true, false] rfl rfl (any_of HT_.out (by kernel_rfl)) (fun _ _ _ h => h) (Or.inl ⟨by rfl, ?_⟩) ?_ ?_
                       rotate_left
                       ·intro w'
                        go_simp
                        with_reducible rfl
                       rotate_left
                       ·simp only [Act.put, sa_, s0_, s1_, i64_w, i32_w]
                        rfl
                       refine pure_ (i := 15) (N := some 14) (v := ?_) (a' := ?_) #[true, true, true, true, true, true, true, true, true, true, true, true, true, true, true, true] rfl rfl (any_of HT_.out (by kernel_rfl)) (fun _ _ _ h => h) (Or.inl ⟨by rfl, ?_⟩) ?_ ?_
                       rotate_left
                       ·intro w'
                        go_simp
                        with_reducible rfl
                       rotate_left
                       ·simp only [Act.put, sa_, s0_, s1_, i64_w, i32_w]
                        rfl
                       refine done_ (done_of HT_.out (by kernel_rfl)) ?_
                       try go_wp2
                       go_roundg k4
                       case measure => have := HJ5.out; have := HK2.out; have := HK3.out; have := HK4.out; omega
                       case rel => exact ⟨(!t276), (wrap64 (x16_4 + 1)), (by first | rfl | (simp; done) | (simp [*]; done)), (by first | rfl | (simp; done) | (simp [*]; done)), H', ⟨by have := HJ5.out; have := HK2.out; have := HK3.out; have := HK4.out; omega⟩, ⟨by (with_reducible repeat (first | apply Kd.S_alloc | apply Kd.S_drewN | apply Kd.S_drew)); exact HO_9.out⟩, ⟨by (with_reducible repeat (first | apply Kd.S_alloc | apply Kd.S_drewN | apply Kd.S_drew)); exact HO_11.out⟩, ⟨by (with_reducible repeat (first | apply Kd.R_alloc | apply Kd.R_drewN | apply Kd.R_drew)); exact HO_12.out⟩, ⟨by repeat (first | (with_reducible exact HR268_0.out) | (with_reducible refine Kd.C_alloc ?_ _) | (with_reducible refine Kd.C_drewN ?_ _) | (with_reducible refine Kd.C_drew ?_) | exact HR268_0.out)⟩, ⟨by repeat (first | (with_reducible first | exact HB.out | apply below_alloc | apply pw_below_drewN | apply below_drew1) | exact HB.out)⟩⟩
                      ·rw [if_neg c37] at H
                       exact absurd H (by simp)
                     ·rw [if_neg c36] at H
                      exact absurd H (by simp)
                    ·rw [if_neg c35] at H
                     exact absurd H (by simp)
                   ·rw [if_neg c34] at H
                    exact absurd H (by simp)
                  ·replace c33 := Bool.eq_false_iff.mpr c33
                   subst c33
                   have H1 : (acmeref12_Culprits.l2 k4 t257 t261 x12_2 x13_2 false (wrap64 (x16_4 + 1))) = some (r1, r2) := by rw [if_neg (show ¬ (false = true) by decide)] at H; exact H
                   clear H
                   have H := H1
                   clear H1
                   have H' := Aside0.mk H
                   clear H
                   obtain ⟨Ao42, co42, eo42⟩ := Kd.S_slice HO_11.out
                   subst eo42
                   try go_wp2
                   have n0_ := Aside0.mk (Kd.S_drew HO_9.out)
                   have n1_ := Aside0.mk (Kd.S_drew HO_11.out)
                   have n2_ := Aside0.mk (Kd.R_drew HO_12.out)
                   have n3_ := Aside0.mk (Kd.C_drew HR268_0.out)
                   have n4_ := Aside0.mk (below_drew1 HB.out)
                   clear HO_9
                   clear HO_11
                   clear HO_12
                   clear HR268_0
                   clear HB
                   have HO_9 := n0_
                   have HO_11 := n1_
                   have HO_12 := n2_
                   have HR268_0 := n3_
                   have HB := n4_
                   clear n0_ n1_ n2_ n3_ n4_
                   refine start_ (n := 16) (S := fun w' => True) (ds := []) #[false, false, false, false, false, false, false, false, false, false, false, false, false, false, false, false] (by kernel_rfl) rfl rfl trivial (fun hHeld => ?_); refine with_tabW acmeref12_Culprits.tab26 acmeref12_Culprits.bits26 (fun HT_ HW_ => ?_)
                   generalize wr.drew = w43 at HO_9 HO_11 HO_12 HR268_0 HB hHeld ⊢
                   refine pure_ (i := 0) (N := some 86) (v := ?_) (a' := ?_) #[true, false, false, false, false, false, false, false, false, false, false, false, false, false, false, false] rfl rfl (any_of HT_.out (by kernel_rfl)) (fun _ _ _ h => h) (Or.inl ⟨by rfl, ?_⟩) ?_ ?_
                   rotate_left
                   ·intro w'
                    go_simp
                    with_reducible rfl
                   rotate_left
                   ·simp only [Act.put, sa_, s0_, s1_, i64_w, i32_w]
                    rfl
                   refine pure_ (i := 1) (N := some 87) (v := ?_) (a' := ?_) #[true, true, false, false, false, false, false, false, false, false, false, false, false, false, false, false] rfl rfl (any_of HT_.out (by kernel_rfl)) (fun _ _ _ h => h) (Or.inl ⟨by rfl, ?_⟩) ?_ ?_
                   rotate_left
                   ·intro w'
                    go_simp
                    with_reducible rfl
                   rotate_left
                   ·simp only [Act.put, sa_, s0_, s1_, i64_w, i32_w]
                    rfl
                   refine pure_ (i := 2) (N := some 88) (v := undef) (a' := ?_) #[true, true, true, false, false, false, false, false, false, false, false, false, false, false, false, false] rfl rfl (any_of HT_.out (by kernel_rfl)) (fun _ _ _ h => h) (Or.inr ⟨by rfl, rfl⟩) ?_ ?_
                   rotate_left
                   ·simp only [Act.put, sa_, s0_, s1_, i64_w, i32_w]
                    rfl
                   refine pure_ (i := 3) (N := some 89) (v := undef) (a' := ?_) #[true, true, true, true, false, false, false, false, false, false, false, false, false, false, false, false] rfl rfl (any_of HT_.out (by kernel_rfl)) (fun _ _ _ h => h) (Or.inr ⟨by rfl, rfl⟩) ?_ ?_
                   rotate_left
                   ·simp only [Act.put, sa_, s0_, s1_, i64_w, i32_w]
                    rfl
                   refine pure_ (i := 4) (N := some 90) (v := undef) (a' := ?_) #[true, true, true, true, true, false, false, false, false, false, false, false, false, false, false, false] rfl rfl (any_of HT_.out (by kernel_rfl)) (fun _ _ _ h => h) (Or.inr ⟨by rfl, rfl⟩) ?_ ?_
                   rotate_left
                   ·simp only [Act.put, sa_, s0_, s1_, i64_w, i32_w]
                    rfl
                   refine pure_ (i := 5) (N := some 91) (v := undef) (a' := ?_) #[true, true, true, true, true, true, false, false, false, false, false, false, false, false, false, false] rfl rfl (any_of HT_.out (by kernel_rfl)) (fun _ _ _ h => h) (Or.inr ⟨by rfl, rfl⟩) ?_ ?_
                   rotate_left
                   ·simp only [Act.put, sa_, s0_, s1_, i64_w, i32_w]
                    rfl
                   refine pure_ (i := 6) (N := some 92) (v := undef) (a' := ?_) #[true, true, true, true, true, true, true, false, false, false, false, false, false, false, false, false] rfl rfl (any_of HT_.out (by kernel_rfl)) (fun _ _ _ h => h) (Or.inr ⟨by rfl, rfl⟩) ?_ ?_
                   rotate_left
                   ·simp only [Act.put, sa_, s0_, s1_, i64_w, i32_w]
                    rfl
                   refine pure_ (i := 7) (N := some 93) (v := undef) (a' := ?_) #[true, true, true, true, true, true, true, true, false, false, false, false, false, false, false, false] rfl rfl (any_of HT_.out (by kernel_rfl)) (fun _ _ _ h => h) (Or.inr ⟨by rfl, rfl⟩) ?_ ?_
                   rotate_left
                   ·simp only [Act.put, sa_, s0_, s1_, i64_w, i32_w]
                    rfl
                   refine pure_ (i := 8) (N := some 94) (v := undef) (a' := ?_) #[true, true, true, true, true, true, true, true, true, false, false, false, false, false, false, false] rfl rfl (any_of HT_.out (by kernel_rfl)) (fun _ _ _ h => h) (Or.inr ⟨by rfl, rfl⟩) ?_ ?_
                   rotate_left
                   ·simp only [Act.put, sa_, s0_, s1_, i64_w, i32_w]
                    rfl
                   refine pure_ (i := 9) (N := some 95) (v := undef) (a' := ?_) #[true, true, true, true, true, true, true, true, true, true, false, false, false, false, false, false] rfl rfl (any_of HT_.out (by kernel_rfl)) (fun _ _ _ h => h) (Or.inr ⟨by rfl, rfl⟩) ?_ ?_
                   rotate_left
                   ·simp only [Act.put, sa_, s0_, s1_, i64_w, i32_w]
                    rfl
                   refine pure_ (i := 10) (N := some 96) (v := undef) (a' := ?_) #[true, true, true, true, true, true, true, true, true, true, true, false, false, false, false, false] rfl rfl (any_of HT_.out (by kernel_rfl)) (fun _ _ _ h => h) (Or.inr ⟨by rfl, rfl⟩) ?_ ?_
                   rotate_left
                   ·simp only [Act.put, sa_, s0_, s1_, i64_w, i32_w]
                    rfl
                   refine pure_ (i := 11) (N := some 97) (v := undef) (a' := ?_) #[true, true, true, true, true, true, true, true, true, true, true, true, false, false, false, false] rfl rfl (any_of HT_.out (by kernel_rfl)) (fun _ _ _ h => h) (Or.inr ⟨by rfl, rfl⟩) ?_ ?_
                   rotate_left
                   ·simp only [Act.put, sa_, s0_, s1_, i64_w, i32_w]
                    rfl
                   refine pure_ (i := 12) (N := some 98) (v := undef) (a' := ?_) #[true, true, true, true, true, true, true, true, true, true, true, true, true, false, false, false] rfl rfl (any_of HT_.out (by kernel_rfl)) (fun _ _ _ h => h) (Or.inr ⟨by rfl, rfl⟩) ?_ ?_
                   rotate_left
                   ·simp only [Act.put, sa_, s0_, s1_, i64_w, i32_w]
                    rfl
                   refine pure_ (i := 13) (N := some 99) (v := undef) (a' := ?_) #[true, true, true, true, true, true, true, true, true, true, true, true, true, true, false, false] rfl rfl (any_of HT_.out (by kernel_rfl)) (fun _ _ _ h => h) (Or.inr ⟨by rfl, rfl⟩) ?_ ?_
                   rotate_left
                   ·simp only [Act.put, sa_, s0_, s1_, i64_w, i32_w]
                    rfl
                   refine pure_ (i := 14) (N := some 100) (v := ?_) (a' := ?_) #[true, true, true, true, true, true, true, true, true, true, true, true, true, true, true, false] rfl rfl (any_of HT_.out (by kernel_rfl)) (fun _ _ _ h => h) (Or.inl ⟨by rfl, ?_⟩) ?_ ?_
                   rotate_left
                   ·intro w'
                    go_simp
                    with_reducible rfl
                   rotate_left
                   ·simp only [Act.put, sa_, s0_, s1_, i64_w, i32_w]
                    rfl
                   refine pure_ (i := 15) (N := some 14) (v := ?_) (a' := ?_) #[true, true, true, true, true, true, true, true, true, true, true, true, true, true, true, true] rfl rfl (any_of HT_.out (by kernel_rfl)) (fun _ _ _ h => h) (Or.inl ⟨by rfl, ?_⟩) ?_ ?_
                   rotate_left
                   ·intro w'
                    go_simp
                    with_reducible rfl
                   rotate_left
                   ·simp only [Act.put, sa_, s0_, s1_, i64_w, i32_w]
                    rfl
                   refine done_ (done_of HT_.out (by kernel_rfl)) ?_
                   try go_wp2
                   go_roundg k4
                   case measure => have := HJ5.out; have := HK2.out; have := HK3.out; have := HK4.out; omega
                   case rel => exact ⟨(false), (wrap64 (x16_4 + 1)), (by first | rfl | (simp; done) | (simp [*]; done)), (by first | rfl | (simp; done) | (simp [*]; done)), H', ⟨by have := HJ5.out; have := HK2.out; have := HK3.out; have := HK4.out; omega⟩, ⟨by (with_reducible repeat (first | apply Kd.S_alloc | apply Kd.S_drewN | apply Kd.S_drew)); exact HO_9.out⟩, ⟨by (with_reducible repeat (first | apply Kd.S_alloc | apply Kd.S_drewN | apply Kd.S_drew)); exact HO_11.out⟩, ⟨by (with_reducible repeat (first | apply Kd.R_alloc | apply Kd.R_drewN | apply Kd.R_drew)); exact HO_12.out⟩, ⟨by repeat (first | (with_reducible exact HR268_0.out) | (with_reducible refine Kd.C_alloc ?_ _) | (with_reducible refine Kd.C_drewN ?_ _) | (with_reducible refine Kd.C_drew ?_) | exact HR268_0.out)⟩, ⟨by repeat (first | (with_reducible first | exact HB.out | apply below_alloc | apply pw_below_drewN | apply below_drew1) | exact HB.out)⟩⟩
                 ·rw [if_neg c32] at H
                  have c32b0 : decide (x16_4 < (t261.length : Int)) = false := decide_eq_false c32
                  clear c32
                  by_cases c44 : x14_4 = true
                  ·subst c44
                   have H1 : (if 0 < (t257.length : Int) then (if 0 ≤ x13_2 then (if x13_2 < ((rd_L8 t257 0).length : Int) then (if x12_2.length < 5864062014805 then (acmeref12_Culprits.l0 k4 t257 t261 (x12_2 ++ [(⟨(rd_T79 (rd_L8 t257 0) x13_2).f0, (rd_T79 (rd_L8 t257 0) x13_2).f1, (rd_T79 (rd_L8 t257 0) x13_2).f2⟩ : S79)]) (wrap64 (x13_2 + 1))) else (none)) else (none)) else (none)) else (none)) = some (r1, r2) := by rw [if_pos rfl] at H; exact H
                   clear H
                   have H := H1
                   clear H1
                   by_cases c45 : 0 < (t257.length : Int)
                   ·rw [if_pos c45] at H
                    have c45b0 : decide (0 < (t257.length : Int)) = true := decide_eq_true c45
                    have c45b1 : decide (0 < t257.length) = true := decide_eq_true (by omega)
                    clear c45
                    by_cases c46 : 0 ≤ x13_2
                    ·rw [if_pos c46] at H
                     have c46b0 : decide (0 ≤ x13_2) = true := decide_eq_true c46
                     clear c46
                     by_cases c47 : x13_2 < ((rd_L8 t257 0).length : Int)
                     ·rw [if_pos c47] at H
                      have c47b0 : decide (x13_2 < ((rd_L8 t257 0).length : Int)) = true := decide_eq_true c47
                      clear c47
                      by_cases c48 : x12_2.length < 5864062014805
                      ·rw [if_pos c48] at H
                       have LMc48 := Aside0.mk c48
                       clear c48
                       obtain ⟨y279, hy279⟩ : ∃ y_ : List (S79), y_ = (x12_2 ++ [(⟨(rd_T79 (rd_L8 t257 0) x13_2).f0, (rd_T79 (rd_L8 t257 0) x13_2).f1, (rd_T79 (rd_L8 t257 0) x13_2).f2⟩ : S79)]) := ⟨_, rfl⟩
                       replace H : (acmeref12_Culprits.l0 k4 t257 t261 y279 (wrap64 (x13_2 + 1))) = some (r1, r2) := by first | (rw [hy279]; with_reducible exact H) | (have H2_ := (Option.bind_some _ _).symm.trans H; rw [hy279]; with_reducible exact H2_) | (have H2_ := (Option.bind_some _ _).symm.trans H; with_reducible exact H2_) | with_reducible exact H | (rw [hy279]; exact H) | exact H
                       have Ny279 := Aside0.mk hy279
                       clear hy279
                       have H' := Aside0.mk H
                       clear H
                       obtain ⟨Ao49, co49, eo49⟩ := Kd.S_slice HO_11.out
                       subst eo49
                       have p277 : 0 ≤ (0 : Int) := (by omega)
                       have q277 : 0 < (t257.length : Int) := of_decide_eq_true ‹_›
                       obtain ⟨ad277, A277_0, c277_0, e277, hx277_0, hl277_0, hi277_0⟩ := at_L8 (Kd.S_reads' HO_9.out).2.2 0 p277 q277
                       obtain rfl : ad268 = ad277 := (by injection e277)
                       obtain ⟨ce277, hce277, hMe277, hcc277⟩ := Kd.S_get HO_9.out [] 0 p277 (by first | exact q277 | exact of_decide_eq_true ‹_› | (have e_ := (Kd.S_reads' HO_9.out).1; omega))
                       obtain ⟨ve277_0, rfl, ge277_0⟩ := hMe277
                       have hv277_0 := hcc277 0 _ rfl
                       rw [Nat.add_zero, show ((Kd.slice 79 k79)).sz = 1 from rfl, Nat.mul_one] at hv277_0
                       replace hv277_0 := Option.some.inj (hv277_0.symm.trans hx277_0)
                       rw [hv277_0] at ge277_0
                       have HL277_0 := Aside0.mk (show Kd.R k79 79 _ _ _ _ (rd_L8 t257 0) from ge277_0)
                       clear hv277_0 ge277_0
                       clear hcc277 hce277
                       have qi277 : (0 < t257.length) = True := eq_true (by omega)
                       (try rw [show ((0 : Int)).toNat = 0 from rfl] at hx277_0)
                       (try rw [Addr.add_zero'] at hx277_0)
                       have HR277_0 := Aside0.mk hi277_0
                       have HC277_0 := Aside0.mk hl277_0
                       clear hi277_0 hl277_0
                       replace p277 := eq_true p277
                       replace q277 := eq_true q277
                       have p278 : 0 ≤ (x13_2 : Int) := of_decide_eq_true ‹_›
                       have q278 : x13_2 < ((rd_L8 t257 0).length : Int) := of_decide_eq_true ‹_›
                       obtain ⟨ad278, e278, hx278_0, hx278_1, hx278_2⟩ := at_T79 (by repeat (first | (with_reducible exact HR277_0.out) | (with_reducible refine Kd.C_alloc ?_ _) | (with_reducible refine Kd.C_drewN ?_ _) | (with_reducible refine Kd.C_drew ?_) | exact HR277_0.out)) x13_2 p278 q278
                       cases e278
                       replace p278 := eq_true p278
                       replace q278 := eq_true q278
                       go_wp2_with (first | ((with_reducible refine gate_builtin (b := .append) (xs := #[.tmp 102, .tmp 109]) rfl ?_); (try (refine gate_guard (by rfl) ?_; dsimp only)); at_builtin; refine Kd.R_append k79 (w0 := w) w.heap.size rfl (.tmp 102) (.tmp 109) 62 79 (.agg #[(.int .i64 0), (.int .i64 0), (.int .i64 0)]) 24 rfl Try.underlying62 info79 rfl (by decide) (by omega) u12 x12_2 (⟨(rd_T79 (rd_L8 t257 0) x13_2).f0, (rd_T79 (rd_L8 t257 0) x13_2).f1, (rd_T79 (rd_L8 t257 0) x13_2).f2⟩ : S79) [.int .i64 ((rd_T79 (rd_L8 t257 0) x13_2).f0), .int .i64 ((rd_T79 (rd_L8 t257 0) x13_2).f1), .int .i64 ((rd_T79 (rd_L8 t257 0) x13_2).f2)] (fun _ => True) (fun _ => False) rfl rfl ?aP (fun _ hk => hk.elim) ?aF ?aO ?aB ?aS ?aL ?_; (case aP => exact k79_mkM _ _ _ (⟨(rd_T79 (rd_L8 t257 0) x13_2).f0, (rd_T79 (rd_L8 t257 0) x13_2).f1, (rd_T79 (rd_L8 t257 0) x13_2).f2⟩ : S79)); (case aB => exact HB.out); (case aF => exact (fun _ _ => trivial)); (case aO => exact (by (with_reducible repeat (first | apply Kd.R_alloc | apply Kd.R_drewN | apply Kd.R_drew)); exact HO_12.out)); (case aS => exact (below_size HB.out)); (case aL => have := LMc48.out; omega); intro v280 w50 ho hb hg hat; rw [← Ny279.out] at ho; replace HO_9 := Aside0.mk (Kd.S_after (ok := (fun k_ => some k_ ≠ (.slice Ao49 t261.length co49 : Value).ownBlock)) (by (with_reducible repeat (first | apply Kd.S_alloc | apply Kd.S_drewN | apply Kd.S_drew)); exact HO_9.out) hg hat); replace HO_11 := Aside0.mk (Kd.S_after (ok := (fun k_ => some k_ ≠ (.slice (some ad268) t257.length co21 : Value).ownBlock)) (by (with_reducible repeat (first | apply Kd.S_alloc | apply Kd.S_drewN | apply Kd.S_drew)); exact HO_11.out) hg hat); replace HL277_0 := Aside0.mk (Kd.R_after (ok := (fun k_ => some k_ ≠ (.slice (some ad268) t257.length co21 : Value).ownBlock ∧ some k_ ≠ (.slice Ao49 t261.length co49 : Value).ownBlock)) (by (with_reducible repeat (first | apply Kd.R_alloc | apply Kd.R_drewN | apply Kd.R_drew)); exact Kd.R_mono HL277_0.out (fun _ hk => ⟨⟨hk.2, hk.1.1⟩, hk.1.2⟩)) hg hat); replace HB := Aside0.mk (hb); have HO281 := Aside0.mk (ho); clear HO_12; clear ho hb hg hat))
                       go_roundg k4
                       case measure => have := HJ5.out; have := HK2.out; have := HK3.out; have := HK4.out; omega
                       case rel => exact ⟨(y279), (wrap64 (x13_2 + 1)), (by first | rfl | (simp; done) | (simp [*]; done)), H', ⟨by have := HJ5.out; have := HK2.out; have := HK3.out; have := HK4.out; omega⟩, ⟨by (with_reducible repeat (first | apply Kd.S_alloc | apply Kd.S_drewN | apply Kd.S_drew)); exact HO_9.out⟩, ⟨by (with_reducible repeat (first | apply Kd.S_alloc | apply Kd.S_drewN | apply Kd.S_drew)); exact HO_11.out⟩, ⟨by (with_reducible repeat (first | apply Kd.R_alloc | apply Kd.R_drewN | apply Kd.R_drew)); exact HO281.out⟩, ⟨by repeat (first | (with_reducible first | exact HB.out | apply below_alloc | apply pw_below_drewN | apply below_drew1) | exact HB.out)⟩⟩
                      ·rw [if_neg c48] at H
                       exact absurd H (by simp)
                     ·rw [if_neg c47] at H
                      exact absurd H (by simp)
                    ·rw [if_neg c46] at H
                     exact absurd H (by simp)
                   ·rw [if_neg c45] at H
                    exact absurd H (by simp)
                  ·replace c44 := Bool.eq_false_iff.mpr c44
                   subst c44
                   have H1 : (acmeref12_Culprits.l0 k4 t257 t261 x12_2 (wrap64 (x13_2 + 1))) = some (r1, r2) := by rw [if_neg (show ¬ (false = true) by decide)] at H; exact H
                   clear H
                   have H := H1
                   clear H1
                   have H' := Aside0.mk H
                   clear H
                   obtain ⟨Ao51, co51, eo51⟩ := Kd.S_slice HO_11.out
                   subst eo51
                   go_wp2
                   go_roundg k4
                   case measure => have := HJ5.out; have := HK2.out; have := HK3.out; have := HK4.out; omega
                   case rel => exact ⟨(x12_2), (wrap64 (x13_2 + 1)), (by first | rfl | (simp; done) | (simp [*]; done)), H', ⟨by have := HJ5.out; have := HK2.out; have := HK3.out; have := HK4.out; omega⟩, ⟨by (with_reducible repeat (first | apply Kd.S_alloc | apply Kd.S_drewN | apply Kd.S_drew)); exact HO_9.out⟩, ⟨by (with_reducible repeat (first | apply Kd.S_alloc | apply Kd.S_drewN | apply Kd.S_drew)); exact HO_11.out⟩, ⟨by (with_reducible repeat (first | apply Kd.R_alloc | apply Kd.R_drewN | apply Kd.R_drew)); exact HO_12.out⟩, ⟨by repeat (first | (with_reducible first | exact HB.out | apply below_alloc | apply pw_below_drewN | apply below_drew1) | exact HB.out)⟩⟩
           ·rw [if_neg c20] at H
            have c20b0 : decide (x13_2 < ((rd_L8 t257 0).length : Int)) = false := decide_eq_false c20
            clear c20
            simp only [Option.some.injEq, Prod.mk.injEq] at H
            obtain ⟨rfl, rfl⟩ := H
            obtain ⟨Ao52, co52, eo52⟩ := Kd.S_slice HO_9.out
            subst eo52
            have p268 : 0 ≤ (0 : Int) := (by omega)
            have q268 : 0 < (t257.length : Int) := of_decide_eq_true ‹_›
            obtain ⟨ad268, A268_0, c268_0, e268, hx268_0, hl268_0, hi268_0⟩ := at_L8 (Kd.S_reads' HO_9.out).2.2 0 p268 q268
            cases e268
            obtain ⟨ce268, hce268, hMe268, hcc268⟩ := Kd.S_get HO_9.out [] 0 p268 (by first | exact q268 | exact of_decide_eq_true ‹_› | (have e_ := (Kd.S_reads' HO_9.out).1; omega))
            obtain ⟨ve268_0, rfl, ge268_0⟩ := hMe268
            have hv268_0 := hcc268 0 _ rfl
            rw [Nat.add_zero, show ((Kd.slice 79 k79)).sz = 1 from rfl, Nat.mul_one] at hv268_0
            replace hv268_0 := Option.some.inj (hv268_0.symm.trans hx268_0)
            rw [hv268_0] at ge268_0
            have HL268_0 := Aside0.mk (show Kd.R k79 79 _ _ _ _ (rd_L8 t257 0) from ge268_0)
            clear hv268_0 ge268_0
            clear hcc268 hce268
            have qi268 : (0 < t257.length) = True := eq_true (by omega)
            (try rw [show ((0 : Int)).toNat = 0 from rfl] at hx268_0)
            (try rw [Addr.add_zero'] at hx268_0)
            have HR268_0 := Aside0.mk hi268_0
            have HC268_0 := Aside0.mk hl268_0
            clear hi268_0 hl268_0
            replace p268 := eq_true p268
            replace q268 := eq_true q268
            go_wp2
            go_ret2
            exact ⟨_, by first | rfl | (simp [errW_none, errW_some] <;> rfl) | (simp [*, errW_none, errW_some] <;> rfl), by (with_reducible repeat (first | apply Kd.R_alloc | apply Kd.R_drewN | apply Kd.R_drew)); exact HO_12.out, by repeat (first | (with_reducible first | exact HB.out | apply below_alloc | apply pw_below_drewN | apply below_drew1) | exact HB.out)⟩
          ·rw [if_neg c19] at H
           exact absurd H (by simp)
       ·rw [if_neg c14] at H
        have c14b0 : (t262 == 0) = false := beq_eq_false_iff_ne.mpr c14
        have c14b1 : (t262 != 0) = true := bne_iff_ne.mpr c14
        simp only [Option.some.injEq, Prod.mk.injEq] at H
        obtain ⟨rfl, rfl⟩ := H
        go_wp2_with (first | ((with_reducible refine gate_callee (f := 46) rfl ?_); refine goesL_ (some 36) rfl rfl Try.func46 (by kernel_rfl) rfl #[.slice A0 l0.length c0, .slice A1 l1.length c1] rfl (by (try simp only [List.map_toArray, List.map_cons, List.map_nil]); first | done | rfl | (simp only [List.length_drop, List.length_take]; rfl)) ?_; (with_reducible refine (acmeref12_Lots.calls kj5 _ _ l0 _ _ l1 t257 t258 _ ?side1 ?side2 ?side3 ?side4 A11.out).mono ?_); (case side1 => repeat (first | exact (Kd.C_below HR0.out HB.out) | (with_reducible refine Kd.C_alloc ?_ _) | (with_reducible refine Kd.C_drewN ?_ _) | (with_reducible refine Kd.C_drew ?_))); (case side2 => exact HC0.out); (case side3 => repeat (first | exact (Kd.C_below HR1.out HB.out) | (with_reducible refine Kd.C_alloc ?_ _) | (with_reducible refine Kd.C_drewN ?_ _) | (with_reducible refine Kd.C_drew ?_))); (case side4 => exact HC1.out); rintro e w53 ⟨v259, rfl, ho0, hb⟩; refine ⟨_, rfl, ?_⟩; have HO260 := Aside0.mk (Kd.S_lower ho0 (below_size HB.out)); replace HB := Aside0.mk (below_step HB.out hb); (try clear hb); (try clear hb2); (try clear hk); (try clear hi); (try clear ho0)) | ((with_reducible refine gate_callee (f := 46) rfl ?_); refine goesL_ (some 45) rfl rfl Try.func46 (by kernel_rfl) rfl #[.slice A0 l0.length c0, .slice A2 l2.length c2] rfl (by (try simp only [List.map_toArray, List.map_cons, List.map_nil]); first | done | rfl | (simp only [List.length_drop, List.length_take]; rfl)) ?_; (with_reducible refine (acmeref12_Lots.calls kj5 _ _ l0 _ _ l2 t261 t262 _ ?side1 ?side2 ?side3 ?side4 A13.out).mono ?_); (case side1 => repeat (first | exact (Kd.C_below HR0.out HB.out) | (with_reducible refine Kd.C_alloc ?_ _) | (with_reducible refine Kd.C_drewN ?_ _) | (with_reducible refine Kd.C_drew ?_))); (case side2 => exact HC0.out); (case side3 => repeat (first | exact (Kd.C_below HR2.out HB.out) | (with_reducible refine Kd.C_alloc ?_ _) | (with_reducible refine Kd.C_drewN ?_ _) | (with_reducible refine Kd.C_drew ?_))); (case side4 => exact HC2.out); rintro e w54 ⟨v263, rfl, ho0, hb⟩; refine ⟨_, rfl, ?_⟩; have HO264 := Aside0.mk (Kd.S_lower (Kd.S_new' ho0 (Kd.S_lt (by (with_reducible repeat (first | apply Kd.S_alloc | apply Kd.S_drewN | apply Kd.S_drew)); exact HO260.out))) (below_size HB.out)); replace HO260 := Aside0.mk (Kd.S_elder' (by (with_reducible repeat (first | apply Kd.S_alloc | apply Kd.S_drewN | apply Kd.S_drew)); exact HO260.out) (Kd.S_base ho0) hb); replace HB := Aside0.mk (below_step HB.out hb); (try clear hb); (try clear hb2); (try clear hk); (try clear hi); (try clear ho0)))
        go_ret2
        exact ⟨_, by first | rfl | (simp [errW_none, errW_some] <;> rfl) | (simp [*, errW_none, errW_some] <;> rfl), by first | exact Kd.R_nil _ _ _ _ _ | exact Kd.N_nil _ _ _ _ _ | exact Kd.V_nil _ _ _ _ _ | exact Kd.Q_nil _ _ _ _ _ | exact Kd.S_nil _ _ _ _ _, by repeat (first | (with_reducible first | exact HB.out | apply below_alloc | apply pw_below_drewN | apply below_drew1) | exact HB.out)⟩
      ·rw [if_neg c12] at H
       have c12b0 : (t258 == 0) = false := beq_eq_false_iff_ne.mpr c12
       have c12b1 : (t258 != 0) = true := bne_iff_ne.mpr c12
       simp only [Option.some.injEq, Prod.mk.injEq] at H
       obtain ⟨rfl, rfl⟩ := H
       go_wp2_with (first | ((with_reducible refine gate_callee (f := 46) rfl ?_); refine goesL_ (some 36) rfl rfl Try.func46 (by kernel_rfl) rfl #[.slice A0 l0.length c0, .slice A1 l1.length c1] rfl (by (try simp only [List.map_toArray, List.map_cons, List.map_nil]); first | done | rfl | (simp only [List.length_drop, List.length_take]; rfl)) ?_; (with_reducible refine (acmeref12_Lots.calls kj5 _ _ l0 _ _ l1 t257 t258 _ ?side1 ?side2 ?side3 ?side4 A11.out).mono ?_); (case side1 => repeat (first | exact (Kd.C_below HR0.out HB.out) | (with_reducible refine Kd.C_alloc ?_ _) | (with_reducible refine Kd.C_drewN ?_ _) | (with_reducible refine Kd.C_drew ?_))); (case side2 => exact HC0.out); (case side3 => repeat (first | exact (Kd.C_below HR1.out HB.out) | (with_reducible refine Kd.C_alloc ?_ _) | (with_reducible refine Kd.C_drewN ?_ _) | (with_reducible refine Kd.C_drew ?_))); (case side4 => exact HC1.out); rintro e w55 ⟨v259, rfl, ho0, hb⟩; refine ⟨_, rfl, ?_⟩; have HO260 := Aside0.mk (Kd.S_lower ho0 (below_size HB.out)); replace HB := Aside0.mk (below_step HB.out hb); (try clear hb); (try clear hb2); (try clear hk); (try clear hi); (try clear ho0)))
       go_ret2
       exact ⟨_, by first | rfl | (simp [errW_none, errW_some] <;> rfl) | (simp [*, errW_none, errW_some] <;> rfl), by first | exact Kd.R_nil _ _ _ _ _ | exact Kd.N_nil _ _ _ _ _ | exact Kd.V_nil _ _ _ _ _ | exact Kd.Q_nil _ _ _ _ _ | exact Kd.S_nil _ _ _ _ _, by repeat (first | (with_reducible first | exact HB.out | apply below_alloc | apply pw_below_drewN | apply below_drew1) | exact HB.out)⟩
 ·rw [if_neg c5] at H
  have c5b0 : (t256 == 0) = false := beq_eq_false_iff_ne.mpr c5
  have c5b1 : (t256 != 0) = true := bne_iff_ne.mpr c5
  simp only [Option.some.injEq, Prod.mk.injEq] at H
  obtain ⟨rfl, rfl⟩ := H
  go_enter Try.func41, Try.ntmps41
  go_wp2_with (first | ((with_reducible refine gate_callee (f := 34) rfl ?_); refine goesL_ (some 18) rfl rfl Try.func34 (by kernel_rfl) rfl #[.slice A0 l0.length c0] rfl (by (try simp only [List.map_toArray, List.map_cons, List.map_nil]); first | done | rfl | (simp only [List.length_drop, List.length_take]; rfl)) ?_; (with_reducible refine (acmeref12_Check.calls k _ _ l0 t256 _ ?side1 ?side2 A4.out).mono ?_); (case side1 => repeat (first | exact HR0.out | (with_reducible refine Kd.C_alloc ?_ _) | (with_reducible refine Kd.C_drewN ?_ _) | (with_reducible refine Kd.C_drew ?_))); (case side2 => exact HC0.out); rintro e w56 ⟨rfl, hb⟩; refine ⟨_, rfl, ?_⟩; replace HB := Aside0.mk (below_step HB.out hb); (try clear hb); (try clear hb2); (try clear hk); (try clear hi)))
  go_ret2
  exact ⟨_, by first | rfl | (simp [errW_none, errW_some] <;> rfl) | (simp [*, errW_none, errW_some] <;> rfl), by first | exact Kd.R_nil _ _ _ _ _ | exact Kd.N_nil _ _ _ _ _ | exact Kd.V_nil _ _ _ _ _ | exact Kd.Q_nil _ _ _ _ _ | exact Kd.S_nil _ _ _ _ _, by repeat (first | (with_reducible first | exact HB.out | apply below_alloc | apply pw_below_drewN | apply below_drew1) | exact HB.out)⟩

end Go.Proofs.Ytiaiecfnpompcaa.T
namespace Go.Proofs.Ytiaiecfnpompcaa.T
open Go.RowKit Go.Proofs.YtiaiecfnpompcaaW.PrintWords Go.Proofs.YtiaiecfnpompcaaW.PrintLast Go.Proofs.YtiaiecfnpompcaaW.PrintMore
attribute [local go_sem] max2_int min2_int max_two min_two max_three min_three max_four min_four   -- for this text's walks alone
set_option linter.unusedVariables false
set_option linter.unusedSimpArgs false
attribute [local go_sem] wl_100001

theorem eqA58 (d : Nat) (w : World) (x0 y0 : Int) (x1 y1 : Int) (x2 y2 : Int) :
  (Op.equalIn (d + 2) 58 (.agg #[.int .i64 x0, .int .i64 x1, .int .i64 x2]) (.agg #[.int .i64 y0, .int .i64 y1, .int .i64 y2])).run Try.prog w = .ok (x0 == y0 && (x1 == y1 && (x2 == y2))) w := by
 refine eqA_of Try.underlying58 (by kernel_rfl) ?_
 refine eqf_cons (by rfl) (by go_simp; rfl) (by go_simp; rfl) (by go_simp) ?_
 refine eqf_cons (by rfl) (by go_simp; rfl) (by go_simp; rfl) (by go_simp) ?_
 exact eqf_last (by rfl) (by go_simp; rfl) (by go_simp; rfl) (by go_simp)
end Go.Proofs.Ytiaiecfnpompcaa.T
namespace Go.Proofs.Ytiaiecfnpompcaa.T
open Go.RowKit Go.Proofs.YtiaiecfnpompcaaW.PrintWords Go.Proofs.YtiaiecfnpompcaaW.PrintLast Go.Proofs.YtiaiecfnpompcaaW.PrintMore
attribute [local go_sem] max2_int min2_int max_two min_two max_three min_three max_four min_four   -- for this text's walks alone
set_option linter.unusedVariables false
set_option linter.unusedSimpArgs false
attribute [local go_sem] wl_100001

attribute [local go_sem high] eqA58
def acmelaw12_alike.l0 : Nat → List (S58) → List (S58) → Int → Option (Bool)
 | 0, _, _, _ => none
 | k + 1, x0, x1, x5 => if x5 < (x0.length : Int) then (if 0 ≤ x5 then (if x5 < (x1.length : Int) then (if (!(((rd_T58 x0 x5).f0) == ((rd_T58 x1 x5).f0)) || (!(((rd_T58 x0 x5).f1) == ((rd_T58 x1 x5).f1)) || (!(((rd_T58 x0 x5).f2) == ((rd_T58 x1 x5).f2))))) = true then (some false) else (acmelaw12_alike.l0 k x0 x1 (wrap64 (x5 + 1)))) else (none)) else (none)) else (some true)
def acmelaw12_alike.f (k : Nat) (l0 : List (S58)) (l1 : List (S58)) : Option (Bool) := if (l0.length : Int) = (l1.length : Int) then (acmelaw12_alike.l0 k l0 l1 0) else (some false)
set_option maxHeartbeats 8000000 in
set_option maxRecDepth 100000 in
theorem acmelaw12_alike.calls (k : Nat) (A0 : Option Addr) (c0 : Nat) (l0 : List (S58)) (A1 : Option Addr) (c1 : Nat) (l1 : List (S58)) (r : Bool) (w : World) (hr0 : Kd.C k58 w A0 l0.length l0) (hc0 : l0.length ≤ c0) (hr1 : Kd.C k58 w A1 l1.length l1) (hc1 : l1.length ≤ c1) (h : acmelaw12_alike.f k l0 l1 = some r) :
  Calls Try.prog 42 #[.slice A0 l0.length c0, .slice A1 l1.length c1] w fun e w' => e = .returned (.bool r) ∧ Drawn0 w w' := by
 have hu58 := Try.underlying58
 have HR0 := Aside0.mk hr0
 have HC0 := Aside0.mk hc0
 clear hr0 hc0
 have HR1 := Aside0.mk hr1
 have HC1 := Aside0.mk hc1
 clear hr1 hc1
 have H : (if (l0.length : Int) = (l1.length : Int) then (acmelaw12_alike.l0 k l0 l1 0) else (some false)) = some r := h
 clear h
 by_cases c3 : (l0.length : Int) = (l1.length : Int)
 ·rw [if_pos c3] at H
  have c3b0 : ((l0.length : Int) == (l1.length : Int)) = true := beq_iff_eq.mpr c3
  have c3b1 : ((l0.length : Int) != (l1.length : Int)) = false := bne_eq_false_iff_eq.mpr c3
  have c3b2 : (l0.length == l1.length) = true := by first | simpa using c3 | (simp at c3 ⊢; omega)
  clear c3
  have H' := Aside0.mk H
  clear H
  go_enter Try.func42, Try.ntmps42
  go_wp2
  repeat (go_quiet (fail); try go_wp2)
  go_loopg [5] k (fun kq v5 w' => ∃ (x5_1 : Int), v5 = .int .i64 x5_1 ∧ Aside0 (acmelaw12_alike.l0 kq l0 l1 x5_1 = some r) ∧ Aside0 (kq ≤ k) ∧ Drawn0 w w')
  case atStart => exact ⟨(0), (by first | rfl | (simp; done) | (simp [*]; done)), H', ⟨Nat.le_refl _⟩, by repeat (first | exact Drawn0.refl _ | apply Drawn0.step)⟩
  case round => as_aux_lemma =>
   clear H'
   try clear c1; try clear p2; try clear c3; try clear c3b0; try clear c3b1; try clear c3b2
   obtain ⟨x5_1, rfl, HA, HK1, ⟨m1, rfl⟩⟩ := hrel
   cases gk with
   | zero => exact absurd HA.out (by simp [acmelaw12_alike.l0])
   | succ k1 =>
    have H := HA.out
    clear HA
    simp only [acmelaw12_alike.l0] at H
    by_cases c4 : x5_1 < (l0.length : Int)
    ·rw [if_pos c4] at H
     have c4b0 : decide (x5_1 < (l0.length : Int)) = true := decide_eq_true c4
     clear c4
     by_cases c5 : 0 ≤ x5_1
     ·rw [if_pos c5] at H
      have c5b0 : decide (0 ≤ x5_1) = true := decide_eq_true c5
      clear c5
      by_cases c6 : x5_1 < (l1.length : Int)
      ·rw [if_pos c6] at H
       have c6b0 : decide (x5_1 < (l1.length : Int)) = true := decide_eq_true c6
       clear c6
       by_cases c7 : (!(((rd_T58 l0 x5_1).f0) == ((rd_T58 l1 x5_1).f0)) || (!(((rd_T58 l0 x5_1).f1) == ((rd_T58 l1 x5_1).f1)) || (!(((rd_T58 l0 x5_1).f2) == ((rd_T58 l1 x5_1).f2))))) = true
       ·rw [if_pos c7] at H
        have c7b0 : (!(((rd_T58 l0 x5_1).f0) == ((rd_T58 l1 x5_1).f0)) || (!(((rd_T58 l0 x5_1).f1) == ((rd_T58 l1 x5_1).f1)) || (!(((rd_T58 l0 x5_1).f2) == ((rd_T58 l1 x5_1).f2))))) = true := c7
        clear c7
        obtain rfl := Option.some.inj H
        have p282 : 0 ≤ (x5_1 : Int) := of_decide_eq_true ‹_›
        have q282 : x5_1 < (l0.length : Int) := of_decide_eq_true ‹_›
        obtain ⟨ad282, e282, hx282_0, hx282_1, hx282_2⟩ := at_T58 HR0.out x5_1 p282 q282
        cases e282
        replace p282 := eq_true p282
        replace q282 := eq_true q282
        have p283 : 0 ≤ (x5_1 : Int) := of_decide_eq_true ‹_›
        have q283 : x5_1 < (l1.length : Int) := of_decide_eq_true ‹_›
        obtain ⟨ad283, e283, hx283_0, hx283_1, hx283_2⟩ := at_T58 HR1.out x5_1 p283 q283
        cases e283
        replace p283 := eq_true p283
        replace q283 := eq_true q283
        go_wp2
        repeat (go_quiet (fail); try go_wp2)
        go_ret
        exact ⟨by first | rfl | (simp; done) | (simp [*]; done), by repeat (first | exact Drawn0.refl _ | apply Drawn0.step)⟩
       ·rw [if_neg c7] at H
        have c7b0 : (!(((rd_T58 l0 x5_1).f0) == ((rd_T58 l1 x5_1).f0)) || (!(((rd_T58 l0 x5_1).f1) == ((rd_T58 l1 x5_1).f1)) || (!(((rd_T58 l0 x5_1).f2) == ((rd_T58 l1 x5_1).f2))))) = false := by simpa using c7
        clear c7
        have H' := Aside0.mk H
        clear H
        have p282 : 0 ≤ (x5_1 : Int) := of_decide_eq_true ‹_›
        have q282 : x5_1 < (l0.length : Int) := of_decide_eq_true ‹_›
        obtain ⟨ad282, e282, hx282_0, hx282_1, hx282_2⟩ := at_T58 HR0.out x5_1 p282 q282
        cases e282
        replace p282 := eq_true p282
        replace q282 := eq_true q282
        have p283 : 0 ≤ (x5_1 : Int) := of_decide_eq_true ‹_›
        have q283 : x5_1 < (l1.length : Int) := of_decide_eq_true ‹_›
        obtain ⟨ad283, e283, hx283_0, hx283_1, hx283_2⟩ := at_T58 HR1.out x5_1 p283 q283
        cases e283
        replace p283 := eq_true p283
        replace q283 := eq_true q283
        go_wp2
        repeat (go_quiet (fail); try go_wp2)
        go_roundg k1
        case measure => have := HK1.out; omega
        case rel => exact ⟨(wrap64 (x5_1 + 1)), (by first | rfl | (simp; done) | (simp [*]; done)), H', ⟨by have := HK1.out; omega⟩, by repeat (first | exact Drawn0.refl _ | apply Drawn0.step)⟩
      ·rw [if_neg c6] at H
       exact absurd H (by simp)
     ·rw [if_neg c5] at H
      exact absurd H (by simp)
    ·rw [if_neg c4] at H
     have c4b0 : decide (x5_1 < (l0.length : Int)) = false := decide_eq_false c4
     clear c4
     obtain rfl := Option.some.inj H
     go_wp2
     repeat (go_quiet (fail); try go_wp2)
     go_ret
     exact ⟨by first | rfl | (simp; done) | (simp [*]; done), by repeat (first | exact Drawn0.refl _ | apply Drawn0.step)⟩
 ·rw [if_neg c3] at H
  have c3b0 : ((l0.length : Int) == (l1.length : Int)) = false := beq_eq_false_iff_ne.mpr c3
  have c3b1 : ((l0.length : Int) != (l1.length : Int)) = true := bne_iff_ne.mpr c3
  have c3b2 : (l0.length == l1.length) = false := by first | simpa using c3 | (simp at c3 ⊢; omega)
  obtain rfl := Option.some.inj H
  go_enter Try.func42, Try.ntmps42
  go_wp2
  repeat (go_quiet (fail); try go_wp2)
  go_ret
  exact ⟨by first | rfl | (simp; done) | (simp [*]; done), by repeat (first | exact Drawn0.refl _ | apply Drawn0.step)⟩

end Go.Proofs.Ytiaiecfnpompcaa.T
