-- cut down, squeezed and laid together by pack.py (a program of this repository) out of this seat's texts
import Derived.ChangeKeysEq
import Derived.Test.YtiaiecfnpompcaaZR2
import Derived.Test.YtiaiecfnpompcaaZR13
import Derived.Test.YtiaiecfnpompcaaZR10
import Derived.Test.YtiaiecfnpompcaaZR3
import Derived.Test.YtiaiecfnpompcaaZR9
import Derived.Test.YtiaiecfnpompcaaZR4
import Derived.Test.YtiaiecfnpompcaaZR12
import Derived.Test.YtiaiecfnpompcaaZR8
import Derived.Test.YtiaiecfnpompcaaZR6
import Derived.Test.YtiaiecfnpompcaaZR7
import Derived.Test.YtiaiecfnpompcaaZR11
import Derived.Test.YtiaiecfnpompcaaZR5
import Derived.Test.YtiaiecfnpompcaaZR1
namespace Go.Proofs.Ytiaiecfnpompcaa.T
open Go.RowKit Go.Proofs.YtiaiecfnpompcaaW.PrintWords Go.Proofs.YtiaiecfnpompcaaW.PrintLast Go.Proofs.YtiaiecfnpompcaaW.PrintMore
attribute [local go_sem] XX XW X6 X5 XQ XP X0 XZ
set_option linter.unusedVariables false
set_option linter.unusedSimpArgs false
attribute [local go_sem] XO

attribute [local go_sem high] Xii
def Xy.l0 : Nat → List (S79) → Int → Int → Int → Int → Option (Bool)
 | 0, _, _, _, _, _ => none
 | k + 1, x0, x5, x444000, x444001, x444002 => if x5 < (x0.length : Int) then (if 0 ≤ x5 then (if (((Xn x0 x5).f0) == x444000 && (((Xn x0 x5).f1) == x444001 && (((Xn x0 x5).f2) == x444002))) = true then (some true) else (Xy.l0 k x0 (wrap64 (x5 + 1)) x444000 x444001 x444002)) else (none)) else (some false)
def Xy.f (k : Nat) (l0 : List (S79)) (a1_0 : Int) (a1_1 : Int) (a1_2 : Int) : Option (Bool) := Xy.l0 k l0 0 a1_0 a1_1 a1_2
set_option maxHeartbeats 8000000 in
set_option maxRecDepth 100000 in
theorem Xy.calls (k : Nat) (A0 : Option Addr) (c0 : Nat) (l0 : List (S79)) (a1_0 : Int) (a1_1 : Int) (a1_2 : Int) (r : Bool) (w : World) (hr0 : Kd.C k79 w A0 l0.length l0) (hc0 : l0.length ≤ c0) (h : Xy.f k l0 a1_0 a1_1 a1_2 = some r) :
  Calls Try.prog 47 #[.slice A0 l0.length c0, .agg #[.int .i64 a1_0, .int .i64 a1_1, .int .i64 a1_2]] w fun e w' => e = .returned (.bool r) ∧ Below w.heap.size w w' := by
 have hu79 := Try.underlying79
 have HR0 := Xa.mk hr0
 have HC0 := Xa.mk hc0
 clear hr0 hc0
 have HB := Xa.mk (Below.refl w.heap.size w)
 have H : (Xy.l0 k l0 0 a1_0 a1_1 a1_2) = some r := h
 clear h
 have H' := Xa.mk H
 clear H
 go_enter Try.func47, Try.ntmps47
 go_wp2_with (first | ((with_reducible refine Xz (N := 3) rfl ?_); refine XH ?hg (N := 3) ?hd (cs := #[.int .i64 a1_0, .int .i64 a1_1, .int .i64 a1_2]) (t := 79) ?hr ?_; (case hd => rfl); (case hg => rfl); (case hr => first | (go_simp; done) | (go_simp; rfl)); intro gb443 hg w3 hbox hb; have BK443 := Xa.mk (hbox); have GW443 := Xa.mk ((by rw [hg]; exact (Xg HB.out) : w.heap.size ≤ gb443)); have GE443 := GW443; replace HB := Xa.mk (Xi HB.out hb); clear hb hbox hg))
 repeat (go_quiet (first | ((with_reducible refine Xz (N := 3) rfl ?_); refine XH ?hg (N := 3) ?hd (cs := #[.int .i64 a1_0, .int .i64 a1_1, .int .i64 a1_2]) (t := 79) ?hr ?_; (case hd => rfl); (case hg => rfl); (case hr => first | (go_simp; done) | (go_simp; rfl)); intro gb443 hg w3 hbox hb; have BK443 := Xa.mk (hbox); have GW443 := Xa.mk ((by rw [hg]; exact (Xg HB.out) : w.heap.size ≤ gb443)); have GE443 := GW443; replace HB := Xa.mk (Xi HB.out hb); clear hb hbox hg)); try go_wp2_with (first | ((with_reducible refine Xz (N := 3) rfl ?_); refine XH ?hg (N := 3) ?hd (cs := #[.int .i64 a1_0, .int .i64 a1_1, .int .i64 a1_2]) (t := 79) ?hr ?_; (case hd => rfl); (case hg => rfl); (case hr => first | (go_simp; done) | (go_simp; rfl)); intro gb443 hg w3 hbox hb; have BK443 := Xa.mk (hbox); have GW443 := Xa.mk ((by rw [hg]; exact (Xg HB.out) : w.heap.size ≤ gb443)); have GE443 := GW443; replace HB := Xa.mk (Xi HB.out hb); clear hb hbox hg)))
 go_loopg [5] k (fun kq v5 w' => ∃ (x5_1 : Int), v5 = .int .i64 x5_1 ∧ Xa (Xy.l0 kq l0 x5_1 a1_0 a1_1 a1_2 = some r) ∧ Xa (kq ≤ k) ∧ Xa (w'.heap[gb443]? = some (.cells #[.int .i64 a1_0, .int .i64 a1_1, .int .i64 a1_2] 79 (0, 0))) ∧ Xa (Below w.heap.size w w'))
 case atStart => exact ⟨(0), fx_, H', ⟨Nat.le_refl _⟩, BK443, ⟨hb_ HB⟩⟩
 case round =>
  clear H'
  try clear p2
  obtain ⟨x5_1, rfl, HA, HK1, BK443, HB⟩ := hrel
  cases gk with
  | zero => exact absurd HA.out (by simp [Xy.l0])
  | succ k1 =>
   have H := HA.out
   clear HA
   simp only [Xy.l0] at H
   by_cases c4 : x5_1 < (l0.length : Int)
   ·rw [if_pos c4] at H
    have c4b0 : decide (x5_1 < (l0.length : Int)) = true := decide_eq_true c4
    clear c4
    by_cases c5 : 0 ≤ x5_1
    ·rw [if_pos c5] at H
     have c5b0 : decide (0 ≤ x5_1) = true := decide_eq_true c5
     clear c5
     by_cases c6 : (((Xn l0 x5_1).f0) == a1_0 && (((Xn l0 x5_1).f1) == a1_1 && (((Xn l0 x5_1).f2) == a1_2))) = true
     ·rw [if_pos c6] at H
      have c6b0 : (((Xn l0 x5_1).f0) == a1_0 && (((Xn l0 x5_1).f1) == a1_1 && (((Xn l0 x5_1).f2) == a1_2))) = true := c6
      (try (have c6b1 : decide (((Xn l0 x5_1).f0) = a1_0 && (((Xn l0 x5_1).f1) == a1_1 && (((Xn l0 x5_1).f2) == a1_2))) = true := by simpa using c6))
      (try (have c6b2 : (((Xn l0 x5_1).f0) == a1_0 && (((Xn l0 x5_1).f1) == a1_1 && (((Xn l0 x5_1).f2) == a1_2))) = true := by simpa using c6))
      clear c6
      obtain rfl := Option.some.inj H
      have p444 : 0 ≤ (x5_1 : Int) := of_decide_eq_true ‹_›
      have q444 : x5_1 < (l0.length : Int) := of_decide_eq_true ‹_›
      obtain ⟨ad444, e444, hx444_0, hx444_1, hx444_2⟩ := Jx HR0.out x5_1 p444 q444
      cases e444
      replace hx444_0 := bl_ HB hx444_0
      replace hx444_1 := bl_ HB hx444_1
      replace hx444_2 := bl_ HB hx444_2
      replace p444 := eq_true p444
      replace q444 := eq_true q444
      obtain ⟨hcz7_0, hcz7_1, hcz7_2⟩ := bc3 BK443.out
      obtain ⟨hfz7_0, hfz7_1, hfz7_2⟩ := bf3 BK443.out
      go_wp2
      repeat (go_quiet (fail); try go_wp2)
      go_ret
      exact ⟨by first | rfl | (simp [errW_none, errW_some] <;> rfl) | (simp [*, errW_none, errW_some] <;> rfl), by repeat (first | (with_reducible first | exact HB.out | apply Xs | apply Xo | apply Xl | refine XC ?_ (Xa.out (by assumption))) | exact HB.out)⟩
     ·rw [if_neg c6] at H
      have c6b0 : (((Xn l0 x5_1).f0) == a1_0 && (((Xn l0 x5_1).f1) == a1_1 && (((Xn l0 x5_1).f2) == a1_2))) = false := by simpa using c6
      (try (have c6b1 : decide (((Xn l0 x5_1).f0) = a1_0 && (((Xn l0 x5_1).f1) == a1_1 && (((Xn l0 x5_1).f2) == a1_2))) = false := by simpa using c6))
      (try (have c6b2 : (((Xn l0 x5_1).f0) == a1_0 && (((Xn l0 x5_1).f1) == a1_1 && (((Xn l0 x5_1).f2) == a1_2))) = false := by simpa using c6))
      (try (have c6b3 : ¬ (((Xn l0 x5_1).f0) = a1_0 && (((Xn l0 x5_1).f1) == a1_1 && (((Xn l0 x5_1).f2) == a1_2))) := by simpa using c6))
      clear c6
      have H' := Xa.mk H
      clear H
      have p444 : 0 ≤ (x5_1 : Int) := of_decide_eq_true ‹_›
      have q444 : x5_1 < (l0.length : Int) := of_decide_eq_true ‹_›
      obtain ⟨ad444, e444, hx444_0, hx444_1, hx444_2⟩ := Jx HR0.out x5_1 p444 q444
      cases e444
      replace hx444_0 := bl_ HB hx444_0
      replace hx444_1 := bl_ HB hx444_1
      replace hx444_2 := bl_ HB hx444_2
      replace p444 := eq_true p444
      replace q444 := eq_true q444
      obtain ⟨hcz8_0, hcz8_1, hcz8_2⟩ := bc3 BK443.out
      obtain ⟨hfz8_0, hfz8_1, hfz8_2⟩ := bf3 BK443.out
      go_wp2
      repeat (go_quiet (fail); try go_wp2)
      go_roundg k1
      case measure => have := HK1.out; omega
      case rel => exact ⟨(wrap64 (x5_1 + 1)), fx_, H', ⟨by have := HK1.out; omega⟩, BK443, ⟨hb_ HB⟩⟩
    ·rw [if_neg c5] at H
     exact absurd H (by simp)
   ·rw [if_neg c4] at H
    have c4b0 : decide (x5_1 < (l0.length : Int)) = false := decide_eq_false c4
    clear c4
    obtain rfl := Option.some.inj H
    go_wp2
    repeat (go_quiet (fail); try go_wp2)
    go_ret
    exact ⟨by first | rfl | (simp [errW_none, errW_some] <;> rfl) | (simp [*, errW_none, errW_some] <;> rfl), by repeat (first | (with_reducible first | exact HB.out | apply Xs | apply Xo | apply Xl | refine XC ?_ (Xa.out (by assumption))) | exact HB.out)⟩

end Go.Proofs.Ytiaiecfnpompcaa.T
namespace Go.Proofs.Ytiaiecfnpompcaa.T
open Go.RowKit Go.Proofs.YtiaiecfnpompcaaW.PrintWords Go.Proofs.YtiaiecfnpompcaaW.PrintLast Go.Proofs.YtiaiecfnpompcaaW.PrintMore
attribute [local go_sem] XX XW X6 X5 XQ XP X0 XZ
set_option linter.unusedVariables false
set_option linter.unusedSimpArgs false
attribute [local go_sem] XO

mutual
def Xf.j0 : Nat → List (S144) → List (S58) → List (S58) → Bool → Option ((List (S79)) × Int)
 | 0, _, _, _, _ => none
 | k + 1, x0, x1, x2, x29 => if x29 = true then (some (([] : List (S79)), 5)) else (if (x1.length : Int) = 0 then (some (([] : List (S79)), 7)) else ((Xx.f k x0 x1).bind fun bt257 => (if bt257.2 = 0 then ((Xx.f k x0 x2).bind fun bt261 => (if bt261.2 = 0 then (Xf.l0 k bt257.1 bt261.1 (([] : List (S79))) 0) else (some (([] : List (S79)), bt261.2)))) else (some (([] : List (S79)), bt257.2)))))
def Xf.l0 : Nat → List (List (S79)) → List (List (S79)) → List (S79) → Int → Option ((List (S79)) × Int)
 | 0, _, _, _, _ => none
 | k + 1, x9, x11, x12, x13 => if 0 < (x9.length : Int) then (if x13 < ((XA x9 0).length : Int) then (Xf.l1 k x9 x11 x12 x13 true 0) else (some (x12, 0))) else (none)
def Xf.l1 : Nat → List (List (S79)) → List (List (S79)) → List (S79) → Int → Bool → Int → Option ((List (S79)) × Int)
 | 0, _, _, _, _, _, _ => none
 | k + 1, x9, x11, x12, x13, x14, x15 => if x15 < (x9.length : Int) then (if x14 = true then (if 0 ≤ x15 then (if 0 < (x9.length : Int) then (if 0 ≤ x13 then (if x13 < ((XA x9 0).length : Int) then ((Xy.f k (XA x9 x15) ((Xn (XA x9 0) x13).f0) ((Xn (XA x9 0) x13).f1) ((Xn (XA x9 0) x13).f2)).bind fun t272 => (Xf.l1 k x9 x11 x12 x13 t272 (wrap64 (x15 + 1)))) else (none)) else (none)) else (none)) else (none)) else (Xf.l1 k x9 x11 x12 x13 false (wrap64 (x15 + 1)))) else (Xf.l2 k x9 x11 x12 x13 x14 0)
def Xf.l2 : Nat → List (List (S79)) → List (List (S79)) → List (S79) → Int → Bool → Int → Option ((List (S79)) × Int)
 | 0, _, _, _, _, _, _ => none
 | k + 1, x9, x11, x12, x13, x14, x16 => if x16 < (x11.length : Int) then (if x14 = true then (if 0 ≤ x16 then (if 0 < (x9.length : Int) then (if 0 ≤ x13 then (if x13 < ((XA x9 0).length : Int) then ((Xy.f k (XA x11 x16) ((Xn (XA x9 0) x13).f0) ((Xn (XA x9 0) x13).f1) ((Xn (XA x9 0) x13).f2)).bind fun t276 => (Xf.l2 k x9 x11 x12 x13 (!t276) (wrap64 (x16 + 1)))) else (none)) else (none)) else (none)) else (none)) else (Xf.l2 k x9 x11 x12 x13 false (wrap64 (x16 + 1)))) else (if x14 = true then (if 0 < (x9.length : Int) then (if 0 ≤ x13 then (if x13 < ((XA x9 0).length : Int) then (if x12.length < 5864062014805 then (Xf.l0 k x9 x11 (x12 ++ [(⟨(Xn (XA x9 0) x13).f0, (Xn (XA x9 0) x13).f1, (Xn (XA x9 0) x13).f2⟩ : S79)]) (wrap64 (x13 + 1))) else (none)) else (none)) else (none)) else (none)) else (Xf.l0 k x9 x11 x12 (wrap64 (x13 + 1))))
end
def Xf.f (k : Nat) (l0 : List (S144)) (l1 : List (S58)) (l2 : List (S58)) : Option ((List (S79)) × Int) := (Xk.f k l0).bind fun t256 => (if t256 = 0 then (if (l1.length : Int) > 40 then (Xf.j0 k l0 l1 l2 true) else (Xf.j0 k l0 l1 l2 (decide ((l2.length : Int) > 40)))) else (some (([] : List (S79)), t256)))
def Xf.T22 : Bool × List (List Nat × List Nat) := (true, [([], []), ([0], [0]), ([1], [1]), ([1], [1]), ([2, 3, 1], [1, 2, 3]), ([4, 1], [1, 4]), ([1], [1]), ([6, 1], [1, 6]), ([7, 1], [1, 7]), ([1], [1]), ([8, 9, 1], [1, 8, 9]), ([10, 1], [1, 10]), ([5, 11, 1, 1], [1, 5, 11]), ([1, 12], [1, 12]), ([13, 12, 0, 1, 2, 3, 4, 5, 6, 7, 8, 9, 10, 11, 12, 13], [0, 13])])
def Xf.B22 : List Nat := [0, 1, 3, 3, 15, 31, 3, 67, 195, 3, 963, 1987, 4095, 8191, 16383]
theorem Xf.tab22 : rtab .any (Xan Try.f41 22) = Xf.T22 := by kernel_rfl
theorem Xf.bits22 : YI Xf.T22.2 Xf.B22 = true := by kernel_rfl
def Xf.T26 : Bool × List (List Nat × List Nat) := (true, [([], []), ([0], [0]), ([1], [1]), ([1], [1]), ([2, 3, 1], [1, 2, 3]), ([4, 1], [1, 4]), ([1], [1]), ([6, 1], [1, 6]), ([7, 1], [1, 7]), ([1], [1]), ([8, 9, 1], [1, 8, 9]), ([10, 1], [1, 10]), ([5, 11, 1, 1], [1, 5, 11]), ([12, 1], [1, 12]), ([1, 13], [1, 13]), ([14, 12, 0, 1, 2, 3, 4, 5, 6, 7, 8, 9, 10, 11, 12, 13, 14], [0, 14])])
def Xf.B26 : List Nat := [0, 1, 3, 3, 15, 31, 3, 67, 195, 3, 963, 1987, 4095, 8191, 16383, 32767]
theorem Xf.tab26 : rtab .any (Xan Try.f41 26) = Xf.T26 := by kernel_rfl
theorem Xf.bits26 : YI Xf.T26.2 Xf.B26 = true := by kernel_rfl
set_option maxHeartbeats 8000000 in
set_option maxRecDepth 100000 in
theorem Xf.calls (k : Nat) (A0 : Option Addr) (c0 : Nat) (l0 : List (S144)) (A1 : Option Addr) (c1 : Nat) (l1 : List (S58)) (A2 : Option Addr) (c2 : Nat) (l2 : List (S58)) (r1 : List (S79)) (r2 : Int) (w : World) (hr0 : Kd.C k144 w A0 l0.length l0) (hc0 : l0.length ≤ c0) (hr1 : Kd.C k58 w A1 l1.length l1) (hc1 : l1.length ≤ c1) (hr2 : Kd.C k58 w A2 l2.length l2) (hc2 : l2.length ≤ c2) (h : Xf.f k l0 l1 l2 = some (r1, r2)) :
  Calls Try.prog 41 #[.slice A0 l0.length c0, .slice A1 l1.length c1, .slice A2 l2.length c2] w fun e w' => ∃ v0_ : Value, e = .returned (.tuple #[v0_, .int .i64 r2]) ∧ Kd.R k79 79 w' w.heap.size (fun _ => True) v0_ r1 ∧ Below w.heap.size w w' := by
 have hu79 := Try.underlying79
 have HR0 := Xa.mk hr0
 have HC0 := Xa.mk hc0
 clear hr0 hc0
 have HR1 := Xa.mk hr1
 have HC1 := Xa.mk hc1
 clear hr1 hc1
 have HR2 := Xa.mk hr2
 have HC2 := Xa.mk hc2
 clear hr2 hc2
 have HB := Xa.mk (Below.refl w.heap.size w)
 have H : ((Xk.f k l0).bind fun t256 => (if t256 = 0 then (if (l1.length : Int) > 40 then (Xf.j0 k l0 l1 l2 true) else (Xf.j0 k l0 l1 l2 (decide ((l2.length : Int) > 40)))) else (some (([] : List (S79)), t256)))) = some (r1, r2) := h
 clear h
 replace H := Option.bind_eq_some_iff.mp H
 obtain ⟨t256, A40, H⟩ := H; (try dsimp only at H)
 have A4 := Xa.mk A40
 clear A40
 by_cases c5 : t256 = 0
 ·rw [if_pos c5] at H
  have c5b0 : (t256 == 0) = true := beq_iff_eq.mpr c5
  have c5b1 : (t256 != 0) = false := bne_eq_false_iff_eq.mpr c5
  clear c5
  have HC6 := Xa.mk H
  clear H
  go_enter Try.func41, Try.ntmps41
  go_upto_region 4 with (first | ((with_reducible refine Xp (f := 34) rfl ?_); refine XL (some 18) rfl rfl Try.func34 (by kernel_rfl) rfl #[.slice A0 l0.length c0] rfl (by (try simp only [List.map_toArray, List.map_cons, List.map_nil]); first | done | rfl | (simp only [List.length_drop, List.length_take]; rfl)) ?_; (with_reducible refine (Xk.calls k _ _ l0 t256 _ ?side1 ?side2 A4.out).mono ?_); (case side1 => repeat (first | exact HR0.out | (with_reducible refine Kd.C_alloc ?_ _) | (with_reducible refine Kd.C_drewN ?_ _) | (with_reducible refine Kd.C_drew ?_))); (case side2 => exact HC0.out); rintro e w7 ⟨rfl, hb⟩; refine ⟨_, rfl, ?_⟩; replace HB := Xa.mk (Xi HB.out hb); (try clear hb); (try clear hb2); (try clear hk); (try clear hi)))
  (try simp only [Act.put, sa_, s0_, s1_])
  go_cut [29] (fun v29 wc => ∃ (kq : Nat) (x29_5 : Bool), v29 = .bool x29_5 ∧ Xa (Xf.j0 kq l0 l1 l2 x29_5 = some (r1, r2)) ∧ Xa (kq ≤ k) ∧ Xa (Below w.heap.size w wc))
  case first => as_aux_lemma =>
   have H := HC6.out
   clear HC6
   by_cases c8 : (l1.length : Int) > 40
   ·rw [if_pos c8] at H
    have c8b0 : decide (40 < (l1.length : Int)) = true := decide_eq_true c8
    have c8b1 : decide (40 < l1.length) = true := decide_eq_true (by omega)
    clear c8
    (first | rw [c8b0] | (simp only [XR, XS]; rw [c8b0]) | skip)
    have H' := Xa.mk H
    clear H
    go_wp2
    go_meet
    case rel => exact ⟨_, (true), fx_, H', ⟨by first | omega | exact Nat.le_refl _⟩, ⟨hb_ HB⟩⟩
   ·rw [if_neg c8] at H
    have c8b0 : decide (40 < (l1.length : Int)) = false := decide_eq_false c8
    have c8b1 : decide (40 < l1.length) = false := decide_eq_false (by omega)
    clear c8
    (first | rw [c8b0] | (simp only [XR, XS]; rw [c8b0]) | skip)
    have H' := Xa.mk H
    clear H
    go_wp2
    go_meet
    case rel => exact ⟨_, (decide ((l2.length : Int) > 40)), fx_, H', ⟨by first | omega | exact Nat.le_refl _⟩, ⟨hb_ HB⟩⟩
  case rest => as_aux_lemma =>
   clear HC6
   clear c5b0 c5b1
   obtain ⟨kq, x29_5, rfl, HA, HJ5, HB⟩ := hcut
   cases kq with
   | zero => exact absurd HA.out (by simp [Xf.j0])
   | succ kj5 =>
    have H := HA.out
    clear HA
    simp only [Xf.j0] at H
    by_cases c9 : x29_5 = true
    ·subst c9
     have H1 : (some (([] : List (S79)), 5)) = some (r1, r2) := by rw [if_pos rfl] at H; exact H
     clear H
     have H := H1
     clear H1
     simp only [Option.some.injEq, Prod.mk.injEq] at H
     obtain ⟨rfl, rfl⟩ := H
     go_wp2
     go_ret2
     exact ⟨_, by first | rfl | (simp [errW_none, errW_some] <;> rfl) | (simp [*, errW_none, errW_some] <;> rfl), by first | exact Kd.R_nil _ _ _ _ _ | exact Kd.N_nil _ _ _ _ _ | exact Kd.V_nil _ _ _ _ _ | exact Kd.Q_nil _ _ _ _ _ | exact Kd.S_nil _ _ _ _ _, by repeat (first | (with_reducible first | exact HB.out | apply Xs | apply Xo | apply Xl) | exact HB.out)⟩
    ·replace c9 := Bool.eq_false_iff.mpr c9
     subst c9
     have H1 : (if (l1.length : Int) = 0 then (some (([] : List (S79)), 7)) else ((Xx.f kj5 l0 l1).bind fun bt257 => (if bt257.2 = 0 then ((Xx.f kj5 l0 l2).bind fun bt261 => (if bt261.2 = 0 then (Xf.l0 kj5 bt257.1 bt261.1 (([] : List (S79))) 0) else (some (([] : List (S79)), bt261.2)))) else (some (([] : List (S79)), bt257.2))))) = some (r1, r2) := by rw [if_neg (show ¬ (false = true) by decide)] at H; exact H
     clear H
     have H := H1
     clear H1
     by_cases c10 : (l1.length : Int) = 0
     ·rw [if_pos c10] at H
      have c10b0 : ((l1.length : Int) == 0) = true := beq_iff_eq.mpr c10
      have c10b1 : ((l1.length : Int) != 0) = false := bne_eq_false_iff_eq.mpr c10
      clear c10
      simp only [Option.some.injEq, Prod.mk.injEq] at H
      obtain ⟨rfl, rfl⟩ := H
      go_wp2
      go_ret2
      exact ⟨_, by first | rfl | (simp [errW_none, errW_some] <;> rfl) | (simp [*, errW_none, errW_some] <;> rfl), by first | exact Kd.R_nil _ _ _ _ _ | exact Kd.N_nil _ _ _ _ _ | exact Kd.V_nil _ _ _ _ _ | exact Kd.Q_nil _ _ _ _ _ | exact Kd.S_nil _ _ _ _ _, by repeat (first | (with_reducible first | exact HB.out | apply Xs | apply Xo | apply Xl) | exact HB.out)⟩
     ·rw [if_neg c10] at H
      have c10b0 : ((l1.length : Int) == 0) = false := beq_eq_false_iff_ne.mpr c10
      have c10b1 : ((l1.length : Int) != 0) = true := bne_iff_ne.mpr c10
      have c10b2 : ¬ (l1 = []) := fun h_ => c10 (by rw [h_]; rfl)
      replace H := Option.bind_eq_some_iff.mp H
      obtain ⟨⟨t257, t258⟩, A110, H⟩ := H; (try dsimp only at H)
      have A11 := Xa.mk A110
      clear A110
      by_cases c12 : t258 = 0
      ·rw [if_pos c12] at H
       have c12b0 : (t258 == 0) = true := beq_iff_eq.mpr c12
       have c12b1 : (t258 != 0) = false := bne_eq_false_iff_eq.mpr c12
       clear c12
       replace H := Option.bind_eq_some_iff.mp H
       obtain ⟨⟨t261, t262⟩, A130, H⟩ := H; (try dsimp only at H)
       have A13 := Xa.mk A130
       clear A130
       by_cases c14 : t262 = 0
       ·rw [if_pos c14] at H
        have c14b0 : (t262 == 0) = true := beq_iff_eq.mpr c14
        have c14b1 : (t262 != 0) = false := bne_eq_false_iff_eq.mpr c14
        clear c14
        obtain ⟨y265, hy265⟩ : ∃ y_ : List (S79), y_ = (([] : List (S79))) := ⟨_, rfl⟩
        replace H : (Xf.l0 kj5 t257 t261 y265 0) = some (r1, r2) := by first | (rw [hy265]; with_reducible exact H) | (have H2_ := (Option.bind_some _ _).symm.trans H; rw [hy265]; with_reducible exact H2_) | (have H2_ := (Option.bind_some _ _).symm.trans H; with_reducible exact H2_) | with_reducible exact H | (rw [hy265]; exact H) | exact H
        have Ny265 := Xa.mk hy265
        clear hy265
        have H' := Xa.mk H
        clear H
        go_wp2_with (first | ((with_reducible refine Xp (f := 46) rfl ?_); refine XL (some 36) rfl rfl Try.func46 (by kernel_rfl) rfl #[.slice A0 l0.length c0, .slice A1 l1.length c1] rfl (by (try simp only [List.map_toArray, List.map_cons, List.map_nil]); first | done | rfl | (simp only [List.length_drop, List.length_take]; rfl)) ?_; (with_reducible refine (Xx.calls kj5 _ _ l0 _ _ l1 t257 t258 _ ?side1 ?side2 ?side3 ?side4 A11.out).mono ?_); (case side1 => exact cA_ (Kd.C_below HR0.out HB.out)); (case side2 => exact HC0.out); (case side3 => exact cA_ (Kd.C_below HR1.out HB.out)); (case side4 => exact HC1.out); rintro e w15 ⟨v259, rfl, ho0, hb⟩; refine ⟨_, rfl, ?_⟩; have HO260 := Xa.mk (Kd.S_lower ho0 (Xg HB.out)); replace HB := Xa.mk (Xi HB.out hb); (try clear hb); (try clear hb2); (try clear hk); (try clear hi); (try clear ho0)) | ((with_reducible refine Xp (f := 46) rfl ?_); refine XL (some 45) rfl rfl Try.func46 (by kernel_rfl) rfl #[.slice A0 l0.length c0, .slice A2 l2.length c2] rfl (by (try simp only [List.map_toArray, List.map_cons, List.map_nil]); first | done | rfl | (simp only [List.length_drop, List.length_take]; rfl)) ?_; (with_reducible refine (Xx.calls kj5 _ _ l0 _ _ l2 t261 t262 _ ?side1 ?side2 ?side3 ?side4 A13.out).mono ?_); (case side1 => exact cA_ (Kd.C_below HR0.out HB.out)); (case side2 => exact HC0.out); (case side3 => exact cA_ (Kd.C_below HR2.out HB.out)); (case side4 => exact HC2.out); rintro e w16 ⟨v263, rfl, ho0, hb⟩; refine ⟨_, rfl, ?_⟩; have HO264 := Xa.mk (Kd.S_lower (Kd.S_new' ho0 (Kd.S_lt (by (with_reducible repeat (first | apply Kd.S_alloc | apply Kd.S_drewN | apply Kd.S_drew)); exact HO260.out))) (Xg HB.out)); replace HO260 := Xa.mk (Kd.S_elder' (by (with_reducible repeat (first | apply Kd.S_alloc | apply Kd.S_drewN | apply Kd.S_drew)); exact HO260.out) (Kd.S_base ho0) hb); replace HB := Xa.mk (Xi HB.out hb); (try clear hb); (try clear hb2); (try clear hk); (try clear hi); (try clear ho0)) | ((with_reducible refine Xz (N := 51) rfl ?_); (try (refine Yk (by rfl) ?_; dsimp only)); refine Kd.R_lit k79 _ 79 ?hg (N := 51) ?hd (xs := ([] : List (S79))) (inner := []) (ok := fun _ => True) (okp := fun _ => True) ?hr ?hp (fun _ hk => hk) trivial (Below.refl _ _) (Nat.le_refl _) (by simp) ?_; (case hd => rfl); (case hg => rfl); (case hr => first | (go_simp; done) | (go_simp; rfl)); (case hp => exact (Reps.none _ _)); intro v266 w17 ho18 hb hg_ hnew_; clear hg_ hnew_; (first | rw [← Ny265.out] at ho18 | (simp only [Int.reduceToNat] at ho18; rw [← Ny265.out] at ho18)); replace HO260 := Xa.mk (Kd.S_elder' (by (with_reducible repeat (first | apply Kd.S_alloc | apply Kd.S_drewN | apply Kd.S_drew)); exact HO260.out) (Kd.R_base ho18) hb); replace HO264 := Xa.mk (Kd.S_elder' (by (with_reducible repeat (first | apply Kd.S_alloc | apply Kd.S_drewN | apply Kd.S_drew)); exact HO264.out) (Kd.R_base ho18) hb); have HO267 := Xa.mk (Kd.R_lower ho18 (Xg HB.out)); replace HB := Xa.mk (Xi HB.out hb); clear hb ho18))
        go_loopg [12, 13] kj5 (fun kq v12 v13 w' => ∃ (x12_2 : List (S79)) (x13_2 : Int), v13 = .int .i64 x13_2 ∧ Xa (Xf.l0 kq t257 t261 x12_2 x13_2 = some (r1, r2)) ∧ Xa (kq ≤ kj5) ∧ Xa (Kd.S (Kd.slice 79 k79) 62 w' w.heap.size (fun k_ => some k_ ≠ (v263 : Value).ownBlock ∧ some k_ ≠ (v12 : Value).ownBlock) v259 t257) ∧ Xa (Kd.S (Kd.slice 79 k79) 62 w' w.heap.size (fun k_ => some k_ ≠ (v259 : Value).ownBlock ∧ some k_ ≠ (v12 : Value).ownBlock) v263 t261) ∧ Xa (Kd.R k79 79 w' w.heap.size (fun _ => True) v12 x12_2) ∧ Xa (Below w.heap.size w w'))
        case atStart => exact ⟨(y265), (0), fx_, H', ⟨Nat.le_refl _⟩, ⟨by (with_reducible repeat (first | apply Kd.S_alloc | apply Kd.S_drewN | apply Kd.S_drew)); exact Kd.S_mono HO260.out (fun _ hk => ⟨hk.1.2, hk.2⟩)⟩, ⟨by (with_reducible repeat (first | apply Kd.S_alloc | apply Kd.S_drewN | apply Kd.S_drew)); exact Kd.S_mono HO264.out (fun _ hk => ⟨hk.1.2, hk.2⟩)⟩, ⟨ro_ HO267⟩, ⟨hb_ HB⟩⟩
        case round => as_aux_lemma =>
         clear H'
         clear c10 c10b0 c10b1 c10b2 c12b0 c12b1 c14b0 c14b1
         obtain ⟨x12_2, x13_2, rfl, HA, HK2, HO_9, HO_11, HO_12, HB⟩ := hrel
         cases gk with
         | zero => exact absurd HA.out (by simp [Xf.l0])
         | succ k2 =>
          have H := HA.out
          clear HA
          simp only [Xf.l0] at H
          by_cases c19 : 0 < (t257.length : Int)
          ·rw [if_pos c19] at H
           have c19b0 : decide (0 < (t257.length : Int)) = true := decide_eq_true c19
           have c19b1 : decide (0 < t257.length) = true := decide_eq_true (by omega)
           clear c19
           by_cases c20 : x13_2 < ((XA t257 0).length : Int)
           ·rw [if_pos c20] at H
            have c20b0 : decide (x13_2 < ((XA t257 0).length : Int)) = true := decide_eq_true c20
            clear c20
            have H' := Xa.mk H
            clear H
            obtain ⟨Ao21, co21, eo21⟩ := Kd.S_slice HO_9.out
            subst eo21
            have p268 : 0 ≤ (0 : Int) := (by omega)
            have q268 : 0 < (t257.length : Int) := of_decide_eq_true ‹_›
            obtain ⟨ad268, A268_0, c268_0, e268, hx268_0, hl268_0, hi268_0⟩ := XaB (Kd.S_reads' HO_9.out).2.2 0 p268 q268
            cases e268
            obtain ⟨ce268, hce268, hMe268, hcc268⟩ := Kd.S_get HO_9.out [] 0 p268 (by first | exact q268 | exact of_decide_eq_true ‹_› | (have e_ := (Kd.S_reads' HO_9.out).1; omega))
            obtain ⟨ve268_0, rfl, ge268_0⟩ := hMe268
            have hv268_0 := hcc268 0 _ rfl
            rw [Nat.add_zero, show ((Kd.slice 79 k79)).sz = 1 from rfl, Nat.mul_one] at hv268_0
            replace hv268_0 := Option.some.inj (hv268_0.symm.trans hx268_0)
            rw [hv268_0] at ge268_0
            have HL268_0 := Xa.mk (show Kd.R k79 79 _ _ _ _ (XA t257 0) from ge268_0)
            clear hv268_0 ge268_0
            clear hcc268 hce268
            have qi268 : (0 < t257.length) = True := eq_true (by omega)
            (try rw [show ((0 : Int)).toNat = 0 from rfl] at hx268_0)
            (try rw [Addr.add_zero'] at hx268_0)
            have HR268_0 := Xa.mk hi268_0
            have HC268_0 := Xa.mk hl268_0
            clear hi268_0 hl268_0
            replace p268 := eq_true p268
            replace q268 := eq_true q268
            go_wp2
            go_loopg [14, 15] k2 (fun kq v14 v15 w' => ∃ (x14_3 : Bool) (x15_3 : Int), v14 = .bool x14_3 ∧ v15 = .int .i64 x15_3 ∧ Xa (Xf.l1 kq t257 t261 x12_2 x13_2 x14_3 x15_3 = some (r1, r2)) ∧ Xa (kq ≤ k2) ∧ Xa (Kd.S (Kd.slice 79 k79) 62 w' w.heap.size (fun k_ => some k_ ≠ (v263 : Value).ownBlock ∧ some k_ ≠ (u12 : Value).ownBlock) (.slice (some ad268) t257.length co21) t257) ∧ Xa (Kd.S (Kd.slice 79 k79) 62 w' w.heap.size (fun k_ => some k_ ≠ ((.slice (some ad268) t257.length co21) : Value).ownBlock ∧ some k_ ≠ (u12 : Value).ownBlock) v263 t261) ∧ Xa (Kd.R k79 79 w' w.heap.size (fun _ => True) u12 x12_2) ∧ Xa (Kd.C k79 w' A268_0 (XA t257 0).length (XA t257 0)) ∧ Xa (Below w.heap.size w w'))
            case atStart => exact ⟨(true), (0), fx_, fx_, H', ⟨Nat.le_refl _⟩, ⟨by (with_reducible repeat (first | apply Kd.S_alloc | apply Kd.S_drewN | apply Kd.S_drew)); exact HO_9.out⟩, ⟨by (with_reducible repeat (first | apply Kd.S_alloc | apply Kd.S_drewN | apply Kd.S_drew)); exact HO_11.out⟩, ⟨ro_ HO_12⟩, ⟨by repeat (first | (with_reducible exact HR268_0.out) | (with_reducible refine Kd.C_alloc ?_ _) | (with_reducible refine Kd.C_drewN ?_ _) | (with_reducible refine Kd.C_drew ?_) | exact HR268_0.out)⟩, ⟨hb_ HB⟩⟩
            case round => as_aux_lemma =>
             clear H'
             clear c19b0 c19b1 c20b0 hx268_0 p268 q268
             obtain ⟨x14_3, x15_3, rfl, rfl, HA, HK3, HO_9, HO_11, HO_12, HR268_0, HB⟩ := hrel
             cases gk with
             | zero => exact absurd HA.out (by simp [Xf.l1])
             | succ k3 =>
              have H := HA.out
              clear HA
              simp only [Xf.l1] at H
              by_cases c22 : x15_3 < (t257.length : Int)
              ·rw [if_pos c22] at H
               have c22b0 : decide (x15_3 < (t257.length : Int)) = true := decide_eq_true c22
               clear c22
               by_cases c23 : x14_3 = true
               ·subst c23
                have H1 : (if 0 ≤ x15_3 then (if 0 < (t257.length : Int) then (if 0 ≤ x13_2 then (if x13_2 < ((XA t257 0).length : Int) then ((Xy.f k3 (XA t257 x15_3) ((Xn (XA t257 0) x13_2).f0) ((Xn (XA t257 0) x13_2).f1) ((Xn (XA t257 0) x13_2).f2)).bind fun t272 => (Xf.l1 k3 t257 t261 x12_2 x13_2 t272 (wrap64 (x15_3 + 1)))) else (none)) else (none)) else (none)) else (none)) = some (r1, r2) := by rw [if_pos rfl] at H; exact H
                clear H
                have H := H1
                clear H1
                by_cases c24 : 0 ≤ x15_3
                ·rw [if_pos c24] at H
                 have c24b0 : decide (0 ≤ x15_3) = true := decide_eq_true c24
                 clear c24
                 by_cases c25 : 0 < (t257.length : Int)
                 ·rw [if_pos c25] at H
                  have c25b0 : decide (0 < (t257.length : Int)) = true := decide_eq_true c25
                  have c25b1 : decide (0 < t257.length) = true := decide_eq_true (by omega)
                  clear c25
                  by_cases c26 : 0 ≤ x13_2
                  ·rw [if_pos c26] at H
                   have c26b0 : decide (0 ≤ x13_2) = true := decide_eq_true c26
                   clear c26
                   by_cases c27 : x13_2 < ((XA t257 0).length : Int)
                   ·rw [if_pos c27] at H
                    have c27b0 : decide (x13_2 < ((XA t257 0).length : Int)) = true := decide_eq_true c27
                    clear c27
                    replace H := Option.bind_eq_some_iff.mp H
                    obtain ⟨t272, A280, H⟩ := H; (try dsimp only at H)
                    have A28 := Xa.mk A280
                    clear A280
                    have H' := Xa.mk H
                    clear H
                    try go_wp2
                    have n0_ := Xa.mk (Kd.S_drew HO_9.out)
                    have n1_ := Xa.mk (Kd.S_drew HO_11.out)
                    have n2_ := Xa.mk (Kd.R_drew HO_12.out)
                    have n3_ := Xa.mk (Kd.C_drew HR268_0.out)
                    have n4_ := Xa.mk (Xl HB.out)
                    clear HO_9
                    clear HO_11
                    clear HO_12
                    clear HR268_0
                    clear HB
                    have HO_9 := n0_
                    have HO_11 := n1_
                    have HO_12 := n2_
                    have HR268_0 := n3_
                    have HB := n4_
                    clear n0_ n1_ n2_ n3_ n4_
                    have p269 : 0 ≤ (x15_3 : Int) := of_decide_eq_true ‹_›
                    have q269 : x15_3 < (t257.length : Int) := of_decide_eq_true ‹_›
                    obtain ⟨ad269, A269_0, c269_0, e269, hx269_0, hl269_0, hi269_0⟩ := XaB (Kd.S_reads' HO_9.out).2.2 x15_3 p269 q269
                    obtain rfl : ad268 = ad269 := (by injection e269)
                    obtain ⟨ce269, hce269, hMe269, hcc269⟩ := Kd.S_get HO_9.out [] x15_3 p269 (by first | exact q269 | exact of_decide_eq_true ‹_› | (have e_ := (Kd.S_reads' HO_9.out).1; omega))
                    obtain ⟨ve269_0, rfl, ge269_0⟩ := hMe269
                    have hv269_0 := hcc269 0 _ rfl
                    rw [Nat.add_zero, show ((Kd.slice 79 k79)).sz = 1 from rfl, Nat.mul_one] at hv269_0
                    replace hv269_0 := Option.some.inj (hv269_0.symm.trans hx269_0)
                    rw [hv269_0] at ge269_0
                    have HL269_0 := Xa.mk (show Kd.R k79 79 _ _ _ _ (XA t257 x15_3) from ge269_0)
                    clear hv269_0 ge269_0
                    clear hcc269 hce269
                    have HR269_0 := Xa.mk hi269_0
                    have HC269_0 := Xa.mk hl269_0
                    clear hi269_0 hl269_0
                    replace p269 := eq_true p269
                    replace q269 := eq_true q269
                    have p270 : 0 ≤ (0 : Int) := (by omega)
                    have q270 : 0 < (t257.length : Int) := of_decide_eq_true ‹_›
                    obtain ⟨ad270, A270_0, c270_0, e270, hx270_0, hl270_0, hi270_0⟩ := XaB (Kd.S_reads' HO_9.out).2.2 0 p270 q270
                    obtain rfl : ad268 = ad270 := (by injection e270)
                    obtain ⟨ce270, hce270, hMe270, hcc270⟩ := Kd.S_get HO_9.out [] 0 p270 (by first | exact q270 | exact of_decide_eq_true ‹_› | (have e_ := (Kd.S_reads' HO_9.out).1; omega))
                    obtain ⟨ve270_0, rfl, ge270_0⟩ := hMe270
                    have hv270_0 := hcc270 0 _ rfl
                    rw [Nat.add_zero, show ((Kd.slice 79 k79)).sz = 1 from rfl, Nat.mul_one] at hv270_0
                    replace hv270_0 := Option.some.inj (hv270_0.symm.trans hx270_0)
                    rw [hv270_0] at ge270_0
                    have HL270_0 := Xa.mk (show Kd.R k79 79 _ _ _ _ (XA t257 0) from ge270_0)
                    clear hv270_0 ge270_0
                    clear hcc270 hce270
                    have qi270 : (0 < t257.length) = True := eq_true (by omega)
                    (try rw [show ((0 : Int)).toNat = 0 from rfl] at hx270_0)
                    (try rw [Addr.add_zero'] at hx270_0)
                    have HR270_0 := Xa.mk hi270_0
                    have HC270_0 := Xa.mk hl270_0
                    clear hi270_0 hl270_0
                    replace p270 := eq_true p270
                    replace q270 := eq_true q270
                    have p271 : 0 ≤ (x13_2 : Int) := of_decide_eq_true ‹_›
                    have q271 : x13_2 < ((XA t257 0).length : Int) := of_decide_eq_true ‹_›
                    obtain ⟨ad271, e271, hx271_0, hx271_1, hx271_2⟩ := Jx (by repeat (first | (with_reducible exact HR270_0.out) | (with_reducible refine Kd.C_alloc ?_ _) | (with_reducible refine Kd.C_drewN ?_ _) | (with_reducible refine Kd.C_drew ?_) | exact HR270_0.out)) x13_2 p271 q271
                    cases e271
                    replace p271 := eq_true p271
                    replace q271 := eq_true q271
                    refine Yy (n := 15) (S := fun w' => w'.cell? (ad268.add (x15_3).toNat) = some (.slice A269_0 (XA t257 x15_3).length c269_0) ∧ w'.cell? ad268 = some (.slice (some ad271) (XA t257 0).length c270_0) ∧ w'.cell? (ad271.add ((x13_2).toNat * 3)) = some (.int .i64 ((Xn (XA t257 0) x13_2).f0)) ∧ w'.cell? ⟨(ad271.add ((x13_2).toNat * 3)).block, (ad271.add ((x13_2).toNat * 3)).off + 1, none⟩ = some (.int .i64 ((Xn (XA t257 0) x13_2).f1)) ∧ w'.cell? ⟨(ad271.add ((x13_2).toNat * 3)).block, (ad271.add ((x13_2).toNat * 3)).off + 2, none⟩ = some (.int .i64 ((Xn (XA t257 0) x13_2).f2))) (ds := []) #[ff, ff, ff, ff, ff, ff, ff, ff, ff, ff, ff, ff, ff, ff, ff] (by kernel_rfl) rfl rfl ⟨hx269_0, hx270_0, hx271_0, hx271_1, hx271_2⟩ (fun hHeld => ?_); refine X9 Xf.tab22 Xf.bits22 (fun HT_ HW_ => ?_)
                    generalize wr.drew = w29 at HO_9 HO_11 HO_12 HR268_0 HB HL269_0 HL270_0 HR269_0 HR270_0 hx269_0 hx270_0 hx271_0 hx271_1 hx271_2 hHeld ⊢
                    refine pu_ 0 66 HT_ ?_
                    refine pu_ 1 67 HT_ ?_
                    refine pu_ 2 68 HT_ ?_
                    refine pu_ 3 69 HT_ ?_
                    refine pu_ 4 70 HT_ ?_
                    refine pu_ 6 72 HT_ ?_
                    refine pu_ 7 73 HT_ ?_
                    refine pu_ 9 75 HT_ ?_
                    refine tw_ 5 71 HT_ HW_ hHeld ?_
                    refine tw_ 8 74 HT_ HW_ hHeld ?_
                    refine pu_ 10 76 HT_ ?_
                    refine tw_ 11 77 HT_ HW_ hHeld ?_
                    refine one_ (i := 12) (N := some 78) #[tt, tt, tt, tt, tt, tt, tt, tt, tt, tt, tt, tt, tt, ff, ff] rfl rfl (Ys HT_.out (by kernel_rfl)) (by decide) (fun K hK => ?_)
                    refine Y8 Try.func47 (by kernel_rfl) rfl #[.slice A269_0 (XA t257 x15_3).length c269_0, .agg #[.int .i64 ((Xn (XA t257 0) x13_2).f0), .int .i64 ((Xn (XA t257 0) x13_2).f1), .int .i64 ((Xn (XA t257 0) x13_2).f2)]] (by rfl) rfl rfl (by (try simp only [List.map_toArray, List.map_cons, List.map_nil]); first | done | rfl | (simp only [List.length_drop, List.length_take]; rfl)) ?_
                    with_reducible refine (Xy.calls k3 _ _ (XA t257 x15_3) ((Xn (XA t257 0) x13_2).f0) ((Xn (XA t257 0) x13_2).f1) ((Xn (XA t257 0) x13_2).f2) t272 _ ?side1 ?side2 A28.out).mono ?_
                    (case side1 => repeat (first | exact (by repeat (first | (with_reducible exact HR269_0.out) | (with_reducible refine Kd.C_alloc ?_ _) | (with_reducible refine Kd.C_drewN ?_ _) | (with_reducible refine Kd.C_drew ?_) | exact HR269_0.out)) | (with_reducible refine Kd.C_alloc ?_ _) | (with_reducible refine Kd.C_drewN ?_ _) | (with_reducible refine Kd.C_drew ?_)))
                    (case side2 => exact HC269_0.out)
                    rintro e w30 ⟨rfl, hb⟩
                    have HS0_ := (hb.cell (World.block_lt_of_cell? _ _ (hHeld.1))).trans (hHeld.1)
                    have HS1_ := (hb.cell (World.block_lt_of_cell? _ _ (hHeld.2.1))).trans (hHeld.2.1)
                    have HS2_ := (hb.cell (World.block_lt_of_cell? _ _ (hHeld.2.2.1))).trans (hHeld.2.2.1)
                    have HS3_ := (hb.cell (World.block_lt_of_cell? _ _ (hHeld.2.2.2.1))).trans (hHeld.2.2.2.1)
                    have HS4_ := (hb.cell (World.block_lt_of_cell? _ _ (hHeld.2.2.2.2))).trans (hHeld.2.2.2.2)
                    refine ⟨_, rfl, ?_⟩
                    have n0_ := Xa.mk (Kd.S_below (by (with_reducible repeat (first | apply Kd.S_alloc | apply Kd.S_drewN | apply Kd.S_drew)); exact HO_9.out) hb)
                    have n1_ := Xa.mk (Kd.S_below (by (with_reducible repeat (first | apply Kd.S_alloc | apply Kd.S_drewN | apply Kd.S_drew)); exact HO_11.out) hb)
                    have n2_ := rb_ HO_12 hb
                    have n3_ := Xa.mk (Kd.R_below (by (with_reducible repeat (first | apply Kd.R_alloc | apply Kd.R_drewN | apply Kd.R_drew)); exact HL269_0.out) hb)
                    have n4_ := Xa.mk (Kd.R_below (by (with_reducible repeat (first | apply Kd.R_alloc | apply Kd.R_drewN | apply Kd.R_drew)); exact HL270_0.out) hb)
                    have n5_ := Xa.mk (Kd.C_below (by repeat (first | (with_reducible exact HR268_0.out) | (with_reducible refine Kd.C_alloc ?_ _) | (with_reducible refine Kd.C_drewN ?_ _) | (with_reducible refine Kd.C_drew ?_) | exact HR268_0.out)) hb)
                    have n6_ := Xa.mk (Kd.C_below (by repeat (first | (with_reducible exact HR269_0.out) | (with_reducible refine Kd.C_alloc ?_ _) | (with_reducible refine Kd.C_drewN ?_ _) | (with_reducible refine Kd.C_drew ?_) | exact HR269_0.out)) hb)
                    have n7_ := Xa.mk (Kd.C_below (by repeat (first | (with_reducible exact HR270_0.out) | (with_reducible refine Kd.C_alloc ?_ _) | (with_reducible refine Kd.C_drewN ?_ _) | (with_reducible refine Kd.C_drew ?_) | exact HR270_0.out)) hb)
                    have n8_ := Xa.mk (Xi HB.out hb)
                    clear HO_9
                    clear HO_11
                    clear HO_12
                    clear HL269_0
                    clear HL270_0
                    clear HR268_0
                    clear HR269_0
                    clear HR270_0
                    clear HB
                    have HO_9 := n0_
                    have HO_11 := n1_
                    have HO_12 := n2_
                    have HL269_0 := n3_
                    have HL270_0 := n4_
                    have HR268_0 := n5_
                    have HR269_0 := n6_
                    have HR270_0 := n7_
                    have HB := n8_
                    clear n0_ n1_ n2_ n3_ n4_ n5_ n6_ n7_ n8_
                    (try clear hb)
                    (try clear hb2)
                    (try clear hk)
                    (try clear hi)
                    refine hK.out _ _ ⟨HS0_, HS1_, HS2_, HS3_, HS4_⟩ (fun hHeld => ?_)
                    clear hK K
                    refine Yr (a' := ?_) ?_ ?_
                    rotate_left
                    ·show Act.put _ (some 78) _ = _
                     simp only [Act.put, sa_, s0_, s1_, XR, XS]
                     rfl
                    refine pu_ 13 79 HT_ ?_
                    refine pu_ 14 14 HT_ ?_
                    refine YS (Yo HT_.out (by kernel_rfl)) ?_
                    try go_wp2
                    go_roundg k3
                    case measure => have := HJ5.out; have := HK2.out; have := HK3.out; omega
                    case rel => exact ⟨(t272), (wrap64 (x15_3 + 1)), fx_, fx_, H', ⟨by have := HJ5.out; have := HK2.out; have := HK3.out; omega⟩, ⟨by (with_reducible repeat (first | apply Kd.S_alloc | apply Kd.S_drewN | apply Kd.S_drew)); exact HO_9.out⟩, ⟨by (with_reducible repeat (first | apply Kd.S_alloc | apply Kd.S_drewN | apply Kd.S_drew)); exact HO_11.out⟩, ⟨ro_ HO_12⟩, ⟨by repeat (first | (with_reducible exact HR268_0.out) | (with_reducible refine Kd.C_alloc ?_ _) | (with_reducible refine Kd.C_drewN ?_ _) | (with_reducible refine Kd.C_drew ?_) | exact HR268_0.out)⟩, ⟨hb_ HB⟩⟩
                   ·rw [if_neg c27] at H
                    exact absurd H (by simp)
                  ·rw [if_neg c26] at H
                   exact absurd H (by simp)
                 ·rw [if_neg c25] at H
                  exact absurd H (by simp)
                ·rw [if_neg c24] at H
                 exact absurd H (by simp)
               ·replace c23 := Bool.eq_false_iff.mpr c23
                subst c23
                have H1 : (Xf.l1 k3 t257 t261 x12_2 x13_2 false (wrap64 (x15_3 + 1))) = some (r1, r2) := by rw [if_neg (show ¬ (false = true) by decide)] at H; exact H
                clear H
                have H := H1
                clear H1
                have H' := Xa.mk H
                clear H
                try go_wp2
                have n0_ := Xa.mk (Kd.S_drew HO_9.out)
                have n1_ := Xa.mk (Kd.S_drew HO_11.out)
                have n2_ := Xa.mk (Kd.R_drew HO_12.out)
                have n3_ := Xa.mk (Kd.C_drew HR268_0.out)
                have n4_ := Xa.mk (Xl HB.out)
                clear HO_9
                clear HO_11
                clear HO_12
                clear HR268_0
                clear HB
                have HO_9 := n0_
                have HO_11 := n1_
                have HO_12 := n2_
                have HR268_0 := n3_
                have HB := n4_
                clear n0_ n1_ n2_ n3_ n4_
                refine Yy (n := 15) (S := fun w' => True) (ds := []) #[ff, ff, ff, ff, ff, ff, ff, ff, ff, ff, ff, ff, ff, ff, ff] (by kernel_rfl) rfl rfl trivial (fun hHeld => ?_); refine X9 Xf.tab22 Xf.bits22 (fun HT_ HW_ => ?_)
                generalize wr.drew = w31 at HO_9 HO_11 HO_12 HR268_0 HB hHeld ⊢
                refine pu_ 0 66 HT_ ?_
                refine pu_ 1 67 HT_ ?_
                refine po_ 2 68 HT_ ?_
                refine po_ 3 69 HT_ ?_
                refine po_ 4 70 HT_ ?_
                refine po_ 5 71 HT_ ?_
                refine po_ 6 72 HT_ ?_
                refine po_ 7 73 HT_ ?_
                refine po_ 8 74 HT_ ?_
                refine po_ 9 75 HT_ ?_
                refine po_ 10 76 HT_ ?_
                refine po_ 11 77 HT_ ?_
                refine po_ 12 78 HT_ ?_
                refine pu_ 13 79 HT_ ?_
                refine pu_ 14 14 HT_ ?_
                refine YS (Yo HT_.out (by kernel_rfl)) ?_
                try go_wp2
                go_roundg k3
                case measure => have := HJ5.out; have := HK2.out; have := HK3.out; omega
                case rel => exact ⟨(false), (wrap64 (x15_3 + 1)), fx_, fx_, H', ⟨by have := HJ5.out; have := HK2.out; have := HK3.out; omega⟩, ⟨by (with_reducible repeat (first | apply Kd.S_alloc | apply Kd.S_drewN | apply Kd.S_drew)); exact HO_9.out⟩, ⟨by (with_reducible repeat (first | apply Kd.S_alloc | apply Kd.S_drewN | apply Kd.S_drew)); exact HO_11.out⟩, ⟨ro_ HO_12⟩, ⟨by repeat (first | (with_reducible exact HR268_0.out) | (with_reducible refine Kd.C_alloc ?_ _) | (with_reducible refine Kd.C_drewN ?_ _) | (with_reducible refine Kd.C_drew ?_) | exact HR268_0.out)⟩, ⟨hb_ HB⟩⟩
              ·rw [if_neg c22] at H
               have c22b0 : decide (x15_3 < (t257.length : Int)) = false := decide_eq_false c22
               clear c22
               have H' := Xa.mk H
               clear H
               go_wp2
               go_loopg [14, 16] k3 (fun kq v14 v16 w' => ∃ (x14_4 : Bool) (x16_4 : Int), v14 = .bool x14_4 ∧ v16 = .int .i64 x16_4 ∧ Xa (Xf.l2 kq t257 t261 x12_2 x13_2 x14_4 x16_4 = some (r1, r2)) ∧ Xa (kq ≤ k3) ∧ Xa (Kd.S (Kd.slice 79 k79) 62 w' w.heap.size (fun k_ => some k_ ≠ (v263 : Value).ownBlock ∧ some k_ ≠ (u12 : Value).ownBlock) (.slice (some ad268) t257.length co21) t257) ∧ Xa (Kd.S (Kd.slice 79 k79) 62 w' w.heap.size (fun k_ => some k_ ≠ ((.slice (some ad268) t257.length co21) : Value).ownBlock ∧ some k_ ≠ (u12 : Value).ownBlock) v263 t261) ∧ Xa (Kd.R k79 79 w' w.heap.size (fun _ => True) u12 x12_2) ∧ Xa (Kd.C k79 w' A268_0 (XA t257 0).length (XA t257 0)) ∧ Xa (Below w.heap.size w w'))
               case atStart => exact ⟨(x14_3), (0), fx_, fx_, H', ⟨Nat.le_refl _⟩, ⟨by (with_reducible repeat (first | apply Kd.S_alloc | apply Kd.S_drewN | apply Kd.S_drew)); exact HO_9.out⟩, ⟨by (with_reducible repeat (first | apply Kd.S_alloc | apply Kd.S_drewN | apply Kd.S_drew)); exact HO_11.out⟩, ⟨ro_ HO_12⟩, ⟨by repeat (first | (with_reducible exact HR268_0.out) | (with_reducible refine Kd.C_alloc ?_ _) | (with_reducible refine Kd.C_drewN ?_ _) | (with_reducible refine Kd.C_drew ?_) | exact HR268_0.out)⟩, ⟨hb_ HB⟩⟩
               case round => as_aux_lemma =>
                clear H'
                clear c22b0
                obtain ⟨x14_4, x16_4, rfl, rfl, HA, HK4, HO_9, HO_11, HO_12, HR268_0, HB⟩ := hrel
                cases gk with
                | zero => exact absurd HA.out (by simp [Xf.l2])
                | succ k4 =>
                 have H := HA.out
                 clear HA
                 simp only [Xf.l2] at H
                 by_cases c32 : x16_4 < (t261.length : Int)
                 ·rw [if_pos c32] at H
                  have c32b0 : decide (x16_4 < (t261.length : Int)) = true := decide_eq_true c32
                  clear c32
                  by_cases c33 : x14_4 = true
                  ·subst c33
                   have H1 : (if 0 ≤ x16_4 then (if 0 < (t257.length : Int) then (if 0 ≤ x13_2 then (if x13_2 < ((XA t257 0).length : Int) then ((Xy.f k4 (XA t261 x16_4) ((Xn (XA t257 0) x13_2).f0) ((Xn (XA t257 0) x13_2).f1) ((Xn (XA t257 0) x13_2).f2)).bind fun t276 => (Xf.l2 k4 t257 t261 x12_2 x13_2 (!t276) (wrap64 (x16_4 + 1)))) else (none)) else (none)) else (none)) else (none)) = some (r1, r2) := by rw [if_pos rfl] at H; exact H
                   clear H
                   have H := H1
                   clear H1
                   by_cases c34 : 0 ≤ x16_4
                   ·rw [if_pos c34] at H
                    have c34b0 : decide (0 ≤ x16_4) = true := decide_eq_true c34
                    clear c34
                    by_cases c35 : 0 < (t257.length : Int)
                    ·rw [if_pos c35] at H
                     have c35b0 : decide (0 < (t257.length : Int)) = true := decide_eq_true c35
                     have c35b1 : decide (0 < t257.length) = true := decide_eq_true (by omega)
                     clear c35
                     by_cases c36 : 0 ≤ x13_2
                     ·rw [if_pos c36] at H
                      have c36b0 : decide (0 ≤ x13_2) = true := decide_eq_true c36
                      clear c36
                      by_cases c37 : x13_2 < ((XA t257 0).length : Int)
                      ·rw [if_pos c37] at H
                       have c37b0 : decide (x13_2 < ((XA t257 0).length : Int)) = true := decide_eq_true c37
                       clear c37
                       replace H := Option.bind_eq_some_iff.mp H
                       obtain ⟨t276, A380, H⟩ := H; (try dsimp only at H)
                       have A38 := Xa.mk A380
                       clear A380
                       have H' := Xa.mk H
                       clear H
                       obtain ⟨Ao39, co39, eo39⟩ := Kd.S_slice HO_11.out
                       subst eo39
                       try go_wp2
                       have n0_ := Xa.mk (Kd.S_drew HO_9.out)
                       have n1_ := Xa.mk (Kd.S_drew HO_11.out)
                       have n2_ := Xa.mk (Kd.R_drew HO_12.out)
                       have n3_ := Xa.mk (Kd.C_drew HR268_0.out)
                       have n4_ := Xa.mk (Xl HB.out)
                       clear HO_9
                       clear HO_11
                       clear HO_12
                       clear HR268_0
                       clear HB
                       have HO_9 := n0_
                       have HO_11 := n1_
                       have HO_12 := n2_
                       have HR268_0 := n3_
                       have HB := n4_
                       clear n0_ n1_ n2_ n3_ n4_
                       have p273 : 0 ≤ (x16_4 : Int) := of_decide_eq_true ‹_›
                       have q273 : x16_4 < (t261.length : Int) := of_decide_eq_true ‹_›
                       obtain ⟨ad273, A273_0, c273_0, e273, hx273_0, hl273_0, hi273_0⟩ := XaB (Kd.S_reads' HO_11.out).2.2 x16_4 p273 q273
                       cases e273
                       obtain ⟨ce273, hce273, hMe273, hcc273⟩ := Kd.S_get HO_11.out [] x16_4 p273 (by first | exact q273 | exact of_decide_eq_true ‹_› | (have e_ := (Kd.S_reads' HO_11.out).1; omega))
                       obtain ⟨ve273_0, rfl, ge273_0⟩ := hMe273
                       have hv273_0 := hcc273 0 _ rfl
                       rw [Nat.add_zero, show ((Kd.slice 79 k79)).sz = 1 from rfl, Nat.mul_one] at hv273_0
                       replace hv273_0 := Option.some.inj (hv273_0.symm.trans hx273_0)
                       rw [hv273_0] at ge273_0
                       have HL273_0 := Xa.mk (show Kd.R k79 79 _ _ _ _ (XA t261 x16_4) from ge273_0)
                       clear hv273_0 ge273_0
                       clear hcc273 hce273
                       have HR273_0 := Xa.mk hi273_0
                       have HC273_0 := Xa.mk hl273_0
                       clear hi273_0 hl273_0
                       replace p273 := eq_true p273
                       replace q273 := eq_true q273
                       have p274 : 0 ≤ (0 : Int) := (by omega)
                       have q274 : 0 < (t257.length : Int) := of_decide_eq_true ‹_›
                       obtain ⟨ad274, A274_0, c274_0, e274, hx274_0, hl274_0, hi274_0⟩ := XaB (Kd.S_reads' HO_9.out).2.2 0 p274 q274
                       obtain rfl : ad268 = ad274 := (by injection e274)
                       obtain ⟨ce274, hce274, hMe274, hcc274⟩ := Kd.S_get HO_9.out [] 0 p274 (by first | exact q274 | exact of_decide_eq_true ‹_› | (have e_ := (Kd.S_reads' HO_9.out).1; omega))
                       obtain ⟨ve274_0, rfl, ge274_0⟩ := hMe274
                       have hv274_0 := hcc274 0 _ rfl
                       rw [Nat.add_zero, show ((Kd.slice 79 k79)).sz = 1 from rfl, Nat.mul_one] at hv274_0
                       replace hv274_0 := Option.some.inj (hv274_0.symm.trans hx274_0)
                       rw [hv274_0] at ge274_0
                       have HL274_0 := Xa.mk (show Kd.R k79 79 _ _ _ _ (XA t257 0) from ge274_0)
                       clear hv274_0 ge274_0
                       clear hcc274 hce274
                       have qi274 : (0 < t257.length) = True := eq_true (by omega)
                       (try rw [show ((0 : Int)).toNat = 0 from rfl] at hx274_0)
                       (try rw [Addr.add_zero'] at hx274_0)
                       have HR274_0 := Xa.mk hi274_0
                       have HC274_0 := Xa.mk hl274_0
                       clear hi274_0 hl274_0
                       replace p274 := eq_true p274
                       replace q274 := eq_true q274
                       have p275 : 0 ≤ (x13_2 : Int) := of_decide_eq_true ‹_›
                       have q275 : x13_2 < ((XA t257 0).length : Int) := of_decide_eq_true ‹_›
                       obtain ⟨ad275, e275, hx275_0, hx275_1, hx275_2⟩ := Jx (by repeat (first | (with_reducible exact HR274_0.out) | (with_reducible refine Kd.C_alloc ?_ _) | (with_reducible refine Kd.C_drewN ?_ _) | (with_reducible refine Kd.C_drew ?_) | exact HR274_0.out)) x13_2 p275 q275
                       cases e275
                       replace p275 := eq_true p275
                       replace q275 := eq_true q275
                       refine Yy (n := 16) (S := fun w' => w'.cell? (ad273.add (x16_4).toNat) = some (.slice A273_0 (XA t261 x16_4).length c273_0) ∧ w'.cell? ad268 = some (.slice (some ad275) (XA t257 0).length c274_0) ∧ w'.cell? (ad275.add ((x13_2).toNat * 3)) = some (.int .i64 ((Xn (XA t257 0) x13_2).f0)) ∧ w'.cell? ⟨(ad275.add ((x13_2).toNat * 3)).block, (ad275.add ((x13_2).toNat * 3)).off + 1, none⟩ = some (.int .i64 ((Xn (XA t257 0) x13_2).f1)) ∧ w'.cell? ⟨(ad275.add ((x13_2).toNat * 3)).block, (ad275.add ((x13_2).toNat * 3)).off + 2, none⟩ = some (.int .i64 ((Xn (XA t257 0) x13_2).f2))) (ds := []) #[ff, ff, ff, ff, ff, ff, ff, ff, ff, ff, ff, ff, ff, ff, ff, ff] (by kernel_rfl) rfl rfl ⟨hx273_0, hx274_0, hx275_0, hx275_1, hx275_2⟩ (fun hHeld => ?_); refine X9 Xf.tab26 Xf.bits26 (fun HT_ HW_ => ?_)
                       generalize wr.drew = w40 at HO_9 HO_11 HO_12 HR268_0 HB HL273_0 HL274_0 HR273_0 HR274_0 hx273_0 hx274_0 hx275_0 hx275_1 hx275_2 hHeld ⊢
                       refine pu_ 0 86 HT_ ?_
                       refine pu_ 1 87 HT_ ?_
                       refine pu_ 2 88 HT_ ?_
                       refine pu_ 3 89 HT_ ?_
                       refine pu_ 4 90 HT_ ?_
                       refine pu_ 6 92 HT_ ?_
                       refine pu_ 7 93 HT_ ?_
                       refine pu_ 9 95 HT_ ?_
                       refine tw_ 5 91 HT_ HW_ hHeld ?_
                       refine tw_ 8 94 HT_ HW_ hHeld ?_
                       refine pu_ 10 96 HT_ ?_
                       refine tw_ 11 97 HT_ HW_ hHeld ?_
                       refine one_ (i := 12) (N := some 98) #[tt, tt, tt, tt, tt, tt, tt, tt, tt, tt, tt, tt, tt, ff, ff, ff] rfl rfl (Ys HT_.out (by kernel_rfl)) (by decide) (fun K hK => ?_)
                       refine Y8 Try.func47 (by kernel_rfl) rfl #[.slice A273_0 (XA t261 x16_4).length c273_0, .agg #[.int .i64 ((Xn (XA t257 0) x13_2).f0), .int .i64 ((Xn (XA t257 0) x13_2).f1), .int .i64 ((Xn (XA t257 0) x13_2).f2)]] (by rfl) rfl rfl (by (try simp only [List.map_toArray, List.map_cons, List.map_nil]); first | done | rfl | (simp only [List.length_drop, List.length_take]; rfl)) ?_
                       with_reducible refine (Xy.calls k4 _ _ (XA t261 x16_4) ((Xn (XA t257 0) x13_2).f0) ((Xn (XA t257 0) x13_2).f1) ((Xn (XA t257 0) x13_2).f2) t276 _ ?side1 ?side2 A38.out).mono ?_
                       (case side1 => repeat (first | exact (by repeat (first | (with_reducible exact HR273_0.out) | (with_reducible refine Kd.C_alloc ?_ _) | (with_reducible refine Kd.C_drewN ?_ _) | (with_reducible refine Kd.C_drew ?_) | exact HR273_0.out)) | (with_reducible refine Kd.C_alloc ?_ _) | (with_reducible refine Kd.C_drewN ?_ _) | (with_reducible refine Kd.C_drew ?_)))
                       (case side2 => exact HC273_0.out)
                       rintro e w41 ⟨rfl, hb⟩
                       have HS0_ := (hb.cell (World.block_lt_of_cell? _ _ (hHeld.1))).trans (hHeld.1)
                       have HS1_ := (hb.cell (World.block_lt_of_cell? _ _ (hHeld.2.1))).trans (hHeld.2.1)
                       have HS2_ := (hb.cell (World.block_lt_of_cell? _ _ (hHeld.2.2.1))).trans (hHeld.2.2.1)
                       have HS3_ := (hb.cell (World.block_lt_of_cell? _ _ (hHeld.2.2.2.1))).trans (hHeld.2.2.2.1)
                       have HS4_ := (hb.cell (World.block_lt_of_cell? _ _ (hHeld.2.2.2.2))).trans (hHeld.2.2.2.2)
                       refine ⟨_, rfl, ?_⟩
                       have n0_ := Xa.mk (Kd.S_below (by (with_reducible repeat (first | apply Kd.S_alloc | apply Kd.S_drewN | apply Kd.S_drew)); exact HO_9.out) hb)
                       have n1_ := Xa.mk (Kd.S_below (by (with_reducible repeat (first | apply Kd.S_alloc | apply Kd.S_drewN | apply Kd.S_drew)); exact HO_11.out) hb)
                       have n2_ := rb_ HO_12 hb
                       have n3_ := Xa.mk (Kd.R_below (by (with_reducible repeat (first | apply Kd.R_alloc | apply Kd.R_drewN | apply Kd.R_drew)); exact HL273_0.out) hb)
                       have n4_ := Xa.mk (Kd.R_below (by (with_reducible repeat (first | apply Kd.R_alloc | apply Kd.R_drewN | apply Kd.R_drew)); exact HL274_0.out) hb)
                       have n5_ := Xa.mk (Kd.C_below (by repeat (first | (with_reducible exact HR268_0.out) | (with_reducible refine Kd.C_alloc ?_ _) | (with_reducible refine Kd.C_drewN ?_ _) | (with_reducible refine Kd.C_drew ?_) | exact HR268_0.out)) hb)
                       have n6_ := Xa.mk (Kd.C_below (by repeat (first | (with_reducible exact HR273_0.out) | (with_reducible refine Kd.C_alloc ?_ _) | (with_reducible refine Kd.C_drewN ?_ _) | (with_reducible refine Kd.C_drew ?_) | exact HR273_0.out)) hb)
                       have n7_ := Xa.mk (Kd.C_below (by repeat (first | (with_reducible exact HR274_0.out) | (with_reducible refine Kd.C_alloc ?_ _) | (with_reducible refine Kd.C_drewN ?_ _) | (with_reducible refine Kd.C_drew ?_) | exact HR274_0.out)) hb)
                       have n8_ := Xa.mk (Xi HB.out hb)
                       clear HO_9
                       clear HO_11
                       clear HO_12
                       clear HL273_0
                       clear HL274_0
                       clear HR268_0
                       clear HR273_0
                       clear HR274_0
                       clear HB
                       have HO_9 := n0_
                       have HO_11 := n1_
                       have HO_12 := n2_
                       have HL273_0 := n3_
                       have HL274_0 := n4_
                       have HR268_0 := n5_
                       have HR273_0 := n6_
                       have HR274_0 := n7_
                       have HB := n8_
                       clear n0_ n1_ n2_ n3_ n4_ n5_ n6_ n7_ n8_
                       (try clear hb)
                       (try clear hb2)
                       (try clear hk)
                       (try clear hi)
                       refine hK.out _ _ ⟨HS0_, HS1_, HS2_, HS3_, HS4_⟩ (fun hHeld => ?_)
                       clear hK K
                       refine Yr (a' := ?_) ?_ ?_
                       rotate_left
                       ·show Act.put _ (some 98) _ = _
                        simp only [Act.put, sa_, s0_, s1_, XR, XS]
                        rfl
                       refine pu_ 13 99 HT_ ?_
                       refine pu_ 14 100 HT_ ?_
                       refine pu_ 15 14 HT_ ?_
                       refine YS (Yo HT_.out (by kernel_rfl)) ?_
                       try go_wp2
                       go_roundg k4
                       case measure => have := HJ5.out; have := HK2.out; have := HK3.out; have := HK4.out; omega
                       case rel => exact ⟨(!t276), (wrap64 (x16_4 + 1)), fx_, fx_, H', ⟨by have := HJ5.out; have := HK2.out; have := HK3.out; have := HK4.out; omega⟩, ⟨by (with_reducible repeat (first | apply Kd.S_alloc | apply Kd.S_drewN | apply Kd.S_drew)); exact HO_9.out⟩, ⟨by (with_reducible repeat (first | apply Kd.S_alloc | apply Kd.S_drewN | apply Kd.S_drew)); exact HO_11.out⟩, ⟨ro_ HO_12⟩, ⟨by repeat (first | (with_reducible exact HR268_0.out) | (with_reducible refine Kd.C_alloc ?_ _) | (with_reducible refine Kd.C_drewN ?_ _) | (with_reducible refine Kd.C_drew ?_) | exact HR268_0.out)⟩, ⟨hb_ HB⟩⟩
                      ·rw [if_neg c37] at H
                       exact absurd H (by simp)
                     ·rw [if_neg c36] at H
                      exact absurd H (by simp)
                    ·rw [if_neg c35] at H
                     exact absurd H (by simp)
                   ·rw [if_neg c34] at H
                    exact absurd H (by simp)
                  ·replace c33 := Bool.eq_false_iff.mpr c33
                   subst c33
                   have H1 : (Xf.l2 k4 t257 t261 x12_2 x13_2 false (wrap64 (x16_4 + 1))) = some (r1, r2) := by rw [if_neg (show ¬ (false = true) by decide)] at H; exact H
                   clear H
                   have H := H1
                   clear H1
                   have H' := Xa.mk H
                   clear H
                   obtain ⟨Ao42, co42, eo42⟩ := Kd.S_slice HO_11.out
                   subst eo42
                   try go_wp2
                   have n0_ := Xa.mk (Kd.S_drew HO_9.out)
                   have n1_ := Xa.mk (Kd.S_drew HO_11.out)
                   have n2_ := Xa.mk (Kd.R_drew HO_12.out)
                   have n3_ := Xa.mk (Kd.C_drew HR268_0.out)
                   have n4_ := Xa.mk (Xl HB.out)
                   clear HO_9
                   clear HO_11
                   clear HO_12
                   clear HR268_0
                   clear HB
                   have HO_9 := n0_
                   have HO_11 := n1_
                   have HO_12 := n2_
                   have HR268_0 := n3_
                   have HB := n4_
                   clear n0_ n1_ n2_ n3_ n4_
                   refine Yy (n := 16) (S := fun w' => True) (ds := []) #[ff, ff, ff, ff, ff, ff, ff, ff, ff, ff, ff, ff, ff, ff, ff, ff] (by kernel_rfl) rfl rfl trivial (fun hHeld => ?_); refine X9 Xf.tab26 Xf.bits26 (fun HT_ HW_ => ?_)
                   generalize wr.drew = w43 at HO_9 HO_11 HO_12 HR268_0 HB hHeld ⊢
                   refine pu_ 0 86 HT_ ?_
                   refine pu_ 1 87 HT_ ?_
                   refine po_ 2 88 HT_ ?_
                   refine po_ 3 89 HT_ ?_
                   refine po_ 4 90 HT_ ?_
                   refine po_ 5 91 HT_ ?_
                   refine po_ 6 92 HT_ ?_
                   refine po_ 7 93 HT_ ?_
                   refine po_ 8 94 HT_ ?_
                   refine po_ 9 95 HT_ ?_
                   refine po_ 10 96 HT_ ?_
                   refine po_ 11 97 HT_ ?_
                   refine po_ 12 98 HT_ ?_
                   refine po_ 13 99 HT_ ?_
                   refine pu_ 14 100 HT_ ?_
                   refine pu_ 15 14 HT_ ?_
                   refine YS (Yo HT_.out (by kernel_rfl)) ?_
                   try go_wp2
                   go_roundg k4
                   case measure => have := HJ5.out; have := HK2.out; have := HK3.out; have := HK4.out; omega
                   case rel => exact ⟨(false), (wrap64 (x16_4 + 1)), fx_, fx_, H', ⟨by have := HJ5.out; have := HK2.out; have := HK3.out; have := HK4.out; omega⟩, ⟨by (with_reducible repeat (first | apply Kd.S_alloc | apply Kd.S_drewN | apply Kd.S_drew)); exact HO_9.out⟩, ⟨by (with_reducible repeat (first | apply Kd.S_alloc | apply Kd.S_drewN | apply Kd.S_drew)); exact HO_11.out⟩, ⟨ro_ HO_12⟩, ⟨by repeat (first | (with_reducible exact HR268_0.out) | (with_reducible refine Kd.C_alloc ?_ _) | (with_reducible refine Kd.C_drewN ?_ _) | (with_reducible refine Kd.C_drew ?_) | exact HR268_0.out)⟩, ⟨hb_ HB⟩⟩
                 ·rw [if_neg c32] at H
                  have c32b0 : decide (x16_4 < (t261.length : Int)) = false := decide_eq_false c32
                  clear c32
                  by_cases c44 : x14_4 = true
                  ·subst c44
                   have H1 : (if 0 < (t257.length : Int) then (if 0 ≤ x13_2 then (if x13_2 < ((XA t257 0).length : Int) then (if x12_2.length < 5864062014805 then (Xf.l0 k4 t257 t261 (x12_2 ++ [(⟨(Xn (XA t257 0) x13_2).f0, (Xn (XA t257 0) x13_2).f1, (Xn (XA t257 0) x13_2).f2⟩ : S79)]) (wrap64 (x13_2 + 1))) else (none)) else (none)) else (none)) else (none)) = some (r1, r2) := by rw [if_pos rfl] at H; exact H
                   clear H
                   have H := H1
                   clear H1
                   by_cases c45 : 0 < (t257.length : Int)
                   ·rw [if_pos c45] at H
                    have c45b0 : decide (0 < (t257.length : Int)) = true := decide_eq_true c45
                    have c45b1 : decide (0 < t257.length) = true := decide_eq_true (by omega)
                    clear c45
                    by_cases c46 : 0 ≤ x13_2
                    ·rw [if_pos c46] at H
                     have c46b0 : decide (0 ≤ x13_2) = true := decide_eq_true c46
                     clear c46
                     by_cases c47 : x13_2 < ((XA t257 0).length : Int)
                     ·rw [if_pos c47] at H
                      have c47b0 : decide (x13_2 < ((XA t257 0).length : Int)) = true := decide_eq_true c47
                      clear c47
                      by_cases c48 : x12_2.length < 5864062014805
                      ·rw [if_pos c48] at H
                       have LMc48 := Xa.mk c48
                       clear c48
                       obtain ⟨y279, hy279⟩ : ∃ y_ : List (S79), y_ = (x12_2 ++ [(⟨(Xn (XA t257 0) x13_2).f0, (Xn (XA t257 0) x13_2).f1, (Xn (XA t257 0) x13_2).f2⟩ : S79)]) := ⟨_, rfl⟩
                       replace H : (Xf.l0 k4 t257 t261 y279 (wrap64 (x13_2 + 1))) = some (r1, r2) := by first | (rw [hy279]; with_reducible exact H) | (have H2_ := (Option.bind_some _ _).symm.trans H; rw [hy279]; with_reducible exact H2_) | (have H2_ := (Option.bind_some _ _).symm.trans H; with_reducible exact H2_) | with_reducible exact H | (rw [hy279]; exact H) | exact H
                       have Ny279 := Xa.mk hy279
                       clear hy279
                       have H' := Xa.mk H
                       clear H
                       obtain ⟨Ao49, co49, eo49⟩ := Kd.S_slice HO_11.out
                       subst eo49
                       have p277 : 0 ≤ (0 : Int) := (by omega)
                       have q277 : 0 < (t257.length : Int) := of_decide_eq_true ‹_›
                       obtain ⟨ad277, A277_0, c277_0, e277, hx277_0, hl277_0, hi277_0⟩ := XaB (Kd.S_reads' HO_9.out).2.2 0 p277 q277
                       obtain rfl : ad268 = ad277 := (by injection e277)
                       obtain ⟨ce277, hce277, hMe277, hcc277⟩ := Kd.S_get HO_9.out [] 0 p277 (by first | exact q277 | exact of_decide_eq_true ‹_› | (have e_ := (Kd.S_reads' HO_9.out).1; omega))
                       obtain ⟨ve277_0, rfl, ge277_0⟩ := hMe277
                       have hv277_0 := hcc277 0 _ rfl
                       rw [Nat.add_zero, show ((Kd.slice 79 k79)).sz = 1 from rfl, Nat.mul_one] at hv277_0
                       replace hv277_0 := Option.some.inj (hv277_0.symm.trans hx277_0)
                       rw [hv277_0] at ge277_0
                       have HL277_0 := Xa.mk (show Kd.R k79 79 _ _ _ _ (XA t257 0) from ge277_0)
                       clear hv277_0 ge277_0
                       clear hcc277 hce277
                       have qi277 : (0 < t257.length) = True := eq_true (by omega)
                       (try rw [show ((0 : Int)).toNat = 0 from rfl] at hx277_0)
                       (try rw [Addr.add_zero'] at hx277_0)
                       have HR277_0 := Xa.mk hi277_0
                       have HC277_0 := Xa.mk hl277_0
                       clear hi277_0 hl277_0
                       replace p277 := eq_true p277
                       replace q277 := eq_true q277
                       have p278 : 0 ≤ (x13_2 : Int) := of_decide_eq_true ‹_›
                       have q278 : x13_2 < ((XA t257 0).length : Int) := of_decide_eq_true ‹_›
                       obtain ⟨ad278, e278, hx278_0, hx278_1, hx278_2⟩ := Jx (by repeat (first | (with_reducible exact HR277_0.out) | (with_reducible refine Kd.C_alloc ?_ _) | (with_reducible refine Kd.C_drewN ?_ _) | (with_reducible refine Kd.C_drew ?_) | exact HR277_0.out)) x13_2 p278 q278
                       cases e278
                       replace p278 := eq_true p278
                       replace q278 := eq_true q278
                       go_wp2_with (first | ((with_reducible refine YJ (b := .append) (xs := #[.tmp 102, .tmp 109]) rfl ?_); (try (refine Yk (by rfl) ?_; dsimp only)); at_builtin; refine Kd.R_append k79 (w0 := w) w.heap.size rfl (.tmp 102) (.tmp 109) 62 79 (.agg #[(.int .i64 0), (.int .i64 0), (.int .i64 0)]) 24 rfl Try.underlying62 Xae rfl (by decide) (by omega) u12 x12_2 (⟨(Xn (XA t257 0) x13_2).f0, (Xn (XA t257 0) x13_2).f1, (Xn (XA t257 0) x13_2).f2⟩ : S79) [.int .i64 ((Xn (XA t257 0) x13_2).f0), .int .i64 ((Xn (XA t257 0) x13_2).f1), .int .i64 ((Xn (XA t257 0) x13_2).f2)] (fun _ => True) (fun _ => False) rfl rfl ?aP (fun _ hk => hk.elim) ?aF ?aO ?aB ?aS ?aL ?_; (case aP => exact XbD _ _ _ (⟨(Xn (XA t257 0) x13_2).f0, (Xn (XA t257 0) x13_2).f1, (Xn (XA t257 0) x13_2).f2⟩ : S79)); (case aB => exact HB.out); (case aF => exact (fun _ _ => trivial)); (case aO => exact (ro_ HO_12)); (case aS => exact (Xg HB.out)); (case aL => have := LMc48.out; omega); intro v280 w50 ho hb hg hat; rw [← Ny279.out] at ho; replace HO_9 := Xa.mk (Kd.S_after (ok := (fun k_ => some k_ ≠ (.slice Ao49 t261.length co49 : Value).ownBlock)) (by (with_reducible repeat (first | apply Kd.S_alloc | apply Kd.S_drewN | apply Kd.S_drew)); exact HO_9.out) hg hat); replace HO_11 := Xa.mk (Kd.S_after (ok := (fun k_ => some k_ ≠ (.slice (some ad268) t257.length co21 : Value).ownBlock)) (by (with_reducible repeat (first | apply Kd.S_alloc | apply Kd.S_drewN | apply Kd.S_drew)); exact HO_11.out) hg hat); replace HL277_0 := Xa.mk (Kd.R_after (ok := (fun k_ => some k_ ≠ (.slice (some ad268) t257.length co21 : Value).ownBlock ∧ some k_ ≠ (.slice Ao49 t261.length co49 : Value).ownBlock)) (by (with_reducible repeat (first | apply Kd.R_alloc | apply Kd.R_drewN | apply Kd.R_drew)); exact Kd.R_mono HL277_0.out (fun _ hk => ⟨⟨hk.2, hk.1.1⟩, hk.1.2⟩)) hg hat); replace HB := Xa.mk (hb); have HO281 := Xa.mk (ho); clear HO_12; clear ho hb hg hat))
                       go_roundg k4
                       case measure => have := HJ5.out; have := HK2.out; have := HK3.out; have := HK4.out; omega
                       case rel => exact ⟨(y279), (wrap64 (x13_2 + 1)), fx_, H', ⟨by have := HJ5.out; have := HK2.out; have := HK3.out; have := HK4.out; omega⟩, ⟨by (with_reducible repeat (first | apply Kd.S_alloc | apply Kd.S_drewN | apply Kd.S_drew)); exact HO_9.out⟩, ⟨by (with_reducible repeat (first | apply Kd.S_alloc | apply Kd.S_drewN | apply Kd.S_drew)); exact HO_11.out⟩, ⟨ro_ HO281⟩, ⟨hb_ HB⟩⟩
                      ·rw [if_neg c48] at H
                       exact absurd H (by simp)
                     ·rw [if_neg c47] at H
                      exact absurd H (by simp)
                    ·rw [if_neg c46] at H
                     exact absurd H (by simp)
                   ·rw [if_neg c45] at H
                    exact absurd H (by simp)
                  ·replace c44 := Bool.eq_false_iff.mpr c44
                   subst c44
                   have H1 : (Xf.l0 k4 t257 t261 x12_2 (wrap64 (x13_2 + 1))) = some (r1, r2) := by rw [if_neg (show ¬ (false = true) by decide)] at H; exact H
                   clear H
                   have H := H1
                   clear H1
                   have H' := Xa.mk H
                   clear H
                   obtain ⟨Ao51, co51, eo51⟩ := Kd.S_slice HO_11.out
                   subst eo51
                   go_wp2
                   go_roundg k4
                   case measure => have := HJ5.out; have := HK2.out; have := HK3.out; have := HK4.out; omega
                   case rel => exact ⟨(x12_2), (wrap64 (x13_2 + 1)), fx_, H', ⟨by have := HJ5.out; have := HK2.out; have := HK3.out; have := HK4.out; omega⟩, ⟨by (with_reducible repeat (first | apply Kd.S_alloc | apply Kd.S_drewN | apply Kd.S_drew)); exact HO_9.out⟩, ⟨by (with_reducible repeat (first | apply Kd.S_alloc | apply Kd.S_drewN | apply Kd.S_drew)); exact HO_11.out⟩, ⟨ro_ HO_12⟩, ⟨hb_ HB⟩⟩
           ·rw [if_neg c20] at H
            have c20b0 : decide (x13_2 < ((XA t257 0).length : Int)) = false := decide_eq_false c20
            clear c20
            simp only [Option.some.injEq, Prod.mk.injEq] at H
            obtain ⟨rfl, rfl⟩ := H
            obtain ⟨Ao52, co52, eo52⟩ := Kd.S_slice HO_9.out
            subst eo52
            have p268 : 0 ≤ (0 : Int) := (by omega)
            have q268 : 0 < (t257.length : Int) := of_decide_eq_true ‹_›
            obtain ⟨ad268, A268_0, c268_0, e268, hx268_0, hl268_0, hi268_0⟩ := XaB (Kd.S_reads' HO_9.out).2.2 0 p268 q268
            cases e268
            obtain ⟨ce268, hce268, hMe268, hcc268⟩ := Kd.S_get HO_9.out [] 0 p268 (by first | exact q268 | exact of_decide_eq_true ‹_› | (have e_ := (Kd.S_reads' HO_9.out).1; omega))
            obtain ⟨ve268_0, rfl, ge268_0⟩ := hMe268
            have hv268_0 := hcc268 0 _ rfl
            rw [Nat.add_zero, show ((Kd.slice 79 k79)).sz = 1 from rfl, Nat.mul_one] at hv268_0
            replace hv268_0 := Option.some.inj (hv268_0.symm.trans hx268_0)
            rw [hv268_0] at ge268_0
            have HL268_0 := Xa.mk (show Kd.R k79 79 _ _ _ _ (XA t257 0) from ge268_0)
            clear hv268_0 ge268_0
            clear hcc268 hce268
            have qi268 : (0 < t257.length) = True := eq_true (by omega)
            (try rw [show ((0 : Int)).toNat = 0 from rfl] at hx268_0)
            (try rw [Addr.add_zero'] at hx268_0)
            have HR268_0 := Xa.mk hi268_0
            have HC268_0 := Xa.mk hl268_0
            clear hi268_0 hl268_0
            replace p268 := eq_true p268
            replace q268 := eq_true q268
            go_wp2
            go_ret2
            exact ⟨_, by first | rfl | (simp [errW_none, errW_some] <;> rfl) | (simp [*, errW_none, errW_some] <;> rfl), by (with_reducible repeat (first | apply Kd.R_alloc | apply Kd.R_drewN | apply Kd.R_drew)); exact HO_12.out, by repeat (first | (with_reducible first | exact HB.out | apply Xs | apply Xo | apply Xl) | exact HB.out)⟩
          ·rw [if_neg c19] at H
           exact absurd H (by simp)
       ·rw [if_neg c14] at H
        have c14b0 : (t262 == 0) = false := beq_eq_false_iff_ne.mpr c14
        have c14b1 : (t262 != 0) = true := bne_iff_ne.mpr c14
        simp only [Option.some.injEq, Prod.mk.injEq] at H
        obtain ⟨rfl, rfl⟩ := H
        go_wp2_with (first | ((with_reducible refine Xp (f := 46) rfl ?_); refine XL (some 36) rfl rfl Try.func46 (by kernel_rfl) rfl #[.slice A0 l0.length c0, .slice A1 l1.length c1] rfl (by (try simp only [List.map_toArray, List.map_cons, List.map_nil]); first | done | rfl | (simp only [List.length_drop, List.length_take]; rfl)) ?_; (with_reducible refine (Xx.calls kj5 _ _ l0 _ _ l1 t257 t258 _ ?side1 ?side2 ?side3 ?side4 A11.out).mono ?_); (case side1 => exact cA_ (Kd.C_below HR0.out HB.out)); (case side2 => exact HC0.out); (case side3 => exact cA_ (Kd.C_below HR1.out HB.out)); (case side4 => exact HC1.out); rintro e w53 ⟨v259, rfl, ho0, hb⟩; refine ⟨_, rfl, ?_⟩; have HO260 := Xa.mk (Kd.S_lower ho0 (Xg HB.out)); replace HB := Xa.mk (Xi HB.out hb); (try clear hb); (try clear hb2); (try clear hk); (try clear hi); (try clear ho0)) | ((with_reducible refine Xp (f := 46) rfl ?_); refine XL (some 45) rfl rfl Try.func46 (by kernel_rfl) rfl #[.slice A0 l0.length c0, .slice A2 l2.length c2] rfl (by (try simp only [List.map_toArray, List.map_cons, List.map_nil]); first | done | rfl | (simp only [List.length_drop, List.length_take]; rfl)) ?_; (with_reducible refine (Xx.calls kj5 _ _ l0 _ _ l2 t261 t262 _ ?side1 ?side2 ?side3 ?side4 A13.out).mono ?_); (case side1 => exact cA_ (Kd.C_below HR0.out HB.out)); (case side2 => exact HC0.out); (case side3 => exact cA_ (Kd.C_below HR2.out HB.out)); (case side4 => exact HC2.out); rintro e w54 ⟨v263, rfl, ho0, hb⟩; refine ⟨_, rfl, ?_⟩; have HO264 := Xa.mk (Kd.S_lower (Kd.S_new' ho0 (Kd.S_lt (by (with_reducible repeat (first | apply Kd.S_alloc | apply Kd.S_drewN | apply Kd.S_drew)); exact HO260.out))) (Xg HB.out)); replace HO260 := Xa.mk (Kd.S_elder' (by (with_reducible repeat (first | apply Kd.S_alloc | apply Kd.S_drewN | apply Kd.S_drew)); exact HO260.out) (Kd.S_base ho0) hb); replace HB := Xa.mk (Xi HB.out hb); (try clear hb); (try clear hb2); (try clear hk); (try clear hi); (try clear ho0)))
        go_ret2
        exact ⟨_, by first | rfl | (simp [errW_none, errW_some] <;> rfl) | (simp [*, errW_none, errW_some] <;> rfl), by first | exact Kd.R_nil _ _ _ _ _ | exact Kd.N_nil _ _ _ _ _ | exact Kd.V_nil _ _ _ _ _ | exact Kd.Q_nil _ _ _ _ _ | exact Kd.S_nil _ _ _ _ _, by repeat (first | (with_reducible first | exact HB.out | apply Xs | apply Xo | apply Xl) | exact HB.out)⟩
      ·rw [if_neg c12] at H
       have c12b0 : (t258 == 0) = false := beq_eq_false_iff_ne.mpr c12
       have c12b1 : (t258 != 0) = true := bne_iff_ne.mpr c12
       simp only [Option.some.injEq, Prod.mk.injEq] at H
       obtain ⟨rfl, rfl⟩ := H
       go_wp2_with (first | ((with_reducible refine Xp (f := 46) rfl ?_); refine XL (some 36) rfl rfl Try.func46 (by kernel_rfl) rfl #[.slice A0 l0.length c0, .slice A1 l1.length c1] rfl (by (try simp only [List.map_toArray, List.map_cons, List.map_nil]); first | done | rfl | (simp only [List.length_drop, List.length_take]; rfl)) ?_; (with_reducible refine (Xx.calls kj5 _ _ l0 _ _ l1 t257 t258 _ ?side1 ?side2 ?side3 ?side4 A11.out).mono ?_); (case side1 => exact cA_ (Kd.C_below HR0.out HB.out)); (case side2 => exact HC0.out); (case side3 => exact cA_ (Kd.C_below HR1.out HB.out)); (case side4 => exact HC1.out); rintro e w55 ⟨v259, rfl, ho0, hb⟩; refine ⟨_, rfl, ?_⟩; have HO260 := Xa.mk (Kd.S_lower ho0 (Xg HB.out)); replace HB := Xa.mk (Xi HB.out hb); (try clear hb); (try clear hb2); (try clear hk); (try clear hi); (try clear ho0)))
       go_ret2
       exact ⟨_, by first | rfl | (simp [errW_none, errW_some] <;> rfl) | (simp [*, errW_none, errW_some] <;> rfl), by first | exact Kd.R_nil _ _ _ _ _ | exact Kd.N_nil _ _ _ _ _ | exact Kd.V_nil _ _ _ _ _ | exact Kd.Q_nil _ _ _ _ _ | exact Kd.S_nil _ _ _ _ _, by repeat (first | (with_reducible first | exact HB.out | apply Xs | apply Xo | apply Xl) | exact HB.out)⟩
 ·rw [if_neg c5] at H
  have c5b0 : (t256 == 0) = false := beq_eq_false_iff_ne.mpr c5
  have c5b1 : (t256 != 0) = true := bne_iff_ne.mpr c5
  simp only [Option.some.injEq, Prod.mk.injEq] at H
  obtain ⟨rfl, rfl⟩ := H
  go_enter Try.func41, Try.ntmps41
  go_wp2_with (first | ((with_reducible refine Xp (f := 34) rfl ?_); refine XL (some 18) rfl rfl Try.func34 (by kernel_rfl) rfl #[.slice A0 l0.length c0] rfl (by (try simp only [List.map_toArray, List.map_cons, List.map_nil]); first | done | rfl | (simp only [List.length_drop, List.length_take]; rfl)) ?_; (with_reducible refine (Xk.calls k _ _ l0 t256 _ ?side1 ?side2 A4.out).mono ?_); (case side1 => repeat (first | exact HR0.out | (with_reducible refine Kd.C_alloc ?_ _) | (with_reducible refine Kd.C_drewN ?_ _) | (with_reducible refine Kd.C_drew ?_))); (case side2 => exact HC0.out); rintro e w56 ⟨rfl, hb⟩; refine ⟨_, rfl, ?_⟩; replace HB := Xa.mk (Xi HB.out hb); (try clear hb); (try clear hb2); (try clear hk); (try clear hi)))
  go_ret2
  exact ⟨_, by first | rfl | (simp [errW_none, errW_some] <;> rfl) | (simp [*, errW_none, errW_some] <;> rfl), by first | exact Kd.R_nil _ _ _ _ _ | exact Kd.N_nil _ _ _ _ _ | exact Kd.V_nil _ _ _ _ _ | exact Kd.Q_nil _ _ _ _ _ | exact Kd.S_nil _ _ _ _ _, by repeat (first | (with_reducible first | exact HB.out | apply Xs | apply Xo | apply Xl) | exact HB.out)⟩

end Go.Proofs.Ytiaiecfnpompcaa.T
namespace Go.Proofs.Ytiaiecfnpompcaa.T
open Go.RowKit Go.Proofs.YtiaiecfnpompcaaW.PrintWords Go.Proofs.YtiaiecfnpompcaaW.PrintLast Go.Proofs.YtiaiecfnpompcaaW.PrintMore
attribute [local go_sem] XX XW X6 X5 XQ XP X0 XZ
set_option linter.unusedVariables false
set_option linter.unusedSimpArgs false
attribute [local go_sem] XO

theorem eqA58 (d : Nat) (w : World) (x0 y0 : Int) (x1 y1 : Int) (x2 y2 : Int) :
  (Op.equalIn (d + 2) 58 (.agg #[.int .i64 x0, .int .i64 x1, .int .i64 x2]) (.agg #[.int .i64 y0, .int .i64 y1, .int .i64 y2])).run Try.prog w = .ok (x0 == y0 && (x1 == y1 && (x2 == y2))) w := by
 refine Xfu Try.underlying58 (by kernel_rfl) ?_
 refine Ju (by rfl) (by go_simp; rfl) (by go_simp; rfl) (by go_simp) ?_
 refine Ju (by rfl) (by go_simp; rfl) (by go_simp; rfl) (by go_simp) ?_
 exact XcW (by rfl) (by go_simp; rfl) (by go_simp; rfl) (by go_simp)
end Go.Proofs.Ytiaiecfnpompcaa.T
namespace Go.Proofs.Ytiaiecfnpompcaa.T
open Go.RowKit Go.Proofs.YtiaiecfnpompcaaW.PrintWords Go.Proofs.YtiaiecfnpompcaaW.PrintLast Go.Proofs.YtiaiecfnpompcaaW.PrintMore
attribute [local go_sem] XX XW X6 X5 XQ XP X0 XZ
set_option linter.unusedVariables false
set_option linter.unusedSimpArgs false
attribute [local go_sem] XO

attribute [local go_sem high] eqA58
def Xw.l0 : Nat → List (S58) → List (S58) → Int → Option (Bool)
 | 0, _, _, _ => none
 | k + 1, x0, x1, x5 => if x5 < (x0.length : Int) then (if 0 ≤ x5 then (if x5 < (x1.length : Int) then (if (!(((XJ x0 x5).f0) == ((XJ x1 x5).f0)) || (!(((XJ x0 x5).f1) == ((XJ x1 x5).f1)) || (!(((XJ x0 x5).f2) == ((XJ x1 x5).f2))))) = true then (some false) else (Xw.l0 k x0 x1 (wrap64 (x5 + 1)))) else (none)) else (none)) else (some true)
def Xw.f (k : Nat) (l0 : List (S58)) (l1 : List (S58)) : Option (Bool) := if (l0.length : Int) = (l1.length : Int) then (Xw.l0 k l0 l1 0) else (some false)
set_option maxHeartbeats 8000000 in
set_option maxRecDepth 100000 in
theorem Xw.calls (k : Nat) (A0 : Option Addr) (c0 : Nat) (l0 : List (S58)) (A1 : Option Addr) (c1 : Nat) (l1 : List (S58)) (r : Bool) (w : World) (hr0 : Kd.C k58 w A0 l0.length l0) (hc0 : l0.length ≤ c0) (hr1 : Kd.C k58 w A1 l1.length l1) (hc1 : l1.length ≤ c1) (h : Xw.f k l0 l1 = some r) :
  Calls Try.prog 42 #[.slice A0 l0.length c0, .slice A1 l1.length c1] w fun e w' => e = .returned (.bool r) ∧ Xq w w' := by
 have hu58 := Try.underlying58
 have HR0 := Xa.mk hr0
 have HC0 := Xa.mk hc0
 clear hr0 hc0
 have HR1 := Xa.mk hr1
 have HC1 := Xa.mk hc1
 clear hr1 hc1
 have H : (if (l0.length : Int) = (l1.length : Int) then (Xw.l0 k l0 l1 0) else (some false)) = some r := h
 clear h
 by_cases c3 : (l0.length : Int) = (l1.length : Int)
 ·rw [if_pos c3] at H
  have c3b0 : ((l0.length : Int) == (l1.length : Int)) = true := beq_iff_eq.mpr c3
  have c3b1 : ((l0.length : Int) != (l1.length : Int)) = false := bne_eq_false_iff_eq.mpr c3
  have c3b2 : (l0.length == l1.length) = true := by first | simpa using c3 | (simp at c3 ⊢; omega)
  clear c3
  have H' := Xa.mk H
  clear H
  go_enter Try.func42, Try.ntmps42
  go_wp2
  repeat (go_quiet (fail); try go_wp2)
  go_loopg [5] k (fun kq v5 w' => ∃ (x5_1 : Int), v5 = .int .i64 x5_1 ∧ Xa (Xw.l0 kq l0 l1 x5_1 = some r) ∧ Xa (kq ≤ k) ∧ Xq w w')
  case atStart => exact ⟨(0), fx_, H', ⟨Nat.le_refl _⟩, by repeat (first | exact Xq.refl _ | apply Xq.step)⟩
  case round =>
   clear H'
   try clear c1; try clear p2; try clear c3; try clear c3b0; try clear c3b1; try clear c3b2
   obtain ⟨x5_1, rfl, HA, HK1, ⟨m1, rfl⟩⟩ := hrel
   cases gk with
   | zero => exact absurd HA.out (by simp [Xw.l0])
   | succ k1 =>
    have H := HA.out
    clear HA
    simp only [Xw.l0] at H
    by_cases c4 : x5_1 < (l0.length : Int)
    ·rw [if_pos c4] at H
     have c4b0 : decide (x5_1 < (l0.length : Int)) = true := decide_eq_true c4
     clear c4
     by_cases c5 : 0 ≤ x5_1
     ·rw [if_pos c5] at H
      have c5b0 : decide (0 ≤ x5_1) = true := decide_eq_true c5
      clear c5
      by_cases c6 : x5_1 < (l1.length : Int)
      ·rw [if_pos c6] at H
       have c6b0 : decide (x5_1 < (l1.length : Int)) = true := decide_eq_true c6
       clear c6
       by_cases c7 : (!(((XJ l0 x5_1).f0) == ((XJ l1 x5_1).f0)) || (!(((XJ l0 x5_1).f1) == ((XJ l1 x5_1).f1)) || (!(((XJ l0 x5_1).f2) == ((XJ l1 x5_1).f2))))) = true
       ·rw [if_pos c7] at H
        have c7b0 : (!(((XJ l0 x5_1).f0) == ((XJ l1 x5_1).f0)) || (!(((XJ l0 x5_1).f1) == ((XJ l1 x5_1).f1)) || (!(((XJ l0 x5_1).f2) == ((XJ l1 x5_1).f2))))) = true := c7
        clear c7
        obtain rfl := Option.some.inj H
        have p471 : 0 ≤ (x5_1 : Int) := of_decide_eq_true ‹_›
        have q471 : x5_1 < (l0.length : Int) := of_decide_eq_true ‹_›
        obtain ⟨ad471, e471, hx471_0, hx471_1, hx471_2⟩ := YW HR0.out x5_1 p471 q471
        cases e471
        replace p471 := eq_true p471
        replace q471 := eq_true q471
        have p472 : 0 ≤ (x5_1 : Int) := of_decide_eq_true ‹_›
        have q472 : x5_1 < (l1.length : Int) := of_decide_eq_true ‹_›
        obtain ⟨ad472, e472, hx472_0, hx472_1, hx472_2⟩ := YW HR1.out x5_1 p472 q472
        cases e472
        replace p472 := eq_true p472
        replace q472 := eq_true q472
        go_wp2
        repeat (go_quiet (fail); try go_wp2)
        go_ret
        exact ⟨by first | rfl | (simp; done) | (simp [*]; done), by repeat (first | exact Xq.refl _ | apply Xq.step)⟩
       ·rw [if_neg c7] at H
        have c7b0 : (!(((XJ l0 x5_1).f0) == ((XJ l1 x5_1).f0)) || (!(((XJ l0 x5_1).f1) == ((XJ l1 x5_1).f1)) || (!(((XJ l0 x5_1).f2) == ((XJ l1 x5_1).f2))))) = false := by simpa using c7
        clear c7
        have H' := Xa.mk H
        clear H
        have p471 : 0 ≤ (x5_1 : Int) := of_decide_eq_true ‹_›
        have q471 : x5_1 < (l0.length : Int) := of_decide_eq_true ‹_›
        obtain ⟨ad471, e471, hx471_0, hx471_1, hx471_2⟩ := YW HR0.out x5_1 p471 q471
        cases e471
        replace p471 := eq_true p471
        replace q471 := eq_true q471
        have p472 : 0 ≤ (x5_1 : Int) := of_decide_eq_true ‹_›
        have q472 : x5_1 < (l1.length : Int) := of_decide_eq_true ‹_›
        obtain ⟨ad472, e472, hx472_0, hx472_1, hx472_2⟩ := YW HR1.out x5_1 p472 q472
        cases e472
        replace p472 := eq_true p472
        replace q472 := eq_true q472
        go_wp2
        repeat (go_quiet (fail); try go_wp2)
        go_roundg k1
        case measure => have := HK1.out; omega
        case rel => exact ⟨(wrap64 (x5_1 + 1)), fx_, H', ⟨by have := HK1.out; omega⟩, by repeat (first | exact Xq.refl _ | apply Xq.step)⟩
      ·rw [if_neg c6] at H
       exact absurd H (by simp)
     ·rw [if_neg c5] at H
      exact absurd H (by simp)
    ·rw [if_neg c4] at H
     have c4b0 : decide (x5_1 < (l0.length : Int)) = false := decide_eq_false c4
     clear c4
     obtain rfl := Option.some.inj H
     go_wp2
     repeat (go_quiet (fail); try go_wp2)
     go_ret
     exact ⟨by first | rfl | (simp; done) | (simp [*]; done), by repeat (first | exact Xq.refl _ | apply Xq.step)⟩
 ·rw [if_neg c3] at H
  have c3b0 : ((l0.length : Int) == (l1.length : Int)) = false := beq_eq_false_iff_ne.mpr c3
  have c3b1 : ((l0.length : Int) != (l1.length : Int)) = true := bne_iff_ne.mpr c3
  have c3b2 : (l0.length == l1.length) = false := by first | simpa using c3 | (simp at c3 ⊢; omega)
  obtain rfl := Option.some.inj H
  go_enter Try.func42, Try.ntmps42
  go_wp2
  repeat (go_quiet (fail); try go_wp2)
  go_ret
  exact ⟨by first | rfl | (simp; done) | (simp [*]; done), by repeat (first | exact Xq.refl _ | apply Xq.step)⟩

end Go.Proofs.Ytiaiecfnpompcaa.T
namespace Go.Proofs.Ytiaiecfnpompcaa.T
open Go.RowKit Go.Proofs.YtiaiecfnpompcaaW.PrintWords Go.Proofs.YtiaiecfnpompcaaW.PrintLast Go.Proofs.YtiaiecfnpompcaaW.PrintMore
attribute [local go_sem] XX XW X6 X5 XQ XP X0 XZ
set_option linter.unusedVariables false
set_option linter.unusedSimpArgs false
attribute [local go_sem] XO

def XU.j0 : Nat → Int → Bool → Int → Int → Int → Option (Bool)
 | 0, _, _, _, _, _ => none
 | k + 1, x4, x5, x474000, x474001, x474002 => if x5 = true then (if x474001 = 0 then ((Xj.f x474002 0 1000).bind fun t474 => (some t474)) else (some false)) else (if x4 = 3 then ((Xj.f x474001 0 1000).bind fun t475 => (if t475 = true then ((Xj.f x474002 0 100000).bind fun t476 => (some t476)) else (some false))) else (some false))
def XU.f (k : Nat) (a0_0 : Int) (a0_1 : Int) (a0_2 : Int) : Option (Bool) := if a0_0 = 1 then (XU.j0 k a0_0 (a0_0 == 1) a0_0 a0_1 a0_2) else (XU.j0 k a0_0 (a0_0 == 2) a0_0 a0_1 a0_2)
set_option maxHeartbeats 8000000 in
set_option maxRecDepth 100000 in
theorem XU.calls (k : Nat) (a0_0 : Int) (a0_1 : Int) (a0_2 : Int) (r : Bool) (w : World) (h : XU.f k a0_0 a0_1 a0_2 = some r) :
  Calls Try.prog 45 #[.agg #[.int .i64 a0_0, .int .i64 a0_1, .int .i64 a0_2]] w fun e w' => e = .returned (.bool r) ∧ Below w.heap.size w w' := by
 have hu79 := Try.underlying79
 have HB := Xa.mk (Below.refl w.heap.size w)
 have H : (if a0_0 = 1 then (XU.j0 k a0_0 (a0_0 == 1) a0_0 a0_1 a0_2) else (XU.j0 k a0_0 (a0_0 == 2) a0_0 a0_1 a0_2)) = some r := h
 clear h
 have HC2 := Xa.mk H
 clear H
 go_enter Try.func45, Try.ntmps45
 go_upto_if 5 with (first | ((with_reducible refine Xz (N := 1) rfl ?_); refine XH ?hg (N := 1) ?hd (cs := #[.int .i64 a0_0, .int .i64 a0_1, .int .i64 a0_2]) (t := 79) ?hr ?_; (case hd => rfl); (case hg => rfl); (case hr => first | (go_simp; done) | (go_simp; rfl)); intro gb473 hg w3 hbox hb; have BK473 := Xa.mk (hbox); have GW473 := Xa.mk ((by rw [hg]; exact (Xg HB.out) : w.heap.size ≤ gb473)); have GE473 := GW473; replace HB := Xa.mk (Xi HB.out hb); clear hb hbox hg; obtain ⟨hcz4_0, hcz4_1, hcz4_2⟩ := bc3 BK473.out; obtain ⟨hfz4_0, hfz4_1, hfz4_2⟩ := bf3 BK473.out))
 (try simp only [Act.put, sa_, s0_, s1_])
 go_cut [5] (fun v5 wc => ∃ (kq : Nat) (x5_1 : Bool), v5 = .bool x5_1 ∧ Xa (XU.j0 kq a0_0 x5_1 a0_0 a0_1 a0_2 = some r) ∧ Xa (kq ≤ k) ∧ Xa (wc.heap[gb473]? = some (.cells #[.int .i64 a0_0, .int .i64 a0_1, .int .i64 a0_2] 79 (0, 0))) ∧ Xa (Below w.heap.size w wc))
 case first =>
  have H := HC2.out
  clear HC2
  by_cases c5 : a0_0 = 1
  ·rw [if_pos c5] at H
   have c5b0 : (a0_0 == 1) = true := beq_iff_eq.mpr c5
   have c5b1 : (a0_0 != 1) = false := bne_eq_false_iff_eq.mpr c5
   clear c5
   (first | rw [c5b0] | (simp only [XR, XS]; rw [c5b0]) | skip)
   have H' := Xa.mk H
   clear H
   go_wp2
   go_meet
   case rel => exact ⟨_, ((a0_0 == 1)), fx_, H', ⟨by first | omega | exact Nat.le_refl _⟩, BK473, ⟨hb_ HB⟩⟩
  ·rw [if_neg c5] at H
   have c5b0 : (a0_0 == 1) = false := beq_eq_false_iff_ne.mpr c5
   have c5b1 : (a0_0 != 1) = true := bne_iff_ne.mpr c5
   (first | rw [c5b0] | (simp only [XR, XS]; rw [c5b0]) | skip)
   have H' := Xa.mk H
   clear H
   go_wp2
   go_meet
   case rel => exact ⟨_, ((a0_0 == 2)), fx_, H', ⟨by first | omega | exact Nat.le_refl _⟩, BK473, ⟨hb_ HB⟩⟩
 case rest =>
  clear HC2
  try clear p2; try clear c4; try clear c5; try clear c5b0; try clear c5b1; try clear hcz4_0; try clear hcz4_1; try clear hcz4_2; try clear hfz4_0; try clear hfz4_1; try clear hfz4_2
  obtain ⟨kq, x5_1, rfl, HA, HJ1, BK473, HB⟩ := hcut
  cases kq with
  | zero => exact absurd HA.out (by simp [XU.j0])
  | succ kj1 =>
   have H := HA.out
   clear HA
   simp only [XU.j0] at H
   by_cases c6 : x5_1 = true
   ·subst c6
    have H1 : (if a0_1 = 0 then ((Xj.f a0_2 0 1000).bind fun t474 => (some t474)) else (some false)) = some r := by rw [if_pos rfl] at H; exact H
    clear H
    have H := H1
    clear H1
    by_cases c7 : a0_1 = 0
    ·rw [if_pos c7] at H
     have c7b0 : (a0_1 == 0) = true := beq_iff_eq.mpr c7
     have c7b1 : (a0_1 != 0) = false := bne_eq_false_iff_eq.mpr c7
     clear c7
     replace H := Option.bind_eq_some_iff.mp H
     obtain ⟨t474, A80, H⟩ := H; (try dsimp only at H)
     have A8 := Xa.mk A80
     clear A80
     obtain rfl := Option.some.inj H
     obtain ⟨hcz9_0, hcz9_1, hcz9_2⟩ := bc3 BK473.out
     obtain ⟨hfz9_0, hfz9_1, hfz9_2⟩ := bf3 BK473.out
     go_wp2_with (first | (go_at_call 19; (with_reducible refine (Xj.calls a0_2 0 1000 t474 _ A8.out).mono ?_); rintro e w' ⟨rfl, ⟨nd, rfl⟩⟩))
     go_ret
     exact ⟨by first | rfl | (simp [errW_none, errW_some] <;> rfl) | (simp [*, errW_none, errW_some] <;> rfl), by repeat (first | (with_reducible first | exact HB.out | apply Xs | apply Xo | apply Xl | refine XC ?_ (Xa.out (by assumption))) | exact HB.out)⟩
    ·rw [if_neg c7] at H
     have c7b0 : (a0_1 == 0) = false := beq_eq_false_iff_ne.mpr c7
     have c7b1 : (a0_1 != 0) = true := bne_iff_ne.mpr c7
     obtain rfl := Option.some.inj H
     obtain ⟨hcz10_0, hcz10_1, hcz10_2⟩ := bc3 BK473.out
     obtain ⟨hfz10_0, hfz10_1, hfz10_2⟩ := bf3 BK473.out
     go_wp2
     go_ret
     exact ⟨by first | rfl | (simp [errW_none, errW_some] <;> rfl) | (simp [*, errW_none, errW_some] <;> rfl), by repeat (first | (with_reducible first | exact HB.out | apply Xs | apply Xo | apply Xl | refine XC ?_ (Xa.out (by assumption))) | exact HB.out)⟩
   ·replace c6 := Bool.eq_false_iff.mpr c6
    subst c6
    have H1 : (if a0_0 = 3 then ((Xj.f a0_1 0 1000).bind fun t475 => (if t475 = true then ((Xj.f a0_2 0 100000).bind fun t476 => (some t476)) else (some false))) else (some false)) = some r := by rw [if_neg (show ¬ (false = true) by decide)] at H; exact H
    clear H
    have H := H1
    clear H1
    by_cases c11 : a0_0 = 3
    ·rw [if_pos c11] at H
     have c11b0 : (a0_0 == 3) = true := beq_iff_eq.mpr c11
     have c11b1 : (a0_0 != 3) = false := bne_eq_false_iff_eq.mpr c11
     clear c11
     replace H := Option.bind_eq_some_iff.mp H
     obtain ⟨t475, A120, H⟩ := H; (try dsimp only at H)
     have A12 := Xa.mk A120
     clear A120
     by_cases c13 : t475 = true
     ·subst c13
      have H1 : ((Xj.f a0_2 0 100000).bind fun t476 => (some t476)) = some r := by rw [if_pos rfl] at H; exact H
      clear H
      have H := H1
      clear H1
      replace H := Option.bind_eq_some_iff.mp H
      obtain ⟨t476, A140, H⟩ := H; (try dsimp only at H)
      have A14 := Xa.mk A140
      clear A140
      obtain rfl := Option.some.inj H
      obtain ⟨hcz15_0, hcz15_1, hcz15_2⟩ := bc3 BK473.out
      obtain ⟨hfz15_0, hfz15_1, hfz15_2⟩ := bf3 BK473.out
      go_wp2_with (first | ((with_reducible refine Xp (f := 19) rfl ?_); refine XL (some 20) rfl rfl Try.func19 (by kernel_rfl) rfl #[.int .i64 a0_1, .int .i64 0, .int .i64 1000] rfl (by (try simp only [List.map_toArray, List.map_cons, List.map_nil]); first | done | rfl | (simp only [List.length_drop, List.length_take]; rfl)) ?_; (with_reducible refine (Xj.calls a0_1 0 1000 true _ A12.out).mono ?_); rintro e w' ⟨rfl, ⟨nd, rfl⟩⟩; refine ⟨_, rfl, ?_⟩) | (go_at_call 19; (with_reducible refine (Xj.calls a0_2 0 100000 t476 _ A14.out).mono ?_); rintro e w' ⟨rfl, ⟨nd, rfl⟩⟩))
      go_ret
      exact ⟨by first | rfl | (simp [errW_none, errW_some] <;> rfl) | (simp [*, errW_none, errW_some] <;> rfl), by repeat (first | (with_reducible first | exact HB.out | apply Xs | apply Xo | apply Xl | refine XC ?_ (Xa.out (by assumption))) | exact HB.out)⟩
     ·replace c13 := Bool.eq_false_iff.mpr c13
      subst c13
      have H1 : (some false) = some r := by rw [if_neg (show ¬ (false = true) by decide)] at H; exact H
      clear H
      have H := H1
      clear H1
      obtain rfl := Option.some.inj H
      obtain ⟨hcz16_0, hcz16_1, hcz16_2⟩ := bc3 BK473.out
      obtain ⟨hfz16_0, hfz16_1, hfz16_2⟩ := bf3 BK473.out
      go_wp2_with (first | ((with_reducible refine Xp (f := 19) rfl ?_); refine XL (some 20) rfl rfl Try.func19 (by kernel_rfl) rfl #[.int .i64 a0_1, .int .i64 0, .int .i64 1000] rfl (by (try simp only [List.map_toArray, List.map_cons, List.map_nil]); first | done | rfl | (simp only [List.length_drop, List.length_take]; rfl)) ?_; (with_reducible refine (Xj.calls a0_1 0 1000 false _ A12.out).mono ?_); rintro e w' ⟨rfl, ⟨nd, rfl⟩⟩; refine ⟨_, rfl, ?_⟩))
      go_ret
      exact ⟨by first | rfl | (simp [errW_none, errW_some] <;> rfl) | (simp [*, errW_none, errW_some] <;> rfl), by repeat (first | (with_reducible first | exact HB.out | apply Xs | apply Xo | apply Xl | refine XC ?_ (Xa.out (by assumption))) | exact HB.out)⟩
    ·rw [if_neg c11] at H
     have c11b0 : (a0_0 == 3) = false := beq_eq_false_iff_ne.mpr c11
     have c11b1 : (a0_0 != 3) = true := bne_iff_ne.mpr c11
     obtain rfl := Option.some.inj H
     go_wp2
     go_ret
     exact ⟨by first | rfl | (simp [errW_none, errW_some] <;> rfl) | (simp [*, errW_none, errW_some] <;> rfl), by repeat (first | (with_reducible first | exact HB.out | apply Xs | apply Xo | apply Xl | refine XC ?_ (Xa.out (by assumption))) | exact HB.out)⟩

end Go.Proofs.Ytiaiecfnpompcaa.T
namespace Go.Proofs.Ytiaiecfnpompcaa.T
open Go.RowKit Go.Proofs.YtiaiecfnpompcaaW.PrintWords Go.Proofs.YtiaiecfnpompcaaW.PrintLast Go.Proofs.YtiaiecfnpompcaaW.PrintMore
attribute [local go_sem] XX XW X6 X5 XQ XP X0 XZ
set_option linter.unusedVariables false
set_option linter.unusedSimpArgs false
attribute [local go_sem] XO

def XY.f (a0 : Int) : Option (Bool) := some (a0 != a0)
set_option maxHeartbeats 8000000 in
set_option maxRecDepth 100000 in
theorem XY.calls (a0 : Int) (r : Bool) (w : World) (h : XY.f a0 = some r) :
  Calls Try.prog 102 #[.int .i64 a0] w fun e w' => e = .returned (.bool r) ∧ Xq w w' := by
 have H : (some (a0 != a0)) = some r := h
 clear h
 obtain rfl := Option.some.inj H
 go_enter Try.func102, Try.ntmps102
 go_wp2
 go_ret
 exact ⟨by first | rfl | (simp; done) | (simp [*]; done), by repeat (first | exact Xq.refl _ | apply Xq.step)⟩

end Go.Proofs.Ytiaiecfnpompcaa.T
namespace Go.Proofs.Ytiaiecfnpompcaa.T
open Go.RowKit Go.Proofs.YtiaiecfnpompcaaW.PrintWords Go.Proofs.YtiaiecfnpompcaaW.PrintLast Go.Proofs.YtiaiecfnpompcaaW.PrintMore
attribute [local go_sem] XX XW X6 X5 XQ XP X0 XZ
set_option linter.unusedVariables false
set_option linter.unusedSimpArgs false
attribute [local go_sem] XO

def Yf.f (a0 : Int) (a1 : Int) : Option (Int) := (XY.f a0).bind fun t110 => ((XY.f a1).bind fun t111 => (if t110 = true then (if t111 = true then (some 0) else (some (-1))) else (if t111 = true then (some 1) else (if a0 < a1 then (some (-1)) else (if a0 > a1 then (some 1) else (some 0))))))
set_option maxHeartbeats 8000000 in
set_option maxRecDepth 100000 in
theorem Yf.calls (a0 : Int) (a1 : Int) (r : Int) (w : World) (h : Yf.f a0 a1 = some r) :
  Calls Try.prog 78 #[.int .i64 a0, .int .i64 a1] w fun e w' => e = .returned (.int .i64 r) ∧ Xq w w' := by
 have H : ((XY.f a0).bind fun t110 => ((XY.f a1).bind fun t111 => (if t110 = true then (if t111 = true then (some 0) else (some (-1))) else (if t111 = true then (some 1) else (if a0 < a1 then (some (-1)) else (if a0 > a1 then (some 1) else (some 0))))))) = some r := h
 clear h
 replace H := Option.bind_eq_some_iff.mp H
 obtain ⟨t110, A30, H⟩ := H; (try dsimp only at H)
 have A3 := Xa.mk A30
 clear A30
 replace H := Option.bind_eq_some_iff.mp H
 obtain ⟨t111, A40, H⟩ := H; (try dsimp only at H)
 have A4 := Xa.mk A40
 clear A40
 by_cases c5 : t110 = true
 ·subst c5
  have H1 : (if t111 = true then (some 0) else (some (-1))) = some r := by rw [if_pos rfl] at H; exact H
  clear H
  have H := H1
  clear H1
  by_cases c6 : t111 = true
  ·subst c6
   have H1 : (some 0) = some r := by rw [if_pos rfl] at H; exact H
   clear H
   have H := H1
   clear H1
   obtain rfl := Option.some.inj H
   go_enter Try.func78, Try.ntmps78
   go_wp2_with (first | ((with_reducible refine Xp (f := 102) rfl ?_); refine XL (some 8) rfl rfl Try.func102 (by kernel_rfl) rfl #[.int .i64 a0] rfl (by (try simp only [List.map_toArray, List.map_cons, List.map_nil]); first | done | rfl | (simp only [List.length_drop, List.length_take]; rfl)) ?_; (with_reducible refine (XY.calls a0 true _ A3.out).mono ?_); rintro e w' ⟨rfl, ⟨nd, rfl⟩⟩; refine ⟨_, rfl, ?_⟩) | ((with_reducible refine Xp (f := 102) rfl ?_); refine XL (some 10) rfl rfl Try.func102 (by kernel_rfl) rfl #[.int .i64 a1] rfl (by (try simp only [List.map_toArray, List.map_cons, List.map_nil]); first | done | rfl | (simp only [List.length_drop, List.length_take]; rfl)) ?_; (with_reducible refine (XY.calls a1 true _ A4.out).mono ?_); rintro e w' ⟨rfl, ⟨nd, rfl⟩⟩; refine ⟨_, rfl, ?_⟩))
   go_ret
   exact ⟨by first | rfl | (simp; done) | (simp [*]; done), by repeat (first | exact Xq.refl _ | apply Xq.step)⟩
  ·replace c6 := Bool.eq_false_iff.mpr c6
   subst c6
   have H1 : (some (-1)) = some r := by rw [if_neg (show ¬ (false = true) by decide)] at H; exact H
   clear H
   have H := H1
   clear H1
   obtain rfl := Option.some.inj H
   go_enter Try.func78, Try.ntmps78
   go_wp2_with (first | ((with_reducible refine Xp (f := 102) rfl ?_); refine XL (some 8) rfl rfl Try.func102 (by kernel_rfl) rfl #[.int .i64 a0] rfl (by (try simp only [List.map_toArray, List.map_cons, List.map_nil]); first | done | rfl | (simp only [List.length_drop, List.length_take]; rfl)) ?_; (with_reducible refine (XY.calls a0 true _ A3.out).mono ?_); rintro e w' ⟨rfl, ⟨nd, rfl⟩⟩; refine ⟨_, rfl, ?_⟩) | ((with_reducible refine Xp (f := 102) rfl ?_); refine XL (some 10) rfl rfl Try.func102 (by kernel_rfl) rfl #[.int .i64 a1] rfl (by (try simp only [List.map_toArray, List.map_cons, List.map_nil]); first | done | rfl | (simp only [List.length_drop, List.length_take]; rfl)) ?_; (with_reducible refine (XY.calls a1 false _ A4.out).mono ?_); rintro e w' ⟨rfl, ⟨nd, rfl⟩⟩; refine ⟨_, rfl, ?_⟩))
   go_ret
   exact ⟨by first | rfl | (simp; done) | (simp [*]; done), by repeat (first | exact Xq.refl _ | apply Xq.step)⟩
 ·replace c5 := Bool.eq_false_iff.mpr c5
  subst c5
  have H1 : (if t111 = true then (some 1) else (if a0 < a1 then (some (-1)) else (if a0 > a1 then (some 1) else (some 0)))) = some r := by rw [if_neg (show ¬ (false = true) by decide)] at H; exact H
  clear H
  have H := H1
  clear H1
  by_cases c7 : t111 = true
  ·subst c7
   have H1 : (some 1) = some r := by rw [if_pos rfl] at H; exact H
   clear H
   have H := H1
   clear H1
   obtain rfl := Option.some.inj H
   go_enter Try.func78, Try.ntmps78
   go_wp2_with (first | ((with_reducible refine Xp (f := 102) rfl ?_); refine XL (some 8) rfl rfl Try.func102 (by kernel_rfl) rfl #[.int .i64 a0] rfl (by (try simp only [List.map_toArray, List.map_cons, List.map_nil]); first | done | rfl | (simp only [List.length_drop, List.length_take]; rfl)) ?_; (with_reducible refine (XY.calls a0 false _ A3.out).mono ?_); rintro e w' ⟨rfl, ⟨nd, rfl⟩⟩; refine ⟨_, rfl, ?_⟩) | ((with_reducible refine Xp (f := 102) rfl ?_); refine XL (some 10) rfl rfl Try.func102 (by kernel_rfl) rfl #[.int .i64 a1] rfl (by (try simp only [List.map_toArray, List.map_cons, List.map_nil]); first | done | rfl | (simp only [List.length_drop, List.length_take]; rfl)) ?_; (with_reducible refine (XY.calls a1 true _ A4.out).mono ?_); rintro e w' ⟨rfl, ⟨nd, rfl⟩⟩; refine ⟨_, rfl, ?_⟩))
   go_ret
   exact ⟨by first | rfl | (simp; done) | (simp [*]; done), by repeat (first | exact Xq.refl _ | apply Xq.step)⟩
  ·replace c7 := Bool.eq_false_iff.mpr c7
   subst c7
   have H1 : (if a0 < a1 then (some (-1)) else (if a0 > a1 then (some 1) else (some 0))) = some r := by rw [if_neg (show ¬ (false = true) by decide)] at H; exact H
   clear H
   have H := H1
   clear H1
   by_cases c8 : a0 < a1
   ·rw [if_pos c8] at H
    have c8b0 : decide (a0 < a1) = true := decide_eq_true c8
    clear c8
    obtain rfl := Option.some.inj H
    go_enter Try.func78, Try.ntmps78
    go_wp2_with (first | ((with_reducible refine Xp (f := 102) rfl ?_); refine XL (some 8) rfl rfl Try.func102 (by kernel_rfl) rfl #[.int .i64 a0] rfl (by (try simp only [List.map_toArray, List.map_cons, List.map_nil]); first | done | rfl | (simp only [List.length_drop, List.length_take]; rfl)) ?_; (with_reducible refine (XY.calls a0 false _ A3.out).mono ?_); rintro e w' ⟨rfl, ⟨nd, rfl⟩⟩; refine ⟨_, rfl, ?_⟩) | ((with_reducible refine Xp (f := 102) rfl ?_); refine XL (some 10) rfl rfl Try.func102 (by kernel_rfl) rfl #[.int .i64 a1] rfl (by (try simp only [List.map_toArray, List.map_cons, List.map_nil]); first | done | rfl | (simp only [List.length_drop, List.length_take]; rfl)) ?_; (with_reducible refine (XY.calls a1 false _ A4.out).mono ?_); rintro e w' ⟨rfl, ⟨nd, rfl⟩⟩; refine ⟨_, rfl, ?_⟩))
    go_ret
    exact ⟨by first | rfl | (simp; done) | (simp [*]; done), by repeat (first | exact Xq.refl _ | apply Xq.step)⟩
   ·rw [if_neg c8] at H
    have c8b0 : decide (a0 < a1) = false := decide_eq_false c8
    clear c8
    by_cases c9 : a0 > a1
    ·rw [if_pos c9] at H
     have c9b0 : decide (a1 < a0) = true := decide_eq_true c9
     clear c9
     obtain rfl := Option.some.inj H
     go_enter Try.func78, Try.ntmps78
     go_wp2_with (first | ((with_reducible refine Xp (f := 102) rfl ?_); refine XL (some 8) rfl rfl Try.func102 (by kernel_rfl) rfl #[.int .i64 a0] rfl (by (try simp only [List.map_toArray, List.map_cons, List.map_nil]); first | done | rfl | (simp only [List.length_drop, List.length_take]; rfl)) ?_; (with_reducible refine (XY.calls a0 false _ A3.out).mono ?_); rintro e w' ⟨rfl, ⟨nd, rfl⟩⟩; refine ⟨_, rfl, ?_⟩) | ((with_reducible refine Xp (f := 102) rfl ?_); refine XL (some 10) rfl rfl Try.func102 (by kernel_rfl) rfl #[.int .i64 a1] rfl (by (try simp only [List.map_toArray, List.map_cons, List.map_nil]); first | done | rfl | (simp only [List.length_drop, List.length_take]; rfl)) ?_; (with_reducible refine (XY.calls a1 false _ A4.out).mono ?_); rintro e w' ⟨rfl, ⟨nd, rfl⟩⟩; refine ⟨_, rfl, ?_⟩))
     go_ret
     exact ⟨by first | rfl | (simp; done) | (simp [*]; done), by repeat (first | exact Xq.refl _ | apply Xq.step)⟩
    ·rw [if_neg c9] at H
     have c9b0 : decide (a1 < a0) = false := decide_eq_false c9
     clear c9
     obtain rfl := Option.some.inj H
     go_enter Try.func78, Try.ntmps78
     go_wp2_with (first | ((with_reducible refine Xp (f := 102) rfl ?_); refine XL (some 8) rfl rfl Try.func102 (by kernel_rfl) rfl #[.int .i64 a0] rfl (by (try simp only [List.map_toArray, List.map_cons, List.map_nil]); first | done | rfl | (simp only [List.length_drop, List.length_take]; rfl)) ?_; (with_reducible refine (XY.calls a0 false _ A3.out).mono ?_); rintro e w' ⟨rfl, ⟨nd, rfl⟩⟩; refine ⟨_, rfl, ?_⟩) | ((with_reducible refine Xp (f := 102) rfl ?_); refine XL (some 10) rfl rfl Try.func102 (by kernel_rfl) rfl #[.int .i64 a1] rfl (by (try simp only [List.map_toArray, List.map_cons, List.map_nil]); first | done | rfl | (simp only [List.length_drop, List.length_take]; rfl)) ?_; (with_reducible refine (XY.calls a1 false _ A4.out).mono ?_); rintro e w' ⟨rfl, ⟨nd, rfl⟩⟩; refine ⟨_, rfl, ?_⟩))
     go_ret
     exact ⟨by first | rfl | (simp; done) | (simp [*]; done), by repeat (first | exact Xq.refl _ | apply Xq.step)⟩

end Go.Proofs.Ytiaiecfnpompcaa.T
namespace Go.Proofs.Ytiaiecfnpompcaa.T
open Go.RowKit Go.Proofs.YtiaiecfnpompcaaW.PrintWords Go.Proofs.YtiaiecfnpompcaaW.PrintLast Go.Proofs.YtiaiecfnpompcaaW.PrintMore
attribute [local go_sem] XX XW X6 X5 XQ XP X0 XZ
set_option linter.unusedVariables false
set_option linter.unusedSimpArgs false
attribute [local go_sem] XO

def Yl.l0 : Nat → Int → List Int → Int → Int → Option (Int)
 | 0, _, _, _, _ => none
 | k + 1, x3, x6, x7, x8 => if x8 < x7 then (if 0 ≤ x8 then (if x8 < (x6.length : Int) then (if (rd x6 x8) = x3 then (Yl.l0 k x3 x6 x7 (wrap64 (x8 + 1))) else (some (rd x6 x8))) else (none)) else (none)) else (some x3)
def Yl.f (k : Nat) (l0 : List Int) : Option (Int) := Yl.l0 k 0 l0 (l0.length : Int) 0
set_option maxHeartbeats 8000000 in
set_option maxRecDepth 100000 in
theorem Yl.calls (k : Nat) (A0 : Option Addr) (c0 : Nat) (l0 : List Int) (r : Int) (w : World) (hr0 : Kd.C (Kd.int .i64) w A0 l0.length l0) (hc0 : l0.length ≤ c0) (h : Yl.f k l0 = some r) :
  Calls Try.prog 94 #[.slice A0 l0.length c0] w fun e w' => e = .returned (.int .i64 r) ∧ Xq w w' := by
 have HR0 := Xa.mk hr0
 have HC0 := Xa.mk hc0
 clear hr0 hc0
 have H : (Yl.l0 k 0 l0 (l0.length : Int) 0) = some r := h
 clear h
 have H' := Xa.mk H
 clear H
 go_enter Try.func94, Try.ntmps94
 go_wp2
 go_loopg [8] k (fun kq v8 w' => ∃ (x8_1 : Int), v8 = .int .i64 x8_1 ∧ Xa (Yl.l0 kq 0 l0 (l0.length : Int) x8_1 = some r) ∧ Xa (kq ≤ k) ∧ Xq w w')
 case atStart => exact ⟨(0), (by first | rfl | (simp; done) | (simp [*]; done)), H', ⟨Nat.le_refl _⟩, by repeat (first | exact Xq.refl _ | apply Xq.step)⟩
 case round =>
  clear H'
  obtain ⟨x8_1, rfl, HA, HK1, ⟨m1, rfl⟩⟩ := hrel
  cases gk with
  | zero => exact absurd HA.out (by simp [Yl.l0])
  | succ k1 =>
   have H := HA.out
   clear HA
   simp only [Yl.l0] at H
   by_cases c2 : x8_1 < (l0.length : Int)
   ·rw [if_pos c2] at H
    have c2b0 : decide (x8_1 < (l0.length : Int)) = true := decide_eq_true c2
    clear c2
    by_cases c3 : 0 ≤ x8_1
    ·rw [if_pos c3] at H
     have c3b0 : decide (0 ≤ x8_1) = true := decide_eq_true c3
     clear c3
     by_cases c4 : x8_1 < (l0.length : Int)
     ·rw [if_pos c4] at H
      have c4b0 : decide (x8_1 < (l0.length : Int)) = true := decide_eq_true c4
      clear c4
      by_cases c5 : (rd l0 x8_1) = 0
      ·rw [if_pos c5] at H
       have c5b0 : ((rd l0 x8_1) == 0) = true := beq_iff_eq.mpr c5
       have c5b1 : ((rd l0 x8_1) != 0) = false := bne_eq_false_iff_eq.mpr c5
       clear c5
       have H' := Xa.mk H
       clear H
       have p112 : 0 ≤ (x8_1 : Int) := of_decide_eq_true ‹_›
       have q112 : x8_1 < (l0.length : Int) := of_decide_eq_true ‹_›
       obtain ⟨ad112, e112, hx112_0⟩ := Kd.at_int HR0.out x8_1 p112 q112
       cases e112
       replace p112 := eq_true p112
       replace q112 := eq_true q112
       go_wp2
       go_roundg k1
       case measure => have := HK1.out; omega
       case rel => exact ⟨(wrap64 (x8_1 + 1)), (by first | rfl | (simp; done) | (simp [*]; done)), H', ⟨by have := HK1.out; omega⟩, by repeat (first | exact Xq.refl _ | apply Xq.step)⟩
      ·rw [if_neg c5] at H
       have c5b0 : ((rd l0 x8_1) == 0) = false := beq_eq_false_iff_ne.mpr c5
       have c5b1 : ((rd l0 x8_1) != 0) = true := bne_iff_ne.mpr c5
       obtain rfl := Option.some.inj H
       have p112 : 0 ≤ (x8_1 : Int) := of_decide_eq_true ‹_›
       have q112 : x8_1 < (l0.length : Int) := of_decide_eq_true ‹_›
       obtain ⟨ad112, e112, hx112_0⟩ := Kd.at_int HR0.out x8_1 p112 q112
       cases e112
       replace p112 := eq_true p112
       replace q112 := eq_true q112
       go_wp2
       go_ret
       exact ⟨by first | rfl | (simp; done) | (simp [*]; done), by repeat (first | exact Xq.refl _ | apply Xq.step)⟩
     ·rw [if_neg c4] at H
      exact absurd H (by simp)
    ·rw [if_neg c3] at H
     exact absurd H (by simp)
   ·rw [if_neg c2] at H
    have c2b0 : decide (x8_1 < (l0.length : Int)) = false := decide_eq_false c2
    clear c2
    obtain rfl := Option.some.inj H
    go_wp2
    go_ret
    exact ⟨by first | rfl | (simp; done) | (simp [*]; done), by repeat (first | exact Xq.refl _ | apply Xq.step)⟩

end Go.Proofs.Ytiaiecfnpompcaa.T
namespace Go.Proofs.Ytiaiecfnpompcaa.T
open Go.RowKit Go.Proofs.YtiaiecfnpompcaaW.PrintWords Go.Proofs.YtiaiecfnpompcaaW.PrintLast Go.Proofs.YtiaiecfnpompcaaW.PrintMore
attribute [local go_sem] XX XW X6 X5 XQ XP X0 XZ
set_option linter.unusedVariables false
set_option linter.unusedSimpArgs false
attribute [local go_sem] XO

def XK.f (a0 : Int) : Option (Bool) := some (a0 != a0)
set_option maxHeartbeats 8000000 in
set_option maxRecDepth 100000 in
theorem XK.calls (a0 : Int) (r : Bool) (w : World) (h : XK.f a0 = some r) :
  Calls Try.prog 107 #[.int .i64 a0] w fun e w' => e = .returned (.bool r) ∧ Xq w w' := by
 have H : (some (a0 != a0)) = some r := h
 clear h
 obtain rfl := Option.some.inj H
 go_enter Try.func107, Try.ntmps107
 go_wp2
 go_ret
 exact ⟨by first | rfl | (simp; done) | (simp [*]; done), by repeat (first | exact Xq.refl _ | apply Xq.step)⟩

end Go.Proofs.Ytiaiecfnpompcaa.T
namespace Go.Proofs.Ytiaiecfnpompcaa.T
open Go.RowKit Go.Proofs.YtiaiecfnpompcaaW.PrintWords Go.Proofs.YtiaiecfnpompcaaW.PrintLast Go.Proofs.YtiaiecfnpompcaaW.PrintMore
attribute [local go_sem] XX XW X6 X5 XQ XP X0 XZ
set_option linter.unusedVariables false
set_option linter.unusedSimpArgs false
attribute [local go_sem] XO

def YA.f (a0 : Int) (a1 : Int) : Option (Int) := (XK.f a0).bind fun t590 => ((XK.f a1).bind fun t591 => (if t590 = true then (if t591 = true then (some 0) else (some (-1))) else (if t591 = true then (some 1) else (if a0 < a1 then (some (-1)) else (if a0 > a1 then (some 1) else (some 0))))))
set_option maxHeartbeats 8000000 in
set_option maxRecDepth 100000 in
theorem YA.calls (a0 : Int) (a1 : Int) (r : Int) (w : World) (h : YA.f a0 a1 = some r) :
  Calls Try.prog 95 #[.int .i64 a0, .int .i64 a1] w fun e w' => e = .returned (.int .i64 r) ∧ Xq w w' := by
 have H : ((XK.f a0).bind fun t590 => ((XK.f a1).bind fun t591 => (if t590 = true then (if t591 = true then (some 0) else (some (-1))) else (if t591 = true then (some 1) else (if a0 < a1 then (some (-1)) else (if a0 > a1 then (some 1) else (some 0))))))) = some r := h
 clear h
 replace H := Option.bind_eq_some_iff.mp H
 obtain ⟨t590, A30, H⟩ := H; (try dsimp only at H)
 have A3 := Xa.mk A30
 clear A30
 replace H := Option.bind_eq_some_iff.mp H
 obtain ⟨t591, A40, H⟩ := H; (try dsimp only at H)
 have A4 := Xa.mk A40
 clear A40
 by_cases c5 : t590 = true
 ·subst c5
  have H1 : (if t591 = true then (some 0) else (some (-1))) = some r := by rw [if_pos rfl] at H; exact H
  clear H
  have H := H1
  clear H1
  by_cases c6 : t591 = true
  ·subst c6
   have H1 : (some 0) = some r := by rw [if_pos rfl] at H; exact H
   clear H
   have H := H1
   clear H1
   obtain rfl := Option.some.inj H
   go_enter Try.func95, Try.ntmps95
   go_wp2_with (first | ((with_reducible refine Xp (f := 107) rfl ?_); refine XL (some 8) rfl rfl Try.func107 (by kernel_rfl) rfl #[.int .i64 a0] rfl (by (try simp only [List.map_toArray, List.map_cons, List.map_nil]); first | done | rfl | (simp only [List.length_drop, List.length_take]; rfl)) ?_; (with_reducible refine (XK.calls a0 true _ A3.out).mono ?_); rintro e w' ⟨rfl, ⟨nd, rfl⟩⟩; refine ⟨_, rfl, ?_⟩) | ((with_reducible refine Xp (f := 107) rfl ?_); refine XL (some 10) rfl rfl Try.func107 (by kernel_rfl) rfl #[.int .i64 a1] rfl (by (try simp only [List.map_toArray, List.map_cons, List.map_nil]); first | done | rfl | (simp only [List.length_drop, List.length_take]; rfl)) ?_; (with_reducible refine (XK.calls a1 true _ A4.out).mono ?_); rintro e w' ⟨rfl, ⟨nd, rfl⟩⟩; refine ⟨_, rfl, ?_⟩))
   go_ret
   exact ⟨by first | rfl | (simp; done) | (simp [*]; done), by repeat (first | exact Xq.refl _ | apply Xq.step)⟩
  ·replace c6 := Bool.eq_false_iff.mpr c6
   subst c6
   have H1 : (some (-1)) = some r := by rw [if_neg (show ¬ (false = true) by decide)] at H; exact H
   clear H
   have H := H1
   clear H1
   obtain rfl := Option.some.inj H
   go_enter Try.func95, Try.ntmps95
   go_wp2_with (first | ((with_reducible refine Xp (f := 107) rfl ?_); refine XL (some 8) rfl rfl Try.func107 (by kernel_rfl) rfl #[.int .i64 a0] rfl (by (try simp only [List.map_toArray, List.map_cons, List.map_nil]); first | done | rfl | (simp only [List.length_drop, List.length_take]; rfl)) ?_; (with_reducible refine (XK.calls a0 true _ A3.out).mono ?_); rintro e w' ⟨rfl, ⟨nd, rfl⟩⟩; refine ⟨_, rfl, ?_⟩) | ((with_reducible refine Xp (f := 107) rfl ?_); refine XL (some 10) rfl rfl Try.func107 (by kernel_rfl) rfl #[.int .i64 a1] rfl (by (try simp only [List.map_toArray, List.map_cons, List.map_nil]); first | done | rfl | (simp only [List.length_drop, List.length_take]; rfl)) ?_; (with_reducible refine (XK.calls a1 false _ A4.out).mono ?_); rintro e w' ⟨rfl, ⟨nd, rfl⟩⟩; refine ⟨_, rfl, ?_⟩))
   go_ret
   exact ⟨by first | rfl | (simp; done) | (simp [*]; done), by repeat (first | exact Xq.refl _ | apply Xq.step)⟩
 ·replace c5 := Bool.eq_false_iff.mpr c5
  subst c5
  have H1 : (if t591 = true then (some 1) else (if a0 < a1 then (some (-1)) else (if a0 > a1 then (some 1) else (some 0)))) = some r := by rw [if_neg (show ¬ (false = true) by decide)] at H; exact H
  clear H
  have H := H1
  clear H1
  by_cases c7 : t591 = true
  ·subst c7
   have H1 : (some 1) = some r := by rw [if_pos rfl] at H; exact H
   clear H
   have H := H1
   clear H1
   obtain rfl := Option.some.inj H
   go_enter Try.func95, Try.ntmps95
   go_wp2_with (first | ((with_reducible refine Xp (f := 107) rfl ?_); refine XL (some 8) rfl rfl Try.func107 (by kernel_rfl) rfl #[.int .i64 a0] rfl (by (try simp only [List.map_toArray, List.map_cons, List.map_nil]); first | done | rfl | (simp only [List.length_drop, List.length_take]; rfl)) ?_; (with_reducible refine (XK.calls a0 false _ A3.out).mono ?_); rintro e w' ⟨rfl, ⟨nd, rfl⟩⟩; refine ⟨_, rfl, ?_⟩) | ((with_reducible refine Xp (f := 107) rfl ?_); refine XL (some 10) rfl rfl Try.func107 (by kernel_rfl) rfl #[.int .i64 a1] rfl (by (try simp only [List.map_toArray, List.map_cons, List.map_nil]); first | done | rfl | (simp only [List.length_drop, List.length_take]; rfl)) ?_; (with_reducible refine (XK.calls a1 true _ A4.out).mono ?_); rintro e w' ⟨rfl, ⟨nd, rfl⟩⟩; refine ⟨_, rfl, ?_⟩))
   go_ret
   exact ⟨by first | rfl | (simp; done) | (simp [*]; done), by repeat (first | exact Xq.refl _ | apply Xq.step)⟩
  ·replace c7 := Bool.eq_false_iff.mpr c7
   subst c7
   have H1 : (if a0 < a1 then (some (-1)) else (if a0 > a1 then (some 1) else (some 0))) = some r := by rw [if_neg (show ¬ (false = true) by decide)] at H; exact H
   clear H
   have H := H1
   clear H1
   by_cases c8 : a0 < a1
   ·rw [if_pos c8] at H
    have c8b0 : decide (a0 < a1) = true := decide_eq_true c8
    clear c8
    obtain rfl := Option.some.inj H
    go_enter Try.func95, Try.ntmps95
    go_wp2_with (first | ((with_reducible refine Xp (f := 107) rfl ?_); refine XL (some 8) rfl rfl Try.func107 (by kernel_rfl) rfl #[.int .i64 a0] rfl (by (try simp only [List.map_toArray, List.map_cons, List.map_nil]); first | done | rfl | (simp only [List.length_drop, List.length_take]; rfl)) ?_; (with_reducible refine (XK.calls a0 false _ A3.out).mono ?_); rintro e w' ⟨rfl, ⟨nd, rfl⟩⟩; refine ⟨_, rfl, ?_⟩) | ((with_reducible refine Xp (f := 107) rfl ?_); refine XL (some 10) rfl rfl Try.func107 (by kernel_rfl) rfl #[.int .i64 a1] rfl (by (try simp only [List.map_toArray, List.map_cons, List.map_nil]); first | done | rfl | (simp only [List.length_drop, List.length_take]; rfl)) ?_; (with_reducible refine (XK.calls a1 false _ A4.out).mono ?_); rintro e w' ⟨rfl, ⟨nd, rfl⟩⟩; refine ⟨_, rfl, ?_⟩))
    go_ret
    exact ⟨by first | rfl | (simp; done) | (simp [*]; done), by repeat (first | exact Xq.refl _ | apply Xq.step)⟩
   ·rw [if_neg c8] at H
    have c8b0 : decide (a0 < a1) = false := decide_eq_false c8
    clear c8
    by_cases c9 : a0 > a1
    ·rw [if_pos c9] at H
     have c9b0 : decide (a1 < a0) = true := decide_eq_true c9
     clear c9
     obtain rfl := Option.some.inj H
     go_enter Try.func95, Try.ntmps95
     go_wp2_with (first | ((with_reducible refine Xp (f := 107) rfl ?_); refine XL (some 8) rfl rfl Try.func107 (by kernel_rfl) rfl #[.int .i64 a0] rfl (by (try simp only [List.map_toArray, List.map_cons, List.map_nil]); first | done | rfl | (simp only [List.length_drop, List.length_take]; rfl)) ?_; (with_reducible refine (XK.calls a0 false _ A3.out).mono ?_); rintro e w' ⟨rfl, ⟨nd, rfl⟩⟩; refine ⟨_, rfl, ?_⟩) | ((with_reducible refine Xp (f := 107) rfl ?_); refine XL (some 10) rfl rfl Try.func107 (by kernel_rfl) rfl #[.int .i64 a1] rfl (by (try simp only [List.map_toArray, List.map_cons, List.map_nil]); first | done | rfl | (simp only [List.length_drop, List.length_take]; rfl)) ?_; (with_reducible refine (XK.calls a1 false _ A4.out).mono ?_); rintro e w' ⟨rfl, ⟨nd, rfl⟩⟩; refine ⟨_, rfl, ?_⟩))
     go_ret
     exact ⟨by first | rfl | (simp; done) | (simp [*]; done), by repeat (first | exact Xq.refl _ | apply Xq.step)⟩
    ·rw [if_neg c9] at H
     have c9b0 : decide (a1 < a0) = false := decide_eq_false c9
     clear c9
     obtain rfl := Option.some.inj H
     go_enter Try.func95, Try.ntmps95
     go_wp2_with (first | ((with_reducible refine Xp (f := 107) rfl ?_); refine XL (some 8) rfl rfl Try.func107 (by kernel_rfl) rfl #[.int .i64 a0] rfl (by (try simp only [List.map_toArray, List.map_cons, List.map_nil]); first | done | rfl | (simp only [List.length_drop, List.length_take]; rfl)) ?_; (with_reducible refine (XK.calls a0 false _ A3.out).mono ?_); rintro e w' ⟨rfl, ⟨nd, rfl⟩⟩; refine ⟨_, rfl, ?_⟩) | ((with_reducible refine Xp (f := 107) rfl ?_); refine XL (some 10) rfl rfl Try.func107 (by kernel_rfl) rfl #[.int .i64 a1] rfl (by (try simp only [List.map_toArray, List.map_cons, List.map_nil]); first | done | rfl | (simp only [List.length_drop, List.length_take]; rfl)) ?_; (with_reducible refine (XK.calls a1 false _ A4.out).mono ?_); rintro e w' ⟨rfl, ⟨nd, rfl⟩⟩; refine ⟨_, rfl, ?_⟩))
     go_ret
     exact ⟨by first | rfl | (simp; done) | (simp [*]; done), by repeat (first | exact Xq.refl _ | apply Xq.step)⟩

end Go.Proofs.Ytiaiecfnpompcaa.T
namespace Go.Proofs.Ytiaiecfnpompcaa.T
open Go.RowKit Go.Proofs.YtiaiecfnpompcaaW.PrintWords Go.Proofs.YtiaiecfnpompcaaW.PrintLast Go.Proofs.YtiaiecfnpompcaaW.PrintMore
attribute [local go_sem] XX XW X6 X5 XQ XP X0 XZ
set_option linter.unusedVariables false
set_option linter.unusedSimpArgs false
attribute [local go_sem] XO

def XT.f (k : Nat) (a0_0 : Int) (a0_1 : Int) (a0_2 : Int) (a1_0 : Int) (a1_1 : Int) (a1_2 : Int) : Option (Int) := (YA.f a0_0 a1_0).bind fun t594 => ((Yf.f a0_1 a1_1).bind fun t595 => ((Yf.f a0_2 a1_2).bind fun t596 => ((Yl.f k (([t594, t595, t596] : List Int))).bind fun t600 => (some t600))))
def XT.T1 : Bool × List (List Nat × List Nat) := (true, [([], []), ([0], [0]), ([], []), ([2], [2]), ([1, 3], [1, 3]), ([], []), ([5], [5]), ([], []), ([7], [7]), ([6, 8, 4], [6, 8]), ([], []), ([10], [10]), ([], []), ([12], [12]), ([11, 13, 9], [11, 13]), ([4, 9, 14], [4, 9, 14]), ([15, 14], [15]), ([16, 16, 0, 1, 2, 3, 4, 5, 6, 7, 8, 9, 10, 11, 12, 13, 14, 15, 16], [16])])
def XT.B1 : List Nat := [0, 1, 0, 4, 15, 0, 32, 0, 128, 511, 0, 1024, 0, 4096, 16383, 32767, 65535, 131071]
theorem XT.tab1 : rtab .any (Xan Try.f93 1) = XT.T1 := by kernel_rfl
theorem XT.bits1 : YI XT.T1.2 XT.B1 = true := by kernel_rfl
end Go.Proofs.Ytiaiecfnpompcaa.T
