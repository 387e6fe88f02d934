-- cut down, squeezed and laid together by pack.py (a program of this repository) out of this seat's texts
import Derived.WalkKit
import Derived.Deep.LoopGhost
import Derived.Deep.QuietTactic
import Derived.BigQuiet
import Derived.BigRegion
import Derived.Shelf.SlSortCmp.InsertionK
import Derived.MapKept
import Derived.RangeFuncNested
import Derived.RangeFuncBound
import Derived.RangeFuncCalls
import Derived.RangeFuncLeaves
import Derived.Shelf.Abstract
import Derived.Shelf.RegionOpen
import Derived.OwnWalkIn
import Derived.TacticsInMore
import Derived.LoopNIn
import Derived.LoopIn
import Derived.ChangeKeysEq
import Derived.Shelf.SlSortCmp.NoneTotal
import Derived.Test.YtiaiecfnpompcaaZR2
import Derived.Test.YtiaiecfnpompcaaZR13
import Derived.Test.YtiaiecfnpompcaaZR14
import Derived.Test.YtiaiecfnpompcaaZR3
import Derived.Test.YtiaiecfnpompcaaZR9
import Derived.Test.YtiaiecfnpompcaaZR4
import Derived.Test.YtiaiecfnpompcaaZR12
import Derived.Test.YtiaiecfnpompcaaZR8
import Derived.Test.YtiaiecfnpompcaaZR6
import Derived.Test.YtiaiecfnpompcaaZR7
import Derived.Test.YtiaiecfnpompcaaZR11
import Derived.Test.YtiaiecfnpompcaaZR5
import Derived.Test.YtiaiecfnpompcaaZR10
import Derived.Test.YtiaiecfnpompcaaZR1
namespace Go.Proofs.Ytiaiecfnpompcaa.T
open Go.RowKit Go.Shelf Go.Proofs.YtiaiecfnpompcaaW.PrintWords Go.Proofs.YtiaiecfnpompcaaW.PrintLast Go.Proofs.YtiaiecfnpompcaaW.PrintMore
set_option linter.unusedVariables false
set_option linter.unusedSimpArgs false

theorem val_ {P : Program} {ops : Array Oper} {Q : Exit → Act → World → Prop} {oi : Oper} {N : Option Tmp} {a : Act} {w w1 : World} {v : Value} {K : Act → World → Prop} (hw : Region.wanted oi (yielded ops a.tmps) = true) (hN : oi.dst = N) (hrun : (execOp a.eval oi).run P w = .ok (.value v) w1)
  (h : K (a.put N v) w1) : if Region.wanted oi (yielded ops a.tmps) = true then Oper.wp P oi a w K Q else K (a.put N undef) w := by
 rw [if_pos hw]
 unfold Oper.wp
 rw [hrun]
 subst hN
 exact h
def Grows (w w' : World) : Prop := ∃ q os', w' = Sort.grow (w.drewN q) os'
theorem Grows.refl (w : World) : Grows w w := ⟨0, #[], by simp [World.drewN_zero]⟩
theorem Grows.alloc {w w' : World} (h : Grows w w') (o : Obj) : Grows w (w'.alloc o) := by
 obtain ⟨q, os, rfl⟩ := h
 exact ⟨q, os ++ #[o], by rw [Sort.alloc_eq_grow, Sort.grow_grow]⟩
theorem Grows.drewN {w w' : World} (h : Grows w w') (n : Nat) : Grows w (w'.drewN n) := by
 obtain ⟨q, os, rfl⟩ := h
 exact ⟨q + n, os, by rw [← World.drewN_drewN]; rfl⟩
theorem Xib {w : World} {b : Nat} {m n l : Int} {t : TypeId} (h : w.heap[b]? = some (.cells #[.int .i64 m, .int .i64 n, .int .i64 l] t (0, 0))) : Kd.C (Kd.int .i64) w (some ⟨b, 0, none⟩) 3 [m, n, l] := by
 refine Kd.C_of_reads (d := (0 : Int)) (h1 := fun _ => rfl) ⟨rfl, by omega, fun _ => ⟨_, rfl, fun j hj => ?_⟩⟩
 obtain rfl | rfl | rfl : j = 0 ∨ j = 1 ∨ j = 2 := by omega
 ·exact (Xe h 0).trans rfl
 ·exact (Xe h 1).trans rfl
 ·exact (Xe h 2).trans rfl
set_option maxRecDepth 100000 in
set_option maxHeartbeats 1000000 in
theorem sorted_1.grows (k : Nat) (a0_0 : Int) (a0_1 : Int) (a0_2 : Int) (a1_0 : Int) (a1_1 : Int) (a1_2 : Int) (r : Int) (w : World) (h : XT.f k a0_0 a0_1 a0_2 a1_0 a1_1 a1_2 = some r) :
  Calls Try.prog 93 #[.agg #[.int .i64 a0_0, .int .i64 a0_1, .int .i64 a0_2], .agg #[.int .i64 a1_0, .int .i64 a1_1, .int .i64 a1_2]] w fun e w' => e = .returned (.int .i64 r) ∧ ∃ q os', w' = Sort.grow (w.drewN q) os' := by
 have hu79 := Try.underlying79
 have H : ((YA.f a0_0 a1_0).bind fun t516 => ((Yf.f a0_1 a1_1).bind fun t517 => ((Yf.f a0_2 a1_2).bind fun t518 => ((Yl.f k (([t516, t517, t518] : List Int))).bind fun t522 => (some t522))))) = some r := h
 clear h
 replace H := Option.bind_eq_some_iff.mp H
 obtain ⟨t516, A30, H⟩ := H; (try dsimp only at H)
 have A3 := Xa.mk A30
 clear A30
 replace H := Option.bind_eq_some_iff.mp H
 obtain ⟨t517, A40, H⟩ := H; (try dsimp only at H)
 have A4 := Xa.mk A40
 clear A40
 replace H := Option.bind_eq_some_iff.mp H
 obtain ⟨t518, A50, H⟩ := H; (try dsimp only at H)
 have A5 := Xa.mk A50
 clear A50
 obtain ⟨y519, hy519⟩ : ∃ y_ : List Int, y_ = (([t516, t517, t518] : List Int)) := ⟨_, rfl⟩
 replace H : ((Yl.f k y519).bind fun t522 => (some t522)) = some r := by first | (rw [hy519]; with_reducible exact H) | (have H2_ := (Option.bind_some _ _).symm.trans H; rw [hy519]; with_reducible exact H2_) | (have H2_ := (Option.bind_some _ _).symm.trans H; with_reducible exact H2_) | with_reducible exact H | (rw [hy519]; exact H) | exact H
 have Ny519 := Xa.mk hy519
 clear hy519
 replace H := Option.bind_eq_some_iff.mp H
 obtain ⟨t522, A60, H⟩ := H; (try dsimp only at H)
 have A6 := Xa.mk A60
 clear A60
 obtain rfl := Option.some.inj H
 go_enter Try.func93, Try.ntmps93
 go_wp2
 have BK514 : Xa (((((w.alloc (.cells #[.int .i64 a0_0, .int .i64 a0_1, .int .i64 a0_2] 79)).alloc (.cells #[.int .i64 a1_0, .int .i64 a1_1, .int .i64 a1_2] 79)).drew).heap[w.heap.size]?) = some (.cells #[.int .i64 a0_0, .int .i64 a0_1, .int .i64 a0_2] 79 (0, 0))) := ⟨X3 (Yi (Xcw _ _) _)⟩
 have BK515 : Xa (((((w.alloc (.cells #[.int .i64 a0_0, .int .i64 a0_1, .int .i64 a0_2] 79)).alloc (.cells #[.int .i64 a1_0, .int .i64 a1_1, .int .i64 a1_2] 79)).drew).heap[w.heap.size + 1]?) = some (.cells #[.int .i64 a1_0, .int .i64 a1_1, .int .i64 a1_2] 79 (0, 0))) := ⟨X3 (by simpa using Xcw (w.alloc (.cells #[.int .i64 a0_0, .int .i64 a0_1, .int .i64 a0_2] 79)) (.cells #[.int .i64 a1_0, .int .i64 a1_1, .int .i64 a1_2] 79 (0, 0)))⟩
 refine Yy (n := 18) (S := fun w' => w'.cell? ⟨w.heap.size, 0, none⟩ = some (.int .i64 a0_0) ∧ w'.cell? ⟨w.heap.size, 1, none⟩ = some (.int .i64 a0_1) ∧ w'.cell? ⟨w.heap.size, 2, none⟩ = some (.int .i64 a0_2) ∧ w'.cell? ⟨w.heap.size + 1, 0, none⟩ = some (.int .i64 a1_0) ∧ w'.cell? ⟨w.heap.size + 1, 1, none⟩ = some (.int .i64 a1_1) ∧ w'.cell? ⟨w.heap.size + 1, 2, none⟩ = some (.int .i64 a1_2)) (ds := []) #[false, false, false, false, false, false, false, false, false, false, false, false, false, false, false, false, false, false] (by kernel_rfl) rfl rfl ⟨(Xe BK514.out 0).trans rfl, (Xe BK514.out 1).trans rfl, (Xe BK514.out 2).trans rfl, (Xe BK515.out 0).trans rfl, (Xe BK515.out 1).trans rfl, (Xe BK515.out 2).trans rfl⟩ (fun hHeld => ?_); refine X9 XT.tab1 XT.bits1 (fun HT_ HW_ => ?_)
 generalize hw9 : (((w.alloc (.cells #[.int .i64 a0_0, .int .i64 a0_1, .int .i64 a0_2] 79)).alloc (.cells #[.int .i64 a1_0, .int .i64 a1_1, .int .i64 a1_2] 79)).drew) = w9 at BK514 BK515 hHeld ⊢
 generalize w.heap.size = gb514 at BK514 BK515 hHeld ⊢
 generalize gb514 + 1 = gb515 at BK514 BK515 hHeld ⊢
 have HW9 := Xa.mk hw9
 clear hw9
 refine Xa0 (i := 0) (N := some 5) (v := ?_) (a' := ?_) #[true, false, false, false, false, false, false, false, false, false, false, false, false, false, false, false, false, false] rfl rfl (Xak HT_.out (by kernel_rfl)) (fun _ _ _ h => h) (Or.inl ⟨by rfl, ?_⟩) ?_ ?_
 rotate_left
 ·intro w'
  go_simp
  with_reducible rfl
 rotate_left
 ·simp only [Act.put, sa_, s0_, s1_, XR, XS]
  rfl
 refine Xa0 (i := 2) (N := some 7) (v := ?_) (a' := ?_) #[true, false, true, false, false, false, false, false, false, false, false, false, false, false, false, false, false, false] rfl rfl (Xak HT_.out (by kernel_rfl)) (fun _ _ _ h => h) (Or.inl ⟨by rfl, ?_⟩) ?_ ?_
 rotate_left
 ·intro w'
  go_simp
  with_reducible rfl
 rotate_left
 ·simp only [Act.put, sa_, s0_, s1_, XR, XS]
  rfl
 refine Xa0 (i := 5) (N := some 10) (v := ?_) (a' := ?_) #[true, false, true, false, false, true, false, false, false, false, false, false, false, false, false, false, false, false] rfl rfl (Xak HT_.out (by kernel_rfl)) (fun _ _ _ h => h) (Or.inl ⟨by rfl, ?_⟩) ?_ ?_
 rotate_left
 ·intro w'
  go_simp
  with_reducible rfl
 rotate_left
 ·simp only [Act.put, sa_, s0_, s1_, XR, XS]
  rfl
 refine Xa0 (i := 7) (N := some 12) (v := ?_) (a' := ?_) #[true, false, true, false, false, true, false, true, false, false, false, false, false, false, false, false, false, false] rfl rfl (Xak HT_.out (by kernel_rfl)) (fun _ _ _ h => h) (Or.inl ⟨by rfl, ?_⟩) ?_ ?_
 rotate_left
 ·intro w'
  go_simp
  with_reducible rfl
 rotate_left
 ·simp only [Act.put, sa_, s0_, s1_, XR, XS]
  rfl
 refine Xa0 (i := 10) (N := some 15) (v := ?_) (a' := ?_) #[true, false, true, false, false, true, false, true, false, false, true, false, false, false, false, false, false, false] rfl rfl (Xak HT_.out (by kernel_rfl)) (fun _ _ _ h => h) (Or.inl ⟨by rfl, ?_⟩) ?_ ?_
 rotate_left
 ·intro w'
  go_simp
  with_reducible rfl
 rotate_left
 ·simp only [Act.put, sa_, s0_, s1_, XR, XS]
  rfl
 refine Xa0 (i := 12) (N := some 17) (v := ?_) (a' := ?_) #[true, false, true, false, false, true, false, true, false, false, true, false, true, false, false, false, false, false] rfl rfl (Xak HT_.out (by kernel_rfl)) (fun _ _ _ h => h) (Or.inl ⟨by rfl, ?_⟩) ?_ ?_
 rotate_left
 ·intro w'
  go_simp
  with_reducible rfl
 rotate_left
 ·simp only [Act.put, sa_, s0_, s1_, XR, XS]
  rfl
 refine Xcd (i := 1) (N := some 6) (v := ?_) (a' := ?_) #[true, true, true, false, false, true, false, true, false, false, true, false, true, false, false, false, false, false] rfl rfl (JF HT_.out HW_.out (by kernel_rfl)) (fun _ _ _ h => h) (Or.inl ⟨by rfl, ?_⟩) hHeld ?_ ?_
 rotate_left
 ·rintro w' ⟨s0, s1, s2, s3, s4, s5⟩
  go_simp
  with_reducible rfl
 rotate_left
 ·simp only [Act.put, sa_, s0_, s1_, XR, XS]
  rfl
 refine Xcd (i := 3) (N := some 8) (v := ?_) (a' := ?_) #[true, true, true, true, false, true, false, true, false, false, true, false, true, false, false, false, false, false] rfl rfl (JF HT_.out HW_.out (by kernel_rfl)) (fun _ _ _ h => h) (Or.inl ⟨by rfl, ?_⟩) hHeld ?_ ?_
 rotate_left
 ·rintro w' ⟨s0, s1, s2, s3, s4, s5⟩
  go_simp
  with_reducible rfl
 rotate_left
 ·simp only [Act.put, sa_, s0_, s1_, XR, XS]
  rfl
 refine Xcd (i := 6) (N := some 11) (v := ?_) (a' := ?_) #[true, true, true, true, false, true, true, true, false, false, true, false, true, false, false, false, false, false] rfl rfl (JF HT_.out HW_.out (by kernel_rfl)) (fun _ _ _ h => h) (Or.inl ⟨by rfl, ?_⟩) hHeld ?_ ?_
 rotate_left
 ·rintro w' ⟨s0, s1, s2, s3, s4, s5⟩
  go_simp
  with_reducible rfl
 rotate_left
 ·simp only [Act.put, sa_, s0_, s1_, XR, XS]
  rfl
 refine Xcd (i := 8) (N := some 13) (v := ?_) (a' := ?_) #[true, true, true, true, false, true, true, true, true, false, true, false, true, false, false, false, false, false] rfl rfl (JF HT_.out HW_.out (by kernel_rfl)) (fun _ _ _ h => h) (Or.inl ⟨by rfl, ?_⟩) hHeld ?_ ?_
 rotate_left
 ·rintro w' ⟨s0, s1, s2, s3, s4, s5⟩
  go_simp
  with_reducible rfl
 rotate_left
 ·simp only [Act.put, sa_, s0_, s1_, XR, XS]
  rfl
 refine Xcd (i := 11) (N := some 16) (v := ?_) (a' := ?_) #[true, true, true, true, false, true, true, true, true, false, true, true, true, false, false, false, false, false] rfl rfl (JF HT_.out HW_.out (by kernel_rfl)) (fun _ _ _ h => h) (Or.inl ⟨by rfl, ?_⟩) hHeld ?_ ?_
 rotate_left
 ·rintro w' ⟨s0, s1, s2, s3, s4, s5⟩
  go_simp
  with_reducible rfl
 rotate_left
 ·simp only [Act.put, sa_, s0_, s1_, XR, XS]
  rfl
 refine Xcd (i := 13) (N := some 18) (v := ?_) (a' := ?_) #[true, true, true, true, false, true, true, true, true, false, true, true, true, true, false, false, false, false] rfl rfl (JF HT_.out HW_.out (by kernel_rfl)) (fun _ _ _ h => h) (Or.inl ⟨by rfl, ?_⟩) hHeld ?_ ?_
 rotate_left
 ·rintro w' ⟨s0, s1, s2, s3, s4, s5⟩
  go_simp
  with_reducible rfl
 rotate_left
 ·simp only [Act.put, sa_, s0_, s1_, XR, XS]
  rfl
 refine one_ (i := 4) (N := some 9) #[true, true, true, true, true, true, true, true, true, false, true, true, true, true, false, false, false, false] rfl rfl (Ys HT_.out (by kernel_rfl)) (by decide) (fun K hK => ?_)
 refine Y8 Try.func95 (by kernel_rfl) rfl #[.int .i64 a0_0, .int .i64 a1_0] (by rfl) rfl rfl (by (try simp only [List.map_toArray, List.map_cons, List.map_nil]); first | done | rfl | (simp only [List.length_drop, List.length_take]; rfl)) ?_
 with_reducible refine (YA.calls a0_0 a1_0 t516 _ A3.out).mono ?_
 rintro e w' ⟨rfl, ⟨nd, rfl⟩⟩
 refine ⟨_, rfl, ?_⟩
 refine hK.out _ _ ⟨(Xe BK514.out 0).trans rfl, (Xe BK514.out 1).trans rfl, (Xe BK514.out 2).trans rfl, (Xe BK515.out 0).trans rfl, (Xe BK515.out 1).trans rfl, (Xe BK515.out 2).trans rfl⟩ (fun hHeld => ?_)
 clear hK K
 refine Yr (a' := ?_) ?_ ?_
 rotate_left
 ·show Act.put _ (some 9) _ = _
  simp only [Act.put, sa_, s0_, s1_, XR, XS]
  rfl
 refine one_ (i := 9) (N := some 14) #[true, true, true, true, true, true, true, true, true, true, true, true, true, true, false, false, false, false] rfl rfl (Ys HT_.out (by kernel_rfl)) (by decide) (fun K hK => ?_)
 refine Y8 Try.func78 (by kernel_rfl) rfl #[.int .i64 a0_1, .int .i64 a1_1] (by rfl) rfl rfl (by (try simp only [List.map_toArray, List.map_cons, List.map_nil]); first | done | rfl | (simp only [List.length_drop, List.length_take]; rfl)) ?_
 with_reducible refine (Yf.calls a0_1 a1_1 t517 _ A4.out).mono ?_
 rintro e w' ⟨rfl, ⟨nd, rfl⟩⟩
 refine ⟨_, rfl, ?_⟩
 refine hK.out _ _ ⟨(Xe BK514.out 0).trans rfl, (Xe BK514.out 1).trans rfl, (Xe BK514.out 2).trans rfl, (Xe BK515.out 0).trans rfl, (Xe BK515.out 1).trans rfl, (Xe BK515.out 2).trans rfl⟩ (fun hHeld => ?_)
 clear hK K
 refine Yr (a' := ?_) ?_ ?_
 rotate_left
 ·show Act.put _ (some 14) _ = _
  simp only [Act.put, sa_, s0_, s1_, XR, XS]
  rfl
 refine one_ (i := 14) (N := some 19) #[true, true, true, true, true, true, true, true, true, true, true, true, true, true, true, false, false, false] rfl rfl (Ys HT_.out (by kernel_rfl)) (by decide) (fun K hK => ?_)
 refine Y8 Try.func78 (by kernel_rfl) rfl #[.int .i64 a0_2, .int .i64 a1_2] (by rfl) rfl rfl (by (try simp only [List.map_toArray, List.map_cons, List.map_nil]); first | done | rfl | (simp only [List.length_drop, List.length_take]; rfl)) ?_
 with_reducible refine (Yf.calls a0_2 a1_2 t518 _ A5.out).mono ?_
 rintro e w' ⟨rfl, ⟨nd, rfl⟩⟩
 refine ⟨_, rfl, ?_⟩
 refine hK.out _ _ ⟨(Xe BK514.out 0).trans rfl, (Xe BK514.out 1).trans rfl, (Xe BK514.out 2).trans rfl, (Xe BK515.out 0).trans rfl, (Xe BK515.out 1).trans rfl, (Xe BK515.out 2).trans rfl⟩ (fun hHeld => ?_)
 clear hK K
 refine Yr (a' := ?_) ?_ ?_
 rotate_left
 ·show Act.put _ (some 19) _ = _
  simp only [Act.put, sa_, s0_, s1_, XR, XS]
  rfl
 refine one_ (i := 15) (N := some 20) #[true, true, true, true, true, true, true, true, true, true, true, true, true, true, true, true, false, false] rfl rfl (Ys HT_.out (by kernel_rfl)) (by decide) (fun K hK => ?_)
 refine val_ (v := ?_) (w1 := ?_) (by rfl) rfl ?_ ?_
 rotate_left 2
 ·go_simp
  constructor <;> rfl
 rotate_left
 refine hK.out _ _ ⟨(Xe (Yi (w := w9.drewN _) BK514.out _) 0).trans rfl, (Xe (Yi (w := w9.drewN _) BK514.out _) 1).trans rfl, (Xe (Yi (w := w9.drewN _) BK514.out _) 2).trans rfl, (Xe (Yi (w := w9.drewN _) BK515.out _) 0).trans rfl, (Xe (Yi (w := w9.drewN _) BK515.out _) 1).trans rfl, (Xe (Yi (w := w9.drewN _) BK515.out _) 2).trans rfl⟩ (fun hHeld => ?_)
 clear hK K
 refine Yr (a' := ?_) ?_ ?_
 rotate_left
 ·show Act.put _ (some 20) _ = _
  simp only [Act.put, sa_, s0_, s1_, XR, XS]
  rfl
 refine one_ (i := 16) (N := some 21) #[true, true, true, true, true, true, true, true, true, true, true, true, true, true, true, true, true, false] rfl rfl (Ys HT_.out (by kernel_rfl)) (by decide) (fun K hK => ?_)
 refine Y8 Try.func94 (by kernel_rfl) rfl #[.slice (some ⟨w9.heap.size, 0, none⟩) 3 3] (by rfl) rfl rfl (by (try simp only [List.map_toArray, List.map_cons, List.map_nil]); first | done | rfl | (simp only [List.length_drop, List.length_take]; rfl)) ?_
 refine (Yl.calls k (some ⟨w9.heap.size, 0, none⟩) 3 [t516, t517, t518] t522 _ ?side1 ?side2 ?side3).mono ?_
 (case side1 => exact Xib (t := 3) (Xcw (w9.drewN _) _))
 (case side2 => simp)
 (case side3 => rw [← Ny519.out]; exact A6.out)
 rintro e w' ⟨rfl, ⟨nd, rfl⟩⟩
 refine ⟨_, rfl, ?_⟩
 refine hK.out _ _ ⟨(Xe (Yi (w := w9.drewN _) BK514.out _) 0).trans rfl, (Xe (Yi (w := w9.drewN _) BK514.out _) 1).trans rfl, (Xe (Yi (w := w9.drewN _) BK514.out _) 2).trans rfl, (Xe (Yi (w := w9.drewN _) BK515.out _) 0).trans rfl, (Xe (Yi (w := w9.drewN _) BK515.out _) 1).trans rfl, (Xe (Yi (w := w9.drewN _) BK515.out _) 2).trans rfl⟩ (fun hHeld => ?_)
 clear hK K
 refine Yr (a' := ?_) ?_ ?_
 rotate_left
 ·show Act.put _ (some 21) _ = _
  simp only [Act.put, sa_, s0_, s1_, XR, XS]
  rfl
 refine Xa0 (i := 17) (N := some 4) (v := ?_) (a' := ?_) #[true, true, true, true, true, true, true, true, true, true, true, true, true, true, true, true, true, true] rfl rfl (Xak HT_.out (by kernel_rfl)) (fun _ _ _ h => h) (Or.inl ⟨by rfl, ?_⟩) ?_ ?_
 rotate_left
 ·intro w'
  go_simp
  with_reducible rfl
 rotate_left
 ·simp only [Act.put, sa_, s0_, s1_, XR, XS]
  rfl
 refine YS (Yo HT_.out (by kernel_rfl)) ?_
 try go_wp2
 go_ret
 refine ⟨rfl, ?_⟩
 rw [← HW9.out]
 exact (((((Grows.refl w).alloc _).alloc _).drewN 1 |>.drewN _).alloc _).drewN _
end Go.Proofs.Ytiaiecfnpompcaa.T
namespace Go.Proofs.Ytiaiecfnpompcaa.T
open Go.RowKit Go.Shelf Go.Sort Go.Proofs.YtiaiecfnpompcaaW.PrintWords
set_option linter.unusedVariables false

def Xe7 : Go.Shelf.Ren := ⟨fun | 6 => 92 | 15 => 106 | 14 => 105 | 28 => 119 | 29 => 120 | 20 => 111 | 21 => 112 | 22 => 113 | 23 => 114 | 24 => 115 | 25 => 116 | 26 => 117 | 27 => 118 | 46 => 121 | 47 => 122 | 48 => 123 | 49 => 124 | 50 => 125 | 57 => 126 | n => n, fun | 22 => 62 | 24 => 79 | 25 => 176 | 3 => 3 | 39 => 119 | 0 => 0 | 53 => 201 | 55 => 203 | 4 => 4 | 46 => 195 | 45 => 194 | 50 => 97 | 5 => 5 | 9 => 9 | 66 => 204 | 70 => 208 | 76 => 210 | 77 => 147 | n => n, fun | n => n⟩
theorem Xce : Go.Proofs.SlLaysF0.n6 Try.prog Xe7 := {
 mixed := by kernel_rfl,
 f6 := ⟨Try.f92.name, by decide, Try.func92.trans (congrArg some (by kernel_rfl))⟩,
 f14 := ⟨Try.f105.name, by decide, Try.func105.trans (congrArg some (by kernel_rfl))⟩,
 f15 := Try.func106.trans (congrArg some (by kernel_rfl)),
 f20 := ⟨Try.f111.name, by decide, Try.func111.trans (congrArg some (by kernel_rfl))⟩,
 f21 := ⟨Try.f112.name, by decide, Try.func112.trans (congrArg some (by kernel_rfl))⟩,
 f22 := ⟨Try.f113.name, by decide, Try.func113.trans (congrArg some (by kernel_rfl))⟩,
 f23 := ⟨Try.f114.name, by decide, Try.func114.trans (congrArg some (by kernel_rfl))⟩,
 f24 := ⟨Try.f115.name, by decide, Try.func115.trans (congrArg some (by kernel_rfl))⟩,
 f25 := ⟨Try.f116.name, by decide, Try.func116.trans (congrArg some (by kernel_rfl))⟩,
 f26 := ⟨Try.f117.name, by decide, Try.func117.trans (congrArg some (by kernel_rfl))⟩,
 f27 := ⟨Try.f118.name, by decide, Try.func118.trans (congrArg some (by kernel_rfl))⟩,
 f28 := Try.func119.trans (congrArg some (by kernel_rfl)),
 f29 := Try.func120.trans (congrArg some (by kernel_rfl)),
 f46 := ⟨Try.f121.name, by decide, Try.func121.trans (congrArg some (by kernel_rfl))⟩,
 f47 := Try.func122.trans (congrArg some (by kernel_rfl)),
 f48 := Try.func123.trans (congrArg some (by kernel_rfl)),
 f49 := ⟨Try.f124.name, by decide, Try.func124.trans (congrArg some (by kernel_rfl))⟩,
 f50 := ⟨Try.f125.name, by decide, Try.func125.trans (congrArg some (by kernel_rfl))⟩,
 f57 := ⟨Try.f126.name, by decide, Try.func126.trans (congrArg some (by kernel_rfl))⟩,
 t0 := Try.underlying0,
 a0 := Try.isAgg0,
 z0 := Try.sizeOf0,
 v0 := Try.zeroValue0,
 t3 := Try.underlying3,
 a3 := Try.isAgg3,
 z3 := Try.sizeOf3,
 v3 := Try.zeroValue3,
 t4 := Try.underlying4,
 a4 := Try.isAgg4,
 z4 := Try.sizeOf4,
 v4 := Try.zeroValue4,
 t5 := Try.underlying5,
 a5 := Try.isAgg5,
 z5 := Try.sizeOf5,
 v5 := Try.zeroValue5,
 t9 := Try.underlying9,
 a9 := Try.isAgg9,
 z9 := Try.sizeOf9,
 v9 := Try.zeroValue9,
 t22 := Try.underlying62,
 a22 := Try.isAgg62,
 z22 := Try.sizeOf62,
 v22 := Try.zeroValue62,
 t25 := Try.underlying176,
 a25 := Try.isAgg176,
 z25 := Try.sizeOf176,
 v25 := Try.zeroValue176,
 t39 := Try.underlying119,
 a39 := Try.isAgg119,
 z39 := Try.sizeOf119,
 v39 := Try.zeroValue119,
 t45 := Try.underlying194,
 a45 := Try.isAgg194,
 z45 := Try.sizeOf194,
 v45 := Try.zeroValue194,
 t46 := Try.underlying195,
 a46 := Try.isAgg195,
 z46 := Try.sizeOf195,
 v46 := Try.zeroValue195,
 t50 := Try.underlying97,
 a50 := Try.isAgg97,
 z50 := Try.sizeOf97,
 v50 := Try.zeroValue97,
 t53 := Try.underlying201,
 a53 := Try.isAgg201,
 z53 := Try.sizeOf201,
 v53 := Try.zeroValue201,
 t55 := Try.underlying203,
 a55 := Try.isAgg203,
 z55 := Try.sizeOf203,
 v55 := Try.zeroValue203,
 t66 := Try.underlying204,
 a66 := Try.isAgg204,
 z66 := Try.sizeOf204,
 v66 := Try.zeroValue204,
 t70 := Try.underlying208,
 a70 := Try.isAgg208,
 z70 := Try.sizeOf208,
 v70 := Try.zeroValue208,
 t76 := Try.underlying210,
 a76 := Try.isAgg210,
 z76 := Try.sizeOf210,
 v76 := Try.zeroValue210,
 t77 := Try.underlying147,
 a77 := Try.isAgg147,
 z77 := Try.sizeOf147,
 v77 := Try.zeroValue147 }

instance : Inhabited S79 := ⟨⟨0, 0, 0⟩⟩
def cmpI (a b : Int) : Int := if a < b then -1 else if a > b then 1 else 0
theorem Xc1 (a b : Int) : cmpI a b < 0 ↔ a < b := by unfold cmpI; split <;> (try split) <;> omega
theorem XaU (a b : Int) : cmpI a b = 0 ↔ a = b := by unfold cmpI; split <;> (try split) <;> omega
def XbN (x y : S79) : Int := if cmpI x.f0 y.f0 = 0 then if cmpI x.f1 y.f1 = 0 then cmpI x.f2 y.f2 else cmpI x.f1 y.f1 else cmpI x.f0 y.f0
def Yt (x : S79) : List Value := [.int .i64 x.f0, .int .i64 x.f1, .int .i64 x.f2]
theorem Xbk (a b : Int) : Yf.f a b = some (cmpI a b) := by
 simp [Yf.f, XY.f, cmpI]
 split <;> (try split) <;> simp_all
theorem Xbo (a b : Int) : YA.f a b = some (cmpI a b) := by
 simp [YA.f, XK.f, cmpI]
 split <;> (try split) <;> simp_all
theorem Xht (x y : S79) : XT.f 4 x.f0 x.f1 x.f2 y.f0 y.f1 y.f2 = some (XbN x y) := by
 simp [XT.f, Yl.f, Yl.l0, Xbk, Xbo, Go.Proofs.YtiaiecfnpompcaaW.PrintWords.rd, XbN, wrap64]
 by_cases h : cmpI x.f0 y.f0 = 0
 ·simp [h]
  by_cases h2 : cmpI x.f1 y.f1 = 0
  ·simp [h2]
   by_cases h3 : cmpI x.f2 y.f2 = 0 <;> simp [h3]
  ·simp [h2]
 ·simp [h]
def lt79 (x y : S79) : Bool := decide (x.f0 < y.f0 ∨ x.f0 = y.f0 ∧ (x.f1 < y.f1 ∨ x.f1 = y.f1 ∧ x.f2 < y.f2))
theorem Xbf (x y : S79) : ltOf XbN x y = lt79 x y := by
 unfold ltOf lt79 XbN
 by_cases h : x.f0 = y.f0
 ·rw [if_pos ((XaU _ _).2 h)]
  by_cases h1 : x.f1 = y.f1
  ·rw [if_pos ((XaU _ _).2 h1)]; simp [Xc1, h, h1]
  ·rw [if_neg (fun e => h1 ((XaU _ _).1 e))]; simp [Xc1, h, h1]
 ·rw [if_neg (fun e => h ((XaU _ _).1 e))]; simp [Xc1, h]
theorem swo79 : SWO (ltOf XbN) where
 irrefl x := by rw [Xbf]; simp [lt79]
 trans x y z h1 h2 := by rw [Xbf] at *; simp only [lt79, decide_eq_true_eq] at *; omega
 ntrans x y z h1 h2 := by rw [Xbf] at *; simp only [lt79, decide_eq_false_iff_not] at *; omega
theorem XfF (x y : S79) (hx : ltOf XbN x y = false) (hy : ltOf XbN y x = false) : x = y := by
 rw [Xbf] at hx hy; simp only [lt79, decide_eq_false_iff_not] at hx hy
 cases x; cases y; simp only [S79.mk.injEq] at *; omega
theorem sorted_1.cmp (x y : S79) (w : World) : Calls Try.prog 93 #[.agg (Yt x).toArray, .agg (Yt y).toArray] w fun e w' => e = .returned (.int .i64 (XbN x y)) ∧ ∃ q os', w' = Sort.grow (w.drewN q) os' :=
 sorted_1.grows 4 x.f0 x.f1 x.f2 y.f0 y.f1 y.f2 _ w (Xht x y)
theorem sort92.row (g off cap : Nat) (xs : List S79) (w : World) (hH : HoldsK Yt 3 w g off xs.toArray) (hg : g < w.heap.size) (hl : xs.length < 4611686018427387904) :
  Calls Try.prog 92 #[.slice (some ⟨g, off, none⟩) xs.length cap, .func (.func 93) #[] #[]] w fun e w' => e = .returned (.tuple #[]) ∧ ∃ n os, w' = sortWorldK Yt 3 w g off n (xs.mergeSort fun x y => !lt79 y x).toArray os := by
 refine (AnyQ.slices_SortFunc_total Xce 3 Try.isAgg79 Try.sizeOf79 Yt (fun _ => rfl) (fun x v hv => by simp [Yt] at hv; rcases hv with rfl | rfl | rfl <;> rfl) XbN swo79 93 #[] g off cap xs.toArray w (enters_of Try.func93 (by kernel_rfl) rfl)
   (fun m os dk hs x y => sorted_1.cmp x y _) hH hg hl XfF).mono ?_
 rintro e w' ⟨rfl, n, os, rfl⟩
 simp only [Xbf]
 exact ⟨trivial, n, os, rfl⟩
end Go.Proofs.Ytiaiecfnpompcaa.T
