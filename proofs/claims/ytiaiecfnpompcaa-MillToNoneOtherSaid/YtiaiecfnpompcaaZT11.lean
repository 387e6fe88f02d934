-- cut down, squeezed and laid together by pack.py (a program of this repository) out of this seat's texts
import Derived.WalkKit
import Derived.Deep.LoopGhost
import Derived.Deep.QuietTactic
import Derived.BigQuiet
import Derived.BigRegion
import Derived.Shelf.SlSortCmp.InsertionK
import Derived.MapKept
import Derived.RangeFuncNested
import Derived.RangeFuncBound
import Derived.RangeFuncCalls
import Derived.RangeFuncLeaves
import Derived.Shelf.Abstract
import Derived.Shelf.RegionOpen
import Derived.OwnWalkIn
import Derived.TacticsInMore
import Derived.LoopNIn
import Derived.LoopIn
import Derived.ChangeKeysEq
import Derived.Shelf.SlSortCmp.NoneTotal
import Derived.Maps.OwnSet
import Derived.Maps.RangeWalk
import Derived.DeepKeys4
import Derived.Deep.Draws
import Derived.Test.YtiaiecfnpompcaaProg
import Derived.Test.YtiaiecfnpompcaaZT2
import Derived.Test.YtiaiecfnpompcaaZT8
import Derived.Test.YtiaiecfnpompcaaZT10
import Derived.Test.YtiaiecfnpompcaaZT4
import Derived.Test.YtiaiecfnpompcaaZT7
import Derived.Test.YtiaiecfnpompcaaZT3
import Derived.Test.YtiaiecfnpompcaaZT6
import Derived.Test.YtiaiecfnpompcaaZT5
import Derived.Test.YtiaiecfnpompcaaZT1
import Derived.Test.YtiaiecfnpompcaaZT9
namespace Go.Proofs.Ytiaiecfnpompcaa.T
open Go.RowKit Go.Shelf Go.Proofs.YtiaiecfnpompcaaW.PrintWords Go.Proofs.YtiaiecfnpompcaaW.PrintLast Go.Proofs.YtiaiecfnpompcaaW.PrintMore
set_option linter.unusedVariables false
set_option linter.unusedSimpArgs false

theorem val_ {P : Program} {ops : Array Oper} {Q : Exit → Act → World → Prop} {oi : Oper} {N : Option Tmp} {a : Act} {w w1 : World} {v : Value} {K : Act → World → Prop} (hw : Region.wanted oi (yielded ops a.tmps) = true) (hN : oi.dst = N) (hrun : (execOp a.eval oi).run P w = .ok (.value v) w1)
  (h : K (a.put N v) w1) : if Region.wanted oi (yielded ops a.tmps) = true then Oper.wp P oi a w K Q else K (a.put N undef) w := by
 rw [if_pos hw]
 unfold Oper.wp
 rw [hrun]
 subst hN
 exact h
def Grows (w w' : World) : Prop := ∃ q os', w' = Sort.grow (w.drewN q) os'
theorem Grows.refl (w : World) : Grows w w := ⟨0, #[], by simp [World.drewN_zero]⟩
theorem Grows.alloc {w w' : World} (h : Grows w w') (o : Obj) : Grows w (w'.alloc o) := by
 obtain ⟨q, os, rfl⟩ := h
 exact ⟨q, os ++ #[o], by rw [Sort.alloc_eq_grow, Sort.grow_grow]⟩
theorem Grows.drewN {w w' : World} (h : Grows w w') (n : Nat) : Grows w (w'.drewN n) := by
 obtain ⟨q, os, rfl⟩ := h
 exact ⟨q + n, os, by rw [← World.drewN_drewN]; rfl⟩
theorem C_three {w : World} {b : Nat} {m n l : Int} {t : TypeId} (h : w.heap[b]? = some (.cells #[.int .i64 m, .int .i64 n, .int .i64 l] t (0, 0))) : Kd.C (Kd.int .i64) w (some ⟨b, 0, none⟩) 3 [m, n, l] := by
 refine Kd.C_of_reads (d := (0 : Int)) (h1 := fun _ => rfl) ⟨rfl, by omega, fun _ => ⟨_, rfl, fun j hj => ?_⟩⟩
 obtain rfl | rfl | rfl : j = 0 ∨ j = 1 ∨ j = 2 := by omega
 ·exact (blk_cell h 0).trans rfl
 ·exact (blk_cell h 1).trans rfl
 ·exact (blk_cell h 2).trans rfl
set_option maxRecDepth 100000 in
set_option maxHeartbeats 1000000 in
theorem sorted_1.grows (k : Nat) (a0_0 : Int) (a0_1 : Int) (a0_2 : Int) (a1_0 : Int) (a1_1 : Int) (a1_2 : Int) (r : Int) (w : World) (h : mill_causes_sorted_1.f k a0_0 a0_1 a0_2 a1_0 a1_1 a1_2 = some r) :
  Calls Try.prog 93 #[.agg #[.int .i64 a0_0, .int .i64 a0_1, .int .i64 a0_2], .agg #[.int .i64 a1_0, .int .i64 a1_1, .int .i64 a1_2]] w fun e w' => e = .returned (.int .i64 r) ∧ ∃ q os', w' = Sort.grow (w.drewN q) os' := by
 have hu79 := Try.underlying79
 have H : ((api_MillKind_95.f a0_0 a1_0).bind fun t516 => ((cmp_Compare_int.f a0_1 a1_1).bind fun t517 => ((cmp_Compare_int.f a0_2 a1_2).bind fun t518 => ((cmp_Or_int.f k (([t516, t517, t518] : List Int))).bind fun t522 => (some t522))))) = some r := h
 clear h
 replace H := Option.bind_eq_some_iff.mp H
 obtain ⟨t516, A30, H⟩ := H; (try dsimp only at H)
 have A3 := Aside0.mk A30
 clear A30
 replace H := Option.bind_eq_some_iff.mp H
 obtain ⟨t517, A40, H⟩ := H; (try dsimp only at H)
 have A4 := Aside0.mk A40
 clear A40
 replace H := Option.bind_eq_some_iff.mp H
 obtain ⟨t518, A50, H⟩ := H; (try dsimp only at H)
 have A5 := Aside0.mk A50
 clear A50
 obtain ⟨y519, hy519⟩ : ∃ y_ : List Int, y_ = (([t516, t517, t518] : List Int)) := ⟨_, rfl⟩
 replace H : ((cmp_Or_int.f k y519).bind fun t522 => (some t522)) = some r := by first | (rw [hy519]; with_reducible exact H) | (have H2_ := (Option.bind_some _ _).symm.trans H; rw [hy519]; with_reducible exact H2_) | (have H2_ := (Option.bind_some _ _).symm.trans H; with_reducible exact H2_) | with_reducible exact H | (rw [hy519]; exact H) | exact H
 have Ny519 := Aside0.mk hy519
 clear hy519
 replace H := Option.bind_eq_some_iff.mp H
 obtain ⟨t522, A60, H⟩ := H; (try dsimp only at H)
 have A6 := Aside0.mk A60
 clear A60
 obtain rfl := Option.some.inj H
 go_enter Try.func93, Try.ntmps93
 go_wp2
 have BK514 : Aside0 (((((w.alloc (.cells #[.int .i64 a0_0, .int .i64 a0_1, .int .i64 a0_2] 79)).alloc (.cells #[.int .i64 a1_0, .int .i64 a1_1, .int .i64 a1_2] 79)).drew).heap[w.heap.size]?) = some (.cells #[.int .i64 a0_0, .int .i64 a0_1, .int .i64 a0_2] 79 (0, 0))) := ⟨blk_drew (blk_alloc (blk_new _ _) _)⟩
 have BK515 : Aside0 (((((w.alloc (.cells #[.int .i64 a0_0, .int .i64 a0_1, .int .i64 a0_2] 79)).alloc (.cells #[.int .i64 a1_0, .int .i64 a1_1, .int .i64 a1_2] 79)).drew).heap[w.heap.size + 1]?) = some (.cells #[.int .i64 a1_0, .int .i64 a1_1, .int .i64 a1_2] 79 (0, 0))) := ⟨blk_drew (by simpa using blk_new (w.alloc (.cells #[.int .i64 a0_0, .int .i64 a0_1, .int .i64 a0_2] 79)) (.cells #[.int .i64 a1_0, .int .i64 a1_1, .int .i64 a1_2] 79 (0, 0)))⟩
 refine start_ (n := 18) (S := fun w' => w'.cell? ⟨w.heap.size, 0, none⟩ = some (.int .i64 a0_0) ∧ w'.cell? ⟨w.heap.size, 1, none⟩ = some (.int .i64 a0_1) ∧ w'.cell? ⟨w.heap.size, 2, none⟩ = some (.int .i64 a0_2) ∧ w'.cell? ⟨w.heap.size + 1, 0, none⟩ = some (.int .i64 a1_0) ∧ w'.cell? ⟨w.heap.size + 1, 1, none⟩ = some (.int .i64 a1_1) ∧ w'.cell? ⟨w.heap.size + 1, 2, none⟩ = some (.int .i64 a1_2)) (ds := []) #[false, false, false, false, false, false, false, false, false, false, false, false, false, false, false, false, false, false] (by kernel_rfl) rfl rfl ⟨(blk_cell BK514.out 0).trans rfl, (blk_cell BK514.out 1).trans rfl, (blk_cell BK514.out 2).trans rfl, (blk_cell BK515.out 0).trans rfl, (blk_cell BK515.out 1).trans rfl, (blk_cell BK515.out 2).trans rfl⟩ (fun hHeld => ?_); refine with_tabW mill_causes_sorted_1.tab1 mill_causes_sorted_1.bits1 (fun HT_ HW_ => ?_)
 generalize hw9 : (((w.alloc (.cells #[.int .i64 a0_0, .int .i64 a0_1, .int .i64 a0_2] 79)).alloc (.cells #[.int .i64 a1_0, .int .i64 a1_1, .int .i64 a1_2] 79)).drew) = w9 at BK514 BK515 hHeld ⊢
 generalize w.heap.size = gb514 at BK514 BK515 hHeld ⊢
 generalize gb514 + 1 = gb515 at BK514 BK515 hHeld ⊢
 have HW9 := Aside0.mk hw9
 clear hw9
 refine pure_ (i := 0) (N := some 5) (v := ?_) (a' := ?_) #[true, false, false, false, false, false, false, false, false, false, false, false, false, false, false, false, false, false] rfl rfl (any_of HT_.out (by kernel_rfl)) (fun _ _ _ h => h) (Or.inl ⟨by rfl, ?_⟩) ?_ ?_
 rotate_left
 ·intro w'
  go_simp
  with_reducible rfl
 rotate_left
 ·simp only [Act.put, sa_, s0_, s1_, i64_w, i32_w]
  rfl
 refine pure_ (i := 2) (N := some 7) (v := ?_) (a' := ?_) #[true, false, true, false, false, false, false, false, false, false, false, false, false, false, false, false, false, false] rfl rfl (any_of HT_.out (by kernel_rfl)) (fun _ _ _ h => h) (Or.inl ⟨by rfl, ?_⟩) ?_ ?_
 rotate_left
 ·intro w'
  go_simp
  with_reducible rfl
 rotate_left
 ·simp only [Act.put, sa_, s0_, s1_, i64_w, i32_w]
  rfl
 refine pure_ (i := 5) (N := some 10) (v := ?_) (a' := ?_) #[true, false, true, false, false, true, false, false, false, false, false, false, false, false, false, false, false, false] rfl rfl (any_of HT_.out (by kernel_rfl)) (fun _ _ _ h => h) (Or.inl ⟨by rfl, ?_⟩) ?_ ?_
 rotate_left
 ·intro w'
  go_simp
  with_reducible rfl
 rotate_left
 ·simp only [Act.put, sa_, s0_, s1_, i64_w, i32_w]
  rfl
 refine pure_ (i := 7) (N := some 12) (v := ?_) (a' := ?_) #[true, false, true, false, false, true, false, true, false, false, false, false, false, false, false, false, false, false] rfl rfl (any_of HT_.out (by kernel_rfl)) (fun _ _ _ h => h) (Or.inl ⟨by rfl, ?_⟩) ?_ ?_
 rotate_left
 ·intro w'
  go_simp
  with_reducible rfl
 rotate_left
 ·simp only [Act.put, sa_, s0_, s1_, i64_w, i32_w]
  rfl
 refine pure_ (i := 10) (N := some 15) (v := ?_) (a' := ?_) #[true, false, true, false, false, true, false, true, false, false, true, false, false, false, false, false, false, false] rfl rfl (any_of HT_.out (by kernel_rfl)) (fun _ _ _ h => h) (Or.inl ⟨by rfl, ?_⟩) ?_ ?_
 rotate_left
 ·intro w'
  go_simp
  with_reducible rfl
 rotate_left
 ·simp only [Act.put, sa_, s0_, s1_, i64_w, i32_w]
  rfl
 refine pure_ (i := 12) (N := some 17) (v := ?_) (a' := ?_) #[true, false, true, false, false, true, false, true, false, false, true, false, true, false, false, false, false, false] rfl rfl (any_of HT_.out (by kernel_rfl)) (fun _ _ _ h => h) (Or.inl ⟨by rfl, ?_⟩) ?_ ?_
 rotate_left
 ·intro w'
  go_simp
  with_reducible rfl
 rotate_left
 ·simp only [Act.put, sa_, s0_, s1_, i64_w, i32_w]
  rfl
 refine take_ (i := 1) (N := some 6) (v := ?_) (a' := ?_) #[true, true, true, false, false, true, false, true, false, false, true, false, true, false, false, false, false, false] rfl rfl (take_ofW HT_.out HW_.out (by kernel_rfl)) (fun _ _ _ h => h) (Or.inl ⟨by rfl, ?_⟩) hHeld ?_ ?_
 rotate_left
 ·rintro w' ⟨s0, s1, s2, s3, s4, s5⟩
  go_simp
  with_reducible rfl
 rotate_left
 ·simp only [Act.put, sa_, s0_, s1_, i64_w, i32_w]
  rfl
 refine take_ (i := 3) (N := some 8) (v := ?_) (a' := ?_) #[true, true, true, true, false, true, false, true, false, false, true, false, true, false, false, false, false, false] rfl rfl (take_ofW HT_.out HW_.out (by kernel_rfl)) (fun _ _ _ h => h) (Or.inl ⟨by rfl, ?_⟩) hHeld ?_ ?_
 rotate_left
 ·rintro w' ⟨s0, s1, s2, s3, s4, s5⟩
  go_simp
  with_reducible rfl
 rotate_left
 ·simp only [Act.put, sa_, s0_, s1_, i64_w, i32_w]
  rfl
 refine take_ (i := 6) (N := some 11) (v := ?_) (a' := ?_) #[true, true, true, true, false, true, true, true, false, false, true, false, true, false, false, false, false, false] rfl rfl (take_ofW HT_.out HW_.out (by kernel_rfl)) (fun _ _ _ h => h) (Or.inl ⟨by rfl, ?_⟩) hHeld ?_ ?_
 rotate_left
 ·rintro w' ⟨s0, s1, s2, s3, s4, s5⟩
  go_simp
  with_reducible rfl
 rotate_left
 ·simp only [Act.put, sa_, s0_, s1_, i64_w, i32_w]
  rfl
 refine take_ (i := 8) (N := some 13) (v := ?_) (a' := ?_) #[true, true, true, true, false, true, true, true, true, false, true, false, true, false, false, false, false, false] rfl rfl (take_ofW HT_.out HW_.out (by kernel_rfl)) (fun _ _ _ h => h) (Or.inl ⟨by rfl, ?_⟩) hHeld ?_ ?_
 rotate_left
 ·rintro w' ⟨s0, s1, s2, s3, s4, s5⟩
  go_simp
  with_reducible rfl
 rotate_left
 ·simp only [Act.put, sa_, s0_, s1_, i64_w, i32_w]
  rfl
 refine take_ (i := 11) (N := some 16) (v := ?_) (a' := ?_) #[true, true, true, true, false, true, true, true, true, false, true, true, true, false, false, false, false, false] rfl rfl (take_ofW HT_.out HW_.out (by kernel_rfl)) (fun _ _ _ h => h) (Or.inl ⟨by rfl, ?_⟩) hHeld ?_ ?_
 rotate_left
 ·rintro w' ⟨s0, s1, s2, s3, s4, s5⟩
  go_simp
  with_reducible rfl
 rotate_left
 ·simp only [Act.put, sa_, s0_, s1_, i64_w, i32_w]
  rfl
 refine take_ (i := 13) (N := some 18) (v := ?_) (a' := ?_) #[true, true, true, true, false, true, true, true, true, false, true, true, true, true, false, false, false, false] rfl rfl (take_ofW HT_.out HW_.out (by kernel_rfl)) (fun _ _ _ h => h) (Or.inl ⟨by rfl, ?_⟩) hHeld ?_ ?_
 rotate_left
 ·rintro w' ⟨s0, s1, s2, s3, s4, s5⟩
  go_simp
  with_reducible rfl
 rotate_left
 ·simp only [Act.put, sa_, s0_, s1_, i64_w, i32_w]
  rfl
 refine one_ (i := 4) (N := some 9) #[true, true, true, true, true, true, true, true, true, false, true, true, true, true, false, false, false, false] rfl rfl (one_of HT_.out (by kernel_rfl)) (by decide) (fun K hK => ?_)
 refine goes_ Try.func95 (by kernel_rfl) rfl #[.int .i64 a0_0, .int .i64 a1_0] (by rfl) rfl rfl (by (try simp only [List.map_toArray, List.map_cons, List.map_nil]); first | done | rfl | (simp only [List.length_drop, List.length_take]; rfl)) ?_
 with_reducible refine (api_MillKind_95.calls a0_0 a1_0 t516 _ A3.out).mono ?_
 rintro e w' ⟨rfl, ⟨nd, rfl⟩⟩
 refine ⟨_, rfl, ?_⟩
 refine hK.out _ _ ⟨(blk_cell BK514.out 0).trans rfl, (blk_cell BK514.out 1).trans rfl, (blk_cell BK514.out 2).trans rfl, (blk_cell BK515.out 0).trans rfl, (blk_cell BK515.out 1).trans rfl, (blk_cell BK515.out 2).trans rfl⟩ (fun hHeld => ?_)
 clear hK K
 refine norm_ (a' := ?_) ?_ ?_
 rotate_left
 ·show Act.put _ (some 9) _ = _
  simp only [Act.put, sa_, s0_, s1_, i64_w, i32_w]
  rfl
 refine one_ (i := 9) (N := some 14) #[true, true, true, true, true, true, true, true, true, true, true, true, true, true, false, false, false, false] rfl rfl (one_of HT_.out (by kernel_rfl)) (by decide) (fun K hK => ?_)
 refine goes_ Try.func78 (by kernel_rfl) rfl #[.int .i64 a0_1, .int .i64 a1_1] (by rfl) rfl rfl (by (try simp only [List.map_toArray, List.map_cons, List.map_nil]); first | done | rfl | (simp only [List.length_drop, List.length_take]; rfl)) ?_
 with_reducible refine (cmp_Compare_int.calls a0_1 a1_1 t517 _ A4.out).mono ?_
 rintro e w' ⟨rfl, ⟨nd, rfl⟩⟩
 refine ⟨_, rfl, ?_⟩
 refine hK.out _ _ ⟨(blk_cell BK514.out 0).trans rfl, (blk_cell BK514.out 1).trans rfl, (blk_cell BK514.out 2).trans rfl, (blk_cell BK515.out 0).trans rfl, (blk_cell BK515.out 1).trans rfl, (blk_cell BK515.out 2).trans rfl⟩ (fun hHeld => ?_)
 clear hK K
 refine norm_ (a' := ?_) ?_ ?_
 rotate_left
 ·show Act.put _ (some 14) _ = _
  simp only [Act.put, sa_, s0_, s1_, i64_w, i32_w]
  rfl
 refine one_ (i := 14) (N := some 19) #[true, true, true, true, true, true, true, true, true, true, true, true, true, true, true, false, false, false] rfl rfl (one_of HT_.out (by kernel_rfl)) (by decide) (fun K hK => ?_)
 refine goes_ Try.func78 (by kernel_rfl) rfl #[.int .i64 a0_2, .int .i64 a1_2] (by rfl) rfl rfl (by (try simp only [List.map_toArray, List.map_cons, List.map_nil]); first | done | rfl | (simp only [List.length_drop, List.length_take]; rfl)) ?_
 with_reducible refine (cmp_Compare_int.calls a0_2 a1_2 t518 _ A5.out).mono ?_
 rintro e w' ⟨rfl, ⟨nd, rfl⟩⟩
 refine ⟨_, rfl, ?_⟩
 refine hK.out _ _ ⟨(blk_cell BK514.out 0).trans rfl, (blk_cell BK514.out 1).trans rfl, (blk_cell BK514.out 2).trans rfl, (blk_cell BK515.out 0).trans rfl, (blk_cell BK515.out 1).trans rfl, (blk_cell BK515.out 2).trans rfl⟩ (fun hHeld => ?_)
 clear hK K
 refine norm_ (a' := ?_) ?_ ?_
 rotate_left
 ·show Act.put _ (some 19) _ = _
  simp only [Act.put, sa_, s0_, s1_, i64_w, i32_w]
  rfl
 refine one_ (i := 15) (N := some 20) #[true, true, true, true, true, true, true, true, true, true, true, true, true, true, true, true, false, false] rfl rfl (one_of HT_.out (by kernel_rfl)) (by decide) (fun K hK => ?_)
 refine val_ (v := ?_) (w1 := ?_) (by rfl) rfl ?_ ?_
 rotate_left 2
 ·go_simp
  constructor <;> rfl
 rotate_left
 refine hK.out _ _ ⟨(blk_cell (blk_alloc (w := w9.drewN _) BK514.out _) 0).trans rfl, (blk_cell (blk_alloc (w := w9.drewN _) BK514.out _) 1).trans rfl, (blk_cell (blk_alloc (w := w9.drewN _) BK514.out _) 2).trans rfl, (blk_cell (blk_alloc (w := w9.drewN _) BK515.out _) 0).trans rfl, (blk_cell (blk_alloc (w := w9.drewN _) BK515.out _) 1).trans rfl, (blk_cell (blk_alloc (w := w9.drewN _) BK515.out _) 2).trans rfl⟩ (fun hHeld => ?_)
 clear hK K
 refine norm_ (a' := ?_) ?_ ?_
 rotate_left
 ·show Act.put _ (some 20) _ = _
  simp only [Act.put, sa_, s0_, s1_, i64_w, i32_w]
  rfl
 refine one_ (i := 16) (N := some 21) #[true, true, true, true, true, true, true, true, true, true, true, true, true, true, true, true, true, false] rfl rfl (one_of HT_.out (by kernel_rfl)) (by decide) (fun K hK => ?_)
 refine goes_ Try.func94 (by kernel_rfl) rfl #[.slice (some ⟨w9.heap.size, 0, none⟩) 3 3] (by rfl) rfl rfl (by (try simp only [List.map_toArray, List.map_cons, List.map_nil]); first | done | rfl | (simp only [List.length_drop, List.length_take]; rfl)) ?_
 refine (cmp_Or_int.calls k (some ⟨w9.heap.size, 0, none⟩) 3 [t516, t517, t518] t522 _ ?side1 ?side2 ?side3).mono ?_
 (case side1 => exact C_three (t := 3) (blk_new (w9.drewN _) _))
 (case side2 => simp)
 (case side3 => rw [← Ny519.out]; exact A6.out)
 rintro e w' ⟨rfl, ⟨nd, rfl⟩⟩
 refine ⟨_, rfl, ?_⟩
 refine hK.out _ _ ⟨(blk_cell (blk_alloc (w := w9.drewN _) BK514.out _) 0).trans rfl, (blk_cell (blk_alloc (w := w9.drewN _) BK514.out _) 1).trans rfl, (blk_cell (blk_alloc (w := w9.drewN _) BK514.out _) 2).trans rfl, (blk_cell (blk_alloc (w := w9.drewN _) BK515.out _) 0).trans rfl, (blk_cell (blk_alloc (w := w9.drewN _) BK515.out _) 1).trans rfl, (blk_cell (blk_alloc (w := w9.drewN _) BK515.out _) 2).trans rfl⟩ (fun hHeld => ?_)
 clear hK K
 refine norm_ (a' := ?_) ?_ ?_
 rotate_left
 ·show Act.put _ (some 21) _ = _
  simp only [Act.put, sa_, s0_, s1_, i64_w, i32_w]
  rfl
 refine pure_ (i := 17) (N := some 4) (v := ?_) (a' := ?_) #[true, true, true, true, true, true, true, true, true, true, true, true, true, true, true, true, true, true] rfl rfl (any_of HT_.out (by kernel_rfl)) (fun _ _ _ h => h) (Or.inl ⟨by rfl, ?_⟩) ?_ ?_
 rotate_left
 ·intro w'
  go_simp
  with_reducible rfl
 rotate_left
 ·simp only [Act.put, sa_, s0_, s1_, i64_w, i32_w]
  rfl
 refine done_ (done_of HT_.out (by kernel_rfl)) ?_
 try go_wp2
 go_ret
 refine ⟨rfl, ?_⟩
 rw [← HW9.out]
 exact (((((Grows.refl w).alloc _).alloc _).drewN 1 |>.drewN _).alloc _).drewN _
end Go.Proofs.Ytiaiecfnpompcaa.T
namespace Go.Proofs.Ytiaiecfnpompcaa.T
open Go.RowKit Go.Shelf Go.Sort Go.Proofs.YtiaiecfnpompcaaW.PrintWords
set_option linter.unusedVariables false

def sort92_ren : Go.Shelf.Ren := ⟨fun | 6 => 92 | 15 => 106 | 14 => 105 | 28 => 119 | 29 => 120 | 20 => 111 | 21 => 112 | 22 => 113 | 23 => 114 | 24 => 115 | 25 => 116 | 26 => 117 | 27 => 118 | 46 => 121 | 47 => 122 | 48 => 123 | 49 => 124 | 50 => 125 | 57 => 126 | n => n, fun | 22 => 62 | 24 => 79 | 25 => 176 | 3 => 3 | 39 => 119 | 0 => 0 | 53 => 201 | 55 => 203 | 4 => 4 | 46 => 195 | 45 => 194 | 50 => 97 | 5 => 5 | 9 => 9 | 66 => 204 | 70 => 208 | 76 => 210 | 77 => 147 | n => n, fun | n => n⟩
theorem sort92_lays : Go.Proofs.SlLaysF0.n6 Try.prog sort92_ren := {
 mixed := by kernel_rfl,
 f6 := ⟨Try.f92.name, by decide, Try.func92.trans (congrArg some (by kernel_rfl))⟩,
 f14 := ⟨Try.f105.name, by decide, Try.func105.trans (congrArg some (by kernel_rfl))⟩,
 f15 := Try.func106.trans (congrArg some (by kernel_rfl)),
 f20 := ⟨Try.f111.name, by decide, Try.func111.trans (congrArg some (by kernel_rfl))⟩,
 f21 := ⟨Try.f112.name, by decide, Try.func112.trans (congrArg some (by kernel_rfl))⟩,
 f22 := ⟨Try.f113.name, by decide, Try.func113.trans (congrArg some (by kernel_rfl))⟩,
 f23 := ⟨Try.f114.name, by decide, Try.func114.trans (congrArg some (by kernel_rfl))⟩,
 f24 := ⟨Try.f115.name, by decide, Try.func115.trans (congrArg some (by kernel_rfl))⟩,
 f25 := ⟨Try.f116.name, by decide, Try.func116.trans (congrArg some (by kernel_rfl))⟩,
 f26 := ⟨Try.f117.name, by decide, Try.func117.trans (congrArg some (by kernel_rfl))⟩,
 f27 := ⟨Try.f118.name, by decide, Try.func118.trans (congrArg some (by kernel_rfl))⟩,
 f28 := Try.func119.trans (congrArg some (by kernel_rfl)),
 f29 := Try.func120.trans (congrArg some (by kernel_rfl)),
 f46 := ⟨Try.f121.name, by decide, Try.func121.trans (congrArg some (by kernel_rfl))⟩,
 f47 := Try.func122.trans (congrArg some (by kernel_rfl)),
 f48 := Try.func123.trans (congrArg some (by kernel_rfl)),
 f49 := ⟨Try.f124.name, by decide, Try.func124.trans (congrArg some (by kernel_rfl))⟩,
 f50 := ⟨Try.f125.name, by decide, Try.func125.trans (congrArg some (by kernel_rfl))⟩,
 f57 := ⟨Try.f126.name, by decide, Try.func126.trans (congrArg some (by kernel_rfl))⟩,
 t0 := Try.underlying0,
 a0 := Try.isAgg0,
 z0 := Try.sizeOf0,
 v0 := Try.zeroValue0,
 t3 := Try.underlying3,
 a3 := Try.isAgg3,
 z3 := Try.sizeOf3,
 v3 := Try.zeroValue3,
 t4 := Try.underlying4,
 a4 := Try.isAgg4,
 z4 := Try.sizeOf4,
 v4 := Try.zeroValue4,
 t5 := Try.underlying5,
 a5 := Try.isAgg5,
 z5 := Try.sizeOf5,
 v5 := Try.zeroValue5,
 t9 := Try.underlying9,
 a9 := Try.isAgg9,
 z9 := Try.sizeOf9,
 v9 := Try.zeroValue9,
 t22 := Try.underlying62,
 a22 := Try.isAgg62,
 z22 := Try.sizeOf62,
 v22 := Try.zeroValue62,
 t25 := Try.underlying176,
 a25 := Try.isAgg176,
 z25 := Try.sizeOf176,
 v25 := Try.zeroValue176,
 t39 := Try.underlying119,
 a39 := Try.isAgg119,
 z39 := Try.sizeOf119,
 v39 := Try.zeroValue119,
 t45 := Try.underlying194,
 a45 := Try.isAgg194,
 z45 := Try.sizeOf194,
 v45 := Try.zeroValue194,
 t46 := Try.underlying195,
 a46 := Try.isAgg195,
 z46 := Try.sizeOf195,
 v46 := Try.zeroValue195,
 t50 := Try.underlying97,
 a50 := Try.isAgg97,
 z50 := Try.sizeOf97,
 v50 := Try.zeroValue97,
 t53 := Try.underlying201,
 a53 := Try.isAgg201,
 z53 := Try.sizeOf201,
 v53 := Try.zeroValue201,
 t55 := Try.underlying203,
 a55 := Try.isAgg203,
 z55 := Try.sizeOf203,
 v55 := Try.zeroValue203,
 t66 := Try.underlying204,
 a66 := Try.isAgg204,
 z66 := Try.sizeOf204,
 v66 := Try.zeroValue204,
 t70 := Try.underlying208,
 a70 := Try.isAgg208,
 z70 := Try.sizeOf208,
 v70 := Try.zeroValue208,
 t76 := Try.underlying210,
 a76 := Try.isAgg210,
 z76 := Try.sizeOf210,
 v76 := Try.zeroValue210,
 t77 := Try.underlying147,
 a77 := Try.isAgg147,
 z77 := Try.sizeOf147,
 v77 := Try.zeroValue147 }

instance : Inhabited S79 := ⟨⟨0, 0, 0⟩⟩
def cmpI (a b : Int) : Int := if a < b then -1 else if a > b then 1 else 0
theorem cmpI_neg (a b : Int) : cmpI a b < 0 ↔ a < b := by unfold cmpI; split <;> (try split) <;> omega
theorem cmpI_zero (a b : Int) : cmpI a b = 0 ↔ a = b := by unfold cmpI; split <;> (try split) <;> omega
def cmp79 (x y : S79) : Int := if cmpI x.f0 y.f0 = 0 then if cmpI x.f1 y.f1 = 0 then cmpI x.f2 y.f2 else cmpI x.f1 y.f1 else cmpI x.f0 y.f0
def enc79 (x : S79) : List Value := [.int .i64 x.f0, .int .i64 x.f1, .int .i64 x.f2]
theorem cmp_Compare_int_eq (a b : Int) : cmp_Compare_int.f a b = some (cmpI a b) := by
 simp [cmp_Compare_int.f, cmp_isNaN_int.f, cmpI]
 split <;> (try split) <;> simp_all
theorem api_MillKind_95_eq (a b : Int) : api_MillKind_95.f a b = some (cmpI a b) := by
 simp [api_MillKind_95.f, api_MillKind_107.f, cmpI]
 split <;> (try split) <;> simp_all
theorem compare3 (x y : S79) : mill_causes_sorted_1.f 4 x.f0 x.f1 x.f2 y.f0 y.f1 y.f2 = some (cmp79 x y) := by
 simp [mill_causes_sorted_1.f, cmp_Or_int.f, cmp_Or_int.l0, cmp_Compare_int_eq, api_MillKind_95_eq, Go.Proofs.YtiaiecfnpompcaaW.PrintWords.rd, cmp79, wrap64]
 by_cases h : cmpI x.f0 y.f0 = 0
 ·simp [h]
  by_cases h2 : cmpI x.f1 y.f1 = 0
  ·simp [h2]
   by_cases h3 : cmpI x.f2 y.f2 = 0 <;> simp [h3]
  ·simp [h2]
 ·simp [h]
def lt79 (x y : S79) : Bool := decide (x.f0 < y.f0 ∨ x.f0 = y.f0 ∧ (x.f1 < y.f1 ∨ x.f1 = y.f1 ∧ x.f2 < y.f2))
theorem ltOf79 (x y : S79) : ltOf cmp79 x y = lt79 x y := by
 unfold ltOf lt79 cmp79
 by_cases h : x.f0 = y.f0
 ·rw [if_pos ((cmpI_zero _ _).2 h)]
  by_cases h1 : x.f1 = y.f1
  ·rw [if_pos ((cmpI_zero _ _).2 h1)]; simp [cmpI_neg, h, h1]
  ·rw [if_neg (fun e => h1 ((cmpI_zero _ _).1 e))]; simp [cmpI_neg, h, h1]
 ·rw [if_neg (fun e => h ((cmpI_zero _ _).1 e))]; simp [cmpI_neg, h]
theorem swo79 : SWO (ltOf cmp79) where
 irrefl x := by rw [ltOf79]; simp [lt79]
 trans x y z h1 h2 := by rw [ltOf79] at *; simp only [lt79, decide_eq_true_eq] at *; omega
 ntrans x y z h1 h2 := by rw [ltOf79] at *; simp only [lt79, decide_eq_false_iff_not] at *; omega
theorem total79 (x y : S79) (hx : ltOf cmp79 x y = false) (hy : ltOf cmp79 y x = false) : x = y := by
 rw [ltOf79] at hx hy; simp only [lt79, decide_eq_false_iff_not] at hx hy
 cases x; cases y; simp only [S79.mk.injEq] at *; omega
theorem sorted_1.cmp (x y : S79) (w : World) : Calls Try.prog 93 #[.agg (enc79 x).toArray, .agg (enc79 y).toArray] w fun e w' => e = .returned (.int .i64 (cmp79 x y)) ∧ ∃ q os', w' = Sort.grow (w.drewN q) os' :=
 sorted_1.grows 4 x.f0 x.f1 x.f2 y.f0 y.f1 y.f2 _ w (compare3 x y)
theorem sort92.row (g off cap : Nat) (xs : List S79) (w : World) (hH : HoldsK enc79 3 w g off xs.toArray) (hg : g < w.heap.size) (hl : xs.length < 4611686018427387904) :
  Calls Try.prog 92 #[.slice (some ⟨g, off, none⟩) xs.length cap, .func (.func 93) #[] #[]] w fun e w' => e = .returned (.tuple #[]) ∧ ∃ n os, w' = sortWorldK enc79 3 w g off n (xs.mergeSort fun x y => !lt79 y x).toArray os := by
 refine (AnyQ.slices_SortFunc_total sort92_lays 3 Try.isAgg79 Try.sizeOf79 enc79 (fun _ => rfl) (fun x v hv => by simp [enc79] at hv; rcases hv with rfl | rfl | rfl <;> rfl) cmp79 swo79 93 #[] g off cap xs.toArray w (enters_of Try.func93 (by kernel_rfl) rfl)
   (fun m os dk hs x y => sorted_1.cmp x y _) hH hg hl total79).mono ?_
 rintro e w' ⟨rfl, n, os, rfl⟩
 simp only [ltOf79]
 exact ⟨trivial, n, os, rfl⟩
def sort92.f (xs : List S79) : Option (List S79) := if xs.length < 4611686018427387904 then some (xs.mergeSort fun x y => !lt79 y x) else none
set_option maxHeartbeats 1000000 in
theorem sort92.calls {base : Nat} {ok : Nat → Prop} {v : Value} (xs ys : List S79) (w : World) (hr : Kd.R k79 79 w base ok v xs) (h : sort92.f xs = some ys) :
  Calls Try.prog 92 #[v, .func (.func 93) #[] #[]] w fun e w' => e = .returned (.tuple #[]) ∧ Kd.R k79 79 w' base ok v ys ∧ Below base w w' := by
 unfold sort92.f at h
 split at h
 case isFalse => cases h
 rename_i hl
 obtain rfl := Option.some.inj h
 have own := hr.2
 obtain ⟨inner, ⟨h1, ho⟩, h2⟩ := own
 rcases ho with ⟨rfl, h0⟩ | ⟨g, cap, cur, rfl, hg, hb, hnc, hcm, hcs, htk⟩
 ·obtain rfl : xs = [] := List.eq_nil_of_length_eq_zero h0
  refine (AnyF.slices_SortFunc_none sort92_lays none 0 _ w).mono ?_
  rintro e w' ⟨rfl, rfl⟩
  exact ⟨rfl, by simpa using hr, Below.refl _ _⟩
 ·obtain ⟨_, hlt, hH, hF⟩ := sort_frame enc79 3 (fun _ => rfl) (by omega) k79 rfl (fun hm => k79_openM hm) (fun w base ok x => k79_mkM w base ok x) hr
  refine (sort92.row g 0 cap xs w hH hlt hl).mono ?_
  rintro e w' ⟨rfl, n, os, rfl⟩
  have := hF (xs.mergeSort fun x y => !lt79 y x) n os (List.length_mergeSort _)
  exact ⟨rfl, this.1, this.2⟩
end Go.Proofs.Ytiaiecfnpompcaa.T
namespace Go.Proofs.Ytiaiecfnpompcaa.T
open Go.RowKit Go.Maps Go.Proofs.YtiaiecfnpompcaaW.PrintWords Go.Proofs.YtiaiecfnpompcaaW.PrintLast
set_option linter.unusedVariables false
theorem laid_prog : laidOutB Try.prog = true := by kernel_rfl
theorem row79 : (79 : TypeId) < Try.prog.types.size := of_decide_eq_true (by kernel_rfl)
theorem wide79 : (match Try.prog.underlying 79 with | some (.array _ _) | some (.struct _) => true | _ => false) = true := by rw [Try.underlying79]
set_option maxRecDepth 1000000 in
theorem law79' : WideMaps.KeyLaw Try.prog 79 := deep_law_laid laid_prog (m := 2) (by omega) row79 (by kernel_rfl) wide79
theorem law79 : Keyed Try.prog 79 := Keyed.of_law law79'
instance decS79 : DecidableEq S79 := fun a b => decidable_of_iff (a.f0 = b.f0 ∧ a.f1 = b.f1 ∧ a.f2 = b.f2) ⟨fun h => by cases a; cases b; simp at h; simp [h], fun h => by subst h; exact ⟨rfl, rfl, rfl⟩⟩
def vC (x : S79) : Value := .agg #[.int .i64 x.f0, .int .i64 x.f1, .int .i64 x.f2]
def okC (x : S79) : Prop := (Lit.int .i64 x.f0).wf = true ∧ (Lit.int .i64 x.f1).wf = true ∧ (Lit.int .i64 x.f2).wf = true
def litC (x : S79) : Lit := .string (keyBytes [.int .i64 x.f0, .int .i64 x.f1, .int .i64 x.f2])
theorem key79 {x : S79} (h : okC x) : keyOf Try.prog 79 (vC x) = some (litC x) := by
 have hkt : Try.prog.keyType 79 = true := by kernel_rfl
 obtain ⟨m, hm⟩ : ∃ m, Try.prog.types.size = m + 2 := ⟨Try.prog.types.size - 2, by have h : (79 : Nat) < Try.prog.types.size := row79; omega⟩
 have hc : Try.prog.cellsOf 79 = 3 := by kernel_rfl
 have hc3 : Try.prog.cellsOf 3 = 1 := by kernel_rfl
 have hc77 : Try.prog.cellsOf 77 = 1 := by kernel_rfl
 obtain ⟨h0, h1, h2⟩ := h
 unfold keyOf vC
 simp only [Try.underlying79]
 rw [if_pos (by simp [hkt, Value.formed, Try.underlying79, hc]), hm]
 unfold Program.keyLits
 simp only [Try.underlying79, Value.cells]
 rw [if_pos (by rw [hc]; exact ⟨rfl, by simp⟩)]
 simp [hc3, hc77, Program.keyLits, Try.underlying77, Try.underlying3, h0, h1, h2, litC]
theorem vC_inj {x y : S79} (h : vC x = vC y) : x = y := by
 cases x; cases y
 simp [vC] at h
 simp [h]
theorem litC_inj {x y : S79} (hx : okC x) (hy : okC y) (h : litC x = litC y) : x = y := vC_inj (law79.inj (key79 hx) (by rw [h]; exact key79 hy))
theorem litC_same {x y : S79} (hx : okC x) (hy : okC y) : (litC x).sameKey (litC y) = decide (x = y) := by
 by_cases h : x = y
 ·subst h; simp [litC, Lit.sameKey]
 ·rw [decide_eq_false h]
  have : ¬ litC x = litC y := fun e => h (litC_inj hx hy e)
  simp only [litC, Lit.sameKey] at this ⊢
  simpa using this
def setC (l : List S79) : DataW Unit := setOf (.lit (.bool true)) (l.map litC)
theorem setC_snoc (l : List S79) (x : S79) : setC (l ++ [x]) = (setC l).put (litC x) (.lit (.bool true)) := by
 unfold setC; rw [List.map_append]; exact setOf_snoc _ _ _
theorem setC_nil : setC [] = .map [] := by simp [setC, setOf]
def addC (acc : List S79) (x : S79) : List S79 := if x ∈ acc then acc else acc ++ [x]
def distinctC (l : List S79) : List S79 := l.foldl addC []
theorem foldKey_C : ∀ (l acc : List S79), (∀ x ∈ l, okC x) → (∀ x ∈ acc, okC x) → (l.map litC).foldl addKey (acc.map litC) = (l.foldl addC acc).map litC
 | [], _, _, _ => rfl
 | x :: l, acc, h, ha => by
  have hx := h x (by simp)
  have e : addKey (acc.map litC) (litC x) = (addC acc x).map litC := by
   unfold addKey addC
   have e1 : (acc.map litC).any (fun y => y.sameKey (litC x)) = decide (x ∈ acc) := by
    rw [Bool.eq_iff_iff, List.any_eq_true, decide_eq_true_eq]
    constructor
    ·rintro ⟨y, hy, hs⟩
     obtain ⟨z, hz, rfl⟩ := List.mem_map.1 hy
     rw [litC_same (ha z hz) hx, decide_eq_true_eq] at hs
     exact hs ▸ hz
    ·intro hm
     exact ⟨litC x, List.mem_map.2 ⟨x, hm, rfl⟩, by rw [litC_same hx hx]; simp⟩
   rw [e1]
   by_cases hm : x ∈ acc
   ·rw [if_pos (decide_eq_true hm), if_pos hm]
   ·rw [if_neg (by simpa using hm), if_neg hm, List.map_append]; rfl
  show (l.map litC).foldl addKey (addKey (acc.map litC) (litC x)) = _
  rw [e]
  refine foldKey_C l _ (fun y hy => h y (by simp [hy])) ?_
  intro y hy
  unfold addC at hy
  split at hy
  ·exact ha y hy
  ·rcases List.mem_append.1 hy with q | q
   ·exact ha y q
   ·rw [List.mem_singleton] at q; subst q; exact hx
theorem size_setC {l : List S79} (h : ∀ x ∈ l, okC x) : Maps.size (setC l) = ((distinctC l).length : Int) := by
 unfold setC
 rw [size_setOf _ _ (fun x hx => by
  obtain ⟨y, hy, rfl⟩ := List.mem_map.1 hx
  exact law79.key (key79 (h y hy)))]
 have := foldKey_C l [] h (fun x hx => by simp at hx)
 rw [List.map_nil] at this
 rw [this]
 simp [distinctC]
theorem has_setC {l : List S79} (h : ∀ x ∈ l, okC x) {x : S79} (hx : okC x) : Maps.has (setC l) (litC x) = decide (x ∈ l) := by
 unfold setC
 rw [has_setOf _ _ _ (fun y hy => by
  obtain ⟨z, hz, rfl⟩ := List.mem_map.1 hy
  exact law79.key (key79 (h z hz)))]
 rw [Bool.eq_iff_iff, List.any_eq_true, decide_eq_true_eq]
 constructor
 ·rintro ⟨y, hy, hs⟩
  obtain ⟨z, hz, rfl⟩ := List.mem_map.1 hy
  rw [litC_same (h z hz) hx, decide_eq_true_eq] at hs
  exact hs ▸ hz
 ·intro hm
  exact ⟨litC x, List.mem_map.2 ⟨x, hm, rfl⟩, by rw [litC_same hx hx]; simp⟩
end Go.Proofs.Ytiaiecfnpompcaa.T
namespace Go.Proofs.Ytiaiecfnpompcaa.T
open Go.RowKit Go.Maps Go.Proofs.YtiaiecfnpompcaaW.PrintWords Go.Proofs.YtiaiecfnpompcaaW.PrintLast Go.Proofs.YtiaiecfnpompcaaW.PrintMore
set_option linter.unusedVariables false
set_option linter.unusedSimpArgs false
set_option maxRecDepth 100000 in
theorem inv79 (key : Value) (kl : Lit) (h : keyOf Try.prog 79 key = some kl) : ∃ x : {x : S79 // okC x}, key = vC x.1 := by
 have hkt : Try.prog.keyType 79 = true := by kernel_rfl
 obtain ⟨m, hm⟩ : ∃ m, Try.prog.types.size = m + 2 := ⟨Try.prog.types.size - 2, by have h : (79 : Nat) < Try.prog.types.size := row79; omega⟩
 have hc : Try.prog.cellsOf 79 = 3 := by kernel_rfl
 have hc3 : Try.prog.cellsOf 3 = 1 := by kernel_rfl
 have hc77 : Try.prog.cellsOf 77 = 1 := by kernel_rfl
 unfold keyOf at h
 simp only [Try.underlying79] at h
 split at h
 ·rename_i hf
  rw [Bool.and_eq_true] at hf
  have hf2 := hf.2
  cases key with
  | agg cs =>
   simp only [Value.formed, Try.underlying79, hc, beq_iff_eq] at hf2
   obtain ⟨l⟩ := cs
   have hl : l.length = 3 := hf2
   clear hf2 hf
   match l, hl with
   | [a, b, c], _ =>
    rw [hm] at h
    unfold Program.keyLits at h
    simp only [Try.underlying79, Value.cells] at h
    rw [if_pos (by rw [hc]; exact ⟨rfl, by simp⟩)] at h
    simp [hc3, hc77, Program.keyLits, Try.underlying77, Try.underlying3] at h
    cases a with
    | int k1 n1 =>
     by_cases e1 : k1 = IntKind.i64 ∧ (Lit.int .i64 n1).wf = true
     ·cases b with
      | int k2 n2 =>
       by_cases e2 : k2 = IntKind.i64 ∧ (Lit.int .i64 n2).wf = true
       ·cases c with
        | int k3 n3 =>
         by_cases e3 : k3 = IntKind.i64 ∧ (Lit.int .i64 n3).wf = true
         ·obtain ⟨rfl, q1⟩ := e1
          obtain ⟨rfl, q2⟩ := e2
          obtain ⟨rfl, q3⟩ := e3
          exact ⟨⟨⟨n1, n2, n3⟩, q1, q2, q3⟩, rfl⟩
         ·simp [e1, e2, e3] at h
        | _ => simp [e1, e2] at h
       ·simp [e1, e2] at h
      | _ => simp [e1] at h
     ·simp [e1] at h
    | _ => simp at h
  | _ => simp [Value.formed, Try.underlying79] at hf2
 ·simp at h
theorem invB (v : Value) (y : DataW Unit × List MemPlace) (h : plainElem Try.prog 4 v = some y) : ∃ c : Bool, v = .bool c := by
 cases v <;> simp [plainElem, Try.underlying4] at h
 exact ⟨_, rfl⟩
end Go.Proofs.Ytiaiecfnpompcaa.T
namespace Go.Proofs.Ytiaiecfnpompcaa.T
open Go.RowKit Go.Maps Go.Proofs.YtiaiecfnpompcaaW.PrintWords Go.Proofs.YtiaiecfnpompcaaW.PrintLast Go.Proofs.YtiaiecfnpompcaaW.PrintMore
set_option linter.unusedVariables false
set_option linter.unusedSimpArgs false
theorem distinctC_spec : ∀ (l acc : List S79), acc.Nodup → (l.foldl addC acc).Nodup ∧ ∀ y, y ∈ l.foldl addC acc ↔ y ∈ acc ∨ y ∈ l
 | [], acc, h => ⟨h, by simp⟩
 | x :: l, acc, h => by
  have hn : (addC acc x).Nodup := by
   unfold addC
   split
   ·exact h
   ·rename_i hx
    rw [List.nodup_append]
    refine ⟨h, by simp, ?_⟩
    intro a ha b hb e
    rw [List.mem_singleton] at hb
    subst hb; subst e
    exact hx ha
  have hm : ∀ y, y ∈ addC acc x ↔ y ∈ acc ∨ y = x := by
   intro y
   unfold addC
   split
   ·rename_i hx
    exact ⟨.inl, fun q => q.elim id (fun e => e ▸ hx)⟩
   ·simp
  obtain ⟨h1, h2⟩ := distinctC_spec l (addC acc x) hn
  refine ⟨h1, fun y => ?_⟩
  rw [List.foldl_cons, h2, hm, List.mem_cons]
  constructor
  ·rintro ((q | q) | q)
   ·exact .inl q
   ·exact .inr (.inl q)
   ·exact .inr (.inr q)
  ·rintro (q | q | q)
   ·exact .inl (.inl q)
   ·exact .inl (.inr q)
   ·exact .inr q
theorem addC_len (acc : List S79) (x : S79) : (addC acc x).length ≤ acc.length + 1 := by unfold addC; split <;> simp
theorem distinctC_len : ∀ (l acc : List S79), (l.foldl addC acc).length ≤ acc.length + l.length
 | [], acc => by simp
 | x :: l, acc => by
  have := distinctC_len l (addC acc x)
  have h2 := addC_len acc x
  rw [List.foldl_cons, List.length_cons]; omega
def mkB (i : Int) : Value := .bool (decide (i ≠ 0))
theorem inv79' (key : Value) (kl : Lit) (h : keyOf Try.prog 79 key = some kl) : ∃ x : S79, key = vC x := by
 obtain ⟨x, e⟩ := inv79 key kl h
 exact ⟨x.1, e⟩
theorem okC_of_key {x : S79} {kl : Lit} (h : keyOf Try.prog 79 (vC x) = some kl) : okC x := by
 obtain ⟨y, e⟩ := inv79 _ kl h
 have := vC_inj e
 rw [this]; exact y.2
theorem invB' (v : Value) (y : DataW Unit × List MemPlace) (h : plainElem Try.prog 4 v = some y) : ∃ c : Int, v = mkB c := by
 obtain ⟨c, rfl⟩ := invB v y h
 cases c
 ·exact ⟨0, rfl⟩
 ·exact ⟨1, rfl⟩
set_option maxHeartbeats 8000000 in
set_option maxRecDepth 100000 in
theorem sorted_calls (B n : Nat) (ks : List S79) (w : World) (hown : w.ownsMap Try.prog 79 (plainElem (H := Unit) Try.prog 4) B n (setC ks)) (hok : ∀ x ∈ ks, okC x) (hlen : ks.length ≤ 1000000) :
  Calls Try.prog 70 #[.map (some B)] w fun e w' => ∃ (v : Value) (l : List S79), e = .returned v ∧ l.Perm (distinctC ks) ∧ Kd.R k79 79 w' w.heap.size (fun _ => True) v (l.mergeSort fun x y => !lt79 y x) ∧ Below w.heap.size w w' := by
 have hBlt := hown.lt
 go_enter Try.func70, Try.ntmps70
 go_wp2_with (first | (at_range; refine wpList_range_own _ rfl _ 149 rfl 79 4 law79 Try.underlying149 _ B n _ rfl hown ?_; intro w0 hrg0 hg0 hs0) | go_in)
 go_frame
 go_loopw [2] (fun v2 wr => ∃ (left : Lit → Bool) (cnt : Nat) (l : List S79), wr.ranges Try.prog 79 (plainElem (H := Unit) Try.prog 4) B w.heap.size n (setC ks) left cnt ∧
   Kd.R k79 79 wr w.heap.size (fun k => some k ≠ some w.heap.size) v2 l ∧ (∀ x ∈ l, okC x ∧ x ∈ ks ∧ left (litC x) = false) ∧ l.Nodup ∧ (∀ x ∈ ks, left (litC x) = false → x ∈ l) ∧ Below w.heap.size w wr ∧ w.heap.size + 1 ≤ wr.heap.size)
  (fun _ wr => wr.rangeLeft B w.heap.size)
 case atStart => exact ⟨_, _, [], hrg0, Kd.R_nil _ _ _ _ _, (fun x hx => by simp at hx), by simp, (fun x hx hf => by rw [has_setC hok (hok x hx), decide_eq_false_iff_not] at hf; exact absurd hx hf), (Below.refl _ _).grown hg0 (Nat.le_refl _) (fun j hj => by cases hj), by omega⟩
 case round =>
  clear hrg0 hg0 hs0
  obtain ⟨left, cnt, l, hrg, hR, hin, hnd, hall, hB, hsz⟩ := hrel
  obtain ⟨AL, cL, rfl⟩ := Kd.R_slice hR
  have hsub : l.length ≤ (distinctC ks).length := by
   obtain ⟨q1, q2⟩ := distinctC_spec ks [] (by simp)
   have hp : l.Perm ((distinctC ks).filter fun x => decide (x ∈ l)) := by
    refine (List.perm_ext_iff_of_nodup hnd (List.Pairwise.filter _ q1)).2 (fun x => ?_)
    rw [List.mem_filter, decide_eq_true_eq]
    exact ⟨fun hx => ⟨(q2 x).2 (.inr (hin x hx).2.1), hx⟩, fun hx => hx.2⟩
   rw [hp.length_eq]
   exact List.length_filter_le _ _
  have hdl := distinctC_len ks []
  have hll : l.length ≤ 1000000 := by unfold distinctC at hsub; simp at hdl; omega
  clear hsub hdl
  replace hll := Aside0.mk hll
  go_wp2_with (first | (at_next; refine wpList_next_ranges _ rfl _ rfl 79 law79 (plainElem (H := Unit) Try.prog 4) vC mkB inv79' invB' B w.heap.size n _ _ _ rfl hrg ?_ ?_) | go_in)
  ·intro hc0 hl0
   have hsf : sort92.f l = some (l.mergeSort fun x y => !lt79 y x) := by unfold sort92.f; rw [if_pos (by have := hll.out; omega)]
   have hperm : l.Perm (distinctC ks) := by
    obtain ⟨q1, q2⟩ := distinctC_spec ks [] (by simp)
    refine (List.perm_ext_iff_of_nodup hnd q1).2 (fun x => ?_)
    rw [q2]
    exact ⟨fun hx => .inr (hin x hx).2.1, fun hx => hall x (hx.resolve_left (by simp)) (hl0 _)⟩
   replace hperm := Aside0.mk hperm
   replace hsf := Aside0.mk hsf
   go_wp2_with (go_at_call 92; refine (sort92.calls l _ _ hR hsf.out).mono ?_; rintro e w2 ⟨rfl, hR2, hb2⟩)
   go_ret
   exact ⟨_, l, rfl, hperm.out, Kd.R_mono hR2 (fun _ _ => trivial), hB.trans hb2⟩
  ·intro x c kl ya yb w1 cnt1 hkey hlk hv hat hrg1 hlt hg1 hs1 hen
   have hox := okC_of_key hkey
   have ekl : kl = litC x := by have h2 := hkey.symm.trans (key79 hox); injection h2
   subst ekl
   have hxk : x ∈ ks := by have h2 := has_true_of_atKey hat; rw [has_setC hok hox, decide_eq_true_eq] at h2; exact h2
   have hR1 := Kd.R_grown hR hg1 (fun _ hk => hk)
   have hB1 := hB.grown hg1 hB.size (fun j hj => by cases hj; exact Nat.le_refl _)
   have hen' : (Instr.entry (.pointer (some ⟨w.heap.size, 0, none⟩))).run Try.prog w1 = .ok (.tuple #[.agg #[.int .i64 x.f0, .int .i64 x.f1, .int .i64 x.f2], mkB c]) w1 := hen
   clear hen hg1
   replace hs1 := Aside0.mk hs1
   go_upto_region 4 with (first | ((with_reducible refine gate_dst (N := 3) rfl ?_); refine box_event ?hg (N := 3) ?hd (cs := #[.int .i64 0, .int .i64 0, .int .i64 0]) (t := 79) ?hr ?_; (case hd => rfl); (case hg => rfl); (case hr => first | (go_simp; done) | (go_simp; rfl)); intro g3 hg3 w2 hb3 hbb; have hge3 : w1.heap.size ≤ g3 := Nat.le_of_eq hg3.symm; clear hg3; obtain ⟨y0, y1, y2⟩ := bc3 hb3; obtain ⟨f0, f1, f2⟩ := bf3 hb3))
   have hx3 : (((w2.setCell ⟨g3, 0, none⟩ (.int .i64 x.f0)).setCell ⟨g3, 1, none⟩ (.int .i64 x.f1)).setCell ⟨g3, 2, none⟩ (.int .i64 x.f2)).heap[g3]? = some (.cells #[.int .i64 x.f0, .int .i64 x.f1, .int .i64 x.f2] 79 (0, 0)) := bto (bput (bput (bput hb3 0 _) 1 _) 2 _) rfl
   have hbs : Below w1.heap.size w1 (((w2.setCell ⟨g3, 0, none⟩ (.int .i64 x.f0)).setCell ⟨g3, 1, none⟩ (.int .i64 x.f1)).setCell ⟨g3, 2, none⟩ (.int .i64 x.f2)) := below_set (below_set (below_set hbb hge3) hge3) hge3
   clear y0 y1 y2 f0 f1 f2 hb3 hbb
   generalize ((w2.setCell ⟨g3, 0, none⟩ (.int .i64 x.f0)).setCell ⟨g3, 1, none⟩ (.int .i64 x.f1)).setCell ⟨g3, 2, none⟩ (.int .i64 x.f2) = w3 at hx3 hbs ⊢
   have hrg3 := hrg1.kept (grown_of_below hbs none) (by simp) (by simp)
   have hR3 := Kd.R_below hR1 hbs
   have hB3 := below_step hB1 hbs
   have hfr : ∀ j, w3.heap.size ≤ j → some j ≠ some w.heap.size := fun j hj e => by injection e with e; have := hbs.size; have := hs1.out; omega
   have hsz3 := below_size hbs
   obtain ⟨y0, y1, y2⟩ := bc3 hx3
   go_wp2_with ((with_reducible refine gate_builtin (b := .append) (xs := #[.tmp 10, .tmp 12]) rfl ?_); at_builtin; refine Kd.R_append k79 (w0 := w) w.heap.size rfl (.tmp 10) (.tmp 12) 62 79 (.agg #[(.int .i64 0), (.int .i64 0), (.int .i64 0)]) 24 rfl Try.underlying62 info79 rfl (by decide) (by omega) (.slice AL l.length cL) l x [.int .i64 x.f0, .int .i64 x.f1, .int .i64 x.f2] (fun k => some k ≠ some w.heap.size) (fun _ => False) rfl (by first | (go_simp; done) | (go_simp; rfl)) ?aP (fun _ hk => hk.elim) ?aF ?aO ?aB ?aS ?aL ?_; (case aP => exact k79_mkM _ _ _ x); (case aF => exact hfr); (case aO => exact hR3); (case aB => exact hB3); (case aS => exact below_size hB3); (case aL => have := hll.out; omega); intro v1 w4 ho hb hg hat)
   have hrg4 := hrg3.kept hg ((fun e => by have h1 := Kd.R_base hR3 B e.symm; omega)) ((fun e => (hR3.1 _ e.symm) rfl))
   go_roundw
   case rel => exact ⟨_, cnt1, l ++ [x], hrg4, ho, (fun z hz => by rcases List.mem_append.1 hz with q | q; exact ⟨(hin z q).1, (hin z q).2.1, by rw [(hin z q).2.2]; rfl⟩; rw [List.mem_singleton] at q; subst q; exact ⟨hox, hxk, by rw [litC_same hox hox]; simp⟩), (by rw [List.nodup_append]; refine ⟨hnd, by simp, ?_⟩; intro a ha b hb2 e; rw [List.mem_singleton] at hb2; subst hb2; subst e; have := (hin _ ha).2.2; rw [hlk] at this; exact absurd this (by decide)), (fun z hz hf => by by_cases e : z = x; subst e; simp; refine List.mem_append_left _ (hall z hz ?_); rw [litC_same (hok z hz) hox, decide_eq_false e] at hf; simpa using hf), hb, by have := hsz3; have := hs1.out; have := hg.size; omega⟩
   case measure => rw [hrg4.left_eq, hrg.left_eq]; exact hlt
end Go.Proofs.Ytiaiecfnpompcaa.T
namespace Go.Proofs.Ytiaiecfnpompcaa.T
open Go.RowKit Go.Proofs.YtiaiecfnpompcaaW.PrintWords
set_option linter.unusedVariables false


def outside (lo hi x : Int) : Bool := decide (x < lo) || decide (hi < x)

theorem within_1.calls (b1 b2 : Nat) (lo hi x : Int) (w : World) (h1 : w.cell? ⟨b1, 0, none⟩ = some (.int .i64 lo)) (h2 : w.cell? ⟨b2, 0, none⟩ = some (.int .i64 hi)) :
  Calls Try.prog 82 #[.int .i64 x, .pointer (some ⟨b1, 0, none⟩), .pointer (some ⟨b2, 0, none⟩)] w fun e w' => e = .returned (.bool (outside lo hi x)) ∧ w = w' := by
 by_cases h : x < lo
 ·go_enter Try.func82, Try.ntmps82
  go_wp2
  go_ret
  exact ⟨by simp [outside, h], rfl⟩
 ·go_enter Try.func82, Try.ntmps82
  go_wp2
  go_ret
  exact ⟨by simp [outside]; omega, rfl⟩

def AtAll (P : Program) (g : Nat) (lb : Array Value) (p : Int → Bool) (w : World) : Prop :=
 ∀ (x : Int) (q : Nat), Calls P g (#[.int .i64 x] ++ lb) (w.drewN q) fun e w' => e = .returned (.bool (p x)) ∧ w.drewN q = w'

theorem any_take {p : Int → Bool} {xs : List Int} {i : Int} (h0 : 0 ≤ i) (h1 : i < xs.length) : (xs.take (i.toNat + 1)).any p = ((xs.take i.toNat).any p || p (rd xs i)) := by
 obtain ⟨k, rfl⟩ : ∃ k : Nat, i = k := ⟨i.toNat, by omega⟩
 have hk : k < xs.length := by omega
 have : xs.take (k + 1) = xs.take k ++ [rd xs k] := by
  rw [List.take_succ_eq_append_getElem hk]; congr 2; simp [rd, hk]
 simp only [Int.toNat_natCast]; rw [this, List.any_append]; simp

theorem idx_any (g : Nat) (lb : Array Value) (p : Int → Bool) (eg : ∀ args w, (callFunc g args).run Try.prog w = .ok (.enter g args) w) (A : Option Addr) (c : Nat) (xs : List Int) (w : World)
  (hr : Kd.C (Kd.int .i64) w A xs.length xs) (hb : xs.length ≤ 9223372036854775807) (hp : AtAll Try.prog g lb p w) :
  Calls Try.prog 103 #[.slice A xs.length c, .func (.func g) #[] lb] w fun e w' => (∃ n : Int, e = .returned (.int .i64 n) ∧ (decide (0 ≤ n)) = xs.any p) ∧ Drawn0 w w' := by
 have HP : Hid (AtAll Try.prog g lb p w) := hp
 have HR : Hid (Kd.C (Kd.int .i64) w A xs.length xs) := hr
 clear hp hr
 go_enter Try.func103, Try.ntmps103
 go_wp2
 go_loopg [5, 8] xs.length (fun gg _ s8 wr => ∃ (i : Int) (q : Nat), 0 ≤ i ∧ i ≤ xs.length ∧ xs.length - i.toNat ≤ gg ∧ s8 = .int .i64 i ∧ wr = w.drewN q ∧ Hid ((xs.take i.toNat).any p = false))
 case atStart => exact ⟨0, 0, by omega, by omega, by omega, rfl, rfl, rfl⟩
 case round =>
  obtain ⟨i, q, h0, h1, hg, rfl, rfl, hA⟩ := hrel
  by_cases hlt : i < xs.length
  ·obtain ⟨ad, hAd, hcell⟩ := Kd.at_int HR.out i (by omega) (by omega)
   subst hAd
   have HC := HP.out (rd xs i) 
   clear HP
   cases hq : p (rd xs i) with
   | true =>
    rw [hq] at HC
    have HQ : Hid (p (rd xs i) = true) := hq
    clear hq
    go_wp2_with (go_at_fn g; refine (HC _).mono ?_; rintro e w' ⟨rfl, rfl⟩)
    go_ret
    refine ⟨⟨i, rfl, ?_⟩, ⟨_, rfl⟩⟩
    have := any_take (p := p) h0 (i := i) (xs := xs) hlt
    rw [HQ.out, hA.out] at this
    rw [decide_eq_true h0, eq_comm, List.any_eq_true]
    obtain ⟨y, hy, hp⟩ := List.any_eq_true.1 (by rw [this]; rfl : (xs.take (i.toNat + 1)).any p = true)
    exact ⟨y, List.mem_of_mem_take hy, hp⟩
   | false =>
    rw [hq] at HC
    have HQ : Hid (p (rd xs i) = false) := hq
    clear hq
    go_wp2_with (go_at_fn g; refine (HC _).mono ?_; rintro e w' ⟨rfl, rfl⟩)
    go_roundg (xs.length - (i+1).toNat)
    case measure => omega
    case rel =>
     refine ⟨i + 1, _, by omega, by omega, by omega, rfl, rfl, ?_⟩
     have := any_take (p := p) h0 (i := i) (xs := xs) hlt
     rw [HQ.out, hA.out] at this
     show (xs.take (i + 1).toNat).any p = false
     rw [show (i + 1).toNat = i.toNat + 1 by omega, this]; rfl
  ·clear HP
   go_wp2
   go_ret
   refine ⟨⟨-1, rfl, ?_⟩, ⟨_, rfl⟩⟩
   have := hA.out
   rw [List.take_of_length_le (by omega)] at this
   rw [this]; rfl

theorem contains_any (g : Nat) (lb : Array Value) (p : Int → Bool) (eg : ∀ args w, (callFunc g args).run Try.prog w = .ok (.enter g args) w) (A : Option Addr) (c : Nat) (xs : List Int) (w : World)
  (hr : Kd.C (Kd.int .i64) w A xs.length xs) (hb : xs.length ≤ 9223372036854775807) (hp : AtAll Try.prog g lb p w) :
  Calls Try.prog 81 #[.slice A xs.length c, .func (.func g) #[] lb] w fun e w' => e = .returned (.bool (xs.any p)) ∧ Drawn0 w w' := by
 have HP : Hid (AtAll Try.prog g lb p w) := hp
 have HR : Hid (Kd.C (Kd.int .i64) w A xs.length xs) := hr
 clear hp hr
 go_enter Try.func81, Try.ntmps81
 go_wp2_with (go_at_call 103; refine (idx_any g lb p eg A c xs _ HR.out hb HP.out).mono ?_; rintro e w' ⟨⟨n, rfl, hn⟩, hd⟩; have HN := hid hn; have HD := hid hd; clear hn hd)
 go_ret
 exact ⟨by rw [← HN.out]; rfl, HD.out⟩

def mill_within.f (a0 : Int) (a1 : Int) (l2 : List Int) : Option Bool := some (!(l2.any (outside a0 a1)))
theorem mill_within.calls (a0 a1 : Int) (A2 : Option Addr) (c2 : Nat) (l2 : List Int) (r : Bool) (w : World) (hr2 : Kd.C (Kd.int .i64) w A2 l2.length l2) (hc2 : l2.length ≤ c2) (h : mill_within.f a0 a1 l2 = some r) :
  Calls Try.prog 56 #[.int .i64 a0, .int .i64 a1, .slice A2 l2.length c2] w fun e w' => e = .returned (.bool r) ∧ Below w.heap.size w w' := by
 have hb : l2.length ≤ 9223372036854775807 := hr2.2.1
 obtain rfl : (!(l2.any (outside a0 a1))) = r := Option.some.inj h
 have HR := hid hr2
 clear h hr2 hc2
 go_enter Try.func56, Try.ntmps56
 go_wp2_with fail
 refine (contains_any 82 _ (outside a0 a1) (enters_of Try.func82 (by kernel_rfl) rfl) A2 c2 l2 _ ?rd hb ?at_).mono ?_
 case rd => exact Kd.C_below HR.out (((Below.refl _ _).alloc (Nat.le_refl _) _).alloc (by simp) _)
 case at_ => exact fun x q => within_1.calls _ _ a0 a1 x _ (by simp) (by simp)
 rintro e w' ⟨rfl, hd⟩
 have HD := hid hd; clear hd
 go_wp2_with fail
 go_ret
 exact ⟨rfl, (((Below.refl _ _).alloc (Nat.le_refl _) _).alloc (by simp) _).trans (HD.out.below.mono (by simp; omega))⟩
end Go.Proofs.Ytiaiecfnpompcaa.T
namespace Go.Proofs.Ytiaiecfnpompcaa.T
open Go.RowKit Go.Proofs.YtiaiecfnpompcaaW.PrintWords
set_option linter.unusedVariables false
set_option linter.unusedSimpArgs false
def Ev {α : Type} (F : Nat → Option α) (v : α) : Prop := ∃ k0, ∀ k, k0 ≤ k → F k = some v
theorem Ev.of {α : Type} {F : Nat → Option α} {v : α} (h : ∀ k, F k = some v) : Ev F v := ⟨0, fun k _ => h k⟩
theorem Ev.pure {α : Type} (v : α) : Ev (fun _ => some v) v := ⟨0, fun _ _ => rfl⟩
theorem Ev.bind {α β : Type} {F : Nat → Option α} {G : Nat → α → Option β} {v : α} {u : β} (h : Ev F v) (h2 : Ev (fun k => G k v) u) : Ev (fun k => (F k).bind (G k)) u := by
 obtain ⟨a, ha⟩ := h
 obtain ⟨b, hb⟩ := h2
 exact ⟨max a b, fun k hk => by show (F k).bind (G k) = _; rw [ha k (by omega)]; exact hb k (by omega)⟩
theorem Ev.succ {α : Type} {F : Nat → Option α} {v : α} (h : Ev (fun k => F (k + 1)) v) : Ev F v := by
 obtain ⟨a, ha⟩ := h
 exact ⟨a + 1, fun k hk => by obtain ⟨j, rfl⟩ : ∃ j, k = j + 1 := ⟨k - 1, by omega⟩; exact ha j (by omega)⟩
theorem Ev.ite {α : Type} {p : Prop} [Decidable p] {F G : Nat → Option α} {v : α} (h1 : p → Ev F v) (h2 : ¬ p → Ev G v) : Ev (fun k => if p then F k else G k) v := by
 by_cases h : p
 ·simpa [h] using h1 h
 ·simpa [h] using h2 h
theorem Ev.ex {α : Type} {F : Nat → Option α} {v : α} (h : Ev F v) : ∃ k, F k = some v := by obtain ⟨a, ha⟩ := h; exact ⟨a, ha a (Nat.le_refl _)⟩
theorem wrap64_id {x : Int} (h0 : -9223372036854775808 ≤ x) (h1 : x ≤ 9223372036854775807) : wrap64 x = x := by unfold wrap64; omega

theorem within_one (a b x : Int) : mill_within.f a b [x] = some (decide (a ≤ x ∧ x ≤ b)) := by
 unfold mill_within.f
 congr 1
 simp only [List.any_cons, List.any_nil, Bool.or_false, outside]
 by_cases h1 : x < a
 ·have : ¬ (a ≤ x ∧ x ≤ b) := by omega
  simp [h1, this]
 ·by_cases h2 : b < x
  ·have : ¬ (a ≤ x ∧ x ≤ b) := by omega
   simp [h2, this]
  ·have : a ≤ x ∧ x ≤ b := by omega
   simp [h1, h2, this]
theorem within_two (a b x y : Int) : mill_within.f a b [x, y] = some (decide ((a ≤ x ∧ x ≤ b) ∧ a ≤ y ∧ y ≤ b)) := by
 have h1 := within_one a b x
 have h2 := within_one a b y
 unfold mill_within.f at *
 simp only [Option.some.injEq, List.any_cons, List.any_nil, Bool.or_false] at *
 rw [Bool.not_or, h1, h2]
 by_cases g1 : a ≤ x ∧ x ≤ b <;> by_cases g2 : a ≤ y ∧ y ≤ b <;> simp [g1, g2]
def okP (p : S46) : Prop := (1 ≤ p.f0 ∧ p.f0 ≤ 100000) ∧ 1 ≤ p.f1 ∧ p.f1 ≤ 10000000
instance (p : S46) : Decidable (okP p) := by unfold okP; infer_instance
end Go.Proofs.Ytiaiecfnpompcaa.T
namespace Go.Proofs.Ytiaiecfnpompcaa.T
open Go.RowKit Go.Proofs.YtiaiecfnpompcaaW.PrintWords Go.Proofs.YtiaiecfnpompcaaW.PrintLast Go.Proofs.YtiaiecfnpompcaaW.PrintMore
attribute [local go_sem] max2_int min2_int max_two min_two max_three min_three max_four min_four   -- for this text's walks alone
set_option linter.unusedVariables false
set_option linter.unusedSimpArgs false
attribute [local go_sem] wl_100001

def mill_isNumber.f (l0 : List Int) : Option (Bool) := (mill_within.f 0 1000 l0).bind fun t151 => (some t151)
set_option maxHeartbeats 8000000 in
set_option maxRecDepth 100000 in
theorem mill_isNumber.calls (A0 : Option Addr) (c0 : Nat) (l0 : List Int) (r : Bool) (w : World) (hr0 : Kd.C (Kd.int .i64) w A0 l0.length l0) (hc0 : l0.length ≤ c0) (h : mill_isNumber.f l0 = some r) :
  Calls Try.prog 90 #[.slice A0 l0.length c0] w fun e w' => e = .returned (.bool r) ∧ Below w.heap.size w w' := by
 have HR0 := Aside0.mk hr0
 have HC0 := Aside0.mk hc0
 clear hr0 hc0
 have HB := Aside0.mk (Below.refl w.heap.size w)
 have H : ((mill_within.f 0 1000 l0).bind fun t151 => (some t151)) = some r := h
 clear h
 replace H := Option.bind_eq_some_iff.mp H
 obtain ⟨t151, A20, H⟩ := H; (try dsimp only at H)
 have A2 := Aside0.mk A20
 clear A20
 obtain rfl := Option.some.inj H
 go_enter Try.func90, Try.ntmps90
 go_wp2_with (first | ((with_reducible refine gate_callee (f := 56) rfl ?_); refine goesL_ (some 4) rfl rfl Try.func56 (by kernel_rfl) rfl #[.int .i64 0, .int .i64 1000, .slice A0 l0.length c0] rfl (by (try simp only [List.map_toArray, List.map_cons, List.map_nil]); first | done | rfl | (simp only [List.length_drop, List.length_take]; rfl)) ?_; (with_reducible refine (mill_within.calls 0 1000 _ _ l0 t151 _ ?side1 ?side2 A2.out).mono ?_); (case side1 => repeat (first | exact HR0.out | (with_reducible refine Kd.C_alloc ?_ _) | (with_reducible refine Kd.C_drewN ?_ _) | (with_reducible refine Kd.C_drew ?_))); (case side2 => exact HC0.out); rintro e w3 ⟨rfl, hb⟩; refine ⟨_, rfl, ?_⟩; replace HB := Aside0.mk (below_step HB.out hb); (try clear hb); (try clear hb2); (try clear hk); (try clear hi)))
 go_ret
 exact ⟨by first | rfl | (simp [errW_none, errW_some] <;> rfl) | (simp [*, errW_none, errW_some] <;> rfl), by repeat (first | (with_reducible first | exact HB.out | apply below_alloc | apply pw_below_drewN | apply below_drew1) | exact HB.out)⟩

end Go.Proofs.Ytiaiecfnpompcaa.T
namespace Go.Proofs.Ytiaiecfnpompcaa.T
open Go.RowKit Go.Proofs.YtiaiecfnpompcaaW.PrintWords Go.Proofs.YtiaiecfnpompcaaW.PrintLast Go.Proofs.YtiaiecfnpompcaaW.PrintMore
attribute [local go_sem] max2_int min2_int max_two min_two max_three min_three max_four min_four   -- for this text's walks alone
set_option linter.unusedVariables false
set_option linter.unusedSimpArgs false
attribute [local go_sem] wl_100001

def mill_areHours.f (a0 : Int) (a1 : Int) : Option (Bool) := (mill_within.f 0 100000 (([a0, a1] : List Int))).bind fun t155 => (if t155 = true then (some (decide (a0 ≤ a1))) else (some false))
set_option maxHeartbeats 8000000 in
set_option maxRecDepth 100000 in
theorem mill_areHours.calls (a0 : Int) (a1 : Int) (r : Bool) (w : World) (h : mill_areHours.f a0 a1 = some r) :
  Calls Try.prog 91 #[.int .i64 a0, .int .i64 a1] w fun e w' => e = .returned (.bool r) ∧ Below w.heap.size w w' := by
 have HB := Aside0.mk (Below.refl w.heap.size w)
 have H : ((mill_within.f 0 100000 (([a0, a1] : List Int))).bind fun t155 => (if t155 = true then (some (decide (a0 ≤ a1))) else (some false))) = some r := h
 clear h
 obtain ⟨y152, hy152⟩ : ∃ y_ : List Int, y_ = (([a0, a1] : List Int)) := ⟨_, rfl⟩
 replace H : ((mill_within.f 0 100000 y152).bind fun t155 => (if t155 = true then (some (decide (a0 ≤ a1))) else (some false))) = some r := by first | (rw [hy152]; with_reducible exact H) | (have H2_ := (Option.bind_some _ _).symm.trans H; rw [hy152]; with_reducible exact H2_) | (have H2_ := (Option.bind_some _ _).symm.trans H; with_reducible exact H2_) | with_reducible exact H | (rw [hy152]; exact H) | exact H
 have Ny152 := Aside0.mk hy152
 clear hy152
 replace H := Option.bind_eq_some_iff.mp H
 obtain ⟨t155, A30, H⟩ := H; (try dsimp only at H)
 have A3 := Aside0.mk A30
 clear A30
 by_cases c4 : t155 = true
 ·subst c4
  have H1 : (some (decide (a0 ≤ a1))) = some r := by rw [if_pos rfl] at H; exact H
  clear H
  have H := H1
  clear H1
  obtain rfl := Option.some.inj H
  go_enter Try.func91, Try.ntmps91
  go_wp2_with (first | ((with_reducible refine gate_dst (N := 7) rfl ?_); refine Kd.R_lit (Kd.int .i64) _ 3 ?hg (N := 7) ?hd (xs := ([a0, a1] : List Int)) (inner := [.int .i64 a0, .int .i64 a1]) (ok := fun _ => True) (okp := fun _ => True) ?hr ?hp (fun _ hk => hk) trivial (Below.refl _ _) (Nat.le_refl _) (by simp) ?_; (case hd => rfl); (case hg => rfl); (case hr => first | (go_simp; done) | (go_simp; rfl)); (case hp => exact (Reps.one (show Kd.M (Kd.int .i64) _ _ _ a0 [.int .i64 a0] from rfl) (Reps.one (show Kd.M (Kd.int .i64) _ _ _ a1 [.int .i64 a1] from rfl) (Reps.none _ _)))); intro v153 w5 ho6 hb hg_ hnew_; clear hg_ hnew_; (first | rw [← Ny152.out] at ho6 | (simp only [Int.reduceToNat] at ho6; rw [← Ny152.out] at ho6)); have HO154 := Aside0.mk (Kd.R_lower ho6 (below_size HB.out)); replace HB := Aside0.mk (below_step HB.out hb); clear hb ho6; obtain ⟨Ao7, co7, eo7⟩ := Kd.R_slice HO154.out; subst eo7) | ((with_reducible refine gate_callee (f := 56) rfl ?_); refine goesL_ (some 8) rfl rfl Try.func56 (by kernel_rfl) rfl #[.int .i64 0, .int .i64 100000, .slice Ao7 y152.length co7] rfl (by (try simp only [List.map_toArray, List.map_cons, List.map_nil]); first | done | rfl | (simp only [List.length_drop, List.length_take]; rfl)) ?_; (with_reducible refine (mill_within.calls 0 100000 _ _ y152 true _ ?side1 ?side2 A3.out).mono ?_); (case side1 => repeat (first | exact (Kd.R_reads' HO154.out).2.2 | (with_reducible refine Kd.C_alloc ?_ _) | (with_reducible refine Kd.C_drewN ?_ _) | (with_reducible refine Kd.C_drew ?_))); (case side2 => exact (Kd.R_reads' HO154.out).2.1); rintro e w8 ⟨rfl, hb⟩; refine ⟨_, rfl, ?_⟩; replace HO154 := Aside0.mk (Kd.R_below (by (with_reducible repeat (first | apply Kd.R_alloc | apply Kd.R_drewN | apply Kd.R_drew)); exact HO154.out) hb); replace HB := Aside0.mk (below_step HB.out hb); (try clear hb); (try clear hb2); (try clear hk); (try clear hi)))
  go_ret
  exact ⟨by first | rfl | (simp [errW_none, errW_some] <;> rfl) | (simp [*, errW_none, errW_some] <;> rfl), by repeat (first | (with_reducible first | exact HB.out | apply below_alloc | apply pw_below_drewN | apply below_drew1) | exact HB.out)⟩
 ·replace c4 := Bool.eq_false_iff.mpr c4
  subst c4
  have H1 : (some false) = some r := by rw [if_neg (show ¬ (false = true) by decide)] at H; exact H
  clear H
  have H := H1
  clear H1
  obtain rfl := Option.some.inj H
  go_enter Try.func91, Try.ntmps91
  go_wp2_with (first | ((with_reducible refine gate_dst (N := 7) rfl ?_); refine Kd.R_lit (Kd.int .i64) _ 3 ?hg (N := 7) ?hd (xs := ([a0, a1] : List Int)) (inner := [.int .i64 a0, .int .i64 a1]) (ok := fun _ => True) (okp := fun _ => True) ?hr ?hp (fun _ hk => hk) trivial (Below.refl _ _) (Nat.le_refl _) (by simp) ?_; (case hd => rfl); (case hg => rfl); (case hr => first | (go_simp; done) | (go_simp; rfl)); (case hp => exact (Reps.one (show Kd.M (Kd.int .i64) _ _ _ a0 [.int .i64 a0] from rfl) (Reps.one (show Kd.M (Kd.int .i64) _ _ _ a1 [.int .i64 a1] from rfl) (Reps.none _ _)))); intro v153 w9 ho10 hb hg_ hnew_; clear hg_ hnew_; (first | rw [← Ny152.out] at ho10 | (simp only [Int.reduceToNat] at ho10; rw [← Ny152.out] at ho10)); have HO154 := Aside0.mk (Kd.R_lower ho10 (below_size HB.out)); replace HB := Aside0.mk (below_step HB.out hb); clear hb ho10; obtain ⟨Ao11, co11, eo11⟩ := Kd.R_slice HO154.out; subst eo11) | ((with_reducible refine gate_callee (f := 56) rfl ?_); refine goesL_ (some 8) rfl rfl Try.func56 (by kernel_rfl) rfl #[.int .i64 0, .int .i64 100000, .slice Ao11 y152.length co11] rfl (by (try simp only [List.map_toArray, List.map_cons, List.map_nil]); first | done | rfl | (simp only [List.length_drop, List.length_take]; rfl)) ?_; (with_reducible refine (mill_within.calls 0 100000 _ _ y152 false _ ?side1 ?side2 A3.out).mono ?_); (case side1 => repeat (first | exact (Kd.R_reads' HO154.out).2.2 | (with_reducible refine Kd.C_alloc ?_ _) | (with_reducible refine Kd.C_drewN ?_ _) | (with_reducible refine Kd.C_drew ?_))); (case side2 => exact (Kd.R_reads' HO154.out).2.1); rintro e w12 ⟨rfl, hb⟩; refine ⟨_, rfl, ?_⟩; replace HO154 := Aside0.mk (Kd.R_below (by (with_reducible repeat (first | apply Kd.R_alloc | apply Kd.R_drewN | apply Kd.R_drew)); exact HO154.out) hb); replace HB := Aside0.mk (below_step HB.out hb); (try clear hb); (try clear hb2); (try clear hk); (try clear hi)))
  go_ret
  exact ⟨by first | rfl | (simp [errW_none, errW_some] <;> rfl) | (simp [*, errW_none, errW_some] <;> rfl), by repeat (first | (with_reducible first | exact HB.out | apply below_alloc | apply pw_below_drewN | apply below_drew1) | exact HB.out)⟩

end Go.Proofs.Ytiaiecfnpompcaa.T
